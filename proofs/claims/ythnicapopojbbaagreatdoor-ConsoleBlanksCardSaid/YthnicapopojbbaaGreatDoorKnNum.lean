import Derived.Test.YthnicapopojbbaaGreatDoorKnRun
import Derived.Test.YthnicapopojbbaaGreatDoorKnLay2
import Derived.Shelf.Strings.Prefix
import Derived.Shelf.Strconv.Atoi
import Derived.Lib.SmallJoins
import Derived.BigGuardPart
namespace Go.Kn
open Go Go.Conc Go.Proofs Go.RowKit
set_option linter.unusedVariables false
set_option linter.unusedSimpArgs false
def isDig (b : UInt8) : Bool := decide (48 ≤ b.toNat) && decide (b.toNat ≤ 57)
def trimD (w : ByteArray) : List UInt8 := Lib.trimPrefix w.data.toList [45]
/-- What a word comes to. -/
def numOf (w : ByteArray) : Option Int := if trimD w = [] ∨ 10 < (trimD w).length ∨ (trimD w).all isDig = false then none else Lib.atoi w.data.toList
theorem decFrom_some (l : List UInt8) (h : l.all isDig = true) : ∀ acc, ∃ n, Lib.decFrom acc l = some n := by
  induction l with
  | nil => exact fun acc => ⟨acc, rfl⟩
  | cons b r ih =>
    intro acc
    rw [List.all_cons, Bool.and_eq_true] at h
    have hb : 48 ≤ b.toNat ∧ b.toNat ≤ 57 := by simpa [isDig] using h.1
    simp only [Lib.decFrom, Lib.digitVal, if_pos hb]
    exact ih h.2 _
theorem numOf_some (w : ByteArray) (h1 : trimD w ≠ []) (h2 : (trimD w).length ≤ 10) (h3 : (trimD w).all isDig = true) : ∃ n, Lib.atoi w.data.toList = some n ∧ numOf w = some n ∧ w.size ≤ 11 := by
  have hn : numOf w = Lib.atoi w.data.toList := by
    unfold numOf
    rw [if_neg]
    rintro (h | h | h)
    · exact h1 h
    · omega
    · rw [h3] at h; cases h
  rw [hn]
  have hsz : w.size = w.data.toList.length := by simp
  rw [hsz]
  unfold trimD Lib.trimPrefix at h1 h2 h3
  generalize w.data.toList = l at h1 h2 h3 ⊢
  cases l with
  | nil => simp [Lib.hasPrefix] at h1
  | cons b r =>
    by_cases hb : b = 45
    · subst hb
      have hp : Lib.hasPrefix (45 :: r) [45] = true := by simp [Lib.hasPrefix]
      rw [if_pos hp] at h1 h2 h3
      simp only [List.length_cons, List.length_nil, List.drop_succ_cons, List.drop_zero] at h1 h2 h3
      obtain ⟨n, hn⟩ := decFrom_some r h3 0
      refine ⟨-(n : Int), ?_, ?_, by simp; omega⟩ <;>
      · have : r.isEmpty = false := by cases r <;> simp_all
        simp [Lib.atoi, Lib.decNat, this, hn]
    · have hp : ¬ Lib.hasPrefix (b :: r) [45] = true := by simp [Lib.hasPrefix]; exact fun h => hb h.symm
      rw [if_neg hp] at h1 h2 h3
      obtain ⟨n, hn⟩ := decFrom_some (b :: r) h3 0
      have hd : isDig b = true := by rw [List.all_cons, Bool.and_eq_true] at h3; exact h3.1
      have h43 : b ≠ 43 := by rintro rfl; revert hd; decide
      refine ⟨(n : Int), ?_, ?_, by simp at h2 ⊢; omega⟩ <;>
      simp [Lib.atoi, Lib.decNat, hb, h43, hn]
theorem dig_next (d : ByteArray) (i : Nat) (h : i < d.size) (hall : ∀ x ∈ d.data.toList.take i, isDig x = true) (h1 : isDig d[i] = true) : ∀ x ∈ d.data.toList.take (i + 1), isDig x = true := by
  have hl : i < d.data.toList.length := by simpa using h
  intro x hx
  rw [List.take_succ_eq_append_getElem hl] at hx
  rcases List.mem_append.1 hx with hx | hx
  · exact hall x hx
  · rw [List.mem_singleton] at hx
    rw [hx]; exact h1
theorem dig_bad (d : ByteArray) (i : Nat) (h : i < d.size) (h1 : isDig d[i] = false) : d.data.toList.all isDig = false := by
  have hl : i < d.data.toList.length := by simpa using h
  cases hq : d.data.toList.all isDig
  · rfl
  · have := List.all_eq_true.1 hq d.data.toList[i] (List.getElem_mem hl)
    exact absurd (h1.symm.trans this) (by simp)
theorem dig_all (d : ByteArray) (i : Nat) (h : ¬ i < d.size) (hall : ∀ x ∈ d.data.toList.take i, isDig x = true) : d.data.toList.all isDig = true := by
  rw [List.take_of_length_le (by simpa using h)] at hall
  exact List.all_eq_true.2 hall
theorem kept_row {w w' : World} {base : Nat} {e : TypeId} {size : Nat} {v : Value} {n : Nat} {xs : List Value} (h : w.ownsRow base e size v n xs) (hb : Below w.heap.size w w') : w'.ownsRow base e size v n xs := by
  refine h.kept (row := none) ⟨hb.os, hb.tape, hb.output, hb.size, fun k hk _ => hb.block k hk⟩ ?_
  cases v.ownBlock
  · exact .inl rfl
  · exact .inr (by simp)
/-- What words come to. -/
def numsOf (ws : List ByteArray) : Option (List Int) := ws.mapM numOf
theorem numsOf_snoc (ws : List ByteArray) (j : Nat) (h : j < ws.length) (ns : List Int) (n : Int) (h1 : numsOf (ws.take j) = some ns) (h2 : numOf ws[j] = some n) : numsOf (ws.take (j + 1)) = some (ns ++ [n]) := by
  rw [List.take_succ_eq_append_getElem h]
  unfold numsOf at h1 ⊢
  rw [List.mapM_append]
  simp [h1, h2]
theorem numsOf_none (ws : List ByteArray) (j : Nat) (h : j < ws.length) (h2 : numOf ws[j] = none) : numsOf ws = none := by
  unfold numsOf
  have e : ws = ws.take j ++ ws[j] :: ws.drop (j + 1) := by
    rw [← List.drop_eq_getElem_cons h, List.take_append_drop]
  generalize hd : ws.drop (j + 1) = dd at e
  generalize ht : ws.take j = tt at e
  generalize hw : ws[j] = w0 at e h2
  clear hd ht hw h
  subst e
  rw [List.mapM_append, List.mapM_cons]
  simp only [h2]
  cases tt.mapM numOf <;> rfl
/-- What numbers answers. -/
def NumAns (w : World) (ws : List ByteArray) (e : Ending) (w' : World) : Prop :=
  Below w.heap.size w w' ∧ ((numsOf ws = none ∧ e = .returned (.tuple #[.slice none 0 0, .bool false])) ∨
    ∃ ns v, numsOf ws = some ns ∧ e = .returned (.tuple #[v, .bool true]) ∧ w'.ownsRow w.heap.size 3 1 v ns.length (ns.map (Value.int .i64)))
structure Nums (w : World) (ws : List ByteArray) (j : Nat) (v : Value) (W : World) : Prop where
  below : Below w.heap.size w W
  row : ∃ ns, numsOf (ws.take j) = some ns ∧ ns.length = j ∧ W.ownsRow w.heap.size 3 1 v j (ns.map (Value.int .i64))
def at13 (a : Act) : Nat := match a.tmps[13]? with | some (Value.int _ k) => k.toNat | _ => 0
def at28 (a : Act) : Nat := match a.tmps[28]? with | some (Value.int _ k) => k.toNat | _ => 0
set_option maxHeartbeats 1000000 in
set_option maxRecDepth 100000 in
theorem numbers_ok (ws : List ByteArray) (A off cap : Nat) (w : World) (hA : A < w.heap.size) (hlen : ws.length ≤ 1000000) (hwl : ∀ (i : Nat) (h : i < ws.length), ws[i].size ≤ 1000000) (hcell : ∀ (i : Nat) (h : i < ws.length), w.cell? ⟨A, off + i, none⟩ = some (.string ws[i])) :
    Calls Tryz.prog 23 #[.slice (some ⟨A, off, none⟩) ws.length cap] w (NumAns w ws) := by
  have hinfo3 : (Tryz.prog.info? 3).map (fun i => (i.zero, i.size, i.bytes)) = some (some (.int .i64 0), 1, 8) := by kernel_rfl
  obtain ⟨i3, hi3, hz3, hs3, hb3⟩ := info_parts hinfo3
  refine calls_of_wpN Tryz.func23 rfl ?_
  simp only [Tryz.ntmps23, List.size_toArray, List.length_cons, List.length_nil, Nat.reduceAdd, Nat.reduceSub, Array.replicate_succ,
     Array.replicate_zero, List.push_toArray, List.append_toArray, List.nil_append, List.cons_append]
  refine wpN_seq (of_wp ?_)
  go_wp2
  refine wpN_scope ?_
  refine wpN_seq (of_wp ?_)
  go_wp2
  refine wpN_seq (of_wp (wp_label ?_))
  refine wpN_seq ?_
  refine wpN_seq (of_wp ?_)
  go_wp2
  have h0 : Nums w ws 0 (.slice none 0 0) w := ⟨Below.refl _ w, [], rfl, rfl, World.ownsRow_nil _ _ _ _⟩
  refine wpN_block (wpN_loop (fun a W => ∃ (j : Nat) (v u1 u5 u6 u7 u8 u9 u10 u14 u15 u16 u17 u18 u19 u20 u21 u22 u23 u24 u25 u26 u27 u28 u29 u30 u31 u32 u33 u34 u35 u36 u37 u38 u39 u40 u41 u42 u43 u44 u45 u46 u47 u48 u49 u50 u51 u52 u53 u54 : Value), j ≤ ws.length ∧ Nums w ws j v W ∧ a = { tmps := #[.slice (some ⟨A, off, none⟩) ws.length cap, u1, .slice none 0 0, .bool false, v, u5, u6, u7, u8, u9, u10, .slice (some ⟨A, off, none⟩) ws.length cap, .int .i64 (ws.length : Nat), .int .i64 (j : Nat), u14, u15, u16, u17, u18, u19, u20, u21, u22, u23, u24, u25, u26, u27, u28, u29, u30, u31, u32, u33, u34, u35, u36, u37, u38, u39, u40, u41, u42, u43, u44, u45, u46, u47, u48, u49, u50, u51, u52, u53, u54], defers := [] }) (fun a _ => ws.length - at13 a) ?_ ?_)
  · exact ⟨0, _, _, _, _, _, _, _, _, _, _, _, _, _, _, _, _, _, _, _, _, _, _, _, _, _, _, _, _, _, _, _, _, _, _, _, _, _, _, _, _, _, _, _, _, _, _, _, _, _, Nat.zero_le _, h0, rfl⟩
  · rintro a W ⟨j, v, u1, u5, u6, u7, u8, u9, u10, u14, u15, u16, u17, u18, u19, u20, u21, u22, u23, u24, u25, u26, u27, u28, u29, u30, u31, u32, u33, u34, u35, u36, u37, u38, u39, u40, u41, u42, u43, u44, u45, u46, u47, u48, u49, u50, u51, u52, u53, u54, hj, hS, rfl⟩
    refine wpN_seq (of_wp ?_)
    go_wp2
    refine wpN_seq (of_wp ?_)
    go_wp2
    · rename_i hlt
      have hj' : j < ws.length := by omega
      have hc := hcell j hj'
      have hc2 : W.cell? ⟨A, off + j, none⟩ = some (.string ws[j]) := (hS.below.cell hA).trans hc
      have htr : ∀ V, Calls Tryz.prog 35 #[.string ws[j], .string ⟨#[45]⟩] V fun e w' => e = .returned (.string ⟨(trimD ws[j]).toArray⟩) ∧ w' = V := fun V => Any.strings_TrimPrefix lays101 ws[j] ⟨#[45]⟩ V
      have hat : ∀ n, Lib.atoi (ws[j]).data.toList = some n → (ws[j]).size ≤ 11 → ∀ V, Calls Tryz.prog 36 #[.string ws[j]] V fun e w' => e = .returned (.tuple #[.int .i64 n, .nilIface]) ∧ Below V.heap.size V w' := fun n hn hs V => (Any.strconv_Atoi lays172 ws[j] n (by omega) hn V).mono fun e w' h => ⟨h.1, h.2.elim fun t h => h ▸ Go.Joins.below_bytesWorld _ V 5 t (Nat.le_refl _)⟩
      have hwd := hwl j hj'
      have hno := numsOf_none ws j hj'
      have hyes := fun ns n => numsOf_snoc ws j hj' ns n
      have hns := numOf_some ws[j]
      have hnn : trimD ws[j] = [] ∨ 10 < (trimD ws[j]).length ∨ (trimD ws[j]).all isDig = false → numOf ws[j] = none := fun h => by unfold numOf; rw [if_pos h]
      generalize ws[j] = wd at *
      obtain ⟨d, hd⟩ : ∃ d : ByteArray, d = ⟨(trimD wd).toArray⟩ := ⟨_, rfl⟩
      have hdl : trimD wd = d.data.toList := by rw [hd]
      rw [← hd] at htr
      rw [hdl] at hns hnn
      clear hd
      have hdz : d.size ≤ 1000000 := by
        have h1 : d.size = (trimD wd).length := by rw [hdl]; simp
        have h2 : (trimD wd).length ≤ wd.size := by
          have : wd.size = wd.data.toList.length := by simp
          rw [this]; unfold trimD Lib.trimPrefix
          split
          · simp
          · exact Nat.le_refl _
        omega
      clear hwl
      have hdl1 : 10 < d.size → 10 < d.data.toList.length := fun h => by simpa using h
      have hdl2 : ¬ 10 < d.size → d.data.toList.length ≤ 10 := fun h => by simpa using h
      refine wpN_seq (wpN_block ?_)
      refine wpN_seq (of_wp ?_)
      go_wp2
      refine wpN_seq (of_wp ?_)
      go_wp2_with (go_at_call 35; refine (htr _).mono ?_; rintro e w2 ⟨rfl, hw2⟩; subst hw2)
      have hfail : numOf wd = none → ∀ V, Below w.heap.size w V → NumAns w ws (.returned (.tuple #[.slice none 0 0, .bool false])) V := fun h V hV => ⟨hV, .inl ⟨hno h, rfl⟩⟩
      have hS2 := hS
      obtain ⟨hB, hrow⟩ := hS
      clear hno hc hc2
      refine wpN_seq (wpN_seq (of_wp ?_))
      by_cases hd0 : d = ⟨#[]⟩
      · subst hd0
        go_wp2
        refine of_wp ?_
        go_wp2
        simp only [Exit.noGoto_ret]
        go_ret2
        exact hfail (hnn (.inl trivial)) _ hB
      have hdne : d.data.toList ≠ [] := fun h => hd0 (by cases d; simp at h; rw [h])
      have hdb : d.toList.isEmpty = false := by rw [ByteArray.toList_eq]; cases hq : d.data.toList; exact absurd hq hdne; rfl
      go_wp2
      by_cases hd10 : 10 < d.size
      · refine wpN_cond (t := true) (by simp [Act.eval]; first | exact hd10 | omega) ?_
        refine of_wp ?_
        go_wp2
        simp only [Exit.noGoto_ret]
        go_ret2
        exact hfail (hnn (.inr (.inl (hdl1 hd10)))) _ hB
      refine wpN_cond (t := false) (by simp [Act.eval]; first | exact Nat.le_of_not_lt hd10 | omega) ?_
      refine of_wp ?_
      go_wp2
      refine wpN_seq ?_
      refine wpN_seq (of_wp ?_)
      go_wp2
      refine wpN_block (wpN_loop (fun a V => ∃ (i : Nat) (y1 y5 y8 y9 y10 y14 y15 y16 y17 y18 y19 y20 y21 y22 y23 y24 y25 y29 y30 y31 y32 y33 y34 y35 y36 y37 y38 y39 y40 y41 y42 y43 y44 y45 y46 y47 y48 y49 y50 y51 y52 y53 y54 : Value), i ≤ d.size ∧ (∀ x ∈ d.data.toList.take i, isDig x = true) ∧ V = w2 ∧ a = { tmps := #[.slice (some ⟨A, off, none⟩) ws.length cap, y1, .slice none 0 0, .bool false, v, y5, .string wd, .string d, y8, y9, y10, .slice (some ⟨A, off, none⟩) ws.length cap, .int .i64 (ws.length : Nat), .int .i64 (j : Nat), y14, y15, y16, y17, y18, y19, y20, y21, y22, y23, y24, y25, .string d, .int .i64 (d.size : Nat), .int .i64 (i : Nat), y29, y30, y31, y32, y33, y34, y35, y36, y37, y38, y39, y40, y41, y42, y43, y44, y45, y46, y47, y48, y49, y50, y51, y52, y53, y54], defers := [] }) (fun a _ => d.size - at28 a) ?_ ?_)
      · exact ⟨0, _, _, _, _, _, _, _, _, _, _, _, _, _, _, _, _, _, _, _, _, _, _, _, _, _, _, _, _, _, _, _, _, _, _, _, _, _, _, _, _, _, _, _, Nat.zero_le _, by simp, rfl, rfl⟩
      · rintro a V ⟨i, y1, y5, y8, y9, y10, y14, y15, y16, y17, y18, y19, y20, y21, y22, y23, y24, y25, y29, y30, y31, y32, y33, y34, y35, y36, y37, y38, y39, y40, y41, y42, y43, y44, y45, y46, y47, y48, y49, y50, y51, y52, y53, y54, hi, hall, hV, rfl⟩
        subst hV
        refine wpN_seq (of_wp ?_)
        go_wp2
        refine wpN_seq (of_wp ?_)
        go_wp2
        · rename_i hlt2
          have hi' : i < d.size := by omega
          refine wpN_seq (wpN_block ?_)
          refine wpN_seq (of_wp ?_)
          go_wp2
          refine wpN_seq ?_
          refine of_wp ?_
          go_wp2
          · rename_i hc1
            refine wpN_cond (t := true) (by simp [Act.eval]; try omega) ?_
            rw [if_pos rfl]
            refine of_wp ?_
            go_wp2
            simp only [Exit.noGoto_ret]
            go_ret2
            exact hfail (hnn (.inr (.inr (dig_bad d i hi' (by simp only [isDig, Bool.and_eq_false_iff, decide_eq_false_iff_not]; omega))))) _ hB
          · rename_i hc1
            by_cases hc2 : 57 < d[i].toNat
            · skip
              refine wpN_cond (t := true) (by simp [Act.eval]; try omega) ?_
              rw [if_pos rfl]
              refine of_wp ?_
              go_wp2
              simp only [Exit.noGoto_ret]
              go_ret2
              exact hfail (hnn (.inr (.inr (dig_bad d i hi' (by simp only [isDig, Bool.and_eq_false_iff, decide_eq_false_iff_not]; omega))))) _ hB
            · refine wpN_cond (t := false) (by simp [Act.eval]; try omega) ?_
              rw [if_neg (by simp)]
              refine of_wp ?_
              go_wp2
              refine of_wp ?_
              go_wp2
              exact ⟨⟨i + 1, by omega, dig_next d i hi' hall (by simp only [isDig, Bool.and_eq_true, decide_eq_true_eq]; omega), by trivial, _, _, _, _, _, _, _, _, _, _, _, _, _, _, _, _, _, _, _, _, _, _, _, _, _, _, _, _, _, _, _, _, _, _, _, _, _, _, _, _, _, _, _, rfl⟩, by simp [at28]; omega⟩
        · rename_i hge
          have hge' : ¬ i < d.size := by omega
          obtain ⟨n, hn1, hn2, hn3⟩ := hns hdne (hdl2 hd10) (dig_all d i hge' hall)
          refine wpN_seq (of_wp ?_)
          go_wp2_with (go_at_call 36; refine (hat n hn1 hn3 _).mono ?_; rintro e W3 ⟨rfl, hb4⟩)
          obtain ⟨ns, hr1, hr2, hown⟩ := hrow
          have hown3 := kept_row hown hb4
          have hVs := hB.size
          have hV3 := hb4.size
          refine wpN_seq (wpN_seq (of_wp ?_))
          go_wp2
          refine of_wp ?_
          go_wp2
          refine wpN_seq (of_wp ?_)
          go_wp2_with (at_builtin; go_loud (refine wpList_append_own _ rfl _ _ 58 rfl w.heap.size 3 i3 (.int .i64 0) 1 8 Tryz.underlying58 hi3 hz3 hs3 hb3 rfl (by decide) _ _ _ rfl (hown3.alloc _) ⟨W3.heap.size, 0, none⟩ 1 1 [.int .i64 n] rfl rfl ?c1 ?c2 ?c3 ?c4 ?c5 ?_))
          case c1 =>
            intro k u hk
            match k, hk with
            | 0, hk => simp at hk; subst hk; simp [Addr.add]
          case c2 => intro u hu; simp at hu; subst hu; rfl
          case c3 => unfold maxLen; omega
          case c4 => omega
          case c5 => simp; omega
          intro v' W4 hown' hgrow _
          have hb5 : Below w.heap.size w W4 := by
            refine ((hB.trans (hb4.mono hVs)).alloc (by omega) _).grown hgrow (by simp; omega) fun k hk => ?_
            exact (hown3.lt k hk).1
          clear hgrow hown3 hb4 hown
          go_wp2
          refine of_wp ?_
          go_wp2
          refine of_wp ?_
          go_wp2

          exact ⟨⟨j + 1, v', _, _, _, _, _, _, _, _, _, _, _, _, _, _, _, _, _, _, _, _, _, _, _, _, _, _, _, _, _, _, _, _, _, _, _, _, _, _, _, _, _, _, _, _, _, _, _, _, by omega, ⟨hb5, ns ++ [n], hyes ns n hr1 hn2, by simp [hr2], by rw [List.map_append]; exact hown'⟩, rfl⟩, by simp [at13]; omega⟩
    · refine of_wp ?_
      go_wp2
      simp only [Exit.noGoto_ret]
      go_ret2
      obtain ⟨ns, hr1, hr2, hown⟩ := hS.row
      rw [List.take_of_length_le (by omega)] at hr1
      refine ⟨hS.below, .inr ⟨ns, v, hr1, rfl, ?_⟩⟩
      rw [hr2]; exact hown
end Go.Kn
