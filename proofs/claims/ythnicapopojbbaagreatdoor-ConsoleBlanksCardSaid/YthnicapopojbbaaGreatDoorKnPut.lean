import Derived.Test.YthnicapopojbbaaGreatDoorKnNum
import Derived.Test.YthnicapopojbbaaGreatDoorKnHex
namespace Go.Kn
open Go Go.Conc Go.Proofs Go.RowKit
set_option linter.unusedVariables false
set_option linter.unusedSimpArgs false

theorem fits_ok (x : Int) (h1 : -9007199254740992 ≤ x) (h2 : x ≤ 9007199254740992) (w : World) : Calls Tryz.prog 15 #[.int .i64 x] w fun e w' => e = .returned (.bool true) ∧ w' = w := by
  go_enter Tryz.func15, Tryz.ntmps15
  go_wp2
  go_ret
  exact ⟨rfl, rfl⟩
def b0 (q : Nat) : UInt8 := UInt8.ofNat q
def b1 (q : Nat) : UInt8 := UInt8.ofNat (q % 128 + 128)
def putF : Nat → Nat → List UInt8
  | 0, _ => []
  | f + 1, q => if q < 128 then [b0 q] else b1 q :: putF f (q / 128)
/-- What a number's bytes are. -/
def zig (x : Int) : Nat := if x < 0 then (-2 * x - 1).toNat else (2 * x).toNat
def putS (x : Int) : ByteArray := ⟨(putF 10 (zig x)).toArray⟩
set_option maxRecDepth 100000 in
theorem or_all : ∀ a : Fin 256, (a.1 ||| 128) = a.1 % 128 + 128 := by decide
theorem or128 (q : Nat) : bits BinOp.or IntKind.u8 (IntKind.u8.wrap (q : Int)) 128 = ((b1 q).toNat : Int) := by
  rw [IntKind.wrap_u8, show (q : Int) % 256 = ((q % 256 : Nat) : Int) by omega, show (128 : Int) = ((128 : Nat) : Int) from rfl, u8_or_nat _ 128 (by omega) (by decide), or_all ⟨q % 256, by omega⟩]
  unfold b1
  rw [UInt8.toNat_ofNat']
  show ((q % 256 % 128 + 128 : Nat) : Int) = _
  omega
theorem wrap8 (q : Nat) (h : q < 128) : IntKind.u8.wrap (q : Int) = ((b0 q).toNat : Int) := by
  rw [IntKind.wrap_u8]
  unfold b0
  rw [UInt8.toNat_ofNat']
  omega
theorem own_cells {w : World} {base : Nat} {v : Value} {l : List UInt8} (h : w.ownsRow base 5 1 v l.length (Lib.byteCells l)) (hl : l ≠ []) : ∃ g cap, v = .slice (some ⟨g, 0, none⟩) l.length cap ∧ ∀ j (hj : j < l.length), w.cell? ⟨g, j, none⟩ = some (.int .u8 (l[j].toNat : Int)) := by
  have hk := h
  rcases h.2 with ⟨hv, h0⟩ | ⟨g, cap, cur, hv, _, hg, _, _, _, ht⟩
  · exact absurd (List.length_eq_zero_iff.1 h0) hl
  · refine ⟨g, cap, hv, fun j hj => ?_⟩
    subst hv
    have := hk.cellAt j (by simpa [Lib.byteCells] using hj)
    simpa [Lib.byteCells, List.getElem?_eq_getElem hj] using this
theorem own_string {w : World} {base : Nat} {v : Value} {l : List UInt8} (h : w.ownsRow base 5 1 v l.length (Lib.byteCells l)) (hl : l ≠ []) : (convert 39 9 v).run Tryz.prog w = .ok (.string ⟨l.toArray⟩) w := by
  obtain ⟨g, cap, rfl, hc⟩ := own_cells h hl
  refine run_convert_bytes_back w 39 9 5 ⟨g, 0, none⟩ cap l Tryz.underlying39 Tryz.underlying5 Tryz.underlying9 fun j hj => ?_
  have ha : (⟨g, 0, none⟩ : Addr).add j = ⟨g, j, none⟩ := by
    unfold Addr.add; split
    · simp_all
    · simp
  rw [ha]; exact hc j hj
theorem wpN_mid {P : Program} {Q : Exit → Act → World → Prop} {a : Act} {w : World} {x y : Code} (M : Act → World → Prop) (h1 : WpN P x (Exit.then M Q) a w) (h2 : ∀ a w, M a w → WpN P y Q a w) : WpN P (Code.seq x y) Q a w :=
  wpN_seq (h1.mono fun e a w h => by
    cases e with
    | normal => exact h2 _ _ h
    | _ => exact h)
theorem putF_step {pre tot : List UInt8} {g q : Nat} (he : pre ++ putF (g + 1) q = tot) (h : q < 128 ^ (g + 1)) (hq : 128 ≤ q) : (pre ++ [b1 q]) ++ putF g (q / 128) = tot ∧ q / 128 < 128 ^ g ∧ 1 ≤ g := by
  rw [putF, if_neg (by omega)] at he
  refine ⟨by rw [← he]; simp, Nat.div_lt_of_lt_mul (by rw [Nat.pow_succ] at h; omega), ?_⟩
  rcases Nat.eq_zero_or_pos g with rfl | hg
  · simp at h; omega
  · exact hg
theorem putF_last {pre tot : List UInt8} {f q : Nat} (he : pre ++ putF f q = tot) (hf : 1 ≤ f) (hq : q < 128) : pre ++ [b0 q] = tot := by
  obtain ⟨g, rfl⟩ : ∃ g, f = g + 1 := ⟨f - 1, by omega⟩
  rw [putF, if_pos hq] at he
  exact he
theorem putF_length : ∀ f q, (putF f q).length ≤ f
  | 0, _ => Nat.le_refl _
  | f + 1, q => by
    unfold putF
    split
    · simp
    · have := putF_length f (q / 128)
      simp; omega
theorem pre_short {pre : List UInt8} {f q x : Nat} (he : pre ++ putF f q = putF 10 x) : pre.length ≤ 10 := by
  have h1 := congrArg List.length he
  have h2 := putF_length 10 x
  rw [List.length_append] at h1
  omega
structure Puts (w : World) (tot : List UInt8) (q : Nat) (v : Value) (W : World) : Prop where
  below : Below w.heap.size w W
  row : ∃ (f : Nat) (pre : List UInt8), pre ++ putF f q = tot ∧ q < 128 ^ f ∧ 1 ≤ f ∧ W.ownsRow w.heap.size 5 1 v pre.length (Lib.byteCells pre)
def at3 (a : Act) : Nat := match a.tmps[3]? with | some (Value.int _ k) => k.toNat | _ => 0
set_option maxHeartbeats 1000000 in
set_option maxRecDepth 100000 in
theorem put_ok (x : Int) (h1 : -9007199254740992 ≤ x) (h2 : x ≤ 9007199254740992) (w : World) : Calls Tryz.prog 12 #[.int .i64 x] w fun e w' => e = .returned (.string (putS x)) ∧ Below w.heap.size w w' := by
  have hinfo5 : (Tryz.prog.info? 5).map (fun i => (i.zero, i.size, i.bytes)) = some (some (.int .u8 0), 1, 1) := by kernel_rfl
  obtain ⟨i5, hi5, hz5, hs5, hb5⟩ := info_parts hinfo5
  refine calls_of_wpN Tryz.func12 rfl ?_
  simp only [Tryz.ntmps12, List.size_toArray, List.length_cons, List.length_nil, Nat.reduceAdd, Nat.reduceSub, Array.replicate_succ,
     Array.replicate_zero, List.push_toArray, List.append_toArray, List.nil_append, List.cons_append]
  refine wpN_seq (of_wp ?_)
  go_wp2
  refine wpN_seq (wpN_seq (of_wp ?_))
  go_wp2_with (go_at_call 15; refine (fits_ok x h1 h2 _).mono ?_; rintro e W2 ⟨rfl, hW2⟩; have h9 := hW2.symm; clear hW2; subst h9)
  refine of_wp ?_
  go_wp2
  refine wpN_seq (of_wp ?_)
  go_wp2
  refine wpN_mid (fun a W => ∃ (q : Nat) (v u1 u5 u6 u7 u8 u9 u10 u11 u12 u13 u14 u15 u16 u17 u18 u19 u20 u21 u22 u23 u24 u25 u26 u27 u28 u29 u30 u31 u32 : Value), q = zig x ∧ W = w ∧ a = { tmps := #[.int .i64 x, u1, .string ⟨#[]⟩, .int .u64 (q : Nat), v, u5, u6, u7, u8, u9, u10, u11, u12, u13, u14, u15, u16, u17, u18, u19, u20, u21, u22, u23, u24, u25, u26, u27, u28, u29, u30, u31, u32], defers := [] }) ?_ ?_
  · refine wpN_seq (of_wp ?_)
    go_wp2
    refine of_wp ?_
    go_wp2
    · rename_i hx
      obtain ⟨q, hq⟩ : ∃ q : Nat, (q : Int) = -2 * x - 1 := ⟨(-2 * x - 1).toNat, by omega⟩
      exact ⟨q, _, _, _, _, _, _, _, _, _, _, _, _, _, _, _, _, _, _, _, _, _, _, _, _, _, _, _, _, _, _, by unfold zig; rw [if_pos hx]; omega, by trivial, by rw [hq]⟩
    · rename_i hx
      obtain ⟨q, hq⟩ : ∃ q : Nat, (q : Int) = 2 * x := ⟨(2 * x).toNat, by omega⟩
      have hwr : IntKind.u64.wrap (2 * x) = 2 * x := by rw [IntKind.wrap_u64]; omega
      exact ⟨q, _, _, _, _, _, _, _, _, _, _, _, _, _, _, _, _, _, _, _, _, _, _, _, _, _, _, _, _, _, _, by unfold zig; rw [if_neg (by omega)]; omega, by trivial, by rw [hwr, hq]⟩
  · rintro a W ⟨q, v, u1, u5, u6, u7, u8, u9, u10, u11, u12, u13, u14, u15, u16, u17, u18, u19, u20, u21, u22, u23, u24, u25, u26, u27, u28, u29, u30, u31, u32, hq, hW, rfl⟩
    have hqb : zig x < 128 ^ 10 := by
      have : zig x < 100000000000000000 := by unfold zig; split <;> omega
      exact Nat.lt_of_lt_of_le this (by decide)
    have h9 := hW.symm
    clear hW
    subst h9
    subst hq
    refine wpN_seq (of_wp ?_)
    go_wp2
    have h0 : Puts w (putF 10 (zig x)) (zig x) (.slice none 0 0) w := ⟨Below.refl _ _, 10, [], rfl, hqb, by decide, World.ownsRow_nil _ _ _ _⟩
    clear hqb
    refine wpN_mid (fun a W => ∃ (q : Nat) (v u1 u5 u6 u7 u8 u9 u10 u11 u12 u13 u14 u15 u16 u17 u18 u19 u20 u21 u22 u23 u24 u25 u26 u27 u28 u29 u30 u31 u32 : Value), q < 128 ∧ Puts w (putF 10 (zig x)) q v W ∧ a = { tmps := #[.int .i64 x, u1, .string ⟨#[]⟩, .int .u64 (q : Nat), v, u5, u6, u7, u8, u9, u10, u11, u12, u13, u14, u15, u16, u17, u18, u19, u20, u21, u22, u23, u24, u25, u26, u27, u28, u29, u30, u31, u32], defers := [] }) ?_ ?_
    · refine wpN_block (wpN_loop (fun a W => ∃ (q : Nat) (v u1 u5 u6 u7 u8 u9 u10 u11 u12 u13 u14 u15 u16 u17 u18 u19 u20 u21 u22 u23 u24 u25 u26 u27 u28 u29 u30 u31 u32 : Value), Puts w (putF 10 (zig x)) q v W ∧ a = { tmps := #[.int .i64 x, u1, .string ⟨#[]⟩, .int .u64 (q : Nat), v, u5, u6, u7, u8, u9, u10, u11, u12, u13, u14, u15, u16, u17, u18, u19, u20, u21, u22, u23, u24, u25, u26, u27, u28, u29, u30, u31, u32], defers := [] }) (fun a _ => at3 a) ?_ ?_)
      · exact ⟨zig x, _, _, _, _, _, _, _, _, _, _, _, _, _, _, _, _, _, _, _, _, _, _, _, _, _, _, _, _, _, _, h0, rfl⟩
      · rintro a W ⟨q, v, u1, u5, u6, u7, u8, u9, u10, u11, u12, u13, u14, u15, u16, u17, u18, u19, u20, u21, u22, u23, u24, u25, u26, u27, u28, u29, u30, u31, u32, hS, rfl⟩
        clear h0
        have hor := or128 q
        rw [IntKind.wrap_u8] at hor
        refine wpN_seq ?_
        refine wpN_seq (of_wp ?_)
        go_wp2
        refine of_wp ?_
        go_wp2
        · rename_i hge
          refine wpN_block ?_
          refine wpN_seq (of_wp ?_)
          obtain ⟨hb, f, pre, he, hqf, hf, hown⟩ := hS
          have hbs := hb.size
          have hpl := pre_short he
          go_wp2_with (at_builtin; go_loud (refine wpList_append_own _ rfl _ _ 39 rfl w.heap.size 5 i5 (.int .u8 0) 1 1 Tryz.underlying39 hi5 hz5 hs5 hb5 rfl (by decide) _ _ _ rfl (hown.alloc _) ⟨W.heap.size, 0, none⟩ 1 1 [.int .u8 (b1 q).toNat] rfl rfl ?c1 ?c2 ?c3 ?c4 ?c5 ?_))
          case c1 =>
            intro k u hk
            match k, hk with
            | 0, hk => simp at hk; subst hk; simp [Addr.add]
          case c2 => intro u hu; simp at hu; subst hu; rfl
          case c3 => unfold maxLen; omega
          case c4 => omega
          case c5 => simp; omega
          intro v' W4 hown' hgrow _
          have hb5 : Below w.heap.size w W4 := by
            refine (hb.alloc (by omega) _).grown hgrow (by simp; omega) fun k hk => ?_
            exact (hown.lt k hk).1
          have hown5 : W4.ownsRow w.heap.size 5 1 v' (pre ++ [b1 q]).length (Lib.byteCells (pre ++ [b1 q])) := by
            rw [List.length_append]
            have h7 : Lib.byteCells (pre ++ [b1 q]) = Lib.byteCells pre ++ [.int .u8 (b1 q).toNat] := by simp [Lib.byteCells]
            rw [h7]; exact hown'
          clear hgrow hown' hown
          obtain ⟨g, rfl⟩ : ∃ g, f = g + 1 := ⟨f - 1, by omega⟩
          obtain ⟨he2, hq2, hg2⟩ := putF_step he hqf (by omega)
          go_wp2
          refine of_wp ?_
          go_wp2
          exact ⟨⟨q / 128, v', _, _, _, _, _, _, _, _, _, _, _, _, _, _, _, _, _, _, _, _, _, _, _, _, _, _, _, _, _, ⟨hb5, g, pre ++ [b1 q], he2, hq2, hg2, hown5⟩, rfl⟩, by simp [at3]; omega⟩
        · rename_i hge
          exact ⟨q, v, _, _, _, _, _, _, _, _, _, _, _, _, _, _, _, _, _, _, _, _, _, _, _, _, _, _, _, _, _, by omega, hS, rfl⟩
    · rintro a W ⟨q, v, u1, u5, u6, u7, u8, u9, u10, u11, u12, u13, u14, u15, u16, u17, u18, u19, u20, u21, u22, u23, u24, u25, u26, u27, u28, u29, u30, u31, u32, hq, hS, rfl⟩
      have hb0 : Hid ((q : Int) = ((b0 q).toNat : Int)) := by
        show (q : Int) = _
        unfold b0
        rw [UInt8.toNat_ofNat']
        omega
      obtain ⟨hb, f, pre, he, hqf, hf, hown⟩ := hS
      have hbs := hb.size
      have hpl := pre_short he
      clear h0
      refine wpN_seq (of_wp ?_)
      go_wp2_with (at_builtin; go_loud (refine wpList_append_own _ rfl _ _ 39 rfl w.heap.size 5 i5 (.int .u8 0) 1 1 Tryz.underlying39 hi5 hz5 hs5 hb5 rfl (by decide) _ _ _ rfl (hown.alloc _) ⟨W.heap.size, 0, none⟩ 1 1 [.int .u8 (b0 q).toNat] rfl rfl ?c1 ?c2 ?c3 ?c4 ?c5 ?_))
      case c1 =>
        intro k u hk
        match k, hk with
        | 0, hk => simp at hk; subst hk; simp [Addr.add]; exact hb0.out
      case c2 => intro u hu; simp at hu; subst hu; rfl
      case c3 => unfold maxLen; omega
      case c4 => omega
      case c5 => simp; omega
      intro v' W4 hown' hgrow _
      have hb5 : Below w.heap.size w W4 := by
        refine (hb.alloc (by omega) _).grown hgrow (by simp; omega) fun k hk => ?_
        exact (hown.lt k hk).1
      have hown5 : W4.ownsRow w.heap.size 5 1 v' (pre ++ [b0 q]).length (Lib.byteCells (pre ++ [b0 q])) := by
        rw [List.length_append]
        have h7 : Lib.byteCells (pre ++ [b0 q]) = Lib.byteCells pre ++ [.int .u8 (b0 q).toNat] := by simp [Lib.byteCells]
        rw [h7]; exact hown'
      clear hgrow hown' hown
      have hcv := own_string hown5 (by simp)
      clear hown5
      have hl := putF_last he hf hq
      rw [hl] at hcv
      clear hl he
      go_wp2
      refine of_wp ?_
      go_wp2
      go_ret
      exact ⟨rfl, hb5⟩
end Go.Kn
