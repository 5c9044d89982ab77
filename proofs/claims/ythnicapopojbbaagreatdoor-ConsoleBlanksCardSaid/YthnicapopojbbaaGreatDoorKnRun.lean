import Derived.Test.YthnicapopojbbaaGreatDoorKnCode
import Derived.Test.YthnicapopojbbaaGreatDoorKnLay
import Derived.Shelf.Strings.Split
import Derived.Shelf.Strings.FieldsFuncAny
import Derived.Shelf.Strings.Builder1
import Derived.Conc.SmallLaws
import Derived.WalkKit
import Derived.WalkMore
import Derived.Scope
namespace Go.Kn
open Go Go.Conc Go.Proofs Go.RowKit
set_option linter.unusedVariables false
set_option linter.unusedSimpArgs false
theorem wpN_scope {P : Program} {Q : Exit → Act → World → Prop} {a : Act} {w : World} {c : Code} (h : WpN P c (Exit.noGoto Q) a w) : WpN P (Code.scope c) Q a w := by
  intro b k cs hb
  obtain ⟨e, a₁, w₁, hq, harr⟩ := h b (.inScope c :: k) cs hb
  cases e with
  | normal => exact ⟨.normal, a₁, w₁, hq, .head step_scope (Steps.trans harr (.one step_inScope))⟩
  | exit id => exact ⟨.exit id, a₁, w₁, hq, fun k' hk => .head step_scope (harr k' (by simp [exitTo, hk]))⟩
  | goto l => exact hq.elim
  | ret => exact ⟨_, a₁, w₁, hq, .of_steps (.one step_scope) harr⟩
  | panic ch => exact ⟨_, a₁, w₁, hq, .of_steps (.one step_scope) harr⟩
  | outgrown => exact ⟨_, a₁, w₁, hq, .of_steps (.one step_scope) harr⟩
theorem ops_sel_cons {P : Program} {Q : Exit → Act → World → Prop} {a : Act} {w : World} {ops : Array Oper} {i : Nat} {rest : List Nat} {o : Oper} {c cap s r : Nat} {x : Value} {xs : List Value} {closed : Bool} {z : Value} (ho : ops[i]? = some o) (hw : Region.wanted o (yielded ops a.tmps) = true)
    (hr : (execOp a.eval o).run P w = .ok (.comm #[rcase c z] false .select) w) (hc : w.heap[c]? = some (.chan cap (x :: xs).toArray closed s r false))
    (h : ∀ W, W = w.setChan c cap xs.toArray closed s (r + 1) false → OpsTo P ops Q rest (a.put o.dst (.tuple #[.int .i64 0, .bool true, x])) W) : OpsTo P ops Q (i :: rest) a w := by
  have h2 := h _ rfl
  refine ops_sel_buf ho hw hr hc (by simp) ?_
  have e : (x :: xs).toArray.extract 1 (x :: xs).toArray.size = xs.toArray := by simp
  rw [e]
  exact h2
theorem ops_two {P : Program} {Q : Exit → Act → World → Prop} {a : Act} {w : World} {ops : Array Oper} {k : Nat} {o1 o2 : Oper} (h1 : ops[k]? = some o1) (h2 : ops[k + 1]? = some o2) (h : wpList P ops Q [o1, o2] a w) : OpsTo P ops Q [k, k + 1] a w :=
  ops_rest [o1, o2] k (by
    intro j hj
    match j, hj with
    | 0, _ => exact h1
    | 1, _ => exact h2) h
def blank (r : Nat) : Bool := r == 32 || r == 9
def flds (l : ByteArray) : List ByteArray := Lib.goFieldsP blank l
def nl : ByteArray := ⟨#[10]⟩
def lns (s : ByteArray) : List ByteArray := Lib.splitB nl 0 (Lib.countB s nl) s
/-- What a line comes to. -/
inductive LineIs (w : World) (l : ByteArray) : Option ByteArray → Prop
  | empty (h : flds l = []) : LineIs w l none
  | mark (f : ByteArray) (fs : List ByteArray) (h : flds l = f :: fs) (hc : f.data[0]? = some 35) : LineIs w l none
  | tells (f : ByteArray) (fs : List ByteArray) (c : UInt8) (o : ByteArray) (h : flds l = f :: fs) (hc : f.data[0]? = some c) (hne : c ≠ 35)
      (hcall : ∀ (W : World) (A B : Nat), w.heap.size ≤ B → Below w.heap.size w W → W.ownsRow B 9 1 (.slice (some ⟨A, 0, none⟩) (flds l).length (flds l).length) (flds l).length ((flds l).map Value.string) →
        Calls Tryz.prog 19 #[.slice (some ⟨A, 0, none⟩) (flds l).length (flds l).length] W fun e W' => e = .returned (.string o) ∧ Below W.heap.size W W') : LineIs w l (some o)
theorem splitB_size_le (sep : ByteArray) : ∀ (k : Nat) (s l : ByteArray), l ∈ Lib.splitB sep 0 k s → l.size ≤ s.size
  | 0, s, l, h => by
    simp only [Lib.splitB_zero, List.mem_singleton] at h
    subst h; exact Nat.le_refl _
  | k + 1, s, l, h => by
    unfold Lib.splitB at h
    split at h
    · simp only [List.mem_singleton] at h
      subst h; exact Nat.le_refl _
    · rcases List.mem_cons.1 h with rfl | h
      · rw [ByteArray.size_extract]; omega
      · have := splitB_size_le sep k _ l h
        rw [ByteArray.size_extract] at this; omega
/-- The whole text. -/
def jt (os : List ByteArray) : List UInt8 := os.flatMap fun o => o.data.toList ++ [10]
def bufLen (w : World) (c : Nat) : Nat := match w.heap[c]? with | some (.chan _ b _ _ _ _) => b.size | _ => 0
theorem isBuilder_setChan {T e : TypeId} {B b : Nat} {bs : List Value} {w : World} (h : Lib.IsBuilder T e B b bs w) {c : Nat} (hc : c < B) (cap : Nat) (buf : Array Value) (cl : Bool) (s r : Nat) (tm : Bool) : Lib.IsBuilder T e B b bs (w.setChan c cap buf cl s r tm) := by
  have key : ∀ p, Lib.BuilderAt T e B b p bs w → Lib.BuilderAt T e B b p bs (w.setChan c cap buf cl s r tm) := by
    rintro p ⟨hB, v, hb, hown, hne⟩
    refine ⟨hB, v, ?_, ?_, hne⟩
    · simp only [World.setChan]
      rw [Array.getElem?_setIfInBounds_ne (by omega)]; exact hb
    · refine hown.kept (row := some c) ⟨rfl, rfl, rfl, by simp [World.setChan], fun k _ hk => ?_⟩ ?_
      · simp only [World.setChan]
        rw [Array.getElem?_setIfInBounds_ne (fun e => hk (by rw [e]))]
      · refine .inr fun e => ?_
        have := (hown.lt c e).1
        omega
  exact h.imp (key _) (key _)
theorem extra166 : Builder.Extra Tryz.prog lays166_ren where
  sizeBuilder := by kernel_rfl
  liesBuilder := by kernel_rfl
  t5 := by kernel_rfl
  a5 := fun w => by kernel_rfl
  z5 := fun w => by kernel_rfl
  v5 := fun w => by kernel_rfl
  infoByte := by kernel_rfl
  cellsByte := by kernel_rfl
  sizeByte := by kernel_rfl
  neB5 := by decide
theorem extra169 : Builder.Extra Tryz.prog lays169_ren where
  sizeBuilder := by kernel_rfl
  liesBuilder := by kernel_rfl
  t5 := by kernel_rfl
  a5 := fun w => by kernel_rfl
  z5 := fun w => by kernel_rfl
  v5 := fun w => by kernel_rfl
  infoByte := by kernel_rfl
  cellsByte := by kernel_rfl
  sizeByte := by kernel_rfl
  neB5 := by decide
theorem knWrite (B b : Nat) (bs : List Value) (s : ByteArray) (w : World) (h : Lib.IsBuilder 48 5 B b bs w) (hlen : bs.length + s.size ≤ 140737488355328) (hBw : B ≤ w.heap.size) :
    Calls Tryz.prog 20 #[.pointer (some ⟨b, 0, none⟩), .string s] w fun e w' => e = .returned (.tuple #[.int .i64 s.size, .nilIface]) ∧ (Lib.BuilderAt 48 5 B b (.pointer (some ⟨b, 0, none⟩)) (bs ++ Lib.strCells s) w' ∧ Below B w w') := Any.Builder_WriteString lays166 extra166 B b bs s w h hlen hBw
theorem knString (B b : Nat) (l : List UInt8) (w : World) (h : Lib.IsBuilder 48 5 B b (Lib.byteCells l) w) (hBw : B ≤ w.heap.size) :
    Calls Tryz.prog 21 #[.pointer (some ⟨b, 0, none⟩)] w fun e w' => e = .returned (.string ⟨l.toArray⟩) ∧ Below B w w' := Any.Builder_String_any lays169 extra169 B b l w h hBw
theorem jt_append (a b : List ByteArray) : jt (a ++ b) = jt a ++ jt b := List.flatMap_append
theorem jt_take (os : List ByteArray) (j : Nat) (h : j < os.length) : jt (os.take (j + 1)) = jt (os.take j) ++ (os[j].data.toList ++ [10]) := by
  rw [List.take_succ_eq_append_getElem h, jt_append]
  exact congrArg _ (List.append_nil _)
theorem jt_le (os : List ByteArray) (j : Nat) : (jt (os.take j)).length ≤ (jt os).length := by
  have h := congrArg (fun l => (jt l).length) (List.take_append_drop j os)
  simp only [jt_append, List.length_append] at h
  omega

theorem knPutA (B : Nat) (bs : List UInt8) (o : ByteArray) (c : ByteArray) (hc : c = ⟨#[10]⟩) (hsz : bs.length + o.size ≤ 1000000000) (w : World) (hB : Lib.IsBuilder 48 5 B B (Lib.byteCells bs) w) (hBw : B ≤ w.heap.size) :
    Calls Tryz.prog 20 #[.pointer (some ⟨B, 0, none⟩), .string (o ++ c)] w fun e w' => e = .returned (.tuple #[.int .i64 (o ++ c).size, .nilIface]) ∧ (Lib.IsBuilder 48 5 B B (Lib.byteCells (bs ++ (o.data.toList ++ [10]))) w' ∧ Below B w w') := by
  have h6 : c.size = 1 := by subst hc; rfl
  have h4 : (Lib.byteCells bs).length = bs.length := by simp [Lib.byteCells]
  have h7 : Lib.byteCells (bs ++ (o.data.toList ++ [10])) = Lib.byteCells bs ++ Lib.strCells (o ++ c) := by
    rw [Lib.strCells_eq]; subst hc; simp [Lib.byteCells]
  have hw := knWrite B B (Lib.byteCells bs) (o ++ c) w hB (by rw [h4, ByteArray.size_append]; omega) hBw
  refine hw.mono ?_
  rintro e w' ⟨h1, h2, h3⟩
  rw [h7]
  exact ⟨h1, .inr h2, h3⟩
theorem knPut (B : Nat) (os : List ByteArray) (j : Nat) (h : j < os.length) (hsz : (jt os).length ≤ 1000000000) (w : World) (hB : Lib.IsBuilder 48 5 B B (Lib.byteCells (jt (os.take j))) w) (hBw : B ≤ w.heap.size) (c : ByteArray) (hc : c = ⟨#[10]⟩) :
    Calls Tryz.prog 20 #[.pointer (some ⟨B, 0, none⟩), .string (os[j] ++ c)] w fun e w' => e = .returned (.tuple #[.int .i64 (os[j] ++ c).size, .nilIface]) ∧ (Lib.IsBuilder 48 5 B B (Lib.byteCells (jt (os.take (j + 1)))) w' ∧ Below B w w') := by
  have hjt := jt_take os j h
  have hle := jt_le os (j + 1)
  rw [hjt] at hle ⊢
  refine knPutA B _ _ c hc ?_ w hB hBw
  simp only [List.length_append, List.length_cons, List.length_nil] at hle
  have h5 : os[j].size = os[j].data.toList.length := by simp
  omega
theorem isBuilder_lt {T e : TypeId} {B b : Nat} {bs : List Value} {w : World} (h : Lib.IsBuilder T e B b bs w) : b < w.heap.size := h.elim (·.lt) (·.lt)
theorem pred18 (w : World) : PredAt Tryz.prog 18 #[] encR blank w := by
  intro W x hW
  unfold FnGives
  go_enter Tryz.func18, Tryz.ntmps18
  go_wp2
  · rename_i h
    go_ret
    refine ⟨?_, 0, rfl⟩
    have : x = 32 := by omega
    subst this; rfl
  · rename_i h
    go_ret
    refine ⟨?_, 0, rfl⟩
    have h1 : (((x : Int) == 32) || ((x : Int) == 9)) = blank x := by
      unfold blank
      cases h2 : (x == 32 || x == 9) <;> simp at h2 ⊢ <;> omega
    simp [h1]

/-- The first lines are told. -/
structure Sent (w : World) (N : Nat) (ls : List ByteArray) (outs : List (Option ByteArray)) (i : Nat) (W : World) : Prop where
  below : Below w.heap.size w W
  row : W.heap[w.heap.size]? = some (.cells (ls.map Value.string).toArray 9 (0, 0))
  chan : ∃ s, W.heap[w.heap.size + 1]? = some (.chan (N + 1) (((outs.take i).filterMap id).map Value.string).toArray false s 0 false)
theorem Sent.none {w W : World} {N i : Nat} {ls : List ByteArray} {outs : List (Option ByteArray)} (h : Sent w N ls outs i W) (hi : i < outs.length) (ho : outs[i] = Option.none) : Sent w N ls outs (i + 1) W := by
  obtain ⟨h1, h2, s, h3⟩ := h
  refine ⟨h1, h2, s, ?_⟩
  rw [h3, List.take_succ_eq_append_getElem hi, ho]
  simp
theorem Sent.next {w W W' : World} {N i : Nat} {ls : List ByteArray} {outs : List (Option ByteArray)} (h : Sent w N ls outs i W) (hb : Below W.heap.size W W') : Sent w N ls outs i W' := by
  obtain ⟨h1, h2, s, h3⟩ := h
  have q1 : w.heap.size < W.heap.size := (Array.getElem?_eq_some_iff.1 h2).1
  have q2 : w.heap.size + 1 < W.heap.size := (Array.getElem?_eq_some_iff.1 h3).1
  exact ⟨h1.trans (hb.mono (by omega)), (hb.block _ q1).trans h2, s, (hb.block _ q2).trans h3⟩
theorem Sent.some {w W : World} {N i s : Nat} {ls : List ByteArray} {outs : List (Option ByteArray)} {o : ByteArray} (h : Sent w N ls outs i W) (hi : i < outs.length) (ho : outs[i] = Option.some o)
    (hc : W.heap[w.heap.size + 1]? = Option.some (.chan (N + 1) (((outs.take i).filterMap id).map Value.string).toArray false s 0 false)) :
    Sent w N ls outs (i + 1) (W.setChan (w.heap.size + 1) (N + 1) ((((outs.take i).filterMap id).map Value.string).toArray.push (.string o)) false (s + 1) 0 false) := by
  obtain ⟨h1, h2, -, -⟩ := h
  have q2 : w.heap.size + 1 < W.heap.size := (Array.getElem?_eq_some_iff.1 hc).1
  refine ⟨below_setChan h1 (by omega) _ _ _ _ _ _, ?_, s + 1, ?_⟩
  · simp only [World.setChan]
    rw [Array.getElem?_setIfInBounds_ne (by omega)]; exact h2
  · rw [heap_setChan _ _ _ _ _ _ _ _ q2, List.take_succ_eq_append_getElem hi, ho]
    simp
/-- The first outputs are in the builder, the others in the channel. -/
structure Drain (w : World) (N B : Nat) (os : List ByteArray) (j : Nat) (W : World) : Prop where
  below : Below w.heap.size w W
  chan : ∃ s r, W.heap[w.heap.size + 1]? = some (.chan (N + 1) ((os.drop j).map Value.string).toArray false s r false)
  bld : Lib.IsBuilder 48 5 B B (Lib.byteCells (jt (os.take j))) W
  lt : w.heap.size + 1 < B
def at21 (a : Act) : Nat := match a.tmps[21]? with | some (Value.int _ k) => k.toNat | _ => 0
set_option maxHeartbeats 1000000 in
set_option maxRecDepth 100000 in
theorem run_ok (script : ByteArray) (w : World) (hs : script.size ≤ 65536) (mx : Int) (hm : w.cell? ⟨0, 0, none⟩ = some (.int .i64 mx)) (outs : List (Option ByteArray)) (hlo : outs.length = (lns script).length) (hl : ∀ (i : Nat) (h : i < (lns script).length), LineIs w (lns script)[i] (outs[i]'(by omega))) (hsz : (jt (outs.filterMap id)).length ≤ 1000000000) : Calls Tryz.prog 13 #[.string script] w fun e w' => e = .returned (.tuple #[.string ⟨(jt (outs.filterMap id)).toArray⟩, .int .i64 0]) ∧ Below w.heap.size w w' := by
  have hinfo9 : (Tryz.prog.info? 9).map (fun i => (i.zero, i.size, i.bytes)) = some (some (.string ByteArray.empty), 1, 16) := by kernel_rfl
  obtain ⟨i9, hi9, hz9, hs9, hb9⟩ := info_parts hinfo9
  have hsp : ∀ W, W.cell? ⟨0, 0, none⟩ = some (.int .i64 mx) → Calls Tryz.prog 16 #[.string script, .string nl] W fun e w' => e = .returned (.slice (some ⟨W.heap.size, 0, none⟩) (Lib.countB script nl + 1) (Lib.countB script nl + 1)) ∧ w' = W.alloc (.cells ((lns script).map Value.string).toArray 9) := fun W hW =>
    Any.strings_Split lays146 (by kernel_rfl) script nl mx W (by omega) hW (by decide)
  refine calls_of_wpN Tryz.func13 rfl ?_
  simp only [Tryz.ntmps13, List.size_toArray, List.length_cons, List.length_nil, Nat.reduceAdd, Nat.reduceSub, Array.replicate_succ,
     Array.replicate_zero, List.push_toArray, List.append_toArray, List.nil_append, List.cons_append]
  refine wpN_seq (of_wp ?_)
  go_wp2
  refine wpN_scope ?_
  refine wpN_seq (of_wp ?_)
  go_wp2
  refine wpN_seq (of_wp ?_)
  go_wp2_with (go_at_call 16; refine (hsp _ hm).mono ?_; rintro e w' ⟨rfl, rfl⟩)
  have hcl : Lib.countB script nl ≤ script.size := Lib.countB_le nl (by decide) script.size script (Nat.le_refl _)
  have hll : (lns script).length = Lib.countB script nl + 1 := Lib.splitB_all nl (by decide) 0 _ script rfl
  generalize Lib.countB script nl = N at hsp hcl hll ⊢
  have hmk : ∀ W, (Instr.makeChan 42 (.int .i64 ((N : Int) + 1))).run Tryz.prog W = .ok (.chan (some W.heap.size)) (W.alloc (.chan (N + 1) #[] false 0 0 false)) := fun W => by
    have := run_makeChan (P := Tryz.prog) (w := W) Tryz.underlying42 hi9 .i64 (N + 1) (by omega) (by rw [hb9]; omega)
    simpa using this
  refine wpN_seq (of_wp ?_)
  go_wp2
  refine wpN_seq ?_
  refine wpN_seq (of_wp ?_)
  go_wp2
  have h0 : Sent w N (lns script) outs 0 ((w.alloc (.cells ((lns script).map Value.string).toArray 9)).alloc (.chan (N + 1) #[] false 0 0 false)) := by
    refine ⟨((Below.refl _ w).alloc (Nat.le_refl _) _).alloc (by simp) _, ?_, 0, ?_⟩
    · rw [Below.heap_alloc _ _ _ (by simp)]; exact heap_alloc_new w _
    · have := heap_alloc_new (w.alloc (.cells ((lns script).map Value.string).toArray 9)) (.chan (N + 1) #[] false 0 0 false)
      simpa using this
  refine wpN_block (wpN_loop (fun a W => ∃ (i : Nat) (u7 u8 u22 u23 u24 u25 u26 u27 u28 u29 u30 u31 u32 u33 u34 u35 u36 u37 u38 u39 u40 : Value), i ≤ N + 1 ∧ Sent w N (lns script) outs i W ∧ a = { tmps := #[.string script, undef, .string ⟨#[]⟩, .int .i64 0, Value.slice (some ⟨w.heap.size, 0, none⟩) (N + 1) (N + 1), .chan (some (w.heap.size + 1)), undef, u7, u8, undef, undef, .string script, .int .i64 script.size, .bool (decide (65536 < (script.size : Int))), .string script, Value.slice (some ⟨w.heap.size, 0, none⟩) (N + 1) (N + 1), Value.slice (some ⟨w.heap.size, 0, none⟩) (N + 1) (N + 1), .int .i64 ((N : Int) + 1), .chan (some (w.heap.size + 1)), Value.slice (some ⟨w.heap.size, 0, none⟩) (N + 1) (N + 1), .int .i64 ((N : Int) + 1), .int .i64 (i : Nat), u22, u23, u24, u25, u26, u27, u28, u29, u30, u31, u32, u33, u34, u35, u36, u37, u38, u39, u40, undef, undef, undef, undef, undef, undef, undef, undef, undef], defers := [] }) (fun a _ => N + 1 - at21 a) ?_ ?_)
  · exact ⟨0, _, _, _, _, _, _, _, _, _, _, _, _, _, _, _, _, _, _, _, _, _, Nat.zero_le _, h0, rfl⟩
  · rintro a W ⟨i, u7, u8, u22, u23, u24, u25, u26, u27, u28, u29, u30, u31, u32, u33, u34, u35, u36, u37, u38, u39, u40, hi, hS, rfl⟩
    refine wpN_seq (of_wp ?_)
    go_wp2
    refine wpN_seq (of_wp ?_)
    go_wp2
    · rename_i hlt
      have hi' : i < N + 1 := by omega
      have hcell : W.cell? ⟨w.heap.size, i, none⟩ = some (.string ((lns script)[i]'(by omega))) := by
        simp only [World.cell?, hS.row]
        simp [hll, hi']
      have hli := hl i (by omega)
      generalize hln : (lns script)[i]'(by omega) = ln at hcell hli
      generalize hot : outs[i]'(by omega) = ot at hli
      have hlns : ln.size ≤ 4294967296 := by
        have := splitB_size_le nl _ script ln (hln ▸ List.getElem_mem _)
        omega
      have hff : ∀ V : World, Below w.heap.size w V → Calls Tryz.prog 17 #[.string ln, .func (.func 18) #[] #[]] V fun e w' => ∃ A, e = .returned (.slice (some ⟨A, 0, none⟩) (flds ln).length (flds ln).length) ∧ V.heap.size ≤ A ∧ w'.ownsRow V.heap.size 9 1 (.slice (some ⟨A, 0, none⟩) (flds ln).length (flds ln).length) (flds ln).length ((flds ln).map Value.string) ∧ Below V.heap.size V w' := fun V _ =>
        Any.strings_FieldsFunc lays229 18 #[] (enters_of Tryz.func18 (by kernel_rfl) rfl) blank ln V hlns (pred18 V) (by kernel_rfl) (by kernel_rfl)
      refine wpN_seq ?_
      refine wpN_block ?_
      refine wpN_seq (of_wp ?_)
      go_wp2
      refine wpN_seq (of_wp ?_)
      go_wp2_with (go_at_call 17; refine (hff W hS.below).mono ?_; rintro e W2 ⟨A, rfl, hA, hown, hb2⟩)
      have hS2 : Sent w N (lns script) outs i W2 := by
        obtain ⟨h1, h2, s, h3⟩ := hS
        have q1 : w.heap.size < W.heap.size := (Array.getElem?_eq_some_iff.1 h2).1
        have q2 : w.heap.size + 1 < W.heap.size := (Array.getElem?_eq_some_iff.1 h3).1
        exact ⟨h1.trans (hb2.mono (by omega)), (hb2.block _ q1).trans h2, s, (hb2.block _ q2).trans h3⟩
      cases hli with
      | empty hf =>
        rw [hf] at hown ⊢
        have hS3 : Sent w N (lns script) outs (i + 1) W2 := hS2.none (by omega) hot
        refine wpN_seq (of_wp ?_)
        go_wp2
        refine wpN_cond (t := false) rfl (of_wp (wp_skip ?_))
        refine of_wp ?_
        go_wp2
        exact ⟨⟨i + 1, _, _, _, _, _, _, _, _, _, _, _, _, _, _, _, _, _, _, _, _, _, by omega, hS3, rfl⟩, by simp [at21]; omega⟩
      | mark f fs hf hc =>
        rw [hf] at hown ⊢
        have hc0 := hown.cellAt 0 (by simp)
        simp at hc0
        have hfz : 0 < f.size := by
          have := (Array.getElem?_eq_some_iff.1 hc).1
          simpa using this
        have hb0 : f[0] = 35 := by
          obtain ⟨h1, h2⟩ := Array.getElem?_eq_some_iff.1 hc
          exact h2
        have hS3 : Sent w N (lns script) outs (i + 1) W2 := hS2.none (by omega) hot
        refine wpN_seq (of_wp ?_)
        go_wp2
        refine wpN_cond (t := false) (by simp [Act.eval, hb0]) (of_wp (wp_skip ?_))
        refine of_wp ?_
        go_wp2
        exact ⟨⟨i + 1, _, _, _, _, _, _, _, _, _, _, _, _, _, _, _, _, _, _, _, _, _, by omega, hS3, rfl⟩, by simp [at21]; omega⟩
      | tells f fs c o hf hc hne hcall =>
        have hcl2 := hcall W2 A W.heap.size (by have := hS.below.size; omega) hS2.below hown
        rw [hf] at hown hcl2 ⊢
        have hc0 := hown.cellAt 0 (by simp)
        simp at hc0
        have hfz : 0 < f.size := by
          have := (Array.getElem?_eq_some_iff.1 hc).1
          simpa using this
        have hb0 : f[0] = c := by
          obtain ⟨h1, h2⟩ := Array.getElem?_eq_some_iff.1 hc
          exact h2
        have hcn : c.toNat ≠ 35 := fun h => hne (UInt8.toNat_inj.1 (by rw [h]; rfl))
        refine wpN_seq (of_wp ?_)
        go_wp2
        refine wpN_cond (t := true) (by simp [Act.eval, hb0]; omega) ?_
        rw [if_pos rfl]
        refine wpN_cut 3 (by decide) ?_
        simp only [List.take_succ_cons, List.take_zero]
        go_wp2_with (go_at_call 19; refine hcl2.mono ?_; rintro e W3 ⟨rfl, hb3⟩)
        have hS2' := hS2.next hb3
        obtain ⟨s, hch⟩ := hS2'.chan
        have hS3 : Sent w N (lns script) outs (i + 1) (W3.setChan (w.heap.size + 1) (N + 1) ((((outs.take i).filterMap id).map Value.string).toArray.push (.string o)) false (s + 1) 0 false) := hS2'.some (by omega) hot hch
        refine .inl ⟨rfl, ?_⟩
        show OpsTo _ _ _ [3] _ _
        refine ops_send (v := .string o) (z := .tuple #[]) rfl rfl (by simp [execOp, Act.eval, scase]) hch (by
          have := List.length_filterMap_le id (outs.take i)
          have h2 := List.length_take_le i outs
          simp
          omega) (OpsTo.nil ?_)
        generalize W3.setChan _ _ _ _ _ _ _ = W4 at hS3 ⊢
        refine of_wp ?_
        go_wp2
        exact ⟨⟨i + 1, _, _, _, _, _, _, _, _, _, _, _, _, _, _, _, _, _, _, _, _, _, by omega, hS3, rfl⟩, by simp [at21]; omega⟩
    · have hi1 : i = N + 1 := by omega
      subst hi1
      generalize hos : outs.filterMap id = os at hsz ⊢
      obtain ⟨hbl, hrow, s, hch⟩ := hS
      rw [List.take_of_length_le (by omega), hos] at hch
      have q2 : w.heap.size + 1 < W.heap.size := (Array.getElem?_eq_some_iff.1 hch).1
      refine wpN_seq (of_wp ?_)
      go_wp2
      refine wpN_seq (of_wp (wp_label ?_))
      have hd0 : Drain w N W.heap.size os 0 (W.alloc (.cells #[.pointer none, .slice none 0 0] 48)) := by
        refine ⟨hbl.alloc (by omega) _, ⟨s, 0, ?_⟩, Lib.fresh_isBuilder 48 5 W, by omega⟩
        rw [Lib.alloc_old _ _ _ q2]; exact hch
      refine wpN_seq ?_
      refine wpN_block (wpN_loop (fun a V => ∃ (j : Nat) (v10 v21 v22 v41 v42 v43 v44 v45 v46 v47 v48 : Value), j ≤ os.length ∧ Drain w N W.heap.size os j V ∧ a = { tmps := #[.string script, undef, .string ⟨#[]⟩, .int .i64 0, Value.slice (some ⟨w.heap.size, 0, none⟩) (N + 1) (N + 1), .chan (some (w.heap.size + 1)), undef, u7, u8, .pointer (some ⟨W.heap.size, 0, none⟩), v10, .string script, .int .i64 script.size, .bool (decide (65536 < (script.size : Int))), .string script, Value.slice (some ⟨w.heap.size, 0, none⟩) (N + 1) (N + 1), Value.slice (some ⟨w.heap.size, 0, none⟩) (N + 1) (N + 1), .int .i64 ((N : Int) + 1), .chan (some (w.heap.size + 1)), Value.slice (some ⟨w.heap.size, 0, none⟩) (N + 1) (N + 1), .int .i64 ((N : Int) + 1), v21, v22, u23, u24, u25, u26, u27, u28, u29, u30, u31, u32, u33, u34, u35, u36, u37, u38, u39, u40, v41, v42, v43, v44, v45, v46, v47, v48, undef], defers := [] }) (fun _ V => bufLen V (w.heap.size + 1)) ?_ ?_)
      · exact ⟨0, _, _, _, _, _, _, _, _, _, _, _, Nat.zero_le _, hd0, rfl⟩
      · rintro a V ⟨j, v10, v21, v22, v41, v42, v43, v44, v45, v46, v47, v48, hj, hD, rfl⟩
        refine wpN_block ?_
        refine wpN_seq (of_wp ?_)
        go_wp2
        obtain ⟨hV, ⟨s, r, hc⟩, hB, hW⟩ := hD
        refine wpN_seq (wpN_region ?_)
        rcases Nat.lt_or_ge j os.length with hjl | hjl
        · have hdr : os.drop j = os[j] :: os.drop (j + 1) := (List.drop_eq_getElem_cons hjl)
          have hc' := hc
          rw [hdr] at hc
          show OpsTo _ _ _ [0, 1, 2] _ _
          rw [List.map_cons] at hc
          refine ops_sel_cons (z := .string ⟨#[]⟩) rfl rfl (by simp [execOp, Act.eval, rcase]) hc ?_
          intro V2 hV2
          have q3 : w.heap.size + 1 < V.heap.size := (Array.getElem?_eq_some_iff.1 hc).1
          have hm0 : bufLen V (w.heap.size + 1) = os.length - j := by simp [bufLen, hc']
          have hV3 : Below w.heap.size w V2 := hV2 ▸ below_setChan hV (by omega) _ _ _ _ _ _
          have hB3 : Lib.IsBuilder 48 5 W.heap.size W.heap.size (Lib.byteCells (jt (os.take j))) V2 := hV2 ▸ isBuilder_setChan hB hW _ _ _ _ _ _
          have hc3 : V2.heap[w.heap.size + 1]? = some (.chan (N + 1) ((os.drop (j + 1)).map Value.string).toArray false s (r + 1) false) := hV2 ▸ heap_setChan _ _ _ _ _ _ _ _ q3
          have hW3 : W.heap.size ≤ V2.heap.size := by rw [hV2]; have := isBuilder_lt hB; simp [World.setChan]; omega
          have hws := knPut W.heap.size os j hjl hsz V2 hB3 hW3 ⟨#[10]⟩ rfl
          have hoj : (os[j]).size ≤ 1000000000 := by
            have h1 := jt_le os (j + 1)
            rw [jt_take os j hjl] at h1
            simp only [List.length_append, List.length_cons, List.length_nil] at h1
            have h5 : (os[j]).size = (os[j]).data.toList.length := by simp
            omega
          clear hV2 hV hB hB3
          generalize os[j] = oj at hws hoj
          clear hdr hc' hbl hrow hch hd0 hmk hsp h0
          refine ops_two rfl rfl ?_
          go_wp2
          refine wpN_block (wpN_cond (t := true) rfl ?_)
          rw [if_pos rfl]
          refine of_wp ?_
          go_wp2_with (go_at_call 20; refine hws.mono ?_; rintro e V3 ⟨rfl, hB4, hb4⟩)
          refine ⟨⟨j + 1, _, _, _, _, _, _, _, _, _, _, _, by omega, ⟨hV3.trans (hb4.mono (by omega)), ⟨s, r + 1, (hb4.block _ hW).trans hc3⟩, hB4, hW⟩, rfl⟩, ?_⟩
          rw [hm0]
          simp only [bufLen, (hb4.block _ hW).trans hc3]
          simp
          all_goals omega
        · have hdr : os.drop j = [] := List.drop_eq_nil_of_le hjl
          have hje : j = os.length := by omega
          subst hje
          rw [hdr] at hc
          rw [List.take_of_length_le (Nat.le_refl _)] at hB
          show OpsTo _ _ _ [0, 1, 2] _ _
          refine ops_sel_default (z := .string ⟨#[]⟩) rfl rfl (by simp [execOp, Act.eval, rcase]) hc ?_
          have hst := knString W.heap.size W.heap.size (jt os) V hB (by have := isBuilder_lt hB; omega)
          clear hdr hc hbl hrow hch hd0 hmk hsp h0 hB
          refine ops_two rfl rfl ?_
          go_wp2
          refine wpN_block (wpN_cond (t := false) rfl ?_)
          refine of_wp ?_
          go_wp2
          refine of_wp ?_
          go_wp2_with (go_at_call 21; refine hst.mono ?_; rintro e V3 ⟨rfl, hb4⟩)
          simp only [Exit.noGoto_ret]
          go_ret2
          exact ⟨rfl, hV.trans (hb4.mono (by omega))⟩
end Go.Kn
