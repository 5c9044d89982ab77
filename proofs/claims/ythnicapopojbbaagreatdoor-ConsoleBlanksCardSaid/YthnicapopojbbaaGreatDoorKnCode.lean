/-
  Code of a function that communicates with itself over a buffered channel, on a lone goroutine: rules beside the kit's (for frames that are no start-up's).
-/
import Derived.Conc.LoneSelect
import Derived.Conc.LoneCalls
import Derived.Tactics
import Derived.Orders
namespace Go.Kn
open Go Go.Conc
/-- What holds behind a code. -/
def WpN (P : Program) (c : Code) (Q : Exit → Act → World → Prop) (a : Act) (w : World) : Prop :=
  ∀ (b : Frame) (k : List Item) (cs : List Frame), b.kind ≠ .early → ∃ e a' w', Q e a' w' ∧ Arrives P (lone (b.at a (.code c :: k)) cs w) b k cs e a' w'
/-- What holds behind a part of a region. -/
def OpsTo (P : Program) (ops : Array Oper) (Q : Exit → Act → World → Prop) (l : List Nat) (a : Act) (w : World) : Prop :=
  ∀ (b : Frame) (k : List Item) (cs : List Frame), b.kind ≠ .early → ∃ e a' w', Q e a' w' ∧ Arrives P (lone (b.at a (.inRegion ops l :: k)) cs w) b k cs e a' w'
section
variable {P : Program} {Q : Exit → Act → World → Prop} {a : Act} {w : World}
theorem of_wp {c : Code} (h : c.wp P Q a w) : WpN P c Q a w := fun b k cs _ => h b k cs
theorem WpN.mono {c : Code} {Q' : Exit → Act → World → Prop} (h : WpN P c Q a w) (hq : ∀ e a w, Q e a w → Q' e a w) : WpN P c Q' a w :=
  fun b k cs hb => let ⟨e, a', w', q, r⟩ := h b k cs hb; ⟨e, a', w', hq _ _ _ q, r⟩
theorem wpN_seq {x y : Code} (h : WpN P x (Exit.then (WpN P y Q) Q) a w) : WpN P (Code.seq x y) Q a w := by
  intro b k cs hb
  obtain ⟨e, a₁, w₁, hq, harr⟩ := h b (.code y :: k) cs hb
  cases e with
  | normal =>
    obtain ⟨e₂, a₂, w₂, hq₂, harr₂⟩ := hq b k cs hb
    exact ⟨e₂, a₂, w₂, hq₂, .of_steps (.head step_seq harr) harr₂⟩
  | exit id => exact ⟨_, a₁, w₁, hq, .of_steps (.one step_seq) (.pass (x := .code y) rfl (fun _ _ => .inl (by simp)) harr)⟩
  | goto l => exact ⟨_, a₁, w₁, hq, .of_steps (.one step_seq) (.pass (x := .code y) rfl (fun _ _ => .inl (by simp)) harr)⟩
  | ret => exact ⟨_, a₁, w₁, hq, .of_steps (.one step_seq) (.pass (x := .code y) rfl (fun _ _ => .inl (by simp)) harr)⟩
  | panic ch => exact ⟨_, a₁, w₁, hq, .of_steps (.one step_seq) (.pass (x := .code y) rfl (fun _ _ => .inl (by simp)) harr)⟩
  | outgrown => exact ⟨_, a₁, w₁, hq, .of_steps (.one step_seq) (.pass (x := .code y) rfl (fun _ _ => .inl (by simp)) harr)⟩
theorem wpN_cond {c : Operand} {x y : Code} {t : Bool} (hc : a.eval c = .bool t) (h : WpN P (if t then x else y) Q a w) : WpN P (Code.cond c x y) Q a w :=
  fun b k cs hb => let ⟨e, a', w', q, r⟩ := h b k cs hb; ⟨e, a', w', q, .of_steps (.one (step_cond hc)) r⟩
theorem wpN_block {id : Nat} {c : Code} (h : WpN P c (Exit.inBlock id Q) a w) : WpN P (Code.block id c) Q a w := by
  intro b k cs hb
  obtain ⟨e, a₁, w₁, hq, harr⟩ := h b (.inBlock id :: k) cs hb
  cases e with
  | normal => exact ⟨.normal, a₁, w₁, hq, .head step_block (Steps.trans harr (.one step_inBlock))⟩
  | exit id' =>
    by_cases hid : id' = id
    · simp only [Exit.inBlock, hid, if_true] at hq
      exact ⟨.normal, a₁, w₁, hq, .head step_block (harr k (by simp [exitTo, hid]))⟩
    · simp only [Exit.inBlock, hid, if_false] at hq
      refine ⟨.exit id', a₁, w₁, hq, fun k' hk => .head step_block (harr k' ?_)⟩
      have : (id == id') = false := by simp; exact fun h => hid h.symm
      simp [exitTo, this, hk]
  | goto l => exact ⟨_, a₁, w₁, hq, fun k' hk => .head step_block (harr k' (by simp [gotoIn, hk]))⟩
  | ret => exact ⟨_, a₁, w₁, hq, .of_steps (.one step_block) harr⟩
  | panic ch => exact ⟨_, a₁, w₁, hq, .of_steps (.one step_block) harr⟩
  | outgrown => exact ⟨_, a₁, w₁, hq, .of_steps (b := b) (k := k) (cs := cs) (e := .outgrown) (.one step_block) harr⟩
theorem wpN_loop {c : Code} (I : Act → World → Prop) (μ : Act → World → Nat) (h₀ : I a w)
    (round : ∀ a w, I a w → WpN P c (Exit.then (fun a' w' => I a' w' ∧ μ a' w' < μ a w) Q) a w) : WpN P (Code.loop c) Q a w := by
  intro b k cs hb
  have key : ∀ n a w, μ a w = n → I a w →
      ∃ e a' w', Q e a' w' ∧ Arrives P (lone (b.at a (.code c :: .inLoop c :: k)) cs w) b k cs e a' w' := by
    intro n
    induction n using Nat.strongRecOn with
    | _ n ih =>
      intro a w hn hI
      obtain ⟨e, a₁, w₁, hq, harr⟩ := round a w hI b (.inLoop c :: k) cs hb
      cases e with
      | normal =>
        obtain ⟨hI₁, hlt⟩ := hq
        obtain ⟨e₂, a₂, w₂, hq₂, harr₂⟩ := ih (μ a₁ w₁) (hn ▸ hlt) a₁ w₁ rfl hI₁
        exact ⟨e₂, a₂, w₂, hq₂, .of_steps (Steps.trans harr (.one step_inLoop)) harr₂⟩
      | exit id => exact ⟨_, a₁, w₁, hq, .pass (x := .inLoop c) rfl (fun _ _ => .inl (by simp)) harr⟩
      | goto l => exact ⟨_, a₁, w₁, hq, .pass (x := .inLoop c) rfl (fun _ _ => .inl (by simp)) harr⟩
      | ret => exact ⟨_, a₁, w₁, hq, .pass (x := .inLoop c) rfl (fun _ _ => .inl (by simp)) harr⟩
      | panic ch => exact ⟨_, a₁, w₁, hq, .pass (x := .inLoop c) rfl (fun _ _ => .inl (by simp)) harr⟩
      | outgrown => exact ⟨_, a₁, w₁, hq, .pass (x := .inLoop c) rfl (fun _ _ => .inl (by simp)) harr⟩
  obtain ⟨e, a', w', hq, harr⟩ := key _ a w rfl h₀
  exact ⟨e, a', w', hq, .of_steps (.one step_loop) harr⟩
/-! Regions -/
theorem OpsTo.nil {ops : Array Oper} (h : Q .normal a w) : OpsTo P ops Q [] a w := fun _ _ _ _ => ⟨.normal, a, w, h, .one step_region_end⟩
theorem OpsTo.step {ops : Array Oper} {l l2 : List Nat} {a2 : Act} {w2 : World} (hs : ∀ (b : Frame) (k : List Item) (cs : List Frame), b.kind ≠ .early → step P (lone (b.at a (.inRegion ops l :: k)) cs w) = .next (lone (b.at a2 (.inRegion ops l2 :: k)) cs w2))
    (h : OpsTo P ops Q l2 a2 w2) : OpsTo P ops Q l a w := fun b k cs hb =>
  let ⟨e, a', w', q, r⟩ := h b k cs hb; ⟨e, a', w', q, .of_steps (.one (hs b k cs hb)) r⟩
/-- The kit's run of the first operations, and what follows them. -/
theorem ops_then {ops : Array Oper} {l2 : List Nat} {QN : Exit → Act → World → Prop} (hQ : ∀ e a w, QN e a w → e = .normal ∧ OpsTo P ops Q l2 a w ∨ e ≠ .normal ∧ Q e a w) (l : List Nat) :
    ∀ (a : Act) (w : World), wpOps P ops QN l a w → OpsTo P ops Q (l ++ l2) a w := by
  have hout : LetsOut QN → LetsOut Q := fun ⟨a, w, h⟩ => by
    rcases hQ _ _ _ h with ⟨h1, -⟩ | ⟨-, h1⟩
    · cases h1
    · exact ⟨a, w, h1⟩
  induction l with
  | nil =>
    intro a w h
    rcases hQ _ _ _ h with ⟨-, h⟩ | ⟨h, -⟩
    · exact h
    · exact (h rfl).elim
  | cons i rest ih =>
    intro a w h b k cs hb
    rw [List.cons_append]
    simp only [wpOps] at h
    cases ho : ops[i]? with
    | none =>
      simp only [ho] at h
      obtain ⟨e, a', w', hq, harr⟩ := ih a w h b k cs hb
      have hs := step_op_skip (P := P) (b := b) (a := a) (k := k) (cs := cs) (w := w) (ops := ops) (i := i) (rest := rest ++ l2) (by simp [ho])
      simp only [ho, Option.bind_none, Act.put] at hs
      exact ⟨e, a', w', hq, .of_steps (.one hs) harr⟩
    | some o =>
      simp only [ho] at h
      by_cases hw : Region.wanted o (yielded ops a.tmps) = true
      · simp only [hw, if_true] at h
        rcases h with h | ⟨hasks, hl⟩
        case inr =>
          obtain ⟨a₀, w₀, hq⟩ := hout hl
          exact ⟨.outgrown, a₀, w₀, hq, .inr (asks_outgrown ho hw hb hasks)⟩
        simp only [Oper.wp, Oper.upon] at h
        have hg := stepG_op (P := P) (b := b) (k := k) (cs := cs) (w := w) (rest := rest ++ l2) ho hw
        have hfin : ∀ v, (b.at a (.inRegion ops (i :: (rest ++ l2)) :: k)).finish v = b.at (a.put o.dst v) (.inRegion ops (rest ++ l2) :: k) := by
          intro v; rw [Frame.finish_at, ho]; rfl
        split at h
        · rename_i v w' hr
          obtain ⟨e, a', w'', hq, harr⟩ := ih _ _ h b k cs hb
          refine ⟨e, a', w'', hq, .of_steps (.one (step_lone_go ?_)) harr⟩
          rw [hg, ← hfin]; simp [stepG.apply, hr]
        · rename_i w' hr
          obtain ⟨e, a', w'', hq, harr⟩ := ih _ _ h b k cs hb
          refine ⟨e, a', w'', hq, .of_steps (.one (step_lone_go ?_)) harr⟩
          rw [hg, ← hfin]; simp [stepG.apply, hr]
        · rename_i d w' hr
          obtain ⟨e, a', w'', hq, harr⟩ := ih _ _ h b k cs hb
          refine ⟨e, a', w'', hq, .of_steps (.one (step_lone_go ?_)) harr⟩
          have : ({ b.at a (.inRegion ops (i :: (rest ++ l2)) :: k) with defers := d :: a.defers } : Frame).finish undef =
              b.at ({ a with defers := d :: a.defers }.put o.dst undef) (.inRegion ops (rest ++ l2) :: k) := by
            have := Frame.finish_at b { a with defers := d :: a.defers } ops i (rest ++ l2) k undef
            rw [ho] at this; exact this
          rw [hg]; simp only [stepG.apply, Sem.runT_eq, hr, GStep.bare_after]
          exact congrArg (fun fr => GStep.go { frame := fr, callers := cs, status := .running, dying := none } w') this
        · rename_i f args w' hr
          obtain ⟨e, w'', fr, hR, hsteps, _, hleave⟩ := h (b.at a (.inRegion ops (i :: (rest ++ l2)) :: k) :: cs)
          have henter : step P (lone (b.at a (.inRegion ops (i :: (rest ++ l2)) :: k)) cs w) =
              .next (lone (Frame.enter P f args .normal) (b.at a (.inRegion ops (i :: (rest ++ l2)) :: k) :: cs) w') :=
            step_lone_go (by rw [hg]; simp [stepG.apply, hr, Frame.at])
          cases e with
          | returned v =>
            obtain ⟨e, a', w₃, hq, harr⟩ := ih _ _ hR b k cs hb
            refine ⟨e, a', w₃, hq, .of_steps (.head henter (hsteps.trans (.one ?_))) harr⟩
            rw [← hfin]; exact step_leave_returned hleave
          | panicked chain =>
            rcases hQ _ _ _ hR with ⟨h1, -⟩ | ⟨-, hR⟩
            · cases h1
            refine ⟨.panic chain, a, w'', hR, .inRegion ops (i :: (rest ++ l2)) :: k, .head henter (hsteps.trans (.one ?_))⟩
            rw [← Frame.raise_at]; exact step_leave_panicked hleave
          | outgrown =>
            obtain ⟨a₀, w₀, hq⟩ := hout hR
            exact ⟨.outgrown, a₀, w₀, hq, .inr (Outgrown.of_steps (.one henter) hsteps)⟩
        · rename_i row args w' hr
          obtain ⟨v, w'', hR, hsteps⟩ := h (b.at a (.inRegion ops (i :: (rest ++ l2)) :: k)) cs
          have henter : step P (lone (b.at a (.inRegion ops (i :: (rest ++ l2)) :: k)) cs w) =
              .next (lone (Frame.ofRow P row args .normal) (b.at a (.inRegion ops (i :: (rest ++ l2)) :: k) :: cs) w') :=
            step_lone_go (by rw [hg]; simp [stepG.apply, hr, Frame.at])
          obtain ⟨e, a', w₃, hq, harr⟩ := ih _ _ hR b k cs hb
          refine ⟨e, a', w₃, hq, .of_steps (.head henter ?_) harr⟩
          rw [← hfin]; exact hsteps
        · rename_i v w' hr
          rcases hQ _ _ _ h with ⟨h1, -⟩ | ⟨-, h⟩
          · cases h1
          refine ⟨_, a, w', h, .inRegion ops (i :: (rest ++ l2)) :: k, .one (step_lone_go ?_)⟩
          rw [hg, ← Frame.raise_at]; simp [stepG.apply, hr]
        · exact h.elim
      · simp only [hw, if_false, Bool.false_eq_true] at h
        obtain ⟨e, a', w', hq, harr⟩ := ih _ _ h b k cs hb
        have hs := step_op_skip (P := P) (b := b) (a := a) (k := k) (cs := cs) (w := w) (ops := ops) (i := i) (rest := rest ++ l2)
          (by simp [ho]; simpa using hw)
        simp only [ho, Option.bind_some] at hs
        exact ⟨e, a', w', hq, .of_steps (.one hs) harr⟩
/-- A region cut in two. -/
def Cut (P : Program) (ops : Array Oper) (Q : Exit → Act → World → Prop) (l2 : List Nat) : Exit → Act → World → Prop := fun e a w => e = .normal ∧ OpsTo P ops Q l2 a w ∨ e ≠ .normal ∧ Q e a w
theorem wpN_region {id : Nat} {ops : Array Oper} (h : OpsTo P ops Q (List.range ops.size) a w) : WpN P (Code.region id ops false) Q a w :=
  fun b k cs hb => let ⟨e, a', w', q, r⟩ := h b k cs hb; ⟨e, a', w', q, .of_steps (.one step_region) r⟩
theorem wpN_draw {id : Nat} {ops : Array Oper} (h : ∀ t, OpsTo P ops Q (Region.schedule (P.follows .mixedOrders) ops t) a { w with drawn := w.drawn + 1 }) : WpN P (Code.region id ops true) Q a w :=
  fun b k cs hb => let ⟨e, a', w', q, r⟩ := h _ b k cs hb; ⟨e, a', w', q, .of_steps (.one step_region_draw) r⟩
theorem wpOps_part {ops : Array Oper} (l : List Oper) : ∀ k, (∀ (j : Nat) (h : j < l.length), ops[k + j]? = some l[j]) → wpOps P ops Q (List.range' k l.length) = wpList P ops Q l := by
  induction l with
  | nil => intro k _; funext a w; simp [wpOps, wpList]
  | cons o l ih =>
    intro k h
    have h0 : ops[k]? = some o := h 0 (by simp)
    have ih' := ih (k + 1) (fun j hj => by have := h (j + 1) (by simp; omega); simpa [Nat.add_assoc, Nat.add_comm 1 j] using this)
    funext a w
    simp only [List.length_cons, List.range'_succ, wpOps, h0, wpList, ih']
/-- The first operations by the kit's walk, the others by what follows. -/
theorem wpN_cut {id : Nat} {l : List Oper} (j : Nat) (hj : j ≤ l.length) (h : wpList P l.toArray (Cut P l.toArray Q (List.range' j (l.length - j))) (l.take j) a w) : WpN P (Code.region id l.toArray false) Q a w := by
  refine wpN_region ?_
  have h2 := wpOps_part (P := P) (ops := l.toArray) (Q := Cut P l.toArray Q (List.range' j (l.length - j))) (l.take j) 0 (fun i hi => by
    rw [List.length_take] at hi
    simp only [Nat.zero_add, List.getElem?_toArray, List.getElem_take]
    exact List.getElem?_eq_getElem (by omega))
  have h3 := ops_then (P := P) (ops := l.toArray) (Q := Q) (l2 := List.range' j (l.length - j)) (QN := Cut P l.toArray Q (List.range' j (l.length - j))) (fun _ _ _ h => h) (List.range' 0 j) a w
  have e : List.range l.toArray.size = List.range' 0 j ++ List.range' j (l.length - j) := by
    rw [List.range_eq_range', List.size_toArray]
    have := List.range'_append (s := 0) (m := j) (n := l.length - j) (step := 1)
    rw [show j + (l.length - j) = l.length by omega] at this
    rw [← this]; simp
  rw [e]
  rw [List.length_take, Nat.min_eq_left hj] at h2
  exact h3 (by rw [h2]; exact h)
/-- The operations behind. -/
theorem ops_rest {ops : Array Oper} (l : List Oper) (k : Nat) (hl : ∀ (j : Nat) (h : j < l.length), ops[k + j]? = some l[j]) (h : wpList P ops Q l a w) : OpsTo P ops Q (List.range' k l.length) a w := by
  intro b m cs _
  refine wp_ops (P := P) (ops := ops) (Q := Q) (List.range' k l.length) a w ?_ b m cs
  rw [wpOps_part l k hl]; exact h
/-- A call of a function whose code is walked so. -/
theorem calls_of_wpN {f : FuncId} {fn : Func} {c : Code} {args : Array Value} {w : World} {R : Ending → World → Prop}
    (hf : P.funcs[f]? = some fn) (hb : fn.body = some c)
    (h : WpN P c (bodyPost P fn R) { tmps := args ++ Array.replicate (fn.ntmps - args.size) undef, defers := [] } w) : Calls P f args w R := by
  intro cs
  let b : Frame := { (default : Frame) with fn := f, kind := .normal }
  have henter : Frame.enter P f args .normal =
      b.at { tmps := args ++ Array.replicate (fn.ntmps - args.size) undef, defers := [] } [.code c] := by
    simp [Frame.enter, Frame.at, hf, hb, b]
  obtain ⟨e, a', w', hq, harr⟩ := h b [] cs (by simp [b])
  rw [← henter] at harr
  cases e with
  | normal =>
    obtain ⟨hd, v, hr, hR⟩ := hq
    exact ⟨.returned v, w', _, hR, Steps.trans harr (.one step_end), rfl, rfl, hd, rfl, fn, hf, hr⟩
  | ret =>
    obtain ⟨hd, v, hr, hR⟩ := hq
    obtain ⟨todo, hs⟩ := harr
    exact ⟨.returned v, w', _, hR, hs, rfl, rfl, hd, rfl, fn, hf, hr⟩
  | panic chain =>
    obtain ⟨hd, hR⟩ := hq
    obtain ⟨todo, hs⟩ := harr
    exact ⟨.panicked chain, w', _, hR, hs, rfl, rfl, hd, fn, hf⟩
  | exit id => exact hq.elim
  | goto l => exact hq.elim
  | outgrown => exact ⟨.outgrown, w', b, hq, harr.resolve_left (by simp [b]), rfl, trivial⟩
/-! What a channel does, nobody else being there. -/
theorem ops_send {ops : Array Oper} {i : Nat} {rest : List Nat} {o : Oper} {c cap s r : Nat} {buf : Array Value} {v z : Value} (ho : ops[i]? = some o) (hw : Region.wanted o (yielded ops a.tmps) = true)
    (hr : (execOp a.eval o).run P w = .ok (.comm #[scase c v z] true .send) w) (hc : w.heap[c]? = some (.chan cap buf false s r false)) (hroom : buf.size < cap)
    (h : OpsTo P ops Q rest (a.put o.dst undef) (w.setChan c cap (buf.push v) false (s + 1) r false)) : OpsTo P ops Q (i :: rest) a w := by
  refine OpsTo.step (fun b k cs hb => ?_) h
  have h1 := step_lone_send_room (P := P) (stepG_comm (P := P) (main := true) (b := b) (k := k) (cs := cs) (ops := ops) (rest := rest) ho hw hb hr) hc hroom
  rw [Frame.finish_at, ho] at h1
  exact h1
theorem ops_sel_buf {ops : Array Oper} {i : Nat} {rest : List Nat} {o : Oper} {c cap s r : Nat} {buf : Array Value} {closed : Bool} {z : Value} (ho : ops[i]? = some o) (hw : Region.wanted o (yielded ops a.tmps) = true)
    (hr : (execOp a.eval o).run P w = .ok (.comm #[rcase c z] false .select) w) (hc : w.heap[c]? = some (.chan cap buf closed s r false)) (hsome : 0 < buf.size)
    (h : OpsTo P ops Q rest (a.put o.dst (.tuple #[goInt 0, .bool true, buf.getD 0 undef])) (w.setChan c cap (buf.extract 1 buf.size) closed s (r + 1) false)) : OpsTo P ops Q (i :: rest) a w := by
  refine OpsTo.step (fun b k cs hb => ?_) h
  have h1 := step_lone_select_recv_buf (P := P) (stepG_comm (P := P) (main := true) (b := b) (k := k) (cs := cs) (ops := ops) (rest := rest) ho hw hb hr) hc hsome
  rw [Frame.finish_at, ho] at h1
  exact h1
theorem ops_sel_default {ops : Array Oper} {i : Nat} {rest : List Nat} {o : Oper} {c cap s r : Nat} {z : Value} (ho : ops[i]? = some o) (hw : Region.wanted o (yielded ops a.tmps) = true)
    (hr : (execOp a.eval o).run P w = .ok (.comm #[rcase c z] false .select) w) (hc : w.heap[c]? = some (.chan cap #[] false s r false))
    (h : OpsTo P ops Q rest (a.put o.dst (.tuple #[goInt (-1), .bool false, z])) w) : OpsTo P ops Q (i :: rest) a w := by
  refine OpsTo.step (fun b k cs hb => ?_) h
  have h1 := step_lone_select_default (P := P) (stepG_comm (P := P) (main := true) (b := b) (k := k) (cs := cs) (ops := ops) (rest := rest) ho hw hb hr) hc
  rw [Frame.finish_at, ho] at h1
  exact h1
end
end Go.Kn
