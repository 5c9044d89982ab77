/-
  Each operation of the evaluator against the model's: more of them.
-/
import Derived.Test.YtmnkmmfjekcinaaGreatEvForce
set_option linter.unusedVariables false
set_option linter.unusedSimpArgs false
namespace Go.Ev
section
variable {P : Program} {val : Nat → Int} {fz : Fz} {tm : TM} {mu : St} {n : Nat} {o : Oper}

theorem sound_binS {t u : TypeId} {op : BinOp} {x y : Operand} {x' y' : Od} {kd : IntKind} {a b : Int} {s s' : SV} (ho : o.op = .binOp op t x y u) (hx : od P x = some x') (hy : od P y = some y')
    (ex : IsI val (ev tm x') kd a) (ey : IsI val (ev tm y') kd b) (hs : numOp op kd a b = some s') (he : SvEq val s s') : Sound P val fz tm mu n o (.one s) mu n := by
  refine sound_pure fun ρ w act _ hop => ?_
  have g1' := ex.eval (hop x x' (by simp [ho, Op.operands]) hx)
  have g2' := ey.eval (hop y y' (by simp [ho, Op.operands]) hy)
  obtain ⟨r1, r2⟩ := numOp_run (P := P) (val := val) hs t x y w
  refine ⟨svVal s', ?_, he.vr (r2 ρ)⟩
  simp only [execOp, ho, g1', g2', Sem.run_bind] at r1 ⊢
  rw [r1]
  rfl

theorem sound_shift {t u : TypeId} {left : Bool} {x y : Operand} {x' y' : Od} {kd kd' : IntKind} {a b : Int} (ho : o.op = .binOp (if left then .shl else .shr) t x y u) (hx : od P x = some x') (hy : od P y = some y')
    (ex : ev tm x' = .one (.int kd a)) (ey : ev tm y' = .one (.int kd' b)) (hb : ¬ b < 0) :
    Sound P val fz tm mu n o (.one (.int kd (if left then kd.wrap (a * 2 ^ min b.toNat kd.bits) else a.fdiv (2 ^ min b.toNat kd.bits)))) mu n := by
  refine sound_pure fun ρ w act _ hop => ?_
  have g1 := hop x x' (by simp [ho, Op.operands]) hx
  have g2 := hop y y' (by simp [ho, Op.operands]) hy
  rw [ex] at g1; rw [ey] at g2
  have g1' : act.eval x = .int kd a := g1
  have g2' : act.eval y = .int kd' b := g2
  cases left
  · exact ⟨_, by simp [execOp, ho, g1', g2', eqGuard_shr, binOp, Op.shift, hb], rfl⟩
  · exact ⟨_, by simp [execOp, ho, g1', g2', eqGuard_shl, binOp, Op.shift, hb], rfl⟩

theorem strBin_run {op : BinOp} {a b : ByteArray} {s : SV} (h : strBin op a b = some s) (t : TypeId) (x y : Operand) (w : World) :
    (do eqGuard op t x y (.string a) (.string b); binOp op t (.string a) (.string b) : Sem Value).run P w = .ok (svVal s) w ∧ ∀ (ρ : Rho), VR val ρ w s (svVal s) := by
  have hg : (eqGuard op t x y (.string a) (.string b)).run P w = .ok () w := by cases op <;> rfl
  cases op <;> simp [strBin] at h
  case add =>
    obtain ⟨h0, h⟩ := h; subst h
    have : ¬ ((a.size + b.size : Nat) : Int) > IntKind.i64.max := by simp; omega
    simp [hg, binOp, Op.stringOp, svVal, VR]
    omega
  all_goals (subst h; simp [hg, binOp, Op.stringOp, svVal, VR])

theorem sound_sbin {t u : TypeId} {op : BinOp} {x y : Operand} {x' y' : Od} {a b : ByteArray} {s : SV} (ho : o.op = .binOp op t x y u) (hx : od P x = some x') (hy : od P y = some y')
    (ex : ev tm x' = .one (.str a)) (ey : ev tm y' = .one (.str b)) (hs : strBin op a b = some s) : Sound P val fz tm mu n o (.one s) mu n := by
  refine sound_pure fun ρ w act _ hop => ?_
  have g1 := hop x x' (by simp [ho, Op.operands]) hx
  have g2 := hop y y' (by simp [ho, Op.operands]) hy
  rw [ex] at g1; rw [ey] at g2
  have g1' : act.eval x = .string a := g1
  have g2' : act.eval y = .string b := g2
  obtain ⟨r1, r2⟩ := strBin_run (P := P) (val := val) hs t x y w
  refine ⟨svVal s, ?_, r2 ρ⟩
  simp only [execOp, ho, g1', g2', Sem.run_bind] at r1 ⊢
  rw [r1]
  rfl

theorem run_equal {w : World} {t : TypeId} {x y : Value} {b : Bool} (h : ∀ d, (Op.equalIn (d + 1) t x y).run P w = .ok b w) : (Op.equal t x y).run P w = .ok b w := h 9999
/-- == and != where they ask the type. -/
theorem run_eq_ne {w : World} {neg : Bool} {t : TypeId} {x y : Value} {b : Bool} (h : (Op.equal t x y).run P w = .ok b w) (hb : (∃ p q, x = .bool p ∧ y = .bool q) ∨ (∃ p l c q m d, x = .slice p l c ∧ y = .slice q m d) ∨ ∃ p q, x = .pointer p ∧ y = .pointer q) :
    (binOp (if neg then .neq else .eql) t x y).run P w = .ok (.bool (neg != b)) w := by
  rcases hb with ⟨p, q, rfl, rfl⟩ | ⟨p, l, c, q, m, d, rfl, rfl⟩ | ⟨p, q, rfl, rfl⟩
  all_goals
    cases neg
    · simp only [binOp, Bool.false_eq_true, if_false, Sem.run_bind, h, Result.andThen_ok, Sem.run_pure]; simp
    · simp only [binOp, if_true, Sem.run_bind, h, Result.andThen_ok, Sem.run_pure]; simp

theorem sound_eqb {t u : TypeId} {neg : Bool} {x y : Operand} {x' y' : Od} {a b : Bool} (ho : o.op = .binOp (if neg then .neq else .eql) t x y u) (hu : P.underlying t = some .bool) (hx : od P x = some x') (hy : od P y = some y')
    (ex : ev tm x' = .one (.bool a)) (ey : ev tm y' = .one (.bool b)) : Sound P val fz tm mu n o (.one (.bool (neg != (a == b)))) mu n := by
  refine sound_pure fun ρ w act _ hop => ?_
  have g1 := hop x x' (by simp [ho, Op.operands]) hx
  have g2 := hop y y' (by simp [ho, Op.operands]) hy
  rw [ex] at g1; rw [ey] at g2
  have g1' : act.eval x = .bool a := g1
  have g2' : act.eval y = .bool b := g2
  refine ⟨.bool (neg != (a == b)), ?_, rfl⟩
  have h1 := run_eq_ne (P := P) (w := w) (neg := neg) (t := t) (b := a == b) (run_equal fun d => by simp [Op.equalIn, underlying, hu]) (.inl ⟨a, b, rfl, rfl⟩)
  simp only [execOp, ho, g1', g2', eqGuard_at_bool, Sem.run_bind, Sem.run_pure, Result.andThen_ok, h1]

theorem nilness_val {ρ : Rho} {w : World} {sl : Bool} {s : SV} {x : Value} {b : Bool} (h : nilness sl s = some b) (hv : VR val ρ w s x) :
    (sl = true ∧ ∃ a l c, x = .slice a l c ∧ a.isNone = b) ∨ (sl = false ∧ ∃ a, x = .pointer a ∧ a.isNone = b) := by
  cases sl with
  | true =>
    left; refine ⟨rfl, ?_⟩
    cases s <;> simp [nilness] at h <;> subst h
    · cases hv; exact ⟨none, 0, 0, rfl, rfl⟩
    · obtain ⟨p, c, _, rfl, _⟩ := hv; exact ⟨_, _, _, rfl, rfl⟩
    · obtain ⟨p, rfl⟩ := hv; exact ⟨_, _, _, rfl, rfl⟩
    · obtain ⟨p, c, rfl⟩ := hv; exact ⟨_, _, _, rfl, rfl⟩
  | false =>
    right; refine ⟨rfl, ?_⟩
    cases s <;> simp [nilness] at h <;> subst h
    · cases hv; exact ⟨none, rfl, rfl⟩
    · obtain ⟨p, _, rfl⟩ := hv; exact ⟨_, rfl, rfl⟩

theorem equal_slices {w : World} {t e : TypeId} (hu : P.underlying t = some (.slice e)) (a b : Option Addr) (l c m d : Nat) (h : (a.isNone || b.isNone) = true) : (Op.equal t (.slice a l c) (.slice b m d)).run P w = .ok (a.isNone && b.isNone) w :=
  run_equal fun k => by
    cases a with
    | none => simp [Op.equalIn, underlying, hu]
    | some x => cases b with
      | none => simp [Op.equalIn, underlying, hu]
      | some y => cases h
theorem equal_pointers {w : World} {t e : TypeId} (hu : P.underlying t = some (.pointer e)) (a b : Option Addr) (h : (a.isNone || b.isNone) = true) : (Op.equal t (.pointer a) (.pointer b)).run P w = .ok (a.isNone && b.isNone) w :=
  run_equal fun k => by
    cases a with
    | none => simp [Op.equalIn, underlying, hu]
    | some x => cases b with
      | none => simp [Op.equalIn, underlying, hu]
      | some y => cases h

theorem sound_eqn {t u : TypeId} {sl neg : Bool} {x y : Operand} {x' y' : Od} {s1 s2 : SV} {a b : Bool} (ho : o.op = .binOp (if neg then .neq else .eql) t x y u)
    (hu : (sl = true ∧ ∃ e, P.underlying t = some (.slice e)) ∨ (sl = false ∧ ∃ e, P.underlying t = some (.pointer e))) (hx : od P x = some x') (hy : od P y = some y')
    (ex : ev tm x' = .one s1) (ey : ev tm y' = .one s2) (ha : nilness sl s1 = some a) (hb : nilness sl s2 = some b) (hab : (a || b) = true) : Sound P val fz tm mu n o (.one (.bool (neg != (a && b)))) mu n := by
  refine sound_pure fun ρ w act _ hop => ?_
  have g1 := hop x x' (by simp [ho, Op.operands]) hx
  have g2 := hop y y' (by simp [ho, Op.operands]) hy
  rw [ex] at g1; rw [ey] at g2
  refine ⟨.bool (neg != (a && b)), ?_, rfl⟩
  rcases nilness_val ha g1 with ⟨e1, a1, l1, c1, e2, e3⟩ | ⟨e1, a1, e2, e3⟩
  · rcases nilness_val hb g2 with ⟨f1, a2, l2, c2, f2, f3⟩ | ⟨f1, _⟩
    · rcases hu with ⟨_, e, hu⟩ | ⟨h, _⟩
      · have hg : ∀ op, (eqGuard op t x y (.slice a1 l1 c1) (.slice a2 l2 c2)).run P w = .ok () w := fun op => by cases op <;> rfl
        subst e3; subst f3
        have he := equal_slices (P := P) (w := w) hu a1 a2 l1 c1 l2 c2 hab
        have h1 := run_eq_ne (P := P) (w := w) (neg := neg) (t := t) he (.inr (.inl ⟨_, _, _, _, _, _, rfl, rfl⟩))
        simp only [execOp, ho, e2, f2, hg, Sem.run_bind, Sem.run_pure, Result.andThen_ok, h1]
      · rw [e1] at h; cases h
    · rw [e1] at f1; cases f1
  · rcases nilness_val hb g2 with ⟨f1, _⟩ | ⟨f1, a2, f2, f3⟩
    · rw [e1] at f1; cases f1
    · rcases hu with ⟨h, _⟩ | ⟨_, e, hu⟩
      · rw [e1] at h; cases h
      · have hg : ∀ op, (eqGuard op t x y (.pointer a1) (.pointer a2)).run P w = .ok () w := fun op => by cases op <;> rfl
        subst e3; subst f3
        have he := equal_pointers (P := P) (w := w) hu a1 a2 hab
        have h1 := run_eq_ne (P := P) (w := w) (neg := neg) (t := t) he (.inr (.inr ⟨_, _, rfl, rfl⟩))
        simp only [execOp, ho, e2, f2, hg, Sem.run_bind, Sem.run_pure, Result.andThen_ok, h1]

theorem sound_conv {t u : TypeId} {x : Operand} {y : Od} {k k' kd : IntKind} {a : Int} (ho : o.op = .convert t u x) (ht : P.underlying t = some (.int k')) (hu : P.underlying u = some (.int kd)) (hx : od P x = some y)
    (ex : ev tm y = .one (.int k a)) : Sound P val fz tm mu n o (.one (.int kd (kd.wrap a))) mu n := by
  refine sound_pure fun ρ w act _ hop => ?_
  have g := hop x y (by simp [ho, Op.operands]) hx
  rw [ex] at g
  have g' : act.eval x = .int k a := g
  exact ⟨.int kd (kd.wrap a), by simp [execOp, ho, convert, underlying, ht, hu, g', Conv.intToInt], rfl⟩
theorem sound_convSym {t u : TypeId} {x : Operand} {y : Od} {k k' kd : IntKind} {i : Nat} {s : SV} (ho : o.op = .convert t u x) (ht : P.underlying t = some (.int k')) (hu : P.underlying u = some (.int kd)) (hx : od P x = some y)
    (ex : ev tm y = .one (.sym k i)) (hs : SvEq val s (.int kd (kd.wrap (val i)))) : Sound P val fz tm mu n o (.one s) mu n := by
  refine sound_pure fun ρ w act _ hop => ?_
  have g := hop x y (by simp [ho, Op.operands]) hx
  rw [ex] at g
  have g' : act.eval x = .int k (val i) := g
  exact ⟨.int kd (kd.wrap (val i)), by simp [execOp, ho, convert, underlying, ht, hu, g', Conv.intToInt], hs.vr rfl⟩

theorem caps_R {ρ : Rho} {w : World} {a : Act} {caps : List Operand} {ys : List Od} {cs : List (Nat × Nat)} (ho : ods P caps = some ys) (hop : ∀ x y, x ∈ caps → od P x = some y → AVR val ρ w (ev tm y) (a.eval x))
    (hc : All2 (fun y c => ev tm y = .one (.optr c.1 c.2)) ys cs) : All2 (CapR ρ) cs (caps.map a.eval) := by
  induction caps generalizing ys cs with
  | nil =>
    simp [ods] at ho; subst ho
    cases cs with
    | nil => trivial
    | cons _ _ => exact hc.elim
  | cons x r ih =>
    simp only [ods] at ho
    split at ho
    · rename_i y l h1 h2
      cases ho
      cases cs with
      | nil => exact hc.elim
      | cons c cs =>
        refine ⟨?_, ih h2 (fun x y hx hy => hop x y (by simp [hx]) hy) hc.2⟩
        have g := hop x y (by simp) h1
        rw [hc.1] at g
        obtain ⟨p, hp, e⟩ := g
        exact ⟨p, hp, e⟩
    · cases ho

theorem capsK_elim {R : Type} {T : R → Prop} {z : R} (hz : ¬ T z) {l : List Od} {k : List (Nat × Nat) → R} (h : T (capsK z tm l k)) : ∃ cs, All2 (fun y c => ev tm y = .one (.optr c.1 c.2)) l cs ∧ T (k cs) := by
  induction l generalizing k with
  | nil => exact ⟨[], trivial, h⟩
  | cons x r ih =>
    obtain ⟨s, e1, h1⟩ := onOne_elim hz h
    obtain ⟨id, off, e2, h2⟩ := onPtr_elim hz h1
    subst e2
    obtain ⟨cs, h3, h4⟩ := ih h2
    exact ⟨(id, off) :: cs, ⟨e1, h3⟩, h4⟩

theorem sound_mkfn {f : Nat} {first caps : Array Operand} {ys : List Od} {cs : List (Nat × Nat)} (ho : o.op = .makeFunc (.func f) first caps) (hf : first.isEmpty = true) (hc : ods P caps.toList = some ys)
    (hcs : All2 (fun y c => ev tm y = .one (.optr c.1 c.2)) ys cs) : Sound P val fz tm mu n o (.one (.fn f cs)) mu n := by
  have hf' : first = #[] := by simpa using hf
  subst hf'
  refine sound_pure fun ρ w act _ hop => ⟨.func (.func f) #[] (caps.map act.eval), by simp [execOp, ho, Instr.makeFunc], caps.toList.map act.eval, ?_, ?_⟩
  · rw [← Array.toList_map]
  · exact caps_R hc (fun x y hx hy => hop x y (by simp [ho, Op.operands]; exact Array.mem_toList_iff.1 hx) hy) hcs

theorem sound_iaddr {t e : TypeId} {x i : Operand} {x' i' : Od} {s id off len cap : Nat} {kd : IntKind} {j : Int} (ho : o.op = .indexAddr t x i) (hu : P.underlying t = some (.slice e)) (hs : szOf P e = some s)
    (hx : od P x = some x') (hi : od P i = some i') (ex : ev tm x' = .one (.osl id off len cap s)) (ei : ev tm i' = .one (.int kd j)) (h0 : ¬ j < 0) (h1 : j.toNat < len) :
    Sound P val fz tm mu n o (.one (.optr id (off + j.toNat * s))) mu n := by
  refine sound_pure fun ρ w act _ hop => ?_
  have g1 := hop x x' (by simp [ho, Op.operands]) hx
  have g2 := hop i i' (by simp [ho, Op.operands]) hi
  rw [ex] at g1; rw [ei] at g2
  obtain ⟨p, c, hp, g1', _⟩ := g1
  have g2' : act.eval i = .int kd j := g2
  have hs' := szOf_run hs w
  refine ⟨.pointer (some ⟨p.1, p.2 + (off + j.toNat * s), none⟩), ?_, p, hp, rfl⟩
  have hj : 0 ≤ j ∧ j < (len : Int) := by omega
  simp [execOp, ho, Instr.indexAt, asIntOf, g1', g2', underlying, hu, hs', hj, addr_add, Nat.add_assoc]

theorem sound_iaddrA {t e : TypeId} {x i : Operand} {x' i' : Od} {s id off len : Nat} {kd : IntKind} {j : Int} (ho : o.op = .indexAddr t x i) (hu : P.underlying t = some (.array len e)) (hs : szOf P e = some s)
    (hx : od P x = some x') (hi : od P i = some i') (ex : ev tm x' = .one (.optr id off)) (ei : ev tm i' = .one (.int kd j)) (h0 : ¬ j < 0) (h1 : j.toNat < len) :
    Sound P val fz tm mu n o (.one (.optr id (off + j.toNat * s))) mu n := by
  refine sound_pure fun ρ w act _ hop => ?_
  have g1 := hop x x' (by simp [ho, Op.operands]) hx
  have g2 := hop i i' (by simp [ho, Op.operands]) hi
  rw [ex] at g1; rw [ei] at g2
  obtain ⟨p, hp, g1'⟩ := g1
  have g2' : act.eval i = .int kd j := g2
  have hs' := szOf_run hs w
  refine ⟨.pointer (some ⟨p.1, p.2 + (off + j.toNat * s), none⟩), ?_, p, hp, rfl⟩
  have hj : 0 ≤ j ∧ j < (len : Int) := by omega
  simp [execOp, ho, Instr.indexAt, asIntOf, g1', g2', underlying, hu, hs', hj, addr_add, Nat.add_assoc, Instr.sureAddr]

theorem sound_idx {t : TypeId} {x i : Operand} {x' i' : Od} {b : ByteArray} {kd : IntKind} {j : Int} {c : UInt8} (ho : o.op = .index t x i) (hu : P.underlying t = some .string)
    (hx : od P x = some x') (hi : od P i = some i') (ex : ev tm x' = .one (.str b)) (ei : ev tm i' = .one (.int kd j)) (h0 : ¬ j < 0) (h1 : b[j.toNat]? = some c) :
    Sound P val fz tm mu n o (.one (.int .u8 (Int.ofNat c.toNat))) mu n := by
  refine sound_pure fun ρ w act _ hop => ?_
  have g1 := hop x x' (by simp [ho, Op.operands]) hx
  have g2 := hop i i' (by simp [ho, Op.operands]) hi
  rw [ex] at g1; rw [ei] at g2
  have g1' : act.eval x = .string b := g1
  have g2' : act.eval i = .int kd j := g2
  refine ⟨.int .u8 (Int.ofNat c.toNat), ?_, rfl⟩
  have hj : 0 ≤ j := by omega
  simp [execOp, ho, Instr.index, asIntOf, g1', g2', underlying, hu, hj, h1]

/-- How long a slice or a string is. -/
def lenOf : SV → Option Nat
  | .str b => some b.size
  | .nsl => some 0
  | .osl _ _ len _ _ => some len
  | .esl => some 0
  | .zsl => some 0
  | _ => none

theorem sound_len {c : Call} {t : TypeId} {x : Operand} {y : Od} {s : SV} {m : Nat} (ho : o.op = .call c) (hc : c.callee = .builtin .len) (ht : c.argTypes = #[t]) (ha : c.args = #[x])
    (hu : (∃ e, P.underlying t = some (.slice e) ∧ ∀ b, s ≠ .str b) ∨ P.underlying t = some .string ∧ ∃ b, s = .str b) (hx : od P x = some y) (ex : ev tm y = .one s) (hm : lenOf s = some m) :
    Sound P val fz tm mu n o (.one (.int .i64 (Int.ofNat m))) mu n := by
  refine sound_pure fun ρ w act _ hop => ?_
  have g := hop x y (by simp [ho, Op.operands, Call.operands, hc, ha]) hx
  rw [ex] at g
  refine ⟨.int .i64 (Int.ofNat m), ?_, rfl⟩
  have key : (Builtin.len_ #[t] o.type #[act.eval x]).run P w = .ok (.int .i64 (Int.ofNat m)) w := by
    rcases hu with ⟨e, hu, hns⟩ | ⟨hu, b, rfl⟩
    · cases s <;> simp [lenOf] at hm
      case str b => exact (hns b rfl).elim
      case nsl =>
        have g' : act.eval x = .slice none 0 0 := g
        subst hm; simp [Builtin.len_, underlying, hu, g', goInt]
      case osl => obtain ⟨p, c, _, g', _⟩ := g; subst hm; simp [Builtin.len_, underlying, hu, g', goInt]
      case esl => obtain ⟨p, g'⟩ := g; subst hm; simp [Builtin.len_, underlying, hu, g', goInt]
      case zsl => obtain ⟨p, c, g'⟩ := g; subst hm; simp [Builtin.len_, underlying, hu, g', goInt]
    · simp [lenOf] at hm; subst hm
      have g' : act.eval x = .string b := g
      simp [Builtin.len_, underlying, hu, g', goInt]
  simp [execOp, ho, resolve, hc, invoke, builtin, ht, ha, key]

theorem sound_cap {c : Call} {t e : TypeId} {x : Operand} {y : Od} {s : SV} (ho : o.op = .call c) (hc : c.callee = .builtin .cap) (ht : c.argTypes = #[t]) (ha : c.args = #[x])
    (hu : P.underlying t = some (.slice e)) (hx : od P x = some y) (ex : ev tm y = .one s) (hm : s = .nsl ∨ s = .esl) :
    Sound P val fz tm mu n o (.one (.int .i64 0)) mu n := by
  refine sound_pure fun ρ w act _ hop => ?_
  have g := hop x y (by simp [ho, Op.operands, Call.operands, hc, ha]) hx
  rw [ex] at g
  refine ⟨.int .i64 0, ?_, rfl⟩
  have key : (Builtin.cap_ #[t] o.type #[act.eval x]).run P w = .ok (.int .i64 0) w := by
    rcases hm with rfl | rfl
    · have g' : act.eval x = .slice none 0 0 := g
      simp [Builtin.cap_, underlying, hu, g', goInt]
    · obtain ⟨p, g'⟩ := g; simp [Builtin.cap_, underlying, hu, g', goInt]
  simp [execOp, ho, resolve, hc, invoke, builtin, ht, ha, key]

end
end Go.Ev
