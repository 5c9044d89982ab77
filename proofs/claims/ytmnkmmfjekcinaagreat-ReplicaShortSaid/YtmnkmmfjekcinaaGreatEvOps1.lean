/-
  Each operation of the evaluator against the model's: moves, memory, numbers.
-/
import Derived.Test.YtmnkmmfjekcinaaGreatEvMem
import Derived.Laws.Small
import Derived.Laws.Entries
set_option linter.unusedVariables false
set_option linter.unusedSimpArgs false
namespace Go.Ev

def OperR (P : Program) (val : Nat → Int) (ρ : Rho) (w : World) (tm : TM) (a : Act) (op : Op) : Prop :=
  ∀ x y, x ∈ op.operands → od P x = some y → AVR val ρ w (ev tm y) (a.eval x)

/-- The operation comes to this value, this store, this next id. -/
def Sound (P : Program) (val : Nat → Int) (fz : Fz) (tm : TM) (mu : St) (n : Nat) (o : Oper) (v : AV) (mu' : St) (n' : Nat) : Prop :=
  n ≤ n' ∧ ∀ ρ w (a : Act), Rel val ρ fz mu w → OperR P val ρ w tm a o.op → FreshN ρ n n' → ∀ (K : Act → World → Prop) (Q : Exit → Act → World → Prop),
    (∀ x w', Post val ρ fz mu n w v mu' n' x w' → K (a.put o.dst x) w') → o.wp P a w K Q

section
variable {P : Program} {val : Nat → Int} {fz : Fz} {tm : TM} {mu : St} {n : Nat} {o : Oper}

theorem sound_of_run {v : AV} {mu' : St} {n' : Nat} (hn : n ≤ n')
    (h : ∀ ρ w (a : Act), Rel val ρ fz mu w → OperR P val ρ w tm a o.op → FreshN ρ n n' → ∃ x w', ((execOp a.eval o).run P w = .ok (.value x) w' ∨ (execOp a.eval o).run P w = .ok .skip w' ∧ x = undef) ∧ Post val ρ fz mu n w v mu' n' x w') :
    Sound P val fz tm mu n o v mu' n' := by
  refine ⟨hn, fun ρ w a hr ho hf K Q hK => ?_⟩
  obtain ⟨x, w', hx, hp⟩ := h ρ w a hr ho hf
  unfold Oper.wp
  rcases hx with hx | ⟨hx, rfl⟩
  · rw [hx]; exact hK x w' hp
  · rw [hx]; exact hK undef w' hp

/-- An operation that touches no memory. -/
theorem sound_pure {v : AV} (h : ∀ ρ w (a : Act), Rel val ρ fz mu w → OperR P val ρ w tm a o.op → ∃ x, (execOp a.eval o).run P w = .ok (.value x) w ∧ AVR val ρ w v x) : Sound P val fz tm mu n o v mu n :=
  sound_of_run (Nat.le_refl _) fun ρ w a hr ho _ => let ⟨x, hx, hv⟩ := h ρ w a hr ho; ⟨x, w, .inl hx, post_same hr hv⟩

theorem sound_mv {x : Operand} {y : Od} (ho : o.op = .move x ∨ o.op = .assign x) (hx : od P x = some y) : Sound P val fz tm mu n o (ev tm y) mu n := by
  rcases ho with ho | ho
  all_goals
    refine sound_pure fun ρ w a _ hop => ⟨a.eval x, by simp [execOp, ho], hop x y (by simp [ho, Op.operands]) hx⟩

theorem sound_pick {c a b : Operand} {c' a' b' : Od} {t : Bool} (ho : o.op = .pick c a b) (hc : od P c = some c') (ha : od P a = some a') (hb : od P b = some b') (ht : ev tm c' = .one (.bool t)) :
    Sound P val fz tm mu n o (cond t (ev tm a') (ev tm b')) mu n := by
  refine sound_pure fun ρ w act _ hop => ?_
  have h1 := hop c c' (by simp [ho, Op.operands]) hc
  have h2 := hop a a' (by simp [ho, Op.operands]) ha
  have h3 := hop b b' (by simp [ho, Op.operands]) hb
  rw [ht] at h1
  have h1' : act.eval c = .bool t := h1
  cases t
  · exact ⟨act.eval b, by simp [execOp, ho, h1', asBool], h3⟩
  · exact ⟨act.eval a, by simp [execOp, ho, h1', asBool], h2⟩

theorem toSV_VR {ρ : Rho} {w : World} {v : Value} {s : SV} (h : toSV v = some s) : VR val ρ w s v ∧ s.known = true := by
  unfold toSV at h
  split at h <;> first | (cases h; done) | (cases h; exact ⟨rfl, rfl⟩)
theorem toSVs_VR {ρ : Rho} {w : World} {vs : List Value} {l : List SV} (h : toSVs vs = some l) : All2 (VR val ρ w) l vs ∧ knownAll l = true := by
  induction vs generalizing l with
  | nil => simp [toSVs] at h; subst h; exact ⟨trivial, rfl⟩
  | cons v r ih =>
    simp only [toSVs] at h
    split at h
    · rename_i a b ha hb
      cases h
      obtain ⟨h1, h2⟩ := toSV_VR (val := val) (ρ := ρ) (w := w) ha
      obtain ⟨h3, h4⟩ := ih hb
      refine ⟨⟨h1, h3⟩, ?_⟩
      show cond a.known (knownAll b) false = true
      rw [h2, h4]; rfl
    · cases h
/-- A constant reads as it is. -/
theorem toAV_AVR {ρ : Rho} {w : World} {v : Value} {a : AV} (h : toAV v = some a) : AVR val ρ w a v := by
  unfold toAV at h
  split at h
  · rename_i cs
    cases e : toSVs cs.toList with
    | none => rw [e] at h; cases h
    | some l =>
      rw [e] at h
      simp only [Option.map_some, Option.some.injEq] at h
      subst h
      exact ⟨cs.toList, by simp, (toSVs_VR e).1⟩
  · cases e : toSV v with
    | none => rw [e] at h; cases h
    | some s =>
      rw [e] at h
      simp only [Option.map_some, Option.some.injEq] at h
      subst h
      exact (toSV_VR e).1

/-- The zero value of a type, in the model. -/
theorem zeroOf_run {t : TypeId} {z : List SV} (h : zeroOf P t = some z) : ∃ v i, P.info? t = some i ∧ i.zero = some v ∧ toSVs v.cells.toList = some z ∧ z.length = i.size ∧ ∀ w, (zeroValue t).run P w = .ok v w := by
  unfold zeroOf at h
  cases hi : P.info? t with
  | none => rw [hi] at h; cases h
  | some i =>
    rw [hi] at h
    simp only at h
    cases hz : i.zero with
    | none => rw [hz] at h; cases h
    | some v =>
      rw [hz] at h
      simp only at h
      cases hs : toSVs v.cells.toList with
      | none => rw [hs] at h; cases h
      | some l =>
        rw [hs] at h
        simp only at h
        split at h
        · rename_i e
          cases h
          exact ⟨v, i, rfl, hz, hs, by simpa using e, fun w => by simp [zeroValue, typeInfo, hi, hz]⟩
        · cases h

theorem new_from {ρ : Rho} {w : World} {l : List SV} {vs : List Value} (h : All2 (VR val ρ w) l vs) : ∀ (i : Nat) s, l[i]? = some s → ∃ v, vs.toArray[i]? = some v ∧ VR val ρ w s v := by
  intro i s hi
  obtain ⟨v, e, r⟩ := h.get hi
  exact ⟨v, by simpa using e, r⟩

theorem sound_new {cs : List SV} (h : ∀ ρ w (a : Act), Rel val ρ fz mu w → OperR P val ρ w tm a o.op → ∃ (C : List Value) (ty : TypeId), (execOp a.eval o).run P w = .ok (.value (.pointer (some ⟨w.heap.size, 0, none⟩))) (w.alloc (.cells C.toArray ty)) ∧ All2 (VR val ρ w) cs C) :
    Sound P val fz tm mu n o (.one (.optr n 0)) ((n, cs) :: mu) (n + 1) := by
  refine sound_of_run (Nat.le_succ _) fun ρ w a hr ho hf => ?_
  obtain ⟨C, ty, hrun, hv⟩ := h ρ w a hr ho
  obtain ⟨h1, h2, h3, h4, h5, h6⟩ := new_block (ty := ty) (Like.refl w) hr (hf n (Nat.le_refl _) (Nat.lt_succ_self _)) (C := C.toArray) (by simp [hv.length]) (new_from hv)
  exact ⟨_, _, .inl hrun, _, h1, h2, ⟨_, upd_same _ _ _, rfl⟩, h3, h4, h5⟩

theorem sound_alloc {t : TypeId} {z : List SV} (ho : o.op = .alloc t) (hz : zeroOf P t = some z) : Sound P val fz tm mu n o (.one (.optr n 0)) ((n, z) :: mu) (n + 1) := by
  obtain ⟨v, i, h1, h2, h3, h4, h5⟩ := zeroOf_run hz
  refine sound_new fun ρ w a _ _ => ⟨v.cells.toList, t, ?_, (toSVs_VR h3).1⟩
  simp [execOp, ho, Instr.alloc, h5, newVar, newRow]

theorem sound_box {t : TypeId} {x : Operand} {y : Od} {l : List SV} (ho : o.op = .box t x) (hx : od P x = some y) (hl : (ev tm y).cells? = some l) (hk : knownAll l = true) :
    Sound P val fz tm mu n o (.one (.optr n 0)) ((n, l) :: mu) (n + 1) := by
  refine sound_new fun ρ w a _ hop => ?_
  obtain ⟨vs, h1, h2, _⟩ := cells_of (hop x y (by simp [ho, Op.operands]) hx) hl hk
  exact ⟨vs, t, by simp [execOp, ho, Instr.box, newVar, newRow, h1], h2⟩

theorem aggOf_run {t : TypeId} {b : Bool} (h : aggOf P t = some b) : ∀ w, (isAgg t).run P w = .ok b w := by
  intro w
  unfold aggOf at h
  cases hu : P.underlying t with
  | none => rw [hu] at h; cases h
  | some d =>
    rw [hu] at h
    cases d <;> simp at h <;> subst h <;> simp [isAgg, underlying, hu]
theorem szOf_run {t : TypeId} {m : Nat} (h : szOf P t = some m) : ∀ w, (sizeOf t).run P w = .ok m w := by
  intro w
  unfold szOf at h
  cases hi : P.info? t with
  | none => rw [hi] at h; cases h
  | some i => rw [hi] at h; simp at h; subst h; simp [sizeOf, typeInfo, hi]

/-- What asRes makes of cells. -/
def resOf : Bool → List SV → Option AV
  | true, r => some (.ag r)
  | false, [s] => some (.one s)
  | false, _ => none
theorem asRes_elim {R : Type} {T : R → Prop} {z : R} (hz : ¬ T z) {agg : Bool} {r : List SV} {k : AV → R} (h : T (asRes agg r z k)) : ∃ v, resOf agg r = some v ∧ T (k v) := by
  cases agg with
  | true => exact ⟨_, rfl, h⟩
  | false =>
    cases r with
    | nil => exact (hz h).elim
    | cons a t => cases t with
      | nil => exact ⟨_, rfl, h⟩
      | cons b u => exact (hz h).elim

theorem load_run {ρ : Rho} {w : World} {t : TypeId} {agg : Bool} {m : Nat} {p : Nat × Nat} {off : Nat} {vs : List Value} {l : List SV} {v : AV} (ha : aggOf P t = some agg) (hs : szOf P t = some m)
    (hlen : vs.length = m) (hv : All2 (VR val ρ w) l vs) (hc : ∀ (j : Nat) x, vs[j]? = some x → w.cell? ⟨p.1, p.2 + off + j, none⟩ = some x)
    (hrun : (loadCells ⟨p.1, p.2 + off, none⟩ m).run P w = .ok vs.toArray w) (hres : resOf agg l = some v) :
    ∃ x, (loadVar t ⟨p.1, p.2 + off, none⟩).run P w = .ok x w ∧ AVR val ρ w v x := by
  have h1 := aggOf_run ha w
  have h2 := szOf_run hs w
  cases agg with
  | true =>
    simp [resOf] at hres; subst hres
    exact ⟨.agg vs.toArray, by simp [loadVar, h1, h2, hrun], vs, rfl, hv⟩
  | false =>
    cases l with
    | nil => cases hres
    | cons s t' => cases t' with
      | cons b u => cases hres
      | nil =>
        simp [resOf] at hres; subst hres
        cases vs with
        | nil => exact hv.elim
        | cons x r => cases r with
          | cons _ _ => exact hv.2.elim
          | nil =>
            have := hc 0 x (by simp)
            exact ⟨x, by simp only [Nat.add_zero] at this; simp [loadVar, h1, this], hv.1⟩

/-- A block that is seen, in the own store or in what is read alone. -/
theorem seen {ρ : Rho} {w : World} {id : Nat} {cs : List SV} (hr : Rel val ρ fz mu w) (h : look mu id = some cs ∨ look mu id = none ∧ fz id = some cs) : Own val ρ w id cs := by
  rcases h with h | ⟨_, h⟩
  · exact hr.rm _ _ h
  · exact hr.rf _ _ h

theorem sound_load {t : TypeId} {x : Operand} {y : Od} {agg : Bool} {m id off : Nat} {cs : List SV} {v : AV} (ho : o.op = .load t x) (ha : aggOf P t = some agg) (hs : szOf P t = some m) (hx : od P x = some y)
    (he : ev tm y = .one (.optr id off)) (hl : look mu id = some cs ∨ look mu id = none ∧ fz id = some cs) (hb : off + m ≤ cs.length) (hres : resOf agg ((cs.drop off).take m) = some v) :
    Sound P val fz tm mu n o v mu n := by
  refine sound_pure fun ρ w a hr hop => ?_
  have h1 := hop x y (by simp [ho, Op.operands]) hx
  rw [he] at h1
  obtain ⟨p, hp, hx'⟩ := h1
  obtain ⟨vs, g1, g2, g3, g4⟩ := (seen hr hl).read (P := P) hp hb
  obtain ⟨r, g5, g6⟩ := load_run ha hs g1 g2 g3 g4 hres
  exact ⟨r, by simp [execOp, ho, Instr.loadAt, Instr.sureAddr, hx', g5], g6⟩

theorem sound_store {t : TypeId} {x v : Operand} {y u : Od} {m id off : Nat} {cs l : List SV} (ho : o.op = .store t x v) (hs : szOf P t = some m) (hx : od P x = some y) (hv : od P v = some u)
    (he : ev tm y = .one (.optr id off)) (hc : (ev tm u).cells? = some l) (hlen : l.length = m) (hk : knownAll l = true) (hl : look mu id = some cs) (hb : off + l.length ≤ cs.length) :
    Sound P val fz tm mu n o (.tp []) (putS mu id (over cs off l)) n := by
  refine sound_of_run (Nat.le_refl _) fun ρ w a hr hop _ => ?_
  have h1 := hop x y (by simp [ho, Op.operands]) hx
  rw [he] at h1
  obtain ⟨p, hp, hx'⟩ := h1
  obtain ⟨vs, g1, g2, g3⟩ := cells_of (hop v u (by simp [ho, Op.operands]) hv) hc hk
  obtain ⟨q, w', e1, e2, e3, e4, e5, e6, e7⟩ := put_block (P := P) (n := n) (n' := n) hr hl hb g2 g3
  rw [hp] at e1; cases e1
  have hsz := szOf_run hs w
  refine ⟨undef, w', .inr ⟨?_, rfl⟩, ρ, Ext.refl _ _ _, e3, ⟨[], rfl, trivial⟩, e4, e5, e6⟩
  have hlen' : vs.length = m := by rw [← g2.length, hlen]
  simp [execOp, ho, Instr.storeAt, Instr.sureAddr, hx', storeVar, g1, hsz, hlen', e2]

theorem sound_nilc {x : Operand} {y : Od} {s : SV} (ho : o.op = .nilCheck x) (hx : od P x = some y) (he : ev tm y = .one s) (hs : (∃ a b, s = .optr a b) ∨ ∃ a b, s = .fn a b) : Sound P val fz tm mu n o (.one s) mu n := by
  refine sound_pure fun ρ w a _ hop => ?_
  have h1 := hop x y (by simp [ho, Op.operands]) hx
  rw [he] at h1
  refine ⟨a.eval x, ?_, h1⟩
  rcases hs with ⟨id, off, rfl⟩ | ⟨f, cs, rfl⟩
  · obtain ⟨p, _, e⟩ := h1
    simp [execOp, ho, e]
  · obtain ⟨vs, e, _⟩ := h1
    simp [execOp, ho, e]

theorem sound_faddr {t : TypeId} {x : Operand} {y : Od} {i m id off : Nat} {fs : Array Field} {f : Field} (ho : o.op = .fieldAddr t x i) (hu : P.underlying t = some (.struct fs)) (hf : fs[i]? = some f)
    (hs : szOf P f.type = some m) (hm : m ≠ 0) (hx : od P x = some y) (he : ev tm y = .one (.optr id off)) : Sound P val fz tm mu n o (.one (.optr id (off + f.offset))) mu n := by
  refine sound_pure fun ρ w a _ hop => ?_
  have h1 := hop x y (by simp [ho, Op.operands]) hx
  rw [he] at h1
  obtain ⟨p, hp, e⟩ := h1
  refine ⟨.pointer (some ⟨p.1, p.2 + (off + f.offset), none⟩), ?_, p, hp, rfl⟩
  have := szOf_run hs w
  simp [execOp, ho, Instr.fieldAt, underlying, hu, hf, Instr.sureAddr, e, fieldPlace, this, hm, addr_add, Nat.add_assoc]

theorem part_run {ρ : Rho} {w : World} {t : TypeId} {agg : Bool} {m off : Nat} {cs : List SV} {vs : List Value} {v : AV} (ha : aggOf P t = some agg) (hs : szOf P t = some m) (hv : All2 (VR val ρ w) cs vs)
    (hb : off + m ≤ cs.length) (hres : resOf agg ((cs.drop off).take m) = some v) (h1 : agg = false → m = 1) : ∃ x, (part t vs.toArray off).run P w = .ok x w ∧ AVR val ρ w v x := by
  have g1 := aggOf_run ha w
  have g2 := szOf_run hs w
  have hd := (hv.drop off).take m
  cases agg with
  | true =>
    simp [resOf] at hres; subst hres
    exact ⟨.agg (vs.toArray.extract off (off + m)), by simp [part, g1, g2], (vs.drop off).take m, by simp, hd⟩
  | false =>
    have hm := h1 rfl
    subst hm
    have hlt : off < vs.length := by rw [← hv.length]; omega
    have e1 : (vs.drop off).take 1 = [vs[off]] := by rw [List.drop_eq_getElem_cons hlt]; rfl
    have hlt' : off < cs.length := by omega
    have e2 : (cs.drop off).take 1 = [cs[off]] := by rw [List.drop_eq_getElem_cons hlt']; rfl
    rw [e2] at hres hd
    rw [e1] at hd
    simp [resOf] at hres; subst hres
    exact ⟨vs[off], by simp [part, g1, hlt], hd.1⟩

theorem sound_fld {t : TypeId} {x : Operand} {y : Od} {i m : Nat} {agg : Bool} {fs : Array Field} {f : Field} {cs : List SV} {v : AV} (ho : o.op = .field t x i) (hu : P.underlying t = some (.struct fs)) (hf : fs[i]? = some f)
    (ha : aggOf P f.type = some agg) (hs : szOf P f.type = some m) (h1 : agg = false → m = 1) (hx : od P x = some y) (he : ev tm y = .ag cs) (hb : f.offset + m ≤ cs.length)
    (hres : resOf agg ((cs.drop f.offset).take m) = some v) : Sound P val fz tm mu n o v mu n := by
  refine sound_pure fun ρ w a _ hop => ?_
  have g := hop x y (by simp [ho, Op.operands]) hx
  rw [he] at g
  obtain ⟨vs, e, hv⟩ := g
  obtain ⟨r, g1, g2⟩ := part_run ha hs hv hb hres h1
  exact ⟨r, by simp [execOp, ho, Instr.field, underlying, hu, hf, asAgg, e, g1], g2⟩

def cvAV : CV → AV
  | .one s => .one s
  | .ag l => .ag l
theorem cvAV_AVR {ρ : Rho} {w : World} {c : CV} {x : Value} (h : CVR val ρ w c x) : AVR val ρ w (cvAV c) x := by cases c <;> exact h

theorem sound_extr {x : Operand} {y : Od} {i : Nat} {l : List CV} {c : CV} (ho : o.op = .extract x i) (hx : od P x = some y) (he : ev tm y = .tp l) (hc : l[i]? = some c) : Sound P val fz tm mu n o (cvAV c) mu n := by
  refine sound_pure fun ρ w a _ hop => ?_
  have g := hop x y (by simp [ho, Op.operands]) hx
  rw [he] at g
  obtain ⟨vs, e, hv⟩ := g
  obtain ⟨r, e2, hr⟩ := hv.get hc
  refine ⟨r, ?_, cvAV_AVR hr⟩
  have e3 : vs.toArray[i]? = some r := by simpa using e2
  simp only [execOp, ho, Instr.extract, e, e3]
  simp

theorem sound_not {t : TypeId} {x : Operand} {y : Od} {b : Bool} (ho : o.op = .unOp .not t x) (hx : od P x = some y) (he : ev tm y = .one (.bool b)) : Sound P val fz tm mu n o (.one (.bool (not b))) mu n := by
  refine sound_pure fun ρ w a _ hop => ?_
  have g := hop x y (by simp [ho, Op.operands]) hx
  rw [he] at g
  have g' : a.eval x = .bool b := g
  exact ⟨.bool (not b), by simp [execOp, ho, Op.unary, g'], rfl⟩
theorem sound_neg {t : TypeId} {x : Operand} {y : Od} {k : IntKind} {b : Int} (ho : o.op = .unOp .neg t x) (hx : od P x = some y) (he : ev tm y = .one (.int k b)) : Sound P val fz tm mu n o (.one (.int k (k.wrap (0 - b)))) mu n := by
  refine sound_pure fun ρ w a _ hop => ?_
  have g := hop x y (by simp [ho, Op.operands]) hx
  rw [he] at g
  have g' : a.eval x = .int k b := g
  exact ⟨.int k (k.wrap (0 - b)), by simp [execOp, ho, Op.unary, g', Op.intArith], rfl⟩

/-- The numbers' operations, as values. -/
def numOp (op : BinOp) (kd : IntKind) (a b : Int) : Option SV :=
  match op with
  | .add => some (.int kd (kd.wrap (a + b)))
  | .sub => some (.int kd (kd.wrap (a - b)))
  | .mul => some (.int kd (kd.wrap (a * b)))
  | .quo => if b = 0 then none else some (.int kd (kd.wrap (a.tdiv b)))
  | .rem => if b = 0 then none else some (.int kd (a.tmod b))
  | .and => some (.int kd (kd.wrap (BitVec.ofInt kd.bits a &&& BitVec.ofInt kd.bits b).toNat))
  | .or => some (.int kd (kd.wrap (BitVec.ofInt kd.bits a ||| BitVec.ofInt kd.bits b).toNat))
  | .xor => some (.int kd (kd.wrap (BitVec.ofInt kd.bits a ^^^ BitVec.ofInt kd.bits b).toNat))
  | .andNot => some (.int kd (kd.wrap (BitVec.ofInt kd.bits a &&& ~~~(BitVec.ofInt kd.bits b)).toNat))
  | .eql => some (.bool (a == b))
  | .neq => some (.bool (a != b))
  | .lss => some (.bool (a < b))
  | .leq => some (.bool (a ≤ b))
  | .gtr => some (.bool (a > b))
  | .geq => some (.bool (a ≥ b))
  | .shl => none
  | .shr => none

theorem binI_elim {R : Type} {T : R → Prop} {z : R} (hz : ¬ T z) {op : BinOp} {kd : IntKind} {a b : Int} {k : SV → R} (h : T (binI op kd a b z k)) : ∃ s, numOp op kd a b = some s ∧ T (k s) := by
  cases op with
  | add => exact ⟨_, rfl, by simpa [binI, wrapK_eq, show Int.add a b = a + b from rfl] using h⟩
  | sub => exact ⟨_, rfl, by simpa [binI, wrapK_eq, show Int.sub a b = a - b from rfl] using h⟩
  | mul => exact ⟨_, rfl, by simpa [binI, wrapK_eq, show Int.mul a b = a * b from rfl] using h⟩
  | quo =>
    obtain ⟨h1, h2⟩ := cond_elim' hz (show T (cond (eqI b 0) z (fI (kd.wrap (a.tdiv b)) fun n => k (.int kd n))) from h)
    rw [eqI_eq] at h1
    exact ⟨.int kd (kd.wrap (a.tdiv b)), by simp [numOp, (by simpa using h1 : ¬ b = 0)], by simpa [fI_eq] using h2⟩
  | rem =>
    obtain ⟨h1, h2⟩ := cond_elim' hz (show T (cond (eqI b 0) z (fI (a.tmod b) fun n => k (.int kd n))) from h)
    rw [eqI_eq] at h1
    exact ⟨.int kd (a.tmod b), by simp [numOp, (by simpa using h1 : ¬ b = 0)], by simpa [fI_eq] using h2⟩
  | and => exact ⟨_, rfl, by simpa [binI, fI_eq] using h⟩
  | or => exact ⟨_, rfl, by simpa [binI, fI_eq] using h⟩
  | xor => exact ⟨_, rfl, by simpa [binI, fI_eq] using h⟩
  | shl => exact (hz h).elim
  | shr => exact (hz h).elim
  | andNot => exact ⟨_, rfl, by simpa [binI, fI_eq] using h⟩
  | eql => refine ⟨_, rfl, ?_⟩; have h' : T (k (.bool (eqI a b))) := by simpa [binI, fB_eq] using h
           rw [eqI_eq] at h'; rwa [show decide (a = b) = (a == b) by rw [Bool.eq_iff_iff]; simp] at h'
  | neq => refine ⟨_, rfl, ?_⟩; have h' : T (k (.bool (!(eqI a b)))) := by simpa [binI, fB_eq] using h
           rw [eqI_eq] at h'; rwa [show (!decide (a = b)) = (a != b) by rw [Bool.eq_iff_iff]; simp] at h'
  | lss => refine ⟨_, rfl, ?_⟩; have h' : T (k (.bool (ltI a b))) := by simpa [binI, fB_eq] using h
           rw [ltI_eq] at h'; exact h'
  | leq => refine ⟨_, rfl, ?_⟩; have h' : T (k (.bool (!(ltI b a)))) := by simpa [binI, fB_eq] using h
           rw [ltI_eq] at h'
           rwa [show (!decide (b < a)) = decide (a ≤ b) by rw [Bool.eq_iff_iff]; simp] at h'
  | gtr => refine ⟨_, rfl, ?_⟩; have h' : T (k (.bool (ltI b a))) := by simpa [binI, fB_eq] using h
           rw [ltI_eq] at h'; exact h'
  | geq => refine ⟨_, rfl, ?_⟩; have h' : T (k (.bool (!(ltI a b)))) := by simpa [binI, fB_eq] using h
           rw [ltI_eq] at h'
           rwa [show (!decide (a < b)) = decide (a ≥ b) by rw [Bool.eq_iff_iff]; simp] at h'

/-- A scalar as a value. -/
def svVal : SV → Value
  | .int k n => .int k n
  | .bool b => .bool b
  | .str s => .string s
  | _ => undef

theorem numOp_run {op : BinOp} {kd : IntKind} {a b : Int} {s : SV} (h : numOp op kd a b = some s) (t : TypeId) (x y : Operand) (w : World) :
    (do eqGuard op t x y (.int kd a) (.int kd b); binOp op t (.int kd a) (.int kd b) : Sem Value).run P w = .ok (svVal s) w ∧ ∀ (ρ : Rho), VR val ρ w s (svVal s) := by
  have hg : (eqGuard op t x y (.int kd a) (.int kd b)).run P w = .ok () w := by
    rw [eqGuard_at_int]; rfl
  cases op <;> simp [numOp] at h
  case quo => obtain ⟨h0, h⟩ := h; subst h; simp [hg, binOp, Op.intDiv, h0, svVal, VR]
  case rem => obtain ⟨h0, h⟩ := h; subst h; simp [hg, binOp, Op.intDiv, h0, svVal, VR]
  all_goals (subst h; simp [hg, binOp, Op.intArith, Op.intBits, Op.intCmp, svVal, VR])

theorem sound_bin {t u : TypeId} {op : BinOp} {x y : Operand} {x' y' : Od} {kd : IntKind} {a b : Int} {s : SV} (ho : o.op = .binOp op t x y u) (hx : od P x = some x') (hy : od P y = some y')
    (ex : ev tm x' = .one (.int kd a)) (ey : ev tm y' = .one (.int kd b)) (hs : numOp op kd a b = some s) : Sound P val fz tm mu n o (.one s) mu n := by
  refine sound_pure fun ρ w act _ hop => ?_
  have g1 := hop x x' (by simp [ho, Op.operands]) hx
  have g2 := hop y y' (by simp [ho, Op.operands]) hy
  rw [ex] at g1; rw [ey] at g2
  have g1' : act.eval x = .int kd a := g1
  have g2' : act.eval y = .int kd b := g2
  obtain ⟨r1, r2⟩ := numOp_run (P := P) (val := val) hs t x y w
  refine ⟨svVal s, ?_, r2 ρ⟩
  simp only [execOp, ho, g1', g2', Sem.run_bind] at r1 ⊢
  rw [r1]
  rfl

end
end Go.Ev
