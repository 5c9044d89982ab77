/-
  Temporaries, regions in the text's order, code, calls.
-/
import Derived.Test.YtmnkmmfjekcinaaGreatEvAll2
import Derived.Scope
import Derived.LoopN
set_option linter.unusedVariables false
set_option linter.unusedSimpArgs false
namespace Go.Ev

structure TmR (val : Nat → Int) (ρ : Rho) (w : World) (tm : TM) (a : Act) : Prop where
  rng : ∀ t, inR tm (t / 16) (t % 16) → t < a.tmps.size
  vals : ∀ t, AVR val ρ w (get tm (t / 16) (t % 16)) (a.tmps.getD t undef)

section
variable {val : Nat → Int} {ρ ρ' : Rho} {w w' : World} {tm : TM} {a : Act}
theorem TmR.mono (h : TmR val ρ w tm a) (ho : ∀ id p, ρ id = some p → ρ' id = some p) (hs : ∀ b, bsize w b ≤ bsize w' b) : TmR val ρ' w' tm a :=
  ⟨h.rng, fun t => (h.vals t).mono ho hs⟩
theorem TmR.set (h : TmR val ρ w tm a) (t : Nat) {v : AV} {x : Value} (hv : AVR val ρ w v x) : TmR val ρ w (setT tm (t / 16) (t % 16) v) (a.put (some t) x) := by
  have hput : ∀ t', (a.put (some t) x).tmps.getD t' undef = if t' = t ∧ t < a.tmps.size then x else a.tmps.getD t' undef := by
    intro t'
    simp only [Act.put, Array.getD_eq_getD_getElem?, Array.getElem?_setIfInBounds]
    by_cases e : t = t'
    · subst e
      by_cases hl : t < a.tmps.size
      · simp [hl]
      · simp [hl, Array.getElem?_eq_none (Nat.le_of_not_lt hl)]
    · have e' : ¬ t' = t := fun x => e x.symm
      simp [e, e']
  refine ⟨fun t' ht => ?_, fun t' => ?_⟩
  · simpa [Act.put] using h.rng t' (inR_setT ht)
  · rw [hput]
    by_cases e : t' = t
    · subst e
      rcases get_setT_same (tm := tm) (q := t' / 16) (r := t' % 16) (v := v) with ⟨h1, h2⟩ | ⟨h1, h2⟩
      · rw [h2]; simp [h.rng t' h1, hv]
      · rw [h2]; trivial
    · have hne : ¬ (t' / 16 = t / 16 ∧ t' % 16 = t % 16) := by omega
      rw [get_setT_other hne]
      simp only [e, false_and, if_false]
      exact h.vals t'
noncomputable def setDT (tm : TM) (dst : Option (Nat × Nat)) (v : AV) : TM := match dst with | none => tm | some p => setT tm p.1 p.2 v
theorem setDst_eq {R : Type} (tm : TM) (dst : Option (Nat × Nat)) (v : AV) (k : TM → R) : setDst tm dst v k = k (setDT tm dst v) := by
  cases dst with
  | none => rfl
  | some p => exact setTm_eq _ _ _ _ _
theorem TmR.put (h : TmR val ρ w tm a) (dst : Option Nat) {v : AV} {x : Value} (hv : AVR val ρ w v x) : TmR val ρ w (setDT tm (dst.map slot) v) (a.put dst x) := by
  cases dst with
  | none => exact h
  | some t => exact h.set t hv
theorem TmR.oper {P : Program} (h : TmR val ρ w tm a) (op : Op) : OperR P val ρ w tm a op := by
  intro x y _ hy
  cases x with
  | tmp t => simp [od] at hy; subst hy; exact h.vals t
  | const v =>
    obtain ⟨v', hv', rfl⟩ := Option.map_eq_some_iff.1 hy
    exact toAV_AVR hv'
  | global g => cases hy
  | func f =>
    simp only [od] at hy
    split at hy
    · cases hy; exact ⟨[], rfl, trivial⟩
    · cases hy
theorem TmR.ev {P : Program} (h : TmR val ρ w tm a) {x : Operand} {y : Od} (hy : od P x = some y) : AVR val ρ w (Ev.ev tm y) (a.eval x) := h.oper (P := P) (.move x) x y (by simp [Op.operands]) hy
end

/-- What stands behind a piece of code. -/
def PostS (val : Nat → Int) (ρ : Rho) (fz : Fz) (mu : St) (n : Nat) (w : World) (a : Act) (tm' : TM) (mu' : St) (n' : Nat) (a' : Act) (w' : World) : Prop :=
  a'.defers = a.defers ∧ ∃ ρ', Ext ρ ρ' n n' ∧ Rel val ρ' fz mu' w' ∧ TmR val ρ' w' tm' a' ∧ Fr ρ mu w w' ∧ NewB ρ ρ' mu mu' w ∧ NewI mu mu' n n'

theorem PostS.refl {val : Nat → Int} {ρ : Rho} {fz : Fz} {mu : St} {n : Nat} {w : World} {a : Act} {tm : TM} (hr : Rel val ρ fz mu w) (ht : TmR val ρ w tm a) : PostS val ρ fz mu n w a tm mu n a w :=
  ⟨rfl, ρ, Ext.refl _ _ _, hr, ht, Fr.refl _ _ _, NewB.refl, NewI.refl⟩

/-- One piece behind another. -/
theorem PostS.trans {val : Nat → Int} {ρ ρ1 : Rho} {fz : Fz} {mu mu1 mu2 : St} {n n1 n2 : Nat} {w w1 w2 : World} {a a1 a2 : Act} {tm2 : TM} (hd : a1.defers = a.defers) (he : Ext ρ ρ1 n n1) (hf : Fr ρ mu w w1) (hb : NewB ρ ρ1 mu mu1 w) (hi : NewI mu mu1 n n1)
    (h1 : n ≤ n1) (h2 : n1 ≤ n2) (h : PostS val ρ1 fz mu1 n1 w1 a1 tm2 mu2 n2 a2 w2) : PostS val ρ fz mu n w a tm2 mu2 n2 a2 w2 := by
  obtain ⟨d, ρ2, e2, r2, t2, f2, b2, i2⟩ := h
  exact ⟨d.trans hd, ρ2, he.trans e2 h1 h2, r2, t2, hf.trans hb f2, hb.trans b2 hf.size, hi.trans i2 h1 h2⟩

section
variable {R : Type} {T : R → Prop} {z : R} {P : Program} {val : Nat → Int} {fz : Fz} {orc : Orc R} {call : CallT R}

/-- An operation and what the evaluator has of it. -/
def OpR (P : Program) (ops : Array Oper) (o : Oper) (ao : AOper) : Prop := ao.dst = o.dst.map slot ∧ prepOp P o.op = some ao.op ∧ guardOf ops o.guard = some ao.g

/-- What an operation of a region comes to, its guard asked. -/
def StepS (P : Program) (val : Nat → Int) (fz : Fz) (ops : Array Oper) (o : Oper) (tm : TM) (mu : St) (n : Nat) (tm' : TM) (mu' : St) (n' : Nat) : Prop :=
  n ≤ n' ∧ ∀ ρ w a, Rel val ρ fz mu w → TmR val ρ w tm a → FreshN ρ n n' → ∀ (K : Act → World → Prop) (Q : Exit → Act → World → Prop), (∀ a' w', PostS val ρ fz mu n w a tm' mu' n' a' w' → K a' w') →
    (if Region.wanted o (yielded ops a.tmps) then o.wp P a w K Q ∨ (o.asks P a w ∧ LetsOut Q) else K (a.put o.dst undef) w)

theorem put_defers (a : Act) (dst : Option Nat) (v : Value) : (a.put dst v).defers = a.defers := by cases dst <;> rfl

theorem wanted_elim (hz : ¬ T z) {ops : Array Oper} {g : Option (Nat × Bool)} {g' : Option (Nat × Nat × Bool)} {tm : TM} {yes no : R} (hg : guardOf ops g = some g') (h : T (onWanted z g' tm yes no)) :
    (T yes ∧ ∀ ρ w a, TmR val ρ w tm a → ∀ o : Oper, o.guard = g → Region.wanted o (yielded ops a.tmps) = true) ∨ (T no ∧ ∀ ρ w a, TmR val ρ w tm a → ∀ o : Oper, o.guard = g → Region.wanted o (yielded ops a.tmps) = false) := by
  cases g with
  | none =>
    simp [guardOf] at hg; subst hg
    exact .inl ⟨h, fun ρ w a _ o ho => by simp [Region.wanted, ho]⟩
  | some p =>
    obtain ⟨j, want⟩ := p
    simp only [guardOf] at hg
    split at hg
    · rename_i t ht
      cases hg
      have hv : ∀ ρ w a, TmR val ρ w tm a → ∀ x, inR tm (t / 16) (t % 16) → a.tmps.getD t undef = x → a.tmps[t]? = some x := by
        intro ρ w a hr x hin hx
        have hlt := hr.rng t hin
        simp only [Array.getD_eq_getD_getElem?, Array.getElem?_eq_getElem hlt, Option.getD_some] at hx
        rw [Array.getElem?_eq_getElem hlt, hx]
      have hin : get tm (t / 16) (t % 16) ≠ .one .un → inR tm (t / 16) (t % 16) := by
        intro hne
        unfold get at hne
        simp only [nth_eq] at hne
        cases e : tm[t / 16]? with
        | none => rw [e] at hne; simp at hne
        | some row =>
          rw [e] at hne
          simp only [Option.getD_some] at hne
          refine ⟨row, e, ?_⟩
          rcases Nat.lt_or_ge (t % 16) row.length with h | h
          · exact h
          · rw [List.getElem?_eq_none h] at hne; exact (hne rfl).elim
      have h' : T (AV.rec (motive := fun _ => R) (fun s => s.onBool z fun b => cond (b == want) yes no) (fun _ => z) (fun l => List.rec (motive := fun _ => R) no (fun _ _ _ => z) l) (get tm (t / 16) (t % 16))) := h
      cases e : get tm (t / 16) (t % 16) with
      | one s =>
        rw [e] at h'
        obtain ⟨b, e2, h2⟩ := onBool_elim hz h'
        subst e2
        have key : ∀ ρ w a, TmR val ρ w tm a → ∀ o : Oper, o.guard = some (j, want) → Region.wanted o (yielded ops a.tmps) = (b == want) := by
          intro ρ w a hr o ho
          have hx := hr.vals t
          rw [e] at hx
          have hx' := hv ρ w a hr (.bool b) (hin (by rw [e]; intro h; cases h)) hx
          have hy : yielded ops a.tmps j = some b := by
            unfold yielded; rw [ht]; simp [hx']
          simp only [Region.wanted, ho, hy]
          cases b <;> cases want <;> rfl
        cases hb : (b == want) with
        | true => rw [hb] at h2 key; exact .inl ⟨h2, key⟩
        | false => rw [hb] at h2 key; exact .inr ⟨h2, key⟩
      | ag l => rw [e] at h'; exact (hz h').elim
      | tp l =>
        rw [e] at h'
        cases l with
        | cons _ _ => exact (hz h').elim
        | nil =>
          refine .inr ⟨h', fun ρ w a hr o ho => ?_⟩
          have hx := hr.vals t
          rw [e] at hx
          obtain ⟨vs, hx1, hx2⟩ := hx
          have hvs : vs = [] := by cases vs with | nil => rfl | cons _ _ => exact hx2.elim
          subst hvs
          have hx' := hv ρ w a hr _ (hin (by rw [e]; intro h; cases h)) hx1
          have hy : yielded ops a.tmps j = none := by
            unfold yielded; rw [ht]; simp [hx']
          simp [Region.wanted, ho, hy]
    · cases hg

theorem stepK_sound (hz : ¬ T z) (hc : CallSound T P val call) (hk : OrcOk T val orc) {ops : Array Oper} {o : Oper} {ao : AOper} {tm : TM} {mu : St} {n : Nat} {k : TM → St → Nat → R} (hr : OpR P ops o ao) (h : T (stepK orc z call fz ao tm mu n k)) :
    ∃ tm' mu' n', T (k tm' mu' n') ∧ StepS P val fz ops o tm mu n tm' mu' n' := by
  obtain ⟨hd, hp, hg⟩ := hr
  rcases wanted_elim (val := val) hz hg h with ⟨h1, hw⟩ | ⟨h1, hw⟩
  · obtain ⟨v, mu', n', h2, h3⟩ := aop_sound (P := P) (val := val) hz hc hk hp h1
    rw [setDst_eq] at h2
    refine ⟨_, _, _, h2, h3.1, fun ρ w a hrel htm hf K Q hK => ?_⟩
    simp only [hw ρ w a htm o rfl, if_true]
    left
    refine h3.2 ρ w a hrel (htm.oper _) hf K Q fun x w' hpost => ?_
    obtain ⟨ρ', p1, p2, p3, p4, p5, p6⟩ := hpost
    refine hK _ _ ⟨put_defers _ _ _, ρ', p1, p2, ?_, p4, p5, p6⟩
    rw [hd]
    exact (htm.mono p1.old p4.shape).put o.dst p3
  · rw [setDst_eq] at h1
    refine ⟨_, _, _, h1, Nat.le_refl _, fun ρ w a hrel htm hf K Q hK => ?_⟩
    simp only [hw ρ w a htm o rfl, Bool.false_eq_true, if_false]
    refine hK _ _ ⟨put_defers _ _ _, ρ, Ext.refl _ _ _, hrel, ?_, Fr.refl _ _ _, NewB.refl, NewI.refl⟩
    rw [hd]
    exact htm.put o.dst ⟨[], rfl, trivial⟩

theorem runK_sound (hz : ¬ T z) (hc : CallSound T P val call) (hk : OrcOk T val orc) {ops : Array Oper} : ∀ {l : List Oper} {al : List AOper} {tm : TM} {mu : St} {n : Nat} {k : TM → St → Nat → R}, All2 (OpR P ops) l al → T (runK orc z call fz al tm mu n k) →
    ∃ tm' mu' n', T (k tm' mu' n') ∧ n ≤ n' ∧ ∀ ρ w a, Rel val ρ fz mu w → TmR val ρ w tm a → FreshN ρ n n' → ∀ (Q : Exit → Act → World → Prop), (∀ a' w', PostS val ρ fz mu n w a tm' mu' n' a' w' → Q .normal a' w') → wpList P ops Q l a w
  | [], [], tm, mu, n, k, _, h => ⟨tm, mu, n, h, Nat.le_refl _, fun ρ w a hr ht _ Q hQ => hQ a w (PostS.refl hr ht)⟩
  | [], _ :: _, _, _, _, _, hl, _ => hl.elim
  | _ :: _, [], _, _, _, _, hl, _ => hl.elim
  | o :: l, ao :: al, tm, mu, n, k, hl, h => by
    obtain ⟨tm1, mu1, n1, h1, h2⟩ := stepK_sound (P := P) (val := val) hz hc hk hl.1 (show T (stepK orc z call fz ao tm mu n fun tm mu n => runK orc z call fz al tm mu n k) from h)
    obtain ⟨tm2, mu2, n2, h3, h4, h5⟩ := runK_sound hz hc hk hl.2 h1
    refine ⟨tm2, mu2, n2, h3, Nat.le_trans h2.1 h4, fun ρ w a hr ht hf Q hQ => ?_⟩
    have := h2.2 ρ w a hr ht (hf.sub (Nat.le_refl _) h4) (wpList P ops Q l) Q fun a1 w1 hp => by
      obtain ⟨d, ρ1, p1, p2, p3, p4, p5, p6⟩ := hp
      refine h5 ρ1 w1 a1 p2 p3 (hf.later p1 h2.1) Q fun a2 w2 hp2 => hQ a2 w2 ?_
      exact PostS.trans d p1 p4 p5 p6 h2.1 h4 hp2
    simpa only [wpList] using this

theorem prepOpers_R {m : Muts} {ops : Array Oper} : ∀ {l : List Oper} {al : List AOper}, prepOpers P m ops l = some al → All2 (OpR P ops) l al
  | [], al, h => by simp [prepOpers] at h; subst h; trivial
  | o :: l, al, h => by
    simp only [prepOpers] at h
    split at h
    · rename_i op g r h1 h2 h3
      cases h
      exact ⟨⟨rfl, h1, h2⟩, prepOpers_R h3⟩
    · cases h

end
end Go.Ev
