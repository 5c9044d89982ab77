/-
  Numbers that are not known: what is told of them, and made plain.
-/
import Derived.Test.YtmnkmmfjekcinaaGreatEvOps1
set_option linter.unusedVariables false
set_option linter.unusedSimpArgs false
namespace Go.Ev

/-- Is there such a temporary? -/
def inR (tm : TM) (q r : Nat) : Prop := ∃ row, tm[q]? = some row ∧ r < row.length

noncomputable def setT (tm : TM) (q r : Nat) (v : AV) : TM := tm.set q ((nth [] tm q).set r v)
theorem setTm_eq {R : Type} (tm : TM) (q r : Nat) (v : AV) (k : TM → R) : setTm tm q r v k = k (setT tm q r v) := by
  unfold setTm; rw [setK_eq, setK_eq]; rfl

theorem inR_setT {tm : TM} {q r : Nat} {v : AV} {q' r' : Nat} (h : inR (setT tm q r v) q' r') : inR tm q' r' := by
  obtain ⟨row, h1, h2⟩ := h
  unfold setT at h1
  rw [List.getElem?_set] at h1
  by_cases hq : q = q'
  · subst hq
    simp only [if_true] at h1
    split at h1
    · rename_i hlt
      cases h1
      have e : tm[q]? = some tm[q] := List.getElem?_eq_getElem hlt
      rw [nth_eq, e] at h2
      simp at h2
      exact ⟨_, e, h2⟩
    · cases h1
  · simp only [hq, if_false] at h1
    exact ⟨row, h1, h2⟩
theorem get_setT_other {tm : TM} {q r q' r' : Nat} {v : AV} (h : ¬ (q' = q ∧ r' = r)) : get (setT tm q r v) q' r' = get tm q' r' := by
  unfold get setT
  simp only [nth_eq]
  rw [List.getElem?_set]
  by_cases hq : q = q'
  · subst hq
    simp only [if_true]
    split
    · simp only [Option.getD_some]
      rw [List.getElem?_set_ne (by intro e; exact h ⟨rfl, e.symm⟩)]
    · rename_i hge
      rw [List.getElem?_eq_none (Nat.le_of_not_lt hge)]
  · simp only [hq, if_false]
theorem get_setT_same {tm : TM} {q r : Nat} {v : AV} : inR tm q r ∧ get (setT tm q r v) q r = v ∨ ¬ inR tm q r ∧ get (setT tm q r v) q r = .one .un := by
  by_cases h : inR tm q r
  · left
    obtain ⟨row, h1, h2⟩ := h
    refine ⟨⟨row, h1, h2⟩, ?_⟩
    have hlt := (List.getElem?_eq_some_iff.1 h1).1
    unfold get setT
    simp only [nth_eq, h1, Option.getD_some]
    rw [List.getElem?_set_self hlt]
    simp [h2]
  · right
    refine ⟨h, ?_⟩
    unfold get setT
    simp only [nth_eq]
    rw [List.getElem?_set]
    simp only [if_true]
    split
    · rename_i hlt
      have e : tm[q]? = some tm[q] := List.getElem?_eq_getElem hlt
      have hr : ¬ r < tm[q].length := fun hr => h ⟨_, e, hr⟩
      simp only [e, Option.getD_some]
      rw [List.getElem?_eq_none (by simp; omega)]
      rfl
    · simp


section
variable {R : Type} {T : R → Prop} {P : Program} {val : Nat → Int} {fz : Fz} {tm : TM} {mu : St} {n : Nat} {o : Oper}

/-- One is the other, or the other's sign. -/
def SvEq (val : Nat → Int) (s s' : SV) : Prop := s = s' ∨ ∃ kd i, s = .sym kd i ∧ s' = .int kd (val i)
theorem SvEq.vr {s s' : SV} (h : SvEq val s s') {ρ : Rho} {w : World} {v : Value} (hv : VR val ρ w s' v) : VR val ρ w s v := by
  rcases h with rfl | ⟨kd, i, rfl, rfl⟩
  · exact hv
  · exact hv

/-- What is told of numbers that are not known is true. -/
structure OrcOk (T : R → Prop) (val : Nat → Int) (orc : Orc R) : Prop where
  bin : ∀ op kd i b k, T (orc.bin op kd i b k) → ∃ s s', numOp op kd (val i) b = some s' ∧ SvEq val s s' ∧ T (k s)
  nib : ∀ op kd a i k, T (orc.nib op kd a i k) → ∃ s s', numOp op kd a (val i) = some s' ∧ SvEq val s s' ∧ T (k s)
  conv : ∀ kd i k, T (orc.conv kd i k) → ∃ s, SvEq val s (.int kd (kd.wrap (val i))) ∧ T (k s)
  force : ∀ i k, T (orc.force i k) → T (k (val i))

/-- It is a number: known, or not. -/
def IsI (val : Nat → Int) (v : AV) (kd : IntKind) (a : Int) : Prop := v = .one (.int kd a) ∨ ∃ i, v = .one (.sym kd i) ∧ a = val i
theorem IsI.eval {v : AV} {kd : IntKind} {a : Int} (h : IsI val v kd a) {ρ : Rho} {w : World} {x : Value} (hx : AVR val ρ w v x) : x = .int kd a := by
  rcases h with rfl | ⟨i, rfl, rfl⟩
  · exact hx
  · exact hx

/-- What one temporaries' row says the other one says, too. -/
def Fwd (val : Nat → Int) (tm tm' : TM) : Prop := ∀ ρ w y v, AVR val ρ w (ev tm y) v → AVR val ρ w (ev tm' y) v
theorem Fwd.refl : Fwd val tm tm := fun _ _ _ _ h => h
theorem Fwd.trans {tm1 tm2 : TM} (h : Fwd val tm tm1) (h' : Fwd val tm1 tm2) : Fwd val tm tm2 := fun ρ w y v hv => h' ρ w y v (h ρ w y v hv)
theorem sound_fwd {tm' : TM} (h : Fwd val tm tm') {v : AV} {mu' : St} {n' : Nat} (hs : Sound P val fz tm' mu n o v mu' n') : Sound P val fz tm mu n o v mu' n' :=
  ⟨hs.1, fun ρ w a hr ho => hs.2 ρ w a hr fun x y hx hy => h ρ w y _ (ho x y hx hy)⟩

theorem forceK_elim {orc : Orc R} (hk : OrcOk T val orc) {x : Od} {k : TM → R} (h : T (forceK orc tm x k)) : ∃ tm', T (k tm') ∧ Fwd val tm tm' := by
  cases x with
  | c v => exact ⟨tm, h, Fwd.refl⟩
  | t q r =>
    have h' : T (AV.rec (motive := fun _ => R) (fun s => s.onSym (k tm) fun kd i => orc.force i fun v => fI v fun v => setTm tm q r (.one (.int kd v)) k) (fun _ => k tm) (fun _ => k tm) (get tm q r)) := h
    cases e : get tm q r with
    | ag l => rw [e] at h'; exact ⟨tm, h', Fwd.refl⟩
    | tp l => rw [e] at h'; exact ⟨tm, h', Fwd.refl⟩
    | one s =>
      rw [e] at h'
      cases s with
      | sym kd i =>
        have h2 := hk.force i _ h'
        rw [fI_eq, setTm_eq] at h2
        refine ⟨_, h2, fun ρ w y v hv => ?_⟩
        cases y with
        | c u => exact hv
        | t q' r' =>
          have hv' : AVR val ρ w (get tm q' r') v := hv
          show AVR val ρ w (get (setT tm q r (.one (.int kd (val i)))) q' r') v
          by_cases hq : q' = q ∧ r' = r
          · obtain ⟨rfl, rfl⟩ := hq
            rw [e] at hv'
            rcases get_setT_same (tm := tm) (q := q') (r := r') (v := .one (.int kd (val i))) with ⟨_, hg⟩ | ⟨_, hg⟩
            · rw [hg]; exact hv'
            · rw [hg]; trivial
          · rw [get_setT_other hq]; exact hv'
      | _ => exact ⟨tm, h', Fwd.refl⟩
theorem forceO_elim {orc : Orc R} (hk : OrcOk T val orc) {x : Option Od} {k : TM → R} (h : T (forceO orc tm x k)) : ∃ tm', T (k tm') ∧ Fwd val tm tm' := by
  cases x with
  | none => exact ⟨tm, h, Fwd.refl⟩
  | some x => exact forceK_elim hk h

theorem numOp_lss {kd : IntKind} {a b : Int} {s : SV} (h : numOp .lss kd a b = some s) : s = .bool (decide (a < b)) := by
  simp [numOp] at h; exact h.symm
theorem SvEq.bool {s : SV} {b : Bool} (h : SvEq val s (.bool b)) : s = .bool b := by
  rcases h with h | ⟨_, _, _, h⟩
  · exact h
  · cases h

theorem ltS_elim {z : R} (hz : ¬ T z) {orc : Orc R} (hk : OrcOk T val orc) {a b : SV} {k : Bool → R} (h : T (ltS orc z a b k)) : ∃ kd x y, IsI val (.one a) kd x ∧ IsI val (.one b) kd y ∧ T (k (decide (x < y))) := by
  have bin : ∀ {kd i v}, T (orc.bin .lss kd i v fun s => s.onBool z k) → T (k (decide (val i < v))) := by
    intro kd i v h
    obtain ⟨s, s', h1, h2, h3⟩ := hk.bin _ _ _ _ _ h
    rw [numOp_lss h1] at h2
    rw [h2.bool] at h3
    exact h3
  have nib : ∀ {kd i v}, T (orc.nib .lss kd v i fun s => s.onBool z k) → T (k (decide (v < val i))) := by
    intro kd i v h
    obtain ⟨s, s', h1, h2, h3⟩ := hk.nib _ _ _ _ _ h
    rw [numOp_lss h1] at h2
    rw [h2.bool] at h3
    exact h3
  cases a with
  | int kd u =>
    cases b with
    | int kd' v =>
      obtain ⟨he, h1⟩ := cond_elim hz (show T (cond (IntKind.eqb kd kd') (k (ltI u v)) z) from h)
      have := eqb_eq he
      subst this
      rw [ltI_eq] at h1
      exact ⟨kd, u, v, .inl rfl, .inl rfl, h1⟩
    | sym kd' j =>
      obtain ⟨he, h1⟩ := cond_elim hz (show T (cond (IntKind.eqb kd kd') (orc.nib .lss kd u j fun s => s.onBool z k) z) from h)
      have := eqb_eq he
      subst this
      exact ⟨kd, u, val j, .inl rfl, .inr ⟨j, rfl, rfl⟩, nib h1⟩
    | _ => exact (hz h).elim
  | sym kd i =>
    cases b with
    | int kd' v =>
      obtain ⟨he, h1⟩ := cond_elim hz (show T (cond (IntKind.eqb kd kd') (orc.bin .lss kd i v fun s => s.onBool z k) z) from h)
      have := eqb_eq he
      subst this
      exact ⟨kd, val i, v, .inr ⟨i, rfl, rfl⟩, .inl rfl, bin h1⟩
    | sym kd' j =>
      obtain ⟨he, h1⟩ := cond_elim hz (show T (cond (IntKind.eqb kd kd') (orc.force j fun v => orc.bin .lss kd i v fun s => s.onBool z k) z) from h)
      have := eqb_eq he
      subst this
      exact ⟨kd, val i, val j, .inr ⟨i, rfl, rfl⟩, .inr ⟨j, rfl, rfl⟩, bin (hk.force _ _ h1)⟩
    | _ => exact (hz h).elim
  | _ => exact (hz h).elim
end
end Go.Ev
