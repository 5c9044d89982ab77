/-
  Regions whose order is open: states of runs in part.
-/
import Derived.Test.YtmnkmmfjekcinaaGreatEvDraw2
set_option linter.unusedVariables false
set_option linter.unusedSimpArgs false
namespace Go.Ev

theorem inR_setT_iff {tm : TM} {q r : Nat} {v : AV} {q' r' : Nat} : inR (setT tm q r v) q' r' ↔ inR tm q' r' := by
  refine ⟨inR_setT, fun ⟨row, h1, h2⟩ => ?_⟩
  unfold setT
  by_cases hq : q = q'
  · subst hq
    have hlt := (List.getElem?_eq_some_iff.1 h1).1
    refine ⟨(nth [] tm q).set r v, List.getElem?_set_self hlt, ?_⟩
    rw [nth_eq, h1]
    simpa using h2
  · exact ⟨row, by rw [List.getElem?_set_ne hq]; exact h1, h2⟩
theorem inR_setDT {tm : TM} {dst : Option (Nat × Nat)} {v : AV} {q r : Nat} : inR (setDT tm dst v) q r ↔ inR tm q r := by
  cases dst with
  | none => exact Iff.rfl
  | some p => exact inR_setT_iff

def TMeq (tm tm' : TM) : Prop := (∀ q r, get tm q r = get tm' q r) ∧ ∀ q r, inR tm q r ↔ inR tm' q r
theorem TmR.congr {val : Nat → Int} {ρ : Rho} {w : World} {tm tm' : TM} {a : Act} (h : TmR val ρ w tm a) (e : TMeq tm tm') : TmR val ρ w tm' a :=
  ⟨fun t ht => h.rng t ((e.2 _ _).2 ht), fun t => by rw [← e.1]; exact h.vals t⟩

noncomputable def foldTm (M : Nat → Bool) : Nat → List AOper → List Rec → TM → TM
  | i, ao :: al, r :: rs, tm => foldTm M (i + 1) al rs (if M i then setDT tm ao.dst r.v else tm)
  | _, _, _, tm => tm
noncomputable def foldC (M : Nat → Bool) : Nat → List AOper → List Rec → (Nat → St) → Nat → St
  | i, ao :: al, r :: rs, comp => foldC M (i + 1) al rs (if M i then updC ao i r comp else comp)
  | _, _, _, comp => comp

def affC (ao : AOper) (i : Nat) (r : Rec) (c : Nat) : Prop := r.w = true ∧ ao.mode ≠ 0 ∧ (c = target ao i ∨ c ∈ takes ao i)

theorem updC_no {ao : AOper} {i : Nat} {r : Rec} {comp : Nat → St} {c : Nat} (h : ¬ affC ao i r c) : updC ao i r comp c = comp c := by
  unfold updC
  split
  · rename_i hw
    have h1 : c ≠ target ao i := fun e => h ⟨hw.1, hw.2, .inl e⟩
    have h2 : c ∉ takes ao i := fun e => h ⟨hw.1, hw.2, .inr e⟩
    simp [newComp, h1, h2]
  · rfl
theorem updC_yes {ao : AOper} {i : Nat} {r : Rec} {comp comp' : Nat → St} {c : Nat} (h : affC ao i r c) : updC ao i r comp c = updC ao i r comp' c := by
  obtain ⟨h1, h2, h3⟩ := h
  unfold updC
  simp only [h1, h2, ne_eq, not_false_iff, and_self, if_true, newComp]
  split
  · rfl
  · rename_i hne
    have : c ∈ takes ao i := h3.resolve_left hne
    simp [this]

theorem foldC_agree {M M' : Nat → Bool} {c : Nat} : ∀ {al : List AOper} {rs : List Rec} {i : Nat} {comp comp' : Nat → St}, comp c = comp' c →
    (∀ (j : Nat) ao r, al[j]? = some ao → rs[j]? = some r → affC ao (i + j) r c → M (i + j) = M' (i + j)) → foldC M i al rs comp c = foldC M' i al rs comp' c
  | [], _, _, _, _, h, _ => h
  | _ :: _, [], _, _, _, h, _ => h
  | ao :: al, r :: rs, i, comp, comp', h, hM => by
    simp only [foldC]
    refine foldC_agree ?_ fun j ao' r' h1 h2 h3 => ?_
    · by_cases ha : affC ao i r c
      · have := hM 0 ao r (by simp) (by simp) (by simpa using ha)
        simp only [Nat.add_zero] at this
        rw [this]
        split
        · exact updC_yes ha
        · exact h
      · split <;> split <;> simp [updC_no ha, h]
    · have := hM (j + 1) ao' r' (by simpa using h1) (by simpa using h2) (by rw [show i + (j + 1) = i + 1 + j by omega]; exact h3)
      rwa [show i + (j + 1) = i + 1 + j by omega] at this

/-- One operation more. -/
def also (M : Nat → Bool) (t : Nat) : Nat → Bool := fun x => if x = t then true else M x

theorem foldC_skip {M : Nat → Bool} {c : Nat} : ∀ {al : List AOper} {rs : List Rec} {i : Nat} {comp : Nat → St},
    (∀ (j : Nat) ao r, al[j]? = some ao → rs[j]? = some r → affC ao (i + j) r c → M (i + j) = false) → foldC M i al rs comp c = comp c
  | [], _, _, _, _ => rfl
  | _ :: _, [], _, _, _ => rfl
  | ao :: al, r :: rs, i, comp, hM => by
    simp only [foldC]
    rw [foldC_skip fun j ao' r' h1 h2 h3 => by
      have := hM (j + 1) ao' r' (by simpa using h1) (by simpa using h2) (by rw [show i + (j + 1) = i + 1 + j by omega]; exact h3)
      rwa [show i + (j + 1) = i + 1 + j by omega] at this]
    split
    · rename_i hMi
      refine updC_no fun ha => ?_
      have := hM 0 ao r (by simp) (by simp) (by simpa using ha)
      simp only [Nat.add_zero] at this
      rw [this] at hMi; cases hMi
    · rfl

theorem foldC_add {M : Nat → Bool} {c : Nat} : ∀ {al : List AOper} {rs : List Rec} {i j0 : Nat} {comp : Nat → St} {ao0 : AOper} {r0 : Rec}, al[j0]? = some ao0 → rs[j0]? = some r0 → M (i + j0) = false →
    (affC ao0 (i + j0) r0 c → ∀ (j : Nat) ao r, al[j]? = some ao → rs[j]? = some r → j0 < j → affC ao (i + j) r c → M (i + j) = false) →
    foldC (also M (i + j0)) i al rs comp c = updC ao0 (i + j0) r0 (foldC M i al rs comp) c
  | [], _, _, _, _, _, _, h, _, _, _ => by simp at h
  | _ :: _, [], _, _, _, _, _, _, h, _, _ => by simp at h
  | ao :: al, r :: rs, i, j0, comp, ao0, r0, ha, hr, hM, hH => by
    by_cases haff : affC ao0 (i + j0) r0 c
    · cases j0 with
      | zero =>
        simp at ha hr; subst ha; subst hr
        simp only [Nat.add_zero] at hM hH haff ⊢
        simp only [foldC, also, if_true, hM, Bool.false_eq_true, if_false]
        rw [foldC_skip]
        · exact updC_yes haff
        · intro j ao' r' h1 h2 h3
          have hne : ¬ i + 1 + j = i := by omega
          show (if i + 1 + j = i then true else M (i + 1 + j)) = false
          rw [if_neg hne]
          have := hH haff (j + 1) ao' r' (by simpa using h1) (by simpa using h2) (by omega) (by rw [show i + (j + 1) = i + 1 + j by omega]; exact h3)
          rwa [show i + (j + 1) = i + 1 + j by omega] at this
      | succ j1 =>
        have e : i + (j1 + 1) = i + 1 + j1 := by omega
        simp only [foldC]
        rw [e] at hM hH ⊢
        have hne : ¬ i = i + 1 + j1 := by omega
        have e2 : also M (i + 1 + j1) i = M i := by simp [also, hne]
        rw [e2]
        exact foldC_add (by simpa using ha) (by simpa using hr) hM fun hf j ao' r' h1 h2 h3 h4 => by
          have := hH hf (j + 1) ao' r' (by simpa using h1) (by simpa using h2) (by omega) (by rw [show i + (j + 1) = i + 1 + j by omega]; exact h4)
          rwa [show i + (j + 1) = i + 1 + j by omega] at this
    · rw [updC_no haff]
      refine foldC_agree rfl fun j ao' r' h1 h2 h3 => ?_
      unfold also
      by_cases e : i + j = i + j0
      · exfalso
        have : j = j0 := by omega
        subst this
        rw [ha] at h1; cases h1
        rw [hr] at h2; cases h2
        exact haff h3
      · show (if i + j = i + j0 then true else M (i + j)) = M (i + j)
        rw [if_neg e]

theorem foldC_dead {M : Nat → Bool} {c : Nat} : ∀ {al : List AOper} {rs : List Rec} {i : Nat} {comp : Nat → St}, comp c = [] →
    (∀ (j : Nat) ao r, al[j]? = some ao → rs[j]? = some r → affC ao (i + j) r c → c ≠ target ao (i + j)) → foldC M i al rs comp c = []
  | [], _, _, _, h, _ => h
  | _ :: _, [], _, _, h, _ => h
  | ao :: al, r :: rs, i, comp, h, hM => by
    simp only [foldC]
    refine foldC_dead ?_ fun j ao' r' h1 h2 h3 => by
      have := hM (j + 1) ao' r' (by simpa using h1) (by simpa using h2) (by rw [show i + (j + 1) = i + 1 + j by omega]; exact h3)
      rwa [show i + (j + 1) = i + 1 + j by omega] at this
    split
    · by_cases ha : affC ao i r c
      · have hne := hM 0 ao r (by simp) (by simp) (by simpa using ha)
        simp only [Nat.add_zero] at hne
        obtain ⟨h1, h2, h3⟩ := ha
        have h4 : c ∈ takes ao i := h3.resolve_left hne
        unfold updC
        simp [h1, h2, newComp, hne, h4]
      · rw [updC_no ha]; exact h
    · exact h

/-- The temporaries. -/
theorem get_setDT_no {tm : TM} {dst : Option (Nat × Nat)} {v : AV} {q r : Nat} (h : dst ≠ some (q, r)) : get (setDT tm dst v) q r = get tm q r := by
  cases dst with
  | none => rfl
  | some p => exact get_setT_other fun e => h (by rw [show p = (p.1, p.2) from rfl, e.1, e.2])
theorem get_setDT_yes {tm tm' : TM} {v : AV} {q r : Nat} (h : inR tm q r ↔ inR tm' q r) : get (setDT tm (some (q, r)) v) q r = get (setDT tm' (some (q, r)) v) q r := by
  show get (setT tm q r v) q r = get (setT tm' q r v) q r
  rcases get_setT_same (tm := tm) (q := q) (r := r) (v := v) with ⟨h1, h2⟩ | ⟨h1, h2⟩
  · rcases get_setT_same (tm := tm') (q := q) (r := r) (v := v) with ⟨h3, h4⟩ | ⟨h3, h4⟩
    · rw [h2, h4]
    · exact (h3 (h.1 h1)).elim
  · rcases get_setT_same (tm := tm') (q := q) (r := r) (v := v) with ⟨h3, h4⟩ | ⟨h3, h4⟩
    · exact (h1 (h.2 h3)).elim
    · rw [h2, h4]

theorem foldTm_inR {M : Nat → Bool} {q r : Nat} : ∀ {al : List AOper} {rs : List Rec} {i : Nat} {tm : TM}, inR (foldTm M i al rs tm) q r ↔ inR tm q r
  | [], _, _, _ => Iff.rfl
  | _ :: _, [], _, _ => Iff.rfl
  | ao :: al, r' :: rs, i, tm => by
    simp only [foldTm]
    rw [foldTm_inR]
    split
    · exact inR_setDT
    · exact Iff.rfl

theorem foldTm_agree {M M' : Nat → Bool} {q r : Nat} : ∀ {al : List AOper} {rs : List Rec} {i : Nat} {tm tm' : TM}, get tm q r = get tm' q r → (inR tm q r ↔ inR tm' q r) →
    (∀ (j : Nat) ao, al[j]? = some ao → ao.dst = some (q, r) → M (i + j) = M' (i + j)) → get (foldTm M i al rs tm) q r = get (foldTm M' i al rs tm') q r
  | [], _, _, _, _, h, _, _ => h
  | _ :: _, [], _, _, _, h, _, _ => h
  | ao :: al, r' :: rs, i, tm, tm', h, hin, hM => by
    simp only [foldTm]
    refine foldTm_agree ?_ ?_ fun j ao' h1 h2 => ?_
    · by_cases hd : ao.dst = some (q, r)
      · have := hM 0 ao (by simp) hd
        simp only [Nat.add_zero] at this
        rw [this]
        split
        · rw [hd]; exact get_setDT_yes hin
        · exact h
      · split <;> split <;> simp [get_setDT_no hd, h]
    · split <;> split <;> simp [inR_setDT, hin]
    · have := hM (j + 1) ao' (by simpa using h1) h2
      rwa [show i + (j + 1) = i + 1 + j by omega] at this

theorem foldTm_skip {M : Nat → Bool} {q r : Nat} : ∀ {al : List AOper} {rs : List Rec} {i : Nat} {tm : TM}, (∀ (j : Nat) ao, al[j]? = some ao → ao.dst = some (q, r) → M (i + j) = false) → get (foldTm M i al rs tm) q r = get tm q r
  | [], _, _, _, _ => rfl
  | _ :: _, [], _, _, _ => rfl
  | ao :: al, r' :: rs, i, tm, hM => by
    simp only [foldTm]
    rw [foldTm_skip fun j ao' h1 h2 => by
      have := hM (j + 1) ao' (by simpa using h1) h2
      rwa [show i + (j + 1) = i + 1 + j by omega] at this]
    split
    · rename_i hMi
      refine get_setDT_no fun hd => ?_
      have := hM 0 ao (by simp) hd
      simp only [Nat.add_zero] at this
      rw [this] at hMi; cases hMi
    · rfl

theorem foldTm_add {M : Nat → Bool} {q r : Nat} : ∀ {al : List AOper} {rs : List Rec} {i j0 : Nat} {tm : TM} {ao0 : AOper} {r0 : Rec}, al[j0]? = some ao0 → rs[j0]? = some r0 → M (i + j0) = false →
    (ao0.dst = some (q, r) → ∀ (j : Nat) ao, al[j]? = some ao → j0 < j → ao.dst = some (q, r) → M (i + j) = false) →
    get (foldTm (also M (i + j0)) i al rs tm) q r = get (setDT (foldTm M i al rs tm) ao0.dst r0.v) q r
  | [], _, _, _, _, _, _, h, _, _, _ => by simp at h
  | _ :: _, [], _, _, _, _, _, _, h, _, _ => by simp at h
  | ao :: al, r' :: rs, i, j0, tm, ao0, r0, ha, hr, hM, hH => by
    by_cases haff : ao0.dst = some (q, r)
    · cases j0 with
      | zero =>
        simp at ha hr; subst ha; subst hr
        simp only [Nat.add_zero] at hM hH ⊢
        simp only [foldTm, also, if_true, hM, Bool.false_eq_true, if_false]
        rw [foldTm_skip]
        · rw [haff]; exact get_setDT_yes foldTm_inR.symm
        · intro j ao' h1 h2
          have hne : ¬ i + 1 + j = i := by omega
          show (if i + 1 + j = i then true else M (i + 1 + j)) = false
          rw [if_neg hne]
          have := hH haff (j + 1) ao' (by simpa using h1) (by omega) h2
          rwa [show i + (j + 1) = i + 1 + j by omega] at this
      | succ j1 =>
        have e : i + (j1 + 1) = i + 1 + j1 := by omega
        simp only [foldTm]
        rw [e] at hM ⊢
        have hne : ¬ i = i + 1 + j1 := by omega
        have e2 : also M (i + 1 + j1) i = M i := by simp [also, hne]
        rw [e2]
        exact foldTm_add (by simpa using ha) (by simpa using hr) hM fun hf j ao' h1 h3 h4 => by
          have := hH hf (j + 1) ao' (by simpa using h1) (by omega) h4
          rwa [show i + (j + 1) = i + 1 + j by omega] at this
    · rw [get_setDT_no haff]
      refine foldTm_agree rfl Iff.rfl fun j ao' h1 h2 => ?_
      unfold also
      by_cases e : i + j = i + j0
      · exfalso
        have : j = j0 := by omega
        subst this
        rw [ha] at h1; cases h1
        exact haff h2
      · show (if i + j = i + j0 then true else M (i + j)) = M (i + j)
        rw [if_neg e]

/-- The run in the text's order, place by place. -/
def nAt (n : Nat) (rs : List Rec) : Nat → Nat
  | 0 => n
  | j + 1 => ((rs[j]?).map (·.n1)).getD n

section
variable {P : Program} {val : Nat → Int} {fz : Fz}
theorem Chain.lengths : ∀ {l : List Oper} {al : List AOper} {rs : List Rec} {i : Nat} {tm : TM} {comp : Nat → St} {n : Nat} {tm' : TM} {comp' : Nat → St} {n' : Nat}, Chain P val fz i l al rs tm comp n tm' comp' n' → l.length = al.length ∧ rs.length = al.length
  | [], [], [], _, _, _, _, _, _, _, _ => ⟨rfl, rfl⟩
  | o :: l, ao :: al, r :: rs, _, _, _, _, _, _, _, h => by obtain ⟨a, b⟩ := Chain.lengths h.2; simp [a, b]
  | [], [], _ :: _, _, _, _, _, _, _, _, h => h.elim
  | [], _ :: _, [], _, _, _, _, _, _, _, h => h.elim
  | [], _ :: _, _ :: _, _, _, _, _, _, _, _, h => h.elim
  | _ :: _, [], [], _, _, _, _, _, _, _, h => h.elim
  | _ :: _, [], _ :: _, _, _, _, _, _, _, _, h => h.elim
  | _ :: _, _ :: _, [], _, _, _, _, _, _, _, h => h.elim

theorem Chain.get : ∀ {l : List Oper} {al : List AOper} {rs : List Rec} {i : Nat} {tm : TM} {comp : Nat → St} {n : Nat} {tm' : TM} {comp' : Nat → St} {n' : Nat}, Chain P val fz i l al rs tm comp n tm' comp' n' →
    ∀ (j : Nat) o ao r, l[j]? = some o → al[j]? = some ao → rs[j]? = some r → SemOp P val fz o ao (i + j) r (foldTm (fun x => decide (x < i + j)) i al rs tm) (foldC (fun x => decide (x < i + j)) i al rs comp) (nAt n rs j)
  | [], _, _, _, _, _, _, _, _, _, _, j, o, ao, r, h1, _, _ => by simp at h1
  | _ :: _, [], _, _, _, _, _, _, _, _, h, _, _, _, _, _, h2, _ => by simp at h2
  | _ :: _, _ :: _, [], _, _, _, _, _, _, _, h, _, _, _, _, _, _, h3 => by simp at h3
  | o :: l, ao :: al, r :: rs, i, tm, comp, n, tm', comp', n', h, j, o', ao', r', h1, h2, h3 => by
    cases j with
    | zero =>
      simp at h1 h2 h3; subst h1; subst h2; subst h3
      have e1 : foldTm (fun x => decide (x < i + 0)) i (ao :: al) (r :: rs) tm = tm := by
        have : ∀ (al : List AOper) (rs : List Rec) (k : Nat) (tm : TM), i ≤ k → foldTm (fun x => decide (x < i + 0)) k al rs tm = tm := by
          intro al
          induction al with
          | nil => intro rs k tm _; rfl
          | cons a al ih =>
            intro rs k tm hk
            cases rs with
            | nil => rfl
            | cons b rs => simp only [foldTm, show ¬ k < i + 0 by omega, decide_false, Bool.false_eq_true, if_false]; exact ih rs (k + 1) tm (by omega)
        exact this _ _ i tm (Nat.le_refl _)
      have e2 : foldC (fun x => decide (x < i + 0)) i (ao :: al) (r :: rs) comp = comp := by
        funext c
        exact foldC_skip fun j ao r _ _ _ => by simp
      rw [e1, e2]
      exact h.1
    | succ j =>
      have := Chain.get h.2 j o' ao' r' (by simpa using h1) (by simpa using h2) (by simpa using h3)
      simp only [foldTm, foldC, show i < i + (j + 1) by omega, decide_true, if_true]
      rw [show i + 1 + j = i + (j + 1) by omega] at this
      have en : nAt r.n1 rs j = nAt n (r :: rs) (j + 1) := by
        cases j with
        | zero => simp [nAt]
        | succ j =>
          simp only [nAt, List.getElem?_cons_succ]
          simp only [List.getElem?_cons_succ] at h3
          have : j < rs.length := by have := (List.getElem?_eq_some_iff.1 h3).1; omega
          simp [List.getElem?_eq_getElem this]
      rw [← en]
      exact this

theorem Chain.final : ∀ {l : List Oper} {al : List AOper} {rs : List Rec} {i : Nat} {tm : TM} {comp : Nat → St} {n : Nat} {tm' : TM} {comp' : Nat → St} {n' : Nat}, Chain P val fz i l al rs tm comp n tm' comp' n' →
    tm' = foldTm (fun _ => true) i al rs tm ∧ comp' = foldC (fun _ => true) i al rs comp ∧ n' = nAt n rs rs.length ∧ (∀ j, j < rs.length → nAt n rs j ≤ nAt n rs (j + 1))
  | [], [], [], _, _, _, _, _, _, _, h => ⟨h.1, h.2.1, h.2.2, fun j hj => by simp at hj⟩
  | o :: l, ao :: al, r :: rs, i, tm, comp, n, tm', comp', n', h => by
    obtain ⟨a, b, c, d⟩ := Chain.final h.2
    have en : ∀ j, j ≤ rs.length → nAt r.n1 rs j = nAt n (r :: rs) (j + 1) := by
      intro j hj
      cases j with
      | zero => simp [nAt]
      | succ j => simp [nAt, List.getElem?_eq_getElem (show j < rs.length by omega)]
    refine ⟨by simpa [foldTm] using a, by simpa [foldC] using b, ?_, fun j hj => ?_⟩
    · rw [c, en _ (Nat.le_refl _)]; rfl
    · cases j with
      | zero => simpa [nAt] using h.1.1
      | succ j =>
        have := d j (by simpa using hj)
        rw [en j (by simp at hj; omega), en (j + 1) (by simp at hj; omega)] at this
        exact this
  | [], [], _ :: _, _, _, _, _, _, _, _, h => h.elim
  | [], _ :: _, [], _, _, _, _, _, _, _, h => h.elim
  | [], _ :: _, _ :: _, _, _, _, _, _, _, _, h => h.elim
  | _ :: _, [], [], _, _, _, _, _, _, _, h => h.elim
  | _ :: _, [], _ :: _, _, _, _, _, _, _, _, h => h.elim
  | _ :: _, _ :: _, [], _, _, _, _, _, _, _, h => h.elim
end
end Go.Ev
