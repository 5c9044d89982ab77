/-
  Regions whose order is open: the run in the text's order, as records.
-/
import Derived.Test.YtmnkmmfjekcinaaGreatEvDraw1
set_option linter.unusedVariables false
set_option linter.unusedSimpArgs false
namespace Go.Ev

/-- What an operation came to: was it wanted, its value, the part of memory that it left, the next id. -/
structure Rec where
  w : Bool
  v : AV
  out : St
  n1 : Nat

def sucs (l : List Nat) : List Nat := l.map (· + 1)
def takes (o : AOper) (i : Nat) : List Nat := if o.mode = 2 then sucs o.anc ++ [0] else if o.mode = 0 ∨ o.mode = 1 ∨ o.mode = 3 then [] else (i + 1) :: sucs o.anc
def target (o : AOper) (i : Nat) : Nat := if o.mode = 2 then 0 else i + 1
noncomputable def updC (o : AOper) (i : Nat) (r : Rec) (comp : Nat → St) : Nat → St := if r.w = true ∧ o.mode ≠ 0 then newComp comp (takes o i) (target o i) r.out else comp
noncomputable def fzv (fz : Fz) (o : AOper) (comp : Nat → St) : Fz := if o.mode = 1 then with' (cat comp (sucs o.anc)) (with' (comp 0) fz) else if o.mode = 2 then fz else fun _ => none
noncomputable def muv (o : AOper) (i : Nat) (comp : Nat → St) : St := cat comp (takes o i)

/-- What the guard's temporary says. -/
def GuardF (g : Option (Nat × Nat × Bool)) (tm : TM) (b : Bool) : Prop :=
  match g with
  | none => b = true
  | some (q, r, want) => (∃ x, get tm q r = .one (.bool x) ∧ b = (x == want)) ∨ (get tm q r = .tp [] ∧ b = false)

section
variable {R : Type} {T : R → Prop} {z : R} {P : Program} {val : Nat → Int} {fz : Fz} {orc : Orc R} {call : CallT R}

theorem guardF_elim (hz : ¬ T z) {g : Option (Nat × Nat × Bool)} {tm : TM} {yes no : R} (h : T (onWanted z g tm yes no)) : (T yes ∧ GuardF g tm true) ∨ (T no ∧ GuardF g tm false) := by
  cases g with
  | none => exact .inl ⟨h, rfl⟩
  | some p =>
    obtain ⟨q, r, want⟩ := p
    have h' : T (AV.rec (motive := fun _ => R) (fun s => s.onBool z fun b => cond (b == want) yes no) (fun _ => z) (fun l => List.rec (motive := fun _ => R) no (fun _ _ _ => z) l) (get tm q r)) := h
    cases e : get tm q r with
    | one s =>
      rw [e] at h'
      obtain ⟨b, e2, h2⟩ := onBool_elim hz h'
      subst e2
      cases hb : (b == want) with
      | true => rw [hb] at h2; exact .inl ⟨h2, .inl ⟨b, e, hb.symm⟩⟩
      | false => rw [hb] at h2; exact .inr ⟨h2, .inl ⟨b, e, hb.symm⟩⟩
    | ag l => rw [e] at h'; exact (hz h').elim
    | tp l =>
      rw [e] at h'
      cases l with
      | cons _ _ => exact (hz h').elim
      | nil => exact .inr ⟨h', .inr ⟨e, rfl⟩⟩

theorem get_inR {tm : TM} {q r : Nat} (hne : get tm q r ≠ .one .un) : inR tm q r := by
  unfold get at hne
  simp only [nth_eq] at hne
  cases e : tm[q]? with
  | none => rw [e] at hne; simp at hne
  | some row =>
    rw [e] at hne
    simp only [Option.getD_some] at hne
    refine ⟨row, e, ?_⟩
    rcases Nat.lt_or_ge r row.length with h | h
    · exact h
    · rw [List.getElem?_eq_none h] at hne; exact (hne rfl).elim
theorem TmR.some {tm : TM} {ρ : Rho} {w : World} {a : Act} (hr : TmR val ρ w tm a) {t : Nat} (hne : get tm (t / 16) (t % 16) ≠ .one .un) : a.tmps[t]? = some (a.tmps.getD t undef) := by
  have hlt := hr.rng t (get_inR hne)
  simp [Array.getD_eq_getD_getElem?, Array.getElem?_eq_getElem hlt]

theorem guardF_wanted {ops : Array Oper} {o : Oper} {g' : Option (Nat × Nat × Bool)} {tm : TM} {b : Bool} {ρ : Rho} {w : World} {a : Act} (hg : guardOf ops o.guard = some g') (h : GuardF g' tm b) (hr : TmR val ρ w tm a) : Region.wanted o (yielded ops a.tmps) = b := by
  cases hgd : o.guard with
  | none =>
    rw [hgd] at hg
    simp [guardOf] at hg; subst hg
    have : b = true := h
    simp [Region.wanted, hgd, this]
  | some p =>
    obtain ⟨j, want⟩ := p
    rw [hgd] at hg
    simp only [guardOf] at hg
    split at hg
    · rename_i t ht
      cases hg
      have hv := hr.vals t
      rcases h with ⟨x, h1, h2⟩ | ⟨h1, h2⟩
      · have hs := hr.some (t := t) (by rw [h1]; intro h; cases h)
        rw [h1] at hv
        have hv' : a.tmps.getD t undef = .bool x := hv
        rw [hv'] at hs
        have hy : yielded ops a.tmps j = some x := by unfold yielded; rw [ht]; simp [hs]
        simp only [Region.wanted, hgd, hy, h2]
        cases x <;> cases want <;> rfl
      · have hs := hr.some (t := t) (by rw [h1]; intro h; cases h)
        rw [h1] at hv
        obtain ⟨vs, hx1, hx2⟩ := hv
        have hvs : vs = [] := by cases vs with | nil => rfl | cons _ _ => exact hx2.elim
        subst hvs
        rw [hx1] at hs
        have hy : yielded ops a.tmps j = none := by unfold yielded; rw [ht]; simp [hs]
        simp [Region.wanted, hgd, hy, h2]
    · cases hg

/-- What is known of an operation in the run in the text's order. -/
def SemOp (P : Program) (val : Nat → Int) (fz : Fz) (o : Oper) (ao : AOper) (i : Nat) (r : Rec) (tm : TM) (comp : Nat → St) (n : Nat) : Prop :=
  n ≤ r.n1 ∧ GuardF ao.g tm r.w ∧ (r.w = true → Sound P val (fzv fz ao comp) tm (muv ao i comp) n o r.v r.out r.n1) ∧ (r.w = false → r.v = noVal)

/-- The run in the text's order. -/
def Chain (P : Program) (val : Nat → Int) (fz : Fz) : Nat → List Oper → List AOper → List Rec → TM → (Nat → St) → Nat → TM → (Nat → St) → Nat → Prop
  | _, [], [], [], tm, comp, n, tm', comp', n' => tm' = tm ∧ comp' = comp ∧ n' = n
  | i, o :: l, ao :: al, r :: rs, tm, comp, n, tm', comp', n' => SemOp P val fz o ao i r tm comp n ∧ Chain P val fz (i + 1) l al rs (setDT tm ao.dst r.v) (updC ao i r comp) r.n1 tm' comp' n'
  | _, _, _, _, _, _, _, _, _, _ => False

/-- Memory in parts, of a store and what operations have made. -/
def compOf (mu : St) (ad : List St) : Nat → St
  | 0 => mu
  | j + 1 => (ad[j]?).getD []

theorem adsOf_eq (mu : St) (ad : List St) (l : List Nat) : adsOf ad l = cat (compOf mu ad) (sucs l) := by
  induction l with
  | nil => rfl
  | cons i r ih =>
    show nth [] ad i ++ adsOf ad r = _
    rw [ih, nth_eq]
    rfl
theorem cat_append (comp : Nat → St) (l m : List Nat) : cat comp (l ++ m) = cat comp l ++ cat comp m := by
  induction l with
  | nil => rfl
  | cons c r ih => simp [cat, ih]

def clearS (l : List Nat) (ad : List St) : List St := match l with | [] => ad | i :: r => clearS r (ad.set i [])
theorem clearK_eq (l : List Nat) (ad : List St) (k : List St → R) : clearK l ad k = k (clearS l ad) := by
  induction l generalizing ad with
  | nil => rfl
  | cons i r ih =>
    show setK ad i [] (fun ad => clearK r ad k) = _
    rw [setK_eq, ih]
    rfl
theorem clearS_get (l : List Nat) (ad : List St) (j : Nat) : ((clearS l ad)[j]?).getD [] = if j ∈ l then [] else (ad[j]?).getD [] := by
  induction l generalizing ad with
  | nil => simp [clearS]
  | cons i r ih =>
    simp only [clearS, ih, List.mem_cons]
    by_cases h1 : j ∈ r
    · simp [h1]
    · by_cases h2 : i = j
      · subst h2
        simp [h1, List.getElem?_set]
        split <;> simp
      · have h3 : ¬ j = i := fun e => h2 e.symm
        simp [h1, h3, List.getElem?_set_ne h2]
theorem clearS_length (l : List Nat) (ad : List St) : (clearS l ad).length = ad.length := by
  induction l generalizing ad with
  | nil => rfl
  | cons i r ih => simp [clearS, ih]

theorem mem_sucs {l : List Nat} {j : Nat} : j + 1 ∈ sucs l ↔ j ∈ l := by simp [sucs]
theorem zero_sucs {l : List Nat} : 0 ∉ sucs l := by simp [sucs]

theorem rstep_elim (hz : ¬ T z) (hc : CallSound T P val call) (hk : OrcOk T val orc) {o : Oper} {ao : AOper} {i : Nat} {tm : TM} {mu : St} {ad : List St} {n : Nat} {k : TM → St → List St → Nat → R} (hp : prepOp P o.op = some ao.op) (hi : i < ad.length) (hm : ao.mode ≤ 4) (hanc : i ∉ ao.anc)
    (h : T (rstep orc z call fz i ao tm mu ad n k)) : ∃ r mu' ad', T (k (setDT tm ao.dst r.v) mu' ad' r.n1) ∧ ad'.length = ad.length ∧ SemOp P val fz o ao i r tm (compOf mu ad) n ∧ compOf mu' ad' = updC ao i r (compOf mu ad) := by
  rcases guardF_elim hz h with ⟨h1, hg⟩ | ⟨h1, hg⟩
  · have setI : ∀ (ad0 : List St) (new : St) (c : Nat), i < ad0.length → compOf mu (ad0.set i new) c = if c = i + 1 then new else compOf mu ad0 c := by
      intro ad0 new c hi0
      cases c with
      | zero => simp [compOf]
      | succ j =>
        simp only [compOf, Nat.add_right_cancel_iff]
        by_cases e : j = i
        · subst e; simp [hi0]
        · have e' : ¬ i = j := fun x => e x.symm
          simp [e, List.getElem?_set_ne e']
    have hmode : ao.mode = 0 ∨ ao.mode = 1 ∨ ao.mode = 2 ∨ ao.mode = 3 ∨ ao.mode = 4 := by omega
    rcases hmode with hm0 | hm1 | hm2 | hm3 | hm4
    · simp only [hm0] at h1
      obtain ⟨v, mu', n', h2, h3⟩ := aop_sound (P := P) (val := val) hz hc hk hp (show T (aop orc z call (fun _ => none) tm [] n false ao.op fun v new n => List.rec (motive := fun _ => R) (setDst tm ao.dst v fun tm => k tm mu ad n) (fun _ _ _ => z) new) from h1)
      cases mu' with
      | cons _ _ => exact (hz h2).elim
      | nil =>
        have h4 : T (setDst tm ao.dst v fun tm => k tm mu ad n') := h2
        rw [setDst_eq] at h4
        refine ⟨⟨true, v, [], n'⟩, mu, ad, h4, rfl, ⟨h3.1, hg, fun _ => ?_, fun e => by cases e⟩, ?_⟩
        · have e1 : fzv fz ao (compOf mu ad) = fun _ => none := by simp [fzv, hm0]
          have e2 : muv ao i (compOf mu ad) = [] := by simp [muv, takes, hm0, cat]
          rw [e1, e2]; exact h3
        · simp [updC, hm0]
    · simp only [hm1] at h1
      obtain ⟨v, new, n', h2, h3⟩ := aop_sound (P := P) (val := val) hz hc hk hp (show T (aop orc z call (with' (adsOf ad ao.anc) (with' mu fz)) tm [] n true ao.op fun v new n => setDst tm ao.dst v fun tm => setK ad i new fun ad => k tm mu ad n) from h1)
      rw [setDst_eq, setK_eq] at h2
      refine ⟨⟨true, v, new, n'⟩, mu, ad.set i new, h2, by simp, ⟨h3.1, hg, fun _ => ?_, fun e => by cases e⟩, ?_⟩
      · have e1 : fzv fz ao (compOf mu ad) = with' (adsOf ad ao.anc) (with' mu fz) := by simp [fzv, hm1, adsOf_eq mu, compOf]
        have e2 : muv ao i (compOf mu ad) = [] := by simp [muv, takes, hm1, cat]
        rw [e1, e2]; exact h3
      · funext c
        rw [setI ad new c hi]
        simp [updC, hm1, newComp, target, takes]
    · simp only [hm2] at h1
      have h1' : T (joinK (adsOf ad ao.anc) mu fun mu => clearK ao.anc ad fun ad => aop orc z call fz tm mu n false ao.op fun v mu n => setDst tm ao.dst v fun tm => k tm mu ad n) := h1
      rw [joinK_eq, clearK_eq] at h1'
      obtain ⟨v, mu', n', h2, h3⟩ := aop_sound (P := P) (val := val) hz hc hk hp h1'
      rw [setDst_eq] at h2
      refine ⟨⟨true, v, mu', n'⟩, mu', clearS ao.anc ad, h2, clearS_length _ _, ⟨h3.1, hg, fun _ => ?_, fun e => by cases e⟩, ?_⟩
      · have e1 : fzv fz ao (compOf mu ad) = fz := by simp [fzv, hm2]
        have e2 : muv ao i (compOf mu ad) = adsOf ad ao.anc ++ mu := by simp [muv, takes, hm2, cat_append, adsOf_eq mu, cat, compOf]
        rw [e1, e2]; exact h3
      · funext c
        cases c with
        | zero => simp [compOf, updC, hm2, newComp, target]
        | succ j =>
          simp only [compOf, clearS_get, updC, hm2, target, takes]
          simp [newComp, mem_sucs, compOf]
    · simp only [hm3] at h1
      obtain ⟨v, new, n', h2, h3⟩ := aop_sound (P := P) (val := val) hz hc hk hp (show T (aop orc z call (fun _ => none) tm [] n false ao.op fun v new n => setDst tm ao.dst v fun tm => setK ad i new fun ad => k tm mu ad n) from h1)
      rw [setDst_eq, setK_eq] at h2
      refine ⟨⟨true, v, new, n'⟩, mu, ad.set i new, h2, by simp, ⟨h3.1, hg, fun _ => ?_, fun e => by cases e⟩, ?_⟩
      · have e1 : fzv fz ao (compOf mu ad) = fun _ => none := by simp [fzv, hm3]
        have e2 : muv ao i (compOf mu ad) = [] := by simp [muv, takes, hm3, cat]
        rw [e1, e2]; exact h3
      · funext c
        rw [setI ad new c hi]
        simp [updC, hm3, newComp, target, takes]
    · simp only [hm4] at h1
      have h1' : T (joinK (nth [] ad i) (adsOf ad ao.anc) fun own => aop orc z call (fun _ => none) tm own n false ao.op fun v new n => setDst tm ao.dst v fun tm => clearK ao.anc ad fun ad => setK ad i new fun ad => k tm mu ad n) := h1
      rw [joinK_eq] at h1'
      obtain ⟨v, new, n', h2, h3⟩ := aop_sound (P := P) (val := val) hz hc hk hp h1'
      rw [setDst_eq, clearK_eq, setK_eq] at h2
      refine ⟨⟨true, v, new, n'⟩, mu, (clearS ao.anc ad).set i new, h2, by simp [clearS_length], ⟨h3.1, hg, fun _ => ?_, fun e => by cases e⟩, ?_⟩
      · have e1 : fzv fz ao (compOf mu ad) = fun _ => none := by simp [fzv, hm4]
        have e2 : muv ao i (compOf mu ad) = nth [] ad i ++ adsOf ad ao.anc := by simp [muv, takes, hm4, adsOf_eq mu, cat, compOf, nth_eq]
        rw [e1, e2]; exact h3
      · funext c
        rw [setI _ new c (by rw [clearS_length]; exact hi)]
        cases c with
        | zero => simp [compOf, updC, hm4, newComp, target, takes, zero_sucs]
        | succ j =>
          simp only [compOf, clearS_get, updC, hm4, target, takes]
          by_cases e : j = i
          · subst e; simp [newComp]
          · simp [newComp, e, mem_sucs, compOf]
  · rw [setDst_eq] at h1
    exact ⟨⟨false, noVal, [], n⟩, mu, ad, h1, rfl, ⟨Nat.le_refl _, hg, fun e => (by cases e), fun _ => rfl⟩, by simp [updC]⟩

theorem rrun_elim (hz : ¬ T z) (hc : CallSound T P val call) (hk : OrcOk T val orc) {ops : Array Oper} : ∀ {l : List Oper} {al : List AOper} {i : Nat} {tm : TM} {mu : St} {ad : List St} {n : Nat} {k : TM → St → List St → Nat → R}, All2 (OpR P ops) l al → i + al.length ≤ ad.length →
    (∀ (j : Nat) ao, al[j]? = some ao → ao.mode ≤ 4 ∧ (i + j) ∉ ao.anc) → T (rrun orc z call fz al i tm mu ad n k) →
    ∃ rs tm' mu' ad' n', T (k tm' mu' ad' n') ∧ ad'.length = ad.length ∧ Chain P val fz i l al rs tm (compOf mu ad) n tm' (compOf mu' ad') n'
  | [], [], i, tm, mu, ad, n, k, _, _, _, h => ⟨[], tm, mu, ad, n, h, rfl, rfl, rfl, rfl⟩
  | [], _ :: _, _, _, _, _, _, _, hl, _, _, _ => hl.elim
  | _ :: _, [], _, _, _, _, _, _, hl, _, _, _ => hl.elim
  | o :: l, ao :: al, i, tm, mu, ad, n, k, hl, hi, hm, h => by
    obtain ⟨h0, h0'⟩ := hm 0 ao (by simp)
    obtain ⟨r, mu1, ad1, h1, h2, h3, h4⟩ := rstep_elim (P := P) (val := val) (fz := fz) hz hc hk hl.1.2.1 (by simp at hi; omega) h0 (by simpa using h0') (show T (rstep orc z call fz i ao tm mu ad n fun tm mu ad n => rrun orc z call fz al (Nat.succ i) tm mu ad n k) from h)
    obtain ⟨rs, tm', mu', ad', n', h5, h6, h7⟩ := rrun_elim hz hc hk (i := i + 1) hl.2 (by rw [h2]; simp at hi; omega) (fun j ao' hj => by
      have := hm (j + 1) ao' (by simpa using hj)
      rw [show i + (j + 1) = i + 1 + j by omega] at this
      exact this) h1
    refine ⟨r :: rs, tm', mu', ad', n', h5, h6.trans h2, h3, ?_⟩
    rw [h4] at h7
    exact h7
end
end Go.Ev
