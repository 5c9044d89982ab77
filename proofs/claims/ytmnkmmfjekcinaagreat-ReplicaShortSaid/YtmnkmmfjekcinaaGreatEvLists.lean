/-
  The evaluator's small functions, in plain words: what each comes to.
-/
import Derived.Test.YtmnkmmfjekcinaaGreatEvPrep
set_option linter.unusedVariables false
set_option linter.unusedSimpArgs false
namespace Go.Ev

section
variable {R : Type} {T : R → Prop} {z : R}

theorem fN_eq (n : Nat) (k : Nat → R) : fN n k = k n := by cases n <;> rfl
theorem fI_eq (n : Int) (k : Int → R) : fI n k = k n := by cases n <;> simp [fI, fN_eq]
theorem fB_eq (b : Bool) (k : Bool → R) : fB b k = k b := by cases b <;> rfl
theorem fSV_eq (v : SV) (k : SV → R) : fSV v k = k v := by cases v <;> simp [fSV, fN_eq, fI_eq, fB_eq]

theorem onOne_elim (hz : ¬ T z) {v : AV} {k : SV → R} (h : T (v.onOne z k)) : ∃ s, v = .one s ∧ T (k s) := by
  cases v with
  | one s => exact ⟨s, rfl, h⟩
  | ag l => exact (hz h).elim
  | tp l => exact (hz h).elim
theorem onAg_elim (hz : ¬ T z) {v : AV} {k : List SV → R} (h : T (v.onAg z k)) : ∃ l, v = .ag l ∧ T (k l) := by
  cases v with
  | one s => exact (hz h).elim
  | ag l => exact ⟨l, rfl, h⟩
  | tp l => exact (hz h).elim
theorem onTp_elim (hz : ¬ T z) {v : AV} {k : List CV → R} (h : T (v.onTp z k)) : ∃ l, v = .tp l ∧ T (k l) := by
  cases v with
  | one s => exact (hz h).elim
  | ag l => exact (hz h).elim
  | tp l => exact ⟨l, rfl, h⟩
/-- A value's cells, if it is no tuple. -/
def AV.cells? : AV → Option (List SV)
  | .one s => some [s]
  | .ag l => some l
  | .tp _ => none
theorem onCells_elim (hz : ¬ T z) {v : AV} {k : List SV → R} (h : T (v.onCells z k)) : ∃ l, v.cells? = some l ∧ T (k l) := by
  cases v with
  | one s => exact ⟨[s], rfl, h⟩
  | ag l => exact ⟨l, rfl, h⟩
  | tp l => exact (hz h).elim
theorem onInt_elim (hz : ¬ T z) {v : SV} {k : IntKind → Int → R} (h : T (v.onInt z k)) : ∃ a b, v = .int a b ∧ T (k a b) := by
  cases v <;> first | exact (hz h).elim | exact ⟨_, _, rfl, h⟩
theorem onBool_elim (hz : ¬ T z) {v : SV} {k : Bool → R} (h : T (v.onBool z k)) : ∃ b, v = .bool b ∧ T (k b) := by
  cases v <;> first | exact (hz h).elim | exact ⟨_, rfl, h⟩
theorem onStr_elim (hz : ¬ T z) {v : SV} {k : ByteArray → R} (h : T (v.onStr z k)) : ∃ b, v = .str b ∧ T (k b) := by
  cases v <;> first | exact (hz h).elim | exact ⟨_, rfl, h⟩
theorem onPtr_elim (hz : ¬ T z) {v : SV} {k : Nat → Nat → R} (h : T (v.onPtr z k)) : ∃ a b, v = .optr a b ∧ T (k a b) := by
  cases v <;> first | exact (hz h).elim | exact ⟨_, _, rfl, h⟩
theorem onSl_elim (hz : ¬ T z) {v : SV} {k : Nat → Nat → Nat → Nat → Nat → R} (h : T (v.onSl z k)) : ∃ a b c d e, v = .osl a b c d e ∧ T (k a b c d e) := by
  cases v <;> first | exact (hz h).elim | exact ⟨_, _, _, _, _, rfl, h⟩
theorem onFn_elim (hz : ¬ T z) {v : SV} {k : Nat → List (Nat × Nat) → R} (h : T (v.onFn z k)) : ∃ a b, v = .fn a b ∧ T (k a b) := by
  cases v <;> first | exact (hz h).elim | exact ⟨_, _, rfl, h⟩
theorem onSym_elim (hz : ¬ T z) {v : SV} {k : IntKind → Nat → R} (h : T (v.onSym z k)) : ∃ a b, v = .sym a b ∧ T (k a b) := by
  cases v <;> first | exact (hz h).elim | exact ⟨_, _, rfl, h⟩
theorem cond_elim (hz : ¬ T z) {b : Bool} {x : R} (h : T (cond b x z)) : b = true ∧ T x := by
  cases b
  · exact (hz h).elim
  · exact ⟨rfl, h⟩
theorem cond_elim' (hz : ¬ T z) {b : Bool} {x : R} (h : T (cond b z x)) : b = false ∧ T x := by
  cases b
  · exact ⟨rfl, h⟩
  · exact (hz h).elim
theorem option_elim (hz : ¬ T z) {α : Type} {o : Option α} {k : α → R} (h : T (Option.rec (motive := fun _ => R) z k o)) : ∃ a, o = some a ∧ T (k a) := by
  cases o with
  | none => exact (hz h).elim
  | some a => exact ⟨a, rfl, h⟩

theorem nth_eq {α : Type} (d : α) (l : List α) (i : Nat) : nth d l i = (l[i]?).getD d := by
  induction l generalizing i with
  | nil => rfl
  | cons h t ih => cases i with
    | zero => rfl
    | succ j =>
      have : nth d (h :: t) (j + 1) = nth d t j := rfl
      rw [this, ih]; simp
theorem nthK_elim {α : Type} (hz : ¬ T z) {l : List α} {i : Nat} {k : α → R} (h : T (nthK l i z k)) : ∃ a, l[i]? = some a ∧ T (k a) := by
  induction l generalizing i with
  | nil => exact (hz h).elim
  | cons a t ih => cases i with
    | zero => exact ⟨a, by simp, h⟩
    | succ j => obtain ⟨b, h1, h2⟩ := ih (i := j) h; exact ⟨b, by simpa using h1, h2⟩
theorem setK_eq {α : Type} (l : List α) (i : Nat) (v : α) (k : List α → R) : setK l i v k = k (l.set i v) := by
  induction l generalizing i k with
  | nil => rfl
  | cons h t ih => cases i with
    | zero => rfl
    | succ j => exact ih j _
theorem takeK_elim (hz : ¬ T z) {l : List SV} {n : Nat} {k : List SV → R} (h : T (takeK l n z k)) : n ≤ l.length ∧ T (k (l.take n)) := by
  induction l generalizing n k with
  | nil => cases n with
    | zero => exact ⟨Nat.le_refl _, h⟩
    | succ m => exact (hz h).elim
  | cons a t ih => cases n with
    | zero => exact ⟨Nat.zero_le _, h⟩
    | succ m =>
      obtain ⟨h1, h2⟩ := ih (n := m) (k := fun r => k (a :: r)) h
      exact ⟨by simpa using h1, by simpa using h2⟩
theorem subK_elim (hz : ¬ T z) {l : List SV} {off n : Nat} {k : List SV → R} (h : T (subK l off n z k)) : off + n ≤ l.length ∧ T (k ((l.drop off).take n)) := by
  induction l generalizing off with
  | nil => cases off with
    | zero => cases n with
      | zero => exact ⟨Nat.le_refl _, h⟩
      | succ m => exact (hz h).elim
    | succ o => exact (hz h).elim
  | cons a t ih => cases off with
    | zero =>
      have h' : T (takeK (a :: t) n z k) := h
      obtain ⟨h1, h2⟩ := takeK_elim hz h'
      exact ⟨by omega, by simpa using h2⟩
    | succ o =>
      obtain ⟨h1, h2⟩ := ih (off := o) h
      exact ⟨by simp; omega, by simpa using h2⟩
theorem headK_elim (hz : ¬ T z) {vs l : List SV} {k : List SV → R} (h : T (headK vs l z k)) : vs.length ≤ l.length ∧ T (k (vs ++ l.drop vs.length)) := by
  induction vs generalizing l k with
  | nil =>
    have h' : T (k l) := h
    exact ⟨Nat.zero_le _, by simpa using h'⟩
  | cons v t ih => cases l with
    | nil => exact (hz h).elim
    | cons a r =>
      obtain ⟨h1, h2⟩ := ih (l := r) (k := fun r => k (v :: r)) h
      exact ⟨by simpa using h1, by simpa using h2⟩
/-- vs over the list, from a place on. -/
def over (l : List SV) (off : Nat) (vs : List SV) : List SV := l.take off ++ (vs ++ l.drop (off + vs.length))
theorem overK_elim (hz : ¬ T z) {vs l : List SV} {off : Nat} {k : List SV → R} (h : T (overK l off vs z k)) : off + vs.length ≤ l.length ∧ T (k (over l off vs)) := by
  induction l generalizing off k with
  | nil => cases off with
    | zero =>
      have h' : T (headK vs [] z k) := h
      obtain ⟨h1, h2⟩ := headK_elim hz h'
      exact ⟨by simpa using h1, by simpa [over] using h2⟩
    | succ o => exact (hz h).elim
  | cons a t ih => cases off with
    | zero =>
      have h' : T (headK vs (a :: t) z k) := h
      obtain ⟨h1, h2⟩ := headK_elim hz h'
      exact ⟨by simpa using h1, by simpa [over] using h2⟩
    | succ o =>
      obtain ⟨h1, h2⟩ := ih (off := o) (k := fun r => k (a :: r)) h
      refine ⟨by simp; omega, ?_⟩
      have e : over (a :: t) (o + 1) vs = a :: over t o vs := by
        simp only [over, List.take_succ_cons, List.cons_append]
        rw [show o + 1 + vs.length = (o + vs.length) + 1 by omega, List.drop_succ_cons]
      rw [e]
      exact h2
theorem over_length {l : List SV} {off : Nat} {vs : List SV} (h : off + vs.length ≤ l.length) : (over l off vs).length = l.length := by
  simp [over]; omega
theorem over_get {l : List SV} {off : Nat} {vs : List SV} (h : off + vs.length ≤ l.length) (i : Nat) :
    (over l off vs)[i]? = if i < off then l[i]? else if i < off + vs.length then vs[i - off]? else l[i]? := by
  unfold over
  by_cases h1 : i < off
  · rw [List.getElem?_append_left (by simp; omega)]
    simp [h1]
  · rw [List.getElem?_append_right (by simp; omega)]
    simp only [h1, if_false, List.length_take]
    rw [show min off l.length = off by omega]
    by_cases h2 : i < off + vs.length
    · rw [List.getElem?_append_left (by omega)]
      simp [h2]
    · rw [List.getElem?_append_right (by omega)]
      simp only [h2, if_false, List.getElem?_drop]
      congr 1; omega
theorem appK_eq (l m : List SV) (k : List SV → R) : appK l m k = k (l ++ m) := by
  induction l generalizing k with
  | nil => rfl
  | cons h t ih => exact ih _
theorem copyK_eq (l : List SV) (k : List SV → R) : copyK l k = k l := by
  induction l generalizing k with
  | nil => rfl
  | cons h t ih => exact ih _
theorem lenK_eq (l : List SV) (n : Nat) (k : Nat → R) : lenK l n k = k (n + l.length) := by
  induction l generalizing n with
  | nil => rfl
  | cons h t ih =>
    have : lenK (h :: t) n k = lenK t (n + 1) k := rfl
    rw [this, ih]
    congr 1
    simp; omega

theorem beq_no {a b : Nat} (h : ¬ a = b) : Nat.beq a b = false := by
  rw [Bool.eq_false_iff]; intro e; exact h (Nat.eq_of_beq_eq_true e)
theorem beq_yes {a b : Nat} (h : Nat.beq a b = true) : a = b := Nat.eq_of_beq_eq_true h

theorem look_nil (id : Nat) : look [] id = none := rfl
theorem look_cons (p : Nat × List SV) (s : St) (id : Nat) : look (p :: s) id = if p.1 = id then some p.2 else look s id := by
  show cond (Nat.beq p.1 id) (some p.2) (look s id) = _
  by_cases h : p.1 = id
  · simp [h]
  · have : Nat.beq p.1 id = false := beq_no h
    simp [this, h]
theorem look_append (s m : St) (id : Nat) : look (s ++ m) id = match look s id with | some c => some c | none => look m id := by
  induction s with
  | nil => rfl
  | cons p t ih =>
    rw [List.cons_append, look_cons, look_cons]
    by_cases h : p.1 = id
    · simp [h]
    · simp [h, ih]
theorem onLook_elim (hz : ¬ T z) {s : St} {id : Nat} {k : List SV → R} (h : T (onLook s id z k)) : ∃ c, look s id = some c ∧ T (k c) := option_elim hz h
theorem lookAll_elim (hz : ¬ T z) {fz : Fz} {mu : St} {id : Nat} {k : List SV → R} (h : T (lookAll fz mu id z k)) :
    ∃ c, (look mu id = some c ∨ look mu id = none ∧ fz id = some c) ∧ T (k c) := by
  unfold lookAll at h
  cases e : look mu id with
  | some c => rw [e] at h; exact ⟨c, .inl rfl, h⟩
  | none =>
    rw [e] at h
    obtain ⟨c, h1, h2⟩ := option_elim hz h
    exact ⟨c, .inr ⟨rfl, h1⟩, h2⟩
theorem with_eq (mu : St) (fz : Fz) (id : Nat) : with' mu fz id = match look mu id with | some c => some c | none => fz id := by
  unfold with'
  cases look mu id <;> rfl

def putS : St → Nat → List SV → St
  | [], _, _ => []
  | p :: t, id, c => if p.1 = id then (p.1, c) :: t else p :: putS t id c
theorem putK_eq (s : St) (id : Nat) (c : List SV) (k : St → R) : putK s id c k = k (putS s id c) := by
  induction s generalizing k with
  | nil => rfl
  | cons p t ih =>
    show cond (Nat.beq p.1 id) _ (putK t id c fun r => k (p :: r)) = _
    rw [ih]
    by_cases h : p.1 = id
    · simp [h, putS]
    · have : Nat.beq p.1 id = false := beq_no h
      simp [this, h, putS]
theorem look_putS (s : St) (id : Nat) (c : List SV) (id' : Nat) : look (putS s id c) id' = if id = id' then (look s id).map (fun _ => c) else look s id' := by
  induction s with
  | nil => simp [putS, look_nil]
  | cons p t ih =>
    unfold putS
    by_cases h : p.1 = id
    · simp only [h, if_true, look_cons]
      by_cases h' : id = id' <;> simp [h']
    · simp only [h, if_false, look_cons, ih]
      by_cases h' : id = id'
      · subst h'; simp [h]
      · simp [h']
def killS : St → Nat → St
  | [], _ => []
  | p :: t, id => if p.1 = id then killS t id else p :: killS t id
theorem killK_eq (s : St) (id : Nat) (k : St → R) : killK s id k = k (killS s id) := by
  induction s generalizing k with
  | nil => rfl
  | cons p t ih =>
    show cond (Nat.beq p.1 id) (killK t id k) (killK t id fun r => k (p :: r)) = _
    rw [ih, ih]
    by_cases h : p.1 = id
    · simp [h, killS]
    · have : Nat.beq p.1 id = false := beq_no h
      simp [this, h, killS]
theorem look_killS (s : St) (id id' : Nat) : look (killS s id) id' = if id = id' then none else look s id' := by
  induction s with
  | nil => simp [killS, look_nil]
  | cons p t ih =>
    unfold killS
    by_cases h : p.1 = id
    · simp only [h, if_true, look_cons, ih]
      by_cases h' : id = id' <;> simp [h']
    · simp only [h, if_false, look_cons, ih]
      by_cases h' : id = id'
      · subst h'; simp [h]
      · simp [h']
theorem joinK_eq (s m : St) (k : St → R) : joinK s m k = k (s ++ m) := by
  induction s generalizing k with
  | nil => rfl
  | cons p t ih => exact ih _

theorem ltI_eq (a b : Int) : ltI a b = decide (a < b) := by
  cases a <;> cases b <;> (rw [Bool.eq_iff_iff]; simp [ltI, Nat.blt_eq]) <;> omega
theorem eqI_eq (a b : Int) : eqI a b = decide (a = b) := by
  cases a <;> cases b <;> (rw [Bool.eq_iff_iff]; simp [eqI]) <;> omega
theorem eqb_eq {a b : IntKind} (h : IntKind.eqb a b = true) : a = b := by
  cases a <;> cases b <;> first | rfl | (revert h; decide)
theorem wrap_small (kd : IntKind) (m : Nat) (h : m < 128) : kd.wrap (m : Int) = m := by
  cases kd <;> simp [IntKind.wrap, IntKind.bits, IntKind.signed] <;> omega
theorem wrapK_eq (kd : IntKind) (n : Int) (k : Int → R) : wrapK kd n k = k (kd.wrap n) := by
  cases n with
  | ofNat m =>
    show cond (Nat.blt m 128) (fN m fun m => k (Int.ofNat m)) (fI (kd.wrap (Int.ofNat m)) k) = _
    by_cases h : m < 128
    · have e : Nat.blt m 128 = true := by simpa [Nat.blt_eq] using h
      rw [e, fN_eq]
      show k (m : Int) = k (kd.wrap (m : Int))
      rw [wrap_small kd m h]
    · have e : Nat.blt m 128 = false := by
        rw [Bool.eq_false_iff]; simpa [Nat.blt_eq] using h
      rw [e, fI_eq]; rfl
  | negSucc m => exact fI_eq _ _
theorem knownAll_iff (l : List SV) : knownAll l = true ↔ ∀ s ∈ l, s.known = true := by
  induction l with
  | nil => simp [knownAll]
  | cons h t ih =>
    show cond h.known (knownAll t) false = true ↔ _
    cases e : h.known <;> simp [e, ih]
end
end Go.Ev
