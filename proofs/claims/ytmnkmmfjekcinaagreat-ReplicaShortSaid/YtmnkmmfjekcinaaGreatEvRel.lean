/-
  How the evaluator's values and stores stand to the model's values and worlds.
-/
import Derived.Test.YtmnkmmfjekcinaaGreatEvLists
import Derived.Laws.Cells
import Derived.Laws.CopyRow
set_option linter.unusedVariables false
set_option linter.unusedSimpArgs false
namespace Go.Ev

/-- Element by element. -/
def All2 {α β : Type} (R : α → β → Prop) : List α → List β → Prop
  | [], [] => True
  | a :: x, b :: y => R a b ∧ All2 R x y
  | _, _ => False

section
variable {α β : Type} {R S : α → β → Prop}
theorem All2.length {x : List α} {y : List β} (h : All2 R x y) : x.length = y.length := by
  induction x generalizing y with
  | nil => cases y with
    | nil => rfl
    | cons b y => exact h.elim
  | cons a x ih => cases y with
    | nil => exact h.elim
    | cons b y => simp [ih h.2]
theorem All2.get {x : List α} {y : List β} (h : All2 R x y) {i : Nat} {a : α} (ha : x[i]? = some a) : ∃ b, y[i]? = some b ∧ R a b := by
  induction x generalizing y i with
  | nil => simp at ha
  | cons a' x ih => cases y with
    | nil => exact h.elim
    | cons b y => cases i with
      | zero => simp at ha; subst ha; exact ⟨b, by simp, h.1⟩
      | succ j => simpa using ih h.2 (by simpa using ha)
theorem All2.of_get {x : List α} {y : List β} (hl : x.length = y.length) (h : ∀ (i : Nat) a b, x[i]? = some a → y[i]? = some b → R a b) : All2 R x y := by
  induction x generalizing y with
  | nil => cases y with
    | nil => trivial
    | cons b y => simp at hl
  | cons a x ih => cases y with
    | nil => simp at hl
    | cons b y => exact ⟨h 0 a b (by simp) (by simp), ih (by simpa using hl) fun i a b ha hb => h (i + 1) a b (by simpa using ha) (by simpa using hb)⟩
theorem All2.imp {x : List α} {y : List β} (h : All2 R x y) (hi : ∀ a b, R a b → S a b) : All2 S x y := by
  induction x generalizing y with
  | nil => cases y with
    | nil => trivial
    | cons b y => exact h.elim
  | cons a x ih => cases y with
    | nil => exact h.elim
    | cons b y => exact ⟨hi _ _ h.1, ih h.2⟩
theorem All2.append {x x' : List α} {y y' : List β} (h : All2 R x y) (h' : All2 R x' y') : All2 R (x ++ x') (y ++ y') := by
  induction x generalizing y with
  | nil => cases y with
    | nil => exact h'
    | cons b y => exact h.elim
  | cons a x ih => cases y with
    | nil => exact h.elim
    | cons b y => exact ⟨h.1, ih h.2⟩
theorem All2.take {x : List α} {y : List β} (h : All2 R x y) (n : Nat) : All2 R (x.take n) (y.take n) := by
  induction x generalizing y n with
  | nil => cases y with
    | nil => simp [All2]
    | cons b y => exact h.elim
  | cons a x ih => cases y with
    | nil => exact h.elim
    | cons b y => cases n with
      | zero => simp [All2]
      | succ m => exact ⟨h.1, ih h.2 m⟩
theorem All2.drop {x : List α} {y : List β} (h : All2 R x y) (n : Nat) : All2 R (x.drop n) (y.drop n) := by
  induction x generalizing y n with
  | nil => cases y with
    | nil => simp [All2]
    | cons b y => exact h.elim
  | cons a x ih => cases y with
    | nil => exact h.elim
    | cons b y => cases n with
      | zero => exact h
      | succ m => exact ih h.2 m
end

/-- Where an id's block lies: its number, the place of its first cell. -/
abbrev Rho := Nat → Option (Nat × Nat)

def bsize (w : World) (b : Nat) : Nat := match w.heap[b]? with | some (.cells c _ _) => c.size | _ => 0

/-- Which part of a block is frozen. -/
def frz (w : World) (b : Nat) : Nat × Nat := match w.heap[b]? with | some (.cells _ _ fr) => fr | _ => (0, 0)

def CapR (ρ : Rho) (p : Nat × Nat) (x : Value) : Prop := ∃ q, ρ p.1 = some q ∧ x = .pointer (some ⟨q.1, q.2 + p.2, none⟩)

def VR (val : Nat → Int) (ρ : Rho) (w : World) : SV → Value → Prop
  | .un, _ => True
  | .int k n, v => v = .int k n
  | .bool b, v => v = .bool b
  | .str s, v => v = .string s
  | .nsl, v => v = .slice none 0 0
  | .npt, v => v = .pointer none
  | .nfn, v => v = .nilFunc
  | .optr id off, v => ∃ p, ρ id = some p ∧ v = .pointer (some ⟨p.1, p.2 + off, none⟩)
  | .osl id off len cap s, v => ∃ p c, ρ id = some p ∧ v = .slice (some ⟨p.1, p.2 + off, none⟩) len c ∧ len ≤ cap ∧ cap ≤ c ∧ p.2 + off + c * s ≤ bsize w p.1 ∧ c ≤ 9223372036854775807
  | .esl, v => ∃ a, v = .slice (some a) 0 0
  | .zsl, v => ∃ a c, v = .slice (some a) 0 c
  | .fn f caps, v => ∃ vs : List Value, v = .func (.func f) #[] vs.toArray ∧ All2 (CapR ρ) caps vs
  | .sym k i, v => v = .int k (val i)

def CVR (val : Nat → Int) (ρ : Rho) (w : World) : CV → Value → Prop
  | .one s, v => VR val ρ w s v
  | .ag l, v => ∃ vs : List Value, v = .agg vs.toArray ∧ All2 (VR val ρ w) l vs

def AVR (val : Nat → Int) (ρ : Rho) (w : World) : AV → Value → Prop
  | .one s, v => VR val ρ w s v
  | .ag l, v => ∃ vs : List Value, v = .agg vs.toArray ∧ All2 (VR val ρ w) l vs
  | .tp l, v => ∃ vs : List Value, v = .tuple vs.toArray ∧ All2 (CVR val ρ w) l vs

/-- The id's block lies in the world and holds these cells. -/
def Own (val : Nat → Int) (ρ : Rho) (w : World) (id : Nat) (cs : List SV) : Prop :=
  ∃ p C ty, ρ id = some p ∧ w.heap[p.1]? = some (.cells C ty (0, 0)) ∧ p.2 + cs.length ≤ C.size ∧ ∀ i s, cs[i]? = some s → ∃ v, C[p.2 + i]? = some v ∧ VR val ρ w s v

structure Rel (val : Nat → Int) (ρ : Rho) (fz : Fz) (mu : St) (w : World) : Prop where
  rf : ∀ id cs, fz id = some cs → Own val ρ w id cs
  rm : ∀ id cs, look mu id = some cs → Own val ρ w id cs
  dm : ∀ id cs, look mu id = some cs → fz id = none
  dj : ∀ id id' p p', (look mu id).isSome → ((look mu id').isSome ∨ (fz id').isSome) → ρ id = some p → ρ id' = some p' → p.1 = p'.1 → id = id'

/-- What a run leaves of the elder world: all but the blocks of the store. -/
structure Fr (ρ : Rho) (mu : St) (w w' : World) : Prop where
  os : w'.os = w.os
  tape : w'.tape = w.tape
  output : w'.output = w.output
  size : w.heap.size ≤ w'.heap.size
  keep : ∀ b, b < w.heap.size → (∀ id p, (look mu id).isSome → ρ id = some p → p.1 ≠ b) → w'.heap[b]? = w.heap[b]?
  shape : ∀ b, bsize w b ≤ bsize w' b
  frozen : ∀ b, frz w' b = frz w b

structure Ext (ρ ρ' : Rho) (n n' : Nat) : Prop where
  old : ∀ id p, ρ id = some p → ρ' id = some p
  new : ∀ id p, ρ' id = some p → ρ id = some p ∨ n ≤ id ∧ id < n'

def FreshN (ρ : Rho) (n n' : Nat) : Prop := ∀ id, n ≤ id → id < n' → ρ id = none

/-- The blocks of the store behind the run: new ones, or such as the store had. -/
def NewB (ρ ρ' : Rho) (mu mu' : St) (w : World) : Prop :=
  ∀ id p, (look mu' id).isSome → ρ' id = some p → w.heap.size ≤ p.1 ∨ ∃ id0 p0, (look mu id0).isSome ∧ ρ id0 = some p0 ∧ p0.1 = p.1

/-- Ids of the store behind the run: such as it had, or new ones. -/
def NewI (mu mu' : St) (n n' : Nat) : Prop := ∀ id, (look mu' id).isSome → (look mu id).isSome ∨ n ≤ id ∧ id < n'

section
variable {val : Nat → Int} {ρ ρ' : Rho} {w w' : World}
theorem VR.mono {s : SV} {v : Value} (h : VR val ρ w s v) (ho : ∀ id p, ρ id = some p → ρ' id = some p) (hs : ∀ b, bsize w b ≤ bsize w' b) : VR val ρ' w' s v := by
  cases s with
  | optr id off => obtain ⟨p, h1, h2⟩ := h; exact ⟨p, ho _ _ h1, h2⟩
  | osl id off len cap s => obtain ⟨p, c, h1, h2, h3, h4, h5, h6⟩ := h; exact ⟨p, c, ho _ _ h1, h2, h3, h4, Nat.le_trans h5 (hs _), h6⟩
  | fn f caps => obtain ⟨vs, h1, h2⟩ := h; exact ⟨vs, h1, h2.imp fun a b ⟨q, hq, e⟩ => ⟨q, ho _ _ hq, e⟩⟩
  | _ => exact h
theorem VRs.mono {l : List SV} {vs : List Value} (h : All2 (VR val ρ w) l vs) (ho : ∀ id p, ρ id = some p → ρ' id = some p) (hs : ∀ b, bsize w b ≤ bsize w' b) : All2 (VR val ρ' w') l vs :=
  h.imp fun _ _ h => h.mono ho hs
theorem CVR.mono {s : CV} {v : Value} (h : CVR val ρ w s v) (ho : ∀ id p, ρ id = some p → ρ' id = some p) (hs : ∀ b, bsize w b ≤ bsize w' b) : CVR val ρ' w' s v := by
  cases s with
  | one s => exact VR.mono h ho hs
  | ag l => obtain ⟨vs, e, h⟩ := h; exact ⟨vs, e, VRs.mono h ho hs⟩
theorem AVR.mono {s : AV} {v : Value} (h : AVR val ρ w s v) (ho : ∀ id p, ρ id = some p → ρ' id = some p) (hs : ∀ b, bsize w b ≤ bsize w' b) : AVR val ρ' w' s v := by
  cases s with
  | one s => exact VR.mono h ho hs
  | ag l => obtain ⟨vs, e, h⟩ := h; exact ⟨vs, e, VRs.mono h ho hs⟩
  | tp l => obtain ⟨vs, e, h⟩ := h; exact ⟨vs, e, h.imp fun _ _ h => h.mono ho hs⟩
/-- A block that stands as it stood holds what it held. -/
theorem Own.mono {id : Nat} {cs : List SV} (h : Own val ρ w id cs) (ho : ∀ id p, ρ id = some p → ρ' id = some p) (hs : ∀ b, bsize w b ≤ bsize w' b)
    (hk : ∀ p, ρ id = some p → w'.heap[p.1]? = w.heap[p.1]?) : Own val ρ' w' id cs := by
  obtain ⟨p, C, ty, h1, h2, h3, h4⟩ := h
  exact ⟨p, C, ty, ho _ _ h1, (hk p h1).trans h2, h3, fun i s hi => let ⟨v, e, r⟩ := h4 i s hi; ⟨v, e, r.mono ho hs⟩⟩
theorem Own.lt {id : Nat} {cs : List SV} (h : Own val ρ w id cs) {p : Nat × Nat} (hp : ρ id = some p) : p.1 < w.heap.size := by
  obtain ⟨q, C, ty, h1, h2, h3, h4⟩ := h
  rw [hp] at h1; cases h1
  rcases Nat.lt_or_ge p.1 w.heap.size with h | h
  · exact h
  · simp [Array.getElem?_eq_none h] at h2

theorem known_one {s : SV} {v : Value} (h : VR val ρ w s v) (hk : s.known = true) : v.oneCell' = true := by
  cases s with
  | un => cases hk
  | optr => obtain ⟨p, _, rfl⟩ := h; rfl
  | osl => obtain ⟨p, c, _, rfl, _⟩ := h; rfl
  | esl => obtain ⟨p, rfl⟩ := h; rfl
  | zsl => obtain ⟨p, c, rfl⟩ := h; rfl
  | fn => obtain ⟨p, rfl, _⟩ := h; rfl
  | _ => cases h; rfl
theorem known_all {l : List SV} {vs : List Value} (h : All2 (VR val ρ w) l vs) (hk : knownAll l = true) : ∀ v ∈ vs, v.oneCell' = true := by
  rw [knownAll_iff] at hk
  induction l generalizing vs with
  | nil => cases vs with
    | nil => simp
    | cons b y => exact h.elim
  | cons a x ih => cases vs with
    | nil => exact h.elim
    | cons b y =>
      intro v hv
      simp only [List.mem_cons] at hv
      rcases hv with rfl | hv
      · exact known_one h.1 (hk a (by simp))
      · exact ih h.2 (fun s hs => hk s (by simp [hs])) v hv
/-- A value's cells, in the model. -/
theorem cells_of {v : AV} {x : Value} {l : List SV} (h : AVR val ρ w v x) (hl : v.cells? = some l) (hk : knownAll l = true) :
    ∃ vs : List Value, x.cells = vs.toArray ∧ All2 (VR val ρ w) l vs ∧ ∀ v ∈ vs, v.oneCell' = true := by
  cases v with
  | one s =>
    simp [AV.cells?] at hl; subst hl
    have hs : s.known = true := by rw [knownAll_iff] at hk; exact hk s (by simp)
    have h1 := known_one h hs
    refine ⟨[x], ?_, ⟨h, trivial⟩, by simpa using h1⟩
    cases x <;> first | rfl | cases h1
  | ag l' =>
    simp [AV.cells?] at hl; subst hl
    obtain ⟨vs, rfl, h2⟩ := h
    exact ⟨vs, rfl, h2, known_all h2 hk⟩
  | tp l' => simp [AV.cells?] at hl

theorem addr_add (b o n : Nat) : Addr.add ⟨b, o, none⟩ n = ⟨b, o + n, none⟩ := by
  unfold Addr.add; split
  · subst_vars; rfl
  · rfl

/-- Reading: cells of a block, in the model. -/
theorem Own.read {P : Program} {id : Nat} {cs : List SV} (h : Own val ρ w id cs) {p : Nat × Nat} (hp : ρ id = some p) {off n : Nat} (hn : off + n ≤ cs.length) :
    ∃ vs : List Value, vs.length = n ∧ All2 (VR val ρ w) ((cs.drop off).take n) vs ∧ (∀ j v, vs[j]? = some v → w.cell? ⟨p.1, p.2 + off + j, none⟩ = some v) ∧
      (loadCells ⟨p.1, p.2 + off, none⟩ n).run P w = .ok vs.toArray w := by
  obtain ⟨q, C, ty, h1, h2, h3, h4⟩ := h
  rw [hp] at h1; cases h1
  have hc : ∀ j v, ((C.toList.drop (p.2 + off)).take n)[j]? = some v → w.cell? ⟨p.1, p.2 + off + j, none⟩ = some v := by
    intro j v hj
    rw [List.getElem?_take] at hj
    split at hj
    · simp only [List.getElem?_drop] at hj
      simp only [World.cell?, h2]
      simpa using hj
    · simp at hj
  have hlen : ((C.toList.drop (p.2 + off)).take n).length = n := by simp; omega
  refine ⟨(C.toList.drop (p.2 + off)).take n, hlen, ?_, hc, ?_⟩
  · refine All2.of_get (by rw [hlen]; simp; omega) fun i a b ha hb => ?_
    rw [List.getElem?_take] at ha hb
    by_cases hi : i < n
    · simp only [hi, if_true, List.getElem?_drop] at ha hb
      obtain ⟨v, e, r⟩ := h4 (off + i) a ha
      rw [show p.2 + (off + i) = p.2 + off + i by omega] at e
      have : C.toList[p.2 + off + i]? = some v := by simpa using e
      rw [this] at hb; cases hb; exact r
    · simp [hi] at ha
  · have := run_loadCells_list (P := P) w ⟨p.1, p.2 + off, none⟩ ((C.toList.drop (p.2 + off)).take n) (fun j v hj => by rw [addr_add]; exact hc j v hj)
    rwa [hlen] at this

theorem bsize_alloc (o : Obj) (b : Nat) : bsize w b ≤ bsize (w.alloc o) b := by
  unfold bsize
  by_cases h : b < w.heap.size
  · have : (w.alloc o).heap[b]? = w.heap[b]? := by
      show (w.heap.push o)[b]? = _
      rw [Array.getElem?_push, if_neg (by omega)]
    rw [this]; exact Nat.le_refl _
  · have : w.heap[b]? = none := Array.getElem?_eq_none (by omega)
    rw [this]; exact Nat.zero_le _
theorem alloc_old (o : Obj) {b : Nat} (h : b < w.heap.size) : (w.alloc o).heap[b]? = w.heap[b]? := by
  show (w.heap.push o)[b]? = _
  rw [Array.getElem?_push, if_neg (by omega)]
theorem alloc_new (o : Obj) : (w.alloc o).heap[w.heap.size]? = some o := by
  show (w.heap.push o)[w.heap.size]? = _
  simp

theorem frz_alloc (C : Array Value) (ty : TypeId) (b : Nat) : frz (w.alloc (.cells C ty)) b = frz w b := by
  unfold frz
  show (match (w.heap.push (.cells C ty))[b]? with | some (.cells _ _ fr) => fr | _ => (0, 0)) = _
  rw [Array.getElem?_push]
  by_cases e : b = w.heap.size
  · subst e; simp
  · simp [e]
theorem Fr.refl (ρ : Rho) (mu : St) (w : World) : Fr ρ mu w w := ⟨rfl, rfl, rfl, Nat.le_refl _, fun _ _ _ => rfl, fun _ => Nat.le_refl _, fun _ => rfl⟩
theorem Fr.drew (ρ : Rho) (mu : St) (w : World) : Fr ρ mu w w.drew := ⟨rfl, rfl, rfl, Nat.le_refl _, fun _ _ _ => rfl, fun _ => Nat.le_refl _, fun _ => rfl⟩
theorem Ext.refl (ρ : Rho) (n n' : Nat) : Ext ρ ρ n n' := ⟨fun _ _ h => h, fun _ _ h => .inl h⟩

end
end Go.Ev
