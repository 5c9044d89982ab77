/-
  Laws: a call that returns true and leaves the elder world alone.
-/
import Derived.Test.YtmnkmmfjekcinaaGreatEvTop2
import Derived.RowKit3
set_option linter.unusedVariables false
set_option linter.unusedSimpArgs false
namespace Go.Ev

noncomputable def isT (v : AV) (_ : St) (_ : Nat) : Bool := v.onOne false fun s => s.onBool false fun b => b

theorem isT_elim {v : AV} {mu : St} {n : Nat} (h : isT v mu n = true) : v = .one (.bool true) := by
  have hz : ¬ ((false : Bool) = true) := by decide
  obtain ⟨s, rfl, h1⟩ := onOne_elim (T := fun b : Bool => b = true) hz h
  obtain ⟨b, rfl, h2⟩ := onBool_elim (T := fun b : Bool => b = true) hz h1
  rw [h2]

theorem frozen_of {w w' : World} (h : ∀ b, frz w' b = frz w b) (a : Addr) : w'.frozen? a = w.frozen? a := by
  have key : ∀ w : World, w.frozen? a = ((frz w a.block).1 ≤ a.off && a.off < (frz w a.block).2) := by
    intro w
    unfold World.frozen? frz
    cases e : w.heap[a.block]? with
    | none => simp
    | some o => cases o <;> simp
  rw [key, key, h]

theorem Fr.grown {ρ : Rho} {w w' : World} (h : Fr ρ [] w w') : RowKit.Grown w w' := by
  refine ⟨⟨h.os, h.output, fun i hi => ?_⟩, frozen_of h.frozen, h.size⟩
  rw [h.keep i hi fun id p hl => by cases hl]
  cases e : w.heap[i]? with
  | none => trivial
  | some o => cases o <;> simp

theorem law_true {R : Type} {T : R → Prop} {z : R} (hz : ¬ T z) {P : Program} {val : Nat → Int} {orc : Orc R} {K : Nat → Option (Contract R)} {F : Nat → Option AFunc} {big depth f : Nat} {args : List AV} {isR : AV → St → Nat → R} (hR : ∀ v mu n, T (isR v mu n) → v = .one (.bool true)) (hk : OrcOk T val orc) (hmx : P.follows .mixedOrders = true)
    (hK : ∀ f c, K f = some c → ContractOk T P val f c) (hF : FuncsOk P F) (h : T (vcall orc z K F big depth f args (fun _ => none) [] 0 isR)) (w : World) (xs : List Value) (hx : All2 (AVR val (fun _ => none) w) args xs) :
    Calls P f xs.toArray w fun e w' => e = .returned (.bool true) ∧ Fr (fun _ => none) [] w w' := by
  obtain ⟨v, mu', n', h1, _, h2, h3⟩ := vcall_sound (T := T) hz hk hmx hK hF big depth f args (fun _ => none) [] 0 isR h
  have := hR _ _ _ h1
  subst this
  refine (h3 (fun _ => none) w xs ⟨fun id cs h => (by cases h), fun id cs h => (by cases h), fun id cs h => (by cases h), fun id id' p p' h => (by cases h)⟩ hx fun _ _ _ => rfl).mono fun e w' ⟨x, e1, ρ', p1, p2, p3, p4, p5, p6⟩ => ?_
  subst e1
  have hx : x = .bool true := p3
  subst hx
  exact ⟨rfl, p4⟩

/-- The functions, by number. -/
inductive FTree where
  | nil
  | node (k : Nat) (f : AFunc) (l r : FTree)

noncomputable def FTree.find (t : FTree) (f : Nat) : Option AFunc :=
  FTree.rec (motive := fun _ => Option AFunc) none (fun k v _ _ ihl ihr => cond (Nat.blt f k) ihl (cond (Nat.blt k f) ihr (some v))) t

def FOk (P : Program) (f : Nat) (af : AFunc) : Prop := hasBody P f = true ∧ ∃ fn m, P.funcs[f]? = some fn ∧ prepFunc P m fn = some af
def FTree.Ok (P : Program) : FTree → Prop
  | .nil => True
  | .node k v l r => FOk P k v ∧ l.Ok P ∧ r.Ok P

theorem FTree.ok {P : Program} : ∀ {t : FTree}, t.Ok P → FuncsOk P t.find
  | .nil, _, f, af, h => by cases h
  | .node k v l r, ht, f, af, h => by
    have h' : (cond (Nat.blt f k) (l.find f) (cond (Nat.blt k f) (r.find f) (some v))) = some af := h
    cases e1 : Nat.blt f k with
    | true => rw [e1] at h'; exact FTree.ok ht.2.1 f af h'
    | false =>
      rw [e1] at h'
      cases e2 : Nat.blt k f with
      | true => rw [e2] at h'; exact FTree.ok ht.2.2 f af h'
      | false =>
        rw [e2] at h'
        have h3 : ¬ f < k := fun h => by
          have h5 : Nat.blt f k = true := by rw [Nat.blt_eq]; exact h
          rw [e1] at h5; cases h5
        have h4 : ¬ k < f := fun h => by
          have h5 : Nat.blt k f = true := by rw [Nat.blt_eq]; exact h
          rw [e2] at h5; cases h5
        have : k = f := by omega
        subst this
        cases h'
        exact ht.1

/-- Which functions may change what they are handed. -/
def mutsOf (l : List Nat) (dy : Bool) : Muts := ⟨fun f => l.any fun x => Nat.beq x f, dy⟩
end Go.Ev
