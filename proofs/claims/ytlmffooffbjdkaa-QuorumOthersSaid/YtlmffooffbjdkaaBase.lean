/-
  Chapter 18: what every law of it begins with (awake), and the contracts.
-/
import Derived.Test.YtlmffooffbjdkaaEvOk
import Derived.Test.YtlmffooffbjdkaaEvIns2
import Derived.Test.YtlmffooffbjdkaaEvLaw
set_option maxRecDepth 1000000
namespace Go.Proofs.Ytlmffooffbjdkaa.Ev
open Go.Ev Go.Shelf

theorem mixed : Try.prog.follows .mixedOrders = true := by kernel_rfl
def ren : Ren := ⟨fun k => if k = 21 then 44 else if k = 27 then 74 else if k = 28 then 75 else if k = 35 then 101 else 121, fun k => if k = 22 then 26 else k, fun k => k⟩
theorem lays : Lays2.n21 Try.prog ren where
  mixed := mixed
  f21 := by kernel_rfl
  f27 := by kernel_rfl
  f28 := by kernel_rfl
  f35 := by kernel_rfl
  f39 := by kernel_rfl
  t0 := by kernel_rfl
  a0 := fun w => by kernel_rfl
  z0 := fun w => by kernel_rfl
  v0 := fun w => by kernel_rfl
  t3 := by kernel_rfl
  a3 := fun w => by kernel_rfl
  z3 := fun w => by kernel_rfl
  v3 := fun w => by kernel_rfl
  t4 := by kernel_rfl
  a4 := fun w => by kernel_rfl
  z4 := fun w => by kernel_rfl
  v4 := fun w => by kernel_rfl
  t22 := by kernel_rfl
  a22 := fun w => by kernel_rfl
  z22 := fun w => by kernel_rfl
  v22 := fun w => by kernel_rfl
  i3 := by kernel_rfl

abbrev isTrue (b : Bool) : Prop := b = true
theorem insOk (val : Nat → Int) : ContractOk isTrue Try.prog val 44 (insK false) := insK_ok (ren := ren) (by decide) lays (by kernel_rfl)
noncomputable def K0 (f : Nat) : Option (Contract Bool) := cond (Nat.beq f 44) (some (insK false)) none
theorem k0Ok (val : Nat → Int) : ∀ f c, K0 f = some c → ContractOk isTrue Try.prog val f c := by
  intro f c h
  unfold K0 at h
  cases e : Nat.beq f 44 with
  | false => rw [e] at h; cases h
  | true =>
    rw [e] at h
    have := Nat.eq_of_beq_eq_true e
    subst this
    cases h
    exact insOk val
theorem awakeRuns : vcall noOrc false K0 FT.find 100000 60 18 [] (fun _ => none) [] 0 isT = true := by decide +kernel
theorem awake : SaysTrue Try.prog 18 := fun w => law_fr (val := fun _ => 0) (noOrc_ok _) mixed (k0Ok _) fOk awakeRuns w [] trivial
noncomputable def K1 (f : Nat) : Option (Contract Bool) := cond (Nat.beq f 18) (some (trueK false)) (K0 f)
theorem k1Ok (val : Nat → Int) : ∀ f c, K1 f = some c → ContractOk isTrue Try.prog val f c := by
  intro f c h
  unfold K1 at h
  cases e : Nat.beq f 18 with
  | false => rw [e] at h; exact k0Ok val f c h
  | true =>
    rw [e] at h
    have := Nat.eq_of_beq_eq_true e
    subst this
    cases h
    exact trueK_ok (by decide) (by kernel_rfl) awake
end Go.Proofs.Ytlmffooffbjdkaa.Ev
