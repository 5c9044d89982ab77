/-
  Chapter 18: what every law of it begins with (awake), as a contract.
-/
import Derived.Test.YtlmffooffbjdkaaEvOk2
import Derived.Test.YtlmffooffbjdkaaEvMask
set_option maxRecDepth 1000000
namespace Go.Proofs.Ytlmffooffbjdkaa.Ev
open Go.Ev

theorem mixed : Try.prog.follows .mixedOrders = true := by kernel_rfl
noncomputable def K0 (_ : Nat) : Option (Contract RR) := none
theorem awakeRuns : hcall (noOrc zz) K0 FT.find 60 18 [] (fun _ => none) [] 0 isR [] = true := by kernel_rfl
theorem awake : SaysTrue Try.prog 18 := fun w => lawH (T := TT fun _ => 0) (val := fun _ => 0) zz_not isR_elim (noOrc_ok zz_not _) mixed (fun f c h => by cases h) ftOk ⟨[], pcNil, awakeRuns⟩ w [] trivial
noncomputable def K1 (f : Nat) : Option (Contract RR) := Bool.rec (motive := fun _ => Option (Contract RR)) none (some (trueK zz)) (Nat.beq f 18)
theorem k1Ok (m : Nat → Nat) (val : Nat → Int) : ∀ f c, K1 f = some c → ContractOk (TT m) Try.prog val f c := by
  intro f c h
  have h' : Bool.rec (motive := fun _ => Option (Contract RR)) none (some (trueK zz)) (Nat.beq f 18) = some c := h
  cases e : Nat.beq f 18 with
  | false => rw [e] at h'; cases h'
  | true =>
    rw [e] at h'
    have := Nat.eq_of_beq_eq_true e
    subst this
    cases h'
    exact trueK_ok zz_not (by kernel_rfl) awake
end Go.Proofs.Ytlmffooffbjdkaa.Ev
