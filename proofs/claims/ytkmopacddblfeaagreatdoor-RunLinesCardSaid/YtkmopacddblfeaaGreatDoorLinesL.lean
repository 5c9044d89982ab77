/-
  The law RunLines at each input: by the evaluator.
-/
import Derived.Test.YtkmopacddblfeaaGreatDoorBaseA
set_option maxRecDepth 1000000
namespace Go.Proofs.YtkmopacddblfeaaGreatDoor.Ev
open Go.Ev Go.Proofs
noncomputable def linesRun (r q : Nat) (b : Bool) : Bool := hcall (rngOrc [⟨.rem, .u64, 2, 12, .int .u64 (.ofNat r)⟩, ⟨.rem, .u64, 3, 5, .int .u64 (.ofNat q)⟩] [⟨.u64, 0, .sym .u64 2⟩, ⟨.u64, 1, .sym .u64 3⟩]) K1 FT.find 60 3 [.one (.sym .i64 0), .one (.sym .i64 1), .one (.bool b)] (gFz 0 1 3) [] 3 isR []
theorem lines_chk : ((List.range 12).all fun r => (List.range 5).all fun q => linesRun r q true && linesRun r q false) = true := by kernel_rfl
theorem lines_all (r q : Nat) (b : Bool) (h1 : r < 12) (h2 : q < 5) : linesRun r q b = true := by
  have h3 := List.all_eq_true.1 (List.all_eq_true.1 lines_chk r (List.mem_range.2 h1)) q (List.mem_range.2 h2)
  rw [Bool.and_eq_true] at h3
  cases b
  · exact h3.2
  · exact h3.1
def linesRaw (x y : Int) : Nat → Int
  | 0 => x
  | 1 => y
  | 2 => IntKind.u64.wrap x
  | _ => IntKind.u64.wrap y
theorem u64_rem (x : Int) (k : Nat) (hk : 0 < k) : ∃ r : Nat, r < k ∧ (IntKind.u64.wrap x).tmod (k : Int) = (r : Int) := by
  have h0 : 0 ≤ IntKind.u64.wrap x := by
    rw [IntKind.wrap_u64]; omega
  have h1 : (IntKind.u64.wrap x).tmod k < k := Int.tmod_lt_of_pos _ (by omega)
  have h2 : 0 ≤ (IntKind.u64.wrap x).tmod k := Int.tmod_nonneg _ h0
  exact ⟨((IntKind.u64.wrap x).tmod k).toNat, by omega, by omega⟩
theorem lines_ok (x y : Int) (b : Bool) (w : World) (hw : GW 0 1 3 w) : Calls Tryz.prog 3 #[.int .i64 x, .int .i64 y, .bool b] w fun e w' => e = .returned (.bool true) ∧ Fr (fun _ => none) [] w w' := by
  obtain ⟨r, hr1, hr2⟩ := u64_rem x 12 (by decide)
  obtain ⟨q, hq1, hq2⟩ := u64_rem y 5 (by decide)
  have hr := lines_all r q b hr1 hq1
  refine lawG (T := TT fun _ => 0) (val := Go.Ev.valOf (linesRaw x y) fun _ => 0) zz_not isR_elim (rngOrc_ok (fun e he => ?_) (fun e he => ?_)) mixed (k1Ok _ _) ftOk ⟨[], (fun j p h => by simp at h), hr⟩ w hw [.int .i64 x, .int .i64 y, .bool b] ⟨rfl, rfl, rfl, trivial⟩
  · simp only [List.mem_cons, List.mem_nil_iff, or_false] at he
    rcases he with rfl | rfl
    · refine ⟨_, ?_, .inl rfl⟩
      show (if (12 : Int) = 0 then none else some (SV.int .u64 ((IntKind.u64.wrap x).tmod 12))) = _
      rw [if_neg (by decide)]
      exact congrArg (fun a => some (SV.int .u64 a)) hr2
    · refine ⟨_, ?_, .inl rfl⟩
      show (if (5 : Int) = 0 then none else some (SV.int .u64 ((IntKind.u64.wrap y).tmod 5))) = _
      rw [if_neg (by decide)]
      exact congrArg (fun a => some (SV.int .u64 a)) hq2
  · simp only [List.mem_cons, List.mem_nil_iff, or_false] at he
    rcases he with rfl | rfl
    · exact .inr ⟨_, _, rfl, rfl⟩
    · exact .inr ⟨_, _, rfl, rfl⟩
end Go.Proofs.YtkmopacddblfeaaGreatDoor.Ev
