/-
  The law RunFirst at each input: by the evaluator.
-/
import Derived.Test.YtkmopacddblfeaaGreatDoorBaseA
set_option maxRecDepth 1000000
namespace Go.Proofs.YtkmopacddblfeaaGreatDoor.Ev
open Go.Ev Go.Proofs
noncomputable def firstRun (r : Int) : Bool := hcall (rngOrc [⟨.rem, .i64, 0, 10, .int .i64 r⟩] []) K1 FT.find 60 4 [.one (.sym .i64 0)] (gFz 0 1 3) [] 3 isR []
theorem first_m9 : firstRun (.negSucc 8) = true := by kernel_rfl
theorem first_m8 : firstRun (.negSucc 7) = true := by kernel_rfl
theorem first_m7 : firstRun (.negSucc 6) = true := by kernel_rfl
theorem first_m6 : firstRun (.negSucc 5) = true := by kernel_rfl
theorem first_m5 : firstRun (.negSucc 4) = true := by kernel_rfl
theorem first_m4 : firstRun (.negSucc 3) = true := by kernel_rfl
theorem first_m3 : firstRun (.negSucc 2) = true := by kernel_rfl
theorem first_m2 : firstRun (.negSucc 1) = true := by kernel_rfl
theorem first_m1 : firstRun (.negSucc 0) = true := by kernel_rfl
theorem first_0 : firstRun (.ofNat 0) = true := by kernel_rfl
theorem first_1 : firstRun (.ofNat 1) = true := by kernel_rfl
theorem first_2 : firstRun (.ofNat 2) = true := by kernel_rfl
theorem first_3 : firstRun (.ofNat 3) = true := by kernel_rfl
theorem first_4 : firstRun (.ofNat 4) = true := by kernel_rfl
theorem first_5 : firstRun (.ofNat 5) = true := by kernel_rfl
theorem first_6 : firstRun (.ofNat 6) = true := by kernel_rfl
theorem first_7 : firstRun (.ofNat 7) = true := by kernel_rfl
theorem first_8 : firstRun (.ofNat 8) = true := by kernel_rfl
theorem first_9 : firstRun (.ofNat 9) = true := by kernel_rfl
theorem first_all (r : Int) (h1 : -10 < r) (h2 : r < 10) : firstRun r = true := by
  have h : r = (-9) ∨ r = (-8) ∨ r = (-7) ∨ r = (-6) ∨ r = (-5) ∨ r = (-4) ∨ r = (-3) ∨ r = (-2) ∨ r = (-1) ∨ r = 0 ∨ r = 1 ∨ r = 2 ∨ r = 3 ∨ r = 4 ∨ r = 5 ∨ r = 6 ∨ r = 7 ∨ r = 8 ∨ r = 9 := by omega
  rcases h with rfl | rfl | rfl | rfl | rfl | rfl | rfl | rfl | rfl | rfl | rfl | rfl | rfl | rfl | rfl | rfl | rfl | rfl | rfl
  · exact first_m9
  · exact first_m8
  · exact first_m7
  · exact first_m6
  · exact first_m5
  · exact first_m4
  · exact first_m3
  · exact first_m2
  · exact first_m1
  · exact first_0
  · exact first_1
  · exact first_2
  · exact first_3
  · exact first_4
  · exact first_5
  · exact first_6
  · exact first_7
  · exact first_8
  · exact first_9
theorem first_ok (x : Int) (w : World) (hw : GW 0 1 3 w) : Calls Tryz.prog 4 #[.int .i64 x] w fun e w' => e = .returned (.bool true) ∧ Fr (fun _ => none) [] w w' := by
  have h1 := Int.tmod_lt_of_pos x (b := 10) (by decide)
  have h2 := Int.lt_tmod_of_pos x (b := 10) (by decide)
  have hr := first_all (x.tmod 10) (by omega) h1
  refine lawG (T := TT fun _ => 0) (val := Go.Ev.valOf (fun _ => x) fun _ => 0) zz_not isR_elim (rngOrc_ok (fun e he => ?_) (fun e he => (by cases he))) mixed (k1Ok _ _) ftOk ⟨[], (fun j p h => by simp at h), hr⟩ w hw [.int .i64 x] ⟨rfl, trivial⟩
  rw [List.mem_singleton] at he
  subst he
  refine ⟨_, ?_, .inl rfl⟩
  show (if (10 : Int) = 0 then none else some (SV.int .i64 (x.tmod 10))) = _
  rw [if_neg (by decide)]
end Go.Proofs.YtkmopacddblfeaaGreatDoor.Ev
