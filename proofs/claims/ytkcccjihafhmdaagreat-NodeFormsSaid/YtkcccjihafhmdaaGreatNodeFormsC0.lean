/-
  NodeForms: how it is run.
-/
import Derived.Test.YtkcccjihafhmdaaGreatBaseN
set_option maxRecDepth 1000000
namespace Go.Proofs.YtkcccjihafhmdaaGreat.Ev
open Go.Ev
noncomputable def runNodeForms (es : List OEnt) (a b : SV) (pc : PC) : Bool := hcall (rngOrc2 (⟨.and, .i64, 2, 15, .sym .i64 16016⟩ :: es) []) K1N FT.find 60 6 [.one a, .one b, .one (.sym .i64 2)] (fun _ => none) [] 0 isR pc
theorem ent_geq {val : Nat → Int} {i : Nat} {b : Int} {t : Bool} (h : decide (b ≤ val i) = t) : ∃ s, numOp .geq .i64 (val i) b = some s ∧ SvEq val (.bool t) s := ⟨_, rfl, .inl (by rw [← h])⟩
theorem ent_leq {val : Nat → Int} {i : Nat} {b : Int} {t : Bool} (h : decide (val i ≤ b) = t) : ∃ s, numOp .leq .i64 (val i) b = some s ∧ SvEq val (.bool t) s := ⟨_, rfl, .inl (by rw [← h])⟩
theorem ent_lss {val : Nat → Int} {i : Nat} {b : Int} {t : Bool} (h : decide (val i < b) = t) : ∃ s, numOp .lss .i64 (val i) b = some s ∧ SvEq val (.bool t) s := ⟨_, rfl, .inl (by rw [← h])⟩
theorem ent_eql {val : Nat → Int} {i : Nat} {b : Int} {t : Bool} (h : (val i == b) = t) : ∃ s, numOp .eql .i64 (val i) b = some s ∧ SvEq val (.bool t) s := ⟨_, rfl, .inl (by rw [← h])⟩
theorem nodeFormsRuns (es : List OEnt) (a b : SV) (pc : PC) (a0 a1 a2 : Int) (k : Nat) (ek : numOp .and .i64 a2 15 = some (.int .i64 (k : Int))) (hes : ∀ e ∈ es, ∃ s, numOp e.op e.kd (Go.Ev.valOf (rawOf [a0, a1, a2]) (mOf [k]) e.i) e.b = some s ∧ SvEq (Go.Ev.valOf (rawOf [a0, a1, a2]) (mOf [k])) e.s s)
    (ha : a = .sym .i64 0 ∨ a = .int .i64 a0) (hb : b = .sym .i64 1 ∨ b = .int .i64 a1) (hpc : PcOk (mOf [k]) pc) (hr : runNodeForms es a b pc = true) (w : World) :
    Calls Tryz.prog 6 #[.int .i64 a0, .int .i64 a1, .int .i64 a2] w fun e w' => e = .returned (.bool true) ∧ GrownE w w' := by
  refine (lawH (T := TT (mOf [k])) zz_not (val := Go.Ev.valOf (rawOf [a0, a1, a2]) (mOf [k])) isR_elim (rngOrc2_ok (fun e he => ?_) (fun c hc => ?_)) mixed (k1OkN _ _) ftOk ⟨pc, hpc, hr⟩ w [.int .i64 a0, .int .i64 a1, .int .i64 a2] ⟨?_, ?_, rfl, trivial⟩).mono fun e w1 ⟨g1, g2⟩ => ⟨g1, g2.grown⟩
  · simp only [List.mem_cons] at he
    rcases he with rfl | he
    · exact ent_ok (i := 2) (j := 0) (by decide) (by decide) ek
    · exact hes e he
  · cases hc
  · rcases ha with rfl | rfl <;> rfl
  · rcases hb with rfl | rfl <;> rfl
end Go.Proofs.YtkcccjihafhmdaaGreat.Ev
