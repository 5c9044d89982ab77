/-
  Frames, operations on values, pieces of code: what the kernel runs. Printed by e1.py. Definitions alone.
-/
import Derived.Test.YtlmffooffbjdkaaEvFast1
set_option linter.unusedVariables false
set_option linter.unusedSimpArgs false
namespace Go.Ev

/-- Eight places at hand, and more. -/
inductive Fm where
  | mk (a0 a1 a2 a3 a4 a5 a6 a7 : AV) (x : T2)
abbrev GT := Fm → AV
abbrev ST := Fm → AV → (Fm → RR) → RR
/-- Code. -/
abbrev HC := Orc RR → CallT RR → Fz → Fm → St → Nat → (AExit → Fm → St → Nat → RR) → RR
def rowU : Row := .mk (.one .un) (.one .un) (.one .un) (.one .un) (.one .un) (.one .un) (.one .un) (.one .un) (.one .un) (.one .un) (.one .un) (.one .un) (.one .un) (.one .un) (.one .un) (.one .un)
def t2U : T2 := .mk rowU rowU rowU rowU rowU rowU rowU rowU rowU rowU rowU rowU rowU rowU rowU rowU
noncomputable def d0 : GT := fun t => Fm.rec (motive := fun _ => AV) (fun a0 _ _ _ _ _ _ _ _ => a0) t
noncomputable def d1 : GT := fun t => Fm.rec (motive := fun _ => AV) (fun _ a1 _ _ _ _ _ _ _ => a1) t
noncomputable def d2 : GT := fun t => Fm.rec (motive := fun _ => AV) (fun _ _ a2 _ _ _ _ _ _ => a2) t
noncomputable def d3 : GT := fun t => Fm.rec (motive := fun _ => AV) (fun _ _ _ a3 _ _ _ _ _ => a3) t
noncomputable def d4 : GT := fun t => Fm.rec (motive := fun _ => AV) (fun _ _ _ _ a4 _ _ _ _ => a4) t
noncomputable def d5 : GT := fun t => Fm.rec (motive := fun _ => AV) (fun _ _ _ _ _ a5 _ _ _ => a5) t
noncomputable def d6 : GT := fun t => Fm.rec (motive := fun _ => AV) (fun _ _ _ _ _ _ a6 _ _ => a6) t
noncomputable def d7 : GT := fun t => Fm.rec (motive := fun _ => AV) (fun _ _ _ _ _ _ _ a7 _ => a7) t
noncomputable def sd0 : ST := fun t v k => Fm.rec (motive := fun _ => AV → (Fm → RR) → RR) (fun _ a1 a2 a3 a4 a5 a6 a7 x v k => k (.mk v a1 a2 a3 a4 a5 a6 a7 x)) t v k
noncomputable def sd1 : ST := fun t v k => Fm.rec (motive := fun _ => AV → (Fm → RR) → RR) (fun a0 _ a2 a3 a4 a5 a6 a7 x v k => k (.mk a0 v a2 a3 a4 a5 a6 a7 x)) t v k
noncomputable def sd2 : ST := fun t v k => Fm.rec (motive := fun _ => AV → (Fm → RR) → RR) (fun a0 a1 _ a3 a4 a5 a6 a7 x v k => k (.mk a0 a1 v a3 a4 a5 a6 a7 x)) t v k
noncomputable def sd3 : ST := fun t v k => Fm.rec (motive := fun _ => AV → (Fm → RR) → RR) (fun a0 a1 a2 _ a4 a5 a6 a7 x v k => k (.mk a0 a1 a2 v a4 a5 a6 a7 x)) t v k
noncomputable def sd4 : ST := fun t v k => Fm.rec (motive := fun _ => AV → (Fm → RR) → RR) (fun a0 a1 a2 a3 _ a5 a6 a7 x v k => k (.mk a0 a1 a2 a3 v a5 a6 a7 x)) t v k
noncomputable def sd5 : ST := fun t v k => Fm.rec (motive := fun _ => AV → (Fm → RR) → RR) (fun a0 a1 a2 a3 a4 _ a6 a7 x v k => k (.mk a0 a1 a2 a3 a4 v a6 a7 x)) t v k
noncomputable def sd6 : ST := fun t v k => Fm.rec (motive := fun _ => AV → (Fm → RR) → RR) (fun a0 a1 a2 a3 a4 a5 _ a7 x v k => k (.mk a0 a1 a2 a3 a4 a5 v a7 x)) t v k
noncomputable def sd7 : ST := fun t v k => Fm.rec (motive := fun _ => AV → (Fm → RR) → RR) (fun a0 a1 a2 a3 a4 a5 a6 _ x v k => k (.mk a0 a1 a2 a3 a4 a5 a6 v x)) t v k
noncomputable def e0_0 : GT := fun t => Fm.rec (motive := fun _ => AV) (fun _ _ _ _ _ _ _ _ x => T2.rec (motive := fun _ => AV) (fun r0 _ _ _ _ _ _ _ _ _ _ _ _ _ _ _ => Row.rec (motive := fun _ => AV) (fun b0 _ _ _ _ _ _ _ _ _ _ _ _ _ _ _ => b0) r0) x) t
noncomputable def e0_1 : GT := fun t => Fm.rec (motive := fun _ => AV) (fun _ _ _ _ _ _ _ _ x => T2.rec (motive := fun _ => AV) (fun r0 _ _ _ _ _ _ _ _ _ _ _ _ _ _ _ => Row.rec (motive := fun _ => AV) (fun _ b1 _ _ _ _ _ _ _ _ _ _ _ _ _ _ => b1) r0) x) t
noncomputable def e0_2 : GT := fun t => Fm.rec (motive := fun _ => AV) (fun _ _ _ _ _ _ _ _ x => T2.rec (motive := fun _ => AV) (fun r0 _ _ _ _ _ _ _ _ _ _ _ _ _ _ _ => Row.rec (motive := fun _ => AV) (fun _ _ b2 _ _ _ _ _ _ _ _ _ _ _ _ _ => b2) r0) x) t
noncomputable def e0_3 : GT := fun t => Fm.rec (motive := fun _ => AV) (fun _ _ _ _ _ _ _ _ x => T2.rec (motive := fun _ => AV) (fun r0 _ _ _ _ _ _ _ _ _ _ _ _ _ _ _ => Row.rec (motive := fun _ => AV) (fun _ _ _ b3 _ _ _ _ _ _ _ _ _ _ _ _ => b3) r0) x) t
noncomputable def e0_4 : GT := fun t => Fm.rec (motive := fun _ => AV) (fun _ _ _ _ _ _ _ _ x => T2.rec (motive := fun _ => AV) (fun r0 _ _ _ _ _ _ _ _ _ _ _ _ _ _ _ => Row.rec (motive := fun _ => AV) (fun _ _ _ _ b4 _ _ _ _ _ _ _ _ _ _ _ => b4) r0) x) t
noncomputable def e0_5 : GT := fun t => Fm.rec (motive := fun _ => AV) (fun _ _ _ _ _ _ _ _ x => T2.rec (motive := fun _ => AV) (fun r0 _ _ _ _ _ _ _ _ _ _ _ _ _ _ _ => Row.rec (motive := fun _ => AV) (fun _ _ _ _ _ b5 _ _ _ _ _ _ _ _ _ _ => b5) r0) x) t
noncomputable def e0_6 : GT := fun t => Fm.rec (motive := fun _ => AV) (fun _ _ _ _ _ _ _ _ x => T2.rec (motive := fun _ => AV) (fun r0 _ _ _ _ _ _ _ _ _ _ _ _ _ _ _ => Row.rec (motive := fun _ => AV) (fun _ _ _ _ _ _ b6 _ _ _ _ _ _ _ _ _ => b6) r0) x) t
noncomputable def e0_7 : GT := fun t => Fm.rec (motive := fun _ => AV) (fun _ _ _ _ _ _ _ _ x => T2.rec (motive := fun _ => AV) (fun r0 _ _ _ _ _ _ _ _ _ _ _ _ _ _ _ => Row.rec (motive := fun _ => AV) (fun _ _ _ _ _ _ _ b7 _ _ _ _ _ _ _ _ => b7) r0) x) t
noncomputable def e0_8 : GT := fun t => Fm.rec (motive := fun _ => AV) (fun _ _ _ _ _ _ _ _ x => T2.rec (motive := fun _ => AV) (fun r0 _ _ _ _ _ _ _ _ _ _ _ _ _ _ _ => Row.rec (motive := fun _ => AV) (fun _ _ _ _ _ _ _ _ b8 _ _ _ _ _ _ _ => b8) r0) x) t
noncomputable def e0_9 : GT := fun t => Fm.rec (motive := fun _ => AV) (fun _ _ _ _ _ _ _ _ x => T2.rec (motive := fun _ => AV) (fun r0 _ _ _ _ _ _ _ _ _ _ _ _ _ _ _ => Row.rec (motive := fun _ => AV) (fun _ _ _ _ _ _ _ _ _ b9 _ _ _ _ _ _ => b9) r0) x) t
noncomputable def e0_10 : GT := fun t => Fm.rec (motive := fun _ => AV) (fun _ _ _ _ _ _ _ _ x => T2.rec (motive := fun _ => AV) (fun r0 _ _ _ _ _ _ _ _ _ _ _ _ _ _ _ => Row.rec (motive := fun _ => AV) (fun _ _ _ _ _ _ _ _ _ _ b10 _ _ _ _ _ => b10) r0) x) t
noncomputable def e0_11 : GT := fun t => Fm.rec (motive := fun _ => AV) (fun _ _ _ _ _ _ _ _ x => T2.rec (motive := fun _ => AV) (fun r0 _ _ _ _ _ _ _ _ _ _ _ _ _ _ _ => Row.rec (motive := fun _ => AV) (fun _ _ _ _ _ _ _ _ _ _ _ b11 _ _ _ _ => b11) r0) x) t
noncomputable def e0_12 : GT := fun t => Fm.rec (motive := fun _ => AV) (fun _ _ _ _ _ _ _ _ x => T2.rec (motive := fun _ => AV) (fun r0 _ _ _ _ _ _ _ _ _ _ _ _ _ _ _ => Row.rec (motive := fun _ => AV) (fun _ _ _ _ _ _ _ _ _ _ _ _ b12 _ _ _ => b12) r0) x) t
noncomputable def e0_13 : GT := fun t => Fm.rec (motive := fun _ => AV) (fun _ _ _ _ _ _ _ _ x => T2.rec (motive := fun _ => AV) (fun r0 _ _ _ _ _ _ _ _ _ _ _ _ _ _ _ => Row.rec (motive := fun _ => AV) (fun _ _ _ _ _ _ _ _ _ _ _ _ _ b13 _ _ => b13) r0) x) t
noncomputable def e0_14 : GT := fun t => Fm.rec (motive := fun _ => AV) (fun _ _ _ _ _ _ _ _ x => T2.rec (motive := fun _ => AV) (fun r0 _ _ _ _ _ _ _ _ _ _ _ _ _ _ _ => Row.rec (motive := fun _ => AV) (fun _ _ _ _ _ _ _ _ _ _ _ _ _ _ b14 _ => b14) r0) x) t
noncomputable def e0_15 : GT := fun t => Fm.rec (motive := fun _ => AV) (fun _ _ _ _ _ _ _ _ x => T2.rec (motive := fun _ => AV) (fun r0 _ _ _ _ _ _ _ _ _ _ _ _ _ _ _ => Row.rec (motive := fun _ => AV) (fun _ _ _ _ _ _ _ _ _ _ _ _ _ _ _ b15 => b15) r0) x) t
noncomputable def e1_0 : GT := fun t => Fm.rec (motive := fun _ => AV) (fun _ _ _ _ _ _ _ _ x => T2.rec (motive := fun _ => AV) (fun _ r1 _ _ _ _ _ _ _ _ _ _ _ _ _ _ => Row.rec (motive := fun _ => AV) (fun b0 _ _ _ _ _ _ _ _ _ _ _ _ _ _ _ => b0) r1) x) t
noncomputable def e1_1 : GT := fun t => Fm.rec (motive := fun _ => AV) (fun _ _ _ _ _ _ _ _ x => T2.rec (motive := fun _ => AV) (fun _ r1 _ _ _ _ _ _ _ _ _ _ _ _ _ _ => Row.rec (motive := fun _ => AV) (fun _ b1 _ _ _ _ _ _ _ _ _ _ _ _ _ _ => b1) r1) x) t
noncomputable def e1_2 : GT := fun t => Fm.rec (motive := fun _ => AV) (fun _ _ _ _ _ _ _ _ x => T2.rec (motive := fun _ => AV) (fun _ r1 _ _ _ _ _ _ _ _ _ _ _ _ _ _ => Row.rec (motive := fun _ => AV) (fun _ _ b2 _ _ _ _ _ _ _ _ _ _ _ _ _ => b2) r1) x) t
noncomputable def e1_3 : GT := fun t => Fm.rec (motive := fun _ => AV) (fun _ _ _ _ _ _ _ _ x => T2.rec (motive := fun _ => AV) (fun _ r1 _ _ _ _ _ _ _ _ _ _ _ _ _ _ => Row.rec (motive := fun _ => AV) (fun _ _ _ b3 _ _ _ _ _ _ _ _ _ _ _ _ => b3) r1) x) t
noncomputable def e1_4 : GT := fun t => Fm.rec (motive := fun _ => AV) (fun _ _ _ _ _ _ _ _ x => T2.rec (motive := fun _ => AV) (fun _ r1 _ _ _ _ _ _ _ _ _ _ _ _ _ _ => Row.rec (motive := fun _ => AV) (fun _ _ _ _ b4 _ _ _ _ _ _ _ _ _ _ _ => b4) r1) x) t
noncomputable def e1_5 : GT := fun t => Fm.rec (motive := fun _ => AV) (fun _ _ _ _ _ _ _ _ x => T2.rec (motive := fun _ => AV) (fun _ r1 _ _ _ _ _ _ _ _ _ _ _ _ _ _ => Row.rec (motive := fun _ => AV) (fun _ _ _ _ _ b5 _ _ _ _ _ _ _ _ _ _ => b5) r1) x) t
noncomputable def e1_6 : GT := fun t => Fm.rec (motive := fun _ => AV) (fun _ _ _ _ _ _ _ _ x => T2.rec (motive := fun _ => AV) (fun _ r1 _ _ _ _ _ _ _ _ _ _ _ _ _ _ => Row.rec (motive := fun _ => AV) (fun _ _ _ _ _ _ b6 _ _ _ _ _ _ _ _ _ => b6) r1) x) t
noncomputable def e1_7 : GT := fun t => Fm.rec (motive := fun _ => AV) (fun _ _ _ _ _ _ _ _ x => T2.rec (motive := fun _ => AV) (fun _ r1 _ _ _ _ _ _ _ _ _ _ _ _ _ _ => Row.rec (motive := fun _ => AV) (fun _ _ _ _ _ _ _ b7 _ _ _ _ _ _ _ _ => b7) r1) x) t
noncomputable def e1_8 : GT := fun t => Fm.rec (motive := fun _ => AV) (fun _ _ _ _ _ _ _ _ x => T2.rec (motive := fun _ => AV) (fun _ r1 _ _ _ _ _ _ _ _ _ _ _ _ _ _ => Row.rec (motive := fun _ => AV) (fun _ _ _ _ _ _ _ _ b8 _ _ _ _ _ _ _ => b8) r1) x) t
noncomputable def e1_9 : GT := fun t => Fm.rec (motive := fun _ => AV) (fun _ _ _ _ _ _ _ _ x => T2.rec (motive := fun _ => AV) (fun _ r1 _ _ _ _ _ _ _ _ _ _ _ _ _ _ => Row.rec (motive := fun _ => AV) (fun _ _ _ _ _ _ _ _ _ b9 _ _ _ _ _ _ => b9) r1) x) t
noncomputable def e1_10 : GT := fun t => Fm.rec (motive := fun _ => AV) (fun _ _ _ _ _ _ _ _ x => T2.rec (motive := fun _ => AV) (fun _ r1 _ _ _ _ _ _ _ _ _ _ _ _ _ _ => Row.rec (motive := fun _ => AV) (fun _ _ _ _ _ _ _ _ _ _ b10 _ _ _ _ _ => b10) r1) x) t
noncomputable def e1_11 : GT := fun t => Fm.rec (motive := fun _ => AV) (fun _ _ _ _ _ _ _ _ x => T2.rec (motive := fun _ => AV) (fun _ r1 _ _ _ _ _ _ _ _ _ _ _ _ _ _ => Row.rec (motive := fun _ => AV) (fun _ _ _ _ _ _ _ _ _ _ _ b11 _ _ _ _ => b11) r1) x) t
noncomputable def e1_12 : GT := fun t => Fm.rec (motive := fun _ => AV) (fun _ _ _ _ _ _ _ _ x => T2.rec (motive := fun _ => AV) (fun _ r1 _ _ _ _ _ _ _ _ _ _ _ _ _ _ => Row.rec (motive := fun _ => AV) (fun _ _ _ _ _ _ _ _ _ _ _ _ b12 _ _ _ => b12) r1) x) t
noncomputable def e1_13 : GT := fun t => Fm.rec (motive := fun _ => AV) (fun _ _ _ _ _ _ _ _ x => T2.rec (motive := fun _ => AV) (fun _ r1 _ _ _ _ _ _ _ _ _ _ _ _ _ _ => Row.rec (motive := fun _ => AV) (fun _ _ _ _ _ _ _ _ _ _ _ _ _ b13 _ _ => b13) r1) x) t
noncomputable def e1_14 : GT := fun t => Fm.rec (motive := fun _ => AV) (fun _ _ _ _ _ _ _ _ x => T2.rec (motive := fun _ => AV) (fun _ r1 _ _ _ _ _ _ _ _ _ _ _ _ _ _ => Row.rec (motive := fun _ => AV) (fun _ _ _ _ _ _ _ _ _ _ _ _ _ _ b14 _ => b14) r1) x) t
noncomputable def e1_15 : GT := fun t => Fm.rec (motive := fun _ => AV) (fun _ _ _ _ _ _ _ _ x => T2.rec (motive := fun _ => AV) (fun _ r1 _ _ _ _ _ _ _ _ _ _ _ _ _ _ => Row.rec (motive := fun _ => AV) (fun _ _ _ _ _ _ _ _ _ _ _ _ _ _ _ b15 => b15) r1) x) t
noncomputable def e2_0 : GT := fun t => Fm.rec (motive := fun _ => AV) (fun _ _ _ _ _ _ _ _ x => T2.rec (motive := fun _ => AV) (fun _ _ r2 _ _ _ _ _ _ _ _ _ _ _ _ _ => Row.rec (motive := fun _ => AV) (fun b0 _ _ _ _ _ _ _ _ _ _ _ _ _ _ _ => b0) r2) x) t
noncomputable def e2_1 : GT := fun t => Fm.rec (motive := fun _ => AV) (fun _ _ _ _ _ _ _ _ x => T2.rec (motive := fun _ => AV) (fun _ _ r2 _ _ _ _ _ _ _ _ _ _ _ _ _ => Row.rec (motive := fun _ => AV) (fun _ b1 _ _ _ _ _ _ _ _ _ _ _ _ _ _ => b1) r2) x) t
noncomputable def e2_2 : GT := fun t => Fm.rec (motive := fun _ => AV) (fun _ _ _ _ _ _ _ _ x => T2.rec (motive := fun _ => AV) (fun _ _ r2 _ _ _ _ _ _ _ _ _ _ _ _ _ => Row.rec (motive := fun _ => AV) (fun _ _ b2 _ _ _ _ _ _ _ _ _ _ _ _ _ => b2) r2) x) t
noncomputable def e2_3 : GT := fun t => Fm.rec (motive := fun _ => AV) (fun _ _ _ _ _ _ _ _ x => T2.rec (motive := fun _ => AV) (fun _ _ r2 _ _ _ _ _ _ _ _ _ _ _ _ _ => Row.rec (motive := fun _ => AV) (fun _ _ _ b3 _ _ _ _ _ _ _ _ _ _ _ _ => b3) r2) x) t
noncomputable def e2_4 : GT := fun t => Fm.rec (motive := fun _ => AV) (fun _ _ _ _ _ _ _ _ x => T2.rec (motive := fun _ => AV) (fun _ _ r2 _ _ _ _ _ _ _ _ _ _ _ _ _ => Row.rec (motive := fun _ => AV) (fun _ _ _ _ b4 _ _ _ _ _ _ _ _ _ _ _ => b4) r2) x) t
noncomputable def e2_5 : GT := fun t => Fm.rec (motive := fun _ => AV) (fun _ _ _ _ _ _ _ _ x => T2.rec (motive := fun _ => AV) (fun _ _ r2 _ _ _ _ _ _ _ _ _ _ _ _ _ => Row.rec (motive := fun _ => AV) (fun _ _ _ _ _ b5 _ _ _ _ _ _ _ _ _ _ => b5) r2) x) t
noncomputable def e2_6 : GT := fun t => Fm.rec (motive := fun _ => AV) (fun _ _ _ _ _ _ _ _ x => T2.rec (motive := fun _ => AV) (fun _ _ r2 _ _ _ _ _ _ _ _ _ _ _ _ _ => Row.rec (motive := fun _ => AV) (fun _ _ _ _ _ _ b6 _ _ _ _ _ _ _ _ _ => b6) r2) x) t
noncomputable def e2_7 : GT := fun t => Fm.rec (motive := fun _ => AV) (fun _ _ _ _ _ _ _ _ x => T2.rec (motive := fun _ => AV) (fun _ _ r2 _ _ _ _ _ _ _ _ _ _ _ _ _ => Row.rec (motive := fun _ => AV) (fun _ _ _ _ _ _ _ b7 _ _ _ _ _ _ _ _ => b7) r2) x) t
noncomputable def e2_8 : GT := fun t => Fm.rec (motive := fun _ => AV) (fun _ _ _ _ _ _ _ _ x => T2.rec (motive := fun _ => AV) (fun _ _ r2 _ _ _ _ _ _ _ _ _ _ _ _ _ => Row.rec (motive := fun _ => AV) (fun _ _ _ _ _ _ _ _ b8 _ _ _ _ _ _ _ => b8) r2) x) t
noncomputable def e2_9 : GT := fun t => Fm.rec (motive := fun _ => AV) (fun _ _ _ _ _ _ _ _ x => T2.rec (motive := fun _ => AV) (fun _ _ r2 _ _ _ _ _ _ _ _ _ _ _ _ _ => Row.rec (motive := fun _ => AV) (fun _ _ _ _ _ _ _ _ _ b9 _ _ _ _ _ _ => b9) r2) x) t
noncomputable def e2_10 : GT := fun t => Fm.rec (motive := fun _ => AV) (fun _ _ _ _ _ _ _ _ x => T2.rec (motive := fun _ => AV) (fun _ _ r2 _ _ _ _ _ _ _ _ _ _ _ _ _ => Row.rec (motive := fun _ => AV) (fun _ _ _ _ _ _ _ _ _ _ b10 _ _ _ _ _ => b10) r2) x) t
noncomputable def e2_11 : GT := fun t => Fm.rec (motive := fun _ => AV) (fun _ _ _ _ _ _ _ _ x => T2.rec (motive := fun _ => AV) (fun _ _ r2 _ _ _ _ _ _ _ _ _ _ _ _ _ => Row.rec (motive := fun _ => AV) (fun _ _ _ _ _ _ _ _ _ _ _ b11 _ _ _ _ => b11) r2) x) t
noncomputable def e2_12 : GT := fun t => Fm.rec (motive := fun _ => AV) (fun _ _ _ _ _ _ _ _ x => T2.rec (motive := fun _ => AV) (fun _ _ r2 _ _ _ _ _ _ _ _ _ _ _ _ _ => Row.rec (motive := fun _ => AV) (fun _ _ _ _ _ _ _ _ _ _ _ _ b12 _ _ _ => b12) r2) x) t
noncomputable def e2_13 : GT := fun t => Fm.rec (motive := fun _ => AV) (fun _ _ _ _ _ _ _ _ x => T2.rec (motive := fun _ => AV) (fun _ _ r2 _ _ _ _ _ _ _ _ _ _ _ _ _ => Row.rec (motive := fun _ => AV) (fun _ _ _ _ _ _ _ _ _ _ _ _ _ b13 _ _ => b13) r2) x) t
noncomputable def e2_14 : GT := fun t => Fm.rec (motive := fun _ => AV) (fun _ _ _ _ _ _ _ _ x => T2.rec (motive := fun _ => AV) (fun _ _ r2 _ _ _ _ _ _ _ _ _ _ _ _ _ => Row.rec (motive := fun _ => AV) (fun _ _ _ _ _ _ _ _ _ _ _ _ _ _ b14 _ => b14) r2) x) t
noncomputable def e2_15 : GT := fun t => Fm.rec (motive := fun _ => AV) (fun _ _ _ _ _ _ _ _ x => T2.rec (motive := fun _ => AV) (fun _ _ r2 _ _ _ _ _ _ _ _ _ _ _ _ _ => Row.rec (motive := fun _ => AV) (fun _ _ _ _ _ _ _ _ _ _ _ _ _ _ _ b15 => b15) r2) x) t
noncomputable def e3_0 : GT := fun t => Fm.rec (motive := fun _ => AV) (fun _ _ _ _ _ _ _ _ x => T2.rec (motive := fun _ => AV) (fun _ _ _ r3 _ _ _ _ _ _ _ _ _ _ _ _ => Row.rec (motive := fun _ => AV) (fun b0 _ _ _ _ _ _ _ _ _ _ _ _ _ _ _ => b0) r3) x) t
noncomputable def e3_1 : GT := fun t => Fm.rec (motive := fun _ => AV) (fun _ _ _ _ _ _ _ _ x => T2.rec (motive := fun _ => AV) (fun _ _ _ r3 _ _ _ _ _ _ _ _ _ _ _ _ => Row.rec (motive := fun _ => AV) (fun _ b1 _ _ _ _ _ _ _ _ _ _ _ _ _ _ => b1) r3) x) t
noncomputable def e3_2 : GT := fun t => Fm.rec (motive := fun _ => AV) (fun _ _ _ _ _ _ _ _ x => T2.rec (motive := fun _ => AV) (fun _ _ _ r3 _ _ _ _ _ _ _ _ _ _ _ _ => Row.rec (motive := fun _ => AV) (fun _ _ b2 _ _ _ _ _ _ _ _ _ _ _ _ _ => b2) r3) x) t
noncomputable def e3_3 : GT := fun t => Fm.rec (motive := fun _ => AV) (fun _ _ _ _ _ _ _ _ x => T2.rec (motive := fun _ => AV) (fun _ _ _ r3 _ _ _ _ _ _ _ _ _ _ _ _ => Row.rec (motive := fun _ => AV) (fun _ _ _ b3 _ _ _ _ _ _ _ _ _ _ _ _ => b3) r3) x) t
noncomputable def e3_4 : GT := fun t => Fm.rec (motive := fun _ => AV) (fun _ _ _ _ _ _ _ _ x => T2.rec (motive := fun _ => AV) (fun _ _ _ r3 _ _ _ _ _ _ _ _ _ _ _ _ => Row.rec (motive := fun _ => AV) (fun _ _ _ _ b4 _ _ _ _ _ _ _ _ _ _ _ => b4) r3) x) t
noncomputable def e3_5 : GT := fun t => Fm.rec (motive := fun _ => AV) (fun _ _ _ _ _ _ _ _ x => T2.rec (motive := fun _ => AV) (fun _ _ _ r3 _ _ _ _ _ _ _ _ _ _ _ _ => Row.rec (motive := fun _ => AV) (fun _ _ _ _ _ b5 _ _ _ _ _ _ _ _ _ _ => b5) r3) x) t
noncomputable def e3_6 : GT := fun t => Fm.rec (motive := fun _ => AV) (fun _ _ _ _ _ _ _ _ x => T2.rec (motive := fun _ => AV) (fun _ _ _ r3 _ _ _ _ _ _ _ _ _ _ _ _ => Row.rec (motive := fun _ => AV) (fun _ _ _ _ _ _ b6 _ _ _ _ _ _ _ _ _ => b6) r3) x) t
noncomputable def e3_7 : GT := fun t => Fm.rec (motive := fun _ => AV) (fun _ _ _ _ _ _ _ _ x => T2.rec (motive := fun _ => AV) (fun _ _ _ r3 _ _ _ _ _ _ _ _ _ _ _ _ => Row.rec (motive := fun _ => AV) (fun _ _ _ _ _ _ _ b7 _ _ _ _ _ _ _ _ => b7) r3) x) t
noncomputable def e3_8 : GT := fun t => Fm.rec (motive := fun _ => AV) (fun _ _ _ _ _ _ _ _ x => T2.rec (motive := fun _ => AV) (fun _ _ _ r3 _ _ _ _ _ _ _ _ _ _ _ _ => Row.rec (motive := fun _ => AV) (fun _ _ _ _ _ _ _ _ b8 _ _ _ _ _ _ _ => b8) r3) x) t
noncomputable def e3_9 : GT := fun t => Fm.rec (motive := fun _ => AV) (fun _ _ _ _ _ _ _ _ x => T2.rec (motive := fun _ => AV) (fun _ _ _ r3 _ _ _ _ _ _ _ _ _ _ _ _ => Row.rec (motive := fun _ => AV) (fun _ _ _ _ _ _ _ _ _ b9 _ _ _ _ _ _ => b9) r3) x) t
noncomputable def e3_10 : GT := fun t => Fm.rec (motive := fun _ => AV) (fun _ _ _ _ _ _ _ _ x => T2.rec (motive := fun _ => AV) (fun _ _ _ r3 _ _ _ _ _ _ _ _ _ _ _ _ => Row.rec (motive := fun _ => AV) (fun _ _ _ _ _ _ _ _ _ _ b10 _ _ _ _ _ => b10) r3) x) t
noncomputable def e3_11 : GT := fun t => Fm.rec (motive := fun _ => AV) (fun _ _ _ _ _ _ _ _ x => T2.rec (motive := fun _ => AV) (fun _ _ _ r3 _ _ _ _ _ _ _ _ _ _ _ _ => Row.rec (motive := fun _ => AV) (fun _ _ _ _ _ _ _ _ _ _ _ b11 _ _ _ _ => b11) r3) x) t
noncomputable def e3_12 : GT := fun t => Fm.rec (motive := fun _ => AV) (fun _ _ _ _ _ _ _ _ x => T2.rec (motive := fun _ => AV) (fun _ _ _ r3 _ _ _ _ _ _ _ _ _ _ _ _ => Row.rec (motive := fun _ => AV) (fun _ _ _ _ _ _ _ _ _ _ _ _ b12 _ _ _ => b12) r3) x) t
noncomputable def e3_13 : GT := fun t => Fm.rec (motive := fun _ => AV) (fun _ _ _ _ _ _ _ _ x => T2.rec (motive := fun _ => AV) (fun _ _ _ r3 _ _ _ _ _ _ _ _ _ _ _ _ => Row.rec (motive := fun _ => AV) (fun _ _ _ _ _ _ _ _ _ _ _ _ _ b13 _ _ => b13) r3) x) t
noncomputable def e3_14 : GT := fun t => Fm.rec (motive := fun _ => AV) (fun _ _ _ _ _ _ _ _ x => T2.rec (motive := fun _ => AV) (fun _ _ _ r3 _ _ _ _ _ _ _ _ _ _ _ _ => Row.rec (motive := fun _ => AV) (fun _ _ _ _ _ _ _ _ _ _ _ _ _ _ b14 _ => b14) r3) x) t
noncomputable def e3_15 : GT := fun t => Fm.rec (motive := fun _ => AV) (fun _ _ _ _ _ _ _ _ x => T2.rec (motive := fun _ => AV) (fun _ _ _ r3 _ _ _ _ _ _ _ _ _ _ _ _ => Row.rec (motive := fun _ => AV) (fun _ _ _ _ _ _ _ _ _ _ _ _ _ _ _ b15 => b15) r3) x) t
noncomputable def e4_0 : GT := fun t => Fm.rec (motive := fun _ => AV) (fun _ _ _ _ _ _ _ _ x => T2.rec (motive := fun _ => AV) (fun _ _ _ _ r4 _ _ _ _ _ _ _ _ _ _ _ => Row.rec (motive := fun _ => AV) (fun b0 _ _ _ _ _ _ _ _ _ _ _ _ _ _ _ => b0) r4) x) t
noncomputable def e4_1 : GT := fun t => Fm.rec (motive := fun _ => AV) (fun _ _ _ _ _ _ _ _ x => T2.rec (motive := fun _ => AV) (fun _ _ _ _ r4 _ _ _ _ _ _ _ _ _ _ _ => Row.rec (motive := fun _ => AV) (fun _ b1 _ _ _ _ _ _ _ _ _ _ _ _ _ _ => b1) r4) x) t
noncomputable def e4_2 : GT := fun t => Fm.rec (motive := fun _ => AV) (fun _ _ _ _ _ _ _ _ x => T2.rec (motive := fun _ => AV) (fun _ _ _ _ r4 _ _ _ _ _ _ _ _ _ _ _ => Row.rec (motive := fun _ => AV) (fun _ _ b2 _ _ _ _ _ _ _ _ _ _ _ _ _ => b2) r4) x) t
noncomputable def e4_3 : GT := fun t => Fm.rec (motive := fun _ => AV) (fun _ _ _ _ _ _ _ _ x => T2.rec (motive := fun _ => AV) (fun _ _ _ _ r4 _ _ _ _ _ _ _ _ _ _ _ => Row.rec (motive := fun _ => AV) (fun _ _ _ b3 _ _ _ _ _ _ _ _ _ _ _ _ => b3) r4) x) t
noncomputable def e4_4 : GT := fun t => Fm.rec (motive := fun _ => AV) (fun _ _ _ _ _ _ _ _ x => T2.rec (motive := fun _ => AV) (fun _ _ _ _ r4 _ _ _ _ _ _ _ _ _ _ _ => Row.rec (motive := fun _ => AV) (fun _ _ _ _ b4 _ _ _ _ _ _ _ _ _ _ _ => b4) r4) x) t
noncomputable def e4_5 : GT := fun t => Fm.rec (motive := fun _ => AV) (fun _ _ _ _ _ _ _ _ x => T2.rec (motive := fun _ => AV) (fun _ _ _ _ r4 _ _ _ _ _ _ _ _ _ _ _ => Row.rec (motive := fun _ => AV) (fun _ _ _ _ _ b5 _ _ _ _ _ _ _ _ _ _ => b5) r4) x) t
noncomputable def e4_6 : GT := fun t => Fm.rec (motive := fun _ => AV) (fun _ _ _ _ _ _ _ _ x => T2.rec (motive := fun _ => AV) (fun _ _ _ _ r4 _ _ _ _ _ _ _ _ _ _ _ => Row.rec (motive := fun _ => AV) (fun _ _ _ _ _ _ b6 _ _ _ _ _ _ _ _ _ => b6) r4) x) t
noncomputable def e4_7 : GT := fun t => Fm.rec (motive := fun _ => AV) (fun _ _ _ _ _ _ _ _ x => T2.rec (motive := fun _ => AV) (fun _ _ _ _ r4 _ _ _ _ _ _ _ _ _ _ _ => Row.rec (motive := fun _ => AV) (fun _ _ _ _ _ _ _ b7 _ _ _ _ _ _ _ _ => b7) r4) x) t
noncomputable def e4_8 : GT := fun t => Fm.rec (motive := fun _ => AV) (fun _ _ _ _ _ _ _ _ x => T2.rec (motive := fun _ => AV) (fun _ _ _ _ r4 _ _ _ _ _ _ _ _ _ _ _ => Row.rec (motive := fun _ => AV) (fun _ _ _ _ _ _ _ _ b8 _ _ _ _ _ _ _ => b8) r4) x) t
noncomputable def e4_9 : GT := fun t => Fm.rec (motive := fun _ => AV) (fun _ _ _ _ _ _ _ _ x => T2.rec (motive := fun _ => AV) (fun _ _ _ _ r4 _ _ _ _ _ _ _ _ _ _ _ => Row.rec (motive := fun _ => AV) (fun _ _ _ _ _ _ _ _ _ b9 _ _ _ _ _ _ => b9) r4) x) t
noncomputable def e4_10 : GT := fun t => Fm.rec (motive := fun _ => AV) (fun _ _ _ _ _ _ _ _ x => T2.rec (motive := fun _ => AV) (fun _ _ _ _ r4 _ _ _ _ _ _ _ _ _ _ _ => Row.rec (motive := fun _ => AV) (fun _ _ _ _ _ _ _ _ _ _ b10 _ _ _ _ _ => b10) r4) x) t
noncomputable def e4_11 : GT := fun t => Fm.rec (motive := fun _ => AV) (fun _ _ _ _ _ _ _ _ x => T2.rec (motive := fun _ => AV) (fun _ _ _ _ r4 _ _ _ _ _ _ _ _ _ _ _ => Row.rec (motive := fun _ => AV) (fun _ _ _ _ _ _ _ _ _ _ _ b11 _ _ _ _ => b11) r4) x) t
noncomputable def e4_12 : GT := fun t => Fm.rec (motive := fun _ => AV) (fun _ _ _ _ _ _ _ _ x => T2.rec (motive := fun _ => AV) (fun _ _ _ _ r4 _ _ _ _ _ _ _ _ _ _ _ => Row.rec (motive := fun _ => AV) (fun _ _ _ _ _ _ _ _ _ _ _ _ b12 _ _ _ => b12) r4) x) t
noncomputable def e4_13 : GT := fun t => Fm.rec (motive := fun _ => AV) (fun _ _ _ _ _ _ _ _ x => T2.rec (motive := fun _ => AV) (fun _ _ _ _ r4 _ _ _ _ _ _ _ _ _ _ _ => Row.rec (motive := fun _ => AV) (fun _ _ _ _ _ _ _ _ _ _ _ _ _ b13 _ _ => b13) r4) x) t
noncomputable def e4_14 : GT := fun t => Fm.rec (motive := fun _ => AV) (fun _ _ _ _ _ _ _ _ x => T2.rec (motive := fun _ => AV) (fun _ _ _ _ r4 _ _ _ _ _ _ _ _ _ _ _ => Row.rec (motive := fun _ => AV) (fun _ _ _ _ _ _ _ _ _ _ _ _ _ _ b14 _ => b14) r4) x) t
noncomputable def e4_15 : GT := fun t => Fm.rec (motive := fun _ => AV) (fun _ _ _ _ _ _ _ _ x => T2.rec (motive := fun _ => AV) (fun _ _ _ _ r4 _ _ _ _ _ _ _ _ _ _ _ => Row.rec (motive := fun _ => AV) (fun _ _ _ _ _ _ _ _ _ _ _ _ _ _ _ b15 => b15) r4) x) t
noncomputable def e5_0 : GT := fun t => Fm.rec (motive := fun _ => AV) (fun _ _ _ _ _ _ _ _ x => T2.rec (motive := fun _ => AV) (fun _ _ _ _ _ r5 _ _ _ _ _ _ _ _ _ _ => Row.rec (motive := fun _ => AV) (fun b0 _ _ _ _ _ _ _ _ _ _ _ _ _ _ _ => b0) r5) x) t
noncomputable def e5_1 : GT := fun t => Fm.rec (motive := fun _ => AV) (fun _ _ _ _ _ _ _ _ x => T2.rec (motive := fun _ => AV) (fun _ _ _ _ _ r5 _ _ _ _ _ _ _ _ _ _ => Row.rec (motive := fun _ => AV) (fun _ b1 _ _ _ _ _ _ _ _ _ _ _ _ _ _ => b1) r5) x) t
noncomputable def e5_2 : GT := fun t => Fm.rec (motive := fun _ => AV) (fun _ _ _ _ _ _ _ _ x => T2.rec (motive := fun _ => AV) (fun _ _ _ _ _ r5 _ _ _ _ _ _ _ _ _ _ => Row.rec (motive := fun _ => AV) (fun _ _ b2 _ _ _ _ _ _ _ _ _ _ _ _ _ => b2) r5) x) t
noncomputable def e5_3 : GT := fun t => Fm.rec (motive := fun _ => AV) (fun _ _ _ _ _ _ _ _ x => T2.rec (motive := fun _ => AV) (fun _ _ _ _ _ r5 _ _ _ _ _ _ _ _ _ _ => Row.rec (motive := fun _ => AV) (fun _ _ _ b3 _ _ _ _ _ _ _ _ _ _ _ _ => b3) r5) x) t
noncomputable def e5_4 : GT := fun t => Fm.rec (motive := fun _ => AV) (fun _ _ _ _ _ _ _ _ x => T2.rec (motive := fun _ => AV) (fun _ _ _ _ _ r5 _ _ _ _ _ _ _ _ _ _ => Row.rec (motive := fun _ => AV) (fun _ _ _ _ b4 _ _ _ _ _ _ _ _ _ _ _ => b4) r5) x) t
noncomputable def e5_5 : GT := fun t => Fm.rec (motive := fun _ => AV) (fun _ _ _ _ _ _ _ _ x => T2.rec (motive := fun _ => AV) (fun _ _ _ _ _ r5 _ _ _ _ _ _ _ _ _ _ => Row.rec (motive := fun _ => AV) (fun _ _ _ _ _ b5 _ _ _ _ _ _ _ _ _ _ => b5) r5) x) t
noncomputable def e5_6 : GT := fun t => Fm.rec (motive := fun _ => AV) (fun _ _ _ _ _ _ _ _ x => T2.rec (motive := fun _ => AV) (fun _ _ _ _ _ r5 _ _ _ _ _ _ _ _ _ _ => Row.rec (motive := fun _ => AV) (fun _ _ _ _ _ _ b6 _ _ _ _ _ _ _ _ _ => b6) r5) x) t
noncomputable def e5_7 : GT := fun t => Fm.rec (motive := fun _ => AV) (fun _ _ _ _ _ _ _ _ x => T2.rec (motive := fun _ => AV) (fun _ _ _ _ _ r5 _ _ _ _ _ _ _ _ _ _ => Row.rec (motive := fun _ => AV) (fun _ _ _ _ _ _ _ b7 _ _ _ _ _ _ _ _ => b7) r5) x) t
noncomputable def e5_8 : GT := fun t => Fm.rec (motive := fun _ => AV) (fun _ _ _ _ _ _ _ _ x => T2.rec (motive := fun _ => AV) (fun _ _ _ _ _ r5 _ _ _ _ _ _ _ _ _ _ => Row.rec (motive := fun _ => AV) (fun _ _ _ _ _ _ _ _ b8 _ _ _ _ _ _ _ => b8) r5) x) t
noncomputable def e5_9 : GT := fun t => Fm.rec (motive := fun _ => AV) (fun _ _ _ _ _ _ _ _ x => T2.rec (motive := fun _ => AV) (fun _ _ _ _ _ r5 _ _ _ _ _ _ _ _ _ _ => Row.rec (motive := fun _ => AV) (fun _ _ _ _ _ _ _ _ _ b9 _ _ _ _ _ _ => b9) r5) x) t
noncomputable def e5_10 : GT := fun t => Fm.rec (motive := fun _ => AV) (fun _ _ _ _ _ _ _ _ x => T2.rec (motive := fun _ => AV) (fun _ _ _ _ _ r5 _ _ _ _ _ _ _ _ _ _ => Row.rec (motive := fun _ => AV) (fun _ _ _ _ _ _ _ _ _ _ b10 _ _ _ _ _ => b10) r5) x) t
noncomputable def e5_11 : GT := fun t => Fm.rec (motive := fun _ => AV) (fun _ _ _ _ _ _ _ _ x => T2.rec (motive := fun _ => AV) (fun _ _ _ _ _ r5 _ _ _ _ _ _ _ _ _ _ => Row.rec (motive := fun _ => AV) (fun _ _ _ _ _ _ _ _ _ _ _ b11 _ _ _ _ => b11) r5) x) t
noncomputable def e5_12 : GT := fun t => Fm.rec (motive := fun _ => AV) (fun _ _ _ _ _ _ _ _ x => T2.rec (motive := fun _ => AV) (fun _ _ _ _ _ r5 _ _ _ _ _ _ _ _ _ _ => Row.rec (motive := fun _ => AV) (fun _ _ _ _ _ _ _ _ _ _ _ _ b12 _ _ _ => b12) r5) x) t
noncomputable def e5_13 : GT := fun t => Fm.rec (motive := fun _ => AV) (fun _ _ _ _ _ _ _ _ x => T2.rec (motive := fun _ => AV) (fun _ _ _ _ _ r5 _ _ _ _ _ _ _ _ _ _ => Row.rec (motive := fun _ => AV) (fun _ _ _ _ _ _ _ _ _ _ _ _ _ b13 _ _ => b13) r5) x) t
noncomputable def e5_14 : GT := fun t => Fm.rec (motive := fun _ => AV) (fun _ _ _ _ _ _ _ _ x => T2.rec (motive := fun _ => AV) (fun _ _ _ _ _ r5 _ _ _ _ _ _ _ _ _ _ => Row.rec (motive := fun _ => AV) (fun _ _ _ _ _ _ _ _ _ _ _ _ _ _ b14 _ => b14) r5) x) t
noncomputable def e5_15 : GT := fun t => Fm.rec (motive := fun _ => AV) (fun _ _ _ _ _ _ _ _ x => T2.rec (motive := fun _ => AV) (fun _ _ _ _ _ r5 _ _ _ _ _ _ _ _ _ _ => Row.rec (motive := fun _ => AV) (fun _ _ _ _ _ _ _ _ _ _ _ _ _ _ _ b15 => b15) r5) x) t
noncomputable def e6_0 : GT := fun t => Fm.rec (motive := fun _ => AV) (fun _ _ _ _ _ _ _ _ x => T2.rec (motive := fun _ => AV) (fun _ _ _ _ _ _ r6 _ _ _ _ _ _ _ _ _ => Row.rec (motive := fun _ => AV) (fun b0 _ _ _ _ _ _ _ _ _ _ _ _ _ _ _ => b0) r6) x) t
noncomputable def e6_1 : GT := fun t => Fm.rec (motive := fun _ => AV) (fun _ _ _ _ _ _ _ _ x => T2.rec (motive := fun _ => AV) (fun _ _ _ _ _ _ r6 _ _ _ _ _ _ _ _ _ => Row.rec (motive := fun _ => AV) (fun _ b1 _ _ _ _ _ _ _ _ _ _ _ _ _ _ => b1) r6) x) t
noncomputable def e6_2 : GT := fun t => Fm.rec (motive := fun _ => AV) (fun _ _ _ _ _ _ _ _ x => T2.rec (motive := fun _ => AV) (fun _ _ _ _ _ _ r6 _ _ _ _ _ _ _ _ _ => Row.rec (motive := fun _ => AV) (fun _ _ b2 _ _ _ _ _ _ _ _ _ _ _ _ _ => b2) r6) x) t
noncomputable def e6_3 : GT := fun t => Fm.rec (motive := fun _ => AV) (fun _ _ _ _ _ _ _ _ x => T2.rec (motive := fun _ => AV) (fun _ _ _ _ _ _ r6 _ _ _ _ _ _ _ _ _ => Row.rec (motive := fun _ => AV) (fun _ _ _ b3 _ _ _ _ _ _ _ _ _ _ _ _ => b3) r6) x) t
noncomputable def e6_4 : GT := fun t => Fm.rec (motive := fun _ => AV) (fun _ _ _ _ _ _ _ _ x => T2.rec (motive := fun _ => AV) (fun _ _ _ _ _ _ r6 _ _ _ _ _ _ _ _ _ => Row.rec (motive := fun _ => AV) (fun _ _ _ _ b4 _ _ _ _ _ _ _ _ _ _ _ => b4) r6) x) t
noncomputable def e6_5 : GT := fun t => Fm.rec (motive := fun _ => AV) (fun _ _ _ _ _ _ _ _ x => T2.rec (motive := fun _ => AV) (fun _ _ _ _ _ _ r6 _ _ _ _ _ _ _ _ _ => Row.rec (motive := fun _ => AV) (fun _ _ _ _ _ b5 _ _ _ _ _ _ _ _ _ _ => b5) r6) x) t
noncomputable def e6_6 : GT := fun t => Fm.rec (motive := fun _ => AV) (fun _ _ _ _ _ _ _ _ x => T2.rec (motive := fun _ => AV) (fun _ _ _ _ _ _ r6 _ _ _ _ _ _ _ _ _ => Row.rec (motive := fun _ => AV) (fun _ _ _ _ _ _ b6 _ _ _ _ _ _ _ _ _ => b6) r6) x) t
noncomputable def e6_7 : GT := fun t => Fm.rec (motive := fun _ => AV) (fun _ _ _ _ _ _ _ _ x => T2.rec (motive := fun _ => AV) (fun _ _ _ _ _ _ r6 _ _ _ _ _ _ _ _ _ => Row.rec (motive := fun _ => AV) (fun _ _ _ _ _ _ _ b7 _ _ _ _ _ _ _ _ => b7) r6) x) t
noncomputable def e6_8 : GT := fun t => Fm.rec (motive := fun _ => AV) (fun _ _ _ _ _ _ _ _ x => T2.rec (motive := fun _ => AV) (fun _ _ _ _ _ _ r6 _ _ _ _ _ _ _ _ _ => Row.rec (motive := fun _ => AV) (fun _ _ _ _ _ _ _ _ b8 _ _ _ _ _ _ _ => b8) r6) x) t
noncomputable def e6_9 : GT := fun t => Fm.rec (motive := fun _ => AV) (fun _ _ _ _ _ _ _ _ x => T2.rec (motive := fun _ => AV) (fun _ _ _ _ _ _ r6 _ _ _ _ _ _ _ _ _ => Row.rec (motive := fun _ => AV) (fun _ _ _ _ _ _ _ _ _ b9 _ _ _ _ _ _ => b9) r6) x) t
noncomputable def e6_10 : GT := fun t => Fm.rec (motive := fun _ => AV) (fun _ _ _ _ _ _ _ _ x => T2.rec (motive := fun _ => AV) (fun _ _ _ _ _ _ r6 _ _ _ _ _ _ _ _ _ => Row.rec (motive := fun _ => AV) (fun _ _ _ _ _ _ _ _ _ _ b10 _ _ _ _ _ => b10) r6) x) t
noncomputable def e6_11 : GT := fun t => Fm.rec (motive := fun _ => AV) (fun _ _ _ _ _ _ _ _ x => T2.rec (motive := fun _ => AV) (fun _ _ _ _ _ _ r6 _ _ _ _ _ _ _ _ _ => Row.rec (motive := fun _ => AV) (fun _ _ _ _ _ _ _ _ _ _ _ b11 _ _ _ _ => b11) r6) x) t
noncomputable def e6_12 : GT := fun t => Fm.rec (motive := fun _ => AV) (fun _ _ _ _ _ _ _ _ x => T2.rec (motive := fun _ => AV) (fun _ _ _ _ _ _ r6 _ _ _ _ _ _ _ _ _ => Row.rec (motive := fun _ => AV) (fun _ _ _ _ _ _ _ _ _ _ _ _ b12 _ _ _ => b12) r6) x) t
noncomputable def e6_13 : GT := fun t => Fm.rec (motive := fun _ => AV) (fun _ _ _ _ _ _ _ _ x => T2.rec (motive := fun _ => AV) (fun _ _ _ _ _ _ r6 _ _ _ _ _ _ _ _ _ => Row.rec (motive := fun _ => AV) (fun _ _ _ _ _ _ _ _ _ _ _ _ _ b13 _ _ => b13) r6) x) t
noncomputable def e6_14 : GT := fun t => Fm.rec (motive := fun _ => AV) (fun _ _ _ _ _ _ _ _ x => T2.rec (motive := fun _ => AV) (fun _ _ _ _ _ _ r6 _ _ _ _ _ _ _ _ _ => Row.rec (motive := fun _ => AV) (fun _ _ _ _ _ _ _ _ _ _ _ _ _ _ b14 _ => b14) r6) x) t
noncomputable def e6_15 : GT := fun t => Fm.rec (motive := fun _ => AV) (fun _ _ _ _ _ _ _ _ x => T2.rec (motive := fun _ => AV) (fun _ _ _ _ _ _ r6 _ _ _ _ _ _ _ _ _ => Row.rec (motive := fun _ => AV) (fun _ _ _ _ _ _ _ _ _ _ _ _ _ _ _ b15 => b15) r6) x) t
noncomputable def e7_0 : GT := fun t => Fm.rec (motive := fun _ => AV) (fun _ _ _ _ _ _ _ _ x => T2.rec (motive := fun _ => AV) (fun _ _ _ _ _ _ _ r7 _ _ _ _ _ _ _ _ => Row.rec (motive := fun _ => AV) (fun b0 _ _ _ _ _ _ _ _ _ _ _ _ _ _ _ => b0) r7) x) t
noncomputable def e7_1 : GT := fun t => Fm.rec (motive := fun _ => AV) (fun _ _ _ _ _ _ _ _ x => T2.rec (motive := fun _ => AV) (fun _ _ _ _ _ _ _ r7 _ _ _ _ _ _ _ _ => Row.rec (motive := fun _ => AV) (fun _ b1 _ _ _ _ _ _ _ _ _ _ _ _ _ _ => b1) r7) x) t
noncomputable def e7_2 : GT := fun t => Fm.rec (motive := fun _ => AV) (fun _ _ _ _ _ _ _ _ x => T2.rec (motive := fun _ => AV) (fun _ _ _ _ _ _ _ r7 _ _ _ _ _ _ _ _ => Row.rec (motive := fun _ => AV) (fun _ _ b2 _ _ _ _ _ _ _ _ _ _ _ _ _ => b2) r7) x) t
noncomputable def e7_3 : GT := fun t => Fm.rec (motive := fun _ => AV) (fun _ _ _ _ _ _ _ _ x => T2.rec (motive := fun _ => AV) (fun _ _ _ _ _ _ _ r7 _ _ _ _ _ _ _ _ => Row.rec (motive := fun _ => AV) (fun _ _ _ b3 _ _ _ _ _ _ _ _ _ _ _ _ => b3) r7) x) t
noncomputable def e7_4 : GT := fun t => Fm.rec (motive := fun _ => AV) (fun _ _ _ _ _ _ _ _ x => T2.rec (motive := fun _ => AV) (fun _ _ _ _ _ _ _ r7 _ _ _ _ _ _ _ _ => Row.rec (motive := fun _ => AV) (fun _ _ _ _ b4 _ _ _ _ _ _ _ _ _ _ _ => b4) r7) x) t
noncomputable def e7_5 : GT := fun t => Fm.rec (motive := fun _ => AV) (fun _ _ _ _ _ _ _ _ x => T2.rec (motive := fun _ => AV) (fun _ _ _ _ _ _ _ r7 _ _ _ _ _ _ _ _ => Row.rec (motive := fun _ => AV) (fun _ _ _ _ _ b5 _ _ _ _ _ _ _ _ _ _ => b5) r7) x) t
noncomputable def e7_6 : GT := fun t => Fm.rec (motive := fun _ => AV) (fun _ _ _ _ _ _ _ _ x => T2.rec (motive := fun _ => AV) (fun _ _ _ _ _ _ _ r7 _ _ _ _ _ _ _ _ => Row.rec (motive := fun _ => AV) (fun _ _ _ _ _ _ b6 _ _ _ _ _ _ _ _ _ => b6) r7) x) t
noncomputable def e7_7 : GT := fun t => Fm.rec (motive := fun _ => AV) (fun _ _ _ _ _ _ _ _ x => T2.rec (motive := fun _ => AV) (fun _ _ _ _ _ _ _ r7 _ _ _ _ _ _ _ _ => Row.rec (motive := fun _ => AV) (fun _ _ _ _ _ _ _ b7 _ _ _ _ _ _ _ _ => b7) r7) x) t
noncomputable def e7_8 : GT := fun t => Fm.rec (motive := fun _ => AV) (fun _ _ _ _ _ _ _ _ x => T2.rec (motive := fun _ => AV) (fun _ _ _ _ _ _ _ r7 _ _ _ _ _ _ _ _ => Row.rec (motive := fun _ => AV) (fun _ _ _ _ _ _ _ _ b8 _ _ _ _ _ _ _ => b8) r7) x) t
noncomputable def e7_9 : GT := fun t => Fm.rec (motive := fun _ => AV) (fun _ _ _ _ _ _ _ _ x => T2.rec (motive := fun _ => AV) (fun _ _ _ _ _ _ _ r7 _ _ _ _ _ _ _ _ => Row.rec (motive := fun _ => AV) (fun _ _ _ _ _ _ _ _ _ b9 _ _ _ _ _ _ => b9) r7) x) t
noncomputable def e7_10 : GT := fun t => Fm.rec (motive := fun _ => AV) (fun _ _ _ _ _ _ _ _ x => T2.rec (motive := fun _ => AV) (fun _ _ _ _ _ _ _ r7 _ _ _ _ _ _ _ _ => Row.rec (motive := fun _ => AV) (fun _ _ _ _ _ _ _ _ _ _ b10 _ _ _ _ _ => b10) r7) x) t
noncomputable def e7_11 : GT := fun t => Fm.rec (motive := fun _ => AV) (fun _ _ _ _ _ _ _ _ x => T2.rec (motive := fun _ => AV) (fun _ _ _ _ _ _ _ r7 _ _ _ _ _ _ _ _ => Row.rec (motive := fun _ => AV) (fun _ _ _ _ _ _ _ _ _ _ _ b11 _ _ _ _ => b11) r7) x) t
noncomputable def e7_12 : GT := fun t => Fm.rec (motive := fun _ => AV) (fun _ _ _ _ _ _ _ _ x => T2.rec (motive := fun _ => AV) (fun _ _ _ _ _ _ _ r7 _ _ _ _ _ _ _ _ => Row.rec (motive := fun _ => AV) (fun _ _ _ _ _ _ _ _ _ _ _ _ b12 _ _ _ => b12) r7) x) t
noncomputable def e7_13 : GT := fun t => Fm.rec (motive := fun _ => AV) (fun _ _ _ _ _ _ _ _ x => T2.rec (motive := fun _ => AV) (fun _ _ _ _ _ _ _ r7 _ _ _ _ _ _ _ _ => Row.rec (motive := fun _ => AV) (fun _ _ _ _ _ _ _ _ _ _ _ _ _ b13 _ _ => b13) r7) x) t
noncomputable def e7_14 : GT := fun t => Fm.rec (motive := fun _ => AV) (fun _ _ _ _ _ _ _ _ x => T2.rec (motive := fun _ => AV) (fun _ _ _ _ _ _ _ r7 _ _ _ _ _ _ _ _ => Row.rec (motive := fun _ => AV) (fun _ _ _ _ _ _ _ _ _ _ _ _ _ _ b14 _ => b14) r7) x) t
noncomputable def e7_15 : GT := fun t => Fm.rec (motive := fun _ => AV) (fun _ _ _ _ _ _ _ _ x => T2.rec (motive := fun _ => AV) (fun _ _ _ _ _ _ _ r7 _ _ _ _ _ _ _ _ => Row.rec (motive := fun _ => AV) (fun _ _ _ _ _ _ _ _ _ _ _ _ _ _ _ b15 => b15) r7) x) t
noncomputable def e8_0 : GT := fun t => Fm.rec (motive := fun _ => AV) (fun _ _ _ _ _ _ _ _ x => T2.rec (motive := fun _ => AV) (fun _ _ _ _ _ _ _ _ r8 _ _ _ _ _ _ _ => Row.rec (motive := fun _ => AV) (fun b0 _ _ _ _ _ _ _ _ _ _ _ _ _ _ _ => b0) r8) x) t
noncomputable def e8_1 : GT := fun t => Fm.rec (motive := fun _ => AV) (fun _ _ _ _ _ _ _ _ x => T2.rec (motive := fun _ => AV) (fun _ _ _ _ _ _ _ _ r8 _ _ _ _ _ _ _ => Row.rec (motive := fun _ => AV) (fun _ b1 _ _ _ _ _ _ _ _ _ _ _ _ _ _ => b1) r8) x) t
noncomputable def e8_2 : GT := fun t => Fm.rec (motive := fun _ => AV) (fun _ _ _ _ _ _ _ _ x => T2.rec (motive := fun _ => AV) (fun _ _ _ _ _ _ _ _ r8 _ _ _ _ _ _ _ => Row.rec (motive := fun _ => AV) (fun _ _ b2 _ _ _ _ _ _ _ _ _ _ _ _ _ => b2) r8) x) t
noncomputable def e8_3 : GT := fun t => Fm.rec (motive := fun _ => AV) (fun _ _ _ _ _ _ _ _ x => T2.rec (motive := fun _ => AV) (fun _ _ _ _ _ _ _ _ r8 _ _ _ _ _ _ _ => Row.rec (motive := fun _ => AV) (fun _ _ _ b3 _ _ _ _ _ _ _ _ _ _ _ _ => b3) r8) x) t
noncomputable def e8_4 : GT := fun t => Fm.rec (motive := fun _ => AV) (fun _ _ _ _ _ _ _ _ x => T2.rec (motive := fun _ => AV) (fun _ _ _ _ _ _ _ _ r8 _ _ _ _ _ _ _ => Row.rec (motive := fun _ => AV) (fun _ _ _ _ b4 _ _ _ _ _ _ _ _ _ _ _ => b4) r8) x) t
noncomputable def e8_5 : GT := fun t => Fm.rec (motive := fun _ => AV) (fun _ _ _ _ _ _ _ _ x => T2.rec (motive := fun _ => AV) (fun _ _ _ _ _ _ _ _ r8 _ _ _ _ _ _ _ => Row.rec (motive := fun _ => AV) (fun _ _ _ _ _ b5 _ _ _ _ _ _ _ _ _ _ => b5) r8) x) t
noncomputable def e8_6 : GT := fun t => Fm.rec (motive := fun _ => AV) (fun _ _ _ _ _ _ _ _ x => T2.rec (motive := fun _ => AV) (fun _ _ _ _ _ _ _ _ r8 _ _ _ _ _ _ _ => Row.rec (motive := fun _ => AV) (fun _ _ _ _ _ _ b6 _ _ _ _ _ _ _ _ _ => b6) r8) x) t
noncomputable def e8_7 : GT := fun t => Fm.rec (motive := fun _ => AV) (fun _ _ _ _ _ _ _ _ x => T2.rec (motive := fun _ => AV) (fun _ _ _ _ _ _ _ _ r8 _ _ _ _ _ _ _ => Row.rec (motive := fun _ => AV) (fun _ _ _ _ _ _ _ b7 _ _ _ _ _ _ _ _ => b7) r8) x) t
noncomputable def e8_8 : GT := fun t => Fm.rec (motive := fun _ => AV) (fun _ _ _ _ _ _ _ _ x => T2.rec (motive := fun _ => AV) (fun _ _ _ _ _ _ _ _ r8 _ _ _ _ _ _ _ => Row.rec (motive := fun _ => AV) (fun _ _ _ _ _ _ _ _ b8 _ _ _ _ _ _ _ => b8) r8) x) t
noncomputable def e8_9 : GT := fun t => Fm.rec (motive := fun _ => AV) (fun _ _ _ _ _ _ _ _ x => T2.rec (motive := fun _ => AV) (fun _ _ _ _ _ _ _ _ r8 _ _ _ _ _ _ _ => Row.rec (motive := fun _ => AV) (fun _ _ _ _ _ _ _ _ _ b9 _ _ _ _ _ _ => b9) r8) x) t
noncomputable def e8_10 : GT := fun t => Fm.rec (motive := fun _ => AV) (fun _ _ _ _ _ _ _ _ x => T2.rec (motive := fun _ => AV) (fun _ _ _ _ _ _ _ _ r8 _ _ _ _ _ _ _ => Row.rec (motive := fun _ => AV) (fun _ _ _ _ _ _ _ _ _ _ b10 _ _ _ _ _ => b10) r8) x) t
noncomputable def e8_11 : GT := fun t => Fm.rec (motive := fun _ => AV) (fun _ _ _ _ _ _ _ _ x => T2.rec (motive := fun _ => AV) (fun _ _ _ _ _ _ _ _ r8 _ _ _ _ _ _ _ => Row.rec (motive := fun _ => AV) (fun _ _ _ _ _ _ _ _ _ _ _ b11 _ _ _ _ => b11) r8) x) t
noncomputable def e8_12 : GT := fun t => Fm.rec (motive := fun _ => AV) (fun _ _ _ _ _ _ _ _ x => T2.rec (motive := fun _ => AV) (fun _ _ _ _ _ _ _ _ r8 _ _ _ _ _ _ _ => Row.rec (motive := fun _ => AV) (fun _ _ _ _ _ _ _ _ _ _ _ _ b12 _ _ _ => b12) r8) x) t
noncomputable def e8_13 : GT := fun t => Fm.rec (motive := fun _ => AV) (fun _ _ _ _ _ _ _ _ x => T2.rec (motive := fun _ => AV) (fun _ _ _ _ _ _ _ _ r8 _ _ _ _ _ _ _ => Row.rec (motive := fun _ => AV) (fun _ _ _ _ _ _ _ _ _ _ _ _ _ b13 _ _ => b13) r8) x) t
noncomputable def e8_14 : GT := fun t => Fm.rec (motive := fun _ => AV) (fun _ _ _ _ _ _ _ _ x => T2.rec (motive := fun _ => AV) (fun _ _ _ _ _ _ _ _ r8 _ _ _ _ _ _ _ => Row.rec (motive := fun _ => AV) (fun _ _ _ _ _ _ _ _ _ _ _ _ _ _ b14 _ => b14) r8) x) t
noncomputable def e8_15 : GT := fun t => Fm.rec (motive := fun _ => AV) (fun _ _ _ _ _ _ _ _ x => T2.rec (motive := fun _ => AV) (fun _ _ _ _ _ _ _ _ r8 _ _ _ _ _ _ _ => Row.rec (motive := fun _ => AV) (fun _ _ _ _ _ _ _ _ _ _ _ _ _ _ _ b15 => b15) r8) x) t
noncomputable def e9_0 : GT := fun t => Fm.rec (motive := fun _ => AV) (fun _ _ _ _ _ _ _ _ x => T2.rec (motive := fun _ => AV) (fun _ _ _ _ _ _ _ _ _ r9 _ _ _ _ _ _ => Row.rec (motive := fun _ => AV) (fun b0 _ _ _ _ _ _ _ _ _ _ _ _ _ _ _ => b0) r9) x) t
noncomputable def e9_1 : GT := fun t => Fm.rec (motive := fun _ => AV) (fun _ _ _ _ _ _ _ _ x => T2.rec (motive := fun _ => AV) (fun _ _ _ _ _ _ _ _ _ r9 _ _ _ _ _ _ => Row.rec (motive := fun _ => AV) (fun _ b1 _ _ _ _ _ _ _ _ _ _ _ _ _ _ => b1) r9) x) t
noncomputable def e9_2 : GT := fun t => Fm.rec (motive := fun _ => AV) (fun _ _ _ _ _ _ _ _ x => T2.rec (motive := fun _ => AV) (fun _ _ _ _ _ _ _ _ _ r9 _ _ _ _ _ _ => Row.rec (motive := fun _ => AV) (fun _ _ b2 _ _ _ _ _ _ _ _ _ _ _ _ _ => b2) r9) x) t
noncomputable def e9_3 : GT := fun t => Fm.rec (motive := fun _ => AV) (fun _ _ _ _ _ _ _ _ x => T2.rec (motive := fun _ => AV) (fun _ _ _ _ _ _ _ _ _ r9 _ _ _ _ _ _ => Row.rec (motive := fun _ => AV) (fun _ _ _ b3 _ _ _ _ _ _ _ _ _ _ _ _ => b3) r9) x) t
noncomputable def e9_4 : GT := fun t => Fm.rec (motive := fun _ => AV) (fun _ _ _ _ _ _ _ _ x => T2.rec (motive := fun _ => AV) (fun _ _ _ _ _ _ _ _ _ r9 _ _ _ _ _ _ => Row.rec (motive := fun _ => AV) (fun _ _ _ _ b4 _ _ _ _ _ _ _ _ _ _ _ => b4) r9) x) t
noncomputable def e9_5 : GT := fun t => Fm.rec (motive := fun _ => AV) (fun _ _ _ _ _ _ _ _ x => T2.rec (motive := fun _ => AV) (fun _ _ _ _ _ _ _ _ _ r9 _ _ _ _ _ _ => Row.rec (motive := fun _ => AV) (fun _ _ _ _ _ b5 _ _ _ _ _ _ _ _ _ _ => b5) r9) x) t
noncomputable def e9_6 : GT := fun t => Fm.rec (motive := fun _ => AV) (fun _ _ _ _ _ _ _ _ x => T2.rec (motive := fun _ => AV) (fun _ _ _ _ _ _ _ _ _ r9 _ _ _ _ _ _ => Row.rec (motive := fun _ => AV) (fun _ _ _ _ _ _ b6 _ _ _ _ _ _ _ _ _ => b6) r9) x) t
noncomputable def e9_7 : GT := fun t => Fm.rec (motive := fun _ => AV) (fun _ _ _ _ _ _ _ _ x => T2.rec (motive := fun _ => AV) (fun _ _ _ _ _ _ _ _ _ r9 _ _ _ _ _ _ => Row.rec (motive := fun _ => AV) (fun _ _ _ _ _ _ _ b7 _ _ _ _ _ _ _ _ => b7) r9) x) t
noncomputable def e9_8 : GT := fun t => Fm.rec (motive := fun _ => AV) (fun _ _ _ _ _ _ _ _ x => T2.rec (motive := fun _ => AV) (fun _ _ _ _ _ _ _ _ _ r9 _ _ _ _ _ _ => Row.rec (motive := fun _ => AV) (fun _ _ _ _ _ _ _ _ b8 _ _ _ _ _ _ _ => b8) r9) x) t
noncomputable def e9_9 : GT := fun t => Fm.rec (motive := fun _ => AV) (fun _ _ _ _ _ _ _ _ x => T2.rec (motive := fun _ => AV) (fun _ _ _ _ _ _ _ _ _ r9 _ _ _ _ _ _ => Row.rec (motive := fun _ => AV) (fun _ _ _ _ _ _ _ _ _ b9 _ _ _ _ _ _ => b9) r9) x) t
noncomputable def e9_10 : GT := fun t => Fm.rec (motive := fun _ => AV) (fun _ _ _ _ _ _ _ _ x => T2.rec (motive := fun _ => AV) (fun _ _ _ _ _ _ _ _ _ r9 _ _ _ _ _ _ => Row.rec (motive := fun _ => AV) (fun _ _ _ _ _ _ _ _ _ _ b10 _ _ _ _ _ => b10) r9) x) t
noncomputable def e9_11 : GT := fun t => Fm.rec (motive := fun _ => AV) (fun _ _ _ _ _ _ _ _ x => T2.rec (motive := fun _ => AV) (fun _ _ _ _ _ _ _ _ _ r9 _ _ _ _ _ _ => Row.rec (motive := fun _ => AV) (fun _ _ _ _ _ _ _ _ _ _ _ b11 _ _ _ _ => b11) r9) x) t
noncomputable def e9_12 : GT := fun t => Fm.rec (motive := fun _ => AV) (fun _ _ _ _ _ _ _ _ x => T2.rec (motive := fun _ => AV) (fun _ _ _ _ _ _ _ _ _ r9 _ _ _ _ _ _ => Row.rec (motive := fun _ => AV) (fun _ _ _ _ _ _ _ _ _ _ _ _ b12 _ _ _ => b12) r9) x) t
noncomputable def e9_13 : GT := fun t => Fm.rec (motive := fun _ => AV) (fun _ _ _ _ _ _ _ _ x => T2.rec (motive := fun _ => AV) (fun _ _ _ _ _ _ _ _ _ r9 _ _ _ _ _ _ => Row.rec (motive := fun _ => AV) (fun _ _ _ _ _ _ _ _ _ _ _ _ _ b13 _ _ => b13) r9) x) t
noncomputable def e9_14 : GT := fun t => Fm.rec (motive := fun _ => AV) (fun _ _ _ _ _ _ _ _ x => T2.rec (motive := fun _ => AV) (fun _ _ _ _ _ _ _ _ _ r9 _ _ _ _ _ _ => Row.rec (motive := fun _ => AV) (fun _ _ _ _ _ _ _ _ _ _ _ _ _ _ b14 _ => b14) r9) x) t
noncomputable def e9_15 : GT := fun t => Fm.rec (motive := fun _ => AV) (fun _ _ _ _ _ _ _ _ x => T2.rec (motive := fun _ => AV) (fun _ _ _ _ _ _ _ _ _ r9 _ _ _ _ _ _ => Row.rec (motive := fun _ => AV) (fun _ _ _ _ _ _ _ _ _ _ _ _ _ _ _ b15 => b15) r9) x) t
noncomputable def e10_0 : GT := fun t => Fm.rec (motive := fun _ => AV) (fun _ _ _ _ _ _ _ _ x => T2.rec (motive := fun _ => AV) (fun _ _ _ _ _ _ _ _ _ _ r10 _ _ _ _ _ => Row.rec (motive := fun _ => AV) (fun b0 _ _ _ _ _ _ _ _ _ _ _ _ _ _ _ => b0) r10) x) t
noncomputable def e10_1 : GT := fun t => Fm.rec (motive := fun _ => AV) (fun _ _ _ _ _ _ _ _ x => T2.rec (motive := fun _ => AV) (fun _ _ _ _ _ _ _ _ _ _ r10 _ _ _ _ _ => Row.rec (motive := fun _ => AV) (fun _ b1 _ _ _ _ _ _ _ _ _ _ _ _ _ _ => b1) r10) x) t
noncomputable def e10_2 : GT := fun t => Fm.rec (motive := fun _ => AV) (fun _ _ _ _ _ _ _ _ x => T2.rec (motive := fun _ => AV) (fun _ _ _ _ _ _ _ _ _ _ r10 _ _ _ _ _ => Row.rec (motive := fun _ => AV) (fun _ _ b2 _ _ _ _ _ _ _ _ _ _ _ _ _ => b2) r10) x) t
noncomputable def e10_3 : GT := fun t => Fm.rec (motive := fun _ => AV) (fun _ _ _ _ _ _ _ _ x => T2.rec (motive := fun _ => AV) (fun _ _ _ _ _ _ _ _ _ _ r10 _ _ _ _ _ => Row.rec (motive := fun _ => AV) (fun _ _ _ b3 _ _ _ _ _ _ _ _ _ _ _ _ => b3) r10) x) t
noncomputable def e10_4 : GT := fun t => Fm.rec (motive := fun _ => AV) (fun _ _ _ _ _ _ _ _ x => T2.rec (motive := fun _ => AV) (fun _ _ _ _ _ _ _ _ _ _ r10 _ _ _ _ _ => Row.rec (motive := fun _ => AV) (fun _ _ _ _ b4 _ _ _ _ _ _ _ _ _ _ _ => b4) r10) x) t
noncomputable def e10_5 : GT := fun t => Fm.rec (motive := fun _ => AV) (fun _ _ _ _ _ _ _ _ x => T2.rec (motive := fun _ => AV) (fun _ _ _ _ _ _ _ _ _ _ r10 _ _ _ _ _ => Row.rec (motive := fun _ => AV) (fun _ _ _ _ _ b5 _ _ _ _ _ _ _ _ _ _ => b5) r10) x) t
noncomputable def e10_6 : GT := fun t => Fm.rec (motive := fun _ => AV) (fun _ _ _ _ _ _ _ _ x => T2.rec (motive := fun _ => AV) (fun _ _ _ _ _ _ _ _ _ _ r10 _ _ _ _ _ => Row.rec (motive := fun _ => AV) (fun _ _ _ _ _ _ b6 _ _ _ _ _ _ _ _ _ => b6) r10) x) t
noncomputable def e10_7 : GT := fun t => Fm.rec (motive := fun _ => AV) (fun _ _ _ _ _ _ _ _ x => T2.rec (motive := fun _ => AV) (fun _ _ _ _ _ _ _ _ _ _ r10 _ _ _ _ _ => Row.rec (motive := fun _ => AV) (fun _ _ _ _ _ _ _ b7 _ _ _ _ _ _ _ _ => b7) r10) x) t
noncomputable def e10_8 : GT := fun t => Fm.rec (motive := fun _ => AV) (fun _ _ _ _ _ _ _ _ x => T2.rec (motive := fun _ => AV) (fun _ _ _ _ _ _ _ _ _ _ r10 _ _ _ _ _ => Row.rec (motive := fun _ => AV) (fun _ _ _ _ _ _ _ _ b8 _ _ _ _ _ _ _ => b8) r10) x) t
noncomputable def e10_9 : GT := fun t => Fm.rec (motive := fun _ => AV) (fun _ _ _ _ _ _ _ _ x => T2.rec (motive := fun _ => AV) (fun _ _ _ _ _ _ _ _ _ _ r10 _ _ _ _ _ => Row.rec (motive := fun _ => AV) (fun _ _ _ _ _ _ _ _ _ b9 _ _ _ _ _ _ => b9) r10) x) t
noncomputable def e10_10 : GT := fun t => Fm.rec (motive := fun _ => AV) (fun _ _ _ _ _ _ _ _ x => T2.rec (motive := fun _ => AV) (fun _ _ _ _ _ _ _ _ _ _ r10 _ _ _ _ _ => Row.rec (motive := fun _ => AV) (fun _ _ _ _ _ _ _ _ _ _ b10 _ _ _ _ _ => b10) r10) x) t
noncomputable def e10_11 : GT := fun t => Fm.rec (motive := fun _ => AV) (fun _ _ _ _ _ _ _ _ x => T2.rec (motive := fun _ => AV) (fun _ _ _ _ _ _ _ _ _ _ r10 _ _ _ _ _ => Row.rec (motive := fun _ => AV) (fun _ _ _ _ _ _ _ _ _ _ _ b11 _ _ _ _ => b11) r10) x) t
noncomputable def e10_12 : GT := fun t => Fm.rec (motive := fun _ => AV) (fun _ _ _ _ _ _ _ _ x => T2.rec (motive := fun _ => AV) (fun _ _ _ _ _ _ _ _ _ _ r10 _ _ _ _ _ => Row.rec (motive := fun _ => AV) (fun _ _ _ _ _ _ _ _ _ _ _ _ b12 _ _ _ => b12) r10) x) t
noncomputable def e10_13 : GT := fun t => Fm.rec (motive := fun _ => AV) (fun _ _ _ _ _ _ _ _ x => T2.rec (motive := fun _ => AV) (fun _ _ _ _ _ _ _ _ _ _ r10 _ _ _ _ _ => Row.rec (motive := fun _ => AV) (fun _ _ _ _ _ _ _ _ _ _ _ _ _ b13 _ _ => b13) r10) x) t
noncomputable def e10_14 : GT := fun t => Fm.rec (motive := fun _ => AV) (fun _ _ _ _ _ _ _ _ x => T2.rec (motive := fun _ => AV) (fun _ _ _ _ _ _ _ _ _ _ r10 _ _ _ _ _ => Row.rec (motive := fun _ => AV) (fun _ _ _ _ _ _ _ _ _ _ _ _ _ _ b14 _ => b14) r10) x) t
noncomputable def e10_15 : GT := fun t => Fm.rec (motive := fun _ => AV) (fun _ _ _ _ _ _ _ _ x => T2.rec (motive := fun _ => AV) (fun _ _ _ _ _ _ _ _ _ _ r10 _ _ _ _ _ => Row.rec (motive := fun _ => AV) (fun _ _ _ _ _ _ _ _ _ _ _ _ _ _ _ b15 => b15) r10) x) t
noncomputable def e11_0 : GT := fun t => Fm.rec (motive := fun _ => AV) (fun _ _ _ _ _ _ _ _ x => T2.rec (motive := fun _ => AV) (fun _ _ _ _ _ _ _ _ _ _ _ r11 _ _ _ _ => Row.rec (motive := fun _ => AV) (fun b0 _ _ _ _ _ _ _ _ _ _ _ _ _ _ _ => b0) r11) x) t
noncomputable def e11_1 : GT := fun t => Fm.rec (motive := fun _ => AV) (fun _ _ _ _ _ _ _ _ x => T2.rec (motive := fun _ => AV) (fun _ _ _ _ _ _ _ _ _ _ _ r11 _ _ _ _ => Row.rec (motive := fun _ => AV) (fun _ b1 _ _ _ _ _ _ _ _ _ _ _ _ _ _ => b1) r11) x) t
noncomputable def e11_2 : GT := fun t => Fm.rec (motive := fun _ => AV) (fun _ _ _ _ _ _ _ _ x => T2.rec (motive := fun _ => AV) (fun _ _ _ _ _ _ _ _ _ _ _ r11 _ _ _ _ => Row.rec (motive := fun _ => AV) (fun _ _ b2 _ _ _ _ _ _ _ _ _ _ _ _ _ => b2) r11) x) t
noncomputable def e11_3 : GT := fun t => Fm.rec (motive := fun _ => AV) (fun _ _ _ _ _ _ _ _ x => T2.rec (motive := fun _ => AV) (fun _ _ _ _ _ _ _ _ _ _ _ r11 _ _ _ _ => Row.rec (motive := fun _ => AV) (fun _ _ _ b3 _ _ _ _ _ _ _ _ _ _ _ _ => b3) r11) x) t
noncomputable def e11_4 : GT := fun t => Fm.rec (motive := fun _ => AV) (fun _ _ _ _ _ _ _ _ x => T2.rec (motive := fun _ => AV) (fun _ _ _ _ _ _ _ _ _ _ _ r11 _ _ _ _ => Row.rec (motive := fun _ => AV) (fun _ _ _ _ b4 _ _ _ _ _ _ _ _ _ _ _ => b4) r11) x) t
noncomputable def e11_5 : GT := fun t => Fm.rec (motive := fun _ => AV) (fun _ _ _ _ _ _ _ _ x => T2.rec (motive := fun _ => AV) (fun _ _ _ _ _ _ _ _ _ _ _ r11 _ _ _ _ => Row.rec (motive := fun _ => AV) (fun _ _ _ _ _ b5 _ _ _ _ _ _ _ _ _ _ => b5) r11) x) t
noncomputable def e11_6 : GT := fun t => Fm.rec (motive := fun _ => AV) (fun _ _ _ _ _ _ _ _ x => T2.rec (motive := fun _ => AV) (fun _ _ _ _ _ _ _ _ _ _ _ r11 _ _ _ _ => Row.rec (motive := fun _ => AV) (fun _ _ _ _ _ _ b6 _ _ _ _ _ _ _ _ _ => b6) r11) x) t
noncomputable def e11_7 : GT := fun t => Fm.rec (motive := fun _ => AV) (fun _ _ _ _ _ _ _ _ x => T2.rec (motive := fun _ => AV) (fun _ _ _ _ _ _ _ _ _ _ _ r11 _ _ _ _ => Row.rec (motive := fun _ => AV) (fun _ _ _ _ _ _ _ b7 _ _ _ _ _ _ _ _ => b7) r11) x) t
noncomputable def e11_8 : GT := fun t => Fm.rec (motive := fun _ => AV) (fun _ _ _ _ _ _ _ _ x => T2.rec (motive := fun _ => AV) (fun _ _ _ _ _ _ _ _ _ _ _ r11 _ _ _ _ => Row.rec (motive := fun _ => AV) (fun _ _ _ _ _ _ _ _ b8 _ _ _ _ _ _ _ => b8) r11) x) t
noncomputable def e11_9 : GT := fun t => Fm.rec (motive := fun _ => AV) (fun _ _ _ _ _ _ _ _ x => T2.rec (motive := fun _ => AV) (fun _ _ _ _ _ _ _ _ _ _ _ r11 _ _ _ _ => Row.rec (motive := fun _ => AV) (fun _ _ _ _ _ _ _ _ _ b9 _ _ _ _ _ _ => b9) r11) x) t
noncomputable def e11_10 : GT := fun t => Fm.rec (motive := fun _ => AV) (fun _ _ _ _ _ _ _ _ x => T2.rec (motive := fun _ => AV) (fun _ _ _ _ _ _ _ _ _ _ _ r11 _ _ _ _ => Row.rec (motive := fun _ => AV) (fun _ _ _ _ _ _ _ _ _ _ b10 _ _ _ _ _ => b10) r11) x) t
noncomputable def e11_11 : GT := fun t => Fm.rec (motive := fun _ => AV) (fun _ _ _ _ _ _ _ _ x => T2.rec (motive := fun _ => AV) (fun _ _ _ _ _ _ _ _ _ _ _ r11 _ _ _ _ => Row.rec (motive := fun _ => AV) (fun _ _ _ _ _ _ _ _ _ _ _ b11 _ _ _ _ => b11) r11) x) t
noncomputable def e11_12 : GT := fun t => Fm.rec (motive := fun _ => AV) (fun _ _ _ _ _ _ _ _ x => T2.rec (motive := fun _ => AV) (fun _ _ _ _ _ _ _ _ _ _ _ r11 _ _ _ _ => Row.rec (motive := fun _ => AV) (fun _ _ _ _ _ _ _ _ _ _ _ _ b12 _ _ _ => b12) r11) x) t
noncomputable def e11_13 : GT := fun t => Fm.rec (motive := fun _ => AV) (fun _ _ _ _ _ _ _ _ x => T2.rec (motive := fun _ => AV) (fun _ _ _ _ _ _ _ _ _ _ _ r11 _ _ _ _ => Row.rec (motive := fun _ => AV) (fun _ _ _ _ _ _ _ _ _ _ _ _ _ b13 _ _ => b13) r11) x) t
noncomputable def e11_14 : GT := fun t => Fm.rec (motive := fun _ => AV) (fun _ _ _ _ _ _ _ _ x => T2.rec (motive := fun _ => AV) (fun _ _ _ _ _ _ _ _ _ _ _ r11 _ _ _ _ => Row.rec (motive := fun _ => AV) (fun _ _ _ _ _ _ _ _ _ _ _ _ _ _ b14 _ => b14) r11) x) t
noncomputable def e11_15 : GT := fun t => Fm.rec (motive := fun _ => AV) (fun _ _ _ _ _ _ _ _ x => T2.rec (motive := fun _ => AV) (fun _ _ _ _ _ _ _ _ _ _ _ r11 _ _ _ _ => Row.rec (motive := fun _ => AV) (fun _ _ _ _ _ _ _ _ _ _ _ _ _ _ _ b15 => b15) r11) x) t
noncomputable def e12_0 : GT := fun t => Fm.rec (motive := fun _ => AV) (fun _ _ _ _ _ _ _ _ x => T2.rec (motive := fun _ => AV) (fun _ _ _ _ _ _ _ _ _ _ _ _ r12 _ _ _ => Row.rec (motive := fun _ => AV) (fun b0 _ _ _ _ _ _ _ _ _ _ _ _ _ _ _ => b0) r12) x) t
noncomputable def e12_1 : GT := fun t => Fm.rec (motive := fun _ => AV) (fun _ _ _ _ _ _ _ _ x => T2.rec (motive := fun _ => AV) (fun _ _ _ _ _ _ _ _ _ _ _ _ r12 _ _ _ => Row.rec (motive := fun _ => AV) (fun _ b1 _ _ _ _ _ _ _ _ _ _ _ _ _ _ => b1) r12) x) t
noncomputable def e12_2 : GT := fun t => Fm.rec (motive := fun _ => AV) (fun _ _ _ _ _ _ _ _ x => T2.rec (motive := fun _ => AV) (fun _ _ _ _ _ _ _ _ _ _ _ _ r12 _ _ _ => Row.rec (motive := fun _ => AV) (fun _ _ b2 _ _ _ _ _ _ _ _ _ _ _ _ _ => b2) r12) x) t
noncomputable def e12_3 : GT := fun t => Fm.rec (motive := fun _ => AV) (fun _ _ _ _ _ _ _ _ x => T2.rec (motive := fun _ => AV) (fun _ _ _ _ _ _ _ _ _ _ _ _ r12 _ _ _ => Row.rec (motive := fun _ => AV) (fun _ _ _ b3 _ _ _ _ _ _ _ _ _ _ _ _ => b3) r12) x) t
noncomputable def e12_4 : GT := fun t => Fm.rec (motive := fun _ => AV) (fun _ _ _ _ _ _ _ _ x => T2.rec (motive := fun _ => AV) (fun _ _ _ _ _ _ _ _ _ _ _ _ r12 _ _ _ => Row.rec (motive := fun _ => AV) (fun _ _ _ _ b4 _ _ _ _ _ _ _ _ _ _ _ => b4) r12) x) t
noncomputable def e12_5 : GT := fun t => Fm.rec (motive := fun _ => AV) (fun _ _ _ _ _ _ _ _ x => T2.rec (motive := fun _ => AV) (fun _ _ _ _ _ _ _ _ _ _ _ _ r12 _ _ _ => Row.rec (motive := fun _ => AV) (fun _ _ _ _ _ b5 _ _ _ _ _ _ _ _ _ _ => b5) r12) x) t
noncomputable def e12_6 : GT := fun t => Fm.rec (motive := fun _ => AV) (fun _ _ _ _ _ _ _ _ x => T2.rec (motive := fun _ => AV) (fun _ _ _ _ _ _ _ _ _ _ _ _ r12 _ _ _ => Row.rec (motive := fun _ => AV) (fun _ _ _ _ _ _ b6 _ _ _ _ _ _ _ _ _ => b6) r12) x) t
noncomputable def e12_7 : GT := fun t => Fm.rec (motive := fun _ => AV) (fun _ _ _ _ _ _ _ _ x => T2.rec (motive := fun _ => AV) (fun _ _ _ _ _ _ _ _ _ _ _ _ r12 _ _ _ => Row.rec (motive := fun _ => AV) (fun _ _ _ _ _ _ _ b7 _ _ _ _ _ _ _ _ => b7) r12) x) t
noncomputable def e12_8 : GT := fun t => Fm.rec (motive := fun _ => AV) (fun _ _ _ _ _ _ _ _ x => T2.rec (motive := fun _ => AV) (fun _ _ _ _ _ _ _ _ _ _ _ _ r12 _ _ _ => Row.rec (motive := fun _ => AV) (fun _ _ _ _ _ _ _ _ b8 _ _ _ _ _ _ _ => b8) r12) x) t
noncomputable def e12_9 : GT := fun t => Fm.rec (motive := fun _ => AV) (fun _ _ _ _ _ _ _ _ x => T2.rec (motive := fun _ => AV) (fun _ _ _ _ _ _ _ _ _ _ _ _ r12 _ _ _ => Row.rec (motive := fun _ => AV) (fun _ _ _ _ _ _ _ _ _ b9 _ _ _ _ _ _ => b9) r12) x) t
noncomputable def e12_10 : GT := fun t => Fm.rec (motive := fun _ => AV) (fun _ _ _ _ _ _ _ _ x => T2.rec (motive := fun _ => AV) (fun _ _ _ _ _ _ _ _ _ _ _ _ r12 _ _ _ => Row.rec (motive := fun _ => AV) (fun _ _ _ _ _ _ _ _ _ _ b10 _ _ _ _ _ => b10) r12) x) t
noncomputable def e12_11 : GT := fun t => Fm.rec (motive := fun _ => AV) (fun _ _ _ _ _ _ _ _ x => T2.rec (motive := fun _ => AV) (fun _ _ _ _ _ _ _ _ _ _ _ _ r12 _ _ _ => Row.rec (motive := fun _ => AV) (fun _ _ _ _ _ _ _ _ _ _ _ b11 _ _ _ _ => b11) r12) x) t
noncomputable def e12_12 : GT := fun t => Fm.rec (motive := fun _ => AV) (fun _ _ _ _ _ _ _ _ x => T2.rec (motive := fun _ => AV) (fun _ _ _ _ _ _ _ _ _ _ _ _ r12 _ _ _ => Row.rec (motive := fun _ => AV) (fun _ _ _ _ _ _ _ _ _ _ _ _ b12 _ _ _ => b12) r12) x) t
noncomputable def e12_13 : GT := fun t => Fm.rec (motive := fun _ => AV) (fun _ _ _ _ _ _ _ _ x => T2.rec (motive := fun _ => AV) (fun _ _ _ _ _ _ _ _ _ _ _ _ r12 _ _ _ => Row.rec (motive := fun _ => AV) (fun _ _ _ _ _ _ _ _ _ _ _ _ _ b13 _ _ => b13) r12) x) t
noncomputable def e12_14 : GT := fun t => Fm.rec (motive := fun _ => AV) (fun _ _ _ _ _ _ _ _ x => T2.rec (motive := fun _ => AV) (fun _ _ _ _ _ _ _ _ _ _ _ _ r12 _ _ _ => Row.rec (motive := fun _ => AV) (fun _ _ _ _ _ _ _ _ _ _ _ _ _ _ b14 _ => b14) r12) x) t
noncomputable def e12_15 : GT := fun t => Fm.rec (motive := fun _ => AV) (fun _ _ _ _ _ _ _ _ x => T2.rec (motive := fun _ => AV) (fun _ _ _ _ _ _ _ _ _ _ _ _ r12 _ _ _ => Row.rec (motive := fun _ => AV) (fun _ _ _ _ _ _ _ _ _ _ _ _ _ _ _ b15 => b15) r12) x) t
noncomputable def e13_0 : GT := fun t => Fm.rec (motive := fun _ => AV) (fun _ _ _ _ _ _ _ _ x => T2.rec (motive := fun _ => AV) (fun _ _ _ _ _ _ _ _ _ _ _ _ _ r13 _ _ => Row.rec (motive := fun _ => AV) (fun b0 _ _ _ _ _ _ _ _ _ _ _ _ _ _ _ => b0) r13) x) t
noncomputable def e13_1 : GT := fun t => Fm.rec (motive := fun _ => AV) (fun _ _ _ _ _ _ _ _ x => T2.rec (motive := fun _ => AV) (fun _ _ _ _ _ _ _ _ _ _ _ _ _ r13 _ _ => Row.rec (motive := fun _ => AV) (fun _ b1 _ _ _ _ _ _ _ _ _ _ _ _ _ _ => b1) r13) x) t
noncomputable def e13_2 : GT := fun t => Fm.rec (motive := fun _ => AV) (fun _ _ _ _ _ _ _ _ x => T2.rec (motive := fun _ => AV) (fun _ _ _ _ _ _ _ _ _ _ _ _ _ r13 _ _ => Row.rec (motive := fun _ => AV) (fun _ _ b2 _ _ _ _ _ _ _ _ _ _ _ _ _ => b2) r13) x) t
noncomputable def e13_3 : GT := fun t => Fm.rec (motive := fun _ => AV) (fun _ _ _ _ _ _ _ _ x => T2.rec (motive := fun _ => AV) (fun _ _ _ _ _ _ _ _ _ _ _ _ _ r13 _ _ => Row.rec (motive := fun _ => AV) (fun _ _ _ b3 _ _ _ _ _ _ _ _ _ _ _ _ => b3) r13) x) t
noncomputable def e13_4 : GT := fun t => Fm.rec (motive := fun _ => AV) (fun _ _ _ _ _ _ _ _ x => T2.rec (motive := fun _ => AV) (fun _ _ _ _ _ _ _ _ _ _ _ _ _ r13 _ _ => Row.rec (motive := fun _ => AV) (fun _ _ _ _ b4 _ _ _ _ _ _ _ _ _ _ _ => b4) r13) x) t
noncomputable def e13_5 : GT := fun t => Fm.rec (motive := fun _ => AV) (fun _ _ _ _ _ _ _ _ x => T2.rec (motive := fun _ => AV) (fun _ _ _ _ _ _ _ _ _ _ _ _ _ r13 _ _ => Row.rec (motive := fun _ => AV) (fun _ _ _ _ _ b5 _ _ _ _ _ _ _ _ _ _ => b5) r13) x) t
noncomputable def e13_6 : GT := fun t => Fm.rec (motive := fun _ => AV) (fun _ _ _ _ _ _ _ _ x => T2.rec (motive := fun _ => AV) (fun _ _ _ _ _ _ _ _ _ _ _ _ _ r13 _ _ => Row.rec (motive := fun _ => AV) (fun _ _ _ _ _ _ b6 _ _ _ _ _ _ _ _ _ => b6) r13) x) t
noncomputable def e13_7 : GT := fun t => Fm.rec (motive := fun _ => AV) (fun _ _ _ _ _ _ _ _ x => T2.rec (motive := fun _ => AV) (fun _ _ _ _ _ _ _ _ _ _ _ _ _ r13 _ _ => Row.rec (motive := fun _ => AV) (fun _ _ _ _ _ _ _ b7 _ _ _ _ _ _ _ _ => b7) r13) x) t
noncomputable def e13_8 : GT := fun t => Fm.rec (motive := fun _ => AV) (fun _ _ _ _ _ _ _ _ x => T2.rec (motive := fun _ => AV) (fun _ _ _ _ _ _ _ _ _ _ _ _ _ r13 _ _ => Row.rec (motive := fun _ => AV) (fun _ _ _ _ _ _ _ _ b8 _ _ _ _ _ _ _ => b8) r13) x) t
noncomputable def e13_9 : GT := fun t => Fm.rec (motive := fun _ => AV) (fun _ _ _ _ _ _ _ _ x => T2.rec (motive := fun _ => AV) (fun _ _ _ _ _ _ _ _ _ _ _ _ _ r13 _ _ => Row.rec (motive := fun _ => AV) (fun _ _ _ _ _ _ _ _ _ b9 _ _ _ _ _ _ => b9) r13) x) t
noncomputable def e13_10 : GT := fun t => Fm.rec (motive := fun _ => AV) (fun _ _ _ _ _ _ _ _ x => T2.rec (motive := fun _ => AV) (fun _ _ _ _ _ _ _ _ _ _ _ _ _ r13 _ _ => Row.rec (motive := fun _ => AV) (fun _ _ _ _ _ _ _ _ _ _ b10 _ _ _ _ _ => b10) r13) x) t
noncomputable def e13_11 : GT := fun t => Fm.rec (motive := fun _ => AV) (fun _ _ _ _ _ _ _ _ x => T2.rec (motive := fun _ => AV) (fun _ _ _ _ _ _ _ _ _ _ _ _ _ r13 _ _ => Row.rec (motive := fun _ => AV) (fun _ _ _ _ _ _ _ _ _ _ _ b11 _ _ _ _ => b11) r13) x) t
noncomputable def e13_12 : GT := fun t => Fm.rec (motive := fun _ => AV) (fun _ _ _ _ _ _ _ _ x => T2.rec (motive := fun _ => AV) (fun _ _ _ _ _ _ _ _ _ _ _ _ _ r13 _ _ => Row.rec (motive := fun _ => AV) (fun _ _ _ _ _ _ _ _ _ _ _ _ b12 _ _ _ => b12) r13) x) t
noncomputable def e13_13 : GT := fun t => Fm.rec (motive := fun _ => AV) (fun _ _ _ _ _ _ _ _ x => T2.rec (motive := fun _ => AV) (fun _ _ _ _ _ _ _ _ _ _ _ _ _ r13 _ _ => Row.rec (motive := fun _ => AV) (fun _ _ _ _ _ _ _ _ _ _ _ _ _ b13 _ _ => b13) r13) x) t
noncomputable def e13_14 : GT := fun t => Fm.rec (motive := fun _ => AV) (fun _ _ _ _ _ _ _ _ x => T2.rec (motive := fun _ => AV) (fun _ _ _ _ _ _ _ _ _ _ _ _ _ r13 _ _ => Row.rec (motive := fun _ => AV) (fun _ _ _ _ _ _ _ _ _ _ _ _ _ _ b14 _ => b14) r13) x) t
noncomputable def e13_15 : GT := fun t => Fm.rec (motive := fun _ => AV) (fun _ _ _ _ _ _ _ _ x => T2.rec (motive := fun _ => AV) (fun _ _ _ _ _ _ _ _ _ _ _ _ _ r13 _ _ => Row.rec (motive := fun _ => AV) (fun _ _ _ _ _ _ _ _ _ _ _ _ _ _ _ b15 => b15) r13) x) t
noncomputable def e14_0 : GT := fun t => Fm.rec (motive := fun _ => AV) (fun _ _ _ _ _ _ _ _ x => T2.rec (motive := fun _ => AV) (fun _ _ _ _ _ _ _ _ _ _ _ _ _ _ r14 _ => Row.rec (motive := fun _ => AV) (fun b0 _ _ _ _ _ _ _ _ _ _ _ _ _ _ _ => b0) r14) x) t
noncomputable def e14_1 : GT := fun t => Fm.rec (motive := fun _ => AV) (fun _ _ _ _ _ _ _ _ x => T2.rec (motive := fun _ => AV) (fun _ _ _ _ _ _ _ _ _ _ _ _ _ _ r14 _ => Row.rec (motive := fun _ => AV) (fun _ b1 _ _ _ _ _ _ _ _ _ _ _ _ _ _ => b1) r14) x) t
noncomputable def e14_2 : GT := fun t => Fm.rec (motive := fun _ => AV) (fun _ _ _ _ _ _ _ _ x => T2.rec (motive := fun _ => AV) (fun _ _ _ _ _ _ _ _ _ _ _ _ _ _ r14 _ => Row.rec (motive := fun _ => AV) (fun _ _ b2 _ _ _ _ _ _ _ _ _ _ _ _ _ => b2) r14) x) t
noncomputable def e14_3 : GT := fun t => Fm.rec (motive := fun _ => AV) (fun _ _ _ _ _ _ _ _ x => T2.rec (motive := fun _ => AV) (fun _ _ _ _ _ _ _ _ _ _ _ _ _ _ r14 _ => Row.rec (motive := fun _ => AV) (fun _ _ _ b3 _ _ _ _ _ _ _ _ _ _ _ _ => b3) r14) x) t
noncomputable def e14_4 : GT := fun t => Fm.rec (motive := fun _ => AV) (fun _ _ _ _ _ _ _ _ x => T2.rec (motive := fun _ => AV) (fun _ _ _ _ _ _ _ _ _ _ _ _ _ _ r14 _ => Row.rec (motive := fun _ => AV) (fun _ _ _ _ b4 _ _ _ _ _ _ _ _ _ _ _ => b4) r14) x) t
noncomputable def e14_5 : GT := fun t => Fm.rec (motive := fun _ => AV) (fun _ _ _ _ _ _ _ _ x => T2.rec (motive := fun _ => AV) (fun _ _ _ _ _ _ _ _ _ _ _ _ _ _ r14 _ => Row.rec (motive := fun _ => AV) (fun _ _ _ _ _ b5 _ _ _ _ _ _ _ _ _ _ => b5) r14) x) t
noncomputable def e14_6 : GT := fun t => Fm.rec (motive := fun _ => AV) (fun _ _ _ _ _ _ _ _ x => T2.rec (motive := fun _ => AV) (fun _ _ _ _ _ _ _ _ _ _ _ _ _ _ r14 _ => Row.rec (motive := fun _ => AV) (fun _ _ _ _ _ _ b6 _ _ _ _ _ _ _ _ _ => b6) r14) x) t
noncomputable def e14_7 : GT := fun t => Fm.rec (motive := fun _ => AV) (fun _ _ _ _ _ _ _ _ x => T2.rec (motive := fun _ => AV) (fun _ _ _ _ _ _ _ _ _ _ _ _ _ _ r14 _ => Row.rec (motive := fun _ => AV) (fun _ _ _ _ _ _ _ b7 _ _ _ _ _ _ _ _ => b7) r14) x) t
noncomputable def e14_8 : GT := fun t => Fm.rec (motive := fun _ => AV) (fun _ _ _ _ _ _ _ _ x => T2.rec (motive := fun _ => AV) (fun _ _ _ _ _ _ _ _ _ _ _ _ _ _ r14 _ => Row.rec (motive := fun _ => AV) (fun _ _ _ _ _ _ _ _ b8 _ _ _ _ _ _ _ => b8) r14) x) t
noncomputable def e14_9 : GT := fun t => Fm.rec (motive := fun _ => AV) (fun _ _ _ _ _ _ _ _ x => T2.rec (motive := fun _ => AV) (fun _ _ _ _ _ _ _ _ _ _ _ _ _ _ r14 _ => Row.rec (motive := fun _ => AV) (fun _ _ _ _ _ _ _ _ _ b9 _ _ _ _ _ _ => b9) r14) x) t
noncomputable def e14_10 : GT := fun t => Fm.rec (motive := fun _ => AV) (fun _ _ _ _ _ _ _ _ x => T2.rec (motive := fun _ => AV) (fun _ _ _ _ _ _ _ _ _ _ _ _ _ _ r14 _ => Row.rec (motive := fun _ => AV) (fun _ _ _ _ _ _ _ _ _ _ b10 _ _ _ _ _ => b10) r14) x) t
noncomputable def e14_11 : GT := fun t => Fm.rec (motive := fun _ => AV) (fun _ _ _ _ _ _ _ _ x => T2.rec (motive := fun _ => AV) (fun _ _ _ _ _ _ _ _ _ _ _ _ _ _ r14 _ => Row.rec (motive := fun _ => AV) (fun _ _ _ _ _ _ _ _ _ _ _ b11 _ _ _ _ => b11) r14) x) t
noncomputable def e14_12 : GT := fun t => Fm.rec (motive := fun _ => AV) (fun _ _ _ _ _ _ _ _ x => T2.rec (motive := fun _ => AV) (fun _ _ _ _ _ _ _ _ _ _ _ _ _ _ r14 _ => Row.rec (motive := fun _ => AV) (fun _ _ _ _ _ _ _ _ _ _ _ _ b12 _ _ _ => b12) r14) x) t
noncomputable def e14_13 : GT := fun t => Fm.rec (motive := fun _ => AV) (fun _ _ _ _ _ _ _ _ x => T2.rec (motive := fun _ => AV) (fun _ _ _ _ _ _ _ _ _ _ _ _ _ _ r14 _ => Row.rec (motive := fun _ => AV) (fun _ _ _ _ _ _ _ _ _ _ _ _ _ b13 _ _ => b13) r14) x) t
noncomputable def e14_14 : GT := fun t => Fm.rec (motive := fun _ => AV) (fun _ _ _ _ _ _ _ _ x => T2.rec (motive := fun _ => AV) (fun _ _ _ _ _ _ _ _ _ _ _ _ _ _ r14 _ => Row.rec (motive := fun _ => AV) (fun _ _ _ _ _ _ _ _ _ _ _ _ _ _ b14 _ => b14) r14) x) t
noncomputable def e14_15 : GT := fun t => Fm.rec (motive := fun _ => AV) (fun _ _ _ _ _ _ _ _ x => T2.rec (motive := fun _ => AV) (fun _ _ _ _ _ _ _ _ _ _ _ _ _ _ r14 _ => Row.rec (motive := fun _ => AV) (fun _ _ _ _ _ _ _ _ _ _ _ _ _ _ _ b15 => b15) r14) x) t
noncomputable def e15_0 : GT := fun t => Fm.rec (motive := fun _ => AV) (fun _ _ _ _ _ _ _ _ x => T2.rec (motive := fun _ => AV) (fun _ _ _ _ _ _ _ _ _ _ _ _ _ _ _ r15 => Row.rec (motive := fun _ => AV) (fun b0 _ _ _ _ _ _ _ _ _ _ _ _ _ _ _ => b0) r15) x) t
noncomputable def e15_1 : GT := fun t => Fm.rec (motive := fun _ => AV) (fun _ _ _ _ _ _ _ _ x => T2.rec (motive := fun _ => AV) (fun _ _ _ _ _ _ _ _ _ _ _ _ _ _ _ r15 => Row.rec (motive := fun _ => AV) (fun _ b1 _ _ _ _ _ _ _ _ _ _ _ _ _ _ => b1) r15) x) t
noncomputable def e15_2 : GT := fun t => Fm.rec (motive := fun _ => AV) (fun _ _ _ _ _ _ _ _ x => T2.rec (motive := fun _ => AV) (fun _ _ _ _ _ _ _ _ _ _ _ _ _ _ _ r15 => Row.rec (motive := fun _ => AV) (fun _ _ b2 _ _ _ _ _ _ _ _ _ _ _ _ _ => b2) r15) x) t
noncomputable def e15_3 : GT := fun t => Fm.rec (motive := fun _ => AV) (fun _ _ _ _ _ _ _ _ x => T2.rec (motive := fun _ => AV) (fun _ _ _ _ _ _ _ _ _ _ _ _ _ _ _ r15 => Row.rec (motive := fun _ => AV) (fun _ _ _ b3 _ _ _ _ _ _ _ _ _ _ _ _ => b3) r15) x) t
noncomputable def e15_4 : GT := fun t => Fm.rec (motive := fun _ => AV) (fun _ _ _ _ _ _ _ _ x => T2.rec (motive := fun _ => AV) (fun _ _ _ _ _ _ _ _ _ _ _ _ _ _ _ r15 => Row.rec (motive := fun _ => AV) (fun _ _ _ _ b4 _ _ _ _ _ _ _ _ _ _ _ => b4) r15) x) t
noncomputable def e15_5 : GT := fun t => Fm.rec (motive := fun _ => AV) (fun _ _ _ _ _ _ _ _ x => T2.rec (motive := fun _ => AV) (fun _ _ _ _ _ _ _ _ _ _ _ _ _ _ _ r15 => Row.rec (motive := fun _ => AV) (fun _ _ _ _ _ b5 _ _ _ _ _ _ _ _ _ _ => b5) r15) x) t
noncomputable def e15_6 : GT := fun t => Fm.rec (motive := fun _ => AV) (fun _ _ _ _ _ _ _ _ x => T2.rec (motive := fun _ => AV) (fun _ _ _ _ _ _ _ _ _ _ _ _ _ _ _ r15 => Row.rec (motive := fun _ => AV) (fun _ _ _ _ _ _ b6 _ _ _ _ _ _ _ _ _ => b6) r15) x) t
noncomputable def e15_7 : GT := fun t => Fm.rec (motive := fun _ => AV) (fun _ _ _ _ _ _ _ _ x => T2.rec (motive := fun _ => AV) (fun _ _ _ _ _ _ _ _ _ _ _ _ _ _ _ r15 => Row.rec (motive := fun _ => AV) (fun _ _ _ _ _ _ _ b7 _ _ _ _ _ _ _ _ => b7) r15) x) t
noncomputable def e15_8 : GT := fun t => Fm.rec (motive := fun _ => AV) (fun _ _ _ _ _ _ _ _ x => T2.rec (motive := fun _ => AV) (fun _ _ _ _ _ _ _ _ _ _ _ _ _ _ _ r15 => Row.rec (motive := fun _ => AV) (fun _ _ _ _ _ _ _ _ b8 _ _ _ _ _ _ _ => b8) r15) x) t
noncomputable def e15_9 : GT := fun t => Fm.rec (motive := fun _ => AV) (fun _ _ _ _ _ _ _ _ x => T2.rec (motive := fun _ => AV) (fun _ _ _ _ _ _ _ _ _ _ _ _ _ _ _ r15 => Row.rec (motive := fun _ => AV) (fun _ _ _ _ _ _ _ _ _ b9 _ _ _ _ _ _ => b9) r15) x) t
noncomputable def e15_10 : GT := fun t => Fm.rec (motive := fun _ => AV) (fun _ _ _ _ _ _ _ _ x => T2.rec (motive := fun _ => AV) (fun _ _ _ _ _ _ _ _ _ _ _ _ _ _ _ r15 => Row.rec (motive := fun _ => AV) (fun _ _ _ _ _ _ _ _ _ _ b10 _ _ _ _ _ => b10) r15) x) t
noncomputable def e15_11 : GT := fun t => Fm.rec (motive := fun _ => AV) (fun _ _ _ _ _ _ _ _ x => T2.rec (motive := fun _ => AV) (fun _ _ _ _ _ _ _ _ _ _ _ _ _ _ _ r15 => Row.rec (motive := fun _ => AV) (fun _ _ _ _ _ _ _ _ _ _ _ b11 _ _ _ _ => b11) r15) x) t
noncomputable def e15_12 : GT := fun t => Fm.rec (motive := fun _ => AV) (fun _ _ _ _ _ _ _ _ x => T2.rec (motive := fun _ => AV) (fun _ _ _ _ _ _ _ _ _ _ _ _ _ _ _ r15 => Row.rec (motive := fun _ => AV) (fun _ _ _ _ _ _ _ _ _ _ _ _ b12 _ _ _ => b12) r15) x) t
noncomputable def e15_13 : GT := fun t => Fm.rec (motive := fun _ => AV) (fun _ _ _ _ _ _ _ _ x => T2.rec (motive := fun _ => AV) (fun _ _ _ _ _ _ _ _ _ _ _ _ _ _ _ r15 => Row.rec (motive := fun _ => AV) (fun _ _ _ _ _ _ _ _ _ _ _ _ _ b13 _ _ => b13) r15) x) t
noncomputable def e15_14 : GT := fun t => Fm.rec (motive := fun _ => AV) (fun _ _ _ _ _ _ _ _ x => T2.rec (motive := fun _ => AV) (fun _ _ _ _ _ _ _ _ _ _ _ _ _ _ _ r15 => Row.rec (motive := fun _ => AV) (fun _ _ _ _ _ _ _ _ _ _ _ _ _ _ b14 _ => b14) r15) x) t
noncomputable def e15_15 : GT := fun t => Fm.rec (motive := fun _ => AV) (fun _ _ _ _ _ _ _ _ x => T2.rec (motive := fun _ => AV) (fun _ _ _ _ _ _ _ _ _ _ _ _ _ _ _ r15 => Row.rec (motive := fun _ => AV) (fun _ _ _ _ _ _ _ _ _ _ _ _ _ _ _ b15 => b15) r15) x) t
noncomputable def se0_0 : ST := fun t v k => Fm.rec (motive := fun _ => AV → (Fm → RR) → RR) (fun a0 a1 a2 a3 a4 a5 a6 a7 x v k => set2 .s0 .s0 x v fun x => k (.mk a0 a1 a2 a3 a4 a5 a6 a7 x)) t v k
noncomputable def se0_1 : ST := fun t v k => Fm.rec (motive := fun _ => AV → (Fm → RR) → RR) (fun a0 a1 a2 a3 a4 a5 a6 a7 x v k => set2 .s0 .s1 x v fun x => k (.mk a0 a1 a2 a3 a4 a5 a6 a7 x)) t v k
noncomputable def se0_2 : ST := fun t v k => Fm.rec (motive := fun _ => AV → (Fm → RR) → RR) (fun a0 a1 a2 a3 a4 a5 a6 a7 x v k => set2 .s0 .s2 x v fun x => k (.mk a0 a1 a2 a3 a4 a5 a6 a7 x)) t v k
noncomputable def se0_3 : ST := fun t v k => Fm.rec (motive := fun _ => AV → (Fm → RR) → RR) (fun a0 a1 a2 a3 a4 a5 a6 a7 x v k => set2 .s0 .s3 x v fun x => k (.mk a0 a1 a2 a3 a4 a5 a6 a7 x)) t v k
noncomputable def se0_4 : ST := fun t v k => Fm.rec (motive := fun _ => AV → (Fm → RR) → RR) (fun a0 a1 a2 a3 a4 a5 a6 a7 x v k => set2 .s0 .s4 x v fun x => k (.mk a0 a1 a2 a3 a4 a5 a6 a7 x)) t v k
noncomputable def se0_5 : ST := fun t v k => Fm.rec (motive := fun _ => AV → (Fm → RR) → RR) (fun a0 a1 a2 a3 a4 a5 a6 a7 x v k => set2 .s0 .s5 x v fun x => k (.mk a0 a1 a2 a3 a4 a5 a6 a7 x)) t v k
noncomputable def se0_6 : ST := fun t v k => Fm.rec (motive := fun _ => AV → (Fm → RR) → RR) (fun a0 a1 a2 a3 a4 a5 a6 a7 x v k => set2 .s0 .s6 x v fun x => k (.mk a0 a1 a2 a3 a4 a5 a6 a7 x)) t v k
noncomputable def se0_7 : ST := fun t v k => Fm.rec (motive := fun _ => AV → (Fm → RR) → RR) (fun a0 a1 a2 a3 a4 a5 a6 a7 x v k => set2 .s0 .s7 x v fun x => k (.mk a0 a1 a2 a3 a4 a5 a6 a7 x)) t v k
noncomputable def se0_8 : ST := fun t v k => Fm.rec (motive := fun _ => AV → (Fm → RR) → RR) (fun a0 a1 a2 a3 a4 a5 a6 a7 x v k => set2 .s0 .s8 x v fun x => k (.mk a0 a1 a2 a3 a4 a5 a6 a7 x)) t v k
noncomputable def se0_9 : ST := fun t v k => Fm.rec (motive := fun _ => AV → (Fm → RR) → RR) (fun a0 a1 a2 a3 a4 a5 a6 a7 x v k => set2 .s0 .s9 x v fun x => k (.mk a0 a1 a2 a3 a4 a5 a6 a7 x)) t v k
noncomputable def se0_10 : ST := fun t v k => Fm.rec (motive := fun _ => AV → (Fm → RR) → RR) (fun a0 a1 a2 a3 a4 a5 a6 a7 x v k => set2 .s0 .s10 x v fun x => k (.mk a0 a1 a2 a3 a4 a5 a6 a7 x)) t v k
noncomputable def se0_11 : ST := fun t v k => Fm.rec (motive := fun _ => AV → (Fm → RR) → RR) (fun a0 a1 a2 a3 a4 a5 a6 a7 x v k => set2 .s0 .s11 x v fun x => k (.mk a0 a1 a2 a3 a4 a5 a6 a7 x)) t v k
noncomputable def se0_12 : ST := fun t v k => Fm.rec (motive := fun _ => AV → (Fm → RR) → RR) (fun a0 a1 a2 a3 a4 a5 a6 a7 x v k => set2 .s0 .s12 x v fun x => k (.mk a0 a1 a2 a3 a4 a5 a6 a7 x)) t v k
noncomputable def se0_13 : ST := fun t v k => Fm.rec (motive := fun _ => AV → (Fm → RR) → RR) (fun a0 a1 a2 a3 a4 a5 a6 a7 x v k => set2 .s0 .s13 x v fun x => k (.mk a0 a1 a2 a3 a4 a5 a6 a7 x)) t v k
noncomputable def se0_14 : ST := fun t v k => Fm.rec (motive := fun _ => AV → (Fm → RR) → RR) (fun a0 a1 a2 a3 a4 a5 a6 a7 x v k => set2 .s0 .s14 x v fun x => k (.mk a0 a1 a2 a3 a4 a5 a6 a7 x)) t v k
noncomputable def se0_15 : ST := fun t v k => Fm.rec (motive := fun _ => AV → (Fm → RR) → RR) (fun a0 a1 a2 a3 a4 a5 a6 a7 x v k => set2 .s0 .s15 x v fun x => k (.mk a0 a1 a2 a3 a4 a5 a6 a7 x)) t v k
noncomputable def se1_0 : ST := fun t v k => Fm.rec (motive := fun _ => AV → (Fm → RR) → RR) (fun a0 a1 a2 a3 a4 a5 a6 a7 x v k => set2 .s1 .s0 x v fun x => k (.mk a0 a1 a2 a3 a4 a5 a6 a7 x)) t v k
noncomputable def se1_1 : ST := fun t v k => Fm.rec (motive := fun _ => AV → (Fm → RR) → RR) (fun a0 a1 a2 a3 a4 a5 a6 a7 x v k => set2 .s1 .s1 x v fun x => k (.mk a0 a1 a2 a3 a4 a5 a6 a7 x)) t v k
noncomputable def se1_2 : ST := fun t v k => Fm.rec (motive := fun _ => AV → (Fm → RR) → RR) (fun a0 a1 a2 a3 a4 a5 a6 a7 x v k => set2 .s1 .s2 x v fun x => k (.mk a0 a1 a2 a3 a4 a5 a6 a7 x)) t v k
noncomputable def se1_3 : ST := fun t v k => Fm.rec (motive := fun _ => AV → (Fm → RR) → RR) (fun a0 a1 a2 a3 a4 a5 a6 a7 x v k => set2 .s1 .s3 x v fun x => k (.mk a0 a1 a2 a3 a4 a5 a6 a7 x)) t v k
noncomputable def se1_4 : ST := fun t v k => Fm.rec (motive := fun _ => AV → (Fm → RR) → RR) (fun a0 a1 a2 a3 a4 a5 a6 a7 x v k => set2 .s1 .s4 x v fun x => k (.mk a0 a1 a2 a3 a4 a5 a6 a7 x)) t v k
noncomputable def se1_5 : ST := fun t v k => Fm.rec (motive := fun _ => AV → (Fm → RR) → RR) (fun a0 a1 a2 a3 a4 a5 a6 a7 x v k => set2 .s1 .s5 x v fun x => k (.mk a0 a1 a2 a3 a4 a5 a6 a7 x)) t v k
noncomputable def se1_6 : ST := fun t v k => Fm.rec (motive := fun _ => AV → (Fm → RR) → RR) (fun a0 a1 a2 a3 a4 a5 a6 a7 x v k => set2 .s1 .s6 x v fun x => k (.mk a0 a1 a2 a3 a4 a5 a6 a7 x)) t v k
noncomputable def se1_7 : ST := fun t v k => Fm.rec (motive := fun _ => AV → (Fm → RR) → RR) (fun a0 a1 a2 a3 a4 a5 a6 a7 x v k => set2 .s1 .s7 x v fun x => k (.mk a0 a1 a2 a3 a4 a5 a6 a7 x)) t v k
noncomputable def se1_8 : ST := fun t v k => Fm.rec (motive := fun _ => AV → (Fm → RR) → RR) (fun a0 a1 a2 a3 a4 a5 a6 a7 x v k => set2 .s1 .s8 x v fun x => k (.mk a0 a1 a2 a3 a4 a5 a6 a7 x)) t v k
noncomputable def se1_9 : ST := fun t v k => Fm.rec (motive := fun _ => AV → (Fm → RR) → RR) (fun a0 a1 a2 a3 a4 a5 a6 a7 x v k => set2 .s1 .s9 x v fun x => k (.mk a0 a1 a2 a3 a4 a5 a6 a7 x)) t v k
noncomputable def se1_10 : ST := fun t v k => Fm.rec (motive := fun _ => AV → (Fm → RR) → RR) (fun a0 a1 a2 a3 a4 a5 a6 a7 x v k => set2 .s1 .s10 x v fun x => k (.mk a0 a1 a2 a3 a4 a5 a6 a7 x)) t v k
noncomputable def se1_11 : ST := fun t v k => Fm.rec (motive := fun _ => AV → (Fm → RR) → RR) (fun a0 a1 a2 a3 a4 a5 a6 a7 x v k => set2 .s1 .s11 x v fun x => k (.mk a0 a1 a2 a3 a4 a5 a6 a7 x)) t v k
noncomputable def se1_12 : ST := fun t v k => Fm.rec (motive := fun _ => AV → (Fm → RR) → RR) (fun a0 a1 a2 a3 a4 a5 a6 a7 x v k => set2 .s1 .s12 x v fun x => k (.mk a0 a1 a2 a3 a4 a5 a6 a7 x)) t v k
noncomputable def se1_13 : ST := fun t v k => Fm.rec (motive := fun _ => AV → (Fm → RR) → RR) (fun a0 a1 a2 a3 a4 a5 a6 a7 x v k => set2 .s1 .s13 x v fun x => k (.mk a0 a1 a2 a3 a4 a5 a6 a7 x)) t v k
noncomputable def se1_14 : ST := fun t v k => Fm.rec (motive := fun _ => AV → (Fm → RR) → RR) (fun a0 a1 a2 a3 a4 a5 a6 a7 x v k => set2 .s1 .s14 x v fun x => k (.mk a0 a1 a2 a3 a4 a5 a6 a7 x)) t v k
noncomputable def se1_15 : ST := fun t v k => Fm.rec (motive := fun _ => AV → (Fm → RR) → RR) (fun a0 a1 a2 a3 a4 a5 a6 a7 x v k => set2 .s1 .s15 x v fun x => k (.mk a0 a1 a2 a3 a4 a5 a6 a7 x)) t v k
noncomputable def se2_0 : ST := fun t v k => Fm.rec (motive := fun _ => AV → (Fm → RR) → RR) (fun a0 a1 a2 a3 a4 a5 a6 a7 x v k => set2 .s2 .s0 x v fun x => k (.mk a0 a1 a2 a3 a4 a5 a6 a7 x)) t v k
noncomputable def se2_1 : ST := fun t v k => Fm.rec (motive := fun _ => AV → (Fm → RR) → RR) (fun a0 a1 a2 a3 a4 a5 a6 a7 x v k => set2 .s2 .s1 x v fun x => k (.mk a0 a1 a2 a3 a4 a5 a6 a7 x)) t v k
noncomputable def se2_2 : ST := fun t v k => Fm.rec (motive := fun _ => AV → (Fm → RR) → RR) (fun a0 a1 a2 a3 a4 a5 a6 a7 x v k => set2 .s2 .s2 x v fun x => k (.mk a0 a1 a2 a3 a4 a5 a6 a7 x)) t v k
noncomputable def se2_3 : ST := fun t v k => Fm.rec (motive := fun _ => AV → (Fm → RR) → RR) (fun a0 a1 a2 a3 a4 a5 a6 a7 x v k => set2 .s2 .s3 x v fun x => k (.mk a0 a1 a2 a3 a4 a5 a6 a7 x)) t v k
noncomputable def se2_4 : ST := fun t v k => Fm.rec (motive := fun _ => AV → (Fm → RR) → RR) (fun a0 a1 a2 a3 a4 a5 a6 a7 x v k => set2 .s2 .s4 x v fun x => k (.mk a0 a1 a2 a3 a4 a5 a6 a7 x)) t v k
noncomputable def se2_5 : ST := fun t v k => Fm.rec (motive := fun _ => AV → (Fm → RR) → RR) (fun a0 a1 a2 a3 a4 a5 a6 a7 x v k => set2 .s2 .s5 x v fun x => k (.mk a0 a1 a2 a3 a4 a5 a6 a7 x)) t v k
noncomputable def se2_6 : ST := fun t v k => Fm.rec (motive := fun _ => AV → (Fm → RR) → RR) (fun a0 a1 a2 a3 a4 a5 a6 a7 x v k => set2 .s2 .s6 x v fun x => k (.mk a0 a1 a2 a3 a4 a5 a6 a7 x)) t v k
noncomputable def se2_7 : ST := fun t v k => Fm.rec (motive := fun _ => AV → (Fm → RR) → RR) (fun a0 a1 a2 a3 a4 a5 a6 a7 x v k => set2 .s2 .s7 x v fun x => k (.mk a0 a1 a2 a3 a4 a5 a6 a7 x)) t v k
noncomputable def se2_8 : ST := fun t v k => Fm.rec (motive := fun _ => AV → (Fm → RR) → RR) (fun a0 a1 a2 a3 a4 a5 a6 a7 x v k => set2 .s2 .s8 x v fun x => k (.mk a0 a1 a2 a3 a4 a5 a6 a7 x)) t v k
noncomputable def se2_9 : ST := fun t v k => Fm.rec (motive := fun _ => AV → (Fm → RR) → RR) (fun a0 a1 a2 a3 a4 a5 a6 a7 x v k => set2 .s2 .s9 x v fun x => k (.mk a0 a1 a2 a3 a4 a5 a6 a7 x)) t v k
noncomputable def se2_10 : ST := fun t v k => Fm.rec (motive := fun _ => AV → (Fm → RR) → RR) (fun a0 a1 a2 a3 a4 a5 a6 a7 x v k => set2 .s2 .s10 x v fun x => k (.mk a0 a1 a2 a3 a4 a5 a6 a7 x)) t v k
noncomputable def se2_11 : ST := fun t v k => Fm.rec (motive := fun _ => AV → (Fm → RR) → RR) (fun a0 a1 a2 a3 a4 a5 a6 a7 x v k => set2 .s2 .s11 x v fun x => k (.mk a0 a1 a2 a3 a4 a5 a6 a7 x)) t v k
noncomputable def se2_12 : ST := fun t v k => Fm.rec (motive := fun _ => AV → (Fm → RR) → RR) (fun a0 a1 a2 a3 a4 a5 a6 a7 x v k => set2 .s2 .s12 x v fun x => k (.mk a0 a1 a2 a3 a4 a5 a6 a7 x)) t v k
noncomputable def se2_13 : ST := fun t v k => Fm.rec (motive := fun _ => AV → (Fm → RR) → RR) (fun a0 a1 a2 a3 a4 a5 a6 a7 x v k => set2 .s2 .s13 x v fun x => k (.mk a0 a1 a2 a3 a4 a5 a6 a7 x)) t v k
noncomputable def se2_14 : ST := fun t v k => Fm.rec (motive := fun _ => AV → (Fm → RR) → RR) (fun a0 a1 a2 a3 a4 a5 a6 a7 x v k => set2 .s2 .s14 x v fun x => k (.mk a0 a1 a2 a3 a4 a5 a6 a7 x)) t v k
noncomputable def se2_15 : ST := fun t v k => Fm.rec (motive := fun _ => AV → (Fm → RR) → RR) (fun a0 a1 a2 a3 a4 a5 a6 a7 x v k => set2 .s2 .s15 x v fun x => k (.mk a0 a1 a2 a3 a4 a5 a6 a7 x)) t v k
noncomputable def se3_0 : ST := fun t v k => Fm.rec (motive := fun _ => AV → (Fm → RR) → RR) (fun a0 a1 a2 a3 a4 a5 a6 a7 x v k => set2 .s3 .s0 x v fun x => k (.mk a0 a1 a2 a3 a4 a5 a6 a7 x)) t v k
noncomputable def se3_1 : ST := fun t v k => Fm.rec (motive := fun _ => AV → (Fm → RR) → RR) (fun a0 a1 a2 a3 a4 a5 a6 a7 x v k => set2 .s3 .s1 x v fun x => k (.mk a0 a1 a2 a3 a4 a5 a6 a7 x)) t v k
noncomputable def se3_2 : ST := fun t v k => Fm.rec (motive := fun _ => AV → (Fm → RR) → RR) (fun a0 a1 a2 a3 a4 a5 a6 a7 x v k => set2 .s3 .s2 x v fun x => k (.mk a0 a1 a2 a3 a4 a5 a6 a7 x)) t v k
noncomputable def se3_3 : ST := fun t v k => Fm.rec (motive := fun _ => AV → (Fm → RR) → RR) (fun a0 a1 a2 a3 a4 a5 a6 a7 x v k => set2 .s3 .s3 x v fun x => k (.mk a0 a1 a2 a3 a4 a5 a6 a7 x)) t v k
noncomputable def se3_4 : ST := fun t v k => Fm.rec (motive := fun _ => AV → (Fm → RR) → RR) (fun a0 a1 a2 a3 a4 a5 a6 a7 x v k => set2 .s3 .s4 x v fun x => k (.mk a0 a1 a2 a3 a4 a5 a6 a7 x)) t v k
noncomputable def se3_5 : ST := fun t v k => Fm.rec (motive := fun _ => AV → (Fm → RR) → RR) (fun a0 a1 a2 a3 a4 a5 a6 a7 x v k => set2 .s3 .s5 x v fun x => k (.mk a0 a1 a2 a3 a4 a5 a6 a7 x)) t v k
noncomputable def se3_6 : ST := fun t v k => Fm.rec (motive := fun _ => AV → (Fm → RR) → RR) (fun a0 a1 a2 a3 a4 a5 a6 a7 x v k => set2 .s3 .s6 x v fun x => k (.mk a0 a1 a2 a3 a4 a5 a6 a7 x)) t v k
noncomputable def se3_7 : ST := fun t v k => Fm.rec (motive := fun _ => AV → (Fm → RR) → RR) (fun a0 a1 a2 a3 a4 a5 a6 a7 x v k => set2 .s3 .s7 x v fun x => k (.mk a0 a1 a2 a3 a4 a5 a6 a7 x)) t v k
noncomputable def se3_8 : ST := fun t v k => Fm.rec (motive := fun _ => AV → (Fm → RR) → RR) (fun a0 a1 a2 a3 a4 a5 a6 a7 x v k => set2 .s3 .s8 x v fun x => k (.mk a0 a1 a2 a3 a4 a5 a6 a7 x)) t v k
noncomputable def se3_9 : ST := fun t v k => Fm.rec (motive := fun _ => AV → (Fm → RR) → RR) (fun a0 a1 a2 a3 a4 a5 a6 a7 x v k => set2 .s3 .s9 x v fun x => k (.mk a0 a1 a2 a3 a4 a5 a6 a7 x)) t v k
noncomputable def se3_10 : ST := fun t v k => Fm.rec (motive := fun _ => AV → (Fm → RR) → RR) (fun a0 a1 a2 a3 a4 a5 a6 a7 x v k => set2 .s3 .s10 x v fun x => k (.mk a0 a1 a2 a3 a4 a5 a6 a7 x)) t v k
noncomputable def se3_11 : ST := fun t v k => Fm.rec (motive := fun _ => AV → (Fm → RR) → RR) (fun a0 a1 a2 a3 a4 a5 a6 a7 x v k => set2 .s3 .s11 x v fun x => k (.mk a0 a1 a2 a3 a4 a5 a6 a7 x)) t v k
noncomputable def se3_12 : ST := fun t v k => Fm.rec (motive := fun _ => AV → (Fm → RR) → RR) (fun a0 a1 a2 a3 a4 a5 a6 a7 x v k => set2 .s3 .s12 x v fun x => k (.mk a0 a1 a2 a3 a4 a5 a6 a7 x)) t v k
noncomputable def se3_13 : ST := fun t v k => Fm.rec (motive := fun _ => AV → (Fm → RR) → RR) (fun a0 a1 a2 a3 a4 a5 a6 a7 x v k => set2 .s3 .s13 x v fun x => k (.mk a0 a1 a2 a3 a4 a5 a6 a7 x)) t v k
noncomputable def se3_14 : ST := fun t v k => Fm.rec (motive := fun _ => AV → (Fm → RR) → RR) (fun a0 a1 a2 a3 a4 a5 a6 a7 x v k => set2 .s3 .s14 x v fun x => k (.mk a0 a1 a2 a3 a4 a5 a6 a7 x)) t v k
noncomputable def se3_15 : ST := fun t v k => Fm.rec (motive := fun _ => AV → (Fm → RR) → RR) (fun a0 a1 a2 a3 a4 a5 a6 a7 x v k => set2 .s3 .s15 x v fun x => k (.mk a0 a1 a2 a3 a4 a5 a6 a7 x)) t v k
noncomputable def se4_0 : ST := fun t v k => Fm.rec (motive := fun _ => AV → (Fm → RR) → RR) (fun a0 a1 a2 a3 a4 a5 a6 a7 x v k => set2 .s4 .s0 x v fun x => k (.mk a0 a1 a2 a3 a4 a5 a6 a7 x)) t v k
noncomputable def se4_1 : ST := fun t v k => Fm.rec (motive := fun _ => AV → (Fm → RR) → RR) (fun a0 a1 a2 a3 a4 a5 a6 a7 x v k => set2 .s4 .s1 x v fun x => k (.mk a0 a1 a2 a3 a4 a5 a6 a7 x)) t v k
noncomputable def se4_2 : ST := fun t v k => Fm.rec (motive := fun _ => AV → (Fm → RR) → RR) (fun a0 a1 a2 a3 a4 a5 a6 a7 x v k => set2 .s4 .s2 x v fun x => k (.mk a0 a1 a2 a3 a4 a5 a6 a7 x)) t v k
noncomputable def se4_3 : ST := fun t v k => Fm.rec (motive := fun _ => AV → (Fm → RR) → RR) (fun a0 a1 a2 a3 a4 a5 a6 a7 x v k => set2 .s4 .s3 x v fun x => k (.mk a0 a1 a2 a3 a4 a5 a6 a7 x)) t v k
noncomputable def se4_4 : ST := fun t v k => Fm.rec (motive := fun _ => AV → (Fm → RR) → RR) (fun a0 a1 a2 a3 a4 a5 a6 a7 x v k => set2 .s4 .s4 x v fun x => k (.mk a0 a1 a2 a3 a4 a5 a6 a7 x)) t v k
noncomputable def se4_5 : ST := fun t v k => Fm.rec (motive := fun _ => AV → (Fm → RR) → RR) (fun a0 a1 a2 a3 a4 a5 a6 a7 x v k => set2 .s4 .s5 x v fun x => k (.mk a0 a1 a2 a3 a4 a5 a6 a7 x)) t v k
noncomputable def se4_6 : ST := fun t v k => Fm.rec (motive := fun _ => AV → (Fm → RR) → RR) (fun a0 a1 a2 a3 a4 a5 a6 a7 x v k => set2 .s4 .s6 x v fun x => k (.mk a0 a1 a2 a3 a4 a5 a6 a7 x)) t v k
noncomputable def se4_7 : ST := fun t v k => Fm.rec (motive := fun _ => AV → (Fm → RR) → RR) (fun a0 a1 a2 a3 a4 a5 a6 a7 x v k => set2 .s4 .s7 x v fun x => k (.mk a0 a1 a2 a3 a4 a5 a6 a7 x)) t v k
noncomputable def se4_8 : ST := fun t v k => Fm.rec (motive := fun _ => AV → (Fm → RR) → RR) (fun a0 a1 a2 a3 a4 a5 a6 a7 x v k => set2 .s4 .s8 x v fun x => k (.mk a0 a1 a2 a3 a4 a5 a6 a7 x)) t v k
noncomputable def se4_9 : ST := fun t v k => Fm.rec (motive := fun _ => AV → (Fm → RR) → RR) (fun a0 a1 a2 a3 a4 a5 a6 a7 x v k => set2 .s4 .s9 x v fun x => k (.mk a0 a1 a2 a3 a4 a5 a6 a7 x)) t v k
noncomputable def se4_10 : ST := fun t v k => Fm.rec (motive := fun _ => AV → (Fm → RR) → RR) (fun a0 a1 a2 a3 a4 a5 a6 a7 x v k => set2 .s4 .s10 x v fun x => k (.mk a0 a1 a2 a3 a4 a5 a6 a7 x)) t v k
noncomputable def se4_11 : ST := fun t v k => Fm.rec (motive := fun _ => AV → (Fm → RR) → RR) (fun a0 a1 a2 a3 a4 a5 a6 a7 x v k => set2 .s4 .s11 x v fun x => k (.mk a0 a1 a2 a3 a4 a5 a6 a7 x)) t v k
noncomputable def se4_12 : ST := fun t v k => Fm.rec (motive := fun _ => AV → (Fm → RR) → RR) (fun a0 a1 a2 a3 a4 a5 a6 a7 x v k => set2 .s4 .s12 x v fun x => k (.mk a0 a1 a2 a3 a4 a5 a6 a7 x)) t v k
noncomputable def se4_13 : ST := fun t v k => Fm.rec (motive := fun _ => AV → (Fm → RR) → RR) (fun a0 a1 a2 a3 a4 a5 a6 a7 x v k => set2 .s4 .s13 x v fun x => k (.mk a0 a1 a2 a3 a4 a5 a6 a7 x)) t v k
noncomputable def se4_14 : ST := fun t v k => Fm.rec (motive := fun _ => AV → (Fm → RR) → RR) (fun a0 a1 a2 a3 a4 a5 a6 a7 x v k => set2 .s4 .s14 x v fun x => k (.mk a0 a1 a2 a3 a4 a5 a6 a7 x)) t v k
noncomputable def se4_15 : ST := fun t v k => Fm.rec (motive := fun _ => AV → (Fm → RR) → RR) (fun a0 a1 a2 a3 a4 a5 a6 a7 x v k => set2 .s4 .s15 x v fun x => k (.mk a0 a1 a2 a3 a4 a5 a6 a7 x)) t v k
noncomputable def se5_0 : ST := fun t v k => Fm.rec (motive := fun _ => AV → (Fm → RR) → RR) (fun a0 a1 a2 a3 a4 a5 a6 a7 x v k => set2 .s5 .s0 x v fun x => k (.mk a0 a1 a2 a3 a4 a5 a6 a7 x)) t v k
noncomputable def se5_1 : ST := fun t v k => Fm.rec (motive := fun _ => AV → (Fm → RR) → RR) (fun a0 a1 a2 a3 a4 a5 a6 a7 x v k => set2 .s5 .s1 x v fun x => k (.mk a0 a1 a2 a3 a4 a5 a6 a7 x)) t v k
noncomputable def se5_2 : ST := fun t v k => Fm.rec (motive := fun _ => AV → (Fm → RR) → RR) (fun a0 a1 a2 a3 a4 a5 a6 a7 x v k => set2 .s5 .s2 x v fun x => k (.mk a0 a1 a2 a3 a4 a5 a6 a7 x)) t v k
noncomputable def se5_3 : ST := fun t v k => Fm.rec (motive := fun _ => AV → (Fm → RR) → RR) (fun a0 a1 a2 a3 a4 a5 a6 a7 x v k => set2 .s5 .s3 x v fun x => k (.mk a0 a1 a2 a3 a4 a5 a6 a7 x)) t v k
noncomputable def se5_4 : ST := fun t v k => Fm.rec (motive := fun _ => AV → (Fm → RR) → RR) (fun a0 a1 a2 a3 a4 a5 a6 a7 x v k => set2 .s5 .s4 x v fun x => k (.mk a0 a1 a2 a3 a4 a5 a6 a7 x)) t v k
noncomputable def se5_5 : ST := fun t v k => Fm.rec (motive := fun _ => AV → (Fm → RR) → RR) (fun a0 a1 a2 a3 a4 a5 a6 a7 x v k => set2 .s5 .s5 x v fun x => k (.mk a0 a1 a2 a3 a4 a5 a6 a7 x)) t v k
noncomputable def se5_6 : ST := fun t v k => Fm.rec (motive := fun _ => AV → (Fm → RR) → RR) (fun a0 a1 a2 a3 a4 a5 a6 a7 x v k => set2 .s5 .s6 x v fun x => k (.mk a0 a1 a2 a3 a4 a5 a6 a7 x)) t v k
noncomputable def se5_7 : ST := fun t v k => Fm.rec (motive := fun _ => AV → (Fm → RR) → RR) (fun a0 a1 a2 a3 a4 a5 a6 a7 x v k => set2 .s5 .s7 x v fun x => k (.mk a0 a1 a2 a3 a4 a5 a6 a7 x)) t v k
noncomputable def se5_8 : ST := fun t v k => Fm.rec (motive := fun _ => AV → (Fm → RR) → RR) (fun a0 a1 a2 a3 a4 a5 a6 a7 x v k => set2 .s5 .s8 x v fun x => k (.mk a0 a1 a2 a3 a4 a5 a6 a7 x)) t v k
noncomputable def se5_9 : ST := fun t v k => Fm.rec (motive := fun _ => AV → (Fm → RR) → RR) (fun a0 a1 a2 a3 a4 a5 a6 a7 x v k => set2 .s5 .s9 x v fun x => k (.mk a0 a1 a2 a3 a4 a5 a6 a7 x)) t v k
noncomputable def se5_10 : ST := fun t v k => Fm.rec (motive := fun _ => AV → (Fm → RR) → RR) (fun a0 a1 a2 a3 a4 a5 a6 a7 x v k => set2 .s5 .s10 x v fun x => k (.mk a0 a1 a2 a3 a4 a5 a6 a7 x)) t v k
noncomputable def se5_11 : ST := fun t v k => Fm.rec (motive := fun _ => AV → (Fm → RR) → RR) (fun a0 a1 a2 a3 a4 a5 a6 a7 x v k => set2 .s5 .s11 x v fun x => k (.mk a0 a1 a2 a3 a4 a5 a6 a7 x)) t v k
noncomputable def se5_12 : ST := fun t v k => Fm.rec (motive := fun _ => AV → (Fm → RR) → RR) (fun a0 a1 a2 a3 a4 a5 a6 a7 x v k => set2 .s5 .s12 x v fun x => k (.mk a0 a1 a2 a3 a4 a5 a6 a7 x)) t v k
noncomputable def se5_13 : ST := fun t v k => Fm.rec (motive := fun _ => AV → (Fm → RR) → RR) (fun a0 a1 a2 a3 a4 a5 a6 a7 x v k => set2 .s5 .s13 x v fun x => k (.mk a0 a1 a2 a3 a4 a5 a6 a7 x)) t v k
noncomputable def se5_14 : ST := fun t v k => Fm.rec (motive := fun _ => AV → (Fm → RR) → RR) (fun a0 a1 a2 a3 a4 a5 a6 a7 x v k => set2 .s5 .s14 x v fun x => k (.mk a0 a1 a2 a3 a4 a5 a6 a7 x)) t v k
noncomputable def se5_15 : ST := fun t v k => Fm.rec (motive := fun _ => AV → (Fm → RR) → RR) (fun a0 a1 a2 a3 a4 a5 a6 a7 x v k => set2 .s5 .s15 x v fun x => k (.mk a0 a1 a2 a3 a4 a5 a6 a7 x)) t v k
noncomputable def se6_0 : ST := fun t v k => Fm.rec (motive := fun _ => AV → (Fm → RR) → RR) (fun a0 a1 a2 a3 a4 a5 a6 a7 x v k => set2 .s6 .s0 x v fun x => k (.mk a0 a1 a2 a3 a4 a5 a6 a7 x)) t v k
noncomputable def se6_1 : ST := fun t v k => Fm.rec (motive := fun _ => AV → (Fm → RR) → RR) (fun a0 a1 a2 a3 a4 a5 a6 a7 x v k => set2 .s6 .s1 x v fun x => k (.mk a0 a1 a2 a3 a4 a5 a6 a7 x)) t v k
noncomputable def se6_2 : ST := fun t v k => Fm.rec (motive := fun _ => AV → (Fm → RR) → RR) (fun a0 a1 a2 a3 a4 a5 a6 a7 x v k => set2 .s6 .s2 x v fun x => k (.mk a0 a1 a2 a3 a4 a5 a6 a7 x)) t v k
noncomputable def se6_3 : ST := fun t v k => Fm.rec (motive := fun _ => AV → (Fm → RR) → RR) (fun a0 a1 a2 a3 a4 a5 a6 a7 x v k => set2 .s6 .s3 x v fun x => k (.mk a0 a1 a2 a3 a4 a5 a6 a7 x)) t v k
noncomputable def se6_4 : ST := fun t v k => Fm.rec (motive := fun _ => AV → (Fm → RR) → RR) (fun a0 a1 a2 a3 a4 a5 a6 a7 x v k => set2 .s6 .s4 x v fun x => k (.mk a0 a1 a2 a3 a4 a5 a6 a7 x)) t v k
noncomputable def se6_5 : ST := fun t v k => Fm.rec (motive := fun _ => AV → (Fm → RR) → RR) (fun a0 a1 a2 a3 a4 a5 a6 a7 x v k => set2 .s6 .s5 x v fun x => k (.mk a0 a1 a2 a3 a4 a5 a6 a7 x)) t v k
noncomputable def se6_6 : ST := fun t v k => Fm.rec (motive := fun _ => AV → (Fm → RR) → RR) (fun a0 a1 a2 a3 a4 a5 a6 a7 x v k => set2 .s6 .s6 x v fun x => k (.mk a0 a1 a2 a3 a4 a5 a6 a7 x)) t v k
noncomputable def se6_7 : ST := fun t v k => Fm.rec (motive := fun _ => AV → (Fm → RR) → RR) (fun a0 a1 a2 a3 a4 a5 a6 a7 x v k => set2 .s6 .s7 x v fun x => k (.mk a0 a1 a2 a3 a4 a5 a6 a7 x)) t v k
noncomputable def se6_8 : ST := fun t v k => Fm.rec (motive := fun _ => AV → (Fm → RR) → RR) (fun a0 a1 a2 a3 a4 a5 a6 a7 x v k => set2 .s6 .s8 x v fun x => k (.mk a0 a1 a2 a3 a4 a5 a6 a7 x)) t v k
noncomputable def se6_9 : ST := fun t v k => Fm.rec (motive := fun _ => AV → (Fm → RR) → RR) (fun a0 a1 a2 a3 a4 a5 a6 a7 x v k => set2 .s6 .s9 x v fun x => k (.mk a0 a1 a2 a3 a4 a5 a6 a7 x)) t v k
noncomputable def se6_10 : ST := fun t v k => Fm.rec (motive := fun _ => AV → (Fm → RR) → RR) (fun a0 a1 a2 a3 a4 a5 a6 a7 x v k => set2 .s6 .s10 x v fun x => k (.mk a0 a1 a2 a3 a4 a5 a6 a7 x)) t v k
noncomputable def se6_11 : ST := fun t v k => Fm.rec (motive := fun _ => AV → (Fm → RR) → RR) (fun a0 a1 a2 a3 a4 a5 a6 a7 x v k => set2 .s6 .s11 x v fun x => k (.mk a0 a1 a2 a3 a4 a5 a6 a7 x)) t v k
noncomputable def se6_12 : ST := fun t v k => Fm.rec (motive := fun _ => AV → (Fm → RR) → RR) (fun a0 a1 a2 a3 a4 a5 a6 a7 x v k => set2 .s6 .s12 x v fun x => k (.mk a0 a1 a2 a3 a4 a5 a6 a7 x)) t v k
noncomputable def se6_13 : ST := fun t v k => Fm.rec (motive := fun _ => AV → (Fm → RR) → RR) (fun a0 a1 a2 a3 a4 a5 a6 a7 x v k => set2 .s6 .s13 x v fun x => k (.mk a0 a1 a2 a3 a4 a5 a6 a7 x)) t v k
noncomputable def se6_14 : ST := fun t v k => Fm.rec (motive := fun _ => AV → (Fm → RR) → RR) (fun a0 a1 a2 a3 a4 a5 a6 a7 x v k => set2 .s6 .s14 x v fun x => k (.mk a0 a1 a2 a3 a4 a5 a6 a7 x)) t v k
noncomputable def se6_15 : ST := fun t v k => Fm.rec (motive := fun _ => AV → (Fm → RR) → RR) (fun a0 a1 a2 a3 a4 a5 a6 a7 x v k => set2 .s6 .s15 x v fun x => k (.mk a0 a1 a2 a3 a4 a5 a6 a7 x)) t v k
noncomputable def se7_0 : ST := fun t v k => Fm.rec (motive := fun _ => AV → (Fm → RR) → RR) (fun a0 a1 a2 a3 a4 a5 a6 a7 x v k => set2 .s7 .s0 x v fun x => k (.mk a0 a1 a2 a3 a4 a5 a6 a7 x)) t v k
noncomputable def se7_1 : ST := fun t v k => Fm.rec (motive := fun _ => AV → (Fm → RR) → RR) (fun a0 a1 a2 a3 a4 a5 a6 a7 x v k => set2 .s7 .s1 x v fun x => k (.mk a0 a1 a2 a3 a4 a5 a6 a7 x)) t v k
noncomputable def se7_2 : ST := fun t v k => Fm.rec (motive := fun _ => AV → (Fm → RR) → RR) (fun a0 a1 a2 a3 a4 a5 a6 a7 x v k => set2 .s7 .s2 x v fun x => k (.mk a0 a1 a2 a3 a4 a5 a6 a7 x)) t v k
noncomputable def se7_3 : ST := fun t v k => Fm.rec (motive := fun _ => AV → (Fm → RR) → RR) (fun a0 a1 a2 a3 a4 a5 a6 a7 x v k => set2 .s7 .s3 x v fun x => k (.mk a0 a1 a2 a3 a4 a5 a6 a7 x)) t v k
noncomputable def se7_4 : ST := fun t v k => Fm.rec (motive := fun _ => AV → (Fm → RR) → RR) (fun a0 a1 a2 a3 a4 a5 a6 a7 x v k => set2 .s7 .s4 x v fun x => k (.mk a0 a1 a2 a3 a4 a5 a6 a7 x)) t v k
noncomputable def se7_5 : ST := fun t v k => Fm.rec (motive := fun _ => AV → (Fm → RR) → RR) (fun a0 a1 a2 a3 a4 a5 a6 a7 x v k => set2 .s7 .s5 x v fun x => k (.mk a0 a1 a2 a3 a4 a5 a6 a7 x)) t v k
noncomputable def se7_6 : ST := fun t v k => Fm.rec (motive := fun _ => AV → (Fm → RR) → RR) (fun a0 a1 a2 a3 a4 a5 a6 a7 x v k => set2 .s7 .s6 x v fun x => k (.mk a0 a1 a2 a3 a4 a5 a6 a7 x)) t v k
noncomputable def se7_7 : ST := fun t v k => Fm.rec (motive := fun _ => AV → (Fm → RR) → RR) (fun a0 a1 a2 a3 a4 a5 a6 a7 x v k => set2 .s7 .s7 x v fun x => k (.mk a0 a1 a2 a3 a4 a5 a6 a7 x)) t v k
noncomputable def se7_8 : ST := fun t v k => Fm.rec (motive := fun _ => AV → (Fm → RR) → RR) (fun a0 a1 a2 a3 a4 a5 a6 a7 x v k => set2 .s7 .s8 x v fun x => k (.mk a0 a1 a2 a3 a4 a5 a6 a7 x)) t v k
noncomputable def se7_9 : ST := fun t v k => Fm.rec (motive := fun _ => AV → (Fm → RR) → RR) (fun a0 a1 a2 a3 a4 a5 a6 a7 x v k => set2 .s7 .s9 x v fun x => k (.mk a0 a1 a2 a3 a4 a5 a6 a7 x)) t v k
noncomputable def se7_10 : ST := fun t v k => Fm.rec (motive := fun _ => AV → (Fm → RR) → RR) (fun a0 a1 a2 a3 a4 a5 a6 a7 x v k => set2 .s7 .s10 x v fun x => k (.mk a0 a1 a2 a3 a4 a5 a6 a7 x)) t v k
noncomputable def se7_11 : ST := fun t v k => Fm.rec (motive := fun _ => AV → (Fm → RR) → RR) (fun a0 a1 a2 a3 a4 a5 a6 a7 x v k => set2 .s7 .s11 x v fun x => k (.mk a0 a1 a2 a3 a4 a5 a6 a7 x)) t v k
noncomputable def se7_12 : ST := fun t v k => Fm.rec (motive := fun _ => AV → (Fm → RR) → RR) (fun a0 a1 a2 a3 a4 a5 a6 a7 x v k => set2 .s7 .s12 x v fun x => k (.mk a0 a1 a2 a3 a4 a5 a6 a7 x)) t v k
noncomputable def se7_13 : ST := fun t v k => Fm.rec (motive := fun _ => AV → (Fm → RR) → RR) (fun a0 a1 a2 a3 a4 a5 a6 a7 x v k => set2 .s7 .s13 x v fun x => k (.mk a0 a1 a2 a3 a4 a5 a6 a7 x)) t v k
noncomputable def se7_14 : ST := fun t v k => Fm.rec (motive := fun _ => AV → (Fm → RR) → RR) (fun a0 a1 a2 a3 a4 a5 a6 a7 x v k => set2 .s7 .s14 x v fun x => k (.mk a0 a1 a2 a3 a4 a5 a6 a7 x)) t v k
noncomputable def se7_15 : ST := fun t v k => Fm.rec (motive := fun _ => AV → (Fm → RR) → RR) (fun a0 a1 a2 a3 a4 a5 a6 a7 x v k => set2 .s7 .s15 x v fun x => k (.mk a0 a1 a2 a3 a4 a5 a6 a7 x)) t v k
noncomputable def se8_0 : ST := fun t v k => Fm.rec (motive := fun _ => AV → (Fm → RR) → RR) (fun a0 a1 a2 a3 a4 a5 a6 a7 x v k => set2 .s8 .s0 x v fun x => k (.mk a0 a1 a2 a3 a4 a5 a6 a7 x)) t v k
noncomputable def se8_1 : ST := fun t v k => Fm.rec (motive := fun _ => AV → (Fm → RR) → RR) (fun a0 a1 a2 a3 a4 a5 a6 a7 x v k => set2 .s8 .s1 x v fun x => k (.mk a0 a1 a2 a3 a4 a5 a6 a7 x)) t v k
noncomputable def se8_2 : ST := fun t v k => Fm.rec (motive := fun _ => AV → (Fm → RR) → RR) (fun a0 a1 a2 a3 a4 a5 a6 a7 x v k => set2 .s8 .s2 x v fun x => k (.mk a0 a1 a2 a3 a4 a5 a6 a7 x)) t v k
noncomputable def se8_3 : ST := fun t v k => Fm.rec (motive := fun _ => AV → (Fm → RR) → RR) (fun a0 a1 a2 a3 a4 a5 a6 a7 x v k => set2 .s8 .s3 x v fun x => k (.mk a0 a1 a2 a3 a4 a5 a6 a7 x)) t v k
noncomputable def se8_4 : ST := fun t v k => Fm.rec (motive := fun _ => AV → (Fm → RR) → RR) (fun a0 a1 a2 a3 a4 a5 a6 a7 x v k => set2 .s8 .s4 x v fun x => k (.mk a0 a1 a2 a3 a4 a5 a6 a7 x)) t v k
noncomputable def se8_5 : ST := fun t v k => Fm.rec (motive := fun _ => AV → (Fm → RR) → RR) (fun a0 a1 a2 a3 a4 a5 a6 a7 x v k => set2 .s8 .s5 x v fun x => k (.mk a0 a1 a2 a3 a4 a5 a6 a7 x)) t v k
noncomputable def se8_6 : ST := fun t v k => Fm.rec (motive := fun _ => AV → (Fm → RR) → RR) (fun a0 a1 a2 a3 a4 a5 a6 a7 x v k => set2 .s8 .s6 x v fun x => k (.mk a0 a1 a2 a3 a4 a5 a6 a7 x)) t v k
noncomputable def se8_7 : ST := fun t v k => Fm.rec (motive := fun _ => AV → (Fm → RR) → RR) (fun a0 a1 a2 a3 a4 a5 a6 a7 x v k => set2 .s8 .s7 x v fun x => k (.mk a0 a1 a2 a3 a4 a5 a6 a7 x)) t v k
noncomputable def se8_8 : ST := fun t v k => Fm.rec (motive := fun _ => AV → (Fm → RR) → RR) (fun a0 a1 a2 a3 a4 a5 a6 a7 x v k => set2 .s8 .s8 x v fun x => k (.mk a0 a1 a2 a3 a4 a5 a6 a7 x)) t v k
noncomputable def se8_9 : ST := fun t v k => Fm.rec (motive := fun _ => AV → (Fm → RR) → RR) (fun a0 a1 a2 a3 a4 a5 a6 a7 x v k => set2 .s8 .s9 x v fun x => k (.mk a0 a1 a2 a3 a4 a5 a6 a7 x)) t v k
noncomputable def se8_10 : ST := fun t v k => Fm.rec (motive := fun _ => AV → (Fm → RR) → RR) (fun a0 a1 a2 a3 a4 a5 a6 a7 x v k => set2 .s8 .s10 x v fun x => k (.mk a0 a1 a2 a3 a4 a5 a6 a7 x)) t v k
noncomputable def se8_11 : ST := fun t v k => Fm.rec (motive := fun _ => AV → (Fm → RR) → RR) (fun a0 a1 a2 a3 a4 a5 a6 a7 x v k => set2 .s8 .s11 x v fun x => k (.mk a0 a1 a2 a3 a4 a5 a6 a7 x)) t v k
noncomputable def se8_12 : ST := fun t v k => Fm.rec (motive := fun _ => AV → (Fm → RR) → RR) (fun a0 a1 a2 a3 a4 a5 a6 a7 x v k => set2 .s8 .s12 x v fun x => k (.mk a0 a1 a2 a3 a4 a5 a6 a7 x)) t v k
noncomputable def se8_13 : ST := fun t v k => Fm.rec (motive := fun _ => AV → (Fm → RR) → RR) (fun a0 a1 a2 a3 a4 a5 a6 a7 x v k => set2 .s8 .s13 x v fun x => k (.mk a0 a1 a2 a3 a4 a5 a6 a7 x)) t v k
noncomputable def se8_14 : ST := fun t v k => Fm.rec (motive := fun _ => AV → (Fm → RR) → RR) (fun a0 a1 a2 a3 a4 a5 a6 a7 x v k => set2 .s8 .s14 x v fun x => k (.mk a0 a1 a2 a3 a4 a5 a6 a7 x)) t v k
noncomputable def se8_15 : ST := fun t v k => Fm.rec (motive := fun _ => AV → (Fm → RR) → RR) (fun a0 a1 a2 a3 a4 a5 a6 a7 x v k => set2 .s8 .s15 x v fun x => k (.mk a0 a1 a2 a3 a4 a5 a6 a7 x)) t v k
noncomputable def se9_0 : ST := fun t v k => Fm.rec (motive := fun _ => AV → (Fm → RR) → RR) (fun a0 a1 a2 a3 a4 a5 a6 a7 x v k => set2 .s9 .s0 x v fun x => k (.mk a0 a1 a2 a3 a4 a5 a6 a7 x)) t v k
noncomputable def se9_1 : ST := fun t v k => Fm.rec (motive := fun _ => AV → (Fm → RR) → RR) (fun a0 a1 a2 a3 a4 a5 a6 a7 x v k => set2 .s9 .s1 x v fun x => k (.mk a0 a1 a2 a3 a4 a5 a6 a7 x)) t v k
noncomputable def se9_2 : ST := fun t v k => Fm.rec (motive := fun _ => AV → (Fm → RR) → RR) (fun a0 a1 a2 a3 a4 a5 a6 a7 x v k => set2 .s9 .s2 x v fun x => k (.mk a0 a1 a2 a3 a4 a5 a6 a7 x)) t v k
noncomputable def se9_3 : ST := fun t v k => Fm.rec (motive := fun _ => AV → (Fm → RR) → RR) (fun a0 a1 a2 a3 a4 a5 a6 a7 x v k => set2 .s9 .s3 x v fun x => k (.mk a0 a1 a2 a3 a4 a5 a6 a7 x)) t v k
noncomputable def se9_4 : ST := fun t v k => Fm.rec (motive := fun _ => AV → (Fm → RR) → RR) (fun a0 a1 a2 a3 a4 a5 a6 a7 x v k => set2 .s9 .s4 x v fun x => k (.mk a0 a1 a2 a3 a4 a5 a6 a7 x)) t v k
noncomputable def se9_5 : ST := fun t v k => Fm.rec (motive := fun _ => AV → (Fm → RR) → RR) (fun a0 a1 a2 a3 a4 a5 a6 a7 x v k => set2 .s9 .s5 x v fun x => k (.mk a0 a1 a2 a3 a4 a5 a6 a7 x)) t v k
noncomputable def se9_6 : ST := fun t v k => Fm.rec (motive := fun _ => AV → (Fm → RR) → RR) (fun a0 a1 a2 a3 a4 a5 a6 a7 x v k => set2 .s9 .s6 x v fun x => k (.mk a0 a1 a2 a3 a4 a5 a6 a7 x)) t v k
noncomputable def se9_7 : ST := fun t v k => Fm.rec (motive := fun _ => AV → (Fm → RR) → RR) (fun a0 a1 a2 a3 a4 a5 a6 a7 x v k => set2 .s9 .s7 x v fun x => k (.mk a0 a1 a2 a3 a4 a5 a6 a7 x)) t v k
noncomputable def se9_8 : ST := fun t v k => Fm.rec (motive := fun _ => AV → (Fm → RR) → RR) (fun a0 a1 a2 a3 a4 a5 a6 a7 x v k => set2 .s9 .s8 x v fun x => k (.mk a0 a1 a2 a3 a4 a5 a6 a7 x)) t v k
noncomputable def se9_9 : ST := fun t v k => Fm.rec (motive := fun _ => AV → (Fm → RR) → RR) (fun a0 a1 a2 a3 a4 a5 a6 a7 x v k => set2 .s9 .s9 x v fun x => k (.mk a0 a1 a2 a3 a4 a5 a6 a7 x)) t v k
noncomputable def se9_10 : ST := fun t v k => Fm.rec (motive := fun _ => AV → (Fm → RR) → RR) (fun a0 a1 a2 a3 a4 a5 a6 a7 x v k => set2 .s9 .s10 x v fun x => k (.mk a0 a1 a2 a3 a4 a5 a6 a7 x)) t v k
noncomputable def se9_11 : ST := fun t v k => Fm.rec (motive := fun _ => AV → (Fm → RR) → RR) (fun a0 a1 a2 a3 a4 a5 a6 a7 x v k => set2 .s9 .s11 x v fun x => k (.mk a0 a1 a2 a3 a4 a5 a6 a7 x)) t v k
noncomputable def se9_12 : ST := fun t v k => Fm.rec (motive := fun _ => AV → (Fm → RR) → RR) (fun a0 a1 a2 a3 a4 a5 a6 a7 x v k => set2 .s9 .s12 x v fun x => k (.mk a0 a1 a2 a3 a4 a5 a6 a7 x)) t v k
noncomputable def se9_13 : ST := fun t v k => Fm.rec (motive := fun _ => AV → (Fm → RR) → RR) (fun a0 a1 a2 a3 a4 a5 a6 a7 x v k => set2 .s9 .s13 x v fun x => k (.mk a0 a1 a2 a3 a4 a5 a6 a7 x)) t v k
noncomputable def se9_14 : ST := fun t v k => Fm.rec (motive := fun _ => AV → (Fm → RR) → RR) (fun a0 a1 a2 a3 a4 a5 a6 a7 x v k => set2 .s9 .s14 x v fun x => k (.mk a0 a1 a2 a3 a4 a5 a6 a7 x)) t v k
noncomputable def se9_15 : ST := fun t v k => Fm.rec (motive := fun _ => AV → (Fm → RR) → RR) (fun a0 a1 a2 a3 a4 a5 a6 a7 x v k => set2 .s9 .s15 x v fun x => k (.mk a0 a1 a2 a3 a4 a5 a6 a7 x)) t v k
noncomputable def se10_0 : ST := fun t v k => Fm.rec (motive := fun _ => AV → (Fm → RR) → RR) (fun a0 a1 a2 a3 a4 a5 a6 a7 x v k => set2 .s10 .s0 x v fun x => k (.mk a0 a1 a2 a3 a4 a5 a6 a7 x)) t v k
noncomputable def se10_1 : ST := fun t v k => Fm.rec (motive := fun _ => AV → (Fm → RR) → RR) (fun a0 a1 a2 a3 a4 a5 a6 a7 x v k => set2 .s10 .s1 x v fun x => k (.mk a0 a1 a2 a3 a4 a5 a6 a7 x)) t v k
noncomputable def se10_2 : ST := fun t v k => Fm.rec (motive := fun _ => AV → (Fm → RR) → RR) (fun a0 a1 a2 a3 a4 a5 a6 a7 x v k => set2 .s10 .s2 x v fun x => k (.mk a0 a1 a2 a3 a4 a5 a6 a7 x)) t v k
noncomputable def se10_3 : ST := fun t v k => Fm.rec (motive := fun _ => AV → (Fm → RR) → RR) (fun a0 a1 a2 a3 a4 a5 a6 a7 x v k => set2 .s10 .s3 x v fun x => k (.mk a0 a1 a2 a3 a4 a5 a6 a7 x)) t v k
noncomputable def se10_4 : ST := fun t v k => Fm.rec (motive := fun _ => AV → (Fm → RR) → RR) (fun a0 a1 a2 a3 a4 a5 a6 a7 x v k => set2 .s10 .s4 x v fun x => k (.mk a0 a1 a2 a3 a4 a5 a6 a7 x)) t v k
noncomputable def se10_5 : ST := fun t v k => Fm.rec (motive := fun _ => AV → (Fm → RR) → RR) (fun a0 a1 a2 a3 a4 a5 a6 a7 x v k => set2 .s10 .s5 x v fun x => k (.mk a0 a1 a2 a3 a4 a5 a6 a7 x)) t v k
noncomputable def se10_6 : ST := fun t v k => Fm.rec (motive := fun _ => AV → (Fm → RR) → RR) (fun a0 a1 a2 a3 a4 a5 a6 a7 x v k => set2 .s10 .s6 x v fun x => k (.mk a0 a1 a2 a3 a4 a5 a6 a7 x)) t v k
noncomputable def se10_7 : ST := fun t v k => Fm.rec (motive := fun _ => AV → (Fm → RR) → RR) (fun a0 a1 a2 a3 a4 a5 a6 a7 x v k => set2 .s10 .s7 x v fun x => k (.mk a0 a1 a2 a3 a4 a5 a6 a7 x)) t v k
noncomputable def se10_8 : ST := fun t v k => Fm.rec (motive := fun _ => AV → (Fm → RR) → RR) (fun a0 a1 a2 a3 a4 a5 a6 a7 x v k => set2 .s10 .s8 x v fun x => k (.mk a0 a1 a2 a3 a4 a5 a6 a7 x)) t v k
noncomputable def se10_9 : ST := fun t v k => Fm.rec (motive := fun _ => AV → (Fm → RR) → RR) (fun a0 a1 a2 a3 a4 a5 a6 a7 x v k => set2 .s10 .s9 x v fun x => k (.mk a0 a1 a2 a3 a4 a5 a6 a7 x)) t v k
noncomputable def se10_10 : ST := fun t v k => Fm.rec (motive := fun _ => AV → (Fm → RR) → RR) (fun a0 a1 a2 a3 a4 a5 a6 a7 x v k => set2 .s10 .s10 x v fun x => k (.mk a0 a1 a2 a3 a4 a5 a6 a7 x)) t v k
noncomputable def se10_11 : ST := fun t v k => Fm.rec (motive := fun _ => AV → (Fm → RR) → RR) (fun a0 a1 a2 a3 a4 a5 a6 a7 x v k => set2 .s10 .s11 x v fun x => k (.mk a0 a1 a2 a3 a4 a5 a6 a7 x)) t v k
noncomputable def se10_12 : ST := fun t v k => Fm.rec (motive := fun _ => AV → (Fm → RR) → RR) (fun a0 a1 a2 a3 a4 a5 a6 a7 x v k => set2 .s10 .s12 x v fun x => k (.mk a0 a1 a2 a3 a4 a5 a6 a7 x)) t v k
noncomputable def se10_13 : ST := fun t v k => Fm.rec (motive := fun _ => AV → (Fm → RR) → RR) (fun a0 a1 a2 a3 a4 a5 a6 a7 x v k => set2 .s10 .s13 x v fun x => k (.mk a0 a1 a2 a3 a4 a5 a6 a7 x)) t v k
noncomputable def se10_14 : ST := fun t v k => Fm.rec (motive := fun _ => AV → (Fm → RR) → RR) (fun a0 a1 a2 a3 a4 a5 a6 a7 x v k => set2 .s10 .s14 x v fun x => k (.mk a0 a1 a2 a3 a4 a5 a6 a7 x)) t v k
noncomputable def se10_15 : ST := fun t v k => Fm.rec (motive := fun _ => AV → (Fm → RR) → RR) (fun a0 a1 a2 a3 a4 a5 a6 a7 x v k => set2 .s10 .s15 x v fun x => k (.mk a0 a1 a2 a3 a4 a5 a6 a7 x)) t v k
noncomputable def se11_0 : ST := fun t v k => Fm.rec (motive := fun _ => AV → (Fm → RR) → RR) (fun a0 a1 a2 a3 a4 a5 a6 a7 x v k => set2 .s11 .s0 x v fun x => k (.mk a0 a1 a2 a3 a4 a5 a6 a7 x)) t v k
noncomputable def se11_1 : ST := fun t v k => Fm.rec (motive := fun _ => AV → (Fm → RR) → RR) (fun a0 a1 a2 a3 a4 a5 a6 a7 x v k => set2 .s11 .s1 x v fun x => k (.mk a0 a1 a2 a3 a4 a5 a6 a7 x)) t v k
noncomputable def se11_2 : ST := fun t v k => Fm.rec (motive := fun _ => AV → (Fm → RR) → RR) (fun a0 a1 a2 a3 a4 a5 a6 a7 x v k => set2 .s11 .s2 x v fun x => k (.mk a0 a1 a2 a3 a4 a5 a6 a7 x)) t v k
noncomputable def se11_3 : ST := fun t v k => Fm.rec (motive := fun _ => AV → (Fm → RR) → RR) (fun a0 a1 a2 a3 a4 a5 a6 a7 x v k => set2 .s11 .s3 x v fun x => k (.mk a0 a1 a2 a3 a4 a5 a6 a7 x)) t v k
noncomputable def se11_4 : ST := fun t v k => Fm.rec (motive := fun _ => AV → (Fm → RR) → RR) (fun a0 a1 a2 a3 a4 a5 a6 a7 x v k => set2 .s11 .s4 x v fun x => k (.mk a0 a1 a2 a3 a4 a5 a6 a7 x)) t v k
noncomputable def se11_5 : ST := fun t v k => Fm.rec (motive := fun _ => AV → (Fm → RR) → RR) (fun a0 a1 a2 a3 a4 a5 a6 a7 x v k => set2 .s11 .s5 x v fun x => k (.mk a0 a1 a2 a3 a4 a5 a6 a7 x)) t v k
noncomputable def se11_6 : ST := fun t v k => Fm.rec (motive := fun _ => AV → (Fm → RR) → RR) (fun a0 a1 a2 a3 a4 a5 a6 a7 x v k => set2 .s11 .s6 x v fun x => k (.mk a0 a1 a2 a3 a4 a5 a6 a7 x)) t v k
noncomputable def se11_7 : ST := fun t v k => Fm.rec (motive := fun _ => AV → (Fm → RR) → RR) (fun a0 a1 a2 a3 a4 a5 a6 a7 x v k => set2 .s11 .s7 x v fun x => k (.mk a0 a1 a2 a3 a4 a5 a6 a7 x)) t v k
noncomputable def se11_8 : ST := fun t v k => Fm.rec (motive := fun _ => AV → (Fm → RR) → RR) (fun a0 a1 a2 a3 a4 a5 a6 a7 x v k => set2 .s11 .s8 x v fun x => k (.mk a0 a1 a2 a3 a4 a5 a6 a7 x)) t v k
noncomputable def se11_9 : ST := fun t v k => Fm.rec (motive := fun _ => AV → (Fm → RR) → RR) (fun a0 a1 a2 a3 a4 a5 a6 a7 x v k => set2 .s11 .s9 x v fun x => k (.mk a0 a1 a2 a3 a4 a5 a6 a7 x)) t v k
noncomputable def se11_10 : ST := fun t v k => Fm.rec (motive := fun _ => AV → (Fm → RR) → RR) (fun a0 a1 a2 a3 a4 a5 a6 a7 x v k => set2 .s11 .s10 x v fun x => k (.mk a0 a1 a2 a3 a4 a5 a6 a7 x)) t v k
noncomputable def se11_11 : ST := fun t v k => Fm.rec (motive := fun _ => AV → (Fm → RR) → RR) (fun a0 a1 a2 a3 a4 a5 a6 a7 x v k => set2 .s11 .s11 x v fun x => k (.mk a0 a1 a2 a3 a4 a5 a6 a7 x)) t v k
noncomputable def se11_12 : ST := fun t v k => Fm.rec (motive := fun _ => AV → (Fm → RR) → RR) (fun a0 a1 a2 a3 a4 a5 a6 a7 x v k => set2 .s11 .s12 x v fun x => k (.mk a0 a1 a2 a3 a4 a5 a6 a7 x)) t v k
noncomputable def se11_13 : ST := fun t v k => Fm.rec (motive := fun _ => AV → (Fm → RR) → RR) (fun a0 a1 a2 a3 a4 a5 a6 a7 x v k => set2 .s11 .s13 x v fun x => k (.mk a0 a1 a2 a3 a4 a5 a6 a7 x)) t v k
noncomputable def se11_14 : ST := fun t v k => Fm.rec (motive := fun _ => AV → (Fm → RR) → RR) (fun a0 a1 a2 a3 a4 a5 a6 a7 x v k => set2 .s11 .s14 x v fun x => k (.mk a0 a1 a2 a3 a4 a5 a6 a7 x)) t v k
noncomputable def se11_15 : ST := fun t v k => Fm.rec (motive := fun _ => AV → (Fm → RR) → RR) (fun a0 a1 a2 a3 a4 a5 a6 a7 x v k => set2 .s11 .s15 x v fun x => k (.mk a0 a1 a2 a3 a4 a5 a6 a7 x)) t v k
noncomputable def se12_0 : ST := fun t v k => Fm.rec (motive := fun _ => AV → (Fm → RR) → RR) (fun a0 a1 a2 a3 a4 a5 a6 a7 x v k => set2 .s12 .s0 x v fun x => k (.mk a0 a1 a2 a3 a4 a5 a6 a7 x)) t v k
noncomputable def se12_1 : ST := fun t v k => Fm.rec (motive := fun _ => AV → (Fm → RR) → RR) (fun a0 a1 a2 a3 a4 a5 a6 a7 x v k => set2 .s12 .s1 x v fun x => k (.mk a0 a1 a2 a3 a4 a5 a6 a7 x)) t v k
noncomputable def se12_2 : ST := fun t v k => Fm.rec (motive := fun _ => AV → (Fm → RR) → RR) (fun a0 a1 a2 a3 a4 a5 a6 a7 x v k => set2 .s12 .s2 x v fun x => k (.mk a0 a1 a2 a3 a4 a5 a6 a7 x)) t v k
noncomputable def se12_3 : ST := fun t v k => Fm.rec (motive := fun _ => AV → (Fm → RR) → RR) (fun a0 a1 a2 a3 a4 a5 a6 a7 x v k => set2 .s12 .s3 x v fun x => k (.mk a0 a1 a2 a3 a4 a5 a6 a7 x)) t v k
noncomputable def se12_4 : ST := fun t v k => Fm.rec (motive := fun _ => AV → (Fm → RR) → RR) (fun a0 a1 a2 a3 a4 a5 a6 a7 x v k => set2 .s12 .s4 x v fun x => k (.mk a0 a1 a2 a3 a4 a5 a6 a7 x)) t v k
noncomputable def se12_5 : ST := fun t v k => Fm.rec (motive := fun _ => AV → (Fm → RR) → RR) (fun a0 a1 a2 a3 a4 a5 a6 a7 x v k => set2 .s12 .s5 x v fun x => k (.mk a0 a1 a2 a3 a4 a5 a6 a7 x)) t v k
noncomputable def se12_6 : ST := fun t v k => Fm.rec (motive := fun _ => AV → (Fm → RR) → RR) (fun a0 a1 a2 a3 a4 a5 a6 a7 x v k => set2 .s12 .s6 x v fun x => k (.mk a0 a1 a2 a3 a4 a5 a6 a7 x)) t v k
noncomputable def se12_7 : ST := fun t v k => Fm.rec (motive := fun _ => AV → (Fm → RR) → RR) (fun a0 a1 a2 a3 a4 a5 a6 a7 x v k => set2 .s12 .s7 x v fun x => k (.mk a0 a1 a2 a3 a4 a5 a6 a7 x)) t v k
noncomputable def se12_8 : ST := fun t v k => Fm.rec (motive := fun _ => AV → (Fm → RR) → RR) (fun a0 a1 a2 a3 a4 a5 a6 a7 x v k => set2 .s12 .s8 x v fun x => k (.mk a0 a1 a2 a3 a4 a5 a6 a7 x)) t v k
noncomputable def se12_9 : ST := fun t v k => Fm.rec (motive := fun _ => AV → (Fm → RR) → RR) (fun a0 a1 a2 a3 a4 a5 a6 a7 x v k => set2 .s12 .s9 x v fun x => k (.mk a0 a1 a2 a3 a4 a5 a6 a7 x)) t v k
noncomputable def se12_10 : ST := fun t v k => Fm.rec (motive := fun _ => AV → (Fm → RR) → RR) (fun a0 a1 a2 a3 a4 a5 a6 a7 x v k => set2 .s12 .s10 x v fun x => k (.mk a0 a1 a2 a3 a4 a5 a6 a7 x)) t v k
noncomputable def se12_11 : ST := fun t v k => Fm.rec (motive := fun _ => AV → (Fm → RR) → RR) (fun a0 a1 a2 a3 a4 a5 a6 a7 x v k => set2 .s12 .s11 x v fun x => k (.mk a0 a1 a2 a3 a4 a5 a6 a7 x)) t v k
noncomputable def se12_12 : ST := fun t v k => Fm.rec (motive := fun _ => AV → (Fm → RR) → RR) (fun a0 a1 a2 a3 a4 a5 a6 a7 x v k => set2 .s12 .s12 x v fun x => k (.mk a0 a1 a2 a3 a4 a5 a6 a7 x)) t v k
noncomputable def se12_13 : ST := fun t v k => Fm.rec (motive := fun _ => AV → (Fm → RR) → RR) (fun a0 a1 a2 a3 a4 a5 a6 a7 x v k => set2 .s12 .s13 x v fun x => k (.mk a0 a1 a2 a3 a4 a5 a6 a7 x)) t v k
noncomputable def se12_14 : ST := fun t v k => Fm.rec (motive := fun _ => AV → (Fm → RR) → RR) (fun a0 a1 a2 a3 a4 a5 a6 a7 x v k => set2 .s12 .s14 x v fun x => k (.mk a0 a1 a2 a3 a4 a5 a6 a7 x)) t v k
noncomputable def se12_15 : ST := fun t v k => Fm.rec (motive := fun _ => AV → (Fm → RR) → RR) (fun a0 a1 a2 a3 a4 a5 a6 a7 x v k => set2 .s12 .s15 x v fun x => k (.mk a0 a1 a2 a3 a4 a5 a6 a7 x)) t v k
noncomputable def se13_0 : ST := fun t v k => Fm.rec (motive := fun _ => AV → (Fm → RR) → RR) (fun a0 a1 a2 a3 a4 a5 a6 a7 x v k => set2 .s13 .s0 x v fun x => k (.mk a0 a1 a2 a3 a4 a5 a6 a7 x)) t v k
noncomputable def se13_1 : ST := fun t v k => Fm.rec (motive := fun _ => AV → (Fm → RR) → RR) (fun a0 a1 a2 a3 a4 a5 a6 a7 x v k => set2 .s13 .s1 x v fun x => k (.mk a0 a1 a2 a3 a4 a5 a6 a7 x)) t v k
noncomputable def se13_2 : ST := fun t v k => Fm.rec (motive := fun _ => AV → (Fm → RR) → RR) (fun a0 a1 a2 a3 a4 a5 a6 a7 x v k => set2 .s13 .s2 x v fun x => k (.mk a0 a1 a2 a3 a4 a5 a6 a7 x)) t v k
noncomputable def se13_3 : ST := fun t v k => Fm.rec (motive := fun _ => AV → (Fm → RR) → RR) (fun a0 a1 a2 a3 a4 a5 a6 a7 x v k => set2 .s13 .s3 x v fun x => k (.mk a0 a1 a2 a3 a4 a5 a6 a7 x)) t v k
noncomputable def se13_4 : ST := fun t v k => Fm.rec (motive := fun _ => AV → (Fm → RR) → RR) (fun a0 a1 a2 a3 a4 a5 a6 a7 x v k => set2 .s13 .s4 x v fun x => k (.mk a0 a1 a2 a3 a4 a5 a6 a7 x)) t v k
noncomputable def se13_5 : ST := fun t v k => Fm.rec (motive := fun _ => AV → (Fm → RR) → RR) (fun a0 a1 a2 a3 a4 a5 a6 a7 x v k => set2 .s13 .s5 x v fun x => k (.mk a0 a1 a2 a3 a4 a5 a6 a7 x)) t v k
noncomputable def se13_6 : ST := fun t v k => Fm.rec (motive := fun _ => AV → (Fm → RR) → RR) (fun a0 a1 a2 a3 a4 a5 a6 a7 x v k => set2 .s13 .s6 x v fun x => k (.mk a0 a1 a2 a3 a4 a5 a6 a7 x)) t v k
noncomputable def se13_7 : ST := fun t v k => Fm.rec (motive := fun _ => AV → (Fm → RR) → RR) (fun a0 a1 a2 a3 a4 a5 a6 a7 x v k => set2 .s13 .s7 x v fun x => k (.mk a0 a1 a2 a3 a4 a5 a6 a7 x)) t v k
noncomputable def se13_8 : ST := fun t v k => Fm.rec (motive := fun _ => AV → (Fm → RR) → RR) (fun a0 a1 a2 a3 a4 a5 a6 a7 x v k => set2 .s13 .s8 x v fun x => k (.mk a0 a1 a2 a3 a4 a5 a6 a7 x)) t v k
noncomputable def se13_9 : ST := fun t v k => Fm.rec (motive := fun _ => AV → (Fm → RR) → RR) (fun a0 a1 a2 a3 a4 a5 a6 a7 x v k => set2 .s13 .s9 x v fun x => k (.mk a0 a1 a2 a3 a4 a5 a6 a7 x)) t v k
noncomputable def se13_10 : ST := fun t v k => Fm.rec (motive := fun _ => AV → (Fm → RR) → RR) (fun a0 a1 a2 a3 a4 a5 a6 a7 x v k => set2 .s13 .s10 x v fun x => k (.mk a0 a1 a2 a3 a4 a5 a6 a7 x)) t v k
noncomputable def se13_11 : ST := fun t v k => Fm.rec (motive := fun _ => AV → (Fm → RR) → RR) (fun a0 a1 a2 a3 a4 a5 a6 a7 x v k => set2 .s13 .s11 x v fun x => k (.mk a0 a1 a2 a3 a4 a5 a6 a7 x)) t v k
noncomputable def se13_12 : ST := fun t v k => Fm.rec (motive := fun _ => AV → (Fm → RR) → RR) (fun a0 a1 a2 a3 a4 a5 a6 a7 x v k => set2 .s13 .s12 x v fun x => k (.mk a0 a1 a2 a3 a4 a5 a6 a7 x)) t v k
noncomputable def se13_13 : ST := fun t v k => Fm.rec (motive := fun _ => AV → (Fm → RR) → RR) (fun a0 a1 a2 a3 a4 a5 a6 a7 x v k => set2 .s13 .s13 x v fun x => k (.mk a0 a1 a2 a3 a4 a5 a6 a7 x)) t v k
noncomputable def se13_14 : ST := fun t v k => Fm.rec (motive := fun _ => AV → (Fm → RR) → RR) (fun a0 a1 a2 a3 a4 a5 a6 a7 x v k => set2 .s13 .s14 x v fun x => k (.mk a0 a1 a2 a3 a4 a5 a6 a7 x)) t v k
noncomputable def se13_15 : ST := fun t v k => Fm.rec (motive := fun _ => AV → (Fm → RR) → RR) (fun a0 a1 a2 a3 a4 a5 a6 a7 x v k => set2 .s13 .s15 x v fun x => k (.mk a0 a1 a2 a3 a4 a5 a6 a7 x)) t v k
noncomputable def se14_0 : ST := fun t v k => Fm.rec (motive := fun _ => AV → (Fm → RR) → RR) (fun a0 a1 a2 a3 a4 a5 a6 a7 x v k => set2 .s14 .s0 x v fun x => k (.mk a0 a1 a2 a3 a4 a5 a6 a7 x)) t v k
noncomputable def se14_1 : ST := fun t v k => Fm.rec (motive := fun _ => AV → (Fm → RR) → RR) (fun a0 a1 a2 a3 a4 a5 a6 a7 x v k => set2 .s14 .s1 x v fun x => k (.mk a0 a1 a2 a3 a4 a5 a6 a7 x)) t v k
noncomputable def se14_2 : ST := fun t v k => Fm.rec (motive := fun _ => AV → (Fm → RR) → RR) (fun a0 a1 a2 a3 a4 a5 a6 a7 x v k => set2 .s14 .s2 x v fun x => k (.mk a0 a1 a2 a3 a4 a5 a6 a7 x)) t v k
noncomputable def se14_3 : ST := fun t v k => Fm.rec (motive := fun _ => AV → (Fm → RR) → RR) (fun a0 a1 a2 a3 a4 a5 a6 a7 x v k => set2 .s14 .s3 x v fun x => k (.mk a0 a1 a2 a3 a4 a5 a6 a7 x)) t v k
noncomputable def se14_4 : ST := fun t v k => Fm.rec (motive := fun _ => AV → (Fm → RR) → RR) (fun a0 a1 a2 a3 a4 a5 a6 a7 x v k => set2 .s14 .s4 x v fun x => k (.mk a0 a1 a2 a3 a4 a5 a6 a7 x)) t v k
noncomputable def se14_5 : ST := fun t v k => Fm.rec (motive := fun _ => AV → (Fm → RR) → RR) (fun a0 a1 a2 a3 a4 a5 a6 a7 x v k => set2 .s14 .s5 x v fun x => k (.mk a0 a1 a2 a3 a4 a5 a6 a7 x)) t v k
noncomputable def se14_6 : ST := fun t v k => Fm.rec (motive := fun _ => AV → (Fm → RR) → RR) (fun a0 a1 a2 a3 a4 a5 a6 a7 x v k => set2 .s14 .s6 x v fun x => k (.mk a0 a1 a2 a3 a4 a5 a6 a7 x)) t v k
noncomputable def se14_7 : ST := fun t v k => Fm.rec (motive := fun _ => AV → (Fm → RR) → RR) (fun a0 a1 a2 a3 a4 a5 a6 a7 x v k => set2 .s14 .s7 x v fun x => k (.mk a0 a1 a2 a3 a4 a5 a6 a7 x)) t v k
noncomputable def se14_8 : ST := fun t v k => Fm.rec (motive := fun _ => AV → (Fm → RR) → RR) (fun a0 a1 a2 a3 a4 a5 a6 a7 x v k => set2 .s14 .s8 x v fun x => k (.mk a0 a1 a2 a3 a4 a5 a6 a7 x)) t v k
noncomputable def se14_9 : ST := fun t v k => Fm.rec (motive := fun _ => AV → (Fm → RR) → RR) (fun a0 a1 a2 a3 a4 a5 a6 a7 x v k => set2 .s14 .s9 x v fun x => k (.mk a0 a1 a2 a3 a4 a5 a6 a7 x)) t v k
noncomputable def se14_10 : ST := fun t v k => Fm.rec (motive := fun _ => AV → (Fm → RR) → RR) (fun a0 a1 a2 a3 a4 a5 a6 a7 x v k => set2 .s14 .s10 x v fun x => k (.mk a0 a1 a2 a3 a4 a5 a6 a7 x)) t v k
noncomputable def se14_11 : ST := fun t v k => Fm.rec (motive := fun _ => AV → (Fm → RR) → RR) (fun a0 a1 a2 a3 a4 a5 a6 a7 x v k => set2 .s14 .s11 x v fun x => k (.mk a0 a1 a2 a3 a4 a5 a6 a7 x)) t v k
noncomputable def se14_12 : ST := fun t v k => Fm.rec (motive := fun _ => AV → (Fm → RR) → RR) (fun a0 a1 a2 a3 a4 a5 a6 a7 x v k => set2 .s14 .s12 x v fun x => k (.mk a0 a1 a2 a3 a4 a5 a6 a7 x)) t v k
noncomputable def se14_13 : ST := fun t v k => Fm.rec (motive := fun _ => AV → (Fm → RR) → RR) (fun a0 a1 a2 a3 a4 a5 a6 a7 x v k => set2 .s14 .s13 x v fun x => k (.mk a0 a1 a2 a3 a4 a5 a6 a7 x)) t v k
noncomputable def se14_14 : ST := fun t v k => Fm.rec (motive := fun _ => AV → (Fm → RR) → RR) (fun a0 a1 a2 a3 a4 a5 a6 a7 x v k => set2 .s14 .s14 x v fun x => k (.mk a0 a1 a2 a3 a4 a5 a6 a7 x)) t v k
noncomputable def se14_15 : ST := fun t v k => Fm.rec (motive := fun _ => AV → (Fm → RR) → RR) (fun a0 a1 a2 a3 a4 a5 a6 a7 x v k => set2 .s14 .s15 x v fun x => k (.mk a0 a1 a2 a3 a4 a5 a6 a7 x)) t v k
noncomputable def se15_0 : ST := fun t v k => Fm.rec (motive := fun _ => AV → (Fm → RR) → RR) (fun a0 a1 a2 a3 a4 a5 a6 a7 x v k => set2 .s15 .s0 x v fun x => k (.mk a0 a1 a2 a3 a4 a5 a6 a7 x)) t v k
noncomputable def se15_1 : ST := fun t v k => Fm.rec (motive := fun _ => AV → (Fm → RR) → RR) (fun a0 a1 a2 a3 a4 a5 a6 a7 x v k => set2 .s15 .s1 x v fun x => k (.mk a0 a1 a2 a3 a4 a5 a6 a7 x)) t v k
noncomputable def se15_2 : ST := fun t v k => Fm.rec (motive := fun _ => AV → (Fm → RR) → RR) (fun a0 a1 a2 a3 a4 a5 a6 a7 x v k => set2 .s15 .s2 x v fun x => k (.mk a0 a1 a2 a3 a4 a5 a6 a7 x)) t v k
noncomputable def se15_3 : ST := fun t v k => Fm.rec (motive := fun _ => AV → (Fm → RR) → RR) (fun a0 a1 a2 a3 a4 a5 a6 a7 x v k => set2 .s15 .s3 x v fun x => k (.mk a0 a1 a2 a3 a4 a5 a6 a7 x)) t v k
noncomputable def se15_4 : ST := fun t v k => Fm.rec (motive := fun _ => AV → (Fm → RR) → RR) (fun a0 a1 a2 a3 a4 a5 a6 a7 x v k => set2 .s15 .s4 x v fun x => k (.mk a0 a1 a2 a3 a4 a5 a6 a7 x)) t v k
noncomputable def se15_5 : ST := fun t v k => Fm.rec (motive := fun _ => AV → (Fm → RR) → RR) (fun a0 a1 a2 a3 a4 a5 a6 a7 x v k => set2 .s15 .s5 x v fun x => k (.mk a0 a1 a2 a3 a4 a5 a6 a7 x)) t v k
noncomputable def se15_6 : ST := fun t v k => Fm.rec (motive := fun _ => AV → (Fm → RR) → RR) (fun a0 a1 a2 a3 a4 a5 a6 a7 x v k => set2 .s15 .s6 x v fun x => k (.mk a0 a1 a2 a3 a4 a5 a6 a7 x)) t v k
noncomputable def se15_7 : ST := fun t v k => Fm.rec (motive := fun _ => AV → (Fm → RR) → RR) (fun a0 a1 a2 a3 a4 a5 a6 a7 x v k => set2 .s15 .s7 x v fun x => k (.mk a0 a1 a2 a3 a4 a5 a6 a7 x)) t v k
noncomputable def se15_8 : ST := fun t v k => Fm.rec (motive := fun _ => AV → (Fm → RR) → RR) (fun a0 a1 a2 a3 a4 a5 a6 a7 x v k => set2 .s15 .s8 x v fun x => k (.mk a0 a1 a2 a3 a4 a5 a6 a7 x)) t v k
noncomputable def se15_9 : ST := fun t v k => Fm.rec (motive := fun _ => AV → (Fm → RR) → RR) (fun a0 a1 a2 a3 a4 a5 a6 a7 x v k => set2 .s15 .s9 x v fun x => k (.mk a0 a1 a2 a3 a4 a5 a6 a7 x)) t v k
noncomputable def se15_10 : ST := fun t v k => Fm.rec (motive := fun _ => AV → (Fm → RR) → RR) (fun a0 a1 a2 a3 a4 a5 a6 a7 x v k => set2 .s15 .s10 x v fun x => k (.mk a0 a1 a2 a3 a4 a5 a6 a7 x)) t v k
noncomputable def se15_11 : ST := fun t v k => Fm.rec (motive := fun _ => AV → (Fm → RR) → RR) (fun a0 a1 a2 a3 a4 a5 a6 a7 x v k => set2 .s15 .s11 x v fun x => k (.mk a0 a1 a2 a3 a4 a5 a6 a7 x)) t v k
noncomputable def se15_12 : ST := fun t v k => Fm.rec (motive := fun _ => AV → (Fm → RR) → RR) (fun a0 a1 a2 a3 a4 a5 a6 a7 x v k => set2 .s15 .s12 x v fun x => k (.mk a0 a1 a2 a3 a4 a5 a6 a7 x)) t v k
noncomputable def se15_13 : ST := fun t v k => Fm.rec (motive := fun _ => AV → (Fm → RR) → RR) (fun a0 a1 a2 a3 a4 a5 a6 a7 x v k => set2 .s15 .s13 x v fun x => k (.mk a0 a1 a2 a3 a4 a5 a6 a7 x)) t v k
noncomputable def se15_14 : ST := fun t v k => Fm.rec (motive := fun _ => AV → (Fm → RR) → RR) (fun a0 a1 a2 a3 a4 a5 a6 a7 x v k => set2 .s15 .s14 x v fun x => k (.mk a0 a1 a2 a3 a4 a5 a6 a7 x)) t v k
noncomputable def se15_15 : ST := fun t v k => Fm.rec (motive := fun _ => AV → (Fm → RR) → RR) (fun a0 a1 a2 a3 a4 a5 a6 a7 x v k => set2 .s15 .s15 x v fun x => k (.mk a0 a1 a2 a3 a4 a5 a6 a7 x)) t v k

/-- A value made plain. -/
noncomputable def fAV (v : AV) (k : AV → RR) : RR := AV.rec (motive := fun _ => (AV → RR) → RR) (fun s k => k (.one s)) (fun l k => k (.ag l)) (fun l k => k (.tp l)) v k

noncomputable def keq (a b : IntKind) : Bool := IntKind.rec (motive := fun _ => IntKind → Bool)
  (fun b => IntKind.rec (motive := fun _ => Bool) true false false false false false false false b)
  (fun b => IntKind.rec (motive := fun _ => Bool) false true false false false false false false b)
  (fun b => IntKind.rec (motive := fun _ => Bool) false false true false false false false false b)
  (fun b => IntKind.rec (motive := fun _ => Bool) false false false true false false false false b)
  (fun b => IntKind.rec (motive := fun _ => Bool) false false false false true false false false b)
  (fun b => IntKind.rec (motive := fun _ => Bool) false false false false false true false false b)
  (fun b => IntKind.rec (motive := fun _ => Bool) false false false false false false true false b)
  (fun b => IntKind.rec (motive := fun _ => Bool) false false false false false false false true b)
  a b
/-- The greatest number of a kind. -/
noncomputable def lim (a : IntKind) : Nat := IntKind.rec (motive := fun _ => Nat) 127 32767 2147483647 9223372036854775807 255 65535 4294967295 18446744073709551615 a
noncomputable def ltF (a b : Int) : Bool := Int.rec (motive := fun _ => Int → Bool)
  (fun m b => Int.rec (motive := fun _ => Nat → Bool) (fun n m => Nat.ble (Nat.succ m) n) (fun _ _ => false) b m)
  (fun m b => Int.rec (motive := fun _ => Nat → Bool) (fun _ _ => true) (fun n m => Nat.ble (Nat.succ n) m) b m) a b
noncomputable def eqF (a b : Int) : Bool := Int.rec (motive := fun _ => Int → Bool)
  (fun m b => Int.rec (motive := fun _ => Nat → Bool) (fun n m => Nat.beq m n) (fun _ _ => false) b m)
  (fun m b => Int.rec (motive := fun _ => Nat → Bool) (fun _ _ => false) (fun n m => Nat.beq m n) b m) a b
/-- A number's value, if it is of its kind as it is; else the other road. -/
noncomputable def fitN (s : Nat) (kd : IntKind) (no : RR) (k : Int → RR) : RR :=
  Nat.rec (motive := fun _ => IntKind → RR → (Int → RR) → RR) (fun _ _ k => k (Int.ofNat 0)) (fun p _ kd no k => Bool.rec (motive := fun _ => RR) no (k (Int.ofNat (Nat.succ p))) (Nat.ble (Nat.succ p) (lim kd))) s kd no k
noncomputable def addF (a b : Int) (kd : IntKind) (no : RR) (k : Int → RR) : RR := Int.rec (motive := fun _ => Int → IntKind → RR → (Int → RR) → RR)
  (fun m b kd no k => Int.rec (motive := fun _ => Nat → IntKind → RR → (Int → RR) → RR) (fun n m kd no k => fitN (Nat.add m n) kd no k) (fun _ _ _ no _ => no) b m kd no k)
  (fun _ _ _ no _ => no) a b kd no k
noncomputable def subF (a b : Int) (kd : IntKind) (no : RR) (k : Int → RR) : RR := Int.rec (motive := fun _ => Int → IntKind → RR → (Int → RR) → RR)
  (fun m b kd no k => Int.rec (motive := fun _ => Nat → IntKind → RR → (Int → RR) → RR) (fun n m kd no k => Bool.rec (motive := fun _ => RR) no (fitN (Nat.sub m n) kd no k) (Nat.ble n m)) (fun _ _ _ no _ => no) b m kd no k)
  (fun _ _ _ no _ => no) a b kd no k
noncomputable def yesF (b : Bool) (k : AV → RR) : RR := Bool.rec (motive := fun _ => (AV → RR) → RR) (fun k => k (.one (.bool false))) (fun k => k (.one (.bool true))) b k
noncomputable def notF (b : Bool) (k : AV → RR) : RR := Bool.rec (motive := fun _ => (AV → RR) → RR) (fun k => k (.one (.bool true))) (fun k => k (.one (.bool false))) b k
/-- An operation on numbers, whatever they are. -/
noncomputable def anyBin (op : BinOp) (x y : AV) (orc : Orc RR) (k : AV → RR) : RR := oBin orc zz [] [] 0 op (.c x) (.c y) fun v _ _ => k v

noncomputable def p1_add (kd : IntKind) (a : Int) (y : AV) (orc : Orc RR) (k : AV → RR) : RR := AV.rec (motive := fun _ => IntKind → Int → Orc RR → (AV → RR) → RR)
    (fun s kd a orc k => SV.rec (motive := fun _ => IntKind → Int → Orc RR → (AV → RR) → RR)
      (fun _ _ _ _ => zz)
      (fun kd' b kd a _ k => Bool.rec (motive := fun _ => RR) zz (addF a b kd (binI .add kd a b zz fun r => k (.one r)) fun x => k (.one (.int kd x))) (keq kd kd'))
      (fun _ _ _ _ _ => zz)
      (fun _ _ _ _ _ => zz)
      (fun _ _ _ _ => zz)
      (fun _ _ _ _ => zz)
      (fun _ _ _ _ => zz)
      (fun _ _ _ _ _ _ => zz)
      (fun _ _ _ _ _ _ _ _ _ => zz)
      (fun _ _ _ _ => zz)
      (fun _ _ _ _ => zz)
      (fun _ _ _ _ _ _ => zz)
      (fun kd' j kd a orc k => anyBin .add (.one (.int kd a)) (.one (.sym kd' j)) orc k) s kd a orc k)
    (fun _ _ _ _ _ => zz) (fun _ _ _ _ _ => zz) y kd a orc k
noncomputable def p_add (x y : AV) (orc : Orc RR) (k : AV → RR) : RR := AV.rec (motive := fun _ => AV → Orc RR → (AV → RR) → RR)
    (fun s y orc k => SV.rec (motive := fun _ => AV → Orc RR → (AV → RR) → RR)
      (fun _ _ _ => zz)
      (fun kd a y orc k => p1_add kd a y orc k)
      (fun _ _ _ _ => zz)
      (fun _ _ _ _ => zz)
      (fun _ _ _ => zz)
      (fun _ _ _ => zz)
      (fun _ _ _ => zz)
      (fun _ _ _ _ _ => zz)
      (fun _ _ _ _ _ _ _ _ => zz)
      (fun _ _ _ => zz)
      (fun _ _ _ => zz)
      (fun _ _ _ _ _ => zz)
      (fun kd i y orc k => anyBin .add (.one (.sym kd i)) y orc k) s y orc k)
    (fun _ _ _ _ => zz) (fun _ _ _ _ => zz) x y orc k
noncomputable def p1_sub (kd : IntKind) (a : Int) (y : AV) (orc : Orc RR) (k : AV → RR) : RR := AV.rec (motive := fun _ => IntKind → Int → Orc RR → (AV → RR) → RR)
    (fun s kd a orc k => SV.rec (motive := fun _ => IntKind → Int → Orc RR → (AV → RR) → RR)
      (fun _ _ _ _ => zz)
      (fun kd' b kd a _ k => Bool.rec (motive := fun _ => RR) zz (subF a b kd (binI .sub kd a b zz fun r => k (.one r)) fun x => k (.one (.int kd x))) (keq kd kd'))
      (fun _ _ _ _ _ => zz)
      (fun _ _ _ _ _ => zz)
      (fun _ _ _ _ => zz)
      (fun _ _ _ _ => zz)
      (fun _ _ _ _ => zz)
      (fun _ _ _ _ _ _ => zz)
      (fun _ _ _ _ _ _ _ _ _ => zz)
      (fun _ _ _ _ => zz)
      (fun _ _ _ _ => zz)
      (fun _ _ _ _ _ _ => zz)
      (fun kd' j kd a orc k => anyBin .sub (.one (.int kd a)) (.one (.sym kd' j)) orc k) s kd a orc k)
    (fun _ _ _ _ _ => zz) (fun _ _ _ _ _ => zz) y kd a orc k
noncomputable def p_sub (x y : AV) (orc : Orc RR) (k : AV → RR) : RR := AV.rec (motive := fun _ => AV → Orc RR → (AV → RR) → RR)
    (fun s y orc k => SV.rec (motive := fun _ => AV → Orc RR → (AV → RR) → RR)
      (fun _ _ _ => zz)
      (fun kd a y orc k => p1_sub kd a y orc k)
      (fun _ _ _ _ => zz)
      (fun _ _ _ _ => zz)
      (fun _ _ _ => zz)
      (fun _ _ _ => zz)
      (fun _ _ _ => zz)
      (fun _ _ _ _ _ => zz)
      (fun _ _ _ _ _ _ _ _ => zz)
      (fun _ _ _ => zz)
      (fun _ _ _ => zz)
      (fun _ _ _ _ _ => zz)
      (fun kd i y orc k => anyBin .sub (.one (.sym kd i)) y orc k) s y orc k)
    (fun _ _ _ _ => zz) (fun _ _ _ _ => zz) x y orc k
noncomputable def p1_mul (kd : IntKind) (a : Int) (y : AV) (orc : Orc RR) (k : AV → RR) : RR := AV.rec (motive := fun _ => IntKind → Int → Orc RR → (AV → RR) → RR)
    (fun s kd a orc k => SV.rec (motive := fun _ => IntKind → Int → Orc RR → (AV → RR) → RR)
      (fun _ _ _ _ => zz)
      (fun kd' b kd a _ k => Bool.rec (motive := fun _ => RR) zz (binI .mul kd a b zz fun r => k (.one r)) (keq kd kd'))
      (fun _ _ _ _ _ => zz)
      (fun _ _ _ _ _ => zz)
      (fun _ _ _ _ => zz)
      (fun _ _ _ _ => zz)
      (fun _ _ _ _ => zz)
      (fun _ _ _ _ _ _ => zz)
      (fun _ _ _ _ _ _ _ _ _ => zz)
      (fun _ _ _ _ => zz)
      (fun _ _ _ _ => zz)
      (fun _ _ _ _ _ _ => zz)
      (fun kd' j kd a orc k => anyBin .mul (.one (.int kd a)) (.one (.sym kd' j)) orc k) s kd a orc k)
    (fun _ _ _ _ _ => zz) (fun _ _ _ _ _ => zz) y kd a orc k
noncomputable def p_mul (x y : AV) (orc : Orc RR) (k : AV → RR) : RR := AV.rec (motive := fun _ => AV → Orc RR → (AV → RR) → RR)
    (fun s y orc k => SV.rec (motive := fun _ => AV → Orc RR → (AV → RR) → RR)
      (fun _ _ _ => zz)
      (fun kd a y orc k => p1_mul kd a y orc k)
      (fun _ _ _ _ => zz)
      (fun _ _ _ _ => zz)
      (fun _ _ _ => zz)
      (fun _ _ _ => zz)
      (fun _ _ _ => zz)
      (fun _ _ _ _ _ => zz)
      (fun _ _ _ _ _ _ _ _ => zz)
      (fun _ _ _ => zz)
      (fun _ _ _ => zz)
      (fun _ _ _ _ _ => zz)
      (fun kd i y orc k => anyBin .mul (.one (.sym kd i)) y orc k) s y orc k)
    (fun _ _ _ _ => zz) (fun _ _ _ _ => zz) x y orc k
noncomputable def p1_quo (kd : IntKind) (a : Int) (y : AV) (orc : Orc RR) (k : AV → RR) : RR := AV.rec (motive := fun _ => IntKind → Int → Orc RR → (AV → RR) → RR)
    (fun s kd a orc k => SV.rec (motive := fun _ => IntKind → Int → Orc RR → (AV → RR) → RR)
      (fun _ _ _ _ => zz)
      (fun kd' b kd a _ k => Bool.rec (motive := fun _ => RR) zz (binI .quo kd a b zz fun r => k (.one r)) (keq kd kd'))
      (fun _ _ _ _ _ => zz)
      (fun _ _ _ _ _ => zz)
      (fun _ _ _ _ => zz)
      (fun _ _ _ _ => zz)
      (fun _ _ _ _ => zz)
      (fun _ _ _ _ _ _ => zz)
      (fun _ _ _ _ _ _ _ _ _ => zz)
      (fun _ _ _ _ => zz)
      (fun _ _ _ _ => zz)
      (fun _ _ _ _ _ _ => zz)
      (fun kd' j kd a orc k => anyBin .quo (.one (.int kd a)) (.one (.sym kd' j)) orc k) s kd a orc k)
    (fun _ _ _ _ _ => zz) (fun _ _ _ _ _ => zz) y kd a orc k
noncomputable def p_quo (x y : AV) (orc : Orc RR) (k : AV → RR) : RR := AV.rec (motive := fun _ => AV → Orc RR → (AV → RR) → RR)
    (fun s y orc k => SV.rec (motive := fun _ => AV → Orc RR → (AV → RR) → RR)
      (fun _ _ _ => zz)
      (fun kd a y orc k => p1_quo kd a y orc k)
      (fun _ _ _ _ => zz)
      (fun _ _ _ _ => zz)
      (fun _ _ _ => zz)
      (fun _ _ _ => zz)
      (fun _ _ _ => zz)
      (fun _ _ _ _ _ => zz)
      (fun _ _ _ _ _ _ _ _ => zz)
      (fun _ _ _ => zz)
      (fun _ _ _ => zz)
      (fun _ _ _ _ _ => zz)
      (fun kd i y orc k => anyBin .quo (.one (.sym kd i)) y orc k) s y orc k)
    (fun _ _ _ _ => zz) (fun _ _ _ _ => zz) x y orc k
noncomputable def p1_rem (kd : IntKind) (a : Int) (y : AV) (orc : Orc RR) (k : AV → RR) : RR := AV.rec (motive := fun _ => IntKind → Int → Orc RR → (AV → RR) → RR)
    (fun s kd a orc k => SV.rec (motive := fun _ => IntKind → Int → Orc RR → (AV → RR) → RR)
      (fun _ _ _ _ => zz)
      (fun kd' b kd a _ k => Bool.rec (motive := fun _ => RR) zz (binI .rem kd a b zz fun r => k (.one r)) (keq kd kd'))
      (fun _ _ _ _ _ => zz)
      (fun _ _ _ _ _ => zz)
      (fun _ _ _ _ => zz)
      (fun _ _ _ _ => zz)
      (fun _ _ _ _ => zz)
      (fun _ _ _ _ _ _ => zz)
      (fun _ _ _ _ _ _ _ _ _ => zz)
      (fun _ _ _ _ => zz)
      (fun _ _ _ _ => zz)
      (fun _ _ _ _ _ _ => zz)
      (fun kd' j kd a orc k => anyBin .rem (.one (.int kd a)) (.one (.sym kd' j)) orc k) s kd a orc k)
    (fun _ _ _ _ _ => zz) (fun _ _ _ _ _ => zz) y kd a orc k
noncomputable def p_rem (x y : AV) (orc : Orc RR) (k : AV → RR) : RR := AV.rec (motive := fun _ => AV → Orc RR → (AV → RR) → RR)
    (fun s y orc k => SV.rec (motive := fun _ => AV → Orc RR → (AV → RR) → RR)
      (fun _ _ _ => zz)
      (fun kd a y orc k => p1_rem kd a y orc k)
      (fun _ _ _ _ => zz)
      (fun _ _ _ _ => zz)
      (fun _ _ _ => zz)
      (fun _ _ _ => zz)
      (fun _ _ _ => zz)
      (fun _ _ _ _ _ => zz)
      (fun _ _ _ _ _ _ _ _ => zz)
      (fun _ _ _ => zz)
      (fun _ _ _ => zz)
      (fun _ _ _ _ _ => zz)
      (fun kd i y orc k => anyBin .rem (.one (.sym kd i)) y orc k) s y orc k)
    (fun _ _ _ _ => zz) (fun _ _ _ _ => zz) x y orc k
noncomputable def p1_and (kd : IntKind) (a : Int) (y : AV) (orc : Orc RR) (k : AV → RR) : RR := AV.rec (motive := fun _ => IntKind → Int → Orc RR → (AV → RR) → RR)
    (fun s kd a orc k => SV.rec (motive := fun _ => IntKind → Int → Orc RR → (AV → RR) → RR)
      (fun _ _ _ _ => zz)
      (fun kd' b kd a _ k => Bool.rec (motive := fun _ => RR) zz (binI .and kd a b zz fun r => k (.one r)) (keq kd kd'))
      (fun _ _ _ _ _ => zz)
      (fun _ _ _ _ _ => zz)
      (fun _ _ _ _ => zz)
      (fun _ _ _ _ => zz)
      (fun _ _ _ _ => zz)
      (fun _ _ _ _ _ _ => zz)
      (fun _ _ _ _ _ _ _ _ _ => zz)
      (fun _ _ _ _ => zz)
      (fun _ _ _ _ => zz)
      (fun _ _ _ _ _ _ => zz)
      (fun kd' j kd a orc k => anyBin .and (.one (.int kd a)) (.one (.sym kd' j)) orc k) s kd a orc k)
    (fun _ _ _ _ _ => zz) (fun _ _ _ _ _ => zz) y kd a orc k
noncomputable def p_and (x y : AV) (orc : Orc RR) (k : AV → RR) : RR := AV.rec (motive := fun _ => AV → Orc RR → (AV → RR) → RR)
    (fun s y orc k => SV.rec (motive := fun _ => AV → Orc RR → (AV → RR) → RR)
      (fun _ _ _ => zz)
      (fun kd a y orc k => p1_and kd a y orc k)
      (fun _ _ _ _ => zz)
      (fun _ _ _ _ => zz)
      (fun _ _ _ => zz)
      (fun _ _ _ => zz)
      (fun _ _ _ => zz)
      (fun _ _ _ _ _ => zz)
      (fun _ _ _ _ _ _ _ _ => zz)
      (fun _ _ _ => zz)
      (fun _ _ _ => zz)
      (fun _ _ _ _ _ => zz)
      (fun kd i y orc k => anyBin .and (.one (.sym kd i)) y orc k) s y orc k)
    (fun _ _ _ _ => zz) (fun _ _ _ _ => zz) x y orc k
noncomputable def p1_or (kd : IntKind) (a : Int) (y : AV) (orc : Orc RR) (k : AV → RR) : RR := AV.rec (motive := fun _ => IntKind → Int → Orc RR → (AV → RR) → RR)
    (fun s kd a orc k => SV.rec (motive := fun _ => IntKind → Int → Orc RR → (AV → RR) → RR)
      (fun _ _ _ _ => zz)
      (fun kd' b kd a _ k => Bool.rec (motive := fun _ => RR) zz (binI .or kd a b zz fun r => k (.one r)) (keq kd kd'))
      (fun _ _ _ _ _ => zz)
      (fun _ _ _ _ _ => zz)
      (fun _ _ _ _ => zz)
      (fun _ _ _ _ => zz)
      (fun _ _ _ _ => zz)
      (fun _ _ _ _ _ _ => zz)
      (fun _ _ _ _ _ _ _ _ _ => zz)
      (fun _ _ _ _ => zz)
      (fun _ _ _ _ => zz)
      (fun _ _ _ _ _ _ => zz)
      (fun kd' j kd a orc k => anyBin .or (.one (.int kd a)) (.one (.sym kd' j)) orc k) s kd a orc k)
    (fun _ _ _ _ _ => zz) (fun _ _ _ _ _ => zz) y kd a orc k
noncomputable def p_or (x y : AV) (orc : Orc RR) (k : AV → RR) : RR := AV.rec (motive := fun _ => AV → Orc RR → (AV → RR) → RR)
    (fun s y orc k => SV.rec (motive := fun _ => AV → Orc RR → (AV → RR) → RR)
      (fun _ _ _ => zz)
      (fun kd a y orc k => p1_or kd a y orc k)
      (fun _ _ _ _ => zz)
      (fun _ _ _ _ => zz)
      (fun _ _ _ => zz)
      (fun _ _ _ => zz)
      (fun _ _ _ => zz)
      (fun _ _ _ _ _ => zz)
      (fun _ _ _ _ _ _ _ _ => zz)
      (fun _ _ _ => zz)
      (fun _ _ _ => zz)
      (fun _ _ _ _ _ => zz)
      (fun kd i y orc k => anyBin .or (.one (.sym kd i)) y orc k) s y orc k)
    (fun _ _ _ _ => zz) (fun _ _ _ _ => zz) x y orc k
noncomputable def p1_xor (kd : IntKind) (a : Int) (y : AV) (orc : Orc RR) (k : AV → RR) : RR := AV.rec (motive := fun _ => IntKind → Int → Orc RR → (AV → RR) → RR)
    (fun s kd a orc k => SV.rec (motive := fun _ => IntKind → Int → Orc RR → (AV → RR) → RR)
      (fun _ _ _ _ => zz)
      (fun kd' b kd a _ k => Bool.rec (motive := fun _ => RR) zz (binI .xor kd a b zz fun r => k (.one r)) (keq kd kd'))
      (fun _ _ _ _ _ => zz)
      (fun _ _ _ _ _ => zz)
      (fun _ _ _ _ => zz)
      (fun _ _ _ _ => zz)
      (fun _ _ _ _ => zz)
      (fun _ _ _ _ _ _ => zz)
      (fun _ _ _ _ _ _ _ _ _ => zz)
      (fun _ _ _ _ => zz)
      (fun _ _ _ _ => zz)
      (fun _ _ _ _ _ _ => zz)
      (fun kd' j kd a orc k => anyBin .xor (.one (.int kd a)) (.one (.sym kd' j)) orc k) s kd a orc k)
    (fun _ _ _ _ _ => zz) (fun _ _ _ _ _ => zz) y kd a orc k
noncomputable def p_xor (x y : AV) (orc : Orc RR) (k : AV → RR) : RR := AV.rec (motive := fun _ => AV → Orc RR → (AV → RR) → RR)
    (fun s y orc k => SV.rec (motive := fun _ => AV → Orc RR → (AV → RR) → RR)
      (fun _ _ _ => zz)
      (fun kd a y orc k => p1_xor kd a y orc k)
      (fun _ _ _ _ => zz)
      (fun _ _ _ _ => zz)
      (fun _ _ _ => zz)
      (fun _ _ _ => zz)
      (fun _ _ _ => zz)
      (fun _ _ _ _ _ => zz)
      (fun _ _ _ _ _ _ _ _ => zz)
      (fun _ _ _ => zz)
      (fun _ _ _ => zz)
      (fun _ _ _ _ _ => zz)
      (fun kd i y orc k => anyBin .xor (.one (.sym kd i)) y orc k) s y orc k)
    (fun _ _ _ _ => zz) (fun _ _ _ _ => zz) x y orc k
noncomputable def p1_shl (kd : IntKind) (a : Int) (y : AV) (orc : Orc RR) (k : AV → RR) : RR := AV.rec (motive := fun _ => IntKind → Int → Orc RR → (AV → RR) → RR)
    (fun s kd a orc k => SV.rec (motive := fun _ => IntKind → Int → Orc RR → (AV → RR) → RR)
      (fun _ _ _ _ => zz)
      (fun kd' b kd a _ k => Bool.rec (motive := fun _ => RR) zz (binI .shl kd a b zz fun r => k (.one r)) (keq kd kd'))
      (fun _ _ _ _ _ => zz)
      (fun _ _ _ _ _ => zz)
      (fun _ _ _ _ => zz)
      (fun _ _ _ _ => zz)
      (fun _ _ _ _ => zz)
      (fun _ _ _ _ _ _ => zz)
      (fun _ _ _ _ _ _ _ _ _ => zz)
      (fun _ _ _ _ => zz)
      (fun _ _ _ _ => zz)
      (fun _ _ _ _ _ _ => zz)
      (fun kd' j kd a orc k => anyBin .shl (.one (.int kd a)) (.one (.sym kd' j)) orc k) s kd a orc k)
    (fun _ _ _ _ _ => zz) (fun _ _ _ _ _ => zz) y kd a orc k
noncomputable def p_shl (x y : AV) (orc : Orc RR) (k : AV → RR) : RR := AV.rec (motive := fun _ => AV → Orc RR → (AV → RR) → RR)
    (fun s y orc k => SV.rec (motive := fun _ => AV → Orc RR → (AV → RR) → RR)
      (fun _ _ _ => zz)
      (fun kd a y orc k => p1_shl kd a y orc k)
      (fun _ _ _ _ => zz)
      (fun _ _ _ _ => zz)
      (fun _ _ _ => zz)
      (fun _ _ _ => zz)
      (fun _ _ _ => zz)
      (fun _ _ _ _ _ => zz)
      (fun _ _ _ _ _ _ _ _ => zz)
      (fun _ _ _ => zz)
      (fun _ _ _ => zz)
      (fun _ _ _ _ _ => zz)
      (fun kd i y orc k => anyBin .shl (.one (.sym kd i)) y orc k) s y orc k)
    (fun _ _ _ _ => zz) (fun _ _ _ _ => zz) x y orc k
noncomputable def p1_shr (kd : IntKind) (a : Int) (y : AV) (orc : Orc RR) (k : AV → RR) : RR := AV.rec (motive := fun _ => IntKind → Int → Orc RR → (AV → RR) → RR)
    (fun s kd a orc k => SV.rec (motive := fun _ => IntKind → Int → Orc RR → (AV → RR) → RR)
      (fun _ _ _ _ => zz)
      (fun kd' b kd a _ k => Bool.rec (motive := fun _ => RR) zz (binI .shr kd a b zz fun r => k (.one r)) (keq kd kd'))
      (fun _ _ _ _ _ => zz)
      (fun _ _ _ _ _ => zz)
      (fun _ _ _ _ => zz)
      (fun _ _ _ _ => zz)
      (fun _ _ _ _ => zz)
      (fun _ _ _ _ _ _ => zz)
      (fun _ _ _ _ _ _ _ _ _ => zz)
      (fun _ _ _ _ => zz)
      (fun _ _ _ _ => zz)
      (fun _ _ _ _ _ _ => zz)
      (fun kd' j kd a orc k => anyBin .shr (.one (.int kd a)) (.one (.sym kd' j)) orc k) s kd a orc k)
    (fun _ _ _ _ _ => zz) (fun _ _ _ _ _ => zz) y kd a orc k
noncomputable def p_shr (x y : AV) (orc : Orc RR) (k : AV → RR) : RR := AV.rec (motive := fun _ => AV → Orc RR → (AV → RR) → RR)
    (fun s y orc k => SV.rec (motive := fun _ => AV → Orc RR → (AV → RR) → RR)
      (fun _ _ _ => zz)
      (fun kd a y orc k => p1_shr kd a y orc k)
      (fun _ _ _ _ => zz)
      (fun _ _ _ _ => zz)
      (fun _ _ _ => zz)
      (fun _ _ _ => zz)
      (fun _ _ _ => zz)
      (fun _ _ _ _ _ => zz)
      (fun _ _ _ _ _ _ _ _ => zz)
      (fun _ _ _ => zz)
      (fun _ _ _ => zz)
      (fun _ _ _ _ _ => zz)
      (fun kd i y orc k => anyBin .shr (.one (.sym kd i)) y orc k) s y orc k)
    (fun _ _ _ _ => zz) (fun _ _ _ _ => zz) x y orc k
noncomputable def p1_andNot (kd : IntKind) (a : Int) (y : AV) (orc : Orc RR) (k : AV → RR) : RR := AV.rec (motive := fun _ => IntKind → Int → Orc RR → (AV → RR) → RR)
    (fun s kd a orc k => SV.rec (motive := fun _ => IntKind → Int → Orc RR → (AV → RR) → RR)
      (fun _ _ _ _ => zz)
      (fun kd' b kd a _ k => Bool.rec (motive := fun _ => RR) zz (binI .andNot kd a b zz fun r => k (.one r)) (keq kd kd'))
      (fun _ _ _ _ _ => zz)
      (fun _ _ _ _ _ => zz)
      (fun _ _ _ _ => zz)
      (fun _ _ _ _ => zz)
      (fun _ _ _ _ => zz)
      (fun _ _ _ _ _ _ => zz)
      (fun _ _ _ _ _ _ _ _ _ => zz)
      (fun _ _ _ _ => zz)
      (fun _ _ _ _ => zz)
      (fun _ _ _ _ _ _ => zz)
      (fun kd' j kd a orc k => anyBin .andNot (.one (.int kd a)) (.one (.sym kd' j)) orc k) s kd a orc k)
    (fun _ _ _ _ _ => zz) (fun _ _ _ _ _ => zz) y kd a orc k
noncomputable def p_andNot (x y : AV) (orc : Orc RR) (k : AV → RR) : RR := AV.rec (motive := fun _ => AV → Orc RR → (AV → RR) → RR)
    (fun s y orc k => SV.rec (motive := fun _ => AV → Orc RR → (AV → RR) → RR)
      (fun _ _ _ => zz)
      (fun kd a y orc k => p1_andNot kd a y orc k)
      (fun _ _ _ _ => zz)
      (fun _ _ _ _ => zz)
      (fun _ _ _ => zz)
      (fun _ _ _ => zz)
      (fun _ _ _ => zz)
      (fun _ _ _ _ _ => zz)
      (fun _ _ _ _ _ _ _ _ => zz)
      (fun _ _ _ => zz)
      (fun _ _ _ => zz)
      (fun _ _ _ _ _ => zz)
      (fun kd i y orc k => anyBin .andNot (.one (.sym kd i)) y orc k) s y orc k)
    (fun _ _ _ _ => zz) (fun _ _ _ _ => zz) x y orc k
noncomputable def p1_eql (kd : IntKind) (a : Int) (y : AV) (orc : Orc RR) (k : AV → RR) : RR := AV.rec (motive := fun _ => IntKind → Int → Orc RR → (AV → RR) → RR)
    (fun s kd a orc k => SV.rec (motive := fun _ => IntKind → Int → Orc RR → (AV → RR) → RR)
      (fun _ _ _ _ => zz)
      (fun kd' b kd a _ k => Bool.rec (motive := fun _ => RR) zz (yesF (eqF a b) k) (keq kd kd'))
      (fun _ _ _ _ _ => zz)
      (fun _ _ _ _ _ => zz)
      (fun _ _ _ _ => zz)
      (fun _ _ _ _ => zz)
      (fun _ _ _ _ => zz)
      (fun _ _ _ _ _ _ => zz)
      (fun _ _ _ _ _ _ _ _ _ => zz)
      (fun _ _ _ _ => zz)
      (fun _ _ _ _ => zz)
      (fun _ _ _ _ _ _ => zz)
      (fun kd' j kd a orc k => anyBin .eql (.one (.int kd a)) (.one (.sym kd' j)) orc k) s kd a orc k)
    (fun _ _ _ _ _ => zz) (fun _ _ _ _ _ => zz) y kd a orc k
noncomputable def p_eql (x y : AV) (orc : Orc RR) (k : AV → RR) : RR := AV.rec (motive := fun _ => AV → Orc RR → (AV → RR) → RR)
    (fun s y orc k => SV.rec (motive := fun _ => AV → Orc RR → (AV → RR) → RR)
      (fun _ _ _ => zz)
      (fun kd a y orc k => p1_eql kd a y orc k)
      (fun _ _ _ _ => zz)
      (fun _ _ _ _ => zz)
      (fun _ _ _ => zz)
      (fun _ _ _ => zz)
      (fun _ _ _ => zz)
      (fun _ _ _ _ _ => zz)
      (fun _ _ _ _ _ _ _ _ => zz)
      (fun _ _ _ => zz)
      (fun _ _ _ => zz)
      (fun _ _ _ _ _ => zz)
      (fun kd i y orc k => anyBin .eql (.one (.sym kd i)) y orc k) s y orc k)
    (fun _ _ _ _ => zz) (fun _ _ _ _ => zz) x y orc k
noncomputable def p1_neq (kd : IntKind) (a : Int) (y : AV) (orc : Orc RR) (k : AV → RR) : RR := AV.rec (motive := fun _ => IntKind → Int → Orc RR → (AV → RR) → RR)
    (fun s kd a orc k => SV.rec (motive := fun _ => IntKind → Int → Orc RR → (AV → RR) → RR)
      (fun _ _ _ _ => zz)
      (fun kd' b kd a _ k => Bool.rec (motive := fun _ => RR) zz (notF (eqF a b) k) (keq kd kd'))
      (fun _ _ _ _ _ => zz)
      (fun _ _ _ _ _ => zz)
      (fun _ _ _ _ => zz)
      (fun _ _ _ _ => zz)
      (fun _ _ _ _ => zz)
      (fun _ _ _ _ _ _ => zz)
      (fun _ _ _ _ _ _ _ _ _ => zz)
      (fun _ _ _ _ => zz)
      (fun _ _ _ _ => zz)
      (fun _ _ _ _ _ _ => zz)
      (fun kd' j kd a orc k => anyBin .neq (.one (.int kd a)) (.one (.sym kd' j)) orc k) s kd a orc k)
    (fun _ _ _ _ _ => zz) (fun _ _ _ _ _ => zz) y kd a orc k
noncomputable def p_neq (x y : AV) (orc : Orc RR) (k : AV → RR) : RR := AV.rec (motive := fun _ => AV → Orc RR → (AV → RR) → RR)
    (fun s y orc k => SV.rec (motive := fun _ => AV → Orc RR → (AV → RR) → RR)
      (fun _ _ _ => zz)
      (fun kd a y orc k => p1_neq kd a y orc k)
      (fun _ _ _ _ => zz)
      (fun _ _ _ _ => zz)
      (fun _ _ _ => zz)
      (fun _ _ _ => zz)
      (fun _ _ _ => zz)
      (fun _ _ _ _ _ => zz)
      (fun _ _ _ _ _ _ _ _ => zz)
      (fun _ _ _ => zz)
      (fun _ _ _ => zz)
      (fun _ _ _ _ _ => zz)
      (fun kd i y orc k => anyBin .neq (.one (.sym kd i)) y orc k) s y orc k)
    (fun _ _ _ _ => zz) (fun _ _ _ _ => zz) x y orc k
noncomputable def p1_lss (kd : IntKind) (a : Int) (y : AV) (orc : Orc RR) (k : AV → RR) : RR := AV.rec (motive := fun _ => IntKind → Int → Orc RR → (AV → RR) → RR)
    (fun s kd a orc k => SV.rec (motive := fun _ => IntKind → Int → Orc RR → (AV → RR) → RR)
      (fun _ _ _ _ => zz)
      (fun kd' b kd a _ k => Bool.rec (motive := fun _ => RR) zz (yesF (ltF a b) k) (keq kd kd'))
      (fun _ _ _ _ _ => zz)
      (fun _ _ _ _ _ => zz)
      (fun _ _ _ _ => zz)
      (fun _ _ _ _ => zz)
      (fun _ _ _ _ => zz)
      (fun _ _ _ _ _ _ => zz)
      (fun _ _ _ _ _ _ _ _ _ => zz)
      (fun _ _ _ _ => zz)
      (fun _ _ _ _ => zz)
      (fun _ _ _ _ _ _ => zz)
      (fun kd' j kd a orc k => anyBin .lss (.one (.int kd a)) (.one (.sym kd' j)) orc k) s kd a orc k)
    (fun _ _ _ _ _ => zz) (fun _ _ _ _ _ => zz) y kd a orc k
noncomputable def p_lss (x y : AV) (orc : Orc RR) (k : AV → RR) : RR := AV.rec (motive := fun _ => AV → Orc RR → (AV → RR) → RR)
    (fun s y orc k => SV.rec (motive := fun _ => AV → Orc RR → (AV → RR) → RR)
      (fun _ _ _ => zz)
      (fun kd a y orc k => p1_lss kd a y orc k)
      (fun _ _ _ _ => zz)
      (fun _ _ _ _ => zz)
      (fun _ _ _ => zz)
      (fun _ _ _ => zz)
      (fun _ _ _ => zz)
      (fun _ _ _ _ _ => zz)
      (fun _ _ _ _ _ _ _ _ => zz)
      (fun _ _ _ => zz)
      (fun _ _ _ => zz)
      (fun _ _ _ _ _ => zz)
      (fun kd i y orc k => anyBin .lss (.one (.sym kd i)) y orc k) s y orc k)
    (fun _ _ _ _ => zz) (fun _ _ _ _ => zz) x y orc k
noncomputable def p1_leq (kd : IntKind) (a : Int) (y : AV) (orc : Orc RR) (k : AV → RR) : RR := AV.rec (motive := fun _ => IntKind → Int → Orc RR → (AV → RR) → RR)
    (fun s kd a orc k => SV.rec (motive := fun _ => IntKind → Int → Orc RR → (AV → RR) → RR)
      (fun _ _ _ _ => zz)
      (fun kd' b kd a _ k => Bool.rec (motive := fun _ => RR) zz (notF (ltF b a) k) (keq kd kd'))
      (fun _ _ _ _ _ => zz)
      (fun _ _ _ _ _ => zz)
      (fun _ _ _ _ => zz)
      (fun _ _ _ _ => zz)
      (fun _ _ _ _ => zz)
      (fun _ _ _ _ _ _ => zz)
      (fun _ _ _ _ _ _ _ _ _ => zz)
      (fun _ _ _ _ => zz)
      (fun _ _ _ _ => zz)
      (fun _ _ _ _ _ _ => zz)
      (fun kd' j kd a orc k => anyBin .leq (.one (.int kd a)) (.one (.sym kd' j)) orc k) s kd a orc k)
    (fun _ _ _ _ _ => zz) (fun _ _ _ _ _ => zz) y kd a orc k
noncomputable def p_leq (x y : AV) (orc : Orc RR) (k : AV → RR) : RR := AV.rec (motive := fun _ => AV → Orc RR → (AV → RR) → RR)
    (fun s y orc k => SV.rec (motive := fun _ => AV → Orc RR → (AV → RR) → RR)
      (fun _ _ _ => zz)
      (fun kd a y orc k => p1_leq kd a y orc k)
      (fun _ _ _ _ => zz)
      (fun _ _ _ _ => zz)
      (fun _ _ _ => zz)
      (fun _ _ _ => zz)
      (fun _ _ _ => zz)
      (fun _ _ _ _ _ => zz)
      (fun _ _ _ _ _ _ _ _ => zz)
      (fun _ _ _ => zz)
      (fun _ _ _ => zz)
      (fun _ _ _ _ _ => zz)
      (fun kd i y orc k => anyBin .leq (.one (.sym kd i)) y orc k) s y orc k)
    (fun _ _ _ _ => zz) (fun _ _ _ _ => zz) x y orc k
noncomputable def p1_gtr (kd : IntKind) (a : Int) (y : AV) (orc : Orc RR) (k : AV → RR) : RR := AV.rec (motive := fun _ => IntKind → Int → Orc RR → (AV → RR) → RR)
    (fun s kd a orc k => SV.rec (motive := fun _ => IntKind → Int → Orc RR → (AV → RR) → RR)
      (fun _ _ _ _ => zz)
      (fun kd' b kd a _ k => Bool.rec (motive := fun _ => RR) zz (yesF (ltF b a) k) (keq kd kd'))
      (fun _ _ _ _ _ => zz)
      (fun _ _ _ _ _ => zz)
      (fun _ _ _ _ => zz)
      (fun _ _ _ _ => zz)
      (fun _ _ _ _ => zz)
      (fun _ _ _ _ _ _ => zz)
      (fun _ _ _ _ _ _ _ _ _ => zz)
      (fun _ _ _ _ => zz)
      (fun _ _ _ _ => zz)
      (fun _ _ _ _ _ _ => zz)
      (fun kd' j kd a orc k => anyBin .gtr (.one (.int kd a)) (.one (.sym kd' j)) orc k) s kd a orc k)
    (fun _ _ _ _ _ => zz) (fun _ _ _ _ _ => zz) y kd a orc k
noncomputable def p_gtr (x y : AV) (orc : Orc RR) (k : AV → RR) : RR := AV.rec (motive := fun _ => AV → Orc RR → (AV → RR) → RR)
    (fun s y orc k => SV.rec (motive := fun _ => AV → Orc RR → (AV → RR) → RR)
      (fun _ _ _ => zz)
      (fun kd a y orc k => p1_gtr kd a y orc k)
      (fun _ _ _ _ => zz)
      (fun _ _ _ _ => zz)
      (fun _ _ _ => zz)
      (fun _ _ _ => zz)
      (fun _ _ _ => zz)
      (fun _ _ _ _ _ => zz)
      (fun _ _ _ _ _ _ _ _ => zz)
      (fun _ _ _ => zz)
      (fun _ _ _ => zz)
      (fun _ _ _ _ _ => zz)
      (fun kd i y orc k => anyBin .gtr (.one (.sym kd i)) y orc k) s y orc k)
    (fun _ _ _ _ => zz) (fun _ _ _ _ => zz) x y orc k
noncomputable def p1_geq (kd : IntKind) (a : Int) (y : AV) (orc : Orc RR) (k : AV → RR) : RR := AV.rec (motive := fun _ => IntKind → Int → Orc RR → (AV → RR) → RR)
    (fun s kd a orc k => SV.rec (motive := fun _ => IntKind → Int → Orc RR → (AV → RR) → RR)
      (fun _ _ _ _ => zz)
      (fun kd' b kd a _ k => Bool.rec (motive := fun _ => RR) zz (notF (ltF a b) k) (keq kd kd'))
      (fun _ _ _ _ _ => zz)
      (fun _ _ _ _ _ => zz)
      (fun _ _ _ _ => zz)
      (fun _ _ _ _ => zz)
      (fun _ _ _ _ => zz)
      (fun _ _ _ _ _ _ => zz)
      (fun _ _ _ _ _ _ _ _ _ => zz)
      (fun _ _ _ _ => zz)
      (fun _ _ _ _ => zz)
      (fun _ _ _ _ _ _ => zz)
      (fun kd' j kd a orc k => anyBin .geq (.one (.int kd a)) (.one (.sym kd' j)) orc k) s kd a orc k)
    (fun _ _ _ _ _ => zz) (fun _ _ _ _ _ => zz) y kd a orc k
noncomputable def p_geq (x y : AV) (orc : Orc RR) (k : AV → RR) : RR := AV.rec (motive := fun _ => AV → Orc RR → (AV → RR) → RR)
    (fun s y orc k => SV.rec (motive := fun _ => AV → Orc RR → (AV → RR) → RR)
      (fun _ _ _ => zz)
      (fun kd a y orc k => p1_geq kd a y orc k)
      (fun _ _ _ _ => zz)
      (fun _ _ _ _ => zz)
      (fun _ _ _ => zz)
      (fun _ _ _ => zz)
      (fun _ _ _ => zz)
      (fun _ _ _ _ _ => zz)
      (fun _ _ _ _ _ _ _ _ => zz)
      (fun _ _ _ => zz)
      (fun _ _ _ => zz)
      (fun _ _ _ _ _ => zz)
      (fun kd i y orc k => anyBin .geq (.one (.sym kd i)) y orc k) s y orc k)
    (fun _ _ _ _ => zz) (fun _ _ _ _ => zz) x y orc k
/-- In the own store, then in what is read alone. -/
noncomputable def lookF (mu : St) (fz : Fz) (id : Nat) (k : List SV → RR) : RR := List.rec (motive := fun _ => Fz → Nat → (List SV → RR) → RR)
  (fun fz id k => Option.rec (motive := fun _ => RR) zz k (fz id))
  (fun p _ ih fz id k => Prod.rec (motive := fun _ => (Fz → Nat → (List SV → RR) → RR) → Fz → Nat → (List SV → RR) → RR) (fun i cs ih fz id k => Bool.rec (motive := fun _ => RR) (ih fz id k) (k cs) (Nat.beq i id)) p ih fz id k) mu fz id k
noncomputable def withF (mu : St) (fz : Fz) : Fz := fun id => List.rec (motive := fun _ => Fz → Nat → Option (List SV))
  (fun fz id => fz id)
  (fun p _ ih fz id => Prod.rec (motive := fun _ => (Fz → Nat → Option (List SV)) → Fz → Nat → Option (List SV)) (fun i cs ih fz id => Bool.rec (motive := fun _ => Option (List SV)) (ih fz id) (some cs) (Nat.beq i id)) p ih fz id) mu fz id
noncomputable def nthF (l : List SV) (i : Nat) (k : SV → RR) : RR := List.rec (motive := fun _ => Nat → (SV → RR) → RR) (fun _ _ => zz)
  (fun h _ ih i k => Nat.rec (motive := fun _ => SV → (Nat → (SV → RR) → RR) → (SV → RR) → RR) (fun h _ k => k h) (fun j _ _ ih k => ih j k) i h ih k) l i k
noncomputable def set1F (l : List SV) (i : Nat) (v : SV) (k : List SV → RR) : RR := List.rec (motive := fun _ => Nat → SV → (List SV → RR) → RR) (fun _ _ _ => zz)
  (fun h t ih i v k => Nat.rec (motive := fun _ => RR) (k (v :: t)) (fun j _ => ih j v fun r => k (h :: r)) i) l i v k
noncomputable def put1F (mu : St) (id off : Nat) (v : SV) (k : St → RR) : RR := List.rec (motive := fun _ => Nat → Nat → SV → (St → RR) → RR) (fun _ _ _ _ => zz)
  (fun p t ih id off v k => Prod.rec (motive := fun _ => RR) (fun i cs => Bool.rec (motive := fun _ => RR) (ih id off v fun r => k ((i, cs) :: r)) (set1F cs off v fun cs => k ((i, cs) :: t)) (Nat.beq i id)) p) mu id off v k
/-- So many, neither more nor less? -/
noncomputable def lenF (l : List SV) (m : Nat) : Bool := List.rec (motive := fun _ => Nat → Bool) (fun m => Nat.beq m 0) (fun _ _ ih m => Nat.rec (motive := fun _ => Bool) false (fun j _ => ih j) m) l m
/-- So many, all of them known, as many as there? -/
noncomputable def fitF (l : List SV) (m : Nat) (cs : List SV) : Bool := List.rec (motive := fun _ => Nat → List SV → Bool)
  (fun m cs => List.rec (motive := fun _ => Bool) (Nat.beq m 0) (fun _ _ _ => false) cs)
  (fun v _ ih m cs => Nat.rec (motive := fun _ => Bool) false (fun j _ => List.rec (motive := fun _ => Bool) false (fun _ r _ => Bool.rec (motive := fun _ => Bool) false (ih j r) v.known) cs) m) l m cs
noncomputable def putF (mu : St) (id : Nat) (m : Nat) (l : List SV) (no : RR) (k : St → RR) : RR := List.rec (motive := fun _ => Nat → RR → (St → RR) → RR) (fun _ no _ => no)
  (fun p t ih id no k => Prod.rec (motive := fun _ => RR) (fun i cs => Bool.rec (motive := fun _ => RR) (ih id no fun r => k ((i, cs) :: r)) (Bool.rec (motive := fun _ => RR) no (k ((i, l) :: t)) (fitF l m cs)) (Nat.beq i id)) p) mu id no k

noncomputable def pLoad1 (x : AV) (fz : Fz) (mu : St) (k : AV → RR) : RR := AV.rec (motive := fun _ => Fz → St → (AV → RR) → RR)
    (fun s fz mu k => SV.rec (motive := fun _ => Fz → St → (AV → RR) → RR)
      (fun _ _ _ => zz)
      (fun _ _ _ _ _ => zz)
      (fun _ _ _ _ => zz)
      (fun _ _ _ _ => zz)
      (fun _ _ _ => zz)
      (fun _ _ _ => zz)
      (fun _ _ _ => zz)
      (fun id off fz mu k => lookF mu fz id fun cs => nthF cs off fun s => k (.one s))
      (fun _ _ _ _ _ _ _ _ => zz)
      (fun _ _ _ => zz)
      (fun _ _ _ => zz)
      (fun _ _ _ _ _ => zz)
      (fun _ _ _ _ _ => zz) s fz mu k)
    (fun _ _ _ _ => zz) (fun _ _ _ _ => zz) x fz mu k
noncomputable def pLoad (agg : Bool) (m : Nat) (x : AV) (fz : Fz) (mu : St) (k : AV → RR) : RR := AV.rec (motive := fun _ => Bool → Nat → Fz → St → (AV → RR) → RR)
    (fun s agg m fz mu k => SV.rec (motive := fun _ => Bool → Nat → Fz → St → (AV → RR) → RR)
      (fun _ _ _ _ _ => zz)
      (fun _ _ _ _ _ _ _ => zz)
      (fun _ _ _ _ _ _ => zz)
      (fun _ _ _ _ _ _ => zz)
      (fun _ _ _ _ _ => zz)
      (fun _ _ _ _ _ => zz)
      (fun _ _ _ _ _ => zz)
      (fun id off agg m fz mu k => lookF mu fz id fun cs => subK cs off m zz fun r => asRes agg r zz fun v => k v)
      (fun _ _ _ _ _ _ _ _ _ _ => zz)
      (fun _ _ _ _ _ => zz)
      (fun _ _ _ _ _ => zz)
      (fun _ _ _ _ _ _ _ => zz)
      (fun _ _ _ _ _ _ _ => zz) s agg m fz mu k)
    (fun _ _ _ _ _ _ => zz) (fun _ _ _ _ _ _ => zz) x agg m fz mu k
/-- A block as it is, if it is that long. -/
noncomputable def pLoadA (m : Nat) (x : AV) (fz : Fz) (mu : St) (k : AV → RR) : RR := AV.rec (motive := fun _ => Nat → Fz → St → (AV → RR) → RR)
    (fun s m fz mu k => SV.rec (motive := fun _ => Nat → Fz → St → (AV → RR) → RR)
      (fun _ _ _ _ => zz)
      (fun _ _ _ _ _ _ => zz)
      (fun _ _ _ _ _ => zz)
      (fun _ _ _ _ _ => zz)
      (fun _ _ _ _ => zz)
      (fun _ _ _ _ => zz)
      (fun _ _ _ _ => zz)
      (fun id off m fz mu k => lookF mu fz id fun cs => Nat.rec (motive := fun _ => RR) (Bool.rec (motive := fun _ => RR) (subK cs 0 m zz fun r => k (.ag r)) (k (.ag cs)) (lenF cs m)) (fun o _ => subK cs (Nat.succ o) m zz fun r => k (.ag r)) off)
      (fun _ _ _ _ _ _ _ _ _ => zz)
      (fun _ _ _ _ => zz)
      (fun _ _ _ _ => zz)
      (fun _ _ _ _ _ _ => zz)
      (fun _ _ _ _ _ _ => zz) s m fz mu k)
    (fun _ _ _ _ _ => zz) (fun _ _ _ _ _ => zz) x m fz mu k
noncomputable def qStore1 (x v : AV) (mu : St) (k : St → RR) : RR := AV.rec (motive := fun _ => AV → St → (St → RR) → RR)
    (fun s v mu k => SV.rec (motive := fun _ => AV → St → (St → RR) → RR)
      (fun _ _ _ => zz)
      (fun _ _ _ _ _ => zz)
      (fun _ _ _ _ => zz)
      (fun _ _ _ _ => zz)
      (fun _ _ _ => zz)
      (fun _ _ _ => zz)
      (fun _ _ _ => zz)
      (fun id off v mu k => AV.rec (motive := fun _ => RR) (fun s => Bool.rec (motive := fun _ => RR) zz (put1F mu id off s k) s.known) (fun l => oStore zz [] mu 0 1 (.c (.one (.optr id off))) (.c (.ag l)) fun _ mu _ => k mu) (fun _ => zz) v)
      (fun _ _ _ _ _ _ _ _ => zz)
      (fun _ _ _ => zz)
      (fun _ _ _ => zz)
      (fun _ _ _ _ _ => zz)
      (fun _ _ _ _ _ => zz) s v mu k)
    (fun _ _ _ _ => zz) (fun _ _ _ _ => zz) x v mu k
noncomputable def anyStore (m : Nat) (x v : AV) (mu : St) (k : St → RR) : RR := oStore zz [] mu 0 m (.c x) (.c v) fun _ mu _ => k mu
noncomputable def qStore (m : Nat) (x v : AV) (mu : St) (k : St → RR) : RR := AV.rec (motive := fun _ => Nat → AV → St → (St → RR) → RR)
    (fun s m v mu k => SV.rec (motive := fun _ => Nat → AV → St → (St → RR) → RR)
      (fun _ _ _ _ => zz)
      (fun _ _ _ _ _ _ => zz)
      (fun _ _ _ _ _ => zz)
      (fun _ _ _ _ _ => zz)
      (fun _ _ _ _ => zz)
      (fun _ _ _ _ => zz)
      (fun _ _ _ _ => zz)
      (fun id off m v mu k => AV.rec (motive := fun _ => RR) (fun s => anyStore m (.one (.optr id off)) (.one s) mu k) (fun l => Nat.rec (motive := fun _ => RR) (putF mu id m l (anyStore m (.one (.optr id 0)) (.ag l) mu k) k) (fun o _ => anyStore m (.one (.optr id (Nat.succ o))) (.ag l) mu k) off) (fun _ => zz) v)
      (fun _ _ _ _ _ _ _ _ _ => zz)
      (fun _ _ _ _ => zz)
      (fun _ _ _ _ => zz)
      (fun _ _ _ _ _ _ => zz)
      (fun _ _ _ _ _ _ => zz) s m v mu k)
    (fun _ _ _ _ _ => zz) (fun _ _ _ _ _ => zz) x m v mu k
noncomputable def pFaddr (off : Nat) (x : AV) (k : AV → RR) : RR := AV.rec (motive := fun _ => Nat → (AV → RR) → RR)
    (fun s off k => SV.rec (motive := fun _ => Nat → (AV → RR) → RR)
      (fun _ _ => zz)
      (fun _ _ _ _ => zz)
      (fun _ _ _ => zz)
      (fun _ _ _ => zz)
      (fun _ _ => zz)
      (fun _ _ => zz)
      (fun _ _ => zz)
      (fun id o off k => fN (Nat.add o off) fun o => k (.one (.optr id o)))
      (fun _ _ _ _ _ _ _ => zz)
      (fun _ _ => zz)
      (fun _ _ => zz)
      (fun _ _ _ _ => zz)
      (fun _ _ _ _ => zz) s off k)
    (fun _ _ _ => zz) (fun _ _ _ => zz) x off k
noncomputable def pNilc (x : AV) (k : AV → RR) : RR := AV.rec (motive := fun _ => (AV → RR) → RR)
    (fun s k => SV.rec (motive := fun _ => (AV → RR) → RR)
      (fun _ => zz)
      (fun _ _ _ => zz)
      (fun _ _ => zz)
      (fun _ _ => zz)
      (fun _ => zz)
      (fun _ => zz)
      (fun _ => zz)
      (fun id o k => k (.one (.optr id o)))
      (fun _ _ _ _ _ _ => zz)
      (fun _ => zz)
      (fun _ => zz)
      (fun f cs k => k (.one (.fn f cs)))
      (fun _ _ _ => zz) s k)
    (fun _ _ => zz) (fun _ _ => zz) x k
noncomputable def pNot (x : AV) (k : AV → RR) : RR := AV.rec (motive := fun _ => (AV → RR) → RR)
    (fun s k => SV.rec (motive := fun _ => (AV → RR) → RR)
      (fun _ => zz)
      (fun _ _ _ => zz)
      (fun b k => notF b k)
      (fun _ _ => zz)
      (fun _ => zz)
      (fun _ => zz)
      (fun _ => zz)
      (fun _ _ _ => zz)
      (fun _ _ _ _ _ _ => zz)
      (fun _ => zz)
      (fun _ => zz)
      (fun _ _ _ => zz)
      (fun _ _ _ => zz) s k)
    (fun _ _ => zz) (fun _ _ => zz) x k
noncomputable def pLenS (x : AV) (k : AV → RR) : RR := AV.rec (motive := fun _ => (AV → RR) → RR)
    (fun s k => SV.rec (motive := fun _ => (AV → RR) → RR)
      (fun _ => zz)
      (fun _ _ _ => zz)
      (fun _ _ => zz)
      (fun b k => fN b.size fun m => k (.one (.int .i64 (.ofNat m))))
      (fun _ => zz)
      (fun _ => zz)
      (fun _ => zz)
      (fun _ _ _ => zz)
      (fun _ _ _ _ _ _ => zz)
      (fun _ => zz)
      (fun _ => zz)
      (fun _ _ _ => zz)
      (fun _ _ _ => zz) s k)
    (fun _ _ => zz) (fun _ _ => zz) x k
noncomputable def pLen (x : AV) (k : AV → RR) : RR := AV.rec (motive := fun _ => (AV → RR) → RR)
    (fun s k => SV.rec (motive := fun _ => (AV → RR) → RR)
      (fun _ => zz)
      (fun _ _ _ => zz)
      (fun _ _ => zz)
      (fun _ _ => zz)
      (fun k => k (.one (.int .i64 (.ofNat 0))))
      (fun _ => zz)
      (fun _ => zz)
      (fun _ _ _ => zz)
      (fun _ _ len _ _ k => k (.one (.int .i64 (.ofNat len))))
      (fun k => k (.one (.int .i64 (.ofNat 0))))
      (fun k => k (.one (.int .i64 (.ofNat 0))))
      (fun _ _ _ => zz)
      (fun _ _ _ => zz) s k)
    (fun _ _ => zz) (fun _ _ => zz) x k
noncomputable def pPick (c a b : AV) (k : AV → RR) : RR := AV.rec (motive := fun _ => AV → AV → (AV → RR) → RR)
    (fun s a b k => SV.rec (motive := fun _ => AV → AV → (AV → RR) → RR)
      (fun _ _ _ => zz)
      (fun _ _ _ _ _ => zz)
      (fun t a b k => Bool.rec (motive := fun _ => RR) (fAV b k) (fAV a k) t)
      (fun _ _ _ _ => zz)
      (fun _ _ _ => zz)
      (fun _ _ _ => zz)
      (fun _ _ _ => zz)
      (fun _ _ _ _ _ => zz)
      (fun _ _ _ _ _ _ _ _ => zz)
      (fun _ _ _ => zz)
      (fun _ _ _ => zz)
      (fun _ _ _ _ _ => zz)
      (fun _ _ _ _ _ => zz) s a b k)
    (fun _ _ _ _ => zz) (fun _ _ _ _ => zz) c a b k
noncomputable def pExtr (x : AV) (i : Nat) (k : AV → RR) : RR := AV.rec (motive := fun _ => Nat → (AV → RR) → RR) (fun _ _ _ => zz) (fun _ _ _ => zz) (fun ps i k => nthK ps i zz fun c => CV.rec (motive := fun _ => RR) (fun s => k (.one s)) (fun l => k (.ag l)) c) x i k
noncomputable def pIaddr2 (s : Nat) (x : AV) (j : Nat) (k : AV → RR) : RR := AV.rec (motive := fun _ => Nat → Nat → (AV → RR) → RR)
    (fun v s j k => SV.rec (motive := fun _ => Nat → Nat → (AV → RR) → RR)
      (fun _ _ _ => zz)
      (fun _ _ _ _ _ => zz)
      (fun _ _ _ _ => zz)
      (fun _ _ _ _ => zz)
      (fun _ _ _ => zz)
      (fun _ _ _ => zz)
      (fun _ _ _ => zz)
      (fun _ _ _ _ _ => zz)
      (fun id off len _ s' s j k => Bool.rec (motive := fun _ => RR) zz (Bool.rec (motive := fun _ => RR) zz (fN (Nat.add off (Nat.mul j s)) fun o => k (.one (.optr id o))) (Nat.ble (Nat.succ j) len)) (Nat.beq s' s))
      (fun _ _ _ => zz)
      (fun _ _ _ => zz)
      (fun _ _ _ _ _ => zz)
      (fun _ _ _ _ _ => zz) v s j k)
    (fun _ _ _ _ => zz) (fun _ _ _ _ => zz) x s j k
noncomputable def pIaddr (s : Nat) (x i : AV) (k : AV → RR) : RR := AV.rec (motive := fun _ => Nat → AV → (AV → RR) → RR)
    (fun v s x k => SV.rec (motive := fun _ => Nat → AV → (AV → RR) → RR)
      (fun _ _ _ => zz)
      (fun _ i s x k => Int.rec (motive := fun _ => RR) (fun j => pIaddr2 s x j k) (fun _ => zz) i)
      (fun _ _ _ _ => zz)
      (fun _ _ _ _ => zz)
      (fun _ _ _ => zz)
      (fun _ _ _ => zz)
      (fun _ _ _ => zz)
      (fun _ _ _ _ _ => zz)
      (fun _ _ _ _ _ _ _ _ => zz)
      (fun _ _ _ => zz)
      (fun _ _ _ => zz)
      (fun _ _ _ _ _ => zz)
      (fun _ _ _ _ _ => zz) v s x k)
    (fun _ _ _ _ => zz) (fun _ _ _ _ => zz) i s x k
/-- A number that is not known is made plain. -/
noncomputable def forceV (x : AV) (orc : Orc RR) (k : AV → RR) : RR := AV.rec (motive := fun _ => Orc RR → (AV → RR) → RR)
    (fun s orc k => SV.rec (motive := fun _ => Orc RR → (AV → RR) → RR)
      (fun _ k => k (.one (.un)))
      (fun z0 z1 _ k => k (.one (.int z0 z1)))
      (fun z0 _ k => k (.one (.bool z0)))
      (fun z0 _ k => k (.one (.str z0)))
      (fun _ k => k (.one (.nsl)))
      (fun _ k => k (.one (.npt)))
      (fun _ k => k (.one (.nfn)))
      (fun z0 z1 _ k => k (.one (.optr z0 z1)))
      (fun z0 z1 z2 z3 z4 _ k => k (.one (.osl z0 z1 z2 z3 z4)))
      (fun _ k => k (.one (.esl)))
      (fun _ k => k (.one (.zsl)))
      (fun z0 z1 _ k => k (.one (.fn z0 z1)))
      (fun kd i orc k => orc.force i fun v => fI v fun v => k (.one (.int kd v))) s orc k)
    (fun l _ k => k (.ag l)) (fun l _ k => k (.tp l)) x orc k

noncomputable def qAlloc (zero : List SV) (mu : St) (n : Nat) (k : KT RR) : RR := fN (Nat.succ n) fun m => k (.one (.optr n 0)) ((n, zero) :: mu) m
noncomputable def qBox (x : AV) (mu : St) (n : Nat) (k : KT RR) : RR := oBox zz [] mu n (.c x) k
noncomputable def qCallR (call : CallT RR) (g : Nat) (vs : List AV) (fz : Fz) (mu : St) (n : Nat) (k : KT RR) : RR := call g vs (withF mu fz) [] n fun v new n' => sweepK v new fun new => joinK new mu fun mu => k v mu n'
/-- Another operation, its operands values. -/
noncomputable def qOth (orc : Orc RR) (call : CallT RR) (fz : Fz) (mu : St) (n : Nat) (ro : Bool) (op : AOp) (k : KT RR) : RR := aop orc zz call fz [] mu n ro op k

/-- Is it wanted, by its guard? -/
noncomputable def wantF (v : AV) (want : Bool) (yes no : RR) : RR := AV.rec (motive := fun _ => Bool → RR → RR → RR)
  (fun s want yes no => SV.rec (motive := fun _ => Bool → RR → RR → RR)
      (fun _ _ _ => zz)
      (fun _ _ _ _ _ => zz)
      (fun b want yes no => Bool.rec (motive := fun _ => RR) (Bool.rec (motive := fun _ => RR) yes no want) (Bool.rec (motive := fun _ => RR) no yes want) b)
      (fun _ _ _ _ => zz)
      (fun _ _ _ => zz)
      (fun _ _ _ => zz)
      (fun _ _ _ => zz)
      (fun _ _ _ _ _ => zz)
      (fun _ _ _ _ _ _ _ _ => zz)
      (fun _ _ _ => zz)
      (fun _ _ _ => zz)
      (fun _ _ _ _ _ => zz)
      (fun _ _ _ _ _ => zz) s want yes no)
  (fun _ _ _ _ => zz) (fun l _ _ no => List.rec (motive := fun _ => RR) no (fun _ _ _ => zz) l) v want yes no
noncomputable def gd (g : AV) (want : Bool) (f : KT RR → RR) (mu : St) (n : Nat) (J : KT RR) : RR := wantF g want (f J) (J noVal mu n)
noncomputable def gdD (g : AV) (want : Bool) (mu : St) (ad : List St) (n : Nat) (f : (AV → St → List St → Nat → RR) → RR) (J : AV → St → List St → Nat → RR) : RR := wantF g want (f J) (J noVal mu ad n)
noncomputable def vIf (c : AV) (a b : RR) : RR := AV.rec (motive := fun _ => RR → RR → RR)
  (fun s a b => SV.rec (motive := fun _ => RR → RR → RR)
      (fun _ _ => zz)
      (fun _ _ _ _ => zz)
      (fun y a b => Bool.rec (motive := fun _ => RR) b a y)
      (fun _ _ _ => zz)
      (fun _ _ => zz)
      (fun _ _ => zz)
      (fun _ _ => zz)
      (fun _ _ _ _ => zz)
      (fun _ _ _ _ _ _ _ => zz)
      (fun _ _ => zz)
      (fun _ _ => zz)
      (fun _ _ _ _ => zz)
      (fun _ _ _ _ => zz) s a b)
  (fun _ _ _ => zz) (fun _ _ _ => zz) c a b
/-- What follows, on a plain end. -/
noncomputable def onward (next : Fm → St → Nat → RR) (k : AExit → Fm → St → Nat → RR) : AExit → Fm → St → Nat → RR := fun e t mu n => AExit.rec (motive := fun _ => RR) (next t mu n) (fun id => k (.exit id) t mu n) (k .ret t mu n) e
noncomputable def inBlk (id : Nat) (next : Fm → St → Nat → RR) (k : AExit → Fm → St → Nat → RR) : AExit → Fm → St → Nat → RR := fun e t mu n => AExit.rec (motive := fun _ => RR) (next t mu n) (fun id' => Bool.rec (motive := fun _ => RR) (k (.exit id') t mu n) (next t mu n) (Nat.beq id' id)) (k .ret t mu n) e
noncomputable def cNorm : HC := fun _ _ _ t mu n k => k .normal t mu n
noncomputable def cRet : HC := fun _ _ _ t mu n k => k .ret t mu n
noncomputable def cExit (id : Nat) : HC := fun _ _ _ t mu n k => k (.exit id) t mu n
noncomputable def cBad : HC := fun _ _ _ _ _ _ _ => zz
/-- Branches, at the end of code; and on; out of a block. -/
noncomputable def tIf (c : AV) (a b : HC) : HC := fun orc call fz t mu n k => vIf c (a orc call fz t mu n k) (b orc call fz t mu n k)
noncomputable def tIfN (c : AV) (a b next : HC) : HC := fun orc call fz t mu n k => (fun k => vIf c (a orc call fz t mu n k) (b orc call fz t mu n k)) (onward (next orc call fz · · · k) k)
noncomputable def tTest (c : AV) (id : Nat) (next : HC) : HC := fun orc call fz t mu n k => vIf c (next orc call fz t mu n k) (k (.exit id) t mu n)
noncomputable def cIf (c : GT) (a b : HC) : HC := fun orc call fz t mu n k => tIf (c t) a b orc call fz t mu n k
noncomputable def cIfN (c : GT) (a b next : HC) : HC := fun orc call fz t mu n k => tIfN (c t) a b next orc call fz t mu n k
noncomputable def cTest (c : GT) (id : Nat) (next : HC) : HC := fun orc call fz t mu n k => tTest (c t) id next orc call fz t mu n k
noncomputable def cBlk (id : Nat) (a next : HC) : HC := fun orc call fz t mu n k => a orc call fz t mu n (inBlk id (next orc call fz · · · k) k)
noncomputable def loopK (a : HC) (orc : Orc RR) (call : CallT RR) (fz : Fz) (fuel : Nat) : Fm → St → Nat → (AExit → Fm → St → Nat → RR) → RR :=
  Nat.rec (motive := fun _ => Fm → St → Nat → (AExit → Fm → St → Nat → RR) → RR) (fun _ _ _ _ => zz) (fun _ ih t mu n k => a orc call fz t mu n (onward (ih · · · k) k)) fuel
noncomputable def cLoop (a next : HC) : HC := fun orc call fz t mu n k => loopK a orc call fz 100000 t mu n (onward (next orc call fz · · · k) k)

/-- Regions of open order: by the kinds of their operations. -/
abbrev OF := Fz → St → Nat → KT RR → RR
noncomputable def dr0 (f : OF) (n : Nat) (J : AV → Nat → RR) : RR := f (fun _ => none) [] n fun v new n => List.rec (motive := fun _ => RR) (J v n) (fun _ _ _ => zz) new
noncomputable def dr1 (f : OF) (anc : List Nat) (i : Nat) (fz : Fz) (mu : St) (ad : List St) (n : Nat) (J : AV → List St → Nat → RR) : RR := f (with' (adsOf ad anc) (with' mu fz)) [] n fun v new n => setK ad i new fun ad => J v ad n
noncomputable def dr2 (f : OF) (anc : List Nat) (fz : Fz) (mu : St) (ad : List St) (n : Nat) (J : AV → St → List St → Nat → RR) : RR := joinK (adsOf ad anc) mu fun mu => clearK anc ad fun ad => f fz mu n fun v mu n => J v mu ad n
noncomputable def dr3 (f : OF) (i : Nat) (ad : List St) (n : Nat) (J : AV → List St → Nat → RR) : RR := f (fun _ => none) [] n fun v new n => setK ad i new fun ad => J v ad n
noncomputable def dr4 (f : OF) (anc : List Nat) (i : Nat) (ad : List St) (n : Nat) (J : AV → List St → Nat → RR) : RR := joinK (nth [] ad i) (adsOf ad anc) fun own => f (fun _ => none) own n fun v new n => clearK anc ad fun ad => setK ad i new fun ad => J v ad n
noncomputable def apS (x : AV) (i : Nat) (mu : St) (ad : List St) (J : St → List St → RR) : RR := x.onOne (J mu ad) fun s => s.onPtr (J mu ad) fun id _ => onLook mu id (J mu ad) fun cs => killK mu id fun mu => setK ad i [(id, cs)] fun ad => J mu ad

abbrev RF := Fz → Fm → St → (AV → RR) → RR
noncomputable def rTmp (g : GT) : RF := fun _ t _ k => fAV (g t) k
noncomputable def rCell (v : AV) (agg : Bool) (m : Nat) (fz : Fz) (mu : St) (k : AV → RR) : RR := v.onOne zz fun s => s.onPtr zz fun id off => lookAll fz mu id zz fun cs => subK cs off m zz fun c => asRes agg c zz k
abbrev IF := List AV → (Fm → RR) → RR

noncomputable def init0 : IF := fun l k => List.rec (motive := fun _ => (Fm → RR) → RR) (fun k => k (.mk (.one .un) (.one .un) (.one .un) (.one .un) (.one .un) (.one .un) (.one .un) (.one .un) t2U)) (fun _ _ _ _ => zz) l k
noncomputable def init1 : IF := fun l k => List.rec (motive := fun _ => (Fm → RR) → RR) (fun _ => zz) (fun a0 l _ k => List.rec (motive := fun _ => (Fm → RR) → RR) (fun k => k (.mk a0 (.one .un) (.one .un) (.one .un) (.one .un) (.one .un) (.one .un) (.one .un) t2U)) (fun _ _ _ _ => zz) l k) l k
noncomputable def init2 : IF := fun l k => List.rec (motive := fun _ => (Fm → RR) → RR) (fun _ => zz) (fun a0 l _ k => List.rec (motive := fun _ => (Fm → RR) → RR) (fun _ => zz) (fun a1 l _ k => List.rec (motive := fun _ => (Fm → RR) → RR) (fun k => k (.mk a0 a1 (.one .un) (.one .un) (.one .un) (.one .un) (.one .un) (.one .un) t2U)) (fun _ _ _ _ => zz) l k) l k) l k
noncomputable def init3 : IF := fun l k => List.rec (motive := fun _ => (Fm → RR) → RR) (fun _ => zz) (fun a0 l _ k => List.rec (motive := fun _ => (Fm → RR) → RR) (fun _ => zz) (fun a1 l _ k => List.rec (motive := fun _ => (Fm → RR) → RR) (fun _ => zz) (fun a2 l _ k => List.rec (motive := fun _ => (Fm → RR) → RR) (fun k => k (.mk a0 a1 a2 (.one .un) (.one .un) (.one .un) (.one .un) (.one .un) t2U)) (fun _ _ _ _ => zz) l k) l k) l k) l k
noncomputable def init4 : IF := fun l k => List.rec (motive := fun _ => (Fm → RR) → RR) (fun _ => zz) (fun a0 l _ k => List.rec (motive := fun _ => (Fm → RR) → RR) (fun _ => zz) (fun a1 l _ k => List.rec (motive := fun _ => (Fm → RR) → RR) (fun _ => zz) (fun a2 l _ k => List.rec (motive := fun _ => (Fm → RR) → RR) (fun _ => zz) (fun a3 l _ k => List.rec (motive := fun _ => (Fm → RR) → RR) (fun k => k (.mk a0 a1 a2 a3 (.one .un) (.one .un) (.one .un) (.one .un) t2U)) (fun _ _ _ _ => zz) l k) l k) l k) l k) l k
noncomputable def init5 : IF := fun l k => List.rec (motive := fun _ => (Fm → RR) → RR) (fun _ => zz) (fun a0 l _ k => List.rec (motive := fun _ => (Fm → RR) → RR) (fun _ => zz) (fun a1 l _ k => List.rec (motive := fun _ => (Fm → RR) → RR) (fun _ => zz) (fun a2 l _ k => List.rec (motive := fun _ => (Fm → RR) → RR) (fun _ => zz) (fun a3 l _ k => List.rec (motive := fun _ => (Fm → RR) → RR) (fun _ => zz) (fun a4 l _ k => List.rec (motive := fun _ => (Fm → RR) → RR) (fun k => k (.mk a0 a1 a2 a3 a4 (.one .un) (.one .un) (.one .un) t2U)) (fun _ _ _ _ => zz) l k) l k) l k) l k) l k) l k
noncomputable def init6 : IF := fun l k => List.rec (motive := fun _ => (Fm → RR) → RR) (fun _ => zz) (fun a0 l _ k => List.rec (motive := fun _ => (Fm → RR) → RR) (fun _ => zz) (fun a1 l _ k => List.rec (motive := fun _ => (Fm → RR) → RR) (fun _ => zz) (fun a2 l _ k => List.rec (motive := fun _ => (Fm → RR) → RR) (fun _ => zz) (fun a3 l _ k => List.rec (motive := fun _ => (Fm → RR) → RR) (fun _ => zz) (fun a4 l _ k => List.rec (motive := fun _ => (Fm → RR) → RR) (fun _ => zz) (fun a5 l _ k => List.rec (motive := fun _ => (Fm → RR) → RR) (fun k => k (.mk a0 a1 a2 a3 a4 a5 (.one .un) (.one .un) t2U)) (fun _ _ _ _ => zz) l k) l k) l k) l k) l k) l k) l k
noncomputable def init7 : IF := fun l k => List.rec (motive := fun _ => (Fm → RR) → RR) (fun _ => zz) (fun a0 l _ k => List.rec (motive := fun _ => (Fm → RR) → RR) (fun _ => zz) (fun a1 l _ k => List.rec (motive := fun _ => (Fm → RR) → RR) (fun _ => zz) (fun a2 l _ k => List.rec (motive := fun _ => (Fm → RR) → RR) (fun _ => zz) (fun a3 l _ k => List.rec (motive := fun _ => (Fm → RR) → RR) (fun _ => zz) (fun a4 l _ k => List.rec (motive := fun _ => (Fm → RR) → RR) (fun _ => zz) (fun a5 l _ k => List.rec (motive := fun _ => (Fm → RR) → RR) (fun _ => zz) (fun a6 l _ k => List.rec (motive := fun _ => (Fm → RR) → RR) (fun k => k (.mk a0 a1 a2 a3 a4 a5 a6 (.one .un) t2U)) (fun _ _ _ _ => zz) l k) l k) l k) l k) l k) l k) l k) l k
noncomputable def init8 : IF := fun l k => List.rec (motive := fun _ => (Fm → RR) → RR) (fun _ => zz) (fun a0 l _ k => List.rec (motive := fun _ => (Fm → RR) → RR) (fun _ => zz) (fun a1 l _ k => List.rec (motive := fun _ => (Fm → RR) → RR) (fun _ => zz) (fun a2 l _ k => List.rec (motive := fun _ => (Fm → RR) → RR) (fun _ => zz) (fun a3 l _ k => List.rec (motive := fun _ => (Fm → RR) → RR) (fun _ => zz) (fun a4 l _ k => List.rec (motive := fun _ => (Fm → RR) → RR) (fun _ => zz) (fun a5 l _ k => List.rec (motive := fun _ => (Fm → RR) → RR) (fun _ => zz) (fun a6 l _ k => List.rec (motive := fun _ => (Fm → RR) → RR) (fun _ => zz) (fun a7 l _ k => List.rec (motive := fun _ => (Fm → RR) → RR) (fun k => k (.mk a0 a1 a2 a3 a4 a5 a6 a7 t2U)) (fun _ _ _ _ => zz) l k) l k) l k) l k) l k) l k) l k) l k) l k

inductive HFunc where
  | mk (init : IF) (res : RF) (body : HC)
inductive HTree where
  | nil
  | node (k : Nat) (f : HFunc) (l r : HTree)
noncomputable def HTree.find (t : HTree) (f : Nat) : Option HFunc :=
  HTree.rec (motive := fun _ => Nat → Option HFunc) (fun _ => none) (fun k v _ _ ihl ihr f => Bool.rec (motive := fun _ => Option HFunc) (Bool.rec (motive := fun _ => Option HFunc) (ihr f) (ihl f) (Nat.ble f k)) (some v) (Nat.beq f k)) t f
noncomputable def ends (res : RF) (fz : Fz) (k : AV → St → Nat → RR) : AExit → Fm → St → Nat → RR := fun e t mu n =>
  AExit.rec (motive := fun _ => RR) (res fz t mu fun v => k v mu n) (fun _ => zz) (res fz t mu fun v => k v mu n) e
noncomputable def hcall (orc : Orc RR) (K : Nat → Option (Contract RR)) (F : Nat → Option HFunc) (depth : Nat) : CallT RR :=
  Nat.rec (motive := fun _ => CallT RR) (fun _ _ _ _ _ _ => zz)
    (fun _ ih f args fz mu n k => Option.rec (motive := fun _ => RR)
      (Option.rec (motive := fun _ => RR) zz (fun fn => HFunc.rec (motive := fun _ => RR) (fun init res body => init args fun t => body orc ih fz t mu n (ends res fz k)) fn) (F f))
      (fun c => c args fz mu n k) (K f)) depth
end Go.Ev
