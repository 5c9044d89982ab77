/-
  Temporaries in rows of sixteen, that the kernel reaches in few steps. Printed by fast1.py.
-/
import Derived.Test.YtmnkmmfjekcinaaGreatEvRng
set_option linter.unusedVariables false
set_option linter.unusedSimpArgs false
namespace Go.Ev

inductive S16 where
  | s0
  | s1
  | s2
  | s3
  | s4
  | s5
  | s6
  | s7
  | s8
  | s9
  | s10
  | s11
  | s12
  | s13
  | s14
  | s15
def S16.n : S16 → Nat
  | .s0 => 0
  | .s1 => 1
  | .s2 => 2
  | .s3 => 3
  | .s4 => 4
  | .s5 => 5
  | .s6 => 6
  | .s7 => 7
  | .s8 => 8
  | .s9 => 9
  | .s10 => 10
  | .s11 => 11
  | .s12 => 12
  | .s13 => 13
  | .s14 => 14
  | .s15 => 15
inductive Row where
  | mk (a0 a1 a2 a3 a4 a5 a6 a7 a8 a9 a10 a11 a12 a13 a14 a15 : AV)
inductive T2 where
  | mk (r0 r1 r2 r3 r4 r5 r6 r7 r8 r9 r10 r11 r12 r13 r14 r15 : Row)
noncomputable def rg (s : S16) (r : Row) : AV := S16.rec (motive := fun _ => Row → AV)
  (fun r => Row.rec (motive := fun _ => AV) (fun a0 _ _ _ _ _ _ _ _ _ _ _ _ _ _ _ => a0) r)
  (fun r => Row.rec (motive := fun _ => AV) (fun _ a1 _ _ _ _ _ _ _ _ _ _ _ _ _ _ => a1) r)
  (fun r => Row.rec (motive := fun _ => AV) (fun _ _ a2 _ _ _ _ _ _ _ _ _ _ _ _ _ => a2) r)
  (fun r => Row.rec (motive := fun _ => AV) (fun _ _ _ a3 _ _ _ _ _ _ _ _ _ _ _ _ => a3) r)
  (fun r => Row.rec (motive := fun _ => AV) (fun _ _ _ _ a4 _ _ _ _ _ _ _ _ _ _ _ => a4) r)
  (fun r => Row.rec (motive := fun _ => AV) (fun _ _ _ _ _ a5 _ _ _ _ _ _ _ _ _ _ => a5) r)
  (fun r => Row.rec (motive := fun _ => AV) (fun _ _ _ _ _ _ a6 _ _ _ _ _ _ _ _ _ => a6) r)
  (fun r => Row.rec (motive := fun _ => AV) (fun _ _ _ _ _ _ _ a7 _ _ _ _ _ _ _ _ => a7) r)
  (fun r => Row.rec (motive := fun _ => AV) (fun _ _ _ _ _ _ _ _ a8 _ _ _ _ _ _ _ => a8) r)
  (fun r => Row.rec (motive := fun _ => AV) (fun _ _ _ _ _ _ _ _ _ a9 _ _ _ _ _ _ => a9) r)
  (fun r => Row.rec (motive := fun _ => AV) (fun _ _ _ _ _ _ _ _ _ _ a10 _ _ _ _ _ => a10) r)
  (fun r => Row.rec (motive := fun _ => AV) (fun _ _ _ _ _ _ _ _ _ _ _ a11 _ _ _ _ => a11) r)
  (fun r => Row.rec (motive := fun _ => AV) (fun _ _ _ _ _ _ _ _ _ _ _ _ a12 _ _ _ => a12) r)
  (fun r => Row.rec (motive := fun _ => AV) (fun _ _ _ _ _ _ _ _ _ _ _ _ _ a13 _ _ => a13) r)
  (fun r => Row.rec (motive := fun _ => AV) (fun _ _ _ _ _ _ _ _ _ _ _ _ _ _ a14 _ => a14) r)
  (fun r => Row.rec (motive := fun _ => AV) (fun _ _ _ _ _ _ _ _ _ _ _ _ _ _ _ a15 => a15) r)
  s r
noncomputable def rs (s : S16) (r : Row) (v : AV) (k : Row → RR) : RR := S16.rec (motive := fun _ => Row → AV → (Row → RR) → RR)
  (fun r v k => Row.rec (motive := fun _ => AV → (Row → RR) → RR) (fun _ a1 a2 a3 a4 a5 a6 a7 a8 a9 a10 a11 a12 a13 a14 a15 v k => k (.mk v a1 a2 a3 a4 a5 a6 a7 a8 a9 a10 a11 a12 a13 a14 a15)) r v k)
  (fun r v k => Row.rec (motive := fun _ => AV → (Row → RR) → RR) (fun a0 _ a2 a3 a4 a5 a6 a7 a8 a9 a10 a11 a12 a13 a14 a15 v k => k (.mk a0 v a2 a3 a4 a5 a6 a7 a8 a9 a10 a11 a12 a13 a14 a15)) r v k)
  (fun r v k => Row.rec (motive := fun _ => AV → (Row → RR) → RR) (fun a0 a1 _ a3 a4 a5 a6 a7 a8 a9 a10 a11 a12 a13 a14 a15 v k => k (.mk a0 a1 v a3 a4 a5 a6 a7 a8 a9 a10 a11 a12 a13 a14 a15)) r v k)
  (fun r v k => Row.rec (motive := fun _ => AV → (Row → RR) → RR) (fun a0 a1 a2 _ a4 a5 a6 a7 a8 a9 a10 a11 a12 a13 a14 a15 v k => k (.mk a0 a1 a2 v a4 a5 a6 a7 a8 a9 a10 a11 a12 a13 a14 a15)) r v k)
  (fun r v k => Row.rec (motive := fun _ => AV → (Row → RR) → RR) (fun a0 a1 a2 a3 _ a5 a6 a7 a8 a9 a10 a11 a12 a13 a14 a15 v k => k (.mk a0 a1 a2 a3 v a5 a6 a7 a8 a9 a10 a11 a12 a13 a14 a15)) r v k)
  (fun r v k => Row.rec (motive := fun _ => AV → (Row → RR) → RR) (fun a0 a1 a2 a3 a4 _ a6 a7 a8 a9 a10 a11 a12 a13 a14 a15 v k => k (.mk a0 a1 a2 a3 a4 v a6 a7 a8 a9 a10 a11 a12 a13 a14 a15)) r v k)
  (fun r v k => Row.rec (motive := fun _ => AV → (Row → RR) → RR) (fun a0 a1 a2 a3 a4 a5 _ a7 a8 a9 a10 a11 a12 a13 a14 a15 v k => k (.mk a0 a1 a2 a3 a4 a5 v a7 a8 a9 a10 a11 a12 a13 a14 a15)) r v k)
  (fun r v k => Row.rec (motive := fun _ => AV → (Row → RR) → RR) (fun a0 a1 a2 a3 a4 a5 a6 _ a8 a9 a10 a11 a12 a13 a14 a15 v k => k (.mk a0 a1 a2 a3 a4 a5 a6 v a8 a9 a10 a11 a12 a13 a14 a15)) r v k)
  (fun r v k => Row.rec (motive := fun _ => AV → (Row → RR) → RR) (fun a0 a1 a2 a3 a4 a5 a6 a7 _ a9 a10 a11 a12 a13 a14 a15 v k => k (.mk a0 a1 a2 a3 a4 a5 a6 a7 v a9 a10 a11 a12 a13 a14 a15)) r v k)
  (fun r v k => Row.rec (motive := fun _ => AV → (Row → RR) → RR) (fun a0 a1 a2 a3 a4 a5 a6 a7 a8 _ a10 a11 a12 a13 a14 a15 v k => k (.mk a0 a1 a2 a3 a4 a5 a6 a7 a8 v a10 a11 a12 a13 a14 a15)) r v k)
  (fun r v k => Row.rec (motive := fun _ => AV → (Row → RR) → RR) (fun a0 a1 a2 a3 a4 a5 a6 a7 a8 a9 _ a11 a12 a13 a14 a15 v k => k (.mk a0 a1 a2 a3 a4 a5 a6 a7 a8 a9 v a11 a12 a13 a14 a15)) r v k)
  (fun r v k => Row.rec (motive := fun _ => AV → (Row → RR) → RR) (fun a0 a1 a2 a3 a4 a5 a6 a7 a8 a9 a10 _ a12 a13 a14 a15 v k => k (.mk a0 a1 a2 a3 a4 a5 a6 a7 a8 a9 a10 v a12 a13 a14 a15)) r v k)
  (fun r v k => Row.rec (motive := fun _ => AV → (Row → RR) → RR) (fun a0 a1 a2 a3 a4 a5 a6 a7 a8 a9 a10 a11 _ a13 a14 a15 v k => k (.mk a0 a1 a2 a3 a4 a5 a6 a7 a8 a9 a10 a11 v a13 a14 a15)) r v k)
  (fun r v k => Row.rec (motive := fun _ => AV → (Row → RR) → RR) (fun a0 a1 a2 a3 a4 a5 a6 a7 a8 a9 a10 a11 a12 _ a14 a15 v k => k (.mk a0 a1 a2 a3 a4 a5 a6 a7 a8 a9 a10 a11 a12 v a14 a15)) r v k)
  (fun r v k => Row.rec (motive := fun _ => AV → (Row → RR) → RR) (fun a0 a1 a2 a3 a4 a5 a6 a7 a8 a9 a10 a11 a12 a13 _ a15 v k => k (.mk a0 a1 a2 a3 a4 a5 a6 a7 a8 a9 a10 a11 a12 a13 v a15)) r v k)
  (fun r v k => Row.rec (motive := fun _ => AV → (Row → RR) → RR) (fun a0 a1 a2 a3 a4 a5 a6 a7 a8 a9 a10 a11 a12 a13 a14 _ v k => k (.mk a0 a1 a2 a3 a4 a5 a6 a7 a8 a9 a10 a11 a12 a13 a14 v)) r v k)
  s r v k
noncomputable def rset (s : S16) (r : Row) (v : AV) : Row := S16.rec (motive := fun _ => Row)
  (Row.rec (motive := fun _ => Row) (fun _ a1 a2 a3 a4 a5 a6 a7 a8 a9 a10 a11 a12 a13 a14 a15 => .mk v a1 a2 a3 a4 a5 a6 a7 a8 a9 a10 a11 a12 a13 a14 a15) r)
  (Row.rec (motive := fun _ => Row) (fun a0 _ a2 a3 a4 a5 a6 a7 a8 a9 a10 a11 a12 a13 a14 a15 => .mk a0 v a2 a3 a4 a5 a6 a7 a8 a9 a10 a11 a12 a13 a14 a15) r)
  (Row.rec (motive := fun _ => Row) (fun a0 a1 _ a3 a4 a5 a6 a7 a8 a9 a10 a11 a12 a13 a14 a15 => .mk a0 a1 v a3 a4 a5 a6 a7 a8 a9 a10 a11 a12 a13 a14 a15) r)
  (Row.rec (motive := fun _ => Row) (fun a0 a1 a2 _ a4 a5 a6 a7 a8 a9 a10 a11 a12 a13 a14 a15 => .mk a0 a1 a2 v a4 a5 a6 a7 a8 a9 a10 a11 a12 a13 a14 a15) r)
  (Row.rec (motive := fun _ => Row) (fun a0 a1 a2 a3 _ a5 a6 a7 a8 a9 a10 a11 a12 a13 a14 a15 => .mk a0 a1 a2 a3 v a5 a6 a7 a8 a9 a10 a11 a12 a13 a14 a15) r)
  (Row.rec (motive := fun _ => Row) (fun a0 a1 a2 a3 a4 _ a6 a7 a8 a9 a10 a11 a12 a13 a14 a15 => .mk a0 a1 a2 a3 a4 v a6 a7 a8 a9 a10 a11 a12 a13 a14 a15) r)
  (Row.rec (motive := fun _ => Row) (fun a0 a1 a2 a3 a4 a5 _ a7 a8 a9 a10 a11 a12 a13 a14 a15 => .mk a0 a1 a2 a3 a4 a5 v a7 a8 a9 a10 a11 a12 a13 a14 a15) r)
  (Row.rec (motive := fun _ => Row) (fun a0 a1 a2 a3 a4 a5 a6 _ a8 a9 a10 a11 a12 a13 a14 a15 => .mk a0 a1 a2 a3 a4 a5 a6 v a8 a9 a10 a11 a12 a13 a14 a15) r)
  (Row.rec (motive := fun _ => Row) (fun a0 a1 a2 a3 a4 a5 a6 a7 _ a9 a10 a11 a12 a13 a14 a15 => .mk a0 a1 a2 a3 a4 a5 a6 a7 v a9 a10 a11 a12 a13 a14 a15) r)
  (Row.rec (motive := fun _ => Row) (fun a0 a1 a2 a3 a4 a5 a6 a7 a8 _ a10 a11 a12 a13 a14 a15 => .mk a0 a1 a2 a3 a4 a5 a6 a7 a8 v a10 a11 a12 a13 a14 a15) r)
  (Row.rec (motive := fun _ => Row) (fun a0 a1 a2 a3 a4 a5 a6 a7 a8 a9 _ a11 a12 a13 a14 a15 => .mk a0 a1 a2 a3 a4 a5 a6 a7 a8 a9 v a11 a12 a13 a14 a15) r)
  (Row.rec (motive := fun _ => Row) (fun a0 a1 a2 a3 a4 a5 a6 a7 a8 a9 a10 _ a12 a13 a14 a15 => .mk a0 a1 a2 a3 a4 a5 a6 a7 a8 a9 a10 v a12 a13 a14 a15) r)
  (Row.rec (motive := fun _ => Row) (fun a0 a1 a2 a3 a4 a5 a6 a7 a8 a9 a10 a11 _ a13 a14 a15 => .mk a0 a1 a2 a3 a4 a5 a6 a7 a8 a9 a10 a11 v a13 a14 a15) r)
  (Row.rec (motive := fun _ => Row) (fun a0 a1 a2 a3 a4 a5 a6 a7 a8 a9 a10 a11 a12 _ a14 a15 => .mk a0 a1 a2 a3 a4 a5 a6 a7 a8 a9 a10 a11 a12 v a14 a15) r)
  (Row.rec (motive := fun _ => Row) (fun a0 a1 a2 a3 a4 a5 a6 a7 a8 a9 a10 a11 a12 a13 _ a15 => .mk a0 a1 a2 a3 a4 a5 a6 a7 a8 a9 a10 a11 a12 a13 v a15) r)
  (Row.rec (motive := fun _ => Row) (fun a0 a1 a2 a3 a4 a5 a6 a7 a8 a9 a10 a11 a12 a13 a14 _ => .mk a0 a1 a2 a3 a4 a5 a6 a7 a8 a9 a10 a11 a12 a13 a14 v) r)
  s
noncomputable def tg (s : S16) (t : T2) : Row := S16.rec (motive := fun _ => T2 → Row)
  (fun t => T2.rec (motive := fun _ => Row) (fun r0 _ _ _ _ _ _ _ _ _ _ _ _ _ _ _ => r0) t)
  (fun t => T2.rec (motive := fun _ => Row) (fun _ r1 _ _ _ _ _ _ _ _ _ _ _ _ _ _ => r1) t)
  (fun t => T2.rec (motive := fun _ => Row) (fun _ _ r2 _ _ _ _ _ _ _ _ _ _ _ _ _ => r2) t)
  (fun t => T2.rec (motive := fun _ => Row) (fun _ _ _ r3 _ _ _ _ _ _ _ _ _ _ _ _ => r3) t)
  (fun t => T2.rec (motive := fun _ => Row) (fun _ _ _ _ r4 _ _ _ _ _ _ _ _ _ _ _ => r4) t)
  (fun t => T2.rec (motive := fun _ => Row) (fun _ _ _ _ _ r5 _ _ _ _ _ _ _ _ _ _ => r5) t)
  (fun t => T2.rec (motive := fun _ => Row) (fun _ _ _ _ _ _ r6 _ _ _ _ _ _ _ _ _ => r6) t)
  (fun t => T2.rec (motive := fun _ => Row) (fun _ _ _ _ _ _ _ r7 _ _ _ _ _ _ _ _ => r7) t)
  (fun t => T2.rec (motive := fun _ => Row) (fun _ _ _ _ _ _ _ _ r8 _ _ _ _ _ _ _ => r8) t)
  (fun t => T2.rec (motive := fun _ => Row) (fun _ _ _ _ _ _ _ _ _ r9 _ _ _ _ _ _ => r9) t)
  (fun t => T2.rec (motive := fun _ => Row) (fun _ _ _ _ _ _ _ _ _ _ r10 _ _ _ _ _ => r10) t)
  (fun t => T2.rec (motive := fun _ => Row) (fun _ _ _ _ _ _ _ _ _ _ _ r11 _ _ _ _ => r11) t)
  (fun t => T2.rec (motive := fun _ => Row) (fun _ _ _ _ _ _ _ _ _ _ _ _ r12 _ _ _ => r12) t)
  (fun t => T2.rec (motive := fun _ => Row) (fun _ _ _ _ _ _ _ _ _ _ _ _ _ r13 _ _ => r13) t)
  (fun t => T2.rec (motive := fun _ => Row) (fun _ _ _ _ _ _ _ _ _ _ _ _ _ _ r14 _ => r14) t)
  (fun t => T2.rec (motive := fun _ => Row) (fun _ _ _ _ _ _ _ _ _ _ _ _ _ _ _ r15 => r15) t)
  s t
noncomputable def ts (s : S16) (t : T2) (r : Row) (k : T2 → RR) : RR := S16.rec (motive := fun _ => T2 → Row → (T2 → RR) → RR)
  (fun t r k => T2.rec (motive := fun _ => Row → (T2 → RR) → RR) (fun _ r1 r2 r3 r4 r5 r6 r7 r8 r9 r10 r11 r12 r13 r14 r15 r k => k (.mk r r1 r2 r3 r4 r5 r6 r7 r8 r9 r10 r11 r12 r13 r14 r15)) t r k)
  (fun t r k => T2.rec (motive := fun _ => Row → (T2 → RR) → RR) (fun r0 _ r2 r3 r4 r5 r6 r7 r8 r9 r10 r11 r12 r13 r14 r15 r k => k (.mk r0 r r2 r3 r4 r5 r6 r7 r8 r9 r10 r11 r12 r13 r14 r15)) t r k)
  (fun t r k => T2.rec (motive := fun _ => Row → (T2 → RR) → RR) (fun r0 r1 _ r3 r4 r5 r6 r7 r8 r9 r10 r11 r12 r13 r14 r15 r k => k (.mk r0 r1 r r3 r4 r5 r6 r7 r8 r9 r10 r11 r12 r13 r14 r15)) t r k)
  (fun t r k => T2.rec (motive := fun _ => Row → (T2 → RR) → RR) (fun r0 r1 r2 _ r4 r5 r6 r7 r8 r9 r10 r11 r12 r13 r14 r15 r k => k (.mk r0 r1 r2 r r4 r5 r6 r7 r8 r9 r10 r11 r12 r13 r14 r15)) t r k)
  (fun t r k => T2.rec (motive := fun _ => Row → (T2 → RR) → RR) (fun r0 r1 r2 r3 _ r5 r6 r7 r8 r9 r10 r11 r12 r13 r14 r15 r k => k (.mk r0 r1 r2 r3 r r5 r6 r7 r8 r9 r10 r11 r12 r13 r14 r15)) t r k)
  (fun t r k => T2.rec (motive := fun _ => Row → (T2 → RR) → RR) (fun r0 r1 r2 r3 r4 _ r6 r7 r8 r9 r10 r11 r12 r13 r14 r15 r k => k (.mk r0 r1 r2 r3 r4 r r6 r7 r8 r9 r10 r11 r12 r13 r14 r15)) t r k)
  (fun t r k => T2.rec (motive := fun _ => Row → (T2 → RR) → RR) (fun r0 r1 r2 r3 r4 r5 _ r7 r8 r9 r10 r11 r12 r13 r14 r15 r k => k (.mk r0 r1 r2 r3 r4 r5 r r7 r8 r9 r10 r11 r12 r13 r14 r15)) t r k)
  (fun t r k => T2.rec (motive := fun _ => Row → (T2 → RR) → RR) (fun r0 r1 r2 r3 r4 r5 r6 _ r8 r9 r10 r11 r12 r13 r14 r15 r k => k (.mk r0 r1 r2 r3 r4 r5 r6 r r8 r9 r10 r11 r12 r13 r14 r15)) t r k)
  (fun t r k => T2.rec (motive := fun _ => Row → (T2 → RR) → RR) (fun r0 r1 r2 r3 r4 r5 r6 r7 _ r9 r10 r11 r12 r13 r14 r15 r k => k (.mk r0 r1 r2 r3 r4 r5 r6 r7 r r9 r10 r11 r12 r13 r14 r15)) t r k)
  (fun t r k => T2.rec (motive := fun _ => Row → (T2 → RR) → RR) (fun r0 r1 r2 r3 r4 r5 r6 r7 r8 _ r10 r11 r12 r13 r14 r15 r k => k (.mk r0 r1 r2 r3 r4 r5 r6 r7 r8 r r10 r11 r12 r13 r14 r15)) t r k)
  (fun t r k => T2.rec (motive := fun _ => Row → (T2 → RR) → RR) (fun r0 r1 r2 r3 r4 r5 r6 r7 r8 r9 _ r11 r12 r13 r14 r15 r k => k (.mk r0 r1 r2 r3 r4 r5 r6 r7 r8 r9 r r11 r12 r13 r14 r15)) t r k)
  (fun t r k => T2.rec (motive := fun _ => Row → (T2 → RR) → RR) (fun r0 r1 r2 r3 r4 r5 r6 r7 r8 r9 r10 _ r12 r13 r14 r15 r k => k (.mk r0 r1 r2 r3 r4 r5 r6 r7 r8 r9 r10 r r12 r13 r14 r15)) t r k)
  (fun t r k => T2.rec (motive := fun _ => Row → (T2 → RR) → RR) (fun r0 r1 r2 r3 r4 r5 r6 r7 r8 r9 r10 r11 _ r13 r14 r15 r k => k (.mk r0 r1 r2 r3 r4 r5 r6 r7 r8 r9 r10 r11 r r13 r14 r15)) t r k)
  (fun t r k => T2.rec (motive := fun _ => Row → (T2 → RR) → RR) (fun r0 r1 r2 r3 r4 r5 r6 r7 r8 r9 r10 r11 r12 _ r14 r15 r k => k (.mk r0 r1 r2 r3 r4 r5 r6 r7 r8 r9 r10 r11 r12 r r14 r15)) t r k)
  (fun t r k => T2.rec (motive := fun _ => Row → (T2 → RR) → RR) (fun r0 r1 r2 r3 r4 r5 r6 r7 r8 r9 r10 r11 r12 r13 _ r15 r k => k (.mk r0 r1 r2 r3 r4 r5 r6 r7 r8 r9 r10 r11 r12 r13 r r15)) t r k)
  (fun t r k => T2.rec (motive := fun _ => Row → (T2 → RR) → RR) (fun r0 r1 r2 r3 r4 r5 r6 r7 r8 r9 r10 r11 r12 r13 r14 _ r k => k (.mk r0 r1 r2 r3 r4 r5 r6 r7 r8 r9 r10 r11 r12 r13 r14 r)) t r k)
  s t r k
noncomputable def tset (s : S16) (t : T2) (r : Row) : T2 := S16.rec (motive := fun _ => T2)
  (T2.rec (motive := fun _ => T2) (fun _ r1 r2 r3 r4 r5 r6 r7 r8 r9 r10 r11 r12 r13 r14 r15 => .mk r r1 r2 r3 r4 r5 r6 r7 r8 r9 r10 r11 r12 r13 r14 r15) t)
  (T2.rec (motive := fun _ => T2) (fun r0 _ r2 r3 r4 r5 r6 r7 r8 r9 r10 r11 r12 r13 r14 r15 => .mk r0 r r2 r3 r4 r5 r6 r7 r8 r9 r10 r11 r12 r13 r14 r15) t)
  (T2.rec (motive := fun _ => T2) (fun r0 r1 _ r3 r4 r5 r6 r7 r8 r9 r10 r11 r12 r13 r14 r15 => .mk r0 r1 r r3 r4 r5 r6 r7 r8 r9 r10 r11 r12 r13 r14 r15) t)
  (T2.rec (motive := fun _ => T2) (fun r0 r1 r2 _ r4 r5 r6 r7 r8 r9 r10 r11 r12 r13 r14 r15 => .mk r0 r1 r2 r r4 r5 r6 r7 r8 r9 r10 r11 r12 r13 r14 r15) t)
  (T2.rec (motive := fun _ => T2) (fun r0 r1 r2 r3 _ r5 r6 r7 r8 r9 r10 r11 r12 r13 r14 r15 => .mk r0 r1 r2 r3 r r5 r6 r7 r8 r9 r10 r11 r12 r13 r14 r15) t)
  (T2.rec (motive := fun _ => T2) (fun r0 r1 r2 r3 r4 _ r6 r7 r8 r9 r10 r11 r12 r13 r14 r15 => .mk r0 r1 r2 r3 r4 r r6 r7 r8 r9 r10 r11 r12 r13 r14 r15) t)
  (T2.rec (motive := fun _ => T2) (fun r0 r1 r2 r3 r4 r5 _ r7 r8 r9 r10 r11 r12 r13 r14 r15 => .mk r0 r1 r2 r3 r4 r5 r r7 r8 r9 r10 r11 r12 r13 r14 r15) t)
  (T2.rec (motive := fun _ => T2) (fun r0 r1 r2 r3 r4 r5 r6 _ r8 r9 r10 r11 r12 r13 r14 r15 => .mk r0 r1 r2 r3 r4 r5 r6 r r8 r9 r10 r11 r12 r13 r14 r15) t)
  (T2.rec (motive := fun _ => T2) (fun r0 r1 r2 r3 r4 r5 r6 r7 _ r9 r10 r11 r12 r13 r14 r15 => .mk r0 r1 r2 r3 r4 r5 r6 r7 r r9 r10 r11 r12 r13 r14 r15) t)
  (T2.rec (motive := fun _ => T2) (fun r0 r1 r2 r3 r4 r5 r6 r7 r8 _ r10 r11 r12 r13 r14 r15 => .mk r0 r1 r2 r3 r4 r5 r6 r7 r8 r r10 r11 r12 r13 r14 r15) t)
  (T2.rec (motive := fun _ => T2) (fun r0 r1 r2 r3 r4 r5 r6 r7 r8 r9 _ r11 r12 r13 r14 r15 => .mk r0 r1 r2 r3 r4 r5 r6 r7 r8 r9 r r11 r12 r13 r14 r15) t)
  (T2.rec (motive := fun _ => T2) (fun r0 r1 r2 r3 r4 r5 r6 r7 r8 r9 r10 _ r12 r13 r14 r15 => .mk r0 r1 r2 r3 r4 r5 r6 r7 r8 r9 r10 r r12 r13 r14 r15) t)
  (T2.rec (motive := fun _ => T2) (fun r0 r1 r2 r3 r4 r5 r6 r7 r8 r9 r10 r11 _ r13 r14 r15 => .mk r0 r1 r2 r3 r4 r5 r6 r7 r8 r9 r10 r11 r r13 r14 r15) t)
  (T2.rec (motive := fun _ => T2) (fun r0 r1 r2 r3 r4 r5 r6 r7 r8 r9 r10 r11 r12 _ r14 r15 => .mk r0 r1 r2 r3 r4 r5 r6 r7 r8 r9 r10 r11 r12 r r14 r15) t)
  (T2.rec (motive := fun _ => T2) (fun r0 r1 r2 r3 r4 r5 r6 r7 r8 r9 r10 r11 r12 r13 _ r15 => .mk r0 r1 r2 r3 r4 r5 r6 r7 r8 r9 r10 r11 r12 r13 r r15) t)
  (T2.rec (motive := fun _ => T2) (fun r0 r1 r2 r3 r4 r5 r6 r7 r8 r9 r10 r11 r12 r13 r14 _ => .mk r0 r1 r2 r3 r4 r5 r6 r7 r8 r9 r10 r11 r12 r13 r14 r) t)
  s
noncomputable def get2 (q r : S16) (t : T2) : AV := rg r (tg q t)
noncomputable def set2 (q r : S16) (t : T2) (v : AV) (k : T2 → RR) : RR := rs r (tg q t) v fun row => ts q t row k
noncomputable def set2p (q r : S16) (t : T2) (v : AV) : T2 := tset q t (rset r (tg q t) v)
theorem rs_eq (s : S16) (r : Row) (v : AV) (k : Row → RR) : rs s r v k = k (rset s r v) := by cases s <;> cases r <;> rfl
theorem ts_eq (s : S16) (t : T2) (r : Row) (k : T2 → RR) : ts s t r k = k (tset s t r) := by cases s <;> cases t <;> rfl
theorem set2_eq (q r : S16) (t : T2) (v : AV) (k : T2 → RR) : set2 q r t v k = k (set2p q r t v) := by unfold set2; rw [rs_eq, ts_eq]; rfl
theorem rg_same (s : S16) (r : Row) (v : AV) : rg s (rset s r v) = v := by cases s <;> cases r <;> rfl
theorem tg_same (s : S16) (t : T2) (r : Row) : tg s (tset s t r) = r := by cases s <;> cases t <;> rfl
theorem rg_ne {s s' : S16} (h : s ≠ s') (r : Row) (v : AV) : rg s (rset s' r v) = rg s r := by cases r; cases s <;> cases s' <;> first | rfl | exact (h rfl).elim
theorem tg_ne {s s' : S16} (h : s ≠ s') (t : T2) (r : Row) : tg s (tset s' t r) = tg s t := by cases t; cases s <;> cases s' <;> first | rfl | exact (h rfl).elim
theorem S16.inj {s s' : S16} (h : s.n = s'.n) : s = s' := by cases s <;> cases s' <;> first | rfl | (cases h; done)
theorem S16.lt (s : S16) : s.n < 16 := by cases s <;> decide
def S16.of (n : Nat) : S16 := match n with
  | 0 => .s0
  | 1 => .s1
  | 2 => .s2
  | 3 => .s3
  | 4 => .s4
  | 5 => .s5
  | 6 => .s6
  | 7 => .s7
  | 8 => .s8
  | 9 => .s9
  | 10 => .s10
  | 11 => .s11
  | 12 => .s12
  | 13 => .s13
  | 14 => .s14
  | _ => .s15
theorem S16.n_of {n : Nat} (h : n < 16) : (S16.of n).n = n := by
  rcases (show n = 0 ∨ n = 1 ∨ n = 2 ∨ n = 3 ∨ n = 4 ∨ n = 5 ∨ n = 6 ∨ n = 7 ∨ n = 8 ∨ n = 9 ∨ n = 10 ∨ n = 11 ∨ n = 12 ∨ n = 13 ∨ n = 14 ∨ n = 15 by omega) with h | h | h | h | h | h | h | h | h | h | h | h | h | h | h | h <;> subst h <;> rfl
theorem S16.of_n (s : S16) : S16.of s.n = s := S16.inj (S16.n_of s.lt)

def row0 : Row := .mk noVal noVal noVal noVal noVal noVal noVal noVal noVal noVal noVal noVal noVal noVal noVal noVal
noncomputable def headA (l : List AV) (k : AV → List AV → RR) : RR := List.rec (motive := fun _ => (AV → List AV → RR) → RR) (fun k => k noVal []) (fun h t _ k => k h t) l k
noncomputable def initT (l : List AV) (k : T2 → RR) : RR := headA l fun a0 l => headA l fun a1 l => headA l fun a2 l => headA l fun a3 l => headA l fun a4 l => headA l fun a5 l => headA l fun a6 l => headA l fun a7 l => headA l fun a8 l => headA l fun a9 l => headA l fun a10 l => headA l fun a11 l => headA l fun a12 l => headA l fun a13 l => headA l fun a14 l => headA l fun a15 _ => k (.mk (.mk a0 a1 a2 a3 a4 a5 a6 a7 a8 a9 a10 a11 a12 a13 a14 a15) row0 row0 row0 row0 row0 row0 row0 row0 row0 row0 row0 row0 row0 row0 row0)
end Go.Ev
