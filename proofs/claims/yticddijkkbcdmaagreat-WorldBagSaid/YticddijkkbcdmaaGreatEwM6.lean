/-
  The evaluator: pieces of code as terms.
-/
import Derived.Test.YticddijkkbcdmaaGreatEwM5
set_option linter.unusedVariables false
set_option linter.unusedSimpArgs false
noncomputable section
namespace Go.Ev
inductive Fm where
 |mk (a0 a1 a2 a3 a4 a5 a6 a7:AV) (x:T2)
abbrev GT:=Fm→AV
abbrev ST:=Fm→AV→(Fm→RR)→RR
abbrev HC:=Orc RR→CallT RR→Fz→Fm→St→Nat→(AExit→Fm→St→Nat→RR)→RR
def rowU:Row:=.mk (.one .un) (.one .un) (.one .un) (.one .un) (.one .un) (.one .un) (.one .un) (.one .un) (.one .un) (.one .un) (.one .un) (.one .un) (.one .un) (.one .un) (.one .un) (.one .un)
def t2U:T2:=.mk rowU rowU rowU rowU rowU rowU rowU rowU rowU rowU rowU rowU rowU rowU rowU rowU
def d0:GT:=λt=>Fm.rec (motive:=λ_=>AV) (λa0 _ _ _ _ _ _ _ _=>a0) t
def d1:GT:=λt=>Fm.rec (motive:=λ_=>AV) (λ_ a1 _ _ _ _ _ _ _=>a1) t
def d2:GT:=λt=>Fm.rec (motive:=λ_=>AV) (λ_ _ a2 _ _ _ _ _ _=>a2) t
def d3:GT:=λt=>Fm.rec (motive:=λ_=>AV) (λ_ _ _ a3 _ _ _ _ _=>a3) t
def d4:GT:=λt=>Fm.rec (motive:=λ_=>AV) (λ_ _ _ _ a4 _ _ _ _=>a4) t
def d5:GT:=λt=>Fm.rec (motive:=λ_=>AV) (λ_ _ _ _ _ a5 _ _ _=>a5) t
def d6:GT:=λt=>Fm.rec (motive:=λ_=>AV) (λ_ _ _ _ _ _ a6 _ _=>a6) t
def d7:GT:=λt=>Fm.rec (motive:=λ_=>AV) (λ_ _ _ _ _ _ _ a7 _=>a7) t
def sd0:ST:=λt v k=>Fm.rec (motive:=λ_=>AV→(Fm→RR)→RR) (λ_ a1 a2 a3 a4 a5 a6 a7 x v k=>k (.mk v a1 a2 a3 a4 a5 a6 a7 x)) t v k
def sd1:ST:=λt v k=>Fm.rec (motive:=λ_=>AV→(Fm→RR)→RR) (λa0 _ a2 a3 a4 a5 a6 a7 x v k=>k (.mk a0 v a2 a3 a4 a5 a6 a7 x)) t v k
def sd2:ST:=λt v k=>Fm.rec (motive:=λ_=>AV→(Fm→RR)→RR) (λa0 a1 _ a3 a4 a5 a6 a7 x v k=>k (.mk a0 a1 v a3 a4 a5 a6 a7 x)) t v k
def sd3:ST:=λt v k=>Fm.rec (motive:=λ_=>AV→(Fm→RR)→RR) (λa0 a1 a2 _ a4 a5 a6 a7 x v k=>k (.mk a0 a1 a2 v a4 a5 a6 a7 x)) t v k
def sd4:ST:=λt v k=>Fm.rec (motive:=λ_=>AV→(Fm→RR)→RR) (λa0 a1 a2 a3 _ a5 a6 a7 x v k=>k (.mk a0 a1 a2 a3 v a5 a6 a7 x)) t v k
def sd5:ST:=λt v k=>Fm.rec (motive:=λ_=>AV→(Fm→RR)→RR) (λa0 a1 a2 a3 a4 _ a6 a7 x v k=>k (.mk a0 a1 a2 a3 a4 v a6 a7 x)) t v k
def sd6:ST:=λt v k=>Fm.rec (motive:=λ_=>AV→(Fm→RR)→RR) (λa0 a1 a2 a3 a4 a5 _ a7 x v k=>k (.mk a0 a1 a2 a3 a4 a5 v a7 x)) t v k
def sd7:ST:=λt v k=>Fm.rec (motive:=λ_=>AV→(Fm→RR)→RR) (λa0 a1 a2 a3 a4 a5 a6 _ x v k=>k (.mk a0 a1 a2 a3 a4 a5 a6 v x)) t v k
def e0_0:GT:=λt=>Fm.rec (motive:=λ_=>AV) (λ_ _ _ _ _ _ _ _ x=>T2.rec (motive:=λ_=>AV) (λr0 _ _ _ _ _ _ _ _ _ _ _ _ _ _ _=>Row.rec (motive:=λ_=>AV) (λb0 _ _ _ _ _ _ _ _ _ _ _ _ _ _ _=>b0) r0) x) t
def e0_1:GT:=λt=>Fm.rec (motive:=λ_=>AV) (λ_ _ _ _ _ _ _ _ x=>T2.rec (motive:=λ_=>AV) (λr0 _ _ _ _ _ _ _ _ _ _ _ _ _ _ _=>Row.rec (motive:=λ_=>AV) (λ_ b1 _ _ _ _ _ _ _ _ _ _ _ _ _ _=>b1) r0) x) t
def e0_2:GT:=λt=>Fm.rec (motive:=λ_=>AV) (λ_ _ _ _ _ _ _ _ x=>T2.rec (motive:=λ_=>AV) (λr0 _ _ _ _ _ _ _ _ _ _ _ _ _ _ _=>Row.rec (motive:=λ_=>AV) (λ_ _ b2 _ _ _ _ _ _ _ _ _ _ _ _ _=>b2) r0) x) t
def e0_3:GT:=λt=>Fm.rec (motive:=λ_=>AV) (λ_ _ _ _ _ _ _ _ x=>T2.rec (motive:=λ_=>AV) (λr0 _ _ _ _ _ _ _ _ _ _ _ _ _ _ _=>Row.rec (motive:=λ_=>AV) (λ_ _ _ b3 _ _ _ _ _ _ _ _ _ _ _ _=>b3) r0) x) t
def e0_4:GT:=λt=>Fm.rec (motive:=λ_=>AV) (λ_ _ _ _ _ _ _ _ x=>T2.rec (motive:=λ_=>AV) (λr0 _ _ _ _ _ _ _ _ _ _ _ _ _ _ _=>Row.rec (motive:=λ_=>AV) (λ_ _ _ _ b4 _ _ _ _ _ _ _ _ _ _ _=>b4) r0) x) t
def e0_5:GT:=λt=>Fm.rec (motive:=λ_=>AV) (λ_ _ _ _ _ _ _ _ x=>T2.rec (motive:=λ_=>AV) (λr0 _ _ _ _ _ _ _ _ _ _ _ _ _ _ _=>Row.rec (motive:=λ_=>AV) (λ_ _ _ _ _ b5 _ _ _ _ _ _ _ _ _ _=>b5) r0) x) t
def e0_6:GT:=λt=>Fm.rec (motive:=λ_=>AV) (λ_ _ _ _ _ _ _ _ x=>T2.rec (motive:=λ_=>AV) (λr0 _ _ _ _ _ _ _ _ _ _ _ _ _ _ _=>Row.rec (motive:=λ_=>AV) (λ_ _ _ _ _ _ b6 _ _ _ _ _ _ _ _ _=>b6) r0) x) t
def e0_7:GT:=λt=>Fm.rec (motive:=λ_=>AV) (λ_ _ _ _ _ _ _ _ x=>T2.rec (motive:=λ_=>AV) (λr0 _ _ _ _ _ _ _ _ _ _ _ _ _ _ _=>Row.rec (motive:=λ_=>AV) (λ_ _ _ _ _ _ _ b7 _ _ _ _ _ _ _ _=>b7) r0) x) t
def e0_8:GT:=λt=>Fm.rec (motive:=λ_=>AV) (λ_ _ _ _ _ _ _ _ x=>T2.rec (motive:=λ_=>AV) (λr0 _ _ _ _ _ _ _ _ _ _ _ _ _ _ _=>Row.rec (motive:=λ_=>AV) (λ_ _ _ _ _ _ _ _ b8 _ _ _ _ _ _ _=>b8) r0) x) t
def e0_9:GT:=λt=>Fm.rec (motive:=λ_=>AV) (λ_ _ _ _ _ _ _ _ x=>T2.rec (motive:=λ_=>AV) (λr0 _ _ _ _ _ _ _ _ _ _ _ _ _ _ _=>Row.rec (motive:=λ_=>AV) (λ_ _ _ _ _ _ _ _ _ b9 _ _ _ _ _ _=>b9) r0) x) t
def e0_10:GT:=λt=>Fm.rec (motive:=λ_=>AV) (λ_ _ _ _ _ _ _ _ x=>T2.rec (motive:=λ_=>AV) (λr0 _ _ _ _ _ _ _ _ _ _ _ _ _ _ _=>Row.rec (motive:=λ_=>AV) (λ_ _ _ _ _ _ _ _ _ _ b10 _ _ _ _ _=>b10) r0) x) t
def e0_11:GT:=λt=>Fm.rec (motive:=λ_=>AV) (λ_ _ _ _ _ _ _ _ x=>T2.rec (motive:=λ_=>AV) (λr0 _ _ _ _ _ _ _ _ _ _ _ _ _ _ _=>Row.rec (motive:=λ_=>AV) (λ_ _ _ _ _ _ _ _ _ _ _ b11 _ _ _ _=>b11) r0) x) t
def e0_12:GT:=λt=>Fm.rec (motive:=λ_=>AV) (λ_ _ _ _ _ _ _ _ x=>T2.rec (motive:=λ_=>AV) (λr0 _ _ _ _ _ _ _ _ _ _ _ _ _ _ _=>Row.rec (motive:=λ_=>AV) (λ_ _ _ _ _ _ _ _ _ _ _ _ b12 _ _ _=>b12) r0) x) t
def e0_13:GT:=λt=>Fm.rec (motive:=λ_=>AV) (λ_ _ _ _ _ _ _ _ x=>T2.rec (motive:=λ_=>AV) (λr0 _ _ _ _ _ _ _ _ _ _ _ _ _ _ _=>Row.rec (motive:=λ_=>AV) (λ_ _ _ _ _ _ _ _ _ _ _ _ _ b13 _ _=>b13) r0) x) t
def e0_14:GT:=λt=>Fm.rec (motive:=λ_=>AV) (λ_ _ _ _ _ _ _ _ x=>T2.rec (motive:=λ_=>AV) (λr0 _ _ _ _ _ _ _ _ _ _ _ _ _ _ _=>Row.rec (motive:=λ_=>AV) (λ_ _ _ _ _ _ _ _ _ _ _ _ _ _ b14 _=>b14) r0) x) t
def e0_15:GT:=λt=>Fm.rec (motive:=λ_=>AV) (λ_ _ _ _ _ _ _ _ x=>T2.rec (motive:=λ_=>AV) (λr0 _ _ _ _ _ _ _ _ _ _ _ _ _ _ _=>Row.rec (motive:=λ_=>AV) (λ_ _ _ _ _ _ _ _ _ _ _ _ _ _ _ b15=>b15) r0) x) t
def e1_0:GT:=λt=>Fm.rec (motive:=λ_=>AV) (λ_ _ _ _ _ _ _ _ x=>T2.rec (motive:=λ_=>AV) (λ_ r1 _ _ _ _ _ _ _ _ _ _ _ _ _ _=>Row.rec (motive:=λ_=>AV) (λb0 _ _ _ _ _ _ _ _ _ _ _ _ _ _ _=>b0) r1) x) t
def e1_1:GT:=λt=>Fm.rec (motive:=λ_=>AV) (λ_ _ _ _ _ _ _ _ x=>T2.rec (motive:=λ_=>AV) (λ_ r1 _ _ _ _ _ _ _ _ _ _ _ _ _ _=>Row.rec (motive:=λ_=>AV) (λ_ b1 _ _ _ _ _ _ _ _ _ _ _ _ _ _=>b1) r1) x) t
def e1_2:GT:=λt=>Fm.rec (motive:=λ_=>AV) (λ_ _ _ _ _ _ _ _ x=>T2.rec (motive:=λ_=>AV) (λ_ r1 _ _ _ _ _ _ _ _ _ _ _ _ _ _=>Row.rec (motive:=λ_=>AV) (λ_ _ b2 _ _ _ _ _ _ _ _ _ _ _ _ _=>b2) r1) x) t
def e1_3:GT:=λt=>Fm.rec (motive:=λ_=>AV) (λ_ _ _ _ _ _ _ _ x=>T2.rec (motive:=λ_=>AV) (λ_ r1 _ _ _ _ _ _ _ _ _ _ _ _ _ _=>Row.rec (motive:=λ_=>AV) (λ_ _ _ b3 _ _ _ _ _ _ _ _ _ _ _ _=>b3) r1) x) t
def e1_4:GT:=λt=>Fm.rec (motive:=λ_=>AV) (λ_ _ _ _ _ _ _ _ x=>T2.rec (motive:=λ_=>AV) (λ_ r1 _ _ _ _ _ _ _ _ _ _ _ _ _ _=>Row.rec (motive:=λ_=>AV) (λ_ _ _ _ b4 _ _ _ _ _ _ _ _ _ _ _=>b4) r1) x) t
def e1_5:GT:=λt=>Fm.rec (motive:=λ_=>AV) (λ_ _ _ _ _ _ _ _ x=>T2.rec (motive:=λ_=>AV) (λ_ r1 _ _ _ _ _ _ _ _ _ _ _ _ _ _=>Row.rec (motive:=λ_=>AV) (λ_ _ _ _ _ b5 _ _ _ _ _ _ _ _ _ _=>b5) r1) x) t
def e1_6:GT:=λt=>Fm.rec (motive:=λ_=>AV) (λ_ _ _ _ _ _ _ _ x=>T2.rec (motive:=λ_=>AV) (λ_ r1 _ _ _ _ _ _ _ _ _ _ _ _ _ _=>Row.rec (motive:=λ_=>AV) (λ_ _ _ _ _ _ b6 _ _ _ _ _ _ _ _ _=>b6) r1) x) t
def e1_7:GT:=λt=>Fm.rec (motive:=λ_=>AV) (λ_ _ _ _ _ _ _ _ x=>T2.rec (motive:=λ_=>AV) (λ_ r1 _ _ _ _ _ _ _ _ _ _ _ _ _ _=>Row.rec (motive:=λ_=>AV) (λ_ _ _ _ _ _ _ b7 _ _ _ _ _ _ _ _=>b7) r1) x) t
def e1_8:GT:=λt=>Fm.rec (motive:=λ_=>AV) (λ_ _ _ _ _ _ _ _ x=>T2.rec (motive:=λ_=>AV) (λ_ r1 _ _ _ _ _ _ _ _ _ _ _ _ _ _=>Row.rec (motive:=λ_=>AV) (λ_ _ _ _ _ _ _ _ b8 _ _ _ _ _ _ _=>b8) r1) x) t
def e1_9:GT:=λt=>Fm.rec (motive:=λ_=>AV) (λ_ _ _ _ _ _ _ _ x=>T2.rec (motive:=λ_=>AV) (λ_ r1 _ _ _ _ _ _ _ _ _ _ _ _ _ _=>Row.rec (motive:=λ_=>AV) (λ_ _ _ _ _ _ _ _ _ b9 _ _ _ _ _ _=>b9) r1) x) t
def e1_10:GT:=λt=>Fm.rec (motive:=λ_=>AV) (λ_ _ _ _ _ _ _ _ x=>T2.rec (motive:=λ_=>AV) (λ_ r1 _ _ _ _ _ _ _ _ _ _ _ _ _ _=>Row.rec (motive:=λ_=>AV) (λ_ _ _ _ _ _ _ _ _ _ b10 _ _ _ _ _=>b10) r1) x) t
def e1_11:GT:=λt=>Fm.rec (motive:=λ_=>AV) (λ_ _ _ _ _ _ _ _ x=>T2.rec (motive:=λ_=>AV) (λ_ r1 _ _ _ _ _ _ _ _ _ _ _ _ _ _=>Row.rec (motive:=λ_=>AV) (λ_ _ _ _ _ _ _ _ _ _ _ b11 _ _ _ _=>b11) r1) x) t
def e1_12:GT:=λt=>Fm.rec (motive:=λ_=>AV) (λ_ _ _ _ _ _ _ _ x=>T2.rec (motive:=λ_=>AV) (λ_ r1 _ _ _ _ _ _ _ _ _ _ _ _ _ _=>Row.rec (motive:=λ_=>AV) (λ_ _ _ _ _ _ _ _ _ _ _ _ b12 _ _ _=>b12) r1) x) t
def e1_13:GT:=λt=>Fm.rec (motive:=λ_=>AV) (λ_ _ _ _ _ _ _ _ x=>T2.rec (motive:=λ_=>AV) (λ_ r1 _ _ _ _ _ _ _ _ _ _ _ _ _ _=>Row.rec (motive:=λ_=>AV) (λ_ _ _ _ _ _ _ _ _ _ _ _ _ b13 _ _=>b13) r1) x) t
def e1_14:GT:=λt=>Fm.rec (motive:=λ_=>AV) (λ_ _ _ _ _ _ _ _ x=>T2.rec (motive:=λ_=>AV) (λ_ r1 _ _ _ _ _ _ _ _ _ _ _ _ _ _=>Row.rec (motive:=λ_=>AV) (λ_ _ _ _ _ _ _ _ _ _ _ _ _ _ b14 _=>b14) r1) x) t
def e1_15:GT:=λt=>Fm.rec (motive:=λ_=>AV) (λ_ _ _ _ _ _ _ _ x=>T2.rec (motive:=λ_=>AV) (λ_ r1 _ _ _ _ _ _ _ _ _ _ _ _ _ _=>Row.rec (motive:=λ_=>AV) (λ_ _ _ _ _ _ _ _ _ _ _ _ _ _ _ b15=>b15) r1) x) t
def far (f:T2→Row) (g:Row→AV):GT:=λt=>Fm.rec (motive:=λ_=>AV) (λ_ _ _ _ _ _ _ _ x=>g (f x)) t
def fr2 (x:T2):Row:=T2.rec (motive:=λ_=>Row) (λ_ _ r2 _ _ _ _ _ _ _ _ _ _ _ _ _=>r2) x
def fr3 (x:T2):Row:=T2.rec (motive:=λ_=>Row) (λ_ _ _ r3 _ _ _ _ _ _ _ _ _ _ _ _=>r3) x
def fr4 (x:T2):Row:=T2.rec (motive:=λ_=>Row) (λ_ _ _ _ r4 _ _ _ _ _ _ _ _ _ _ _=>r4) x
def fr5 (x:T2):Row:=T2.rec (motive:=λ_=>Row) (λ_ _ _ _ _ r5 _ _ _ _ _ _ _ _ _ _=>r5) x
def fr6 (x:T2):Row:=T2.rec (motive:=λ_=>Row) (λ_ _ _ _ _ _ r6 _ _ _ _ _ _ _ _ _=>r6) x
def fr7 (x:T2):Row:=T2.rec (motive:=λ_=>Row) (λ_ _ _ _ _ _ _ r7 _ _ _ _ _ _ _ _=>r7) x
def fr8 (x:T2):Row:=T2.rec (motive:=λ_=>Row) (λ_ _ _ _ _ _ _ _ r8 _ _ _ _ _ _ _=>r8) x
def fr9 (x:T2):Row:=T2.rec (motive:=λ_=>Row) (λ_ _ _ _ _ _ _ _ _ r9 _ _ _ _ _ _=>r9) x
def fr10 (x:T2):Row:=T2.rec (motive:=λ_=>Row) (λ_ _ _ _ _ _ _ _ _ _ r10 _ _ _ _ _=>r10) x
def fr11 (x:T2):Row:=T2.rec (motive:=λ_=>Row) (λ_ _ _ _ _ _ _ _ _ _ _ r11 _ _ _ _=>r11) x
def fr12 (x:T2):Row:=T2.rec (motive:=λ_=>Row) (λ_ _ _ _ _ _ _ _ _ _ _ _ r12 _ _ _=>r12) x
def fr13 (x:T2):Row:=T2.rec (motive:=λ_=>Row) (λ_ _ _ _ _ _ _ _ _ _ _ _ _ r13 _ _=>r13) x
def fr14 (x:T2):Row:=T2.rec (motive:=λ_=>Row) (λ_ _ _ _ _ _ _ _ _ _ _ _ _ _ r14 _=>r14) x
def fr15 (x:T2):Row:=T2.rec (motive:=λ_=>Row) (λ_ _ _ _ _ _ _ _ _ _ _ _ _ _ _ r15=>r15) x
def fc0 (x:Row):AV:=Row.rec (motive:=λ_=>AV) (λb0 _ _ _ _ _ _ _ _ _ _ _ _ _ _ _=>b0) x
def fc1 (x:Row):AV:=Row.rec (motive:=λ_=>AV) (λ_ b1 _ _ _ _ _ _ _ _ _ _ _ _ _ _=>b1) x
def fc2 (x:Row):AV:=Row.rec (motive:=λ_=>AV) (λ_ _ b2 _ _ _ _ _ _ _ _ _ _ _ _ _=>b2) x
def fc3 (x:Row):AV:=Row.rec (motive:=λ_=>AV) (λ_ _ _ b3 _ _ _ _ _ _ _ _ _ _ _ _=>b3) x
def fc4 (x:Row):AV:=Row.rec (motive:=λ_=>AV) (λ_ _ _ _ b4 _ _ _ _ _ _ _ _ _ _ _=>b4) x
def fc5 (x:Row):AV:=Row.rec (motive:=λ_=>AV) (λ_ _ _ _ _ b5 _ _ _ _ _ _ _ _ _ _=>b5) x
def fc6 (x:Row):AV:=Row.rec (motive:=λ_=>AV) (λ_ _ _ _ _ _ b6 _ _ _ _ _ _ _ _ _=>b6) x
def fc7 (x:Row):AV:=Row.rec (motive:=λ_=>AV) (λ_ _ _ _ _ _ _ b7 _ _ _ _ _ _ _ _=>b7) x
def fc8 (x:Row):AV:=Row.rec (motive:=λ_=>AV) (λ_ _ _ _ _ _ _ _ b8 _ _ _ _ _ _ _=>b8) x
def fc9 (x:Row):AV:=Row.rec (motive:=λ_=>AV) (λ_ _ _ _ _ _ _ _ _ b9 _ _ _ _ _ _=>b9) x
def fc10 (x:Row):AV:=Row.rec (motive:=λ_=>AV) (λ_ _ _ _ _ _ _ _ _ _ b10 _ _ _ _ _=>b10) x
def fc11 (x:Row):AV:=Row.rec (motive:=λ_=>AV) (λ_ _ _ _ _ _ _ _ _ _ _ b11 _ _ _ _=>b11) x
def fc12 (x:Row):AV:=Row.rec (motive:=λ_=>AV) (λ_ _ _ _ _ _ _ _ _ _ _ _ b12 _ _ _=>b12) x
def fc13 (x:Row):AV:=Row.rec (motive:=λ_=>AV) (λ_ _ _ _ _ _ _ _ _ _ _ _ _ b13 _ _=>b13) x
def fc14 (x:Row):AV:=Row.rec (motive:=λ_=>AV) (λ_ _ _ _ _ _ _ _ _ _ _ _ _ _ b14 _=>b14) x
def fc15 (x:Row):AV:=Row.rec (motive:=λ_=>AV) (λ_ _ _ _ _ _ _ _ _ _ _ _ _ _ _ b15=>b15) x
def e2_0:=far fr2 fc0
def e2_1:=far fr2 fc1
def e2_2:=far fr2 fc2
def e2_3:=far fr2 fc3
def e2_4:=far fr2 fc4
def e2_5:=far fr2 fc5
def e2_6:=far fr2 fc6
def e2_7:=far fr2 fc7
def e2_8:=far fr2 fc8
def e2_9:=far fr2 fc9
def e2_10:=far fr2 fc10
def e2_11:=far fr2 fc11
def e2_12:=far fr2 fc12
def e2_13:=far fr2 fc13
def e2_14:=far fr2 fc14
def e2_15:=far fr2 fc15
def e3_0:=far fr3 fc0
def e3_1:=far fr3 fc1
def e3_2:=far fr3 fc2
def e3_3:=far fr3 fc3
def e3_4:=far fr3 fc4
def e3_5:=far fr3 fc5
def e3_6:=far fr3 fc6
def e3_7:=far fr3 fc7
def e3_8:=far fr3 fc8
def e3_9:=far fr3 fc9
def e3_10:=far fr3 fc10
def e3_11:=far fr3 fc11
def e3_12:=far fr3 fc12
def e3_13:=far fr3 fc13
def e3_14:=far fr3 fc14
def e3_15:=far fr3 fc15
def e4_0:=far fr4 fc0
def e4_1:=far fr4 fc1
def e4_2:=far fr4 fc2
def e4_3:=far fr4 fc3
def e4_4:=far fr4 fc4
def e4_5:=far fr4 fc5
def e4_6:=far fr4 fc6
def e4_7:=far fr4 fc7
def e4_8:=far fr4 fc8
def e4_9:=far fr4 fc9
def e4_10:=far fr4 fc10
def e4_11:=far fr4 fc11
def e4_12:=far fr4 fc12
def e4_13:=far fr4 fc13
def e4_14:=far fr4 fc14
def e4_15:=far fr4 fc15
def e5_0:=far fr5 fc0
def e5_1:=far fr5 fc1
def e5_2:=far fr5 fc2
def e5_3:=far fr5 fc3
def e5_4:=far fr5 fc4
def e5_5:=far fr5 fc5
def e5_6:=far fr5 fc6
def e5_7:=far fr5 fc7
def e5_8:=far fr5 fc8
def e5_9:=far fr5 fc9
def e5_10:=far fr5 fc10
def e5_11:=far fr5 fc11
def e5_12:=far fr5 fc12
def e5_13:=far fr5 fc13
def e5_14:=far fr5 fc14
def e5_15:=far fr5 fc15
def e6_0:=far fr6 fc0
def e6_1:=far fr6 fc1
def e6_2:=far fr6 fc2
def e6_3:=far fr6 fc3
def e6_4:=far fr6 fc4
def e6_5:=far fr6 fc5
def e6_6:=far fr6 fc6
def e6_7:=far fr6 fc7
def e6_8:=far fr6 fc8
def e6_9:=far fr6 fc9
def e6_10:=far fr6 fc10
def e6_11:=far fr6 fc11
def e6_12:=far fr6 fc12
def e6_13:=far fr6 fc13
def e6_14:=far fr6 fc14
def e6_15:=far fr6 fc15
def e7_0:=far fr7 fc0
def e7_1:=far fr7 fc1
def e7_2:=far fr7 fc2
def e7_3:=far fr7 fc3
def e7_4:=far fr7 fc4
def e7_5:=far fr7 fc5
def e7_6:=far fr7 fc6
def e7_7:=far fr7 fc7
def e7_8:=far fr7 fc8
def e7_9:=far fr7 fc9
def e7_10:=far fr7 fc10
def e7_11:=far fr7 fc11
def e7_12:=far fr7 fc12
def e7_13:=far fr7 fc13
def e7_14:=far fr7 fc14
def e7_15:=far fr7 fc15
def e8_0:=far fr8 fc0
def e8_1:=far fr8 fc1
def e8_2:=far fr8 fc2
def e8_3:=far fr8 fc3
def e8_4:=far fr8 fc4
def e8_5:=far fr8 fc5
def e8_6:=far fr8 fc6
def e8_7:=far fr8 fc7
def e8_8:=far fr8 fc8
def e8_9:=far fr8 fc9
def e8_10:=far fr8 fc10
def e8_11:=far fr8 fc11
def e8_12:=far fr8 fc12
def e8_13:=far fr8 fc13
def e8_14:=far fr8 fc14
def e8_15:=far fr8 fc15
def e9_0:=far fr9 fc0
def e9_1:=far fr9 fc1
def e9_2:=far fr9 fc2
def e9_3:=far fr9 fc3
def e9_4:=far fr9 fc4
def e9_5:=far fr9 fc5
def e9_6:=far fr9 fc6
def e9_7:=far fr9 fc7
def e9_8:=far fr9 fc8
def e9_9:=far fr9 fc9
def e9_10:=far fr9 fc10
def e9_11:=far fr9 fc11
def e9_12:=far fr9 fc12
def e9_13:=far fr9 fc13
def e9_14:=far fr9 fc14
def e9_15:=far fr9 fc15
def e10_0:=far fr10 fc0
def e10_1:=far fr10 fc1
def e10_2:=far fr10 fc2
def e10_3:=far fr10 fc3
def e10_4:=far fr10 fc4
def e10_5:=far fr10 fc5
def e10_6:=far fr10 fc6
def e10_7:=far fr10 fc7
def e10_8:=far fr10 fc8
def e10_9:=far fr10 fc9
def e10_10:=far fr10 fc10
def e10_11:=far fr10 fc11
def e10_12:=far fr10 fc12
def e10_13:=far fr10 fc13
def e10_14:=far fr10 fc14
def e10_15:=far fr10 fc15
def e11_0:=far fr11 fc0
def e11_1:=far fr11 fc1
def e11_2:=far fr11 fc2
def e11_3:=far fr11 fc3
def e11_4:=far fr11 fc4
def e11_5:=far fr11 fc5
def e11_6:=far fr11 fc6
def e11_7:=far fr11 fc7
def e11_8:=far fr11 fc8
def e11_9:=far fr11 fc9
def e11_10:=far fr11 fc10
def e11_11:=far fr11 fc11
def e11_12:=far fr11 fc12
def e11_13:=far fr11 fc13
def e11_14:=far fr11 fc14
def e11_15:=far fr11 fc15
def e12_0:=far fr12 fc0
def e12_1:=far fr12 fc1
def e12_2:=far fr12 fc2
def e12_3:=far fr12 fc3
def e12_4:=far fr12 fc4
def e12_5:=far fr12 fc5
def e12_6:=far fr12 fc6
def e12_7:=far fr12 fc7
def e12_8:=far fr12 fc8
def e12_9:=far fr12 fc9
def e12_10:=far fr12 fc10
def e12_11:=far fr12 fc11
def e12_12:=far fr12 fc12
def e12_13:=far fr12 fc13
def e12_14:=far fr12 fc14
def e12_15:=far fr12 fc15
def e13_0:=far fr13 fc0
def e13_1:=far fr13 fc1
def e13_2:=far fr13 fc2
def e13_3:=far fr13 fc3
def e13_4:=far fr13 fc4
def e13_5:=far fr13 fc5
def e13_6:=far fr13 fc6
def e13_7:=far fr13 fc7
def e13_8:=far fr13 fc8
def e13_9:=far fr13 fc9
def e13_10:=far fr13 fc10
def e13_11:=far fr13 fc11
def e13_12:=far fr13 fc12
def e13_13:=far fr13 fc13
def e13_14:=far fr13 fc14
def e13_15:=far fr13 fc15
def e14_0:=far fr14 fc0
def e14_1:=far fr14 fc1
def e14_2:=far fr14 fc2
def e14_3:=far fr14 fc3
def e14_4:=far fr14 fc4
def e14_5:=far fr14 fc5
def e14_6:=far fr14 fc6
def e14_7:=far fr14 fc7
def e14_8:=far fr14 fc8
def e14_9:=far fr14 fc9
def e14_10:=far fr14 fc10
def e14_11:=far fr14 fc11
def e14_12:=far fr14 fc12
def e14_13:=far fr14 fc13
def e14_14:=far fr14 fc14
def e14_15:=far fr14 fc15
def e15_0:=far fr15 fc0
def e15_1:=far fr15 fc1
def e15_2:=far fr15 fc2
def e15_3:=far fr15 fc3
def e15_4:=far fr15 fc4
def e15_5:=far fr15 fc5
def e15_6:=far fr15 fc6
def e15_7:=far fr15 fc7
def e15_8:=far fr15 fc8
def e15_9:=far fr15 fc9
def e15_10:=far fr15 fc10
def e15_11:=far fr15 fc11
def e15_12:=far fr15 fc12
def e15_13:=far fr15 fc13
def e15_14:=far fr15 fc14
def e15_15:=far fr15 fc15
def put2 (i j:S16):ST:=λt v k=>Fm.rec (motive:=λ_=>AV→(Fm→RR)→RR) (λa0 a1 a2 a3 a4 a5 a6 a7 x v k=>set2 i j x v λx=>k (.mk a0 a1 a2 a3 a4 a5 a6 a7 x)) t v k
def se0_0:=put2 .s0 .s0
def se0_1:=put2 .s0 .s1
def se0_2:=put2 .s0 .s2
def se0_3:=put2 .s0 .s3
def se0_4:=put2 .s0 .s4
def se0_5:=put2 .s0 .s5
def se0_6:=put2 .s0 .s6
def se0_7:=put2 .s0 .s7
def se0_8:=put2 .s0 .s8
def se0_9:=put2 .s0 .s9
def se0_10:=put2 .s0 .s10
def se0_11:=put2 .s0 .s11
def se0_12:=put2 .s0 .s12
def se0_13:=put2 .s0 .s13
def se0_14:=put2 .s0 .s14
def se0_15:=put2 .s0 .s15
def se1_0:=put2 .s1 .s0
def se1_1:=put2 .s1 .s1
def se1_2:=put2 .s1 .s2
def se1_3:=put2 .s1 .s3
def se1_4:=put2 .s1 .s4
def se1_5:=put2 .s1 .s5
def se1_6:=put2 .s1 .s6
def se1_7:=put2 .s1 .s7
def se1_8:=put2 .s1 .s8
def se1_9:=put2 .s1 .s9
def se1_10:=put2 .s1 .s10
def se1_11:=put2 .s1 .s11
def se1_12:=put2 .s1 .s12
def se1_13:=put2 .s1 .s13
def se1_14:=put2 .s1 .s14
def se1_15:=put2 .s1 .s15
def se2_0:=put2 .s2 .s0
def se2_1:=put2 .s2 .s1
def se2_2:=put2 .s2 .s2
def se2_3:=put2 .s2 .s3
def se2_4:=put2 .s2 .s4
def se2_5:=put2 .s2 .s5
def se2_6:=put2 .s2 .s6
def se2_7:=put2 .s2 .s7
def se2_8:=put2 .s2 .s8
def se2_9:=put2 .s2 .s9
def se2_10:=put2 .s2 .s10
def se2_11:=put2 .s2 .s11
def se2_12:=put2 .s2 .s12
def se2_13:=put2 .s2 .s13
def se2_14:=put2 .s2 .s14
def se2_15:=put2 .s2 .s15
def se3_0:=put2 .s3 .s0
def se3_1:=put2 .s3 .s1
def se3_2:=put2 .s3 .s2
def se3_3:=put2 .s3 .s3
def se3_4:=put2 .s3 .s4
def se3_5:=put2 .s3 .s5
def se3_6:=put2 .s3 .s6
def se3_7:=put2 .s3 .s7
def se3_8:=put2 .s3 .s8
def se3_9:=put2 .s3 .s9
def se3_10:=put2 .s3 .s10
def se3_11:=put2 .s3 .s11
def se3_12:=put2 .s3 .s12
def se3_13:=put2 .s3 .s13
def se3_14:=put2 .s3 .s14
def se3_15:=put2 .s3 .s15
def se4_0:=put2 .s4 .s0
def se4_1:=put2 .s4 .s1
def se4_2:=put2 .s4 .s2
def se4_3:=put2 .s4 .s3
def se4_4:=put2 .s4 .s4
def se4_5:=put2 .s4 .s5
def se4_6:=put2 .s4 .s6
def se4_7:=put2 .s4 .s7
def se4_8:=put2 .s4 .s8
def se4_9:=put2 .s4 .s9
def se4_10:=put2 .s4 .s10
def se4_11:=put2 .s4 .s11
def se4_12:=put2 .s4 .s12
def se4_13:=put2 .s4 .s13
def se4_14:=put2 .s4 .s14
def se4_15:=put2 .s4 .s15
def se5_0:=put2 .s5 .s0
def se5_1:=put2 .s5 .s1
def se5_2:=put2 .s5 .s2
def se5_3:=put2 .s5 .s3
def se5_4:=put2 .s5 .s4
def se5_5:=put2 .s5 .s5
def se5_6:=put2 .s5 .s6
def se5_7:=put2 .s5 .s7
def se5_8:=put2 .s5 .s8
def se5_9:=put2 .s5 .s9
def se5_10:=put2 .s5 .s10
def se5_11:=put2 .s5 .s11
def se5_12:=put2 .s5 .s12
def se5_13:=put2 .s5 .s13
def se5_14:=put2 .s5 .s14
def se5_15:=put2 .s5 .s15
def se6_0:=put2 .s6 .s0
def se6_1:=put2 .s6 .s1
def se6_2:=put2 .s6 .s2
def se6_3:=put2 .s6 .s3
def se6_4:=put2 .s6 .s4
def se6_5:=put2 .s6 .s5
def se6_6:=put2 .s6 .s6
def se6_7:=put2 .s6 .s7
def se6_8:=put2 .s6 .s8
def se6_9:=put2 .s6 .s9
def se6_10:=put2 .s6 .s10
def se6_11:=put2 .s6 .s11
def se6_12:=put2 .s6 .s12
def se6_13:=put2 .s6 .s13
def se6_14:=put2 .s6 .s14
def se6_15:=put2 .s6 .s15
def se7_0:=put2 .s7 .s0
def se7_1:=put2 .s7 .s1
def se7_2:=put2 .s7 .s2
def se7_3:=put2 .s7 .s3
def se7_4:=put2 .s7 .s4
def se7_5:=put2 .s7 .s5
def se7_6:=put2 .s7 .s6
def se7_7:=put2 .s7 .s7
def se7_8:=put2 .s7 .s8
def se7_9:=put2 .s7 .s9
def se7_10:=put2 .s7 .s10
def se7_11:=put2 .s7 .s11
def se7_12:=put2 .s7 .s12
def se7_13:=put2 .s7 .s13
def se7_14:=put2 .s7 .s14
def se7_15:=put2 .s7 .s15
def se8_0:=put2 .s8 .s0
def se8_1:=put2 .s8 .s1
def se8_2:=put2 .s8 .s2
def se8_3:=put2 .s8 .s3
def se8_4:=put2 .s8 .s4
def se8_5:=put2 .s8 .s5
def se8_6:=put2 .s8 .s6
def se8_7:=put2 .s8 .s7
def se8_8:=put2 .s8 .s8
def se8_9:=put2 .s8 .s9
def se8_10:=put2 .s8 .s10
def se8_11:=put2 .s8 .s11
def se8_12:=put2 .s8 .s12
def se8_13:=put2 .s8 .s13
def se8_14:=put2 .s8 .s14
def se8_15:=put2 .s8 .s15
def se9_0:=put2 .s9 .s0
def se9_1:=put2 .s9 .s1
def se9_2:=put2 .s9 .s2
def se9_3:=put2 .s9 .s3
def se9_4:=put2 .s9 .s4
def se9_5:=put2 .s9 .s5
def se9_6:=put2 .s9 .s6
def se9_7:=put2 .s9 .s7
def se9_8:=put2 .s9 .s8
def se9_9:=put2 .s9 .s9
def se9_10:=put2 .s9 .s10
def se9_11:=put2 .s9 .s11
def se9_12:=put2 .s9 .s12
def se9_13:=put2 .s9 .s13
def se9_14:=put2 .s9 .s14
def se9_15:=put2 .s9 .s15
def se10_0:=put2 .s10 .s0
def se10_1:=put2 .s10 .s1
def se10_2:=put2 .s10 .s2
def se10_3:=put2 .s10 .s3
def se10_4:=put2 .s10 .s4
def se10_5:=put2 .s10 .s5
def se10_6:=put2 .s10 .s6
def se10_7:=put2 .s10 .s7
def se10_8:=put2 .s10 .s8
def se10_9:=put2 .s10 .s9
def se10_10:=put2 .s10 .s10
def se10_11:=put2 .s10 .s11
def se10_12:=put2 .s10 .s12
def se10_13:=put2 .s10 .s13
def se10_14:=put2 .s10 .s14
def se10_15:=put2 .s10 .s15
def se11_0:=put2 .s11 .s0
def se11_1:=put2 .s11 .s1
def se11_2:=put2 .s11 .s2
def se11_3:=put2 .s11 .s3
def se11_4:=put2 .s11 .s4
def se11_5:=put2 .s11 .s5
def se11_6:=put2 .s11 .s6
def se11_7:=put2 .s11 .s7
def se11_8:=put2 .s11 .s8
def se11_9:=put2 .s11 .s9
def se11_10:=put2 .s11 .s10
def se11_11:=put2 .s11 .s11
def se11_12:=put2 .s11 .s12
def se11_13:=put2 .s11 .s13
def se11_14:=put2 .s11 .s14
def se11_15:=put2 .s11 .s15
def se12_0:=put2 .s12 .s0
def se12_1:=put2 .s12 .s1
def se12_2:=put2 .s12 .s2
def se12_3:=put2 .s12 .s3
def se12_4:=put2 .s12 .s4
def se12_5:=put2 .s12 .s5
def se12_6:=put2 .s12 .s6
def se12_7:=put2 .s12 .s7
def se12_8:=put2 .s12 .s8
def se12_9:=put2 .s12 .s9
def se12_10:=put2 .s12 .s10
def se12_11:=put2 .s12 .s11
def se12_12:=put2 .s12 .s12
def se12_13:=put2 .s12 .s13
def se12_14:=put2 .s12 .s14
def se12_15:=put2 .s12 .s15
def se13_0:=put2 .s13 .s0
def se13_1:=put2 .s13 .s1
def se13_2:=put2 .s13 .s2
def se13_3:=put2 .s13 .s3
def se13_4:=put2 .s13 .s4
def se13_5:=put2 .s13 .s5
def se13_6:=put2 .s13 .s6
def se13_7:=put2 .s13 .s7
def se13_8:=put2 .s13 .s8
def se13_9:=put2 .s13 .s9
def se13_10:=put2 .s13 .s10
def se13_11:=put2 .s13 .s11
def se13_12:=put2 .s13 .s12
def se13_13:=put2 .s13 .s13
def se13_14:=put2 .s13 .s14
def se13_15:=put2 .s13 .s15
def se14_0:=put2 .s14 .s0
def se14_1:=put2 .s14 .s1
def se14_2:=put2 .s14 .s2
def se14_3:=put2 .s14 .s3
def se14_4:=put2 .s14 .s4
def se14_5:=put2 .s14 .s5
def se14_6:=put2 .s14 .s6
def se14_7:=put2 .s14 .s7
def se14_8:=put2 .s14 .s8
def se14_9:=put2 .s14 .s9
def se14_10:=put2 .s14 .s10
def se14_11:=put2 .s14 .s11
def se14_12:=put2 .s14 .s12
def se14_13:=put2 .s14 .s13
def se14_14:=put2 .s14 .s14
def se14_15:=put2 .s14 .s15
def se15_0:=put2 .s15 .s0
def se15_1:=put2 .s15 .s1
def se15_2:=put2 .s15 .s2
def se15_3:=put2 .s15 .s3
def se15_4:=put2 .s15 .s4
def se15_5:=put2 .s15 .s5
def se15_6:=put2 .s15 .s6
def se15_7:=put2 .s15 .s7
def se15_8:=put2 .s15 .s8
def se15_9:=put2 .s15 .s9
def se15_10:=put2 .s15 .s10
def se15_11:=put2 .s15 .s11
def se15_12:=put2 .s15 .s12
def se15_13:=put2 .s15 .s13
def se15_14:=put2 .s15 .s14
def se15_15:=put2 .s15 .s15
def fAV (v:AV) (k:AV→RR):RR:=AV.rec (motive:=λ_=>(AV→RR)→RR) (λs k=>k (.one s)) (λl k=>k (.ag l)) (λl k=>k (.tp l)) v k
def keq (a b:IntKind):Bool:=IntKind.rec (motive:=λ_=>IntKind→Bool)
 (λb=>IntKind.rec (motive:=λ_=>Bool) true false false false false false false false b)
 (λb=>IntKind.rec (motive:=λ_=>Bool) false true false false false false false false b)
 (λb=>IntKind.rec (motive:=λ_=>Bool) false false true false false false false false b)
 (λb=>IntKind.rec (motive:=λ_=>Bool) false false false true false false false false b)
 (λb=>IntKind.rec (motive:=λ_=>Bool) false false false false true false false false b)
 (λb=>IntKind.rec (motive:=λ_=>Bool) false false false false false true false false b)
 (λb=>IntKind.rec (motive:=λ_=>Bool) false false false false false false true false b)
 (λb=>IntKind.rec (motive:=λ_=>Bool) false false false false false false false true b)
 a b
def lim (a:IntKind):Nat:=IntKind.rec (motive:=λ_=>Nat) 127 32767 2147483647 9223372036854775807 255 65535 4294967295 18446744073709551615 a
def ltF (a b:Int):Bool:=Int.rec (motive:=λ_=>Int→Bool)
 (λm b=>Int.rec (motive:=λ_=>Nat→Bool) (λn m=>Nat.ble (Nat.succ m) n) (λ_ _=>false) b m)
 (λm b=>Int.rec (motive:=λ_=>Nat→Bool) (λ_ _=>true) (λn m=>Nat.ble (Nat.succ n) m) b m) a b
def eqF (a b:Int):Bool:=Int.rec (motive:=λ_=>Int→Bool)
 (λm b=>Int.rec (motive:=λ_=>Nat→Bool) (λn m=>Nat.beq m n) (λ_ _=>false) b m)
 (λm b=>Int.rec (motive:=λ_=>Nat→Bool) (λ_ _=>false) (λn m=>Nat.beq m n) b m) a b
def fitN (s:Nat) (kd:IntKind) (no:RR) (k:Int→RR):RR:=
 Nat.rec (motive:=λ_=>IntKind→RR→(Int→RR)→RR) (λ_ _ k=>k (Int.ofNat 0)) (λp _ kd no k=>Bool.rec (motive:=λ_=>RR) no (k (Int.ofNat (Nat.succ p))) (Nat.ble (Nat.succ p) (lim kd))) s kd no k
def addF (a b:Int) (kd:IntKind) (no:RR) (k:Int→RR):RR:=Int.rec (motive:=λ_=>Int→IntKind→RR→(Int→RR)→RR)
 (λm b kd no k=>Int.rec (motive:=λ_=>Nat→IntKind→RR→(Int→RR)→RR) (λn m kd no k=>fitN (Nat.add m n) kd no k) (λ_ _ _ no _=>no) b m kd no k)
 (λ_ _ _ no _=>no) a b kd no k
def subF (a b:Int) (kd:IntKind) (no:RR) (k:Int→RR):RR:=Int.rec (motive:=λ_=>Int→IntKind→RR→(Int→RR)→RR)
 (λm b kd no k=>Int.rec (motive:=λ_=>Nat→IntKind→RR→(Int→RR)→RR) (λn m kd no k=>Bool.rec (motive:=λ_=>RR) no (fitN (Nat.sub m n) kd no k) (Nat.ble n m)) (λ_ _ _ no _=>no) b m kd no k)
 (λ_ _ _ no _=>no) a b kd no k
def yesF (b:Bool) (k:AV→RR):RR:=Bool.rec (motive:=λ_=>(AV→RR)→RR) (λk=>k (.one (.bool false))) (λk=>k (.one (.bool true))) b k
def notF (b:Bool) (k:AV→RR):RR:=Bool.rec (motive:=λ_=>(AV→RR)→RR) (λk=>k (.one (.bool true))) (λk=>k (.one (.bool false))) b k
def anyBin (op:BinOp) (x y:AV) (orc:Orc RR) (k:AV→RR):RR:=oBin orc zz [] [] 0 op (.c x) (.c y) λv _ _=>k v
def p1_add (kd:IntKind) (a:Int) (y:AV) (orc:Orc RR) (k:AV→RR):RR:=AV.rec (motive:=fun _=>IntKind→Int→Orc RR→(AV→RR)→RR)
    (λs kd a orc k=>SV.rec (motive:=λ_=>IntKind→Int→Orc RR→(AV→RR)→RR)
     (λ_ _ _ _=>zz)
     (λkd' b kd a _ k=>Bool.rec (motive:=λ_=>RR) zz (addF a b kd (binI .add kd a b zz λr=>k (.one r)) λx=>k (.one (.int kd x))) (keq kd kd'))
     (λ_ _ _ _ _=>zz)
     (λ_ _ _ _ _ _=>zz)
     (λ_ _ _ _=>zz)
     (λ_ _ _ _=>zz)
     (λ_ _ _ _=>zz)
     (λ_ _ _ _ _ _=>zz)
     (λ_ _ _ _ _ _ _ _ _=>zz)
     (λ_ _ _ _=>zz)
     (λ_ _ _ _=>zz)
     (λ_ _ _ _ _ _=>zz)
     (λkd' j kd a orc k=>anyBin .add (.one (.int kd a)) (.one (.sym kd' j)) orc k)
     (λ_ _ _ _=>zz)
     (λ_ _ _ _ _=>zz)
     (λ_ _ _ _=>zz)
     (λ_ _ _ _ _=>zz) s kd a orc k)
    (λ_ _ _ _ _=>zz) (λ_ _ _ _ _=>zz) y kd a orc k
def p_add (x y:AV) (orc:Orc RR) (k:AV→RR):RR:=AV.rec (motive:=fun _=>AV→Orc RR→(AV→RR)→RR)
    (λs y orc k=>SV.rec (motive:=λ_=>AV→Orc RR→(AV→RR)→RR)
     (λ_ _ _=>zz)
     (λkd a y orc k=>p1_add kd a y orc k)
     (λ_ _ _ _=>zz)
     (λ_ _ _ _ _=>zz)
     (λ_ _ _=>zz)
     (λ_ _ _=>zz)
     (λ_ _ _=>zz)
     (λ_ _ _ _ _=>zz)
     (λ_ _ _ _ _ _ _ _=>zz)
     (λ_ _ _=>zz)
     (λ_ _ _=>zz)
     (λ_ _ _ _ _=>zz)
     (λkd i y orc k=>anyBin .add (.one (.sym kd i)) y orc k)
     (λ_ _ _=>zz)
     (λ_ _ _ _=>zz)
     (λ_ _ _=>zz)
     (λ_ _ _ _=>zz) s y orc k)
    (λ_ _ _ _=>zz) (λ_ _ _ _=>zz) x y orc k
def p1_sub (kd:IntKind) (a:Int) (y:AV) (orc:Orc RR) (k:AV→RR):RR:=AV.rec (motive:=fun _=>IntKind→Int→Orc RR→(AV→RR)→RR)
    (λs kd a orc k=>SV.rec (motive:=λ_=>IntKind→Int→Orc RR→(AV→RR)→RR)
     (λ_ _ _ _=>zz)
     (λkd' b kd a _ k=>Bool.rec (motive:=λ_=>RR) zz (subF a b kd (binI .sub kd a b zz λr=>k (.one r)) λx=>k (.one (.int kd x))) (keq kd kd'))
     (λ_ _ _ _ _=>zz)
     (λ_ _ _ _ _ _=>zz)
     (λ_ _ _ _=>zz)
     (λ_ _ _ _=>zz)
     (λ_ _ _ _=>zz)
     (λ_ _ _ _ _ _=>zz)
     (λ_ _ _ _ _ _ _ _ _=>zz)
     (λ_ _ _ _=>zz)
     (λ_ _ _ _=>zz)
     (λ_ _ _ _ _ _=>zz)
     (λkd' j kd a orc k=>anyBin .sub (.one (.int kd a)) (.one (.sym kd' j)) orc k)
     (λ_ _ _ _=>zz)
     (λ_ _ _ _ _=>zz)
     (λ_ _ _ _=>zz)
     (λ_ _ _ _ _=>zz) s kd a orc k)
    (λ_ _ _ _ _=>zz) (λ_ _ _ _ _=>zz) y kd a orc k
def p_sub (x y:AV) (orc:Orc RR) (k:AV→RR):RR:=AV.rec (motive:=fun _=>AV→Orc RR→(AV→RR)→RR)
    (λs y orc k=>SV.rec (motive:=λ_=>AV→Orc RR→(AV→RR)→RR)
     (λ_ _ _=>zz)
     (λkd a y orc k=>p1_sub kd a y orc k)
     (λ_ _ _ _=>zz)
     (λ_ _ _ _ _=>zz)
     (λ_ _ _=>zz)
     (λ_ _ _=>zz)
     (λ_ _ _=>zz)
     (λ_ _ _ _ _=>zz)
     (λ_ _ _ _ _ _ _ _=>zz)
     (λ_ _ _=>zz)
     (λ_ _ _=>zz)
     (λ_ _ _ _ _=>zz)
     (λkd i y orc k=>anyBin .sub (.one (.sym kd i)) y orc k)
     (λ_ _ _=>zz)
     (λ_ _ _ _=>zz)
     (λ_ _ _=>zz)
     (λ_ _ _ _=>zz) s y orc k)
    (λ_ _ _ _=>zz) (λ_ _ _ _=>zz) x y orc k
def p1_mul (kd:IntKind) (a:Int) (y:AV) (orc:Orc RR) (k:AV→RR):RR:=AV.rec (motive:=fun _=>IntKind→Int→Orc RR→(AV→RR)→RR)
    (λs kd a orc k=>SV.rec (motive:=λ_=>IntKind→Int→Orc RR→(AV→RR)→RR)
     (λ_ _ _ _=>zz)
     (λkd' b kd a _ k=>Bool.rec (motive:=λ_=>RR) zz (binI .mul kd a b zz λr=>k (.one r)) (keq kd kd'))
     (λ_ _ _ _ _=>zz)
     (λ_ _ _ _ _ _=>zz)
     (λ_ _ _ _=>zz)
     (λ_ _ _ _=>zz)
     (λ_ _ _ _=>zz)
     (λ_ _ _ _ _ _=>zz)
     (λ_ _ _ _ _ _ _ _ _=>zz)
     (λ_ _ _ _=>zz)
     (λ_ _ _ _=>zz)
     (λ_ _ _ _ _ _=>zz)
     (λkd' j kd a orc k=>anyBin .mul (.one (.int kd a)) (.one (.sym kd' j)) orc k)
     (λ_ _ _ _=>zz)
     (λ_ _ _ _ _=>zz)
     (λ_ _ _ _=>zz)
     (λ_ _ _ _ _=>zz) s kd a orc k)
    (λ_ _ _ _ _=>zz) (λ_ _ _ _ _=>zz) y kd a orc k
def p_mul (x y:AV) (orc:Orc RR) (k:AV→RR):RR:=AV.rec (motive:=fun _=>AV→Orc RR→(AV→RR)→RR)
    (λs y orc k=>SV.rec (motive:=λ_=>AV→Orc RR→(AV→RR)→RR)
     (λ_ _ _=>zz)
     (λkd a y orc k=>p1_mul kd a y orc k)
     (λ_ _ _ _=>zz)
     (λ_ _ _ _ _=>zz)
     (λ_ _ _=>zz)
     (λ_ _ _=>zz)
     (λ_ _ _=>zz)
     (λ_ _ _ _ _=>zz)
     (λ_ _ _ _ _ _ _ _=>zz)
     (λ_ _ _=>zz)
     (λ_ _ _=>zz)
     (λ_ _ _ _ _=>zz)
     (λkd i y orc k=>anyBin .mul (.one (.sym kd i)) y orc k)
     (λ_ _ _=>zz)
     (λ_ _ _ _=>zz)
     (λ_ _ _=>zz)
     (λ_ _ _ _=>zz) s y orc k)
    (λ_ _ _ _=>zz) (λ_ _ _ _=>zz) x y orc k
def p1_quo (kd:IntKind) (a:Int) (y:AV) (orc:Orc RR) (k:AV→RR):RR:=AV.rec (motive:=fun _=>IntKind→Int→Orc RR→(AV→RR)→RR)
    (λs kd a orc k=>SV.rec (motive:=λ_=>IntKind→Int→Orc RR→(AV→RR)→RR)
     (λ_ _ _ _=>zz)
     (λkd' b kd a _ k=>Bool.rec (motive:=λ_=>RR) zz (binI .quo kd a b zz λr=>k (.one r)) (keq kd kd'))
     (λ_ _ _ _ _=>zz)
     (λ_ _ _ _ _ _=>zz)
     (λ_ _ _ _=>zz)
     (λ_ _ _ _=>zz)
     (λ_ _ _ _=>zz)
     (λ_ _ _ _ _ _=>zz)
     (λ_ _ _ _ _ _ _ _ _=>zz)
     (λ_ _ _ _=>zz)
     (λ_ _ _ _=>zz)
     (λ_ _ _ _ _ _=>zz)
     (λkd' j kd a orc k=>anyBin .quo (.one (.int kd a)) (.one (.sym kd' j)) orc k)
     (λ_ _ _ _=>zz)
     (λ_ _ _ _ _=>zz)
     (λ_ _ _ _=>zz)
     (λ_ _ _ _ _=>zz) s kd a orc k)
    (λ_ _ _ _ _=>zz) (λ_ _ _ _ _=>zz) y kd a orc k
def p_quo (x y:AV) (orc:Orc RR) (k:AV→RR):RR:=AV.rec (motive:=fun _=>AV→Orc RR→(AV→RR)→RR)
    (λs y orc k=>SV.rec (motive:=λ_=>AV→Orc RR→(AV→RR)→RR)
     (λ_ _ _=>zz)
     (λkd a y orc k=>p1_quo kd a y orc k)
     (λ_ _ _ _=>zz)
     (λ_ _ _ _ _=>zz)
     (λ_ _ _=>zz)
     (λ_ _ _=>zz)
     (λ_ _ _=>zz)
     (λ_ _ _ _ _=>zz)
     (λ_ _ _ _ _ _ _ _=>zz)
     (λ_ _ _=>zz)
     (λ_ _ _=>zz)
     (λ_ _ _ _ _=>zz)
     (λkd i y orc k=>anyBin .quo (.one (.sym kd i)) y orc k)
     (λ_ _ _=>zz)
     (λ_ _ _ _=>zz)
     (λ_ _ _=>zz)
     (λ_ _ _ _=>zz) s y orc k)
    (λ_ _ _ _=>zz) (λ_ _ _ _=>zz) x y orc k
def p1_rem (kd:IntKind) (a:Int) (y:AV) (orc:Orc RR) (k:AV→RR):RR:=AV.rec (motive:=fun _=>IntKind→Int→Orc RR→(AV→RR)→RR)
    (λs kd a orc k=>SV.rec (motive:=λ_=>IntKind→Int→Orc RR→(AV→RR)→RR)
     (λ_ _ _ _=>zz)
     (λkd' b kd a _ k=>Bool.rec (motive:=λ_=>RR) zz (binI .rem kd a b zz λr=>k (.one r)) (keq kd kd'))
     (λ_ _ _ _ _=>zz)
     (λ_ _ _ _ _ _=>zz)
     (λ_ _ _ _=>zz)
     (λ_ _ _ _=>zz)
     (λ_ _ _ _=>zz)
     (λ_ _ _ _ _ _=>zz)
     (λ_ _ _ _ _ _ _ _ _=>zz)
     (λ_ _ _ _=>zz)
     (λ_ _ _ _=>zz)
     (λ_ _ _ _ _ _=>zz)
     (λkd' j kd a orc k=>anyBin .rem (.one (.int kd a)) (.one (.sym kd' j)) orc k)
     (λ_ _ _ _=>zz)
     (λ_ _ _ _ _=>zz)
     (λ_ _ _ _=>zz)
     (λ_ _ _ _ _=>zz) s kd a orc k)
    (λ_ _ _ _ _=>zz) (λ_ _ _ _ _=>zz) y kd a orc k
def p_rem (x y:AV) (orc:Orc RR) (k:AV→RR):RR:=AV.rec (motive:=fun _=>AV→Orc RR→(AV→RR)→RR)
    (λs y orc k=>SV.rec (motive:=λ_=>AV→Orc RR→(AV→RR)→RR)
     (λ_ _ _=>zz)
     (λkd a y orc k=>p1_rem kd a y orc k)
     (λ_ _ _ _=>zz)
     (λ_ _ _ _ _=>zz)
     (λ_ _ _=>zz)
     (λ_ _ _=>zz)
     (λ_ _ _=>zz)
     (λ_ _ _ _ _=>zz)
     (λ_ _ _ _ _ _ _ _=>zz)
     (λ_ _ _=>zz)
     (λ_ _ _=>zz)
     (λ_ _ _ _ _=>zz)
     (λkd i y orc k=>anyBin .rem (.one (.sym kd i)) y orc k)
     (λ_ _ _=>zz)
     (λ_ _ _ _=>zz)
     (λ_ _ _=>zz)
     (λ_ _ _ _=>zz) s y orc k)
    (λ_ _ _ _=>zz) (λ_ _ _ _=>zz) x y orc k
def p1_and (kd:IntKind) (a:Int) (y:AV) (orc:Orc RR) (k:AV→RR):RR:=AV.rec (motive:=fun _=>IntKind→Int→Orc RR→(AV→RR)→RR)
    (λs kd a orc k=>SV.rec (motive:=λ_=>IntKind→Int→Orc RR→(AV→RR)→RR)
     (λ_ _ _ _=>zz)
     (λkd' b kd a _ k=>Bool.rec (motive:=λ_=>RR) zz (binI .and kd a b zz λr=>k (.one r)) (keq kd kd'))
     (λ_ _ _ _ _=>zz)
     (λ_ _ _ _ _ _=>zz)
     (λ_ _ _ _=>zz)
     (λ_ _ _ _=>zz)
     (λ_ _ _ _=>zz)
     (λ_ _ _ _ _ _=>zz)
     (λ_ _ _ _ _ _ _ _ _=>zz)
     (λ_ _ _ _=>zz)
     (λ_ _ _ _=>zz)
     (λ_ _ _ _ _ _=>zz)
     (λkd' j kd a orc k=>anyBin .and (.one (.int kd a)) (.one (.sym kd' j)) orc k)
     (λ_ _ _ _=>zz)
     (λ_ _ _ _ _=>zz)
     (λ_ _ _ _=>zz)
     (λ_ _ _ _ _=>zz) s kd a orc k)
    (λ_ _ _ _ _=>zz) (λ_ _ _ _ _=>zz) y kd a orc k
def p_and (x y:AV) (orc:Orc RR) (k:AV→RR):RR:=AV.rec (motive:=fun _=>AV→Orc RR→(AV→RR)→RR)
    (λs y orc k=>SV.rec (motive:=λ_=>AV→Orc RR→(AV→RR)→RR)
     (λ_ _ _=>zz)
     (λkd a y orc k=>p1_and kd a y orc k)
     (λ_ _ _ _=>zz)
     (λ_ _ _ _ _=>zz)
     (λ_ _ _=>zz)
     (λ_ _ _=>zz)
     (λ_ _ _=>zz)
     (λ_ _ _ _ _=>zz)
     (λ_ _ _ _ _ _ _ _=>zz)
     (λ_ _ _=>zz)
     (λ_ _ _=>zz)
     (λ_ _ _ _ _=>zz)
     (λkd i y orc k=>anyBin .and (.one (.sym kd i)) y orc k)
     (λ_ _ _=>zz)
     (λ_ _ _ _=>zz)
     (λ_ _ _=>zz)
     (λ_ _ _ _=>zz) s y orc k)
    (λ_ _ _ _=>zz) (λ_ _ _ _=>zz) x y orc k
def p1_or (kd:IntKind) (a:Int) (y:AV) (orc:Orc RR) (k:AV→RR):RR:=AV.rec (motive:=fun _=>IntKind→Int→Orc RR→(AV→RR)→RR)
    (λs kd a orc k=>SV.rec (motive:=λ_=>IntKind→Int→Orc RR→(AV→RR)→RR)
     (λ_ _ _ _=>zz)
     (λkd' b kd a _ k=>Bool.rec (motive:=λ_=>RR) zz (binI .or kd a b zz λr=>k (.one r)) (keq kd kd'))
     (λ_ _ _ _ _=>zz)
     (λ_ _ _ _ _ _=>zz)
     (λ_ _ _ _=>zz)
     (λ_ _ _ _=>zz)
     (λ_ _ _ _=>zz)
     (λ_ _ _ _ _ _=>zz)
     (λ_ _ _ _ _ _ _ _ _=>zz)
     (λ_ _ _ _=>zz)
     (λ_ _ _ _=>zz)
     (λ_ _ _ _ _ _=>zz)
     (λkd' j kd a orc k=>anyBin .or (.one (.int kd a)) (.one (.sym kd' j)) orc k)
     (λ_ _ _ _=>zz)
     (λ_ _ _ _ _=>zz)
     (λ_ _ _ _=>zz)
     (λ_ _ _ _ _=>zz) s kd a orc k)
    (λ_ _ _ _ _=>zz) (λ_ _ _ _ _=>zz) y kd a orc k
def p_or (x y:AV) (orc:Orc RR) (k:AV→RR):RR:=AV.rec (motive:=fun _=>AV→Orc RR→(AV→RR)→RR)
    (λs y orc k=>SV.rec (motive:=λ_=>AV→Orc RR→(AV→RR)→RR)
     (λ_ _ _=>zz)
     (λkd a y orc k=>p1_or kd a y orc k)
     (λ_ _ _ _=>zz)
     (λ_ _ _ _ _=>zz)
     (λ_ _ _=>zz)
     (λ_ _ _=>zz)
     (λ_ _ _=>zz)
     (λ_ _ _ _ _=>zz)
     (λ_ _ _ _ _ _ _ _=>zz)
     (λ_ _ _=>zz)
     (λ_ _ _=>zz)
     (λ_ _ _ _ _=>zz)
     (λkd i y orc k=>anyBin .or (.one (.sym kd i)) y orc k)
     (λ_ _ _=>zz)
     (λ_ _ _ _=>zz)
     (λ_ _ _=>zz)
     (λ_ _ _ _=>zz) s y orc k)
    (λ_ _ _ _=>zz) (λ_ _ _ _=>zz) x y orc k
def p1_xor (kd:IntKind) (a:Int) (y:AV) (orc:Orc RR) (k:AV→RR):RR:=AV.rec (motive:=fun _=>IntKind→Int→Orc RR→(AV→RR)→RR)
    (λs kd a orc k=>SV.rec (motive:=λ_=>IntKind→Int→Orc RR→(AV→RR)→RR)
     (λ_ _ _ _=>zz)
     (λkd' b kd a _ k=>Bool.rec (motive:=λ_=>RR) zz (binI .xor kd a b zz λr=>k (.one r)) (keq kd kd'))
     (λ_ _ _ _ _=>zz)
     (λ_ _ _ _ _ _=>zz)
     (λ_ _ _ _=>zz)
     (λ_ _ _ _=>zz)
     (λ_ _ _ _=>zz)
     (λ_ _ _ _ _ _=>zz)
     (λ_ _ _ _ _ _ _ _ _=>zz)
     (λ_ _ _ _=>zz)
     (λ_ _ _ _=>zz)
     (λ_ _ _ _ _ _=>zz)
     (λkd' j kd a orc k=>anyBin .xor (.one (.int kd a)) (.one (.sym kd' j)) orc k)
     (λ_ _ _ _=>zz)
     (λ_ _ _ _ _=>zz)
     (λ_ _ _ _=>zz)
     (λ_ _ _ _ _=>zz) s kd a orc k)
    (λ_ _ _ _ _=>zz) (λ_ _ _ _ _=>zz) y kd a orc k
def p_xor (x y:AV) (orc:Orc RR) (k:AV→RR):RR:=AV.rec (motive:=fun _=>AV→Orc RR→(AV→RR)→RR)
    (λs y orc k=>SV.rec (motive:=λ_=>AV→Orc RR→(AV→RR)→RR)
     (λ_ _ _=>zz)
     (λkd a y orc k=>p1_xor kd a y orc k)
     (λ_ _ _ _=>zz)
     (λ_ _ _ _ _=>zz)
     (λ_ _ _=>zz)
     (λ_ _ _=>zz)
     (λ_ _ _=>zz)
     (λ_ _ _ _ _=>zz)
     (λ_ _ _ _ _ _ _ _=>zz)
     (λ_ _ _=>zz)
     (λ_ _ _=>zz)
     (λ_ _ _ _ _=>zz)
     (λkd i y orc k=>anyBin .xor (.one (.sym kd i)) y orc k)
     (λ_ _ _=>zz)
     (λ_ _ _ _=>zz)
     (λ_ _ _=>zz)
     (λ_ _ _ _=>zz) s y orc k)
    (λ_ _ _ _=>zz) (λ_ _ _ _=>zz) x y orc k
def p1_shl (kd:IntKind) (a:Int) (y:AV) (orc:Orc RR) (k:AV→RR):RR:=AV.rec (motive:=fun _=>IntKind→Int→Orc RR→(AV→RR)→RR)
    (λs kd a orc k=>SV.rec (motive:=λ_=>IntKind→Int→Orc RR→(AV→RR)→RR)
     (λ_ _ _ _=>zz)
     (λkd' b kd a _ k=>Bool.rec (motive:=λ_=>RR) zz (binI .shl kd a b zz λr=>k (.one r)) (keq kd kd'))
     (λ_ _ _ _ _=>zz)
     (λ_ _ _ _ _ _=>zz)
     (λ_ _ _ _=>zz)
     (λ_ _ _ _=>zz)
     (λ_ _ _ _=>zz)
     (λ_ _ _ _ _ _=>zz)
     (λ_ _ _ _ _ _ _ _ _=>zz)
     (λ_ _ _ _=>zz)
     (λ_ _ _ _=>zz)
     (λ_ _ _ _ _ _=>zz)
     (λkd' j kd a orc k=>anyBin .shl (.one (.int kd a)) (.one (.sym kd' j)) orc k)
     (λ_ _ _ _=>zz)
     (λ_ _ _ _ _=>zz)
     (λ_ _ _ _=>zz)
     (λ_ _ _ _ _=>zz) s kd a orc k)
    (λ_ _ _ _ _=>zz) (λ_ _ _ _ _=>zz) y kd a orc k
def p_shl (x y:AV) (orc:Orc RR) (k:AV→RR):RR:=AV.rec (motive:=fun _=>AV→Orc RR→(AV→RR)→RR)
    (λs y orc k=>SV.rec (motive:=λ_=>AV→Orc RR→(AV→RR)→RR)
     (λ_ _ _=>zz)
     (λkd a y orc k=>p1_shl kd a y orc k)
     (λ_ _ _ _=>zz)
     (λ_ _ _ _ _=>zz)
     (λ_ _ _=>zz)
     (λ_ _ _=>zz)
     (λ_ _ _=>zz)
     (λ_ _ _ _ _=>zz)
     (λ_ _ _ _ _ _ _ _=>zz)
     (λ_ _ _=>zz)
     (λ_ _ _=>zz)
     (λ_ _ _ _ _=>zz)
     (λkd i y orc k=>anyBin .shl (.one (.sym kd i)) y orc k)
     (λ_ _ _=>zz)
     (λ_ _ _ _=>zz)
     (λ_ _ _=>zz)
     (λ_ _ _ _=>zz) s y orc k)
    (λ_ _ _ _=>zz) (λ_ _ _ _=>zz) x y orc k
def p1_shr (kd:IntKind) (a:Int) (y:AV) (orc:Orc RR) (k:AV→RR):RR:=AV.rec (motive:=fun _=>IntKind→Int→Orc RR→(AV→RR)→RR)
    (λs kd a orc k=>SV.rec (motive:=λ_=>IntKind→Int→Orc RR→(AV→RR)→RR)
     (λ_ _ _ _=>zz)
     (λkd' b kd a _ k=>Bool.rec (motive:=λ_=>RR) zz (binI .shr kd a b zz λr=>k (.one r)) (keq kd kd'))
     (λ_ _ _ _ _=>zz)
     (λ_ _ _ _ _ _=>zz)
     (λ_ _ _ _=>zz)
     (λ_ _ _ _=>zz)
     (λ_ _ _ _=>zz)
     (λ_ _ _ _ _ _=>zz)
     (λ_ _ _ _ _ _ _ _ _=>zz)
     (λ_ _ _ _=>zz)
     (λ_ _ _ _=>zz)
     (λ_ _ _ _ _ _=>zz)
     (λkd' j kd a orc k=>anyBin .shr (.one (.int kd a)) (.one (.sym kd' j)) orc k)
     (λ_ _ _ _=>zz)
     (λ_ _ _ _ _=>zz)
     (λ_ _ _ _=>zz)
     (λ_ _ _ _ _=>zz) s kd a orc k)
    (λ_ _ _ _ _=>zz) (λ_ _ _ _ _=>zz) y kd a orc k
def p_shr (x y:AV) (orc:Orc RR) (k:AV→RR):RR:=AV.rec (motive:=fun _=>AV→Orc RR→(AV→RR)→RR)
    (λs y orc k=>SV.rec (motive:=λ_=>AV→Orc RR→(AV→RR)→RR)
     (λ_ _ _=>zz)
     (λkd a y orc k=>p1_shr kd a y orc k)
     (λ_ _ _ _=>zz)
     (λ_ _ _ _ _=>zz)
     (λ_ _ _=>zz)
     (λ_ _ _=>zz)
     (λ_ _ _=>zz)
     (λ_ _ _ _ _=>zz)
     (λ_ _ _ _ _ _ _ _=>zz)
     (λ_ _ _=>zz)
     (λ_ _ _=>zz)
     (λ_ _ _ _ _=>zz)
     (λkd i y orc k=>anyBin .shr (.one (.sym kd i)) y orc k)
     (λ_ _ _=>zz)
     (λ_ _ _ _=>zz)
     (λ_ _ _=>zz)
     (λ_ _ _ _=>zz) s y orc k)
    (λ_ _ _ _=>zz) (λ_ _ _ _=>zz) x y orc k
def p1_andNot (kd:IntKind) (a:Int) (y:AV) (orc:Orc RR) (k:AV→RR):RR:=AV.rec (motive:=fun _=>IntKind→Int→Orc RR→(AV→RR)→RR)
    (λs kd a orc k=>SV.rec (motive:=λ_=>IntKind→Int→Orc RR→(AV→RR)→RR)
     (λ_ _ _ _=>zz)
     (λkd' b kd a _ k=>Bool.rec (motive:=λ_=>RR) zz (binI .andNot kd a b zz λr=>k (.one r)) (keq kd kd'))
     (λ_ _ _ _ _=>zz)
     (λ_ _ _ _ _ _=>zz)
     (λ_ _ _ _=>zz)
     (λ_ _ _ _=>zz)
     (λ_ _ _ _=>zz)
     (λ_ _ _ _ _ _=>zz)
     (λ_ _ _ _ _ _ _ _ _=>zz)
     (λ_ _ _ _=>zz)
     (λ_ _ _ _=>zz)
     (λ_ _ _ _ _ _=>zz)
     (λkd' j kd a orc k=>anyBin .andNot (.one (.int kd a)) (.one (.sym kd' j)) orc k)
     (λ_ _ _ _=>zz)
     (λ_ _ _ _ _=>zz)
     (λ_ _ _ _=>zz)
     (λ_ _ _ _ _=>zz) s kd a orc k)
    (λ_ _ _ _ _=>zz) (λ_ _ _ _ _=>zz) y kd a orc k
def p_andNot (x y:AV) (orc:Orc RR) (k:AV→RR):RR:=AV.rec (motive:=fun _=>AV→Orc RR→(AV→RR)→RR)
    (λs y orc k=>SV.rec (motive:=λ_=>AV→Orc RR→(AV→RR)→RR)
     (λ_ _ _=>zz)
     (λkd a y orc k=>p1_andNot kd a y orc k)
     (λ_ _ _ _=>zz)
     (λ_ _ _ _ _=>zz)
     (λ_ _ _=>zz)
     (λ_ _ _=>zz)
     (λ_ _ _=>zz)
     (λ_ _ _ _ _=>zz)
     (λ_ _ _ _ _ _ _ _=>zz)
     (λ_ _ _=>zz)
     (λ_ _ _=>zz)
     (λ_ _ _ _ _=>zz)
     (λkd i y orc k=>anyBin .andNot (.one (.sym kd i)) y orc k)
     (λ_ _ _=>zz)
     (λ_ _ _ _=>zz)
     (λ_ _ _=>zz)
     (λ_ _ _ _=>zz) s y orc k)
    (λ_ _ _ _=>zz) (λ_ _ _ _=>zz) x y orc k
def p1_eql (kd:IntKind) (a:Int) (y:AV) (orc:Orc RR) (k:AV→RR):RR:=AV.rec (motive:=fun _=>IntKind→Int→Orc RR→(AV→RR)→RR)
    (λs kd a orc k=>SV.rec (motive:=λ_=>IntKind→Int→Orc RR→(AV→RR)→RR)
     (λ_ _ _ _=>zz)
     (λkd' b kd a _ k=>Bool.rec (motive:=λ_=>RR) zz (yesF (eqF a b) k) (keq kd kd'))
     (λ_ _ _ _ _=>zz)
     (λ_ _ _ _ _ _=>zz)
     (λ_ _ _ _=>zz)
     (λ_ _ _ _=>zz)
     (λ_ _ _ _=>zz)
     (λ_ _ _ _ _ _=>zz)
     (λ_ _ _ _ _ _ _ _ _=>zz)
     (λ_ _ _ _=>zz)
     (λ_ _ _ _=>zz)
     (λ_ _ _ _ _ _=>zz)
     (λkd' j kd a orc k=>anyBin .eql (.one (.int kd a)) (.one (.sym kd' j)) orc k)
     (λ_ _ _ _=>zz)
     (λ_ _ _ _ _=>zz)
     (λ_ _ _ _=>zz)
     (λ_ _ _ _ _=>zz) s kd a orc k)
    (λ_ _ _ _ _=>zz) (λ_ _ _ _ _=>zz) y kd a orc k
def p_eql (x y:AV) (orc:Orc RR) (k:AV→RR):RR:=AV.rec (motive:=fun _=>AV→Orc RR→(AV→RR)→RR)
    (λs y orc k=>SV.rec (motive:=λ_=>AV→Orc RR→(AV→RR)→RR)
     (λ_ _ _=>zz)
     (λkd a y orc k=>p1_eql kd a y orc k)
     (λ_ _ _ _=>zz)
     (λ_ _ _ _ _=>zz)
     (λ_ _ _=>zz)
     (λ_ _ _=>zz)
     (λ_ _ _=>zz)
     (λ_ _ _ _ _=>zz)
     (λ_ _ _ _ _ _ _ _=>zz)
     (λ_ _ _=>zz)
     (λ_ _ _=>zz)
     (λ_ _ _ _ _=>zz)
     (λkd i y orc k=>anyBin .eql (.one (.sym kd i)) y orc k)
     (λ_ _ _=>zz)
     (λ_ _ _ _=>zz)
     (λ_ _ _=>zz)
     (λ_ _ _ _=>zz) s y orc k)
    (λ_ _ _ _=>zz) (λ_ _ _ _=>zz) x y orc k
def p1_neq (kd:IntKind) (a:Int) (y:AV) (orc:Orc RR) (k:AV→RR):RR:=AV.rec (motive:=fun _=>IntKind→Int→Orc RR→(AV→RR)→RR)
    (λs kd a orc k=>SV.rec (motive:=λ_=>IntKind→Int→Orc RR→(AV→RR)→RR)
     (λ_ _ _ _=>zz)
     (λkd' b kd a _ k=>Bool.rec (motive:=λ_=>RR) zz (notF (eqF a b) k) (keq kd kd'))
     (λ_ _ _ _ _=>zz)
     (λ_ _ _ _ _ _=>zz)
     (λ_ _ _ _=>zz)
     (λ_ _ _ _=>zz)
     (λ_ _ _ _=>zz)
     (λ_ _ _ _ _ _=>zz)
     (λ_ _ _ _ _ _ _ _ _=>zz)
     (λ_ _ _ _=>zz)
     (λ_ _ _ _=>zz)
     (λ_ _ _ _ _ _=>zz)
     (λkd' j kd a orc k=>anyBin .neq (.one (.int kd a)) (.one (.sym kd' j)) orc k)
     (λ_ _ _ _=>zz)
     (λ_ _ _ _ _=>zz)
     (λ_ _ _ _=>zz)
     (λ_ _ _ _ _=>zz) s kd a orc k)
    (λ_ _ _ _ _=>zz) (λ_ _ _ _ _=>zz) y kd a orc k
def p_neq (x y:AV) (orc:Orc RR) (k:AV→RR):RR:=AV.rec (motive:=fun _=>AV→Orc RR→(AV→RR)→RR)
    (λs y orc k=>SV.rec (motive:=λ_=>AV→Orc RR→(AV→RR)→RR)
     (λ_ _ _=>zz)
     (λkd a y orc k=>p1_neq kd a y orc k)
     (λ_ _ _ _=>zz)
     (λ_ _ _ _ _=>zz)
     (λ_ _ _=>zz)
     (λ_ _ _=>zz)
     (λ_ _ _=>zz)
     (λ_ _ _ _ _=>zz)
     (λ_ _ _ _ _ _ _ _=>zz)
     (λ_ _ _=>zz)
     (λ_ _ _=>zz)
     (λ_ _ _ _ _=>zz)
     (λkd i y orc k=>anyBin .neq (.one (.sym kd i)) y orc k)
     (λ_ _ _=>zz)
     (λ_ _ _ _=>zz)
     (λ_ _ _=>zz)
     (λ_ _ _ _=>zz) s y orc k)
    (λ_ _ _ _=>zz) (λ_ _ _ _=>zz) x y orc k
def p1_lss (kd:IntKind) (a:Int) (y:AV) (orc:Orc RR) (k:AV→RR):RR:=AV.rec (motive:=fun _=>IntKind→Int→Orc RR→(AV→RR)→RR)
    (λs kd a orc k=>SV.rec (motive:=λ_=>IntKind→Int→Orc RR→(AV→RR)→RR)
     (λ_ _ _ _=>zz)
     (λkd' b kd a _ k=>Bool.rec (motive:=λ_=>RR) zz (yesF (ltF a b) k) (keq kd kd'))
     (λ_ _ _ _ _=>zz)
     (λ_ _ _ _ _ _=>zz)
     (λ_ _ _ _=>zz)
     (λ_ _ _ _=>zz)
     (λ_ _ _ _=>zz)
     (λ_ _ _ _ _ _=>zz)
     (λ_ _ _ _ _ _ _ _ _=>zz)
     (λ_ _ _ _=>zz)
     (λ_ _ _ _=>zz)
     (λ_ _ _ _ _ _=>zz)
     (λkd' j kd a orc k=>anyBin .lss (.one (.int kd a)) (.one (.sym kd' j)) orc k)
     (λ_ _ _ _=>zz)
     (λ_ _ _ _ _=>zz)
     (λ_ _ _ _=>zz)
     (λ_ _ _ _ _=>zz) s kd a orc k)
    (λ_ _ _ _ _=>zz) (λ_ _ _ _ _=>zz) y kd a orc k
def p_lss (x y:AV) (orc:Orc RR) (k:AV→RR):RR:=AV.rec (motive:=fun _=>AV→Orc RR→(AV→RR)→RR)
    (λs y orc k=>SV.rec (motive:=λ_=>AV→Orc RR→(AV→RR)→RR)
     (λ_ _ _=>zz)
     (λkd a y orc k=>p1_lss kd a y orc k)
     (λ_ _ _ _=>zz)
     (λ_ _ _ _ _=>zz)
     (λ_ _ _=>zz)
     (λ_ _ _=>zz)
     (λ_ _ _=>zz)
     (λ_ _ _ _ _=>zz)
     (λ_ _ _ _ _ _ _ _=>zz)
     (λ_ _ _=>zz)
     (λ_ _ _=>zz)
     (λ_ _ _ _ _=>zz)
     (λkd i y orc k=>anyBin .lss (.one (.sym kd i)) y orc k)
     (λ_ _ _=>zz)
     (λ_ _ _ _=>zz)
     (λ_ _ _=>zz)
     (λ_ _ _ _=>zz) s y orc k)
    (λ_ _ _ _=>zz) (λ_ _ _ _=>zz) x y orc k
def p1_leq (kd:IntKind) (a:Int) (y:AV) (orc:Orc RR) (k:AV→RR):RR:=AV.rec (motive:=fun _=>IntKind→Int→Orc RR→(AV→RR)→RR)
    (λs kd a orc k=>SV.rec (motive:=λ_=>IntKind→Int→Orc RR→(AV→RR)→RR)
     (λ_ _ _ _=>zz)
     (λkd' b kd a _ k=>Bool.rec (motive:=λ_=>RR) zz (notF (ltF b a) k) (keq kd kd'))
     (λ_ _ _ _ _=>zz)
     (λ_ _ _ _ _ _=>zz)
     (λ_ _ _ _=>zz)
     (λ_ _ _ _=>zz)
     (λ_ _ _ _=>zz)
     (λ_ _ _ _ _ _=>zz)
     (λ_ _ _ _ _ _ _ _ _=>zz)
     (λ_ _ _ _=>zz)
     (λ_ _ _ _=>zz)
     (λ_ _ _ _ _ _=>zz)
     (λkd' j kd a orc k=>anyBin .leq (.one (.int kd a)) (.one (.sym kd' j)) orc k)
     (λ_ _ _ _=>zz)
     (λ_ _ _ _ _=>zz)
     (λ_ _ _ _=>zz)
     (λ_ _ _ _ _=>zz) s kd a orc k)
    (λ_ _ _ _ _=>zz) (λ_ _ _ _ _=>zz) y kd a orc k
def p_leq (x y:AV) (orc:Orc RR) (k:AV→RR):RR:=AV.rec (motive:=fun _=>AV→Orc RR→(AV→RR)→RR)
    (λs y orc k=>SV.rec (motive:=λ_=>AV→Orc RR→(AV→RR)→RR)
     (λ_ _ _=>zz)
     (λkd a y orc k=>p1_leq kd a y orc k)
     (λ_ _ _ _=>zz)
     (λ_ _ _ _ _=>zz)
     (λ_ _ _=>zz)
     (λ_ _ _=>zz)
     (λ_ _ _=>zz)
     (λ_ _ _ _ _=>zz)
     (λ_ _ _ _ _ _ _ _=>zz)
     (λ_ _ _=>zz)
     (λ_ _ _=>zz)
     (λ_ _ _ _ _=>zz)
     (λkd i y orc k=>anyBin .leq (.one (.sym kd i)) y orc k)
     (λ_ _ _=>zz)
     (λ_ _ _ _=>zz)
     (λ_ _ _=>zz)
     (λ_ _ _ _=>zz) s y orc k)
    (λ_ _ _ _=>zz) (λ_ _ _ _=>zz) x y orc k
def p1_gtr (kd:IntKind) (a:Int) (y:AV) (orc:Orc RR) (k:AV→RR):RR:=AV.rec (motive:=fun _=>IntKind→Int→Orc RR→(AV→RR)→RR)
    (λs kd a orc k=>SV.rec (motive:=λ_=>IntKind→Int→Orc RR→(AV→RR)→RR)
     (λ_ _ _ _=>zz)
     (λkd' b kd a _ k=>Bool.rec (motive:=λ_=>RR) zz (yesF (ltF b a) k) (keq kd kd'))
     (λ_ _ _ _ _=>zz)
     (λ_ _ _ _ _ _=>zz)
     (λ_ _ _ _=>zz)
     (λ_ _ _ _=>zz)
     (λ_ _ _ _=>zz)
     (λ_ _ _ _ _ _=>zz)
     (λ_ _ _ _ _ _ _ _ _=>zz)
     (λ_ _ _ _=>zz)
     (λ_ _ _ _=>zz)
     (λ_ _ _ _ _ _=>zz)
     (λkd' j kd a orc k=>anyBin .gtr (.one (.int kd a)) (.one (.sym kd' j)) orc k)
     (λ_ _ _ _=>zz)
     (λ_ _ _ _ _=>zz)
     (λ_ _ _ _=>zz)
     (λ_ _ _ _ _=>zz) s kd a orc k)
    (λ_ _ _ _ _=>zz) (λ_ _ _ _ _=>zz) y kd a orc k
def p_gtr (x y:AV) (orc:Orc RR) (k:AV→RR):RR:=AV.rec (motive:=fun _=>AV→Orc RR→(AV→RR)→RR)
    (λs y orc k=>SV.rec (motive:=λ_=>AV→Orc RR→(AV→RR)→RR)
     (λ_ _ _=>zz)
     (λkd a y orc k=>p1_gtr kd a y orc k)
     (λ_ _ _ _=>zz)
     (λ_ _ _ _ _=>zz)
     (λ_ _ _=>zz)
     (λ_ _ _=>zz)
     (λ_ _ _=>zz)
     (λ_ _ _ _ _=>zz)
     (λ_ _ _ _ _ _ _ _=>zz)
     (λ_ _ _=>zz)
     (λ_ _ _=>zz)
     (λ_ _ _ _ _=>zz)
     (λkd i y orc k=>anyBin .gtr (.one (.sym kd i)) y orc k)
     (λ_ _ _=>zz)
     (λ_ _ _ _=>zz)
     (λ_ _ _=>zz)
     (λ_ _ _ _=>zz) s y orc k)
    (λ_ _ _ _=>zz) (λ_ _ _ _=>zz) x y orc k
def p1_geq (kd:IntKind) (a:Int) (y:AV) (orc:Orc RR) (k:AV→RR):RR:=AV.rec (motive:=fun _=>IntKind→Int→Orc RR→(AV→RR)→RR)
    (λs kd a orc k=>SV.rec (motive:=λ_=>IntKind→Int→Orc RR→(AV→RR)→RR)
     (λ_ _ _ _=>zz)
     (λkd' b kd a _ k=>Bool.rec (motive:=λ_=>RR) zz (notF (ltF a b) k) (keq kd kd'))
     (λ_ _ _ _ _=>zz)
     (λ_ _ _ _ _ _=>zz)
     (λ_ _ _ _=>zz)
     (λ_ _ _ _=>zz)
     (λ_ _ _ _=>zz)
     (λ_ _ _ _ _ _=>zz)
     (λ_ _ _ _ _ _ _ _ _=>zz)
     (λ_ _ _ _=>zz)
     (λ_ _ _ _=>zz)
     (λ_ _ _ _ _ _=>zz)
     (λkd' j kd a orc k=>anyBin .geq (.one (.int kd a)) (.one (.sym kd' j)) orc k)
     (λ_ _ _ _=>zz)
     (λ_ _ _ _ _=>zz)
     (λ_ _ _ _=>zz)
     (λ_ _ _ _ _=>zz) s kd a orc k)
    (λ_ _ _ _ _=>zz) (λ_ _ _ _ _=>zz) y kd a orc k
def p_geq (x y:AV) (orc:Orc RR) (k:AV→RR):RR:=AV.rec (motive:=fun _=>AV→Orc RR→(AV→RR)→RR)
    (λs y orc k=>SV.rec (motive:=λ_=>AV→Orc RR→(AV→RR)→RR)
     (λ_ _ _=>zz)
     (λkd a y orc k=>p1_geq kd a y orc k)
     (λ_ _ _ _=>zz)
     (λ_ _ _ _ _=>zz)
     (λ_ _ _=>zz)
     (λ_ _ _=>zz)
     (λ_ _ _=>zz)
     (λ_ _ _ _ _=>zz)
     (λ_ _ _ _ _ _ _ _=>zz)
     (λ_ _ _=>zz)
     (λ_ _ _=>zz)
     (λ_ _ _ _ _=>zz)
     (λkd i y orc k=>anyBin .geq (.one (.sym kd i)) y orc k)
     (λ_ _ _=>zz)
     (λ_ _ _ _=>zz)
     (λ_ _ _=>zz)
     (λ_ _ _ _=>zz) s y orc k)
    (λ_ _ _ _=>zz) (λ_ _ _ _=>zz) x y orc k
def plainF (k:List SV→RR) (cs:List SV):RR:=List.rec (motive:=λ_=>(List SV→RR)→List SV→RR) (λk cs=>k cs) (λh _ _ k cs=>SV.rec (motive:=λ_=>(List SV→RR)→List SV→RR)
 (λk cs=>k cs)
 (λ_ _ k cs=>k cs)
 (λ_ k cs=>k cs)
 (λ_ _ k cs=>k cs)
 (λk cs=>k cs)
 (λk cs=>k cs)
 (λk cs=>k cs)
 (λ_ _ k cs=>k cs)
 (λ_ _ _ _ _ k cs=>k cs)
 (λk cs=>k cs)
 (λk cs=>k cs)
 (λ_ _ k cs=>k cs)
 (λ_ _ k cs=>k cs)
 (λk cs=>k cs)
 (λ_ k cs=>k cs)
 (λk cs=>k cs)
 (λ_ _ _=>zz) h k cs) cs k cs
def lookF (mu:St) (fz:Fz) (id:Nat) (k:List SV→RR):RR:=List.rec (motive:=λ_=>Fz→Nat→(List SV→RR)→RR)
 (λfz id k=>Option.rec (motive:=λ_=>RR) zz (plainF k) (fz id))
 (λp _ ih fz id k=>Prod.rec (motive:=λ_=>(Fz→Nat→(List SV→RR)→RR)→Fz→Nat→(List SV→RR)→RR) (λi cs ih fz id k=>Bool.rec (motive:=λ_=>RR) (ih fz id k) (plainF k cs) (Nat.beq i id)) p ih fz id k) mu fz id k
def withF (mu:St) (fz:Fz):Fz:=λid=>List.rec (motive:=λ_=>Fz→Nat→Option (List SV))
 (λfz id=>fz id)
 (λp _ ih fz id=>Prod.rec (motive:=λ_=>(Fz→Nat→Option (List SV))→Fz→Nat→Option (List SV)) (λi cs ih fz id=>Bool.rec (motive:=λ_=>Option (List SV)) (ih fz id) (some cs) (Nat.beq i id)) p ih fz id) mu fz id
def nthF (l:List SV) (i:Nat) (k:SV→RR):RR:=List.rec (motive:=λ_=>Nat→(SV→RR)→RR) (λ_ _=>zz)
 (λh _ ih i k=>Nat.rec (motive:=λ_=>SV→(Nat→(SV→RR)→RR)→(SV→RR)→RR) (λh _ k=>k h) (λj _ _ ih k=>ih j k) i h ih k) l i k
def set1F (l:List SV) (i:Nat) (v:SV) (k:List SV→RR):RR:=List.rec (motive:=λ_=>Nat→SV→(List SV→RR)→RR) (λ_ _ _=>zz)
 (λh t ih i v k=>Nat.rec (motive:=λ_=>RR) (k (v::t)) (λj _=>ih j v λr=>k (h::r)) i) l i v k
def put1F (mu:St) (id off:Nat) (v:SV) (k:St→RR):RR:=List.rec (motive:=λ_=>Nat→Nat→SV→(St→RR)→RR) (λ_ _ _ _=>zz)
 (λp t ih id off v k=>Prod.rec (motive:=λ_=>RR) (λi cs=>Bool.rec (motive:=λ_=>RR) (ih id off v λr=>k ((i,cs)::r)) (plainF (λcs=>set1F cs off v λcs=>k ((i,cs)::t)) cs) (Nat.beq i id)) p) mu id off v k
def lenF (l:List SV) (m:Nat):Bool:=List.rec (motive:=λ_=>Nat→Bool) (λm=>Nat.beq m 0) (λ_ _ ih m=>Nat.rec (motive:=λ_=>Bool) false (λj _=>ih j) m) l m
def fitF (l:List SV) (m:Nat) (cs:List SV):Bool:=List.rec (motive:=λ_=>Nat→List SV→Bool)
 (λm cs=>List.rec (motive:=λ_=>Bool) (Nat.beq m 0) (λ_ _ _=>false) cs)
 (λv _ ih m cs=>Nat.rec (motive:=λ_=>Bool) false (λj _=>List.rec (motive:=λ_=>Bool) false (λ_ r _=>Bool.rec (motive:=λ_=>Bool) false (ih j r) v.known) cs) m) l m cs
def putF (mu:St) (id:Nat) (m:Nat) (l:List SV) (no:RR) (k:St→RR):RR:=List.rec (motive:=λ_=>Nat→RR→(St→RR)→RR) (λ_ no _=>no)
 (λp t ih id no k=>Prod.rec (motive:=λ_=>RR) (λi cs=>Bool.rec (motive:=λ_=>RR) (ih id no λr=>k ((i,cs)::r)) (Bool.rec (motive:=λ_=>RR) no (k ((i,l)::t)) (Bool.rec (motive:=λ_=>Bool) (fitF l m cs) false (mkd cs))) (Nat.beq i id)) p) mu id no k
def pLoad1 (x:AV) (fz:Fz) (mu:St) (k:AV→RR):RR:=AV.rec (motive:=fun _=>Fz→St→(AV→RR)→RR)
    (λs fz mu k=>SV.rec (motive:=λ_=>Fz→St→(AV→RR)→RR)
     (λ_ _ _=>zz)
     (λ_ _ _ _ _=>zz)
     (λ_ _ _ _=>zz)
     (λ_ _ _ _ _=>zz)
     (λ_ _ _=>zz)
     (λ_ _ _=>zz)
     (λ_ _ _=>zz)
     (λid off fz mu k=>lookF mu fz id λcs=>nthF cs off λs=>k (.one s))
     (λ_ _ _ _ _ _ _ _=>zz)
     (λ_ _ _=>zz)
     (λ_ _ _=>zz)
     (λ_ _ _ _ _=>zz)
     (λ_ _ _ _ _=>zz)
     (λ_ _ _=>zz)
     (λ_ _ _ _=>zz)
     (λ_ _ _=>zz)
     (λ_ _ _ _=>zz) s fz mu k)
    (λ_ _ _ _=>zz) (λ_ _ _ _=>zz) x fz mu k
def pLoad (agg:Bool) (m:Nat) (x:AV) (fz:Fz) (mu:St) (k:AV→RR):RR:=AV.rec (motive:=fun _=>Bool→Nat→Fz→St→(AV→RR)→RR)
    (λs agg m fz mu k=>SV.rec (motive:=λ_=>Bool→Nat→Fz→St→(AV→RR)→RR)
     (λ_ _ _ _ _=>zz)
     (λ_ _ _ _ _ _ _=>zz)
     (λ_ _ _ _ _ _=>zz)
     (λ_ _ _ _ _ _ _=>zz)
     (λ_ _ _ _ _=>zz)
     (λ_ _ _ _ _=>zz)
     (λ_ _ _ _ _=>zz)
     (λid off agg m fz mu k=>lookF mu fz id λcs=>subK cs off m zz λr=>asRes agg r zz λv=>k v)
     (λ_ _ _ _ _ _ _ _ _ _=>zz)
     (λ_ _ _ _ _=>zz)
     (λ_ _ _ _ _=>zz)
     (λ_ _ _ _ _ _ _=>zz)
     (λ_ _ _ _ _ _ _=>zz)
     (λ_ _ _ _ _=>zz)
     (λ_ _ _ _ _ _=>zz)
     (λ_ _ _ _ _=>zz)
     (λ_ _ _ _ _ _=>zz) s agg m fz mu k)
    (λ_ _ _ _ _ _=>zz) (λ_ _ _ _ _ _=>zz) x agg m fz mu k
def pLoadA (m:Nat) (x:AV) (fz:Fz) (mu:St) (k:AV→RR):RR:=AV.rec (motive:=fun _=>Nat→Fz→St→(AV→RR)→RR)
    (λs m fz mu k=>SV.rec (motive:=λ_=>Nat→Fz→St→(AV→RR)→RR)
     (λ_ _ _ _=>zz)
     (λ_ _ _ _ _ _=>zz)
     (λ_ _ _ _ _=>zz)
     (λ_ _ _ _ _ _=>zz)
     (λ_ _ _ _=>zz)
     (λ_ _ _ _=>zz)
     (λ_ _ _ _=>zz)
     (λid off m fz mu k=>lookF mu fz id λcs=>Nat.rec (motive:=λ_=>RR) (Bool.rec (motive:=λ_=>RR) (subK cs 0 m zz λr=>k (.ag r)) (k (.ag cs)) (lenF cs m)) (λo _=>subK cs (Nat.succ o) m zz λr=>k (.ag r)) off)
     (λ_ _ _ _ _ _ _ _ _=>zz)
     (λ_ _ _ _=>zz)
     (λ_ _ _ _=>zz)
     (λ_ _ _ _ _ _=>zz)
     (λ_ _ _ _ _ _=>zz)
     (λ_ _ _ _=>zz)
     (λ_ _ _ _ _=>zz)
     (λ_ _ _ _=>zz)
     (λ_ _ _ _ _=>zz) s m fz mu k)
    (λ_ _ _ _ _=>zz) (λ_ _ _ _ _=>zz) x m fz mu k
def qStore1 (x v:AV) (mu:St) (k:St→RR):RR:=AV.rec (motive:=fun _=>AV→St→(St→RR)→RR)
    (λs v mu k=>SV.rec (motive:=λ_=>AV→St→(St→RR)→RR)
     (λ_ _ _=>zz)
     (λ_ _ _ _ _=>zz)
     (λ_ _ _ _=>zz)
     (λ_ _ _ _ _=>zz)
     (λ_ _ _=>zz)
     (λ_ _ _=>zz)
     (λ_ _ _=>zz)
     (λid off v mu k=>AV.rec (motive:=λ_=>RR) (λs=>Bool.rec (motive:=λ_=>RR) zz (put1F mu id off s k) s.known) (λl=>oStore zz [] mu 0 1 (.c (.one (.optr id off))) (.c (.ag l)) λ_ mu _=>k mu) (λ_=>zz) v)
     (λ_ _ _ _ _ _ _ _=>zz)
     (λ_ _ _=>zz)
     (λ_ _ _=>zz)
     (λ_ _ _ _ _=>zz)
     (λ_ _ _ _ _=>zz)
     (λ_ _ _=>zz)
     (λ_ _ _ _=>zz)
     (λ_ _ _=>zz)
     (λ_ _ _ _=>zz) s v mu k)
    (λ_ _ _ _=>zz) (λ_ _ _ _=>zz) x v mu k
def anyStore (m:Nat) (x v:AV) (mu:St) (k:St→RR):RR:=oStore zz [] mu 0 m (.c x) (.c v) λ_ mu _=>k mu
def qStore (m:Nat) (x v:AV) (mu:St) (k:St→RR):RR:=AV.rec (motive:=fun _=>Nat→AV→St→(St→RR)→RR)
    (λs m v mu k=>SV.rec (motive:=λ_=>Nat→AV→St→(St→RR)→RR)
     (λ_ _ _ _=>zz)
     (λ_ _ _ _ _ _=>zz)
     (λ_ _ _ _ _=>zz)
     (λ_ _ _ _ _ _=>zz)
     (λ_ _ _ _=>zz)
     (λ_ _ _ _=>zz)
     (λ_ _ _ _=>zz)
     (λid off m v mu k=>AV.rec (motive:=λ_=>RR) (λs=>anyStore m (.one (.optr id off)) (.one s) mu k) (λl=>Nat.rec (motive:=λ_=>RR) (putF mu id m l (anyStore m (.one (.optr id 0)) (.ag l) mu k) k) (λo _=>anyStore m (.one (.optr id (Nat.succ o))) (.ag l) mu k) off) (λ_=>zz) v)
     (λ_ _ _ _ _ _ _ _ _=>zz)
     (λ_ _ _ _=>zz)
     (λ_ _ _ _=>zz)
     (λ_ _ _ _ _ _=>zz)
     (λ_ _ _ _ _ _=>zz)
     (λ_ _ _ _=>zz)
     (λ_ _ _ _ _=>zz)
     (λ_ _ _ _=>zz)
     (λ_ _ _ _ _=>zz) s m v mu k)
    (λ_ _ _ _ _=>zz) (λ_ _ _ _ _=>zz) x m v mu k
def pFaddr (off:Nat) (x:AV) (k:AV→RR):RR:=AV.rec (motive:=fun _=>Nat→(AV→RR)→RR)
    (λs off k=>SV.rec (motive:=λ_=>Nat→(AV→RR)→RR)
     (λ_ _=>zz)
     (λ_ _ _ _=>zz)
     (λ_ _ _=>zz)
     (λ_ _ _ _=>zz)
     (λ_ _=>zz)
     (λ_ _=>zz)
     (λ_ _=>zz)
     (λid o off k=>fN (Nat.add o off) λo=>k (.one (.optr id o)))
     (λ_ _ _ _ _ _ _=>zz)
     (λ_ _=>zz)
     (λ_ _=>zz)
     (λ_ _ _ _=>zz)
     (λ_ _ _ _=>zz)
     (λ_ _=>zz)
     (λ_ _ _=>zz)
     (λ_ _=>zz)
     (λ_ _ _=>zz) s off k)
    (λ_ _ _=>zz) (λ_ _ _=>zz) x off k
def pNilc (x:AV) (k:AV→RR):RR:=AV.rec (motive:=fun _=>(AV→RR)→RR)
    (λs k=>SV.rec (motive:=λ_=>(AV→RR)→RR)
     (λ_=>zz)
     (λ_ _ _=>zz)
     (λ_ _=>zz)
     (λ_ _ _=>zz)
     (λ_=>zz)
     (λ_=>zz)
     (λ_=>zz)
     (λid o k=>k (.one (.optr id o)))
     (λ_ _ _ _ _ _=>zz)
     (λ_=>zz)
     (λ_=>zz)
     (λf cs k=>k (.one (.fn f cs)))
     (λ_ _ _=>zz)
     (λ_=>zz)
     (λ_ _=>zz)
     (λ_=>zz)
     (λ_ _=>zz) s k)
    (λ_ _=>zz) (λ_ _=>zz) x k
def pNot (x:AV) (k:AV→RR):RR:=AV.rec (motive:=fun _=>(AV→RR)→RR)
    (λs k=>SV.rec (motive:=λ_=>(AV→RR)→RR)
     (λ_=>zz)
     (λ_ _ _=>zz)
     (λb k=>notF b k)
     (λ_ _ _=>zz)
     (λ_=>zz)
     (λ_=>zz)
     (λ_=>zz)
     (λ_ _ _=>zz)
     (λ_ _ _ _ _ _=>zz)
     (λ_=>zz)
     (λ_=>zz)
     (λ_ _ _=>zz)
     (λ_ _ _=>zz)
     (λ_=>zz)
     (λ_ _=>zz)
     (λ_=>zz)
     (λ_ _=>zz) s k)
    (λ_ _=>zz) (λ_ _=>zz) x k
def pLenS (x:AV) (k:AV→RR):RR:=AV.rec (motive:=fun _=>(AV→RR)→RR)
    (λs k=>SV.rec (motive:=λ_=>(AV→RR)→RR)
     (λ_=>zz)
     (λ_ _ _=>zz)
     (λ_ _=>zz)
     (λl _ k=>k (.one (.int .i64 (.ofNat l))))
     (λ_=>zz)
     (λ_=>zz)
     (λ_=>zz)
     (λ_ _ _=>zz)
     (λ_ _ _ _ _ _=>zz)
     (λ_=>zz)
     (λ_=>zz)
     (λ_ _ _=>zz)
     (λ_ _ _=>zz)
     (λ_=>zz)
     (λ_ _=>zz)
     (λ_=>zz)
     (λ_ _=>zz) s k)
    (λ_ _=>zz) (λ_ _=>zz) x k
def pLen (x:AV) (k:AV→RR):RR:=AV.rec (motive:=fun _=>(AV→RR)→RR)
    (λs k=>SV.rec (motive:=λ_=>(AV→RR)→RR)
     (λ_=>zz)
     (λ_ _ _=>zz)
     (λ_ _=>zz)
     (λ_ _ _=>zz)
     (λk=>k (.one (.int .i64 (.ofNat 0))))
     (λ_=>zz)
     (λ_=>zz)
     (λ_ _ _=>zz)
     (λ_ _ len _ _ k=>k (.one (.int .i64 (.ofNat len))))
     (λk=>k (.one (.int .i64 (.ofNat 0))))
     (λk=>k (.one (.int .i64 (.ofNat 0))))
     (λ_ _ _=>zz)
     (λ_ _ _=>zz)
     (λ_=>zz)
     (λ_ _=>zz)
     (λ_=>zz)
     (λ_ _=>zz) s k)
    (λ_ _=>zz) (λ_ _=>zz) x k
def pPick (c a b:AV) (k:AV→RR):RR:=AV.rec (motive:=fun _=>AV→AV→(AV→RR)→RR)
    (λs a b k=>SV.rec (motive:=λ_=>AV→AV→(AV→RR)→RR)
     (λ_ _ _=>zz)
     (λ_ _ _ _ _=>zz)
     (λt a b k=>Bool.rec (motive:=λ_=>RR) (fAV b k) (fAV a k) t)
     (λ_ _ _ _ _=>zz)
     (λ_ _ _=>zz)
     (λ_ _ _=>zz)
     (λ_ _ _=>zz)
     (λ_ _ _ _ _=>zz)
     (λ_ _ _ _ _ _ _ _=>zz)
     (λ_ _ _=>zz)
     (λ_ _ _=>zz)
     (λ_ _ _ _ _=>zz)
     (λ_ _ _ _ _=>zz)
     (λ_ _ _=>zz)
     (λ_ _ _ _=>zz)
     (λ_ _ _=>zz)
     (λ_ _ _ _=>zz) s a b k)
    (λ_ _ _ _=>zz) (λ_ _ _ _=>zz) c a b k
def pExtr (x:AV) (i:Nat) (k:AV→RR):RR:=AV.rec (motive:=λ_=>Nat→(AV→RR)→RR) (λ_ _ _=>zz) (λ_ _ _=>zz) (λps i k=>nthK ps i zz λc=>CV.rec (motive:=λ_=>RR) (λs=>k (.one s)) (λl=>k (.ag l)) c) x i k
def pIaddr2 (s:Nat) (x:AV) (j:Nat) (k:AV→RR):RR:=AV.rec (motive:=fun _=>Nat→Nat→(AV→RR)→RR)
    (λv s j k=>SV.rec (motive:=λ_=>Nat→Nat→(AV→RR)→RR)
     (λ_ _ _=>zz)
     (λ_ _ _ _ _=>zz)
     (λ_ _ _ _=>zz)
     (λ_ _ _ _ _=>zz)
     (λ_ _ _=>zz)
     (λ_ _ _=>zz)
     (λ_ _ _=>zz)
     (λ_ _ _ _ _=>zz)
     (λid off len _ s' s j k=>Bool.rec (motive:=λ_=>RR) zz (Bool.rec (motive:=λ_=>RR) zz (fN (Nat.add off (Nat.mul j s)) λo=>k (.one (.optr id o))) (Nat.ble (Nat.succ j) len)) (Nat.beq s' s))
     (λ_ _ _=>zz)
     (λ_ _ _=>zz)
     (λ_ _ _ _ _=>zz)
     (λ_ _ _ _ _=>zz)
     (λ_ _ _=>zz)
     (λ_ _ _ _=>zz)
     (λ_ _ _=>zz)
     (λ_ _ _ _=>zz) v s j k)
    (λ_ _ _ _=>zz) (λ_ _ _ _=>zz) x s j k
def pIaddr (s:Nat) (x i:AV) (k:AV→RR):RR:=AV.rec (motive:=fun _=>Nat→AV→(AV→RR)→RR)
    (λv s x k=>SV.rec (motive:=λ_=>Nat→AV→(AV→RR)→RR)
     (λ_ _ _=>zz)
     (λ_ i s x k=>Int.rec (motive:=λ_=>RR) (λj=>pIaddr2 s x j k) (λ_=>zz) i)
     (λ_ _ _ _=>zz)
     (λ_ _ _ _ _=>zz)
     (λ_ _ _=>zz)
     (λ_ _ _=>zz)
     (λ_ _ _=>zz)
     (λ_ _ _ _ _=>zz)
     (λ_ _ _ _ _ _ _ _=>zz)
     (λ_ _ _=>zz)
     (λ_ _ _=>zz)
     (λ_ _ _ _ _=>zz)
     (λ_ _ _ _ _=>zz)
     (λ_ _ _=>zz)
     (λ_ _ _ _=>zz)
     (λ_ _ _=>zz)
     (λ_ _ _ _=>zz) v s x k)
    (λ_ _ _ _=>zz) (λ_ _ _ _=>zz) i s x k
def forceV (x:AV) (orc:Orc RR) (k:AV→RR):RR:=AV.rec (motive:=fun _=>Orc RR→(AV→RR)→RR)
    (λs orc k=>SV.rec (motive:=λ_=>Orc RR→(AV→RR)→RR)
     (λ_ k=>k (.one (.un)))
     (λz0 z1 _ k=>k (.one (.int z0 z1)))
     (λz0 _ k=>k (.one (.bool z0)))
     (λz0 z1 _ k=>k (.one (.str z0 z1)))
     (λ_ k=>k (.one (.nsl)))
     (λ_ k=>k (.one (.npt)))
     (λ_ k=>k (.one (.nfn)))
     (λz0 z1 _ k=>k (.one (.optr z0 z1)))
     (λz0 z1 z2 z3 z4 _ k=>k (.one (.osl z0 z1 z2 z3 z4)))
     (λ_ k=>k (.one (.esl)))
     (λ_ k=>k (.one (.zsl)))
     (λz0 z1 _ k=>k (.one (.fn z0 z1)))
     (λkd i orc k=>orc.force i λv=>fI v λv=>k (.one (.int kd v)))
     (λ_ k=>k (.one (.nmp)))
     (λz0 _ k=>k (.one (.mp z0)))
     (λ_ k=>k (.one (.nif)))
     (λz0 _ k=>k (.one (.mk z0))) s orc k)
    (λl _ k=>k (.ag l)) (λl _ k=>k (.tp l)) x orc k
def qAlloc (zero:List SV) (mu:St) (n:Nat) (k:KT RR):RR:=fN (Nat.succ n) λm=>k (.one (.optr n 0)) ((n,zero)::mu) m
def qBox (x:AV) (mu:St) (n:Nat) (k:KT RR):RR:=oBox zz [] mu n (.c x) k
def qCallR (orc:Orc RR) (call:CallT RR) (g:Nat) (vs:List AV) (fz:Fz) (mu:St) (n:Nat) (k:KT RR):RR:=call g vs (withF mu fz) [] n λv new n'=>sweepG orc.sw n v new λnew=>joinK new mu λmu=>k v mu n'
def qOth (orc:Orc RR) (call:CallT RR) (fz:Fz) (mu:St) (n:Nat) (ro:Bool) (op:AOp) (k:KT RR):RR:=aop orc zz call fz [] mu n ro op k
def wantF (v:AV) (want:Bool) (yes no:RR):RR:=AV.rec (motive:=λ_=>Bool→RR→RR→RR)
 (λs want yes no=>SV.rec (motive:=λ_=>Bool→RR→RR→RR)
  (λ_ _ _=>zz)
  (λ_ _ _ _ _=>zz)
  (λb want yes no=>Bool.rec (motive:=λ_=>RR) (Bool.rec (motive:=λ_=>RR) yes no want) (Bool.rec (motive:=λ_=>RR) no yes want) b)
  (λ_ _ _ _ _=>zz)
  (λ_ _ _=>zz)
  (λ_ _ _=>zz)
  (λ_ _ _=>zz)
  (λ_ _ _ _ _=>zz)
  (λ_ _ _ _ _ _ _ _=>zz)
  (λ_ _ _=>zz)
  (λ_ _ _=>zz)
  (λ_ _ _ _ _=>zz)
  (λ_ _ _ _ _=>zz)
  (λ_ _ _=>zz)
  (λ_ _ _ _=>zz)
  (λ_ _ _=>zz)
  (λ_ _ _ _=>zz) s want yes no)
 (λ_ _ _ _=>zz) (λl _ _ no=>List.rec (motive:=λ_=>RR) no (λ_ _ _=>zz) l) v want yes no
def gd (g:AV) (want:Bool) (f:KT RR→RR) (mu:St) (n:Nat) (J:KT RR):RR:=wantF g want (f J) (J noVal mu n)
def gdD (g:AV) (want:Bool) (mu:St) (ad:List St) (n:Nat) (f:(AV→St→List St→Nat→RR)→RR) (J:AV→St→List St→Nat→RR):RR:=wantF g want (f J) (J noVal mu ad n)
def vIf (c:AV) (a b:RR):RR:=AV.rec (motive:=λ_=>RR→RR→RR)
 (λs a b=>SV.rec (motive:=λ_=>RR→RR→RR)
  (λ_ _=>zz)
  (λ_ _ _ _=>zz)
  (λy a b=>Bool.rec (motive:=λ_=>RR) b a y)
  (λ_ _ _ _=>zz)
  (λ_ _=>zz)
  (λ_ _=>zz)
  (λ_ _=>zz)
  (λ_ _ _ _=>zz)
  (λ_ _ _ _ _ _ _=>zz)
  (λ_ _=>zz)
  (λ_ _=>zz)
  (λ_ _ _ _=>zz)
  (λ_ _ _ _=>zz)
  (λ_ _=>zz)
  (λ_ _ _=>zz)
  (λ_ _=>zz)
  (λ_ _ _=>zz) s a b)
 (λ_ _ _=>zz) (λ_ _ _=>zz) c a b
def onward (next:Fm→St→Nat→RR) (k:AExit→Fm→St→Nat→RR):AExit→Fm→St→Nat→RR:=λe t mu n=>AExit.rec (motive:=λ_=>RR) (next t mu n) (λid=>k (.exit id) t mu n) (k .ret t mu n) e
def inBlk (id:Nat) (next:Fm→St→Nat→RR) (k:AExit→Fm→St→Nat→RR):AExit→Fm→St→Nat→RR:=λe t mu n=>AExit.rec (motive:=λ_=>RR) (next t mu n) (λid'=>Bool.rec (motive:=λ_=>RR) (k (.exit id') t mu n) (next t mu n) (Nat.beq id' id)) (k .ret t mu n) e
def cNorm:HC:=λ_ _ _ t mu n k=>k .normal t mu n
def cRet:HC:=λ_ _ _ t mu n k=>k .ret t mu n
def cExit (id:Nat):HC:=λ_ _ _ t mu n k=>k (.exit id) t mu n
def cBad:HC:=λ_ _ _ _ _ _ _=>zz
def tIf (c:AV) (a b:HC):HC:=λorc call fz t mu n k=>vIf c (a orc call fz t mu n k) (b orc call fz t mu n k)
def tIfN (c:AV) (a b next:HC):HC:=λorc call fz t mu n k=>(λk=>vIf c (a orc call fz t mu n k) (b orc call fz t mu n k)) (onward (next orc call fz · · · k) k)
def tTest (c:AV) (id:Nat) (next:HC):HC:=λorc call fz t mu n k=>vIf c (next orc call fz t mu n k) (k (.exit id) t mu n)
def cIf (c:GT) (a b:HC):HC:=λorc call fz t mu n k=>tIf (c t) a b orc call fz t mu n k
def cIfN (c:GT) (a b next:HC):HC:=λorc call fz t mu n k=>tIfN (c t) a b next orc call fz t mu n k
def cTest (c:GT) (id:Nat) (next:HC):HC:=λorc call fz t mu n k=>tTest (c t) id next orc call fz t mu n k
def cBlk (id:Nat) (a next:HC):HC:=λorc call fz t mu n k=>a orc call fz t mu n (inBlk id (next orc call fz · · · k) k)
def loopK (a:HC) (orc:Orc RR) (call:CallT RR) (fz:Fz) (fuel:Nat):Fm→St→Nat→(AExit→Fm→St→Nat→RR)→RR:=
 Nat.rec (motive:=λ_=>Fm→St→Nat→(AExit→Fm→St→Nat→RR)→RR) (λ_ _ _ _=>zz) (λ_ ih t mu n k=>a orc call fz t mu n (onward (ih · · · k) k)) fuel
def cLoop (a next:HC):HC:=λorc call fz t mu n k=>loopK a orc call fz 100000 t mu n (onward (next orc call fz · · · k) k)
abbrev OF:=Fz→St→Nat→KT RR→RR
def dr0 (f:OF) (n:Nat) (J:AV→Nat→RR):RR:=f (λ_=>none) [] n λv new n=>List.rec (motive:=λ_=>RR) (J v n) (λ_ _ _=>zz) new
def dr1 (f:OF) (anc:List Nat) (i:Nat) (fz:Fz) (mu:St) (ad:List St) (n:Nat) (J:AV→List St→Nat→RR):RR:=f (with' (adsOf ad anc) (with' mu fz)) [] n λv new n=>setK ad i new λad=>J v ad n
def dM (x:AV) (n:Nat) (J:AV→Nat→RR):RR:=dr0 (λ_ mu n k=>k x mu n) n J
def dP (f:(AV→RR)→RR) (n:Nat) (J:AV→Nat→RR):RR:=dr0 (λ_ mu n k=>f λv=>k v mu n) n J
def dL (f:Fz→St→(AV→RR)→RR) (anc:List Nat) (i:Nat) (fz:Fz) (mu:St) (ad:List St) (n:Nat) (J:AV→List St→Nat→RR):RR:=dr1 (λfz mu n k=>f fz mu λv=>k v mu n) anc i fz mu ad n J
def dr2 (f:OF) (anc:List Nat) (fz:Fz) (mu:St) (ad:List St) (n:Nat) (J:AV→St→List St→Nat→RR):RR:=joinK (adsOf ad anc) mu λmu=>clearK anc ad λad=>f fz mu n λv mu n=>J v mu ad n
def dr3 (f:OF) (i:Nat) (ad:List St) (n:Nat) (J:AV→List St→Nat→RR):RR:=f (λ_=>none) [] n λv new n=>setK ad i new λad=>J v ad n
def dr4 (f:OF) (anc:List Nat) (i:Nat) (fz:Fz) (ad:List St) (n:Nat) (J:AV→List St→Nat→RR):RR:=joinK (nth [] ad i) (adsOf ad anc) λown=>f fz own n λv new n=>clearK anc ad λad=>setK ad i new λad=>J v ad n
def apS (x:AV) (i:Nat) (mu:St) (ad:List St) (J:St→List St→RR):RR:=setApart x i mu ad J
abbrev RF:=Fz→Fm→St→(AV→RR)→RR
def rTmp (g:GT):RF:=λ_ t _ k=>fAV (g t) k
def rCell (v:AV) (agg:Bool) (m:Nat) (fz:Fz) (mu:St) (k:AV→RR):RR:=v.onOne zz λs=>s.onPtr zz λid off=>lookAll fz mu id zz λcs=>subK cs off m zz λc=>asRes agg c zz k
abbrev IF:=List AV→(Fm→RR)→RR
def init0:IF:=λl k=>List.rec (motive:=λ_=>(Fm→RR)→RR) (λk=>k (.mk (.one .un) (.one .un) (.one .un) (.one .un) (.one .un) (.one .un) (.one .un) (.one .un) t2U)) (λ_ _ _ _=>zz) l k
def init1:IF:=λl k=>List.rec (motive:=λ_=>(Fm→RR)→RR) (λ_=>zz) (λa0 l _ k=>List.rec (motive:=λ_=>(Fm→RR)→RR) (λk=>k (.mk a0 (.one .un) (.one .un) (.one .un) (.one .un) (.one .un) (.one .un) (.one .un) t2U)) (λ_ _ _ _=>zz) l k) l k
def init2:IF:=λl k=>List.rec (motive:=λ_=>(Fm→RR)→RR) (λ_=>zz) (λa0 l _ k=>List.rec (motive:=λ_=>(Fm→RR)→RR) (λ_=>zz) (λa1 l _ k=>List.rec (motive:=λ_=>(Fm→RR)→RR) (λk=>k (.mk a0 a1 (.one .un) (.one .un) (.one .un) (.one .un) (.one .un) (.one .un) t2U)) (λ_ _ _ _=>zz) l k) l k) l k
def init3:IF:=λl k=>List.rec (motive:=λ_=>(Fm→RR)→RR) (λ_=>zz) (λa0 l _ k=>List.rec (motive:=λ_=>(Fm→RR)→RR) (λ_=>zz) (λa1 l _ k=>List.rec (motive:=λ_=>(Fm→RR)→RR) (λ_=>zz) (λa2 l _ k=>List.rec (motive:=λ_=>(Fm→RR)→RR) (λk=>k (.mk a0 a1 a2 (.one .un) (.one .un) (.one .un) (.one .un) (.one .un) t2U)) (λ_ _ _ _=>zz) l k) l k) l k) l k
def init4:IF:=λl k=>List.rec (motive:=λ_=>(Fm→RR)→RR) (λ_=>zz) (λa0 l _ k=>List.rec (motive:=λ_=>(Fm→RR)→RR) (λ_=>zz) (λa1 l _ k=>List.rec (motive:=λ_=>(Fm→RR)→RR) (λ_=>zz) (λa2 l _ k=>List.rec (motive:=λ_=>(Fm→RR)→RR) (λ_=>zz) (λa3 l _ k=>List.rec (motive:=λ_=>(Fm→RR)→RR) (λk=>k (.mk a0 a1 a2 a3 (.one .un) (.one .un) (.one .un) (.one .un) t2U)) (λ_ _ _ _=>zz) l k) l k) l k) l k) l k
def init5:IF:=λl k=>List.rec (motive:=λ_=>(Fm→RR)→RR) (λ_=>zz) (λa0 l _ k=>List.rec (motive:=λ_=>(Fm→RR)→RR) (λ_=>zz) (λa1 l _ k=>List.rec (motive:=λ_=>(Fm→RR)→RR) (λ_=>zz) (λa2 l _ k=>List.rec (motive:=λ_=>(Fm→RR)→RR) (λ_=>zz) (λa3 l _ k=>List.rec (motive:=λ_=>(Fm→RR)→RR) (λ_=>zz) (λa4 l _ k=>List.rec (motive:=λ_=>(Fm→RR)→RR) (λk=>k (.mk a0 a1 a2 a3 a4 (.one .un) (.one .un) (.one .un) t2U)) (λ_ _ _ _=>zz) l k) l k) l k) l k) l k) l k
def init6:IF:=λl k=>List.rec (motive:=λ_=>(Fm→RR)→RR) (λ_=>zz) (λa0 l _ k=>List.rec (motive:=λ_=>(Fm→RR)→RR) (λ_=>zz) (λa1 l _ k=>List.rec (motive:=λ_=>(Fm→RR)→RR) (λ_=>zz) (λa2 l _ k=>List.rec (motive:=λ_=>(Fm→RR)→RR) (λ_=>zz) (λa3 l _ k=>List.rec (motive:=λ_=>(Fm→RR)→RR) (λ_=>zz) (λa4 l _ k=>List.rec (motive:=λ_=>(Fm→RR)→RR) (λ_=>zz) (λa5 l _ k=>List.rec (motive:=λ_=>(Fm→RR)→RR) (λk=>k (.mk a0 a1 a2 a3 a4 a5 (.one .un) (.one .un) t2U)) (λ_ _ _ _=>zz) l k) l k) l k) l k) l k) l k) l k
def init7:IF:=λl k=>List.rec (motive:=λ_=>(Fm→RR)→RR) (λ_=>zz) (λa0 l _ k=>List.rec (motive:=λ_=>(Fm→RR)→RR) (λ_=>zz) (λa1 l _ k=>List.rec (motive:=λ_=>(Fm→RR)→RR) (λ_=>zz) (λa2 l _ k=>List.rec (motive:=λ_=>(Fm→RR)→RR) (λ_=>zz) (λa3 l _ k=>List.rec (motive:=λ_=>(Fm→RR)→RR) (λ_=>zz) (λa4 l _ k=>List.rec (motive:=λ_=>(Fm→RR)→RR) (λ_=>zz) (λa5 l _ k=>List.rec (motive:=λ_=>(Fm→RR)→RR) (λ_=>zz) (λa6 l _ k=>List.rec (motive:=λ_=>(Fm→RR)→RR) (λk=>k (.mk a0 a1 a2 a3 a4 a5 a6 (.one .un) t2U)) (λ_ _ _ _=>zz) l k) l k) l k) l k) l k) l k) l k) l k
def init8:IF:=λl k=>List.rec (motive:=λ_=>(Fm→RR)→RR) (λ_=>zz) (λa0 l _ k=>List.rec (motive:=λ_=>(Fm→RR)→RR) (λ_=>zz) (λa1 l _ k=>List.rec (motive:=λ_=>(Fm→RR)→RR) (λ_=>zz) (λa2 l _ k=>List.rec (motive:=λ_=>(Fm→RR)→RR) (λ_=>zz) (λa3 l _ k=>List.rec (motive:=λ_=>(Fm→RR)→RR) (λ_=>zz) (λa4 l _ k=>List.rec (motive:=λ_=>(Fm→RR)→RR) (λ_=>zz) (λa5 l _ k=>List.rec (motive:=λ_=>(Fm→RR)→RR) (λ_=>zz) (λa6 l _ k=>List.rec (motive:=λ_=>(Fm→RR)→RR) (λ_=>zz) (λa7 l _ k=>List.rec (motive:=λ_=>(Fm→RR)→RR) (λk=>k (.mk a0 a1 a2 a3 a4 a5 a6 a7 t2U)) (λ_ _ _ _=>zz) l k) l k) l k) l k) l k) l k) l k) l k) l k
inductive HFunc where
 |mk (init:IF) (res:RF) (body:HC) (gc:Bool)
inductive HTree where
 |nil
 |node (k:Nat) (f:HFunc) (l r:HTree)
def HTree.find (t:HTree) (f:Nat):Option HFunc:=
 HTree.rec (motive:=λ_=>Nat→Option HFunc) (λ_=>none) (λk v _ _ ihl ihr f=>Bool.rec (motive:=λ_=>Option HFunc) (Bool.rec (motive:=λ_=>Option HFunc) (ihr f) (ihl f) (Nat.ble f k)) (some v) (Nat.beq f k)) t f
def ends (res:RF) (fz:Fz) (k:AV→St→Nat→RR):AExit→Fm→St→Nat→RR:=λe t mu n=>
 AExit.rec (motive:=λ_=>RR) (res fz t mu λv=>k v mu n) (λ_=>zz) (res fz t mu λv=>k v mu n) e
def gcK (gc:Bool) (n0:Nat) (k:KT RR):KT RR:=Bool.rec (motive:=λ_=>KT RR) k (λv mu n=>sweepK n0 v mu λmu=>k v mu n) gc
def hcall (orc:Orc RR) (K:Nat→Option (Contract RR)) (F:Nat→Option HFunc) (depth:Nat):CallT RR:=
 Nat.rec (motive:=λ_=>CallT RR) (λ_ _ _ _ _ _=>zz)
  (λ_ ih f args fz mu n k=>Option.rec (motive:=λ_=>RR)
   (Option.rec (motive:=λ_=>RR) zz (λfn=>HFunc.rec (motive:=λ_=>RR) (λinit res body gc=>init args λt=>body orc ih fz t mu n (ends res fz (gcK gc n k))) fn) (F f))
   (λc=>c args fz mu n k) (K f)) depth
end Go.Ev
namespace Go.Ev
theorem fAV_eq (v:AV) (k:AV→RR):fAV v k=k v:=by cases v<;>rfl
theorem keq_eq (a b:IntKind):keq a b=IntKind.eqb a b:=by cases a<;>cases b<;>rfl
theorem ltF_eq (a b:Int):ltF a b=ltI a b:=by cases a<;>cases b<;>rfl
theorem eqF_eq (a b:Int):eqF a b=eqI a b:=by cases a<;>cases b<;>rfl
theorem wrap_lim {kd:IntKind} {n:Nat} (h:n≤lim kd):kd.wrap (n:Int)=n:=by
 cases kd<;>simp only[lim]at h<;>simp[IntKind.wrap,IntKind.bits,IntKind.signed]<;>omega
theorem fitN_eq {s:Nat} {kd:IntKind} {k:Int→RR} {no:RR} (h:no=k (kd.wrap (s:Int))):fitN s kd no k=k (kd.wrap (s:Int)):=by
 cases s with
 |zero=>
  have:kd.wrap ((0:Nat):Int)=(0:Nat):=wrap_lim (Nat.zero_le _)
  rw[this];rfl
 |succ p=>
  show Bool.rec (motive:=λ_=>RR) no (k (Int.ofNat (Nat.succ p))) (Nat.ble (Nat.succ p) (lim kd))=_
  cases e:Nat.ble (Nat.succ p) (lim kd)with
  |false=>exact h
  |true=>rw[wrap_lim (Nat.le_of_ble_eq_true e)];rfl
theorem addF_eq {a b:Int} {kd:IntKind} {k:Int→RR} {no:RR} (h:no=k (kd.wrap (a+b))):addF a b kd no k=k (kd.wrap (a+b)):=by
 cases a with
 |negSucc m=>exact h
 |ofNat m=>cases b with
  |negSucc n=>exact h
  |ofNat n=>exact fitN_eq h
theorem subF_eq {a b:Int} {kd:IntKind} {k:Int→RR} {no:RR} (h:no=k (kd.wrap (a-b))):subF a b kd no k=k (kd.wrap (a-b)):=by
 cases a with
 |negSucc m=>exact h
 |ofNat m=>cases b with
  |negSucc n=>exact h
  |ofNat n=>
   show Bool.rec (motive:=λ_=>RR) no (fitN (Nat.sub m n) kd no k) (Nat.ble n m)=_
   cases e:Nat.ble n m with
   |false=>exact h
   |true=>
    have h1:=Nat.le_of_ble_eq_true e
    have h2:Int.ofNat m-Int.ofNat n=((m-n:Nat):Int):=by simp;omega
    rw[h2]at h⊢
    exact fitN_eq h
theorem p_add_eq (x y:AV) (orc:Orc RR) (mu:St) (n:Nat) (k:KT RR):(p_add x y orc fun v=>k v mu n)=oBin orc zz [] mu n .add (.c x) (.c y) k:=by
 cases x with
 |ag l=>rfl
 |tp l=>rfl
 |one s=>
  cases s with
  |int kd a=>
   cases y with
   |ag l=>rfl
   |tp l=>rfl
   |one u=>
    cases u with
    |int kd' b=>
     show Bool.rec (motive:=λ_=>RR) zz (addF a b kd (binI .add kd a b zz λr=>k (.one r) mu n) λx=>k (.one (.int kd x)) mu n) (keq kd kd')=cond (IntKind.eqb kd kd') (binI .add kd a b zz λr=>k (.one r) mu n) zz
     have e:binI .add kd a b zz (λr=>k (.one r) mu n)=k (.one (.int kd (kd.wrap (a+b)))) mu n:=by
      show wrapK kd (Int.add a b) (λx=>k (.one (.int kd x)) mu n)=_
      rw[wrapK_eq];rfl
     rw[keq_eq,addF_eq (k:=λx=>k (.one (.int kd x)) mu n) e,e]
     cases IntKind.eqb kd kd'<;>rfl
    |_=>rfl
  |sym kd i=>rfl
  |_=>
   cases y with
   |ag l=>rfl
   |tp l=>rfl
   |one u=>cases u<;>rfl
theorem p_sub_eq (x y:AV) (orc:Orc RR) (mu:St) (n:Nat) (k:KT RR):(p_sub x y orc fun v=>k v mu n)=oBin orc zz [] mu n .sub (.c x) (.c y) k:=by
 cases x with
 |ag l=>rfl
 |tp l=>rfl
 |one s=>
  cases s with
  |int kd a=>
   cases y with
   |ag l=>rfl
   |tp l=>rfl
   |one u=>
    cases u with
    |int kd' b=>
     show Bool.rec (motive:=λ_=>RR) zz (subF a b kd (binI .sub kd a b zz λr=>k (.one r) mu n) λx=>k (.one (.int kd x)) mu n) (keq kd kd')=cond (IntKind.eqb kd kd') (binI .sub kd a b zz λr=>k (.one r) mu n) zz
     have e:binI .sub kd a b zz (λr=>k (.one r) mu n)=k (.one (.int kd (kd.wrap (a-b)))) mu n:=by
      show wrapK kd (Int.sub a b) (λx=>k (.one (.int kd x)) mu n)=_
      rw[wrapK_eq];rfl
     rw[keq_eq,subF_eq (k:=λx=>k (.one (.int kd x)) mu n) e,e]
     cases IntKind.eqb kd kd'<;>rfl
    |_=>rfl
  |sym kd i=>rfl
  |_=>
   cases y with
   |ag l=>rfl
   |tp l=>rfl
   |one u=>cases u<;>rfl
theorem p_mul_eq (x y:AV) (orc:Orc RR) (mu:St) (n:Nat) (k:KT RR):(p_mul x y orc fun v=>k v mu n)=oBin orc zz [] mu n .mul (.c x) (.c y) k:=by
 cases x with
 |ag l=>rfl
 |tp l=>rfl
 |one s=>
  cases s with
  |int kd a=>
   cases y with
   |ag l=>rfl
   |tp l=>rfl
   |one u=>
    cases u with
    |int kd' b=>
     show Bool.rec (motive:=λ_=>RR) zz (binI .mul kd a b zz λr=>k (.one r) mu n) (keq kd kd')=cond (IntKind.eqb kd kd') (binI .mul kd a b zz λr=>k (.one r) mu n) zz
     rw[keq_eq]
     cases IntKind.eqb kd kd'<;>rfl
    |_=>rfl
  |sym kd i=>rfl
  |_=>
   cases y with
   |ag l=>rfl
   |tp l=>rfl
   |one u=>cases u<;>rfl
theorem p_quo_eq (x y:AV) (orc:Orc RR) (mu:St) (n:Nat) (k:KT RR):(p_quo x y orc fun v=>k v mu n)=oBin orc zz [] mu n .quo (.c x) (.c y) k:=by
 cases x with
 |ag l=>rfl
 |tp l=>rfl
 |one s=>
  cases s with
  |int kd a=>
   cases y with
   |ag l=>rfl
   |tp l=>rfl
   |one u=>
    cases u with
    |int kd' b=>
     show Bool.rec (motive:=λ_=>RR) zz (binI .quo kd a b zz λr=>k (.one r) mu n) (keq kd kd')=cond (IntKind.eqb kd kd') (binI .quo kd a b zz λr=>k (.one r) mu n) zz
     rw[keq_eq]
     cases IntKind.eqb kd kd'<;>rfl
    |_=>rfl
  |sym kd i=>rfl
  |_=>
   cases y with
   |ag l=>rfl
   |tp l=>rfl
   |one u=>cases u<;>rfl
theorem p_rem_eq (x y:AV) (orc:Orc RR) (mu:St) (n:Nat) (k:KT RR):(p_rem x y orc fun v=>k v mu n)=oBin orc zz [] mu n .rem (.c x) (.c y) k:=by
 cases x with
 |ag l=>rfl
 |tp l=>rfl
 |one s=>
  cases s with
  |int kd a=>
   cases y with
   |ag l=>rfl
   |tp l=>rfl
   |one u=>
    cases u with
    |int kd' b=>
     show Bool.rec (motive:=λ_=>RR) zz (binI .rem kd a b zz λr=>k (.one r) mu n) (keq kd kd')=cond (IntKind.eqb kd kd') (binI .rem kd a b zz λr=>k (.one r) mu n) zz
     rw[keq_eq]
     cases IntKind.eqb kd kd'<;>rfl
    |_=>rfl
  |sym kd i=>rfl
  |_=>
   cases y with
   |ag l=>rfl
   |tp l=>rfl
   |one u=>cases u<;>rfl
theorem p_and_eq (x y:AV) (orc:Orc RR) (mu:St) (n:Nat) (k:KT RR):(p_and x y orc fun v=>k v mu n)=oBin orc zz [] mu n .and (.c x) (.c y) k:=by
 cases x with
 |ag l=>rfl
 |tp l=>rfl
 |one s=>
  cases s with
  |int kd a=>
   cases y with
   |ag l=>rfl
   |tp l=>rfl
   |one u=>
    cases u with
    |int kd' b=>
     show Bool.rec (motive:=λ_=>RR) zz (binI .and kd a b zz λr=>k (.one r) mu n) (keq kd kd')=cond (IntKind.eqb kd kd') (binI .and kd a b zz λr=>k (.one r) mu n) zz
     rw[keq_eq]
     cases IntKind.eqb kd kd'<;>rfl
    |_=>rfl
  |sym kd i=>rfl
  |_=>
   cases y with
   |ag l=>rfl
   |tp l=>rfl
   |one u=>cases u<;>rfl
theorem p_or_eq (x y:AV) (orc:Orc RR) (mu:St) (n:Nat) (k:KT RR):(p_or x y orc fun v=>k v mu n)=oBin orc zz [] mu n .or (.c x) (.c y) k:=by
 cases x with
 |ag l=>rfl
 |tp l=>rfl
 |one s=>
  cases s with
  |int kd a=>
   cases y with
   |ag l=>rfl
   |tp l=>rfl
   |one u=>
    cases u with
    |int kd' b=>
     show Bool.rec (motive:=λ_=>RR) zz (binI .or kd a b zz λr=>k (.one r) mu n) (keq kd kd')=cond (IntKind.eqb kd kd') (binI .or kd a b zz λr=>k (.one r) mu n) zz
     rw[keq_eq]
     cases IntKind.eqb kd kd'<;>rfl
    |_=>rfl
  |sym kd i=>rfl
  |_=>
   cases y with
   |ag l=>rfl
   |tp l=>rfl
   |one u=>cases u<;>rfl
theorem p_xor_eq (x y:AV) (orc:Orc RR) (mu:St) (n:Nat) (k:KT RR):(p_xor x y orc fun v=>k v mu n)=oBin orc zz [] mu n .xor (.c x) (.c y) k:=by
 cases x with
 |ag l=>rfl
 |tp l=>rfl
 |one s=>
  cases s with
  |int kd a=>
   cases y with
   |ag l=>rfl
   |tp l=>rfl
   |one u=>
    cases u with
    |int kd' b=>
     show Bool.rec (motive:=λ_=>RR) zz (binI .xor kd a b zz λr=>k (.one r) mu n) (keq kd kd')=cond (IntKind.eqb kd kd') (binI .xor kd a b zz λr=>k (.one r) mu n) zz
     rw[keq_eq]
     cases IntKind.eqb kd kd'<;>rfl
    |_=>rfl
  |sym kd i=>rfl
  |_=>
   cases y with
   |ag l=>rfl
   |tp l=>rfl
   |one u=>cases u<;>rfl
theorem p_shl_eq (x y:AV) (orc:Orc RR) (mu:St) (n:Nat) (k:KT RR):(p_shl x y orc fun v=>k v mu n)=oBin orc zz [] mu n .shl (.c x) (.c y) k:=by
 cases x with
 |ag l=>rfl
 |tp l=>rfl
 |one s=>
  cases s with
  |int kd a=>
   cases y with
   |ag l=>rfl
   |tp l=>rfl
   |one u=>
    cases u with
    |int kd' b=>
     show Bool.rec (motive:=λ_=>RR) zz (binI .shl kd a b zz λr=>k (.one r) mu n) (keq kd kd')=cond (IntKind.eqb kd kd') (binI .shl kd a b zz λr=>k (.one r) mu n) zz
     rw[keq_eq]
     cases IntKind.eqb kd kd'<;>rfl
    |_=>rfl
  |sym kd i=>rfl
  |_=>
   cases y with
   |ag l=>rfl
   |tp l=>rfl
   |one u=>cases u<;>rfl
theorem p_shr_eq (x y:AV) (orc:Orc RR) (mu:St) (n:Nat) (k:KT RR):(p_shr x y orc fun v=>k v mu n)=oBin orc zz [] mu n .shr (.c x) (.c y) k:=by
 cases x with
 |ag l=>rfl
 |tp l=>rfl
 |one s=>
  cases s with
  |int kd a=>
   cases y with
   |ag l=>rfl
   |tp l=>rfl
   |one u=>
    cases u with
    |int kd' b=>
     show Bool.rec (motive:=λ_=>RR) zz (binI .shr kd a b zz λr=>k (.one r) mu n) (keq kd kd')=cond (IntKind.eqb kd kd') (binI .shr kd a b zz λr=>k (.one r) mu n) zz
     rw[keq_eq]
     cases IntKind.eqb kd kd'<;>rfl
    |_=>rfl
  |sym kd i=>rfl
  |_=>
   cases y with
   |ag l=>rfl
   |tp l=>rfl
   |one u=>cases u<;>rfl
theorem p_andNot_eq (x y:AV) (orc:Orc RR) (mu:St) (n:Nat) (k:KT RR):(p_andNot x y orc fun v=>k v mu n)=oBin orc zz [] mu n .andNot (.c x) (.c y) k:=by
 cases x with
 |ag l=>rfl
 |tp l=>rfl
 |one s=>
  cases s with
  |int kd a=>
   cases y with
   |ag l=>rfl
   |tp l=>rfl
   |one u=>
    cases u with
    |int kd' b=>
     show Bool.rec (motive:=λ_=>RR) zz (binI .andNot kd a b zz λr=>k (.one r) mu n) (keq kd kd')=cond (IntKind.eqb kd kd') (binI .andNot kd a b zz λr=>k (.one r) mu n) zz
     rw[keq_eq]
     cases IntKind.eqb kd kd'<;>rfl
    |_=>rfl
  |sym kd i=>rfl
  |_=>
   cases y with
   |ag l=>rfl
   |tp l=>rfl
   |one u=>cases u<;>rfl
theorem p_eql_eq (x y:AV) (orc:Orc RR) (mu:St) (n:Nat) (k:KT RR):(p_eql x y orc fun v=>k v mu n)=oBin orc zz [] mu n .eql (.c x) (.c y) k:=by
 cases x with
 |ag l=>rfl
 |tp l=>rfl
 |one s=>
  cases s with
  |int kd a=>
   cases y with
   |ag l=>rfl
   |tp l=>rfl
   |one u=>
    cases u with
    |int kd' b=>
     show Bool.rec (motive:=λ_=>RR) zz (yesF (eqF a b) λv=>k v mu n) (keq kd kd')=cond (IntKind.eqb kd kd') (fB (eqI a b) λr=>k (.one (.bool r)) mu n) zz
     rw[keq_eq,eqF_eq]
     cases IntKind.eqb kd kd'<;>cases eqI a b<;>rfl
    |_=>rfl
  |sym kd i=>rfl
  |_=>
   cases y with
   |ag l=>rfl
   |tp l=>rfl
   |one u=>cases u<;>rfl
theorem p_neq_eq (x y:AV) (orc:Orc RR) (mu:St) (n:Nat) (k:KT RR):(p_neq x y orc fun v=>k v mu n)=oBin orc zz [] mu n .neq (.c x) (.c y) k:=by
 cases x with
 |ag l=>rfl
 |tp l=>rfl
 |one s=>
  cases s with
  |int kd a=>
   cases y with
   |ag l=>rfl
   |tp l=>rfl
   |one u=>
    cases u with
    |int kd' b=>
     show Bool.rec (motive:=λ_=>RR) zz (notF (eqF a b) λv=>k v mu n) (keq kd kd')=cond (IntKind.eqb kd kd') (fB (eqI a b) λr=>k (.one (.bool (not r))) mu n) zz
     rw[keq_eq,eqF_eq]
     cases IntKind.eqb kd kd'<;>cases eqI a b<;>rfl
    |_=>rfl
  |sym kd i=>rfl
  |_=>
   cases y with
   |ag l=>rfl
   |tp l=>rfl
   |one u=>cases u<;>rfl
theorem p_lss_eq (x y:AV) (orc:Orc RR) (mu:St) (n:Nat) (k:KT RR):(p_lss x y orc fun v=>k v mu n)=oBin orc zz [] mu n .lss (.c x) (.c y) k:=by
 cases x with
 |ag l=>rfl
 |tp l=>rfl
 |one s=>
  cases s with
  |int kd a=>
   cases y with
   |ag l=>rfl
   |tp l=>rfl
   |one u=>
    cases u with
    |int kd' b=>
     show Bool.rec (motive:=λ_=>RR) zz (yesF (ltF a b) λv=>k v mu n) (keq kd kd')=cond (IntKind.eqb kd kd') (fB (ltI a b) λr=>k (.one (.bool r)) mu n) zz
     rw[keq_eq,ltF_eq]
     cases IntKind.eqb kd kd'<;>cases ltI a b<;>rfl
    |_=>rfl
  |sym kd i=>rfl
  |_=>
   cases y with
   |ag l=>rfl
   |tp l=>rfl
   |one u=>cases u<;>rfl
theorem p_leq_eq (x y:AV) (orc:Orc RR) (mu:St) (n:Nat) (k:KT RR):(p_leq x y orc fun v=>k v mu n)=oBin orc zz [] mu n .leq (.c x) (.c y) k:=by
 cases x with
 |ag l=>rfl
 |tp l=>rfl
 |one s=>
  cases s with
  |int kd a=>
   cases y with
   |ag l=>rfl
   |tp l=>rfl
   |one u=>
    cases u with
    |int kd' b=>
     show Bool.rec (motive:=λ_=>RR) zz (notF (ltF b a) λv=>k v mu n) (keq kd kd')=cond (IntKind.eqb kd kd') (fB (ltI b a) λr=>k (.one (.bool (not r))) mu n) zz
     rw[keq_eq,ltF_eq]
     cases IntKind.eqb kd kd'<;>cases ltI b a<;>rfl
    |_=>rfl
  |sym kd i=>rfl
  |_=>
   cases y with
   |ag l=>rfl
   |tp l=>rfl
   |one u=>cases u<;>rfl
theorem p_gtr_eq (x y:AV) (orc:Orc RR) (mu:St) (n:Nat) (k:KT RR):(p_gtr x y orc fun v=>k v mu n)=oBin orc zz [] mu n .gtr (.c x) (.c y) k:=by
 cases x with
 |ag l=>rfl
 |tp l=>rfl
 |one s=>
  cases s with
  |int kd a=>
   cases y with
   |ag l=>rfl
   |tp l=>rfl
   |one u=>
    cases u with
    |int kd' b=>
     show Bool.rec (motive:=λ_=>RR) zz (yesF (ltF b a) λv=>k v mu n) (keq kd kd')=cond (IntKind.eqb kd kd') (fB (ltI b a) λr=>k (.one (.bool r)) mu n) zz
     rw[keq_eq,ltF_eq]
     cases IntKind.eqb kd kd'<;>cases ltI b a<;>rfl
    |_=>rfl
  |sym kd i=>rfl
  |_=>
   cases y with
   |ag l=>rfl
   |tp l=>rfl
   |one u=>cases u<;>rfl
theorem p_geq_eq (x y:AV) (orc:Orc RR) (mu:St) (n:Nat) (k:KT RR):(p_geq x y orc fun v=>k v mu n)=oBin orc zz [] mu n .geq (.c x) (.c y) k:=by
 cases x with
 |ag l=>rfl
 |tp l=>rfl
 |one s=>
  cases s with
  |int kd a=>
   cases y with
   |ag l=>rfl
   |tp l=>rfl
   |one u=>
    cases u with
    |int kd' b=>
     show Bool.rec (motive:=λ_=>RR) zz (notF (ltF a b) λv=>k v mu n) (keq kd kd')=cond (IntKind.eqb kd kd') (fB (ltI a b) λr=>k (.one (.bool (not r))) mu n) zz
     rw[keq_eq,ltF_eq]
     cases IntKind.eqb kd kd'<;>cases ltI a b<;>rfl
    |_=>rfl
  |sym kd i=>rfl
  |_=>
   cases y with
   |ag l=>rfl
   |tp l=>rfl
   |one u=>cases u<;>rfl
theorem plainF_eq (k:List SV→RR) (cs:List SV):plainF k cs=plainK zz k cs:=by
 cases cs with
 |nil=>rfl
 |cons h t=>cases h<;>rfl
theorem lookF_eq (mu:St) (fz:Fz) (id:Nat) (k:List SV→RR):lookF mu fz id k=lookAll fz mu id zz k:=by
 induction mu with
 |nil=>
  show Option.rec (motive:=λ_=>RR) zz (plainF k) (fz id)=Option.rec (motive:=λ_=>RR) zz (plainK zz k) (fz id)
  cases fz id with
  |none=>rfl
  |some c=>exact plainF_eq _ _
 |cons p t ih=>
  obtain⟨i,cs⟩:=p
  show Bool.rec (motive:=λ_=>RR) (lookF t fz id k) (plainF k cs) (Nat.beq i id)=Option.rec (motive:=λ_=>RR) (Option.rec (motive:=λ_=>RR) zz (plainK zz k) (fz id)) (plainK zz k) (cond (Nat.beq i id) (some cs) (look t id))
  cases Nat.beq i id with
  |true=>exact plainF_eq _ _
  |false=>exact ih
theorem withF_eq (mu:St) (fz:Fz):withF mu fz=with' mu fz:=by
 funext id
 induction mu with
 |nil=>rfl
 |cons p t ih=>
  obtain⟨i,cs⟩:=p
  show Bool.rec (motive:=λ_=>Option (List SV)) (withF t fz id) (some cs) (Nat.beq i id)=Option.rec (motive:=λ_=>Option (List SV)) (fz id) some (cond (Nat.beq i id) (some cs) (look t id))
  cases Nat.beq i id with
  |true=>rfl
  |false=>exact ih
theorem nthF_eq (cs:List SV) (off:Nat) (k:AV→RR):nthF cs off (λs=>k (.one s))=subK cs off 1 zz λr=>asRes false r zz k:=by
 induction cs generalizing off with
 |nil=>cases off<;>rfl
 |cons h t ih=>
  cases off with
  |zero=>cases t<;>rfl
  |succ o=>exact ih o
theorem set1F_eq (cs:List SV) (off:Nat) (s:SV) (k:List SV→RR):set1F cs off s k=overK cs off [s] zz k:=by
 induction cs generalizing off k with
 |nil=>cases off<;>rfl
 |cons h t ih=>
  cases off with
  |zero=>rfl
  |succ o=>exact ih o λr=>k (h::r)
theorem put1F_eq (mu:St) (id off:Nat) (s:SV) (k:St→RR):put1F mu id off s k=onLook mu id zz λcs=>overK cs off [s] zz λcs=>putK mu id cs k:=by
 induction mu generalizing k with
 |nil=>rfl
 |cons p t ih=>
  obtain⟨i,cs⟩:=p
  show Bool.rec (motive:=λ_=>RR) (put1F t id off s λr=>k ((i,cs)::r)) (plainF (λcs=>set1F cs off s λcs=>k ((i,cs)::t)) cs) (Nat.beq i id)=
   Option.rec (motive:=λ_=>RR) zz (plainK zz λc=>overK c off [s] zz λc=>cond (Nat.beq i id) (k ((i,c)::t)) (putK t id c λr=>k ((i,cs)::r))) (cond (Nat.beq i id) (some cs) (look t id))
  cases Nat.beq i id with
  |true=>
   show plainF (λcs=>set1F cs off s λcs=>k ((i,cs)::t)) cs=plainK zz (λc=>overK c off [s] zz λc=>k ((i,c)::t)) cs
   rw[plainF_eq]
   congr 1
   funext c
   exact set1F_eq _ _ _ _
  |false=>exact ih λr=>k ((i,cs)::r)
theorem lenF_eq (l:List SV) (m:Nat):lenF l m=Nat.beq l.length m:=by
 induction l generalizing m with
 |nil=>cases m<;>rfl
 |cons h t ih=>cases m with
  |zero=>rfl
  |succ m=>exact ih m
theorem takeK_all (l:List SV) (z:RR) (k:List SV→RR):takeK l l.length z k=k l:=by
 induction l generalizing k with
 |nil=>rfl
 |cons h t ih=>exact ih λr=>k (h::r)
theorem subK_all (l:List SV) (z:RR) (k:List SV→RR):subK l 0 l.length z k=k l:=by
 cases l with
 |nil=>rfl
 |cons h t=>exact takeK_all _ _ _
theorem fitF_yes {l:List SV} {m:Nat} {cs:List SV} (h:fitF l m cs=true):l.length=m∧cs.length=m∧knownAll l=true:=by
 induction l generalizing m cs with
 |nil=>
  cases cs with
  |nil=>have:=Nat.eq_of_beq_eq_true (show Nat.beq m 0=true from h);subst this;exact⟨rfl,rfl,rfl⟩
  |cons _ _=>cases h
 |cons v t ih=>
  cases m with
  |zero=>cases h
  |succ m=>cases cs with
   |nil=>cases h
   |cons c r=>
    have h':Bool.rec (motive:=λ_=>Bool) false (fitF t m r) v.known=true:=h
    cases hv:v.known with
    |false=>rw[hv]at h';cases h'
    |true=>
     rw[hv]at h'
     obtain⟨h1,h2,h3⟩:=ih h'
     refine⟨by simp[h1],by simp[h2],?_⟩
     show cond v.known (knownAll t) false=true
     rw[hv];exact h3
theorem headK_all (l cs:List SV) (z:RR) (k:List SV→RR) (h:l.length=cs.length):headK l cs z k=k l:=by
 induction l generalizing cs k with
 |nil=>cases cs with
  |nil=>rfl
  |cons _ _=>cases h
 |cons v t ih=>cases cs with
  |nil=>cases h
  |cons c r=>exact ih r (λx=>k (v::x)) (by simpa using h)
theorem overK_all (l cs:List SV) (z:RR) (k:List SV→RR) (h:l.length=cs.length):overK cs 0 l z k=k l:=by
 cases cs with
 |nil=>exact headK_all _ _ _ _ h
 |cons c r=>exact headK_all _ _ _ _ h
theorem pPick_eq (c a b:AV) (mu:St) (n:Nat) (k:KT RR):(pPick c a b λv=>k v mu n)=oPick zz [] mu n (.c c) (.c a) (.c b) k:=by
 cases c with
 |ag l=>rfl
 |tp l=>rfl
 |one s=>
  cases s with
  |bool t=>
   show Bool.rec (motive:=λ_=>RR) (fAV b λv=>k v mu n) (fAV a λv=>k v mu n) t=cond t (k a mu n) (k b mu n)
   rw[fAV_eq,fAV_eq];cases t<;>rfl
  |_=>rfl
theorem pLoad1_eq (x:AV) (fz:Fz) (mu:St) (n:Nat) (k:KT RR):(pLoad1 x fz mu λv=>k v mu n)=oLoad zz fz [] mu n false 1 (.c x) k:=by
 cases x with
 |ag l=>rfl
 |tp l=>rfl
 |one s=>
  cases s with
  |optr id off=>
   show(lookF mu fz id λcs=>nthF cs off λs=>k (.one s) mu n)=lookAll fz mu id zz λcs=>subK cs off 1 zz λr=>asRes false r zz λv=>k v mu n
   rw[lookF_eq]
   congr 1
   funext cs
   exact nthF_eq cs off λv=>k v mu n
  |_=>rfl
theorem pLoad_eq (agg:Bool) (m:Nat) (x:AV) (fz:Fz) (mu:St) (n:Nat) (k:KT RR):(pLoad agg m x fz mu λv=>k v mu n)=oLoad zz fz [] mu n agg m (.c x) k:=by
 cases x with
 |ag l=>rfl
 |tp l=>rfl
 |one s=>
  cases s with
  |optr id off=>exact lookF_eq _ _ _ _
  |_=>rfl
theorem pLoadA_eq (m:Nat) (x:AV) (fz:Fz) (mu:St) (n:Nat) (k:KT RR):(pLoadA m x fz mu fun v=>k v mu n)=oLoad zz fz [] mu n true m (.c x) k:=by
 cases x with
 |ag l=>rfl
 |tp l=>rfl
 |one s=>
  cases s with
  |optr id off=>
   show(lookF mu fz id λcs=>Nat.rec (motive:=λ_=>RR) (Bool.rec (motive:=λ_=>RR) (subK cs 0 m zz λr=>k (.ag r) mu n) (k (.ag cs) mu n) (lenF cs m)) (λo _=>subK cs (Nat.succ o) m zz λr=>k (.ag r) mu n) off)=
    lookAll fz mu id zz λcs=>subK cs off m zz λr=>k (.ag r) mu n
   rw[lookF_eq]
   congr 1
   funext cs
   cases off with
   |succ o=>rfl
   |zero=>
    show Bool.rec (motive:=λ_=>RR) (subK cs 0 m zz λr=>k (.ag r) mu n) (k (.ag cs) mu n) (lenF cs m)=subK cs 0 m zz λr=>k (.ag r) mu n
    rw[lenF_eq]
    cases e:Nat.beq cs.length m with
    |false=>rfl
    |true=>
     have:=Nat.eq_of_beq_eq_true e
     subst this
     exact(subK_all cs zz λr=>k (.ag r) mu n).symm
  |_=>rfl
theorem qStore1_eq (x v:AV) (mu:St) (n:Nat) (k:KT RR):(qStore1 x v mu fun mu=>k noVal mu n)=oStore zz [] mu n 1 (.c x) (.c v) k:=by
 cases x with
 |ag l=>rfl
 |tp l=>rfl
 |one s=>
  cases s with
  |optr id off=>
   cases v with
   |ag l=>rfl
   |tp l=>rfl
   |one s=>
    show Bool.rec (motive:=λ_=>RR) zz (put1F mu id off s λmu=>k noVal mu n) s.known=cond (cond s.known true false) (onLook mu id zz λcs=>overK cs off [s] zz λcs=>putK mu id cs λmu=>k noVal mu n) zz
    rw[put1F_eq]
    cases s.known<;>rfl
  |_=>rfl
theorem putF_eq (mu:St) (id m:Nat) (l:List SV) (k:St→RR) (no:RR) (hno:no=lenK l 0 fun c=>cond (Nat.beq c m) (cond (knownAll l) (onLook mu id zz fun cs=>overK cs 0 l zz fun cs=>putK mu id cs k) zz) zz):putF mu id m l no k=no:=by
 have key:∀(mu:St) (k:St→RR),putF mu id m l no k=no∨(l.length=m∧knownAll l=true∧putF mu id m l no k=onLook mu id zz λcs=>overK cs 0 l zz λcs=>putK mu id cs k):=by
  intro mu
  induction mu with
  |nil=>exactλk=>.inl rfl
  |cons p t ih=>
   intro k
   obtain⟨i,cs⟩:=p
   have e1:putF ((i,cs)::t) id m l no k=Bool.rec (motive:=λ_=>RR) (putF t id m l no λr=>k ((i,cs)::r)) (Bool.rec (motive:=λ_=>RR) no (k ((i,l)::t)) (Bool.rec (motive:=λ_=>Bool) (fitF l m cs) false (mkd cs))) (Nat.beq i id):=rfl
   have e3:(onLook ((i,cs)::t) id zz λc=>overK c 0 l zz λc=>putK ((i,cs)::t) id c k)=Option.rec (motive:=λ_=>RR) zz (plainK zz λc=>overK c 0 l zz λc=>cond (Nat.beq i id) (k ((i,c)::t)) (putK t id c λr=>k ((i,cs)::r))) (cond (Nat.beq i id) (some cs) (look t id)):=rfl
   rw[e1,e3]
   cases e:Nat.beq i id with
   |false=>exact ih λr=>k ((i,cs)::r)
   |true=>
    cases hmk:mkd cs with
    |true=>exact .inl rfl
    |false=>
    cases ef:fitF l m cs with
    |false=>exact .inl rfl
    |true=>
     obtain⟨h1,h2,h3⟩:=fitF_yes ef
     refine .inr ⟨h1,h3,?_⟩
     show k ((i,l)::t)=cond (mkd cs) zz (overK cs 0 l zz λc=>k ((i,c)::t))
     rw[hmk,overK_all _ _ _ _ (h1.trans h2.symm)]
     rfl
 rcases key mu k with h|⟨h1,h2,h3⟩
 ·exact h
 ·rw[h3,hno,lenK_eq,Nat.zero_add,h1,h2]
  have:Nat.beq m m=true:=Nat.beq_refl m
  rw[this];rfl
theorem qStore_eq (m:Nat) (x v:AV) (mu:St) (n:Nat) (k:KT RR):(qStore m x v mu fun mu=>k noVal mu n)=oStore zz [] mu n m (.c x) (.c v) k:=by
 cases x with
 |ag l=>rfl
 |tp l=>rfl
 |one s=>
  cases s with
  |optr id off=>
   cases v with
   |one s=>rfl
   |tp l=>rfl
   |ag l=>cases off with
    |succ o=>rfl
    |zero=>exact putF_eq mu id m l (λmu=>k noVal mu n) _ rfl
  |_=>rfl
theorem pNilc_eq (x:AV) (mu:St) (n:Nat) (k:KT RR):(pNilc x λv=>k v mu n)=oNilc zz [] mu n (.c x) k:=by
 cases x with
 |ag l=>rfl
 |tp l=>rfl
 |one s=>cases s<;>rfl
theorem pNot_eq (x:AV) (mu:St) (n:Nat) (k:KT RR):(pNot x λv=>k v mu n)=oNot zz [] mu n (.c x) k:=by
 cases x with
 |ag l=>rfl
 |tp l=>rfl
 |one s=>
  cases s with
  |bool b=>cases b<;>rfl
  |_=>rfl
theorem pFaddr_eq (off:Nat) (x:AV) (mu:St) (n:Nat) (k:KT RR):(pFaddr off x λv=>k v mu n)=oFaddr zz [] mu n off (.c x) k:=by
 cases x with
 |ag l=>rfl
 |tp l=>rfl
 |one s=>cases s<;>rfl
theorem pLen_eq (x:AV) (mu:St) (n:Nat) (k:KT RR):(pLen x λv=>k v mu n)=oLen zz [] mu n false (.c x) k:=by
 cases x with
 |ag l=>rfl
 |tp l=>rfl
 |one s=>cases s<;>rfl
theorem pLenS_eq (x:AV) (mu:St) (n:Nat) (k:KT RR):(pLenS x λv=>k v mu n)=oLen zz [] mu n true (.c x) k:=by
 cases x with
 |ag l=>rfl
 |tp l=>rfl
 |one s=>cases s<;>rfl
theorem pExtr_eq (x:AV) (i:Nat) (mu:St) (n:Nat) (k:KT RR):(pExtr x i λv=>k v mu n)=oExtr zz [] mu n (.c x) i k:=by cases x<;>rfl
theorem pIaddr_eq (s:Nat) (x i:AV) (mu:St) (n:Nat) (k:KT RR):(pIaddr s x i fun v=>k v mu n)=oIaddr zz [] mu n s (.c x) (.c i) k:=by
 cases i with
 |ag l=>rfl
 |tp l=>rfl
 |one v=>
  cases v with
  |int kd i=>
   cases i with
   |negSucc j=>
    cases x with
    |ag l=>rfl
    |tp l=>rfl
    |one v=>
     cases v with
     |osl id off len cap s'=>
      show zz=cond (Nat.beq s' s&&not (ltI (Int.negSucc j) 0)&&Nat.blt (Int.negSucc j).toNat len) _ zz
      have:ltI (Int.negSucc j) 0=true:=rfl
      rw[this]
      cases Nat.beq s' s<;>rfl
     |_=>rfl
   |ofNat j=>
    cases x with
    |ag l=>rfl
    |tp l=>rfl
    |one v=>
     cases v with
     |osl id off len cap s'=>
      show Bool.rec (motive:=λ_=>RR) zz (Bool.rec (motive:=λ_=>RR) zz (fN (Nat.add off (Nat.mul j s)) λo=>k (.one (.optr id o)) mu n) (Nat.ble (Nat.succ j) len)) (Nat.beq s' s)=
       cond (Nat.beq s' s&&not (ltI (Int.ofNat j) 0)&&Nat.blt (Int.ofNat j).toNat len) (fN (Nat.add off (Nat.mul (Int.ofNat j).toNat s)) λo=>k (.one (.optr id o)) mu n) zz
      have h0:ltI (Int.ofNat j) 0=false:=by rw[ltI_eq];simp
      have h1:(Int.ofNat j).toNat=j:=rfl
      have h2:Nat.blt j len=Nat.ble (Nat.succ j) len:=rfl
      rw[h0,h1,h2]
      cases Nat.beq s' s<;>cases Nat.ble (Nat.succ j) len<;>rfl
     |_=>rfl
  |_=>rfl
def AOp.mapOd (f:Od→Od):AOp→AOp
 |.mv x=>.mv (f x)
 |.pick c a b=>.pick (f c) (f a) (f b)
 |.alloc z=>.alloc z
 |.box x=>.box (f x)
 |.build z ps=>.build z (ps.map λp=>(p.1,p.2.1,f p.2.2))
 |.bslice s l z ps=>.bslice s l z (ps.map λp=>(p.1,p.2.1,f p.2.2))
 |.load a n x=>.load a n (f x)
 |.store n x v=>.store n (f x) (f v)
 |.nilc x=>.nilc (f x)
 |.bin o x y=>.bin o (f x) (f y)
 |.shift l x y=>.shift l (f x) (f y)
 |.sbin o x y=>.sbin o (f x) (f y)
 |.eqb o x y=>.eqb o (f x) (f y)
 |.eqn s o x y=>.eqn s o (f x) (f y)
 |.eqs m o x y=>.eqs m o (f x) (f y)
 |.not x=>.not (f x)
 |.neg x=>.neg (f x)
 |.conv k x=>.conv k (f x)
 |.mkfn g cs=>.mkfn g (cs.map f)
 |.mkslice s b z l c=>.mkslice s b z (f l) (f c)
 |.slc st s x lo hi mx=>.slc st s (f x) (lo.map f) (hi.map f) (mx.map f)
 |.faddr o x=>.faddr o (f x)
 |.fld o a n x=>.fld o a n (f x)
 |.iaddr s x i=>.iaddr s (f x) (f i)
 |.iaddrA s l x i=>.iaddrA s l (f x) (f i)
 |.idx x i=>.idx (f x) (f i)
 |.extr x i=>.extr (f x) i
 |.len s x=>.len s (f x)
 |.cap x=>.cap (f x)
 |.append s b x y=>.append s b (f x) (f y)
 |.copy s x y=>.copy s (f x) (f y)
 |.max x xs=>.max (f x) (xs.map f)
 |.min x xs=>.min (f x) (xs.map f)
 |.call g as=>.call (f g) (as.map f)
 |.ext e xs=>.ext e (xs.map f)
def AOp.forced (op:AOp):List Od:=AOp.rec (motive:=λ_=>List Od)
 (λ_=>[]) (λ_ _ _=>[]) (λ_=>[]) (λ_=>[]) (λ_ _=>[]) (λ_ _ _ _=>[]) (λ_ _ _=>[]) (λ_ _ _=>[]) (λ_=>[]) (λ_ _ _=>[])
 (λ_ x y=>[x,y]) (λ_ _ _=>[]) (λ_ _ _=>[]) (λ_ _ _ _=>[]) (λ_ _ _ _=>[]) (λ_=>[]) (λx=>[x]) (λ_ _=>[]) (λ_ _=>[])
 (λ_ _ _ l c=>[l,c]) (λ_ _ _ lo hi mx=>lo.toList++(hi.toList++mx.toList)) (λ_ _=>[]) (λ_ _ _ _=>[]) (λ_ _ i=>[i]) (λ_ _ _ i=>[i]) (λ_ i=>[i])
 (λ_ _=>[]) (λ_ _=>[]) (λ_=>[]) (λ_ _ _ _=>[]) (λ_ _ _=>[]) (λ_ _=>[]) (λ_ _=>[]) (λ_ _=>[]) (λ_ _=>[]) op
def AOp.ods:AOp→Option (List Od)
 |.build _ ps=>some (ps.map λp=>p.2.2)
 |.bslice _ _ _ ps=>some (ps.map λp=>p.2.2)
 |.shift _ x y=>some [x,y]
 |.sbin _ x y=>some [x,y]
 |.eqb _ x y=>some [x,y]
 |.eqn _ _ x y=>some [x,y]
 |.eqs _ _ x y=>some [x,y]
 |.neg x=>some [x]
 |.conv _ x=>some [x]
 |.mkfn _ cs=>some cs
 |.mkslice _ _ _ l c=>some [l,c]
 |.slc _ _ x lo hi mx=>some (x::(lo.toList++(hi.toList++mx.toList)))
 |.fld _ _ _ x=>some [x]
 |.iaddrA _ _ x i=>some [x,i]
 |.idx x i=>some [x,i]
 |.cap x=>some [x]
 |.append _ _ x y=>some [x,y]
 |.copy _ x y=>some [x,y]
 |.max x xs=>some (x::xs)
 |.min x xs=>some (x::xs)
 |.call g as=>some (g::as)
 |.ext _ xs=>some xs
 |_=>none
theorem mapOd_congr {op:AOp} {l:List Od} (h:op.ods=some l) {f g:Od→Od} (hfg:∀x∈l,f x=g x):op.mapOd f=op.mapOd g:=by
 cases op<;>simp only[AOp.ods,Option.some.injEq]at h<;>(try cases h)<;>simp only[AOp.mapOd]
 case build z ps=>congr 1;exact List.map_congr_left λp hp=>by rw[hfg p.2.2 (List.mem_map.2 ⟨p,hp,rfl⟩)]
 case bslice s l z ps=>congr 1;exact List.map_congr_left λp hp=>by rw[hfg p.2.2 (List.mem_map.2 ⟨p,hp,rfl⟩)]
 case mkfn g=>congr 1;exact List.map_congr_left λp hp=>hfg p hp
 case slc st s x lo hi mx=>
  rw[hfg x (by simp)]
  congr 1
  ·cases lo with
   |none=>rfl
   |some y=>simp[hfg y (by simp)]
  ·cases hi with
   |none=>rfl
   |some y=>simp[hfg y (by simp)]
  ·cases mx with
   |none=>rfl
   |some y=>simp[hfg y (by simp)]
 case max x xs=>rw[hfg x (by simp)];congr 1;exact List.map_congr_left λp hp=>hfg p (by simp[hp])
 case min x xs=>rw[hfg x (by simp)];congr 1;exact List.map_congr_left λp hp=>hfg p (by simp[hp])
 case call x xs=>rw[hfg x (by simp)];congr 1;exact List.map_congr_left λp hp=>hfg p (by simp[hp])
 case ext x=>congr 1;exact List.map_congr_left λp hp=>hfg p hp
 all_goals first|(rw[hfg _ (List.mem_cons_self ..),hfg _ (List.mem_cons_of_mem _ (List.mem_cons_self ..))];done)|(rw[hfg _ (List.mem_cons_self ..)];done)
theorem fill_c (tm:TM) (ps:List (Nat×Nat×Od)) (cs:List SV) (k:List SV→RR):fill zz [] (ps.map λp=>(p.1,p.2.1,Od.c (ev tm p.2.2))) cs k=fill zz tm ps cs k:=by
 induction ps generalizing cs with
 |nil=>rfl
 |cons p ps ih=>
  show((ev tm p.2.2).onCells zz λvs=>lenK vs 0 λm=>cond (Nat.beq m p.2.1) (cond (knownAll vs) (overK cs p.1 vs zz λcs=>fill zz [] (ps.map λp=>(p.1,p.2.1,Od.c (ev tm p.2.2))) cs k) zz) zz)=
   ((ev tm p.2.2).onCells zz λvs=>lenK vs 0 λm=>cond (Nat.beq m p.2.1) (cond (knownAll vs) (overK cs p.1 vs zz λcs=>fill zz tm ps cs k) zz) zz)
  have:(λcs=>fill zz [] (ps.map λp=>(p.1,p.2.1,Od.c (ev tm p.2.2))) cs k)=λcs=>fill zz tm ps cs k:=funext λcs=>ih cs
  rw[this]
theorem capsK_c (tm:TM) (l:List Od) (k:List (Nat×Nat)→RR):capsK zz [] (l.map λx=>Od.c (ev tm x)) k=capsK zz tm l k:=by
 induction l generalizing k with
 |nil=>rfl
 |cons x l ih=>
  show((ev tm x).onOne zz λs=>s.onPtr zz λid off=>capsK zz [] (l.map λx=>Od.c (ev tm x)) λr=>k ((id,off)::r))=((ev tm x).onOne zz λs=>s.onPtr zz λid off=>capsK zz tm l λr=>k ((id,off)::r))
  simp only[ih]
theorem evs_c (tm:TM) (l:List Od):evs [] (l.map λx=>Od.c (ev tm x))=evs tm l:=by
 unfold evs;rw[List.map_map];rfl
theorem argsK_c (tm:TM) (l:List Od) (c:List AV) (k:List AV→RR):argsK [] (l.map λx=>Od.c (ev tm x)) c k=argsK tm l c k:=by
 rw[argsK_eq,argsK_eq,List.map_map];rfl
end Go.Ev
namespace Go.Ev
def tall:Unit:=(λ(_:Orc RR→CallT RR→Fz→St→Nat→Bool→AOp→KT RR→RR) (_:Orc RR→(Nat→Option (Contract RR))→(Nat→Option HFunc)→Nat→CallT RR) (_:OF→List Nat→Nat→Fz→St→List St→Nat→(AV→List St→Nat→RR)→RR) (_:List St→St→(St→RR)→RR) (_:ST)=>()) qOth hcall dr1 joinAll se0_0
inductive EV where
 |pl (v:AV)
 |fr (v:AV)
def EV.val (x:EV):AV:=match x with
 |.pl v=>v
 |.fr v=>v
abbrev EnvQ:=Nat→EV
def updEn (e:EnvQ) (t:Nat) (x:EV):EnvQ:=λi=>Bool.rec (motive:=λ_=>EV) (e i) x (Nat.beq i t)
def updD (e:EnvQ) (dst:Option (Nat×Nat)) (v:AV):EnvQ:=Option.rec (motive:=λ_=>EnvQ) e (λp=>Prod.rec (motive:=λ_=>EnvQ) (λq r=>updEn e (Nat.add (Nat.mul 16 q) r) (.pl v)) p) dst
def evE (e:EnvQ) (x:Od):EV:=Od.rec (motive:=λ_=>EV) (λq r=>e (Nat.add (Nat.mul 16 q) r)) (λv=>.pl v) x
def evV (e:EnvQ) (x:Od):AV:=EV.rec (motive:=λ_=>AV) (λv=>v) (λv=>v) (evE e x)
def atV (e:EnvQ) (q r:Nat):AV:=EV.rec (motive:=λ_=>AV) (λv=>v) (λv=>v) (e (Nat.add (Nat.mul 16 q) r))
def fP (x:EV) (k:AV→RR):RR:=(λ(_:Unit)=>EV.rec (motive:=λ_=>RR) (λv=>k v) (λv=>fAV v k) x) tall
theorem evV_eq (e:EnvQ) (x:Od):evV e x=(evE e x).val:=by unfold evV;cases evE e x<;>rfl
theorem atV_eq (e:EnvQ) (q r:Nat):atV e q r=(e (16*q+r)).val:=by
 unfold atV
 show EV.rec (motive:=λ_=>AV) (λv=>v) (λv=>v) (e (16*q+r))=_
 cases e (16*q+r)<;>rfl
def pBin (o:BinOp):AV→AV→Orc RR→(AV→RR)→RR:=(λ(_:Unit)=>BinOp.rec (motive:=λ_=>AV→AV→Orc RR→(AV→RR)→RR)
 p_add p_sub p_mul p_quo p_rem p_and p_or p_xor p_shl p_shr p_andNot p_eql p_neq p_lss p_leq p_gtr p_geq o) tall
section
variable (orc:Orc RR) (call:CallT RR)
def argsE (e:EnvQ) (l:List Od):(List AV→RR)→RR:=(λ(_:Unit)=>
 List.rec (motive:=λ_=>(List AV→RR)→RR) (λk=>k []) (λx _ ih k=>fP (evE e x) λv=>ih λr=>k (v::r)) l) tall
def forceL (l:List Od):EnvQ→(EnvQ→RR)→RR:=(fun(_:Unit)=>
 List.rec (motive:=λ_=>EnvQ→(EnvQ→RR)→RR) (λe k=>k e)
  (λx _ ih e k=>Od.rec (motive:=λ_=>RR) (λq r=>forceV (atV e q r) orc λv=>ih (updEn e (Nat.add (Nat.mul 16 q) r) (.pl v)) k) (λ_=>ih e k) x) l) tall
def othE (fz:Fz) (ro:Bool) (op:AOp) (e:EnvQ) (mu:St) (n:Nat) (k:KT RR):RR:=(λ(_:Unit)=>
 forceL orc op.forced e λe=>qOth orc call fz mu n ro (op.mapOd λx=>.c (evV e x)) k) tall
def loadE (fz:Fz) (agg:Bool) (m:Nat) (x:AV) (mu:St) (k:AV→RR):RR:=(λ(_:Unit)=>Bool.rec (motive:=λ_=>RR)
 (Nat.rec (motive:=λ_=>RR) (pLoad false 0 x fz mu k) (λi _=>Nat.rec (motive:=λ_=>RR) (pLoad1 x fz mu k) (λj _=>pLoad false (Nat.succ (Nat.succ j)) x fz mu k) i) m) (pLoadA m x fz mu k) agg) tall
def storeE (m:Nat) (x v:AV) (mu:St) (k:St→RR):RR:=(λ(_:Unit)=>
 Nat.rec (motive:=λ_=>RR) (qStore 0 x v mu k) (λi _=>Nat.rec (motive:=λ_=>RR) (qStore1 x v mu k) (λj _=>qStore (Nat.succ (Nat.succ j)) x v mu k) i) m) tall
def iaddrE (s:Nat) (x i:Od) (e:EnvQ) (k:AV→RR):RR:=(λ(_:Unit)=>Od.rec (motive:=λ_=>RR)
 (λq r=>forceV (atV e q r) orc λv=>pIaddr s (evV (updEn e (Nat.add (Nat.mul 16 q) r) (.pl v)) x) v k)
 (λv=>pIaddr s (evV e x) v k) i) tall
def fnOf (f:Od):Option Nat:=Od.rec (motive:=λ_=>Option Nat) (λ_ _=>none) (λv=>AV.rec (motive:=λ_=>Option Nat)
 (λs=>SV.rec (motive:=λ_=>Option Nat) none (λ_ _=>none) (λ_=>none) (λ_ _=>none) none none none (λ_ _=>none) (λ_ _ _ _ _=>none) none none (λg cs=>List.rec (motive:=λ_=>Option Nat) (some g) (λ_ _ _=>none) cs) (λ_ _=>none) none (λ_=>none) none (λ_=>none) s) (λ_=>none) (λ_=>none) v) f
def eop (fz:Fz) (ro:Bool) (op:AOp) (e:EnvQ) (mu:St) (n:Nat) (k:KT RR):RR:=(fun(_:Unit)=>AOp.rec (motive:=fun _=>RR)
 (λx=>fP (evE e x) λv=>k v mu n)
 (λc a b=>pPick (evV e c) (evV e a) (evV e b) λv=>k v mu n)
 (λz=>qAlloc z mu n k)
 (λx=>qBox (evV e x) mu n k)
 (λz ps=>othE orc call fz ro (.build z ps) e mu n k)
 (λs l z ps=>othE orc call fz ro (.bslice s l z ps) e mu n k)
 (λagg m x=>loadE fz agg m (evV e x) mu λv=>k v mu n)
 (λm x v=>storeE m (evV e x) (evV e v) mu λmu=>k noVal mu n)
 (λx=>pNilc (evV e x) λv=>k v mu n)
 (λo x y=>pBin o (evV e x) (evV e y) orc λv=>k v mu n)
 (λb x y=>othE orc call fz ro (.shift b x y) e mu n k)
 (λo x y=>othE orc call fz ro (.sbin o x y) e mu n k)
 (λo x y=>othE orc call fz ro (.eqb o x y) e mu n k)
 (λs o x y=>othE orc call fz ro (.eqn s o x y) e mu n k)
 (λm o x y=>othE orc call fz ro (.eqs m o x y) e mu n k)
 (λx=>pNot (evV e x) λv=>k v mu n)
 (λx=>othE orc call fz ro (.neg x) e mu n k)
 (λkd x=>othE orc call fz ro (.conv kd x) e mu n k)
 (λg cs=>othE orc call fz ro (.mkfn g cs) e mu n k)
 (λs b z l c=>othE orc call fz ro (.mkslice s b z l c) e mu n k)
 (λst s x lo hi mx=>othE orc call fz ro (.slc st s x lo hi mx) e mu n k)
 (λo x=>pFaddr o (evV e x) λv=>k v mu n)
 (λo a m x=>othE orc call fz ro (.fld o a m x) e mu n k)
 (λs x i=>iaddrE orc s x i e λv=>k v mu n)
 (λs l x i=>othE orc call fz ro (.iaddrA s l x i) e mu n k)
 (λx i=>othE orc call fz ro (.idx x i) e mu n k)
 (λx i=>pExtr (evV e x) i λv=>k v mu n)
 (λs x=>Bool.rec (motive:=λ_=>RR) (pLen (evV e x) λv=>k v mu n) (pLenS (evV e x) λv=>k v mu n) s)
 (λx=>othE orc call fz ro (.cap x) e mu n k)
 (λs b x y=>othE orc call fz ro (.append s b x y) e mu n k)
 (λs x y=>othE orc call fz ro (.copy s x y) e mu n k)
 (λx xs=>othE orc call fz ro (.max x xs) e mu n k)
 (λx xs=>othE orc call fz ro (.min x xs) e mu n k)
 (λf as=>Option.rec (motive:=λ_=>RR) (othE orc call fz ro (.call f as) e mu n k)
  (λg=>argsE e as λvs=>Bool.rec (motive:=λ_=>RR) (call g vs fz mu n k) (qCallR orc call g vs fz mu n k) ro) (fnOf f))
 (λx xs=>othE orc call fz ro (.ext x xs) e mu n k) op) tall
end
def AOp.odsA:AOp→List Od
 |.mv x=>[x]
 |.pick c a b=>[c,a,b]
 |.alloc _=>[]
 |.box x=>[x]
 |.load _ _ x=>[x]
 |.store _ x v=>[x,v]
 |.nilc x=>[x]
 |.bin _ x y=>[x,y]
 |.not x=>[x]
 |.faddr _ x=>[x]
 |.iaddr _ x i=>[x,i]
 |.extr x _=>[x]
 |.len _ x=>[x]
 |op=>(op.ods).getD []
def okT (nt:Nat):Od→Bool
 |.t q r=>Nat.ble (r+1) 16&&Nat.ble (16*q+r+1) nt
 |.c _=>true
def okOp (nt:Nat) (op:AOp):Bool:=op.odsA.all (okT nt)
def EnvR (nt:Nat) (e:EnvQ) (tm:TM):Prop:=∀q r,r<16→16*q+r<nt→inR tm q r∧get tm q r=(e (16*q+r)).val
section
variable {nt:Nat} {e:EnvQ} {tm:TM} {orc:Orc RR} {call:CallT RR} {fz:Fz}
theorem okT_t {q r:Nat} (h:okT nt (.t q r)=true):r<16∧16*q+r<nt:=by
 simp only[okT,Bool.and_eq_true]at h
 exact⟨Nat.le_of_ble_eq_true h.1,Nat.le_of_ble_eq_true h.2⟩
theorem evE_eq (h:EnvR nt e tm) {x:Od} (hx:okT nt x=true):evV e x=ev tm x:=by
 rw[evV_eq]
 cases x with
 |c v=>rfl
 |t q r=>exact(h q r (okT_t hx).1 (okT_t hx).2).2.symm
theorem upd_get (e:EnvQ) (t i:Nat) (x:EV):updEn e t x i=if i=t then x else e i:=by
 show Bool.rec (motive:=λ_=>EV) (e i) x (Nat.beq i t)=_
 by_cases hi:i=t
 ·subst hi;rw[Nat.beq_refl];simp
 ·have:Nat.beq i t=false:=by
   cases hb:Nat.beq i t with
   |false=>rfl
   |true=>exact(hi (Nat.eq_of_beq_eq_true hb)).elim
  rw[this];simp[hi]
theorem EnvR.upd (h:EnvR nt e tm) {q r:Nat} (h1:r<16) (h2:16*q+r<nt) (v:AV):EnvR nt (updEn e (16*q+r) (.pl v)) (setT tm q r v):=by
 intro q' r' hr hn
 refine⟨inR_setT_iff.2 (h q' r' hr hn).1,?_⟩
 rw[upd_get]
 by_cases he:16*q'+r'=16*q+r
 ·have e1:q'=q:=by omega
  have e2:r'=r:=by omega
  subst e1;subst e2
  rcases get_setT_same (tm:=tm) (q:=q') (r:=r') (v:=v)with⟨_,h3⟩|⟨h3,_⟩
  ·rw[h3];simp[EV.val]
  ·exact(h3 (h q' r' hr hn).1).elim
 ·rw[get_setT_other (by omega),if_neg he]
  exact(h q' r' hr hn).2
theorem EnvR.same (h:EnvR nt e tm) {t:Nat} {v:AV} (hv:v=(e t).val):EnvR nt (updEn e t (.pl v)) tm:=by
 intro q' r' hr hn
 refine⟨(h q' r' hr hn).1,?_⟩
 rw[upd_get]
 split
 ·rename_i he;rw[(h q' r' hr hn).2,he];exact hv.symm
 ·exact(h q' r' hr hn).2
theorem fP_eq (x:EV) (k:AV→RR):fP x k=k x.val:=by
 cases x with
 |pl v=>rfl
 |fr v=>exact fAV_eq _ _
theorem argsE_eq (h:EnvR nt e tm) {l:List Od} (hl:l.all (okT nt)=true) {k:List AV→RR}:argsE e l k=k (l.map (ev tm)):=by
 induction l generalizing k with
 |nil=>rfl
 |cons x l ih=>
  simp only[List.all_cons,Bool.and_eq_true]at hl
  show(fP (evE e x) λv=>argsE e l λr=>k (v::r))=_
  rw[fP_eq,ih hl.2,←evV_eq,evE_eq h hl.1,List.map_cons]
theorem force1_eq (h:EnvR nt e tm) {q r:Nat} (h1:r<16) (h2:16*q+r<nt) {k:EnvQ→RR} {K:TM→RR} (hk:∀e tm,EnvR nt e tm→k e=K tm):
 (forceV (atV e q r) orc λv=>k (updEn e (16*q+r) (.pl v)))=forceK orc tm (.t q r) K:=by
 show _=AV.rec (motive:=λ_=>RR) (λs=>s.onSym (K tm) λkd i=>orc.force i λv=>fI v λv=>setTm tm q r (.one (.int kd v)) K) (λ_=>K tm) (λ_=>K tm) (get tm q r)
 rw[(h q r h1 h2).2,atV_eq]
 have hs:∀v,v=(e (16*q+r)).val→k (updEn e (16*q+r) (.pl v))=K tm:=λv hv=>hk _ _ (h.same hv)
 cases hv:(e (16*q+r)).val with
 |ag l=>exact hs _ hv.symm
 |tp l=>exact hs _ hv.symm
 |one s=>
  cases s with
  |sym kd i=>
   show(orc.force i λv=>fI v λv=>k (updEn e (16*q+r) (.pl (.one (.int kd v)))))=orc.force i λv=>fI v λv=>setTm tm q r (.one (.int kd v)) K
   congr 1
   funext v
   rw[fI_eq,fI_eq,setTm_eq]
   exact hk _ _ (h.upd h1 h2 _)
  |_=>exact hs _ hv.symm
theorem forceL_cons {l:List Od} (h:EnvR nt e tm) {x:Od} (hx:okT nt x=true) {k:EnvQ→RR} {K:TM→RR} (hk:∀e tm,EnvR nt e tm→forceL orc l e k=K tm):forceL orc (x::l) e k=forceK orc tm x K:=by
 cases x with
 |c v=>exact hk _ _ h
 |t q r=>exact force1_eq h (okT_t hx).1 (okT_t hx).2 hk
theorem othE_eq (h:EnvR nt e tm) {op:AOp} {l:List Od} (ho:op.ods=some l) (hok:l.all (okT nt)=true) {ro:Bool} {mu:St} {n:Nat} {k:KT RR}:othE orc call fz ro op e mu n k=aop orc zz call fz tm mu n ro op k:=by
 have hall:=List.all_eq_true.1 hok
 have hm:∀e tm,EnvR nt e tm→(op.mapOd λx=>.c (evV e x))=op.mapOd λx=>.c (ev tm x):=λe tm h=>mapOd_congr ho λx hx=>by rw[evE_eq h (hall x hx)]
 show forceL orc op.forced e (λe=>aop orc zz call fz [] mu n ro (op.mapOd λx=>.c (evV e x)) k)=_
 have hb:∀e tm,EnvR nt e tm→aop orc zz call fz [] mu n ro (op.mapOd λx=>.c (evV e x)) k=aop orc zz call fz [] mu n ro (op.mapOd λx=>.c (ev tm x)) k:=λe tm h=>by rw[hm e tm h]
 cases op with
 |mv x=>cases ho
 |pick a b c=>cases ho
 |alloc z=>cases ho
 |box x=>cases ho
 |load a m x=>cases ho
 |store m x v=>cases ho
 |nilc x=>cases ho
 |bin o x y=>cases ho
 |not x=>cases ho
 |faddr o x=>cases ho
 |iaddr s x i=>cases ho
 |extr x i=>cases ho
 |len s x=>cases ho
 |build z ps=>exact(hb _ _ h).trans (fill_c _ _ _ _)
 |bslice s len z ps=>
  refine(hb _ _ h).trans ?_
  show(copyK (rep z len) λcs=>fill zz [] (ps.map λp=>(p.1,p.2.1,Od.c (ev tm p.2.2))) cs λcs=>fN (Nat.succ n) λm=>k (.one (.osl n 0 len len s)) ((n,cs)::mu) m)=copyK (rep z len) λcs=>fill zz tm ps cs λcs=>fN (Nat.succ n) λm=>k (.one (.osl n 0 len len s)) ((n,cs)::mu) m
  simp only[fill_c]
 |shift b x y=>
  cases ho
  refine forceL_cons (l:=[y]) (K:=λtm=>forceK orc tm y λtm=>oShift zz tm mu n b x y k) h (hall x (by simp)) λe tm h=>?_
  exact forceL_cons (l:=[]) (K:=λtm=>oShift zz tm mu n b x y k) h (hall y (by simp)) λe tm h=>hb _ _ h
 |sbin o x y=>exact hb _ _ h
 |eqb o x y=>exact hb _ _ h
 |eqn s o x y=>exact hb _ _ h
 |eqs m o x y=>exact hb _ _ h
 |neg x=>
  cases ho
  exact forceL_cons (l:=[]) (K:=λtm=>oNeg zz tm mu n x k) h (hall x (by simp)) λe tm h=>hb _ _ h
 |conv kd x=>exact hb _ _ h
 |mkfn g cs=>exact(hb _ _ h).trans (capsK_c _ _ _)
 |mkslice s b z x y=>
  cases ho
  refine forceL_cons (l:=[y]) (K:=λtm=>forceK orc tm y λtm=>oMkslice zz tm mu n s b z x y k) h (hall x (by simp)) λe tm h=>?_
  exact forceL_cons (l:=[]) (K:=λtm=>oMkslice zz tm mu n s b z x y k) h (hall y (by simp)) λe tm h=>hb _ _ h
 |slc st s x lo hi mx=>
  cases ho
  have key:∀e tm,EnvR nt e tm→aop orc zz call fz [] mu n ro ((AOp.slc st s x lo hi mx).mapOd λx=>.c (evV e x)) k=oSlc zz tm mu n st s x lo hi mx k:=by
   intro e tm h
   rw[hb _ _ h]
   cases lo<;>cases hi<;>cases mx<;>rfl
  have h3:∀e tm,EnvR nt e tm→forceL orc mx.toList e (λe=>aop orc zz call fz [] mu n ro ((AOp.slc st s x lo hi mx).mapOd λx=>.c (evV e x)) k)=forceO orc tm mx λtm=>oSlc zz tm mu n st s x lo hi mx k:=by
   intro e tm h
   cases mx with
   |none=>exact key _ _ h
   |some y=>exact forceL_cons (l:=[]) (K:=λtm=>oSlc zz tm mu n st s x lo hi (some y) k) h (hall y (by simp)) λe tm h=>key _ _ h
  have h2:∀e tm,EnvR nt e tm→forceL orc (hi.toList++mx.toList) e (λe=>aop orc zz call fz [] mu n ro ((AOp.slc st s x lo hi mx).mapOd λx=>.c (evV e x)) k)=forceO orc tm hi λtm=>forceO orc tm mx λtm=>oSlc zz tm mu n st s x lo hi mx k:=by
   intro e tm h
   cases hi with
   |none=>exact h3 _ _ h
   |some y=>exact forceL_cons (l:=mx.toList) (K:=λtm=>forceO orc tm mx λtm=>oSlc zz tm mu n st s x lo (some y) mx k) h (hall y (by simp)) λe tm h=>h3 _ _ h
  show forceL orc (lo.toList++(hi.toList++mx.toList)) e _=forceO orc tm lo λtm=>forceO orc tm hi λtm=>forceO orc tm mx λtm=>oSlc zz tm mu n st s x lo hi mx k
  cases lo with
  |none=>exact h2 _ _ h
  |some y=>exact forceL_cons (l:=hi.toList++mx.toList) (K:=λtm=>forceO orc tm hi λtm=>forceO orc tm mx λtm=>oSlc zz tm mu n st s x (some y) hi mx k) h (hall y (by simp)) λe tm h=>h2 _ _ h
 |fld o a m x=>exact hb _ _ h
 |iaddrA s len x i=>
  cases ho
  exact forceL_cons (l:=[]) (K:=λtm=>oIaddrA zz tm mu n s len x i k) h (hall i (by simp)) λe tm h=>hb _ _ h
 |idx x i=>
  cases ho
  exact forceL_cons (l:=[]) (K:=λtm=>oIdx zz tm mu n x i k) h (hall i (by simp)) λe tm h=>hb _ _ h
 |cap x=>exact hb _ _ h
 |append s b x y=>exact hb _ _ h
 |copy s x y=>exact hb _ _ h
 |max x xs=>
  refine(hb _ _ h).trans ?_
  show((ev tm x).onOne zz λs=>maxK orc zz (evs [] (xs.map λx=>Od.c (ev tm x))) s λr=>k (.one r) mu n)=(ev tm x).onOne zz λs=>maxK orc zz (evs tm xs) s λr=>k (.one r) mu n
  rw[evs_c]
 |min x xs=>
  refine(hb _ _ h).trans ?_
  show((ev tm x).onOne zz λs=>minK orc zz (evs [] (xs.map λx=>Od.c (ev tm x))) s λr=>k (.one r) mu n)=(ev tm x).onOne zz λs=>minK orc zz (evs tm xs) s λr=>k (.one r) mu n
  rw[evs_c]
 |call g as=>
  refine(hb _ _ h).trans ?_
  show((ev tm g).onOne zz λs=>s.onFn zz λg cs=>argsK [] (as.map λx=>Od.c (ev tm x)) (capVals cs) λvs=>cond ro (call g vs (with' mu fz) [] n λv new n'=>sweepG orc.sw n v new λnew=>joinK new mu λmu=>k v mu n') (call g vs fz mu n k))=
   (ev tm g).onOne zz λs=>s.onFn zz λg cs=>argsK tm as (capVals cs) λvs=>cond ro (call g vs (with' mu fz) [] n λv new n'=>sweepG orc.sw n v new λnew=>joinK new mu λmu=>k v mu n') (call g vs fz mu n k)
  simp only[argsK_c]
 |ext x xs=>
  refine(hb _ _ h).trans ?_
  show xop orc zz fz mu n x ((xs.map λx=>Od.c (ev tm x)).map (ev [])) k=xop orc zz fz mu n x (xs.map (ev tm)) k
  rw[List.map_map];rfl
theorem loadE_eq (agg:Bool) (m:Nat) (x:AV) (mu:St) (n:Nat) (k:KT RR):(loadE fz agg m x mu λv=>k v mu n)=oLoad zz fz [] mu n agg m (.c x) k:=by
 cases agg with
 |true=>exact pLoadA_eq _ _ _ _ _ _
 |false=>match m with
  |0=>exact pLoad_eq _ _ _ _ _ _ _
  |1=>exact pLoad1_eq _ _ _ _ _
  |m+2=>exact pLoad_eq _ _ _ _ _ _ _
theorem storeE_eq (m:Nat) (x v:AV) (mu:St) (n:Nat) (k:KT RR):(storeE m x v mu λmu=>k noVal mu n)=oStore zz [] mu n m (.c x) (.c v) k:=by
 match m with
 |0=>exact qStore_eq _ _ _ _ _ _
 |1=>exact qStore1_eq _ _ _ _ _
 |m+2=>exact qStore_eq _ _ _ _ _ _
theorem pBin_eq (o:BinOp) (x y:AV) (mu:St) (n:Nat) (k:KT RR):(pBin o x y orc λv=>k v mu n)=oBin orc zz [] mu n o (.c x) (.c y) k:=by
 cases o
 ·exact p_add_eq _ _ _ _ _ _
 ·exact p_sub_eq _ _ _ _ _ _
 ·exact p_mul_eq _ _ _ _ _ _
 ·exact p_quo_eq _ _ _ _ _ _
 ·exact p_rem_eq _ _ _ _ _ _
 ·exact p_and_eq _ _ _ _ _ _
 ·exact p_or_eq _ _ _ _ _ _
 ·exact p_xor_eq _ _ _ _ _ _
 ·exact p_shl_eq _ _ _ _ _ _
 ·exact p_shr_eq _ _ _ _ _ _
 ·exact p_andNot_eq _ _ _ _ _ _
 ·exact p_eql_eq _ _ _ _ _ _
 ·exact p_neq_eq _ _ _ _ _ _
 ·exact p_lss_eq _ _ _ _ _ _
 ·exact p_leq_eq _ _ _ _ _ _
 ·exact p_gtr_eq _ _ _ _ _ _
 ·exact p_geq_eq _ _ _ _ _ _
theorem fnOf_some {f:Od} {g:Nat} (h:fnOf f=some g):f=.c (.one (.fn g [])):=by
 cases f with
 |t q r=>cases h
 |c v=>cases v with
  |ag l=>cases h
  |tp l=>cases h
  |one s=>cases s with
   |fn g' cs=>cases cs with
    |nil=>cases h;rfl
    |cons _ _=>cases h
   |_=>cases h
theorem eop_eq (h:EnvR nt e tm) {op:AOp} (hok:okOp nt op=true) {ro:Bool} {mu:St} {n:Nat} {k:KT RR}:eop orc call fz ro op e mu n k=aop orc zz call fz tm mu n ro op k:=by
 have hall:=List.all_eq_true.1 hok
 have hE:∀x∈op.odsA,evV e x=ev tm x:=λx hx=>evE_eq h (hall x hx)
 cases op with
 |mv x=>show(fP (evE e x) λv=>k v mu n)=k (ev tm x) mu n;rw[fP_eq,←evV_eq,hE x (by simp[AOp.odsA])]
 |pick c a b=>
  show(pPick (evV e c) (evV e a) (evV e b) λv=>k v mu n)=_
  rw[hE c (by simp[AOp.odsA]),hE a (by simp[AOp.odsA]),hE b (by simp[AOp.odsA]),pPick_eq];rfl
 |alloc z=>rfl
 |box x=>show oBox zz [] mu n (.c (evV e x)) k=_;rw[hE x (by simp[AOp.odsA])];rfl
 |load a m x=>show(loadE fz a m (evV e x) mu λv=>k v mu n)=_;rw[hE x (by simp[AOp.odsA]),loadE_eq];rfl
 |store m x v=>show(storeE m (evV e x) (evV e v) mu λmu=>k noVal mu n)=_;rw[hE x (by simp[AOp.odsA]),hE v (by simp[AOp.odsA]),storeE_eq];rfl
 |nilc x=>show(pNilc (evV e x) λv=>k v mu n)=_;rw[hE x (by simp[AOp.odsA]),pNilc_eq];rfl
 |bin o x y=>show(pBin o (evV e x) (evV e y) orc λv=>k v mu n)=_;rw[hE x (by simp[AOp.odsA]),hE y (by simp[AOp.odsA]),pBin_eq];rfl
 |not x=>show(pNot (evV e x) λv=>k v mu n)=_;rw[hE x (by simp[AOp.odsA]),pNot_eq];rfl
 |faddr o x=>show(pFaddr o (evV e x) λv=>k v mu n)=_;rw[hE x (by simp[AOp.odsA]),pFaddr_eq];rfl
 |iaddr s x i=>
  have hx:=hall x (by simp[AOp.odsA])
  have hi:=hall i (by simp[AOp.odsA])
  cases i with
  |c v=>show(pIaddr s (evV e x) v λv=>k v mu n)=_;rw[hE x (by simp[AOp.odsA]),pIaddr_eq];rfl
  |t q r=>
   show(forceV (atV e q r) orc λv=>pIaddr s (evV (updEn e (16*q+r) (.pl v)) x) v λv=>k v mu n)=forceK orc tm (.t q r) λtm=>oIaddr zz tm mu n s x (.t q r) k
   have:=force1_eq (orc:=orc) h (okT_t hi).1 (okT_t hi).2 (k:=λe=>pIaddr s (evV e x) (e (16*q+r)).val λv=>k v mu n) (K:=λtm=>oIaddr zz tm mu n s x (.t q r) k) (λe tm h=>by
    rw[pIaddr_eq,evE_eq h hx]
    have:=evE_eq h hi
    rw[evV_eq]at this
    rw[show(e (16*q+r)).val=ev tm (.t q r)from this]
    rfl)
   rw[←this]
   congr 1
   funext v
   have e1:(updEn e (16*q+r) (.pl v) (16*q+r)).val=v:=by rw[upd_get];simp[EV.val]
   simp only[e1]
 |extr x i=>show(pExtr (evV e x) i λv=>k v mu n)=_;rw[hE x (by simp[AOp.odsA]),pExtr_eq];rfl
 |len s x=>
  cases s with
  |true=>show(pLenS (evV e x) λv=>k v mu n)=_;rw[hE x (by simp[AOp.odsA]),pLenS_eq];rfl
  |false=>show(pLen (evV e x) λv=>k v mu n)=_;rw[hE x (by simp[AOp.odsA]),pLen_eq];rfl
 |call f as=>
  cases hf:fnOf f with
  |none=>
   show Option.rec (motive:=λ_=>RR) (othE orc call fz ro (.call f as) e mu n k) (λg=>argsE e as λvs=>Bool.rec (motive:=λ_=>RR) (call g vs fz mu n k) (qCallR orc call g vs fz mu n k) ro) (fnOf f)=_
   rw[hf]
   exact othE_eq (op:=.call f as) h rfl hok
  |some g=>
   have hf':=fnOf_some hf
   subst hf'
   have:eop orc call fz ro (.call (.c (.one (.fn g []))) as) e mu n k=argsE e as λvs=>Bool.rec (motive:=λ_=>RR) (call g vs fz mu n k) (qCallR orc call g vs fz mu n k) ro:=rfl
   rw[this,argsE_eq h (List.all_eq_true.2 λx hx=>hall x (by simp[AOp.odsA,AOp.ods,hx]))]
   show _=argsK tm as [] λvs=>cond ro (call g vs (with' mu fz) [] n λv new n'=>sweepG orc.sw n v new λnew=>joinK new mu λmu=>k v mu n') (call g vs fz mu n k)
   rw[argsK_eq,List.append_nil]
   cases ro with
   |false=>rfl
   |true=>unfold qCallR;rw[withF_eq];rfl
 |build z ps=>exact othE_eq (op:=.build z ps) h rfl hok
 |bslice s l z ps=>exact othE_eq (op:=.bslice s l z ps) h rfl hok
 |shift b x y=>exact othE_eq (op:=.shift b x y) h rfl hok
 |sbin o x y=>exact othE_eq (op:=.sbin o x y) h rfl hok
 |eqb o x y=>exact othE_eq (op:=.eqb o x y) h rfl hok
 |eqn s o x y=>exact othE_eq (op:=.eqn s o x y) h rfl hok
 |eqs m o x y=>exact othE_eq (op:=.eqs m o x y) h rfl hok
 |neg x=>exact othE_eq (op:=.neg x) h rfl hok
 |conv kd x=>exact othE_eq (op:=.conv kd x) h rfl hok
 |mkfn g cs=>exact othE_eq (op:=.mkfn g cs) h rfl hok
 |mkslice s b z x y=>exact othE_eq (op:=.mkslice s b z x y) h rfl hok
 |slc st s x lo hi mx=>exact othE_eq (op:=.slc st s x lo hi mx) h rfl hok
 |fld o a m x=>exact othE_eq (op:=.fld o a m x) h rfl hok
 |iaddrA s len x i=>exact othE_eq (op:=.iaddrA s len x i) h rfl hok
 |idx x i=>exact othE_eq (op:=.idx x i) h rfl hok
 |cap x=>exact othE_eq (op:=.cap x) h rfl hok
 |append s b x y=>exact othE_eq (op:=.append s b x y) h rfl hok
 |copy s x y=>exact othE_eq (op:=.copy s x y) h rfl hok
 |max x xs=>exact othE_eq (op:=.max x xs) h rfl hok
 |min x xs=>exact othE_eq (op:=.min x xs) h rfl hok
 |ext x xs=>exact othE_eq (op:=.ext x xs) h rfl hok
end
end Go.Ev
