/-
  QuorumGets: part 7 of what the proof is made of.
-/
import Derived.Test.YtnnjlnkoomeadaaQuorumGetsP6
import Derived.Test.YtnnjlnkoomeadaaProg
import Derived.KernelRfl
import Derived.Test.YtnnjlnkoomeadaaRows
set_option linter.unusedVariables false
set_option linter.unusedSimpArgs false
open Int renaming reduceEq → zA,reduceNe → zB,reduceLT → zC,reduceLE → zD,reduceNeg → zE,reduceAdd → zF,reduceSub → zG,reduceToNat → zH
open Nat renaming reduceEqDiff → zI,reduceAdd → zJ,reduceMul → zK,reduceSub → zL,reduceLeDiff → zM,reduceBEq → zN,reduceLT → zO,reduceBneDiff → zP
namespace Go.Proofs.Ytnnjlnkoomeadaa.Pv
open Go.Ev Go.Ev.Rp
set_option maxRecDepth 100000
set_option maxHeartbeats 4000000
set_option linter.unusedSimpArgs false
set_option linter.unusedVariables false
set_option linter.unusedSectionVars false
def codeOk (h : Bool) (x : Int) (hi : Int) : Bool:=h && decide (0 ≤ x) && decide (x ≤ hi) || !h && decide (x = 0)
def serOk (h : Bool) (t : Tx) : Bool:=h && nameB t || !h && decide (t.l = 0)
def batOk (h : Bool) (l : List Pt) : Bool:=h && batchB l || !h && decide (l.length = 0)
def lgOk (h : Bool) (l : Lg) : Bool:=h && lgB l || !h && emptyB l
def txtOk (h : Bool) (t : Tx) : Bool:=h && decide (t.l ≤ 65536) || !h && decide (t.l = 0)
def fromB (k x : Int) : Bool:=if k = 0 ∨ k = 2 then isClient x else isNode x
def toB (k x : Int) : Bool:=if k = 1 ∨ k = 3 then isClient x else isNode x
theorem runK_append {P : Program} {fz : Fz} (a b : List AOper) : ∀ (tm : TM) (mu : St) (n : Nat) (k : TM → St → Nat → Prop),runK pOrc False (CP P) fz (a ++ b) tm mu n k = runK pOrc False (CP P) fz a tm mu n λtm mu n=>runK pOrc False (CP P) fz b tm mu n k:=by
  induction a with
  | nil=>intros; rfl
  | cons o a ih =>
    intro tm mu n k
    show stepK pOrc False (CP P) fz o tm mu n (λtm mu n=>runK pOrc False (CP P) fz (a ++ b) tm mu n k) = stepK pOrc False (CP P) fz o tm mu n (λtm mu n=>runK pOrc False (CP P) fz a tm mu n λtm mu n=>runK pOrc False (CP P) fz b tm mu n k)
    congr 1
    funext tm mu n
    exact ih tm mu n k
def g4_0 : List AOper:=[⟨(some (2,14)),.mv (t 0 4),none,0,[]⟩,⟨(some (2,15)),.mv (t 2 14),none,0,[]⟩,⟨(some (3,0)),.mv (t 0 5),(some (2,15,true)),0,[]⟩,⟨(some (3,1)),.pick (t 2 15) (t 3 0) (.c (.one (.bool false))),none,0,[]⟩,⟨(some (3,2)),.mv (t 3 1),none,0,[]⟩,⟨(some (3,3)),.load true 20 (t 0 1),(some (3,2,true)),1,[]⟩,⟨(some (3,4)),.mv (t 0 3),(some (3,2,true)),0,[]⟩,⟨(some (3,5)),.call (f n_ref4_places) [(t 3 3),(t 3 4)],(some (3,2,true)),1,[]⟩,⟨(some (3,6)),.pick (t 3 2) (t 3 5) (.c (.one (.bool false))),none,0,[]⟩,⟨(some (3,7)),.mv (t 3 6),none,0,[]⟩]
def g4_1 : List AOper:=[⟨(some (3,8)),.mv (t 0 3),(some (3,7,true)),0,[]⟩,⟨(some (3,9)),.bin .and (t 3 8) (c 1),(some (3,7,true)),0,[]⟩,⟨(some (3,10)),.bin .gtr (t 3 9) (c 0),(some (3,7,true)),0,[]⟩,⟨(some (3,11)),.faddr 3 (t 0 1),(some (3,7,true)),0,[]⟩,⟨(some (3,12)),.load false 1 (t 3 11),(some (3,7,true)),1,[]⟩,⟨(some (3,13)),.call (f n_ref4_clean) [(t 3 10),(t 3 12)],(some (3,7,true)),1,[]⟩,⟨(some (3,14)),.pick (t 3 7) (t 3 13) (.c (.one (.bool false))),none,0,[]⟩,⟨(some (3,15)),.mv (t 3 14),none,0,[]⟩]
def g4_2 : List AOper:=[⟨(some (4,0)),.mv (t 0 3),(some (3,15,true)),0,[]⟩,⟨(some (4,1)),.bin .and (t 4 0) (c 2),(some (3,15,true)),0,[]⟩,⟨(some (4,2)),.bin .gtr (t 4 1) (c 0),(some (3,15,true)),0,[]⟩,⟨(some (4,3)),.faddr 4 (t 0 1),(some (3,15,true)),0,[]⟩,⟨(some (4,4)),.load false 1 (t 4 3),(some (3,15,true)),1,[]⟩,⟨(some (4,5)),.call (f n_ref4_clean) [(t 4 2),(t 4 4)],(some (3,15,true)),1,[]⟩,⟨(some (4,6)),.pick (t 3 15) (t 4 5) (.c (.one (.bool false))),none,0,[]⟩,⟨(some (4,7)),.mv (t 4 6),none,0,[]⟩]
def g4_3 : List AOper:=[⟨(some (4,8)),.mv (t 0 3),(some (4,7,true)),0,[]⟩,⟨(some (4,9)),.bin .and (t 4 8) (c 8),(some (4,7,true)),0,[]⟩,⟨(some (4,10)),.bin .gtr (t 4 9) (c 0),(some (4,7,true)),0,[]⟩,⟨(some (4,11)),.faddr 6 (t 0 1),(some (4,7,true)),0,[]⟩,⟨(some (4,12)),.load false 1 (t 4 11),(some (4,7,true)),1,[]⟩,⟨(some (4,13)),.call (f n_ref4_clean) [(t 4 10),(t 4 12)],(some (4,7,true)),1,[]⟩,⟨(some (4,14)),.pick (t 4 7) (t 4 13) (.c (.one (.bool false))),none,0,[]⟩,⟨(some (4,15)),.mv (t 4 14),none,0,[]⟩]
def g4_4 : List AOper:=[⟨(some (5,0)),.mv (t 0 3),(some (4,15,true)),0,[]⟩,⟨(some (5,1)),.bin .and (t 5 0) (c 16),(some (4,15,true)),0,[]⟩,⟨(some (5,2)),.bin .gtr (t 5 1) (c 0),(some (4,15,true)),0,[]⟩,⟨(some (5,3)),.faddr 7 (t 0 1),(some (4,15,true)),0,[]⟩,⟨(some (5,4)),.load false 1 (t 5 3),(some (4,15,true)),1,[]⟩,⟨(some (5,5)),.call (f n_ref4_clean) [(t 5 2),(t 5 4)],(some (4,15,true)),1,[]⟩,⟨(some (5,6)),.pick (t 4 15) (t 5 5) (.c (.one (.bool false))),none,0,[]⟩,⟨(some (5,7)),.mv (t 5 6),none,0,[]⟩]
def g4_5 : List AOper:=[⟨(some (5,8)),.mv (t 0 3),(some (5,7,true)),0,[]⟩,⟨(some (5,9)),.bin .and (t 5 8) (c 32),(some (5,7,true)),0,[]⟩,⟨(some (5,10)),.bin .gtr (t 5 9) (c 0),(some (5,7,true)),0,[]⟩,⟨(some (5,11)),.faddr 8 (t 0 1),(some (5,7,true)),0,[]⟩,⟨(some (5,12)),.load false 1 (t 5 11),(some (5,7,true)),1,[]⟩,⟨(some (5,13)),.call (f n_ref4_clean) [(t 5 10),(t 5 12)],(some (5,7,true)),1,[]⟩,⟨(some (5,14)),.pick (t 5 7) (t 5 13) (.c (.one (.bool false))),none,0,[]⟩,⟨(some (5,15)),.mv (t 5 14),none,0,[]⟩]
def g4_6 : List AOper:=[⟨(some (6,0)),.mv (t 0 3),(some (5,15,true)),0,[]⟩,⟨(some (6,1)),.bin .and (t 6 0) (c 64),(some (5,15,true)),0,[]⟩,⟨(some (6,2)),.bin .gtr (t 6 1) (c 0),(some (5,15,true)),0,[]⟩,⟨(some (6,3)),.faddr 9 (t 0 1),(some (5,15,true)),0,[]⟩,⟨(some (6,4)),.load false 1 (t 6 3),(some (5,15,true)),1,[]⟩,⟨(some (6,5)),.call (f n_ref4_clean) [(t 6 2),(t 6 4)],(some (5,15,true)),1,[]⟩,⟨(some (6,6)),.pick (t 5 15) (t 6 5) (.c (.one (.bool false))),none,0,[]⟩,⟨(some (6,7)),.mv (t 6 6),none,0,[]⟩]
def g4_7 : List AOper:=[⟨(some (6,8)),.mv (t 0 3),(some (6,7,true)),0,[]⟩,⟨(some (6,9)),.bin .and (t 6 8) (c 128),(some (6,7,true)),0,[]⟩,⟨(some (6,10)),.bin .gtr (t 6 9) (c 0),(some (6,7,true)),0,[]⟩,⟨(some (6,11)),.faddr 10 (t 0 1),(some (6,7,true)),0,[]⟩,⟨(some (6,12)),.load false 1 (t 6 11),(some (6,7,true)),1,[]⟩,⟨(some (6,13)),.call (f n_ref4_clean) [(t 6 10),(t 6 12)],(some (6,7,true)),1,[]⟩,⟨(some (6,14)),.pick (t 6 7) (t 6 13) (.c (.one (.bool false))),none,0,[]⟩,⟨(some (0,6)),.mv (t 6 14),none,0,[]⟩]
def q4_9 : ACode:=.reg (g4_0 ++ (g4_1 ++ (g4_2 ++ (g4_3 ++ (g4_4 ++ (g4_5 ++ (g4_6 ++ g4_7)))))))
def q4_10 : ACode:=(.reg [⟨(some (6,15)),.mv (t 0 6),none,0,[]⟩,⟨(some (7,0)),.mv (t 6 15),none,0,[]⟩,⟨(some (7,1)),.mv (t 0 3),(some (7,0,true)),0,[]⟩,⟨(some (7,2)),.bin .and (t 7 1) (c 256),(some (7,0,true)),0,[]⟩,⟨(some (7,3)),.bin .gtr (t 7 2) (c 0),(some (7,0,true)),0,[]⟩,⟨(some (7,4)),.mv (t 7 3),(some (7,0,true)),0,[]⟩,⟨(some (7,5)),.faddr 11 (t 0 1),(some (7,4,true)),0,[]⟩,⟨(some (7,6)),.load false 1 (t 7 5),(some (7,4,true)),1,[]⟩,⟨(some (7,7)),.bin .geq (t 7 6) (c 0),(some (7,4,true)),0,[]⟩,⟨(some (7,8)),.pick (t 7 4) (t 7 7) (.c (.one (.bool false))),(some (7,0,true)),0,[]⟩,⟨(some (7,9)),.mv (t 7 8),(some (7,0,true)),0,[]⟩,⟨(some (7,10)),.faddr 11 (t 0 1),(some (7,9,true)),0,[]⟩,⟨(some (7,11)),.load false 1 (t 7 10),(some (7,9,true)),1,[]⟩,⟨(some (7,12)),.bin .leq (t 7 11) (c 9),(some (7,9,true)),0,[]⟩,⟨(some (7,13)),.pick (t 7 9) (t 7 12) (.c (.one (.bool false))),(some (7,0,true)),0,[]⟩,⟨(some (7,14)),.mv (t 7 13),(some (7,0,true)),0,[]⟩,⟨(some (7,15)),.mv (t 0 3),(some (7,14,false)),0,[]⟩,⟨(some (8,0)),.bin .and (t 7 15) (c 256),(some (7,14,false)),0,[]⟩,⟨(some (8,1)),.bin .eql (t 8 0) (c 0),(some (7,14,false)),0,[]⟩,⟨(some (8,2)),.mv (t 8 1),(some (7,14,false)),0,[]⟩,⟨(some (8,3)),.faddr 11 (t 0 1),(some (8,2,true)),0,[]⟩,⟨(some (8,4)),.load false 1 (t 8 3),(some (8,2,true)),1,[]⟩,⟨(some (8,5)),.bin .eql (t 8 4) (c 0),(some (8,2,true)),0,[]⟩,⟨(some (8,6)),.pick (t 8 2) (t 8 5) (.c (.one (.bool false))),(some (7,14,false)),0,[]⟩,⟨(some (8,7)),.pick (t 7 14) (.c (.one (.bool true))) (t 8 6),(some (7,0,true)),0,[]⟩,⟨(some (8,8)),.pick (t 7 0) (t 8 7) (.c (.one (.bool false))),none,0,[]⟩,⟨(some (0,6)),.mv (t 8 8),none,0,[]⟩])
def q4_11 : ACode:=(.reg [⟨(some (8,9)),.mv (t 0 6),none,0,[]⟩,⟨(some (8,10)),.mv (t 8 9),none,0,[]⟩,⟨(some (8,11)),.mv (t 0 3),(some (8,10,true)),0,[]⟩,⟨(some (8,12)),.bin .and (t 8 11) (c 512),(some (8,10,true)),0,[]⟩,⟨(some (8,13)),.bin .gtr (t 8 12) (c 0),(some (8,10,true)),0,[]⟩,⟨(some (8,14)),.mv (t 8 13),(some (8,10,true)),0,[]⟩,⟨(some (8,15)),.faddr 12 (t 0 1),(some (8,14,true)),0,[]⟩,⟨(some (9,0)),.load false 1 (t 8 15),(some (8,14,true)),1,[]⟩,⟨(some (9,1)),.bin .geq (t 9 0) (c 0),(some (8,14,true)),0,[]⟩,⟨(some (9,2)),.pick (t 8 14) (t 9 1) (.c (.one (.bool false))),(some (8,10,true)),0,[]⟩,⟨(some (9,3)),.mv (t 9 2),(some (8,10,true)),0,[]⟩,⟨(some (9,4)),.faddr 12 (t 0 1),(some (9,3,true)),0,[]⟩,⟨(some (9,5)),.load false 1 (t 9 4),(some (9,3,true)),1,[]⟩,⟨(some (9,6)),.bin .leq (t 9 5) (c 4),(some (9,3,true)),0,[]⟩,⟨(some (9,7)),.pick (t 9 3) (t 9 6) (.c (.one (.bool false))),(some (8,10,true)),0,[]⟩,⟨(some (9,8)),.mv (t 9 7),(some (8,10,true)),0,[]⟩,⟨(some (9,9)),.mv (t 0 3),(some (9,8,false)),0,[]⟩,⟨(some (9,10)),.bin .and (t 9 9) (c 512),(some (9,8,false)),0,[]⟩,⟨(some (9,11)),.bin .eql (t 9 10) (c 0),(some (9,8,false)),0,[]⟩,⟨(some (9,12)),.mv (t 9 11),(some (9,8,false)),0,[]⟩,⟨(some (9,13)),.faddr 12 (t 0 1),(some (9,12,true)),0,[]⟩,⟨(some (9,14)),.load false 1 (t 9 13),(some (9,12,true)),1,[]⟩,⟨(some (9,15)),.bin .eql (t 9 14) (c 0),(some (9,12,true)),0,[]⟩,⟨(some (10,0)),.pick (t 9 12) (t 9 15) (.c (.one (.bool false))),(some (9,8,false)),0,[]⟩,⟨(some (10,1)),.pick (t 9 8) (.c (.one (.bool true))) (t 10 0),(some (8,10,true)),0,[]⟩,⟨(some (10,2)),.pick (t 8 10) (t 10 1) (.c (.one (.bool false))),none,0,[]⟩,⟨(some (0,6)),.mv (t 10 2),none,0,[]⟩])
def q4_12 : ACode:=(.reg [⟨(some (10,3)),.mv (t 0 6),none,0,[]⟩,⟨(some (10,4)),.mv (t 10 3),none,0,[]⟩,⟨(some (10,5)),.mv (t 0 3),(some (10,4,true)),0,[]⟩,⟨(some (10,6)),.bin .and (t 10 5) (c 2048),(some (10,4,true)),0,[]⟩,⟨(some (10,7)),.bin .gtr (t 10 6) (c 0),(some (10,4,true)),0,[]⟩,⟨(some (10,8)),.mv (t 10 7),(some (10,4,true)),0,[]⟩,⟨(some (10,9)),.faddr 14 (t 0 1),(some (10,8,true)),0,[]⟩,⟨(some (10,10)),.load false 1 (t 10 9),(some (10,8,true)),1,[]⟩,⟨(some (10,11)),.call (f n_ref1_Name) [(t 10 10)],(some (10,8,true)),1,[]⟩,⟨(some (10,12)),.pick (t 10 8) (t 10 11) (.c (.one (.bool false))),(some (10,4,true)),0,[]⟩,⟨(some (10,13)),.mv (t 10 12),(some (10,4,true)),0,[]⟩,⟨(some (10,14)),.mv (t 0 3),(some (10,13,false)),0,[]⟩,⟨(some (10,15)),.bin .and (t 10 14) (c 2048),(some (10,13,false)),0,[]⟩,⟨(some (11,0)),.bin .eql (t 10 15) (c 0),(some (10,13,false)),0,[]⟩,⟨(some (11,1)),.mv (t 11 0),(some (10,13,false)),0,[]⟩,⟨(some (11,2)),.faddr 14 (t 0 1),(some (11,1,true)),0,[]⟩,⟨(some (11,3)),.load false 1 (t 11 2),(some (11,1,true)),1,[]⟩,⟨(some (11,4)),.sbin .eql (t 11 3) (.c (.one (.str 0 0))),(some (11,1,true)),0,[]⟩,⟨(some (11,5)),.pick (t 11 1) (t 11 4) (.c (.one (.bool false))),(some (10,13,false)),0,[]⟩,⟨(some (11,6)),.pick (t 10 13) (.c (.one (.bool true))) (t 11 5),(some (10,4,true)),0,[]⟩,⟨(some (11,7)),.pick (t 10 4) (t 11 6) (.c (.one (.bool false))),none,0,[]⟩,⟨(some (0,6)),.mv (t 11 7),none,0,[]⟩])
def q4_13 : ACode:=(.reg [⟨(some (11,8)),.mv (t 0 6),none,0,[]⟩,⟨(some (11,9)),.mv (t 11 8),none,0,[]⟩,⟨(some (11,10)),.mv (t 0 3),(some (11,9,true)),0,[]⟩,⟨(some (11,11)),.bin .and (t 11 10) (c 4096),(some (11,9,true)),0,[]⟩,⟨(some (11,12)),.bin .gtr (t 11 11) (c 0),(some (11,9,true)),0,[]⟩,⟨(some (11,13)),.mv (t 11 12),(some (11,9,true)),0,[]⟩,⟨(some (11,14)),.faddr 15 (t 0 1),(some (11,13,true)),0,[]⟩,⟨(some (11,15)),.load false 1 (t 11 14),(some (11,13,true)),1,[]⟩,⟨(some (12,0)),.call (f n_ref1_Batch) [(t 11 15)],(some (11,13,true)),1,[]⟩,⟨(some (12,1)),.pick (t 11 13) (t 12 0) (.c (.one (.bool false))),(some (11,9,true)),0,[]⟩,⟨(some (12,2)),.mv (t 12 1),(some (11,9,true)),0,[]⟩,⟨(some (12,3)),.mv (t 0 3),(some (12,2,false)),0,[]⟩,⟨(some (12,4)),.bin .and (t 12 3) (c 4096),(some (12,2,false)),0,[]⟩,⟨(some (12,5)),.bin .eql (t 12 4) (c 0),(some (12,2,false)),0,[]⟩,⟨(some (12,6)),.mv (t 12 5),(some (12,2,false)),0,[]⟩,⟨(some (12,7)),.faddr 15 (t 0 1),(some (12,6,true)),0,[]⟩,⟨(some (12,8)),.load false 1 (t 12 7),(some (12,6,true)),1,[]⟩,⟨(some (12,9)),.len false (t 12 8),(some (12,6,true)),0,[]⟩,⟨(some (12,10)),.bin .eql (t 12 9) (c 0),(some (12,6,true)),0,[]⟩,⟨(some (12,11)),.pick (t 12 6) (t 12 10) (.c (.one (.bool false))),(some (12,2,false)),0,[]⟩,⟨(some (12,12)),.pick (t 12 2) (.c (.one (.bool true))) (t 12 11),(some (11,9,true)),0,[]⟩,⟨(some (12,13)),.pick (t 11 9) (t 12 12) (.c (.one (.bool false))),none,0,[]⟩,⟨(some (0,6)),.mv (t 12 13),none,0,[]⟩])
def q4_14 : ACode:=(.reg [⟨(some (12,14)),.mv (t 0 6),none,0,[]⟩,⟨(some (12,15)),.mv (t 12 14),none,0,[]⟩,⟨(some (13,0)),.mv (t 0 3),(some (12,15,true)),0,[]⟩,⟨(some (13,1)),.bin .and (t 13 0) (c 8192),(some (12,15,true)),0,[]⟩,⟨(some (13,2)),.bin .gtr (t 13 1) (c 0),(some (12,15,true)),0,[]⟩,⟨(some (13,3)),.mv (t 13 2),(some (12,15,true)),0,[]⟩,⟨(some (13,4)),.faddr 16 (t 0 1),(some (13,3,true)),0,[]⟩,⟨(some (13,5)),.load true 3 (t 13 4),(some (13,3,true)),1,[]⟩,⟨(some (13,6)),.call (f n_ref4_LogMay) [(t 13 5)],(some (13,3,true)),1,[]⟩,⟨(some (13,7)),.pick (t 13 3) (t 13 6) (.c (.one (.bool false))),(some (12,15,true)),0,[]⟩,⟨(some (13,8)),.mv (t 13 7),(some (12,15,true)),0,[]⟩,⟨(some (13,9)),.mv (t 0 3),(some (13,8,false)),0,[]⟩,⟨(some (13,10)),.bin .and (t 13 9) (c 8192),(some (13,8,false)),0,[]⟩,⟨(some (13,11)),.bin .eql (t 13 10) (c 0),(some (13,8,false)),0,[]⟩,⟨(some (13,12)),.mv (t 13 11),(some (13,8,false)),0,[]⟩,⟨(some (13,13)),.faddr 16 (t 0 1),(some (13,12,true)),0,[]⟩,⟨(some (13,14)),.load true 3 (t 13 13),(some (13,12,true)),1,[]⟩,⟨(some (13,15)),.call (f n_ref4_empty) [(t 13 14)],(some (13,12,true)),1,[]⟩,⟨(some (14,0)),.pick (t 13 12) (t 13 15) (.c (.one (.bool false))),(some (13,8,false)),0,[]⟩,⟨(some (14,1)),.pick (t 13 8) (.c (.one (.bool true))) (t 14 0),(some (12,15,true)),0,[]⟩,⟨(some (14,2)),.pick (t 12 15) (t 14 1) (.c (.one (.bool false))),none,0,[]⟩,⟨(some (0,6)),.mv (t 14 2),none,0,[]⟩])
def q4_15 : ACode:=(.reg [⟨(some (14,3)),.mv (t 0 6),none,0,[]⟩,⟨(some (14,4)),.mv (t 14 3),none,0,[]⟩,⟨(some (14,5)),.mv (t 0 3),(some (14,4,true)),0,[]⟩,⟨(some (14,6)),.bin .and (t 14 5) (c 16384),(some (14,4,true)),0,[]⟩,⟨(some (14,7)),.bin .gtr (t 14 6) (c 0),(some (14,4,true)),0,[]⟩,⟨(some (14,8)),.mv (t 14 7),(some (14,4,true)),0,[]⟩,⟨(some (14,9)),.faddr 19 (t 0 1),(some (14,8,true)),0,[]⟩,⟨(some (14,10)),.load false 1 (t 14 9),(some (14,8,true)),1,[]⟩,⟨(some (14,11)),.len true (t 14 10),(some (14,8,true)),0,[]⟩,⟨(some (14,12)),.bin .leq (t 14 11) (c 65536),(some (14,8,true)),0,[]⟩,⟨(some (14,13)),.pick (t 14 8) (t 14 12) (.c (.one (.bool false))),(some (14,4,true)),0,[]⟩,⟨(some (14,14)),.mv (t 14 13),(some (14,4,true)),0,[]⟩,⟨(some (14,15)),.mv (t 0 3),(some (14,14,false)),0,[]⟩,⟨(some (15,0)),.bin .and (t 14 15) (c 16384),(some (14,14,false)),0,[]⟩,⟨(some (15,1)),.bin .eql (t 15 0) (c 0),(some (14,14,false)),0,[]⟩,⟨(some (15,2)),.mv (t 15 1),(some (14,14,false)),0,[]⟩,⟨(some (15,3)),.faddr 19 (t 0 1),(some (15,2,true)),0,[]⟩,⟨(some (15,4)),.load false 1 (t 15 3),(some (15,2,true)),1,[]⟩,⟨(some (15,5)),.sbin .eql (t 15 4) (.c (.one (.str 0 0))),(some (15,2,true)),0,[]⟩,⟨(some (15,6)),.pick (t 15 2) (t 15 5) (.c (.one (.bool false))),(some (14,14,false)),0,[]⟩,⟨(some (15,7)),.pick (t 14 14) (.c (.one (.bool true))) (t 15 6),(some (14,4,true)),0,[]⟩,⟨(some (15,8)),.pick (t 14 4) (t 15 7) (.c (.one (.bool false))),none,0,[]⟩,⟨(some (0,2)),.mv (t 15 8),none,0,[]⟩])
theorem b_ref4_May_cut : b_ref4_May = .seq (.reg [⟨(some (0,1)),.box (t 0 0),none,3,[]⟩,⟨(some (0,2)),.mv (.c (.one (.bool false))),none,0,[]⟩]) (.seq (.seq (.reg [⟨(some (0,7)),.faddr 0 (t 0 1),none,0,[]⟩,⟨(some (0,8)),.load false 1 (t 0 7),none,1,[]⟩,⟨(some (0,9)),.bin .lss (t 0 8) (c 0),none,0,[]⟩,⟨(some (0,10)),.mv (t 0 9),none,0,[]⟩,⟨(some (0,11)),.faddr 0 (t 0 1),(some (0,10,false)),0,[]⟩,⟨(some (0,12)),.load false 1 (t 0 11),(some (0,10,false)),1,[]⟩,⟨(some (0,13)),.bin .gtr (t 0 12) (c 16),(some (0,10,false)),0,[]⟩,⟨(some (0,14)),.pick (t 0 10) (.c (.one (.bool true))) (t 0 13),none,0,[]⟩]) (.cond (t 0 14) (.seq (.reg [⟨(some (0,2)),.mv (.c (.one (.bool false))),none,0,[]⟩]) .ret) .skip)) (.seq (.reg [⟨(some (0,15)),.faddr 0 (t 0 1),none,0,[]⟩,⟨(some (1,0)),.load false 1 (t 0 15),none,1,[]⟩,⟨(some (1,1)),.call (f n_ref4_fields) [(t 1 0)],none,1,[]⟩,⟨(some (0,3)),.mv (t 1 1),none,0,[]⟩]) (.seq (.draw [⟨(some (1,2)),.faddr 1 (t 0 1),none,0,[]⟩,⟨(some (1,3)),.load false 1 (t 1 2),none,1,[0]⟩,⟨(some (1,4)),.call (f n_ref4_node) [(t 1 3)],none,1,[1,0]⟩,⟨(some (1,5)),.faddr 2 (t 0 1),none,0,[]⟩,⟨(some (1,6)),.load false 1 (t 1 5),none,1,[3]⟩,⟨(some (1,7)),.call (f n_ref4_node) [(t 1 6)],none,1,[4,3,2,1,0]⟩,⟨(some (0,4)),.mv (t 1 4),none,0,[2,1,0,5,4,3]⟩,⟨(some (0,5)),.mv (t 1 7),none,0,[5,4,3,2,1,0,6]⟩]) (.seq (.seq (.reg [⟨(some (1,8)),.faddr 0 (t 0 1),none,0,[]⟩,⟨(some (1,9)),.load false 1 (t 1 8),none,1,[]⟩,⟨(some (1,10)),.bin .eql (t 1 9) (c 0),none,0,[]⟩,⟨(some (1,11)),.mv (t 1 10),none,0,[]⟩,⟨(some (1,12)),.faddr 0 (t 0 1),(some (1,11,false)),0,[]⟩,⟨(some (1,13)),.load false 1 (t 1 12),(some (1,11,false)),1,[]⟩,⟨(some (1,14)),.bin .eql (t 1 13) (c 2),(some (1,11,false)),0,[]⟩,⟨(some (1,15)),.pick (t 1 11) (.c (.one (.bool true))) (t 1 14),none,0,[]⟩]) (.cond (t 1 15) (.reg [⟨(some (2,0)),.faddr 1 (t 0 1),none,0,[]⟩,⟨(some (2,1)),.load false 1 (t 2 0),none,1,[]⟩,⟨(some (2,2)),.call (f n_ref4_client) [(t 2 1)],none,1,[]⟩,⟨(some (0,4)),.mv (t 2 2),none,0,[]⟩]) .skip)) (.seq (.seq (.reg [⟨(some (2,3)),.faddr 0 (t 0 1),none,0,[]⟩,⟨(some (2,4)),.load false 1 (t 2 3),none,1,[]⟩,⟨(some (2,5)),.bin .eql (t 2 4) (c 1),none,0,[]⟩,⟨(some (2,6)),.mv (t 2 5),none,0,[]⟩,⟨(some (2,7)),.faddr 0 (t 0 1),(some (2,6,false)),0,[]⟩,⟨(some (2,8)),.load false 1 (t 2 7),(some (2,6,false)),1,[]⟩,⟨(some (2,9)),.bin .eql (t 2 8) (c 3),(some (2,6,false)),0,[]⟩,⟨(some (2,10)),.pick (t 2 6) (.c (.one (.bool true))) (t 2 9),none,0,[]⟩]) (.cond (t 2 10) (.reg [⟨(some (2,11)),.faddr 2 (t 0 1),none,0,[]⟩,⟨(some (2,12)),.load false 1 (t 2 11),none,1,[]⟩,⟨(some (2,13)),.call (f n_ref4_client) [(t 2 12)],none,1,[]⟩,⟨(some (0,5)),.mv (t 2 13),none,0,[]⟩]) .skip)) (.seq q4_9 (.seq q4_10 (.seq q4_11 (.seq q4_12 (.seq q4_13 (.seq q4_14 (.seq q4_15 .ret)))))))))))):=rfl
variable {P : Program} (H : Fs P)
include H
theorem ref4_g0 (m : Msg) (xb xe : SV) (hk : 0 ≤ m.kind ∧ m.kind < 17) (a b : Bool) {fz : Fz} {mu : St} {n id : Nat} {e : Env} {k : TM → St → Nat → Prop} (hfr : Free fz mu n) (b1 : with' mu fz id = some (msgC m xb xe)) (s1 : MsgS (with' mu fz) m xb xe) (h1 : e 0 1 = .one (.optr id 0)) (h3 : e 0 3 = .one (I (bitsOf m.kind))) (h4 : e 0 4 = .one (.bool a)) (h5 : e 0 5 = .one (.bool b))
    (hK : ∀ e' mu' n',Gr n fz mu mu' n n' → with' mu' fz id = some (msgC m xb xe) → MsgS (with' mu' fz) m xb xe → e' 0 1 = .one (.optr id 0) → e' 0 3 = .one (I (bitsOf m.kind)) → e' 3 7 = .one (.bool (a && b && placesB m)) → k (tmE 249 e') mu' n') :
    runK pOrc False (CP P) fz g4_0 (tmE 249 e) mu n k:=by
  have gg:=Gr.refl (lo:=n) hfr
  have z1:=b1
  have z2:=s1
  obtain ⟨xl,xs,xk,xm⟩:=s1.1.len
  obtain ⟨yl,ys,yk,ym⟩:=s1.2.len
  have hP:=ref4_places H m xb xe hk
  unfold msgC at hP b1
  have hfr0:=hfr
  have hA : True:=trivial
  have hle:=Nat.le_refl n
  simp only [↓E1,E2,zA,zB,zC,zD,zE,zF,zG,zH,zI,zJ,zK,zL,zM,zN,reduceIte,zO,zP,g4_0, *]
  repeat' (first | ((with_reducible refine Br_intro (λhb=>?_) (λhb=>?_)) <;> (replace hA:=And.intro hA hb; clear hb; simp only [↓E1,E2,zA,zB,zC,zD,zE,zF,zG,zH,zI,zJ,zK,zL,zM,zN,reduceIte,zO,zP, *])) | ((with_reducible refine CPr_f (f:=n_ref4_places) ?_); ((first | (refine (hP).d2 hfr (by first | trivial | exact s1 | assumption) ?_; rintro v mu2 n2 g2 rfl) | (refine (hP).d3 hfr (λhm=>by first | trivial | exact MsgS.mono hm s1) ?_; rintro v mu2 n2 g2 b1 rfl) | (refine (hP).c1 hfr (by first | trivial | exact s1 | assumption) ?_; rintro v mu2 n2 g2 rfl) | (refine (hP).c2 hfr (λhm=>by first | trivial | exact MsgS.mono hm s1) ?_; rintro v mu2 n2 g2 b1 rfl) | (refine (hP).c3 hfr (λhm=>by first | trivial | exact MsgS.mono hm s1) ?_; rintro v mu2 n2 g2 b1 b2 rfl)); (try replace b1:=g2.old hfr b1); (try replace s1:=MsgS.mono (λ_ _ hh=>g2.old hfr hh) s1); replace gg:=gg.trans (g2.weaken hle); replace hle:=Nat.le_trans hle g2.le; replace hfr:=g2.free; clear g2; simp only [↓E1,E2,zA,zB,zC,zD,zE,zF,zG,zH,zI,zJ,zK,zL,zM,zN,reduceIte,zO,zP, *])))
  all_goals (refine hK _ _ _ gg (by first | exact z1 | exact gg.old hfr0 z1) (by first | exact z2 | exact z2.mono (λ_ _ hh=>gg.old hfr0 hh)) (by simp [updN,updE,h1]) (by simp [updN,updE,h3]) ?_; clear hK h1 h3 b1 s1 z1 z2 gg hle hfr hfr0 xl yl; first | (simp_all [updN,updE]; done) | (simp_all [updN,updE]; omega))
theorem ref4_g1 (m : Msg) (xb xe : SV) (hk : 0 ≤ m.kind ∧ m.kind < 17) (ok : Bool) {fz : Fz} {mu : St} {n id : Nat} {e : Env} {k : TM → St → Nat → Prop} (hfr : Free fz mu n) (b1 : with' mu fz id = some (msgC m xb xe)) (s1 : MsgS (with' mu fz) m xb xe) (h1 : e 0 1 = .one (.optr id 0)) (h3 : e 0 3 = .one (I (bitsOf m.kind))) (h6 : e 3 7 = .one (.bool ok))
    (hK : ∀ e' mu' n',Gr n fz mu mu' n n' → with' mu' fz id = some (msgC m xb xe) → MsgS (with' mu' fz) m xb xe → e' 0 1 = .one (.optr id 0) → e' 0 3 = .one (I (bitsOf m.kind)) → e' 3 15 = .one (.bool (ok && cleanB (hasF m.kind 0) m.view)) → k (tmE 249 e') mu' n') :
    runK pOrc False (CP P) fz g4_1 (tmE 249 e) mu n k:=by
  have gg:=Gr.refl (lo:=n) hfr
  have z1:=b1
  have z2:=s1
  obtain ⟨xl,xs,xk,xm⟩:=s1.1.len
  obtain ⟨yl,ys,yk,ym⟩:=s1.2.len
  have q : decide (0 < andI (bitsOf m.kind) 1) = hasF m.kind 0:=(bits_has m.kind hk 0 (by decide)).1
  have p : decide (andI (bitsOf m.kind) 1 = 0) = !hasF m.kind 0:=(bits_has m.kind hk 0 (by decide)).2
  unfold msgC at b1
  have hfr0:=hfr
  have hA : True:=trivial
  have hle:=Nat.le_refl n
  cases ok
  all_goals simp only [↓E1,E2,zA,zB,zC,zD,zE,zF,zG,zH,zI,zJ,zK,zL,zM,zN,reduceIte,zO,zP,g4_1, *,↓b_andI]
  repeat' (first | ((with_reducible refine Br_intro (λhb=>?_) (λhb=>?_)) <;> (replace hA:=And.intro hA hb; clear hb; simp only [↓E1,E2,zA,zB,zC,zD,zE,zF,zG,zH,zI,zJ,zK,zL,zM,zN,reduceIte,zO,zP, *,↓b_andI])) | ((with_reducible refine CPr_f (f:=n_ref4_clean) ?_); ((first | (refine (ref4_clean H _ _).d2 hfr (by first | trivial | exact s1 | assumption) ?_; rintro v mu2 n2 g2 rfl) | (refine (ref4_clean H _ _).d3 hfr (λhm=>by first | trivial | exact MsgS.mono hm s1) ?_; rintro v mu2 n2 g2 b1 rfl) | (refine (ref4_clean H _ _).c1 hfr (by first | trivial | exact s1 | assumption) ?_; rintro v mu2 n2 g2 rfl) | (refine (ref4_clean H _ _).c2 hfr (λhm=>by first | trivial | exact MsgS.mono hm s1) ?_; rintro v mu2 n2 g2 b1 rfl) | (refine (ref4_clean H _ _).c3 hfr (λhm=>by first | trivial | exact MsgS.mono hm s1) ?_; rintro v mu2 n2 g2 b1 b2 rfl)); (try replace b1:=g2.old hfr b1); (try replace s1:=MsgS.mono (λ_ _ hh=>g2.old hfr hh) s1); replace gg:=gg.trans (g2.weaken hle); replace hle:=Nat.le_trans hle g2.le; replace hfr:=g2.free; clear g2; simp only [↓E1,E2,zA,zB,zC,zD,zE,zF,zG,zH,zI,zJ,zK,zL,zM,zN,reduceIte,zO,zP, *,↓b_andI])))
  all_goals (refine hK _ _ _ gg (by first | exact z1 | exact gg.old hfr0 z1) (by first | exact z2 | exact z2.mono (λ_ _ hh=>gg.old hfr0 hh)) (by simp [updN,updE,h1]) (by simp [updN,updE,h3]) ?_; clear hK h1 h3 b1 s1 z1 z2 gg hle hfr hfr0 xl yl; first | (simp_all [updN,updE]; done) | (simp_all [updN,updE]; omega))
theorem ref4_g2 (m : Msg) (xb xe : SV) (hk : 0 ≤ m.kind ∧ m.kind < 17) (ok : Bool) {fz : Fz} {mu : St} {n id : Nat} {e : Env} {k : TM → St → Nat → Prop} (hfr : Free fz mu n) (b1 : with' mu fz id = some (msgC m xb xe)) (s1 : MsgS (with' mu fz) m xb xe) (h1 : e 0 1 = .one (.optr id 0)) (h3 : e 0 3 = .one (I (bitsOf m.kind))) (h6 : e 3 15 = .one (.bool ok))
    (hK : ∀ e' mu' n',Gr n fz mu mu' n n' → with' mu' fz id = some (msgC m xb xe) → MsgS (with' mu' fz) m xb xe → e' 0 1 = .one (.optr id 0) → e' 0 3 = .one (I (bitsOf m.kind)) → e' 4 7 = .one (.bool (ok && cleanB (hasF m.kind 1) m.normal)) → k (tmE 249 e') mu' n') :
    runK pOrc False (CP P) fz g4_2 (tmE 249 e) mu n k:=by
  have gg:=Gr.refl (lo:=n) hfr
  have z1:=b1
  have z2:=s1
  obtain ⟨xl,xs,xk,xm⟩:=s1.1.len
  obtain ⟨yl,ys,yk,ym⟩:=s1.2.len
  have q : decide (0 < andI (bitsOf m.kind) 2) = hasF m.kind 1:=(bits_has m.kind hk 1 (by decide)).1
  have p : decide (andI (bitsOf m.kind) 2 = 0) = !hasF m.kind 1:=(bits_has m.kind hk 1 (by decide)).2
  unfold msgC at b1
  have hfr0:=hfr
  have hA : True:=trivial
  have hle:=Nat.le_refl n
  cases ok
  all_goals simp only [↓E1,E2,zA,zB,zC,zD,zE,zF,zG,zH,zI,zJ,zK,zL,zM,zN,reduceIte,zO,zP,g4_2, *,↓b_andI]
  repeat' (first | ((with_reducible refine Br_intro (λhb=>?_) (λhb=>?_)) <;> (replace hA:=And.intro hA hb; clear hb; simp only [↓E1,E2,zA,zB,zC,zD,zE,zF,zG,zH,zI,zJ,zK,zL,zM,zN,reduceIte,zO,zP, *,↓b_andI])) | ((with_reducible refine CPr_f (f:=n_ref4_clean) ?_); ((first | (refine (ref4_clean H _ _).d2 hfr (by first | trivial | exact s1 | assumption) ?_; rintro v mu2 n2 g2 rfl) | (refine (ref4_clean H _ _).d3 hfr (λhm=>by first | trivial | exact MsgS.mono hm s1) ?_; rintro v mu2 n2 g2 b1 rfl) | (refine (ref4_clean H _ _).c1 hfr (by first | trivial | exact s1 | assumption) ?_; rintro v mu2 n2 g2 rfl) | (refine (ref4_clean H _ _).c2 hfr (λhm=>by first | trivial | exact MsgS.mono hm s1) ?_; rintro v mu2 n2 g2 b1 rfl) | (refine (ref4_clean H _ _).c3 hfr (λhm=>by first | trivial | exact MsgS.mono hm s1) ?_; rintro v mu2 n2 g2 b1 b2 rfl)); (try replace b1:=g2.old hfr b1); (try replace s1:=MsgS.mono (λ_ _ hh=>g2.old hfr hh) s1); replace gg:=gg.trans (g2.weaken hle); replace hle:=Nat.le_trans hle g2.le; replace hfr:=g2.free; clear g2; simp only [↓E1,E2,zA,zB,zC,zD,zE,zF,zG,zH,zI,zJ,zK,zL,zM,zN,reduceIte,zO,zP, *,↓b_andI])))
  all_goals (refine hK _ _ _ gg (by first | exact z1 | exact gg.old hfr0 z1) (by first | exact z2 | exact z2.mono (λ_ _ hh=>gg.old hfr0 hh)) (by simp [updN,updE,h1]) (by simp [updN,updE,h3]) ?_; clear hK h1 h3 b1 s1 z1 z2 gg hle hfr hfr0 xl yl; first | (simp_all [updN,updE]; done) | (simp_all [updN,updE]; omega))
theorem ref4_g3 (m : Msg) (xb xe : SV) (hk : 0 ≤ m.kind ∧ m.kind < 17) (ok : Bool) {fz : Fz} {mu : St} {n id : Nat} {e : Env} {k : TM → St → Nat → Prop} (hfr : Free fz mu n) (b1 : with' mu fz id = some (msgC m xb xe)) (s1 : MsgS (with' mu fz) m xb xe) (h1 : e 0 1 = .one (.optr id 0)) (h3 : e 0 3 = .one (I (bitsOf m.kind))) (h6 : e 4 7 = .one (.bool ok))
    (hK : ∀ e' mu' n',Gr n fz mu mu' n n' → with' mu' fz id = some (msgC m xb xe) → MsgS (with' mu' fz) m xb xe → e' 0 1 = .one (.optr id 0) → e' 0 3 = .one (I (bitsOf m.kind)) → e' 4 15 = .one (.bool (ok && cleanB (hasF m.kind 3) m.commit)) → k (tmE 249 e') mu' n') :
    runK pOrc False (CP P) fz g4_3 (tmE 249 e) mu n k:=by
  have gg:=Gr.refl (lo:=n) hfr
  have z1:=b1
  have z2:=s1
  obtain ⟨xl,xs,xk,xm⟩:=s1.1.len
  obtain ⟨yl,ys,yk,ym⟩:=s1.2.len
  have q : decide (0 < andI (bitsOf m.kind) 8) = hasF m.kind 3:=(bits_has m.kind hk 3 (by decide)).1
  have p : decide (andI (bitsOf m.kind) 8 = 0) = !hasF m.kind 3:=(bits_has m.kind hk 3 (by decide)).2
  unfold msgC at b1
  have hfr0:=hfr
  have hA : True:=trivial
  have hle:=Nat.le_refl n
  cases ok
  all_goals simp only [↓E1,E2,zA,zB,zC,zD,zE,zF,zG,zH,zI,zJ,zK,zL,zM,zN,reduceIte,zO,zP,g4_3, *,↓b_andI]
  repeat' (first | ((with_reducible refine Br_intro (λhb=>?_) (λhb=>?_)) <;> (replace hA:=And.intro hA hb; clear hb; simp only [↓E1,E2,zA,zB,zC,zD,zE,zF,zG,zH,zI,zJ,zK,zL,zM,zN,reduceIte,zO,zP, *,↓b_andI])) | ((with_reducible refine CPr_f (f:=n_ref4_clean) ?_); ((first | (refine (ref4_clean H _ _).d2 hfr (by first | trivial | exact s1 | assumption) ?_; rintro v mu2 n2 g2 rfl) | (refine (ref4_clean H _ _).d3 hfr (λhm=>by first | trivial | exact MsgS.mono hm s1) ?_; rintro v mu2 n2 g2 b1 rfl) | (refine (ref4_clean H _ _).c1 hfr (by first | trivial | exact s1 | assumption) ?_; rintro v mu2 n2 g2 rfl) | (refine (ref4_clean H _ _).c2 hfr (λhm=>by first | trivial | exact MsgS.mono hm s1) ?_; rintro v mu2 n2 g2 b1 rfl) | (refine (ref4_clean H _ _).c3 hfr (λhm=>by first | trivial | exact MsgS.mono hm s1) ?_; rintro v mu2 n2 g2 b1 b2 rfl)); (try replace b1:=g2.old hfr b1); (try replace s1:=MsgS.mono (λ_ _ hh=>g2.old hfr hh) s1); replace gg:=gg.trans (g2.weaken hle); replace hle:=Nat.le_trans hle g2.le; replace hfr:=g2.free; clear g2; simp only [↓E1,E2,zA,zB,zC,zD,zE,zF,zG,zH,zI,zJ,zK,zL,zM,zN,reduceIte,zO,zP, *,↓b_andI])))
  all_goals (refine hK _ _ _ gg (by first | exact z1 | exact gg.old hfr0 z1) (by first | exact z2 | exact z2.mono (λ_ _ hh=>gg.old hfr0 hh)) (by simp [updN,updE,h1]) (by simp [updN,updE,h3]) ?_; clear hK h1 h3 b1 s1 z1 z2 gg hle hfr hfr0 xl yl; first | (simp_all [updN,updE]; done) | (simp_all [updN,updE]; omega))
theorem ref4_g4 (m : Msg) (xb xe : SV) (hk : 0 ≤ m.kind ∧ m.kind < 17) (ok : Bool) {fz : Fz} {mu : St} {n id : Nat} {e : Env} {k : TM → St → Nat → Prop} (hfr : Free fz mu n) (b1 : with' mu fz id = some (msgC m xb xe)) (s1 : MsgS (with' mu fz) m xb xe) (h1 : e 0 1 = .one (.optr id 0)) (h3 : e 0 3 = .one (I (bitsOf m.kind))) (h6 : e 4 15 = .one (.bool ok))
    (hK : ∀ e' mu' n',Gr n fz mu mu' n n' → with' mu' fz id = some (msgC m xb xe) → MsgS (with' mu' fz) m xb xe → e' 0 1 = .one (.optr id 0) → e' 0 3 = .one (I (bitsOf m.kind)) → e' 5 7 = .one (.bool (ok && cleanB (hasF m.kind 4) m.round)) → k (tmE 249 e') mu' n') :
    runK pOrc False (CP P) fz g4_4 (tmE 249 e) mu n k:=by
  have gg:=Gr.refl (lo:=n) hfr
  have z1:=b1
  have z2:=s1
  obtain ⟨xl,xs,xk,xm⟩:=s1.1.len
  obtain ⟨yl,ys,yk,ym⟩:=s1.2.len
  have q : decide (0 < andI (bitsOf m.kind) 16) = hasF m.kind 4:=(bits_has m.kind hk 4 (by decide)).1
  have p : decide (andI (bitsOf m.kind) 16 = 0) = !hasF m.kind 4:=(bits_has m.kind hk 4 (by decide)).2
  unfold msgC at b1
  have hfr0:=hfr
  have hA : True:=trivial
  have hle:=Nat.le_refl n
  cases ok
  all_goals simp only [↓E1,E2,zA,zB,zC,zD,zE,zF,zG,zH,zI,zJ,zK,zL,zM,zN,reduceIte,zO,zP,g4_4, *,↓b_andI]
  repeat' (first | ((with_reducible refine Br_intro (λhb=>?_) (λhb=>?_)) <;> (replace hA:=And.intro hA hb; clear hb; simp only [↓E1,E2,zA,zB,zC,zD,zE,zF,zG,zH,zI,zJ,zK,zL,zM,zN,reduceIte,zO,zP, *,↓b_andI])) | ((with_reducible refine CPr_f (f:=n_ref4_clean) ?_); ((first | (refine (ref4_clean H _ _).d2 hfr (by first | trivial | exact s1 | assumption) ?_; rintro v mu2 n2 g2 rfl) | (refine (ref4_clean H _ _).d3 hfr (λhm=>by first | trivial | exact MsgS.mono hm s1) ?_; rintro v mu2 n2 g2 b1 rfl) | (refine (ref4_clean H _ _).c1 hfr (by first | trivial | exact s1 | assumption) ?_; rintro v mu2 n2 g2 rfl) | (refine (ref4_clean H _ _).c2 hfr (λhm=>by first | trivial | exact MsgS.mono hm s1) ?_; rintro v mu2 n2 g2 b1 rfl) | (refine (ref4_clean H _ _).c3 hfr (λhm=>by first | trivial | exact MsgS.mono hm s1) ?_; rintro v mu2 n2 g2 b1 b2 rfl)); (try replace b1:=g2.old hfr b1); (try replace s1:=MsgS.mono (λ_ _ hh=>g2.old hfr hh) s1); replace gg:=gg.trans (g2.weaken hle); replace hle:=Nat.le_trans hle g2.le; replace hfr:=g2.free; clear g2; simp only [↓E1,E2,zA,zB,zC,zD,zE,zF,zG,zH,zI,zJ,zK,zL,zM,zN,reduceIte,zO,zP, *,↓b_andI])))
  all_goals (refine hK _ _ _ gg (by first | exact z1 | exact gg.old hfr0 z1) (by first | exact z2 | exact z2.mono (λ_ _ hh=>gg.old hfr0 hh)) (by simp [updN,updE,h1]) (by simp [updN,updE,h3]) ?_; clear hK h1 h3 b1 s1 z1 z2 gg hle hfr hfr0 xl yl; first | (simp_all [updN,updE]; done) | (simp_all [updN,updE]; omega))
theorem ref4_g5 (m : Msg) (xb xe : SV) (hk : 0 ≤ m.kind ∧ m.kind < 17) (ok : Bool) {fz : Fz} {mu : St} {n id : Nat} {e : Env} {k : TM → St → Nat → Prop} (hfr : Free fz mu n) (b1 : with' mu fz id = some (msgC m xb xe)) (s1 : MsgS (with' mu fz) m xb xe) (h1 : e 0 1 = .one (.optr id 0)) (h3 : e 0 3 = .one (I (bitsOf m.kind))) (h6 : e 5 7 = .one (.bool ok))
    (hK : ∀ e' mu' n',Gr n fz mu mu' n n' → with' mu' fz id = some (msgC m xb xe) → MsgS (with' mu' fz) m xb xe → e' 0 1 = .one (.optr id 0) → e' 0 3 = .one (I (bitsOf m.kind)) → e' 5 15 = .one (.bool (ok && cleanB (hasF m.kind 5) m.client)) → k (tmE 249 e') mu' n') :
    runK pOrc False (CP P) fz g4_5 (tmE 249 e) mu n k:=by
  have gg:=Gr.refl (lo:=n) hfr
  have z1:=b1
  have z2:=s1
  obtain ⟨xl,xs,xk,xm⟩:=s1.1.len
  obtain ⟨yl,ys,yk,ym⟩:=s1.2.len
  have q : decide (0 < andI (bitsOf m.kind) 32) = hasF m.kind 5:=(bits_has m.kind hk 5 (by decide)).1
  have p : decide (andI (bitsOf m.kind) 32 = 0) = !hasF m.kind 5:=(bits_has m.kind hk 5 (by decide)).2
  unfold msgC at b1
  have hfr0:=hfr
  have hA : True:=trivial
  have hle:=Nat.le_refl n
  cases ok
  all_goals simp only [↓E1,E2,zA,zB,zC,zD,zE,zF,zG,zH,zI,zJ,zK,zL,zM,zN,reduceIte,zO,zP,g4_5, *,↓b_andI]
  repeat' (first | ((with_reducible refine Br_intro (λhb=>?_) (λhb=>?_)) <;> (replace hA:=And.intro hA hb; clear hb; simp only [↓E1,E2,zA,zB,zC,zD,zE,zF,zG,zH,zI,zJ,zK,zL,zM,zN,reduceIte,zO,zP, *,↓b_andI])) | ((with_reducible refine CPr_f (f:=n_ref4_clean) ?_); ((first | (refine (ref4_clean H _ _).d2 hfr (by first | trivial | exact s1 | assumption) ?_; rintro v mu2 n2 g2 rfl) | (refine (ref4_clean H _ _).d3 hfr (λhm=>by first | trivial | exact MsgS.mono hm s1) ?_; rintro v mu2 n2 g2 b1 rfl) | (refine (ref4_clean H _ _).c1 hfr (by first | trivial | exact s1 | assumption) ?_; rintro v mu2 n2 g2 rfl) | (refine (ref4_clean H _ _).c2 hfr (λhm=>by first | trivial | exact MsgS.mono hm s1) ?_; rintro v mu2 n2 g2 b1 rfl) | (refine (ref4_clean H _ _).c3 hfr (λhm=>by first | trivial | exact MsgS.mono hm s1) ?_; rintro v mu2 n2 g2 b1 b2 rfl)); (try replace b1:=g2.old hfr b1); (try replace s1:=MsgS.mono (λ_ _ hh=>g2.old hfr hh) s1); replace gg:=gg.trans (g2.weaken hle); replace hle:=Nat.le_trans hle g2.le; replace hfr:=g2.free; clear g2; simp only [↓E1,E2,zA,zB,zC,zD,zE,zF,zG,zH,zI,zJ,zK,zL,zM,zN,reduceIte,zO,zP, *,↓b_andI])))
  all_goals (refine hK _ _ _ gg (by first | exact z1 | exact gg.old hfr0 z1) (by first | exact z2 | exact z2.mono (λ_ _ hh=>gg.old hfr0 hh)) (by simp [updN,updE,h1]) (by simp [updN,updE,h3]) ?_; clear hK h1 h3 b1 s1 z1 z2 gg hle hfr hfr0 xl yl; first | (simp_all [updN,updE]; done) | (simp_all [updN,updE]; omega))
theorem ref4_g6 (m : Msg) (xb xe : SV) (hk : 0 ≤ m.kind ∧ m.kind < 17) (ok : Bool) {fz : Fz} {mu : St} {n id : Nat} {e : Env} {k : TM → St → Nat → Prop} (hfr : Free fz mu n) (b1 : with' mu fz id = some (msgC m xb xe)) (s1 : MsgS (with' mu fz) m xb xe) (h1 : e 0 1 = .one (.optr id 0)) (h3 : e 0 3 = .one (I (bitsOf m.kind))) (h6 : e 5 15 = .one (.bool ok))
    (hK : ∀ e' mu' n',Gr n fz mu mu' n n' → with' mu' fz id = some (msgC m xb xe) → MsgS (with' mu' fz) m xb xe → e' 0 1 = .one (.optr id 0) → e' 0 3 = .one (I (bitsOf m.kind)) → e' 6 7 = .one (.bool (ok && cleanB (hasF m.kind 6) m.session)) → k (tmE 249 e') mu' n') :
    runK pOrc False (CP P) fz g4_6 (tmE 249 e) mu n k:=by
  have gg:=Gr.refl (lo:=n) hfr
  have z1:=b1
  have z2:=s1
  obtain ⟨xl,xs,xk,xm⟩:=s1.1.len
  obtain ⟨yl,ys,yk,ym⟩:=s1.2.len
  have q : decide (0 < andI (bitsOf m.kind) 64) = hasF m.kind 6:=(bits_has m.kind hk 6 (by decide)).1
  have p : decide (andI (bitsOf m.kind) 64 = 0) = !hasF m.kind 6:=(bits_has m.kind hk 6 (by decide)).2
  unfold msgC at b1
  have hfr0:=hfr
  have hA : True:=trivial
  have hle:=Nat.le_refl n
  cases ok
  all_goals simp only [↓E1,E2,zA,zB,zC,zD,zE,zF,zG,zH,zI,zJ,zK,zL,zM,zN,reduceIte,zO,zP,g4_6, *,↓b_andI]
  repeat' (first | ((with_reducible refine Br_intro (λhb=>?_) (λhb=>?_)) <;> (replace hA:=And.intro hA hb; clear hb; simp only [↓E1,E2,zA,zB,zC,zD,zE,zF,zG,zH,zI,zJ,zK,zL,zM,zN,reduceIte,zO,zP, *,↓b_andI])) | ((with_reducible refine CPr_f (f:=n_ref4_clean) ?_); ((first | (refine (ref4_clean H _ _).d2 hfr (by first | trivial | exact s1 | assumption) ?_; rintro v mu2 n2 g2 rfl) | (refine (ref4_clean H _ _).d3 hfr (λhm=>by first | trivial | exact MsgS.mono hm s1) ?_; rintro v mu2 n2 g2 b1 rfl) | (refine (ref4_clean H _ _).c1 hfr (by first | trivial | exact s1 | assumption) ?_; rintro v mu2 n2 g2 rfl) | (refine (ref4_clean H _ _).c2 hfr (λhm=>by first | trivial | exact MsgS.mono hm s1) ?_; rintro v mu2 n2 g2 b1 rfl) | (refine (ref4_clean H _ _).c3 hfr (λhm=>by first | trivial | exact MsgS.mono hm s1) ?_; rintro v mu2 n2 g2 b1 b2 rfl)); (try replace b1:=g2.old hfr b1); (try replace s1:=MsgS.mono (λ_ _ hh=>g2.old hfr hh) s1); replace gg:=gg.trans (g2.weaken hle); replace hle:=Nat.le_trans hle g2.le; replace hfr:=g2.free; clear g2; simp only [↓E1,E2,zA,zB,zC,zD,zE,zF,zG,zH,zI,zJ,zK,zL,zM,zN,reduceIte,zO,zP, *,↓b_andI])))
  all_goals (refine hK _ _ _ gg (by first | exact z1 | exact gg.old hfr0 z1) (by first | exact z2 | exact z2.mono (λ_ _ hh=>gg.old hfr0 hh)) (by simp [updN,updE,h1]) (by simp [updN,updE,h3]) ?_; clear hK h1 h3 b1 s1 z1 z2 gg hle hfr hfr0 xl yl; first | (simp_all [updN,updE]; done) | (simp_all [updN,updE]; omega))
theorem ref4_g7 (m : Msg) (xb xe : SV) (hk : 0 ≤ m.kind ∧ m.kind < 17) (ok : Bool) {fz : Fz} {mu : St} {n id : Nat} {e : Env} {k : TM → St → Nat → Prop} (hfr : Free fz mu n) (b1 : with' mu fz id = some (msgC m xb xe)) (s1 : MsgS (with' mu fz) m xb xe) (h1 : e 0 1 = .one (.optr id 0)) (h3 : e 0 3 = .one (I (bitsOf m.kind))) (h6 : e 6 7 = .one (.bool ok))
    (hK : ∀ e' mu' n',Gr n fz mu mu' n n' → with' mu' fz id = some (msgC m xb xe) → MsgS (with' mu' fz) m xb xe → e' 0 1 = .one (.optr id 0) → e' 0 3 = .one (I (bitsOf m.kind)) → e' 0 6 = .one (.bool (ok && cleanB (hasF m.kind 7) m.number)) → k (tmE 249 e') mu' n') :
    runK pOrc False (CP P) fz g4_7 (tmE 249 e) mu n k:=by
  have gg:=Gr.refl (lo:=n) hfr
  have z1:=b1
  have z2:=s1
  obtain ⟨xl,xs,xk,xm⟩:=s1.1.len
  obtain ⟨yl,ys,yk,ym⟩:=s1.2.len
  have q : decide (0 < andI (bitsOf m.kind) 128) = hasF m.kind 7:=(bits_has m.kind hk 7 (by decide)).1
  have p : decide (andI (bitsOf m.kind) 128 = 0) = !hasF m.kind 7:=(bits_has m.kind hk 7 (by decide)).2
  unfold msgC at b1
  have hfr0:=hfr
  have hA : True:=trivial
  have hle:=Nat.le_refl n
  cases ok
  all_goals simp only [↓E1,E2,zA,zB,zC,zD,zE,zF,zG,zH,zI,zJ,zK,zL,zM,zN,reduceIte,zO,zP,g4_7, *,↓b_andI]
  repeat' (first | ((with_reducible refine Br_intro (λhb=>?_) (λhb=>?_)) <;> (replace hA:=And.intro hA hb; clear hb; simp only [↓E1,E2,zA,zB,zC,zD,zE,zF,zG,zH,zI,zJ,zK,zL,zM,zN,reduceIte,zO,zP, *,↓b_andI])) | ((with_reducible refine CPr_f (f:=n_ref4_clean) ?_); ((first | (refine (ref4_clean H _ _).d2 hfr (by first | trivial | exact s1 | assumption) ?_; rintro v mu2 n2 g2 rfl) | (refine (ref4_clean H _ _).d3 hfr (λhm=>by first | trivial | exact MsgS.mono hm s1) ?_; rintro v mu2 n2 g2 b1 rfl) | (refine (ref4_clean H _ _).c1 hfr (by first | trivial | exact s1 | assumption) ?_; rintro v mu2 n2 g2 rfl) | (refine (ref4_clean H _ _).c2 hfr (λhm=>by first | trivial | exact MsgS.mono hm s1) ?_; rintro v mu2 n2 g2 b1 rfl) | (refine (ref4_clean H _ _).c3 hfr (λhm=>by first | trivial | exact MsgS.mono hm s1) ?_; rintro v mu2 n2 g2 b1 b2 rfl)); (try replace b1:=g2.old hfr b1); (try replace s1:=MsgS.mono (λ_ _ hh=>g2.old hfr hh) s1); replace gg:=gg.trans (g2.weaken hle); replace hle:=Nat.le_trans hle g2.le; replace hfr:=g2.free; clear g2; simp only [↓E1,E2,zA,zB,zC,zD,zE,zF,zG,zH,zI,zJ,zK,zL,zM,zN,reduceIte,zO,zP, *,↓b_andI])))
  all_goals (refine hK _ _ _ gg (by first | exact z1 | exact gg.old hfr0 z1) (by first | exact z2 | exact z2.mono (λ_ _ hh=>gg.old hfr0 hh)) (by simp [updN,updE,h1]) (by simp [updN,updE,h3]) ?_; clear hK h1 h3 b1 s1 z1 z2 gg hle hfr hfr0 xl yl; first | (simp_all [updN,updE]; done) | (simp_all [updN,updE]; omega))
theorem ref4_q10 (m : Msg) (xb xe : SV) (hk : 0 ≤ m.kind ∧ m.kind < 17) (ok : Bool) {fz : Fz} {mu : St} {n id : Nat} {e : Env} {k : AExit → TM → St → Nat → Prop} (hfr : Free fz mu n) (b1 : with' mu fz id = some (msgC m xb xe)) (s1 : MsgS (with' mu fz) m xb xe) (h1 : e 0 1 = .one (.optr id 0)) (h3 : e 0 3 = .one (I (bitsOf m.kind))) (h6 : e 0 6 = .one (.bool ok))
    (hK : ∀ e' mu' n',Gr n fz mu mu' n n' → with' mu' fz id = some (msgC m xb xe) → MsgS (with' mu' fz) m xb xe → e' 0 1 = .one (.optr id 0) → e' 0 3 = .one (I (bitsOf m.kind)) → e' 0 6 = .one (.bool (ok && codeOk (hasF m.kind 8) m.code 9)) → k .normal (tmE 249 e') mu' n') :
    dcode pOrc False (CP P) fz 0 q4_10 (tmE 249 e) mu n k:=by
  have gg:=Gr.refl (lo:=n) hfr
  have z1:=b1
  have z2:=s1
  obtain ⟨xl,xs,xk,xm⟩:=s1.1.len
  obtain ⟨yl,ys,yk,ym⟩:=s1.2.len
  have q : decide (0 < andI (bitsOf m.kind) 256) = hasF m.kind 8:=(bits_has m.kind hk 8 (by decide)).1
  have p : decide (andI (bitsOf m.kind) 256 = 0) = !hasF m.kind 8:=(bits_has m.kind hk 8 (by decide)).2
  unfold msgC at b1
  have hfr0:=hfr
  have s2:=s1.1
  have s3:=s1.2
  have hA : True:=trivial
  have hle:=Nat.le_refl n
  cases ok
  all_goals simp only [↓E1,E2,zA,zB,zC,zD,zE,zF,zG,zH,zI,zJ,zK,zL,zM,zN,reduceIte,zO,zP,q4_10, *,↓b_andI,tx_empty]
  repeat' (first | ((with_reducible refine Br_intro (λhb=>?_) (λhb=>?_)) <;> (replace hA:=And.intro hA hb; clear hb; simp only [↓E1,E2,zA,zB,zC,zD,zE,zF,zG,zH,zI,zJ,zK,zL,zM,zN,reduceIte,zO,zP, *,↓b_andI,tx_empty])))
  all_goals (refine hK _ _ _ gg (by first | exact z1 | exact gg.old hfr0 z1) (by first | exact z2 | exact z2.mono (λ_ _ hh=>gg.old hfr0 hh)) (by simp [updN,updE,h1]) (by simp [updN,updE,h3]) ?_; (try clear hQ); (try clear hR); (try clear s2); (try clear s3); clear hK h1 h3 b1 s1 z1 z2 gg hle hfr hfr0 xl yl; first | (simp_all [updN,updE,codeOk,-List.length_eq_zero_iff]; done) | (simp_all [updN,updE,codeOk,-List.length_eq_zero_iff]; omega))
theorem ref4_q11 (m : Msg) (xb xe : SV) (hk : 0 ≤ m.kind ∧ m.kind < 17) (ok : Bool) {fz : Fz} {mu : St} {n id : Nat} {e : Env} {k : AExit → TM → St → Nat → Prop} (hfr : Free fz mu n) (b1 : with' mu fz id = some (msgC m xb xe)) (s1 : MsgS (with' mu fz) m xb xe) (h1 : e 0 1 = .one (.optr id 0)) (h3 : e 0 3 = .one (I (bitsOf m.kind))) (h6 : e 0 6 = .one (.bool ok))
    (hK : ∀ e' mu' n',Gr n fz mu mu' n n' → with' mu' fz id = some (msgC m xb xe) → MsgS (with' mu' fz) m xb xe → e' 0 1 = .one (.optr id 0) → e' 0 3 = .one (I (bitsOf m.kind)) → e' 0 6 = .one (.bool (ok && codeOk (hasF m.kind 9) m.agg 4)) → k .normal (tmE 249 e') mu' n') :
    dcode pOrc False (CP P) fz 0 q4_11 (tmE 249 e) mu n k:=by
  have gg:=Gr.refl (lo:=n) hfr
  have z1:=b1
  have z2:=s1
  obtain ⟨xl,xs,xk,xm⟩:=s1.1.len
  obtain ⟨yl,ys,yk,ym⟩:=s1.2.len
  have q : decide (0 < andI (bitsOf m.kind) 512) = hasF m.kind 9:=(bits_has m.kind hk 9 (by decide)).1
  have p : decide (andI (bitsOf m.kind) 512 = 0) = !hasF m.kind 9:=(bits_has m.kind hk 9 (by decide)).2
  unfold msgC at b1
  have hfr0:=hfr
  have s2:=s1.1
  have s3:=s1.2
  have hA : True:=trivial
  have hle:=Nat.le_refl n
  cases ok
  all_goals simp only [↓E1,E2,zA,zB,zC,zD,zE,zF,zG,zH,zI,zJ,zK,zL,zM,zN,reduceIte,zO,zP,q4_11, *,↓b_andI,tx_empty]
  repeat' (first | ((with_reducible refine Br_intro (λhb=>?_) (λhb=>?_)) <;> (replace hA:=And.intro hA hb; clear hb; simp only [↓E1,E2,zA,zB,zC,zD,zE,zF,zG,zH,zI,zJ,zK,zL,zM,zN,reduceIte,zO,zP, *,↓b_andI,tx_empty])))
  all_goals (refine hK _ _ _ gg (by first | exact z1 | exact gg.old hfr0 z1) (by first | exact z2 | exact z2.mono (λ_ _ hh=>gg.old hfr0 hh)) (by simp [updN,updE,h1]) (by simp [updN,updE,h3]) ?_; (try clear hQ); (try clear hR); (try clear s2); (try clear s3); clear hK h1 h3 b1 s1 z1 z2 gg hle hfr hfr0 xl yl; first | (simp_all [updN,updE,codeOk,-List.length_eq_zero_iff]; done) | (simp_all [updN,updE,codeOk,-List.length_eq_zero_iff]; omega))
theorem ref4_q12 (m : Msg) (xb xe : SV) (hk : 0 ≤ m.kind ∧ m.kind < 17) (ok : Bool) {fz : Fz} {mu : St} {n id : Nat} {e : Env} {k : AExit → TM → St → Nat → Prop} (hfr : Free fz mu n) (b1 : with' mu fz id = some (msgC m xb xe)) (s1 : MsgS (with' mu fz) m xb xe) (h1 : e 0 1 = .one (.optr id 0)) (h3 : e 0 3 = .one (I (bitsOf m.kind))) (h6 : e 0 6 = .one (.bool ok))
    (hK : ∀ e' mu' n',Gr n fz mu mu' n n' → with' mu' fz id = some (msgC m xb xe) → MsgS (with' mu' fz) m xb xe → e' 0 1 = .one (.optr id 0) → e' 0 3 = .one (I (bitsOf m.kind)) → e' 0 6 = .one (.bool (ok && serOk (hasF m.kind 11) m.series)) → k .normal (tmE 249 e') mu' n') :
    dcode pOrc False (CP P) fz 0 q4_12 (tmE 249 e) mu n k:=by
  have gg:=Gr.refl (lo:=n) hfr
  have z1:=b1
  have z2:=s1
  obtain ⟨xl,xs,xk,xm⟩:=s1.1.len
  obtain ⟨yl,ys,yk,ym⟩:=s1.2.len
  have q : decide (0 < andI (bitsOf m.kind) 2048) = hasF m.kind 11:=(bits_has m.kind hk 11 (by decide)).1
  have p : decide (andI (bitsOf m.kind) 2048 = 0) = !hasF m.kind 11:=(bits_has m.kind hk 11 (by decide)).2
  unfold msgC at b1
  have hfr0:=hfr
  have s2:=s1.1
  have s3:=s1.2
  have hA : True:=trivial
  have hle:=Nat.le_refl n
  cases ok
  all_goals simp only [↓E1,E2,zA,zB,zC,zD,zE,zF,zG,zH,zI,zJ,zK,zL,zM,zN,reduceIte,zO,zP,q4_12, *,↓b_andI,tx_empty]
  repeat' (first | ((with_reducible refine Br_intro (λhb=>?_) (λhb=>?_)) <;> (replace hA:=And.intro hA hb; clear hb; simp only [↓E1,E2,zA,zB,zC,zD,zE,zF,zG,zH,zI,zJ,zK,zL,zM,zN,reduceIte,zO,zP, *,↓b_andI,tx_empty])) | ((with_reducible refine CPr_f (f:=n_ref1_Name) ?_); ((first | (refine (ref1_Name H m.series).d2 hfr (by first | trivial | exact s1 | exact s2 | exact s3 | assumption) ?_; rintro v mu2 n2 g2 rfl) | (refine (ref1_Name H m.series).d3 hfr (λhm=>by first | trivial | exact MsgS.mono hm s1 | exact PtsR.mono hm s2 | exact EntsR.mono hm s3) ?_; rintro v mu2 n2 g2 b1 rfl) | (refine (ref1_Name H m.series).c1 hfr (by first | trivial | exact s1 | exact s2 | exact s3 | assumption) ?_; rintro v mu2 n2 g2 rfl) | (refine (ref1_Name H m.series).c2 hfr (λhm=>by first | trivial | exact MsgS.mono hm s1 | exact PtsR.mono hm s2 | exact EntsR.mono hm s3) ?_; rintro v mu2 n2 g2 b1 rfl) | (refine (ref1_Name H m.series).c3 hfr (λhm=>by first | trivial | exact MsgS.mono hm s1 | exact PtsR.mono hm s2 | exact EntsR.mono hm s3) ?_; rintro v mu2 n2 g2 b1 b2 rfl)); (try replace b1:=g2.old hfr b1); (try replace s1:=MsgS.mono (λ_ _ hh=>g2.old hfr hh) s1); (try replace s2:=PtsR.mono (λ_ _ hh=>g2.old hfr hh) s2); (try replace s3:=EntsR.mono (λ_ _ hh=>g2.old hfr hh) s3); replace gg:=gg.trans (g2.weaken hle); replace hle:=Nat.le_trans hle g2.le; replace hfr:=g2.free; clear g2; simp only [↓E1,E2,zA,zB,zC,zD,zE,zF,zG,zH,zI,zJ,zK,zL,zM,zN,reduceIte,zO,zP, *,↓b_andI,tx_empty])))
  all_goals (refine hK _ _ _ gg (by first | exact z1 | exact gg.old hfr0 z1) (by first | exact z2 | exact z2.mono (λ_ _ hh=>gg.old hfr0 hh)) (by simp [updN,updE,h1]) (by simp [updN,updE,h3]) ?_; (try clear hQ); (try clear hR); (try clear s2); (try clear s3); clear hK h1 h3 b1 s1 z1 z2 gg hle hfr hfr0 xl yl; first | (simp_all [updN,updE,serOk,-List.length_eq_zero_iff]; done) | (simp_all [updN,updE,serOk,-List.length_eq_zero_iff]; omega))
theorem ref4_q13 (m : Msg) (xb xe : SV) (hk : 0 ≤ m.kind ∧ m.kind < 17) (ok : Bool) (hl : m.batch.length ≤ 1152921504606846976) {fz : Fz} {mu : St} {n id : Nat} {e : Env} {k : AExit → TM → St → Nat → Prop} (hfr : Free fz mu n) (b1 : with' mu fz id = some (msgC m xb xe)) (s1 : MsgS (with' mu fz) m xb xe) (h1 : e 0 1 = .one (.optr id 0)) (h3 : e 0 3 = .one (I (bitsOf m.kind))) (h6 : e 0 6 = .one (.bool ok))
    (hK : ∀ e' mu' n',Gr n fz mu mu' n n' → with' mu' fz id = some (msgC m xb xe) → MsgS (with' mu' fz) m xb xe → e' 0 1 = .one (.optr id 0) → e' 0 3 = .one (I (bitsOf m.kind)) → e' 0 6 = .one (.bool (ok && batOk (hasF m.kind 12) m.batch)) → k .normal (tmE 249 e') mu' n') :
    dcode pOrc False (CP P) fz 0 q4_13 (tmE 249 e) mu n k:=by
  have gg:=Gr.refl (lo:=n) hfr
  have z1:=b1
  have z2:=s1
  obtain ⟨xl,xs,xk,xm⟩:=s1.1.len
  obtain ⟨yl,ys,yk,ym⟩:=s1.2.len
  have q : decide (0 < andI (bitsOf m.kind) 4096) = hasF m.kind 12:=(bits_has m.kind hk 12 (by decide)).1
  have p : decide (andI (bitsOf m.kind) 4096 = 0) = !hasF m.kind 12:=(bits_has m.kind hk 12 (by decide)).2
  have hQ:=ref1_Batch H xb m.batch hl
  unfold msgC at b1
  have hfr0:=hfr
  have s2:=s1.1
  have s3:=s1.2
  have hA : True:=trivial
  have hle:=Nat.le_refl n
  cases ok
  all_goals simp only [↓E1,E2,zA,zB,zC,zD,zE,zF,zG,zH,zI,zJ,zK,zL,zM,zN,reduceIte,zO,zP,q4_13, *,↓b_andI,tx_empty]
  repeat' (first | ((with_reducible refine Br_intro (λhb=>?_) (λhb=>?_)) <;> (replace hA:=And.intro hA hb; clear hb; simp only [↓E1,E2,zA,zB,zC,zD,zE,zF,zG,zH,zI,zJ,zK,zL,zM,zN,reduceIte,zO,zP, *,↓b_andI,tx_empty])) | ((with_reducible refine CPr_f (f:=n_ref1_Batch) ?_); ((first | (refine (hQ).d2 hfr (by first | trivial | exact s1 | exact s2 | exact s3 | assumption) ?_; rintro v mu2 n2 g2 rfl) | (refine (hQ).d3 hfr (λhm=>by first | trivial | exact MsgS.mono hm s1 | exact PtsR.mono hm s2 | exact EntsR.mono hm s3) ?_; rintro v mu2 n2 g2 b1 rfl) | (refine (hQ).c1 hfr (by first | trivial | exact s1 | exact s2 | exact s3 | assumption) ?_; rintro v mu2 n2 g2 rfl) | (refine (hQ).c2 hfr (λhm=>by first | trivial | exact MsgS.mono hm s1 | exact PtsR.mono hm s2 | exact EntsR.mono hm s3) ?_; rintro v mu2 n2 g2 b1 rfl) | (refine (hQ).c3 hfr (λhm=>by first | trivial | exact MsgS.mono hm s1 | exact PtsR.mono hm s2 | exact EntsR.mono hm s3) ?_; rintro v mu2 n2 g2 b1 b2 rfl)); (try replace b1:=g2.old hfr b1); (try replace s1:=MsgS.mono (λ_ _ hh=>g2.old hfr hh) s1); (try replace s2:=PtsR.mono (λ_ _ hh=>g2.old hfr hh) s2); (try replace s3:=EntsR.mono (λ_ _ hh=>g2.old hfr hh) s3); replace gg:=gg.trans (g2.weaken hle); replace hle:=Nat.le_trans hle g2.le; replace hfr:=g2.free; clear g2; simp only [↓E1,E2,zA,zB,zC,zD,zE,zF,zG,zH,zI,zJ,zK,zL,zM,zN,reduceIte,zO,zP, *,↓b_andI,tx_empty])))
  all_goals (refine hK _ _ _ gg (by first | exact z1 | exact gg.old hfr0 z1) (by first | exact z2 | exact z2.mono (λ_ _ hh=>gg.old hfr0 hh)) (by simp [updN,updE,h1]) (by simp [updN,updE,h3]) ?_; (try clear hQ); (try clear hR); (try clear s2); (try clear s3); clear hK h1 h3 b1 s1 z1 z2 gg hle hfr hfr0 xl yl; first | (simp_all [updN,updE,batOk,-List.length_eq_zero_iff]; done) | (simp_all [updN,updE,batOk,-List.length_eq_zero_iff]; omega))
theorem ref4_q14 (m : Msg) (xb xe : SV) (hk : 0 ≤ m.kind ∧ m.kind < 17) (ok : Bool) (hok : Ok m.log) {fz : Fz} {mu : St} {n id : Nat} {e : Env} {k : AExit → TM → St → Nat → Prop} (hfr : Free fz mu n) (b1 : with' mu fz id = some (msgC m xb xe)) (s1 : MsgS (with' mu fz) m xb xe) (h1 : e 0 1 = .one (.optr id 0)) (h3 : e 0 3 = .one (I (bitsOf m.kind))) (h6 : e 0 6 = .one (.bool ok))
    (hK : ∀ e' mu' n',Gr n fz mu mu' n n' → with' mu' fz id = some (msgC m xb xe) → MsgS (with' mu' fz) m xb xe → e' 0 1 = .one (.optr id 0) → e' 0 3 = .one (I (bitsOf m.kind)) → e' 0 6 = .one (.bool (ok && lgOk (hasF m.kind 13) m.log)) → k .normal (tmE 249 e') mu' n') :
    dcode pOrc False (CP P) fz 0 q4_14 (tmE 249 e) mu n k:=by
  have gg:=Gr.refl (lo:=n) hfr
  have z1:=b1
  have z2:=s1
  obtain ⟨xl,xs,xk,xm⟩:=s1.1.len
  obtain ⟨yl,ys,yk,ym⟩:=s1.2.len
  have q : decide (0 < andI (bitsOf m.kind) 8192) = hasF m.kind 13:=(bits_has m.kind hk 13 (by decide)).1
  have p : decide (andI (bitsOf m.kind) 8192 = 0) = !hasF m.kind 13:=(bits_has m.kind hk 13 (by decide)).2
  have hQ:=ref4_LogMay H m.log xe hok
  have hR:=ref4_empty H m.log xe
  unfold lgC at hQ hR
  unfold msgC at b1
  have hfr0:=hfr
  have s2:=s1.1
  have s3:=s1.2
  have hA : True:=trivial
  have hle:=Nat.le_refl n
  cases ok
  all_goals simp only [↓E1,E2,zA,zB,zC,zD,zE,zF,zG,zH,zI,zJ,zK,zL,zM,zN,reduceIte,zO,zP,q4_14, *,↓b_andI,tx_empty]
  repeat' (first | ((with_reducible refine Br_intro (λhb=>?_) (λhb=>?_)) <;> (replace hA:=And.intro hA hb; clear hb; simp only [↓E1,E2,zA,zB,zC,zD,zE,zF,zG,zH,zI,zJ,zK,zL,zM,zN,reduceIte,zO,zP, *,↓b_andI,tx_empty])) | ((with_reducible refine CPr_f (f:=n_ref4_LogMay) ?_); ((first | (refine (hQ).d2 hfr (by first | trivial | exact s1 | exact s2 | exact s3 | assumption) ?_; rintro v mu2 n2 g2 rfl) | (refine (hQ).d3 hfr (λhm=>by first | trivial | exact MsgS.mono hm s1 | exact PtsR.mono hm s2 | exact EntsR.mono hm s3) ?_; rintro v mu2 n2 g2 b1 rfl) | (refine (hQ).c1 hfr (by first | trivial | exact s1 | exact s2 | exact s3 | assumption) ?_; rintro v mu2 n2 g2 rfl) | (refine (hQ).c2 hfr (λhm=>by first | trivial | exact MsgS.mono hm s1 | exact PtsR.mono hm s2 | exact EntsR.mono hm s3) ?_; rintro v mu2 n2 g2 b1 rfl) | (refine (hQ).c3 hfr (λhm=>by first | trivial | exact MsgS.mono hm s1 | exact PtsR.mono hm s2 | exact EntsR.mono hm s3) ?_; rintro v mu2 n2 g2 b1 b2 rfl)); (try replace b1:=g2.old hfr b1); (try replace s1:=MsgS.mono (λ_ _ hh=>g2.old hfr hh) s1); (try replace s2:=PtsR.mono (λ_ _ hh=>g2.old hfr hh) s2); (try replace s3:=EntsR.mono (λ_ _ hh=>g2.old hfr hh) s3); replace gg:=gg.trans (g2.weaken hle); replace hle:=Nat.le_trans hle g2.le; replace hfr:=g2.free; clear g2; simp only [↓E1,E2,zA,zB,zC,zD,zE,zF,zG,zH,zI,zJ,zK,zL,zM,zN,reduceIte,zO,zP, *,↓b_andI,tx_empty])) | ((with_reducible refine CPr_f (f:=n_ref4_empty) ?_); ((first | (refine (hR).d2 hfr (by first | trivial | exact s1 | exact s2 | exact s3 | assumption) ?_; rintro v mu2 n2 g2 rfl) | (refine (hR).d3 hfr (λhm=>by first | trivial | exact MsgS.mono hm s1 | exact PtsR.mono hm s2 | exact EntsR.mono hm s3) ?_; rintro v mu2 n2 g2 b1 rfl) | (refine (hR).c1 hfr (by first | trivial | exact s1 | exact s2 | exact s3 | assumption) ?_; rintro v mu2 n2 g2 rfl) | (refine (hR).c2 hfr (λhm=>by first | trivial | exact MsgS.mono hm s1 | exact PtsR.mono hm s2 | exact EntsR.mono hm s3) ?_; rintro v mu2 n2 g2 b1 rfl) | (refine (hR).c3 hfr (λhm=>by first | trivial | exact MsgS.mono hm s1 | exact PtsR.mono hm s2 | exact EntsR.mono hm s3) ?_; rintro v mu2 n2 g2 b1 b2 rfl)); (try replace b1:=g2.old hfr b1); (try replace s1:=MsgS.mono (λ_ _ hh=>g2.old hfr hh) s1); (try replace s2:=PtsR.mono (λ_ _ hh=>g2.old hfr hh) s2); (try replace s3:=EntsR.mono (λ_ _ hh=>g2.old hfr hh) s3); replace gg:=gg.trans (g2.weaken hle); replace hle:=Nat.le_trans hle g2.le; replace hfr:=g2.free; clear g2; simp only [↓E1,E2,zA,zB,zC,zD,zE,zF,zG,zH,zI,zJ,zK,zL,zM,zN,reduceIte,zO,zP, *,↓b_andI,tx_empty])))
  all_goals (refine hK _ _ _ gg (by first | exact z1 | exact gg.old hfr0 z1) (by first | exact z2 | exact z2.mono (λ_ _ hh=>gg.old hfr0 hh)) (by simp [updN,updE,h1]) (by simp [updN,updE,h3]) ?_; (try clear hQ); (try clear hR); (try clear s2); (try clear s3); clear hK h1 h3 b1 s1 z1 z2 gg hle hfr hfr0 xl yl; first | (simp_all [updN,updE,lgOk,-List.length_eq_zero_iff]; done) | (simp_all [updN,updE,lgOk,-List.length_eq_zero_iff]; omega))
theorem ref4_q15 (m : Msg) (xb xe : SV) (hk : 0 ≤ m.kind ∧ m.kind < 17) (ok : Bool) {fz : Fz} {mu : St} {n id : Nat} {e : Env} {k : AExit → TM → St → Nat → Prop} (hfr : Free fz mu n) (b1 : with' mu fz id = some (msgC m xb xe)) (s1 : MsgS (with' mu fz) m xb xe) (h1 : e 0 1 = .one (.optr id 0)) (h3 : e 0 3 = .one (I (bitsOf m.kind))) (h6 : e 0 6 = .one (.bool ok))
    (hK : ∀ e' mu' n',Gr n fz mu mu' n n' → with' mu' fz id = some (msgC m xb xe) → MsgS (with' mu' fz) m xb xe → e' 0 1 = .one (.optr id 0) → e' 0 3 = .one (I (bitsOf m.kind)) → e' 0 2 = .one (.bool (ok && txtOk (hasF m.kind 14) m.text)) → k .normal (tmE 249 e') mu' n') :
    dcode pOrc False (CP P) fz 0 q4_15 (tmE 249 e) mu n k:=by
  have gg:=Gr.refl (lo:=n) hfr
  have z1:=b1
  have z2:=s1
  obtain ⟨xl,xs,xk,xm⟩:=s1.1.len
  obtain ⟨yl,ys,yk,ym⟩:=s1.2.len
  have q : decide (0 < andI (bitsOf m.kind) 16384) = hasF m.kind 14:=(bits_has m.kind hk 14 (by decide)).1
  have p : decide (andI (bitsOf m.kind) 16384 = 0) = !hasF m.kind 14:=(bits_has m.kind hk 14 (by decide)).2
  unfold msgC at b1
  have hfr0:=hfr
  have s2:=s1.1
  have s3:=s1.2
  have hA : True:=trivial
  have hle:=Nat.le_refl n
  cases ok
  all_goals simp only [↓E1,E2,zA,zB,zC,zD,zE,zF,zG,zH,zI,zJ,zK,zL,zM,zN,reduceIte,zO,zP,q4_15, *,↓b_andI,tx_empty]
  repeat' (first | ((with_reducible refine Br_intro (λhb=>?_) (λhb=>?_)) <;> (replace hA:=And.intro hA hb; clear hb; simp only [↓E1,E2,zA,zB,zC,zD,zE,zF,zG,zH,zI,zJ,zK,zL,zM,zN,reduceIte,zO,zP, *,↓b_andI,tx_empty])))
  all_goals (refine hK _ _ _ gg (by first | exact z1 | exact gg.old hfr0 z1) (by first | exact z2 | exact z2.mono (λ_ _ hh=>gg.old hfr0 hh)) (by simp [updN,updE,h1]) (by simp [updN,updE,h3]) ?_; (try clear hQ); (try clear hR); (try clear s2); (try clear s3); clear hK h1 h3 b1 s1 z1 z2 gg hle hfr hfr0 xl yl; first | (simp_all [updN,updE,txtOk,-List.length_eq_zero_iff]; done) | (simp_all [updN,updE,txtOk,-List.length_eq_zero_iff]; omega))
def msgT (a b : Bool) (m : Msg) : Bool :=
  (a && b && placesB m) && cleanB (hasF m.kind 0) m.view && cleanB (hasF m.kind 1) m.normal && cleanB (hasF m.kind 3) m.commit && cleanB (hasF m.kind 4) m.round && cleanB (hasF m.kind 5) m.client && cleanB (hasF m.kind 6) m.session && cleanB (hasF m.kind 7) m.number &&
  codeOk (hasF m.kind 8) m.code 9 && codeOk (hasF m.kind 9) m.agg 4 && serOk (hasF m.kind 11) m.series && batOk (hasF m.kind 12) m.batch && lgOk (hasF m.kind 13) m.log && txtOk (hasF m.kind 14) m.text
theorem ref4_May_rest (m : Msg) (xb xe : SV) (hk : 0 ≤ m.kind ∧ m.kind < 17) (hl : m.batch.length ≤ 1152921504606846976) (hok : Ok m.log) (a b : Bool) {fz : Fz} {mu : St} {n id : Nat} {e : Env} {k : KT Prop} (hfr : Free fz mu n) (b1 : with' mu fz id = some (msgC m xb xe)) (s1 : MsgS (with' mu fz) m xb xe)
    (h1 : e 0 1 = .one (.optr id 0)) (h3 : e 0 3 = .one (I (bitsOf m.kind))) (h4 : e 0 4 = .one (.bool a)) (h5 : e 0 5 = .one (.bool b)) (hK : ∀ mu' n',Gr n fz mu mu' n n' → k (.one (.bool (msgT a b m))) mu' n') :
    dcode pOrc False (CP P) fz 0 q4_9 (tmE 249 e) mu n (onw (λtm mu n=>dcode pOrc False (CP P) fz 0 (.seq q4_10 (.seq q4_11 (.seq q4_12 (.seq q4_13 (.seq q4_14 (.seq q4_15 .ret)))))) tm mu n (endP fz [.tmp 0 2] k)) (endP fz [.tmp 0 2] k)):=by
  rw [dc_at (show q4_9 = .reg (g4_0 ++ (g4_1 ++ (g4_2 ++ (g4_3 ++ (g4_4 ++ (g4_5 ++ (g4_6 ++ g4_7))))))) from rfl),dc_reg]
  simp only [runK_append]
  refine ref4_g0 H m xb xe hk a b hfr b1 s1 h1 h3 h4 h5 ?_
  intro e0 mu0 n0 g0 b1 s1 h1 h3 h6
  refine ref4_g1 H m xb xe hk _ g0.free b1 s1 h1 h3 h6 ?_
  clear h1 h3 h6 b1 s1
  intro e1 mu1 n1 g b1 s1 h1 h3 h6
  have g1:=g0.trans (g.weaken g0.le)
  clear g
  refine ref4_g2 H m xb xe hk _ g1.free b1 s1 h1 h3 h6 ?_
  clear h1 h3 h6 b1 s1
  intro e2 mu2 n2 g b1 s1 h1 h3 h6
  have g2:=g1.trans (g.weaken g1.le)
  clear g
  refine ref4_g3 H m xb xe hk _ g2.free b1 s1 h1 h3 h6 ?_
  clear h1 h3 h6 b1 s1
  intro e3 mu3 n3 g b1 s1 h1 h3 h6
  have g3:=g2.trans (g.weaken g2.le)
  clear g
  refine ref4_g4 H m xb xe hk _ g3.free b1 s1 h1 h3 h6 ?_
  clear h1 h3 h6 b1 s1
  intro e4 mu4 n4 g b1 s1 h1 h3 h6
  have g4:=g3.trans (g.weaken g3.le)
  clear g
  refine ref4_g5 H m xb xe hk _ g4.free b1 s1 h1 h3 h6 ?_
  clear h1 h3 h6 b1 s1
  intro e5 mu5 n5 g b1 s1 h1 h3 h6
  have g5:=g4.trans (g.weaken g4.le)
  clear g
  refine ref4_g6 H m xb xe hk _ g5.free b1 s1 h1 h3 h6 ?_
  clear h1 h3 h6 b1 s1
  intro e6 mu6 n6 g b1 s1 h1 h3 h6
  have g6:=g5.trans (g.weaken g5.le)
  clear g
  refine ref4_g7 H m xb xe hk _ g6.free b1 s1 h1 h3 h6 ?_
  clear h1 h3 h6 b1 s1
  intro e7 mu7 n7 g b1 s1 h1 h3 h6
  have g7:=g6.trans (g.weaken g6.le)
  clear g
  simp only [onw_n,dc_seq]
  refine ref4_q10 H m xb xe hk _ g7.free b1 s1 h1 h3 h6 ?_
  clear h1 h3 h6 b1 s1
  intro e8 mu8 n8 g b1 s1 h1 h3 h6
  have g8:=g7.trans (g.weaken g7.le)
  clear g
  simp only [onw_n,dc_seq]
  refine ref4_q11 H m xb xe hk _ g8.free b1 s1 h1 h3 h6 ?_
  clear h1 h3 h6 b1 s1
  intro e9 mu9 n9 g b1 s1 h1 h3 h6
  have g9:=g8.trans (g.weaken g8.le)
  clear g
  simp only [onw_n,dc_seq]
  refine ref4_q12 H m xb xe hk _ g9.free b1 s1 h1 h3 h6 ?_
  clear h1 h3 h6 b1 s1
  intro e10 mu10 n10 g b1 s1 h1 h3 h6
  have g10:=g9.trans (g.weaken g9.le)
  clear g
  simp only [onw_n,dc_seq]
  refine ref4_q13 H m xb xe hk _ hl g10.free b1 s1 h1 h3 h6 ?_
  clear h1 h3 h6 b1 s1
  intro e11 mu11 n11 g b1 s1 h1 h3 h6
  have g11:=g10.trans (g.weaken g10.le)
  clear g
  simp only [onw_n,dc_seq]
  refine ref4_q14 H m xb xe hk _ hok g11.free b1 s1 h1 h3 h6 ?_
  clear h1 h3 h6 b1 s1
  intro e12 mu12 n12 g b1 s1 h1 h3 h6
  have g12:=g11.trans (g.weaken g11.le)
  clear g
  simp only [onw_n,dc_seq]
  refine ref4_q15 H m xb xe hk _ g12.free b1 s1 h1 h3 h6 ?_
  clear h1 h3 h6 b1 s1
  intro e13 mu13 n13 g b1 s1 h1 h3 h6
  have g13:=g12.trans (g.weaken g12.le)
  clear g
  simp only [↓E1,E2,zA,zB,zC,zD,zE,zF,zG,zH,zI,zJ,zK,zL,zM,zN,reduceIte,zO,zP,h6]
  exact hK _ _ g13
omit H in
theorem msgT_eq (m : Msg) (hk : 0 ≤ m.kind ∧ m.kind < 17) : msgT (fromB m.kind m.frm) (toB m.kind m.to) m = msgB m:=by
  obtain ⟨kind,frm,to,view,normal,at',commit,round,client,session,number,code,agg,until',series,batch,log,text⟩:=m
  dsimp only at hk ⊢
  rcases kinds kind hk.1 hk.2 with rfl | rfl | rfl | rfl | rfl | rfl | rfl | rfl | rfl | rfl | rfl | rfl | rfl | rfl | rfl | rfl | rfl
  all_goals
    have hE : emptyB log = (lgB log && (decide (log.base = 0) && decide (log.ents.length = 0))):=by
      cases log with | mk base snap ents =>
      rw [Bool.eq_iff_iff]
      simp [emptyB,lgB,countB,-List.length_eq_zero_iff]
      constructor
      · rintro ⟨⟨rfl,h2⟩,h3⟩
        have:=List.length_eq_zero_iff.1 h3
        subst this
        simp [h2]
      · rintro ⟨h,rfl,h3⟩
        simp_all
    have hB : decide (batch.length = 0) = (batchB batch && decide (batch.length = 0)):=by
      rw [Bool.eq_iff_iff]
      simp only [Bool.and_eq_true,decide_eq_true_eq]
      refine ⟨λh=>⟨?_,h⟩,λh=>h.2⟩
      have:=List.length_eq_zero_iff.1 h
      subst this; rfl
    have hC : ∀ x : Int,decide (x = 0) = (decide (x = 0) && decide (0 ≤ x) && decide (x ≤ 2147483647)):=λx=>by
      rw [Bool.eq_iff_iff]; simp only [Bool.and_eq_true,decide_eq_true_eq]; omega
    clear hk
    rw [Bool.eq_iff_iff]
    obtain ⟨lb,hlb⟩ : ∃ b,lgB log = b:=⟨_,rfl⟩
    obtain ⟨bb,hbb⟩ : ∃ b,batchB batch = b:=⟨_,rfl⟩
    rw [hlb] at hE
    rw [hbb] at hB
    obtain ⟨fb,hfb⟩ : ∃ b,isNode frm = b:=⟨_,rfl⟩
    obtain ⟨fc,hfc⟩ : ∃ b,isClient frm = b:=⟨_,rfl⟩
    obtain ⟨tb,htb⟩ : ∃ b,isNode to = b:=⟨_,rfl⟩
    obtain ⟨tc,htc⟩ : ∃ b,isClient to = b:=⟨_,rfl⟩
    obtain ⟨nb,hnb⟩ : ∃ b,nameB series = b:=⟨_,rfl⟩
    have hBp : batch.length = 0 → bb = true:=by
      intro h
      have:=decide_eq_true h
      rw [hB] at this
      simp at this; exact this.1
  all_goals simp [hE,hlb,hbb,hfb,hfc,htb,htc,hnb,msgT,msgB,fromB,toB,whoB,placesB,cleanB,codeOk,serOk,batOk,lgOk,txtOk,hasF,fieldsL,List.range,List.range.loop,fieldOk,numV,limLo,limHi,countB,smallB,-List.length_eq_zero_iff]
  all_goals (clear hE hB hC hlb hbb hfb hfc htb htc hnb; (cases lb <;> cases bb <;> cases fb <;> cases fc <;> cases tb <;> cases tc <;> cases nb <;> simp [-List.length_eq_zero_iff] at hBp ⊢ <;> omega))
theorem ref4_May (m : Msg) (xb xe : SV) (hl : m.batch.length ≤ 1152921504606846976) (hok : Ok m.log) : BoolC P n_ref4_May [.ag (msgC m xb xe)] (λM=>MsgS M m xb xe) (msgB m):=boolC H.mx H.ref4_May 0 λfz mu n k hfr gg s1 h=>by
  obtain ⟨xl,xs,xk,xm⟩:=s1.1.len
  obtain ⟨yl,ys,yk,ym⟩:=s1.2.len
  rw [i_ref4_May,dc_at b_ref4_May_cut]
  have hmc : msgC m xb xe = msgC m xb xe:=rfl
  conv at hmc=>rhs; unfold msgC
  by_cases hk : 0 ≤ m.kind ∧ m.kind < 17
  · have hb0 : msgB m = msgT (fromB m.kind m.frm) (toB m.kind m.to) m:=(msgT_eq m hk).symm
    have g0:=Gr.refl (lo:=n) hfr
    have z1:=s1
    have hfr0:=hfr
    rw [hmc]
    have hA : True:=trivial
    have hle:=Nat.le_refl n
    have hk1:=hk.1
    have hk2:=hk.2
    simp only [↓E1,E2,zA,zB,zC,zD,zE,zF,zG,zH,zI,zJ,zK,zL,zM,zN,reduceIte,zO,zP, *]
    repeat' (first | ((with_reducible refine Br_intro (λhb=>?_) (λhb=>?_)) <;> (replace hA:=And.intro hA hb; clear hb; simp only [↓E1,E2,zA,zB,zC,zD,zE,zF,zG,zH,zI,zJ,zK,zL,zM,zN,reduceIte,zO,zP, *])) | ((with_reducible refine CPr_f (f:=n_ref4_fields) ?_); ((first | (refine (ref4_fields H _).d2 hfr (by first | trivial | exact s1 | assumption) ?_; rintro v mu2 n2 g2 rfl) | (refine (ref4_fields H _).d3 hfr (λhm=>by first | trivial | exact MsgS.mono hm s1) ?_; rintro v mu2 n2 g2 b1 rfl) | (refine (ref4_fields H _).c1 hfr (by first | trivial | exact s1 | assumption) ?_; rintro v mu2 n2 g2 rfl) | (refine (ref4_fields H _).c2 hfr (λhm=>by first | trivial | exact MsgS.mono hm s1) ?_; rintro v mu2 n2 g2 b1 rfl) | (refine (ref4_fields H _).c3 hfr (λhm=>by first | trivial | exact MsgS.mono hm s1) ?_; rintro v mu2 n2 g2 b1 b2 rfl)); (try replace b1:=g2.old hfr b1); (try replace s1:=MsgS.mono (λ_ _ hh=>g2.old hfr hh) s1); replace gg:=gg.trans (g2.weaken hle); replace hle:=Nat.le_trans hle g2.le; replace hfr:=g2.free; clear g2; simp only [↓E1,E2,zA,zB,zC,zD,zE,zF,zG,zH,zI,zJ,zK,zL,zM,zN,reduceIte,zO,zP, *])))
    all_goals try (have b9:=b1)
    repeat' (first | ((with_reducible refine Br_intro (λhb=>?_) (λhb=>?_)) <;> (replace hA:=And.intro hA hb; clear hb; simp only [↓E1,E2,zA,zB,zC,zD,zE,zF,zG,zH,zI,zJ,zK,zL,zM,zN,reduceIte,zO,zP, *])) | ((with_reducible refine CPr_f (f:=n_ref4_node) ?_); ((first | (refine (ref4_node H _).d2 hfr (by first | trivial | exact s1 | assumption) ?_; rintro v mu2 n2 g2 rfl) | (refine (ref4_node H _).d3 hfr (λhm=>by first | trivial | exact MsgS.mono hm s1) ?_; rintro v mu2 n2 g2 b1 rfl) | (refine (ref4_node H _).c1 hfr (by first | trivial | exact s1 | assumption) ?_; rintro v mu2 n2 g2 rfl) | (refine (ref4_node H _).c2 hfr (λhm=>by first | trivial | exact MsgS.mono hm s1) ?_; rintro v mu2 n2 g2 b1 rfl) | (refine (ref4_node H _).c3 hfr (λhm=>by first | trivial | exact MsgS.mono hm s1) ?_; rintro v mu2 n2 g2 b1 b2 rfl)); (try replace b1:=g2.old hfr b1); (try replace s1:=MsgS.mono (λ_ _ hh=>g2.old hfr hh) s1); replace gg:=gg.trans (g2.weaken hle); replace hle:=Nat.le_trans hle g2.le; replace hfr:=g2.free; clear g2; simp only [↓E1,E2,zA,zB,zC,zD,zE,zF,zG,zH,zI,zJ,zK,zL,zM,zN,reduceIte,zO,zP, *])))
    all_goals try clear b9
    repeat' (first | ((with_reducible refine Br_intro (λhb=>?_) (λhb=>?_)) <;> (replace hA:=And.intro hA hb; clear hb; simp only [↓E1,E2,zA,zB,zC,zD,zE,zF,zG,zH,zI,zJ,zK,zL,zM,zN,reduceIte,zO,zP, *])) | ((with_reducible refine CPr_f (f:=n_ref4_client) ?_); ((first | (refine (ref4_client H _).d2 hfr (by first | trivial | exact s1 | assumption) ?_; rintro v mu2 n2 g2 rfl) | (refine (ref4_client H _).d3 hfr (λhm=>by first | trivial | exact MsgS.mono hm s1) ?_; rintro v mu2 n2 g2 b1 rfl) | (refine (ref4_client H _).c1 hfr (by first | trivial | exact s1 | assumption) ?_; rintro v mu2 n2 g2 rfl) | (refine (ref4_client H _).c2 hfr (λhm=>by first | trivial | exact MsgS.mono hm s1) ?_; rintro v mu2 n2 g2 b1 rfl) | (refine (ref4_client H _).c3 hfr (λhm=>by first | trivial | exact MsgS.mono hm s1) ?_; rintro v mu2 n2 g2 b1 b2 rfl)); (try replace b1:=g2.old hfr b1); (try replace s1:=MsgS.mono (λ_ _ hh=>g2.old hfr hh) s1); replace gg:=gg.trans (g2.weaken hle); replace hle:=Nat.le_trans hle g2.le; replace hfr:=g2.free; clear g2; simp only [↓E1,E2,zA,zB,zC,zD,zE,zF,zG,zH,zI,zJ,zK,zL,zM,zN,reduceIte,zO,zP, *])))
    all_goals first
      | (exfalso; clear h; simp_all; omega)
      | (refine ref4_May_rest H m xb xe hk hl hok _ _ hfr (by rw [hmc]; exact b1) s1 (by simp [updN, updE, *]) (by simp [updN, updE, *]) (by first | (simp [updN, updE, *]; done) | (simp [updN, updE, *]; exact rfl)) (by first | (simp [updN, updE, *]; done) | (simp [updN, updE, *]; exact rfl)) ?_
         intro mu' n' g
         refine leafB h (gg.trans (g.weaken hle)) ?_
         rw [hb0]
         clear h gg hle hfr b1 s1 z1 g0 hmc xl yl
         congr 1
         all_goals simp_all [fromB,toB])
  · have hfr0:=hfr
    rw [hmc]
    have hA : True:=trivial
    have hle:=Nat.le_refl n
    simp only [↓E1,E2,zA,zB,zC,zD,zE,zF,zG,zH,zI,zJ,zK,zL,zM,zN,reduceIte,zO,zP, *]
    repeat' (first | ((with_reducible refine Br_intro (λhb=>?_) (λhb=>?_)) <;> (replace hA:=And.intro hA hb; clear hb; simp only [↓E1,E2,zA,zB,zC,zD,zE,zF,zG,zH,zI,zJ,zK,zL,zM,zN,reduceIte,zO,zP, *])))
    all_goals first
      | (exact absurd (And.intro (by have:=of_decide_eq_false hA.1.2; omega) (by have:=of_decide_eq_false hA.2; omega)) hk)
      | (refine leafB h (by first | exact gg | exact gg.cons hle _) ?_; clear h gg xl yl hfr hfr0 s1; simp_all [msgB]; try omega)
end Go.Proofs.Ytnnjlnkoomeadaa.Pv
namespace Go.Proofs.Ytnnjlnkoomeadaa.Pv
open Go.Ev Go.Ev.Rp
set_option maxRecDepth 100000
set_option maxHeartbeats 4000000
set_option linter.unusedSimpArgs false
set_option linter.unusedVariables false
set_option linter.unusedSectionVars false
def otherB (r : Rep) (m : Msg) : Bool:=repB r && msgB m && decide (m.to = r.me) && decide (0 ≤ m.frm) && decide (m.frm < r.nodes) && !decide (m.frm = r.me) && decide (m.view = r.view) && decide (r.status = 0)
variable {P : Program} (H : Fs P)
include H
theorem ref16_other (r : Rep) (xe xa xs xd : SV) (m : Msg) (zb zm : SV) (hl1 : r.starts.length ≤ 1152921504606846976) (hl2 : r.dos.length ≤ 1152921504606846976) (hl3 : r.acks.length ≤ 1152921504606846976) (hok1 : Ok r.log) (hok2 : ∀ d ∈ r.dos, Ok d.log) (hl4 : m.batch.length ≤ 1152921504606846976) (hok3 : Ok m.log) :
    BoolC P n_ref16_other [.ag (repC r xe xa xs xd),.ag (msgC m zb zm)] (λM=>RepS M r xe xa xs xd ∧ MsgS M m zb zm) (otherB r m):=boolC H.mx H.ref16_other 0 λfz mu n k hfr gg s h=>by
  obtain ⟨s1,s2⟩:=s
  obtain ⟨-,-,xek,xem⟩:=s1.1.len
  obtain ⟨-,-,xak,xam⟩:=s1.2.1.len
  obtain ⟨-,-,xsk,xsm⟩:=s1.2.2.1.len
  obtain ⟨-,-,xdk,xdm⟩:=s1.2.2.2.len
  obtain ⟨-,-,zbk,zbm⟩:=s2.1.len
  obtain ⟨-,-,zmk,zmm⟩:=s2.2.len
  have hM:=ref16_May H r xe xa xs xd hl1 hl2 hl3 hok1 hok2
  have hL:=ref4_May H m zb zm hl4 hok3
  rw [i_ref16_other,dc_at b_ref16_other.eq_1]
  unfold repC at hM ⊢
  unfold msgC at hL ⊢
  have hA : True:=trivial
  have hle:=Nat.le_refl n
  simp only [↓E1,E2,zA,zB,zC,zD,zE,zF,zG,zH,zI,zJ,zK,zL,zM,zN,reduceIte,zO,zP, *]
  repeat' (first | ((with_reducible refine Br_intro (λhb=>?_) (λhb=>?_)) <;> (replace hA:=And.intro hA hb; clear hb; simp only [↓E1,E2,zA,zB,zC,zD,zE,zF,zG,zH,zI,zJ,zK,zL,zM,zN,reduceIte,zO,zP, *])) | ((with_reducible refine CPr_f (f:=n_ref16_May) ?_); ((first | (refine (hM).d2 hfr (by first | trivial | exact s1 | exact s2 | assumption) ?_; rintro v mu2 n2 g2 rfl) | (refine (hM).d3 hfr (λhm=>by first | trivial | exact RepS.mono hm s1 | exact MsgS.mono hm s2) ?_; rintro v mu2 n2 g2 b1 rfl) | (refine (hM).c1 hfr (by first | trivial | exact s1 | exact s2 | assumption) ?_; rintro v mu2 n2 g2 rfl) | (refine (hM).c2 hfr (λhm=>by first | trivial | exact RepS.mono hm s1 | exact MsgS.mono hm s2) ?_; rintro v mu2 n2 g2 b1 rfl) | (refine (hM).c3 hfr (λhm=>by first | trivial | exact RepS.mono hm s1 | exact MsgS.mono hm s2) ?_; rintro v mu2 n2 g2 b1 b2 rfl)); (try replace b1:=g2.old hfr b1); (try replace b2:=g2.old hfr b2); (try replace s1:=RepS.mono (λ_ _ hh=>g2.old hfr hh) s1); (try replace s2:=MsgS.mono (λ_ _ hh=>g2.old hfr hh) s2); replace gg:=gg.trans (g2.weaken hle); replace hle:=Nat.le_trans hle g2.le; replace hfr:=g2.free; clear g2; simp only [↓E1,E2,zA,zB,zC,zD,zE,zF,zG,zH,zI,zJ,zK,zL,zM,zN,reduceIte,zO,zP, *])) | ((with_reducible refine CPr_f (f:=n_ref4_May) ?_); ((first | (refine (hL).d2 hfr (by first | trivial | exact s1 | exact s2 | assumption) ?_; rintro v mu2 n2 g2 rfl) | (refine (hL).d3 hfr (λhm=>by first | trivial | exact RepS.mono hm s1 | exact MsgS.mono hm s2) ?_; rintro v mu2 n2 g2 b1 rfl) | (refine (hL).c1 hfr (by first | trivial | exact s1 | exact s2 | assumption) ?_; rintro v mu2 n2 g2 rfl) | (refine (hL).c2 hfr (λhm=>by first | trivial | exact RepS.mono hm s1 | exact MsgS.mono hm s2) ?_; rintro v mu2 n2 g2 b1 rfl) | (refine (hL).c3 hfr (λhm=>by first | trivial | exact RepS.mono hm s1 | exact MsgS.mono hm s2) ?_; rintro v mu2 n2 g2 b1 b2 rfl)); (try replace b1:=g2.old hfr b1); (try replace b2:=g2.old hfr b2); (try replace s1:=RepS.mono (λ_ _ hh=>g2.old hfr hh) s1); (try replace s2:=MsgS.mono (λ_ _ hh=>g2.old hfr hh) s2); replace gg:=gg.trans (g2.weaken hle); replace hle:=Nat.le_trans hle g2.le; replace hfr:=g2.free; clear g2; simp only [↓E1,E2,zA,zB,zC,zD,zE,zF,zG,zH,zI,zJ,zK,zL,zM,zN,reduceIte,zO,zP, *])))
  all_goals try (refine leafB h gg ?_; clear h gg hfr hM hL s1 s2 b1 b2; first | (simp_all [otherB]; done) | (simp_all [otherB]; intros; omega))
end Go.Proofs.Ytnnjlnkoomeadaa.Pv
namespace Go.Ev
end Go.Ev
namespace Go.Proofs.Ytnnjlnkoomeadaa.Pv
open Go.Ev Go.Ev.Rp
set_option maxRecDepth 100000
set_option maxHeartbeats 4000000
set_option linter.unusedSimpArgs false
set_option linter.unusedVariables false
set_option linter.unusedSectionVars false
def IntR (_ : Fz) (c : List SV) (a : Int) : Prop:=c = intC a
theorem all2_ints {M : Fz} : ∀ {cs : List (List SV)} {l : List Int},All2 (IntR M) cs l → cs = l.map intC
  | [],[],_=>rfl
  | c :: cs,a :: l,h=>by rw [show c = intC a from h.1,all2_ints h.2]; rfl
theorem grow_ints {lo : Nat} {M : Fz} {x : SV} {l : List Int} (h : Grow lo M 1 IntR x l) : IntsX (From lo M) x l:=by
  obtain ⟨cs,h1,h2⟩:=h
  rw [all2_ints h2] at h1; exact h1
variable {P : Program} (H : Fs P)
include H
end Go.Proofs.Ytnnjlnkoomeadaa.Pv
namespace Go.Proofs.Ytnnjlnkoomeadaa.Pv
open Go.Ev Go.Ev.Rp
set_option maxRecDepth 100000
set_option maxHeartbeats 4000000
set_option linter.unusedSimpArgs false
set_option linter.unusedVariables false
set_option linter.unusedSectionVars false
def b2n (b : Bool) : Nat:=if b then 1 else 0
theorem putStep_len (x : Int) (d : Bool) (o : List Int) (y : Int) : (putStep x (d,o) y).2.length + b2n d ≤ o.length + 1 + b2n (putStep x (d,o) y).1:=by
  cases d <;> by_cases h1 : x ≤ y <;> by_cases h2 : y = x <;> simp [putStep,h1,h2,b2n]
theorem putF_len (x : Int) (l : List Int) : ∀ (d : Bool) (o : List Int),(l.foldl (putStep x) (d,o)).2.length + b2n d ≤ o.length + l.length + b2n (l.foldl (putStep x) (d,o)).1:=by
  induction l with
  | nil=>intro d o; simp
  | cons y l ih =>
    intro d o
    have h2:=putStep_len x d o y
    obtain ⟨d',o',h3⟩ : ∃ d' o',putStep x (d,o) y = (d',o'):=⟨_,_,rfl⟩
    have h1:=ih d' o'
    simp only [List.foldl_cons,List.length_cons]
    rw [h3] at h2 ⊢
    simp only at h2
    omega
theorem putF_take {l : List Int} {t : Int} {i : Nat} (h : i < l.length) : putF (l.take (i + 1)) t = putStep t (putF (l.take i) t) l[i]:=by
  unfold putF
  rw [List.take_succ_eq_append_getElem h,List.foldl_append]; rfl
variable {P : Program} (H : Fs P)
include H
theorem ref16_put (x : SV) (l : List Int) (t : Int) (hl : l.length ≤ 17592186044410) : Ctr P n_ref16_put [.one x,.one (I t)] (λM=>IntsR M x l) (λn _ M v=>∃ x',v = .one x' ∧ IntsX (From n M) x' (putL l t)):=Ctr.of H.mx H.ref16_put (λ_=>l.length + 1) λfz mu n k hfr s1 hk=>by
  obtain ⟨xl,xs,xk,xm⟩:=s1.len
  rw [i_ref16_put,dc_at b_ref16_put.eq_1]
  simp only [↓E1,E2,zA,zB,zC,zD,zE,zF,zG,zH,zI,zJ,zK,zL,zM,zN,reduceIte,zO,zP, *]
  refine loopI (x:=0) (L:=l.length) (p:=λ_=>true) (λi e mu' n'=>∃ xo,Gr n fz mu mu' n n' ∧ Grow n (with' mu' fz) 1 IntR xo (putF (l.take i) t).2 ∧ e 0 0 = .one x ∧ e 0 1 = .one (I t) ∧ e 0 5 = .one xo ∧ e 0 6 = .one (.bool (putF (l.take i) t).1) ∧ e 0 7 = .one (.int .i64 i)) (λe mu' n'=>False) ?_ ?_ _ _ _ _ _ (by omega) ?_ ?_ ?_
  · rintro i e mu1 n1 K hi ⟨xo,g1,c4,e0,e1,e5,e6,e7⟩ hy hn
    rw [dc_at l_ref16_put_0.eq_1]
    have hw:=wrap_succ hi (by omega)
    obtain ⟨id,off,cap,B,rfl,hB0,hmk,hbd,hsub⟩:=s1.elem hi
    have hB:=g1.old hfr hB0
    have hnext:=putF_take (t:=t) hi
    have hlen:=putF_len t (l.take i) false []
    rw [show (l.take i).foldl (putStep t) (false,[]) = putF (l.take i) t from rfl] at hlen
    rw [List.length_take] at hlen
    obtain ⟨d,o,hdo⟩ : ∃ d o,putF (l.take i) t = (d,o):=⟨_,_,rfl⟩
    rw [hdo] at c4 e6 hnext hlen
    simp only at c4 e6 hlen
    obtain ⟨xol,xos,xok,xom⟩:=c4.len
    rw [hnext] at hy
    clear hdo hnext hn
    obtain ⟨y,hyl⟩ : ∃ y,l[i] = y:=⟨_,rfl⟩
    rw [hyl] at hy hsub
    have app : ∀ (k' : KT Prop) (b : Int) (mu3 : St) (n3 : Nat) (xo3 : SV) (o3 : List Int),Gr n fz mu mu3 n n3 → Grow n (with' mu3 fz) 1 IntR xo3 o3 → o3.length ≤ i + 1 → (∀ mu4 n4 xo4,Gr n fz mu mu4 n n4 → Grow n (with' mu4 fz) 1 IntR xo4 (o3 ++ [b]) → k' (.one xo4) mu4 n4) → onApp ((n3,[I b]) :: mu3) (n3 + 1) 1 8 xo3 [I b] 1 k':=by
      intro k' b mu3 n3 xo3 o3 g3 G3 hl3 hk'
      exact Grow.more (R:=IntR) (λ_ h=>h) (a:=b) G3 g3.free g3.le (λj hj=>hfr.fz j hj) ((Gr.refl g3.free).cons (Nat.le_refl _) _) rfl ⟨rfl,rfl⟩ (fits_le (by omega) (by decide) (by decide)) (λmu4 g4 G4=>hk' mu4 _ _ (g3.trans g4) G4)
    have app:=Hide.mk app
    cases d with
    | false =>
      simp only [b2n] at hlen
      simp only [↓E1,E2,zA,zB,zC,zD,zE,zF,zG,zH,zI,zJ,zK,zL,zM,zN,reduceIte,zO,zP, *]
      refine Br_intro (λha=>?_) (λha=>?_)
      · simp only [↓E1,E2,zA,zB,zC,zD,zE,zF,zG,zH,zI,zJ,zK,zL,zM,zN,reduceIte,zO,zP, *]
        refine app.out _ _ _ _ _ _ g1 c4 (by simp at hlen; omega) (λmu4 n4 xo4 g4 G4=>?_)
        have hB4:=g4.old hfr hB0
        obtain ⟨xol4,xos4,xok4,xom4⟩:=G4.len
        clear hB
        simp only [↓E1,E2,zA,zB,zC,zD,zE,zF,zG,zH,zI,zJ,zK,zL,zM,zN,reduceIte,zO,zP, *]
        refine Br_intro (λhb=>?_) (λhb=>?_)
        · have hps : putStep t (false, o) y = (true, o ++ [t]) := by
            have h1 : t ≤ y:=of_decide_eq_true ha
            have h2 : y = t:=of_decide_eq_true hb
            simp [putStep,h1,h2]
          rw [hps] at hy
          simp only [↓E1,E2,zA,zB,zC,zD,zE,zF,zG,zH,zI,zJ,zK,zL,zM,zN,reduceIte,zO,zP, *]
          exact hy rfl _ _ _ ⟨xo4,g4,G4,by simp [updN,updE, *],by simp [updN,updE, *],by simp [updN,updE, *],by simp [updN,updE, *],by simp [updN,updE, *]⟩
        · have hps : putStep t (false, o) y = (true, o ++ [t] ++ [y]) := by
            have h1 : t ≤ y:=of_decide_eq_true ha
            have h2 : ¬ y = t:=of_decide_eq_false hb
            simp [putStep,h1,h2]
          rw [hps] at hy
          simp only [↓E1,E2,zA,zB,zC,zD,zE,zF,zG,zH,zI,zJ,zK,zL,zM,zN,reduceIte,zO,zP, *]
          refine app.out _ _ _ _ _ _ g4 G4 (by simp at hlen ⊢; omega) (λmu5 n5 xo5 g5 G5=>?_)
          simp only [↓E1,E2,zA,zB,zC,zD,zE,zF,zG,zH,zI,zJ,zK,zL,zM,zN,reduceIte,zO,zP, *]
          exact hy rfl _ _ _ ⟨xo5,g5,G5,by simp [updN,updE, *],by simp [updN,updE, *],by simp [updN,updE, *],by simp [updN,updE, *],by simp [updN,updE, *]⟩
      · simp only [↓E1,E2,zA,zB,zC,zD,zE,zF,zG,zH,zI,zJ,zK,zL,zM,zN,reduceIte,zO,zP, *]
        refine Br_intro (λhb=>?_) (λhb=>?_)
        · have h1 : ¬ t ≤ y:=of_decide_eq_false ha
          have h2 : y = t:=of_decide_eq_true hb
          omega
        · have hps : putStep t (false, o) y = (false, o ++ [y]) := by
            have h1 : ¬ t ≤ y:=of_decide_eq_false ha
            have h2 : ¬ y = t:=of_decide_eq_false hb
            simp [putStep,h1,h2]
          rw [hps] at hy
          simp only [↓E1,E2,zA,zB,zC,zD,zE,zF,zG,zH,zI,zJ,zK,zL,zM,zN,reduceIte,zO,zP, *]
          refine app.out _ _ _ _ _ _ g1 c4 (by simp at hlen; omega) (λmu5 n5 xo5 g5 G5=>?_)
          simp only [↓E1,E2,zA,zB,zC,zD,zE,zF,zG,zH,zI,zJ,zK,zL,zM,zN,reduceIte,zO,zP, *]
          exact hy rfl _ _ _ ⟨xo5,g5,G5,by simp [updN,updE, *],by simp [updN,updE, *],by simp [updN,updE, *],by simp [updN,updE, *],by simp [updN,updE, *]⟩
    | true =>
      simp only [b2n] at hlen
      simp only [↓E1,E2,zA,zB,zC,zD,zE,zF,zG,zH,zI,zJ,zK,zL,zM,zN,reduceIte,zO,zP, *]
      refine Br_intro (λhb=>?_) (λhb=>?_)
      · have hps : putStep t (true, o) y = (true, o) := by
          have h2 : y = t:=of_decide_eq_true hb
          simp [putStep,h2]
        rw [hps] at hy
        simp only [↓E1,E2,zA,zB,zC,zD,zE,zF,zG,zH,zI,zJ,zK,zL,zM,zN,reduceIte,zO,zP, *]
        exact hy rfl _ _ _ ⟨xo,g1,c4,by simp [updN,updE, *],by simp [updN,updE, *],by simp [updN,updE, *],by simp [updN,updE, *],by simp [updN,updE, *]⟩
      · have hps : putStep t (true, o) y = (true, o ++ [y]) := by
          have h2 : ¬ y = t:=of_decide_eq_false hb
          simp [putStep,h2]
        rw [hps] at hy
        simp only [↓E1,E2,zA,zB,zC,zD,zE,zF,zG,zH,zI,zJ,zK,zL,zM,zN,reduceIte,zO,zP, *]
        refine app.out _ _ _ _ _ _ g1 c4 (by simp at hlen; omega) (λmu5 n5 xo5 g5 G5=>?_)
        simp only [↓E1,E2,zA,zB,zC,zD,zE,zF,zG,zH,zI,zJ,zK,zL,zM,zN,reduceIte,zO,zP, *]
        exact hy rfl _ _ _ ⟨xo5,g5,G5,by simp [updN,updE, *],by simp [updN,updE, *],by simp [updN,updE, *],by simp [updN,updE, *],by simp [updN,updE, *]⟩
  · rintro e mu1 n1 K ⟨xo,g1,c4,e0,e1,e5,e6,e7⟩ hx
    rw [dc_at l_ref16_put_0.eq_1]
    have hlt : (l.length < l.length) = False:=by simp
    simp only [↓E1,E2,zA,zB,zC,zD,zE,zF,zG,zH,zI,zJ,zK,zL,zM,zN,reduceIte,zO,zP, *]
    exact hx _ _ _ ⟨xo,g1,c4,by simp [updN,updE,e0],by simp [updN,updE,e1],by simp [updN,updE,e5],by simp [updN,updE,e6],by simp [updN,updE,e7]⟩
  · exact ⟨.nsl,Gr.refl hfr,Grow.nil,by simp [updN,updE,envI],by simp [updN,updE,envI],by simp [updN,updE],by simp [updN,updE,putF],by simp [updN,updE]⟩
  · rintro - e1 mu1 n1 ⟨xo,g1,c4,e0,e1,e5,e6,e7⟩
    rw [List.take_length] at c4 e6
    obtain ⟨xol,xos,xok,xom⟩:=c4.len
    have hlen:=putF_len t l false []
    rw [show l.foldl (putStep t) (false,[]) = putF l t from rfl] at hlen
    simp only [↓E1,E2,zA,zB,zC,zD,zE,zF,zG,zH,zI,zJ,zK,zL,zM,zN,reduceIte,zO,zP, *]
    refine Br_intro (λha=>?_) (λha=>?_)
    · have hp : putL l t = (putF l t).2:=by unfold putL; rw [ha]; rfl
      simp only [↓E1,E2,zA,zB,zC,zD,zE,zF,zG,zH,zI,zJ,zK,zL,zM,zN,reduceIte,zO,zP, *]
      exact hk _ _ _ g1 ⟨xo,rfl,by rw [hp]; exact grow_ints c4⟩
    · have hp : putL l t = (putF l t).2 ++ [t]:=by unfold putL; rw [ha]; rfl
      rw [ha] at hlen
      simp only [↓E1,E2,zA,zB,zC,zD,zE,zF,zG,zH,zI,zJ,zK,zL,zM,zN,reduceIte,zO,zP, *]
      refine Grow.more (R:=IntR) (λ_ h=>h) (a:=t) c4 g1.free g1.le (λj hj=>hfr.fz j hj) ((Gr.refl g1.free).cons (Nat.le_refl _) _) rfl ⟨rfl,rfl⟩ (fits_le (by simp [b2n] at hlen; omega) (by decide) (by decide)) (λmu4 g4 G4=>?_)
      simp only [↓E1,E2,zA,zB,zC,zD,zE,zF,zG,zH,zI,zJ,zK,zL,zM,zN,reduceIte,zO,zP, *]
      exact hk _ _ _ (g1.trans g4) ⟨_,rfl,by rw [hp]; exact grow_ints G4⟩
  · rintro ⟨_,_,_,h⟩; cases h
end Go.Proofs.Ytnnjlnkoomeadaa.Pv
namespace Go.Proofs.Ytnnjlnkoomeadaa.Pv
open Go.Ev Go.Ev.Rp
set_option maxRecDepth 100000
set_option maxHeartbeats 4000000
set_option linter.unusedSimpArgs false
set_option linter.unusedVariables false
set_option linter.unusedSectionVars false
theorem got_eq (r : Rep) (x : Rd) (m : Msg) : (decide (m.kind = 13) && otherB r m && decide (m.round = x.round) && leadB r) = gotB r x m:=by
  by_cases hk : m.kind = 13
  · have h1 : msgB m = true → 0 ≤ m.frm := by
      intro h
      unfold msgB whoB isNode at h
      rw [hk] at h
      simp at h
      omega
    have h2 : leadB r = true → r.status = 0:=by
      intro h
      unfold leadB at h
      simp at h
      omega
    unfold gotB otherB
    cases e1 : msgB m <;> cases e2 : leadB r <;> cases e3 : repB r <;> simp [hk,e1,e2,e3]
    have h1:=h1 e1
    have h2:=h2 e2
    rw [Bool.eq_iff_iff]
    simp [h1,h2]
    intros; omega
  · simp [gotB,hk]
variable {P : Program} (H : Fs P)
include H
theorem ref16_Got (r : Rep) (xe xa xs xd : SV) (x : Rd) (ya yb ym : SV) (m : Msg) (zb zm : SV) (hz : RepSz r) (ha : x.agreed.length ≤ 17592186044410) (hm1 : m.batch.length ≤ 1152921504606846976) (hm2 : Ok m.log) (hok1 : Ok r.log) (hok2 : ∀ d ∈ r.dos, Ok d.log) :
    Ctr P n_ref16_Got [.ag (repC r xe xa xs xd),.ag (rdC x ya yb ym),.ag (msgC m zb zm)] (λM=>RepS M r xe xa xs xd ∧ IntsR M ya x.agreed ∧ MsgS M x.msg yb ym ∧ MsgS M m zb zm)
      (λn _ M v=>∃ xa',v = .ag (rdC (got r x m) xa' yb ym) ∧ IntsX (From n M) xa' (got r x m).agreed):=Ctr.of H.mx H.ref16_Got (λ_=>0) λfz mu n k hfr s hk=>by
  obtain ⟨s1,t1,t2,t3⟩:=s
  obtain ⟨-,-,xek,xem⟩:=s1.1.len
  obtain ⟨-,-,xak,xam⟩:=s1.2.1.len
  obtain ⟨-,-,xsk,xsm⟩:=s1.2.2.1.len
  obtain ⟨-,-,xdk,xdm⟩:=s1.2.2.2.len
  obtain ⟨yal,yas,yak,yam⟩:=t1.len
  obtain ⟨-,-,ybk,ybm⟩:=t2.1.len
  obtain ⟨-,-,ymk,ymm⟩:=t2.2.len
  obtain ⟨-,-,zbk,zbm⟩:=t3.1.len
  obtain ⟨-,-,zmk,zmm⟩:=t3.2.len
  have hO:=ref16_other H r xe xa xs xd m zb zm (by have:=hz.starts; omega) (by have:=hz.dos; omega) (by have:=hz.acks; omega) hok1 hok2 hm1 hm2
  have hL:=ref16_lead H r xe xa xs xd
  have hge:=got_eq r x m
  rw [i_ref16_Got,dc_at b_ref16_Got.eq_1,rdC_eq]
  have gg : Gr n fz mu ((n + 1 + 1 + 1,[I 0,I 0,I 0,.nsl,I 0,I 0,I 0,I 0,I 0,I 0,I 0,I 0,I 0,I 0,I 0,I 0,I 0,I 0,.str 0 0,.nsl,I 0,.str 0 0,.nsl,.str 0 0]) :: (n + 1 + 1,[I m.kind,I m.frm,I m.to,I m.view,I m.normal,I m.at',I m.commit,I m.round,I m.client,I m.session,I m.number,I m.code,I m.agg,I m.until',m.series.sv,zb,I m.log.base,m.log.snap.sv,zm,m.text.sv]) :: (n + 1,[I x.round,I x.at',I x.client,ya,I x.msg.kind,I x.msg.frm,I x.msg.to,I x.msg.view,I x.msg.normal,I x.msg.at',I x.msg.commit,I x.msg.round,I x.msg.client,I x.msg.session,I x.msg.number,I x.msg.code,I x.msg.agg,I x.msg.until',x.msg.series.sv,yb,I x.msg.log.base,x.msg.log.snap.sv,ym,x.msg.text.sv]) :: (n,[I r.me,I r.nodes,I r.view,I r.normal,I r.status,I r.commit,.bool r.sent,I r.log.base,r.log.snap.sv,xe,xa,xs,xd]) :: mu) n (n + 1 + 1 + 1 + 1):=(((gr2 hfr).cons (by omega) _).cons (by omega) _)
  have b1 : Ev.look ((n + 1 + 1 + 1,[I 0,I 0,I 0,.nsl,I 0,I 0,I 0,I 0,I 0,I 0,I 0,I 0,I 0,I 0,I 0,I 0,I 0,I 0,.str 0 0,.nsl,I 0,.str 0 0,.nsl,.str 0 0]) :: (n + 1 + 1,[I m.kind,I m.frm,I m.to,I m.view,I m.normal,I m.at',I m.commit,I m.round,I m.client,I m.session,I m.number,I m.code,I m.agg,I m.until',m.series.sv,zb,I m.log.base,m.log.snap.sv,zm,m.text.sv]) :: (n + 1,[I x.round,I x.at',I x.client,ya,I x.msg.kind,I x.msg.frm,I x.msg.to,I x.msg.view,I x.msg.normal,I x.msg.at',I x.msg.commit,I x.msg.round,I x.msg.client,I x.msg.session,I x.msg.number,I x.msg.code,I x.msg.agg,I x.msg.until',x.msg.series.sv,yb,I x.msg.log.base,x.msg.log.snap.sv,ym,x.msg.text.sv]) :: (n,[I r.me,I r.nodes,I r.view,I r.normal,I r.status,I r.commit,.bool r.sent,I r.log.base,r.log.snap.sv,xe,xa,xs,xd]) :: mu) n = some [I r.me,I r.nodes,I r.view,I r.normal,I r.status,I r.commit,.bool r.sent,I r.log.base,r.log.snap.sv,xe,xa,xs,xd]:=by rw [look_c,if_neg (by omega),look_c,if_neg (by omega),look_c,if_neg (by omega),look_c,if_pos rfl]
  have b2 : Ev.look ((n + 1 + 1 + 1,[I 0,I 0,I 0,.nsl,I 0,I 0,I 0,I 0,I 0,I 0,I 0,I 0,I 0,I 0,I 0,I 0,I 0,I 0,.str 0 0,.nsl,I 0,.str 0 0,.nsl,.str 0 0]) :: (n + 1 + 1,[I m.kind,I m.frm,I m.to,I m.view,I m.normal,I m.at',I m.commit,I m.round,I m.client,I m.session,I m.number,I m.code,I m.agg,I m.until',m.series.sv,zb,I m.log.base,m.log.snap.sv,zm,m.text.sv]) :: (n + 1,[I x.round,I x.at',I x.client,ya,I x.msg.kind,I x.msg.frm,I x.msg.to,I x.msg.view,I x.msg.normal,I x.msg.at',I x.msg.commit,I x.msg.round,I x.msg.client,I x.msg.session,I x.msg.number,I x.msg.code,I x.msg.agg,I x.msg.until',x.msg.series.sv,yb,I x.msg.log.base,x.msg.log.snap.sv,ym,x.msg.text.sv]) :: (n,[I r.me,I r.nodes,I r.view,I r.normal,I r.status,I r.commit,.bool r.sent,I r.log.base,r.log.snap.sv,xe,xa,xs,xd]) :: mu) (n + 1) = some [I x.round,I x.at',I x.client,ya,I x.msg.kind,I x.msg.frm,I x.msg.to,I x.msg.view,I x.msg.normal,I x.msg.at',I x.msg.commit,I x.msg.round,I x.msg.client,I x.msg.session,I x.msg.number,I x.msg.code,I x.msg.agg,I x.msg.until',x.msg.series.sv,yb,I x.msg.log.base,x.msg.log.snap.sv,ym,x.msg.text.sv]:=by rw [look_c,if_neg (by omega),look_c,if_neg (by omega),look_c,if_pos rfl]
  have b3 : Ev.look ((n + 1 + 1 + 1,[I 0,I 0,I 0,.nsl,I 0,I 0,I 0,I 0,I 0,I 0,I 0,I 0,I 0,I 0,I 0,I 0,I 0,I 0,.str 0 0,.nsl,I 0,.str 0 0,.nsl,.str 0 0]) :: (n + 1 + 1,[I m.kind,I m.frm,I m.to,I m.view,I m.normal,I m.at',I m.commit,I m.round,I m.client,I m.session,I m.number,I m.code,I m.agg,I m.until',m.series.sv,zb,I m.log.base,m.log.snap.sv,zm,m.text.sv]) :: (n + 1,[I x.round,I x.at',I x.client,ya,I x.msg.kind,I x.msg.frm,I x.msg.to,I x.msg.view,I x.msg.normal,I x.msg.at',I x.msg.commit,I x.msg.round,I x.msg.client,I x.msg.session,I x.msg.number,I x.msg.code,I x.msg.agg,I x.msg.until',x.msg.series.sv,yb,I x.msg.log.base,x.msg.log.snap.sv,ym,x.msg.text.sv]) :: (n,[I r.me,I r.nodes,I r.view,I r.normal,I r.status,I r.commit,.bool r.sent,I r.log.base,r.log.snap.sv,xe,xa,xs,xd]) :: mu) (n + 1 + 1) = some [I m.kind,I m.frm,I m.to,I m.view,I m.normal,I m.at',I m.commit,I m.round,I m.client,I m.session,I m.number,I m.code,I m.agg,I m.until',m.series.sv,zb,I m.log.base,m.log.snap.sv,zm,m.text.sv]:=by rw [look_c,if_neg (by omega),look_c,if_pos rfl]
  have b4 : Ev.look ((n + 1 + 1 + 1,[I 0,I 0,I 0,.nsl,I 0,I 0,I 0,I 0,I 0,I 0,I 0,I 0,I 0,I 0,I 0,I 0,I 0,I 0,.str 0 0,.nsl,I 0,.str 0 0,.nsl,.str 0 0]) :: (n + 1 + 1,[I m.kind,I m.frm,I m.to,I m.view,I m.normal,I m.at',I m.commit,I m.round,I m.client,I m.session,I m.number,I m.code,I m.agg,I m.until',m.series.sv,zb,I m.log.base,m.log.snap.sv,zm,m.text.sv]) :: (n + 1,[I x.round,I x.at',I x.client,ya,I x.msg.kind,I x.msg.frm,I x.msg.to,I x.msg.view,I x.msg.normal,I x.msg.at',I x.msg.commit,I x.msg.round,I x.msg.client,I x.msg.session,I x.msg.number,I x.msg.code,I x.msg.agg,I x.msg.until',x.msg.series.sv,yb,I x.msg.log.base,x.msg.log.snap.sv,ym,x.msg.text.sv]) :: (n,[I r.me,I r.nodes,I r.view,I r.normal,I r.status,I r.commit,.bool r.sent,I r.log.base,r.log.snap.sv,xe,xa,xs,xd]) :: mu) (n + 1 + 1 + 1) = some [I 0,I 0,I 0,.nsl,I 0,I 0,I 0,I 0,I 0,I 0,I 0,I 0,I 0,I 0,I 0,I 0,I 0,I 0,.str 0 0,.nsl,I 0,.str 0 0,.nsl,.str 0 0]:=by rw [look_c,if_pos rfl]
  obtain ⟨m0,hm0⟩ : ∃ mz : St,((n + 1 + 1 + 1,[I 0,I 0,I 0,.nsl,I 0,I 0,I 0,I 0,I 0,I 0,I 0,I 0,I 0,I 0,I 0,I 0,I 0,I 0,.str 0 0,.nsl,I 0,.str 0 0,.nsl,.str 0 0]) :: (n + 1 + 1,[I m.kind,I m.frm,I m.to,I m.view,I m.normal,I m.at',I m.commit,I m.round,I m.client,I m.session,I m.number,I m.code,I m.agg,I m.until',m.series.sv,zb,I m.log.base,m.log.snap.sv,zm,m.text.sv]) :: (n + 1,[I x.round,I x.at',I x.client,ya,I x.msg.kind,I x.msg.frm,I x.msg.to,I x.msg.view,I x.msg.normal,I x.msg.at',I x.msg.commit,I x.msg.round,I x.msg.client,I x.msg.session,I x.msg.number,I x.msg.code,I x.msg.agg,I x.msg.until',x.msg.series.sv,yb,I x.msg.log.base,x.msg.log.snap.sv,ym,x.msg.text.sv]) :: (n,[I r.me,I r.nodes,I r.view,I r.normal,I r.status,I r.commit,.bool r.sent,I r.log.base,r.log.snap.sv,xe,xa,xs,xd]) :: mu) = mz:=⟨_,rfl⟩
  rw [hm0] at gg b1 b2 b3 b4
  unfold repC at hO hL ⊢
  unfold msgC at hO ⊢
  have w1:=look_with (fz:=fz) b1
  have w2:=look_with (fz:=fz) b2
  have w3:=look_with (fz:=fz) b3
  have w4:=look_with (fz:=fz) b4
  simp only [↓E1,E2,zA,zB,zC,zD,zE,zF,zG,zH,zI,zJ,zK,zL,zM,zN,reduceIte,zO,zP, *]
  try rw [hm0]
  clear hm0
  try simp only [↓E1,E2,zA,zB,zC,zD,zE,zF,zG,zH,zI,zJ,zK,zL,zM,zN,reduceIte,zO,zP, *]
  obtain ⟨h1,h2⟩:=onSrc_Sl (Sl.mono t1 ((gg.sub hfr (Nat.le_refl _)).trans (sub1 gg.free (c:=[]))))
  rw [h1]; clear h1
  refine ⟨h2,app_empty gg.free (fits_le (by simp; omega) (by decide) (by decide)) int_ok (λxa' m1 n1 g1 hxa=>?_)⟩
  have l1:=g1.le
  obtain ⟨-,-,zak,zam⟩:=SlX.len hxa
  have c1:=(g1.own n (by omega)).trans b1
  have c2:=(g1.own (n + 1) (by omega)).trans b2
  have c3:=(g1.own (n + 1 + 1) (by omega)).trans b3
  have c4:=(g1.own (n + 1 + 1 + 1) (by omega)).trans b4
  clear w1 w2 w3 w4 h2
  have w1:=look_with (fz:=fz) c1
  have w2:=look_with (fz:=fz) c2
  have w3:=look_with (fz:=fz) c3
  have w4:=look_with (fz:=fz) c4
  replace gg:=(gg.trans (g1.weaken (by omega))).put (id:=n + 1) (by omega) c2 (c:=over [I x.round,I x.at',I x.client,ya,I x.msg.kind,I x.msg.frm,I x.msg.to,I x.msg.view,I x.msg.normal,I x.msg.at',I x.msg.commit,I x.msg.round,I x.msg.client,I x.msg.session,I x.msg.number,I x.msg.code,I x.msg.agg,I x.msg.until',x.msg.series.sv,yb,I x.msg.log.base,x.msg.log.snap.sv,ym,x.msg.text.sv] 3 [xa'])
  replace b1 : Ev.look (putS m1 (n + 1) (over [I x.round,I x.at',I x.client,ya,I x.msg.kind,I x.msg.frm,I x.msg.to,I x.msg.view,I x.msg.normal,I x.msg.at',I x.msg.commit,I x.msg.round,I x.msg.client,I x.msg.session,I x.msg.number,I x.msg.code,I x.msg.agg,I x.msg.until',x.msg.series.sv,yb,I x.msg.log.base,x.msg.log.snap.sv,ym,x.msg.text.sv] 3 [xa'])) n = some [I r.me,I r.nodes,I r.view,I r.normal,I r.status,I r.commit,.bool r.sent,I r.log.base,r.log.snap.sv,xe,xa,xs,xd]:=(by rw [look_putS,if_neg (by omega)]; exact c1)
  replace b2 : Ev.look (putS m1 (n + 1) (over [I x.round,I x.at',I x.client,ya,I x.msg.kind,I x.msg.frm,I x.msg.to,I x.msg.view,I x.msg.normal,I x.msg.at',I x.msg.commit,I x.msg.round,I x.msg.client,I x.msg.session,I x.msg.number,I x.msg.code,I x.msg.agg,I x.msg.until',x.msg.series.sv,yb,I x.msg.log.base,x.msg.log.snap.sv,ym,x.msg.text.sv] 3 [xa'])) (n + 1) = some [I x.round,I x.at',I x.client,xa',I x.msg.kind,I x.msg.frm,I x.msg.to,I x.msg.view,I x.msg.normal,I x.msg.at',I x.msg.commit,I x.msg.round,I x.msg.client,I x.msg.session,I x.msg.number,I x.msg.code,I x.msg.agg,I x.msg.until',x.msg.series.sv,yb,I x.msg.log.base,x.msg.log.snap.sv,ym,x.msg.text.sv]:=(by rw [look_putS,if_pos rfl,c2]; rfl)
  replace b3 : Ev.look (putS m1 (n + 1) (over [I x.round,I x.at',I x.client,ya,I x.msg.kind,I x.msg.frm,I x.msg.to,I x.msg.view,I x.msg.normal,I x.msg.at',I x.msg.commit,I x.msg.round,I x.msg.client,I x.msg.session,I x.msg.number,I x.msg.code,I x.msg.agg,I x.msg.until',x.msg.series.sv,yb,I x.msg.log.base,x.msg.log.snap.sv,ym,x.msg.text.sv] 3 [xa'])) (n + 1 + 1) = some [I m.kind,I m.frm,I m.to,I m.view,I m.normal,I m.at',I m.commit,I m.round,I m.client,I m.session,I m.number,I m.code,I m.agg,I m.until',m.series.sv,zb,I m.log.base,m.log.snap.sv,zm,m.text.sv]:=(by rw [look_putS,if_neg (by omega)]; exact c3)
  replace b4 : Ev.look (putS m1 (n + 1) (over [I x.round,I x.at',I x.client,ya,I x.msg.kind,I x.msg.frm,I x.msg.to,I x.msg.view,I x.msg.normal,I x.msg.at',I x.msg.commit,I x.msg.round,I x.msg.client,I x.msg.session,I x.msg.number,I x.msg.code,I x.msg.agg,I x.msg.until',x.msg.series.sv,yb,I x.msg.log.base,x.msg.log.snap.sv,ym,x.msg.text.sv] 3 [xa'])) (n + 1 + 1 + 1) = some [I 0,I 0,I 0,.nsl,I 0,I 0,I 0,I 0,I 0,I 0,I 0,I 0,I 0,I 0,I 0,I 0,I 0,I 0,.str 0 0,.nsl,I 0,.str 0 0,.nsl,.str 0 0]:=(by rw [look_putS,if_neg (by omega)]; exact c4)
  have v1 : IntsX (From (n + 1 + 1 + 1 + 1) (with' (putS m1 (n + 1) (over [I x.round,I x.at',I x.client,ya,I x.msg.kind,I x.msg.frm,I x.msg.to,I x.msg.view,I x.msg.normal,I x.msg.at',I x.msg.commit,I x.msg.round,I x.msg.client,I x.msg.session,I x.msg.number,I x.msg.code,I x.msg.agg,I x.msg.until',x.msg.series.sv,yb,I x.msg.log.base,x.msg.log.snap.sv,ym,x.msg.text.sv] 3 [xa'])) fz)) xa' x.agreed:=SlX.mono hxa (From.put (by omega) c2)
  obtain ⟨m2,hm2⟩ : ∃ mz : St,(putS m1 (n + 1) (over [I x.round,I x.at',I x.client,ya,I x.msg.kind,I x.msg.frm,I x.msg.to,I x.msg.view,I x.msg.normal,I x.msg.at',I x.msg.commit,I x.msg.round,I x.msg.client,I x.msg.session,I x.msg.number,I x.msg.code,I x.msg.agg,I x.msg.until',x.msg.series.sv,yb,I x.msg.log.base,x.msg.log.snap.sv,ym,x.msg.text.sv] 3 [xa'])) = mz:=⟨_,rfl⟩
  rw [hm2] at gg b1 b2 b3 b4 v1
  clear w1 w2 w3 w4 c1 c3 c4
  simp only [↓E1,E2,zA,zB,zC,zD,zE,zF,zG,zH,zI,zJ,zK,zL,zM,zN,reduceIte,zO,zP, *]
  have hm2c : putS m1 (n + 1) [I x.round,I x.at',I x.client,xa',I x.msg.kind,I x.msg.frm,I x.msg.to,I x.msg.view,I x.msg.normal,I x.msg.at',I x.msg.commit,I x.msg.round,I x.msg.client,I x.msg.session,I x.msg.number,I x.msg.code,I x.msg.agg,I x.msg.until',x.msg.series.sv,yb,I x.msg.log.base,x.msg.log.snap.sv,ym,x.msg.text.sv] = m2:=hm2
  try rw [hm2]
  try rw [hm2c]
  clear hm2 hm2c c2
  have w1:=look_with (fz:=fz) b1
  have w2:=look_with (fz:=fz) b2
  have w3:=look_with (fz:=fz) b3
  have w4:=look_with (fz:=fz) b4
  have hfc:=gg.free
  have u:=Sub.refl (with' m2 fz)
  have leaf : Hide (∀ mu' n',Gr n fz mu mu' n n' → Sub (with' m2 fz) (with' mu' fz) → Ev.look mu' (n + 1 + 1 + 1) = some [I 0,I 0,I 0,.nsl,I 0,I 0,I 0,I 0,I 0,I 0,I 0,I 0,I 0,I 0,I 0,I 0,I 0,I 0,.str 0 0,.nsl,I 0,.str 0 0,.nsl,.str 0 0] → got r x m = x → k (.ag [I x.round,I x.at',I x.client,xa',I x.msg.kind,I x.msg.frm,I x.msg.to,I x.msg.view,I x.msg.normal,I x.msg.at',I x.msg.commit,I x.msg.round,I x.msg.client,I x.msg.session,I x.msg.number,I x.msg.code,I x.msg.agg,I x.msg.until',x.msg.series.sv,yb,I x.msg.log.base,x.msg.log.snap.sv,ym,x.msg.text.sv]) (putS mu' (n + 1 + 1 + 1) [I x.round,I x.at',I x.client,xa',I x.msg.kind,I x.msg.frm,I x.msg.to,I x.msg.view,I x.msg.normal,I x.msg.at',I x.msg.commit,I x.msg.round,I x.msg.client,I x.msg.session,I x.msg.number,I x.msg.code,I x.msg.agg,I x.msg.until',x.msg.series.sv,yb,I x.msg.log.base,x.msg.log.snap.sv,ym,x.msg.text.sv]) n'):=⟨λmu' n' g' u' b' hgx=>by
    have f1 : Sub (From (n + 1 + 1 + 1 + 1) (with' mu' fz)) (From n (with' (putS mu' (n + 1 + 1 + 1) (rdC x xa' yb ym)) fz)):=(From.put (by omega) b').trans (From.le (by omega))
    exact hk _ _ _ (g'.put (by omega) b') ⟨xa',by rw [hgx]; rfl,by rw [hgx]; exact IntsX.mono ((From.mono u').trans f1) v1⟩⟩
  simp only [↓E1,E2,zA,zB,zC,zD,zE,zF,zG,zH,zI,zJ,zK,zL,zM,zN,reduceIte,zO,zP, *]
  refine Br_intro (λha1=>?_) (λha1=>?_)
  rotate_left
  · simp only [↓E1,E2,zA,zB,zC,zD,zE,zF,zG,zH,zI,zJ,zK,zL,zM,zN,reduceIte,zO,zP, *,with_putI,look_putS,Option.isSome_some,Option.map_some]
    exact leaf.out _ _ gg u b4 (got_no (by rw [← hge]; simp_all))
  simp only [↓E1,E2,zA,zB,zC,zD,zE,zF,zG,zH,zI,zJ,zK,zL,zM,zN,reduceIte,zO,zP, *]
  refine (hO).c1 hfc ⟨RepS.mono (gg.sub hfr (Nat.le_refl _)) s1,MsgS.mono (gg.sub hfr (Nat.le_refl _)) t3⟩ ?_
  rintro v mun3 n3 g3 rfl
  replace gg:=gg.trans (g3.weaken (by omega))
  replace u:=u.trans (g3.sub hfc (Nat.le_refl _))
  replace hfc:=g3.free
  have ln3:=g3.le
  replace b1:=(g3.own n (by omega)).trans b1
  replace b2:=(g3.own (n + 1) (by omega)).trans b2
  replace b3:=(g3.own (n + 1 + 1) (by omega)).trans b3
  replace b4:=(g3.own (n + 1 + 1 + 1) (by omega)).trans b4
  replace w1:=look_with (fz:=fz) b1
  replace w2:=look_with (fz:=fz) b2
  replace w3:=look_with (fz:=fz) b3
  replace w4:=look_with (fz:=fz) b4
  simp only [↓E1,E2,zA,zB,zC,zD,zE,zF,zG,zH,zI,zJ,zK,zL,zM,zN,reduceIte,zO,zP, *]
  refine Br_intro (λha2=>?_) (λha2=>?_)
  rotate_left
  · simp only [↓E1,E2,zA,zB,zC,zD,zE,zF,zG,zH,zI,zJ,zK,zL,zM,zN,reduceIte,zO,zP, *,with_putI,look_putS,Option.isSome_some,Option.map_some]
    exact leaf.out _ _ gg u b4 (got_no (by rw [← hge]; simp_all))
  simp only [↓E1,E2,zA,zB,zC,zD,zE,zF,zG,zH,zI,zJ,zK,zL,zM,zN,reduceIte,zO,zP, *]
  refine Br_intro (λha3=>?_) (λha3=>?_)
  rotate_left
  · simp only [↓E1,E2,zA,zB,zC,zD,zE,zF,zG,zH,zI,zJ,zK,zL,zM,zN,reduceIte,zO,zP, *,with_putI,look_putS,Option.isSome_some,Option.map_some]
    exact leaf.out _ _ gg u b4 (got_no (by rw [← hge]; simp_all))
  simp only [↓E1,E2,zA,zB,zC,zD,zE,zF,zG,zH,zI,zJ,zK,zL,zM,zN,reduceIte,zO,zP, *]
  refine (hL).c1 hfc (RepS.mono (gg.sub hfr (Nat.le_refl _)) s1) ?_
  rintro v mun5 n5 g5 rfl
  replace gg:=gg.trans (g5.weaken (by omega))
  replace u:=u.trans (g5.sub hfc (Nat.le_refl _))
  replace hfc:=g5.free
  have ln5:=g5.le
  replace b1:=(g5.own n (by omega)).trans b1
  replace b2:=(g5.own (n + 1) (by omega)).trans b2
  replace b3:=(g5.own (n + 1 + 1) (by omega)).trans b3
  replace b4:=(g5.own (n + 1 + 1 + 1) (by omega)).trans b4
  replace w1:=look_with (fz:=fz) b1
  replace w2:=look_with (fz:=fz) b2
  replace w3:=look_with (fz:=fz) b3
  replace w4:=look_with (fz:=fz) b4
  simp only [↓E1,E2,zA,zB,zC,zD,zE,zF,zG,zH,zI,zJ,zK,zL,zM,zN,reduceIte,zO,zP, *]
  refine Br_intro (λha4=>?_) (λha4=>?_)
  rotate_left
  · simp only [↓E1,E2,zA,zB,zC,zD,zE,zF,zG,zH,zI,zJ,zK,zL,zM,zN,reduceIte,zO,zP, *,with_putI,look_putS,Option.isSome_some,Option.map_some]
    exact leaf.out _ _ gg u b4 (got_no (by rw [← hge]; simp_all))
  simp only [↓E1,E2,zA,zB,zC,zD,zE,zF,zG,zH,zI,zJ,zK,zL,zM,zN,reduceIte,zO,zP, *]
  have hgb : gotB r x m = true:=by rw [← hge]; simp_all
  have hgx : got r x m = { x with agreed:=putL x.agreed m.frm }:=by unfold got; rw [if_pos hgb]
  refine (ref16_put H xa' x.agreed m.frm ha).c1 hfc (IntsR.mono (From.sub.trans u) (SlX.to v1)) ?_
  rintro v mun6 n6 g6 ⟨xa'',rfl,hxa''⟩
  clear leaf hgb ha1 ha2 ha3 ha4 hO hL hge v1
  obtain ⟨-,-,zak',zam'⟩:=SlX.len hxa''
  replace gg:=gg.trans (g6.weaken (by omega))
  replace u:=u.trans (g6.sub hfc (Nat.le_refl _))
  replace hfc:=g6.free
  have ln6:=g6.le
  replace b1:=(g6.own n (by omega)).trans b1
  replace b2:=(g6.own (n + 1) (by omega)).trans b2
  replace b3:=(g6.own (n + 1 + 1) (by omega)).trans b3
  replace b4:=(g6.own (n + 1 + 1 + 1) (by omega)).trans b4
  replace w1:=look_with (fz:=fz) b1
  replace w2:=look_with (fz:=fz) b2
  replace w3:=look_with (fz:=fz) b3
  replace w4:=look_with (fz:=fz) b4
  have q4 : Ev.look (putS mun6 (n + 1) [I x.round,I x.at',I x.client,xa'',I x.msg.kind,I x.msg.frm,I x.msg.to,I x.msg.view,I x.msg.normal,I x.msg.at',I x.msg.commit,I x.msg.round,I x.msg.client,I x.msg.session,I x.msg.number,I x.msg.code,I x.msg.agg,I x.msg.until',x.msg.series.sv,yb,I x.msg.log.base,x.msg.log.snap.sv,ym,x.msg.text.sv]) (n + 1 + 1 + 1) = some [I 0,I 0,I 0,.nsl,I 0,I 0,I 0,I 0,I 0,I 0,I 0,I 0,I 0,I 0,I 0,I 0,I 0,I 0,.str 0 0,.nsl,I 0,.str 0 0,.nsl,.str 0 0]:=by rw [look_putS,if_neg (by omega)]; exact b4
  have gI:=(gg.put (id:=n + 1) (by omega) b2 (c:=[I x.round,I x.at',I x.client,xa'',I x.msg.kind,I x.msg.frm,I x.msg.to,I x.msg.view,I x.msg.normal,I x.msg.at',I x.msg.commit,I x.msg.round,I x.msg.client,I x.msg.session,I x.msg.number,I x.msg.code,I x.msg.agg,I x.msg.until',x.msg.series.sv,yb,I x.msg.log.base,x.msg.log.snap.sv,ym,x.msg.text.sv])).put (id:=n + 1 + 1 + 1) (by omega) q4 (c:=[I x.round,I x.at',I x.client,xa'',I x.msg.kind,I x.msg.frm,I x.msg.to,I x.msg.view,I x.msg.normal,I x.msg.at',I x.msg.commit,I x.msg.round,I x.msg.client,I x.msg.session,I x.msg.number,I x.msg.code,I x.msg.agg,I x.msg.until',x.msg.series.sv,yb,I x.msg.log.base,x.msg.log.snap.sv,ym,x.msg.text.sv])
  have f9 : Sub (From n5 (with' mun6 fz)) (From n (with' (putS (putS mun6 (n + 1) [I x.round,I x.at',I x.client,xa'',I x.msg.kind,I x.msg.frm,I x.msg.to,I x.msg.view,I x.msg.normal,I x.msg.at',I x.msg.commit,I x.msg.round,I x.msg.client,I x.msg.session,I x.msg.number,I x.msg.code,I x.msg.agg,I x.msg.until',x.msg.series.sv,yb,I x.msg.log.base,x.msg.log.snap.sv,ym,x.msg.text.sv]) (n + 1 + 1 + 1) [I x.round,I x.at',I x.client,xa'',I x.msg.kind,I x.msg.frm,I x.msg.to,I x.msg.view,I x.msg.normal,I x.msg.at',I x.msg.commit,I x.msg.round,I x.msg.client,I x.msg.session,I x.msg.number,I x.msg.code,I x.msg.agg,I x.msg.until',x.msg.series.sv,yb,I x.msg.log.base,x.msg.log.snap.sv,ym,x.msg.text.sv]) fz)):=((From.put (by omega) b2).trans (From.put (by omega) q4)).trans (From.le (by omega))
  have hne4 : (n + 1 = n + 1 + 1 + 1) = False:=by simp
  simp only [↓E1,E2,zA,zB,zC,zD,zE,zF,zG,zH,zI,zJ,zK,zL,zM,zN,reduceIte,zO,zP, *,with_putI,look_putS,Option.isSome_some,Option.map_some]
  exact hk _ _ _ gI ⟨xa'',by rw [hgx]; rfl,by rw [hgx]; exact IntsX.mono f9 hxa''⟩
end Go.Proofs.Ytnnjlnkoomeadaa.Pv
namespace Go.Proofs.Ytnnjlnkoomeadaa.Pv
open Go.Ev Go.Ev.Rp
set_option maxRecDepth 100000
set_option maxHeartbeats 4000000
set_option linter.unusedSimpArgs false
set_option linter.unusedVariables false
set_option linter.unusedSectionVars false
theorem LentE.rs {lo : Nat} {M : Fz} {id : Nat} {l : List Ent} (h : LentE lo M id l) : EntsR M (.osl id 0 l.length (l.length + 1) 5) l:=by
  obtain ⟨cs,h1,h2⟩:=h
  have hl : cs.length = l.length + 1:=by simpa using h2.length
  rcases h1 with ⟨h | h,_⟩ | ⟨id',e,h3,h4,h5⟩
  · cases h
  · cases h
  · injection e with e1 e2 e3 e4 e5
    subst e1
    have htl : (cs.take l.length).length = l.length:=by simp; omega
    have hu : ∀ e ∈ cs.take l.length,e.length = 5 ∧ knownAll e = true:=λe he=>h5 e (List.mem_of_mem_take he)
    have hfl:=flat_length (s:=5) (es:=cs.take l.length) λe he=>(hu e he).1
    have hsplit : cs.flatten = (cs.take l.length).flatten ++ (cs.drop l.length).flatten:=by rw [← List.flatten_append,List.take_append_drop]
    rw [htl] at hfl
    have hs : Sl M 5 (.osl id 0 (cs.take l.length).length (l.length + 1) 5) (cs.take l.length):=by
      refine .inr ⟨id,0,l.length + 1,cs.flatten,rfl,by omega,From.sub _ _ h3,h4,?_,?_,hu⟩
      · rw [flat_length λe he=>(h5 e he).1,htl,hl]; omega
      · rw [List.drop_zero,hsplit,htl,List.take_left' hfl]
    rw [htl] at hs
    refine ⟨cs.take l.length,hs,All2.of_get (by omega) λi a b ha hb=>?_⟩
    obtain ⟨hi,rfl⟩:=List.getElem?_eq_some_iff.1 ha
    obtain ⟨hi2,rfl⟩:=List.getElem?_eq_some_iff.1 hb
    have h3:=h2.at (i:=i) (by omega) (by simp; omega)
    rw [List.getElem_append_left (by simpa using hi2),List.getElem_map] at h3
    obtain ⟨idp,h6,h7⟩:=h3
    rw [List.getElem_take]
    exact ⟨_,h6,PtsR.mono (Ex.sub.trans From.sub) (LentP.sl h7)⟩
theorem LentR.rs {M : Fz} {r : Rep} {ide ida ids : Nat} {xd : SV} (h : LentR M r ide ida ids xd) : RepS M r (.osl ide 0 r.log.ents.length (r.log.ents.length + 1) 5) (.osl ida 0 r.acks.length (r.acks.length + 2) 1) (.osl ids 0 r.starts.length (r.starts.length + 2) 1) xd:=by
  obtain ⟨⟨lo,h1⟩,h2,h3,lo',cs,h4,h5⟩:=h
  refine ⟨h1.rs,h2.sl,h3.sl,cs,Sl.mono h4.to From.sub,h5.imp λc d g=>?_⟩
  obtain ⟨id,lo2,e1,e2⟩:=g
  exact ⟨_,e1,EntsR.mono (Ex.sub.trans From.sub) e2.rs⟩
theorem LndSz.rs {r : Rep} (h : LndSz r) : RepSz r:=⟨⟨by have:=h.log.ents; omega,λe he=>by have:=h.log.bat e he; omega⟩,by have:=h.acks; omega,by have:=h.starts; omega,h.dos,λd hd=>⟨by have:=(h.dlog d hd).ents; omega,λe he=>by have:=(h.dlog d hd).bat e he; omega⟩⟩
variable {P : Program} (H : Fs P)
include H
theorem law0_SpoilInts_any (x : SV) (l : List Int) (hl : l.length ≤ 4611686018427387904) {fz : Fz} {mu : St} {n : Nat} {k : KT Prop} {w : WK k} (hfr : Free fz mu n) (hb : IntsX (with' mu fz) x l) (hfz : ∀ id, blk x = some id → fz id = none)
    (hk : ∀ mu',(∀ j,blk x ≠ some j → Ev.look mu' j = Ev.look mu j) → Free fz mu' n → k noVal mu' n) : CPh P n_law0_SpoilInts [.one x] fz mu n k w:=by
  rcases hb with ⟨hx,hl0⟩ | ⟨id,rfl,h2,h3,h4⟩
  · have hlen : ∀ k : Nat → Prop,onLen x k = k 0:=λk=>by rcases hx with rfl | rfl <;> simp only [↓E1,E2,zA,zB,zC,zD,zE,zF,zG,zH,zI,zJ,zK,zL,zM,zN,reduceIte,zO,zP]
    have hs : x.isStr = false:=by rcases hx with rfl | rfl <;> rfl
    clear hfz
    refine CP_of H.law0_SpoilInts H.mx 1 ?_
    rw [i_law0_SpoilInts,dc_at b_law0_SpoilInts.eq_1]
    simp only [↓E1,E2,zA,zB,zC,zD,zE,zF,zG,zH,zI,zJ,zK,zL,zM,zN,reduceIte,zO,zP]
    refine loopI (x:=0) (L:=0) (p:=λ_=>true) (λi e mu1 n1=>n1 = n ∧ mu1 = mu ∧ e 0 0 = .one x ∧ e 0 2 = .one (.int .i64 0)) (λ_ _ _=>False) ?_ ?_ _ _ _ _ _ (by omega) ?_ ?_ ?_
    · rintro i e mu1 n1 K hi
      try omega
    · rintro e mu1 n1 K ⟨rfl,rfl,h0,h2⟩ hY
      rw [dc_at l_law0_SpoilInts_0.eq_1]
      simp only [↓E1,E2,zA,zB,zC,zD,zE,zF,zG,zH,zI,zJ,zK,zL,zM,zN,reduceIte,zO,zP, *]
      try exact hY _ _ _ ⟨rfl,rfl,by simp [updN,updE,h0],by simp [updN,updE,h2]⟩
    · exact ⟨rfl,rfl,by simp [updN,updE,envI],by simp [updN,updE,envI]⟩
    · rintro ha e' mu' n' ⟨rfl,rfl,h0,h2⟩
      simp only [↓E1,E2,zA,zB,zC,zD,zE,zF,zG,zH,zI,zJ,zK,zL,zM,zN,reduceIte,zO,zP]
      exact hk _ (λ_ _=>rfl) hfr
    · rintro ⟨j,j1,j2,j3⟩
      cases j3
  · rw [List.length_map]
    refine law0_SpoilInts H id l hl hfr ?_ (λmu' h1 h2=>hk mu' (λj hj=>h1 j λe=>hj (by rw [e]; rfl)) h2)
    rw [with_look (hfz id rfl),ints_flat] at h2
    exact h2
theorem law18_same (x : Rd) (xa xb xm ya yb ym : SV) (ha : x.agreed.length ≤ 4611686018427387904) (hb : x.msg.batch.length ≤ 4398046511104) (hz : LgSz x.msg.log) : BoolC P n_law18_same [.ag (rdC x xa xb xm), .ag (rdC x ya yb ym)]
    (λM=>IntsR M xa x.agreed ∧ MsgS M x.msg xb xm ∧ IntsR M ya x.agreed ∧ MsgS M x.msg yb ym) true:=boolC H.mx H.law18_same 0 λfz mu n k hfr g0 hx h=>by
  obtain ⟨t1,t2,t3,t4⟩:=hx
  obtain ⟨xal,xas,xak,xam⟩:=t1.len
  obtain ⟨yal,yas,yak,yam⟩:=t3.len
  obtain ⟨-,-,xbk,xbm⟩:=t2.1.len
  obtain ⟨-,-,xmk,xmm⟩:=t2.2.len
  obtain ⟨-,-,ybk,ybm⟩:=t4.1.len
  obtain ⟨-,-,ymk,ymm⟩:=t4.2.len
  have gA : Gr n fz mu ((n + 1,rdC x ya yb ym) :: (n,rdC x xa xb xm) :: mu) n (n + 1 + 1):=gr2 hfr
  have u:=gA.sub hfr (Nat.le_refl _)
  have hL:=ref4_Same H x.msg xb xm yb ym hb hz
  rw [i_law18_same,dc_at b_law18_same.eq_1]
  unfold msgC at hL
  rw [rdC_eq,rdC_eq] at gA u ⊢
  simp only [↓E1,E2,zA,zB,zC,zD,zE,zF,zG,zH,zI,zJ,zK,zL,zM,zN,reduceIte,zO,zP, *]
  refine (law0_SameInts H xa ya x.agreed ha).c1 gA.free ⟨IntsR.mono u t1,IntsR.mono u t3⟩ ?_
  rintro v mu2 n2 g2 rfl
  have b1:=(g2.own n (by omega)).trans (by rw [look_c,if_neg (by omega),look_c,if_pos rfl])
  have b2:=(g2.own (n + 1) (by omega)).trans (by rw [look_c,if_pos rfl])
  have w1:=look_with (fz:=fz) b1
  have w2:=look_with (fz:=fz) b2
  have gB:=gA.trans (g2.weaken (by omega))
  have u:=gB.sub hfr (Nat.le_refl _)
  simp only [↓E1,E2,zA,zB,zC,zD,zE,zF,zG,zH,zI,zJ,zK,zL,zM,zN,reduceIte,zO,zP, *]
  refine hL.c1 gB.free ⟨PtsR.mono u t2.1,EntsR.mono u t2.2,PtsR.mono u t4.1,EntsR.mono u t4.2⟩ ?_
  rintro v mu3 n3 g3 rfl
  have l2:=g2.le
  replace gB:=gB.trans (g3.weaken (by omega))
  simp only [↓E1,E2,zA,zB,zC,zD,zE,zF,zG,zH,zI,zJ,zK,zL,zM,zN,reduceIte,zO,zP, *]
  try exact h _ _ gB
end Go.Proofs.Ytnnjlnkoomeadaa.Pv
namespace Go.Proofs.Ytnnjlnkoomeadaa.Pv
open Go.Ev Go.Ev.Rp
set_option maxRecDepth 100000
set_option maxHeartbeats 4000000
set_option linter.unusedSimpArgs false
set_option linter.unusedVariables false
set_option linter.unusedSectionVars false
def upB (l : List Int) (i : Nat) : Bool:=decide (∀ h : i + 1 < l.length,l[i] < l[i + 1])
theorem up_all {l : List Int} (h : ∀ j,0 ≤ j → j < l.length - 1 → upB l j = true) : l.Pairwise (· < ·):=by
  have h1 : ∀ j (hj : j + 1 < l.length),l[j] < l[j + 1]:=λj hj=>of_decide_eq_true (h j (Nat.zero_le _) (by omega)) hj
  rw [List.pairwise_iff_getElem]
  intro i j hi hj hij
  induction j with
  | zero=>omega
  | succ j ih =>
    have h2:=h1 j hj
    rcases Nat.lt_or_ge i j with h3 | h3
    · have:=ih (by omega) h3; omega
    · have : i = j:=by omega
      subst this; exact h2
theorem look_mid {new mu : St} {j id : Nat} {A : List SV} (h : Ev.look new j = none) : Ev.look (new ++ [(j,A)] ++ mu) id = if j = id then some A else Ev.look (new ++ mu) id:=by
  simp only [look_append,look_c]
  by_cases e : j = id
  · subst e; simp [h]
  · simp only [if_neg e]
    cases Ev.look new id <;> rfl
theorem got_msg {r : Rep} {x : Rd} {m : Msg} : (got r x m).msg = x.msg:=by unfold got; split <;> rfl
theorem putS_len2 {l : List Int} {t : Int} : (putL l t).length ≤ l.length + 1:=by
  have hlen:=putF_len t l false []
  rw [show l.foldl (putStep t) (false,[]) = putF l t from rfl] at hlen
  unfold putL
  cases e : (putF l t).1 <;> rw [e] at hlen <;> simp [b2n] at hlen ⊢ <;> omega
theorem got_len {r : Rep} {x : Rd} {m : Msg} (h : x.agreed.Pairwise (· < ·)) : (got r x m).agreed.length ≤ x.agreed.length + 1:=by
  unfold got
  split
  · exact putS_len2
  · omega
variable {P : Program} (H : Fs P)
include H
theorem law18_QuorumGets (aw : BoolC P n_law18_awake [] (fun _ => True) true) (hI : InsC P) (r : Rep) (xe xa xs xd : SV) (x : Rd) (ya yb ym : SV) (m : Msg) (zb zm : SV) (hz : LndSz r) (ha : x.agreed.length ≤ 17592186044410) (hb : x.msg.batch.length ≤ 4398046511104) (hx : LgSz x.msg.log) (hm1 : m.batch.length ≤ 1152921504606846976) (hm2 : Ok m.log) :
    BoolC P n_law18_QuorumGets [.ag (repC r xe xa xs xd),.ag (rdC x ya yb ym),.ag (msgC m zb zm)] (λM=>RepS M r xe xa xs xd ∧ IntsR M ya x.agreed ∧ MsgS M x.msg yb ym ∧ MsgS M m zb zm) true:=boolC H.mx H.law18_QuorumGets (x.agreed.length + 1) λfz mu n k hfr g0 s h=>by
  obtain ⟨s1,t1,t2,t3⟩:=s
  obtain ⟨-,-,xek,xem⟩:=s1.1.len
  obtain ⟨-,-,xak,xam⟩:=s1.2.1.len
  obtain ⟨-,-,xsk,xsm⟩:=s1.2.2.1.len
  obtain ⟨-,-,xdk,xdm⟩:=s1.2.2.2.len
  obtain ⟨yal,yas,yak,yam⟩:=t1.len
  obtain ⟨-,-,ybk,ybm⟩:=t2.1.len
  obtain ⟨-,-,ymk,ymm⟩:=t2.2.len
  obtain ⟨-,-,zbk,zbm⟩:=t3.1.len
  obtain ⟨-,-,zmk,zmm⟩:=t3.2.len
  rw [i_law18_QuorumGets,dc_at b_law18_QuorumGets.eq_1,rdC_eq]
  have gg : Gr n fz mu ((n + 1 + 1,[I m.kind,I m.frm,I m.to,I m.view,I m.normal,I m.at',I m.commit,I m.round,I m.client,I m.session,I m.number,I m.code,I m.agg,I m.until',m.series.sv,zb,I m.log.base,m.log.snap.sv,zm,m.text.sv]) :: (n + 1,[I x.round,I x.at',I x.client,ya,I x.msg.kind,I x.msg.frm,I x.msg.to,I x.msg.view,I x.msg.normal,I x.msg.at',I x.msg.commit,I x.msg.round,I x.msg.client,I x.msg.session,I x.msg.number,I x.msg.code,I x.msg.agg,I x.msg.until',x.msg.series.sv,yb,I x.msg.log.base,x.msg.log.snap.sv,ym,x.msg.text.sv]) :: (n,[I r.me,I r.nodes,I r.view,I r.normal,I r.status,I r.commit,.bool r.sent,I r.log.base,r.log.snap.sv,xe,xa,xs,xd]) :: mu) n (n + 1 + 1 + 1):=((gr2 hfr).cons (by omega) _)
  have b1 : Ev.look ((n + 1 + 1,[I m.kind,I m.frm,I m.to,I m.view,I m.normal,I m.at',I m.commit,I m.round,I m.client,I m.session,I m.number,I m.code,I m.agg,I m.until',m.series.sv,zb,I m.log.base,m.log.snap.sv,zm,m.text.sv]) :: (n + 1,[I x.round,I x.at',I x.client,ya,I x.msg.kind,I x.msg.frm,I x.msg.to,I x.msg.view,I x.msg.normal,I x.msg.at',I x.msg.commit,I x.msg.round,I x.msg.client,I x.msg.session,I x.msg.number,I x.msg.code,I x.msg.agg,I x.msg.until',x.msg.series.sv,yb,I x.msg.log.base,x.msg.log.snap.sv,ym,x.msg.text.sv]) :: (n,[I r.me,I r.nodes,I r.view,I r.normal,I r.status,I r.commit,.bool r.sent,I r.log.base,r.log.snap.sv,xe,xa,xs,xd]) :: mu) n = some [I r.me,I r.nodes,I r.view,I r.normal,I r.status,I r.commit,.bool r.sent,I r.log.base,r.log.snap.sv,xe,xa,xs,xd]:=by rw [look_c,if_neg (by omega),look_c,if_neg (by omega),look_c,if_pos rfl]
  have b2 : Ev.look ((n + 1 + 1,[I m.kind,I m.frm,I m.to,I m.view,I m.normal,I m.at',I m.commit,I m.round,I m.client,I m.session,I m.number,I m.code,I m.agg,I m.until',m.series.sv,zb,I m.log.base,m.log.snap.sv,zm,m.text.sv]) :: (n + 1,[I x.round,I x.at',I x.client,ya,I x.msg.kind,I x.msg.frm,I x.msg.to,I x.msg.view,I x.msg.normal,I x.msg.at',I x.msg.commit,I x.msg.round,I x.msg.client,I x.msg.session,I x.msg.number,I x.msg.code,I x.msg.agg,I x.msg.until',x.msg.series.sv,yb,I x.msg.log.base,x.msg.log.snap.sv,ym,x.msg.text.sv]) :: (n,[I r.me,I r.nodes,I r.view,I r.normal,I r.status,I r.commit,.bool r.sent,I r.log.base,r.log.snap.sv,xe,xa,xs,xd]) :: mu) (n + 1) = some [I x.round,I x.at',I x.client,ya,I x.msg.kind,I x.msg.frm,I x.msg.to,I x.msg.view,I x.msg.normal,I x.msg.at',I x.msg.commit,I x.msg.round,I x.msg.client,I x.msg.session,I x.msg.number,I x.msg.code,I x.msg.agg,I x.msg.until',x.msg.series.sv,yb,I x.msg.log.base,x.msg.log.snap.sv,ym,x.msg.text.sv]:=by rw [look_c,if_neg (by omega),look_c,if_pos rfl]
  have b3 : Ev.look ((n + 1 + 1,[I m.kind,I m.frm,I m.to,I m.view,I m.normal,I m.at',I m.commit,I m.round,I m.client,I m.session,I m.number,I m.code,I m.agg,I m.until',m.series.sv,zb,I m.log.base,m.log.snap.sv,zm,m.text.sv]) :: (n + 1,[I x.round,I x.at',I x.client,ya,I x.msg.kind,I x.msg.frm,I x.msg.to,I x.msg.view,I x.msg.normal,I x.msg.at',I x.msg.commit,I x.msg.round,I x.msg.client,I x.msg.session,I x.msg.number,I x.msg.code,I x.msg.agg,I x.msg.until',x.msg.series.sv,yb,I x.msg.log.base,x.msg.log.snap.sv,ym,x.msg.text.sv]) :: (n,[I r.me,I r.nodes,I r.view,I r.normal,I r.status,I r.commit,.bool r.sent,I r.log.base,r.log.snap.sv,xe,xa,xs,xd]) :: mu) (n + 1 + 1) = some [I m.kind,I m.frm,I m.to,I m.view,I m.normal,I m.at',I m.commit,I m.round,I m.client,I m.session,I m.number,I m.code,I m.agg,I m.until',m.series.sv,zb,I m.log.base,m.log.snap.sv,zm,m.text.sv]:=by rw [look_c,if_pos rfl]
  obtain ⟨m0,hm0⟩ : ∃ mz : St,((n + 1 + 1,[I m.kind,I m.frm,I m.to,I m.view,I m.normal,I m.at',I m.commit,I m.round,I m.client,I m.session,I m.number,I m.code,I m.agg,I m.until',m.series.sv,zb,I m.log.base,m.log.snap.sv,zm,m.text.sv]) :: (n + 1,[I x.round,I x.at',I x.client,ya,I x.msg.kind,I x.msg.frm,I x.msg.to,I x.msg.view,I x.msg.normal,I x.msg.at',I x.msg.commit,I x.msg.round,I x.msg.client,I x.msg.session,I x.msg.number,I x.msg.code,I x.msg.agg,I x.msg.until',x.msg.series.sv,yb,I x.msg.log.base,x.msg.log.snap.sv,ym,x.msg.text.sv]) :: (n,[I r.me,I r.nodes,I r.view,I r.normal,I r.status,I r.commit,.bool r.sent,I r.log.base,r.log.snap.sv,xe,xa,xs,xd]) :: mu) = mz:=⟨_,rfl⟩
  rw [hm0] at gg b1 b2 b3
  unfold repC msgC
  have w1:=look_with (fz:=fz) b1
  have w2:=look_with (fz:=fz) b2
  have w3:=look_with (fz:=fz) b3
  simp only [↓E1,E2,zA,zB,zC,zD,zE,zF,zG,zH,zI,zJ,zK,zL,zM,zN,reduceIte,zO,zP, *]
  try rw [hm0]
  clear hm0 w1 w2 w3
  refine loopI (x:=0) (L:=x.agreed.length - 1) (p:=upB x.agreed) (λi e mu' n'=>Gr n fz mu mu' n n' ∧ n + 1 + 1 + 1 ≤ n' ∧ Ev.look mu' n = some [I r.me,I r.nodes,I r.view,I r.normal,I r.status,I r.commit,.bool r.sent,I r.log.base,r.log.snap.sv,xe,xa,xs,xd] ∧ Ev.look mu' (n + 1) = some [I x.round,I x.at',I x.client,ya,I x.msg.kind,I x.msg.frm,I x.msg.to,I x.msg.view,I x.msg.normal,I x.msg.at',I x.msg.commit,I x.msg.round,I x.msg.client,I x.msg.session,I x.msg.number,I x.msg.code,I x.msg.agg,I x.msg.until',x.msg.series.sv,yb,I x.msg.log.base,x.msg.log.snap.sv,ym,x.msg.text.sv] ∧ Ev.look mu' (n + 1 + 1) = some [I m.kind,I m.frm,I m.to,I m.view,I m.normal,I m.at',I m.commit,I m.round,I m.client,I m.session,I m.number,I m.code,I m.agg,I m.until',m.series.sv,zb,I m.log.base,m.log.snap.sv,zm,m.text.sv] ∧ e 0 3 = .one (.optr n 0) ∧ e 0 4 = .one (.optr (n + 1) 0) ∧ e 0 5 = .one (.optr (n + 1 + 1) 0) ∧ e 0 7 = .one (.int .i64 (i + 1 : Nat))) (λe mu' n'=>Gr n fz mu mu' n n' ∧ e 0 6 = .one (.bool true)) ?_ ?_ _ _ _ _ _ (by omega) ?_ ?_ ?_
  · rintro i e mu1 n1 K hi ⟨g1,a0,a1,a2,a3,e3,e4,e5,e7⟩ hy hn
    rw [dc_at l_law18_QuorumGets_0.eq_1]
    have hi1 : i < x.agreed.length:=by omega
    have hi2 : i + 1 < x.agreed.length:=by omega
    have hw:=wrap_succ hi2 (by omega)
    have hw1 : IntKind.i64.wrap (((i + 1 : Nat) : Int) - 1) = ((i : Nat) : Int):=by rw [wrap64 (by omega) (by omega)]; omega
    have t1':=t1
    obtain ⟨id,off,cap,B,rfl,hB0,hmk,hbd,hsub⟩:=t1.elem hi1
    obtain ⟨id2,off2,cap2,B2,he,hB2,hmk2,hbd2,hsub2⟩:=t1'.elem hi2
    injection he with c1 c2 c3 c4 c5
    subst c1 c2 c4
    rw [hB0] at hB2
    injection hB2 with hB2
    subst hB2
    have hB:=g1.old hfr hB0
    have wa2:=look_with (fz:=fz) a2
    simp only [↓E1,E2,zA,zB,zC,zD,zE,zF,zG,zH,zI,zJ,zK,zL,zM,zN,reduceIte,zO,zP, *]
    refine Br_intro (λhc=>?_) (λhc=>?_)
    · have hc' : x.agreed[i + 1] ≤ x.agreed[i]:=of_decide_eq_true hc
      have hu : upB x.agreed i = false:=by unfold upB; simp; exact ⟨hi2,by omega⟩
      clear hc'
      simp only [↓E1,E2,zA,zB,zC,zD,zE,zF,zG,zH,zI,zJ,zK,zL,zM,zN,reduceIte,zO,zP, *]
      refine aw.c1 g1.free trivial ?_
      rintro v mu2 n2 g2 rfl
      simp only [↓E1,E2,zA,zB,zC,zD,zE,zF,zG,zH,zI,zJ,zK,zL,zM,zN,reduceIte,zO,zP, *]
      try exact hn hu _ _ _ ⟨g1.trans (g2.weaken (by omega)),by simp [updN,updE]⟩
    · have hc' : ¬ x.agreed[i + 1] ≤ x.agreed[i]:=of_decide_eq_false hc
      have hu : upB x.agreed i = true:=by unfold upB; simp; intro; omega
      clear hc'
      simp only [↓E1,E2,zA,zB,zC,zD,zE,zF,zG,zH,zI,zJ,zK,zL,zM,zN,reduceIte,zO,zP, *]
      try exact hy hu _ _ _ ⟨g1,a0,a1,a2,a3,by simp [updN,updE,e3],by simp [updN,updE,e4],by simp [updN,updE,e5],by simp [updN,updE,hw]⟩
  · rintro e mu1 n1 K ⟨g1,a0,a1,a2,a3,e3,e4,e5,e7⟩ hx
    rw [dc_at l_law18_QuorumGets_0.eq_1]
    have hlt : (x.agreed.length - 1 + 1 < x.agreed.length) = False:=by simp; omega
    have wa2:=look_with (fz:=fz) a2
    simp only [↓E1,E2,zA,zB,zC,zD,zE,zF,zG,zH,zI,zJ,zK,zL,zM,zN,reduceIte,zO,zP, *]
    try exact hx _ _ _ ⟨g1,a0,a1,a2,a3,by simp [updN,updE,e3],by simp [updN,updE,e4],by simp [updN,updE,e5],by simp [updN,updE,e7]⟩
  · exact ⟨gg,by omega,b1,b2,b3,by simp [updN,updE],by simp [updN,updE],by simp [updN,updE],by simp [updN,updE]⟩
  · rintro hup e mu1 n1 ⟨g1,a0,a1,a2,a3,e3,e4,e5,e7⟩
    have hr:=up_all hup
    clear b1 b2 b3 gg hup
    have w1:=look_with (fz:=fz) a1
    have w2:=look_with (fz:=fz) a2
    have w3:=look_with (fz:=fz) a3
    have hLR:=law0_LendReplica H r xe xa xs xd hz
    unfold repC at hLR
    simp only [↓E1,E2,zA,zB,zC,zD,zE,zF,zG,zH,zI,zJ,zK,zL,zM,zN,reduceIte,zO,zP, *]
    refine hLR.d4 g1.free (RepS.mono (g1.sub hfr (Nat.le_refl _)) s1) ?_
    rintro v new2 n2 g2 i2 ⟨ide,ida,ids,xd',rfl,hL⟩
    obtain ⟨-,-,xdk',xdm'⟩:=hL.rs.2.2.2.len
    have l2:=g2.le
    have c1:=(g2.own n (by omega)).trans a1
    have c2:=(g2.own (n + 1) (by omega)).trans a2
    have c3:=(g2.own (n + 1 + 1) (by omega)).trans a3
    have hno : Ev.look new2 (n2 + 1) = none:=by
      cases e : Ev.look new2 (n2 + 1) with
      | none=>rfl
      | some c=>have:=(i2 (n2 + 1) (by rw [e]; simp)).2; omega
    have q1 : Ev.look (new2 ++ [(n2 + 1,[I 0,I 0,I 0,.nsl,I 0,I 0,I 0,I 0,I 0,I 0,I 0,I 0,I 0,I 0,I 0,I 0,I 0,I 0,.str 0 0,.nsl,I 0,.str 0 0,.nsl,.str 0 0])] ++ mu1) (n2 + 1) = some [I 0,I 0,I 0,.nsl,I 0,I 0,I 0,I 0,I 0,I 0,I 0,I 0,I 0,I 0,I 0,I 0,I 0,I 0,.str 0 0,.nsl,I 0,.str 0 0,.nsl,.str 0 0]:=by rw [look_mid hno,if_pos rfl]
    have hp : ∀ id,Ev.look ((n2,[I r.me,I r.nodes,I r.view,I r.normal,I r.status,I r.commit,.bool r.sent,I r.log.base,r.log.snap.sv,(.osl ide 0 r.log.ents.length (r.log.ents.length + 1) 5),(.osl ida 0 r.acks.length (r.acks.length + 2) 1),(.osl ids 0 r.starts.length (r.starts.length + 2) 1),xd']) :: putS (new2 ++ [(n2 + 1,[I 0,I 0,I 0,.nsl,I 0,I 0,I 0,I 0,I 0,I 0,I 0,I 0,I 0,I 0,I 0,I 0,I 0,I 0,.str 0 0,.nsl,I 0,.str 0 0,.nsl,.str 0 0])] ++ mu1) (n2 + 1) [I x.round,I x.at',I x.client,ya,I x.msg.kind,I x.msg.frm,I x.msg.to,I x.msg.view,I x.msg.normal,I x.msg.at',I x.msg.commit,I x.msg.round,I x.msg.client,I x.msg.session,I x.msg.number,I x.msg.code,I x.msg.agg,I x.msg.until',x.msg.series.sv,yb,I x.msg.log.base,x.msg.log.snap.sv,ym,x.msg.text.sv]) id = Ev.look ((n2,[I r.me,I r.nodes,I r.view,I r.normal,I r.status,I r.commit,.bool r.sent,I r.log.base,r.log.snap.sv,(.osl ide 0 r.log.ents.length (r.log.ents.length + 1) 5),(.osl ida 0 r.acks.length (r.acks.length + 2) 1),(.osl ids 0 r.starts.length (r.starts.length + 2) 1),xd']) :: (n2 + 1,[I x.round,I x.at',I x.client,ya,I x.msg.kind,I x.msg.frm,I x.msg.to,I x.msg.view,I x.msg.normal,I x.msg.at',I x.msg.commit,I x.msg.round,I x.msg.client,I x.msg.session,I x.msg.number,I x.msg.code,I x.msg.agg,I x.msg.until',x.msg.series.sv,yb,I x.msg.log.base,x.msg.log.snap.sv,ym,x.msg.text.sv]) :: (new2 ++ mu1)) id:=λid=>by
      rw [look_c,look_c,look_c,look_putS,q1,look_mid hno]
      by_cases h1 : n2 = id
      · rw [if_pos h1,if_pos h1]
      · rw [if_neg h1,if_neg h1]
        by_cases h2 : n2 + 1 = id
        · rw [if_pos h2,if_pos h2]; rfl
        · rw [if_neg h2,if_neg h2,if_neg h2]
    have gF:=(Gr.two (g1.trans (g2.weaken (by omega))) (by omega) [I r.me,I r.nodes,I r.view,I r.normal,I r.status,I r.commit,.bool r.sent,I r.log.base,r.log.snap.sv,(.osl ide 0 r.log.ents.length (r.log.ents.length + 1) 5),(.osl ida 0 r.acks.length (r.acks.length + 2) 1),(.osl ids 0 r.starts.length (r.starts.length + 2) 1),xd'] [I x.round,I x.at',I x.client,ya,I x.msg.kind,I x.msg.frm,I x.msg.to,I x.msg.view,I x.msg.normal,I x.msg.at',I x.msg.commit,I x.msg.round,I x.msg.client,I x.msg.session,I x.msg.number,I x.msg.code,I x.msg.agg,I x.msg.until',x.msg.series.sv,yb,I x.msg.log.base,x.msg.log.snap.sv,ym,x.msg.text.sv]).congr hp
    have hne : (n2 = n + 1) = False:=by simp; omega
    have b1 : Ev.look ((n2,[I r.me,I r.nodes,I r.view,I r.normal,I r.status,I r.commit,.bool r.sent,I r.log.base,r.log.snap.sv,(.osl ide 0 r.log.ents.length (r.log.ents.length + 1) 5),(.osl ida 0 r.acks.length (r.acks.length + 2) 1),(.osl ids 0 r.starts.length (r.starts.length + 2) 1),xd']) :: putS (new2 ++ [(n2 + 1,[I 0,I 0,I 0,.nsl,I 0,I 0,I 0,I 0,I 0,I 0,I 0,I 0,I 0,I 0,I 0,I 0,I 0,I 0,.str 0 0,.nsl,I 0,.str 0 0,.nsl,.str 0 0])] ++ mu1) (n2 + 1) [I x.round,I x.at',I x.client,ya,I x.msg.kind,I x.msg.frm,I x.msg.to,I x.msg.view,I x.msg.normal,I x.msg.at',I x.msg.commit,I x.msg.round,I x.msg.client,I x.msg.session,I x.msg.number,I x.msg.code,I x.msg.agg,I x.msg.until',x.msg.series.sv,yb,I x.msg.log.base,x.msg.log.snap.sv,ym,x.msg.text.sv]) n = some [I r.me,I r.nodes,I r.view,I r.normal,I r.status,I r.commit,.bool r.sent,I r.log.base,r.log.snap.sv,xe,xa,xs,xd]:=by rw [hp,look_c,if_neg (by omega),look_c,if_neg (by omega)]; exact c1
    have b2 : Ev.look ((n2,[I r.me,I r.nodes,I r.view,I r.normal,I r.status,I r.commit,.bool r.sent,I r.log.base,r.log.snap.sv,(.osl ide 0 r.log.ents.length (r.log.ents.length + 1) 5),(.osl ida 0 r.acks.length (r.acks.length + 2) 1),(.osl ids 0 r.starts.length (r.starts.length + 2) 1),xd']) :: putS (new2 ++ [(n2 + 1,[I 0,I 0,I 0,.nsl,I 0,I 0,I 0,I 0,I 0,I 0,I 0,I 0,I 0,I 0,I 0,I 0,I 0,I 0,.str 0 0,.nsl,I 0,.str 0 0,.nsl,.str 0 0])] ++ mu1) (n2 + 1) [I x.round,I x.at',I x.client,ya,I x.msg.kind,I x.msg.frm,I x.msg.to,I x.msg.view,I x.msg.normal,I x.msg.at',I x.msg.commit,I x.msg.round,I x.msg.client,I x.msg.session,I x.msg.number,I x.msg.code,I x.msg.agg,I x.msg.until',x.msg.series.sv,yb,I x.msg.log.base,x.msg.log.snap.sv,ym,x.msg.text.sv]) (n + 1) = some [I x.round,I x.at',I x.client,ya,I x.msg.kind,I x.msg.frm,I x.msg.to,I x.msg.view,I x.msg.normal,I x.msg.at',I x.msg.commit,I x.msg.round,I x.msg.client,I x.msg.session,I x.msg.number,I x.msg.code,I x.msg.agg,I x.msg.until',x.msg.series.sv,yb,I x.msg.log.base,x.msg.log.snap.sv,ym,x.msg.text.sv]:=by rw [hp,look_c,if_neg (by omega),look_c,if_neg (by omega)]; exact c2
    have b3 : Ev.look ((n2,[I r.me,I r.nodes,I r.view,I r.normal,I r.status,I r.commit,.bool r.sent,I r.log.base,r.log.snap.sv,(.osl ide 0 r.log.ents.length (r.log.ents.length + 1) 5),(.osl ida 0 r.acks.length (r.acks.length + 2) 1),(.osl ids 0 r.starts.length (r.starts.length + 2) 1),xd']) :: putS (new2 ++ [(n2 + 1,[I 0,I 0,I 0,.nsl,I 0,I 0,I 0,I 0,I 0,I 0,I 0,I 0,I 0,I 0,I 0,I 0,I 0,I 0,.str 0 0,.nsl,I 0,.str 0 0,.nsl,.str 0 0])] ++ mu1) (n2 + 1) [I x.round,I x.at',I x.client,ya,I x.msg.kind,I x.msg.frm,I x.msg.to,I x.msg.view,I x.msg.normal,I x.msg.at',I x.msg.commit,I x.msg.round,I x.msg.client,I x.msg.session,I x.msg.number,I x.msg.code,I x.msg.agg,I x.msg.until',x.msg.series.sv,yb,I x.msg.log.base,x.msg.log.snap.sv,ym,x.msg.text.sv]) (n + 1 + 1) = some [I m.kind,I m.frm,I m.to,I m.view,I m.normal,I m.at',I m.commit,I m.round,I m.client,I m.session,I m.number,I m.code,I m.agg,I m.until',m.series.sv,zb,I m.log.base,m.log.snap.sv,zm,m.text.sv]:=by rw [hp,look_c,if_neg (by omega),look_c,if_neg (by omega)]; exact c3
    have b8 : Ev.look ((n2,[I r.me,I r.nodes,I r.view,I r.normal,I r.status,I r.commit,.bool r.sent,I r.log.base,r.log.snap.sv,(.osl ide 0 r.log.ents.length (r.log.ents.length + 1) 5),(.osl ida 0 r.acks.length (r.acks.length + 2) 1),(.osl ids 0 r.starts.length (r.starts.length + 2) 1),xd']) :: putS (new2 ++ [(n2 + 1,[I 0,I 0,I 0,.nsl,I 0,I 0,I 0,I 0,I 0,I 0,I 0,I 0,I 0,I 0,I 0,I 0,I 0,I 0,.str 0 0,.nsl,I 0,.str 0 0,.nsl,.str 0 0])] ++ mu1) (n2 + 1) [I x.round,I x.at',I x.client,ya,I x.msg.kind,I x.msg.frm,I x.msg.to,I x.msg.view,I x.msg.normal,I x.msg.at',I x.msg.commit,I x.msg.round,I x.msg.client,I x.msg.session,I x.msg.number,I x.msg.code,I x.msg.agg,I x.msg.until',x.msg.series.sv,yb,I x.msg.log.base,x.msg.log.snap.sv,ym,x.msg.text.sv]) n2 = some [I r.me,I r.nodes,I r.view,I r.normal,I r.status,I r.commit,.bool r.sent,I r.log.base,r.log.snap.sv,(.osl ide 0 r.log.ents.length (r.log.ents.length + 1) 5),(.osl ida 0 r.acks.length (r.acks.length + 2) 1),(.osl ids 0 r.starts.length (r.starts.length + 2) 1),xd']:=by rw [look_c,if_pos rfl]
    have b9 : Ev.look ((n2,[I r.me,I r.nodes,I r.view,I r.normal,I r.status,I r.commit,.bool r.sent,I r.log.base,r.log.snap.sv,(.osl ide 0 r.log.ents.length (r.log.ents.length + 1) 5),(.osl ida 0 r.acks.length (r.acks.length + 2) 1),(.osl ids 0 r.starts.length (r.starts.length + 2) 1),xd']) :: putS (new2 ++ [(n2 + 1,[I 0,I 0,I 0,.nsl,I 0,I 0,I 0,I 0,I 0,I 0,I 0,I 0,I 0,I 0,I 0,I 0,I 0,I 0,.str 0 0,.nsl,I 0,.str 0 0,.nsl,.str 0 0])] ++ mu1) (n2 + 1) [I x.round,I x.at',I x.client,ya,I x.msg.kind,I x.msg.frm,I x.msg.to,I x.msg.view,I x.msg.normal,I x.msg.at',I x.msg.commit,I x.msg.round,I x.msg.client,I x.msg.session,I x.msg.number,I x.msg.code,I x.msg.agg,I x.msg.until',x.msg.series.sv,yb,I x.msg.log.base,x.msg.log.snap.sv,ym,x.msg.text.sv]) (n2 + 1) = some [I x.round,I x.at',I x.client,ya,I x.msg.kind,I x.msg.frm,I x.msg.to,I x.msg.view,I x.msg.normal,I x.msg.at',I x.msg.commit,I x.msg.round,I x.msg.client,I x.msg.session,I x.msg.number,I x.msg.code,I x.msg.agg,I x.msg.until',x.msg.series.sv,yb,I x.msg.log.base,x.msg.log.snap.sv,ym,x.msg.text.sv]:=by rw [hp,look_c,if_neg (by omega),look_c,if_pos rfl]
    have wq : with' (putS (new2 ++ [(n2 + 1,[I 0,I 0,I 0,.nsl,I 0,I 0,I 0,I 0,I 0,I 0,I 0,I 0,I 0,I 0,I 0,I 0,I 0,I 0,.str 0 0,.nsl,I 0,.str 0 0,.nsl,.str 0 0])] ++ mu1) (n2 + 1) [I x.round,I x.at',I x.client,ya,I x.msg.kind,I x.msg.frm,I x.msg.to,I x.msg.view,I x.msg.normal,I x.msg.at',I x.msg.commit,I x.msg.round,I x.msg.client,I x.msg.session,I x.msg.number,I x.msg.code,I x.msg.agg,I x.msg.until',x.msg.series.sv,yb,I x.msg.log.base,x.msg.log.snap.sv,ym,x.msg.text.sv]) fz (n + 1) = some [I x.round,I x.at',I x.client,ya,I x.msg.kind,I x.msg.frm,I x.msg.to,I x.msg.view,I x.msg.normal,I x.msg.at',I x.msg.commit,I x.msg.round,I x.msg.client,I x.msg.session,I x.msg.number,I x.msg.code,I x.msg.agg,I x.msg.until',x.msg.series.sv,yb,I x.msg.log.base,x.msg.log.snap.sv,ym,x.msg.text.sv]:=by
      have:=look_with (fz:=fz) b2
      rw [with_c,if_neg (by omega)] at this; exact this
    have uL : Sub (with' (new2 ++ mu1) fz) (with' ((n2,[I r.me,I r.nodes,I r.view,I r.normal,I r.status,I r.commit,.bool r.sent,I r.log.base,r.log.snap.sv,(.osl ide 0 r.log.ents.length (r.log.ents.length + 1) 5),(.osl ida 0 r.acks.length (r.acks.length + 2) 1),(.osl ids 0 r.starts.length (r.starts.length + 2) 1),xd']) :: putS (new2 ++ [(n2 + 1,[I 0,I 0,I 0,.nsl,I 0,I 0,I 0,I 0,I 0,I 0,I 0,I 0,I 0,I 0,I 0,I 0,I 0,I 0,.str 0 0,.nsl,I 0,.str 0 0,.nsl,.str 0 0])] ++ mu1) (n2 + 1) [I x.round,I x.at',I x.client,ya,I x.msg.kind,I x.msg.frm,I x.msg.to,I x.msg.view,I x.msg.normal,I x.msg.at',I x.msg.commit,I x.msg.round,I x.msg.client,I x.msg.session,I x.msg.number,I x.msg.code,I x.msg.agg,I x.msg.until',x.msg.series.sv,yb,I x.msg.log.base,x.msg.log.snap.sv,ym,x.msg.text.sv]) fz):=((Gr.two (Gr.refl g2.free) (Nat.le_refl _) [I r.me,I r.nodes,I r.view,I r.normal,I r.status,I r.commit,.bool r.sent,I r.log.base,r.log.snap.sv,(.osl ide 0 r.log.ents.length (r.log.ents.length + 1) 5),(.osl ida 0 r.acks.length (r.acks.length + 2) 1),(.osl ids 0 r.starts.length (r.starts.length + 2) 1),xd'] [I x.round,I x.at',I x.client,ya,I x.msg.kind,I x.msg.frm,I x.msg.to,I x.msg.view,I x.msg.normal,I x.msg.at',I x.msg.commit,I x.msg.round,I x.msg.client,I x.msg.session,I x.msg.number,I x.msg.code,I x.msg.agg,I x.msg.until',x.msg.series.sv,yb,I x.msg.log.base,x.msg.log.snap.sv,ym,x.msg.text.sv]).congr hp).sub g2.free (Nat.le_refl _)
    have hfL:=g2.free
    have hLS:=hL.rs
    obtain ⟨m3,hm3⟩ : ∃ mz : St,((n2,[I r.me,I r.nodes,I r.view,I r.normal,I r.status,I r.commit,.bool r.sent,I r.log.base,r.log.snap.sv,(.osl ide 0 r.log.ents.length (r.log.ents.length + 1) 5),(.osl ida 0 r.acks.length (r.acks.length + 2) 1),(.osl ids 0 r.starts.length (r.starts.length + 2) 1),xd']) :: putS (new2 ++ [(n2 + 1,[I 0,I 0,I 0,.nsl,I 0,I 0,I 0,I 0,I 0,I 0,I 0,I 0,I 0,I 0,I 0,I 0,I 0,I 0,.str 0 0,.nsl,I 0,.str 0 0,.nsl,.str 0 0])] ++ mu1) (n2 + 1) [I x.round,I x.at',I x.client,ya,I x.msg.kind,I x.msg.frm,I x.msg.to,I x.msg.view,I x.msg.normal,I x.msg.at',I x.msg.commit,I x.msg.round,I x.msg.client,I x.msg.session,I x.msg.number,I x.msg.code,I x.msg.agg,I x.msg.until',x.msg.series.sv,yb,I x.msg.log.base,x.msg.log.snap.sv,ym,x.msg.text.sv]) = mz:=⟨_,rfl⟩
    rw [hm3] at gF b1 b2 b3 b8 b9 uL
    simp only [↓E1,E2,zA,zB,zC,zD,zE,zF,zG,zH,zI,zJ,zK,zL,zM,zN,reduceIte,zO,zP, *]
    try rw [hm3]
    clear hp q1 hno wq hne c1 c2 c3 hm3 hLR w1 w2 w3 a1 a2 a3
    have w1:=look_with (fz:=fz) b1
    have w2:=look_with (fz:=fz) b2
    have w3:=look_with (fz:=fz) b3
    have w8:=look_with (fz:=fz) b8
    have w9:=look_with (fz:=fz) b9
    simp only [↓E1,E2,zA,zB,zC,zD,zE,zF,zG,zH,zI,zJ,zK,zL,zM,zN,reduceIte,zO,zP, *]
    refine (law0_LendInts H ya x.agreed (by omega)).c1 gF.free (IntsR.mono (gF.sub hfr (Nat.le_refl _)) t1) ?_
    rintro v m4 n4 g4 ⟨idl,rfl,hidl,hBl⟩
    have hBl : LentI (with' m4 fz) idl x.agreed:=hBl
    have l4:=g4.le
    replace b1:=(g4.own n (by omega)).trans b1
    replace b2:=(g4.own (n + 1) (by omega)).trans b2
    replace b3:=(g4.own (n + 1 + 1) (by omega)).trans b3
    replace b8:=(g4.own n2 (by omega)).trans b8
    replace b9:=(g4.own (n2 + 1) (by omega)).trans b9
    replace uL:=uL.trans (g4.sub gF.free (Nat.le_refl _))
    replace gF:=(gF.trans (g4.weaken (by omega))).put (id:=n2 + 1) (by omega) b9 (c:=[I x.round,I x.at',I x.client,(.osl idl 0 x.agreed.length (x.agreed.length + 2) 1),I x.msg.kind,I x.msg.frm,I x.msg.to,I x.msg.view,I x.msg.normal,I x.msg.at',I x.msg.commit,I x.msg.round,I x.msg.client,I x.msg.session,I x.msg.number,I x.msg.code,I x.msg.agg,I x.msg.until',x.msg.series.sv,yb,I x.msg.log.base,x.msg.log.snap.sv,ym,x.msg.text.sv])
    have c1 : Ev.look (putS m4 (n2 + 1) [I x.round,I x.at',I x.client,(.osl idl 0 x.agreed.length (x.agreed.length + 2) 1),I x.msg.kind,I x.msg.frm,I x.msg.to,I x.msg.view,I x.msg.normal,I x.msg.at',I x.msg.commit,I x.msg.round,I x.msg.client,I x.msg.session,I x.msg.number,I x.msg.code,I x.msg.agg,I x.msg.until',x.msg.series.sv,yb,I x.msg.log.base,x.msg.log.snap.sv,ym,x.msg.text.sv]) n = some [I r.me,I r.nodes,I r.view,I r.normal,I r.status,I r.commit,.bool r.sent,I r.log.base,r.log.snap.sv,xe,xa,xs,xd]:=by rw [look_putS,if_neg (by omega)]; exact b1
    have c2 : Ev.look (putS m4 (n2 + 1) [I x.round,I x.at',I x.client,(.osl idl 0 x.agreed.length (x.agreed.length + 2) 1),I x.msg.kind,I x.msg.frm,I x.msg.to,I x.msg.view,I x.msg.normal,I x.msg.at',I x.msg.commit,I x.msg.round,I x.msg.client,I x.msg.session,I x.msg.number,I x.msg.code,I x.msg.agg,I x.msg.until',x.msg.series.sv,yb,I x.msg.log.base,x.msg.log.snap.sv,ym,x.msg.text.sv]) (n + 1) = some [I x.round,I x.at',I x.client,ya,I x.msg.kind,I x.msg.frm,I x.msg.to,I x.msg.view,I x.msg.normal,I x.msg.at',I x.msg.commit,I x.msg.round,I x.msg.client,I x.msg.session,I x.msg.number,I x.msg.code,I x.msg.agg,I x.msg.until',x.msg.series.sv,yb,I x.msg.log.base,x.msg.log.snap.sv,ym,x.msg.text.sv]:=by rw [look_putS,if_neg (by omega)]; exact b2
    have c3 : Ev.look (putS m4 (n2 + 1) [I x.round,I x.at',I x.client,(.osl idl 0 x.agreed.length (x.agreed.length + 2) 1),I x.msg.kind,I x.msg.frm,I x.msg.to,I x.msg.view,I x.msg.normal,I x.msg.at',I x.msg.commit,I x.msg.round,I x.msg.client,I x.msg.session,I x.msg.number,I x.msg.code,I x.msg.agg,I x.msg.until',x.msg.series.sv,yb,I x.msg.log.base,x.msg.log.snap.sv,ym,x.msg.text.sv]) (n + 1 + 1) = some [I m.kind,I m.frm,I m.to,I m.view,I m.normal,I m.at',I m.commit,I m.round,I m.client,I m.session,I m.number,I m.code,I m.agg,I m.until',m.series.sv,zb,I m.log.base,m.log.snap.sv,zm,m.text.sv]:=by rw [look_putS,if_neg (by omega)]; exact b3
    have c8 : Ev.look (putS m4 (n2 + 1) [I x.round,I x.at',I x.client,(.osl idl 0 x.agreed.length (x.agreed.length + 2) 1),I x.msg.kind,I x.msg.frm,I x.msg.to,I x.msg.view,I x.msg.normal,I x.msg.at',I x.msg.commit,I x.msg.round,I x.msg.client,I x.msg.session,I x.msg.number,I x.msg.code,I x.msg.agg,I x.msg.until',x.msg.series.sv,yb,I x.msg.log.base,x.msg.log.snap.sv,ym,x.msg.text.sv]) n2 = some [I r.me,I r.nodes,I r.view,I r.normal,I r.status,I r.commit,.bool r.sent,I r.log.base,r.log.snap.sv,(.osl ide 0 r.log.ents.length (r.log.ents.length + 1) 5),(.osl ida 0 r.acks.length (r.acks.length + 2) 1),(.osl ids 0 r.starts.length (r.starts.length + 2) 1),xd']:=by rw [look_putS,if_neg (by omega)]; exact b8
    have c9 : Ev.look (putS m4 (n2 + 1) [I x.round,I x.at',I x.client,(.osl idl 0 x.agreed.length (x.agreed.length + 2) 1),I x.msg.kind,I x.msg.frm,I x.msg.to,I x.msg.view,I x.msg.normal,I x.msg.at',I x.msg.commit,I x.msg.round,I x.msg.client,I x.msg.session,I x.msg.number,I x.msg.code,I x.msg.agg,I x.msg.until',x.msg.series.sv,yb,I x.msg.log.base,x.msg.log.snap.sv,ym,x.msg.text.sv]) (n2 + 1) = some [I x.round,I x.at',I x.client,(.osl idl 0 x.agreed.length (x.agreed.length + 2) 1),I x.msg.kind,I x.msg.frm,I x.msg.to,I x.msg.view,I x.msg.normal,I x.msg.at',I x.msg.commit,I x.msg.round,I x.msg.client,I x.msg.session,I x.msg.number,I x.msg.code,I x.msg.agg,I x.msg.until',x.msg.series.sv,yb,I x.msg.log.base,x.msg.log.snap.sv,ym,x.msg.text.sv]:=by rw [look_putS,if_pos rfl,b9]; rfl
    have uL5 : Sub (with' (new2 ++ mu1) fz) (with' (putS m4 (n2 + 1) [I x.round,I x.at',I x.client,(.osl idl 0 x.agreed.length (x.agreed.length + 2) 1),I x.msg.kind,I x.msg.frm,I x.msg.to,I x.msg.view,I x.msg.normal,I x.msg.at',I x.msg.commit,I x.msg.round,I x.msg.client,I x.msg.session,I x.msg.number,I x.msg.code,I x.msg.agg,I x.msg.until',x.msg.series.sv,yb,I x.msg.log.base,x.msg.log.snap.sv,ym,x.msg.text.sv]) fz):=λid B hid=>by
      have:=hfL.lt hid
      rw [with_putS b9,if_neg (by omega)]; exact uL _ _ hid
    have hB5 : LentI (with' (putS m4 (n2 + 1) [I x.round,I x.at',I x.client,(.osl idl 0 x.agreed.length (x.agreed.length + 2) 1),I x.msg.kind,I x.msg.frm,I x.msg.to,I x.msg.view,I x.msg.normal,I x.msg.at',I x.msg.commit,I x.msg.round,I x.msg.client,I x.msg.session,I x.msg.number,I x.msg.code,I x.msg.agg,I x.msg.until',x.msg.series.sv,yb,I x.msg.log.base,x.msg.log.snap.sv,ym,x.msg.text.sv]) fz) idl x.agreed:=by unfold LentI; rw [with_putS b9,if_neg (by omega)]; exact hBl
    simp only [↓E1,E2,zA,zB,zC,zD,zE,zF,zG,zH,zI,zJ,zK,zL,zM,zN,reduceIte,zO,zP, *]
    obtain ⟨m5,hm5⟩ : ∃ mz : St,putS m4 (n2 + 1) [I x.round,I x.at',I x.client,(.osl idl 0 x.agreed.length (x.agreed.length + 2) 1),I x.msg.kind,I x.msg.frm,I x.msg.to,I x.msg.view,I x.msg.normal,I x.msg.at',I x.msg.commit,I x.msg.round,I x.msg.client,I x.msg.session,I x.msg.number,I x.msg.code,I x.msg.agg,I x.msg.until',x.msg.series.sv,yb,I x.msg.log.base,x.msg.log.snap.sv,ym,x.msg.text.sv] = mz:=⟨_,rfl⟩
    rw [hm5] at gF c1 c2 c3 c8 c9 uL5 hB5
    have hne1 : (n2 + 1 = n2) = False:=by simp
    have hne2 : (n2 + 1 = n + 1 + 1) = False:=by simp; omega
    try rw [hm5]
    clear b1 b2 b3 b8 b9 uL hBl w1 w2 w3 w8 w9 hm5 hne1 hne2
    have w1:=look_with (fz:=fz) c1
    have w2:=look_with (fz:=fz) c2
    have w3:=look_with (fz:=fz) c3
    have w8:=look_with (fz:=fz) c8
    have w9:=look_with (fz:=fz) c9
    have hQ:=quorum_Got H hI r (.osl ide 0 r.log.ents.length (r.log.ents.length + 1) 5) (.osl ida 0 r.acks.length (r.acks.length + 2) 1) (.osl ids 0 r.starts.length (r.starts.length + 2) 1) xd' x (.osl idl 0 x.agreed.length (x.agreed.length + 2) 1) yb ym m zb zm hz.rs (by omega) hb hx hr
    unfold repC msgC at hQ
    rw [rdC_eq] at hQ
    simp only [↓E1,E2,zA,zB,zC,zD,zE,zF,zG,zH,zI,zJ,zK,zL,zM,zN,reduceIte,zO,zP, *]
    have u5:=Sub.refl (with' m5 fz)
    have hf5:=gF.free
    have hfc:=gF.free
    refine hQ.c1 gF.free ⟨RepS.mono uL5 hLS,hB5.sl,MsgS.mono (gF.sub hfr (Nat.le_refl _)) t2,MsgS.mono (gF.sub hfr (Nat.le_refl _)) t3⟩ ?_
    rintro v m6 n6 g6 ⟨xa',xb',xm',rfl,hxa,hxb,hxm⟩
    clear hQ
    obtain ⟨q,hq⟩ : ∃ q,got r x m = q:=⟨_,rfl⟩
    have hqm : Hide (q.msg = x.msg):=⟨by rw [← hq]; exact got_msg⟩
    have hql : q.agreed.length ≤ x.agreed.length + 1:=by rw [← hq]; exact got_len hr
    rw [hq] at hxa ⊢
    rw [rdC_eq]
    have l6:=g6.le
    obtain ⟨-,-,zak,zam⟩:=SlX.len hxa
    obtain ⟨-,-,zbk',zbm'⟩:=SlX.len hxb
    obtain ⟨-,-,zmk',zmm'⟩:=hxm.choose_spec.1.len
    have hblk6 : ∀ id,blk xa' = some id → n4 ≤ id:=λid hid=>blk_from hxa hid
    have hlt6 : ∀ id,blk xa' = some id → id < n6:=λid hid=>blk_lt (λj B h=>g6.free.lt (From.sub _ _ h)) hxa hid
    have g6c : Gr n6 fz m6 ((n6,[I q.round,I q.at',I q.client,xa',I q.msg.kind,I q.msg.frm,I q.msg.to,I q.msg.view,I q.msg.normal,I q.msg.at',I q.msg.commit,I q.msg.round,I q.msg.client,I q.msg.session,I q.msg.number,I q.msg.code,I q.msg.agg,I q.msg.until',q.msg.series.sv,xb',I q.msg.log.base,q.msg.log.snap.sv,xm',q.msg.text.sv]) :: m6) n6 (n6 + 1):=(Gr.refl g6.free).cons (Nat.le_refl _) _
    have d1:=look_with (fz:=fz) ((g6.own n (by omega)).trans c1)
    have d2:=look_with (fz:=fz) ((g6.own (n + 1) (by omega)).trans c2)
    have d3:=look_with (fz:=fz) ((g6.own (n + 1 + 1) (by omega)).trans c3)
    have g6d : Gr n4 fz m5 ((n6,[I q.round,I q.at',I q.client,xa',I q.msg.kind,I q.msg.frm,I q.msg.to,I q.msg.view,I q.msg.normal,I q.msg.at',I q.msg.commit,I q.msg.round,I q.msg.client,I q.msg.session,I q.msg.number,I q.msg.code,I q.msg.agg,I q.msg.until',q.msg.series.sv,xb',I q.msg.log.base,q.msg.log.snap.sv,xm',q.msg.text.sv]) :: m6) n4 (n6 + 1):=g6.trans (g6c.weaken l6)
    have c10 : Ev.look ((n6,[I q.round,I q.at',I q.client,xa',I q.msg.kind,I q.msg.frm,I q.msg.to,I q.msg.view,I q.msg.normal,I q.msg.at',I q.msg.commit,I q.msg.round,I q.msg.client,I q.msg.session,I q.msg.number,I q.msg.code,I q.msg.agg,I q.msg.until',q.msg.series.sv,xb',I q.msg.log.base,q.msg.log.snap.sv,xm',q.msg.text.sv]) :: m6) n6 = some [I q.round,I q.at',I q.client,xa',I q.msg.kind,I q.msg.frm,I q.msg.to,I q.msg.view,I q.msg.normal,I q.msg.at',I q.msg.commit,I q.msg.round,I q.msg.client,I q.msg.session,I q.msg.number,I q.msg.code,I q.msg.agg,I q.msg.until',q.msg.series.sv,xb',I q.msg.log.base,q.msg.log.snap.sv,xm',q.msg.text.sv]:=by rw [look_c,if_pos rfl]
    have hxa:=IntsX.mono (From.mono (g6c.sub g6.free (Nat.le_refl _))) hxa
    have hxb:=PtsX.mono (From.mono (g6c.sub g6.free (Nat.le_refl _))) hxb
    have hxm:=EntsX.mono (From.mono (g6c.sub g6.free (Nat.le_refl _))) hxm
    clear g6c g6
    have ln6d:=g6d.le
    replace gF:=gF.trans (g6d.weaken (by omega))
    replace u5:=u5.trans (g6d.sub hfc (Nat.le_refl _))
    replace hfc:=g6d.free
    replace c1:=(g6d.own n (by omega)).trans c1
    replace c2:=(g6d.own (n + 1) (by omega)).trans c2
    replace c3:=(g6d.own (n + 1 + 1) (by omega)).trans c3
    replace c8:=(g6d.own n2 (by omega)).trans c8
    replace c9:=(g6d.own (n2 + 1) (by omega)).trans c9
    obtain ⟨m7,hm7⟩ : ∃ mz : St,((n6,[I q.round,I q.at',I q.client,xa',I q.msg.kind,I q.msg.frm,I q.msg.to,I q.msg.view,I q.msg.normal,I q.msg.at',I q.msg.commit,I q.msg.round,I q.msg.client,I q.msg.session,I q.msg.number,I q.msg.code,I q.msg.agg,I q.msg.until',q.msg.series.sv,xb',I q.msg.log.base,q.msg.log.snap.sv,xm',q.msg.text.sv]) :: m6) = mz:=⟨_,rfl⟩
    rw [hm7] at gF u5 hfc c1 c2 c3 c8 c9 c10 hxa hxb hxm
    have hne7 : (n6 = n) = False:=by simp; omega
    have hne8 : (n6 = n + 1) = False:=by simp; omega
    have hne9 : (n6 = n + 1 + 1) = False:=by simp; omega
    simp only [↓E1,E2,zA,zB,zC,zD,zE,zF,zG,zH,zI,zJ,zK,zL,zM,zN,reduceIte,zO,zP, *]
    try rw [hm7]
    clear hm7 w1 w2 w3 w8 w9 hne7 hne8 hne9 d1 d2 d3
    have w1:=look_with (fz:=fz) c1
    have w2:=look_with (fz:=fz) c2
    have w3:=look_with (fz:=fz) c3
    have w8:=look_with (fz:=fz) c8
    have w9:=look_with (fz:=fz) c9
    have w10:=look_with (fz:=fz) c10
    have hok1 : Ok r.log:=λe he=>by have:=hz.log.bat e he; omega
    have hok2 : ∀ d ∈ r.dos,Ok d.log:=λd hd e he=>by have:=(hz.dlog d hd).bat e he; omega
    have hR:=ref16_Got H r xe xa xs xd x ya yb ym m zb zm hz.rs ha hm1 hm2 hok1 hok2
    unfold repC msgC at hR
    rw [rdC_eq] at hR
    simp only [↓E1,E2,zA,zB,zC,zD,zE,zF,zG,zH,zI,zJ,zK,zL,zM,zN,reduceIte,zO,zP, *]
    refine hR.c1 hfc ⟨RepS.mono (gF.sub hfr (Nat.le_refl _)) s1,IntsR.mono (gF.sub hfr (Nat.le_refl _)) t1,MsgS.mono (gF.sub hfr (Nat.le_refl _)) t2,MsgS.mono (gF.sub hfr (Nat.le_refl _)) t3⟩ ?_
    rintro v m8 n8 g8 ⟨xa'',rfl,hxa''⟩
    clear hR
    rw [hq] at hxa'' ⊢
    rw [rdC_eq]
    have l8:=g8.le
    obtain ⟨-,-,zak',zam'⟩:=SlX.len hxa''
    have d1:=look_with (fz:=fz) ((g8.own n (by omega)).trans c1)
    have d8:=look_with (fz:=fz) ((g8.own n2 (by omega)).trans c8)
    have d10:=look_with (fz:=fz) ((g8.own n6 (by omega)).trans c10)
    have g8c : Gr n8 fz m8 ((n8,[I q.round,I q.at',I q.client,xa'',I q.msg.kind,I q.msg.frm,I q.msg.to,I q.msg.view,I q.msg.normal,I q.msg.at',I q.msg.commit,I q.msg.round,I q.msg.client,I q.msg.session,I q.msg.number,I q.msg.code,I q.msg.agg,I q.msg.until',q.msg.series.sv,yb,I q.msg.log.base,q.msg.log.snap.sv,ym,q.msg.text.sv]) :: m8) n8 (n8 + 1):=(Gr.refl g8.free).cons (Nat.le_refl _) _
    have g8d : Gr (n6 + 1) fz m7 ((n8,[I q.round,I q.at',I q.client,xa'',I q.msg.kind,I q.msg.frm,I q.msg.to,I q.msg.view,I q.msg.normal,I q.msg.at',I q.msg.commit,I q.msg.round,I q.msg.client,I q.msg.session,I q.msg.number,I q.msg.code,I q.msg.agg,I q.msg.until',q.msg.series.sv,yb,I q.msg.log.base,q.msg.log.snap.sv,ym,q.msg.text.sv]) :: m8) (n6 + 1) (n8 + 1):=g8.trans (g8c.weaken l8)
    have c11 : Ev.look ((n8,[I q.round,I q.at',I q.client,xa'',I q.msg.kind,I q.msg.frm,I q.msg.to,I q.msg.view,I q.msg.normal,I q.msg.at',I q.msg.commit,I q.msg.round,I q.msg.client,I q.msg.session,I q.msg.number,I q.msg.code,I q.msg.agg,I q.msg.until',q.msg.series.sv,yb,I q.msg.log.base,q.msg.log.snap.sv,ym,q.msg.text.sv]) :: m8) n8 = some [I q.round,I q.at',I q.client,xa'',I q.msg.kind,I q.msg.frm,I q.msg.to,I q.msg.view,I q.msg.normal,I q.msg.at',I q.msg.commit,I q.msg.round,I q.msg.client,I q.msg.session,I q.msg.number,I q.msg.code,I q.msg.agg,I q.msg.until',q.msg.series.sv,yb,I q.msg.log.base,q.msg.log.snap.sv,ym,q.msg.text.sv]:=by rw [look_c,if_pos rfl]
    replace hxa'':=IntsX.mono (From.mono (g8c.sub g8.free (Nat.le_refl _))) hxa''
    have u7:=g8d.sub hfc (Nat.le_refl _)
    replace hxa:=IntsX.mono (From.mono u7) hxa
    replace hxb:=PtsX.mono (From.mono u7) hxb
    replace hxm:=EntsX.mono (From.mono u7) hxm
    clear g8c g8
    have ln8d:=g8d.le
    replace gF:=gF.trans (g8d.weaken (by omega))
    replace u5:=u5.trans (g8d.sub hfc (Nat.le_refl _))
    replace hfc:=g8d.free
    replace c1:=(g8d.own n (by omega)).trans c1
    replace c2:=(g8d.own (n + 1) (by omega)).trans c2
    replace c3:=(g8d.own (n + 1 + 1) (by omega)).trans c3
    replace c8:=(g8d.own n2 (by omega)).trans c8
    replace c9:=(g8d.own (n2 + 1) (by omega)).trans c9
    replace c10:=(g8d.own n6 (by omega)).trans c10
    clear u7
    obtain ⟨m9,hm9⟩ : ∃ mz : St,((n8,[I q.round,I q.at',I q.client,xa'',I q.msg.kind,I q.msg.frm,I q.msg.to,I q.msg.view,I q.msg.normal,I q.msg.at',I q.msg.commit,I q.msg.round,I q.msg.client,I q.msg.session,I q.msg.number,I q.msg.code,I q.msg.agg,I q.msg.until',q.msg.series.sv,yb,I q.msg.log.base,q.msg.log.snap.sv,ym,q.msg.text.sv]) :: m8) = mz:=⟨_,rfl⟩
    rw [hm9] at gF u5 hfc c1 c2 c3 c8 c9 c10 c11 hxa hxb hxm hxa''
    have hne7 : (n8 = n6) = False:=by simp; omega
    simp only [↓E1,E2,zA,zB,zC,zD,zE,zF,zG,zH,zI,zJ,zK,zL,zM,zN,reduceIte,zO,zP, *]
    try rw [hm9]
    clear w1 w2 w3 w8 w9 w10 hne7 d1 d8 d10
    have hz1 : r.starts.length ≤ 1152921504606846976:=by have:=hz.starts; omega
    have hz2 : r.dos.length ≤ 1152921504606846976:=by have:=hz.dos; omega
    have hz3 : r.acks.length ≤ 1152921504606846976:=by have:=hz.acks; omega
    have p1 : RepS (with' m9 fz) r (.osl ide 0 r.log.ents.length (r.log.ents.length + 1) 5) (.osl ida 0 r.acks.length (r.acks.length + 2) 1) (.osl ids 0 r.starts.length (r.starts.length + 2) 1) xd':=RepS.mono (uL5.trans u5) hLS
    have p2 : RepS (with' m9 fz) r xe xa xs xd:=RepS.mono (gF.sub hfr (Nat.le_refl _)) s1
    have p3 : IntsR (with' m9 fz) (.osl idl 0 x.agreed.length (x.agreed.length + 2) 1) x.agreed:=(show LentI (with' m9 fz) idl x.agreed from u5 _ _ hB5).sl
    have p4 : IntsR (with' m9 fz) ya x.agreed:=IntsR.mono (gF.sub hfr (Nat.le_refl _)) t1
    have p5 : MsgS (with' m9 fz) x.msg yb ym:=MsgS.mono (gF.sub hfr (Nat.le_refl _)) t2
    have p6 : IntsR (with' m9 fz) xa' q.agreed:=SlX.to (IntsX.mono From.sub hxa)
    have p7 : MsgS (with' m9 fz) q.msg xb' xm':=by rw [hqm.out]; exact ⟨SlX.to (PtsX.mono From.sub hxb),EntsX.to (EntsX.mono From.sub hxm)⟩
    have p8 : IntsR (with' m9 fz) xa'' q.agreed:=SlX.to (IntsX.mono From.sub hxa'')
    have p9 : MsgS (with' m9 fz) q.msg yb ym:=by rw [hqm.out]; exact p5
    have hS:=law18_same H q xa' xb' xm' xa'' yb ym (by omega) (by rw [hqm.out]; exact hb) (by rw [hqm.out]; exact hx)
    have hP1:=quorum_Ready H r (.osl ide 0 r.log.ents.length (r.log.ents.length + 1) 5) (.osl ida 0 r.acks.length (r.acks.length + 2) 1) (.osl ids 0 r.starts.length (r.starts.length + 2) 1) xd' x (.osl idl 0 x.agreed.length (x.agreed.length + 2) 1) yb ym hz1 hz2 hz3
    have hP2:=ref16_Ready H r xe xa xs xd x ya yb ym hz1 hz2 hz3 hok1 hok2
    have hP3:=quorum_Ready H r (.osl ide 0 r.log.ents.length (r.log.ents.length + 1) 5) (.osl ida 0 r.acks.length (r.acks.length + 2) 1) (.osl ids 0 r.starts.length (r.starts.length + 2) 1) xd' q xa' xb' xm' hz1 hz2 hz3
    have hP4:=ref16_Ready H r xe xa xs xd q xa'' yb ym hz1 hz2 hz3 hok1 hok2
    rw [rdC_eq,rdC_eq] at hS
    unfold repC at hP1 hP2 hP3 hP4
    rw [rdC_eq] at hP1 hP2 hP3 hP4
    have w1:=look_with (fz:=fz) c1
    have w2:=look_with (fz:=fz) c2
    have w3:=look_with (fz:=fz) c3
    have w8:=look_with (fz:=fz) c8
    have w9:=look_with (fz:=fz) c9
    have w10:=look_with (fz:=fz) c10
    have w11:=look_with (fz:=fz) c11
    simp only [↓E1,E2,zA,zB,zC,zD,zE,zF,zG,zH,zI,zJ,zK,zL,zM,zN,reduceIte,zO,zP, *]
    refine hS.d4 hfc ⟨p6,p7,p8,p9⟩ ?_
    rintro v nw1 n9 h1 j1 rfl
    have x1:=h1.sub hfc (Nat.le_refl _)
    have k1:=x1 _ _ w1
    have k2:=x1 _ _ w2
    have k8:=x1 _ _ w8
    have k9:=x1 _ _ w9
    have k10:=x1 _ _ w10
    have k11:=x1 _ _ w11
    simp only [↓E1,E2,zA,zB,zC,zD,zE,zF,zG,zH,zI,zJ,zK,zL,zM,zN,reduceIte,zO,zP, *]
    refine hP1.d4 h1.free ⟨RepS.mono x1 p1,IntsR.mono x1 p3,MsgS.mono x1 p5⟩ ?_
    rintro v nw2 n10 h2 j2 rfl
    have q1:=h1.le
    have q2:=h2.le
    have hp2 : ∀ id,Ev.look (nw1 ++ nw2 ++ m9) id = Ev.look (nw2 ++ (nw1 ++ m9)) id:=λid=>by rw [List.append_assoc]; exact look_swap (λh=>j1.apart j2 (.inl (Nat.le_refl _)) h)
    have G2:=(h1.trans (h2.weaken q1)).congr hp2
    have x2:=G2.sub hfc (Nat.le_refl _)
    simp only [↓E1,E2,zA,zB,zC,zD,zE,zF,zG,zH,zI,zJ,zK,zL,zM,zN,reduceIte,zO,zP, *]
    refine hP2.d4 G2.free ⟨RepS.mono x2 p2,IntsR.mono x2 p4,MsgS.mono x2 p5⟩ ?_
    rintro v nw3 n11 h3 j3 rfl
    have q3:=h3.le
    have hEq1 : (true != (readyB r x == readyB r x)) = false:=by simp
    have hEq2 : (true != (readyB r q == readyB r q)) = false:=by simp
    clear k1 k2 k8 k9 k10 k11
    have hp3 : ∀ id,Ev.look (nw1 ++ (nw2 ++ nw3) ++ m9) id = Ev.look (nw3 ++ (nw1 ++ nw2 ++ m9)) id:=λid=>by
      simp only [List.append_assoc]
      exact (look_under (look_swap (λh=>j2.apart j3 (.inl (Nat.le_refl _)) h))).trans (look_swap (λh=>j1.apart j3 (.inl q2) h))
    have G3:=(G2.trans (h3.weaken (by omega))).congr hp3
    have x3:=G3.sub hfc (Nat.le_refl _)
    have k1:=x3 _ _ w1
    have k2:=x3 _ _ w2
    have k8:=x3 _ _ w8
    have k9:=x3 _ _ w9
    have k10:=x3 _ _ w10
    have k11:=x3 _ _ w11
    simp only [↓E1,E2,zA,zB,zC,zD,zE,zF,zG,zH,zI,zJ,zK,zL,zM,zN,reduceIte,zO,zP, *]
    refine hP3.d4 G3.free ⟨RepS.mono x3 p1,IntsR.mono x3 p6,MsgS.mono x3 p7⟩ ?_
    rintro v nw4 n12 h4 j4 rfl
    have q4:=h4.le
    simp only [↓E1,E2,zA,zB,zC,zD,zE,zF,zG,zH,zI,zJ,zK,zL,zM,zN,reduceIte,zO,zP, *]
    have hp4 : ∀ id,Ev.look (nw1 ++ (nw2 ++ (nw3 ++ nw4)) ++ m9) id = Ev.look (nw4 ++ (nw1 ++ (nw2 ++ nw3) ++ m9)) id:=λid=>by
      simp only [List.append_assoc]
      exact (look_under (look_under (look_swap (λh=>j3.apart j4 (.inl (Nat.le_refl _)) h)))).trans ((look_under (look_swap (λh=>j2.apart j4 (.inl q3) h))).trans (look_swap (λh=>j1.apart j4 (.inl (by omega)) h)))
    have G4:=(G3.trans (h4.weaken (by omega))).congr hp4
    have x4:=G4.sub hfc (Nat.le_refl _)
    refine hP4.d4 G4.free ⟨RepS.mono x4 p2,IntsR.mono x4 p8,MsgS.mono x4 p9⟩ ?_
    rintro v nw5 n13 h5 j5 rfl
    have q5:=h5.le
    have hp5 : ∀ id,Ev.look (nw5 ++ (nw4 ++ (nw3 ++ (nw2 ++ (nw1 ++ m9))))) id = Ev.look (nw5 ++ (nw1 ++ (nw2 ++ (nw3 ++ nw4)) ++ m9)) id:=λid =>
      look_under ((hp4 id).trans (look_under ((hp3 id).trans (look_under (hp2 id))))).symm
    have G5:=(G4.trans (h5.weaken (by omega))).congr hp5
    clear G2 G3 G4 h1 h2 h3 h4 h5 j1 j2 j3 j4 j5 hp2 hp3 hp4 hp5 x1 x2 x3 x4 k1 k2 k8 k9 k10 k11 hP1 hP2 hP3 hP4 hS p1 p2 p3 p4 p5 p6 p7 p8 p9
    have gE : Gr (n8 + 1) fz m9 _ (n8 + 1) n13:=G5
    have hfE:=hfc
    have lgE:=gE.le
    replace gF:=gF.trans (gE.weaken (by omega))
    replace u5:=u5.trans (gE.sub hfc (Nat.le_refl _))
    replace hfc:=gE.free
    replace c1:=(gE.own n (by omega)).trans c1
    replace c2:=(gE.own (n + 1) (by omega)).trans c2
    replace c3:=(gE.own (n + 1 + 1) (by omega)).trans c3
    replace c8:=(gE.own n2 (by omega)).trans c8
    replace c9:=(gE.own (n2 + 1) (by omega)).trans c9
    replace c10:=(gE.own n6 (by omega)).trans c10
    replace c11:=(gE.own n8 (by omega)).trans c11
    clear w1 w2 w3 w8 w9 w10 w11
    have x5:=gE.sub hfE (Nat.le_refl _)
    replace hxa:=IntsX.mono (From.mono x5) hxa
    clear x5 hxb hxm hxa''
    have w10:=look_with (fz:=fz) c10
    simp only [↓E1,E2,zA,zB,zC,zD,zE,zF,zG,zH,zI,zJ,zK,zL,zM,zN,reduceIte,zO,zP, *,List.append_assoc]
    have hsp:=IntsX.mono From.sub hxa
    have hfb : ∀ id,blk xa' = some id → fz id = none:=λid hid=>hfr.fz id (by have:=hblk6 id hid; omega)
    refine law0_SpoilInts_any H xa' q.agreed (by omega) hfc hsp hfb (λmE hkeep hfE2=>?_)
    have e1:=(hkeep n (λhid=>by have:=hblk6 _ hid; omega)).trans c1
    have e2:=(hkeep (n + 1) (λhid=>by have:=hblk6 _ hid; omega)).trans c2
    have e8:=(hkeep n2 (λhid=>by have:=hblk6 _ hid; omega)).trans c8
    have e9:=(hkeep (n2 + 1) (λhid=>by have:=hblk6 _ hid; omega)).trans c9
    have u5E : Sub (with' m5 fz) (with' mE fz):=λid B hid=>by
      have h6:=hf5.lt hid
      rw [with_congr (hkeep id (λhb=>by have:=hblk6 _ hb; omega))]
      exact u5 _ _ hid
    have gZ : Gr n fz mu mE n n13:=⟨gF.le,λid hid=>by rw [with_congr (hkeep id (λhb=>by have:=hblk6 _ hb; omega))]; exact gF.ext id hid,λid hid=>by rw [hkeep id (λhb=>by have:=hblk6 _ hb; omega)]; exact gF.own id hid,hfE2⟩
    clear c1 c2 c3 c8 c9 c10 c11 hxa hsp hkeep u5 w10
    have w1:=look_with (fz:=fz) e1
    have w2:=look_with (fz:=fz) e2
    have w8:=look_with (fz:=fz) e8
    have w9:=look_with (fz:=fz) e9
    have hK:=law0_KeptReplica H r ide ida ids xd' xe xa xs xd hz
    unfold repC at hK
    simp only [↓E1,E2,zA,zB,zC,zD,zE,zF,zG,zH,zI,zJ,zK,zL,zM,zN,reduceIte,zO,zP, *]
    refine (law0_KeptInts H idl ya x.agreed (by omega)).c1 gZ.free ⟨u5E _ _ hB5,IntsR.mono (gZ.sub hfr (Nat.le_refl _)) t1⟩ ?_
    rintro v mF n14 gK rfl
    have f1:=(gK.own n (by omega)).trans e1
    have f8:=(gK.own n2 (by omega)).trans e8
    clear w1 w2 w8 w9
    have w1:=look_with (fz:=fz) f1
    have w8:=look_with (fz:=fz) f8
    have gY:=gZ.trans (gK.weaken (by omega))
    simp only [↓E1,E2,zA,zB,zC,zD,zE,zF,zG,zH,zI,zJ,zK,zL,zM,zN,reduceIte,zO,zP, *]
    refine hK.c1 gY.free ⟨(hL.mono uL5).mono (u5E.trans (gK.sub hfE2 (Nat.le_refl _))),RepS.mono (gY.sub hfr (Nat.le_refl _)) s1⟩ ?_
    rintro v mG n15 gM rfl
    have l14:=gK.le
    have gX:=gY.trans (gM.weaken (by omega))
    simp only [↓E1,E2,zA,zB,zC,zD,zE,zF,zG,zH,zI,zJ,zK,zL,zM,zN,reduceIte,zO,zP, *]
    refine aw.c1 gX.free trivial ?_
    rintro v mH n16 gN rfl
    have l15:=gM.le
    simp only [↓E1,E2,zA,zB,zC,zD,zE,zF,zG,zH,zI,zJ,zK,zL,zM,zN,reduceIte,zO,zP, *]
    exact h _ _ (gX.trans (gN.weaken (by omega)))
  · rintro - e mu1 n1 ⟨g1,e6⟩
    simp only [↓E1,E2,zA,zB,zC,zD,zE,zF,zG,zH,zI,zJ,zK,zL,zM,zN,reduceIte,zO,zP, *]
    try exact h _ _ g1
end Go.Proofs.Ytnnjlnkoomeadaa.Pv
namespace Go.Proofs.Ytnnjlnkoomeadaa.Pv
open Go.Ev Go.Ev.Rp
set_option maxRecDepth 100000
set_option maxHeartbeats 4000000
set_option linter.unusedSimpArgs false
set_option linter.unusedVariables false
set_option linter.unusedSectionVars false
def txA : Tx:=⟨1,97,by decide⟩
def mA : Msg:=⟨2,100,0,0,0,0,0,0,0,0,0,0,0,0,txA,[],⟨0,tx0,[]⟩,tx0⟩
theorem newSz (me : Int) : RepSz (newR me 3):=⟨⟨by simp [newR],by simp [newR]⟩,by simp [newR],by simp [newR],by simp [newR],by simp [newR]⟩
theorem lg0 : LgSz ⟨0,tx0,[]⟩:=⟨by simp,by simp⟩
theorem aw_rep (me : Int) (xa : SV) : repC (newR me 3) .nsl xa .nsl .nsl = [I me,I 3,I 0,I 0,I 0,I 0,.bool false,I 0,.str 0 0,.nsl,xa,.nsl,.nsl]:=rfl
theorem aw_m : msgC mA .nsl .nsl = [I 2,I 100,I 0,I 0,I 0,I 0,I 0,I 0,I 0,I 0,I 0,I 0,I 0,I 0,.str 1 97,.nsl,I 0,.str 0 0,.nsl,.str 0 0]:=rfl
theorem aw_q (xa' xb' xm' : SV) : rdC (begR (newR 0 3) 7 mA) xa' xb' xm' = [I 7,I 0,I 100,xa',I 2,I 100,I 0,I 0,I 0,I 0,I 0,I 0,I 0,I 0,I 0,I 0,I 0,I 0,.str 1 97,xb',I 0,.str 0 0,xm',.str 0 0]:=rfl
theorem aw_asks : (asks (newR 0 3) 7 (newR 0 3).nodes.toNat) = [askM (newR 0 3) 7 1,askM (newR 0 3) 7 2]:=rfl
theorem aw_k1 : msgC (askM (newR 0 3) 7 1) .nsl .nsl = [I 12,I 0,I 1,I 0,I 0,I 0,I 0,I 7,I 0,I 0,I 0,I 0,I 0,I 0,.str 0 0,.nsl,I 0,.str 0 0,.nsl,.str 0 0]:=rfl
theorem aw_k2 : msgC (askM (newR 0 3) 7 2) .nsl .nsl = [I 12,I 0,I 2,I 0,I 0,I 0,I 0,I 7,I 0,I 0,I 0,I 0,I 0,I 0,.str 0 0,.nsl,I 0,.str 0 0,.nsl,.str 0 0]:=rfl
theorem aw_g1 : msgC (ansM (newR 1 3) (askM (newR 0 3) 7 1)) .nsl .nsl = [I 13,I 1,I 0,I 0,I 0,I 0,I 0,I 7,I 0,I 0,I 0,I 0,I 0,I 0,.str 0 0,.nsl,I 0,.str 0 0,.nsl,.str 0 0]:=rfl
theorem aw_b0 : repB (newR 0 3) = true:=by decide +kernel
theorem aw_l0 : leadB (newR 0 3) = true:=by decide +kernel
theorem aw_r0 : readyB (newR 0 3) (begR (newR 0 3) 7 mA) = false:=by decide +kernel
theorem aw_b1 : repB (newR 1 3) = true:=by decide +kernel
theorem aw_mb : msgB (askM (newR 0 3) 7 1) = true:=by decide +kernel
theorem aw_gb : gotB (newR 0 3) (begR (newR 0 3) 7 mA) (ansM (newR 1 3) (askM (newR 0 3) 7 1)) = true:=by decide +kernel
theorem aw_got : got (newR 0 3) (begR (newR 0 3) 7 mA) (ansM (newR 1 3) (askM (newR 0 3) 7 1)) = { begR (newR 0 3) 7 mA with agreed:=[1] }:=by
  unfold got; rw [if_pos aw_gb]; rfl
theorem aw_rq : readyB (newR 0 3) { begR (newR 0 3) 7 mA with agreed:=[1] } = true:=by decide +kernel
theorem aw_q2 (xa' xb' xm' : SV) : rdC { begR (newR 0 3) 7 mA with agreed:=[1] } xa' xb' xm' = [I 7,I 0,I 100,xa',I 2,I 100,I 0,I 0,I 0,I 0,I 0,I 0,I 0,I 0,I 0,I 0,I 0,I 0,.str 1 97,xb',I 0,.str 0 0,xm',.str 0 0]:=rfl
theorem nilE (M : Fz) : EntsR M .nsl []:=⟨[],.inl ⟨.inl rfl,rfl⟩,trivial⟩
theorem nilP (M : Fz) : PtsR M .nsl []:=.inl ⟨.inl rfl,rfl⟩
theorem nilI (M : Fz) : IntsR M .nsl []:=.inl ⟨.inl rfl,rfl⟩
theorem nilD (M : Fz) : DvsR M .nsl []:=⟨[],.inl ⟨.inl rfl,rfl⟩,trivial⟩
variable {P : Program} (H : Fs P)
include H
theorem law0_Num (x : Int) : Ctr P n_law0_Num [.one (I x)] (λ_=>True) (λ_ _ _ v=>v = .one (I x)):=Ctr.of H.mx H.law0_Num (λ_=>0) λfz mu n k hfr _ hk=>by
  rw [i_law0_Num,dc_at b_law0_Num.eq_1]
  simp only [↓E1,E2,zA,zB,zC,zD,zE,zF,zG,zH,zI,zJ,zK,zL,zM,zN,reduceIte,zO,zP]
  try exact hk _ _ _ (Gr.refl hfr) rfl
theorem law18_awake (hI : InsC P) : BoolC P n_law18_awake [] (λ_=>True) true:=boolC H.mx H.law18_awake 0 λfz mu n k hfr g0 _ h=>by
  have hN0:=ref16_New H 0 3 (by decide)
  have hN1:=ref16_New H 1 3 (by decide)
  rw [i_law18_awake,dc_at b_law18_awake.eq_1]
  simp only [↓E1,E2,zA,zB,zC,zD,zE,zF,zG,zH,zI,zJ,zK,zL,zM,zN,reduceIte,zO,zP]
  refine hN0.c1 hfr trivial ?_
  rintro v m1 n1 g1 ⟨xa,rfl,hxa⟩
  rw [aw_rep]
  obtain ⟨-,-,xak,xam⟩:=SlX.len hxa
  have gA : Gr n1 fz m1 ((n1,[I 0,I 3,I 0,I 0,I 0,I 0,.bool false,I 0,.str 0 0,.nsl,xa,.nsl,.nsl]) :: m1) n1 (n1 + 1):=(Gr.refl g1.free).cons (Nat.le_refl _) _
  have b1 : Ev.look ((n1,[I 0,I 3,I 0,I 0,I 0,I 0,.bool false,I 0,.str 0 0,.nsl,xa,.nsl,.nsl]) :: m1) n1 = some [I 0,I 3,I 0,I 0,I 0,I 0,.bool false,I 0,.str 0 0,.nsl,xa,.nsl,.nsl]:=by rw [look_c,if_pos rfl]
  have p1 : IntsR (with' ((n1,[I 0,I 3,I 0,I 0,I 0,I 0,.bool false,I 0,.str 0 0,.nsl,xa,.nsl,.nsl]) :: m1) fz) xa (newR 0 3).acks:=IntsR.mono (gA.sub g1.free (Nat.le_refl _)) (SlX.to (SlX.mono hxa From.sub))
  have gg:=g1.trans (gA.weaken g1.le)
  obtain ⟨m2,hm2⟩ : ∃ mz : St,((n1,[I 0,I 3,I 0,I 0,I 0,I 0,.bool false,I 0,.str 0 0,.nsl,xa,.nsl,.nsl]) :: m1) = mz:=⟨_,rfl⟩
  rw [hm2] at b1 p1 gg
  have hB:=quorum_Begin H (newR 0 3) .nsl xa .nsl .nsl 7 mA .nsl .nsl (newSz 0) (by simp [mA]) lg0 aw_b0 aw_l0
  rw [aw_rep,aw_m] at hB
  have w1:=look_with (fz:=fz) b1
  clear hxa gA hN0
  simp only [↓E1,E2,zA,zB,zC,zD,zE,zF,zG,zH,zI,zJ,zK,zL,zM,zN,reduceIte,zO,zP, *]
  refine hB.c1 gg.free ⟨⟨nilE _,p1,nilI _,nilD _⟩,nilP _,nilE _⟩ ?_
  rintro v m3 n3 g3 ⟨xb',xm',xo,rfl,hxb,hxm,hxo⟩
  rw [aw_q]
  rw [aw_asks] at hxo
  simp only [List.map_cons,List.map_nil] at hxo
  rw [aw_k1,aw_k2] at hxo
  obtain ⟨-,-,xbk,xbm⟩:=SlX.len hxb
  obtain ⟨-,-,xmk,xmm⟩:=hxm.choose_spec.1.len
  rcases hxo with ⟨_,hh⟩ | ⟨ido,rfl,ho,hmko,-⟩
  · cases hh
  replace ho:=From.sub _ _ ho
  have l1:=g1.le
  have l3:=g3.le
  have gA : Gr n3 fz m3 ((n3,[I 7,I 0,I 100,.nsl,I 2,I 100,I 0,I 0,I 0,I 0,I 0,I 0,I 0,I 0,I 0,I 0,I 0,I 0,.str 1 97,xb',I 0,.str 0 0,xm',.str 0 0]) :: m3) n3 (n3 + 1):=(Gr.refl g3.free).cons (Nat.le_refl _) _
  have uA:=gA.sub g3.free (Nat.le_refl _)
  have u3:=(g3.sub gg.free (Nat.le_refl _)).trans uA
  have w1':=look_with (fz:=fz) ((g3.own n1 (by omega)).trans b1)
  replace b1:=(gA.own n1 (by omega)).trans ((g3.own n1 (by omega)).trans b1)
  have b3 : Ev.look ((n3,[I 7,I 0,I 100,.nsl,I 2,I 100,I 0,I 0,I 0,I 0,I 0,I 0,I 0,I 0,I 0,I 0,I 0,I 0,.str 1 97,xb',I 0,.str 0 0,xm',.str 0 0]) :: m3) n3 = some [I 7,I 0,I 100,.nsl,I 2,I 100,I 0,I 0,I 0,I 0,I 0,I 0,I 0,I 0,I 0,I 0,I 0,I 0,.str 1 97,xb',I 0,.str 0 0,xm',.str 0 0]:=by rw [look_c,if_pos rfl]
  replace p1:=IntsR.mono u3 p1
  have p2 : PtsR _ xb' mA.batch:=PtsR.mono uA (PtsX.to (PtsX.mono From.sub hxb))
  have p3 : EntsR _ xm' mA.log.ents:=EntsR.mono uA (EntsX.to (EntsX.mono From.sub hxm))
  replace ho:=uA _ _ ho
  replace gg:=(gg.trans (g3.weaken (by omega))).trans (gA.weaken (by omega))
  obtain ⟨m4,hm4⟩ : ∃ mz : St,((n3,[I 7,I 0,I 100,.nsl,I 2,I 100,I 0,I 0,I 0,I 0,I 0,I 0,I 0,I 0,I 0,I 0,I 0,I 0,.str 1 97,xb',I 0,.str 0 0,xm',.str 0 0]) :: m3) = mz:=⟨_,rfl⟩
  rw [hm4] at b1 b3 p1 p2 p3 ho gg
  have hP:=quorum_Ready H (newR 0 3) .nsl xa .nsl .nsl (begR (newR 0 3) 7 mA) .nsl xb' xm' (by simp [newR]) (by simp [newR]) (by simp [newR])
  rw [aw_rep,aw_q,aw_r0] at hP
  clear w1 hxb hxm gA hB uA u3 hm2
  have w1:=look_with (fz:=fz) b1
  have w3:=look_with (fz:=fz) b3
  have hne : (n3 = n1) = False:=by simp; omega
  simp only [List.length_cons,List.length_nil,Nat.zero_add,List.flatten_cons,List.flatten_nil,List.cons_append,List.nil_append] at ho hmko ⊢
  simp only [↓E1,E2,zA,zB,zC,zD,zE,zF,zG,zH,zI,zJ,zK,zL,zM,zN,reduceIte,zO,zP, *]
  try rw [hm4]
  try simp only [↓E1,E2,zA,zB,zC,zD,zE,zF,zG,zH,zI,zJ,zK,zL,zM,zN,reduceIte,zO,zP, *]
  refine hP.c1 gg.free ⟨⟨nilE _,p1,nilI _,nilD _⟩,nilI _,p2,p3⟩ ?_
  rintro v m5 n5 g5 rfl
  have l5:=g5.le
  have u5:=g5.sub gg.free (Nat.le_refl _)
  replace b1:=(g5.own n1 (by omega)).trans b1
  replace b3:=(g5.own n3 (by omega)).trans b3
  replace p1:=IntsR.mono u5 p1
  replace p2:=PtsR.mono u5 p2
  replace p3:=EntsR.mono u5 p3
  replace ho:=u5 _ _ ho
  replace gg:=gg.trans (g5.weaken (by omega))
  clear w1 w3 hm4 hP u5 w1'
  have w1:=look_with (fz:=fz) b1
  have w3:=look_with (fz:=fz) b3
  simp only [↓E1,E2,zA,zB,zC,zD,zE,zF,zG,zH,zI,zJ,zK,zL,zM,zN,reduceIte,zO,zP, *]
  refine hN1.c1 gg.free trivial ?_
  rintro v m6 n6 g6 ⟨xc,rfl,hxc⟩
  rw [aw_rep]
  obtain ⟨-,-,xck,xcm⟩:=SlX.len hxc
  have l6:=g6.le
  have gA : Gr n6 fz m6 ((n6,[I 1,I 3,I 0,I 0,I 0,I 0,.bool false,I 0,.str 0 0,.nsl,xc,.nsl,.nsl]) :: m6) n6 (n6 + 1):=(Gr.refl g6.free).cons (Nat.le_refl _) _
  have uA:=gA.sub g6.free (Nat.le_refl _)
  have u6:=(g6.sub gg.free (Nat.le_refl _)).trans uA
  have ho6:=(g6.sub gg.free (Nat.le_refl _)) _ _ ho
  replace b1:=(gA.own n1 (by omega)).trans ((g6.own n1 (by omega)).trans b1)
  replace b3:=(gA.own n3 (by omega)).trans ((g6.own n3 (by omega)).trans b3)
  have b6 : Ev.look ((n6,[I 1,I 3,I 0,I 0,I 0,I 0,.bool false,I 0,.str 0 0,.nsl,xc,.nsl,.nsl]) :: m6) n6 = some [I 1,I 3,I 0,I 0,I 0,I 0,.bool false,I 0,.str 0 0,.nsl,xc,.nsl,.nsl]:=by rw [look_c,if_pos rfl]
  replace p1:=IntsR.mono u6 p1
  replace p2:=PtsR.mono u6 p2
  replace p3:=EntsR.mono u6 p3
  replace ho:=u6 _ _ ho
  have p4 : IntsR _ xc (newR 1 3).acks:=IntsR.mono uA (SlX.to (SlX.mono hxc From.sub))
  replace gg:=(gg.trans (g6.weaken (by omega))).trans (gA.weaken (by omega))
  have hne6 : (n6 = ido) = False:=by have:=g6.free.lt ho6; simp; omega
  obtain ⟨m7,hm7⟩ : ∃ mz : St,((n6,[I 1,I 3,I 0,I 0,I 0,I 0,.bool false,I 0,.str 0 0,.nsl,xc,.nsl,.nsl]) :: m6) = mz:=⟨_,rfl⟩
  rw [hm7] at b1 b3 b6 p1 p2 p3 p4 ho gg
  have hA:=quorum_Agree H (newR 1 3) .nsl xc .nsl .nsl (askM (newR 0 3) 7 1) .nsl .nsl (newSz 1) rfl aw_b1 aw_mb rfl rfl rfl rfl
  rw [aw_rep,aw_k1] at hA
  clear w1 w3 hxc gA uA u6 hN1
  have w1:=look_with (fz:=fz) b1
  have w3:=look_with (fz:=fz) b3
  have w6:=look_with (fz:=fz) b6
  simp only [↓E1,E2,zA,zB,zC,zD,zE,zF,zG,zH,zI,zJ,zK,zL,zM,zN,reduceIte,zO,zP, *]
  try rw [hm7]
  try simp only [↓E1,E2,zA,zB,zC,zD,zE,zF,zG,zH,zI,zJ,zK,zL,zM,zN,reduceIte,zO,zP, *]
  refine hA.d4 gg.free ⟨⟨nilE _,p4,nilI _,nilD _⟩,nilP _,nilE _⟩ ?_
  rintro v nw n8 g8 i8 ⟨xs,rfl,hxs⟩
  rw [aw_g1] at hxs
  rcases hxs with ⟨_,hh⟩ | ⟨ids,rfl,hs,hmks,-⟩
  · cases hh
  replace hs:=From.sub _ _ hs
  have l8:=g8.le
  have u8:=g8.sub gg.free (Nat.le_refl _)
  replace b1:=(g8.own n1 (by omega)).trans b1
  replace b3:=(g8.own n3 (by omega)).trans b3
  replace p1:=IntsR.mono u8 p1
  replace p2:=PtsR.mono u8 p2
  replace p3:=EntsR.mono u8 p3
  replace gg:=gg.trans (g8.weaken (by omega))
  have hQ:=quorum_Got H hI (newR 0 3) .nsl xa .nsl .nsl (begR (newR 0 3) 7 mA) .nsl xb' xm' (ansM (newR 1 3) (askM (newR 0 3) 7 1)) .nsl .nsl (newSz 0) (by simp [begR]) (by simp [begR,mA]) lg0 List.Pairwise.nil
  rw [aw_rep,aw_q,aw_g1,aw_got] at hQ
  clear w1 w3 w6 b6 p4 ho hA u8
  have w1:=look_with (fz:=fz) b1
  have w3:=look_with (fz:=fz) b3
  simp only [List.length_cons,List.length_nil,Nat.zero_add,List.flatten_cons,List.flatten_nil,List.cons_append,List.nil_append,List.append_nil] at hs hmks ⊢
  simp only [↓E1,E2,zA,zB,zC,zD,zE,zF,zG,zH,zI,zJ,zK,zL,zM,zN,reduceIte,zO,zP, *,List.append_assoc]
  refine hQ.d4 gg.free ⟨⟨nilE _,p1,nilI _,nilD _⟩,nilI _,⟨p2,p3⟩,nilP _,nilE _⟩ ?_
  rintro v nw2 n9 g9 i9 ⟨xa',xb2,xm2,rfl,hxa',hxb2,hxm2⟩
  rw [aw_q2]
  obtain ⟨-,-,xa2k,xa2m⟩:=SlX.len hxa'
  obtain ⟨-,-,xb2k,xb2m⟩:=SlX.len hxb2
  obtain ⟨-,-,xm2k,xm2m⟩:=hxm2.choose_spec.1.len
  have l9:=g9.le
  simp only [↓E1,E2,zA,zB,zC,zD,zE,zF,zG,zH,zI,zJ,zK,zL,zM,zN,reduceIte,zO,zP, *,List.append_assoc]
  have gA : Gr n9 fz (nw2 ++ (nw ++ m7)) ((n9,[I 7,I 0,I 100,xa',I 2,I 100,I 0,I 0,I 0,I 0,I 0,I 0,I 0,I 0,I 0,I 0,I 0,I 0,.str 1 97,xb2,I 0,.str 0 0,xm2,.str 0 0]) :: (nw2 ++ (nw ++ m7))) n9 (n9 + 1):=(Gr.refl g9.free).cons (Nat.le_refl _) _
  have uA:=gA.sub g9.free (Nat.le_refl _)
  have u9:=(g9.sub gg.free (Nat.le_refl _)).trans uA
  replace b1:=(gA.own n1 (by omega)).trans ((g9.own n1 (by omega)).trans b1)
  have b9 : Ev.look ((n9,[I 7,I 0,I 100,xa',I 2,I 100,I 0,I 0,I 0,I 0,I 0,I 0,I 0,I 0,I 0,I 0,I 0,I 0,.str 1 97,xb2,I 0,.str 0 0,xm2,.str 0 0]) :: (nw2 ++ (nw ++ m7))) n9 = some [I 7,I 0,I 100,xa',I 2,I 100,I 0,I 0,I 0,I 0,I 0,I 0,I 0,I 0,I 0,I 0,I 0,I 0,.str 1 97,xb2,I 0,.str 0 0,xm2,.str 0 0]:=by rw [look_c,if_pos rfl]
  replace p1:=IntsR.mono u9 p1
  have q1 : IntsR _ xa' [1]:=IntsR.mono uA (SlX.to (IntsX.mono From.sub hxa'))
  have q2 : PtsR _ xb2 mA.batch:=PtsR.mono uA (PtsX.to (PtsX.mono From.sub hxb2))
  have q3 : EntsR _ xm2 mA.log.ents:=EntsR.mono uA (EntsX.to (EntsX.mono From.sub hxm2))
  replace gg:=(gg.trans (g9.weaken (by omega))).trans (gA.weaken (by omega))
  obtain ⟨m9,hm9⟩ : ∃ mz : St,((n9,[I 7,I 0,I 100,xa',I 2,I 100,I 0,I 0,I 0,I 0,I 0,I 0,I 0,I 0,I 0,I 0,I 0,I 0,.str 1 97,xb2,I 0,.str 0 0,xm2,.str 0 0]) :: (nw2 ++ (nw ++ m7))) = mz:=⟨_,rfl⟩
  rw [hm9] at b1 b9 p1 q1 q2 q3 gg
  try rw [hm9]
  clear hm9 w1 w3 b3 p2 p3 hs hxa' hxb2 hxm2 gA uA u9 g9 hQ g8 i8 i9
  refine (law0_Num H 0).c1 gg.free trivial ?_
  rintro v m10 n10 g10 rfl
  have l10:=g10.le
  have u10:=g10.sub gg.free (Nat.le_refl _)
  replace b1:=(g10.own n1 (by omega)).trans b1
  replace b9:=(g10.own n9 (by omega)).trans b9
  replace p1:=IntsR.mono u10 p1
  replace q1:=IntsR.mono u10 q1
  replace q2:=PtsR.mono u10 q2
  replace q3:=EntsR.mono u10 q3
  replace gg:=gg.trans (g10.weaken (by omega))
  have gA : Gr n10 fz m10 ((n10,[I 1]) :: m10) n10 (n10 + 1):=(Gr.refl gg.free).cons (Nat.le_refl _) _
  have uA:=gA.sub gg.free (Nat.le_refl _)
  have wz9:=look_with (fz:=fz) b9
  have q0 : IntsR (with' ((n10,[I 1]) :: m10) fz) (.osl n10 0 1 1 1) [1]:=SlX.to (SlX.mk_new (s:=1) (id:=n10) (es:=[intC 1]) (by rw [with_c,if_pos rfl]; rfl) (by intro e he; rw [List.mem_singleton.1 he]; exact ⟨rfl,rfl⟩))
  replace b1:=(gA.own n1 (by omega)).trans b1
  replace b9:=(gA.own n9 (by omega)).trans b9
  replace p1:=IntsR.mono uA p1
  replace q1:=IntsR.mono uA q1
  replace q2:=PtsR.mono uA q2
  replace q3:=EntsR.mono uA q3
  replace gg:=gg.trans (gA.weaken (by omega))
  obtain ⟨m11,hm11⟩ : ∃ mz : St,((n10,[I 1]) :: m10) = mz:=⟨_,rfl⟩
  rw [hm11] at b1 b9 p1 q0 q1 q2 q3 gg
  clear gA uA u10
  simp only [↓E1,E2,zA,zB,zC,zD,zE,zF,zG,zH,zI,zJ,zK,zL,zM,zN,reduceIte,zO,zP, *]
  try rw [hm11]
  try simp only [↓E1,E2,zA,zB,zC,zD,zE,zF,zG,zH,zI,zJ,zK,zL,zM,zN,reduceIte,zO,zP, *]
  refine (law0_SameInts H xa' (.osl n10 0 1 1 1) [1] (by simp)).c1 gg.free ⟨q1,q0⟩ ?_
  rintro v m12 n12 g12 rfl
  have l12:=g12.le
  have u12:=g12.sub gg.free (Nat.le_refl _)
  replace b1:=(g12.own n1 (by omega)).trans b1
  replace b9:=(g12.own n9 (by omega)).trans b9
  replace p1:=IntsR.mono u12 p1
  replace q1:=IntsR.mono u12 q1
  replace q2:=PtsR.mono u12 q2
  replace q3:=EntsR.mono u12 q3
  replace gg:=gg.trans (g12.weaken (by omega))
  have hP:=quorum_Ready H (newR 0 3) .nsl xa .nsl .nsl { begR (newR 0 3) 7 mA with agreed:=[1] } xa' xb2 xm2 (by simp [newR]) (by simp [newR]) (by simp [newR])
  rw [aw_rep,aw_q2,aw_rq] at hP
  clear wz9 hm11
  have w1:=look_with (fz:=fz) b1
  have w9:=look_with (fz:=fz) b9
  simp only [↓E1,E2,zA,zB,zC,zD,zE,zF,zG,zH,zI,zJ,zK,zL,zM,zN,reduceIte,zO,zP, *]
  refine hP.c1 gg.free ⟨⟨nilE _,p1,nilI _,nilD _⟩,q1,q2,q3⟩ ?_
  rintro v m13 n13 g13 rfl
  simp only [↓E1,E2,zA,zB,zC,zD,zE,zF,zG,zH,zI,zJ,zK,zL,zM,zN,reduceIte,zO,zP, *]
  try exact h _ _ (gg.trans (g13.weaken (by omega)))
end Go.Proofs.Ytnnjlnkoomeadaa.Pv
set_option maxRecDepth 1000000
namespace Go.Proofs.Ytnnjlnkoomeadaa.Ev
open Go.Ev Go.Shelf
theorem mixed18 : Try.prog.follows .mixedOrders = true:=by kernel_rfl
def renIns : Ren:=⟨λk=>if k = 21 then 41 else if k = 27 then 81 else if k = 28 then 82 else if k = 35 then 117 else 147,λk=>if k = 22 then 25 else k,λk=>k⟩
theorem laysIns : Lays2.n21 Try.prog renIns where
  mixed:=mixed18
  f21:=by kernel_rfl
  f27:=by kernel_rfl
  f28:=by kernel_rfl
  f35:=by kernel_rfl
  f39:=by kernel_rfl
  t0:=by kernel_rfl
  a0:=λw=>by kernel_rfl
  z0:=λw=>by kernel_rfl
  v0:=λw=>by kernel_rfl
  t3:=by kernel_rfl
  a3:=λw=>by kernel_rfl
  z3:=λw=>by kernel_rfl
  v3:=λw=>by kernel_rfl
  t4:=by kernel_rfl
  a4:=λw=>by kernel_rfl
  z4:=λw=>by kernel_rfl
  v4:=λw=>by kernel_rfl
  t22:=by kernel_rfl
  a22:=λw=>by kernel_rfl
  z22:=λw=>by kernel_rfl
  v22:=λw=>by kernel_rfl
  i3:=by kernel_rfl
theorem insOk {R : Type} {T : R → Prop} {z : R} (hz : ¬ T z) (val : Nat → Int) : ContractOk T Try.prog val 41 (insK z):=insK_ok (ren:=renIns) rfl hz laysIns (by kernel_rfl)
theorem insC : Pv.InsC Try.prog:=λargs fz mu n k h=>by
  obtain ⟨v,mu',n',h1,h2⟩:=insOk (T:=λp : Prop=>p) (λh=>h) Go.Ev.v0 args fz mu n k h
  exact ⟨v,mu',n',h1,h2⟩
end Go.Proofs.Ytnnjlnkoomeadaa.Ev
set_option maxRecDepth 1000000
namespace Go.Proofs.Ytnnjlnkoomeadaa.Pv
open Go.Ev
def ml : List Nat:=[16,41,59,63,64,65,66,67,69,82,91,93,94,96,100,106,108,109,117,127,128,129,130,131,132,133,134,137,138,142,147,151,154,155,157,159]
theorem k_law18_QuorumGets : FOk Try.prog n_law18_QuorumGets a_law18_QuorumGets:=⟨by kernel_rfl,Try.f3,mutsOf ml false,Try.func3,by kernel_rfl⟩
theorem k_law18_awake : FOk Try.prog n_law18_awake a_law18_awake:=⟨by kernel_rfl,Try.f8,mutsOf ml false,Try.func8,by kernel_rfl⟩
theorem k_law0_LendReplica : FOk Try.prog n_law0_LendReplica a_law0_LendReplica:=⟨by kernel_rfl,Try.f9,mutsOf ml false,Try.func9,by kernel_rfl⟩
theorem k_law0_LendInts : FOk Try.prog n_law0_LendInts a_law0_LendInts:=⟨by kernel_rfl,Try.f10,mutsOf ml false,Try.func10,by kernel_rfl⟩
theorem k_quorum_Got : FOk Try.prog n_quorum_Got a_quorum_Got:=⟨by kernel_rfl,Try.f11,mutsOf ml false,Try.func11,by kernel_rfl⟩
theorem k_ref16_Got : FOk Try.prog n_ref16_Got a_ref16_Got:=⟨by kernel_rfl,Try.f12,mutsOf ml false,Try.func12,by kernel_rfl⟩
theorem k_law18_same : FOk Try.prog n_law18_same a_law18_same:=⟨by kernel_rfl,Try.f13,mutsOf ml false,Try.func13,by kernel_rfl⟩
theorem k_quorum_Ready : FOk Try.prog n_quorum_Ready a_quorum_Ready:=⟨by kernel_rfl,Try.f14,mutsOf ml false,Try.func14,by kernel_rfl⟩
theorem k_ref16_Ready : FOk Try.prog n_ref16_Ready a_ref16_Ready:=⟨by kernel_rfl,Try.f15,mutsOf ml false,Try.func15,by kernel_rfl⟩
theorem k_law0_SpoilInts : FOk Try.prog n_law0_SpoilInts a_law0_SpoilInts:=⟨by kernel_rfl,Try.f16,mutsOf ml false,Try.func16,by kernel_rfl⟩
theorem k_law0_KeptInts : FOk Try.prog n_law0_KeptInts a_law0_KeptInts:=⟨by kernel_rfl,Try.f17,mutsOf ml false,Try.func17,by kernel_rfl⟩
theorem k_law0_KeptReplica : FOk Try.prog n_law0_KeptReplica a_law0_KeptReplica:=⟨by kernel_rfl,Try.f18,mutsOf ml false,Try.func18,by kernel_rfl⟩
theorem k_ref16_New : FOk Try.prog n_ref16_New a_ref16_New:=⟨by kernel_rfl,Try.f19,mutsOf ml false,Try.func19,by kernel_rfl⟩
theorem k_quorum_Begin : FOk Try.prog n_quorum_Begin a_quorum_Begin:=⟨by kernel_rfl,Try.f20,mutsOf ml false,Try.func20,by kernel_rfl⟩
theorem k_law0_Num : FOk Try.prog n_law0_Num a_law0_Num:=⟨by kernel_rfl,Try.f23,mutsOf ml false,Try.func23,by kernel_rfl⟩
theorem k_replica_May : FOk Try.prog n_replica_May a_replica_May:=⟨by kernel_rfl,Try.f24,mutsOf ml false,Try.func24,by kernel_rfl⟩
theorem k_ref16_May : FOk Try.prog n_ref16_May a_ref16_May:=⟨by kernel_rfl,Try.f25,mutsOf ml false,Try.func25,by kernel_rfl⟩
theorem k_replica_Primary : FOk Try.prog n_replica_Primary a_replica_Primary:=⟨by kernel_rfl,Try.f26,mutsOf ml false,Try.func26,by kernel_rfl⟩
theorem k_ref16_Primary : FOk Try.prog n_ref16_Primary a_ref16_Primary:=⟨by kernel_rfl,Try.f27,mutsOf ml false,Try.func27,by kernel_rfl⟩
theorem k_quorum_Agree : FOk Try.prog n_quorum_Agree a_quorum_Agree:=⟨by kernel_rfl,Try.f33,mutsOf ml false,Try.func33,by kernel_rfl⟩
theorem k_law0_SameInts : FOk Try.prog n_law0_SameInts a_law0_SameInts:=⟨by kernel_rfl,Try.f34,mutsOf ml false,Try.func34,by kernel_rfl⟩
theorem k_law0_LendLog : FOk Try.prog n_law0_LendLog a_law0_LendLog:=⟨by kernel_rfl,Try.f35,mutsOf ml false,Try.func35,by kernel_rfl⟩
theorem k_law0_CopyInts : FOk Try.prog n_law0_CopyInts a_law0_CopyInts:=⟨by kernel_rfl,Try.f36,mutsOf ml false,Try.func36,by kernel_rfl⟩
theorem k_quorum_clone : FOk Try.prog n_quorum_clone a_quorum_clone:=⟨by kernel_rfl,Try.f37,mutsOf ml false,Try.func37,by kernel_rfl⟩
theorem k_message_May : FOk Try.prog n_message_May a_message_May:=⟨by kernel_rfl,Try.f38,mutsOf ml false,Try.func38,by kernel_rfl⟩
theorem k_replica_Leads : FOk Try.prog n_replica_Leads a_replica_Leads:=⟨by kernel_rfl,Try.f39,mutsOf ml false,Try.func39,by kernel_rfl⟩
theorem k_slices_BinarySearch_int_int : FOk Try.prog n_slices_BinarySearch_int_int a_slices_BinarySearch_int_int:=⟨by kernel_rfl,Try.f40,mutsOf ml false,Try.func40,by kernel_rfl⟩
theorem k_ref16_other : FOk Try.prog n_ref16_other a_ref16_other:=⟨by kernel_rfl,Try.f42,mutsOf ml false,Try.func42,by kernel_rfl⟩
theorem k_ref16_lead : FOk Try.prog n_ref16_lead a_ref16_lead:=⟨by kernel_rfl,Try.f43,mutsOf ml false,Try.func43,by kernel_rfl⟩
theorem k_ref16_put : FOk Try.prog n_ref16_put a_ref16_put:=⟨by kernel_rfl,Try.f44,mutsOf ml false,Try.func44,by kernel_rfl⟩
theorem k_ref4_Same : FOk Try.prog n_ref4_Same a_ref4_Same:=⟨by kernel_rfl,Try.f45,mutsOf ml false,Try.func45,by kernel_rfl⟩
theorem k_law0_KeptLog : FOk Try.prog n_law0_KeptLog a_law0_KeptLog:=⟨by kernel_rfl,Try.f46,mutsOf ml false,Try.func46,by kernel_rfl⟩
theorem k_ref16_Nodes : FOk Try.prog n_ref16_Nodes a_ref16_Nodes:=⟨by kernel_rfl,Try.f47,mutsOf ml false,Try.func47,by kernel_rfl⟩
theorem k_choose_Last : FOk Try.prog n_choose_Last a_choose_Last:=⟨by kernel_rfl,Try.f48,mutsOf ml false,Try.func48,by kernel_rfl⟩
theorem k_message_Clone : FOk Try.prog n_message_Clone a_message_Clone:=⟨by kernel_rfl,Try.f49,mutsOf ml false,Try.func49,by kernel_rfl⟩
theorem k_repair_Nodes : FOk Try.prog n_repair_Nodes a_repair_Nodes:=⟨by kernel_rfl,Try.f50,mutsOf ml false,Try.func50,by kernel_rfl⟩
theorem k_ref4_SameLog : FOk Try.prog n_ref4_SameLog a_ref4_SameLog:=⟨by kernel_rfl,Try.f51,mutsOf ml false,Try.func51,by kernel_rfl⟩
theorem k_replica_within : FOk Try.prog n_replica_within a_replica_within:=⟨by kernel_rfl,Try.f52,mutsOf ml false,Try.func52,by kernel_rfl⟩
theorem k_message_MayLog : FOk Try.prog n_message_MayLog a_message_MayLog:=⟨by kernel_rfl,Try.f53,mutsOf ml false,Try.func53,by kernel_rfl⟩
theorem k_slices_ContainsFunc_int_int : FOk Try.prog n_slices_ContainsFunc_int_int a_slices_ContainsFunc_int_int:=⟨by kernel_rfl,Try.f54,mutsOf ml false,Try.func54,by kernel_rfl⟩
theorem k_replica_May_1 : FOk Try.prog n_replica_May_1 a_replica_May_1:=⟨by kernel_rfl,Try.f55,mutsOf ml false,Try.func55,by kernel_rfl⟩
theorem k_ref1_Count : FOk Try.prog n_ref1_Count a_ref1_Count:=⟨by kernel_rfl,Try.f56,mutsOf ml false,Try.func56,by kernel_rfl⟩
theorem k_ref4_LogMay : FOk Try.prog n_ref4_LogMay a_ref4_LogMay:=⟨by kernel_rfl,Try.f57,mutsOf ml false,Try.func57,by kernel_rfl⟩
theorem k_ref16_Last : FOk Try.prog n_ref16_Last a_ref16_Last:=⟨by kernel_rfl,Try.f58,mutsOf ml false,Try.func58,by kernel_rfl⟩
theorem k_replica_step_normal : FOk Try.prog n_replica_step_normal a_replica_step_normal:=⟨by kernel_rfl,Try.f68,mutsOf ml false,Try.func68,by kernel_rfl⟩
theorem k_law0_LendEntries : FOk Try.prog n_law0_LendEntries a_law0_LendEntries:=⟨by kernel_rfl,Try.f71,mutsOf ml false,Try.func71,by kernel_rfl⟩
theorem k_slices_Clone_int_int : FOk Try.prog n_slices_Clone_int_int a_slices_Clone_int_int:=⟨by kernel_rfl,Try.f72,mutsOf ml false,Try.func72,by kernel_rfl⟩
theorem k_message_fields : FOk Try.prog n_message_fields a_message_fields:=⟨by kernel_rfl,Try.f73,mutsOf ml false,Try.func73,by kernel_rfl⟩
theorem k_message_who : FOk Try.prog n_message_who a_message_who:=⟨by kernel_rfl,Try.f74,mutsOf ml false,Try.func74,by kernel_rfl⟩
theorem k_message_number : FOk Try.prog n_message_number a_message_number:=⟨by kernel_rfl,Try.f75,mutsOf ml false,Try.func75,by kernel_rfl⟩
theorem k_message_limits : FOk Try.prog n_message_limits a_message_limits:=⟨by kernel_rfl,Try.f76,mutsOf ml false,Try.func76,by kernel_rfl⟩
theorem k_point_Name : FOk Try.prog n_point_Name a_point_Name:=⟨by kernel_rfl,Try.f77,mutsOf ml false,Try.func77,by kernel_rfl⟩
theorem k_point_Batch : FOk Try.prog n_point_Batch a_point_Batch:=⟨by kernel_rfl,Try.f78,mutsOf ml false,Try.func78,by kernel_rfl⟩
theorem k_cmp_Less_int : FOk Try.prog n_cmp_Less_int a_cmp_Less_int:=⟨by kernel_rfl,Try.f79,mutsOf ml false,Try.func79,by kernel_rfl⟩
theorem k_slices_isNaN_int : FOk Try.prog n_slices_isNaN_int a_slices_isNaN_int:=⟨by kernel_rfl,Try.f80,mutsOf ml false,Try.func80,by kernel_rfl⟩
theorem k_ref4_May : FOk Try.prog n_ref4_May a_ref4_May:=⟨by kernel_rfl,Try.f83,mutsOf ml false,Try.func83,by kernel_rfl⟩
theorem k_ref1_SamePoints : FOk Try.prog n_ref1_SamePoints a_ref1_SamePoints:=⟨by kernel_rfl,Try.f84,mutsOf ml false,Try.func84,by kernel_rfl⟩
theorem k_law0_KeptEntries : FOk Try.prog n_law0_KeptEntries a_law0_KeptEntries:=⟨by kernel_rfl,Try.f85,mutsOf ml false,Try.func85,by kernel_rfl⟩
theorem k_message_CloneLog : FOk Try.prog n_message_CloneLog a_message_CloneLog:=⟨by kernel_rfl,Try.f86,mutsOf ml false,Try.func86,by kernel_rfl⟩
theorem k_ref4_SameEntry : FOk Try.prog n_ref4_SameEntry a_ref4_SameEntry:=⟨by kernel_rfl,Try.f87,mutsOf ml false,Try.func87,by kernel_rfl⟩
theorem k_message_MayEntry : FOk Try.prog n_message_MayEntry a_message_MayEntry:=⟨by kernel_rfl,Try.f88,mutsOf ml false,Try.func88,by kernel_rfl⟩
theorem k_slices_IndexFunc_int_int : FOk Try.prog n_slices_IndexFunc_int_int a_slices_IndexFunc_int_int:=⟨by kernel_rfl,Try.f89,mutsOf ml false,Try.func89,by kernel_rfl⟩
theorem k_ref4_EntryMay : FOk Try.prog n_ref4_EntryMay a_ref4_EntryMay:=⟨by kernel_rfl,Try.f90,mutsOf ml false,Try.func90,by kernel_rfl⟩
theorem k_message_CloneEntry : FOk Try.prog n_message_CloneEntry a_message_CloneEntry:=⟨by kernel_rfl,Try.f99,mutsOf ml false,Try.func99,by kernel_rfl⟩
theorem k_replica_step_leads : FOk Try.prog n_replica_step_leads a_replica_step_leads:=⟨by kernel_rfl,Try.f103,mutsOf ml false,Try.func103,by kernel_rfl⟩
theorem k_law0_LendPoints : FOk Try.prog n_law0_LendPoints a_law0_LendPoints:=⟨by kernel_rfl,Try.f110,mutsOf ml false,Try.func110,by kernel_rfl⟩
theorem k_message_Node : FOk Try.prog n_message_Node a_message_Node:=⟨by kernel_rfl,Try.f111,mutsOf ml false,Try.func111,by kernel_rfl⟩
theorem k_message_Client : FOk Try.prog n_message_Client a_message_Client:=⟨by kernel_rfl,Try.f112,mutsOf ml false,Try.func112,by kernel_rfl⟩
theorem k_slices_ContainsFunc_api_Point_api_Point : FOk Try.prog n_slices_ContainsFunc_api_Point_api_Point a_slices_ContainsFunc_api_Point_api_Point:=⟨by kernel_rfl,Try.f113,mutsOf ml false,Try.func113,by kernel_rfl⟩
theorem k_point_Batch_1 : FOk Try.prog n_point_Batch_1 a_point_Batch_1:=⟨by kernel_rfl,Try.f114,mutsOf ml false,Try.func114,by kernel_rfl⟩
theorem k_point_May : FOk Try.prog n_point_May a_point_May:=⟨by kernel_rfl,Try.f115,mutsOf ml false,Try.func115,by kernel_rfl⟩
theorem k_cmp_isNaN_int : FOk Try.prog n_cmp_isNaN_int a_cmp_isNaN_int:=⟨by kernel_rfl,Try.f116,mutsOf ml false,Try.func116,by kernel_rfl⟩
theorem k_ref4_fields : FOk Try.prog n_ref4_fields a_ref4_fields:=⟨by kernel_rfl,Try.f118,mutsOf ml false,Try.func118,by kernel_rfl⟩
theorem k_ref4_node : FOk Try.prog n_ref4_node a_ref4_node:=⟨by kernel_rfl,Try.f119,mutsOf ml false,Try.func119,by kernel_rfl⟩
theorem k_ref4_client : FOk Try.prog n_ref4_client a_ref4_client:=⟨by kernel_rfl,Try.f120,mutsOf ml false,Try.func120,by kernel_rfl⟩
theorem k_ref4_places : FOk Try.prog n_ref4_places a_ref4_places:=⟨by kernel_rfl,Try.f121,mutsOf ml false,Try.func121,by kernel_rfl⟩
theorem k_ref4_clean : FOk Try.prog n_ref4_clean a_ref4_clean:=⟨by kernel_rfl,Try.f122,mutsOf ml false,Try.func122,by kernel_rfl⟩
theorem k_ref1_Name : FOk Try.prog n_ref1_Name a_ref1_Name:=⟨by kernel_rfl,Try.f123,mutsOf ml false,Try.func123,by kernel_rfl⟩
theorem k_ref1_Batch : FOk Try.prog n_ref1_Batch a_ref1_Batch:=⟨by kernel_rfl,Try.f124,mutsOf ml false,Try.func124,by kernel_rfl⟩
theorem k_ref4_empty : FOk Try.prog n_ref4_empty a_ref4_empty:=⟨by kernel_rfl,Try.f125,mutsOf ml false,Try.func125,by kernel_rfl⟩
theorem k_law0_KeptPoints : FOk Try.prog n_law0_KeptPoints a_law0_KeptPoints:=⟨by kernel_rfl,Try.f126,mutsOf ml false,Try.func126,by kernel_rfl⟩
theorem k_law0_CopyPoints : FOk Try.prog n_law0_CopyPoints a_law0_CopyPoints:=⟨by kernel_rfl,Try.f144,mutsOf ml false,Try.func144,by kernel_rfl⟩
theorem k_slices_IndexFunc_api_Point_api_Point : FOk Try.prog n_slices_IndexFunc_api_Point_api_Point a_slices_IndexFunc_api_Point_api_Point:=⟨by kernel_rfl,Try.f145,mutsOf ml false,Try.func145,by kernel_rfl⟩
theorem k_point_Small : FOk Try.prog n_point_Small a_point_Small:=⟨by kernel_rfl,Try.f146,mutsOf ml false,Try.func146,by kernel_rfl⟩
theorem k_ref1_Small : FOk Try.prog n_ref1_Small a_ref1_Small:=⟨by kernel_rfl,Try.f148,mutsOf ml false,Try.func148,by kernel_rfl⟩
theorem k_ref1_May : FOk Try.prog n_ref1_May a_ref1_May:=⟨by kernel_rfl,Try.f149,mutsOf ml false,Try.func149,by kernel_rfl⟩
theorem k_law0_SamePoints : FOk Try.prog n_law0_SamePoints a_law0_SamePoints:=⟨by kernel_rfl,Try.f150,mutsOf ml false,Try.func150,by kernel_rfl⟩
theorem fs : Fs Try.prog:=⟨by kernel_rfl,k_law18_QuorumGets,k_law18_awake,k_law0_LendReplica,k_law0_LendInts,k_quorum_Got,k_ref16_Got,k_law18_same,k_quorum_Ready,k_ref16_Ready,k_law0_SpoilInts,k_law0_KeptInts,k_law0_KeptReplica,k_ref16_New,k_quorum_Begin,k_law0_Num,k_replica_May,k_ref16_May,k_replica_Primary,k_ref16_Primary,k_quorum_Agree,k_law0_SameInts,k_law0_LendLog,k_law0_CopyInts,k_quorum_clone,k_message_May,k_replica_Leads,k_slices_BinarySearch_int_int,k_ref16_other,k_ref16_lead,k_ref16_put,k_ref4_Same,k_law0_KeptLog,k_ref16_Nodes,k_choose_Last,k_message_Clone,k_repair_Nodes,k_ref4_SameLog,k_replica_within,k_message_MayLog,k_slices_ContainsFunc_int_int,k_replica_May_1,k_ref1_Count,k_ref4_LogMay,k_ref16_Last,k_replica_step_normal,k_law0_LendEntries,k_slices_Clone_int_int,k_message_fields,k_message_who,k_message_number,k_message_limits,k_point_Name,k_point_Batch,k_cmp_Less_int,k_slices_isNaN_int,k_ref4_May,k_ref1_SamePoints,k_law0_KeptEntries,k_message_CloneLog,k_ref4_SameEntry,k_message_MayEntry,k_slices_IndexFunc_int_int,k_ref4_EntryMay,k_message_CloneEntry,k_replica_step_leads,k_law0_LendPoints,k_message_Node,k_message_Client,k_slices_ContainsFunc_api_Point_api_Point,k_point_Batch_1,k_point_May,k_cmp_isNaN_int,k_ref4_fields,k_ref4_node,k_ref4_client,k_ref4_places,k_ref4_clean,k_ref1_Name,k_ref1_Batch,k_ref4_empty,k_law0_KeptPoints,k_law0_CopyPoints,k_slices_IndexFunc_api_Point_api_Point,k_point_Small,k_ref1_Small,k_ref1_May,k_law0_SamePoints⟩
end Go.Proofs.Ytnnjlnkoomeadaa.Pv
