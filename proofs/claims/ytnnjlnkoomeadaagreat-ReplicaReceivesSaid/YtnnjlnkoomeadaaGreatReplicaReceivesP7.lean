/-
  ReplicaReceives: part 7 of what the proof is made of.
-/
import Derived.Test.YtnnjlnkoomeadaaGreatReplicaReceivesP6
set_option linter.unusedVariables false
set_option linter.unusedSimpArgs false
set_option linter.unusedSectionVars false
noncomputable section
namespace Go.Proofs.YtnnjlnkoomeadaaGreat.Pv
open Go.Ev Go.Ev.Rp
set_option maxRecDepth 100000
set_option maxHeartbeats 4000000
def codeOk (h:Bool) (x:Int) (hi:Int):Bool:=h&&decide (0<=x)&&decide (x<=hi)||!h&&decide (x=0)
def serOk (h:Bool) (t:Tx):Bool:=h&&nameB t||!h&&decide (t.l=0)
def batOk (h:Bool) (l:List Pt):Bool:=h&&Qip l||!h&&decide (l.length=0)
def lgOk (h:Bool) (l:Lg):Bool:=h&&lgB l||!h&&Qn6 l
def txtOk (h:Bool) (t:Tx):Bool:=h&&decide (t.l<=65536)||!h&&decide (t.l=0)
def fromB (k x:Int):Bool:=if k=0\/k=2 then Qgs x else isNode x
def toB (k x:Int):Bool:=if k=1\/k=3 then Qgs x else isNode x
theorem Qrk {P:Program} {fz:Fz} (a b:List AOper):∀(tm:TM) (mu:St) (n:Nat) (k:TM->St->Nat->Prop),runK pOrc False (CP P) fz (a++b) tm mu n k=runK pOrc False (CP P) fz a tm mu n λtm mu n=>runK pOrc False (CP P) fz b tm mu n k:=by
 induction a with
 |nil=>intros;rfl
 |cons o a ih=>
  intro tm mu n k;show stepK pOrc False (CP P) fz o tm mu n (λtm mu n=>runK pOrc False (CP P) fz (a++b) tm mu n k)=stepK pOrc False (CP P) fz o tm mu n (λtm mu n=>runK pOrc False (CP P) fz a tm mu n λtm mu n=>runK pOrc False (CP P) fz b tm mu n k);congr 1;funext tm mu n;exact ih tm mu n k
def g4_0:List AOper:=[⟨(some (2,14)),.mv (t 0 4),none,0,[]⟩,⟨(some (2,15)),.mv (t 2 14),none,0,[]⟩,⟨(some (3,0)),.mv (t 0 5),(some (2,15,true)),0,[]⟩,⟨(some (3,1)),.pick (t 2 15) (t 3 0) (.c (.one (.bool false))),none,0,[]⟩,⟨(some (3,2)),.mv (t 3 1),none,0,[]⟩,⟨(some (3,3)),.load true 20 (t 0 1),(some (3,2,true)),1,[]⟩,⟨(some (3,4)),.mv (t 0 3),(some (3,2,true)),0,[]⟩,⟨(some (3,5)),.call (f n_Qdz) [(t 3 3),(t 3 4)],(some (3,2,true)),1,[]⟩,⟨(some (3,6)),.pick (t 3 2) (t 3 5) (.c (.one (.bool false))),none,0,[]⟩,⟨(some (3,7)),.mv (t 3 6),none,0,[]⟩]
def g4_1:List AOper:=[⟨(some (3,8)),.mv (t 0 3),(some (3,7,true)),0,[]⟩,⟨(some (3,9)),.bin .and (t 3 8) (c 1),(some (3,7,true)),0,[]⟩,⟨(some (3,10)),.bin .gtr (t 3 9) (c 0),(some (3,7,true)),0,[]⟩,⟨(some (3,11)),.faddr 3 (t 0 1),(some (3,7,true)),0,[]⟩,⟨(some (3,12)),.load false 1 (t 3 11),(some (3,7,true)),1,[]⟩,⟨(some (3,13)),.call (f n_Qd8) [(t 3 10),(t 3 12)],(some (3,7,true)),1,[]⟩,⟨(some (3,14)),.pick (t 3 7) (t 3 13) (.c (.one (.bool false))),none,0,[]⟩,⟨(some (3,15)),.mv (t 3 14),none,0,[]⟩]
def g4_2:List AOper:=[⟨(some (4,0)),.mv (t 0 3),(some (3,15,true)),0,[]⟩,⟨(some (4,1)),.bin .and (t 4 0) (c 2),(some (3,15,true)),0,[]⟩,⟨(some (4,2)),.bin .gtr (t 4 1) (c 0),(some (3,15,true)),0,[]⟩,⟨(some (4,3)),.faddr 4 (t 0 1),(some (3,15,true)),0,[]⟩,⟨(some (4,4)),.load false 1 (t 4 3),(some (3,15,true)),1,[]⟩,⟨(some (4,5)),.call (f n_Qd8) [(t 4 2),(t 4 4)],(some (3,15,true)),1,[]⟩,⟨(some (4,6)),.pick (t 3 15) (t 4 5) (.c (.one (.bool false))),none,0,[]⟩,⟨(some (4,7)),.mv (t 4 6),none,0,[]⟩]
def g4_3:List AOper:=[⟨(some (4,8)),.mv (t 0 3),(some (4,7,true)),0,[]⟩,⟨(some (4,9)),.bin .and (t 4 8) (c 8),(some (4,7,true)),0,[]⟩,⟨(some (4,10)),.bin .gtr (t 4 9) (c 0),(some (4,7,true)),0,[]⟩,⟨(some (4,11)),.faddr 6 (t 0 1),(some (4,7,true)),0,[]⟩,⟨(some (4,12)),.load false 1 (t 4 11),(some (4,7,true)),1,[]⟩,⟨(some (4,13)),.call (f n_Qd8) [(t 4 10),(t 4 12)],(some (4,7,true)),1,[]⟩,⟨(some (4,14)),.pick (t 4 7) (t 4 13) (.c (.one (.bool false))),none,0,[]⟩,⟨(some (4,15)),.mv (t 4 14),none,0,[]⟩]
def g4_4:List AOper:=[⟨(some (5,0)),.mv (t 0 3),(some (4,15,true)),0,[]⟩,⟨(some (5,1)),.bin .and (t 5 0) (c 16),(some (4,15,true)),0,[]⟩,⟨(some (5,2)),.bin .gtr (t 5 1) (c 0),(some (4,15,true)),0,[]⟩,⟨(some (5,3)),.faddr 7 (t 0 1),(some (4,15,true)),0,[]⟩,⟨(some (5,4)),.load false 1 (t 5 3),(some (4,15,true)),1,[]⟩,⟨(some (5,5)),.call (f n_Qd8) [(t 5 2),(t 5 4)],(some (4,15,true)),1,[]⟩,⟨(some (5,6)),.pick (t 4 15) (t 5 5) (.c (.one (.bool false))),none,0,[]⟩,⟨(some (5,7)),.mv (t 5 6),none,0,[]⟩]
def g4_5:List AOper:=[⟨(some (5,8)),.mv (t 0 3),(some (5,7,true)),0,[]⟩,⟨(some (5,9)),.bin .and (t 5 8) (c 32),(some (5,7,true)),0,[]⟩,⟨(some (5,10)),.bin .gtr (t 5 9) (c 0),(some (5,7,true)),0,[]⟩,⟨(some (5,11)),.faddr 8 (t 0 1),(some (5,7,true)),0,[]⟩,⟨(some (5,12)),.load false 1 (t 5 11),(some (5,7,true)),1,[]⟩,⟨(some (5,13)),.call (f n_Qd8) [(t 5 10),(t 5 12)],(some (5,7,true)),1,[]⟩,⟨(some (5,14)),.pick (t 5 7) (t 5 13) (.c (.one (.bool false))),none,0,[]⟩,⟨(some (5,15)),.mv (t 5 14),none,0,[]⟩]
def g4_6:List AOper:=[⟨(some (6,0)),.mv (t 0 3),(some (5,15,true)),0,[]⟩,⟨(some (6,1)),.bin .and (t 6 0) (c 64),(some (5,15,true)),0,[]⟩,⟨(some (6,2)),.bin .gtr (t 6 1) (c 0),(some (5,15,true)),0,[]⟩,⟨(some (6,3)),.faddr 9 (t 0 1),(some (5,15,true)),0,[]⟩,⟨(some (6,4)),.load false 1 (t 6 3),(some (5,15,true)),1,[]⟩,⟨(some (6,5)),.call (f n_Qd8) [(t 6 2),(t 6 4)],(some (5,15,true)),1,[]⟩,⟨(some (6,6)),.pick (t 5 15) (t 6 5) (.c (.one (.bool false))),none,0,[]⟩,⟨(some (6,7)),.mv (t 6 6),none,0,[]⟩]
def g4_7:List AOper:=[⟨(some (6,8)),.mv (t 0 3),(some (6,7,true)),0,[]⟩,⟨(some (6,9)),.bin .and (t 6 8) (c 128),(some (6,7,true)),0,[]⟩,⟨(some (6,10)),.bin .gtr (t 6 9) (c 0),(some (6,7,true)),0,[]⟩,⟨(some (6,11)),.faddr 10 (t 0 1),(some (6,7,true)),0,[]⟩,⟨(some (6,12)),.load false 1 (t 6 11),(some (6,7,true)),1,[]⟩,⟨(some (6,13)),.call (f n_Qd8) [(t 6 10),(t 6 12)],(some (6,7,true)),1,[]⟩,⟨(some (6,14)),.pick (t 6 7) (t 6 13) (.c (.one (.bool false))),none,0,[]⟩,⟨(some (0,6)),.mv (t 6 14),none,0,[]⟩]
def q4_9:ACode:=.reg (g4_0++(g4_1++(g4_2++(g4_3++(g4_4++(g4_5++(g4_6++g4_7)))))))
def q4_10:ACode:=(.reg [⟨(some (6,15)),.mv (t 0 6),none,0,[]⟩,⟨(some (7,0)),.mv (t 6 15),none,0,[]⟩,⟨(some (7,1)),.mv (t 0 3),(some (7,0,true)),0,[]⟩,⟨(some (7,2)),.bin .and (t 7 1) (c 256),(some (7,0,true)),0,[]⟩,⟨(some (7,3)),.bin .gtr (t 7 2) (c 0),(some (7,0,true)),0,[]⟩,⟨(some (7,4)),.mv (t 7 3),(some (7,0,true)),0,[]⟩,⟨(some (7,5)),.faddr 11 (t 0 1),(some (7,4,true)),0,[]⟩,⟨(some (7,6)),.load false 1 (t 7 5),(some (7,4,true)),1,[]⟩,⟨(some (7,7)),.bin .geq (t 7 6) (c 0),(some (7,4,true)),0,[]⟩,⟨(some (7,8)),.pick (t 7 4) (t 7 7) (.c (.one (.bool false))),(some (7,0,true)),0,[]⟩,⟨(some (7,9)),.mv (t 7 8),(some (7,0,true)),0,[]⟩,⟨(some (7,10)),.faddr 11 (t 0 1),(some (7,9,true)),0,[]⟩,⟨(some (7,11)),.load false 1 (t 7 10),(some (7,9,true)),1,[]⟩,⟨(some (7,12)),.bin .leq (t 7 11) (c 9),(some (7,9,true)),0,[]⟩,⟨(some (7,13)),.pick (t 7 9) (t 7 12) (.c (.one (.bool false))),(some (7,0,true)),0,[]⟩,⟨(some (7,14)),.mv (t 7 13),(some (7,0,true)),0,[]⟩,⟨(some (7,15)),.mv (t 0 3),(some (7,14,false)),0,[]⟩,⟨(some (8,0)),.bin .and (t 7 15) (c 256),(some (7,14,false)),0,[]⟩,⟨(some (8,1)),.bin .eql (t 8 0) (c 0),(some (7,14,false)),0,[]⟩,⟨(some (8,2)),.mv (t 8 1),(some (7,14,false)),0,[]⟩,⟨(some (8,3)),.faddr 11 (t 0 1),(some (8,2,true)),0,[]⟩,⟨(some (8,4)),.load false 1 (t 8 3),(some (8,2,true)),1,[]⟩,⟨(some (8,5)),.bin .eql (t 8 4) (c 0),(some (8,2,true)),0,[]⟩,⟨(some (8,6)),.pick (t 8 2) (t 8 5) (.c (.one (.bool false))),(some (7,14,false)),0,[]⟩,⟨(some (8,7)),.pick (t 7 14) (.c (.one (.bool true))) (t 8 6),(some (7,0,true)),0,[]⟩,⟨(some (8,8)),.pick (t 7 0) (t 8 7) (.c (.one (.bool false))),none,0,[]⟩,⟨(some (0,6)),.mv (t 8 8),none,0,[]⟩])
def q4_11:ACode:=(.reg [⟨(some (8,9)),.mv (t 0 6),none,0,[]⟩,⟨(some (8,10)),.mv (t 8 9),none,0,[]⟩,⟨(some (8,11)),.mv (t 0 3),(some (8,10,true)),0,[]⟩,⟨(some (8,12)),.bin .and (t 8 11) (c 512),(some (8,10,true)),0,[]⟩,⟨(some (8,13)),.bin .gtr (t 8 12) (c 0),(some (8,10,true)),0,[]⟩,⟨(some (8,14)),.mv (t 8 13),(some (8,10,true)),0,[]⟩,⟨(some (8,15)),.faddr 12 (t 0 1),(some (8,14,true)),0,[]⟩,⟨(some (9,0)),.load false 1 (t 8 15),(some (8,14,true)),1,[]⟩,⟨(some (9,1)),.bin .geq (t 9 0) (c 0),(some (8,14,true)),0,[]⟩,⟨(some (9,2)),.pick (t 8 14) (t 9 1) (.c (.one (.bool false))),(some (8,10,true)),0,[]⟩,⟨(some (9,3)),.mv (t 9 2),(some (8,10,true)),0,[]⟩,⟨(some (9,4)),.faddr 12 (t 0 1),(some (9,3,true)),0,[]⟩,⟨(some (9,5)),.load false 1 (t 9 4),(some (9,3,true)),1,[]⟩,⟨(some (9,6)),.bin .leq (t 9 5) (c 4),(some (9,3,true)),0,[]⟩,⟨(some (9,7)),.pick (t 9 3) (t 9 6) (.c (.one (.bool false))),(some (8,10,true)),0,[]⟩,⟨(some (9,8)),.mv (t 9 7),(some (8,10,true)),0,[]⟩,⟨(some (9,9)),.mv (t 0 3),(some (9,8,false)),0,[]⟩,⟨(some (9,10)),.bin .and (t 9 9) (c 512),(some (9,8,false)),0,[]⟩,⟨(some (9,11)),.bin .eql (t 9 10) (c 0),(some (9,8,false)),0,[]⟩,⟨(some (9,12)),.mv (t 9 11),(some (9,8,false)),0,[]⟩,⟨(some (9,13)),.faddr 12 (t 0 1),(some (9,12,true)),0,[]⟩,⟨(some (9,14)),.load false 1 (t 9 13),(some (9,12,true)),1,[]⟩,⟨(some (9,15)),.bin .eql (t 9 14) (c 0),(some (9,12,true)),0,[]⟩,⟨(some (10,0)),.pick (t 9 12) (t 9 15) (.c (.one (.bool false))),(some (9,8,false)),0,[]⟩,⟨(some (10,1)),.pick (t 9 8) (.c (.one (.bool true))) (t 10 0),(some (8,10,true)),0,[]⟩,⟨(some (10,2)),.pick (t 8 10) (t 10 1) (.c (.one (.bool false))),none,0,[]⟩,⟨(some (0,6)),.mv (t 10 2),none,0,[]⟩])
def q4_12:ACode:=(.reg [⟨(some (10,3)),.mv (t 0 6),none,0,[]⟩,⟨(some (10,4)),.mv (t 10 3),none,0,[]⟩,⟨(some (10,5)),.mv (t 0 3),(some (10,4,true)),0,[]⟩,⟨(some (10,6)),.bin .and (t 10 5) (c 2048),(some (10,4,true)),0,[]⟩,⟨(some (10,7)),.bin .gtr (t 10 6) (c 0),(some (10,4,true)),0,[]⟩,⟨(some (10,8)),.mv (t 10 7),(some (10,4,true)),0,[]⟩,⟨(some (10,9)),.faddr 14 (t 0 1),(some (10,8,true)),0,[]⟩,⟨(some (10,10)),.load false 1 (t 10 9),(some (10,8,true)),1,[]⟩,⟨(some (10,11)),.call (f n_Qee) [(t 10 10)],(some (10,8,true)),1,[]⟩,⟨(some (10,12)),.pick (t 10 8) (t 10 11) (.c (.one (.bool false))),(some (10,4,true)),0,[]⟩,⟨(some (10,13)),.mv (t 10 12),(some (10,4,true)),0,[]⟩,⟨(some (10,14)),.mv (t 0 3),(some (10,13,false)),0,[]⟩,⟨(some (10,15)),.bin .and (t 10 14) (c 2048),(some (10,13,false)),0,[]⟩,⟨(some (11,0)),.bin .eql (t 10 15) (c 0),(some (10,13,false)),0,[]⟩,⟨(some (11,1)),.mv (t 11 0),(some (10,13,false)),0,[]⟩,⟨(some (11,2)),.faddr 14 (t 0 1),(some (11,1,true)),0,[]⟩,⟨(some (11,3)),.load false 1 (t 11 2),(some (11,1,true)),1,[]⟩,⟨(some (11,4)),.sbin .eql (t 11 3) (.c (.one (.str 0 0))),(some (11,1,true)),0,[]⟩,⟨(some (11,5)),.pick (t 11 1) (t 11 4) (.c (.one (.bool false))),(some (10,13,false)),0,[]⟩,⟨(some (11,6)),.pick (t 10 13) (.c (.one (.bool true))) (t 11 5),(some (10,4,true)),0,[]⟩,⟨(some (11,7)),.pick (t 10 4) (t 11 6) (.c (.one (.bool false))),none,0,[]⟩,⟨(some (0,6)),.mv (t 11 7),none,0,[]⟩])
def q4_13:ACode:=(.reg [⟨(some (11,8)),.mv (t 0 6),none,0,[]⟩,⟨(some (11,9)),.mv (t 11 8),none,0,[]⟩,⟨(some (11,10)),.mv (t 0 3),(some (11,9,true)),0,[]⟩,⟨(some (11,11)),.bin .and (t 11 10) (c 4096),(some (11,9,true)),0,[]⟩,⟨(some (11,12)),.bin .gtr (t 11 11) (c 0),(some (11,9,true)),0,[]⟩,⟨(some (11,13)),.mv (t 11 12),(some (11,9,true)),0,[]⟩,⟨(some (11,14)),.faddr 15 (t 0 1),(some (11,13,true)),0,[]⟩,⟨(some (11,15)),.load false 1 (t 11 14),(some (11,13,true)),1,[]⟩,⟨(some (12,0)),.call (f n_Qd5) [(t 11 15)],(some (11,13,true)),1,[]⟩,⟨(some (12,1)),.pick (t 11 13) (t 12 0) (.c (.one (.bool false))),(some (11,9,true)),0,[]⟩,⟨(some (12,2)),.mv (t 12 1),(some (11,9,true)),0,[]⟩,⟨(some (12,3)),.mv (t 0 3),(some (12,2,false)),0,[]⟩,⟨(some (12,4)),.bin .and (t 12 3) (c 4096),(some (12,2,false)),0,[]⟩,⟨(some (12,5)),.bin .eql (t 12 4) (c 0),(some (12,2,false)),0,[]⟩,⟨(some (12,6)),.mv (t 12 5),(some (12,2,false)),0,[]⟩,⟨(some (12,7)),.faddr 15 (t 0 1),(some (12,6,true)),0,[]⟩,⟨(some (12,8)),.load false 1 (t 12 7),(some (12,6,true)),1,[]⟩,⟨(some (12,9)),.len false (t 12 8),(some (12,6,true)),0,[]⟩,⟨(some (12,10)),.bin .eql (t 12 9) (c 0),(some (12,6,true)),0,[]⟩,⟨(some (12,11)),.pick (t 12 6) (t 12 10) (.c (.one (.bool false))),(some (12,2,false)),0,[]⟩,⟨(some (12,12)),.pick (t 12 2) (.c (.one (.bool true))) (t 12 11),(some (11,9,true)),0,[]⟩,⟨(some (12,13)),.pick (t 11 9) (t 12 12) (.c (.one (.bool false))),none,0,[]⟩,⟨(some (0,6)),.mv (t 12 13),none,0,[]⟩])
def q4_14:ACode:=(.reg [⟨(some (12,14)),.mv (t 0 6),none,0,[]⟩,⟨(some (12,15)),.mv (t 12 14),none,0,[]⟩,⟨(some (13,0)),.mv (t 0 3),(some (12,15,true)),0,[]⟩,⟨(some (13,1)),.bin .and (t 13 0) (c 8192),(some (12,15,true)),0,[]⟩,⟨(some (13,2)),.bin .gtr (t 13 1) (c 0),(some (12,15,true)),0,[]⟩,⟨(some (13,3)),.mv (t 13 2),(some (12,15,true)),0,[]⟩,⟨(some (13,4)),.faddr 16 (t 0 1),(some (13,3,true)),0,[]⟩,⟨(some (13,5)),.load true 3 (t 13 4),(some (13,3,true)),1,[]⟩,⟨(some (13,6)),.call (f n_Qdu) [(t 13 5)],(some (13,3,true)),1,[]⟩,⟨(some (13,7)),.pick (t 13 3) (t 13 6) (.c (.one (.bool false))),(some (12,15,true)),0,[]⟩,⟨(some (13,8)),.mv (t 13 7),(some (12,15,true)),0,[]⟩,⟨(some (13,9)),.mv (t 0 3),(some (13,8,false)),0,[]⟩,⟨(some (13,10)),.bin .and (t 13 9) (c 8192),(some (13,8,false)),0,[]⟩,⟨(some (13,11)),.bin .eql (t 13 10) (c 0),(some (13,8,false)),0,[]⟩,⟨(some (13,12)),.mv (t 13 11),(some (13,8,false)),0,[]⟩,⟨(some (13,13)),.faddr 16 (t 0 1),(some (13,12,true)),0,[]⟩,⟨(some (13,14)),.load true 3 (t 13 13),(some (13,12,true)),1,[]⟩,⟨(some (13,15)),.call (f n_Qd9) [(t 13 14)],(some (13,12,true)),1,[]⟩,⟨(some (14,0)),.pick (t 13 12) (t 13 15) (.c (.one (.bool false))),(some (13,8,false)),0,[]⟩,⟨(some (14,1)),.pick (t 13 8) (.c (.one (.bool true))) (t 14 0),(some (12,15,true)),0,[]⟩,⟨(some (14,2)),.pick (t 12 15) (t 14 1) (.c (.one (.bool false))),none,0,[]⟩,⟨(some (0,6)),.mv (t 14 2),none,0,[]⟩])
def q4_15:ACode:=(.reg [⟨(some (14,3)),.mv (t 0 6),none,0,[]⟩,⟨(some (14,4)),.mv (t 14 3),none,0,[]⟩,⟨(some (14,5)),.mv (t 0 3),(some (14,4,true)),0,[]⟩,⟨(some (14,6)),.bin .and (t 14 5) (c 16384),(some (14,4,true)),0,[]⟩,⟨(some (14,7)),.bin .gtr (t 14 6) (c 0),(some (14,4,true)),0,[]⟩,⟨(some (14,8)),.mv (t 14 7),(some (14,4,true)),0,[]⟩,⟨(some (14,9)),.faddr 19 (t 0 1),(some (14,8,true)),0,[]⟩,⟨(some (14,10)),.load false 1 (t 14 9),(some (14,8,true)),1,[]⟩,⟨(some (14,11)),.len true (t 14 10),(some (14,8,true)),0,[]⟩,⟨(some (14,12)),.bin .leq (t 14 11) (c 65536),(some (14,8,true)),0,[]⟩,⟨(some (14,13)),.pick (t 14 8) (t 14 12) (.c (.one (.bool false))),(some (14,4,true)),0,[]⟩,⟨(some (14,14)),.mv (t 14 13),(some (14,4,true)),0,[]⟩,⟨(some (14,15)),.mv (t 0 3),(some (14,14,false)),0,[]⟩,⟨(some (15,0)),.bin .and (t 14 15) (c 16384),(some (14,14,false)),0,[]⟩,⟨(some (15,1)),.bin .eql (t 15 0) (c 0),(some (14,14,false)),0,[]⟩,⟨(some (15,2)),.mv (t 15 1),(some (14,14,false)),0,[]⟩,⟨(some (15,3)),.faddr 19 (t 0 1),(some (15,2,true)),0,[]⟩,⟨(some (15,4)),.load false 1 (t 15 3),(some (15,2,true)),1,[]⟩,⟨(some (15,5)),.sbin .eql (t 15 4) (.c (.one (.str 0 0))),(some (15,2,true)),0,[]⟩,⟨(some (15,6)),.pick (t 15 2) (t 15 5) (.c (.one (.bool false))),(some (14,14,false)),0,[]⟩,⟨(some (15,7)),.pick (t 14 14) (.c (.one (.bool true))) (t 15 6),(some (14,4,true)),0,[]⟩,⟨(some (15,8)),.pick (t 14 4) (t 15 7) (.c (.one (.bool false))),none,0,[]⟩,⟨(some (0,2)),.mv (t 15 8),none,0,[]⟩])
theorem b_ref4_May_cut:b_Qei=.seq (.reg [⟨(some (0,1)),.box (t 0 0),none,3,[]⟩,⟨(some (0,2)),.mv (.c (.one (.bool false))),none,0,[]⟩]) (.seq (.seq (.reg [⟨(some (0,7)),.faddr 0 (t 0 1),none,0,[]⟩,⟨(some (0,8)),.load false 1 (t 0 7),none,1,[]⟩,⟨(some (0,9)),.bin .lss (t 0 8) (c 0),none,0,[]⟩,⟨(some (0,10)),.mv (t 0 9),none,0,[]⟩,⟨(some (0,11)),.faddr 0 (t 0 1),(some (0,10,false)),0,[]⟩,⟨(some (0,12)),.load false 1 (t 0 11),(some (0,10,false)),1,[]⟩,⟨(some (0,13)),.bin .gtr (t 0 12) (c 16),(some (0,10,false)),0,[]⟩,⟨(some (0,14)),.pick (t 0 10) (.c (.one (.bool true))) (t 0 13),none,0,[]⟩]) (.cond (t 0 14) (.seq (.reg [⟨(some (0,2)),.mv (.c (.one (.bool false))),none,0,[]⟩]) .ret) .skip)) (.seq (.reg [⟨(some (0,15)),.faddr 0 (t 0 1),none,0,[]⟩,⟨(some (1,0)),.load false 1 (t 0 15),none,1,[]⟩,⟨(some (1,1)),.call (f n_Qdx) [(t 1 0)],none,1,[]⟩,⟨(some (0,3)),.mv (t 1 1),none,0,[]⟩]) (.seq (.draw [⟨(some (1,2)),.faddr 1 (t 0 1),none,0,[]⟩,⟨(some (1,3)),.load false 1 (t 1 2),none,1,[0]⟩,⟨(some (1,4)),.call (f n_Qed) [(t 1 3)],none,1,[1,0]⟩,⟨(some (1,5)),.faddr 2 (t 0 1),none,0,[]⟩,⟨(some (1,6)),.load false 1 (t 1 5),none,1,[3]⟩,⟨(some (1,7)),.call (f n_Qed) [(t 1 6)],none,1,[4,3,2,1,0]⟩,⟨(some (0,4)),.mv (t 1 4),none,0,[2,1,0,5,4,3]⟩,⟨(some (0,5)),.mv (t 1 7),none,0,[5,4,3,2,1,0,6]⟩]) (.seq (.seq (.reg [⟨(some (1,8)),.faddr 0 (t 0 1),none,0,[]⟩,⟨(some (1,9)),.load false 1 (t 1 8),none,1,[]⟩,⟨(some (1,10)),.bin .eql (t 1 9) (c 0),none,0,[]⟩,⟨(some (1,11)),.mv (t 1 10),none,0,[]⟩,⟨(some (1,12)),.faddr 0 (t 0 1),(some (1,11,false)),0,[]⟩,⟨(some (1,13)),.load false 1 (t 1 12),(some (1,11,false)),1,[]⟩,⟨(some (1,14)),.bin .eql (t 1 13) (c 2),(some (1,11,false)),0,[]⟩,⟨(some (1,15)),.pick (t 1 11) (.c (.one (.bool true))) (t 1 14),none,0,[]⟩]) (.cond (t 1 15) (.reg [⟨(some (2,0)),.faddr 1 (t 0 1),none,0,[]⟩,⟨(some (2,1)),.load false 1 (t 2 0),none,1,[]⟩,⟨(some (2,2)),.call (f n_Qdy) [(t 2 1)],none,1,[]⟩,⟨(some (0,4)),.mv (t 2 2),none,0,[]⟩]) .skip)) (.seq (.seq (.reg [⟨(some (2,3)),.faddr 0 (t 0 1),none,0,[]⟩,⟨(some (2,4)),.load false 1 (t 2 3),none,1,[]⟩,⟨(some (2,5)),.bin .eql (t 2 4) (c 1),none,0,[]⟩,⟨(some (2,6)),.mv (t 2 5),none,0,[]⟩,⟨(some (2,7)),.faddr 0 (t 0 1),(some (2,6,false)),0,[]⟩,⟨(some (2,8)),.load false 1 (t 2 7),(some (2,6,false)),1,[]⟩,⟨(some (2,9)),.bin .eql (t 2 8) (c 3),(some (2,6,false)),0,[]⟩,⟨(some (2,10)),.pick (t 2 6) (.c (.one (.bool true))) (t 2 9),none,0,[]⟩]) (.cond (t 2 10) (.reg [⟨(some (2,11)),.faddr 2 (t 0 1),none,0,[]⟩,⟨(some (2,12)),.load false 1 (t 2 11),none,1,[]⟩,⟨(some (2,13)),.call (f n_Qdy) [(t 2 12)],none,1,[]⟩,⟨(some (0,5)),.mv (t 2 13),none,0,[]⟩]) .skip)) (.seq q4_9 (.seq q4_10 (.seq q4_11 (.seq q4_12 (.seq q4_13 (.seq q4_14 (.seq q4_15 .ret)))))))))))):=rfl
section
variable {P:Program} (H:Fs P)
include H
theorem ref4_g0 (m:Msg) (xb xe:SV) (hk:0<=m.kind/\m.kind<17) (a b:Bool) {fz:Fz} {mu:St} {n id:Nat} {e:Env} {k:TM->St->Nat->Prop} (hfr:Free fz mu n) (b1:with' mu fz id=some (msgC m xb xe)) (s1:MsgS (with' mu fz) m xb xe) (h1:e 0 1=.one (.optr id 0)) (h3:e 0 3=.one (I (bitsOf m.kind))) (h4:e 0 4=.one (.bool a)) (h5:e 0 5=.one (.bool b))
 (hK:∀e' mu' n',Gr n fz mu mu' n n'->with' mu' fz id=some (msgC m xb xe)->MsgS (with' mu' fz) m xb xe->e' 0 1=.one (.optr id 0)->e' 0 3=.one (I (bitsOf m.kind))->e' 3 7=.one (.bool (a&&b&&Qle m))->k (tmE 249 e') mu' n'):
 runK pOrc False (CP P) fz g4_0 (tmE 249 e) mu n k:=by
 have gg:=Gr.refl (lo:=n) hfr;have z1:=b1;have z2:=s1;obtain⟨xl,xs,xk,xm⟩:=s1.1.len;obtain⟨yl,ys,yk,ym⟩:=s1.2.len;have hP:=ref4_places H m xb xe hk;unfold msgC at hP b1;have hfr0:=hfr;have hA:True:=trivial;have hle:=Nat.le_refl n;simp only[↓E1,E2,seval,g4_0, *];repeat' (first|((with_reducible refine Qeo (λhb=>?_) (λhb=>?_))<;>(replace hA:=And.intro hA hb;clear hb;simp only[↓E1,E2,seval, *]))|((with_reducible refine CPr_f (f:=n_Qdz) ?_);((first|(refine(hP).d2 hfr (by first|trivial|exact s1|assumption) ?_;rintro v mu2 n2 g2 rfl)|(refine(hP).d3 hfr (λhm=>by first|trivial|exact MsgS.mono hm s1) ?_;rintro v mu2 n2 g2 b1 rfl)|(refine(hP).c1 hfr (by first|trivial|exact s1|assumption) ?_;rintro v mu2 n2 g2 rfl)|(refine(hP).c2 hfr (λhm=>by first|trivial|exact MsgS.mono hm s1) ?_;rintro v mu2 n2 g2 b1 rfl)|(refine(hP).c3 hfr (λhm=>by first|trivial|exact MsgS.mono hm s1) ?_;rintro v mu2 n2 g2 b1 b2 rfl));(try replace b1:=g2.old hfr b1);(try replace s1:=MsgS.mono (λ_ _ hh=>g2.old hfr hh) s1);replace gg:=gg.trans (g2.weaken hle);replace hle:=Nat.le_trans hle g2.le;replace hfr:=g2.free;clear g2;simp only[↓E1,E2,seval, *])))
 all_goals (refine hK _ _ _ gg (by first|exact z1|exact gg.old hfr0 z1) (by first|exact z2|exact z2.mono (λ_ _ hh=>gg.old hfr0 hh)) (by simp[updN,updE,h1]) (by simp[updN,updE,h3]) ?_;clear hK h1 h3 b1 s1 z1 z2 gg hle hfr hfr0 xl yl;first|(simp_all [updN,updE];done)|(simp_all [updN,updE];omega))
theorem ref4_g1 (m:Msg) (xb xe:SV) (hk:0<=m.kind/\m.kind<17) (ok:Bool) {fz:Fz} {mu:St} {n id:Nat} {e:Env} {k:TM->St->Nat->Prop} (hfr:Free fz mu n) (b1:with' mu fz id=some (msgC m xb xe)) (s1:MsgS (with' mu fz) m xb xe) (h1:e 0 1=.one (.optr id 0)) (h3:e 0 3=.one (I (bitsOf m.kind))) (h6:e 3 7=.one (.bool ok))
 (hK:∀e' mu' n',Gr n fz mu mu' n n'->with' mu' fz id=some (msgC m xb xe)->MsgS (with' mu' fz) m xb xe->e' 0 1=.one (.optr id 0)->e' 0 3=.one (I (bitsOf m.kind))->e' 3 15=.one (.bool (ok&&Qhb (hasF m.kind 0) m.view))->k (tmE 249 e') mu' n'):
 runK pOrc False (CP P) fz g4_1 (tmE 249 e) mu n k:=by
 have gg:=Gr.refl (lo:=n) hfr;have z1:=b1;have z2:=s1;obtain⟨xl,xs,xk,xm⟩:=s1.1.len;obtain⟨yl,ys,yk,ym⟩:=s1.2.len;have q:decide (0<andI (bitsOf m.kind) 1)=hasF m.kind 0:=(Qe9 m.kind hk 0 (by decide)).1;have p:decide (andI (bitsOf m.kind) 1=0)=!hasF m.kind 0:=(Qe9 m.kind hk 0 (by decide)).2;unfold msgC at b1;have hfr0:=hfr;have hA:True:=trivial;have hle:=Nat.le_refl n;cases ok;all_goals simp only[↓E1,E2,seval,g4_1, *,↓b_andI]
 repeat' (first|((with_reducible refine Qeo (λhb=>?_) (λhb=>?_))<;>(replace hA:=And.intro hA hb;clear hb;simp only[↓E1,E2,seval, *,↓b_andI]))|((with_reducible refine CPr_f (f:=n_Qd8) ?_);((first|(refine(ref4_clean H _ _).d2 hfr (by first|trivial|exact s1|assumption) ?_;rintro v mu2 n2 g2 rfl)|(refine(ref4_clean H _ _).d3 hfr (λhm=>by first|trivial|exact MsgS.mono hm s1) ?_;rintro v mu2 n2 g2 b1 rfl)|(refine(ref4_clean H _ _).c1 hfr (by first|trivial|exact s1|assumption) ?_;rintro v mu2 n2 g2 rfl)|(refine(ref4_clean H _ _).c2 hfr (λhm=>by first|trivial|exact MsgS.mono hm s1) ?_;rintro v mu2 n2 g2 b1 rfl)|(refine(ref4_clean H _ _).c3 hfr (λhm=>by first|trivial|exact MsgS.mono hm s1) ?_;rintro v mu2 n2 g2 b1 b2 rfl));(try replace b1:=g2.old hfr b1);(try replace s1:=MsgS.mono (λ_ _ hh=>g2.old hfr hh) s1);replace gg:=gg.trans (g2.weaken hle);replace hle:=Nat.le_trans hle g2.le;replace hfr:=g2.free;clear g2;simp only[↓E1,E2,seval, *,↓b_andI])))
 all_goals (refine hK _ _ _ gg (by first|exact z1|exact gg.old hfr0 z1) (by first|exact z2|exact z2.mono (λ_ _ hh=>gg.old hfr0 hh)) (by simp[updN,updE,h1]) (by simp[updN,updE,h3]) ?_;clear hK h1 h3 b1 s1 z1 z2 gg hle hfr hfr0 xl yl;first|(simp_all [updN,updE];done)|(simp_all [updN,updE];omega))
theorem ref4_g2 (m:Msg) (xb xe:SV) (hk:0<=m.kind/\m.kind<17) (ok:Bool) {fz:Fz} {mu:St} {n id:Nat} {e:Env} {k:TM->St->Nat->Prop} (hfr:Free fz mu n) (b1:with' mu fz id=some (msgC m xb xe)) (s1:MsgS (with' mu fz) m xb xe) (h1:e 0 1=.one (.optr id 0)) (h3:e 0 3=.one (I (bitsOf m.kind))) (h6:e 3 15=.one (.bool ok))
 (hK:∀e' mu' n',Gr n fz mu mu' n n'->with' mu' fz id=some (msgC m xb xe)->MsgS (with' mu' fz) m xb xe->e' 0 1=.one (.optr id 0)->e' 0 3=.one (I (bitsOf m.kind))->e' 4 7=.one (.bool (ok&&Qhb (hasF m.kind 1) m.normal))->k (tmE 249 e') mu' n'):
 runK pOrc False (CP P) fz g4_2 (tmE 249 e) mu n k:=by
 have gg:=Gr.refl (lo:=n) hfr;have z1:=b1;have z2:=s1;obtain⟨xl,xs,xk,xm⟩:=s1.1.len;obtain⟨yl,ys,yk,ym⟩:=s1.2.len;have q:decide (0<andI (bitsOf m.kind) 2)=hasF m.kind 1:=(Qe9 m.kind hk 1 (by decide)).1;have p:decide (andI (bitsOf m.kind) 2=0)=!hasF m.kind 1:=(Qe9 m.kind hk 1 (by decide)).2;unfold msgC at b1;have hfr0:=hfr;have hA:True:=trivial;have hle:=Nat.le_refl n;cases ok;all_goals simp only[↓E1,E2,seval,g4_2, *,↓b_andI]
 repeat' (first|((with_reducible refine Qeo (λhb=>?_) (λhb=>?_))<;>(replace hA:=And.intro hA hb;clear hb;simp only[↓E1,E2,seval, *,↓b_andI]))|((with_reducible refine CPr_f (f:=n_Qd8) ?_);((first|(refine(ref4_clean H _ _).d2 hfr (by first|trivial|exact s1|assumption) ?_;rintro v mu2 n2 g2 rfl)|(refine(ref4_clean H _ _).d3 hfr (λhm=>by first|trivial|exact MsgS.mono hm s1) ?_;rintro v mu2 n2 g2 b1 rfl)|(refine(ref4_clean H _ _).c1 hfr (by first|trivial|exact s1|assumption) ?_;rintro v mu2 n2 g2 rfl)|(refine(ref4_clean H _ _).c2 hfr (λhm=>by first|trivial|exact MsgS.mono hm s1) ?_;rintro v mu2 n2 g2 b1 rfl)|(refine(ref4_clean H _ _).c3 hfr (λhm=>by first|trivial|exact MsgS.mono hm s1) ?_;rintro v mu2 n2 g2 b1 b2 rfl));(try replace b1:=g2.old hfr b1);(try replace s1:=MsgS.mono (λ_ _ hh=>g2.old hfr hh) s1);replace gg:=gg.trans (g2.weaken hle);replace hle:=Nat.le_trans hle g2.le;replace hfr:=g2.free;clear g2;simp only[↓E1,E2,seval, *,↓b_andI])))
 all_goals (refine hK _ _ _ gg (by first|exact z1|exact gg.old hfr0 z1) (by first|exact z2|exact z2.mono (λ_ _ hh=>gg.old hfr0 hh)) (by simp[updN,updE,h1]) (by simp[updN,updE,h3]) ?_;clear hK h1 h3 b1 s1 z1 z2 gg hle hfr hfr0 xl yl;first|(simp_all [updN,updE];done)|(simp_all [updN,updE];omega))
theorem ref4_g3 (m:Msg) (xb xe:SV) (hk:0<=m.kind/\m.kind<17) (ok:Bool) {fz:Fz} {mu:St} {n id:Nat} {e:Env} {k:TM->St->Nat->Prop} (hfr:Free fz mu n) (b1:with' mu fz id=some (msgC m xb xe)) (s1:MsgS (with' mu fz) m xb xe) (h1:e 0 1=.one (.optr id 0)) (h3:e 0 3=.one (I (bitsOf m.kind))) (h6:e 4 7=.one (.bool ok))
 (hK:∀e' mu' n',Gr n fz mu mu' n n'->with' mu' fz id=some (msgC m xb xe)->MsgS (with' mu' fz) m xb xe->e' 0 1=.one (.optr id 0)->e' 0 3=.one (I (bitsOf m.kind))->e' 4 15=.one (.bool (ok&&Qhb (hasF m.kind 3) m.commit))->k (tmE 249 e') mu' n'):
 runK pOrc False (CP P) fz g4_3 (tmE 249 e) mu n k:=by
 have gg:=Gr.refl (lo:=n) hfr;have z1:=b1;have z2:=s1;obtain⟨xl,xs,xk,xm⟩:=s1.1.len;obtain⟨yl,ys,yk,ym⟩:=s1.2.len;have q:decide (0<andI (bitsOf m.kind) 8)=hasF m.kind 3:=(Qe9 m.kind hk 3 (by decide)).1;have p:decide (andI (bitsOf m.kind) 8=0)=!hasF m.kind 3:=(Qe9 m.kind hk 3 (by decide)).2;unfold msgC at b1;have hfr0:=hfr;have hA:True:=trivial;have hle:=Nat.le_refl n;cases ok;all_goals simp only[↓E1,E2,seval,g4_3, *,↓b_andI]
 repeat' (first|((with_reducible refine Qeo (λhb=>?_) (λhb=>?_))<;>(replace hA:=And.intro hA hb;clear hb;simp only[↓E1,E2,seval, *,↓b_andI]))|((with_reducible refine CPr_f (f:=n_Qd8) ?_);((first|(refine(ref4_clean H _ _).d2 hfr (by first|trivial|exact s1|assumption) ?_;rintro v mu2 n2 g2 rfl)|(refine(ref4_clean H _ _).d3 hfr (λhm=>by first|trivial|exact MsgS.mono hm s1) ?_;rintro v mu2 n2 g2 b1 rfl)|(refine(ref4_clean H _ _).c1 hfr (by first|trivial|exact s1|assumption) ?_;rintro v mu2 n2 g2 rfl)|(refine(ref4_clean H _ _).c2 hfr (λhm=>by first|trivial|exact MsgS.mono hm s1) ?_;rintro v mu2 n2 g2 b1 rfl)|(refine(ref4_clean H _ _).c3 hfr (λhm=>by first|trivial|exact MsgS.mono hm s1) ?_;rintro v mu2 n2 g2 b1 b2 rfl));(try replace b1:=g2.old hfr b1);(try replace s1:=MsgS.mono (λ_ _ hh=>g2.old hfr hh) s1);replace gg:=gg.trans (g2.weaken hle);replace hle:=Nat.le_trans hle g2.le;replace hfr:=g2.free;clear g2;simp only[↓E1,E2,seval, *,↓b_andI])))
 all_goals (refine hK _ _ _ gg (by first|exact z1|exact gg.old hfr0 z1) (by first|exact z2|exact z2.mono (λ_ _ hh=>gg.old hfr0 hh)) (by simp[updN,updE,h1]) (by simp[updN,updE,h3]) ?_;clear hK h1 h3 b1 s1 z1 z2 gg hle hfr hfr0 xl yl;first|(simp_all [updN,updE];done)|(simp_all [updN,updE];omega))
theorem ref4_g4 (m:Msg) (xb xe:SV) (hk:0<=m.kind/\m.kind<17) (ok:Bool) {fz:Fz} {mu:St} {n id:Nat} {e:Env} {k:TM->St->Nat->Prop} (hfr:Free fz mu n) (b1:with' mu fz id=some (msgC m xb xe)) (s1:MsgS (with' mu fz) m xb xe) (h1:e 0 1=.one (.optr id 0)) (h3:e 0 3=.one (I (bitsOf m.kind))) (h6:e 4 15=.one (.bool ok))
 (hK:∀e' mu' n',Gr n fz mu mu' n n'->with' mu' fz id=some (msgC m xb xe)->MsgS (with' mu' fz) m xb xe->e' 0 1=.one (.optr id 0)->e' 0 3=.one (I (bitsOf m.kind))->e' 5 7=.one (.bool (ok&&Qhb (hasF m.kind 4) m.round))->k (tmE 249 e') mu' n'):
 runK pOrc False (CP P) fz g4_4 (tmE 249 e) mu n k:=by
 have gg:=Gr.refl (lo:=n) hfr;have z1:=b1;have z2:=s1;obtain⟨xl,xs,xk,xm⟩:=s1.1.len;obtain⟨yl,ys,yk,ym⟩:=s1.2.len;have q:decide (0<andI (bitsOf m.kind) 16)=hasF m.kind 4:=(Qe9 m.kind hk 4 (by decide)).1;have p:decide (andI (bitsOf m.kind) 16=0)=!hasF m.kind 4:=(Qe9 m.kind hk 4 (by decide)).2;unfold msgC at b1;have hfr0:=hfr;have hA:True:=trivial;have hle:=Nat.le_refl n;cases ok;all_goals simp only[↓E1,E2,seval,g4_4, *,↓b_andI]
 repeat' (first|((with_reducible refine Qeo (λhb=>?_) (λhb=>?_))<;>(replace hA:=And.intro hA hb;clear hb;simp only[↓E1,E2,seval, *,↓b_andI]))|((with_reducible refine CPr_f (f:=n_Qd8) ?_);((first|(refine(ref4_clean H _ _).d2 hfr (by first|trivial|exact s1|assumption) ?_;rintro v mu2 n2 g2 rfl)|(refine(ref4_clean H _ _).d3 hfr (λhm=>by first|trivial|exact MsgS.mono hm s1) ?_;rintro v mu2 n2 g2 b1 rfl)|(refine(ref4_clean H _ _).c1 hfr (by first|trivial|exact s1|assumption) ?_;rintro v mu2 n2 g2 rfl)|(refine(ref4_clean H _ _).c2 hfr (λhm=>by first|trivial|exact MsgS.mono hm s1) ?_;rintro v mu2 n2 g2 b1 rfl)|(refine(ref4_clean H _ _).c3 hfr (λhm=>by first|trivial|exact MsgS.mono hm s1) ?_;rintro v mu2 n2 g2 b1 b2 rfl));(try replace b1:=g2.old hfr b1);(try replace s1:=MsgS.mono (λ_ _ hh=>g2.old hfr hh) s1);replace gg:=gg.trans (g2.weaken hle);replace hle:=Nat.le_trans hle g2.le;replace hfr:=g2.free;clear g2;simp only[↓E1,E2,seval, *,↓b_andI])))
 all_goals (refine hK _ _ _ gg (by first|exact z1|exact gg.old hfr0 z1) (by first|exact z2|exact z2.mono (λ_ _ hh=>gg.old hfr0 hh)) (by simp[updN,updE,h1]) (by simp[updN,updE,h3]) ?_;clear hK h1 h3 b1 s1 z1 z2 gg hle hfr hfr0 xl yl;first|(simp_all [updN,updE];done)|(simp_all [updN,updE];omega))
theorem ref4_g5 (m:Msg) (xb xe:SV) (hk:0<=m.kind/\m.kind<17) (ok:Bool) {fz:Fz} {mu:St} {n id:Nat} {e:Env} {k:TM->St->Nat->Prop} (hfr:Free fz mu n) (b1:with' mu fz id=some (msgC m xb xe)) (s1:MsgS (with' mu fz) m xb xe) (h1:e 0 1=.one (.optr id 0)) (h3:e 0 3=.one (I (bitsOf m.kind))) (h6:e 5 7=.one (.bool ok))
 (hK:∀e' mu' n',Gr n fz mu mu' n n'->with' mu' fz id=some (msgC m xb xe)->MsgS (with' mu' fz) m xb xe->e' 0 1=.one (.optr id 0)->e' 0 3=.one (I (bitsOf m.kind))->e' 5 15=.one (.bool (ok&&Qhb (hasF m.kind 5) m.client))->k (tmE 249 e') mu' n'):
 runK pOrc False (CP P) fz g4_5 (tmE 249 e) mu n k:=by
 have gg:=Gr.refl (lo:=n) hfr;have z1:=b1;have z2:=s1;obtain⟨xl,xs,xk,xm⟩:=s1.1.len;obtain⟨yl,ys,yk,ym⟩:=s1.2.len;have q:decide (0<andI (bitsOf m.kind) 32)=hasF m.kind 5:=(Qe9 m.kind hk 5 (by decide)).1;have p:decide (andI (bitsOf m.kind) 32=0)=!hasF m.kind 5:=(Qe9 m.kind hk 5 (by decide)).2;unfold msgC at b1;have hfr0:=hfr;have hA:True:=trivial;have hle:=Nat.le_refl n;cases ok;all_goals simp only[↓E1,E2,seval,g4_5, *,↓b_andI]
 repeat' (first|((with_reducible refine Qeo (λhb=>?_) (λhb=>?_))<;>(replace hA:=And.intro hA hb;clear hb;simp only[↓E1,E2,seval, *,↓b_andI]))|((with_reducible refine CPr_f (f:=n_Qd8) ?_);((first|(refine(ref4_clean H _ _).d2 hfr (by first|trivial|exact s1|assumption) ?_;rintro v mu2 n2 g2 rfl)|(refine(ref4_clean H _ _).d3 hfr (λhm=>by first|trivial|exact MsgS.mono hm s1) ?_;rintro v mu2 n2 g2 b1 rfl)|(refine(ref4_clean H _ _).c1 hfr (by first|trivial|exact s1|assumption) ?_;rintro v mu2 n2 g2 rfl)|(refine(ref4_clean H _ _).c2 hfr (λhm=>by first|trivial|exact MsgS.mono hm s1) ?_;rintro v mu2 n2 g2 b1 rfl)|(refine(ref4_clean H _ _).c3 hfr (λhm=>by first|trivial|exact MsgS.mono hm s1) ?_;rintro v mu2 n2 g2 b1 b2 rfl));(try replace b1:=g2.old hfr b1);(try replace s1:=MsgS.mono (λ_ _ hh=>g2.old hfr hh) s1);replace gg:=gg.trans (g2.weaken hle);replace hle:=Nat.le_trans hle g2.le;replace hfr:=g2.free;clear g2;simp only[↓E1,E2,seval, *,↓b_andI])))
 all_goals (refine hK _ _ _ gg (by first|exact z1|exact gg.old hfr0 z1) (by first|exact z2|exact z2.mono (λ_ _ hh=>gg.old hfr0 hh)) (by simp[updN,updE,h1]) (by simp[updN,updE,h3]) ?_;clear hK h1 h3 b1 s1 z1 z2 gg hle hfr hfr0 xl yl;first|(simp_all [updN,updE];done)|(simp_all [updN,updE];omega))
theorem ref4_g6 (m:Msg) (xb xe:SV) (hk:0<=m.kind/\m.kind<17) (ok:Bool) {fz:Fz} {mu:St} {n id:Nat} {e:Env} {k:TM->St->Nat->Prop} (hfr:Free fz mu n) (b1:with' mu fz id=some (msgC m xb xe)) (s1:MsgS (with' mu fz) m xb xe) (h1:e 0 1=.one (.optr id 0)) (h3:e 0 3=.one (I (bitsOf m.kind))) (h6:e 5 15=.one (.bool ok))
 (hK:∀e' mu' n',Gr n fz mu mu' n n'->with' mu' fz id=some (msgC m xb xe)->MsgS (with' mu' fz) m xb xe->e' 0 1=.one (.optr id 0)->e' 0 3=.one (I (bitsOf m.kind))->e' 6 7=.one (.bool (ok&&Qhb (hasF m.kind 6) m.session))->k (tmE 249 e') mu' n'):
 runK pOrc False (CP P) fz g4_6 (tmE 249 e) mu n k:=by
 have gg:=Gr.refl (lo:=n) hfr;have z1:=b1;have z2:=s1;obtain⟨xl,xs,xk,xm⟩:=s1.1.len;obtain⟨yl,ys,yk,ym⟩:=s1.2.len;have q:decide (0<andI (bitsOf m.kind) 64)=hasF m.kind 6:=(Qe9 m.kind hk 6 (by decide)).1;have p:decide (andI (bitsOf m.kind) 64=0)=!hasF m.kind 6:=(Qe9 m.kind hk 6 (by decide)).2;unfold msgC at b1;have hfr0:=hfr;have hA:True:=trivial;have hle:=Nat.le_refl n;cases ok;all_goals simp only[↓E1,E2,seval,g4_6, *,↓b_andI]
 repeat' (first|((with_reducible refine Qeo (λhb=>?_) (λhb=>?_))<;>(replace hA:=And.intro hA hb;clear hb;simp only[↓E1,E2,seval, *,↓b_andI]))|((with_reducible refine CPr_f (f:=n_Qd8) ?_);((first|(refine(ref4_clean H _ _).d2 hfr (by first|trivial|exact s1|assumption) ?_;rintro v mu2 n2 g2 rfl)|(refine(ref4_clean H _ _).d3 hfr (λhm=>by first|trivial|exact MsgS.mono hm s1) ?_;rintro v mu2 n2 g2 b1 rfl)|(refine(ref4_clean H _ _).c1 hfr (by first|trivial|exact s1|assumption) ?_;rintro v mu2 n2 g2 rfl)|(refine(ref4_clean H _ _).c2 hfr (λhm=>by first|trivial|exact MsgS.mono hm s1) ?_;rintro v mu2 n2 g2 b1 rfl)|(refine(ref4_clean H _ _).c3 hfr (λhm=>by first|trivial|exact MsgS.mono hm s1) ?_;rintro v mu2 n2 g2 b1 b2 rfl));(try replace b1:=g2.old hfr b1);(try replace s1:=MsgS.mono (λ_ _ hh=>g2.old hfr hh) s1);replace gg:=gg.trans (g2.weaken hle);replace hle:=Nat.le_trans hle g2.le;replace hfr:=g2.free;clear g2;simp only[↓E1,E2,seval, *,↓b_andI])))
 all_goals (refine hK _ _ _ gg (by first|exact z1|exact gg.old hfr0 z1) (by first|exact z2|exact z2.mono (λ_ _ hh=>gg.old hfr0 hh)) (by simp[updN,updE,h1]) (by simp[updN,updE,h3]) ?_;clear hK h1 h3 b1 s1 z1 z2 gg hle hfr hfr0 xl yl;first|(simp_all [updN,updE];done)|(simp_all [updN,updE];omega))
theorem ref4_g7 (m:Msg) (xb xe:SV) (hk:0<=m.kind/\m.kind<17) (ok:Bool) {fz:Fz} {mu:St} {n id:Nat} {e:Env} {k:TM->St->Nat->Prop} (hfr:Free fz mu n) (b1:with' mu fz id=some (msgC m xb xe)) (s1:MsgS (with' mu fz) m xb xe) (h1:e 0 1=.one (.optr id 0)) (h3:e 0 3=.one (I (bitsOf m.kind))) (h6:e 6 7=.one (.bool ok))
 (hK:∀e' mu' n',Gr n fz mu mu' n n'->with' mu' fz id=some (msgC m xb xe)->MsgS (with' mu' fz) m xb xe->e' 0 1=.one (.optr id 0)->e' 0 3=.one (I (bitsOf m.kind))->e' 0 6=.one (.bool (ok&&Qhb (hasF m.kind 7) m.number))->k (tmE 249 e') mu' n'):
 runK pOrc False (CP P) fz g4_7 (tmE 249 e) mu n k:=by
 have gg:=Gr.refl (lo:=n) hfr;have z1:=b1;have z2:=s1;obtain⟨xl,xs,xk,xm⟩:=s1.1.len;obtain⟨yl,ys,yk,ym⟩:=s1.2.len;have q:decide (0<andI (bitsOf m.kind) 128)=hasF m.kind 7:=(Qe9 m.kind hk 7 (by decide)).1;have p:decide (andI (bitsOf m.kind) 128=0)=!hasF m.kind 7:=(Qe9 m.kind hk 7 (by decide)).2;unfold msgC at b1;have hfr0:=hfr;have hA:True:=trivial;have hle:=Nat.le_refl n;cases ok;all_goals simp only[↓E1,E2,seval,g4_7, *,↓b_andI]
 repeat' (first|((with_reducible refine Qeo (λhb=>?_) (λhb=>?_))<;>(replace hA:=And.intro hA hb;clear hb;simp only[↓E1,E2,seval, *,↓b_andI]))|((with_reducible refine CPr_f (f:=n_Qd8) ?_);((first|(refine(ref4_clean H _ _).d2 hfr (by first|trivial|exact s1|assumption) ?_;rintro v mu2 n2 g2 rfl)|(refine(ref4_clean H _ _).d3 hfr (λhm=>by first|trivial|exact MsgS.mono hm s1) ?_;rintro v mu2 n2 g2 b1 rfl)|(refine(ref4_clean H _ _).c1 hfr (by first|trivial|exact s1|assumption) ?_;rintro v mu2 n2 g2 rfl)|(refine(ref4_clean H _ _).c2 hfr (λhm=>by first|trivial|exact MsgS.mono hm s1) ?_;rintro v mu2 n2 g2 b1 rfl)|(refine(ref4_clean H _ _).c3 hfr (λhm=>by first|trivial|exact MsgS.mono hm s1) ?_;rintro v mu2 n2 g2 b1 b2 rfl));(try replace b1:=g2.old hfr b1);(try replace s1:=MsgS.mono (λ_ _ hh=>g2.old hfr hh) s1);replace gg:=gg.trans (g2.weaken hle);replace hle:=Nat.le_trans hle g2.le;replace hfr:=g2.free;clear g2;simp only[↓E1,E2,seval, *,↓b_andI])))
 all_goals (refine hK _ _ _ gg (by first|exact z1|exact gg.old hfr0 z1) (by first|exact z2|exact z2.mono (λ_ _ hh=>gg.old hfr0 hh)) (by simp[updN,updE,h1]) (by simp[updN,updE,h3]) ?_;clear hK h1 h3 b1 s1 z1 z2 gg hle hfr hfr0 xl yl;first|(simp_all [updN,updE];done)|(simp_all [updN,updE];omega))
theorem ref4_q10 (m:Msg) (xb xe:SV) (hk:0<=m.kind/\m.kind<17) (ok:Bool) {fz:Fz} {mu:St} {n id:Nat} {e:Env} {k:AExit->TM->St->Nat->Prop} (hfr:Free fz mu n) (b1:with' mu fz id=some (msgC m xb xe)) (s1:MsgS (with' mu fz) m xb xe) (h1:e 0 1=.one (.optr id 0)) (h3:e 0 3=.one (I (bitsOf m.kind))) (h6:e 0 6=.one (.bool ok))
 (hK:∀e' mu' n',Gr n fz mu mu' n n'->with' mu' fz id=some (msgC m xb xe)->MsgS (with' mu' fz) m xb xe->e' 0 1=.one (.optr id 0)->e' 0 3=.one (I (bitsOf m.kind))->e' 0 6=.one (.bool (ok&&codeOk (hasF m.kind 8) m.code 9))->k .normal (tmE 249 e') mu' n'):
 dcode pOrc False (CP P) fz 0 q4_10 (tmE 249 e) mu n k:=by
 have gg:=Gr.refl (lo:=n) hfr;have z1:=b1;have z2:=s1;obtain⟨xl,xs,xk,xm⟩:=s1.1.len;obtain⟨yl,ys,yk,ym⟩:=s1.2.len;have q:decide (0<andI (bitsOf m.kind) 256)=hasF m.kind 8:=(Qe9 m.kind hk 8 (by decide)).1;have p:decide (andI (bitsOf m.kind) 256=0)=!hasF m.kind 8:=(Qe9 m.kind hk 8 (by decide)).2;unfold msgC at b1;have hfr0:=hfr;have s2:=s1.1;have s3:=s1.2;have hA:True:=trivial;have hle:=Nat.le_refl n;cases ok;all_goals simp only[↓E1,E2,seval,q4_10, *,↓b_andI,Qe7]
 repeat' (first|((with_reducible refine Qeo (λhb=>?_) (λhb=>?_))<;>(replace hA:=And.intro hA hb;clear hb;simp only[↓E1,E2,seval, *,↓b_andI,Qe7])))
 all_goals (refine hK _ _ _ gg (by first|exact z1|exact gg.old hfr0 z1) (by first|exact z2|exact z2.mono (λ_ _ hh=>gg.old hfr0 hh)) (by simp[updN,updE,h1]) (by simp[updN,updE,h3]) ?_;(try clear hQ);(try clear hR);(try clear s2);(try clear s3);clear hK h1 h3 b1 s1 z1 z2 gg hle hfr hfr0 xl yl;first|(simp_all [updN,updE,codeOk,-List.length_eq_zero_iff];done)|(simp_all [updN,updE,codeOk,-List.length_eq_zero_iff];omega))
theorem ref4_q11 (m:Msg) (xb xe:SV) (hk:0<=m.kind/\m.kind<17) (ok:Bool) {fz:Fz} {mu:St} {n id:Nat} {e:Env} {k:AExit->TM->St->Nat->Prop} (hfr:Free fz mu n) (b1:with' mu fz id=some (msgC m xb xe)) (s1:MsgS (with' mu fz) m xb xe) (h1:e 0 1=.one (.optr id 0)) (h3:e 0 3=.one (I (bitsOf m.kind))) (h6:e 0 6=.one (.bool ok))
 (hK:∀e' mu' n',Gr n fz mu mu' n n'->with' mu' fz id=some (msgC m xb xe)->MsgS (with' mu' fz) m xb xe->e' 0 1=.one (.optr id 0)->e' 0 3=.one (I (bitsOf m.kind))->e' 0 6=.one (.bool (ok&&codeOk (hasF m.kind 9) m.agg 4))->k .normal (tmE 249 e') mu' n'):
 dcode pOrc False (CP P) fz 0 q4_11 (tmE 249 e) mu n k:=by
 have gg:=Gr.refl (lo:=n) hfr;have z1:=b1;have z2:=s1;obtain⟨xl,xs,xk,xm⟩:=s1.1.len;obtain⟨yl,ys,yk,ym⟩:=s1.2.len;have q:decide (0<andI (bitsOf m.kind) 512)=hasF m.kind 9:=(Qe9 m.kind hk 9 (by decide)).1;have p:decide (andI (bitsOf m.kind) 512=0)=!hasF m.kind 9:=(Qe9 m.kind hk 9 (by decide)).2;unfold msgC at b1;have hfr0:=hfr;have s2:=s1.1;have s3:=s1.2;have hA:True:=trivial;have hle:=Nat.le_refl n;cases ok;all_goals simp only[↓E1,E2,seval,q4_11, *,↓b_andI,Qe7]
 repeat' (first|((with_reducible refine Qeo (λhb=>?_) (λhb=>?_))<;>(replace hA:=And.intro hA hb;clear hb;simp only[↓E1,E2,seval, *,↓b_andI,Qe7])))
 all_goals (refine hK _ _ _ gg (by first|exact z1|exact gg.old hfr0 z1) (by first|exact z2|exact z2.mono (λ_ _ hh=>gg.old hfr0 hh)) (by simp[updN,updE,h1]) (by simp[updN,updE,h3]) ?_;(try clear hQ);(try clear hR);(try clear s2);(try clear s3);clear hK h1 h3 b1 s1 z1 z2 gg hle hfr hfr0 xl yl;first|(simp_all [updN,updE,codeOk,-List.length_eq_zero_iff];done)|(simp_all [updN,updE,codeOk,-List.length_eq_zero_iff];omega))
theorem ref4_q12 (m:Msg) (xb xe:SV) (hk:0<=m.kind/\m.kind<17) (ok:Bool) {fz:Fz} {mu:St} {n id:Nat} {e:Env} {k:AExit->TM->St->Nat->Prop} (hfr:Free fz mu n) (b1:with' mu fz id=some (msgC m xb xe)) (s1:MsgS (with' mu fz) m xb xe) (h1:e 0 1=.one (.optr id 0)) (h3:e 0 3=.one (I (bitsOf m.kind))) (h6:e 0 6=.one (.bool ok))
 (hK:∀e' mu' n',Gr n fz mu mu' n n'->with' mu' fz id=some (msgC m xb xe)->MsgS (with' mu' fz) m xb xe->e' 0 1=.one (.optr id 0)->e' 0 3=.one (I (bitsOf m.kind))->e' 0 6=.one (.bool (ok&&serOk (hasF m.kind 11) m.series))->k .normal (tmE 249 e') mu' n'):
 dcode pOrc False (CP P) fz 0 q4_12 (tmE 249 e) mu n k:=by
 have gg:=Gr.refl (lo:=n) hfr;have z1:=b1;have z2:=s1;obtain⟨xl,xs,xk,xm⟩:=s1.1.len;obtain⟨yl,ys,yk,ym⟩:=s1.2.len;have q:decide (0<andI (bitsOf m.kind) 2048)=hasF m.kind 11:=(Qe9 m.kind hk 11 (by decide)).1;have p:decide (andI (bitsOf m.kind) 2048=0)=!hasF m.kind 11:=(Qe9 m.kind hk 11 (by decide)).2;unfold msgC at b1;have hfr0:=hfr;have s2:=s1.1;have s3:=s1.2;have hA:True:=trivial;have hle:=Nat.le_refl n;cases ok;all_goals simp only[↓E1,E2,seval,q4_12, *,↓b_andI,Qe7]
 repeat' (first|((with_reducible refine Qeo (λhb=>?_) (λhb=>?_))<;>(replace hA:=And.intro hA hb;clear hb;simp only[↓E1,E2,seval, *,↓b_andI,Qe7]))|((with_reducible refine CPr_f (f:=n_Qee) ?_);((first|(refine(ref1_Name H m.series).d2 hfr (by first|trivial|exact s1|exact s2|exact s3|assumption) ?_;rintro v mu2 n2 g2 rfl)|(refine(ref1_Name H m.series).d3 hfr (λhm=>by first|trivial|exact MsgS.mono hm s1|exact PtsR.mono hm s2|exact EntsR.mono hm s3) ?_;rintro v mu2 n2 g2 b1 rfl)|(refine(ref1_Name H m.series).c1 hfr (by first|trivial|exact s1|exact s2|exact s3|assumption) ?_;rintro v mu2 n2 g2 rfl)|(refine(ref1_Name H m.series).c2 hfr (λhm=>by first|trivial|exact MsgS.mono hm s1|exact PtsR.mono hm s2|exact EntsR.mono hm s3) ?_;rintro v mu2 n2 g2 b1 rfl)|(refine(ref1_Name H m.series).c3 hfr (λhm=>by first|trivial|exact MsgS.mono hm s1|exact PtsR.mono hm s2|exact EntsR.mono hm s3) ?_;rintro v mu2 n2 g2 b1 b2 rfl));(try replace b1:=g2.old hfr b1);(try replace s1:=MsgS.mono (λ_ _ hh=>g2.old hfr hh) s1);(try replace s2:=PtsR.mono (λ_ _ hh=>g2.old hfr hh) s2);(try replace s3:=EntsR.mono (λ_ _ hh=>g2.old hfr hh) s3);replace gg:=gg.trans (g2.weaken hle);replace hle:=Nat.le_trans hle g2.le;replace hfr:=g2.free;clear g2;simp only[↓E1,E2,seval, *,↓b_andI,Qe7])))
 all_goals (refine hK _ _ _ gg (by first|exact z1|exact gg.old hfr0 z1) (by first|exact z2|exact z2.mono (λ_ _ hh=>gg.old hfr0 hh)) (by simp[updN,updE,h1]) (by simp[updN,updE,h3]) ?_;(try clear hQ);(try clear hR);(try clear s2);(try clear s3);clear hK h1 h3 b1 s1 z1 z2 gg hle hfr hfr0 xl yl;first|(simp_all [updN,updE,serOk,-List.length_eq_zero_iff];done)|(simp_all [updN,updE,serOk,-List.length_eq_zero_iff];omega))
theorem ref4_q13 (m:Msg) (xb xe:SV) (hk:0<=m.kind/\m.kind<17) (ok:Bool) (hl:m.batch.length<=1152921504606846976) {fz:Fz} {mu:St} {n id:Nat} {e:Env} {k:AExit->TM->St->Nat->Prop} (hfr:Free fz mu n) (b1:with' mu fz id=some (msgC m xb xe)) (s1:MsgS (with' mu fz) m xb xe) (h1:e 0 1=.one (.optr id 0)) (h3:e 0 3=.one (I (bitsOf m.kind))) (h6:e 0 6=.one (.bool ok))
 (hK:∀e' mu' n',Gr n fz mu mu' n n'->with' mu' fz id=some (msgC m xb xe)->MsgS (with' mu' fz) m xb xe->e' 0 1=.one (.optr id 0)->e' 0 3=.one (I (bitsOf m.kind))->e' 0 6=.one (.bool (ok&&batOk (hasF m.kind 12) m.batch))->k .normal (tmE 249 e') mu' n'):
 dcode pOrc False (CP P) fz 0 q4_13 (tmE 249 e) mu n k:=by
 have gg:=Gr.refl (lo:=n) hfr;have z1:=b1;have z2:=s1;obtain⟨xl,xs,xk,xm⟩:=s1.1.len;obtain⟨yl,ys,yk,ym⟩:=s1.2.len;have q:decide (0<andI (bitsOf m.kind) 4096)=hasF m.kind 12:=(Qe9 m.kind hk 12 (by decide)).1;have p:decide (andI (bitsOf m.kind) 4096=0)=!hasF m.kind 12:=(Qe9 m.kind hk 12 (by decide)).2;have hQ:=ref1_Batch H xb m.batch hl;unfold msgC at b1;have hfr0:=hfr;have s2:=s1.1;have s3:=s1.2;have hA:True:=trivial;have hle:=Nat.le_refl n;cases ok;all_goals simp only[↓E1,E2,seval,q4_13, *,↓b_andI,Qe7]
 repeat' (first|((with_reducible refine Qeo (λhb=>?_) (λhb=>?_))<;>(replace hA:=And.intro hA hb;clear hb;simp only[↓E1,E2,seval, *,↓b_andI,Qe7]))|((with_reducible refine CPr_f (f:=n_Qd5) ?_);((first|(refine(hQ).d2 hfr (by first|trivial|exact s1|exact s2|exact s3|assumption) ?_;rintro v mu2 n2 g2 rfl)|(refine(hQ).d3 hfr (λhm=>by first|trivial|exact MsgS.mono hm s1|exact PtsR.mono hm s2|exact EntsR.mono hm s3) ?_;rintro v mu2 n2 g2 b1 rfl)|(refine(hQ).c1 hfr (by first|trivial|exact s1|exact s2|exact s3|assumption) ?_;rintro v mu2 n2 g2 rfl)|(refine(hQ).c2 hfr (λhm=>by first|trivial|exact MsgS.mono hm s1|exact PtsR.mono hm s2|exact EntsR.mono hm s3) ?_;rintro v mu2 n2 g2 b1 rfl)|(refine(hQ).c3 hfr (λhm=>by first|trivial|exact MsgS.mono hm s1|exact PtsR.mono hm s2|exact EntsR.mono hm s3) ?_;rintro v mu2 n2 g2 b1 b2 rfl));(try replace b1:=g2.old hfr b1);(try replace s1:=MsgS.mono (λ_ _ hh=>g2.old hfr hh) s1);(try replace s2:=PtsR.mono (λ_ _ hh=>g2.old hfr hh) s2);(try replace s3:=EntsR.mono (λ_ _ hh=>g2.old hfr hh) s3);replace gg:=gg.trans (g2.weaken hle);replace hle:=Nat.le_trans hle g2.le;replace hfr:=g2.free;clear g2;simp only[↓E1,E2,seval, *,↓b_andI,Qe7])))
 all_goals (refine hK _ _ _ gg (by first|exact z1|exact gg.old hfr0 z1) (by first|exact z2|exact z2.mono (λ_ _ hh=>gg.old hfr0 hh)) (by simp[updN,updE,h1]) (by simp[updN,updE,h3]) ?_;(try clear hQ);(try clear hR);(try clear s2);(try clear s3);clear hK h1 h3 b1 s1 z1 z2 gg hle hfr hfr0 xl yl;first|(simp_all [updN,updE,batOk,-List.length_eq_zero_iff];done)|(simp_all [updN,updE,batOk,-List.length_eq_zero_iff];omega))
theorem ref4_q14 (m:Msg) (xb xe:SV) (hk:0<=m.kind/\m.kind<17) (ok:Bool) (hok:Ok m.log) {fz:Fz} {mu:St} {n id:Nat} {e:Env} {k:AExit->TM->St->Nat->Prop} (hfr:Free fz mu n) (b1:with' mu fz id=some (msgC m xb xe)) (s1:MsgS (with' mu fz) m xb xe) (h1:e 0 1=.one (.optr id 0)) (h3:e 0 3=.one (I (bitsOf m.kind))) (h6:e 0 6=.one (.bool ok))
 (hK:∀e' mu' n',Gr n fz mu mu' n n'->with' mu' fz id=some (msgC m xb xe)->MsgS (with' mu' fz) m xb xe->e' 0 1=.one (.optr id 0)->e' 0 3=.one (I (bitsOf m.kind))->e' 0 6=.one (.bool (ok&&lgOk (hasF m.kind 13) m.log))->k .normal (tmE 249 e') mu' n'):
 dcode pOrc False (CP P) fz 0 q4_14 (tmE 249 e) mu n k:=by
 have gg:=Gr.refl (lo:=n) hfr;have z1:=b1;have z2:=s1;obtain⟨xl,xs,xk,xm⟩:=s1.1.len;obtain⟨yl,ys,yk,ym⟩:=s1.2.len;have q:decide (0<andI (bitsOf m.kind) 8192)=hasF m.kind 13:=(Qe9 m.kind hk 13 (by decide)).1;have p:decide (andI (bitsOf m.kind) 8192=0)=!hasF m.kind 13:=(Qe9 m.kind hk 13 (by decide)).2;have hQ:=ref4_LogMay H m.log xe hok;have hR:=ref4_empty H m.log xe;unfold lgC at hQ hR;unfold msgC at b1;have hfr0:=hfr;have s2:=s1.1;have s3:=s1.2;have hA:True:=trivial;have hle:=Nat.le_refl n;cases ok;all_goals simp only[↓E1,E2,seval,q4_14, *,↓b_andI,Qe7]
 repeat' (first|((with_reducible refine Qeo (λhb=>?_) (λhb=>?_))<;>(replace hA:=And.intro hA hb;clear hb;simp only[↓E1,E2,seval, *,↓b_andI,Qe7]))|((with_reducible refine CPr_f (f:=n_Qdu) ?_);((first|(refine(hQ).d2 hfr (by first|trivial|exact s1|exact s2|exact s3|assumption) ?_;rintro v mu2 n2 g2 rfl)|(refine(hQ).d3 hfr (λhm=>by first|trivial|exact MsgS.mono hm s1|exact PtsR.mono hm s2|exact EntsR.mono hm s3) ?_;rintro v mu2 n2 g2 b1 rfl)|(refine(hQ).c1 hfr (by first|trivial|exact s1|exact s2|exact s3|assumption) ?_;rintro v mu2 n2 g2 rfl)|(refine(hQ).c2 hfr (λhm=>by first|trivial|exact MsgS.mono hm s1|exact PtsR.mono hm s2|exact EntsR.mono hm s3) ?_;rintro v mu2 n2 g2 b1 rfl)|(refine(hQ).c3 hfr (λhm=>by first|trivial|exact MsgS.mono hm s1|exact PtsR.mono hm s2|exact EntsR.mono hm s3) ?_;rintro v mu2 n2 g2 b1 b2 rfl));(try replace b1:=g2.old hfr b1);(try replace s1:=MsgS.mono (λ_ _ hh=>g2.old hfr hh) s1);(try replace s2:=PtsR.mono (λ_ _ hh=>g2.old hfr hh) s2);(try replace s3:=EntsR.mono (λ_ _ hh=>g2.old hfr hh) s3);replace gg:=gg.trans (g2.weaken hle);replace hle:=Nat.le_trans hle g2.le;replace hfr:=g2.free;clear g2;simp only[↓E1,E2,seval, *,↓b_andI,Qe7]))|((with_reducible refine CPr_f (f:=n_Qd9) ?_);((first|(refine(hR).d2 hfr (by first|trivial|exact s1|exact s2|exact s3|assumption) ?_;rintro v mu2 n2 g2 rfl)|(refine(hR).d3 hfr (λhm=>by first|trivial|exact MsgS.mono hm s1|exact PtsR.mono hm s2|exact EntsR.mono hm s3) ?_;rintro v mu2 n2 g2 b1 rfl)|(refine(hR).c1 hfr (by first|trivial|exact s1|exact s2|exact s3|assumption) ?_;rintro v mu2 n2 g2 rfl)|(refine(hR).c2 hfr (λhm=>by first|trivial|exact MsgS.mono hm s1|exact PtsR.mono hm s2|exact EntsR.mono hm s3) ?_;rintro v mu2 n2 g2 b1 rfl)|(refine(hR).c3 hfr (λhm=>by first|trivial|exact MsgS.mono hm s1|exact PtsR.mono hm s2|exact EntsR.mono hm s3) ?_;rintro v mu2 n2 g2 b1 b2 rfl));(try replace b1:=g2.old hfr b1);(try replace s1:=MsgS.mono (λ_ _ hh=>g2.old hfr hh) s1);(try replace s2:=PtsR.mono (λ_ _ hh=>g2.old hfr hh) s2);(try replace s3:=EntsR.mono (λ_ _ hh=>g2.old hfr hh) s3);replace gg:=gg.trans (g2.weaken hle);replace hle:=Nat.le_trans hle g2.le;replace hfr:=g2.free;clear g2;simp only[↓E1,E2,seval, *,↓b_andI,Qe7])))
 all_goals (refine hK _ _ _ gg (by first|exact z1|exact gg.old hfr0 z1) (by first|exact z2|exact z2.mono (λ_ _ hh=>gg.old hfr0 hh)) (by simp[updN,updE,h1]) (by simp[updN,updE,h3]) ?_;(try clear hQ);(try clear hR);(try clear s2);(try clear s3);clear hK h1 h3 b1 s1 z1 z2 gg hle hfr hfr0 xl yl;first|(simp_all [updN,updE,lgOk,-List.length_eq_zero_iff];done)|(simp_all [updN,updE,lgOk,-List.length_eq_zero_iff];omega))
theorem ref4_q15 (m:Msg) (xb xe:SV) (hk:0<=m.kind/\m.kind<17) (ok:Bool) {fz:Fz} {mu:St} {n id:Nat} {e:Env} {k:AExit->TM->St->Nat->Prop} (hfr:Free fz mu n) (b1:with' mu fz id=some (msgC m xb xe)) (s1:MsgS (with' mu fz) m xb xe) (h1:e 0 1=.one (.optr id 0)) (h3:e 0 3=.one (I (bitsOf m.kind))) (h6:e 0 6=.one (.bool ok))
 (hK:∀e' mu' n',Gr n fz mu mu' n n'->with' mu' fz id=some (msgC m xb xe)->MsgS (with' mu' fz) m xb xe->e' 0 1=.one (.optr id 0)->e' 0 3=.one (I (bitsOf m.kind))->e' 0 2=.one (.bool (ok&&txtOk (hasF m.kind 14) m.text))->k .normal (tmE 249 e') mu' n'):
 dcode pOrc False (CP P) fz 0 q4_15 (tmE 249 e) mu n k:=by
 have gg:=Gr.refl (lo:=n) hfr;have z1:=b1;have z2:=s1;obtain⟨xl,xs,xk,xm⟩:=s1.1.len;obtain⟨yl,ys,yk,ym⟩:=s1.2.len;have q:decide (0<andI (bitsOf m.kind) 16384)=hasF m.kind 14:=(Qe9 m.kind hk 14 (by decide)).1;have p:decide (andI (bitsOf m.kind) 16384=0)=!hasF m.kind 14:=(Qe9 m.kind hk 14 (by decide)).2;unfold msgC at b1;have hfr0:=hfr;have s2:=s1.1;have s3:=s1.2;have hA:True:=trivial;have hle:=Nat.le_refl n;cases ok;all_goals simp only[↓E1,E2,seval,q4_15, *,↓b_andI,Qe7]
 repeat' (first|((with_reducible refine Qeo (λhb=>?_) (λhb=>?_))<;>(replace hA:=And.intro hA hb;clear hb;simp only[↓E1,E2,seval, *,↓b_andI,Qe7])))
 all_goals (refine hK _ _ _ gg (by first|exact z1|exact gg.old hfr0 z1) (by first|exact z2|exact z2.mono (λ_ _ hh=>gg.old hfr0 hh)) (by simp[updN,updE,h1]) (by simp[updN,updE,h3]) ?_;(try clear hQ);(try clear hR);(try clear s2);(try clear s3);clear hK h1 h3 b1 s1 z1 z2 gg hle hfr hfr0 xl yl;first|(simp_all [updN,updE,txtOk,-List.length_eq_zero_iff];done)|(simp_all [updN,updE,txtOk,-List.length_eq_zero_iff];omega))
def msgT (a b:Bool) (m:Msg):Bool:=
 (a&&b&&Qle m)&&Qhb (hasF m.kind 0) m.view&&Qhb (hasF m.kind 1) m.normal&&Qhb (hasF m.kind 3) m.commit&&Qhb (hasF m.kind 4) m.round&&Qhb (hasF m.kind 5) m.client&&Qhb (hasF m.kind 6) m.session&&Qhb (hasF m.kind 7) m.number&&
 codeOk (hasF m.kind 8) m.code 9&&codeOk (hasF m.kind 9) m.agg 4&&serOk (hasF m.kind 11) m.series&&batOk (hasF m.kind 12) m.batch&&lgOk (hasF m.kind 13) m.log&&txtOk (hasF m.kind 14) m.text
theorem Qom (m:Msg) (xb xe:SV) (hk:0<=m.kind/\m.kind<17) (hl:m.batch.length<=1152921504606846976) (hok:Ok m.log) (a b:Bool) {fz:Fz} {mu:St} {n id:Nat} {e:Env} {k:KT Prop} (hfr:Free fz mu n) (b1:with' mu fz id=some (msgC m xb xe)) (s1:MsgS (with' mu fz) m xb xe)
 (h1:e 0 1=.one (.optr id 0)) (h3:e 0 3=.one (I (bitsOf m.kind))) (h4:e 0 4=.one (.bool a)) (h5:e 0 5=.one (.bool b)) (hK:∀mu' n',Gr n fz mu mu' n n'->k (.one (.bool (msgT a b m))) mu' n'):
 dcode pOrc False (CP P) fz 0 q4_9 (tmE 249 e) mu n (onw (λtm mu n=>dcode pOrc False (CP P) fz 0 (.seq q4_10 (.seq q4_11 (.seq q4_12 (.seq q4_13 (.seq q4_14 (.seq q4_15 .ret)))))) tm mu n (endP fz [.tmp 0 2] k)) (endP fz [.tmp 0 2] k)):=by
 rw[dc_at (show q4_9=.reg (g4_0++(g4_1++(g4_2++(g4_3++(g4_4++(g4_5++(g4_6++g4_7)))))))from rfl),dc_reg];simp only[Qrk];refine ref4_g0 H m xb xe hk a b hfr b1 s1 h1 h3 h4 h5 ?_;intro e0 mu0 n0 g0 b1 s1 h1 h3 h6;refine ref4_g1 H m xb xe hk _ g0.free b1 s1 h1 h3 h6 ?_;clear h1 h3 h6 b1 s1;intro e1 mu1 n1 g b1 s1 h1 h3 h6;have g1:=g0.trans (g.weaken g0.le);clear g;refine ref4_g2 H m xb xe hk _ g1.free b1 s1 h1 h3 h6 ?_;clear h1 h3 h6 b1 s1;intro e2 mu2 n2 g b1 s1 h1 h3 h6;have g2:=g1.trans (g.weaken g1.le);clear g;refine ref4_g3 H m xb xe hk _ g2.free b1 s1 h1 h3 h6 ?_;clear h1 h3 h6 b1 s1;intro e3 mu3 n3 g b1 s1 h1 h3 h6;have g3:=g2.trans (g.weaken g2.le);clear g;refine ref4_g4 H m xb xe hk _ g3.free b1 s1 h1 h3 h6 ?_;clear h1 h3 h6 b1 s1;intro e4 mu4 n4 g b1 s1 h1 h3 h6;have g4:=g3.trans (g.weaken g3.le);clear g;refine ref4_g5 H m xb xe hk _ g4.free b1 s1 h1 h3 h6 ?_;clear h1 h3 h6 b1 s1;intro e5 mu5 n5 g b1 s1 h1 h3 h6;have g5:=g4.trans (g.weaken g4.le);clear g;refine ref4_g6 H m xb xe hk _ g5.free b1 s1 h1 h3 h6 ?_;clear h1 h3 h6 b1 s1;intro e6 mu6 n6 g b1 s1 h1 h3 h6;have g6:=g5.trans (g.weaken g5.le);clear g;refine ref4_g7 H m xb xe hk _ g6.free b1 s1 h1 h3 h6 ?_;clear h1 h3 h6 b1 s1;intro e7 mu7 n7 g b1 s1 h1 h3 h6;have g7:=g6.trans (g.weaken g6.le);clear g;simp only[onw_n,Qm5];refine ref4_q10 H m xb xe hk _ g7.free b1 s1 h1 h3 h6 ?_;clear h1 h3 h6 b1 s1;intro e8 mu8 n8 g b1 s1 h1 h3 h6;have g8:=g7.trans (g.weaken g7.le);clear g;simp only[onw_n,Qm5];refine ref4_q11 H m xb xe hk _ g8.free b1 s1 h1 h3 h6 ?_;clear h1 h3 h6 b1 s1;intro e9 mu9 n9 g b1 s1 h1 h3 h6;have g9:=g8.trans (g.weaken g8.le);clear g;simp only[onw_n,Qm5];refine ref4_q12 H m xb xe hk _ g9.free b1 s1 h1 h3 h6 ?_;clear h1 h3 h6 b1 s1;intro e10 mu10 n10 g b1 s1 h1 h3 h6;have g10:=g9.trans (g.weaken g9.le);clear g;simp only[onw_n,Qm5];refine ref4_q13 H m xb xe hk _ hl g10.free b1 s1 h1 h3 h6 ?_;clear h1 h3 h6 b1 s1;intro e11 mu11 n11 g b1 s1 h1 h3 h6;have g11:=g10.trans (g.weaken g10.le);clear g;simp only[onw_n,Qm5];refine ref4_q14 H m xb xe hk _ hok g11.free b1 s1 h1 h3 h6 ?_;clear h1 h3 h6 b1 s1;intro e12 mu12 n12 g b1 s1 h1 h3 h6;have g12:=g11.trans (g.weaken g11.le);clear g;simp only[onw_n,Qm5];refine ref4_q15 H m xb xe hk _ g12.free b1 s1 h1 h3 h6 ?_;clear h1 h3 h6 b1 s1;intro e13 mu13 n13 g b1 s1 h1 h3 h6;have g13:=g12.trans (g.weaken g12.le);clear g;simp only[↓E1,E2,seval,h6];exact hK _ _ g13
omit H in
theorem msgT_eq (m:Msg) (hk:0<=m.kind/\m.kind<17):msgT (fromB m.kind m.frm) (toB m.kind m.to) m=msgB m:=by
 obtain⟨kind,frm,to,view,normal,at',commit,round,client,session,number,code,agg,until',series,batch,log,text⟩:=m;dsimp only at hk⊢;rcases kinds kind hk.1 hk.2 with rfl|rfl|rfl|rfl|rfl|rfl|rfl|rfl|rfl|rfl|rfl|rfl|rfl|rfl|rfl|rfl|rfl
 all_goals
  have hE:Qn6 log=(lgB log&&(decide (log.base=0)&&decide (log.ents.length=0))):=by
   cases log with|mk base snap ents=>
   rw[Bool.eq_iff_iff];simp[Qn6,lgB,countB,-List.length_eq_zero_iff];constructor
   ·rintro⟨⟨rfl,h2⟩,h3⟩;have:=List.length_eq_zero_iff.1 h3;subst this;simp[h2]
   ·rintro⟨h,rfl,h3⟩;simp_all
  have hB:decide (batch.length=0)=(Qip batch&&decide (batch.length=0)):=by
   rw[Bool.eq_iff_iff];simp only[Bool.and_eq_true,decide_eq_true_eq];refine⟨λh=>⟨?_,h⟩,λh=>h.2⟩;have:=List.length_eq_zero_iff.1 h;subst this;rfl
  have hC:∀x:Int,decide (x=0)=(decide (x=0)&&decide (0<=x)&&decide (x<=2147483647)):=λx=>by
   rw[Bool.eq_iff_iff];simp only[Bool.and_eq_true,decide_eq_true_eq];omega
  clear hk;rw[Bool.eq_iff_iff];obtain⟨lb,hlb⟩:∃b,lgB log=b:=⟨_,rfl⟩
  obtain⟨bb,hbb⟩:∃b,Qip batch=b:=⟨_,rfl⟩
  rw[hlb]at hE;rw[hbb]at hB;obtain⟨fb,hfb⟩:∃b,isNode frm=b:=⟨_,rfl⟩
  obtain⟨fc,hfc⟩:∃b,Qgs frm=b:=⟨_,rfl⟩
  obtain⟨tb,htb⟩:∃b,isNode to=b:=⟨_,rfl⟩
  obtain⟨tc,htc⟩:∃b,Qgs to=b:=⟨_,rfl⟩
  obtain⟨nb,hnb⟩:∃b,nameB series=b:=⟨_,rfl⟩
  have hBp:batch.length=0->bb=true:=by
   intro h;have:=decide_eq_true h;rw[hB]at this;simp at this;exact this.1
 all_goals simp[hE,hlb,hbb,hfb,hfc,htb,htc,hnb,msgT,msgB,fromB,toB,whoB,Qle,Qhb,codeOk,serOk,batOk,lgOk,txtOk,hasF,Qff,List.range,List.range.loop,Qiz,numV,limLo,limHi,countB,Qi4,-List.length_eq_zero_iff]
 all_goals (clear hE hB hC hlb hbb hfb hfc htb htc hnb;(cases lb<;>cases bb<;>cases fb<;>cases fc<;>cases tb<;>cases tc<;>cases nb<;>simp[-List.length_eq_zero_iff]at hBp⊢<;>omega))
theorem ref4_May (m:Msg) (xb xe:SV) (hl:m.batch.length<=1152921504606846976) (hok:Ok m.log):BoolC P n_Qei [.ag (msgC m xb xe)] (λM=>MsgS M m xb xe) (msgB m):=boolC H.mx H.Qei 0 λfz mu n k hfr gg s1 h=>by
 obtain⟨xl,xs,xk,xm⟩:=s1.1.len;obtain⟨yl,ys,yk,ym⟩:=s1.2.len;rw[i_Qei,dc_at b_ref4_May_cut];have hmc:msgC m xb xe=msgC m xb xe:=rfl;conv at hmc=>rhs;unfold msgC
 by_cases hk:0<=m.kind/\m.kind<17
 ·have hb0:msgB m=msgT (fromB m.kind m.frm) (toB m.kind m.to) m:=(msgT_eq m hk).symm;have g0:=Gr.refl (lo:=n) hfr;have z1:=s1;have hfr0:=hfr;rw[hmc];have hA:True:=trivial;have hle:=Nat.le_refl n;have hk1:=hk.1;have hk2:=hk.2;simp only[↓E1,E2,seval, *];repeat' (first|((with_reducible refine Qeo (λhb=>?_) (λhb=>?_))<;>(replace hA:=And.intro hA hb;clear hb;simp only[↓E1,E2,seval, *]))|((with_reducible refine CPr_f (f:=n_Qdx) ?_);((first|(refine(ref4_fields H _).d2 hfr (by first|trivial|exact s1|assumption) ?_;rintro v mu2 n2 g2 rfl)|(refine(ref4_fields H _).d3 hfr (λhm=>by first|trivial|exact MsgS.mono hm s1) ?_;rintro v mu2 n2 g2 b1 rfl)|(refine(ref4_fields H _).c1 hfr (by first|trivial|exact s1|assumption) ?_;rintro v mu2 n2 g2 rfl)|(refine(ref4_fields H _).c2 hfr (λhm=>by first|trivial|exact MsgS.mono hm s1) ?_;rintro v mu2 n2 g2 b1 rfl)|(refine(ref4_fields H _).c3 hfr (λhm=>by first|trivial|exact MsgS.mono hm s1) ?_;rintro v mu2 n2 g2 b1 b2 rfl));(try replace b1:=g2.old hfr b1);(try replace s1:=MsgS.mono (λ_ _ hh=>g2.old hfr hh) s1);replace gg:=gg.trans (g2.weaken hle);replace hle:=Nat.le_trans hle g2.le;replace hfr:=g2.free;clear g2;simp only[↓E1,E2,seval, *])))
  all_goals try (have b9:=b1)
  repeat' (first|((with_reducible refine Qeo (λhb=>?_) (λhb=>?_))<;>(replace hA:=And.intro hA hb;clear hb;simp only[↓E1,E2,seval, *]))|((with_reducible refine CPr_f (f:=n_Qed) ?_);((first|(refine(ref4_node H _).d2 hfr (by first|trivial|exact s1|assumption) ?_;rintro v mu2 n2 g2 rfl)|(refine(ref4_node H _).d3 hfr (λhm=>by first|trivial|exact MsgS.mono hm s1) ?_;rintro v mu2 n2 g2 b1 rfl)|(refine(ref4_node H _).c1 hfr (by first|trivial|exact s1|assumption) ?_;rintro v mu2 n2 g2 rfl)|(refine(ref4_node H _).c2 hfr (λhm=>by first|trivial|exact MsgS.mono hm s1) ?_;rintro v mu2 n2 g2 b1 rfl)|(refine(ref4_node H _).c3 hfr (λhm=>by first|trivial|exact MsgS.mono hm s1) ?_;rintro v mu2 n2 g2 b1 b2 rfl));(try replace b1:=g2.old hfr b1);(try replace s1:=MsgS.mono (λ_ _ hh=>g2.old hfr hh) s1);replace gg:=gg.trans (g2.weaken hle);replace hle:=Nat.le_trans hle g2.le;replace hfr:=g2.free;clear g2;simp only[↓E1,E2,seval, *])))
  all_goals try clear b9
  repeat' (first|((with_reducible refine Qeo (λhb=>?_) (λhb=>?_))<;>(replace hA:=And.intro hA hb;clear hb;simp only[↓E1,E2,seval, *]))|((with_reducible refine CPr_f (f:=n_Qdy) ?_);((first|(refine(ref4_client H _).d2 hfr (by first|trivial|exact s1|assumption) ?_;rintro v mu2 n2 g2 rfl)|(refine(ref4_client H _).d3 hfr (λhm=>by first|trivial|exact MsgS.mono hm s1) ?_;rintro v mu2 n2 g2 b1 rfl)|(refine(ref4_client H _).c1 hfr (by first|trivial|exact s1|assumption) ?_;rintro v mu2 n2 g2 rfl)|(refine(ref4_client H _).c2 hfr (λhm=>by first|trivial|exact MsgS.mono hm s1) ?_;rintro v mu2 n2 g2 b1 rfl)|(refine(ref4_client H _).c3 hfr (λhm=>by first|trivial|exact MsgS.mono hm s1) ?_;rintro v mu2 n2 g2 b1 b2 rfl));(try replace b1:=g2.old hfr b1);(try replace s1:=MsgS.mono (λ_ _ hh=>g2.old hfr hh) s1);replace gg:=gg.trans (g2.weaken hle);replace hle:=Nat.le_trans hle g2.le;replace hfr:=g2.free;clear g2;simp only[↓E1,E2,seval, *])))
  all_goals first
   |(exfalso;clear h;simp_all;omega)
   |(refine Qom H m xb xe hk hl hok _ _ hfr (by rw[hmc];exact b1) s1 (by simp[updN,updE, *]) (by simp[updN,updE, *]) (by first|(simp[updN,updE, *];done)|(simp[updN,updE, *];exact rfl)) (by first|(simp[updN,updE, *];done)|(simp[updN,updE, *];exact rfl)) ?_
     intro mu' n' g;refine leafB h (gg.trans (g.weaken hle)) ?_;rw[hb0];clear h gg hle hfr b1 s1 z1 g0 hmc xl yl;congr 1;all_goals simp_all [fromB,toB])
 ·have hfr0:=hfr;rw[hmc];have hA:True:=trivial;have hle:=Nat.le_refl n;simp only[↓E1,E2,seval, *];repeat' (first|((with_reducible refine Qeo (λhb=>?_) (λhb=>?_))<;>(replace hA:=And.intro hA hb;clear hb;simp only[↓E1,E2,seval, *])))
  all_goals first
   |(exact absurd (And.intro (by have:=of_decide_eq_false hA.1.2;omega) (by have:=of_decide_eq_false hA.2;omega)) hk)
   |(refine leafB h (by first|exact gg|exact gg.cons hle _) ?_;clear h gg xl yl hfr hfr0 s1;simp_all [msgB];try omega)
end
def b2n (b:Bool):Nat:=if b then 1 else 0
theorem Qrf (x:Int) (d:Bool) (o:List Int) (y:Int):(Qfa x (d,o) y).2.length+b2n d<=o.length+1+b2n (Qfa x (d,o) y).1:=by
 cases d<;>by_cases h1:x<=y<;>by_cases h2:y=x<;>simp[Qfa,h1,h2,b2n]
theorem Qth (x:Int) (l:List Int):∀(d:Bool) (o:List Int),(l.foldl (Qfa x) (d,o)).2.length+b2n d<=o.length+l.length+b2n (l.foldl (Qfa x) (d,o)).1:=by
 induction l with
 |nil=>intro d o;simp
 |cons y l ih=>
  intro d o;have h2:=Qrf x d o y;obtain⟨d',o',h3⟩:∃d' o',Qfa x (d,o) y=(d',o'):=⟨_,_,rfl⟩
  have h1:=ih d' o';simp only[List.foldl_cons,List.length_cons];rw[h3]at h2⊢;simp only at h2;omega
theorem Qwu {l:List Int} {t:Int} {i:Nat} (h:i<l.length):putF (l.take (i+1)) t=Qfa t (putF (l.take i) t) l[i]:=by
 unfold putF;rw[List.take_succ_eq_append_getElem h,List.foldl_append];rfl
section
variable {P:Program} (H:Fs P)
include H
theorem ref16_put (x:SV) (l:List Int) (t:Int) (hl:l.length<=17592186044410):Ctr P n_Qef [.one x,.one (I t)] (fun M=>IntsR M x l) (fun n _ M v=>∃x',v=.one x'/\IntsX (From n M) x' (putL l t)):=Ctr.of H.mx H.Qef (fun _=>l.length+1) fun fz mu n k hfr s1 hk=>by
 obtain⟨xl,xs,xk,xm⟩:=s1.len;rw[dY a_Qef.eq_1 b_Qef.eq_1];simp only[↓E1,E2,seval, *];refine loopI (x:=0) (L:=l.length) (p:=λ_=>true) (λi e mu' n'=>∃xo,Gr n fz mu mu' n n'/\Grow n (with' mu' fz) 1 IntR xo (putF (l.take i) t).2/\e 0 0=.one x/\e 0 1=.one (I t)/\e 0 5=.one xo/\e 0 6=.one (.bool (putF (l.take i) t).1)/\e 0 7=.one (.int .i64 i)) (λe mu' n'=>False) ?_ ?_ _ _ _ _ _ (by omega) ?_ ?_ ?_
 ·rintro i e mu1 n1 K hi ⟨xo,g1,c4,e0,e1,e5,e6,e7⟩ hy hn;rw[dX l_Qef_0.eq_1];have hw:=Qev hi (by omega);obtain⟨id,off,cap,B,rfl,hB0,hmk,hbd,hsub⟩:=s1.elem hi;have hB:=g1.old hfr hB0;have hnext:=Qwu (t:=t) hi;have hlen:=Qth t (l.take i) false [];rw[show(l.take i).foldl (Qfa t) (false,[])=putF (l.take i) t from rfl]at hlen;rw[List.length_take]at hlen;obtain⟨d,o,hdo⟩:∃d o,putF (l.take i) t=(d,o):=⟨_,_,rfl⟩
  rw[hdo]at c4 e6 hnext hlen;simp only at c4 e6 hlen;obtain⟨xol,xos,xok,xom⟩:=c4.len;rw[hnext]at hy;clear hdo hnext hn;obtain⟨y,hyl⟩:∃y,l[i]=y:=⟨_,rfl⟩
  rw[hyl]at hy hsub;have app:∀(k':KT Prop) (b:Int) (mu3:St) (n3:Nat) (xo3:SV) (o3:List Int),Gr n fz mu mu3 n n3->Grow n (with' mu3 fz) 1 IntR xo3 o3->o3.length<=i+1->(∀mu4 n4 xo4,Gr n fz mu mu4 n n4->Grow n (with' mu4 fz) 1 IntR xo4 (o3++[b])->k' (.one xo4) mu4 n4)->onApp ((n3,[I b])::mu3) (n3+1) 1 8 xo3 [I b] 1 k':=by
   intro k' b mu3 n3 xo3 o3 g3 G3 hl3 hk';exact Grow.more (R:=IntR) (λ_ h=>h) (a:=b) G3 g3.free g3.le (λj hj=>hfr.fz j hj) ((Gr.refl g3.free).cons (Nat.le_refl _) _) rfl ⟨rfl,rfl⟩ (Qfc (by omega) (by decide) (by decide)) (λmu4 g4 G4=>hk' mu4 _ _ (g3.trans g4) G4)
  have app:=Hide.mk app;cases d with
  |false=>
   simp only[b2n]at hlen;simp only[↓E1,E2,seval, *];refine Qeo (λha=>?_) (λha=>?_)
   ·simp only[↓E1,E2,seval, *];refine app.out _ _ _ _ _ _ g1 c4 (by simp at hlen;omega) (λmu4 n4 xo4 g4 G4=>?_);have hB4:=g4.old hfr hB0;obtain⟨xol4,xos4,xok4,xom4⟩:=G4.len;clear hB;simp only[↓E1,E2,seval, *];refine Qeo (λhb=>?_) (λhb=>?_)
    ·have hps:Qfa t (false,o) y=(true,o++[t]):=by
      have h1:t<=y:=of_decide_eq_true ha;have h2:y=t:=of_decide_eq_true hb;simp[Qfa,h1,h2]
     rw[hps]at hy;simp only[↓E1,E2,seval, *];exact hy rfl _ _ _ ⟨xo4,g4,G4,by simp[updN,updE, *],by simp[updN,updE, *],by simp[updN,updE, *],by simp[updN,updE, *],by simp[updN,updE, *]⟩
    ·have hps:Qfa t (false,o) y=(true,o++[t]++[y]):=by
      have h1:t<=y:=of_decide_eq_true ha;have h2:¬y=t:=of_decide_eq_false hb;simp[Qfa,h1,h2]
     rw[hps]at hy;simp only[↓E1,E2,seval, *];refine app.out _ _ _ _ _ _ g4 G4 (by simp at hlen⊢;omega) (λmu5 n5 xo5 g5 G5=>?_);simp only[↓E1,E2,seval, *];exact hy rfl _ _ _ ⟨xo5,g5,G5,by simp[updN,updE, *],by simp[updN,updE, *],by simp[updN,updE, *],by simp[updN,updE, *],by simp[updN,updE, *]⟩
   ·simp only[↓E1,E2,seval, *];refine Qeo (λhb=>?_) (λhb=>?_)
    ·have h1:¬t<=y:=of_decide_eq_false ha;have h2:y=t:=of_decide_eq_true hb;omega
    ·have hps:Qfa t (false,o) y=(false,o++[y]):=by
      have h1:¬t<=y:=of_decide_eq_false ha;have h2:¬y=t:=of_decide_eq_false hb;simp[Qfa,h1,h2]
     rw[hps]at hy;simp only[↓E1,E2,seval, *];refine app.out _ _ _ _ _ _ g1 c4 (by simp at hlen;omega) (λmu5 n5 xo5 g5 G5=>?_);simp only[↓E1,E2,seval, *];exact hy rfl _ _ _ ⟨xo5,g5,G5,by simp[updN,updE, *],by simp[updN,updE, *],by simp[updN,updE, *],by simp[updN,updE, *],by simp[updN,updE, *]⟩
  |true=>
   simp only[b2n]at hlen;simp only[↓E1,E2,seval, *];refine Qeo (λhb=>?_) (λhb=>?_)
   ·have hps:Qfa t (true,o) y=(true,o):=by
     have h2:y=t:=of_decide_eq_true hb;simp[Qfa,h2]
    rw[hps]at hy;simp only[↓E1,E2,seval, *];exact hy rfl _ _ _ ⟨xo,g1,c4,by simp[updN,updE, *],by simp[updN,updE, *],by simp[updN,updE, *],by simp[updN,updE, *],by simp[updN,updE, *]⟩
   ·have hps:Qfa t (true,o) y=(true,o++[y]):=by
     have h2:¬y=t:=of_decide_eq_false hb;simp[Qfa,h2]
    rw[hps]at hy;simp only[↓E1,E2,seval, *];refine app.out _ _ _ _ _ _ g1 c4 (by simp at hlen;omega) (λmu5 n5 xo5 g5 G5=>?_);simp only[↓E1,E2,seval, *];exact hy rfl _ _ _ ⟨xo5,g5,G5,by simp[updN,updE, *],by simp[updN,updE, *],by simp[updN,updE, *],by simp[updN,updE, *],by simp[updN,updE, *]⟩
 ·rintro e mu1 n1 K ⟨xo,g1,c4,e0,e1,e5,e6,e7⟩ hx;rw[dX l_Qef_0.eq_1];have hlt:(l.length<l.length)=False:=by simp
  simp only[↓E1,E2,seval, *];exact hx _ _ _ ⟨xo,g1,c4,by simp[updN,updE,e0],by simp[updN,updE,e1],by simp[updN,updE,e5],by simp[updN,updE,e6],by simp[updN,updE,e7]⟩
 ·exact⟨.nsl,Gr.refl hfr,Grow.nil,by simp[updN,updE,envI],by simp[updN,updE,envI],by simp[updN,updE],by simp[updN,updE,putF],by simp[updN,updE]⟩
 ·rintro -e1 mu1 n1 ⟨xo,g1,c4,e0,e1,e5,e6,e7⟩;rw[List.take_length]at c4 e6;obtain⟨xol,xos,xok,xom⟩:=c4.len;have hlen:=Qth t l false [];rw[show l.foldl (Qfa t) (false,[])=putF l t from rfl]at hlen;simp only[↓E1,E2,seval, *];refine Qeo (λha=>?_) (λha=>?_)
  ·have hp:putL l t=(putF l t).2:=by unfold putL;rw[ha];rfl
   simp only[↓E1,E2,seval, *];exact hk _ _ _ g1 ⟨xo,rfl,by rw[hp];exact Qmr c4⟩
  ·have hp:putL l t=(putF l t).2++[t]:=by unfold putL;rw[ha];rfl
   rw[ha]at hlen;simp only[↓E1,E2,seval, *];refine Grow.more (R:=IntR) (λ_ h=>h) (a:=t) c4 g1.free g1.le (λj hj=>hfr.fz j hj) ((Gr.refl g1.free).cons (Nat.le_refl _) _) rfl ⟨rfl,rfl⟩ (Qfc (by simp[b2n]at hlen;omega) (by decide) (by decide)) (λmu4 g4 G4=>?_);simp only[↓E1,E2,seval, *];exact hk _ _ _ (g1.trans g4) ⟨_,rfl,by rw[hp];exact Qmr G4⟩
 ·rintro⟨_,_,_,h⟩;cases h
end
theorem LentE.rs {lo:Nat} {M:Fz} {id:Nat} {l:List Ent} (h:LentE lo M id l):EntsR M (.osl id 0 l.length (l.length+1) 5) l:=by
 obtain⟨cs,h1,h2⟩:=h;have hl:cs.length=l.length+1:=by simpa using h2.length
 rcases h1 with⟨h|h,_⟩|⟨id',e,h3,h4,h5⟩
 ·cases h
 ·cases h
 ·injection e with e1 e2 e3 e4 e5
  subst e1;have htl:(cs.take l.length).length=l.length:=by simp;omega
  have hu:∀e∈cs.take l.length,e.length=5/\Qeq e=true:=λe he=>h5 e (List.mem_of_mem_take he);have hfl:=Qfr (s:=5) (es:=cs.take l.length) λe he=>(hu e he).1;have hsplit:cs.flatten=(cs.take l.length).flatten++(cs.drop l.length).flatten:=by rw[<-List.flatten_append,List.take_append_drop]
  rw[htl]at hfl;have hs:Sl M 5 (.osl id 0 (cs.take l.length).length (l.length+1) 5) (cs.take l.length):=by
   refine .inr ⟨id,0,l.length+1,cs.flatten,rfl,by omega,From.sub _ _ h3,h4,?_,?_,hu⟩
   ·rw[Qfr λe he=>(h5 e he).1,htl,hl];omega
   ·rw[List.drop_zero,hsplit,htl,List.take_left' hfl]
  rw[htl]at hs;refine⟨cs.take l.length,hs,All2.Qlq (by omega) λi a b ha hb=>?_⟩;obtain⟨hi,rfl⟩:=List.getElem?_eq_some_iff.1 ha;obtain⟨hi2,rfl⟩:=List.getElem?_eq_some_iff.1 hb;have h3:=h2.at (i:=i) (by omega) (by simp;omega)
  rw[List.getElem_append_left (by simpa using hi2),List.getElem_map]at h3;obtain⟨idp,h6,h7⟩:=h3;rw[List.getElem_take];exact⟨_,h6,PtsR.mono (Ex.sub.trans From.sub) (LentP.sl h7)⟩
theorem LentR.rs {M:Fz} {r:Rep} {ide ida ids:Nat} {xd:SV} (h:LentR M r ide ida ids xd):RepS M r (.osl ide 0 r.log.ents.length (r.log.ents.length+1) 5) (.osl ida 0 r.acks.length (r.acks.length+2) 1) (.osl ids 0 r.starts.length (r.starts.length+2) 1) xd:=by
 obtain⟨⟨lo,h1⟩,h2,h3,lo',cs,h4,h5⟩:=h;refine⟨h1.rs,h2.sl,h3.sl,cs,Sl.mono h4.to From.sub,h5.imp λc d g=>?_⟩;obtain⟨id,lo2,e1,e2⟩:=g;exact⟨_,e1,EntsR.mono (Ex.sub.trans From.sub) e2.rs⟩
theorem LndSz.rs {r:Rep} (h:LndSz r):RepSz r:=⟨⟨by have:=h.log.ents;omega,λe he=>by have:=h.log.bat e he;omega⟩,by have:=h.acks;omega,by have:=h.starts;omega,h.dos,λd hd=>⟨by have:=(h.dlog d hd).ents;omega,λe he=>by have:=(h.dlog d hd).bat e he;omega⟩⟩
section
variable {P:Program} (H:Fs P)
include H
end
def txA:Tx:=⟨1,97,by decide⟩
def mA:Msg:=⟨2,100,0,0,0,0,0,0,0,0,0,0,0,0,txA,[],⟨0,tx0,[]⟩,tx0⟩
theorem nilE (M:Fz):EntsR M .nsl []:=⟨[],.inl ⟨.inl rfl,rfl⟩,trivial⟩
theorem nilP (M:Fz):PtsR M .nsl []:=.inl ⟨.inl rfl,rfl⟩
section
variable {P:Program} (H:Fs P)
include H
end
end Go.Proofs.YtnnjlnkoomeadaaGreat.Pv
namespace Go.Ev
theorem CallS.forget {P:Program} {f:Nat} {args:List AV} {fz:Fz} {mu:St} {n:Nat} {v:AV} {mu':St} {n':Nat} (h:CallS P f args fz mu n v mu' n') {mu2:St} (hs:∀id c,look mu2 id=some c->look mu' id=some c):CallS P f args fz mu n v mu2 n':=by
 obtain⟨h1,h2,h3⟩:=h;have hi:∀id,(look mu2 id).isSome=true->(look mu' id).isSome=true:=λid hid=>by
  obtain⟨c,hc⟩:=Option.isSome_iff_exists.1 hid;rw[hs id c hc];rfl
 refine⟨h1,h2,λρ w xs hr hx hf=>(h3 ρ w xs hr hx hf).mono λe w' ⟨x,he,ρ',p1,p2,p3,p4,p5,p6⟩=>⟨x,he,ρ',p1,⟨p2.rf,λid cs h=>p2.rm id cs (hs id cs h),λid cs h=>p2.dm id cs (hs id cs h),λid id' p p' a b=>p2.dj id id' p p' (hi id a) (b.imp (hi id') λz=>z)⟩,p3,p4,λid p hl hp=>p5 id p (hi id hl) hp,λid hid=>p6 id (hi id hid)⟩⟩
section
variable {P:Program} {f:Nat} {args:List AV} {pre:Fz->Prop} {Q:AV->Prop} {fz:Fz} {mu:St} {n:Nat} {k:KT Prop}
theorem Ctr.q1 (h:Ctr P f args pre λ_ _ _ v=>Q v) {w:WK k} (hf:Free fz mu n) (hp:pre (with' mu fz)) (hk:∀v n',n<=n'->Q v->k v [] n'):CPr P f args (with' mu fz) [] n k w:=by
 obtain⟨v,new,n',hQ,hc⟩:=h (with' mu fz) [] n (λv _ _=>Q v) (λj=>hf j) hp (λv _ _ _ hq=>hq);exact⟨v,[],n',hk v n' hc.2.1 hQ,hc.forget λid c h=>by cases h⟩
theorem Ctr.q0 (h:Ctr P f args pre λ_ _ _ v=>Q v) {w:WK k} (hf:Free fz mu n) (hp:pre (with' mu fz)) (hk:∀v n',n<=n'->Q v->k v mu n'):CPr P f args fz mu n k w:=by
 obtain⟨v,new,n',hQ,hc⟩:=h (with' mu fz) [] n (λv _ _=>Q v) (λj=>hf j) hp (λv _ _ _ hq=>hq);exact⟨v,[],n',hk v n' hc.2.1 hQ,hc.forget λid c h=>by cases h⟩
end
theorem Free.le {fz:Fz} {mu:St} {n n':Nat} (h:Free fz mu n) (hn:n<=n'):Free fz mu n':=λj=>by
 have:=h.none (show n<=n'+j by omega);exact this
theorem Gr.le2 {lo:Nat} {fz:Fz} {mu mu':St} {n n' n2:Nat} (h:Gr lo fz mu mu' n n') (hn:n'<=n2):Gr lo fz mu mu' n n2:=⟨Nat.le_trans h.le hn,h.ext,h.own,h.free.le hn⟩
end Go.Ev
namespace Go.Proofs.YtnnjlnkoomeadaaGreat.Pv
open Go.Ev Go.Ev.Rp
set_option maxRecDepth 100000
set_option maxHeartbeats 4000000
def MsgX (M:Fz) (c:List SV) (m:Msg):Prop:=∃xb xe,c=msgC m xb xe/\PtsX M xb m.batch/\EntsX M xe m.log.ents
theorem MsgX.mono {M M':Fz} {c:List SV} {m:Msg} (hm:Sub M M') (h:MsgX M c m):MsgX M' c m:=let⟨xb,xe,h1,h2,h3⟩:=h;⟨xb,xe,h1,PtsX.mono hm h2,EntsX.mono hm h3⟩
def Tag28 (o:Nat->Nat) (M:Fz):Fz:=λj=>if o j=2\/o j=8 then M j else none
theorem Tag28.el {o:Nat->Nat} {j:Nat} {M:Fz} {B:List SV} (h:Tag28 o M j=some B):(o j=2\/o j=8)/\M j=some B:=by
 unfold Tag28 at h;split at h
 ·rename_i e;exact⟨e,h⟩
 ·cases h
theorem Tag28.at {o:Nat->Nat} {j:Nat} {M:Fz} {B:List SV} (h:o j=2\/o j=8) (g:M j=some B):Tag28 o M j=some B:=by unfold Tag28;rw[if_pos h];exact g
theorem Tag28.keep {o o':Nat->Nat} {M M':Fz} (h2:Sub (Tag o 2 M) (Tag o' 2 M')) (h8:Sub (Tag o 8 M) (Tag o' 8 M')):Sub (Tag28 o M) (Tag28 o' M'):=λj B h=>by
 obtain⟨h3|h3,h4⟩:=Tag28.el h
 ·obtain⟨h5,h6⟩:=Tag.el (h2 j B (Tag.at h3 h4));exact Tag28.at (.inl h5) h6
 ·obtain⟨h5,h6⟩:=Tag.el (h8 j B (Tag.at h3 h4));exact Tag28.at (.inr h5) h6
def OutT (o:Nat->Nat) (M:Fz) (xo:SV) (out:List Msg):Prop:=∃cs,SlX (Tag o 7 M) 20 xo cs/\All2 (MsgX (Tag28 o M)) cs out
theorem RepT.keep {o o':Nat->Nat} {M M':Fz} {r:Rep} {xe xa xs xd:SV} (h:∀t,1<=t->t<=6->Sub (Tag o t M) (Tag o' t M')) (g:RepT o M r xe xa xs xd):RepT o' M' r xe xa xs xd:=by
 obtain⟨⟨cs,h1,h2⟩,h3,h4,ds,h5,h6⟩:=g;exact⟨⟨cs,h1.mono (h 1 (by omega) (by omega)),h2.imp λc a g=>EntX.mono (h 2 (by omega) (by omega)) g⟩,IntsX.mono (h 3 (by omega) (by omega)) h3,IntsX.mono (h 4 (by omega) (by omega)) h4,⟨ds,h5.mono (h 5 (by omega) (by omega)),h6.imp λc a g=>DvX.mono (h 6 (by omega) (by omega)) g⟩⟩
theorem OutT.keep {o o':Nat->Nat} {M M':Fz} {xo:SV} {out:List Msg} (h2:Sub (Tag o 2 M) (Tag o' 2 M')) (h7:Sub (Tag o 7 M) (Tag o' 7 M')) (h8:Sub (Tag o 8 M) (Tag o' 8 M')) (g:OutT o M xo out):OutT o' M' xo out:=by
 obtain⟨cs,h1,h3⟩:=g;exact⟨cs,h1.mono h7,h3.imp λc a g=>MsgX.mono (Tag28.keep h2 h8) g⟩
structure SW (lo:Nat) (fz:Fz) (s:Nat) (o:Nat->Nat) (mu:St) (n:Nat) (r:Rep) (out:List Msg) (vd:Bool) (xe xa xs xd xo:SV):Prop where
 cells:Ev.look mu s=some (stepC r xe xa xs xd xo vd)
 rt:RepT o (with' mu fz) r xe xa xs xd
 ot:OutT o (with' mu fz) xo out
 free:Free fz mu n
 los:lo<=s
 os:o s=9
 zero:∀j,j<lo->o j=0
 fzl:∀j,lo<=j->fz j=none
section
variable {lo:Nat} {fz:Fz} {s:Nat} {o:Nat->Nat} {mu:St} {n:Nat} {r:Rep} {out:List Msg} {vd:Bool} {xe xa xs xd xo:SV}
theorem SW.slt (h:SW lo fz s o mu n r out vd xe xa xs xd xo):s<n:=h.free.lt (Qem h.cells)
theorem SW.lon (h:SW lo fz s o mu n r out vd xe xa xs xd xo):lo<=n:=Nat.le_of_lt (Nat.lt_of_le_of_lt h.los h.slt)
theorem SW.ge (h:SW lo fz s o mu n r out vd xe xa xs xd xo) {j:Nat} (hj:o j≠0):lo<=j:=by
 rcases Nat.lt_or_ge j lo with h1|h1
 ·exact(hj (h.zero j h1)).elim
 ·exact h1
theorem SW.ks (h:SW lo fz s o mu n r out vd xe xa xs xd xo):(xe.known=true/\xe.isMk=false)/\(xa.known=true/\xa.isMk=false)/\(xs.known=true/\xs.isMk=false)/\(xd.known=true/\xd.isMk=false)/\(xo.known=true/\xo.isMk=false):=by
 obtain⟨⟨cs,h1,h2⟩,h3,h4,ds,h5,h6⟩:=h.rt;obtain⟨es,h7,h8⟩:=h.ot;exact⟨(SlX.len h1).2.2,(SlX.len h3).2.2,(SlX.len h4).2.2,(SlX.len h5).2.2,(SlX.len h7).2.2⟩
theorem SW.rs (h:SW lo fz s o mu n r out vd xe xa xs xd xo):RepS (with' mu fz) r xe xa xs xd:=by
 obtain⟨⟨cs,h1,h2⟩,h3,h4,ds,h5,h6⟩:=h.rt;exact⟨⟨cs,(h1.mono Tag.sub).to,h2.imp λc a g=>(EntX.mono Tag.sub g).to⟩,IntsX.to (IntsX.mono Tag.sub h3),IntsX.to (IntsX.mono Tag.sub h4),⟨ds,(h5.mono Tag.sub).to,h6.imp λc a g=>(DvX.mono Tag.sub g).to⟩⟩
theorem SW.gr (h:SW lo fz s o mu n r out vd xe xa xs xd xo) {mu':St} {n':Nat} (g:Gr n fz mu mu' n n'):SW lo fz s o mu' n' r out vd xe xa xs xd xo:=by
 have u:∀t,Sub (Tag o t (with' mu fz)) (Tag o t (with' mu' fz)):=λt=>Tag.mono (g.sub h.free (Nat.le_refl _));exact⟨(g.own s h.slt).trans h.cells,h.rt.keep λt _ _=>u t,h.ot.keep (u 2) (u 7) (u 8),g.free,h.los,h.os,h.zero,h.fzl⟩
theorem SW.le (h:SW lo fz s o mu n r out vd xe xa xs xd xo) {n':Nat} (g:n<=n'):SW lo fz s o mu n' r out vd xe xa xs xd xo:=⟨h.cells,h.rt,h.ot,h.free.le g,h.los,h.os,h.zero,h.fzl⟩
theorem SW.putA (h:SW lo fz s o mu n r out vd xe xa xs xd xo) {l:List Int} {ida:Nat} (hx:xa=.osl ida 0 r.acks.length r.acks.length 1) (ho:o ida=3) (hl:l.length=r.acks.length) (hk:Ev.look mu ida=some (r.acks.map (SV.int .i64))):SW lo fz s o (putS mu ida (l.map (SV.int .i64))) n {r with acks:=l} out vd xe xa xs xd xo:=by
 have u:∀t,t≠3->Sub (Tag o t (with' mu fz)) (Tag o t (with' (putS mu ida (l.map (SV.int .i64))) fz)):=λt ht=>Tag.put (lookI hk) (by rw[ho];omega);have hlo:lo<=ida:=h.ge (by omega);have g:=(Gr.refl (lo:=lo) h.free).put hlo hk (c:=l.map (SV.int .i64));have hne:ida≠s:=λe=>by have:=h.os;rw[<-e,ho]at this;omega
 obtain⟨⟨cs,h1,h2⟩,h3,h4,ds,h5,h6⟩:=h.rt;refine⟨by rw[Qen,if_neg hne];exact h.cells,⟨⟨cs,h1.mono (u 1 (by omega)),h2.imp λc a g=>EntX.mono (u 2 (by omega)) g⟩,?_,IntsX.mono (u 4 (by omega)) h4,ds,h5.mono (u 5 (by omega)),h6.imp λc a g=>DvX.mono (u 6 (by omega)) g⟩,h.ot.keep (u 2 (by omega)) (u 7 (by omega)) (u 8 (by omega)),g.free,h.los,h.os,h.zero,h.fzl⟩;refine .inr ⟨ida,by rw[hx];simp[hl],Tag.at ho (by rw[Qet hk,if_pos rfl,Qj6]),by rw[Qj6];exact Qqz l,Qjg⟩
theorem SW.put (h:SW lo fz s o mu n r out vd xe xa xs xd xo) {r':Rep} {vd':Bool} (he:r'.log.ents=r.log.ents) (ha:r'.acks=r.acks) (hs:r'.starts=r.starts) (hd:r'.dos=r.dos):SW lo fz s o (putS mu s (stepC r' xe xa xs xd xo vd')) n r' out vd' xe xa xs xd xo:=by
 have u:∀t,t≠9->Sub (Tag o t (with' mu fz)) (Tag o t (with' (putS mu s (stepC r' xe xa xs xd xo vd')) fz)):=λt ht=>Tag.put (lookI h.cells) (by rw[h.os];omega);have g:=(Gr.refl (lo:=lo) h.free).put h.los h.cells (c:=stepC r' xe xa xs xd xo vd');refine⟨by rw[Qen,if_pos rfl,h.cells];rfl,?_,h.ot.keep (u 2 (by omega)) (u 7 (by omega)) (u 8 (by omega)),g.free,h.los,h.os,h.zero,h.fzl⟩;obtain⟨h1,h2,h3,h4⟩:=h.rt.keep (λt _ _=>u t (by omega));exact⟨by rw[he];exact h1,by rw[ha];exact h2,by rw[hs];exact h3,by rw[hd];exact h4⟩
end
def ackL (r:Rep) (i:Nat) (at':Int):List Int:=r.acks.set i (max (r.acks[i]?.getD 0) (min at' (last r.log)))
def ackR (r:Rep) (i:Nat) (at':Int):Rep:={r with acks:=ackL r i at',commit:=max r.commit (commF (ackL r i at') r.me (last r.log))}
def Qie (r:Rep) (m:Msg):Rep:=if leadB r&&!decide (r.view<m.view)then ackR r m.frm.toNat m.at' else r
section
variable {P:Program} (H:Fs P)
include H
theorem replica_step_last (id:Nat) (r:Rep) (xe xa xs xd xo:SV) (vd:Bool):Ctr P n_Qbc [.one (.optr id 0)] (λM=>M id=some (stepC r xe xa xs xd xo vd)/\EntsR M xe r.log.ents) (λ_ _ _ v=>v=.one (I (last r.log))):=Ctr.of H.mx H.Qbc (λ_=>0) λfz mu n k hfr s hk=>by
 obtain⟨b1,s1⟩:=s;have hE:=choose_Last H r.log xe;unfold lgC at hE;unfold stepC repC at b1;rw[dY a_Qbc.eq_1 b_Qbc.eq_1];simp only[↓E1,E2,seval, *];refine hE.q0 hfr s1 ?_;rintro v n' hl rfl;simp only[↓E1,E2,seval, *];exact hk _ _ _ ((Gr.refl hfr).le2 hl) rfl
theorem Que (hS:SortC P) {lo:Nat} {fz:Fz} {s:Nat} {o:Nat->Nat} {mu:St} {n:Nat} {r:Rep} {out:List Msg} {vd:Bool} {xe xa xs xd xo:SV} (S:SW lo fz s o mu n r out vd xe xa xs xd xo) (m:Msg) (yb ye:SV)
 (hm:MsgS (with' mu fz) m yb ye) (h1:0<=m.frm) (h2:m.frm.toNat<r.acks.length) (hl:r.acks.length<=17592186044415) {k:KT Prop} {w:WK k}
 (hk:∀mu' n',SW lo fz s o mu' n' (Qie r m) out vd xe xa xs xd xo->Gr lo fz mu mu' n n'->k noVal mu' n'):CPh P n_Qa7 [.one (.optr s 0),.ag (msgC m yb ye)] fz mu n k w:=by
 refine CP_of H.Qa7 H.mx 0 ?_;obtain⟨-,-,ybk,ybm⟩:=hm.1.len;obtain⟨-,-,yek,yem⟩:=hm.2.len;rw[dY a_Qa7.eq_1 b_Qa7.eq_1];obtain⟨i,hi⟩:∃i:Nat,m.frm=(i:Int):=⟨m.frm.toNat,by omega⟩
 have hii:i<r.acks.length:=by omega
 have gA:=(Gr.refl (lo:=n) S.free).cons (Nat.le_refl _) (msgC m yb ye);have S1:=S.gr gA;have b1:Ev.look ((n,msgC m yb ye)::mu) n=some (msgC m yb ye):=by rw[Qer,if_pos rfl]
 have hsn:s<n:=S.slt;obtain⟨m1,hm1⟩:∃mz:St,((n,msgC m yb ye)::mu)=mz:=⟨_,rfl⟩
 rw[hm1]at gA S1 b1;have wb:=Qem (fz:=fz) b1;have ws:=Qem (fz:=fz) S1.cells;have hNo:=replica_step_normal H s r xe xa xs xd xo vd;have hLa:=replica_step_last H s r xe xa xs xd xo vd;have gM:=gA.weaken (show lo<=n from S.lon);unfold msgC at hm1 wb⊢;obtain⟨⟨xek,xem⟩,⟨xak,xam⟩,⟨xsk,xsm⟩,⟨xdk,xdm⟩,xok,xom⟩:=S1.ks;simp only[↓E1,E2,seval, *];rw[hi]at hm1;try rw[hm1]
 refine hNo.q1 S1.free ws ?_;rintro v n2 l2 rfl;have hacked:Qie r m=if leadB r&&!decide (r.view<m.view)then ackR r i m.at' else r:=by unfold Qie;rw[hi];rfl
 rw[hacked]at hk;unfold stepC repC at ws;simp only[↓E1,E2,seval, *];refine Qeo (λhb=>?_) (λhb=>?_)
 ·have hb':leadB r=true:=by simpa using hb
  clear hb;obtain⟨ida,hxa,hoa,hra⟩:∃ida,xa=.osl ida 0 r.acks.length r.acks.length 1/\o ida=3/\Ev.look m1 ida=some (r.acks.map (SV.int .i64)):=by
   rcases S1.rt.acks with⟨_,h0⟩|⟨ida,h3,h4,h5,h6⟩
   ·exfalso;have:=congrArg List.length h0;simp at this;rw[this]at hii;simp at hii
   ·obtain⟨h7,h8⟩:=Tag.el h4;refine⟨ida,by simpa using h3,h7,?_⟩;rw[<-Qj6,<-Qfp (S1.fzl ida (S1.ge (by omega)))];exact h8
  have hwa:=Qem (fz:=fz) hra;have hmk:=Qqz r.acks;have hsub:=Qu1 hii;have hbd:i*1+1<=(r.acks.map (SV.int .i64)).length:=by simp;omega
  have hlenm:(r.acks.map (SV.int .i64)).length=r.acks.length:=by simp
  have S1b:=S1;rw[hxa]at ws;have hLa':=hLa;simp only[↓E1,E2,seval, *];refine Qeo (λhb=>?_) (λhb=>?_)
  ·have hno:(if true=true/\(!decide (r.view<m.view))=true then ackR r i m.at' else r)=r:=by rw[if_neg];simp[of_decide_eq_true hb]
   simp only[↓E1,E2,seval, *];refine hk _ _ ?_ ((gM.le2 l2));have:(if(leadB r&&!decide (r.view<m.view))=true then ackR r i m.at' else r)=r:=by rw[if_neg];simp[of_decide_eq_true hb]
   first|exact S1.le l2|(rw[this];exact S1.le l2)|(simp only[hb',hb];exact S1.le l2)
  ·simp only[↓E1,E2,seval, *];refine⟨by simpa using hbd,?_⟩;refine hLa.q1 (S1.free.le l2) ⟨Qem S1.cells,S1.rs.1⟩ ?_;rintro v n3 l3 rfl;have hil:(i<r.acks.length)=True:=by simp[hii]
   have hbd':i*1+1<=r.acks.length:=by omega
   obtain⟨l2',hl2⟩:∃l2,r.acks.set i (max r.acks[i] (min m.at' (last r.log)))=l2:=⟨_,rfl⟩
   have hll:l2'.length=r.acks.length:=by rw[<-hl2];simp
   have hov:over (r.acks.map (SV.int .i64)) (i*1) [SV.int .i64 (max r.acks[i] (min m.at' (last r.log)))]=l2'.map (SV.int .i64):=by rw[Nat.mul_one,<-hl2];exact Qkp r.acks i _ hii
   have S3:=((S1.le l2).le l3).putA (l:=l2') hxa hoa hll hra;have g3:=(((gM.le2 l2).le2 l3)).put (S1.ge (j:=ida) (by omega)) hra (c:=l2'.map (SV.int .i64));have hack:ackR r i m.at'={r with acks:=l2',commit:=max r.commit (commF l2' r.me (last r.log))}:=by
    unfold ackR ackL;rw[List.getElem?_eq_getElem hii,Option.getD_some,hl2]
   have hyes:(if(leadB r&&!decide (r.view<m.view))=true then ackR r i m.at' else r)={r with acks:=l2',commit:=max r.commit (commF l2' r.me (last r.log))}:=by rw[if_pos (by simp[hb',of_decide_eq_false hb]),hack]
   rw[hyes]at hk;have hC:=replica_Committed H hS (.osl ida 0 r.acks.length r.acks.length 1) l2' r.me (last r.log) (by omega);have hLa3:=replica_step_last H s {r with acks:=l2'} xe xa xs xd xo vd;have hin:IntsR (with' (putS m1 ida (l2'.map (SV.int .i64))) fz) (.osl ida 0 r.acks.length r.acks.length 1) l2':=by rw[<-hxa];exact S3.rs.2.1
   clear hl2 hack hyes hacked;have ws3:=Qem (fz:=fz) S3.cells;unfold stepC repC at ws3;rw[hxa]at ws3;simp only[↓E1,E2,seval,Qek,Qel, *];obtain⟨m3,hm3⟩:∃m3,putS m1 ida (l2'.map (SV.int .i64))=m3:=⟨_,rfl⟩
   rw[hm3]at S3 g3 hin ws3;try rw[hm3]
   refine hLa3.q1 S3.free ⟨Qem S3.cells,S3.rs.1⟩ ?_;rintro v n4 l4 rfl;simp only[↓E1,E2,seval,Qek,Qel, *];refine hC.q1 (S3.free.le l4) hin ?_;rintro v n5 l5 rfl;have hs3:=S3.cells;unfold stepC repC at hs3;rw[hxa]at hs3;simp only[↓E1,E2,seval,Qek,Qel, *];have S9:=(S3.le (Nat.le_trans l4 l5)).put (r':={r with acks:=l2',commit:=max r.commit (commF l2' r.me (last r.log))}) (vd':=vd) rfl rfl rfl rfl;have g9:=(g3.le2 (Nat.le_trans l4 l5)).put S.los S3.cells (c:=stepC {r with acks:=l2',commit:=max r.commit (commF l2' r.me (last r.log))} xe xa xs xd xo vd);refine hk _ _ ?_ ?_
   ·unfold stepC repC at S9;rw[hxa]at S9⊢;exact S9
   ·unfold stepC repC at g9;rw[hxa]at g9;exact g9
 ·have hb':leadB r=false:=by simpa using hb
  clear hb;simp only[↓E1,E2,seval, *];refine hk _ _ ?_ (gM.le2 l2);simp only[hb',Bool.false_and];exact S1.le l2
end
structure BegP (n:Nat) (M:Fz) (v:AV) (r:Rep) (s:Nat) (o:Nat->Nat) (xe xa xs xd:SV):Prop where
 val:v=.one (.optr s 0)
 le:n<=s
 os:o s=9
 zero:∀j,j<n->o j=0
 cells:M s=some (stepC r xe xa xs xd .nsl false)
 rt:RepT o M r xe xa xs xd
theorem BegP.sw {n:Nat} {fz:Fz} {mu mu':St} {n':Nat} {v:AV} {r:Rep} {s:Nat} {o:Nat->Nat} {xe xa xs xd:SV} (h:BegP n (with' mu' fz) v r s o xe xa xs xd) (hf:Free fz mu n) (g:Gr n fz mu mu' n n'):SW n fz s o mu' n' r [] false xe xa xs xd .nsl:=
 ⟨Qmx hf h.le h.cells,h.rt,⟨[],.inl ⟨.inl rfl,rfl⟩,trivial⟩,g.free,h.le,h.os,h.zero,λj hj=>by
  have h0:=hf.none hj;rw[Qe5]at h0;cases e:Ev.look mu j with
  |none=>rw[e]at h0;exact h0
  |some c=>rw[e]at h0;cases h0⟩
section
variable {P:Program} (H:Fs P)
include H
theorem replica_begin (r:Rep) (xe xa xs xd:SV) (hz:RepSz r):Ctr P n_Qcw [.ag (repC r xe xa xs xd)] (λM=>RepS M r xe xa xs xd) (λn _ M v=>∃s o xe' xa' xs' xd',BegP n M v r s o xe' xa' xs' xd'):=Ctr.of H.mx H.Qcw (λ_=>0) λfz mu n k hfr s1 hk=>by
 obtain⟨-,-,xek,xem⟩:=s1.1.len;obtain⟨-,-,xak,xam⟩:=s1.2.1.len;obtain⟨-,-,xsk,xsm⟩:=s1.2.2.1.len;obtain⟨-,-,xdk,xdm⟩:=s1.2.2.2.len;have hC:=replica_Clone H r xe xa xs xd hz;rw[dY a_Qcw.eq_1 b_Qcw.eq_1];unfold repC at hC⊢;simp only[↓E1,E2,seval, *];refine CPr.abs1 hfr λm1 n1 g1 l1 b1=>?_;refine hC.c1 g1.free (RepS.mono (g1.sub hfr (Nat.le_refl _)) s1) ?_;rintro v m2 n2 g2 ⟨xe',xa',xs',xd',o,rfl,ho,hT⟩;have l2:=g2.le;have gg:=g1.trans (g2.weaken (by omega));obtain⟨⟨es,q1,q2⟩,q3,q4,ds,q5,q6⟩:=hT;have hT:RepT o (with' m2 fz) r xe' xa' xs' xd':=⟨⟨es,q1,q2⟩,q3,q4,ds,q5,q6⟩
 obtain⟨-,-,yek,yem⟩:=q1.len;obtain⟨-,-,yak,yam⟩:=SlX.len q3;obtain⟨-,-,ysk,ysm⟩:=SlX.len q4;obtain⟨-,-,ydk,ydm⟩:=SlX.len q5;simp only[↓E1,E2,seval, *];have gB:=gg.cons (by omega) (stepC r xe' xa' xs' xd' .nsl false);refine hk _ _ _ gB ⟨n2,λj=>if j=n2 then 9 else o j,xe',xa',xs',xd',rfl,by omega,by simp,λj hj=>by rw[if_neg (by omega)];exact ho j (by omega),by rw[Qfl,if_pos rfl];rfl,?_⟩;refine hT.keep λt _ _ j B hj=>?_;obtain⟨h1,h2⟩:=Tag.el hj;have h3:=gg.free.lt h2;refine Tag.at (by rw[if_neg (by omega)];exact h1) ?_;rw[Qfl,if_neg (by omega)];exact h2
theorem replica_step_end (s:Nat) (r r0:Rep) (xe xa xs xd xo ye ya ys yd:SV) (hk1:xe.known=true/\xa.known=true/\xs.known=true/\xd.known=true/\xo.known=true):Ctr P n_Qbs [.one (.optr s 0),.ag (repC r0 ye ya ys yd)] (λM=>M s=some (stepC r xe xa xs xd xo false)/\RepS M r0 ye ya ys yd) (λ_ _ _ v=>v=.tp [.ag (repC r xe xa xs xd),.one xo]):=Ctr.of H.mx H.Qbs (λ_=>0) λfz mu n k hfr h hk=>by
 obtain⟨b1,s1⟩:=h;obtain⟨xek,xak,xsk,xdk,xok⟩:=hk1;have xem:=Qhm xek;have xam:=Qhm xak;have xsm:=Qhm xsk;have xdm:=Qhm xdk;have xom:=Qhm xok;obtain⟨-,-,yek,yem⟩:=s1.1.len;obtain⟨-,-,yak,yam⟩:=s1.2.1.len;obtain⟨-,-,ysk,ysm⟩:=s1.2.2.1.len;obtain⟨-,-,ydk,ydm⟩:=s1.2.2.2.len;have hs:s<n:=hfr.lt b1;have hne:(n=s)=False:=by simp;omega
 have hne2:(n+1=s)=False:=by simp;omega
 have hne3:(n+1=n)=False:=by simp
 unfold stepC repC at b1;rw[dY a_Qbs.eq_1 b_Qbs.eq_1];unfold repC;simp only[↓E1,E2,seval, *];rw[Qs4 (show Ev.look ((n+1,_)::_) (n+1)=some _ by rw[Qer,if_pos rfl]) rfl];have hw:=(Qeu (fz:=fz) (show Ev.look (killS mu (n+1)) s=Ev.look mu s by rw[Qfe,if_neg (by omega)])).trans b1;simp only[↓E1,E2,seval, *];have hno:Ev.look mu (n+1)=none:=by
  have h0:=hfr.none (show n<=n+1 by omega);rw[Qe5]at h0;cases e:Ev.look mu (n+1)with
  |none=>rfl
  |some c=>rw[e]at h0;cases h0
 exact hk _ _ _ ((((Gr.refl hfr).congr (λid=>by
  rw[Qfe];by_cases e:n+1=id
  ·rw[if_pos e,<-e,hno]
  ·rw[if_neg e])).cons (Nat.le_refl _) _).cons (by omega) _) rfl
end
structure MsgSz (m:Msg):Prop where
 bat:m.batch.length<=4398046511104
 log:LgSz m.log
structure Kp (T:Nat->Prop) (s:Nat) (o o':Nat->Nat) (mu:St) (n:Nat) (mu':St) (n':Nat):Prop where
 le:n<=n'
 tags:∀j,j<n->o' j=o j
 keep:∀j,j<n->j≠s->¬T (o j)->Ev.look mu' j=Ev.look mu j
theorem Kp.trans {T:Nat->Prop} {s:Nat} {o o1 o2:Nat->Nat} {mu mu1 mu2:St} {n n1 n2:Nat} (h:Kp T s o o1 mu n mu1 n1) (k:Kp T s o1 o2 mu1 n1 mu2 n2):Kp T s o o2 mu n mu2 n2:=
 ⟨Nat.le_trans h.le k.le,λj hj=>by rw[k.tags j (Nat.lt_of_lt_of_le hj h.le)];exact h.tags j hj,λj hj hs ht=>by
  rw[k.keep j (Nat.lt_of_lt_of_le hj h.le) hs (by rw[h.tags j hj];exact ht)];exact h.keep j hj hs ht⟩
theorem Kp.weaken {T T':Nat->Prop} {s:Nat} {o o':Nat->Nat} {mu mu':St} {n n':Nat} (h:Kp T s o o' mu n mu' n') (ht:∀t,T t->T' t):Kp T' s o o' mu n mu' n':=
 ⟨h.le,h.tags,λj h1 h2 h3=>h.keep j h1 h2 λh4=>h3 (ht _ h4)⟩
theorem Kp.refl {T:Nat->Prop} {s:Nat} {o:Nat->Nat} {mu:St} {n:Nat}:Kp T s o o mu n mu n:=⟨Nat.le_refl _,λ_ _=>rfl,λ_ _ _ _=>rfl⟩
theorem Kp.gr {T:Nat->Prop} {s lo:Nat} {o o':Nat->Nat} {fz:Fz} {mu mu':St} {n n':Nat} (h:Kp T s o o' mu n mu' n') (hf:Free fz mu' n') (hl:lo<=s) (hln:lo<=n) (hz:∀j,j<lo->o j=0) (h0:¬T 0):Gr lo fz mu mu' n n':=
 have hk:∀j,j<lo->Ev.look mu' j=Ev.look mu j:=λj hj=>h.keep j (by omega) (by omega) (by rw[hz j hj];exact h0)
 ⟨h.le,λj hj=>Qeu (hk j hj),hk,hf⟩
def FT (o:Nat->Nat) (n:Nat) (M:Fz):Fz:=λj=>if n<=j\/o j=2\/o j=8 then M j else none
theorem FT.el {o:Nat->Nat} {n j:Nat} {M:Fz} {B:List SV} (h:FT o n M j=some B):(n<=j\/o j=2\/o j=8)/\M j=some B:=by
 unfold FT at h;split at h
 ·rename_i e;exact⟨e,h⟩
 ·cases h
theorem FT.from {o:Nat->Nat} {n:Nat} {M:Fz}:Sub (From n M) (FT o n M):=λj B h=>by
 obtain⟨h1,h2⟩:=From.el h;unfold FT;rw[if_pos (.inl h1)];exact h2
theorem FT.tag {o:Nat->Nat} {n:Nat} {M:Fz}:Sub (Tag28 o M) (FT o n M):=λj B h=>by
 obtain⟨h1,h2⟩:=Tag28.el h;unfold FT;rw[if_pos (.inr h1)];exact h2
theorem SW.app {lo:Nat} {fz:Fz} {s:Nat} {o:Nat->Nat} {mu:St} {n:Nat} {r:Rep} {out:List Msg} {vd:Bool} {xe xa xs xd xo:SV} (S:SW lo fz s o mu n r out vd xe xa xs xd xo) {mu2:St} {n2:Nat} (g:Gr n fz mu mu2 n n2) {m:Msg} {xb xm:SV}
 (hb:PtsX (FT o n (with' mu2 fz)) xb m.batch) (hm:EntsX (FT o n (with' mu2 fz)) xm m.log.ents) (hl:out.length<=1000) {K:KT Prop}
 (hk:∀m3 o' xo',xo'.known=true->Ev.look m3 s=some (stepC r xe xa xs xd xo vd)->SW lo fz s o' (putS m3 s (stepC r xe xa xs xd xo' vd)) (n2+1) r (out++[m]) vd xe xa xs xd xo'->Kp (· =7) s o o' mu n (putS m3 s (stepC r xe xa xs xd xo' vd)) (n2+1)->K (.one xo') m3 (n2+1)):
 onApp mu2 n2 20 216 xo (msgC m xb xm) 1 K:=by
 obtain⟨cs,h1,h2⟩:=S.ot;have hcl:=h2.length;have hfz:∀j,o j≠0->fz j=none:=λj hj=>S.fzl j (S.ge hj);have hG:∀id B,Tag o 7 (with' mu fz) id=some B->Ev.look mu2 id=some B:=λid B h=>by
  obtain⟨p1,p2⟩:=Tag.el h;have p3:=S.free.lt p2;rw[Qfp (hfz id (by omega))]at p2;exact(g.own id p3).trans p2
 obtain⟨-,-,zbk,-⟩:=SlX.len hb;obtain⟨-,-,zmk,-⟩:=hm.choose_spec.1.len;have hkn:Qeq (msgC m xb xm)=true:=by unfold msgC;simp only[↓E1,E2,seval, *]
 have hfl:onApp mu2 n2 20 216 xo ([msgC m xb xm]:List (List SV)).flatten ([msgC m xb xm]:List (List SV)).length K:=by
  refine Qhw (G:=Tag o 7 (with' mu fz)) h1 hG (by rw[hcl];exact Qfc (by simp;omega) (by decide) (by decide)) (by simp) (λe he=>by rw[List.mem_singleton.1 he];exact⟨rfl,hkn⟩) λm3 ho hn=>?_;have hsame:∀j,j≠n2->(j<n->o j≠7)->Ev.look m3 j=Ev.look mu2 j:=λj hj h7=>by
   rcases ho j hj with h|⟨B,p1,-⟩
   ·exact h
   ·obtain⟨p2,p3⟩:=Tag.el p1;exact(h7 (S.free.lt p3) p2).elim
  have hs2:s<n:=S.slt;have hln:=g.le;have hs3:Ev.look m3 s=some (stepC r xe xa xs xd xo vd):=(hsame s (by omega) (λ_=>by rw[S.os];omega)).trans ((g.own s hs2).trans S.cells);have hlon:=S.lon
  -- the tags
  let o':Nat->Nat:=tagN o n λj=>if j=n2 then 7 else 8
  have ho1:∀j,j<n->o' j=o j:=λj hj=>Qfm hj;have ho2:o' n2=7:=by show tagN o n _ n2=7;rw[Qgn hln];simp
  have ho3:∀j,n<=j->j≠n2->o' j=8:=λj hj hne=>by show tagN o n _ j=8;rw[Qgn hj,if_neg hne]
  have hput:∀(xo':SV) j,j≠s->with' (putS m3 s (stepC r xe xa xs xd xo' vd)) fz j=with' m3 fz j:=λxo' j hj=>by rw[Qet hs3,if_neg (by omega)]
  have u:∀(xo':SV) t,t≠7->t≠9->t≠0->Sub (Tag o t (with' mu fz)) (Tag o' t (with' (putS m3 s (stepC r xe xa xs xd xo' vd)) fz)):=λxo' t ht ht9 ht0 j B hj=>by
   obtain⟨p1,p2⟩:=Tag.el hj;have p3:=S.free.lt p2;refine Tag.at (by rw[ho1 j p3];exact p1) ?_;rw[hput xo' j (λe=>by rw[e,S.os]at p1;omega),Qeu (hsame j (by omega) (λ_=>by omega)),g.ext j p3];exact p2
  have uN:∀(xo':SV),Sub (FT o n (with' mu2 fz)) (Tag28 o' (with' (putS m3 s (stepC r xe xa xs xd xo' vd)) fz)):=λxo' j B hj=>by
   obtain⟨p1,p2⟩:=FT.el hj;have p3:=g.free.lt p2;rcases Nat.lt_or_ge j n with hjn|hjn
   ·have p4:o j=2\/o j=8:=p1.resolve_left (by omega);refine Tag28.at (by rw[ho1 j hjn];exact p4) ?_;rw[hput xo' j (λe=>by rw[e,S.os]at p4;omega),Qeu (hsame j (by omega) (λ_=>by omega))];exact p2
   ·refine Tag28.at (.inr (ho3 j hjn (by omega))) ?_;rw[hput xo' j (by omega),Qeu (hsame j (by omega) (λ_=>by omega))];exact p2
  have hfz2:∀j,lo<=j->fz j=none:=S.fzl;have hn7:∀(xo':SV),with' (putS m3 s (stepC r xe xa xs xd xo' vd)) fz n2=some (cs++[msgC m xb xm]).flatten:=λxo'=>by rw[hput xo' n2 (by omega)];exact Qem hn
  have hfree:∀(xo':SV),Free fz (putS m3 s (stepC r xe xa xs xd xo' vd)) (n2+1):=λxo' j=>by
   rw[hput xo' _ (by omega),Qeu (hsame (n2+1+j) (by omega) (λ_=>by omega))];exact g.free.none (by omega)
  refine hk m3 o' _ rfl hs3 ⟨by rw[Qen,if_pos rfl,hs3];rfl,S.rt.keep λt t1 t2=>u _ t (by omega) (by omega) (by omega),⟨cs++[msgC m xb xm],.inr ⟨n2,rfl,Tag.at ho2 (hn7 _),?_,?_⟩,?_⟩,hfree _,S.los,by rw[ho1 s hs2];exact S.os,λj hj=>by rw[ho1 j (by omega)];exact S.zero j hj,S.fzl⟩ ⟨by omega,ho1,λj hj hjs h7=>?_⟩
  ·have hkf:∀e∈cs++[msgC m xb xm],e.length=20/\Qeq e=true:=λe he=>by
    rcases List.mem_append.1 he with he|he
    ·rcases h1 with⟨_,rfl⟩|⟨id,_,_,_,h4⟩
     ·cases he
     ·exact h4 e he
    ·rw[List.mem_singleton.1 he];exact⟨rfl,hkn⟩
   exact Qfu (Qe3 hkf)
  ·intro e he;rcases List.mem_append.1 he with he|he
   ·rcases h1 with⟨_,rfl⟩|⟨id,_,_,_,h4⟩
    ·cases he
    ·exact h4 e he
   ·rw[List.mem_singleton.1 he];exact⟨rfl,hkn⟩
  ·exact All2.append (h2.imp λc a h=>MsgX.mono (Tag28.keep (u _ 2 (by omega) (by omega) (by omega)) (u _ 8 (by omega) (by omega) (by omega))) h) ⟨⟨xb,xm,rfl,PtsX.mono (uN _) hb,EntsX.mono (uN _) hm⟩,trivial⟩
  ·rw[Qen,if_neg (by omega),hsame j (by omega) (λ_=>h7)];exact g.own j hj
 simpa only[List.flatten_cons,List.flatten_nil,List.append_nil,List.length_cons,List.length_nil,Nat.zero_add]using hfl
section
variable {P:Program} (H:Fs P)
include H
theorem Qgc {lo:Nat} {fz:Fz} {s:Nat} {o:Nat->Nat} {mu:St} {n:Nat} {r:Rep} {out:List Msg} {vd:Bool} {xe xa xs xd xo:SV} (S:SW lo fz s o mu n r out vd xe xa xs xd xo) (to:Int) (m:Msg) (yb ye:SV)
 (hm:MsgS (with' mu fz) m yb ye) (hz:MsgSz m) (hl:out.length<=1000) {k:KT Prop} {w:WK k}
 (hk:∀mu' n' o' xo',SW lo fz s o' mu' n' r (out++[{m with frm:=r.me,to:=to}]) vd xe xa xs xd xo'->Kp (· =7) s o o' mu n mu' n'->k noVal mu' n'):CPh P n_Qbf [.one (.optr s 0),.one (I to),.ag (msgC m yb ye)] fz mu n k w:=by
 refine CP_of H.Qbf H.mx 0 ?_;obtain⟨-,-,ybk,ybm⟩:=hm.1.len;obtain⟨-,-,yek,yem⟩:=hm.2.len;have hC:=message_Clone H {m with frm:=r.me,to:=to} yb ye hz.bat hz.log.ents hz.log.bat;have gA:=(Gr.refl (lo:=n) S.free).cons (Nat.le_refl _) (msgC {m with frm:=r.me,to:=to} yb ye);have hsn:s<n:=S.slt;have S1:=S.gr gA;have b1:Ev.look ((n,msgC {m with frm:=r.me,to:=to} yb ye)::mu) n=some (msgC {m with frm:=r.me,to:=to} yb ye):=by rw[Qer,if_pos rfl]
 have ws0:=Qem (fz:=fz) S.cells;have hne:(n=s)=False:=by simp;omega
 obtain⟨⟨xek,xem⟩,⟨xak,xam⟩,⟨xsk,xsm⟩,⟨xdk,xdm⟩,xok,xom⟩:=S1.ks;obtain⟨m1,hm1⟩:∃mz:St,((n,msgC {m with frm:=r.me,to:=to} yb ye)::mu)=mz:=⟨_,rfl⟩
 rw[hm1]at gA S1 b1;have ws1:=Qem (fz:=fz) S1.cells;have wb1:=Qem (fz:=fz) b1;rw[dY a_Qbf.eq_1 b_Qbf.eq_1];unfold msgC at hm1 hC wb1⊢;unfold stepC repC at ws0 ws1;simp only[↓E1,E2,seval, *,E3];refine hC.d2 S1.free ⟨PtsR.mono (gA.sub S.free (Nat.le_refl _)) hm.1,EntsR.mono (gA.sub S.free (Nat.le_refl _)) hm.2⟩ ?_;rintro v new n2 g2 ⟨xb',xe',rfl,hxb,hxm⟩;have l2:=g2.le;obtain⟨-,-,zbk,zbm⟩:=SlX.len hxb;obtain⟨-,-,zek,zem⟩:=hxm.choose_spec.1.len;have S2:=S1.gr g2;have ws2:=Qem (fz:=fz) S2.cells;unfold stepC repC at ws2;simp only[↓E1,E2,seval, *,E3];have gB:Gr n fz mu ((n2,[I m.kind,I r.me,I to,I m.view,I m.normal,I m.at',I m.commit,I m.round,I m.client,I m.session,I m.number,I m.code,I m.agg,I m.until',m.series.sv,xb',I m.log.base,m.log.snap.sv,xe',m.text.sv])::(new++m1)) n (n2+1):=(gA.trans (g2.weaken (by omega))).cons (by omega) _;have u2:Sub (From (n+1) (with' (new++m1) fz)) (From n (with' ((n2,[I m.kind,I r.me,I to,I m.view,I m.normal,I m.at',I m.commit,I m.round,I m.client,I m.session,I m.number,I m.code,I m.agg,I m.until',m.series.sv,xb',I m.log.base,m.log.snap.sv,xe',m.text.sv])::(new++m1)) fz)):=λj B hj=>by
  obtain⟨p1,p2⟩:=From.el hj;have:=g2.free.lt p2;exact From.at (by omega) (by rw[Qfl,if_neg (by omega)];exact p2)
 refine SW.app S gB (m:={m with frm:=r.me,to:=to}) (PtsX.mono (u2.trans FT.from) hxb) (EntsX.mono (u2.trans FT.from) hxm) hl λm3 o' xo' hko hs3 hS hKp=>?_;have hkom:=Qhm hko;unfold stepC repC at hs3;have hk2:=hk _ _ _ _ hS hKp;unfold stepC repC at hk2;simp only[↓E1,E2,seval, *,E3];exact hk2
end
def Un (s:Nat) (o:Nat->Nat) (M:Fz):Fz:=λj=>if o j=7\/j=s then none else M j
theorem Un.el {s j:Nat} {o:Nat->Nat} {M:Fz} {B:List SV} (h:Un s o M j=some B):o j≠7/\j≠s/\M j=some B:=by
 unfold Un at h;split at h
 ·cases h
 ·rename_i hn;exact⟨λe=>hn (.inl e),λe=>hn (.inr e),h⟩
theorem Un.at {s j:Nat} {o:Nat->Nat} {M:Fz} {B:List SV} (h1:o j≠7) (h2:j≠s) (h:M j=some B):Un s o M j=some B:=by
 unfold Un;rw[if_neg (λe=>e.elim h1 h2)];exact h
theorem Un.sub {s:Nat} {o:Nat->Nat} {M:Fz}:Sub (Un s o M) M:=λ_ _ h=>(Un.el h).2.2
theorem Kp.un {s:Nat} {o o':Nat->Nat} {fz:Fz} {mu mu':St} {n n':Nat} (h:Kp (· =7) s o o' mu n mu' n') (hf:Free fz mu n):Sub (Un s o (with' mu fz)) (Un s o' (with' mu' fz)):=λj B hj=>by
 obtain⟨h1,h2,h3⟩:=Un.el hj;have h4:=hf.lt h3;exact Un.at (by rw[h.tags j h4];exact h1) h2 (by rw[Qeu (h.keep j h4 h2 h1)];exact h3)
def trim (o:Nat->Nat) (n:Nat):Nat->Nat:=λj=>if j<n then o j else 0
theorem Qhh {o:Nat->Nat} {n j:Nat} (h:j<n):trim o n j=o j:=by unfold trim;rw[if_pos h]
theorem Qhr {o:Nat->Nat} {n j:Nat} (h:n<=j):trim o n j=0:=by unfold trim;rw[if_neg (by omega)]
theorem Kp.trim {T:Nat->Prop} {s:Nat} {o o':Nat->Nat} {mu mu':St} {n n':Nat} (h:Kp T s (trim o n) o' mu n mu' n'):Kp T s o o' mu n mu' n':=
 ⟨h.le,λj hj=>by rw[h.tags j hj,Qhh hj],λj hj hs ht=>h.keep j hj hs (by rw[Qhh hj];exact ht)⟩
theorem SW.trim {lo:Nat} {fz:Fz} {s:Nat} {o:Nat->Nat} {mu:St} {n:Nat} {r:Rep} {out:List Msg} {vd:Bool} {xe xa xs xd xo:SV} (S:SW lo fz s o mu n r out vd xe xa xs xd xo):SW lo fz s (trim o n) mu n r out vd xe xa xs xd xo:=by
 have u:∀t,Sub (Tag o t (with' mu fz)) (Tag (Pv.trim o n) t (with' mu fz)):=λt j B hj=>by
  obtain⟨p1,p2⟩:=Tag.el hj;exact Tag.at (by rw[Qhh (S.free.lt p2)];exact p1) p2
 exact⟨S.cells,S.rt.keep λt _ _=>u t,S.ot.keep (u 2) (u 7) (u 8),S.free,S.los,by rw[Qhh S.slt];exact S.os,λj hj=>by rw[Qhh (Nat.lt_of_lt_of_le hj S.lon)];exact S.zero j hj,S.fzl⟩
theorem Gr.kp {T:Nat->Prop} {s:Nat} {o:Nat->Nat} {fz:Fz} {mu mu':St} {n n':Nat} (g:Gr n fz mu mu' n n'):Kp T s o o mu n mu' n':=⟨g.le,λ_ _=>rfl,λj hj _ _=>g.own j hj⟩
def allM (r:Rep) (m:Msg) (i:Nat):List Msg:=((List.range i).filter λ(j:Nat)=>!decide ((j:Int)=r.me)).map λ(j:Nat)=>{m with frm:=r.me,to:=(j:Int)}
theorem Qqr (r:Rep) (m:Msg) (i:Nat):allM r m (i+1)=if(i:Int)=r.me then allM r m i else allM r m i++[{m with frm:=r.me,to:=(i:Int)}]:=by
 unfold allM;rw[List.range_succ,List.filter_append,List.map_append];by_cases h:(i:Int)=r.me<;>simp[h]
theorem Qf4 (r:Rep) (m:Msg) (i:Nat):(allM r m i).length<=i:=by
 unfold allM;rw[List.length_map];exact Nat.le_trans (List.length_filter_le _ _) (by simp)
section
variable {P:Program} (H:Fs P)
include H
theorem Qsw {lo:Nat} {fz:Fz} {s:Nat} {o:Nat->Nat} {mu:St} {n:Nat} {r:Rep} {out:List Msg} {vd:Bool} {xe xa xs xd xo:SV} (S:SW lo fz s o mu n r out vd xe xa xs xd xo) (m:Msg) (yb ye:SV)
 (hm:MsgS (Un s o (with' mu fz)) m yb ye) (hz:MsgSz m) (hl:out.length<=900) {N:Nat} (hN:r.nodes=(N:Int)) (hN7:N<=7) {k:KT Prop} {w:WK k}
 (hk:∀mu' n' o' xo',SW lo fz s o' mu' n' r (out++allM r m N) vd xe xa xs xd xo'->Kp (· =7) s o o' mu n mu' n'->k noVal mu' n'):CPh P n_Qbq [.one (.optr s 0),.ag (msgC m yb ye)] fz mu n k w:=by
 refine CP_of H.Qbq H.mx 9 ?_;obtain⟨-,-,ybk,ybm⟩:=hm.1.len;obtain⟨-,-,yek,yem⟩:=hm.2.len;have gA:=(Gr.refl (lo:=n) S.free).cons (Nat.le_refl _) (msgC m yb ye);have hsn:s<n:=S.slt;have S1:=S.trim.gr gA;have b1:Ev.look ((n,msgC m yb ye)::mu) n=some (msgC m yb ye):=by rw[Qer,if_pos rfl]
 have hKA:Kp (· =7) s (trim o n) (trim o n) mu n ((n,msgC m yb ye)::mu) (n+1):=Gr.kp gA;have hm1:MsgS (Un s (trim o n) (with' ((n,msgC m yb ye)::mu) fz)) m yb ye:=by
  have u:Sub (Un s o (with' mu fz)) (Un s (trim o n) (with' mu fz)):=λj B hj=>by
   obtain⟨h1,h2,h3⟩:=Un.el hj;exact Un.at (by rw[Qhh (S.free.lt h3)];exact h1) h2 h3
  exact MsgS.mono (u.trans (hKA.un S.free)) hm
 obtain⟨⟨xek,xem⟩,⟨xak,xam⟩,⟨xsk,xsm⟩,⟨xdk,xdm⟩,xok,xom⟩:=S1.ks;obtain⟨m1,hm1e⟩:∃mz:St,((n,msgC m yb ye)::mu)=mz:=⟨_,rfl⟩
 rw[hm1e]at gA S1 b1 hKA hm1;have ws1:=Qem (fz:=fz) S1.cells;have wb1:=Qem (fz:=fz) b1;rw[dY a_Qbq.eq_1 b_Qbq.eq_1];unfold msgC at hm1e wb1⊢;unfold stepC repC at ws1;rw[hN]at ws1;have hkH:=Hide.mk hk;clear hk;simp only[↓E1,E2,seval, *,E3];refine loopI (x:=0) (L:=N) (p:=λ_=>true) (λi e mu' n'=>∃o' xo',SW lo fz s o' mu' n' r (out++allM r m i) vd xe xa xs xd xo'/\Kp (· =7) s (trim o n) o' m1 (n+1) mu' n'/\e 0 0=.one (.optr s 0)/\e 0 3=.one (.optr n 0)/\e 0 9=.one (I (N:Nat))/\e 0 10=.one (.int .i64 i)) (λ_ _ _=>False) ?_ ?_ _ _ _ _ _ (by omega) ?_ ?_ (by rintro⟨_,_,_,h⟩;cases h)
 ·rintro i e mu2 n2 K hi ⟨o2,xo2,S2,K2,e0,e3,e9,e10⟩ hY hn;have hY':=Hide.mk hY;clear hY hn;have hw:=Qev hi (by omega);have hsucc:=Qqr r m i;have hlen:=Qf4 r m i;have hon:trim o n n=0:=Qhr (Nat.le_refl _);have b2:=(K2.keep n (by omega) (by omega) (by rw[hon];omega)).trans b1;have ws2:=Qem (fz:=fz) S2.cells;have wb2:=Qem (fz:=fz) b2;have hiN:(i<N)=True:=by simp;exact hi
  obtain⟨⟨xek,xem⟩,⟨xak,xam⟩,⟨xsk,xsm⟩,⟨xdk,xdm⟩,xok,xom⟩:=S2.ks;unfold msgC at wb2;unfold stepC repC at ws2;clear ws1 wb1;rw[dX l_Qbq_0.eq_1];simp only[↓E1,E2,seval, *,E3];refine Qeo (λhb=>?_) (λhb=>?_)
  ·have hb':(i:Int)=r.me:=of_decide_eq_true hb;rw[if_pos hb']at hsucc;clear hb';rw[<-hsucc]at S2;simp only[↓E1,E2,seval, *,E3];refine hY'.out rfl _ _ _ ⟨o2,xo2,S2,K2,?_,?_,?_,?_⟩;all_goals simp[updN,updE, *]
  ·have hb':¬(i:Int)=r.me:=of_decide_eq_false hb;rw[if_neg hb']at hsucc;clear hb';have hSend:=λ(k:KT Prop) (w:WK k)=>Qgc H S2 (i:Nat) m yb ye (MsgS.mono (K2.un gA.free |>.trans Un.sub) hm1) hz (by rw[List.length_append];omega) (k:=k) (w:=w);unfold msgC at hSend;simp only[↓E1,E2,seval, *,E3];refine hSend _ _ λm5 n5 o5 xo5 S5 K5=>?_;rw[List.append_assoc,<-hsucc]at S5;simp only[↓E1,E2,seval, *,E3];refine hY'.out rfl _ _ _ ⟨o5,xo5,S5,K2.trans K5,?_,?_,?_,?_⟩;all_goals simp[updN,updE, *]
 ·rintro e mu2 n2 K ⟨o2,xo2,S2,K2,e0,e3,e9,e10⟩ hx;have hx':=Hide.mk hx;clear hx;have hlt:((N:Int)<N)=False:=by simp
  have hlt2:(N<N)=False:=by simp
  rw[dX l_Qbq_0.eq_1];simp only[↓E1,E2,seval, *];refine hx'.out _ _ _ ⟨o2,xo2,S2,K2,?_,?_,?_,?_⟩;all_goals simp[updN,updE, *]
 ·refine⟨trim o n,xo,by simpa[allM]using S1,Kp.refl,?_,?_,?_,?_⟩;all_goals simp[updN,updE,envI]
 ·rintro -e mu2 n2 ⟨o2,xo2,S2,K2,e0,e3,e9,e10⟩;simp only[↓E1,E2,seval];exact hkH.out _ _ _ _ S2 (hKA.trans K2).trim
end
section
variable {lo:Nat} {fz:Fz} {s:Nat} {o:Nat->Nat} {mu:St} {n:Nat} {r:Rep} {out:List Msg} {vd:Bool} {xe xa xs xd xo:SV}
theorem SW.putT (h:SW lo fz s o mu n r out vd xe xa xs xd xo) {r':Rep} {xe' xa' xs' xd':SV} {vd':Bool} (hT:RepT o (with' mu fz) r' xe' xa' xs' xd'):SW lo fz s o (putS mu s (stepC r' xe' xa' xs' xd' xo vd')) n r' out vd' xe' xa' xs' xd' xo:=by
 have u:∀t,t≠9->Sub (Tag o t (with' mu fz)) (Tag o t (with' (putS mu s (stepC r' xe' xa' xs' xd' xo vd')) fz)):=λt ht=>Tag.put (lookI h.cells) (by rw[h.os];omega);have g:=(Gr.refl (lo:=lo) h.free).put h.los h.cells (c:=stepC r' xe' xa' xs' xd' xo vd');exact⟨by rw[Qen,if_pos rfl,h.cells];rfl,hT.keep (λt _ _=>u t (by omega)),h.ot.keep (u 2 (by omega)) (u 7 (by omega)) (u 8 (by omega)),g.free,h.los,h.os,h.zero,h.fzl⟩
theorem SW.kput {T:Nat->Prop} (h:SW lo fz s o mu n r out vd xe xa xs xd xo) {c:List SV}:Kp T s o o mu n (putS mu s c) n:=⟨Nat.le_refl _,λ_ _=>rfl,λj _ hj _=>by rw[Qen,if_neg (by omega)]⟩
theorem SW.grT (h:SW lo fz s o mu n r out vd xe xa xs xd xo) {mu':St} {n':Nat} (τ:Nat->Nat) (g:Gr n fz mu mu' n n'):SW lo fz s (tagN o n τ) mu' n' r out vd xe xa xs xd xo:=by
 have u:∀t,Sub (Tag o t (with' mu fz)) (Tag (tagN o n τ) t (with' mu' fz)):=λt=>Tag.old h.free (g.sub h.free (Nat.le_refl _));exact⟨(g.own s h.slt).trans h.cells,h.rt.keep λt _ _=>u t,h.ot.keep (u 2) (u 7) (u 8),g.free,h.los,by rw[Qfm h.slt];exact h.os,λj hj=>by rw[Qfm (Nat.lt_of_lt_of_le hj h.lon)];exact h.zero j hj,h.fzl⟩
theorem SW.kgrT {T:Nat->Prop} (h:SW lo fz s o mu n r out vd xe xa xs xd xo) {mu':St} {n':Nat} (τ:Nat->Nat) (g:Gr n fz mu mu' n n'):Kp T s o (tagN o n τ) mu n mu' n':=⟨g.le,λj hj=>Qfm hj,λj hj _ _=>g.own j hj⟩
theorem RepT.nil2 {M:Fz} (h:RepT o M r xe xa xs xd) {r':Rep} {xa':SV} (he:r'.log.ents=r.log.ents) (ha:IntsX (Tag o 3 M) xa' r'.acks) (hs:r'.starts=[]) (hd:r'.dos=[]):RepT o M r' xe xa' .nsl .nsl:=by
 obtain⟨⟨cs,h1,h2⟩,h3,h4,ds,h5,h6⟩:=h;exact⟨⟨cs,h1,by rw[he];exact h2⟩,ha,by rw[hs];exact .inl ⟨.inl rfl,rfl⟩,[],.inl ⟨.inl rfl,rfl⟩,by rw[hd];trivial⟩
end
def anewR (r:Rep) (N:Nat):Rep:={r with sent:=false,starts:=[],dos:=[],acks:=List.replicate N 0}
def Qg3 (v:Int):Msg:=⟨7,0,0,v,0,0,0,0,0,0,0,0,0,0,tx0,[],⟨0,tx0,[]⟩,tx0⟩
def Qfg (r:Rep) (v:Int) (N:Nat):Rep:=anewR {r with view:=v,status:=1} N
theorem Ql4 (v:Int):MsgSz (Qg3 v):=⟨by simp[Qg3],⟨by simp[Qg3],by simp[Qg3]⟩⟩
section
variable {P:Program} (H:Fs P)
include H
theorem Qkt {lo:Nat} {fz:Fz} {s:Nat} {o:Nat->Nat} {mu:St} {n:Nat} {r:Rep} {out:List Msg} {vd:Bool} {xe xa xs xd xo:SV} (S:SW lo fz s o mu n r out vd xe xa xs xd xo)
 {N:Nat} (hN:r.nodes=(N:Int)) (hN7:N<=7) {k:KT Prop} {w:WK k}
 (hk:∀mu' n' o' xa',SW lo fz s o' mu' n' (anewR r N) out vd xe xa' .nsl .nsl xo->Kp (λ_=>False) s o o' mu n mu' n'->k noVal mu' n'):CPh P n_Qbh [.one (.optr s 0)] fz mu n k w:=by
 refine CP_of H.Qbh H.mx 0 ?_;have hsn:s<n:=S.slt;obtain⟨⟨xek,xem⟩,⟨xak,xam⟩,⟨xsk,xsm⟩,⟨xdk,xdm⟩,xok,xom⟩:=S.ks;have hc:=S.cells;have ws:=Qem (fz:=fz) hc
 -- the first stores
 obtain⟨r1,hr1⟩:∃r1,{r with sent:=false,starts:=[],dos:=[]}=r1:=⟨_,rfl⟩
 have hT1:RepT o (with' mu fz) r1 xe xa .nsl .nsl:=S.rt.nil2 (by rw[<-hr1]) (by rw[<-hr1];exact S.rt.acks) (by rw[<-hr1]) (by rw[<-hr1]);have S1:=S.putT (vd':=vd) hT1;have K1:Kp (λ_=>False) s o o mu n _ n:=S.kput (c:=stepC r1 xe xa .nsl .nsl xo vd);have hc1:=S1.cells;have hput:stepC r1 xe xa .nsl .nsl xo vd=[I r.me,I r.nodes,I r.view,I r.normal,I r.status,I r.commit,.bool false,I r.log.base,r.log.snap.sv,xe,xa,.nsl,.nsl,xo,.bool vd]:=by rw[<-hr1];rfl
 rw[hput]at S1 K1 hc1
 -- the row of acks
 have g2:Gr n fz (putS mu s [I r.me,I r.nodes,I r.view,I r.normal,I r.status,I r.commit,.bool false,I r.log.base,r.log.snap.sv,xe,xa,.nsl,.nsl,xo,.bool vd]) ((n,rep [I 0] N)::putS mu s [I r.me,I r.nodes,I r.view,I r.normal,I r.status,I r.commit,.bool false,I r.log.base,r.log.snap.sv,xe,xa,.nsl,.nsl,xo,.bool vd]) n (n+1):=(Gr.refl S1.free).cons (Nat.le_refl _) _;have S2:=S1.grT (λ_=>3) g2;have K2:Kp (λ_=>False) s o _ _ n _ (n+1):=S1.kgrT (λ_=>3) g2;have hT3:RepT (tagN o n λ_=>3) (with' ((n,rep [I 0] N)::putS mu s [I r.me,I r.nodes,I r.view,I r.normal,I r.status,I r.commit,.bool false,I r.log.base,r.log.snap.sv,xe,xa,.nsl,.nsl,xo,.bool vd]) fz) (anewR r N) xe (.osl n 0 N N 1) .nsl .nsl:=by
  refine S2.rt.nil2 (by rw[<-hr1];rfl) ?_ rfl rfl;refine .inr ⟨n,by simp[anewR],Tag.at (by rw[Qgn (Nat.le_refl _)]) (by rw[Qfl,if_pos rfl,Qs6];rfl),?_,Qjg⟩;exact Qfu (Qe3 Qjg)
 have S3:=S2.putT (vd':=vd) hT3;have K3:Kp (λ_=>False) s _ _ _ (n+1) _ (n+1):=S2.kput (c:=stepC (anewR r N) xe (.osl n 0 N N 1) .nsl .nsl xo vd);have hk3:=hk _ _ _ _ S3 ((K1.trans K2).trans K3);have hw1:=Qem (fz:=fz) hc1;have hne:(n=s)=False:=by simp;omega
 have hfits:fits N 8=true:=Qfc (by omega) (by decide) (by decide);have hNN:(N<N)=False:=by simp
 have hcell3:stepC (anewR r N) xe (.osl n 0 N N 1) .nsl .nsl xo vd=[I r.me,I r.nodes,I r.view,I r.normal,I r.status,I r.commit,.bool false,I r.log.base,r.log.snap.sv,xe,.osl n 0 N N 1,.nsl,.nsl,xo,.bool vd]:=rfl;rw[hcell3]at hk3;clear hk S S1 S2 S3 K1 K2 K3 hT1 hT3 hcell3 hput g2;rw[dY a_Qbh.eq_1 b_Qbh.eq_1];unfold stepC repC at hc ws;rw[hN]at*
 simp only[↓E1,E2,seval, *,E3];rw[Qlk,if_neg (by omega),Qkq]at hk3;exact hk3
theorem Qt5 {s:Nat} {r:Rep} {xe xa xs xd xo:SV} {vd:Bool}:Ctr P n_Qa4 [.one (.optr s 0)] (λM=>M s=some (stepC r xe xa xs xd xo vd)) (λ_ _ _ v=>v=.ag (msgC ⟨7,0,0,r.view,0,0,0,0,0,0,0,0,0,0,tx0,[],⟨0,tx0,[]⟩,tx0⟩ .nsl .nsl)):=Ctr.of H.mx H.Qa4 (λ_=>0) λfz mu n k hfr b1 hk=>by
 have hs:=hfr.lt b1;have hne:(n=s)=False:=by simp;omega
 have g1:=(Gr.refl (lo:=n) hfr).cons (Nat.le_refl _) (msgC ⟨7,0,0,r.view,0,0,0,0,0,0,0,0,0,0,tx0,[],⟨0,tx0,[]⟩,tx0⟩ .nsl .nsl);have hk1:=hk _ _ _ g1 rfl;clear hk;unfold stepC repC at b1;rw[dY a_Qa4.eq_1 b_Qa4.eq_1];simp only[↓E1,E2,seval, *,E3];exact hk1
theorem Qnu {lo:Nat} {fz:Fz} {s:Nat} {o:Nat->Nat} {mu:St} {n:Nat} {r:Rep} {out:List Msg} {vd:Bool} {xe xa xs xd xo:SV} (S:SW lo fz s o mu n r out vd xe xa xs xd xo) (v:Int)
 {N:Nat} (hN:r.nodes=(N:Int)) (hN7:N<=7) (hl:out.length<=900) {k:KT Prop} {w:WK k}
 (hk:∀mu' n' o' xa' xo',SW lo fz s o' mu' n' (Qfg r v N) (out++allM r (Qg3 v) N) vd xe xa' .nsl .nsl xo'->Kp (· =7) s o o' mu n mu' n'->k noVal mu' n'):CPh P n_Qa3 [.one (.optr s 0),.one (I v)] fz mu n k w:=by
 refine CP_of H.Qa3 H.mx 0 ?_;obtain⟨⟨xek,xem⟩,⟨xak,xam⟩,⟨xsk,xsm⟩,⟨xdk,xdm⟩,xok,xom⟩:=S.ks;have hc:=S.cells;have ws:=Qem (fz:=fz) hc;have S1:=S.put (r':={r with view:=v,status:=1}) (vd':=vd) rfl rfl rfl rfl;have K1:Kp (λ_=>False) s o o mu n _ n:=S.kput (c:=stepC {r with view:=v,status:=1} xe xa xs xd xo vd);have hkH:=Hide.mk hk;have hN':=Hide.mk hN;clear hk hN;rw[dY a_Qa3.eq_1 b_Qa3.eq_1];unfold stepC repC at hc ws S1 K1;simp only[↓E1,E2,seval, *,E3];refine Qkt H S1 hN'.out hN7 λm2 n2 o2 xa2 S2 K2=>?_;simp only[↓E1,E2,seval, *,E3];refine(Qt5 H (s:=s)).q0 S2.free (Qem S2.cells) ?_;rintro _ n3 l3 rfl;simp only[↓E1,E2,seval, *,E3];have hAll:=λ(k:KT Prop) (w:WK k)=>Qsw H (S2.le l3) (Qg3 v) .nsl .nsl ⟨nilP _,nilE _⟩ (Ql4 v) hl (N:=N) hN'.out hN7 (k:=k) (w:=w);refine hAll _ _ λm4 n4 o4 xo4 S4 K4=>?_;simp only[↓E1,E2,seval, *,E3];have K24:Kp (· =7) s o2 o4 m2 n2 m4 n4:=⟨Nat.le_trans l3 K4.le,λj hj=>K4.tags j (by omega),λj hj h1 h2=>K4.keep j (by omega) h1 h2⟩
 exact hkH.out _ _ _ _ _ S4 (((K1.trans K2).weaken (λt h=>h.elim)).trans K24)
theorem Qhc (l:Lg) (x:SV) (hL:l.ents.length<=2513169434916) (hb:∀e∈l.ents,e.batch.length<=4398046511104):Ctr P n_Qdh [.ag (lgC l x)] (λM=>EntsR M x l.ents) (λn _ M v=>∃x',v=.ag (lgC l x')/\Grow n M 5 EntX x' l.ents):=Ctr.of H.mx H.Qdh (λ_=>l.ents.length+1) λfz mu n k hfr s1 hk=>by
 obtain⟨xl,xs,xk,xm⟩:=s1.len;rw[dY a_Qdh.eq_1 b_Qdh.eq_1];unfold lgC;simp only[↓E1,E2,seval, *,E3];refine loopI (x:=0) (L:=l.ents.length) (p:=λ_=>true) (λi e mu' n'=>∃xe,Gr n fz mu mu' n n'/\n+3<=n'/\Ev.look mu' n=some [I l.base,l.snap.sv,x]/\Ev.look mu' (n+1)=some [I 0,.str 0 0,.nsl]/\Ev.look mu' (n+1+1)=some [I l.base,l.snap.sv,xe]/\Grow (n+3) (with' mu' fz) 5 EntX xe (l.ents.take i)/\e 0 1=.one (.optr n 0)/\e 0 2=.one (.optr (n+1) 0)/\e 0 3=.one (.optr (n+1+1) 0)/\e 0 4=.one (.int .i64 i)) (λ_ _ _=>False) ?_ ?_ _ _ _ _ _ (by omega) ?_ ?_ ?_
 ·rintro i e mu1 n1 K hi ⟨xe,g1,h3,c0,c1,c2,G,e1,e2,e3,e4⟩ hy hn;have hY:=Hide.mk hy;clear hy hn;have hw:=Qev hi (by omega);have u1:=g1.sub hfr (Nat.le_refl _);obtain⟨id,off,cap,B,b,rfl,p1,p2,p3,p4,p5⟩:=(EntsR.mono u1 s1).elem hi;obtain⟨bl,bs,bk,bm⟩:=p5.len;unfold entC at p4;have w0:=Qem (fz:=fz) c0;have w2:=Qem (fz:=fz) c2;have hne:(n1=n)=False:=by simp;omega
  have hne2:(n1=n+1+1)=False:=by simp;omega
  have hne3:(n1+1=n1)=False:=by simp
  have hmem:l.ents[i]∈l.ents:=List.getElem_mem hi;rw[dX l_Qdh_0.eq_1];simp only[↓E1,E2,seval, *,E3];have gE:=(Gr.refl (lo:=n1) g1.free).cons (Nat.le_refl _) [I l.ents[i].view,I l.ents[i].client,I l.ents[i].session,I l.ents[i].number,b];have uE:=gE.sub g1.free (Nat.le_refl _);have q5:=PtsR.mono uE p5;obtain⟨h1,h2⟩:=Qg9 (Sl.mono q5 (sub1 gE.free (c:=[])));rw[h1];clear h1;refine⟨h2,Qha gE.free (Qfc (by rw[List.length_map];have:=hb _ hmem;omega) (by decide) (by decide)) pt_ok (λx' mu2 n2 g2 hx=>?_)⟩;obtain⟨xl2,xs2,xk2,xm2⟩:=SlX.len hx;have l2:=g2.le;have gF:=gE.trans (g2.weaken (by omega));have d1:Ev.look mu2 n1=some [I l.ents[i].view,I l.ents[i].client,I l.ents[i].session,I l.ents[i].number,b]:=(g2.own n1 (by omega)).trans (by rw[Qer,if_pos rfl]);have d2:=(gF.own (n+1+1) (by omega)).trans c2;have d0:=(gF.own n (by omega)).trans c0;have wd1:=Qem (fz:=fz) d1;have wd2:=Qem (fz:=fz) d2;obtain⟨-,-,xek,xem⟩:=G.len;clear w0 w2;simp only[↓E1,E2,seval, *,E3];have gP:=gF.put (id:=n1) (Nat.le_refl _) d1 (c:=[I l.ents[i].view,I l.ents[i].client,I l.ents[i].session,I l.ents[i].number,x']);have gG:=gP.cons (by omega) [I l.ents[i].view,I l.ents[i].client,I l.ents[i].session,I l.ents[i].number,x'];have uG:Sub (From (n1+1) (with' mu2 fz)) (From n1 (with' ((n2,[I l.ents[i].view,I l.ents[i].client,I l.ents[i].session,I l.ents[i].number,x'])::putS mu2 n1 [I l.ents[i].view,I l.ents[i].client,I l.ents[i].session,I l.ents[i].number,x']) fz)):=λj B hj=>by
   obtain⟨h4,h5⟩:=From.el hj;have h6:=g2.free.lt h5;exact From.at (by omega) (by rw[Qfl,if_neg (by omega),Qet d1,if_neg (by omega)];exact h5)
  refine Grow.more (R:=EntX) (λh g=>EntX.mono h g) (a:=l.ents[i]) G g1.free h3 (λj hj=>hfr.fz j (by omega)) gG ⟨x',rfl,PtsX.mono uG hx⟩ ⟨rfl,by simp only[↓E1,E2,seval, *]⟩ (Qfc (by rw[List.length_take];omega) (by decide) (by decide)) (λmu3 g3 G3=>?_);have f2:=(g3.own (n+1+1) (by omega)).trans c2;have f1:=(g3.own (n+1) (by omega)).trans c1;have f0:=(g3.own n (by omega)).trans c0;clear wd1 wd2 hx q5 p1;simp only[↓E1,E2,seval, *,E3];refine hY.out rfl _ _ _ ⟨_,(g1.trans (g3.weaken (by omega))).put (by omega) f2,by omega,by rw[Qen,if_neg (by omega)];exact f0,by rw[Qen,if_neg (by omega)];exact f1,by rw[Qen,if_pos rfl,f2];rfl,Grow.mono (R:=EntX) (λh g=>EntX.mono h g) ?_ (From.put (by omega) f2),?_,?_,?_,?_⟩
  ·rw[List.take_succ_eq_append_getElem hi];exact G3
  all_goals simp[updN,updE, *]
 ·rintro e mu1 n1 K ⟨xe,g1,h3,c0,c1,c2,G,e1,e2,e3,e4⟩ hx;have hX:=Hide.mk hx;clear hx;have w0:=Qem (fz:=fz) c0;have hlt:((l.ents.length:Int)<l.ents.length)=False:=by simp
  have hlt2:(l.ents.length<l.ents.length)=False:=by simp
  rw[dX l_Qdh_0.eq_1];simp only[↓E1,E2,seval, *];exact hX.out _ _ _ ⟨xe,g1,h3,c0,c1,c2,G,by simp[updN,updE,e1],by simp[updN,updE,e2],by simp[updN,updE,e3],by simp[updN,updE,e4]⟩
 ·exact⟨.nsl,gr3 hfr,by omega,by rw[Qer,if_neg (by omega),Qer,if_neg (by omega),Qer,if_pos rfl],by simp[Qer],by simp[Qer],Grow.nil,by simp[updN,updE],by simp[updN,updE],by simp[updN,updE],by simp[updN,updE]⟩
 ·rintro -e1 mu1 n1 ⟨xe,g1,h3,c0,c1,c2,G,e1,e2,e3,e4⟩;have b2:=Qem (fz:=fz) c2;obtain⟨-,-,zk,zm⟩:=G.len;rw[List.take_length]at G;have g2:=g1.put (id:=n+1) (by omega) c1 (c:=[I l.base,l.snap.sv,xe]);have hk2:=hk _ _ _ g2 ⟨xe,rfl,Grow.weaken (R:=EntX) (lo:=n+3) (lo':=n) (λh g=>EntX.mono h g) (by omega) (Grow.mono (R:=EntX) (λh g=>EntX.mono h g) G (From.put (by omega) c1))⟩;unfold lgC at hk2;clear hk;have hne:(n+1=n+1+1)=False:=by simp
  simp only[↓E1,E2,seval, *,E3]
 ·rintro⟨_,_,_,h⟩;cases h
theorem ref4_CopyLog (l:Lg) (x:SV) (hL:l.ents.length<=2513169434916) (hb:∀e∈l.ents,e.batch.length<=4398046511104):Ctr P n_Qdh [.ag (lgC l x)] (λM=>EntsR M x l.ents) (λn _ M v=>∃x',v=.ag (lgC l x')/\EntsX (From n M) x' l.ents):=
 (Qhc H l x hL hb).mono λ_ _ _ _ ⟨x',h1,h2⟩=>⟨x',h1,Ql0 h2⟩
end
def tx00:Tx:=⟨0,0,by decide⟩
def dv0:Dv:=⟨0,0,0,⟨0,tx00,[]⟩⟩
def Qh2 (a b:Dv):Bool:=if a.normal=b.normal then(if last a.log=last b.log then decide (a.frm<b.frm)else decide (last b.log<last a.log))else decide (b.normal<a.normal)
def Qf9 (l:List Dv):Nat->Nat
 |0=>0
 |i+1=>if Qh2 (l.getD i dv0) (l.getD (Qf9 l i) dv0)then i else Qf9 l i
theorem Qt3 (l:List Dv):Qf9 l 1=0:=by simp[Qf9]
theorem Qk0 {l:List Dv} (h:0<l.length):∀{i:Nat},i<=l.length->Qf9 l i<l.length
 |0,_=>h
 |i+1,hi=>by
  unfold Qf9;split
  ·omega
  ·exact Qk0 h (by omega)
section
variable {P:Program} (H:Fs P)
include H
theorem choose_Better (a b:Dv) (x y:SV):BoolC P n_Qc9 [.ag (dvC a x),.ag (dvC b y)] (λM=>EntsR M x a.log.ents/\EntsR M y b.log.ents) (Qh2 a b):=boolC H.mx H.Qc9 0 λfz mu n k hfr gg s h=>by
 obtain⟨s1,s2⟩:=s;obtain⟨-,-,xk,xm⟩:=s1.len;obtain⟨-,-,yk,ym⟩:=s2.len;have hL1:=choose_Last H a.log x;have hL2:=choose_Last H b.log y;obtain⟨bb,hbb⟩:∃bb,Qh2 a b=bb:=⟨_,rfl⟩
 rw[hbb]at h;unfold Qh2 at hbb;unfold lgC at hL1 hL2;rw[dY a_Qc9.eq_1 b_Qc9.eq_1];unfold dvC;have hH:=Hide.mk h;clear h;have g1:=((Gr.refl (lo:=n) hfr).cons (Nat.le_refl _) [I a.frm,I a.normal,I a.commit,I a.log.base,a.log.snap.sv,x]).cons (by omega) [I b.frm,I b.normal,I b.commit,I b.log.base,b.log.snap.sv,y];have u1:=g1.sub hfr (Nat.le_refl _);have hbH:=Hide.mk hbb;clear hbb;simp only[↓E1,E2,seval, *];refine hL1.q1 g1.free (EntsR.mono u1 s1) ?_;rintro v n2 l2 rfl;simp only[↓E1,E2,seval, *];refine hL2.q1 (g1.free.le l2) (EntsR.mono u1 s2) ?_;rintro v n3 l3 rfl;have g3:=(g1.le2 l2).le2 l3;simp only[↓E1,E2,seval, *];refine Qeo (λhb=>?_) (λhb=>?_)
 ·have h1:=hbH.out;rw[if_pos (by simpa using hb)]at h1;have h1H:=Hide.mk h1;clear h1;clear hb;simp only[↓E1,E2,seval, *];refine Qeo (λhb=>?_) (λhb=>?_)
  ·have h2:=h1H.out;rw[if_pos (by simpa using hb)]at h2;simp only[↓E1,E2,seval, *];exact leafB hH.out g3 (by first|exact h2|rfl)
  ·have h2:=h1H.out;rw[if_neg (by simpa using hb)]at h2;simp only[↓E1,E2,seval, *];exact leafB hH.out g3 (by first|exact h2|rfl)
 ·have h2:=hbH.out;rw[if_neg (by simpa using hb)]at h2;simp only[↓E1,E2,seval, *];exact leafB hH.out g3 (by first|exact h2|rfl)
theorem ref16_Better (a b:Dv) (x y:SV):BoolC P n_Qdk [.ag (dvC a x),.ag (dvC b y)] (λM=>EntsR M x a.log.ents/\EntsR M y b.log.ents) (Qh2 a b):=boolC H.mx H.Qdk 0 λfz mu n k hfr gg s h=>by
 obtain⟨s1,s2⟩:=s;obtain⟨-,-,xk,xm⟩:=s1.len;obtain⟨-,-,yk,ym⟩:=s2.len;have hL1:=ref16_Last H a.log x;have hL2:=ref16_Last H b.log y;obtain⟨bb,hbb⟩:∃bb,Qh2 a b=bb:=⟨_,rfl⟩
 rw[hbb]at h;unfold Qh2 at hbb;unfold lgC at hL1 hL2;rw[dY a_Qdk.eq_1 b_Qdk.eq_1];unfold dvC;have hH:=Hide.mk h;have hbH:=Hide.mk hbb;clear h hbb;have g1:=((Gr.refl (lo:=n) hfr).cons (Nat.le_refl _) [I a.frm,I a.normal,I a.commit,I a.log.base,a.log.snap.sv,x]).cons (by omega) [I b.frm,I b.normal,I b.commit,I b.log.base,b.log.snap.sv,y];have u1:=g1.sub hfr (Nat.le_refl _);simp only[↓E1,E2,seval, *];refine Qeo (λhb=>?_) (λhb=>?_)
 ·have h1:=hbH.out;rw[if_pos (by simpa using hb)]at h1;have h1H:=Hide.mk h1;clear h1;simp only[↓E1,E2,seval,hb];refine hL1.q1 g1.free (EntsR.mono u1 s1) ?_;rintro v n2 l2 rfl;simp only[↓E1,E2,seval, *];refine hL2.q1 (g1.free.le l2) (EntsR.mono u1 s2) ?_;rintro v n3 l3 rfl;have g3:=(g1.le2 l2).le2 l3;simp only[↓E1,E2,seval, *];clear hb;refine Qeo (λhb=>?_) (λhb=>?_)
  ·have h2:=h1H.out;rw[if_pos (by simpa using hb)]at h2;simp only[↓E1,E2,seval, *];exact leafB hH.out g3 (by first|exact h2|rfl)
  ·have h2:=h1H.out;rw[if_neg (by simpa using hb)]at h2;have h2H:=Hide.mk h2;clear h2;simp only[↓E1,E2,seval, *];refine hL1.q1 g3.free (EntsR.mono u1 s1) ?_;rintro v n4 l4 rfl;simp only[↓E1,E2,seval, *];refine hL2.q1 (g3.free.le l4) (EntsR.mono u1 s2) ?_;rintro v n5 l5 rfl;have g5:=(g3.le2 l4).le2 l5;simp only[↓E1,E2,seval, *];exact leafB hH.out g5 (by first|exact h2H.out|rfl)
 ·have h2:=hbH.out;rw[if_neg (by simpa using hb)]at h2;simp only[↓E1,E2,seval, *];exact leafB hH.out g1 (by first|exact h2|rfl)
theorem choose_Best (x:SV) (l:List Dv) (hl:l.length<=4611686018427387904) (h0:0<l.length):Ctr P n_Qdv [.one x] (λM=>DvsR M x l) (λ_ _ _ v=>v=.tp [.one (I (Qf9 l l.length:Nat)),.one (I 0)]):=Ctr.of H.mx H.Qdv (λ_=>l.length+1) λfz mu n k hfr s1 hk=>by
 obtain⟨xl,xs,xk,xm⟩:=s1.len;have hne:((l.length:Int)=0)=False:=by simp only[eq_iff_iff,iff_false];omega
 rw[dY a_Qdv.eq_1 b_Qdv.eq_1];have hkH:=Hide.mk hk;clear hk;simp only[↓E1,E2,seval, *];refine loopI (x:=0) (L:=l.length) (p:=λ_=>true) (λi e mu' n'=>mu'=mu/\n<=n'/\e 0 0=.one x/\e 0 4=.one (I (Qf9 l i:Nat))/\e 0 10=.one (I (l.length:Nat))/\e 0 11=.one (I (i:Nat))) (λ_ _ _=>False) ?_ ?_ _ _ _ _ _ (by omega) ?_ ?_ (by rintro⟨_,_,_,h⟩;cases h)
 ·rintro i e mu1 n1 K hi ⟨rfl,l1,e0,e4,e10,e11⟩ hy hn;have hY:=Hide.mk hy;clear hy hn;have hw:=Qev hi hl;obtain⟨bi,hbi⟩:∃bi,Qf9 l i=bi:=⟨_,rfl⟩
  have hbl:bi<l.length:=by rw[<-hbi];exact Qk0 h0 (Nat.le_of_lt hi)
  have hsucc:Qf9 l (i+1)=if Qh2 l[i] l[bi]then i else bi:=by
   rw[Qf9,hbi,List.getD_eq_getElem?_getD,List.getElem?_eq_getElem hi,List.getD_eq_getElem?_getD,List.getElem?_eq_getElem hbl];rfl
  rw[hbi]at e4;clear hbi;obtain⟨id,off,cap,B,y,rfl,p1,p2,p3,p4,p5⟩:=s1.elem hi;obtain⟨id',off',cap',B',y',q0,q1,q2,q3,q4,q5⟩:=s1.elem hbl;cases q0;obtain rfl:B=B':=by rw[p1]at q1;cases q1;rfl
  clear q1 q2;have hBt:=choose_Better H l[i] l[bi] y y';obtain⟨-,-,yk,ym⟩:=p5.len;obtain⟨-,-,yk',ym'⟩:=q5.len;unfold dvC at hBt p4 q4;have hc1:(bi:Int)<(l.length:Int):=by omega
  rw[dX l_Qdv_0.eq_1];simp only[↓E1,E2,seval, *];refine hBt.q1 (hfr.le l1) ⟨p5,q5⟩ ?_;rintro v n2 l2 rfl;simp only[↓E1,E2,seval, *];refine Qeo (λhb=>?_) (λhb=>?_)
  ·have hb':Qh2 l[i] l[bi]=true:=by simpa using hb
   simp only[↓E1,E2,seval, *];refine hY.out rfl _ _ _ ⟨rfl,by omega,?_,?_,?_,?_⟩;all_goals simp[updN,updE, *]
  ·have hb':Qh2 l[i] l[bi]=false:=by simpa using hb
   simp only[↓E1,E2,seval, *];refine hY.out rfl _ _ _ ⟨rfl,by omega,?_,?_,?_,?_⟩;all_goals simp[updN,updE, *]
 ·rintro e mu1 n1 K ⟨rfl,l1,e0,e4,e10,e11⟩ hx;have hX:=Hide.mk hx;clear hx;have hlt:((l.length:Int)<l.length)=False:=by simp
  have hlt2:(l.length<l.length)=False:=by simp
  rw[dX l_Qdv_0.eq_1];simp only[↓E1,E2,seval, *];refine hX.out _ _ _ ⟨rfl,l1,?_,?_,?_,?_⟩;all_goals simp[updN,updE, *]
 ·refine⟨rfl,Nat.le_refl _,?_,?_,?_,?_⟩;all_goals simp[updN,updE,envI,Qf9]
 ·rintro -e mu1 n1 ⟨rfl,l1,e0,e4,e10,e11⟩;simp only[↓E1,E2,seval, *];exact hkH.out _ _ _ ((Gr.refl hfr).le2 l1) rfl
theorem ref16_Best (x:SV) (l:List Dv) (hl:l.length<=4611686018427387904) (h0:0<l.length):Ctr P n_Qd6 [.one x] (λM=>DvsR M x l) (λ_ _ _ v=>v=.tp [.one (I (Qf9 l l.length:Nat)),.one (I 0)]):=Ctr.of H.mx H.Qd6 (λ_=>l.length+1) λfz mu n k hfr s1 hk=>by
 obtain⟨xl,xs,xk,xm⟩:=s1.len;have hne:((l.length:Int)=0)=False:=by simp only[eq_iff_iff,iff_false];omega
 rw[dY a_Qd6.eq_1 b_Qd6.eq_1];have hkH:=Hide.mk hk;clear hk;simp only[↓E1,E2,seval, *];obtain⟨L,hL⟩:∃L,l.length=L+1:=⟨l.length-1,by omega⟩
 refine loopI (x:=0) (L:=L) (p:=λ_=>true) (λi e mu' n'=>mu'=mu/\n<=n'/\e 0 0=.one x/\e 0 4=.one (I (Qf9 l (i+1):Nat))/\e 0 5=.one (I ((i+1:Nat):Int))) (λ_ _ _=>False) ?_ ?_ _ _ _ _ _ (by omega) ?_ ?_ (by rintro⟨_,_,_,h⟩;cases h)
 ·rintro i e mu1 n1 K hi ⟨rfl,l1,e0,e4,e5⟩ hy hn;have hY:=Hide.mk hy;clear hy hn;obtain⟨j,hj⟩:∃j,i+1=j:=⟨_,rfl⟩
  rw[hj]at e4 e5;have hi1:j<l.length:=by omega
  have hw:=Qev hi1 hl;obtain⟨bi,hbi⟩:∃bi,Qf9 l j=bi:=⟨_,rfl⟩
  have hbl:bi<l.length:=by rw[<-hbi];exact Qk0 h0 (Nat.le_of_lt hi1)
  have hsucc:Qf9 l (j+1)=if Qh2 l[j] l[bi]then j else bi:=by
   rw[Qf9,hbi,List.getD_eq_getElem?_getD,List.getElem?_eq_getElem hi1,List.getD_eq_getElem?_getD,List.getElem?_eq_getElem hbl];rfl
  rw[hbi]at e4;clear hbi;obtain⟨id,off,cap,B,y,rfl,p1,p2,p3,p4,p5⟩:=s1.elem hi1;obtain⟨id',off',cap',B',y',q0,q1,q2,q3,q4,q5⟩:=s1.elem hbl;cases q0;obtain rfl:B=B':=by rw[p1]at q1;cases q1;rfl
  clear q1 q2;have hBt:=ref16_Better H l[j] l[bi] y y';obtain⟨-,-,yk,ym⟩:=p5.len;obtain⟨-,-,yk',ym'⟩:=q5.len;unfold dvC at hBt p4 q4;have hc0:(j:Int)<(l.length:Int):=by omega
  have hc1:(bi:Int)<(l.length:Int):=by omega
  have hjH:=Hide.mk hj;clear hL hi hj;rw[dX l_Qd6_0.eq_1];simp only[↓E1,E2,seval, *];refine hBt.q1 (hfr.le l1) ⟨p5,q5⟩ ?_;rintro v n2 l2 rfl;simp only[↓E1,E2,seval, *];refine Qeo (λhb=>?_) (λhb=>?_)
  ·simp only[↓E1,E2,seval, *];refine hY.out rfl _ _ _ ⟨rfl,by omega,?_,?_,?_⟩;all_goals (try rw[hjH.out]);simp[updN,updE, *]
  ·simp only[↓E1,E2,seval, *];refine hY.out rfl _ _ _ ⟨rfl,by omega,?_,?_,?_⟩;all_goals (try rw[hjH.out]);simp[updN,updE, *]
 ·rintro e mu1 n1 K ⟨rfl,l1,e0,e4,e5⟩ hx;have hX:=Hide.mk hx;clear hx;rw[<-hL]at e4 e5;have hlt:((l.length:Int)<l.length)=False:=by simp
  have hlt2:(l.length<l.length)=False:=by simp
  rw[dX l_Qd6_0.eq_1];have hL':=Hide.mk hL;clear hL;simp only[↓E1,E2,seval, *];refine hX.out _ _ _ ⟨rfl,l1,?_,?_,?_⟩;all_goals (try rw[<-hL'.out]);simp[updN,updE, *]
 ·refine⟨rfl,Nat.le_refl _,?_,?_,?_⟩;all_goals simp[updN,updE,envI,Qt3]
 ·rintro -e mu1 n1 ⟨rfl,l1,e0,e4,e5⟩;rw[<-hL]at e4;simp only[↓E1,E2,seval, *];rw[<-hL];exact hkH.out _ _ _ ((Gr.refl hfr).le2 l1) rfl
end
theorem Qq0 {s:Nat}:∀{es:List (List SV)} {k:Nat},(∀e∈es,e.length=s)->k<=es.length->(es.drop k).flatten=es.flatten.drop (k*s)
 |es,0,_,_=>by simp
 |[],k+1,_,h=>by simp at h
 |a::es,k+1,he,h=>by
  have ha:=he a (by simp);have:=Qq0 (es:=es) (k:=k) (λe h=>he e (by simp[h])) (by simpa using h);rw[List.drop_succ_cons,this,List.flatten_cons,Nat.succ_mul,Nat.add_comm (k*s) s,<-List.drop_drop,<-ha,List.drop_left]
theorem Sl.from {M:Fz} {s:Nat} {x:SV} {es:List (List SV)} (h:Sl M s x es) {k:Nat} (hk:k<=es.length) (hp:0<k):∃y,Qgl s x (some (.one (.int .i64 (k:Int)))) none none=some y/\Sl M s y (es.drop k):=by
 rcases h with⟨h,rfl⟩|⟨id,off,cap,B,rfl,h2,h3,h4,h5,h6,h7⟩
 ·simp at hk;omega
 ·have hb:bound (some (AV.one (.int .i64 (k:Int)))) 0=some k:=by
   have:¬(k:Int)<0:=by omega
   simp[bound,this]
  have hb2:bound none es.length=some es.length:=rfl;have hle:es.length*s=k*s+(es.length-k)*s:=by rw[<-Nat.add_mul];congr 1;omega
  by_cases hc:k<cap
  ·refine⟨.osl id (off+k*s) (es.length-k) (cap-k) s,?_,.inr ⟨id,off+k*s,cap-k,B,?_,?_,h3,h4,?_,?_,λe he=>h7 e (List.mem_of_mem_drop he)⟩⟩
   ·unfold Qgl;have e1:Nat.beq s s=true:=by simp
    have e2:Nat.ble es.length cap=true:=Nat.ble_eq_true_of_le h2;have e3:Nat.ble k es.length=true:=Nat.ble_eq_true_of_le hk;have e4:Nat.blt k cap=true:=by rw[Nat.blt_eq];exact hc
    simp only[e1,hb,hb2,e2,e3,e4,Bool.not_true,Bool.and_self,Bool.true_or,if_true,if_false,Bool.false_eq_true]
   ·rw[List.length_drop]
   ·rw[List.length_drop];omega
   ·rw[List.length_drop];omega
   ·rw[List.length_drop,Qq0 (λe he=>(h7 e he).1) hk,<-h6,List.drop_take,List.drop_drop,hle];congr 1;omega
  ·have hk2:k=es.length:=by omega
   refine⟨.zsl,?_,.inl ⟨.inr (.inr rfl),by rw[hk2];exact List.drop_length⟩⟩;unfold Qgl;have e1:Nat.beq s s=true:=by simp
   have e2:Nat.ble es.length cap=true:=Nat.ble_eq_true_of_le h2;have e3:Nat.ble k es.length=true:=Nat.ble_eq_true_of_le hk;have e4:Nat.blt k cap=false:=by cases e:Nat.blt k cap with
    |false=>rfl
    |true=>rw[Nat.blt_eq]at e;omega
   have e5:Nat.beq k 0=false:=by cases e:Nat.beq k 0 with
    |false=>rfl
    |true=>have:=Nat.eq_of_beq_eq_true e;omega
   simp only[e1,hb,hb2,e2,e3,e4,e5,Bool.not_true,Bool.and_self,Bool.or_self,Bool.true_or,if_true,if_false,Bool.false_eq_true]
theorem All2.drop {α β:Type} {R:α->β->Prop}:∀{x:List α} {y:List β} {k:Nat},All2 R x y->All2 R (x.drop k) (y.drop k)
 |[],[],k,_=>by simp only[List.drop_nil];exact trivial
 |a::x,b::y,0,h=>h
 |a::x,b::y,k+1,h=>All2.drop (x:=x) (y:=y) (k:=k) h.2
 |[],_::_,_,h=>h.elim
 |_::_,[],_,h=>h.elim
theorem EntsR.from {M:Fz} {x:SV} {l:List Ent} (h:EntsR M x l) {k:Nat} (hk:k<=l.length) (hp:0<k):∃y,Qgl 5 x (some (.one (.int .i64 (k:Int)))) none none=some y/\EntsR M y (l.drop k):=by
 obtain⟨cs,h1,h2⟩:=h;obtain⟨y,h3,h4⟩:=Sl.from h1 (k:=k) (by rw[h2.length];exact hk) hp;exact⟨y,h3,cs.drop k,h4,All2.drop h2⟩
def instL (own got:Lg):Option Lg:=if lgB own&&lgB got&&!decide (last got<own.base)then some (if own.base<=got.base then got else{base:=own.base,snap:=own.snap,ents:=got.ents.drop (own.base-got.base).toNat})else none
theorem Qji {l:Lg} (h:lgB l=true):0<=l.base/\l.base<=2147483647/\l.ents.length<=4096:=by
 unfold lgB countB at h;simp only[Bool.and_eq_true,decide_eq_true_eq]at h;exact⟨h.1.1.1.1.1,h.1.1.1.1.2,h.1.2⟩
theorem Qrv {l:Lg} (h:lgB l=true):last l=l.base+l.ents.length:=by
 obtain⟨h1,h2,h3⟩:=Qji h;unfold last;rw[wrap64 (by omega) (by omega)]
def InstP (own got:Lg) (n:Nat) (M:Fz) (v:AV):Prop:=(∃l x',instL own got=some l/\v=.tp [.ag (lgC l x'),.one (I 0)]/\Grow n M 5 EntX x' l.ents)\/(instL own got=none/\v=.tp [.ag [I 0,.str 0 0,.nsl],.one (I 1601)])
theorem inst_cases (own got:Lg):(lgB own=false/\instL own got=none)\/(lgB own=true/\lgB got=false/\instL own got=none)\/(lgB own=true/\lgB got=true/\decide (last got<own.base)=true/\instL own got=none)\/
 (lgB own=true/\lgB got=true/\decide (last got<own.base)=false/\decide (own.base<=got.base)=true/\instL own got=some got)\/
 (lgB own=true/\lgB got=true/\decide (last got<own.base)=false/\decide (own.base<=got.base)=false/\∃k:Nat,own.base-got.base=(k:Int)/\IntKind.i64.wrap (own.base-got.base)=(k:Int)/\0<k/\k<=got.ents.length/\instL own got=some {base:=own.base,snap:=own.snap,ents:=got.ents.drop k}):=by
 unfold instL;cases h1:lgB own
 ·exact .inl ⟨rfl,by simp⟩
 cases h2:lgB got
 ·exact .inr (.inl ⟨rfl,rfl,by simp⟩)
 cases h3:decide (last got<own.base)
 ·cases h4:decide (own.base<=got.base)
  ·refine .inr (.inr (.inr (.inr ⟨rfl,rfl,rfl,rfl,(own.base-got.base).toNat,?_⟩)));have h5:=of_decide_eq_false h4;have h6:=of_decide_eq_false h3;rw[Qrv h2]at h6;obtain⟨a1,a2,a3⟩:=Qji h1;obtain⟨b1,b2,b3⟩:=Qji h2;refine⟨by omega,by rw[wrap64 (by omega) (by omega)];omega,by omega,by omega,?_⟩;rw[if_pos (by simp),if_neg h5]
  ·refine .inr (.inr (.inr (.inl ⟨rfl,rfl,rfl,rfl,?_⟩)));rw[if_pos (by simp),if_pos (of_decide_eq_true h4)]
 ·exact .inr (.inr (.inl ⟨rfl,rfl,rfl,by simp⟩))
section
variable {P:Program} (H:Fs P)
include H
theorem choose_Install (own got:Lg) (x y:SV) (hz:LgSz got):Ctr P n_Qcs [.ag (lgC own x),.ag (lgC got y)] (λM=>EntsR M x own.ents/\EntsR M y got.ents) (λn _ M v=>InstP own got n M v):=Ctr.of H.mx H.Qcs (λ_=>0) λfz mu n k hfr s hk=>by
 obtain⟨s1,s2⟩:=s;obtain⟨-,-,xk,xm⟩:=s1.len;obtain⟨-,-,yk,ym⟩:=s2.len;have hM1:=message_MayLog H own x;have hM2:=message_MayLog H got y;have hL:=choose_Last H got y;have hkH:=Hide.mk hk;clear hk;have g1:=(((Gr.refl (lo:=n) hfr).cons (Nat.le_refl _) [I own.base,own.snap.sv,x]).cons (by omega) [I got.base,got.snap.sv,y]).cons (by omega) [I 0,.str 0 0,.nsl];have u1:=g1.sub hfr (Nat.le_refl _);have c3:Ev.look ((n+1+1,[I 0,.str 0 0,.nsl])::(n+1,[I got.base,got.snap.sv,y])::(n,[I own.base,own.snap.sv,x])::mu) (n+1+1)=some [I 0,.str 0 0,.nsl]:=by rw[Qer,if_pos rfl]
 unfold lgC at hM1 hM2 hL⊢;rw[dY a_Qcs.eq_1 b_Qcs.eq_1];rcases inst_cases own got with⟨h1,hI⟩|⟨h1,h2,hI⟩|⟨h1,h2,h3,hI⟩|⟨h1,h2,h3,h4,hI⟩|⟨h1,h2,h3,h4,j,hj,hw,hj0,hjl,hI⟩
 ·have hkk:=λn' hn=>hkH.out _ _ n' (g1.le2 hn) (.inr ⟨hI,rfl⟩);clear hI;simp only[↓E1,E2,seval, *];refine hM1.q1 g1.free (EntsR.mono u1 s1) ?_;rintro v n2 l2 rfl;simp only[↓E1,E2,seval, *,E3];all_goals exact hkk _ l2
 ·have hkk:=λn' hn=>hkH.out _ _ n' (g1.le2 hn) (.inr ⟨hI,rfl⟩);clear hI;simp only[↓E1,E2,seval, *];refine hM1.q1 g1.free (EntsR.mono u1 s1) ?_;rintro v n2 l2 rfl;simp only[↓E1,E2,seval, *,E3];refine hM2.q1 (g1.free.le l2) (EntsR.mono u1 s2) ?_;rintro v n3 l3 rfl;simp only[↓E1,E2,seval, *,E3];exact hkk _ (by omega)
 ·have hkk:=λn' hn=>hkH.out _ _ n' (g1.le2 hn) (.inr ⟨hI,rfl⟩);clear hI;simp only[↓E1,E2,seval, *];refine hM1.q1 g1.free (EntsR.mono u1 s1) ?_;rintro v n2 l2 rfl;simp only[↓E1,E2,seval, *,E3];refine hM2.q1 (g1.free.le l2) (EntsR.mono u1 s2) ?_;rintro v n3 l3 rfl;simp only[↓E1,E2,seval, *,E3];refine hL.q1 ((g1.free.le l2).le l3) (EntsR.mono u1 s2) ?_;rintro v n4 l4 rfl;simp only[↓E1,E2,seval, *,E3];exact hkk _ (by omega)
 ·have hC:=Qfz H got y hz.ents hz.bat;unfold lgC at hC;have hIH:=Hide.mk hI;clear hI;simp only[↓E1,E2,seval, *];refine hM1.q1 g1.free (EntsR.mono u1 s1) ?_;rintro v n2 l2 rfl;simp only[↓E1,E2,seval, *,E3];refine hM2.q1 (g1.free.le l2) (EntsR.mono u1 s2) ?_;rintro v n3 l3 rfl;simp only[↓E1,E2,seval, *,E3];refine hL.q1 ((g1.free.le l2).le l3) (EntsR.mono u1 s2) ?_;rintro v n4 l4 rfl;have g4:=g1.le2 (show n+1+1+1<=n4 by omega);simp only[↓E1,E2,seval, *,E3];refine hC.c1 g4.free (EntsR.mono u1 s2) ?_;rintro v m5 n5 g5 ⟨x',rfl,hG⟩;have l5:=g5.le;obtain⟨-,-,zk,zm⟩:=hG.len;have d3:=(g5.own (n+1+1) (by omega)).trans c3;have w3:=Qem (fz:=fz) d3;have gz:=(g4.trans (g5.weaken (by omega))).put (id:=n+1+1) (by omega) d3 (c:=[I got.base,got.snap.sv,x']);have hG2:=Grow.weaken (R:=EntX) (lo':=n) (λh g=>EntX.mono h g) (by omega) (Grow.mono (R:=EntX) (λh g=>EntX.mono h g) hG (From.put (fz:=fz) (d':=[I got.base,got.snap.sv,x']) (show n+1+1<n4 by omega) d3));simp only[↓E1,E2,seval, *,E3];exact hkH.out _ _ _ gz (.inl ⟨_,x',hIH.out,rfl,hG2⟩)
 ·obtain⟨y',hy',sy⟩:=EntsR.from s2 hjl hj0;obtain⟨-,-,yk',ym'⟩:=sy.len;have hC:=Qfz H {base:=own.base,snap:=own.snap,ents:=got.ents.drop j} y' (by have:=hz.ents;simp only[List.length_drop];omega) (λe he=>hz.bat e (List.mem_of_mem_drop he));unfold lgC at hC;simp only at hC;have hIH:=Hide.mk hI;clear hI hj;have hys:=s2.len.2.1;simp only[↓E1,E2,seval, *];refine hM1.q1 g1.free (EntsR.mono u1 s1) ?_;rintro v n2 l2 rfl;simp only[↓E1,E2,seval, *,E3,Option.map_none];refine hM2.q1 (g1.free.le l2) (EntsR.mono u1 s2) ?_;rintro v n3 l3 rfl;simp only[↓E1,E2,seval, *,E3,Option.map_none];refine hL.q1 ((g1.free.le l2).le l3) (EntsR.mono u1 s2) ?_;rintro v n4 l4 rfl;have g4:=g1.le2 (show n+1+1+1<=n4 by omega);simp only[↓E1,E2,seval, *,E3,Option.map_none];refine hC.d2 g4.free (EntsR.mono u1 sy) ?_;rintro v new n5 g5 ⟨x',rfl,hG⟩;have l5:=g5.le;obtain⟨-,-,zk,zm⟩:=hG.len;have d3:=(g5.own (n+1+1) (by omega)).trans c3;have w3:=Qem (fz:=fz) d3;have gz:=(g4.trans (g5.weaken (by omega))).put (id:=n+1+1) (by omega) d3 (c:=[I own.base,own.snap.sv,x']);have hG2:=Grow.weaken (R:=EntX) (lo':=n) (λh g=>EntX.mono h g) (by omega) (Grow.mono (R:=EntX) (λh g=>EntX.mono h g) hG (From.put (fz:=fz) (d':=[I own.base,own.snap.sv,x']) (show n+1+1<n4 by omega) d3));simp only[↓E1,E2,seval, *,E3,Option.map_none];exact hkH.out _ _ _ gz (.inl ⟨_,x',hIH.out,rfl,hG2⟩)
theorem ref16_Install (own got:Lg) (x y:SV) (hz:LgSz got) (hok1:Ok own) (hok2:Ok got):Ctr P n_Qda [.ag (lgC own x),.ag (lgC got y)] (λM=>EntsR M x own.ents/\EntsR M y got.ents) (λn _ M v=>InstP own got n M v):=Ctr.of H.mx H.Qda (λ_=>0) λfz mu n k hfr s hk=>by
 obtain⟨s1,s2⟩:=s;obtain⟨-,-,xk,xm⟩:=s1.len;obtain⟨-,-,yk,ym⟩:=s2.len;have hM1:=ref4_LogMay H own x hok1;have hM2:=ref4_LogMay H got y hok2;have hL:=ref16_Last H got y;have hkH:=Hide.mk hk;clear hk;have g1:=(((Gr.refl (lo:=n) hfr).cons (Nat.le_refl _) [I own.base,own.snap.sv,x]).cons (by omega) [I got.base,got.snap.sv,y]).cons (by omega) [I 0,.str 0 0,.nsl];have u1:=g1.sub hfr (Nat.le_refl _);have c3:Ev.look ((n+1+1,[I 0,.str 0 0,.nsl])::(n+1,[I got.base,got.snap.sv,y])::(n,[I own.base,own.snap.sv,x])::mu) (n+1+1)=some [I 0,.str 0 0,.nsl]:=by rw[Qer,if_pos rfl]
 unfold lgC at hM1 hM2 hL⊢;rw[dY a_Qda.eq_1 b_Qda.eq_1];rcases inst_cases own got with⟨h1,hI⟩|⟨h1,h2,hI⟩|⟨h1,h2,h3,hI⟩|⟨h1,h2,h3,h4,hI⟩|⟨h1,h2,h3,h4,j,hj,hw,hj0,hjl,hI⟩
 ·have hkk:=λn' hn=>hkH.out _ _ n' (g1.le2 hn) (.inr ⟨hI,rfl⟩);clear hI;simp only[↓E1,E2,seval, *];refine hM1.q1 g1.free (EntsR.mono u1 s1) ?_;rintro v n2 l2 rfl;simp only[↓E1,E2,seval, *,E3];all_goals exact hkk _ l2
 ·have hkk:=λn' hn=>hkH.out _ _ n' (g1.le2 hn) (.inr ⟨hI,rfl⟩);clear hI;simp only[↓E1,E2,seval, *];refine hM1.q1 g1.free (EntsR.mono u1 s1) ?_;rintro v n2 l2 rfl;simp only[↓E1,E2,seval, *,E3];refine hM2.q1 (g1.free.le l2) (EntsR.mono u1 s2) ?_;rintro v n3 l3 rfl;simp only[↓E1,E2,seval, *,E3];exact hkk _ (by omega)
 ·have hkk:=λn' hn=>hkH.out _ _ n' (g1.le2 hn) (.inr ⟨hI,rfl⟩);clear hI;simp only[↓E1,E2,seval, *];refine hM1.q1 g1.free (EntsR.mono u1 s1) ?_;rintro v n2 l2 rfl;simp only[↓E1,E2,seval, *,E3];refine hM2.q1 (g1.free.le l2) (EntsR.mono u1 s2) ?_;rintro v n3 l3 rfl;simp only[↓E1,E2,seval, *,E3];refine hL.q1 ((g1.free.le l2).le l3) (EntsR.mono u1 s2) ?_;rintro v n4 l4 rfl;simp only[↓E1,E2,seval, *,E3];exact hkk _ (by omega)
 ·have hC:=Qhc H got y hz.ents hz.bat;unfold lgC at hC;have hIH:=Hide.mk hI;clear hI;simp only[↓E1,E2,seval, *];refine hM1.q1 g1.free (EntsR.mono u1 s1) ?_;rintro v n2 l2 rfl;simp only[↓E1,E2,seval, *,E3];refine hM2.q1 (g1.free.le l2) (EntsR.mono u1 s2) ?_;rintro v n3 l3 rfl;simp only[↓E1,E2,seval, *,E3];refine hL.q1 ((g1.free.le l2).le l3) (EntsR.mono u1 s2) ?_;rintro v n4 l4 rfl;have g4:=g1.le2 (show n+1+1+1<=n4 by omega);simp only[↓E1,E2,seval, *,E3];refine hC.c1 g4.free (EntsR.mono u1 s2) ?_;rintro v m5 n5 g5 ⟨x',rfl,hG⟩;have l5:=g5.le;obtain⟨-,-,zk,zm⟩:=hG.len;have d3:=(g5.own (n+1+1) (by omega)).trans c3;have w3:=Qem (fz:=fz) d3;have gz:=(g4.trans (g5.weaken (by omega))).put (id:=n+1+1) (by omega) d3 (c:=[I got.base,got.snap.sv,x']);have hG2:=Grow.weaken (R:=EntX) (lo':=n) (λh g=>EntX.mono h g) (by omega) (Grow.mono (R:=EntX) (λh g=>EntX.mono h g) hG (From.put (fz:=fz) (d':=[I got.base,got.snap.sv,x']) (show n+1+1<n4 by omega) d3));simp only[↓E1,E2,seval, *,E3];exact hkH.out _ _ _ gz (.inl ⟨_,x',hIH.out,rfl,hG2⟩)
 ·obtain⟨y',hy',sy⟩:=EntsR.from s2 hjl hj0;obtain⟨-,-,yk',ym'⟩:=sy.len;have hC:=Qhc H {base:=own.base,snap:=own.snap,ents:=got.ents.drop j} y' (by have:=hz.ents;simp only[List.length_drop];omega) (λe he=>hz.bat e (List.mem_of_mem_drop he));unfold lgC at hC;simp only at hC;have hIH:=Hide.mk hI;clear hI hj;have hys:=s2.len.2.1;simp only[↓E1,E2,seval, *];refine hM1.q1 g1.free (EntsR.mono u1 s1) ?_;rintro v n2 l2 rfl;simp only[↓E1,E2,seval, *,E3,Option.map_none];refine hM2.q1 (g1.free.le l2) (EntsR.mono u1 s2) ?_;rintro v n3 l3 rfl;simp only[↓E1,E2,seval, *,E3,Option.map_none];refine hL.q1 ((g1.free.le l2).le l3) (EntsR.mono u1 s2) ?_;rintro v n4 l4 rfl;have g4:=g1.le2 (show n+1+1+1<=n4 by omega);simp only[↓E1,E2,seval, *,E3,Option.map_none];refine hC.d2 g4.free (EntsR.mono u1 sy) ?_;rintro v new n5 g5 ⟨x',rfl,hG⟩;have l5:=g5.le;obtain⟨-,-,zk,zm⟩:=hG.len;have d3:=(g5.own (n+1+1) (by omega)).trans c3;have w3:=Qem (fz:=fz) d3;have gz:=(g4.trans (g5.weaken (by omega))).put (id:=n+1+1) (by omega) d3 (c:=[I own.base,own.snap.sv,x']);have hG2:=Grow.weaken (R:=EntX) (lo':=n) (λh g=>EntX.mono h g) (by omega) (Grow.mono (R:=EntX) (λh g=>EntX.mono h g) hG (From.put (fz:=fz) (d':=[I own.base,own.snap.sv,x']) (show n+1+1<n4 by omega) d3));simp only[↓E1,E2,seval, *,E3,Option.map_none];exact hkH.out _ _ _ gz (.inl ⟨_,x',hIH.out,rfl,hG2⟩)
end
end Go.Proofs.YtnnjlnkoomeadaaGreat.Pv
