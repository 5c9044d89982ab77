/-
  ReplicaReceives: part 4 of what the proof is made of.
-/
import Derived.Test.YtnnjlnkoomeadaaGreatReplicaReceivesP3
set_option linter.unusedVariables false
set_option linter.unusedSimpArgs false
noncomputable section
set_option maxRecDepth 1000000
namespace Go.Proofs.YtnnjlnkoomeadaaGreat.Pv
open Go.Ev
abbrev t (q r:Nat):Od:=.t q r
abbrev c (i:Int):Od:=.c (.one (.int .i64 i))
abbrev f (g:Nat):Od:=.c (.one (.fn g []))
abbrev Gd:=Option (Nat×Nat×Bool)
abbrev Wd:=Gd->Nat->Nat->List (List Nat)->(Nat->Nat->List (List Nat)->List AOper)->List AOper
def T (k:Nat):Od:=.t (k/16) (k%16)
def I0:SV:=.int .i64 0
def nS:Od:=.c (.one .nsl)
def fF:Od:=.c (.one (.bool false))
def fT:Od:=.c (.one (.bool true))
def gO:List Wd->Gd->Nat->Nat->List (List Nat)->(Nat->Nat->List (List Nat)->List AOper)->List AOper
 |[],_,k,i,A,c=>c k i A
 |w::l,g,k,i,A,c=>w g k i A λk i A=>gO l g k i A c
def r (k:Nat) (l:List Wd):ACode:=.reg (gO l none k 0 [] λ_ _ _=>[])
def d (k:Nat) (l:List Wd):ACode:=.draw (gO l none k 0 [] λ_ _ _=>[])
def q:List ACode->ACode
 |[]=>.skip
 |[a]=>a
 |a::b::l=>.seq a (q (b::l))
def b (c:Od) (x y:ACode):ACode:=.cond c x y
def y (m:Nat) (o:AOp):Wd:=λg k i A c=>⟨some (k/16,k%16),o,g,m,[]⟩::c (k+1) (i+1) ([]::A)
def N (m:Nat) (o:AOp):Wd:=λg k i A c=>⟨none,o,g,m,[]⟩::c k (i+1) ([]::A)
def z (o:AOp):Wd:=y 0 o
def w (o:AOp):Wd:=y 1 o
def mo (m:Nat):List AOper->List AOper
 |⟨d,o,g,_,a⟩::l=>⟨d,o,g,m,a⟩::l
 |[]=>[]
def ma (a:List Nat):List AOper->List AOper
 |⟨d,o,g,m,_⟩::l=>⟨d,o,g,m,a⟩::l
 |[]=>[]
def nt:List (List Nat)->Nat->List Nat
 |[],_=>[]
 |a::_,0=>a
 |_::l,n+1=>nt l n
def X (a:List Nat) (w:Wd):Wd:=λg k i A c=>ma a (w g k i A λk i _=>c k i (a::A))
def p (x:Nat) (w:Wd):Wd:=λg k i A c=>X (x::nt A (i-1-x)) w g k i A c
def K (x:Nat) (a:List Nat) (w:Wd):Wd:=λg k i A c=>X (x::(nt A (i-1-x)++a)) w g k i A c
def M (m:Nat) (w:Wd):Wd:=λg k i A c=>mo m (w g k i A c)
def D (j:Nat) (w:Wd):Wd:=λg k i A c=>w g j i A λ_ i A=>c k i A
def i (a:Nat) (l:List Wd):Wd:=λ_ k i A c=>gO l (some (a/16,a%16,true)) k i A c
def j (a:Nat) (l:List Wd):Wd:=λ_ k i A c=>gO l (some (a/16,a%16,false)) k i A c
def Tl:List Nat->List Od
 |[]=>[]
 |a::l=>T a::Tl l
def I0s:Nat->List SV
 |0=>[]
 |n+1=>I0::I0s n
def mv (a:Nat):=z (.mv (T a))
def pA (a b:Nat):=z (.pick (T a) (T b) fF)
def pO (a b:Nat):=z (.pick (T a) fT (T b))
def fa (o a:Nat):=z (.faddr o (T a))
def ld (a:Nat):=w (.load false 1 (T a))
def lo (n a:Nat):=w (.load true n (T a))
def ni (a:Nat):=z (.nilc (T a))
def ia (s a b:Nat):=z (.iaddr s (T a) (T b))
def ic (s a:Nat) (i:Int):=z (.iaddr s (T a) (c i))
def bt (o:BinOp) (a b:Nat):=z (.bin o (T a) (T b))
def bc (o:BinOp) (a:Nat) (i:Int):=z (.bin o (T a) (c i))
def e (a:Nat) (i:Int):=z (.bin .eql (T a) (c i))
def E (a b:Nat):=z (.bin .eql (T a) (T b))
def ex (a i:Nat):=z (.extr (T a) i)
def no (a:Nat):=z (.not (T a))
def le (a:Nat):=z (.len false (T a))
def ca (g:Nat) (l:List Nat):=w (.call (f g) (Tl l))
def cb (g:Nat) (l:List Od):=w (.call (f g) l)
def al (n:Nat):=y 3 (.alloc (I0s n))
def so (n a b:Nat):=N 2 (.store n (T a) (T b))
def sv (n a:Nat) (v:Od):=N 2 (.store n (T a) v)
theorem dW {p v:Prop} (h:v) (e:p=v:=by(dsimp only[Pv.T,Pv.I0,Pv.nS,Pv.fF,Pv.fT,Pv.gO,Pv.r,Pv.d,Pv.q,Pv.b,Pv.y,Pv.N,Pv.z,Pv.w,Pv.mo,Pv.ma,Pv.nt,Pv.X,Pv.p,Pv.K,Pv.M,Pv.D,Pv.i,Pv.j,Pv.Tl,Pv.I0s,Pv.mv,Pv.pA,Pv.pO,Pv.fa,Pv.ld,Pv.lo,Pv.ni,Pv.ia,Pv.ic,Pv.bt,Pv.bc,Pv.e,Pv.E,Pv.ex,Pv.no,Pv.le,Pv.ca,Pv.cb,Pv.al,Pv.so,Pv.sv,Nat.reduceDiv,Nat.reduceMod,Nat.reduceAdd,Nat.reduceSub,List.cons_append,List.nil_append,List.append_nil])<;>exact rfl):p:=by rw[e];exact h
theorem dX {P:Program} {fz:Fz} {mu:St} {n nt:Nat} {en:Nat->Nat->AV} {fu:Nat} {c c' v:ACode} {k:AExit->TM->St->Nat->Prop} (h:c=c') (e:c'=v:=by(dsimp only[Pv.T,Pv.I0,Pv.nS,Pv.fF,Pv.fT,Pv.gO,Pv.r,Pv.d,Pv.q,Pv.b,Pv.y,Pv.N,Pv.z,Pv.w,Pv.mo,Pv.ma,Pv.nt,Pv.X,Pv.p,Pv.K,Pv.M,Pv.D,Pv.i,Pv.j,Pv.Tl,Pv.I0s,Pv.mv,Pv.pA,Pv.pO,Pv.fa,Pv.ld,Pv.lo,Pv.ni,Pv.ia,Pv.ic,Pv.bt,Pv.bc,Pv.e,Pv.E,Pv.ex,Pv.no,Pv.le,Pv.ca,Pv.cb,Pv.al,Pv.so,Pv.sv,Nat.reduceDiv,Nat.reduceMod,Nat.reduceAdd,Nat.reduceSub,List.cons_append,List.nil_append,List.append_nil])<;>exact rfl):dcode pOrc False (CP P) fz fu c (tmE nt en) mu n k=dcode pOrc False (CP P) fz fu v (tmE nt en) mu n k:=by rw[h,e]
theorem dY {P:Program} {fz:Fz} {mu:St} {n fu nt na:Nat} {k:KT Prop} {a:AFunc} {b c' v:ACode} {re:List ARes} {xs:List AV} (ha:a=⟨nt,na,re,b⟩) (h:b=c') (e:c'=v:=by(dsimp only[Pv.T,Pv.I0,Pv.nS,Pv.fF,Pv.fT,Pv.gO,Pv.r,Pv.d,Pv.q,Pv.b,Pv.y,Pv.N,Pv.z,Pv.w,Pv.mo,Pv.ma,Pv.nt,Pv.X,Pv.p,Pv.K,Pv.M,Pv.D,Pv.i,Pv.j,Pv.Tl,Pv.I0s,Pv.mv,Pv.pA,Pv.pO,Pv.fa,Pv.ld,Pv.lo,Pv.ni,Pv.ia,Pv.ic,Pv.bt,Pv.bc,Pv.e,Pv.E,Pv.ex,Pv.no,Pv.le,Pv.ca,Pv.cb,Pv.al,Pv.so,Pv.sv,Nat.reduceDiv,Nat.reduceMod,Nat.reduceAdd,Nat.reduceSub,List.cons_append,List.nil_append,List.append_nil])<;>exact rfl):textP P fu a xs fz mu n k=dcode pOrc False (CP P) fz fu v (tmE nt (envI xs)) mu n (endP fz re k):=by subst ha h e;rfl
abbrev n_Qar:Nat:=5
abbrev n_Qbj:Nat:=6
abbrev n_Qbk:Nat:=7
abbrev n_Qd1:Nat:=10
abbrev n_Qdc:Nat:=11
abbrev n_Qbb:Nat:=12
abbrev n_Qa1:Nat:=13
abbrev n_Qbl:Nat:=14
abbrev n_Qbm:Nat:=15
abbrev n_Qdn:Nat:=16
abbrev n_Qdd:Nat:=17
abbrev n_Qbn:Nat:=23
abbrev n_Qb2:Nat:=24
abbrev n_Qcu:Nat:=25
abbrev n_Qbo:Nat:=26
abbrev n_Qde:Nat:=27
abbrev n_Qcv:Nat:=28
abbrev n_Qb3:Nat:=29
abbrev n_Qcw:Nat:=30
abbrev n_Qdo:Nat:=31
abbrev n_Qaw:Nat:=32
abbrev n_Qbp:Nat:=33
abbrev n_Qbc:Nat:=34
abbrev n_Qa2:Nat:=35
abbrev n_Qbq:Nat:=36
abbrev n_Qeb:Nat:=37
abbrev n_Qcx:Nat:=39
abbrev n_Qd2:Nat:=40
abbrev n_Qd3:Nat:=41
abbrev n_Qcg:Nat:=42
abbrev n_Qdf:Nat:=43
abbrev n_Qec:Nat:=44
abbrev n_Qcy:Nat:=45
abbrev n_Qch:Nat:=46
abbrev n_Qbr:Nat:=47
abbrev n_Qdg:Nat:=48
abbrev n_Qcz:Nat:=49
abbrev n_Qb4:Nat:=50
abbrev n_Qdp:Nat:=51
abbrev n_Qeh:Nat:=52
abbrev n_Qb5:Nat:=53
abbrev n_Qbd:Nat:=54
abbrev n_Qa3:Nat:=55
abbrev n_Qax:Nat:=56
abbrev n_Qbs:Nat:=57
abbrev n_Qbt:Nat:=58
abbrev n_Qbe:Nat:=59
abbrev n_Qa4:Nat:=60
abbrev n_Qa5:Nat:=61
abbrev n_Qbf:Nat:=62
abbrev n_Qbg:Nat:=63
abbrev n_Qbu:Nat:=64
abbrev n_Qa6:Nat:=65
abbrev n_Qb6:Nat:=66
abbrev n_Qb7:Nat:=67
abbrev n_Qc0:Nat:=68
abbrev n_Qdh:Nat:=69
abbrev n_Qdq:Nat:=70
abbrev n_Qay:Nat:=71
abbrev n_Qa7:Nat:=72
abbrev n_Qat:Nat:=73
abbrev n_Qa8:Nat:=74
abbrev n_Qa9:Nat:=75
abbrev n_Qei:Nat:=76
abbrev n_Qbv:Nat:=77
abbrev n_Qci:Nat:=78
abbrev n_Qbw:Nat:=79
abbrev n_Qc1:Nat:=80
abbrev n_Qcj:Nat:=81
abbrev n_Qck:Nat:=82
abbrev n_Qc2:Nat:=83
abbrev n_Qb8:Nat:=84
abbrev n_Qdi:Nat:=85
abbrev n_Qcl:Nat:=86
abbrev n_Qcm:Nat:=87
abbrev n_Qdr:Nat:=88
abbrev n_Qaj:Nat:=89
abbrev n_Qc3:Nat:=90
abbrev n_Qds:Nat:=91
abbrev n_Qdt:Nat:=92
abbrev n_Qd4:Nat:=93
abbrev n_Qdu:Nat:=94
abbrev n_Qc4:Nat:=95
abbrev n_Qd5:Nat:=96
abbrev n_Qcn:Nat:=97
abbrev n_Qb9:Nat:=98
abbrev n_Qc5:Nat:=99
abbrev n_Qca:Nat:=100
abbrev n_Qaz:Nat:=101
abbrev n_Qbh:Nat:=102
abbrev n_Qa0:Nat:=103
abbrev n_Qan:Nat:=104
abbrev n_Qdv:Nat:=105
abbrev n_Qbi:Nat:=106
abbrev n_Qbx:Nat:=107
abbrev n_Qdj:Nat:=108
abbrev n_Qd6:Nat:=109
abbrev n_Qcb:Nat:=110
abbrev n_Qcc:Nat:=111
abbrev n_Qc6:Nat:=112
abbrev n_Qby:Nat:=113
abbrev n_Qau:Nat:=114
abbrev n_Qco:Nat:=115
abbrev n_Qdw:Nat:=116
abbrev n_Qcp:Nat:=117
abbrev n_Qcq:Nat:=118
abbrev n_Qd7:Nat:=119
abbrev n_Qbz:Nat:=120
abbrev n_Qba:Nat:=121
abbrev n_Qb0:Nat:=122
abbrev n_Qak:Nat:=123
abbrev n_Qas:Nat:=124
abbrev n_Qaa:Nat:=125
abbrev n_Qav:Nat:=126
abbrev n_Qcd:Nat:=127
abbrev n_Qal:Nat:=128
abbrev n_Qdx:Nat:=129
abbrev n_Qed:Nat:=130
abbrev n_Qdy:Nat:=131
abbrev n_Qdz:Nat:=132
abbrev n_Qd8:Nat:=133
abbrev n_Qee:Nat:=134
abbrev n_Qd9:Nat:=135
abbrev n_Qcr:Nat:=136
abbrev n_Qef:Nat:=137
abbrev n_Qaq:Nat:=138
abbrev n_Qab:Nat:=139
abbrev n_Qc7:Nat:=140
abbrev n_Qeg:Nat:=141
abbrev n_Qej:Nat:=142
abbrev n_Qap:Nat:=143
abbrev n_Qc8:Nat:=144
abbrev n_Qc9:Nat:=145
abbrev n_Qcs:Nat:=146
abbrev n_Qdk:Nat:=147
abbrev n_Qda:Nat:=148
abbrev n_Qdl:Nat:=149
abbrev n_Qct:Nat:=150
abbrev n_Qdm:Nat:=151
abbrev n_Qb1:Nat:=152
abbrev n_Qdb:Nat:=155
abbrev n_Qea:Nat:=158
abbrev n_Qad:Nat:=159
abbrev n_Qd0:Nat:=160
abbrev n_Qaf:Nat:=161
abbrev n_Qao:Nat:=162
abbrev n_Qag:Nat:=163
abbrev n_Qai:Nat:=164
abbrev n_Qah:Nat:=165
abbrev n_Qac:Nat:=166
abbrev n_Qae:Nat:=167
abbrev n_Qam:Nat:=168
abbrev n_Qce:Nat:=169
abbrev n_Qcf:Nat:=170
def b_Qar:ACode:=q [r 2 [y 3 (.box (T 0)),y 3 (.box (T 1)),z (.mv fF)],d 13 [lo 13 2,p 0 (ca n_Qbj [13]),lo 20 3,X [2,1,0] (ca n_Qbn [15]),D 5 (y 3 (.alloc [I0,I0,I0,I0,I0,I0,.bool false,I0,.str 0 0,.nsl,.nsl,.nsl,.nsl])),D 6 (y 3 (.alloc [I0,I0,I0,I0,I0,I0,I0,I0,I0,I0,I0,I0,I0,I0,.str 0 0,.nsl,I0,.str 0 0,.nsl,.str 0 0])),X [4,1,0,3,2,5] (so 13 5 14),X [5,3,2,1,0,6,4] (so 20 6 16)],r 18 [lo 13 5,lo 20 6,ca n_Qb2 [18,19],D 17 (mv 20),ex 17 0,ex 17 1,D 7 (y 3 (.alloc [I0,I0,I0,I0,I0,I0,.bool false,I0,.str 0 0,.nsl,.nsl,.nsl,.nsl])),so 13 7 21,D 8 (mv 22)],r 24 [lo 13 5,lo 20 6,ca n_Qb2 [24,25],D 23 (mv 26),ex 23 0,ex 23 1,D 9 (y 3 (.alloc [I0,I0,I0,I0,I0,I0,.bool false,I0,.str 0 0,.nsl,.nsl,.nsl,.nsl])),so 13 9 27,D 10 (mv 28)],r 30 [lo 13 2,lo 20 3,ca n_Qcu [30,31],D 29 (mv 32),ex 29 0,ex 29 1,D 11 (y 3 (.alloc [I0,I0,I0,I0,I0,I0,.bool false,I0,.str 0 0,.nsl,.nsl,.nsl,.nsl])),so 13 11 33,D 12 (mv 34)],q [r 35 [lo 13 7,lo 13 11,ca n_Qd1 [35,36],no 37,mv 38,j 39 [mv 8,mv 12,ca n_Qdc [40,41],no 42],pO 39 43,mv 44,j 45 [lo 13 5,lo 13 2,ca n_Qbl [46,47],no 48],pO 45 49,mv 50,j 51 [lo 20 6,lo 20 3,ca n_Qbo [52,53],no 54],pO 51 55],b (T 56) (q [r 4 [z (.mv fF)],.ret]) .skip],r 57 [lo 13 7,M 2 (ca n_Qbb [57])],r 59 [mv 8,M 2 (ca n_Qa1 [59])],r 61 [lo 13 9,lo 13 11,ca n_Qd1 [61,62],mv 63,i 64 [mv 10,mv 12,ca n_Qdc [65,66]],pA 64 67,mv 68,i 69 [lo 13 5,lo 13 2,ca n_Qbl [70,71]],pA 69 72,mv 73,i 74 [ca n_Qdn []],pA 74 75,D 4 (mv 76)],.ret]
def a_Qar:AFunc:=⟨77,2,[.tmp 0 4],b_Qar⟩
section
variable {P:Program} {fz:Fz} {mu:St} {n:Nat} {k:KT Prop} (fu:Nat)
def l_Qbj_0:ACode:=q [q [r 21 [mv 4,mv 3,le 22,bt .lss 21 23],b (T 24) .skip (.exit 0)],.blk 1 (q [r 27 [mv 3,mv 4,ia 6 27 28,lo 6 29,D 5 (y 3 (.alloc [I0,I0,I0,I0,.str 0 0,.nsl])),so 6 5 30],r 31 [fa 3 5,lo 3 31,ca n_Qde [32],fa 3 5,so 3 34 33],r 35 [fa 12 1,ld 35,lo 6 5,y 3 (.bslice 6 1 [I0,I0,I0,I0,.str 0 0,.nsl] [(0,6,T 37)]),y 2 (.append 6 72 (T 36) (T 38)),fa 12 1,so 1 40 39]]),r 25 [mv 4,bc .add 25 1,D 4 (mv 26)]]
def b_Qbj:ACode:=q [r 1 [y 3 (.box (T 0)),y 3 (.alloc [I0,I0,I0,I0,I0,I0,.bool false,I0,.str 0 0,.nsl,.nsl,.nsl,.nsl])],r 6 [fa 7 1,lo 3 6,ca n_Qde [7],fa 7 1,so 3 9 8],r 10 [fa 10 1,ld 10,ca n_Qcv [11],fa 10 1,so 1 13 12],r 14 [fa 11 1,ld 14,ca n_Qcv [15],fa 11 1,so 1 17 16],r 18 [fa 12 1,ld 18,D 3 (mv 19)],r 20 [fa 12 1,sv 1 20 nS],q [r 4 [z (.mv (c 0))],.blk 0 (.loop l_Qbj_0)],r 41 [lo 13 1,so 13 2 41],.ret]
def a_Qbj:AFunc:=⟨42,1,[.cell 0 2 true 13],b_Qbj⟩
def l_Qbk_0:ACode:=q [q [r 10 [mv 4,mv 0,le 11,bt .lss 10 12],b (T 13) .skip (.exit 0)],.blk 1 (q [r 16 [mv 0,mv 4,ia 5 16 17,lo 5 18,D 5 (y 3 (.alloc [I0,I0,I0,I0,.nsl])),so 5 5 19],r 20 [fa 4 5,ld 20,ca n_Qb3 [21],fa 4 5,so 1 23 22],r 24 [mv 3,lo 5 5,y 3 (.bslice 5 1 [I0,I0,I0,I0,.nsl] [(0,5,T 25)]),y 2 (.append 5 56 (T 24) (T 26)),D 3 (mv 27)]]),r 14 [mv 4,bc .add 14 1,D 4 (mv 15)]]
def b_Qbk:ACode:=q [r 2 [z (.mv nS)],r 6 [mv 0,le 6,bc .add 7 1,y 3 (.mkslice 5 56 [I0,I0,I0,I0,.nsl] (c 0) (T 8)),D 3 (mv 9)],q [r 4 [z (.mv (c 0))],.blk 0 (.loop l_Qbk_0)],r 28 [mv 3,z (.build [I0,I0,I0,I0,.nsl] [(0,1,c 77777)]),y 3 (.bslice 5 1 [I0,I0,I0,I0,.nsl] [(0,5,T 29)]),y 2 (.append 5 56 (T 28) (T 30)),D 3 (mv 31)],r 32 [mv 3,mv 0,le 33,z (.slc false 5 (T 32) none (some (T 34)) none),D 2 (mv 35)],.ret]
def a_Qbk:AFunc:=⟨36,1,[.tmp 0 2],b_Qbk⟩
def l_Qd1_0:ACode:=q [q [r 92 [mv 5,fa 10 2,ld 93,le 94,bt .lss 92 95],b (T 96) .skip (.exit 0)],.blk 1 (q [d 99 [fa 10 2,p 0 (ld 99),mv 5,K 1 [2] (ia 1 100 101),p 3 (ld 102),fa 10 3,p 5 (ld 104),mv 5,K 6 [7] (ia 1 105 106),p 8 (ld 107),K 4 [9,8,6,5,7] (bt .neq 103 108)],b (T 109) (q [r 4 [z (.mv fF)],.ret]) .skip]),r 97 [mv 5,bc .add 97 1,D 5 (mv 98)]]
def l_Qd1_1:ACode:=q [q [r 110 [mv 6,fa 11 2,ld 111,le 112,bt .lss 110 113],b (T 114) .skip (.exit 2)],.blk 3 (q [d 117 [fa 11 2,p 0 (ld 117),mv 6,K 1 [2] (ia 1 118 119),p 3 (ld 120),fa 11 3,p 5 (ld 122),mv 6,K 6 [7] (ia 1 123 124),p 8 (ld 125),K 4 [9,8,6,5,7] (bt .neq 121 126)],b (T 127) (q [r 4 [z (.mv fF)],.ret]) .skip]),r 115 [mv 6,bc .add 115 1,D 6 (mv 116)]]
def l_Qd1_2:ACode:=q [q [r 128 [mv 7,fa 12 2,ld 129,le 130,bt .lss 128 131],b (T 132) .skip (.exit 4)],.blk 5 (q [d 135 [fa 12 2,p 0 (ld 135),mv 7,K 1 [2] (ia 6 136 137),p 3 (lo 6 138),fa 12 3,p 5 (ld 140),mv 7,K 6 [7] (ia 6 141 142),p 8 (lo 6 143),D 8 (y 3 (.alloc [I0,I0,I0,I0,.str 0 0,.nsl])),D 9 (y 3 (.alloc [I0,I0,I0,I0,.str 0 0,.nsl])),X [10,4,3,1,0,2,11] (M 4 (so 6 8 139)),X [11,9,8,6,5,7,12,10,4,3,1,0,2] (so 6 9 144)],r 145 [fa 0 8,ld 145,fa 0 9,ld 147,bt .neq 146 148,mv 149,j 150 [fa 1 8,ld 151,fa 1 9,ld 153,bt .neq 152 154],pO 150 155,mv 156,j 157 [fa 2 8,ld 158,fa 2 9,ld 160,bt .neq 159 161],pO 157 162,mv 163,j 164 [fa 3 8,lo 3 165,fa 3 9,lo 3 167,ca n_Qdf [166,168],no 169],pO 164 170],b (T 171) (q [r 4 [z (.mv fF)],.ret]) .skip]),r 133 [mv 7,bc .add 133 1,D 7 (mv 134)]]
def b_Qd1:ACode:=q [r 2 [y 3 (.box (T 0)),y 3 (.box (T 1)),z (.mv fF)],q [r 10 [fa 0 2,ld 10,fa 0 3,ld 12,bt .neq 11 13,mv 14,j 15 [fa 1 2,ld 16,fa 1 3,ld 18,bt .neq 17 19],pO 15 20,mv 21,j 22 [fa 2 2,ld 23,fa 2 3,ld 25,bt .neq 24 26],pO 22 27,mv 28,j 29 [fa 3 2,ld 30,fa 3 3,ld 32,bt .neq 31 33],pO 29 34,mv 35,j 36 [fa 4 2,ld 37,fa 4 3,ld 39,bt .neq 38 40],pO 36 41,mv 42,j 43 [fa 5 2,ld 44,fa 5 3,ld 46,bt .neq 45 47],pO 43 48,mv 49,j 50 [fa 6 2,ld 51,fa 6 3,ld 53,z (.eqb true (T 52) (T 54))],pO 50 55,mv 56,j 57 [fa 7 2,lo 3 58,fa 7 3,lo 3 60,ca n_Qdf [59,61],no 62],pO 57 63,mv 64,j 65 [fa 10 2,ld 66,le 67,fa 10 3,ld 69,le 70,bt .neq 68 71],pO 65 72,mv 73,j 74 [fa 11 2,ld 75,le 76,fa 11 3,ld 78,le 79,bt .neq 77 80],pO 74 81,mv 82,j 83 [fa 12 2,ld 84,le 85,fa 12 3,ld 87,le 88,bt .neq 86 89],pO 83 90],b (T 91) (q [r 4 [z (.mv fF)],.ret]) .skip],q [r 5 [z (.mv (c 0))],.blk 0 (.loop l_Qd1_0)],q [r 6 [z (.mv (c 0))],.blk 2 (.loop l_Qd1_1)],q [r 7 [z (.mv (c 0))],.blk 4 (.loop l_Qd1_2)],r 4 [z (.mv fT)],.ret]
def a_Qd1:AFunc:=⟨172,2,[.tmp 0 4],b_Qd1⟩
def l_Qdc_0:ACode:=q [q [r 11 [mv 5,mv 0,le 12,bt .lss 11 13],b (T 14) .skip (.exit 0)],.blk 1 (q [d 17 [mv 0,mv 5,X [0,1] (ia 20 17 18),p 2 (lo 20 19),mv 1,mv 5,X [4,5] (ia 20 21 22),p 6 (lo 20 23),K 3 [7,6,4,5] (ca n_Qec [20,24]),p 8 (no 25)],b (T 26) (q [r 4 [z (.mv fF)],.ret]) .skip]),r 15 [mv 5,bc .add 15 1,D 5 (mv 16)]]
def b_Qdc:ACode:=q [r 4 [z (.mv fF)],q [r 6 [mv 0,le 6,mv 1,le 8,bt .neq 7 9],b (T 10) (q [r 4 [z (.mv fF)],.ret]) .skip],q [r 5 [z (.mv (c 0))],.blk 0 (.loop l_Qdc_0)],r 4 [z (.mv fT)],.ret]
def a_Qdc:AFunc:=⟨27,2,[.tmp 0 4],b_Qdc⟩
def l_Qbb_0:ACode:=q [q [r 12 [mv 2,fa 12 1,ld 13,le 14,bt .lss 12 15],b (T 16) .skip (.exit 0)],.blk 1 (r 19 [fa 12 1,ld 19,mv 2,ia 6 20 21,fa 3 22,lo 3 23,M 2 (ca n_Qcy [24])]),r 17 [mv 2,bc .add 17 1,D 2 (mv 18)]]
def b_Qbb:ACode:=q [r 1 [y 3 (.box (T 0))],r 3 [fa 7 1,lo 3 3,M 2 (ca n_Qcy [4])],r 6 [fa 10 1,ld 6,M 2 (ca n_Qch [7])],r 9 [fa 11 1,ld 9,M 2 (ca n_Qch [10])],r 2 [z (.mv (c 0))],.blk 0 (.loop l_Qbb_0)]
def a_Qbb:AFunc:=⟨26,1,[],b_Qbb⟩
def l_Qa1_0:ACode:=q [q [r 3 [mv 2,mv 0,le 4,bt .lss 3 5],b (T 6) .skip (.exit 0)],.blk 1 (q [r 9 [mv 0,mv 2,ia 20 9 10,fa 15 11,ld 12,M 2 (ca n_Qbr [13])],r 15 [mv 0,mv 2,ia 20 15 16,fa 16 17,lo 3 18,M 2 (ca n_Qcy [19])],r 21 [mv 0,mv 2,mv 0,mv 2,ia 20 23 24,fa 3 25,ld 26,bc .xor 27 90,ia 20 21 22,fa 3 29,so 1 30 28]]),r 7 [mv 2,bc .add 7 1,D 2 (mv 8)]]
def b_Qa1:ACode:=q [r 2 [z (.mv (c 0))],.blk 0 (.loop l_Qa1_0)]
def a_Qa1:AFunc:=⟨31,1,[],b_Qa1⟩
def l_Qbl_0:ACode:=q [q [r 37 [mv 5,fa 12 3,ld 38,le 39,bt .lss 37 40],b (T 41) .skip (.exit 0)],.blk 1 (q [d 44 [fa 12 2,p 0 (ld 44),mv 5,K 1 [2] (ia 6 45 46),p 3 (fa 0 47),p 4 (ld 48),fa 12 3,p 6 (ld 50),mv 5,K 7 [8] (ia 6 51 52),p 9 (fa 0 53),p 10 (ld 54),K 5 [11,10,9,7,6,8] (bt .neq 49 55),p 12 (mv 56),j 57 [p 13 (fa 12 2),p 14 (ld 58),p 13 (mv 5),K 15 [16] (ia 6 59 60),p 17 (fa 3 61),p 18 (lo 3 62),p 13 (fa 12 3),p 20 (ld 64),p 13 (mv 5),K 21 [22] (ia 6 65 66),p 23 (fa 3 67),p 24 (lo 3 68),K 19 [25,24,23,21,20,22] (ca n_Qdg [63,69]),p 26 (no 70)],K 13 [27,26,19,18,17,15,14,16,25,24,23,21,20,22] (pO 57 71)],b (T 72) (q [r 4 [z (.mv fF)],.ret]) .skip]),r 42 [mv 5,bc .add 42 1,D 5 (mv 43)]]
def b_Qbl:ACode:=q [r 2 [y 3 (.box (T 0)),y 3 (.box (T 1)),z (.mv fF)],q [r 6 [fa 7 2,lo 3 6,fa 7 3,lo 3 8,ca n_Qdg [7,9],no 10,mv 11,j 12 [fa 10 2,ld 13,fa 10 3,ld 15,ca n_Qcz [14,16],no 17],pO 12 18,mv 19,j 20 [fa 11 2,ld 21,fa 11 3,ld 23,ca n_Qcz [22,24],no 25],pO 20 26,mv 27,j 28 [fa 12 2,ld 29,le 30,fa 12 3,ld 32,le 33,bt .neq 31 34],pO 28 35],b (T 36) (q [r 4 [z (.mv fF)],.ret]) .skip],q [r 5 [z (.mv (c 0))],.blk 0 (.loop l_Qbl_0)],r 73 [fa 2 2,ld 73,fa 2 3,ld 75,E 74 76,mv 77,i 78 [fa 4 2,ld 79,fa 4 3,ld 81,E 80 82],pA 78 83,D 4 (mv 84)],.ret]
def a_Qbl:AFunc:=⟨85,2,[.tmp 0 4],b_Qbl⟩
def l_Qbm_0:ACode:=q [q [r 26 [mv 5,mv 1,le 27,bt .lss 26 28],b (T 29) .skip (.exit 0)],.blk 1 (q [d 32 [mv 0,mv 5,X [0,1] (ia 5 32 33),p 2 (lo 5 34),mv 1,mv 5,X [4,5] (ia 5 36 37),p 6 (lo 5 38),D 6 (y 3 (.alloc [I0,I0,I0,I0,.nsl])),D 7 (y 3 (.alloc [I0,I0,I0,I0,.nsl])),X [8,3,2,0,1,9] (M 4 (so 5 6 35)),X [9,7,6,4,5,10,8,3,2,0,1] (so 5 7 39)],r 40 [fa 0 6,ld 40,fa 0 7,ld 42,bt .neq 41 43,mv 44,j 45 [fa 1 6,ld 46,fa 1 7,ld 48,bt .neq 47 49],pO 45 50,mv 51,j 52 [fa 2 6,ld 53,fa 2 7,ld 55,bt .neq 54 56],pO 52 57,mv 58,j 59 [fa 3 6,ld 60,fa 3 7,ld 62,bt .neq 61 63],pO 59 64,mv 65,j 66 [fa 4 6,ld 67,fa 4 7,ld 69,ca n_Qb4 [68,70],no 71],pO 66 72],b (T 73) (q [r 4 [z (.mv fF)],.ret]) .skip]),r 30 [mv 5,bc .add 30 1,D 5 (mv 31)]]
def b_Qbm:ACode:=q [r 4 [z (.mv fF)],q [r 8 [mv 0,le 8,mv 1,le 10,bt .neq 9 11,mv 12,j 13 [mv 0,mv 1,le 15,bc .add 16 1,z (.slc false 5 (T 14) none (some (T 17)) none),mv 1,le 19,ia 5 18 20,fa 0 21,ld 22,bc .neq 23 77777],pO 13 24],b (T 25) (q [r 4 [z (.mv fF)],.ret]) .skip],q [r 5 [z (.mv (c 0))],.blk 0 (.loop l_Qbm_0)],r 4 [z (.mv fT)],.ret]
def a_Qbm:AFunc:=⟨74,2,[.tmp 0 4],b_Qbm⟩
def b_Qdn:ACode:=q [r 0 [z (.mv fF)],r 8 [cb n_Qdp [c 1,c 3],D 7 (mv 8),ex 7 0,ex 7 1,D 1 (y 3 (.alloc [I0,I0,I0,I0,I0,I0,.bool false,I0,.str 0 0,.nsl,.nsl,.nsl,.nsl])),so 13 1 9,D 2 (mv 10)],r 12 [lo 13 1,ca n_Qdd [12],D 11 (mv 13),ex 11 0,ex 11 1,D 3 (y 3 (.alloc [I0,I0,I0,I0,I0,I0,.bool false,I0,.str 0 0,.nsl,.nsl,.nsl,.nsl])),so 13 3 14,D 4 (mv 15)],r 17 [cb n_Qdp [c 0,c 2],D 16 (mv 17),ex 16 0,ex 16 1,D 5 (y 3 (.alloc [I0,I0,I0,I0,I0,I0,.bool false,I0,.str 0 0,.nsl,.nsl,.nsl,.nsl])),so 13 5 18,D 6 (mv 19)],r 20 [mv 2,ca n_Qeh [20],e 21 0,mv 22,i 23 [lo 13 1,ca n_Qdo [24]],pA 23 25,mv 26,i 27 [fa 2 3,ld 28,e 29 1],pA 27 30,mv 31,i 32 [fa 4 3,ld 33,e 34 1],pA 32 35,mv 36,i 37 [mv 4,le 38,e 39 2],pA 37 40,mv 41,i 42 [mv 4,ic 20 43 0,fa 0 44,ld 45,e 46 7],pA 42 47,mv 48,i 49 [mv 4,ic 20 50 0,fa 2 51,ld 52,e 53 0],pA 49 54,mv 55,i 56 [mv 6,ca n_Qeh [57],e 58 1700],pA 56 59,mv 60,i 61 [cb n_Qb5 [c 4,c 3],e 62 1],pA 61 63,mv 64,i 65 [y 3 (.bslice 1 3 [I0] [(0,1,c 0),(1,1,c 5),(2,1,c 3)]),cb n_Qbd [T 66,c 0,c 9],e 67 5],pA 65 68,D 0 (mv 69)],.ret]
def a_Qdn:AFunc:=⟨70,0,[.tmp 0 0],b_Qdn⟩
def b_Qdd:ACode:=q [r 1 [y 3 (.box (T 0)),y 3 (.alloc [I0,I0,I0,I0,I0,I0,.bool false,I0,.str 0 0,.nsl,.nsl,.nsl,.nsl]),z (.mv nS)],r 5 [lo 13 1,ca n_Qcw [5],D 4 (mv 6)],q [r 7 [lo 13 1,ca n_Qdo [7],no 8,mv 9,j 10 [mv 4,ca n_Qaw [11]],pO 10 12,mv 13,j 14 [fa 2 1,ld 15,bc .geq 16 2147483647],pO 14 17],b (T 18) (q [r 19 [mv 4,ni 19,fa 0 20,lo 13 21,so 13 2 22,D 3 (z (.mv nS))],.ret]) .skip],r 23 [mv 4,mv 4,ni 24,fa 0 25,fa 2 26,ld 27,bc .add 28 1,M 2 (ca n_Qa3 [23,29])],q [r 31 [mv 4,ni 31,fa 0 32,fa 1 33,ld 34,e 35 1],b (T 36) (r 37 [mv 4,M 2 (ca n_Qax [37])]) .skip],r 39 [mv 4,lo 13 1,ca n_Qbs [39,40],ex 41 0,ex 41 1,so 13 2 42,D 3 (mv 43)],.ret]
def a_Qdd:AFunc:=⟨44,1,[.cell 0 2 true 13,.tmp 0 3],b_Qdd⟩
def b_Qbn:ACode:=q [r 1 [y 3 (.box (T 0)),y 3 (.alloc [I0,I0,I0,I0,I0,I0,I0,I0,I0,I0,I0,I0,I0,I0,.str 0 0,.nsl,I0,.str 0 0,.nsl,.str 0 0])],r 3 [fa 15 1,ld 3,ca n_Qb3 [4],fa 15 1,so 1 6 5],r 7 [fa 16 1,lo 3 7,ca n_Qde [8],fa 16 1,so 3 10 9],r 11 [lo 20 1,so 20 2 11],.ret]
def a_Qbn:AFunc:=⟨12,1,[.cell 0 2 true 20],b_Qbn⟩
def b_Qb2:ACode:=q [r 2 [y 3 (.box (T 0)),y 3 (.box (T 1)),y 3 (.alloc [I0,I0,I0,I0,I0,I0,.bool false,I0,.str 0 0,.nsl,.nsl,.nsl,.nsl]),z (.mv nS)],q [r 8 [lo 13 2,ca n_Qdo [8],no 9,mv 10,j 11 [lo 20 3,ca n_Qdq [12],no 13],pO 11 14,mv 15,j 16 [fa 1 3,ld 17,fa 0 2,ld 19,E 18 20],pO 16 21,mv 22,j 23 [fa 1 3,ld 24,fa 1 2,ld 26,bt .geq 25 27],pO 23 28,mv 29,j 30 [fa 2 3,ld 31,fa 0 2,ld 33,bt .neq 32 34],pO 30 35,mv 36,j 37 [fa 3 3,ld 38,fa 2 2,ld 40,bt .lss 39 41],pO 37 42],b (T 43) (q [r 44 [lo 13 2,ca n_Qc0 [44],so 13 4 45,D 5 (z (.mv nS))],.ret]) .skip],r 46 [lo 13 2,ca n_Qcw [46],D 6 (mv 47)],d 48 [fa 3 3,p 0 (ld 48),mv 6,p 2 (ni 50),p 3 (fa 0 51),p 4 (fa 1 52),p 5 (ld 53),K 1 [6,5,4,3,2] (ca n_Qb5 [49,54]),D 7 (p 7 (mv 55))],q [r 56 [fa 0 3,ld 56],.blk 0 (q [q [r 58 [D 59 (e 57 4),mv 59],b (T 58) .skip (r 58 [D 60 (e 57 6),mv 60])],b (T 58) (q [r 61 [fa 1 3,ld 61,mv 7,E 62 63],b (T 64) (r 65 [mv 6,lo 20 3,M 2 (ca n_Qay [65,66])]) .skip]) (q [r 68 [D 69 (e 57 5),mv 69],b (T 68) (r 70 [mv 6,lo 20 3,M 2 (ca n_Qa7 [70,71])]) (q [r 73 [D 74 (e 57 7),mv 74],b (T 73) (r 75 [mv 6,lo 20 3,M 2 (ca n_Qat [75,76])]) (q [r 78 [D 79 (e 57 8),mv 79],b (T 78) (q [r 80 [mv 7,mv 6,ni 81,fa 0 82,fa 0 83,ld 84,E 80 85,mv 86,i 87 [fa 4 3,ld 88,fa 3 3,ld 90,bt .lss 89 91],pA 87 92],b (T 93) (r 94 [mv 6,lo 20 3,M 2 (ca n_Qa8 [94,95])]) .skip]) (q [q [r 97 [D 98 (e 57 9),mv 98],b (T 97) .skip (r 97 [D 99 (e 57 11),mv 99])],b (T 97) (q [r 100 [fa 1 3,ld 100,mv 7,E 101 102],b (T 103) (r 104 [mv 6,lo 20 3,M 2 (ca n_Qa9 [104,105])]) .skip]) (q [r 107 [D 108 (e 57 10),mv 108],b (T 107) (q [d 109 [mv 6,p 0 (ca n_Qaw [109]),p 1 (mv 110),i 111 [p 2 (fa 3 3),p 3 (ld 112),p 2 (mv 6),p 5 (ni 114),p 6 (fa 0 115),p 7 (fa 2 116),p 8 (ld 117),K 4 [9,8,7,6,5] (E 113 118)],K 2 [10,4,3,9,8,7,6,5] (pA 111 119)],b (T 120) (d 121 [mv 6,fa 1 3,p 1 (ld 122),mv 6,p 3 (ni 124),p 4 (fa 0 125),p 5 (fa 2 126),p 6 (ld 127),mv 6,p 8 (ni 129),p 9 (fa 0 130),p 10 (fa 5 131),p 11 (ld 132),mv 6,p 13 (ni 134),p 14 (fa 0 135),p 15 (fa 7 136),p 16 (lo 3 137),K 7 [12,11,10,9,8,17,16,15,14,13] (z (.build [I0,I0,I0,I0,I0,I0,I0,I0,I0,I0,I0,I0,I0,I0,.str 0 0,.nsl,I0,.str 0 0,.nsl,.str 0 0] [(0,1,c 11),(3,1,T 128),(6,1,T 133),(16,3,T 138)])),X [0,2,1,18,7,6,5,4,3,12,11,10,9,8,17,16,15,14,13] (M 2 (ca n_Qbf [121,123,139]))]) .skip]) .skip])])])])])])],r 141 [mv 6,lo 13 2,ca n_Qbs [141,142],ex 143 0,ex 143 1,so 13 4 144,D 5 (mv 145)],.ret]
def a_Qb2:AFunc:=⟨146,2,[.cell 0 4 true 13,.tmp 0 5],b_Qb2⟩
theorem i_Qb2 (x0 x1:AV):textP P fu a_Qb2 [x0,x1] fz mu n k=dcode pOrc False (CP P) fz fu b_Qb2 (tmE 146 (envI [x0,x1])) mu n (endP fz [.cell 0 4 true 13,.tmp 0 5] k):=rfl
def b_Qcu:ACode:=q [r 2 [y 3 (.box (T 0)),y 3 (.box (T 1)),y 3 (.alloc [I0,I0,I0,I0,I0,I0,.bool false,I0,.str 0 0,.nsl,.nsl,.nsl,.nsl]),z (.mv nS)],r 8 [lo 13 2,ca n_Qd3 [8],D 6 (y 3 (.alloc [I0,I0,I0,I0,I0,I0,.bool false,I0,.str 0 0,.nsl,.nsl,.nsl,.nsl])),so 13 6 9],q [r 10 [lo 13 2,ca n_Qeb [10],no 11,mv 12,j 13 [lo 20 3,ca n_Qei [14],no 15],pO 13 16,mv 17,j 18 [fa 1 3,ld 19,bc .lss 20 0],pO 18 21,mv 22,j 23 [fa 1 3,ld 24,fa 1 2,ld 26,bt .geq 25 27],pO 23 28,mv 29,j 30 [fa 1 3,ld 31,fa 0 2,ld 33,E 32 34],pO 30 35,mv 36,j 37 [fa 2 3,ld 38,fa 0 2,ld 40,bt .neq 39 41],pO 37 42,mv 43,j 44 [fa 3 3,ld 45,fa 2 2,ld 47,bt .lss 46 48],pO 44 49],b (T 50) (q [r 5 [D 51 (lo 13 6),so 13 4 51,z (.mv nS)],.ret]) .skip],r 52 [lo 13 2,ca n_Qd3 [52],z (.build [I0,I0,I0,I0,I0,I0,.bool false,I0,.str 0 0,.nsl,.nsl,.nsl,.nsl,.nsl,.bool false] [(0,13,T 53)]),y 3 (.box (T 54)),D 7 (mv 55)],q [r 56 [fa 0 3,ld 56],.blk 0 (q [q [r 58 [D 59 (e 57 4),mv 59],b (T 58) .skip (r 58 [D 60 (e 57 6),mv 60])],b (T 58) (r 61 [mv 7,lo 20 3,M 2 (ca n_Qbv [61,62])]) (q [r 64 [D 65 (e 57 5),mv 65],b (T 64) (r 66 [mv 7,lo 20 3,M 2 (ca n_Qci [66,67])]) (q [r 69 [D 70 (e 57 7),mv 70],b (T 69) (r 71 [mv 7,lo 20 3,M 2 (ca n_Qbw [71,72])]) (q [r 74 [D 75 (e 57 8),mv 75],b (T 74) (r 76 [mv 7,lo 20 3,M 2 (ca n_Qc1 [76,77])]) (q [q [r 79 [D 80 (e 57 9),mv 80],b (T 79) .skip (r 79 [D 81 (e 57 11),mv 81])],b (T 79) (r 82 [mv 7,lo 20 3,M 2 (ca n_Qcj [82,83])]) (q [r 85 [D 86 (e 57 10),mv 86],b (T 85) (r 87 [mv 7,lo 20 3,M 2 (ca n_Qck [87,88])]) .skip])])])])])])],q [r 90 [mv 7,ni 90,fa 14 91,ld 92],b (T 93) (q [r 5 [D 94 (lo 13 6),so 13 4 94,z (.mv nS)],.ret]) .skip],d 95 [mv 7,p 0 (ni 95),p 1 (fa 0 96),p 2 (lo 13 97),mv 7,p 4 (ni 99),p 5 (fa 13 100),p 6 (ld 101),p 3 (M 4 (so 13 4 98)),D 5 (K 7 [8,3,2,1,0] (mv 102))],.ret]
def a_Qcu:AFunc:=⟨103,2,[.cell 0 4 true 13,.tmp 0 5],b_Qcu⟩
theorem i_Qcu (x0 x1:AV):textP P fu a_Qcu [x0,x1] fz mu n k=dcode pOrc False (CP P) fz fu b_Qcu (tmE 103 (envI [x0,x1])) mu n (endP fz [.cell 0 4 true 13,.tmp 0 5] k):=rfl
def b_Qbo:ACode:=q [r 2 [y 3 (.box (T 0)),y 3 (.box (T 1)),z (.mv fF)],r 5 [fa 0 2,ld 5,fa 0 3,ld 7,E 6 8,mv 9,i 10 [fa 5 2,ld 11,fa 5 3,ld 13,E 12 14],pA 10 15,mv 16,i 17 [fa 15 2,ld 18,fa 15 3,ld 20,ca n_Qb4 [19,21]],pA 17 22,mv 23,i 24 [fa 16 2,lo 3 25,fa 16 3,lo 3 27,ca n_Qdg [26,28]],pA 24 29,D 4 (mv 30)],.ret]
def a_Qbo:AFunc:=⟨31,2,[.tmp 0 4],b_Qbo⟩
def b_Qde:ACode:=q [r 1 [y 3 (.box (T 0)),y 3 (.alloc [I0,.str 0 0,.nsl])],r 3 [fa 2 1,ld 3,ca n_Qbk [4],fa 2 1,so 1 6 5],r 7 [lo 3 1,so 3 2 7],.ret]
def a_Qde:AFunc:=⟨8,1,[.cell 0 2 true 3],b_Qde⟩
def b_Qcv:ACode:=q [r 2 [z (.mv nS)],r 4 [mv 0,ca n_Qc2 [4],y 3 (.bslice 1 2 [I0] [(0,1,c (-7777)),(1,1,c (-8888))]),y 2 (.append 1 8 (T 5) (T 6)),D 3 (mv 7)],r 8 [mv 3,mv 0,le 9,z (.slc false 1 (T 8) none (some (T 10)) none),D 2 (mv 11)],.ret]
def a_Qcv:AFunc:=⟨12,1,[.tmp 0 2],b_Qcv⟩
def b_Qb3:ACode:=q [r 2 [z (.mv nS)],r 4 [mv 0,ca n_Qb8 [4],z (.build [.str 0 0,I0,I0] [(1,1,c 77777)]),z (.build [.str 0 0,I0,I0] [(1,1,c 77777)]),y 3 (.bslice 3 2 [.str 0 0,I0,I0] [(0,3,T 6),(3,3,T 7)]),y 2 (.append 3 32 (T 5) (T 8)),D 3 (mv 9)],r 10 [mv 3,mv 0,le 11,z (.slc false 3 (T 10) none (some (T 12)) none),D 2 (mv 13)],.ret]
def a_Qb3:AFunc:=⟨14,1,[.tmp 0 2],b_Qb3⟩
def b_Qcw:ACode:=q [r 1 [y 3 (.box (T 0)),z (.mv (.c (.one .npt)))],r 3 [lo 13 1,ca n_Qc0 [3],z (.build [I0,I0,I0,I0,I0,I0,.bool false,I0,.str 0 0,.nsl,.nsl,.nsl,.nsl,.nsl,.bool false] [(0,13,T 4)]),y 3 (.box (T 5)),D 2 (mv 6)],.ret]
def a_Qcw:AFunc:=⟨7,1,[.tmp 0 2],b_Qcw⟩
def l_Qdo_0:ACode:=q [r 113 [bt .lss 112 111],b (T 113) .skip (.exit 0),.blk 1 (q [r 114 [ia 1 110 112,ld 114,D 5 (mv 115)],q [r 116 [mv 5,mv 3,bt .leq 116 117,mv 118,j 119 [mv 5,fa 1 1,ld 121,bt .geq 120 122],pO 119 123,mv 124,j 125 [mv 5,fa 0 1,ld 127,E 126 128],pO 125 129],b (T 130) (q [r 2 [z (.mv fF)],.ret]) .skip],r 3 [D 131 (mv 5),mv 131]]),r 112 [D 132 (bc .add 112 1),mv 132]]
def l_Qc3:ACode:=q [r 137 [bt .lss 136 135],b (T 137) .skip (.exit 2),.blk 3 (q [r 138 [ia 6 134 136,lo 6 138,D 7 (y 3 (.alloc [I0,I0,I0,I0,.str 0 0,.nsl])),so 6 7 139],q [r 140 [fa 0 7,ld 140,mv 3,bt .leq 141 142,mv 143,j 144 [fa 0 7,ld 145,fa 1 1,ld 147,bt .geq 146 148],pO 144 149,mv 150,j 151 [fa 0 7,ld 152,fa 0 1,ld 154,E 153 155],pO 151 156,mv 157,j 158 [fa 3 7,lo 3 159,ca n_Qcm [160],no 161],pO 158 162,mv 163,j 164 [fa 1 7,ld 165,bc .lss 166 0],pO 164 167,mv 168,j 169 [fa 1 7,ld 170,fa 2 1,ld 172,bt .geq 171 173],pO 169 174,mv 175,j 176 [fa 2 7,ld 177,bc .lss 178 0],pO 176 179],b (T 180) (q [r 2 [z (.mv fF)],.ret]) .skip],r 181 [fa 0 7,ld 181,D 3 (mv 182)]]),r 136 [D 183 (bc .add 136 1),mv 183]]
def b_Qdo:ACode:=q [r 1 [y 3 (.box (T 0)),z (.mv fF)],q [r 8 [fa 0 1,ld 8,fa 1 1,ld 10,ca n_Qdi [9,11],no 12,mv 13,j 14 [fa 4 1,ld 15,bc .lss 16 0],pO 14 17,mv 18,j 19 [fa 4 1,ld 20,bc .gtr 21 2],pO 19 22,mv 23,j 24 [fa 2 1,ld 25,ca n_Qcl [26],no 27],pO 24 28,mv 29,j 30 [fa 3 1,ld 31,ca n_Qcl [32],no 33],pO 30 34,mv 35,j 36 [fa 5 1,ld 37,ca n_Qcl [38],no 39],pO 36 40],b (T 41) (q [r 2 [z (.mv fF)],.ret]) .skip],q [d 42 [fa 3 1,p 0 (ld 42),fa 2 1,p 2 (ld 44),K 1 [3,2] (bt .gtr 43 45),p 4 (mv 46),j 47 [p 5 (fa 4 1),p 6 (ld 48),p 7 (e 49 0),p 8 (mv 50)],i 51 [p 9 (fa 3 1),p 10 (ld 52),p 9 (fa 2 1),p 12 (ld 54),K 11 [13,12] (bt .neq 53 55)],j 47 [K 9 [14,11,10,13,12] (pA 51 56)],K 5 [15,9,8,7,6,14,11,10,13,12] (pO 47 57),p 16 (mv 58),j 59 [p 17 (fa 7 1),p 18 (lo 3 60),p 19 (ca n_Qcm [61]),p 20 (no 62)],K 17 [21,20,19,18] (pO 59 63),p 22 (mv 64),j 65 [p 23 (fa 5 1),p 24 (ld 66),p 23 (fa 7 1),p 26 (fa 0 68),p 27 (ld 69),K 25 [28,27,26] (bt .lss 67 70)],K 23 [29,25,24,28,27,26] (pO 65 71),p 30 (mv 72),j 73 [p 31 (fa 5 1),p 32 (ld 74),p 31 (fa 7 1),p 34 (lo 3 76),p 35 (ca n_Qdr [77]),K 33 [36,35,34] (bt .gtr 75 78)],K 31 [37,33,32,36,35,34] (pO 73 79)],b (T 80) (q [r 2 [z (.mv fF)],.ret]) .skip],q [r 81 [fa 10 1,ld 81,le 82,fa 1 1,ld 84,bt .neq 83 85,mv 86,j 87 [fa 10 1,ld 88,cb n_Qaj [T 89,f n_Qc3]],pO 87 90],b (T 91) (q [r 2 [z (.mv fF)],.ret]) .skip],q [r 92 [fa 4 1,ld 92,bc .neq 93 1,mv 94,i 95 [fa 6 1,ld 96,mv 97],j 98 [fa 11 1,ld 99,le 100,fa 12 1,ld 102,le 103,bt .add 101 104,bc .gtr 105 0],i 95 [pO 98 106],pA 95 107],b (T 108) (q [r 2 [z (.mv fF)],.ret]) .skip],r 3 [z (.mv (c (-1)))],q [r 109 [fa 11 1,ld 109,le 110,z (.mv (c 0))],.blk 0 (.loop l_Qdo_0)],r 3 [z (.mv (c (-1)))],q [r 133 [fa 12 1,ld 133,le 134,z (.mv (c 0))],.blk 2 (.loop l_Qc3)],r 2 [z (.mv fT)],.ret]
def a_Qdo:AFunc:=⟨184,1,[.tmp 0 2],b_Qdo⟩
def b_Qaw:ACode:=q [r 2 [z (.mv fF)],r 3 [mv 0,ca n_Qa5 [3],mv 4,i 5 [mv 0,ni 6,fa 0 7,fa 4 8,ld 9,e 10 0],pA 5 11,D 2 (mv 12)],.ret]
def a_Qaw:AFunc:=⟨13,1,[.tmp 0 2],b_Qaw⟩
def l_Qbp_0:ACode:=q [r 16 [bt .lss 15 14],b (T 16) .skip (.exit 0),.blk 1 (q [r 17 [ia 1 13 15,ld 17,D 4 (mv 18)],r 19 [mv 4,bc .lss 19 0,mv 20,j 21 [mv 4,bc .gtr 22 2147483647],pO 21 23],b (T 24) (q [r 2 [z (.mv fF)],.ret]) .skip]),r 15 [D 25 (bc .add 15 1),mv 25]]
def b_Qbp:ACode:=q [r 1 [y 3 (.box (T 0)),z (.mv fF)],q [r 5 [fa 0 1,ld 5,fa 1 1,ld 7,fa 2 1,ld 9,fa 3 1,ld 11,y 3 (.bslice 1 4 [I0] [(0,1,T 6),(1,1,T 8),(2,1,T 10),(3,1,T 12)]),le 13,z (.mv (c 0))],.blk 0 (.loop l_Qbp_0)],r 26 [fa 4 1,ld 26,ca n_Qds [27],mv 28,i 29 [fa 2 1,ld 30,bc .gtr 31 0,mv 32],j 33 [fa 4 1,ld 34,le 35,e 36 0],i 29 [pO 33 37],pA 29 38,D 2 (mv 39)],.ret]
def a_Qbp:AFunc:=⟨40,1,[.tmp 0 2],b_Qbp⟩
def b_Qbc:ACode:=q [r 2 [z (.mv (c 0))],r 3 [mv 0,ni 3,fa 0 4,fa 7 5,lo 3 6,ca n_Qdr [7],D 2 (mv 8)],.ret]
def a_Qbc:AFunc:=⟨9,1,[.tmp 0 2],b_Qbc⟩
def b_Qa2:ACode:=q [r 1 [y 3 (.box (T 0)),y 3 (.alloc [I0,I0,I0,I0,.nsl])],r 3 [fa 4 1,ld 3,y 2 (.append 3 32 nS (T 4)),fa 4 1,so 1 6 5],r 7 [lo 5 1,so 5 2 7],.ret]
def a_Qa2:AFunc:=⟨8,1,[.cell 0 2 true 5],b_Qa2⟩
def l_Qbq_0:ACode:=q [r 11 [bt .lss 10 9],b (T 11) .skip (.exit 0),.blk 1 (q [r 4 [D 12 (mv 10),mv 12],r 13 [mv 4,mv 0,ni 14,fa 0 15,fa 0 16,ld 17,bt .neq 13 18],b (T 19) (r 20 [mv 0,mv 4,lo 20 3,M 2 (ca n_Qbf [20,21,22])]) .skip]),r 10 [D 24 (bc .add 10 1),mv 24]]
def b_Qbq:ACode:=q [r 3 [y 3 (.box (T 1))],r 5 [mv 0,ni 5,fa 0 6,fa 1 7,ld 8,z (.mv (c 0))],.blk 0 (.loop l_Qbq_0)]
def a_Qbq:AFunc:=⟨25,2,[],b_Qbq⟩
def l_Qeb_0:ACode:=q [q [r 99 [mv 3,fa 10 1,ld 100,le 101,bt .lss 99 102],b (T 103) .skip (.exit 0)],.blk 1 (q [r 106 [fa 10 1,ld 106,mv 3,ia 1 107 108,ld 109,ca n_Qd4 [110],no 111],b (T 112) (q [r 2 [z (.mv fF)],.ret]) .skip]),r 104 [mv 3,bc .add 104 1,D 3 (mv 105)]]
def l_Qeb_1:ACode:=q [q [r 113 [mv 4,fa 11 1,ld 114,le 115,bt .lss 113 116],b (T 117) .skip (.exit 2)],.blk 3 (q [r 120 [fa 11 1,ld 120,mv 4,ia 1 121 122,ld 123,D 5 (mv 124)],r 125 [mv 5,bc .lss 125 0,mv 126,j 127 [mv 5,fa 1 1,ld 129,bt .geq 128 130],pO 127 131,mv 132,j 133 [mv 5,fa 0 1,ld 135,E 134 136],pO 133 137,mv 138,j 139 [mv 4,bc .gtr 140 0,mv 141],i 142 [fa 11 1,ld 143,mv 4,bc .sub 145 1,ia 1 144 146,ld 147,mv 5,bt .geq 148 149],j 139 [pA 142 150],pO 139 151],b (T 152) (q [r 2 [z (.mv fF)],.ret]) .skip]),r 118 [mv 4,bc .add 118 1,D 4 (mv 119)]]
def l_Qeb_2:ACode:=q [q [r 153 [mv 6,fa 12 1,ld 154,le 155,bt .lss 153 156],b (T 157) .skip (.exit 4)],.blk 5 (q [r 160 [fa 12 1,ld 160,mv 6,ia 6 161 162,lo 6 163,D 7 (y 3 (.alloc [I0,I0,I0,I0,.str 0 0,.nsl])),so 6 7 164],d 165 [fa 0 7,p 0 (ld 165),p 1 (bc .lss 166 0),p 2 (mv 167),j 168 [p 3 (fa 0 7),p 4 (ld 169),p 3 (fa 1 1),p 6 (ld 171),K 5 [7,6] (bt .geq 170 172)],K 3 [8,5,4,7,6] (pO 168 173),p 9 (mv 174),j 175 [p 10 (fa 0 7),p 11 (ld 176),p 10 (fa 0 1),p 13 (ld 178),K 12 [14,13] (E 177 179)],K 10 [15,12,11,14,13] (pO 175 180),p 16 (mv 181),j 182 [p 17 (mv 6),p 18 (bc .gtr 183 0),p 19 (mv 184)],i 185 [p 20 (fa 12 1),p 21 (ld 186),p 20 (mv 6),p 23 (bc .sub 188 1),K 22 [24,23] (ia 6 187 189),p 25 (fa 0 190),p 26 (ld 191),p 20 (fa 0 7),p 28 (ld 193),K 27 [29,28] (bt .geq 192 194)],j 182 [K 20 [30,27,26,25,22,21,24,23,29,28] (pA 185 195)],K 17 [31,20,19,18,30,27,26,25,22,21,24,23,29,28] (pO 182 196),p 32 (mv 197),j 198 [p 33 (fa 3 7),p 34 (lo 3 199),p 35 (ca n_Qdu [200]),p 36 (no 201)],K 33 [37,36,35,34] (pO 198 202),p 38 (mv 203),j 204 [p 39 (fa 1 7),p 40 (ld 205),p 41 (bc .lss 206 0)],K 39 [42,41,40] (pO 204 207),p 43 (mv 208),j 209 [p 44 (fa 1 7),p 45 (ld 210),p 44 (fa 2 1),p 47 (ld 212),K 46 [48,47] (bt .geq 211 213)],K 44 [49,46,45,48,47] (pO 209 214),p 50 (mv 215),j 216 [p 51 (fa 2 7),p 52 (ld 217),p 53 (bc .lss 218 0)],K 51 [54,53,52] (pO 216 219)],b (T 220) (q [r 2 [z (.mv fF)],.ret]) .skip]),r 158 [mv 6,bc .add 158 1,D 6 (mv 159)]]
def b_Qeb:ACode:=q [r 1 [y 3 (.box (T 0)),z (.mv fF)],q [r 8 [fa 1 1,ld 8,ca n_Qdt [9],no 10,mv 11,j 12 [fa 0 1,ld 13,bc .lss 14 0],pO 12 15,mv 16,j 17 [fa 0 1,ld 18,fa 1 1,ld 20,bt .geq 19 21],pO 17 22,mv 23,j 24 [fa 4 1,ld 25,bc .lss 26 0],pO 24 27,mv 28,j 29 [fa 4 1,ld 30,bc .gtr 31 2],pO 29 32,mv 33,j 34 [fa 2 1,ld 35,ca n_Qd4 [36],no 37],pO 34 38,mv 39,j 40 [fa 3 1,ld 41,ca n_Qd4 [42],no 43],pO 40 44,mv 45,j 46 [fa 5 1,ld 47,ca n_Qd4 [48],no 49],pO 46 50,mv 51,j 52 [fa 3 1,ld 53,fa 2 1,ld 55,bt .gtr 54 56],pO 52 57,mv 58,j 59 [fa 4 1,ld 60,e 61 0,mv 62],i 63 [fa 3 1,ld 64,fa 2 1,ld 66,bt .neq 65 67],j 59 [pA 63 68],pO 59 69],b (T 70) (q [r 2 [z (.mv fF)],.ret]) .skip],q [d 71 [fa 7 1,p 0 (lo 3 71),p 1 (ca n_Qdu [72]),p 2 (no 73),p 3 (mv 74),j 75 [p 4 (fa 5 1),p 5 (ld 76),p 4 (fa 7 1),p 7 (fa 0 78),p 8 (ld 79),K 6 [9,8,7] (bt .lss 77 80)],K 4 [10,6,5,9,8,7] (pO 75 81),p 11 (mv 82),j 83 [p 12 (fa 5 1),p 13 (ld 84),p 12 (fa 7 1),p 15 (lo 3 86),p 16 (ca n_Qd2 [87]),K 14 [17,16,15] (bt .gtr 85 88)],K 12 [18,14,13,17,16,15] (pO 83 89),p 19 (mv 90),j 91 [p 20 (fa 10 1),p 21 (ld 92),p 22 (le 93),p 20 (fa 1 1),p 24 (ld 95),K 23 [25,24] (bt .neq 94 96)],K 20 [26,23,22,21,25,24] (pO 91 97)],b (T 98) (q [r 2 [z (.mv fF)],.ret]) .skip],q [r 3 [z (.mv (c 0))],.blk 0 (.loop l_Qeb_0)],q [r 4 [z (.mv (c 0))],.blk 2 (.loop l_Qeb_1)],q [r 6 [z (.mv (c 0))],.blk 4 (.loop l_Qeb_2)],r 221 [fa 4 1,ld 221,e 222 1,mv 223,j 224 [fa 11 1,ld 225,le 226,e 227 0,mv 228],i 229 [fa 12 1,ld 230,le 231,e 232 0],j 224 [pA 229 233,mv 234],i 235 [fa 6 1,ld 236,no 237],j 224 [pA 235 238],pO 224 239,D 2 (mv 240)],.ret]
def a_Qeb:AFunc:=⟨241,1,[.tmp 0 2],b_Qeb⟩
def b_Qcx:ACode:=q [r 1 [y 3 (.box (T 0)),z (.mv fF)],r 3 [fa 0 1,ld 3,ca n_Qd4 [4],mv 5,i 6 [fa 1 1,ld 7,ca n_Qd4 [8]],pA 6 9,mv 10,i 11 [fa 2 1,ld 12,ca n_Qd4 [13]],pA 11 14,mv 15,i 16 [fa 3 1,ld 17,ca n_Qd4 [18]],pA 16 19,mv 20,i 21 [fa 4 1,ld 22,ca n_Qd5 [23]],pA 21 24,mv 25,i 26 [fa 2 1,ld 27,bc .gtr 28 0,mv 29],j 30 [fa 4 1,ld 31,le 32,e 33 0],i 26 [pO 30 34],pA 26 35,D 2 (mv 36)],.ret]
def a_Qcx:AFunc:=⟨37,1,[.tmp 0 2],b_Qcx⟩
def b_Qd2:ACode:=q [r 1 [y 3 (.box (T 0)),z (.mv (c 0))],r 3 [fa 0 1,ld 3,fa 2 1,ld 5,le 6,bt .add 4 7,D 2 (mv 8)],.ret]
def a_Qd2:AFunc:=⟨9,1,[.tmp 0 2],b_Qd2⟩
def l_Qd3_0:ACode:=q [q [r 23 [mv 4,mv 3,le 24,bt .lss 23 25],b (T 26) .skip (.exit 0)],.blk 1 (q [r 29 [mv 3,mv 4,ia 6 29 30,lo 6 31,D 5 (y 3 (.alloc [I0,I0,I0,I0,.str 0 0,.nsl])),so 6 5 32],r 33 [fa 3 5,lo 3 33,ca n_Qdh [34],fa 3 5,so 3 36 35],r 37 [fa 12 1,ld 37,lo 6 5,y 3 (.bslice 6 1 [I0,I0,I0,I0,.str 0 0,.nsl] [(0,6,T 39)]),y 2 (.append 6 72 (T 38) (T 40)),fa 12 1,so 1 42 41]]),r 27 [mv 4,bc .add 27 1,D 4 (mv 28)]]
def b_Qd3:ACode:=q [r 1 [y 3 (.box (T 0)),y 3 (.alloc [I0,I0,I0,I0,I0,I0,.bool false,I0,.str 0 0,.nsl,.nsl,.nsl,.nsl])],r 6 [fa 7 1,lo 3 6,ca n_Qdh [7],fa 7 1,so 3 9 8],r 10 [y 3 (.bslice 1 0 [I0] []),fa 10 1,ld 11,y 2 (.append 1 8 (T 10) (T 12)),fa 10 1,so 1 14 13],r 15 [y 3 (.bslice 1 0 [I0] []),fa 11 1,ld 16,y 2 (.append 1 8 (T 15) (T 17)),fa 11 1,so 1 19 18],r 20 [fa 12 1,ld 20,D 3 (mv 21)],r 22 [fa 12 1,sv 1 22 nS],q [r 4 [z (.mv (c 0))],.blk 0 (.loop l_Qd3_0)],r 43 [lo 13 1,so 13 2 43],.ret]
def a_Qd3:AFunc:=⟨44,1,[.cell 0 2 true 13],b_Qd3⟩
def l_Qcg_0:ACode:=q [q [r 5 [mv 4,mv 0,ni 6,fa 0 7,fa 1 8,ld 9,bt .lss 5 10],b (T 11) .skip (.exit 0)],.blk 1 (q [r 14 [mv 4,mv 0,ni 15,fa 0 16,fa 0 17,ld 18,bt .neq 14 19],b (T 20) (r 21 [mv 0,mv 4,lo 20 3,M 2 (ca n_Qb7 [21,22,23])]) .skip]),r 12 [mv 4,bc .add 12 1,D 4 (mv 13)]]
def b_Qcg:ACode:=q [r 3 [y 3 (.box (T 1))],r 4 [z (.mv (c 0))],.blk 0 (.loop l_Qcg_0)]
def a_Qcg:AFunc:=⟨25,2,[],b_Qcg⟩
def l_Qdf_0:ACode:=q [q [r 27 [mv 5,fa 2 2,ld 28,le 29,bt .lss 27 30],b (T 31) .skip (.exit 0)],.blk 1 (q [d 34 [fa 2 2,p 0 (ld 34),mv 5,K 1 [2] (ia 5 35 36),p 3 (lo 5 37),fa 2 3,p 5 (ld 39),mv 5,K 6 [7] (ia 5 40 41),p 8 (lo 5 42),K 4 [9,8,6,5,7] (ca n_Qcn [38,43]),p 10 (no 44)],b (T 45) (q [r 4 [z (.mv fF)],.ret]) .skip]),r 32 [mv 5,bc .add 32 1,D 5 (mv 33)]]
def b_Qdf:ACode:=q [r 2 [y 3 (.box (T 0)),y 3 (.box (T 1)),z (.mv fF)],q [r 6 [fa 0 2,ld 6,fa 0 3,ld 8,bt .neq 7 9,mv 10,j 11 [fa 1 2,ld 12,fa 1 3,ld 14,z (.sbin .neq (T 13) (T 15))],pO 11 16,mv 17,j 18 [fa 2 2,ld 19,le 20,fa 2 3,ld 22,le 23,bt .neq 21 24],pO 18 25],b (T 26) (q [r 4 [z (.mv fF)],.ret]) .skip],q [r 5 [z (.mv (c 0))],.blk 0 (.loop l_Qdf_0)],r 4 [z (.mv fT)],.ret]
def a_Qdf:AFunc:=⟨46,2,[.tmp 0 4],b_Qdf⟩
def b_Qec:ACode:=q [r 2 [y 3 (.box (T 0)),y 3 (.box (T 1)),z (.mv fF)],r 5 [fa 0 2,ld 5,fa 0 3,ld 7,E 6 8,mv 9,i 10 [fa 1 2,ld 11,fa 1 3,ld 13,E 12 14],pA 10 15,mv 16,i 17 [fa 2 2,ld 18,fa 2 3,ld 20,E 19 21],pA 17 22,mv 23,i 24 [fa 3 2,ld 25,fa 3 3,ld 27,E 26 28],pA 24 29,mv 30,i 31 [fa 4 2,ld 32,fa 4 3,ld 34,E 33 35],pA 31 36,mv 37,i 38 [fa 5 2,ld 39,fa 5 3,ld 41,E 40 42],pA 38 43,mv 44,i 45 [fa 6 2,ld 46,fa 6 3,ld 48,E 47 49],pA 45 50,mv 51,i 52 [fa 7 2,ld 53,fa 7 3,ld 55,E 54 56],pA 52 57,mv 58,i 59 [fa 8 2,ld 60,fa 8 3,ld 62,E 61 63],pA 59 64,mv 65,i 66 [fa 9 2,ld 67,fa 9 3,ld 69,E 68 70],pA 66 71,mv 72,i 73 [fa 10 2,ld 74,fa 10 3,ld 76,E 75 77],pA 73 78,mv 79,i 80 [fa 11 2,ld 81,fa 11 3,ld 83,E 82 84],pA 80 85,mv 86,i 87 [fa 12 2,ld 88,fa 12 3,ld 90,E 89 91],pA 87 92,mv 93,i 94 [fa 13 2,ld 95,fa 13 3,ld 97,E 96 98],pA 94 99,mv 100,i 101 [fa 14 2,ld 102,fa 14 3,ld 104,z (.sbin .eql (T 103) (T 105))],pA 101 106,mv 107,i 108 [fa 19 2,ld 109,fa 19 3,ld 111,z (.sbin .eql (T 110) (T 112))],pA 108 113,mv 114,i 115 [fa 15 2,ld 116,fa 15 3,ld 118,ca n_Qb9 [117,119]],pA 115 120,mv 121,i 122 [fa 16 2,lo 3 123,fa 16 3,lo 3 125,ca n_Qdf [124,126]],pA 122 127,D 4 (mv 128)],.ret]
def a_Qec:AFunc:=⟨129,2,[.tmp 0 4],b_Qec⟩
def l_Qcy_0:ACode:=q [q [r 3 [mv 2,fa 2 1,ld 4,le 5,bt .lss 3 6],b (T 7) .skip (.exit 0)],.blk 1 (q [d 10 [fa 2 1,p 0 (ld 10),mv 2,fa 2 1,p 3 (ld 13),mv 2,K 4 [5] (ia 5 14 15),p 6 (fa 0 16),p 7 (ld 17),p 8 (bc .xor 18 90),K 1 [2,3,4,5,6,7,8,9] (ia 5 11 12),p 10 (fa 0 20),p 11 (so 1 21 19)],r 22 [fa 2 1,ld 22,mv 2,ia 5 23 24,fa 4 25,ld 26,M 2 (ca n_Qbr [27])]]),r 8 [mv 2,bc .add 8 1,D 2 (mv 9)]]
def b_Qcy:ACode:=q [r 1 [y 3 (.box (T 0))],r 2 [z (.mv (c 0))],.blk 0 (.loop l_Qcy_0)]
def a_Qcy:AFunc:=⟨29,1,[],b_Qcy⟩
def l_Qch_0:ACode:=q [q [r 3 [mv 2,mv 0,le 4,bt .lss 3 5],b (T 6) .skip (.exit 0)],.blk 1 (r 9 [mv 0,mv 2,mv 0,mv 2,ia 1 11 12,ld 13,z (.bin .sub (c (-9)) (T 14)),ia 1 9 10,so 1 16 15]),r 7 [mv 2,bc .add 7 1,D 2 (mv 8)]]
def b_Qch:ACode:=q [r 2 [z (.mv (c 0))],.blk 0 (.loop l_Qch_0)]
def a_Qch:AFunc:=⟨17,1,[],b_Qch⟩
def l_Qbr_0:ACode:=q [q [r 3 [mv 2,mv 0,le 4,bt .lss 3 5],b (T 6) .skip (.exit 0)],.blk 1 (r 9 [mv 0,mv 2,mv 0,mv 2,ia 3 11 12,fa 2 13,ld 14,bc .xor 15 90,ia 3 9 10,fa 2 17,so 1 18 16]),r 7 [mv 2,bc .add 7 1,D 2 (mv 8)]]
def b_Qbr:ACode:=q [r 2 [z (.mv (c 0))],.blk 0 (.loop l_Qbr_0)]
def a_Qbr:AFunc:=⟨19,1,[],b_Qbr⟩
def b_Qdg:ACode:=q [r 2 [y 3 (.box (T 0)),y 3 (.box (T 1)),z (.mv fF)],r 5 [fa 0 2,ld 5,fa 0 3,ld 7,E 6 8,mv 9,i 10 [fa 1 2,ld 11,fa 1 3,ld 13,z (.sbin .eql (T 12) (T 14))],pA 10 15,mv 16,i 17 [fa 2 2,ld 18,fa 2 3,ld 20,ca n_Qbm [19,21]],pA 17 22,D 4 (mv 23)],.ret]
def a_Qdg:AFunc:=⟨24,2,[.tmp 0 4],b_Qdg⟩
def b_Qcz:ACode:=q [r 4 [z (.mv fF)],r 6 [mv 0,mv 0,le 7,bc .add 8 2,z (.slc false 1 (T 6) none (some (T 9)) none),D 5 (mv 10)],r 11 [mv 0,mv 1,ca n_Qc5 [11,12],mv 13,i 14 [mv 5,mv 1,le 16,ia 1 15 17,ld 18,e 19 (-7777)],pA 14 20,mv 21,i 22 [mv 5,mv 1,le 24,bc .add 25 1,ia 1 23 26,ld 27,e 28 (-8888)],pA 22 29,D 4 (mv 30)],.ret]
def a_Qcz:AFunc:=⟨31,2,[.tmp 0 4],b_Qcz⟩
def b_Qb4:ACode:=q [r 4 [z (.mv fF)],r 6 [mv 0,mv 0,le 7,bc .add 8 2,z (.slc false 3 (T 6) none (some (T 9)) none),D 5 (mv 10)],r 11 [mv 0,mv 1,ca n_Qca [11,12],mv 13,i 14 [mv 5,mv 1,le 16,ia 3 15 17,lo 3 18,z (.build [.str 0 0,I0,I0] [(1,1,c 77777)]),z (.eqs [2,0,0] false (T 19) (T 20))],pA 14 21,mv 22,i 23 [mv 5,mv 1,le 25,bc .add 26 1,ia 3 24 27,lo 3 28,z (.build [.str 0 0,I0,I0] [(1,1,c 77777)]),z (.eqs [2,0,0] false (T 29) (T 30))],pA 23 31,D 4 (mv 32)],.ret]
def a_Qb4:AFunc:=⟨33,2,[.tmp 0 4],b_Qb4⟩
def b_Qdp:ACode:=q [r 4 [y 3 (.alloc [I0,I0,I0,I0,I0,I0,.bool false,I0,.str 0 0,.nsl,.nsl,.nsl,.nsl]),z (.mv (c 0))],q [r 6 [mv 0,mv 1,ca n_Qdi [6,7],no 8],b (T 9) (q [r 5 [D 10 (z (.build [I0,I0,I0,I0,I0,I0,.bool false,I0,.str 0 0,.nsl,.nsl,.nsl,.nsl] [])),so 13 4 10,z (.mv (c 1700))],.ret]) .skip],r 11 [mv 0,mv 1,mv 1,y 3 (.mkslice 1 8 [I0] (T 13) (T 13)),z (.build [I0,I0,I0,I0,I0,I0,.bool false,I0,.str 0 0,.nsl,.nsl,.nsl,.nsl] [(0,1,T 11),(1,1,T 12),(10,1,T 14)]),so 13 4 15,D 5 (z (.mv (c 0)))],.ret]
def a_Qdp:AFunc:=⟨16,2,[.cell 0 4 true 13,.tmp 0 5],b_Qdp⟩
def b_Qeh:ACode:=q [r 2 [z (.mv (c 0))],r 2 [D 3 (mv 0),mv 3],.ret]
def a_Qeh:AFunc:=⟨4,1,[.tmp 0 2],b_Qeh⟩
def b_Qb5:ACode:=q [r 4 [z (.mv (c 0))],q [r 5 [mv 1,bc .lss 5 1,mv 6,j 7 [mv 0,bc .lss 8 0],pO 7 9],b (T 10) (q [r 4 [z (.mv (c 0))],.ret]) .skip],r 11 [mv 0,mv 1,bt .rem 11 12,D 4 (mv 13)],.ret]
def a_Qb5:AFunc:=⟨14,2,[.tmp 0 4],b_Qb5⟩
def l_Qbd_0:ACode:=q [r 14 [bt .lss 13 12],b (T 14) .skip (.exit 0),.blk 1 (q [r 15 [mv 13,ia 1 11 13,ld 16,D 8 (mv 15),D 9 (mv 17)],r 18 [mv 8,mv 1,bt .neq 18 19],b (T 20) (r 21 [mv 7,mv 9,y 3 (.bslice 1 1 [I0] [(0,1,T 22)]),y 2 (.append 1 8 (T 21) (T 23)),D 7 (mv 24)]) .skip]),r 13 [D 25 (bc .add 13 1),mv 25]]
def b_Qbd:ACode:=q [r 6 [z (.mv (c 0))],r 7 [z (.mv nS)],q [r 11 [mv 0,le 11,z (.mv (c 0))],.blk 0 (.loop l_Qbd_0)],r 26 [mv 0,le 26,bc .sub 27 1,bc .quo 28 2,D 10 (mv 29)],q [r 30 [mv 0,le 30,e 31 0,mv 32,j 33 [mv 10,bc .leq 34 0],pO 33 35],b (T 36) (q [r 37 [mv 2,z (.max (c 0) [T 37]),D 6 (mv 38)],.ret]) .skip],q [r 39 [mv 7,le 39,mv 10,bt .lss 40 41],b (T 42) (q [r 6 [z (.mv (c 0))],.ret]) .skip],r 43 [mv 7,M 2 (ca n_Qaz [43])],r 45 [mv 2,mv 7,mv 7,le 47,mv 10,bt .sub 48 49,ia 1 46 50,ld 51,z (.min (T 45) [T 52]),z (.max (c 0) [T 53]),D 6 (mv 54)],.ret]
def a_Qbd:AFunc:=⟨55,3,[.tmp 0 6],b_Qbd⟩
def b_Qa3:ACode:=q [r 4 [mv 0,mv 0,mv 1,ni 4,fa 0 7,fa 2 8,so 1 9 6,ni 5,fa 0 10,fa 4 11,sv 1 12 (c 1)],r 13 [mv 0,M 2 (ca n_Qbh [13])],r 15 [mv 0,mv 0,ca n_Qa4 [16],M 2 (ca n_Qbq [15,17])]]
def a_Qa3:AFunc:=⟨19,2,[],b_Qa3⟩
def l_Qax_0:ACode:=q [r 62 [bt .lss 61 60],b (T 62) .skip (.exit 0),.blk 1 (q [r 63 [ia 6 59 61,lo 6 63,D 7 (y 3 (.alloc [I0,I0,I0,I0,.str 0 0,.nsl])),so 6 7 64],r 65 [mv 5,fa 2 7,ld 66,z (.max (T 65) [T 67]),D 5 (mv 68)]]),r 61 [D 69 (bc .add 61 1),mv 69]]
def b_Qax:ACode:=q [q [d 8 [mv 0,p 0 (ni 8),p 1 (fa 0 9),p 2 (fa 4 10),p 3 (ld 11),p 4 (bc .neq 12 1),p 5 (mv 13),j 14 [p 6 (mv 0),p 7 (ni 15),p 8 (fa 0 16),p 9 (fa 12 17),p 10 (ld 18),p 11 (le 19),p 6 (mv 0),p 13 (ca n_Qa0 [21]),K 12 [14,13] (bt .lss 20 22)],K 6 [15,12,11,10,9,8,7,14,13] (pO 14 23)],b (T 24) .ret .skip],d 25 [mv 0,p 0 (ni 25),p 1 (fa 0 26),p 2 (fa 12 27),p 3 (ld 28),p 4 (ca n_Qan [29]),mv 0,p 6 (ni 31),p 7 (fa 0 32),p 8 (fa 0 33),p 9 (ld 34),mv 0,p 11 (ni 36),p 12 (fa 0 37),p 13 (fa 3 38),p 14 (ld 39),mv 0,p 16 (ni 41),p 17 (fa 0 42),p 18 (fa 5 43),p 19 (ld 44),mv 0,p 21 (ni 46),p 22 (fa 0 47),p 23 (fa 7 48),p 24 (lo 3 49),K 10 [15,14,13,12,11,20,19,18,17,16,25,24,23,22,21] (z (.build [I0,I0,I0,I0,.str 0 0,.nsl] [(0,1,T 35),(1,1,T 40),(2,1,T 45),(3,3,T 50)])),p 26 (y 3 (.bslice 6 1 [I0,I0,I0,I0,.str 0 0,.nsl] [(0,6,T 51)])),K 5 [27,26,10,9,8,7,6,15,14,13,12,11,20,19,18,17,16,25,24,23,22,21] (y 2 (.append 6 72 (T 30) (T 52))),D 2 (p 28 (mv 53))],r 55 [mv 2,ca n_Qdv [55],D 54 (mv 56),ex 54 0,ex 54 1,D 3 (mv 57),D 4 (mv 58)],r 5 [z (.mv (c 0))],q [r 59 [mv 2,le 59,z (.mv (c 0))],.blk 0 (.loop l_Qax_0)],r 70 [mv 0,mv 2,mv 3,ia 6 71 72,fa 3 73,lo 3 74,mv 5,M 2 (ca n_Qbi [70,75,76])],b (T 77) (q [d 78 [mv 0,mv 0,p 1 (ni 79),p 2 (fa 0 80),p 3 (fa 5 81),p 4 (ld 82),mv 0,p 6 (ni 84),p 7 (fa 0 85),p 8 (fa 10 86),p 9 (ld 87),mv 0,p 11 (ni 89),p 12 (fa 0 90),p 13 (fa 0 91),p 14 (ld 92),mv 0,p 16 (ca n_Qbc [94]),K 10 [15,14,13,12,11,17,16] (ca n_Qbd [88,93,95]),K 5 [18,10,9,8,7,6,15,14,13,12,11,17,16] (z (.max (T 83) [T 96])),X [0,1,2,3,4,5,6,7,8,9,10,11,12,13,14,15,16,17,18,19] (ni 78),p 20 (fa 0 98),p 21 (fa 5 99),p 22 (so 1 100 97)],d 101 [mv 0,mv 0,p 1 (ni 102),p 2 (fa 0 103),p 3 (fa 2 104),p 4 (ld 105),mv 0,p 6 (ni 107),p 7 (fa 0 108),p 8 (fa 5 109),p 9 (ld 110),mv 0,p 11 (ni 112),p 12 (fa 0 113),p 13 (fa 7 114),p 14 (lo 3 115),K 5 [10,9,8,7,6,15,14,13,12,11] (z (.build [I0,I0,I0,I0,I0,I0,I0,I0,I0,I0,I0,I0,I0,I0,.str 0 0,.nsl,I0,.str 0 0,.nsl,.str 0 0] [(0,1,c 9),(3,1,T 106),(6,1,T 111),(16,3,T 116)])),X [0,16,5,4,3,2,1,10,9,8,7,6,15,14,13,12,11] (M 2 (ca n_Qbq [101,117]))]]) .skip]
def a_Qax:AFunc:=⟨119,1,[],b_Qax⟩
def b_Qbs:ACode:=q [r 3 [y 3 (.box (T 1)),y 3 (.alloc [I0,I0,I0,I0,I0,I0,.bool false,I0,.str 0 0,.nsl,.nsl,.nsl,.nsl]),z (.mv nS)],q [r 6 [mv 0,ni 6,fa 14 7,ld 8],b (T 9) (q [r 10 [lo 13 3,ca n_Qc0 [10],so 13 4 11,D 5 (z (.mv nS))],.ret]) .skip],d 12 [mv 0,p 0 (ni 12),p 1 (fa 0 13),p 2 (lo 13 14),mv 0,p 4 (ni 16),p 5 (fa 13 17),p 6 (ld 18),p 3 (M 4 (so 13 4 15)),D 5 (K 7 [8,3,2,1,0] (mv 19))],.ret]
def a_Qbs:AFunc:=⟨20,2,[.cell 0 4 true 13,.tmp 0 5],b_Qbs⟩
def b_Qbt:ACode:=q [r 4 [mv 0,mv 1,ni 4,fa 0 6,fa 2 7,so 1 8 5],r 9 [mv 0,ni 9,fa 0 10,fa 4 11,sv 1 12 (c 1)],r 13 [mv 0,M 2 (ca n_Qbx [13])],r 15 [mv 0,mv 1,z (.build [I0,I0,I0,I0,I0,I0,I0,I0,I0,I0,I0,I0,I0,I0,.str 0 0,.nsl,I0,.str 0 0,.nsl,.str 0 0] [(0,1,c 7),(3,1,T 16)]),M 2 (ca n_Qcg [15,17])]]
def a_Qbt:AFunc:=⟨19,2,[],b_Qbt⟩
def l_Qbe_0:ACode:=q [q [r 60 [mv 6,mv 2,le 61,bt .lss 60 62],b (T 63) .skip (.exit 0)],.blk 1 (r 66 [mv 5,mv 2,mv 6,ia 6 67 68,fa 2 69,ld 70,z (.max (T 66) [T 71]),D 5 (mv 72)]),r 64 [mv 6,bc .add 64 1,D 6 (mv 65)]]
def b_Qbe:ACode:=q [q [d 7 [mv 0,p 0 (ni 7),p 1 (fa 0 8),p 2 (fa 4 9),p 3 (ld 10),p 4 (bc .neq 11 1),p 5 (mv 12),j 13 [p 6 (mv 0),p 7 (ni 14),p 8 (fa 0 15),p 9 (fa 12 16),p 10 (ld 17),p 11 (le 18),p 6 (mv 0),p 13 (ca n_Qdj [20]),K 12 [14,13] (bt .lss 19 21)],K 6 [15,12,11,10,9,8,7,14,13] (pO 13 22)],b (T 23) .ret .skip],r 24 [y 3 (.bslice 6 0 [I0,I0,I0,I0,.str 0 0,.nsl] []),mv 0,ni 25,fa 0 26,fa 12 27,ld 28,y 2 (.append 6 72 (T 24) (T 29)),D 2 (mv 30)],d 31 [mv 2,mv 0,p 1 (ni 32),p 2 (fa 0 33),p 3 (fa 0 34),p 4 (ld 35),mv 0,p 6 (ni 37),p 7 (fa 0 38),p 8 (fa 3 39),p 9 (ld 40),mv 0,p 11 (ni 42),p 12 (fa 0 43),p 13 (fa 5 44),p 14 (ld 45),mv 0,p 16 (ni 47),p 17 (fa 0 48),p 18 (fa 7 49),p 19 (lo 3 50),K 5 [10,9,8,7,6,15,14,13,12,11,20,19,18,17,16] (z (.build [I0,I0,I0,I0,.str 0 0,.nsl] [(0,1,T 36),(1,1,T 41),(2,1,T 46),(3,3,T 51)])),p 21 (y 3 (.bslice 6 1 [I0,I0,I0,I0,.str 0 0,.nsl] [(0,6,T 52)])),X [0,22,21,5,4,3,2,1,10,9,8,7,6,15,14,13,12,11,20,19,18,17,16] (y 2 (.append 6 72 (T 31) (T 53))),D 2 (p 23 (mv 54))],r 56 [mv 2,ca n_Qd6 [56],D 55 (mv 57),ex 55 0,ex 55 1,D 3 (mv 58),D 4 (mv 59)],r 5 [z (.mv (c 0))],q [r 6 [z (.mv (c 0))],.blk 0 (.loop l_Qbe_0)],r 73 [mv 0,mv 2,mv 3,ia 6 74 75,fa 3 76,lo 3 77,mv 5,M 2 (ca n_Qcb [73,78,79])],r 81 [mv 0,ni 81,fa 14 82,ld 83,no 84],b (T 85) (q [d 86 [mv 0,mv 0,p 1 (ni 87),p 2 (fa 0 88),p 3 (fa 5 89),p 4 (ld 90),mv 0,p 6 (ni 92),p 7 (fa 0 93),p 8 (fa 10 94),p 9 (ld 95),mv 0,p 11 (ni 97),p 12 (fa 0 98),p 13 (fa 0 99),p 14 (ld 100),mv 0,p 16 (ni 102),p 17 (fa 0 103),p 18 (fa 7 104),p 19 (lo 3 105),p 20 (ca n_Qd2 [106]),K 10 [15,14,13,12,11,21,20,19,18,17,16] (ca n_Qcc [96,101,107]),K 5 [22,10,9,8,7,6,15,14,13,12,11,21,20,19,18,17,16] (z (.max (T 91) [T 108])),X [0,1,2,3,4,5,6,7,8,9,10,11,12,13,14,15,16,17,18,19,20,21,22,23] (ni 86),p 24 (fa 0 110),p 25 (fa 5 111),p 26 (so 1 112 109)],d 113 [mv 0,mv 0,p 1 (ni 114),p 2 (fa 0 115),p 3 (fa 2 116),p 4 (ld 117),mv 0,p 6 (ni 119),p 7 (fa 0 120),p 8 (fa 5 121),p 9 (ld 122),mv 0,p 11 (ni 124),p 12 (fa 0 125),p 13 (fa 7 126),p 14 (lo 3 127),K 5 [10,9,8,7,6,15,14,13,12,11] (z (.build [I0,I0,I0,I0,I0,I0,I0,I0,I0,I0,I0,I0,I0,I0,.str 0 0,.nsl,I0,.str 0 0,.nsl,.str 0 0] [(0,1,c 9),(3,1,T 118),(6,1,T 123),(16,3,T 128)])),X [0,16,5,4,3,2,1,10,9,8,7,6,15,14,13,12,11] (M 2 (ca n_Qcg [113,129]))]]) .skip]
def a_Qbe:AFunc:=⟨131,1,[],b_Qbe⟩
def b_Qa4:ACode:=q [r 2 [y 3 (.alloc [I0,I0,I0,I0,I0,I0,I0,I0,I0,I0,I0,I0,I0,I0,.str 0 0,.nsl,I0,.str 0 0,.nsl,.str 0 0])],r 3 [mv 0,ni 3,fa 0 4,fa 2 5,ld 6,z (.build [I0,I0,I0,I0,I0,I0,I0,I0,I0,I0,I0,I0,I0,I0,.str 0 0,.nsl,I0,.str 0 0,.nsl,.str 0 0] [(0,1,c 7),(3,1,T 7)]),so 20 2 8],.ret]
def a_Qa4:AFunc:=⟨9,1,[.cell 0 2 true 20],b_Qa4⟩
def b_Qa5:ACode:=q [r 2 [z (.mv fF)],d 3 [mv 0,p 0 (ni 3),p 1 (fa 0 4),p 2 (fa 2 5),p 3 (ld 6),mv 0,p 5 (ni 8),p 6 (fa 0 9),p 7 (fa 1 10),p 8 (ld 11),K 4 [9,8,7,6,5] (ca n_Qb5 [7,12]),mv 0,p 11 (ni 14),p 12 (fa 0 15),p 13 (fa 0 16),p 14 (ld 17),K 10 [15,14,13,12,11] (E 13 18),D 2 (p 16 (mv 19))],.ret]
def a_Qa5:AFunc:=⟨20,1,[.tmp 0 2],b_Qa5⟩
def b_Qbf:ACode:=q [r 5 [y 3 (.box (T 2))],r 6 [mv 0,ni 6,fa 0 7,fa 0 8,ld 9,mv 1,fa 1 5,so 1 12 10,fa 2 5,so 1 13 11],d 14 [mv 0,mv 0,p 1 (ni 15),p 2 (fa 13 16),p 3 (ld 17),lo 20 5,p 5 (ca n_Qc6 [19]),p 6 (y 3 (.bslice 20 1 [I0,I0,I0,I0,I0,I0,I0,I0,I0,I0,I0,I0,I0,I0,.str 0 0,.nsl,I0,.str 0 0,.nsl,.str 0 0] [(0,20,T 20)])),K 4 [7,6,5] (y 2 (.append 20 216 (T 18) (T 21))),X [0,1,2,3,4,5,6,7,8] (ni 14),p 9 (fa 13 23),p 10 (so 1 24 22)]]
def a_Qbf:AFunc:=⟨25,3,[],b_Qbf⟩
def b_Qbg:ACode:=q [r 2 [y 3 (.alloc [I0,I0,I0,I0,I0,I0,I0,I0,I0,I0,I0,I0,I0,I0,.str 0 0,.nsl,I0,.str 0 0,.nsl,.str 0 0])],d 3 [mv 0,p 0 (ni 3),p 1 (fa 0 4),p 2 (fa 2 5),p 3 (ld 6),mv 0,p 5 (ni 8),p 6 (fa 0 9),p 7 (fa 3 10),p 8 (ld 11),mv 0,p 10 (ni 13),p 11 (fa 0 14),p 12 (fa 5 15),p 13 (ld 16),mv 0,p 15 (ni 18),p 16 (fa 0 19),p 17 (fa 7 20),p 18 (lo 3 21),K 4 [9,8,7,6,5,14,13,12,11,10,19,18,17,16,15] (z (.build [I0,I0,I0,I0,I0,I0,I0,I0,I0,I0,I0,I0,I0,I0,.str 0 0,.nsl,I0,.str 0 0,.nsl,.str 0 0] [(0,1,c 8),(3,1,T 7),(4,1,T 12),(6,1,T 17),(16,3,T 22)])),p 20 (so 20 2 23)],.ret]
def a_Qbg:AFunc:=⟨24,1,[.cell 0 2 true 20],b_Qbg⟩
def b_Qbu:ACode:=q [r 2 [y 3 (.alloc [I0,I0,I0,I0,I0,I0,I0,I0,I0,I0,I0,I0,I0,I0,.str 0 0,.nsl,I0,.str 0 0,.nsl,.str 0 0])],d 3 [mv 0,p 0 (ni 3),p 1 (fa 0 4),p 2 (fa 2 5),p 3 (ld 6),mv 0,p 5 (ca n_Qbc [8]),K 4 [6,5] (z (.build [I0,I0,I0,I0,I0,I0,I0,I0,I0,I0,I0,I0,I0,I0,.str 0 0,.nsl,I0,.str 0 0,.nsl,.str 0 0] [(0,1,c 10),(3,1,T 7),(5,1,T 9)])),p 7 (so 20 2 10)],.ret]
def a_Qbu:AFunc:=⟨11,1,[.cell 0 2 true 20],b_Qbu⟩
def b_Qa6:ACode:=q [r 4 [z (.mv (c 0))],r 5 [mv 1,mv 0,ni 6,fa 0 7,fa 1 8,ld 9,ca n_Qc4 [5,10],D 4 (mv 11)],.ret]
def a_Qa6:AFunc:=⟨12,2,[.tmp 0 4],b_Qa6⟩
def b_Qb6:ACode:=d 2 [mv 0,mv 0,mv 0,p 2 (ni 4),p 3 (fa 0 5),p 4 (fa 2 6),p 5 (ld 7),X [1,6,5,4,3,2] (ca n_Qa6 [3,8]),mv 0,p 8 (ni 10),p 9 (fa 0 11),p 10 (fa 2 12),p 11 (ld 13),mv 0,p 13 (ni 15),p 14 (fa 0 16),p 15 (fa 3 17),p 16 (ld 18),mv 0,p 18 (ni 20),p 19 (fa 0 21),p 20 (fa 5 22),p 21 (ld 23),mv 0,p 23 (ni 25),p 24 (fa 0 26),p 25 (fa 7 27),p 26 (lo 3 28),K 12 [17,16,15,14,13,22,21,20,19,18,27,26,25,24,23] (z (.build [I0,I0,I0,I0,I0,I0,I0,I0,I0,I0,I0,I0,I0,I0,.str 0 0,.nsl,I0,.str 0 0,.nsl,.str 0 0] [(0,1,c 8),(3,1,T 14),(4,1,T 19),(6,1,T 24),(16,3,T 29)])),X [0,7,1,6,5,4,3,2,28,12,11,10,9,8,17,16,15,14,13,22,21,20,19,18,27,26,25,24,23] (M 2 (ca n_Qb7 [2,9,30]))]
def a_Qb6:AFunc:=⟨32,1,[],b_Qb6⟩
def b_Qb7:ACode:=q [r 5 [y 3 (.box (T 2))],r 6 [mv 0,ni 6,fa 0 7,fa 0 8,ld 9,fa 1 5,so 1 11 10],r 12 [mv 1,fa 2 5,so 1 13 12],r 14 [fa 16 5,lo 3 14,ca n_Qdh [15],fa 16 5,so 3 17 16],d 18 [mv 0,mv 0,p 1 (ni 19),p 2 (fa 13 20),p 3 (ld 21),lo 20 5,p 5 (y 3 (.bslice 20 1 [I0,I0,I0,I0,I0,I0,I0,I0,I0,I0,I0,I0,I0,I0,.str 0 0,.nsl,I0,.str 0 0,.nsl,.str 0 0] [(0,20,T 23)])),K 4 [6,5] (y 2 (.append 20 216 (T 22) (T 24))),X [0,1,2,3,4,5,6,7] (ni 18),p 8 (fa 13 26),p 9 (so 1 27 25)]]
def a_Qb7:AFunc:=⟨28,3,[],b_Qb7⟩
def l_Qc0_0:ACode:=q [r 24 [bt .lss 23 22],b (T 24) .skip (.exit 0),.blk 1 (q [r 3 [D 25 (mv 23),mv 25],d 26 [fa 12 1,p 0 (ld 26),mv 3,fa 12 1,p 3 (ld 29),mv 3,K 4 [5] (ia 6 30 31),p 6 (fa 3 32),p 7 (lo 3 33),p 8 (ca n_Qby [34]),K 1 [2,3,4,5,6,7,8,9] (ia 6 27 28),p 10 (fa 3 36),p 11 (so 3 37 35)]]),r 23 [D 38 (bc .add 23 1),mv 38]]
def b_Qc0:ACode:=q [r 1 [y 3 (.box (T 0)),y 3 (.alloc [I0,I0,I0,I0,I0,I0,.bool false,I0,.str 0 0,.nsl,.nsl,.nsl,.nsl])],r 4 [fa 7 1,lo 3 4,ca n_Qby [5],fa 7 1,so 3 7 6],d 8 [fa 10 1,p 0 (ld 8),p 1 (ca n_Qau [9]),fa 11 1,p 3 (ld 11),K 4 [2,1,0] (ca n_Qau [12]),fa 12 1,p 6 (ld 14),K 7 [5,4,3,2,1,0] (ca n_Qan [15]),X [0,1,2,3,4,6,7] (fa 10 1),K 9 [8,5] (so 1 17 10),X [0,1,2,3,4,5,6,7,9,10,8] (fa 11 1),p 11 (so 1 18 13),X [0,1,2,3,4,5,6,7,8,9,10,11,12] (fa 12 1),p 13 (so 1 19 16)],q [r 20 [fa 12 1,ld 20,le 21,z (.mv (c 0))],.blk 0 (.loop l_Qc0_0)],r 39 [lo 13 1,so 13 2 39],.ret]
def a_Qc0:AFunc:=⟨40,1,[.cell 0 2 true 13],b_Qc0⟩
def l_Qdh_0:ACode:=q [q [r 11 [mv 4,fa 2 1,ld 12,le 13,bt .lss 11 14],b (T 15) .skip (.exit 0)],.blk 1 (q [r 18 [fa 2 1,ld 18,mv 4,ia 5 19 20,lo 5 21,D 5 (y 3 (.alloc [I0,I0,I0,I0,.nsl])),so 5 5 22],r 23 [y 3 (.bslice 3 0 [.str 0 0,I0,I0] []),fa 4 5,ld 24,y 2 (.append 3 32 (T 23) (T 25)),fa 4 5,so 1 27 26],r 28 [fa 2 3,ld 28,lo 5 5,y 3 (.bslice 5 1 [I0,I0,I0,I0,.nsl] [(0,5,T 30)]),y 2 (.append 5 56 (T 29) (T 31)),fa 2 3,so 1 33 32]]),r 16 [mv 4,bc .add 16 1,D 4 (mv 17)]]
def b_Qdh:ACode:=q [r 1 [y 3 (.box (T 0)),y 3 (.alloc [I0,.str 0 0,.nsl])],r 6 [fa 0 1,ld 6,fa 1 1,ld 8,z (.build [I0,.str 0 0,.nsl] [(0,1,T 7),(1,1,T 9)]),D 3 (y 3 (.alloc [I0,.str 0 0,.nsl])),so 3 3 10],q [r 4 [z (.mv (c 0))],.blk 0 (.loop l_Qdh_0)],r 34 [lo 3 3,so 3 2 34],.ret]
def a_Qdh:AFunc:=⟨35,1,[.cell 0 2 true 3],b_Qdh⟩
def l_Qdq_0:ACode:=q [r 27 [bt .lss 26 25],b (T 27) .skip (.exit 0),.blk 1 (q [r 28 [ia 1 24 26,ld 28,D 7 (mv 29)],r 30 [mv 7,z (.iaddrA 1 15 (T 5) (T 30)),sv 1 31 fT]]),r 26 [D 32 (bc .add 26 1),mv 32]]
def l_Qdq_1:ACode:=q [r 34 [bc .lss 33 15],b (T 34) .skip (.exit 2),.blk 3 (q [r 8 [D 35 (mv 33),mv 35],r 36 [mv 8,ca n_Qcp [1,36],D 9 (mv 37)],q [r 38 [mv 9,z (.eqn false false (T 38) (.c (.one .npt)))],b (T 39) (.exit 3) .skip],r 41 [fa 0 1,ld 41,mv 8,ca n_Qcq [42,43],D 40 (mv 44),ex 40 0,ex 40 1,D 10 (mv 45),D 11 (mv 46)],r 47 [mv 8,z (.iaddrA 1 15 (T 5) (T 47)),ld 48,no 49,mv 50,i 51 [mv 9,ni 52,ld 53,bc .neq 54 0],pA 51 55,mv 56,j 57 [mv 9,ni 58,ld 59,mv 10,bt .lss 60 61],pO 57 62,mv 63,j 64 [mv 9,ni 65,ld 66,mv 11,bt .gtr 67 68],pO 64 69],b (T 70) (q [r 2 [z (.mv fF)],.ret]) .skip]),r 33 [D 71 (bc .add 33 1),mv 71]]
def b_Qdq:ACode:=q [r 1 [y 3 (.box (T 0)),z (.mv fF)],r 13 [fa 0 1,ld 13,ca n_Qco [14],D 12 (mv 15),ex 12 0,ex 12 1,D 3 (mv 16),D 4 (mv 17)],q [r 18 [mv 4,no 18,mv 19,j 20 [ca n_Qdw [1],no 21],pO 20 22],b (T 23) (q [r 2 [z (.mv fF)],.ret]) .skip],r 5 [y 3 (.alloc [.bool false,.bool false,.bool false,.bool false,.bool false,.bool false,.bool false,.bool false,.bool false,.bool false,.bool false,.bool false,.bool false,.bool false,.bool false])],q [r 24 [mv 3,le 24,z (.mv (c 0))],.blk 0 (.loop l_Qdq_0)],q [r 33 [z (.mv (c 0))],.blk 2 (.loop l_Qdq_1)],q [r 72 [z (.iaddrA 1 15 (T 5) (c 11)),ld 72,mv 73,i 74 [fa 14 1,ld 75,ca n_Qd7 [76],no 77],pA 74 78,mv 79,j 80 [z (.iaddrA 1 15 (T 5) (c 11)),ld 81,no 82,mv 83],i 84 [fa 14 1,ld 85,z (.sbin .neq (T 86) (.c (.one (.str 0 0))))],j 80 [pA 84 87],pO 80 88,mv 89,j 90 [fa 19 1,ld 91,z (.len true (T 92)),bc .gtr 93 65536],pO 90 94,mv 95,j 96 [z (.iaddrA 1 15 (T 5) (c 14)),ld 97,no 98,mv 99],i 100 [fa 19 1,ld 101,z (.sbin .neq (T 102) (.c (.one (.str 0 0))))],j 96 [pA 100 103],pO 96 104],b (T 105) (q [r 2 [z (.mv fF)],.ret]) .skip],q [r 106 [fa 15 1,ld 106,ca n_Qds [107],no 108,mv 109,j 110 [z (.iaddrA 1 15 (T 5) (c 12)),ld 111,no 112,mv 113],i 114 [fa 15 1,ld 115,le 116,bc .gtr 117 0],j 110 [pA 114 118],pO 110 119],b (T 120) (q [r 2 [z (.mv fF)],.ret]) .skip],r 121 [fa 16 1,lo 3 121,ca n_Qcm [122],mv 123,i 124 [z (.iaddrA 1 15 (T 5) (c 13)),ld 125,mv 126],j 127 [fa 16 1,fa 0 128,ld 129,e 130 0,mv 131],i 132 [fa 16 1,fa 2 133,ld 134,le 135,e 136 0],j 127 [pA 132 137],i 124 [pO 127 138],pA 124 139,D 2 (mv 140)],.ret]
def a_Qdq:AFunc:=⟨141,1,[.tmp 0 2],b_Qdq⟩
def b_Qay:ACode:=q [r 3 [y 3 (.box (T 1))],q [d 5 [fa 3 3,p 0 (ld 5),mv 0,p 2 (ni 7),p 3 (fa 0 8),p 4 (fa 2 9),p 5 (ld 10),K 1 [6,5,4,3,2] (bt .gtr 6 11),p 7 (mv 12),j 13 [p 8 (mv 0),p 9 (ni 14),p 10 (fa 0 15),p 11 (fa 4 16),p 12 (ld 17),p 13 (bc .neq 18 0)],K 8 [14,13,12,11,10,9] (pO 13 19)],b (T 20) (q [r 21 [mv 0,fa 3 3,ld 22,M 2 (ca n_Qbz [21,23])],.ret]) .skip],r 25 [mv 0,ca n_Qbc [25],D 4 (mv 26)],q [r 27 [fa 0 3,ld 27,e 28 4],b (T 29) (r 30 [mv 4,bc .add 30 1,D 4 (mv 31)]) .skip],q [r 32 [fa 5 3,ld 32,mv 4,bt .gtr 33 34],b (T 35) (d 36 [mv 0,fa 1 3,p 1 (ld 37),mv 0,p 3 (ca n_Qbu [39]),X [0,2,1,4,3] (M 2 (ca n_Qbf [36,38,40]))]) .skip],q [r 42 [fa 0 3,ld 42,e 43 4,mv 44,i 45 [fa 5 3,ld 46,mv 4,E 47 48],pA 45 49,mv 50,i 51 [mv 0,ca n_Qbc [52],bc .lss 53 4096],pA 51 54],b (T 55) (d 56 [mv 0,mv 0,p 1 (ni 57),p 2 (fa 0 58),p 3 (fa 7 59),p 4 (fa 2 60),p 5 (ld 61),fa 3 3,p 7 (ld 63),fa 8 3,p 9 (ld 65),fa 9 3,p 11 (ld 67),fa 10 3,p 13 (ld 69),fa 15 3,p 15 (ld 71),K 8 [10,9,12,11,14,13,16,15] (z (.build [I0,I0,I0,I0,.nsl] [(0,1,T 64),(1,1,T 66),(2,1,T 68),(3,1,T 70),(4,1,T 72)])),p 17 (ca n_Qa2 [73]),p 18 (y 3 (.bslice 5 1 [I0,I0,I0,I0,.nsl] [(0,5,T 74)])),K 6 [19,18,17,8,7,10,9,12,11,14,13,16,15] (y 2 (.append 5 56 (T 62) (T 75))),X [0,1,2,3,4,5,6,7,8,9,10,11,12,13,14,15,16,17,18,19,20] (ni 56),p 21 (fa 0 77),p 22 (fa 7 78),p 23 (fa 2 79),p 24 (so 1 80 76)]) .skip],r 81 [mv 0,fa 6 3,ld 82,M 2 (ca n_Qba [81,83])],d 85 [fa 0 3,p 0 (ld 85),p 1 (e 86 4),p 2 (mv 87),i 88 [p 3 (fa 5 3),p 4 (ld 89),p 3 (mv 0),p 6 (ca n_Qbc [91]),K 5 [7,6] (bt .leq 90 92)],K 3 [8,5,4,7,6] (pA 88 93)],b (T 94) (d 95 [mv 0,fa 1 3,p 1 (ld 96),mv 0,p 3 (ca n_Qb0 [98]),X [0,2,1,4,3] (M 2 (ca n_Qbf [95,97,99]))]) .skip]
def a_Qay:AFunc:=⟨101,2,[],b_Qay⟩
def b_Qa7:ACode:=q [r 3 [y 3 (.box (T 1))],q [d 4 [mv 0,p 0 (ca n_Qaw [4]),p 1 (no 5),p 2 (mv 6),j 7 [p 3 (fa 3 3),p 4 (ld 8),p 3 (mv 0),p 6 (ni 10),p 7 (fa 0 11),p 8 (fa 2 12),p 9 (ld 13),K 5 [10,9,8,7,6] (bt .gtr 9 14)],K 3 [11,5,4,10,9,8,7,6] (pO 7 15)],b (T 16) .ret .skip],d 17 [mv 0,p 0 (ni 17),p 1 (fa 0 18),p 2 (fa 10 19),p 3 (ld 20),fa 1 3,p 5 (ld 22),mv 0,p 7 (ni 24),p 8 (fa 0 25),p 9 (fa 10 26),p 10 (ld 27),fa 1 3,p 12 (ld 29),K 11 [13,12] (ia 1 28 30),p 14 (ld 31),fa 5 3,p 16 (ld 33),mv 0,p 18 (ca n_Qbc [35]),K 17 [19,18] (z (.min (T 34) [T 36])),K 15 [20,17,16,19,18] (z (.max (T 32) [T 37])),K 4 [6,5,7,8,9,10,11,12,13,14,15,16,17,18,19,20,21] (ia 1 21 23),p 22 (so 1 39 38)],d 40 [mv 0,mv 0,p 1 (ni 41),p 2 (fa 0 42),p 3 (fa 5 43),p 4 (ld 44),mv 0,p 6 (ni 46),p 7 (fa 0 47),p 8 (fa 10 48),p 9 (ld 49),mv 0,p 11 (ni 51),p 12 (fa 0 52),p 13 (fa 0 53),p 14 (ld 54),mv 0,p 16 (ca n_Qbc [56]),K 10 [15,14,13,12,11,17,16] (ca n_Qbd [50,55,57]),K 5 [18,10,9,8,7,6,15,14,13,12,11,17,16] (z (.max (T 45) [T 58])),X [0,1,2,3,4,5,6,7,8,9,10,11,12,13,14,15,16,17,18,19] (ni 40),p 20 (fa 0 60),p 21 (fa 5 61),p 22 (so 1 62 59)]]
def a_Qa7:AFunc:=⟨63,2,[],b_Qa7⟩
def b_Qat:ACode:=q [r 3 [y 3 (.box (T 1))],q [d 6 [fa 3 3,p 0 (ld 6),mv 0,p 2 (ni 8),p 3 (fa 0 9),p 4 (fa 2 10),p 5 (ld 11),K 1 [6,5,4,3,2] (bt .gtr 7 12)],b (T 13) (r 14 [mv 0,fa 3 3,ld 15,M 2 (ca n_Qa3 [14,16])]) .skip],q [r 18 [mv 0,ni 18,fa 0 19,fa 4 20,ld 21,bc .neq 22 1],b (T 23) .ret .skip],q [d 25 [mv 0,p 0 (ni 25),p 1 (fa 0 26),p 2 (fa 11 27),p 3 (ld 28),fa 1 3,p 5 (ld 30),K 4 [6,5] (ca n_Qak [29,31]),D 24 (p 7 (mv 32)),p 8 (ex 24 0),p 8 (ex 24 1),D 4 (p 9 (mv 33)),D 5 (K 10 [11,9] (mv 34))],r 35 [mv 5,no 35],b (T 36) (d 37 [mv 0,mv 0,p 1 (ni 38),p 2 (fa 0 39),p 3 (fa 11 40),p 4 (ld 41),mv 4,fa 1 3,p 7 (ld 44),p 8 (y 3 (.bslice 1 1 [I0] [(0,1,T 45)])),K 5 [6,9,8,7] (M 2 (ca n_Qas [42,43,46])),X [0,1,2,3,4,5,6,7,8,9,10] (ni 37),p 11 (fa 0 48),p 12 (fa 11 49),p 13 (so 1 50 47)]) .skip],q [d 51 [mv 0,p 0 (ni 51),p 1 (fa 0 52),p 2 (fa 11 53),p 3 (ld 54),p 4 (le 55),mv 0,p 6 (ca n_Qa0 [57]),K 5 [7,6] (bt .lss 56 58),p 8 (mv 59),j 60 [p 9 (mv 0),p 10 (ni 61),p 11 (fa 0 62),p 12 (fa 6 63),p 13 (ld 64)],K 9 [14,13,12,11,10] (pO 60 65)],b (T 66) .ret .skip],r 67 [mv 0,ni 67,fa 0 68,fa 6 69,sv 1 70 fT],q [r 71 [mv 0,ca n_Qa5 [71]],b (T 72) (q [r 73 [mv 0,M 2 (ca n_Qax [73])],.ret]) .skip],d 75 [mv 0,mv 0,p 1 (ni 76),p 2 (fa 0 77),p 3 (fa 2 78),p 4 (ld 79),mv 0,p 6 (ni 81),p 7 (fa 0 82),p 8 (fa 1 83),p 9 (ld 84),K 5 [10,9,8,7,6] (ca n_Qb5 [80,85]),mv 0,X [12,11,5,4,3,2,1,10,9,8,7,6] (ca n_Qbg [87]),X [0,11,5,4,3,2,1,10,9,8,7,6,13,12] (M 2 (ca n_Qbf [75,86,88]))]]
def a_Qat:AFunc:=⟨90,2,[],b_Qat⟩
theorem i_Qat (x0 x1:AV):textP P fu a_Qat [x0,x1] fz mu n k=dcode pOrc False (CP P) fz fu b_Qat (tmE 90 (envI [x0,x1])) mu n (endP fz [] k):=rfl
def b_Qa8:ACode:=q [r 3 [y 3 (.box (T 1))],q [d 7 [fa 3 3,p 0 (ld 7),mv 0,p 2 (ni 9),p 3 (fa 0 10),p 4 (fa 2 11),p 5 (ld 12),K 1 [6,5,4,3,2] (bt .gtr 8 13)],b (T 14) (r 15 [mv 0,fa 3 3,ld 16,M 2 (ca n_Qa3 [15,17])]) .skip],q [r 19 [mv 0,ni 19,fa 0 20,fa 4 21,ld 22,bc .neq 23 1],b (T 24) .ret .skip],d 25 [fa 1 3,p 0 (ld 25),fa 4 3,p 2 (ld 27),fa 6 3,p 4 (ld 29),fa 16 3,p 6 (lo 3 31),p 7 (ca n_Qby [32]),K 1 [3,2,5,4,8,7,6] (z (.build [I0,I0,I0,I0,.str 0 0,.nsl] [(0,1,T 26),(1,1,T 28),(2,1,T 30),(3,3,T 33)])),D 4 (y 3 (.alloc [I0,I0,I0,I0,.str 0 0,.nsl])),X [10,9,1,0,3,2,5,4,8,7,6] (so 6 4 34)],d 36 [mv 0,p 0 (ni 36),p 1 (fa 0 37),p 2 (fa 12 38),p 3 (ld 39),fa 1 3,p 5 (ld 41),K 4 [6,5] (cb n_Qaa [T 40,T 42,f n_Qav]),D 35 (p 7 (mv 43)),p 8 (ex 35 0),p 8 (ex 35 1),D 5 (p 9 (mv 44)),D 6 (K 10 [11,9] (mv 45))],q [r 46 [mv 6],b (T 46) (d 47 [mv 0,p 0 (ni 47),p 1 (fa 0 48),p 2 (fa 12 49),p 3 (ld 50),mv 5,lo 6 4,K 4 [5,6] (ia 6 51 52),p 7 (so 6 54 53)]) (d 55 [mv 0,mv 0,p 1 (ni 56),p 2 (fa 0 57),p 3 (fa 12 58),p 4 (ld 59),mv 5,lo 6 4,p 7 (y 3 (.bslice 6 1 [I0,I0,I0,I0,.str 0 0,.nsl] [(0,6,T 62)])),K 5 [6,8,7] (M 2 (ca n_Qal [60,61,63])),X [0,1,2,3,4,5,6,7,8,9] (ni 55),p 10 (fa 0 65),p 11 (fa 12 66),p 12 (so 1 67 64)])],r 68 [mv 0,M 2 (ca n_Qax [68])]]
def a_Qa8:AFunc:=⟨70,2,[],b_Qa8⟩
theorem i_Qa8 (x0 x1:AV):textP P fu a_Qa8 [x0,x1] fz mu n k=dcode pOrc False (CP P) fz fu b_Qa8 (tmE 70 (envI [x0,x1])) mu n (endP fz [] k):=rfl
def b_Qa9:ACode:=q [r 3 [y 3 (.box (T 1))],r 5 [fa 16 3,lo 3 5,ca n_Qdr [6],D 4 (mv 7)],.blk 0 (q [d 9 [mv 0,p 0 (ni 9),p 1 (fa 0 10),p 2 (fa 3 11),p 3 (ld 12),fa 3 3,p 5 (ld 14),K 4 [6,5] (E 13 15),p 7 (mv 16),i 17 [p 8 (mv 4),p 8 (mv 0),p 10 (ca n_Qbc [19]),K 9 [11,10] (bt .lss 18 20)],K 8 [12,9,11,10] (pA 17 21),D 8 (p 13 (mv 22))],b (T 8) .ret (q [d 24 [fa 3 3,p 0 (ld 24),mv 0,p 2 (ni 26),p 3 (fa 0 27),p 4 (fa 2 28),p 5 (ld 29),K 1 [6,5,4,3,2] (E 25 30),p 7 (mv 31),i 32 [p 8 (mv 0),p 9 (ni 33),p 10 (fa 0 34),p 11 (fa 4 35),p 12 (ld 36),p 13 (e 37 0)],K 8 [14,13,12,11,10,9] (pA 32 38),p 15 (mv 39),i 40 [p 16 (fa 0 3),p 17 (ld 41),p 18 (e 42 9),p 19 (mv 43)],j 44 [p 20 (mv 4),p 20 (mv 0),p 22 (ca n_Qbc [46]),K 21 [23,22] (bt .leq 45 47)],i 40 [K 20 [24,21,23,22] (pO 44 48)],K 16 [25,20,19,18,17,24,21,23,22] (pA 40 49),D 23 (p 26 (mv 50))],b (T 23) .ret .skip])]),r 51 [mv 0,fa 3 3,ld 52,ni 51,fa 0 54,fa 2 55,so 1 56 53],r 57 [mv 0,fa 16 3,lo 3 58,fa 6 3,ld 60,M 2 (ca n_Qbi [57,59,61])],b (T 62) (d 63 [mv 0,fa 1 3,p 1 (ld 64),mv 0,p 3 (ca n_Qb0 [66]),X [0,2,1,4,3] (M 2 (ca n_Qbf [63,65,67]))]) .skip]
def a_Qa9:AFunc:=⟨69,2,[],b_Qa9⟩
theorem i_Qa9 (x0 x1:AV):textP P fu a_Qa9 [x0,x1] fz mu n k=dcode pOrc False (CP P) fz fu b_Qa9 (tmE 69 (envI [x0,x1])) mu n (endP fz [] k):=rfl
def b_Qei:ACode:=q [r 1 [y 3 (.box (T 0)),z (.mv fF)],q [r 7 [fa 0 1,ld 7,bc .lss 8 0,mv 9,j 10 [fa 0 1,ld 11,bc .gtr 12 16],pO 10 13],b (T 14) (q [r 2 [z (.mv fF)],.ret]) .skip],r 15 [fa 0 1,ld 15,ca n_Qdx [16],D 3 (mv 17)],d 18 [fa 1 1,p 0 (ld 18),p 1 (ca n_Qed [19]),fa 2 1,p 3 (ld 21),K 4 [2,1,0] (ca n_Qed [22]),D 4 (K 2 [5,4,3] (mv 20)),D 5 (K 5 [6] (mv 23))],q [r 24 [fa 0 1,ld 24,e 25 0,mv 26,j 27 [fa 0 1,ld 28,e 29 2],pO 27 30],b (T 31) (r 32 [fa 1 1,ld 32,ca n_Qdy [33],D 4 (mv 34)]) .skip],q [r 35 [fa 0 1,ld 35,e 36 1,mv 37,j 38 [fa 0 1,ld 39,e 40 3],pO 38 41],b (T 42) (r 43 [fa 2 1,ld 43,ca n_Qdy [44],D 5 (mv 45)]) .skip],r 46 [mv 4,mv 46,i 47 [mv 5],pA 47 48,mv 49,i 50 [lo 20 1,mv 3,ca n_Qdz [51,52]],pA 50 53,mv 54,i 55 [mv 3,bc .and 56 1,bc .gtr 57 0,fa 3 1,ld 59,ca n_Qd8 [58,60]],pA 55 61,mv 62,i 63 [mv 3,bc .and 64 2,bc .gtr 65 0,fa 4 1,ld 67,ca n_Qd8 [66,68]],pA 63 69,mv 70,i 71 [mv 3,bc .and 72 8,bc .gtr 73 0,fa 6 1,ld 75,ca n_Qd8 [74,76]],pA 71 77,mv 78,i 79 [mv 3,bc .and 80 16,bc .gtr 81 0,fa 7 1,ld 83,ca n_Qd8 [82,84]],pA 79 85,mv 86,i 87 [mv 3,bc .and 88 32,bc .gtr 89 0,fa 8 1,ld 91,ca n_Qd8 [90,92]],pA 87 93,mv 94,i 95 [mv 3,bc .and 96 64,bc .gtr 97 0,fa 9 1,ld 99,ca n_Qd8 [98,100]],pA 95 101,mv 102,i 103 [mv 3,bc .and 104 128,bc .gtr 105 0,fa 10 1,ld 107,ca n_Qd8 [106,108]],pA 103 109,D 6 (mv 110)],r 111 [mv 6,mv 111,i 112 [mv 3,bc .and 113 256,bc .gtr 114 0,mv 115],i 116 [fa 11 1,ld 117,bc .geq 118 0],i 112 [pA 116 119,mv 120],i 121 [fa 11 1,ld 122,bc .leq 123 9],i 112 [pA 121 124,mv 125],j 126 [mv 3,bc .and 127 256,e 128 0,mv 129],i 130 [fa 11 1,ld 131,e 132 0],j 126 [pA 130 133],i 112 [pO 126 134],pA 112 135,D 6 (mv 136)],r 137 [mv 6,mv 137,i 138 [mv 3,bc .and 139 512,bc .gtr 140 0,mv 141],i 142 [fa 12 1,ld 143,bc .geq 144 0],i 138 [pA 142 145,mv 146],i 147 [fa 12 1,ld 148,bc .leq 149 4],i 138 [pA 147 150,mv 151],j 152 [mv 3,bc .and 153 512,e 154 0,mv 155],i 156 [fa 12 1,ld 157,e 158 0],j 152 [pA 156 159],i 138 [pO 152 160],pA 138 161,D 6 (mv 162)],r 163 [mv 6,mv 163,i 164 [mv 3,bc .and 165 2048,bc .gtr 166 0,mv 167],i 168 [fa 14 1,ld 169,ca n_Qee [170]],i 164 [pA 168 171,mv 172],j 173 [mv 3,bc .and 174 2048,e 175 0,mv 176],i 177 [fa 14 1,ld 178,z (.sbin .eql (T 179) (.c (.one (.str 0 0))))],j 173 [pA 177 180],i 164 [pO 173 181],pA 164 182,D 6 (mv 183)],r 184 [mv 6,mv 184,i 185 [mv 3,bc .and 186 4096,bc .gtr 187 0,mv 188],i 189 [fa 15 1,ld 190,ca n_Qd5 [191]],i 185 [pA 189 192,mv 193],j 194 [mv 3,bc .and 195 4096,e 196 0,mv 197],i 198 [fa 15 1,ld 199,le 200,e 201 0],j 194 [pA 198 202],i 185 [pO 194 203],pA 185 204,D 6 (mv 205)],r 206 [mv 6,mv 206,i 207 [mv 3,bc .and 208 8192,bc .gtr 209 0,mv 210],i 211 [fa 16 1,lo 3 212,ca n_Qdu [213]],i 207 [pA 211 214,mv 215],j 216 [mv 3,bc .and 217 8192,e 218 0,mv 219],i 220 [fa 16 1,lo 3 221,ca n_Qd9 [222]],j 216 [pA 220 223],i 207 [pO 216 224],pA 207 225,D 6 (mv 226)],r 227 [mv 6,mv 227,i 228 [mv 3,bc .and 229 16384,bc .gtr 230 0,mv 231],i 232 [fa 19 1,ld 233,z (.len true (T 234)),bc .leq 235 65536],i 228 [pA 232 236,mv 237],j 238 [mv 3,bc .and 239 16384,e 240 0,mv 241],i 242 [fa 19 1,ld 243,z (.sbin .eql (T 244) (.c (.one (.str 0 0))))],j 238 [pA 242 245],i 228 [pO 238 246],pA 228 247,D 2 (mv 248)],.ret]
def a_Qei:AFunc:=⟨249,1,[.tmp 0 2],b_Qei⟩
theorem i_Qei (x0:AV):textP P fu a_Qei [x0] fz mu n k=dcode pOrc False (CP P) fz fu b_Qei (tmE 249 (envI [x0])) mu n (endP fz [.tmp 0 2] k):=rfl
def b_Qbv:ACode:=q [r 3 [y 3 (.box (T 1))],q [d 5 [fa 1 3,p 0 (ld 5),mv 0,fa 3 3,p 3 (ld 8),X [2,4,3] (ca n_Qa6 [7,9]),K 1 [5,2,4,3] (bt .neq 6 10),p 6 (mv 11),j 12 [p 7 (mv 0),p 8 (ni 13),p 9 (fa 0 14),p 10 (fa 0 15),p 11 (ld 16),p 7 (mv 0),p 7 (fa 3 3),p 14 (ld 19),K 13 [15,14] (ca n_Qa6 [18,20]),K 12 [16,13,15,14] (E 17 21)],K 7 [17,12,11,10,9,8,16,13,15,14] (pO 12 22)],b (T 23) .ret .skip],q [d 24 [fa 3 3,p 0 (ld 24),mv 0,p 2 (ni 26),p 3 (fa 0 27),p 4 (fa 2 28),p 5 (ld 29),K 1 [6,5,4,3,2] (bt .gtr 25 30),p 7 (mv 31),j 32 [p 8 (mv 0),p 9 (ni 33),p 10 (fa 0 34),p 11 (fa 4 35),p 12 (ld 36),p 13 (bc .neq 37 0)],K 8 [14,13,12,11,10,9] (pO 32 38)],b (T 39) (q [r 40 [mv 0,fa 3 3,ld 41,M 2 (ca n_Qcr [40,42])],.ret]) .skip],d 44 [fa 5 3,p 0 (ld 44),mv 0,p 2 (ni 46),p 3 (fa 0 47),p 4 (fa 7 48),p 5 (lo 3 49),p 6 (ca n_Qd2 [50]),K 1 [7,6,5,4,3,2] (bt .gtr 45 51),D 4 (p 8 (mv 52))],q [d 53 [fa 0 3,p 0 (ld 53),p 1 (e 54 4),p 2 (mv 55),i 56 [p 3 (fa 5 3),p 4 (ld 57),p 3 (mv 0),p 6 (ni 59),p 7 (fa 0 60),p 8 (fa 7 61),p 9 (lo 3 62),p 10 (ca n_Qd2 [63]),p 11 (bc .add 64 1),K 5 [12,11,10,9,8,7,6] (E 58 65)],K 3 [13,5,4,12,11,10,9,8,7,6] (pA 56 66),p 14 (mv 67),i 68 [p 15 (mv 0),p 16 (ni 69),p 17 (fa 0 70),p 18 (fa 7 71),p 19 (lo 3 72),p 20 (ca n_Qd2 [73]),p 21 (bc .lss 74 4096)],K 15 [22,21,20,19,18,17,16] (pA 68 75)],b (T 76) (q [d 77 [mv 0,mv 0,p 1 (ni 78),p 2 (fa 0 79),p 3 (fa 7 80),p 4 (fa 2 81),p 5 (ld 82),fa 3 3,p 7 (ld 84),fa 8 3,p 9 (ld 86),fa 9 3,p 11 (ld 88),fa 10 3,p 13 (ld 90),y 3 (.bslice 3 0 [.str 0 0,I0,I0] []),fa 15 3,p 16 (ld 93),X [15,17,16] (y 4 (.append 3 32 (T 92) (T 94))),K 8 [10,9,12,11,14,13,18,15,17,16] (z (.build [I0,I0,I0,I0,.nsl] [(0,1,T 85),(1,1,T 87),(2,1,T 89),(3,1,T 91),(4,1,T 95)])),p 19 (y 3 (.bslice 5 1 [I0,I0,I0,I0,.nsl] [(0,5,T 96)])),K 6 [20,19,8,7,10,9,12,11,14,13,18,15,17,16] (y 2 (.append 5 56 (T 83) (T 97))),X [0,1,2,3,4,5,6,7,8,9,10,11,12,13,14,15,16,17,18,19,20,21] (ni 77),p 22 (fa 0 99),p 23 (fa 7 100),p 24 (fa 2 101),p 25 (so 1 102 98)],r 4 [z (.mv fF)]]) .skip],q [d 103 [fa 0 3,p 0 (ld 103),p 1 (e 104 4),p 2 (mv 105),i 106 [p 3 (fa 5 3),p 4 (ld 107),p 3 (mv 0),p 6 (ni 109),p 7 (fa 0 110),p 8 (fa 7 111),p 9 (lo 3 112),p 10 (ca n_Qd2 [113]),p 11 (bc .add 114 1),K 5 [12,11,10,9,8,7,6] (E 108 115)],K 3 [13,5,4,12,11,10,9,8,7,6] (pA 106 116)],b (T 117) (r 4 [z (.mv fF)]) .skip],q [r 118 [mv 4],b (T 118) (d 119 [mv 0,fa 1 3,p 1 (ld 120),fa 3 3,p 3 (ld 122),mv 0,p 5 (ni 124),p 6 (fa 0 125),p 7 (fa 7 126),p 8 (lo 3 127),p 9 (ca n_Qd2 [128]),K 4 [10,9,8,7,6,5] (z (.build [I0,I0,I0,I0,I0,I0,I0,I0,I0,I0,I0,I0,I0,I0,.str 0 0,.nsl,I0,.str 0 0,.nsl,.str 0 0] [(0,1,c 10),(3,1,T 123),(5,1,T 129)])),X [0,2,1,11,4,3,10,9,8,7,6,5] (M 2 (ca n_Qb7 [119,121,130]))]) .skip],d 132 [mv 0,mv 0,p 1 (ni 133),p 2 (fa 0 134),p 3 (fa 5 135),p 4 (ld 136),fa 6 3,p 6 (ld 138),mv 0,p 8 (ni 140),p 9 (fa 0 141),p 10 (fa 7 142),p 11 (lo 3 143),p 12 (ca n_Qd2 [144]),K 7 [13,12,11,10,9,8] (z (.min (T 139) [T 145])),K 5 [14,7,6,13,12,11,10,9,8] (z (.max (T 137) [T 146])),X [0,1,2,3,4,5,6,7,8,9,10,11,12,13,14,15] (ni 132),p 16 (fa 0 148),p 17 (fa 5 149),p 18 (so 1 150 147)],d 151 [fa 0 3,p 0 (ld 151),p 1 (e 152 4),p 2 (mv 153),i 154 [p 3 (fa 5 3),p 4 (ld 155),p 3 (mv 0),p 6 (ni 157),p 7 (fa 0 158),p 8 (fa 7 159),p 9 (lo 3 160),p 10 (ca n_Qd2 [161]),K 5 [11,10,9,8,7,6] (bt .leq 156 162)],K 3 [12,5,4,11,10,9,8,7,6] (pA 154 163)],b (T 164) (d 165 [mv 0,fa 1 3,p 1 (ld 166),fa 3 3,p 3 (ld 168),mv 0,p 5 (ni 170),p 6 (fa 0 171),p 7 (fa 7 172),p 8 (lo 3 173),p 9 (ca n_Qd2 [174]),K 4 [10,9,8,7,6,5] (z (.build [I0,I0,I0,I0,I0,I0,I0,I0,I0,I0,I0,I0,I0,I0,.str 0 0,.nsl,I0,.str 0 0,.nsl,.str 0 0] [(0,1,c 5),(3,1,T 169),(5,1,T 175)])),X [0,2,1,11,4,3,10,9,8,7,6,5] (M 2 (ca n_Qb7 [165,167,176]))]) .skip]
def a_Qbv:AFunc:=⟨178,2,[],b_Qbv⟩
def b_Qci:ACode:=q [r 3 [y 3 (.box (T 1))],q [d 4 [mv 0,fa 3 3,p 1 (ld 5),X [0,2,1] (ca n_Qa6 [4,6]),mv 0,p 4 (ni 8),p 5 (fa 0 9),p 6 (fa 0 10),p 7 (ld 11),K 3 [8,7,6,5,4] (bt .neq 7 12),p 9 (mv 13),j 14 [p 10 (fa 3 3),p 11 (ld 15),p 10 (mv 0),p 13 (ni 17),p 14 (fa 0 18),p 15 (fa 2 19),p 16 (ld 20),K 12 [17,16,15,14,13] (bt .gtr 16 21)],K 10 [18,12,11,17,16,15,14,13] (pO 14 22),p 19 (mv 23),j 24 [p 20 (mv 0),p 21 (ni 25),p 22 (fa 0 26),p 23 (fa 4 27),p 24 (ld 28),p 25 (bc .neq 29 0)],K 20 [26,25,24,23,22,21] (pO 24 30)],b (T 31) .ret .skip],d 32 [mv 0,p 0 (ni 32),p 1 (fa 0 33),p 2 (fa 10 34),p 3 (ld 35),fa 1 3,p 5 (ld 37),mv 0,p 7 (ni 39),p 8 (fa 0 40),p 9 (fa 10 41),p 10 (ld 42),fa 1 3,p 12 (ld 44),K 11 [13,12] (ia 1 43 45),p 14 (ld 46),fa 5 3,p 16 (ld 48),mv 0,p 18 (ni 50),p 19 (fa 0 51),p 20 (fa 7 52),p 21 (lo 3 53),p 22 (ca n_Qd2 [54]),K 17 [23,22,21,20,19,18] (z (.min (T 49) [T 55])),K 15 [24,17,16,23,22,21,20,19,18] (z (.max (T 47) [T 56])),K 4 [6,5,7,8,9,10,11,12,13,14,15,16,17,18,19,20,21,22,23,24,25] (ia 1 36 38),p 26 (so 1 58 57)],d 59 [mv 0,mv 0,p 1 (ni 60),p 2 (fa 0 61),p 3 (fa 5 62),p 4 (ld 63),mv 0,p 6 (ni 65),p 7 (fa 0 66),p 8 (fa 10 67),p 9 (ld 68),mv 0,p 11 (ni 70),p 12 (fa 0 71),p 13 (fa 0 72),p 14 (ld 73),mv 0,p 16 (ni 75),p 17 (fa 0 76),p 18 (fa 7 77),p 19 (lo 3 78),p 20 (ca n_Qd2 [79]),K 10 [15,14,13,12,11,21,20,19,18,17,16] (ca n_Qcc [69,74,80]),K 5 [22,10,9,8,7,6,15,14,13,12,11,21,20,19,18,17,16] (z (.max (T 64) [T 81])),X [0,1,2,3,4,5,6,7,8,9,10,11,12,13,14,15,16,17,18,19,20,21,22,23] (ni 59),p 24 (fa 0 83),p 25 (fa 5 84),p 26 (so 1 85 82)]]
def a_Qci:AFunc:=⟨86,2,[],b_Qci⟩
def b_Qbw:ACode:=q [r 3 [y 3 (.box (T 1))],q [d 4 [fa 3 3,p 0 (ld 4),mv 0,p 2 (ni 6),p 3 (fa 0 7),p 4 (fa 2 8),p 5 (ld 9),K 1 [6,5,4,3,2] (bt .gtr 5 10)],b (T 11) (r 12 [mv 0,fa 3 3,ld 13,M 2 (ca n_Qbt [12,14])]) .skip],q [r 16 [mv 0,ni 16,fa 0 17,fa 4 18,ld 19,bc .neq 20 1],b (T 21) .ret .skip],d 22 [mv 0,mv 0,p 1 (ni 23),p 2 (fa 0 24),p 3 (fa 11 25),p 4 (ld 26),fa 1 3,p 6 (ld 28),K 5 [7,6] (ca n_Qef [27,29]),X [0,1,2,3,4,5,6,7,8] (ni 22),p 9 (fa 0 31),p 10 (fa 11 32),p 11 (so 1 33 30)],q [d 34 [mv 0,p 0 (ni 34),p 1 (fa 0 35),p 2 (fa 11 36),p 3 (ld 37),p 4 (le 38),mv 0,p 6 (ca n_Qdj [40]),K 5 [7,6] (bt .lss 39 41),p 8 (mv 42),j 43 [p 9 (mv 0),p 10 (ni 44),p 11 (fa 0 45),p 12 (fa 6 46),p 13 (ld 47)],K 9 [14,13,12,11,10] (pO 43 48)],b (T 49) .ret .skip],r 50 [mv 0,ni 50,fa 0 51,fa 6 52,sv 1 53 fT],q [d 54 [mv 0,mv 0,p 1 (ni 55),p 2 (fa 0 56),p 3 (fa 2 57),p 4 (ld 58),X [0,5,4,3,2,1] (ca n_Qa6 [54,59]),mv 0,p 7 (ni 61),p 8 (fa 0 62),p 9 (fa 0 63),p 10 (ld 64),K 6 [11,10,9,8,7] (E 60 65)],b (T 66) (q [r 67 [mv 0,M 2 (ca n_Qbe [67])],.ret]) .skip],r 69 [mv 0,M 2 (ca n_Qb6 [69])]]
def a_Qbw:AFunc:=⟨71,2,[],b_Qbw⟩
theorem i_Qbw (x0 x1:AV):textP P fu a_Qbw [x0,x1] fz mu n k=dcode pOrc False (CP P) fz fu b_Qbw (tmE 71 (envI [x0,x1])) mu n (endP fz [] k):=rfl
def l_Qc1_0:ACode:=q [q [r 53 [mv 7,mv 0,ni 54,fa 0 55,fa 12 56,ld 57,le 58,bt .lss 53 59],b (T 60) .skip (.exit 0)],.blk 1 (q [q [d 63 [mv 5,p 0 (no 63),p 1 (mv 64),i 65 [p 2 (mv 0),p 3 (ni 66),p 4 (fa 0 67),p 5 (fa 12 68),p 6 (ld 69),p 2 (mv 7),K 7 [8] (ia 6 70 71),p 9 (fa 0 72),p 10 (ld 73),p 2 (fa 1 3),p 12 (ld 75),K 11 [13,12] (bt .geq 74 76)],K 2 [14,11,10,9,7,6,5,4,3,8,13,12] (pA 65 77)],b (T 78) (q [r 79 [mv 4,lo 6 6,y 3 (.bslice 6 1 [I0,I0,I0,I0,.str 0 0,.nsl] [(0,6,T 80)]),y 2 (.append 6 72 (T 79) (T 81)),D 4 (mv 82)],r 5 [z (.mv fT)]]) .skip],d 83 [mv 0,p 0 (ni 83),p 1 (fa 0 84),p 2 (fa 12 85),p 3 (ld 86),mv 7,K 4 [5] (ia 6 87 88),p 6 (fa 0 89),p 7 (ld 90),fa 1 3,p 9 (ld 92),K 8 [10,9] (bt .neq 91 93)],b (T 94) (r 95 [mv 4,mv 0,ni 96,fa 0 97,fa 12 98,ld 99,mv 7,ia 6 100 101,lo 6 102,y 3 (.bslice 6 1 [I0,I0,I0,I0,.str 0 0,.nsl] [(0,6,T 103)]),y 2 (.append 6 72 (T 95) (T 104)),D 4 (mv 105)]) .skip]),r 61 [mv 7,bc .add 61 1,D 7 (mv 62)]]
def b_Qc1:ACode:=q [r 3 [y 3 (.box (T 1))],q [d 8 [mv 0,fa 3 3,p 1 (ld 9),X [0,2,1] (ca n_Qa6 [8,10]),mv 0,p 4 (ni 12),p 5 (fa 0 13),p 6 (fa 0 14),p 7 (ld 15),K 3 [8,7,6,5,4] (bt .neq 11 16),p 9 (mv 17),j 18 [p 10 (fa 4 3),p 11 (ld 19),p 10 (fa 3 3),p 13 (ld 21),K 12 [14,13] (bt .geq 20 22)],K 10 [15,12,11,14,13] (pO 18 23)],b (T 24) .ret .skip],q [d 25 [fa 3 3,p 0 (ld 25),mv 0,p 2 (ni 27),p 3 (fa 0 28),p 4 (fa 2 29),p 5 (ld 30),K 1 [6,5,4,3,2] (bt .gtr 26 31)],b (T 32) (r 33 [mv 0,fa 3 3,ld 34,M 2 (ca n_Qbt [33,35])]) .skip],q [r 37 [mv 0,ni 37,fa 0 38,fa 4 39,ld 40,bc .neq 41 1],b (T 42) .ret .skip],r 4 [z (.mv nS)],r 5 [z (.mv fF)],d 43 [fa 1 3,p 0 (ld 43),fa 4 3,p 2 (ld 45),fa 6 3,p 4 (ld 47),fa 16 3,p 6 (lo 3 49),p 7 (ca n_Qdh [50]),K 1 [3,2,5,4,8,7,6] (z (.build [I0,I0,I0,I0,.str 0 0,.nsl] [(0,1,T 44),(1,1,T 46),(2,1,T 48),(3,3,T 51)])),D 6 (y 3 (.alloc [I0,I0,I0,I0,.str 0 0,.nsl])),X [10,9,1,0,3,2,5,4,8,7,6] (so 6 6 52)],q [r 7 [z (.mv (c 0))],.blk 0 (.loop l_Qc1_0)],q [r 106 [mv 5,no 106],b (T 107) (r 108 [mv 4,lo 6 6,y 3 (.bslice 6 1 [I0,I0,I0,I0,.str 0 0,.nsl] [(0,6,T 109)]),y 2 (.append 6 72 (T 108) (T 110)),D 4 (mv 111)]) .skip],r 112 [mv 0,mv 4,ni 112,fa 0 114,fa 12 115,so 1 116 113],r 117 [mv 0,M 2 (ca n_Qbe [117])]]
def a_Qc1:AFunc:=⟨119,2,[],b_Qc1⟩
theorem i_Qc1 (x0 x1:AV):textP P fu a_Qc1 [x0,x1] fz mu n k=dcode pOrc False (CP P) fz fu b_Qc1 (tmE 119 (envI [x0,x1])) mu n (endP fz [] k):=rfl
def b_Qcj:ACode:=q [r 3 [y 3 (.box (T 1))],q [d 4 [fa 1 3,p 0 (ld 4),mv 0,fa 3 3,p 3 (ld 7),X [2,4,3] (ca n_Qa6 [6,8]),K 1 [5,2,4,3] (bt .neq 5 9),p 6 (mv 10),j 11 [p 7 (mv 0),p 8 (ni 12),p 9 (fa 0 13),p 10 (fa 0 14),p 11 (ld 15),p 7 (mv 0),p 7 (fa 3 3),p 14 (ld 18),K 13 [15,14] (ca n_Qa6 [17,19]),K 12 [16,13,15,14] (E 16 20)],K 7 [17,12,11,10,9,8,16,13,15,14] (pO 11 21),p 18 (mv 22),j 23 [p 19 (mv 0),p 20 (ni 24),p 21 (fa 0 25),p 22 (fa 3 26),p 23 (ld 27),p 19 (fa 3 3),p 25 (ld 29),K 24 [26,25] (E 28 30),p 27 (mv 31)],i 32 [p 28 (fa 16 3),p 29 (lo 3 33),p 30 (ca n_Qd2 [34]),p 28 (mv 0),p 32 (ni 36),p 33 (fa 0 37),p 34 (fa 7 38),p 35 (lo 3 39),K 36 [31,30,29] (ca n_Qd2 [40]),K 31 [37,36,35,34,33,32] (bt .lss 35 41)],j 23 [K 28 [38,31,30,29,37,36,35,34,33,32] (pA 32 42)],K 19 [39,28,27,24,23,22,21,20,26,25,38,31,30,29,37,36,35,34,33,32] (pO 23 43)],b (T 44) .ret .skip],q [d 45 [fa 3 3,p 0 (ld 45),mv 0,p 2 (ni 47),p 3 (fa 0 48),p 4 (fa 2 49),p 5 (ld 50),K 1 [6,5,4,3,2] (E 46 51),p 7 (mv 52),i 53 [p 8 (mv 0),p 9 (ni 54),p 10 (fa 0 55),p 11 (fa 4 56),p 12 (ld 57),p 13 (e 58 0)],K 8 [14,13,12,11,10,9] (pA 53 59),p 15 (mv 60),i 61 [p 16 (fa 0 3),p 17 (ld 62),p 18 (e 63 9),p 19 (mv 64)],j 65 [p 20 (fa 16 3),p 21 (lo 3 66),p 22 (ca n_Qd2 [67]),p 20 (mv 0),p 24 (ni 69),p 25 (fa 0 70),p 26 (fa 7 71),p 27 (lo 3 72),K 28 [23,22,21] (ca n_Qd2 [73]),K 23 [29,28,27,26,25,24] (bt .leq 68 74)],i 61 [K 20 [30,23,22,21,29,28,27,26,25,24] (pO 65 75)],K 16 [31,20,19,18,17,30,23,22,21,29,28,27,26,25,24] (pA 61 76)],b (T 77) .ret .skip],r 78 [mv 0,fa 3 3,ld 79,ni 78,fa 0 81,fa 2 82,so 1 83 80],r 84 [mv 0,fa 16 3,lo 3 85,fa 6 3,ld 87,M 2 (ca n_Qcb [84,86,88])],r 90 [mv 0,ni 90,fa 14 91,ld 92,no 93],b (T 94) (d 95 [mv 0,fa 1 3,p 1 (ld 96),fa 3 3,p 3 (ld 98),mv 0,p 5 (ni 100),p 6 (fa 0 101),p 7 (fa 7 102),p 8 (lo 3 103),p 9 (ca n_Qd2 [104]),K 4 [10,9,8,7,6,5] (z (.build [I0,I0,I0,I0,I0,I0,I0,I0,I0,I0,I0,I0,I0,I0,.str 0 0,.nsl,I0,.str 0 0,.nsl,.str 0 0] [(0,1,c 5),(3,1,T 99),(5,1,T 105)])),X [0,2,1,11,4,3,10,9,8,7,6,5] (M 2 (ca n_Qb7 [95,97,106]))]) .skip]
def a_Qcj:AFunc:=⟨108,2,[],b_Qcj⟩
theorem i_Qcj (x0 x1:AV):textP P fu a_Qcj [x0,x1] fz mu n k=dcode pOrc False (CP P) fz fu b_Qcj (tmE 108 (envI [x0,x1])) mu n (endP fz [] k):=rfl
def b_Qck:ACode:=q [r 3 [y 3 (.box (T 1))],d 4 [mv 0,fa 3 3,p 1 (ld 5),X [0,2,1] (ca n_Qa6 [4,6]),mv 0,p 4 (ni 8),p 5 (fa 0 9),p 6 (fa 0 10),p 7 (ld 11),K 3 [8,7,6,5,4] (E 7 12),p 9 (mv 13),i 14 [p 10 (fa 3 3),p 11 (ld 15),p 10 (mv 0),p 13 (ni 17),p 14 (fa 0 18),p 15 (fa 2 19),p 16 (ld 20),K 12 [17,16,15,14,13] (E 16 21)],K 10 [18,12,11,17,16,15,14,13] (pA 14 22),p 19 (mv 23),i 24 [p 20 (mv 0),p 21 (ni 25),p 22 (fa 0 26),p 23 (fa 4 27),p 24 (ld 28),p 25 (e 29 0)],K 20 [26,25,24,23,22,21] (pA 24 30)],b (T 31) (d 32 [mv 0,fa 1 3,p 1 (ld 33),mv 0,p 3 (ni 35),p 4 (fa 0 36),p 5 (fa 2 37),p 6 (ld 38),mv 0,p 8 (ni 40),p 9 (fa 0 41),p 10 (fa 5 42),p 11 (ld 43),mv 0,p 13 (ni 45),p 14 (fa 0 46),p 15 (fa 7 47),p 16 (lo 3 48),K 7 [12,11,10,9,8,17,16,15,14,13] (z (.build [I0,I0,I0,I0,I0,I0,I0,I0,I0,I0,I0,I0,I0,I0,.str 0 0,.nsl,I0,.str 0 0,.nsl,.str 0 0] [(0,1,c 11),(3,1,T 39),(6,1,T 44),(16,3,T 49)])),X [0,2,1,18,7,6,5,4,3,12,11,10,9,8,17,16,15,14,13] (M 2 (ca n_Qb7 [32,34,50]))]) .skip]
def a_Qck:AFunc:=⟨52,2,[],b_Qck⟩
def b_Qc2:ACode:=q [r 2 [z (.mv nS)],r 3 [y 3 (.bslice 1 0 [I0] []),mv 0,y 2 (.append 1 8 (T 3) (T 4)),D 2 (mv 5)],.ret]
def a_Qc2:AFunc:=⟨6,1,[.tmp 0 2],b_Qc2⟩
def b_Qb8:ACode:=q [r 2 [z (.mv nS)],r 3 [y 3 (.bslice 3 0 [.str 0 0,I0,I0] []),mv 0,y 2 (.append 3 32 (T 3) (T 4)),D 2 (mv 5)],.ret]
def a_Qb8:AFunc:=⟨6,1,[.tmp 0 2],b_Qb8⟩
def b_Qdi:ACode:=q [r 4 [z (.mv fF)],r 5 [mv 1,bc .geq 5 1,mv 6,i 7 [mv 1,bc .leq 8 7],pA 7 9,mv 10,i 11 [mv 1,bc .rem 12 2,e 13 1],pA 11 14,mv 15,i 16 [mv 0,bc .geq 17 0],pA 16 18,mv 19,i 20 [mv 0,mv 1,bt .lss 21 22],pA 20 23,D 4 (mv 24)],.ret]
def a_Qdi:AFunc:=⟨25,2,[.tmp 0 4],b_Qdi⟩
def b_Qcl:ACode:=q [r 2 [z (.mv fF)],r 3 [mv 0,bc .geq 3 0,mv 4,i 5 [mv 0,bc .leq 6 2147483647],pA 5 7,D 2 (mv 8)],.ret]
def a_Qcl:AFunc:=⟨9,1,[.tmp 0 2],b_Qcl⟩
def l_Qcm_0:ACode:=q [r 39 [bt .lss 38 37],b (T 39) .skip (.exit 0),.blk 1 (q [r 40 [ia 5 36 38,lo 5 40,D 4 (y 3 (.alloc [I0,I0,I0,I0,.nsl])),so 5 4 41],r 42 [lo 5 4,ca n_Qbp [42],no 43],b (T 44) (q [r 2 [z (.mv fF)],.ret]) .skip]),r 38 [D 45 (bc .add 38 1),mv 45]]
def b_Qcm:ACode:=q [r 1 [y 3 (.box (T 0)),z (.mv fF)],q [r 5 [fa 0 1,ld 5,bc .lss 6 0,mv 7,j 8 [fa 0 1,ld 9,bc .gtr 10 2147483647],pO 8 11,mv 12,j 13 [fa 1 1,ld 14,z (.len true (T 15)),bc .gtr 16 65536],pO 13 17,mv 18,j 19 [fa 0 1,ld 20,e 21 0,mv 22],i 23 [fa 1 1,ld 24,z (.sbin .neq (T 25) (.c (.one (.str 0 0))))],j 19 [pA 23 26],pO 19 27,mv 28,j 29 [fa 2 1,ld 30,le 31,bc .gtr 32 4096],pO 29 33],b (T 34) (q [r 2 [z (.mv fF)],.ret]) .skip],q [r 35 [fa 2 1,ld 35,le 36,z (.mv (c 0))],.blk 0 (.loop l_Qcm_0)],r 2 [z (.mv fT)],.ret]
def a_Qcm:AFunc:=⟨46,1,[.tmp 0 2],b_Qcm⟩
def b_Qdr:ACode:=q [r 1 [y 3 (.box (T 0)),z (.mv (c 0))],r 3 [fa 0 1,ld 3,fa 2 1,ld 5,le 6,bt .add 4 7,D 2 (mv 8)],.ret]
def a_Qdr:AFunc:=⟨9,1,[.tmp 0 2],b_Qdr⟩
def b_Qaj:ACode:=q [r 4 [z (.mv fF)],r 5 [mv 0,mv 1,ca n_Qaq [5,6],bc .geq 7 0,D 4 (mv 8)],.ret]
def a_Qaj:AFunc:=⟨9,2,[.tmp 0 4],b_Qaj⟩
def b_Qc3:ACode:=q [r 2 [z (.mv fF)],r 3 [mv 0,ca n_Qcl [3],no 4,D 2 (mv 5)],.ret]
def a_Qc3:AFunc:=⟨6,1,[.tmp 0 2],b_Qc3⟩
def b_Qds:ACode:=q [r 2 [z (.mv fF)],r 3 [mv 0,le 3,bc .leq 4 8,mv 5,i 6 [mv 0,cb n_Qab [T 7,f n_Qc7],no 8],pA 6 9,D 2 (mv 10)],.ret]
def a_Qds:AFunc:=⟨11,1,[.tmp 0 2],b_Qds⟩
def b_Qdt:ACode:=q [r 2 [z (.mv fF)],r 3 [mv 0,e 3 1,mv 4,j 5 [mv 0,e 6 3],pO 5 7,mv 8,j 9 [mv 0,e 10 5],pO 9 11,mv 12,j 13 [mv 0,e 14 7],pO 13 15,D 2 (mv 16)],.ret]
def a_Qdt:AFunc:=⟨17,1,[.tmp 0 2],b_Qdt⟩
def b_Qd4:ACode:=q [r 2 [z (.mv fF)],r 3 [mv 0,bc .geq 3 0,mv 4,i 5 [mv 0,bc .leq 6 2147483647],pA 5 7,D 2 (mv 8)],.ret]
def a_Qd4:AFunc:=⟨9,1,[.tmp 0 2],b_Qd4⟩
def l_Qdu_0:ACode:=q [q [r 30 [mv 3,fa 2 1,ld 31,le 32,bt .lss 30 33],b (T 34) .skip (.exit 0)],.blk 1 (q [r 37 [fa 2 1,ld 37,mv 3,ia 5 38 39,lo 5 40,ca n_Qcx [41],no 42],b (T 43) (q [r 2 [z (.mv fF)],.ret]) .skip]),r 35 [mv 3,bc .add 35 1,D 3 (mv 36)]]
def b_Qdu:ACode:=q [r 1 [y 3 (.box (T 0)),z (.mv fF)],q [r 4 [fa 0 1,ld 4,ca n_Qd4 [5],no 6,mv 7,j 8 [fa 1 1,ld 9,z (.len true (T 10)),bc .gtr 11 65536],pO 8 12,mv 13,j 14 [fa 0 1,ld 15,e 16 0,mv 17],i 18 [fa 1 1,ld 19,z (.sbin .neq (T 20) (.c (.one (.str 0 0))))],j 14 [pA 18 21],pO 14 22,mv 23,j 24 [fa 2 1,ld 25,le 26,bc .gtr 27 4096],pO 24 28],b (T 29) (q [r 2 [z (.mv fF)],.ret]) .skip],q [r 3 [z (.mv (c 0))],.blk 0 (.loop l_Qdu_0)],r 2 [z (.mv fT)],.ret]
def a_Qdu:AFunc:=⟨44,1,[.tmp 0 2],b_Qdu⟩
def b_Qc4:ACode:=q [r 4 [z (.mv (c 0))],q [r 5 [mv 1,bc .lss 5 1,mv 6,j 7 [mv 0,bc .lss 8 0],pO 7 9],b (T 10) (q [r 4 [z (.mv (c 0))],.ret]) .skip],r 11 [mv 0,mv 1,bt .rem 11 12,D 4 (mv 13)],.ret]
def a_Qc4:AFunc:=⟨14,2,[.tmp 0 4],b_Qc4⟩
def l_Qd5_0:ACode:=q [q [r 4 [mv 3,mv 0,le 5,bt .lss 4 6],b (T 7) .skip (.exit 0)],.blk 1 (q [r 10 [mv 0,mv 3,ia 3 10 11,lo 3 12,ca n_Qej [13],no 14],b (T 15) (q [r 2 [z (.mv fF)],.ret]) .skip]),r 8 [mv 3,bc .add 8 1,D 3 (mv 9)]]
def b_Qd5:ACode:=q [r 2 [z (.mv fF)],q [r 3 [z (.mv (c 0))],.blk 0 (.loop l_Qd5_0)],r 16 [mv 0,le 16,bc .leq 17 8,D 2 (mv 18)],.ret]
def a_Qd5:AFunc:=⟨19,1,[.tmp 0 2],b_Qd5⟩
def b_Qcn:ACode:=q [r 2 [y 3 (.box (T 0)),y 3 (.box (T 1)),z (.mv fF)],r 5 [fa 0 2,ld 5,fa 0 3,ld 7,E 6 8,mv 9,i 10 [fa 1 2,ld 11,fa 1 3,ld 13,E 12 14],pA 10 15,mv 16,i 17 [fa 2 2,ld 18,fa 2 3,ld 20,E 19 21],pA 17 22,mv 23,i 24 [fa 3 2,ld 25,fa 3 3,ld 27,E 26 28],pA 24 29,mv 30,i 31 [fa 4 2,ld 32,fa 4 3,ld 34,ca n_Qb9 [33,35]],pA 31 36,D 4 (mv 37)],.ret]
def a_Qcn:AFunc:=⟨38,2,[.tmp 0 4],b_Qcn⟩
def l_Qb9_0:ACode:=q [q [r 11 [mv 5,mv 0,le 12,bt .lss 11 13],b (T 14) .skip (.exit 0)],.blk 1 (q [d 17 [mv 0,mv 5,X [0,1] (ia 3 17 18),p 2 (lo 3 19),mv 1,mv 5,X [4,5] (ia 3 21 22),p 6 (lo 3 23),K 3 [7,6,4,5] (z (.eqs [2,0,0] true (T 20) (T 24)))],b (T 25) (q [r 4 [z (.mv fF)],.ret]) .skip]),r 15 [mv 5,bc .add 15 1,D 5 (mv 16)]]
def b_Qb9:ACode:=q [r 4 [z (.mv fF)],q [r 6 [mv 0,le 6,mv 1,le 8,bt .neq 7 9],b (T 10) (q [r 4 [z (.mv fF)],.ret]) .skip],q [r 5 [z (.mv (c 0))],.blk 0 (.loop l_Qb9_0)],r 4 [z (.mv fT)],.ret]
def a_Qb9:AFunc:=⟨26,2,[.tmp 0 4],b_Qb9⟩
def l_Qc5_0:ACode:=q [q [r 11 [mv 5,mv 0,le 12,bt .lss 11 13],b (T 14) .skip (.exit 0)],.blk 1 (q [d 17 [mv 0,mv 5,X [0,1] (ia 1 17 18),p 2 (ld 19),mv 1,mv 5,X [4,5] (ia 1 21 22),p 6 (ld 23),K 3 [7,6,4,5] (bt .neq 20 24)],b (T 25) (q [r 4 [z (.mv fF)],.ret]) .skip]),r 15 [mv 5,bc .add 15 1,D 5 (mv 16)]]
def b_Qc5:ACode:=q [r 4 [z (.mv fF)],q [r 6 [mv 0,le 6,mv 1,le 8,bt .neq 7 9],b (T 10) (q [r 4 [z (.mv fF)],.ret]) .skip],q [r 5 [z (.mv (c 0))],.blk 0 (.loop l_Qc5_0)],r 4 [z (.mv fT)],.ret]
def a_Qc5:AFunc:=⟨26,2,[.tmp 0 4],b_Qc5⟩
def l_Qca_0:ACode:=q [q [r 11 [mv 5,mv 0,le 12,bt .lss 11 13],b (T 14) .skip (.exit 0)],.blk 1 (q [d 17 [mv 0,mv 5,X [0,1] (ia 3 17 18),p 2 (lo 3 19),mv 1,mv 5,X [4,5] (ia 3 21 22),p 6 (lo 3 23),K 3 [7,6,4,5] (z (.eqs [2,0,0] true (T 20) (T 24)))],b (T 25) (q [r 4 [z (.mv fF)],.ret]) .skip]),r 15 [mv 5,bc .add 15 1,D 5 (mv 16)]]
def b_Qca:ACode:=q [r 4 [z (.mv fF)],q [r 6 [mv 0,le 6,mv 1,le 8,bt .neq 7 9],b (T 10) (q [r 4 [z (.mv fF)],.ret]) .skip],q [r 5 [z (.mv (c 0))],.blk 0 (.loop l_Qca_0)],r 4 [z (.mv fT)],.ret]
def a_Qca:AFunc:=⟨26,2,[.tmp 0 4],b_Qca⟩
def b_Qaz:ACode:=q [r 3 [mv 0,le 3,D 2 (mv 4)],r 5 [mv 0,mv 2,mv 2,z (.conv .u64 (T 7)),ca n_Qc8 [8],M 2 (cb n_Qap [T 5,c 0,T 6,T 9])]]
def a_Qaz:AFunc:=⟨11,1,[],b_Qaz⟩
def b_Qbh:ACode:=q [r 2 [mv 0,mv 0,mv 0,ni 2,fa 0 5,fa 6 6,sv 1 7 fF,ni 3,fa 0 8,fa 11 9,sv 1 10 nS,ni 4,fa 0 11,fa 12 12,sv 1 13 nS],r 14 [mv 0,mv 0,ni 15,fa 0 16,fa 1 17,ld 18,y 3 (.mkslice 1 8 [I0] (T 19) (T 19)),ni 14,fa 0 21,fa 10 22,so 1 23 20]]
def a_Qbh:AFunc:=⟨24,1,[],b_Qbh⟩
def b_Qa0:ACode:=q [r 2 [z (.mv (c 0))],r 3 [mv 0,ni 3,fa 0 4,fa 1 5,ld 6,bc .sub 7 1,bc .quo 8 2,D 2 (mv 9)],.ret]
def a_Qa0:AFunc:=⟨10,1,[.tmp 0 2],b_Qa0⟩
def b_Qan:ACode:=q [r 2 [z (.mv nS)],q [r 3 [mv 0,z (.eqn true false (T 3) nS)],b (T 4) (q [r 2 [z (.mv nS)],.ret]) .skip],r 5 [y 3 (.bslice 6 0 [I0,I0,I0,I0,.str 0 0,.nsl] []),mv 0,y 2 (.append 6 72 (T 5) (T 6)),D 2 (mv 7)],.ret]
def a_Qan:AFunc:=⟨8,1,[.tmp 0 2],b_Qan⟩
def l_Qdv_0:ACode:=q [r 12 [bt .lss 11 10],b (T 12) .skip (.exit 0),.blk 1 (q [r 5 [D 13 (mv 11),mv 13],q [d 14 [mv 0,mv 5,X [0,1] (ia 6 14 15),p 2 (lo 6 16),mv 0,mv 4,X [4,5] (ia 6 18 19),p 6 (lo 6 20),K 3 [7,6,4,5] (ca n_Qc9 [17,21]),p 8 (no 22)],b (T 23) (.exit 1) .skip],r 4 [D 24 (mv 5),mv 24]]),r 11 [D 25 (bc .add 11 1),mv 25]]
def b_Qdv:ACode:=q [r 2 [z (.mv (c 0)),z (.mv (c 0))],q [r 6 [mv 0,le 6,e 7 0],b (T 8) (q [r 2 [z (.mv (c 0)),z (.mv (c 1600))],.ret]) .skip],r 4 [z (.mv (c 0))],.skip,q [r 9 [mv 0,le 9,z (.mv (c 0))],.blk 0 (.loop l_Qdv_0)],r 2 [D 26 (mv 4),mv 26,z (.mv (c 0))],.ret]
def a_Qdv:AFunc:=⟨27,1,[.tmp 0 2,.tmp 0 3],b_Qdv⟩
def b_Qbi:ACode:=q [r 4 [y 3 (.box (T 1)),D 6 (z (.mv fF))],d 9 [mv 0,p 0 (ni 9),p 1 (fa 0 10),p 2 (fa 7 11),p 3 (lo 3 12),lo 3 4,K 4 [5] (ca n_Qcs [13,14]),D 8 (p 6 (mv 15)),p 7 (ex 8 0),p 7 (ex 8 1),p 8 (so 3 4 16),D 7 (K 9 [10,8] (mv 17))],q [d 18 [mv 7,p 0 (bc .neq 18 0),p 1 (mv 19),j 20 [p 2 (lo 3 4),p 3 (ca n_Qdr [21]),p 2 (mv 0),p 5 (ni 23),p 6 (fa 0 24),p 7 (fa 5 25),p 8 (ld 26),K 4 [9,8,7,6,5] (bt .lss 22 27)],K 2 [10,4,3,9,8,7,6,5] (pO 20 28)],b (T 29) (q [r 30 [mv 0,ni 30,fa 14 31,sv 1 32 fT],r 6 [z (.mv fF)],.ret]) .skip],d 33 [mv 0,mv 0,mv 0,lo 3 4,mv 0,p 4 (ni 37),p 5 (fa 0 38),p 6 (fa 2 39),p 7 (ld 40),X [0,3,8,7,6,5,4] (ni 33),p 9 (fa 0 42),p 10 (fa 7 43),p 11 (so 3 44 36),X [1,0,3,4,5,6,7,8,9,10,11,12] (ni 34),p 13 (fa 0 45),p 14 (fa 3 46),p 15 (so 1 47 41),X [2,0,1,3,4,5,6,7,8,9,10,11,12,13,14,15,16] (ni 35),p 17 (fa 0 48),p 18 (fa 4 49),p 19 (sv 1 50 (c 0))],r 51 [mv 0,M 2 (ca n_Qbh [51])],d 53 [mv 0,mv 0,p 1 (ni 54),p 2 (fa 0 55),p 3 (fa 5 56),p 4 (ld 57),mv 2,mv 0,p 7 (ca n_Qbc [60]),X [6,8,7] (z (.min (T 59) [T 61])),mv 0,p 10 (ni 63),p 11 (fa 0 64),p 12 (fa 7 65),p 13 (fa 0 66),p 14 (ld 67),K 5 [9,6,8,7,15,14,13,12,11,10] (z (.max (T 58) [T 62,T 68])),X [0,1,2,3,4,5,6,7,8,9,10,11,12,13,14,15,16] (ni 53),p 17 (fa 0 70),p 18 (fa 5 71),p 19 (so 1 72 69)],r 6 [z (.mv fT)],.ret]
def a_Qbi:AFunc:=⟨73,3,[.tmp 0 6],b_Qbi⟩
def b_Qbx:ACode:=q [r 2 [mv 0,ni 2,fa 0 3,fa 6 4,sv 1 5 fF],r 6 [mv 0,ni 6,fa 0 7,fa 11 8,sv 1 9 nS],r 10 [mv 0,ni 10,fa 0 11,fa 12 12,sv 1 13 nS],r 14 [mv 0,mv 0,ni 15,fa 0 16,fa 1 17,ld 18,y 3 (.mkslice 1 8 [I0] (T 19) (T 19)),ni 14,fa 0 21,fa 10 22,so 1 23 20]]
def a_Qbx:AFunc:=⟨24,1,[],b_Qbx⟩
def b_Qdj:ACode:=q [r 2 [z (.mv (c 0))],r 3 [mv 0,ni 3,fa 0 4,fa 1 5,ld 6,bc .sub 7 1,bc .quo 8 2,D 2 (mv 9)],.ret]
def a_Qdj:AFunc:=⟨10,1,[.tmp 0 2],b_Qdj⟩
def l_Qd6_0:ACode:=q [q [r 9 [mv 5,mv 0,le 10,bt .lss 9 11],b (T 12) .skip (.exit 0)],.blk 1 (q [d 15 [mv 0,mv 5,X [0,1] (ia 6 15 16),p 2 (lo 6 17),mv 0,mv 4,X [4,5] (ia 6 19 20),p 6 (lo 6 21),K 3 [7,6,4,5] (ca n_Qdk [18,22])],b (T 23) (r 4 [D 24 (mv 5),mv 24]) .skip]),r 13 [mv 5,bc .add 13 1,D 5 (mv 14)]]
def b_Qd6:ACode:=q [r 2 [z (.mv (c 0)),z (.mv (c 0))],q [r 6 [mv 0,le 6,e 7 0],b (T 8) (q [r 2 [z (.mv (c 0)),z (.mv (c 1600))],.ret]) .skip],r 4 [z (.mv (c 0))],q [r 5 [z (.mv (c 1))],.blk 0 (.loop l_Qd6_0)],r 2 [D 25 (mv 4),mv 25,z (.mv (c 0))],.ret]
def a_Qd6:AFunc:=⟨26,1,[.tmp 0 2,.tmp 0 3],b_Qd6⟩
def b_Qcb:ACode:=q [r 4 [y 3 (.box (T 1))],d 9 [mv 0,p 0 (ni 9),p 1 (fa 0 10),p 2 (fa 7 11),p 3 (lo 3 12),lo 3 4,K 4 [5] (ca n_Qda [13,14]),D 8 (p 6 (mv 15)),p 7 (ex 8 0),p 7 (ex 8 1),D 6 (y 3 (.alloc [I0,.str 0 0,.nsl])),X [10,8,7,6,4,3,2,1,0,5] (so 3 6 16),D 7 (K 9 [11,10,8] (mv 17))],q [d 18 [mv 7,p 0 (bc .neq 18 0),p 1 (mv 19),j 20 [p 2 (lo 3 6),p 3 (ca n_Qd2 [21]),p 2 (mv 0),p 5 (ni 23),p 6 (fa 0 24),p 7 (fa 5 25),p 8 (ld 26),K 4 [9,8,7,6,5] (bt .lss 22 27)],K 2 [10,4,3,9,8,7,6,5] (pO 20 28)],b (T 29) (q [r 30 [mv 0,ni 30,fa 14 31,sv 1 32 fT],.ret]) .skip],r 33 [mv 0,lo 3 6,ni 33,fa 0 35,fa 7 36,so 3 37 34],r 38 [mv 0,mv 0,ni 39,fa 0 40,fa 2 41,ld 42,ni 38,fa 0 44,fa 3 45,so 1 46 43],r 47 [mv 0,ni 47,fa 0 48,fa 4 49,sv 1 50 (c 0)],r 51 [mv 0,M 2 (ca n_Qbx [51])],d 53 [mv 0,mv 0,p 1 (ni 54),p 2 (fa 0 55),p 3 (fa 5 56),p 4 (ld 57),mv 2,lo 3 6,p 7 (ca n_Qd2 [60]),X [6,8,7] (z (.min (T 59) [T 61])),fa 0 6,p 10 (ld 63),K 5 [9,6,8,7,11,10] (z (.max (T 58) [T 62,T 64])),X [0,1,2,3,4,5,6,7,8,9,10,11,12] (ni 53),p 13 (fa 0 66),p 14 (fa 5 67),p 15 (so 1 68 65)]]
def a_Qcb:AFunc:=⟨69,3,[],b_Qcb⟩
def l_Qcc_0:ACode:=q [q [r 20 [mv 10,mv 0,le 21,bt .lss 20 22],b (T 23) .skip (.exit 2)],.blk 3 (q [r 26 [mv 10,mv 1,bt .neq 26 27,mv 28,i 29 [mv 0,mv 10,ia 1 30 31,ld 32,mv 8,bt .geq 33 34],pA 29 35],b (T 36) (r 37 [mv 9,bc .add 37 1,D 9 (mv 38)]) .skip]),r 24 [mv 10,bc .add 24 1,D 10 (mv 25)]]
def l_Qcc_1:ACode:=q [q [r 16 [mv 8,bc .gtr 16 0],b (T 17) .skip (.exit 0)],.blk 1 (q [r 9 [z (.mv (c 0))],q [r 10 [z (.mv (c 0))],.blk 2 (.loop l_Qcc_0)],r 39 [mv 9,mv 7,bt .geq 39 40],b (T 41) (q [r 6 [D 42 (mv 8),mv 42],.ret]) .skip]),r 18 [mv 8,bc .sub 18 1,D 8 (mv 19)]]
def b_Qcc:ACode:=q [r 6 [z (.mv (c 0))],r 11 [mv 0,le 11,bc .sub 12 1,bc .quo 13 2,D 7 (mv 14)],q [r 8 [D 15 (mv 2),mv 15],.blk 0 (.loop l_Qcc_1)],r 6 [z (.mv (c 0))],.ret]
def a_Qcc:AFunc:=⟨43,3,[.tmp 0 6],b_Qcc⟩
def b_Qc6:ACode:=q [r 1 [y 3 (.box (T 0)),y 3 (.alloc [I0,I0,I0,I0,I0,I0,I0,I0,I0,I0,I0,I0,I0,I0,.str 0 0,.nsl,I0,.str 0 0,.nsl,.str 0 0])],r 3 [fa 15 1,ld 3,y 2 (.append 3 32 nS (T 4)),fa 15 1,so 1 6 5],r 7 [fa 16 1,lo 3 7,ca n_Qby [8],fa 16 1,so 3 10 9],r 11 [lo 20 1,so 20 2 11],.ret]
def a_Qc6:AFunc:=⟨12,1,[.cell 0 2 true 20],b_Qc6⟩
def l_Qby_0:ACode:=q [r 15 [bt .lss 14 13],b (T 15) .skip (.exit 0),.blk 1 (q [r 16 [ia 5 12 14,lo 5 16,D 5 (y 3 (.alloc [I0,I0,I0,I0,.nsl])),so 5 5 17],d 18 [fa 2 3,p 0 (ld 18),lo 5 5,p 2 (ca n_Qa2 [20]),p 3 (y 3 (.bslice 5 1 [I0,I0,I0,I0,.nsl] [(0,5,T 21)])),K 1 [4,3,2] (y 2 (.append 5 56 (T 19) (T 22))),X [0,1,2,3,4,5] (fa 2 3),p 6 (so 1 24 23)]]),r 14 [D 25 (bc .add 14 1),mv 25]]
def b_Qby:ACode:=q [r 1 [y 3 (.box (T 0)),y 3 (.alloc [I0,.str 0 0,.nsl])],r 6 [fa 0 1,ld 6,fa 1 1,ld 8,z (.build [I0,.str 0 0,.nsl] [(0,1,T 7),(1,1,T 9)]),D 3 (y 3 (.alloc [I0,.str 0 0,.nsl])),so 3 3 10],q [r 11 [fa 2 1,ld 11,le 12,z (.mv (c 0))],.blk 0 (.loop l_Qby_0)],r 26 [lo 3 3,so 3 2 26],.ret]
def a_Qby:AFunc:=⟨27,1,[.cell 0 2 true 3],b_Qby⟩
def b_Qau:ACode:=q [r 2 [z (.mv nS)],q [r 3 [mv 0,z (.eqn true false (T 3) nS)],b (T 4) (q [r 2 [z (.mv nS)],.ret]) .skip],r 5 [y 3 (.bslice 1 0 [I0] []),mv 0,y 2 (.append 1 8 (T 5) (T 6)),D 2 (mv 7)],.ret]
def a_Qau:AFunc:=⟨8,1,[.tmp 0 2],b_Qau⟩
def b_Qco:ACode:=q [r 2 [z (.mv nS),z (.mv fF)],r 5 [y 3 (.bslice 1 3 [I0] [(0,1,c 6),(1,1,c 7),(2,1,c 12)]),y 3 (.bslice 1 4 [I0] [(0,1,c 6),(1,1,c 7),(2,1,c 8),(3,1,c 2)]),y 3 (.bslice 1 5 [I0] [(0,1,c 7),(1,1,c 9),(2,1,c 11),(3,1,c 2),(4,1,c 10)]),y 3 (.bslice 1 4 [I0] [(0,1,c 7),(1,1,c 8),(2,1,c 2),(3,1,c 4)]),y 3 (.bslice 1 7 [I0] [(0,1,c 0),(1,1,c 2),(2,1,c 3),(3,1,c 5),(4,1,c 6),(5,1,c 7),(6,1,c 12)]),y 3 (.bslice 1 2 [I0] [(0,1,c 0),(1,1,c 2)]),y 3 (.bslice 1 3 [I0] [(0,1,c 0),(1,1,c 2),(2,1,c 3)]),y 3 (.bslice 1 1 [I0] [(0,1,c 0)]),y 3 (.bslice 1 4 [I0] [(0,1,c 0),(1,1,c 1),(2,1,c 3),(3,1,c 13)]),y 3 (.bslice 1 3 [I0] [(0,1,c 0),(1,1,c 3),(2,1,c 13)]),y 3 (.bslice 1 2 [I0] [(0,1,c 0),(1,1,c 2)]),y 3 (.bslice 1 3 [I0] [(0,1,c 0),(1,1,c 3),(2,1,c 13)]),y 3 (.bslice 1 2 [I0] [(0,1,c 0),(1,1,c 4)]),y 3 (.bslice 1 2 [I0] [(0,1,c 0),(1,1,c 4)]),y 3 (.bslice 1 1 [I0] [(0,1,c 2)]),y 3 (.bslice 1 1 [I0] [(0,1,c 2)]),y 3 (.bslice 1 2 [I0] [(0,1,c 2),(1,1,c 14)]),y 3 (.bslice 1 17 [.nsl] [(0,1,T 5),(1,1,T 6),(2,1,T 7),(3,1,T 8),(4,1,T 9),(5,1,T 10),(6,1,T 11),(7,1,T 12),(8,1,T 13),(9,1,T 14),(10,1,T 15),(11,1,T 16),(12,1,T 17),(13,1,T 18),(14,1,T 19),(15,1,T 20),(16,1,T 21)]),D 4 (mv 22)],q [r 23 [mv 0,bc .lss 23 0,mv 24,j 25 [mv 0,mv 4,le 27,bt .geq 26 28],pO 25 29],b (T 30) (q [r 2 [z (.mv nS),z (.mv fF)],.ret]) .skip],r 31 [mv 4,mv 0,ia 1 31 32,ld 33,D 2 (mv 34),D 3 (z (.mv fT))],.ret]
def a_Qco:AFunc:=⟨35,1,[.tmp 0 2,.tmp 0 3],b_Qco⟩
def b_Qdw:ACode:=q [r 2 [z (.mv fF)],r 3 [z (.mv (f n_Qdl)),z (.mv (f n_Qdl))],q [r 5 [mv 0,ni 5,fa 0 6,ld 7],.blk 0 (q [q [r 9 [D 10 (e 8 0),mv 10],b (T 9) .skip (r 9 [D 11 (e 8 2),mv 11])],b (T 9) (r 3 [z (.mv (f n_Qct))]) (q [q [r 12 [D 13 (e 8 1),mv 13],b (T 12) .skip (r 12 [D 14 (e 8 3),mv 14])],b (T 12) (r 4 [z (.mv (f n_Qct))]) .skip])])],r 15 [mv 3,mv 0,ni 16,fa 1 17,ld 18,w (.call (T 15) [T 19]),mv 20,i 21 [mv 4,mv 0,ni 23,fa 2 24,ld 25,w (.call (T 22) [T 26])],pA 21 27,D 2 (mv 28)],.ret]
def a_Qdw:AFunc:=⟨29,1,[.tmp 0 2],b_Qdw⟩
def b_Qcp:ACode:=q [r 4 [z (.mv (.c (.one .npt)))],q [r 5 [mv 1],.blk 0 (q [r 6 [D 7 (e 5 0),mv 7],b (T 6) (q [r 8 [mv 0,ni 8,fa 3 9,D 4 (mv 10)],.ret]) (q [r 11 [D 12 (e 5 1),mv 12],b (T 11) (q [r 13 [mv 0,ni 13,fa 4 14,D 4 (mv 15)],.ret]) (q [r 16 [D 17 (e 5 2),mv 17],b (T 16) (q [r 18 [mv 0,ni 18,fa 5 19,D 4 (mv 20)],.ret]) (q [r 21 [D 22 (e 5 3),mv 22],b (T 21) (q [r 23 [mv 0,ni 23,fa 6 24,D 4 (mv 25)],.ret]) (q [r 26 [D 27 (e 5 4),mv 27],b (T 26) (q [r 28 [mv 0,ni 28,fa 7 29,D 4 (mv 30)],.ret]) (q [r 31 [D 32 (e 5 5),mv 32],b (T 31) (q [r 33 [mv 0,ni 33,fa 8 34,D 4 (mv 35)],.ret]) (q [r 36 [D 37 (e 5 6),mv 37],b (T 36) (q [r 38 [mv 0,ni 38,fa 9 39,D 4 (mv 40)],.ret]) (q [r 41 [D 42 (e 5 7),mv 42],b (T 41) (q [r 43 [mv 0,ni 43,fa 10 44,D 4 (mv 45)],.ret]) (q [r 46 [D 47 (e 5 8),mv 47],b (T 46) (q [r 48 [mv 0,ni 48,fa 11 49,D 4 (mv 50)],.ret]) (q [r 51 [D 52 (e 5 9),mv 52],b (T 51) (q [r 53 [mv 0,ni 53,fa 12 54,D 4 (mv 55)],.ret]) (q [r 56 [D 57 (e 5 10),mv 57],b (T 56) (q [r 58 [mv 0,ni 58,fa 13 59,D 4 (mv 60)],.ret]) .skip])])])])])])])])])])])],r 4 [z (.mv (.c (.one .npt)))],.ret]
def a_Qcp:AFunc:=⟨61,2,[.tmp 0 4],b_Qcp⟩
def b_Qcq:ACode:=q [r 4 [z (.mv (c 0)),z (.mv (c 0))],.blk 0 (q [r 7 [mv 1,e 7 8,D 6 (mv 8)],b (T 6) (q [r 4 [z (.mv (c 0)),z (.mv (c 9))],.ret]) (q [r 10 [mv 1,e 10 9,D 9 (mv 11)],b (T 9) (q [r 4 [z (.mv (c 0)),z (.mv (c 4))],.ret]) (q [r 13 [mv 1,e 13 2,mv 14,i 15 [mv 0,e 16 1],pA 15 17,D 12 (mv 18)],b (T 12) (q [r 4 [z (.mv (c (-1))),z (.mv (c 2147483647))],.ret]) (q [r 20 [mv 1,e 20 2,mv 21,j 22 [mv 1,e 23 10],pO 22 24,mv 25,i 26 [mv 0,e 27 2,mv 28],j 29 [mv 0,e 30 3],i 26 [pO 29 31],pA 26 32,D 19 (mv 33)],b (T 19) (q [r 4 [z (.mv (c (-2147483648))),z (.mv (c 2147483647))],.ret]) .skip])])])]),r 4 [z (.mv (c 0)),z (.mv (c 2147483647))],.ret]
def a_Qcq:AFunc:=⟨34,2,[.tmp 0 4,.tmp 0 5],b_Qcq⟩
def l_Qd7_0:ACode:=q [r 15 [bt .lss 14 13],b (T 15) .skip (.exit 0),.blk 1 (q [r 3 [D 16 (mv 14),mv 16],q [r 17 [mv 0,mv 3,z (.idx (T 17) (T 18)),D 4 (mv 19)],.blk 2 (q [q [r 21 [mv 4,z (.bin .geq (T 21) (.c (.one (.int .u8 97)))),mv 22,i 23 [mv 4,z (.bin .leq (T 24) (.c (.one (.int .u8 122))))],pA 23 25,D 20 (mv 26)],b (T 20) .skip (q [r 27 [mv 4,z (.bin .geq (T 27) (.c (.one (.int .u8 48)))),mv 28,i 29 [mv 4,z (.bin .leq (T 30) (.c (.one (.int .u8 57))))],pA 29 31,D 20 (mv 32)],b (T 20) .skip (r 33 [mv 4,z (.bin .eql (T 33) (.c (.one (.int .u8 95)))),D 20 (mv 34)])])],b (T 20) (.exit 1) .skip])],r 2 [z (.mv fF)],.ret]),r 14 [D 35 (bc .add 14 1),mv 35]]
def b_Qd7:ACode:=q [r 2 [z (.mv fF)],q [r 5 [mv 0,z (.sbin .eql (T 5) (.c (.one (.str 0 0)))),mv 6,j 7 [mv 0,z (.len true (T 8)),bc .gtr 9 12],pO 7 10],b (T 11) (q [r 2 [z (.mv fF)],.ret]) .skip],.skip,q [r 12 [mv 0,z (.len true (T 12)),z (.mv (c 0))],.blk 0 (.loop l_Qd7_0)],r 2 [z (.mv fT)],.ret]
def a_Qd7:AFunc:=⟨36,1,[.tmp 0 2],b_Qd7⟩
def b_Qbz:ACode:=q [q [r 4 [mv 0,ni 4,fa 0 5,fa 2 6,ld 7,mv 1,bt .lss 8 9,mv 10,j 11 [mv 0,ni 12,fa 0 13,fa 4 14,ld 15,e 16 1],pO 11 17],b (T 18) (q [r 19 [mv 0,mv 0,mv 1,ni 19,fa 0 22,fa 2 23,so 1 24 21,ni 20,fa 0 25,fa 4 26,sv 1 27 (c 2)],r 28 [mv 0,M 2 (ca n_Qbh [28])]]) .skip],r 30 [mv 0,ca n_Qa5 [30],no 31],b (T 32) (d 33 [mv 0,mv 0,p 1 (ni 34),p 2 (fa 0 35),p 3 (fa 2 36),p 4 (ld 37),mv 0,p 6 (ni 39),p 7 (fa 0 40),p 8 (fa 1 41),p 9 (ld 42),K 5 [10,9,8,7,6] (ca n_Qb5 [38,43]),mv 0,X [12,11,5,4,3,2,1,10,9,8,7,6] (ca n_Qbu [45]),X [0,11,5,4,3,2,1,10,9,8,7,6,13,12] (M 2 (ca n_Qbf [33,44,46]))]) .skip]
def a_Qbz:AFunc:=⟨48,2,[],b_Qbz⟩
def b_Qba:ACode:=d 4 [mv 0,mv 0,p 1 (ni 5),p 2 (fa 0 6),p 3 (fa 5 7),p 4 (ld 8),mv 1,mv 0,p 7 (ca n_Qbc [11]),X [6,8,7] (z (.min (T 10) [T 12])),K 5 [9,6,8,7] (z (.max (T 9) [T 13])),X [0,1,2,3,4,5,6,7,8,9,10] (ni 4),p 11 (fa 0 15),p 12 (fa 5 16),p 13 (so 1 17 14)]
def a_Qba:AFunc:=⟨18,2,[],b_Qba⟩
def b_Qb0:ACode:=q [r 2 [y 3 (.alloc [I0,I0,I0,I0,I0,I0,I0,I0,I0,I0,I0,I0,I0,I0,.str 0 0,.nsl,I0,.str 0 0,.nsl,.str 0 0])],d 3 [mv 0,p 0 (ni 3),p 1 (fa 0 4),p 2 (fa 2 5),p 3 (ld 6),mv 0,p 5 (ca n_Qbc [8]),K 4 [6,5] (z (.build [I0,I0,I0,I0,I0,I0,I0,I0,I0,I0,I0,I0,I0,I0,.str 0 0,.nsl,I0,.str 0 0,.nsl,.str 0 0] [(0,1,c 5),(3,1,T 7),(5,1,T 9)])),p 7 (so 20 2 10)],.ret]
def a_Qb0:AFunc:=⟨11,1,[.cell 0 2 true 20],b_Qb0⟩
def l_Qak_0:ACode:=q [q [r 13 [mv 7,mv 8,bt .lss 13 14],b (T 15) .skip (.exit 0)],.blk 1 (q [r 16 [mv 7,mv 8,bt .add 16 17,z (.conv .u64 (T 18)),z (.shift false (T 19) (.c (.one (.int .u64 1)))),z (.conv .i64 (T 20)),D 9 (mv 21)],r 22 [mv 0,mv 9,ia 1 22 23,ld 24,mv 1,ca n_Qdm [25,26]],b (T 27) (r 28 [mv 9,bc .add 28 1,D 7 (mv 29)]) (r 8 [D 30 (mv 9),mv 30])])]
def b_Qak:ACode:=q [r 4 [z (.mv (c 0)),z (.mv fF)],r 10 [mv 0,le 10,D 6 (mv 11)],r 7 [D 12 (mv 6),z (.mv (c 0)),mv 12],.blk 0 (.loop l_Qak_0),r 31 [mv 7,mv 7,mv 6,bt .lss 32 33,mv 34,i 35 [mv 0,mv 7,ia 1 36 37,ld 38,mv 1,E 39 40,mv 41],j 42 [mv 0,mv 7,ia 1 43 44,ld 45,ca n_Qb1 [46],mv 47],i 48 [mv 1,ca n_Qb1 [49]],j 42 [pA 48 50],i 35 [pO 42 51],pA 35 52,D 4 (mv 31),D 5 (mv 53)],.ret]
def a_Qak:AFunc:=⟨54,2,[.tmp 0 4,.tmp 0 5],b_Qak⟩
def l_Qaa_0:ACode:=q [q [r 15 [mv 9,mv 10,bt .lss 15 16],b (T 17) .skip (.exit 0)],.blk 1 (q [r 18 [mv 9,mv 10,bt .add 18 19,z (.conv .u64 (T 20)),z (.shift false (T 21) (.c (.one (.int .u64 1)))),z (.conv .i64 (T 22)),D 11 (mv 23)],r 24 [mv 2,mv 0,mv 11,ia 6 25 26,lo 6 27,mv 1,w (.call (T 24) [T 28,T 29]),bc .lss 30 0],b (T 31) (r 32 [mv 11,bc .add 32 1,D 9 (mv 33)]) (r 10 [D 34 (mv 11),mv 34])])]
def b_Qaa:ACode:=q [r 6 [z (.mv (c 0)),z (.mv fF)],r 12 [mv 0,le 12,D 8 (mv 13)],r 9 [D 14 (mv 8),z (.mv (c 0)),mv 14],.blk 0 (.loop l_Qaa_0),r 35 [mv 9,mv 9,mv 8,bt .lss 36 37,mv 38,i 39 [mv 2,mv 0,mv 9,ia 6 41 42,lo 6 43,mv 1,w (.call (T 40) [T 44,T 45]),e 46 0],pA 39 47,D 6 (mv 35),D 7 (mv 48)],.ret]
def a_Qaa:AFunc:=⟨49,3,[.tmp 0 6,.tmp 0 7],b_Qaa⟩
def b_Qav:ACode:=q [r 2 [y 3 (.box (T 0)),D 4 (z (.mv (c 0)))],r 5 [fa 0 2,ld 5,mv 1,ca n_Qcd [6,7],D 4 (mv 8)],.ret]
def a_Qav:AFunc:=⟨9,2,[.tmp 0 4],b_Qav⟩
def b_Qcd:ACode:=q [r 4 [z (.mv (c 0))],r 7 [mv 0,ca n_Qdb [7],D 5 (mv 8)],r 9 [mv 1,ca n_Qdb [9],D 6 (mv 10)],q [r 11 [mv 5],b (T 11) (q [q [r 12 [mv 6],b (T 12) (q [r 4 [z (.mv (c 0))],.ret]) .skip],r 4 [z (.mv (c (-1)))],.ret]) .skip],q [r 13 [mv 6],b (T 13) (q [r 4 [z (.mv (c 1))],.ret]) .skip],q [r 14 [mv 0,mv 1,bt .lss 14 15],b (T 16) (q [r 4 [z (.mv (c (-1)))],.ret]) .skip],q [r 17 [mv 0,mv 1,bt .gtr 17 18],b (T 19) (q [r 4 [z (.mv (c 1))],.ret]) .skip],r 4 [z (.mv (c 0))],.ret]
def a_Qcd:AFunc:=⟨20,2,[.tmp 0 4],b_Qcd⟩
def b_Qdx:ACode:=q [r 2 [z (.mv (c 0))],q [r 3 [mv 0],.blk 0 (q [r 4 [D 5 (e 3 0),mv 5],b (T 4) (q [r 2 [z (.mv (c 4288))],.ret]) (q [r 6 [D 7 (e 3 1),mv 7],b (T 6) (q [r 2 [z (.mv (c 452))],.ret]) (q [r 8 [D 9 (e 3 2),mv 9],b (T 8) (q [r 2 [z (.mv (c 3716))],.ret]) (q [r 10 [D 11 (e 3 3),mv 11],b (T 10) (q [r 2 [z (.mv (c 404))],.ret]) (q [r 12 [D 13 (e 3 4),mv 13],b (T 12) (q [r 2 [z (.mv (c 4333))],.ret]) (q [q [r 14 [D 15 (e 3 5),mv 15],b (T 14) .skip (r 14 [D 16 (e 3 10),mv 16])],b (T 14) (q [r 2 [z (.mv (c 5))],.ret]) (q [r 17 [D 18 (e 3 6),mv 18],b (T 17) (q [r 2 [z (.mv (c 13))],.ret]) (q [r 19 [D 20 (e 3 7),mv 20],b (T 19) (q [r 2 [z (.mv (c 1))],.ret]) (q [r 21 [D 22 (e 3 8),mv 22],b (T 21) (q [r 2 [z (.mv (c 8203))],.ret]) (q [q [r 23 [D 24 (e 3 9),mv 24],b (T 23) .skip (r 23 [D 25 (e 3 11),mv 25])],b (T 23) (q [r 2 [z (.mv (c 8201))],.ret]) (q [q [r 26 [D 27 (e 3 12),mv 27],b (T 26) .skip (r 26 [D 28 (e 3 13),mv 28])],b (T 26) (q [r 2 [z (.mv (c 17))],.ret]) (q [q [r 29 [D 30 (e 3 14),mv 30],b (T 29) .skip (r 29 [D 31 (e 3 15),mv 31])],b (T 29) (q [r 2 [z (.mv (c 4))],.ret]) (q [r 32 [D 33 (e 3 16),mv 33],b (T 32) (q [r 2 [z (.mv (c 16388))],.ret]) .skip])])])])])])])])])])])])])],r 2 [z (.mv (c 0))],.ret]
def a_Qdx:AFunc:=⟨34,1,[.tmp 0 2],b_Qdx⟩
def b_Qed:ACode:=q [r 2 [z (.mv fF)],r 3 [mv 0,bc .geq 3 0,mv 4,i 5 [mv 0,bc .lss 6 7],pA 5 7,D 2 (mv 8)],.ret]
def a_Qed:AFunc:=⟨9,1,[.tmp 0 2],b_Qed⟩
def b_Qdy:ACode:=q [r 2 [z (.mv fF)],r 3 [mv 0,bc .geq 3 100,mv 4,i 5 [mv 0,bc .lss 6 108],pA 5 7,D 2 (mv 8)],.ret]
def a_Qdy:AFunc:=⟨9,1,[.tmp 0 2],b_Qdy⟩
def b_Qdz:ACode:=q [r 2 [y 3 (.box (T 0)),D 4 (z (.mv fF))],q [r 5 [fa 0 2,ld 5],.blk 0 (q [r 7 [D 8 (e 6 2),mv 8],b (T 7) (q [r 9 [fa 5 2,ld 9,ca n_Qea [10],mv 11,i 12 [fa 13 2,ld 13,ca n_Qea [14]],pA 12 15,D 4 (mv 16)],.ret]) (q [r 17 [D 18 (e 6 3),mv 18],b (T 17) (q [r 19 [fa 5 2,ld 19,ca n_Qea [20],mv 21,i 22 [fa 13 2,ld 23,e 24 0],pA 22 25,D 4 (mv 26)],.ret]) (q [r 27 [D 28 (e 6 1),mv 28],b (T 27) (q [r 29 [fa 5 2,ld 29,bc .geq 30 (-1),mv 31,i 32 [fa 5 2,ld 33,bc .leq 34 2147483647],pA 32 35,mv 36,i 37 [fa 13 2,ld 38,e 39 0],pA 37 40,D 4 (mv 41)],.ret]) .skip])])])],r 42 [mv 1,bc .and 42 4,bc .gtr 43 0,fa 5 2,ld 45,ca n_Qd8 [44,46],mv 47,i 48 [fa 13 2,ld 49,e 50 0],pA 48 51,D 4 (mv 52)],.ret]
def a_Qdz:AFunc:=⟨53,2,[.tmp 0 4],b_Qdz⟩
def b_Qd8:ACode:=q [r 4 [z (.mv fF)],r 5 [mv 0,mv 5,i 6 [mv 1,ca n_Qd4 [7]],pA 6 8,mv 9,j 10 [mv 0,no 11,mv 12],i 13 [mv 1,e 14 0],j 10 [pA 13 15],pO 10 16,D 4 (mv 17)],.ret]
def a_Qd8:AFunc:=⟨18,2,[.tmp 0 4],b_Qd8⟩
def l_Qee_0:ACode:=q [q [r 13 [mv 3,mv 0,z (.len true (T 14)),bt .lss 13 15],b (T 16) .skip (.exit 0)],.blk 1 (q [r 19 [mv 0,mv 3,z (.idx (T 19) (T 20)),D 4 (mv 21)],r 22 [mv 4,z (.bin .neq (T 22) (.c (.one (.int .u8 95)))),mv 23,i 24 [mv 4,z (.bin .lss (T 25) (.c (.one (.int .u8 97)))),mv 26],j 27 [mv 4,z (.bin .gtr (T 28) (.c (.one (.int .u8 122))))],i 24 [pO 27 29],pA 24 30,mv 31,i 32 [mv 4,z (.bin .lss (T 33) (.c (.one (.int .u8 48)))),mv 34],j 35 [mv 4,z (.bin .gtr (T 36) (.c (.one (.int .u8 57))))],i 32 [pO 35 37],pA 32 38],b (T 39) (q [r 2 [z (.mv fF)],.ret]) .skip]),r 17 [mv 3,bc .add 17 1,D 3 (mv 18)]]
def b_Qee:ACode:=q [r 2 [z (.mv fF)],q [r 5 [mv 0,z (.len true (T 5)),bc .lss 6 1,mv 7,j 8 [mv 0,z (.len true (T 9)),bc .gtr 10 12],pO 8 11],b (T 12) (q [r 2 [z (.mv fF)],.ret]) .skip],q [r 3 [z (.mv (c 0))],.blk 0 (.loop l_Qee_0)],r 2 [z (.mv fT)],.ret]
def a_Qee:AFunc:=⟨40,1,[.tmp 0 2],b_Qee⟩
def b_Qd9:ACode:=q [r 1 [y 3 (.box (T 0)),z (.mv fF)],r 3 [fa 0 1,ld 3,e 4 0,mv 5,i 6 [fa 1 1,ld 7,z (.sbin .eql (T 8) (.c (.one (.str 0 0))))],pA 6 9,mv 10,i 11 [fa 2 1,ld 12,le 13,e 14 0],pA 11 15,D 2 (mv 16)],.ret]
def a_Qd9:AFunc:=⟨17,1,[.tmp 0 2],b_Qd9⟩
def b_Qcr:ACode:=q [q [r 4 [mv 0,ni 4,fa 0 5,fa 2 6,ld 7,mv 1,bt .lss 8 9,mv 10,j 11 [mv 0,ni 12,fa 0 13,fa 4 14,ld 15,e 16 1],pO 11 17],b (T 18) (q [r 19 [mv 0,mv 1,ni 19,fa 0 21,fa 2 22,so 1 23 20],r 24 [mv 0,ni 24,fa 0 25,fa 4 26,sv 1 27 (c 2)],r 28 [mv 0,M 2 (ca n_Qbx [28])]]) .skip],d 30 [mv 0,mv 1,X [0,1] (ca n_Qa6 [30,31]),mv 0,p 3 (ni 33),p 4 (fa 0 34),p 5 (fa 0 35),p 6 (ld 36),K 2 [7,6,5,4,3] (bt .neq 32 37)],b (T 38) (d 39 [mv 0,mv 0,mv 1,X [1,2] (ca n_Qa6 [40,41]),mv 1,mv 0,p 5 (ni 44),p 6 (fa 0 45),p 7 (fa 7 46),p 8 (lo 3 47),K 9 [3,1,2] (ca n_Qd2 [48]),X [4,10,9,8,7,6,5,3,1,2] (z (.build [I0,I0,I0,I0,I0,I0,I0,I0,I0,I0,I0,I0,I0,I0,.str 0 0,.nsl,I0,.str 0 0,.nsl,.str 0 0] [(0,1,c 10),(3,1,T 43),(5,1,T 49)])),X [0,3,1,2,11,4,10,9,8,7,6,5] (M 2 (ca n_Qb7 [39,42,50]))]) .skip]
def a_Qcr:AFunc:=⟨52,2,[],b_Qcr⟩
def l_Qef_0:ACode:=q [q [r 8 [mv 7,mv 0,le 9,bt .lss 8 10],b (T 11) .skip (.exit 0)],.blk 1 (q [q [r 14 [mv 6,no 14,mv 15,i 16 [mv 0,mv 7,ia 1 17 18,ld 19,mv 1,bt .geq 20 21],pA 16 22],b (T 23) (q [r 24 [mv 5,mv 1,y 3 (.bslice 1 1 [I0] [(0,1,T 25)]),y 2 (.append 1 8 (T 24) (T 26)),D 5 (mv 27)],r 6 [z (.mv fT)]]) .skip],r 28 [mv 0,mv 7,ia 1 28 29,ld 30,mv 1,bt .neq 31 32],b (T 33) (r 34 [mv 5,mv 0,mv 7,ia 1 35 36,ld 37,y 3 (.bslice 1 1 [I0] [(0,1,T 38)]),y 2 (.append 1 8 (T 34) (T 39)),D 5 (mv 40)]) .skip]),r 12 [mv 7,bc .add 12 1,D 7 (mv 13)]]
def b_Qef:ACode:=q [r 4 [z (.mv nS)],r 5 [z (.mv nS)],r 6 [z (.mv fF)],q [r 7 [z (.mv (c 0))],.blk 0 (.loop l_Qef_0)],q [r 41 [mv 6,no 41],b (T 42) (r 43 [mv 5,mv 1,y 3 (.bslice 1 1 [I0] [(0,1,T 44)]),y 2 (.append 1 8 (T 43) (T 45)),D 5 (mv 46)]) .skip],r 4 [D 47 (mv 5),mv 47],.ret]
def a_Qef:AFunc:=⟨48,2,[.tmp 0 4],b_Qef⟩
def l_Qaq_0:ACode:=q [r 9 [bt .lss 8 7],b (T 9) .skip (.exit 0),.blk 1 (q [r 5 [D 10 (mv 8),mv 10],r 11 [mv 1,mv 0,mv 5,ia 1 12 13,ld 14,w (.call (T 11) [T 15])],b (T 16) (q [r 4 [D 17 (mv 5),mv 17],.ret]) .skip]),r 8 [D 18 (bc .add 8 1),mv 18]]
def b_Qaq:ACode:=q [r 4 [z (.mv (c 0))],q [r 6 [mv 0,le 6,z (.mv (c 0))],.blk 0 (.loop l_Qaq_0)],r 4 [z (.mv (c (-1)))],.ret]
def a_Qaq:AFunc:=⟨19,2,[.tmp 0 4],b_Qaq⟩
def b_Qab:ACode:=q [r 4 [z (.mv fF)],r 5 [mv 0,mv 1,ca n_Qad [5,6],bc .geq 7 0,D 4 (mv 8)],.ret]
def a_Qab:AFunc:=⟨9,2,[.tmp 0 4],b_Qab⟩
def b_Qc7:ACode:=q [r 1 [y 3 (.box (T 0)),z (.mv fF)],r 3 [lo 3 1,ca n_Qeg [3],no 4,D 2 (mv 5)],.ret]
def a_Qc7:AFunc:=⟨6,1,[.tmp 0 2],b_Qc7⟩
def b_Qeg:ACode:=q [r 1 [y 3 (.box (T 0)),z (.mv fF)],r 3 [fa 0 1,ld 3,ca n_Qd7 [4],mv 5,i 6 [fa 1 1,ld 7,ca n_Qd0 [8]],pA 6 9,mv 10,i 11 [fa 2 1,ld 12,ca n_Qd0 [13]],pA 11 14,D 2 (mv 15)],.ret]
def a_Qeg:AFunc:=⟨16,1,[.tmp 0 2],b_Qeg⟩
def b_Qej:ACode:=q [r 1 [y 3 (.box (T 0)),z (.mv fF)],r 3 [fa 0 1,ld 3,ca n_Qee [4],mv 5,i 6 [fa 1 1,ld 7,ca n_Qea [8]],pA 6 9,mv 10,i 11 [fa 2 1,ld 12,ca n_Qea [13]],pA 11 14,D 2 (mv 15)],.ret]
def a_Qej:AFunc:=⟨16,1,[.tmp 0 2],b_Qej⟩
def l_Qap_0:ACode:=.blk 1 (q [r 19 [mv 2,mv 1,bt .sub 19 20,D 10 (mv 21)],q [r 22 [mv 10,bc .leq 22 12],b (T 23) (q [r 24 [mv 0,mv 1,mv 2,M 2 (ca n_Qaf [24,25,26])],.ret]) .skip],q [r 28 [mv 3,e 28 0],b (T 29) (q [r 30 [mv 0,mv 1,mv 2,M 2 (ca n_Qao [30,31,32])],.ret]) .skip],q [r 34 [mv 8,no 34],b (T 35) (q [r 36 [mv 0,mv 1,mv 2,M 2 (ca n_Qag [36,37,38])],r 40 [mv 3,bc .sub 40 1,D 3 (mv 41)]]) .skip],r 43 [mv 0,mv 1,mv 2,M 2 (ca n_Qai [43,44,45]),D 42 (mv 46),ex 42 0,ex 42 1,D 11 (mv 47),D 12 (mv 48)],q [r 49 [mv 12,e 49 2],b (T 50) (q [r 51 [mv 0,mv 1,mv 2,M 2 (ca n_Qah [51,52,53])],r 55 [mv 2,bc .sub 55 1,mv 11,mv 1,bt .sub 57 58,bt .sub 56 59,D 11 (mv 60)],r 12 [z (.mv (c 1))]]) .skip],q [r 61 [mv 8,mv 61,i 62 [mv 9],pA 62 63,mv 64,i 65 [mv 12,e 66 1],pA 65 67],b (T 68) (q [r 69 [mv 0,mv 1,mv 2,M 2 (ca n_Qac [69,70,71])],b (T 72) .ret .skip]) .skip],q [d 73 [mv 1,p 0 (bc .gtr 73 0),p 1 (mv 74),i 75 [p 2 (mv 0),p 2 (mv 1),p 4 (bc .sub 77 1),K 3 [5,4] (ia 1 76 78),p 6 (ld 79),p 2 (mv 0),p 2 (mv 11),K 8 [9] (ia 1 81 82),p 10 (ld 83),K 7 [11,10,8,9] (ca n_Qdm [80,84]),p 12 (no 85)],K 2 [13,12,7,6,3,5,4,11,10,8,9] (pA 75 86)],b (T 87) (q [r 88 [mv 0,mv 1,mv 2,mv 11,M 2 (ca n_Qae [88,89,90,91]),D 13 (mv 92)],r 1 [D 93 (mv 13),mv 93],.exit 1]) .skip],r 95 [mv 0,mv 1,mv 2,mv 11,M 2 (ca n_Qam [95,96,97,98]),D 94 (mv 99),ex 94 0,ex 94 1,D 14 (mv 100),D 15 (mv 101)],r 9 [D 102 (mv 15),mv 102],r 103 [mv 14,mv 1,bt .sub 103 104,mv 2,mv 14,bt .sub 106 107,D 16 (mv 105),D 17 (mv 108)],r 109 [mv 10,bc .quo 109 8,D 18 (mv 110)],r 111 [mv 16,mv 17,bt .lss 111 112],b (T 113) (q [r 114 [mv 16,mv 18,bt .geq 114 115,D 8 (mv 116)],r 117 [mv 0,mv 1,mv 14,mv 3,M 2 (ca n_Qap [117,118,119,120])],r 122 [mv 14,bc .add 122 1,D 1 (mv 123)]]) (q [r 124 [mv 17,mv 18,bt .geq 124 125,D 8 (mv 126)],r 127 [mv 0,mv 14,bc .add 128 1,mv 2,mv 3,M 2 (ca n_Qap [127,129,130,131])],r 2 [D 133 (mv 14),mv 133]])])
def b_Qap:ACode:=q [r 8 [z (.mv fT)],r 9 [z (.mv fT)],.blk 0 (.loop l_Qap_0)]
def a_Qap:AFunc:=⟨134,4,[],b_Qap⟩
def b_Qc8:ACode:=q [r 2 [z (.mv (c 0))],b fF (q [r 3 [mv 0,z (.conv .u32 (T 3)),ca n_Qce [4],D 2 (mv 5)],.ret]) .skip,r 6 [mv 0,ca n_Qcf [6],D 2 (mv 7)],.ret]
def a_Qc8:AFunc:=⟨8,1,[.tmp 0 2],b_Qc8⟩
def b_Qc9:ACode:=q [r 2 [y 3 (.box (T 0)),y 3 (.box (T 1)),z (.mv fF)],q [d 7 [fa 3 2,p 0 (lo 3 7),p 1 (ca n_Qdr [8]),fa 3 3,p 3 (lo 3 10),K 4 [2,1,0] (ca n_Qdr [11]),D 5 (K 2 [5,4,3] (mv 9)),D 6 (K 5 [6] (mv 12))],.blk 0 (q [r 14 [fa 1 2,ld 14,fa 1 3,ld 16,bt .neq 15 17,D 13 (mv 18)],b (T 13) (q [r 19 [fa 1 2,ld 19,fa 1 3,ld 21,bt .gtr 20 22,D 4 (mv 23)],.ret]) (q [r 25 [mv 5,mv 6,bt .neq 25 26,D 24 (mv 27)],b (T 24) (q [r 28 [mv 5,mv 6,bt .gtr 28 29,D 4 (mv 30)],.ret]) .skip])])],r 31 [fa 0 2,ld 31,fa 0 3,ld 33,bt .lss 32 34,D 4 (mv 35)],.ret]
def a_Qc9:AFunc:=⟨36,2,[.tmp 0 4],b_Qc9⟩
def b_Qcs:ACode:=q [r 2 [y 3 (.box (T 0)),y 3 (.box (T 1)),y 3 (.alloc [I0,.str 0 0,.nsl]),z (.mv (c 0))],.blk 0 (q [d 7 [lo 3 2,p 0 (ca n_Qcm [7]),p 1 (no 8),p 2 (mv 9),j 10 [p 3 (lo 3 3),p 4 (ca n_Qcm [11]),p 5 (no 12)],K 3 [6,5,4] (pO 10 13),p 7 (mv 14),j 15 [p 8 (lo 3 3),p 9 (ca n_Qdr [16]),p 8 (fa 0 2),p 11 (ld 18),K 10 [12,11] (bt .lss 17 19)],K 8 [13,10,9,12,11] (pO 15 20),D 6 (p 14 (mv 21))],b (T 6) (q [r 5 [D 22 (z (.build [I0,.str 0 0,.nsl] [])),so 3 4 22,z (.mv (c 1601))],.ret]) (q [r 24 [fa 0 2,ld 24,fa 0 3,ld 26,bt .leq 25 27,D 23 (mv 28)],b (T 23) (q [r 29 [lo 3 3,ca n_Qby [29],so 3 4 30,D 5 (z (.mv (c 0)))],.ret]) .skip])]),d 31 [fa 0 2,p 0 (ld 31),fa 1 2,p 2 (ld 33),fa 2 3,p 4 (ld 35),fa 0 2,p 6 (ld 37),fa 0 3,p 8 (ld 39),K 7 [9,8] (bt .sub 38 40),K 5 [10,7,6,9,8] (z (.slc false 5 (T 36) (some (T 41)) none none)),K 1 [3,2,11,5,4,10,7,6,9,8] (z (.build [I0,.str 0 0,.nsl] [(0,1,T 32),(1,1,T 34),(2,1,T 42)])),p 12 (ca n_Qby [43]),p 13 (so 3 4 44),D 5 (p 14 (z (.mv (c 0))))],.ret]
def a_Qcs:AFunc:=⟨45,2,[.cell 0 4 true 3,.tmp 0 5],b_Qcs⟩
def b_Qdk:ACode:=q [r 2 [y 3 (.box (T 0)),y 3 (.box (T 1)),z (.mv fF)],q [r 5 [fa 1 2,ld 5,fa 1 3,ld 7,bt .neq 6 8],b (T 9) (q [r 10 [fa 1 2,ld 10,fa 1 3,ld 12,bt .gtr 11 13,D 4 (mv 14)],.ret]) .skip],q [d 15 [fa 3 2,p 0 (lo 3 15),p 1 (ca n_Qd2 [16]),fa 3 3,p 3 (lo 3 18),K 4 [2,1,0] (ca n_Qd2 [19]),K 2 [5,4,3] (bt .neq 17 20)],b (T 21) (q [d 22 [fa 3 2,p 0 (lo 3 22),p 1 (ca n_Qd2 [23]),fa 3 3,p 3 (lo 3 25),K 4 [2,1,0] (ca n_Qd2 [26]),K 2 [5,4,3] (bt .gtr 24 27),D 4 (p 6 (mv 28))],.ret]) .skip],r 29 [fa 0 2,ld 29,fa 0 3,ld 31,bt .lss 30 32,D 4 (mv 33)],.ret]
def a_Qdk:AFunc:=⟨34,2,[.tmp 0 4],b_Qdk⟩
def b_Qda:ACode:=q [r 2 [y 3 (.box (T 0)),y 3 (.box (T 1)),y 3 (.alloc [I0,.str 0 0,.nsl]),z (.mv (c 0))],q [d 6 [lo 3 2,p 0 (ca n_Qdu [6]),p 1 (no 7),p 2 (mv 8),j 9 [p 3 (lo 3 3),p 4 (ca n_Qdu [10]),p 5 (no 11)],K 3 [6,5,4] (pO 9 12),p 7 (mv 13),j 14 [p 8 (lo 3 3),p 9 (ca n_Qd2 [15]),p 8 (fa 0 2),p 11 (ld 17),K 10 [12,11] (bt .lss 16 18)],K 8 [13,10,9,12,11] (pO 14 19)],b (T 20) (q [r 5 [D 21 (z (.build [I0,.str 0 0,.nsl] [])),so 3 4 21,z (.mv (c 1601))],.ret]) .skip],q [r 22 [fa 0 2,ld 22,fa 0 3,ld 24,bt .leq 23 25],b (T 26) (q [r 27 [lo 3 3,ca n_Qdh [27],so 3 4 28,D 5 (z (.mv (c 0)))],.ret]) .skip],d 29 [fa 0 2,p 0 (ld 29),fa 1 2,p 2 (ld 31),fa 2 3,p 4 (ld 33),fa 0 2,p 6 (ld 35),fa 0 3,p 8 (ld 37),K 7 [9,8] (bt .sub 36 38),K 5 [10,7,6,9,8] (z (.slc false 5 (T 34) (some (T 39)) none none)),K 1 [3,2,11,5,4,10,7,6,9,8] (z (.build [I0,.str 0 0,.nsl] [(0,1,T 30),(1,1,T 32),(2,1,T 40)])),p 12 (ca n_Qdh [41]),p 13 (so 3 4 42),D 5 (p 14 (z (.mv (c 0))))],.ret]
def a_Qda:AFunc:=⟨43,2,[.cell 0 4 true 3,.tmp 0 5],b_Qda⟩
def b_Qdl:ACode:=q [r 2 [z (.mv fF)],r 3 [mv 0,bc .geq 3 0,mv 4,i 5 [mv 0,bc .lss 6 7],pA 5 7,D 2 (mv 8)],.ret]
def a_Qdl:AFunc:=⟨9,1,[.tmp 0 2],b_Qdl⟩
def b_Qct:ACode:=q [r 2 [z (.mv fF)],r 3 [mv 0,bc .geq 3 100,mv 4,i 5 [mv 0,bc .lss 6 108],pA 5 7,D 2 (mv 8)],.ret]
def a_Qct:AFunc:=⟨9,1,[.tmp 0 2],b_Qct⟩
def b_Qdm:ACode:=q [r 4 [z (.mv fF)],r 5 [mv 0,ca n_Qdb [5],mv 6,i 7 [mv 1,ca n_Qdb [8],no 9],pA 7 10,mv 11,j 12 [mv 0,mv 1,bt .lss 13 14],pO 12 15,D 4 (mv 16)],.ret]
def a_Qdm:AFunc:=⟨17,2,[.tmp 0 4],b_Qdm⟩
def b_Qb1:ACode:=q [r 2 [z (.mv fF)],r 3 [mv 0,mv 0,bt .neq 3 4,D 2 (mv 5)],.ret]
def a_Qb1:AFunc:=⟨6,1,[.tmp 0 2],b_Qb1⟩
def b_Qdb:ACode:=q [r 2 [z (.mv fF)],r 3 [mv 0,mv 0,bt .neq 3 4,D 2 (mv 5)],.ret]
def a_Qdb:AFunc:=⟨6,1,[.tmp 0 2],b_Qdb⟩
def b_Qea:ACode:=q [r 2 [z (.mv fF)],r 3 [mv 0,bc .geq 3 (-2147483648),mv 4,i 5 [mv 0,bc .leq 6 2147483647],pA 5 7,D 2 (mv 8)],.ret]
def a_Qea:AFunc:=⟨9,1,[.tmp 0 2],b_Qea⟩
def l_Qad_0:ACode:=q [r 9 [bt .lss 8 7],b (T 9) .skip (.exit 0),.blk 1 (q [r 5 [D 10 (mv 8),mv 10],r 11 [mv 1,mv 0,mv 5,ia 3 12 13,lo 3 14,w (.call (T 11) [T 15])],b (T 16) (q [r 4 [D 17 (mv 5),mv 17],.ret]) .skip]),r 8 [D 18 (bc .add 8 1),mv 18]]
def b_Qad:ACode:=q [r 4 [z (.mv (c 0))],q [r 6 [mv 0,le 6,z (.mv (c 0))],.blk 0 (.loop l_Qad_0)],r 4 [z (.mv (c (-1)))],.ret]
def a_Qad:AFunc:=⟨19,2,[.tmp 0 4],b_Qad⟩
def b_Qd0:ACode:=q [r 2 [z (.mv fF)],r 3 [mv 0,mv 0,z (.conv .i32 (T 4)),z (.conv .i64 (T 5)),E 3 6,D 2 (mv 7)],.ret]
def a_Qd0:AFunc:=⟨8,1,[.tmp 0 2],b_Qd0⟩
def l_Qaf_0:ACode:=q [q [d 16 [mv 7,mv 1,X [0,1] (bt .gtr 16 17),p 2 (mv 18),i 19 [p 3 (mv 0),p 3 (mv 7),K 4 [5] (ia 1 20 21),p 6 (ld 22),p 3 (mv 0),p 3 (mv 7),p 9 (bc .sub 25 1),K 8 [10,9] (ia 1 24 26),p 11 (ld 27),K 7 [12,11,8,10,9] (ca n_Qdm [23,28])],K 3 [13,7,6,4,5,12,11,8,10,9] (pA 19 29)],b (T 30) .skip (.exit 2)],.blk 3 (d 33 [mv 0,mv 7,mv 0,mv 7,p 3 (bc .sub 36 1),mv 0,mv 7,p 6 (bc .sub 39 1),X [5,7,6] (ia 1 38 40),p 8 (ld 41),mv 0,mv 7,X [10,11] (ia 1 43 44),p 12 (ld 45),X [0,1,5,6,7,8,9,13,12,10,11] (ia 1 33 34),p 14 (so 1 47 42),X [2,4,3,0,1,5,6,7,8,9,10,11,12,13,14,15] (ia 1 35 37),p 16 (so 1 48 46)]),r 31 [mv 7,bc .sub 31 1,D 7 (mv 32)]]
def l_Qaf_1:ACode:=q [q [r 10 [mv 6,mv 2,bt .lss 10 11],b (T 12) .skip (.exit 0)],.blk 1 (q [r 7 [D 15 (mv 6),mv 15],.blk 2 (.loop l_Qaf_0)]),r 13 [mv 6,bc .add 13 1,D 6 (mv 14)]]
def b_Qaf:ACode:=q [r 8 [mv 1,bc .add 8 1,D 6 (mv 9)],.blk 0 (.loop l_Qaf_1)]
def a_Qaf:AFunc:=⟨49,3,[],b_Qaf⟩
def b_Qcf:ACode:=q [r 2 [z (.mv (c 0))],q [r 3 [mv 0,z (.bin .geq (T 3) (.c (.one (.int .u64 4294967296))))],b (T 4) (q [r 5 [mv 0,z (.shift false (T 5) (.c (.one (.int .u64 32)))),D 0 (mv 6)],r 2 [z (.mv (c 32))]]) .skip],q [r 7 [mv 0,z (.bin .geq (T 7) (.c (.one (.int .u64 65536))))],b (T 8) (q [r 9 [mv 0,z (.shift false (T 9) (.c (.one (.int .u64 16)))),D 0 (mv 10)],r 11 [mv 2,bc .add 11 16,D 2 (mv 12)]]) .skip],q [r 13 [mv 0,z (.bin .geq (T 13) (.c (.one (.int .u64 256))))],b (T 14) (q [r 15 [mv 0,z (.shift false (T 15) (.c (.one (.int .u64 8)))),D 0 (mv 16)],r 17 [mv 2,bc .add 17 8,D 2 (mv 18)]]) .skip],r 19 [mv 2,mv 0,z (.conv .u8 (T 20)),z (.idx (.c (.one (.str 256 496986003408712215933005303621146343841837811690876167382323004466384420695090407243345123874780946046625255262057845613767806773758184921447759720770971536008171983842311960805720366577116933250839345203839274948261284255908394484732272583221484877694546905335834403051067785895034095251181560891789708940188598129052595634438001880866652824740680664595948164050600812232986714152902334120417949232733424961741260388658846598210939813666227264727603044226856020347194099943897342244906131705541414413428559898943151040826816076322978570758226444464494629814583418847495712557856038296917933182380796641777551368))) (T 21)),z (.conv .i64 (T 22)),bt .add 19 23,D 2 (mv 24)],.ret]
def a_Qcf:AFunc:=⟨25,1,[.tmp 0 2],b_Qcf⟩
end
structure Fs (P:Program):Prop where
 mx:P.follows .mixedOrders=true
 Qar:FOk P n_Qar a_Qar
 Qbj:FOk P n_Qbj a_Qbj
 Qbk:FOk P n_Qbk a_Qbk
 Qd1:FOk P n_Qd1 a_Qd1
 Qdc:FOk P n_Qdc a_Qdc
 Qbb:FOk P n_Qbb a_Qbb
 Qa1:FOk P n_Qa1 a_Qa1
 Qbl:FOk P n_Qbl a_Qbl
 Qbm:FOk P n_Qbm a_Qbm
 Qbn:FOk P n_Qbn a_Qbn
 Qb2:FOk P n_Qb2 a_Qb2
 Qcu:FOk P n_Qcu a_Qcu
 Qbo:FOk P n_Qbo a_Qbo
 Qde:FOk P n_Qde a_Qde
 Qcv:FOk P n_Qcv a_Qcv
 Qb3:FOk P n_Qb3 a_Qb3
 Qcw:FOk P n_Qcw a_Qcw
 Qdo:FOk P n_Qdo a_Qdo
 Qaw:FOk P n_Qaw a_Qaw
 Qbp:FOk P n_Qbp a_Qbp
 Qbc:FOk P n_Qbc a_Qbc
 Qa2:FOk P n_Qa2 a_Qa2
 Qbq:FOk P n_Qbq a_Qbq
 Qeb:FOk P n_Qeb a_Qeb
 Qcx:FOk P n_Qcx a_Qcx
 Qd2:FOk P n_Qd2 a_Qd2
 Qd3:FOk P n_Qd3 a_Qd3
 Qcg:FOk P n_Qcg a_Qcg
 Qdf:FOk P n_Qdf a_Qdf
 Qec:FOk P n_Qec a_Qec
 Qcy:FOk P n_Qcy a_Qcy
 Qch:FOk P n_Qch a_Qch
 Qbr:FOk P n_Qbr a_Qbr
 Qdg:FOk P n_Qdg a_Qdg
 Qcz:FOk P n_Qcz a_Qcz
 Qb4:FOk P n_Qb4 a_Qb4
 Qb5:FOk P n_Qb5 a_Qb5
 Qbd:FOk P n_Qbd a_Qbd
 Qa3:FOk P n_Qa3 a_Qa3
 Qax:FOk P n_Qax a_Qax
 Qbs:FOk P n_Qbs a_Qbs
 Qbt:FOk P n_Qbt a_Qbt
 Qbe:FOk P n_Qbe a_Qbe
 Qa4:FOk P n_Qa4 a_Qa4
 Qa5:FOk P n_Qa5 a_Qa5
 Qbf:FOk P n_Qbf a_Qbf
 Qbg:FOk P n_Qbg a_Qbg
 Qbu:FOk P n_Qbu a_Qbu
 Qa6:FOk P n_Qa6 a_Qa6
 Qb6:FOk P n_Qb6 a_Qb6
 Qb7:FOk P n_Qb7 a_Qb7
 Qc0:FOk P n_Qc0 a_Qc0
 Qdh:FOk P n_Qdh a_Qdh
 Qdq:FOk P n_Qdq a_Qdq
 Qay:FOk P n_Qay a_Qay
 Qa7:FOk P n_Qa7 a_Qa7
 Qat:FOk P n_Qat a_Qat
 Qa8:FOk P n_Qa8 a_Qa8
 Qa9:FOk P n_Qa9 a_Qa9
 Qei:FOk P n_Qei a_Qei
 Qbv:FOk P n_Qbv a_Qbv
 Qci:FOk P n_Qci a_Qci
 Qbw:FOk P n_Qbw a_Qbw
 Qc1:FOk P n_Qc1 a_Qc1
 Qcj:FOk P n_Qcj a_Qcj
 Qck:FOk P n_Qck a_Qck
 Qc2:FOk P n_Qc2 a_Qc2
 Qb8:FOk P n_Qb8 a_Qb8
 Qdi:FOk P n_Qdi a_Qdi
 Qcl:FOk P n_Qcl a_Qcl
 Qcm:FOk P n_Qcm a_Qcm
 Qdr:FOk P n_Qdr a_Qdr
 Qaj:FOk P n_Qaj a_Qaj
 Qc3:FOk P n_Qc3 a_Qc3
 Qds:FOk P n_Qds a_Qds
 Qdt:FOk P n_Qdt a_Qdt
 Qd4:FOk P n_Qd4 a_Qd4
 Qdu:FOk P n_Qdu a_Qdu
 Qc4:FOk P n_Qc4 a_Qc4
 Qd5:FOk P n_Qd5 a_Qd5
 Qcn:FOk P n_Qcn a_Qcn
 Qb9:FOk P n_Qb9 a_Qb9
 Qc5:FOk P n_Qc5 a_Qc5
 Qca:FOk P n_Qca a_Qca
 Qbh:FOk P n_Qbh a_Qbh
 Qa0:FOk P n_Qa0 a_Qa0
 Qan:FOk P n_Qan a_Qan
 Qdv:FOk P n_Qdv a_Qdv
 Qbi:FOk P n_Qbi a_Qbi
 Qbx:FOk P n_Qbx a_Qbx
 Qdj:FOk P n_Qdj a_Qdj
 Qd6:FOk P n_Qd6 a_Qd6
 Qcb:FOk P n_Qcb a_Qcb
 Qcc:FOk P n_Qcc a_Qcc
 Qc6:FOk P n_Qc6 a_Qc6
 Qby:FOk P n_Qby a_Qby
 Qau:FOk P n_Qau a_Qau
 Qco:FOk P n_Qco a_Qco
 Qdw:FOk P n_Qdw a_Qdw
 Qcp:FOk P n_Qcp a_Qcp
 Qcq:FOk P n_Qcq a_Qcq
 Qd7:FOk P n_Qd7 a_Qd7
 Qbz:FOk P n_Qbz a_Qbz
 Qba:FOk P n_Qba a_Qba
 Qb0:FOk P n_Qb0 a_Qb0
 Qak:FOk P n_Qak a_Qak
 Qaa:FOk P n_Qaa a_Qaa
 Qav:FOk P n_Qav a_Qav
 Qcd:FOk P n_Qcd a_Qcd
 Qdx:FOk P n_Qdx a_Qdx
 Qed:FOk P n_Qed a_Qed
 Qdy:FOk P n_Qdy a_Qdy
 Qdz:FOk P n_Qdz a_Qdz
 Qd8:FOk P n_Qd8 a_Qd8
 Qee:FOk P n_Qee a_Qee
 Qd9:FOk P n_Qd9 a_Qd9
 Qcr:FOk P n_Qcr a_Qcr
 Qef:FOk P n_Qef a_Qef
 Qaq:FOk P n_Qaq a_Qaq
 Qab:FOk P n_Qab a_Qab
 Qc7:FOk P n_Qc7 a_Qc7
 Qeg:FOk P n_Qeg a_Qeg
 Qej:FOk P n_Qej a_Qej
 Qc9:FOk P n_Qc9 a_Qc9
 Qcs:FOk P n_Qcs a_Qcs
 Qdk:FOk P n_Qdk a_Qdk
 Qda:FOk P n_Qda a_Qda
 Qdl:FOk P n_Qdl a_Qdl
 Qct:FOk P n_Qct a_Qct
 Qdm:FOk P n_Qdm a_Qdm
 Qb1:FOk P n_Qb1 a_Qb1
 Qdb:FOk P n_Qdb a_Qdb
 Qea:FOk P n_Qea a_Qea
 Qad:FOk P n_Qad a_Qad
 Qd0:FOk P n_Qd0 a_Qd0
end Go.Proofs.YtnnjlnkoomeadaaGreat.Pv
