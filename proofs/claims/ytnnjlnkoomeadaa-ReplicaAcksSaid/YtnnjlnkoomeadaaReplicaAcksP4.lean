/-
  ReplicaAcks: part 4 of what the proof is made of.
-/
import Derived.Test.YtnnjlnkoomeadaaReplicaAcksP3
set_option linter.unusedVariables false
set_option linter.unusedSimpArgs false
open Int renaming reduceEq → zA,reduceNe → zB,reduceLT → zC,reduceLE → zD,reduceNeg → zE,reduceAdd → zF,reduceSub → zG,reduceToNat → zH
open Nat renaming reduceEqDiff → zI,reduceAdd → zJ,reduceMul → zK,reduceSub → zL,reduceLeDiff → zM,reduceBEq → zN,reduceLT → zO,reduceBneDiff → zP
set_option maxRecDepth 1000000
set_option linter.unusedVariables false
namespace Go.Proofs.Ytnnjlnkoomeadaa.Pv
open Go.Ev
abbrev t (q r : Nat) : Od:=.t q r
abbrev c (i : Int) : Od:=.c (.one (.int .i64 i))
abbrev f (g : Nat) : Od:=.c (.one (.fn g []))
abbrev n_law17_ReplicaAcks : Nat:=6
abbrev n_replica_New : Nat:=21
abbrev n_replica_May : Nat:=24
abbrev n_replica_Primary : Nat:=26
abbrev n_replica_Committed : Nat:=28
abbrev n_law17_awake : Nat:=30
abbrev n_law17_fresh : Nat:=31
abbrev n_replica_Receive : Nat:=32
abbrev n_message_May : Nat:=38
abbrev n_choose_Last : Nat:=48
abbrev n_repair_Nodes : Nat:=50
abbrev n_replica_within : Nat:=52
abbrev n_message_MayLog : Nat:=53
abbrev n_slices_ContainsFunc_int_int : Nat:=54
abbrev n_replica_May_1 : Nat:=55
abbrev n_slices_Sort_int_int : Nat:=59
abbrev n_replica_Clone : Nat:=61
abbrev n_replica_begin : Nat:=62
abbrev n_replica_step_follow : Nat:=63
abbrev n_replica_step_acked : Nat:=64
abbrev n_replica_step_started : Nat:=65
abbrev n_replica_step_voted : Nat:=66
abbrev n_replica_step_given : Nat:=67
abbrev n_replica_step_normal : Nat:=68
abbrev n_replica_step_send : Nat:=69
abbrev n_replica_step_end : Nat:=70
abbrev n_slices_Clone_int_int : Nat:=72
abbrev n_message_fields : Nat:=73
abbrev n_message_who : Nat:=74
abbrev n_message_number : Nat:=75
abbrev n_message_limits : Nat:=76
abbrev n_point_Name : Nat:=77
abbrev n_point_Batch : Nat:=78
abbrev n_message_CloneLog : Nat:=86
abbrev n_message_MayEntry : Nat:=88
abbrev n_slices_IndexFunc_int_int : Nat:=89
abbrev n_slices_Clone_api_Do_api_Do : Nat:=95
abbrev n_replica_step_last : Nat:=97
abbrev n_message_CloneEntry : Nat:=99
abbrev n_replica_step_leads : Nat:=103
abbrev n_message_Node : Nat:=111
abbrev n_message_Client : Nat:=112
abbrev n_slices_ContainsFunc_api_Point_api_Point : Nat:=113
abbrev n_point_Batch_1 : Nat:=114
abbrev n_point_May : Nat:=115
abbrev n_slices_IndexFunc_api_Point_api_Point : Nat:=145
abbrev n_point_Small : Nat:=146
def l_law17_ReplicaAcks_0 : ACode:=(.seq (.seq (.reg [⟨(some (5,5)),.mv (t 1 2),none,0,[]⟩,⟨(some (5,6)),.mv (t 0 7),none,0,[]⟩,⟨(some (5,7)),.bin .lss (t 5 5) (t 5 6),none,0,[]⟩]) (.cond (t 5 7) .skip (.exit 4))) (.seq (.blk 5 (.seq (.reg [⟨(some (5,10)),.mv (t 0 9),none,0,[]⟩,⟨(some (5,11)),.mv (t 1 2),none,0,[]⟩,⟨(some (5,12)),.iaddr 1 (t 5 10) (t 5 11),none,0,[]⟩,⟨(some (5,13)),.load false 1 (t 5 12),none,1,[]⟩,⟨(some (5,14)),.mv (t 1 0),none,0,[]⟩,⟨(some (5,15)),.bin .geq (t 5 13) (t 5 14),none,0,[]⟩]) (.cond (t 5 15) (.reg [⟨(some (6,0)),.mv (t 1 1),none,0,[]⟩,⟨(some (6,1)),.bin .add (t 6 0) (c 1),none,0,[]⟩,⟨(some (1,1)),.mv (t 6 1),none,0,[]⟩]) .skip))) (.reg [⟨(some (5,8)),.mv (t 1 2),none,0,[]⟩,⟨(some (5,9)),.bin .add (t 5 8) (c 1),none,0,[]⟩,⟨(some (1,2)),.mv (t 5 9),none,0,[]⟩])))
def l_law17_ReplicaAcks_1 : ACode:=(.seq (.seq (.reg [⟨(some (4,15)),.mv (t 1 0),none,0,[]⟩,⟨(some (5,0)),.mv (t 0 1),none,0,[]⟩,⟨(some (5,1)),.bin .and (t 5 0) (c 15),none,0,[]⟩,⟨(some (5,2)),.bin .leq (t 4 15) (t 5 1),none,0,[]⟩]) (.cond (t 5 2) .skip (.exit 2))) (.seq (.blk 3 (.seq (.reg [⟨(some (1,1)),.mv (c 0),none,0,[]⟩]) (.seq (.seq (.reg [⟨(some (1,2)),.mv (c 1),none,0,[]⟩]) (.blk 4 (.loop l_law17_ReplicaAcks_0))) (.seq (.reg [⟨(some (6,2)),.mv (t 1 1),none,0,[]⟩,⟨(some (6,3)),.mv (t 0 7),none,0,[]⟩,⟨(some (6,4)),.bin .sub (t 6 3) (c 1),none,0,[]⟩,⟨(some (6,5)),.bin .quo (t 6 4) (c 2),none,0,[]⟩,⟨(some (6,6)),.bin .geq (t 6 2) (t 6 5),none,0,[]⟩]) (.cond (t 6 6) (.reg [⟨(some (6,7)),.mv (t 1 0),none,0,[]⟩,⟨(some (0,15)),.mv (t 6 7),none,0,[]⟩]) .skip))))) (.reg [⟨(some (5,3)),.mv (t 1 0),none,0,[]⟩,⟨(some (5,4)),.bin .add (t 5 3) (c 1),none,0,[]⟩,⟨(some (1,0)),.mv (t 5 4),none,0,[]⟩])))
def l_law17_ReplicaAcks_2 : ACode:=(.seq (.seq (.reg [⟨(some (1,12)),.mv (t 0 10),none,0,[]⟩,⟨(some (1,13)),.mv (t 0 2),none,0,[]⟩,⟨(some (1,14)),.len false (t 1 13),none,0,[]⟩,⟨(some (1,15)),.bin .lss (t 1 12) (t 1 14),none,0,[]⟩,⟨(some (2,0)),.mv (t 1 15),none,0,[]⟩,⟨(some (2,1)),.mv (t 0 10),(some (2,0,true)),0,[]⟩,⟨(some (2,2)),.bin .lss (t 2 1) (c 12),(some (2,0,true)),0,[]⟩,⟨(some (2,3)),.pick (t 2 0) (t 2 2) (.c (.one (.bool false))),none,0,[]⟩]) (.cond (t 2 3) .skip (.exit 0))) (.seq (.blk 1 (.seq (.draw [⟨(some (2,6)),.mv (t 0 2),none,0,[]⟩,⟨(some (2,7)),.mv (t 0 10),none,0,[]⟩,⟨(some (2,8)),.iaddr 1 (t 2 6) (t 2 7),none,0,[0,1]⟩,⟨(some (2,9)),.load false 1 (t 2 8),none,1,[2,0,1]⟩,⟨(some (2,10)),.conv .u64 (t 2 9),none,0,[3,2,0,1]⟩,⟨(some (2,11)),.mv (t 0 7),none,0,[]⟩,⟨(some (2,12)),.bin .sub (t 2 11) (c 1),none,0,[5]⟩,⟨(some (2,13)),.conv .u64 (t 2 12),none,0,[6,5]⟩,⟨(some (2,14)),.bin .rem (t 2 10) (t 2 13),none,0,[4,3,2,0,1,7,6,5]⟩,⟨(some (2,15)),.conv .i64 (t 2 14),none,0,[8,4,3,2,0,1,7,6,5]⟩,⟨(some (3,0)),.bin .add (c 1) (t 2 15),none,0,[9,8,4,3,2,0,1,7,6,5]⟩,⟨(some (3,1)),.mv (t 0 2),none,0,[]⟩,⟨(some (3,2)),.mv (t 0 10),none,0,[]⟩,⟨(some (3,3)),.iaddr 1 (t 3 1) (t 3 2),none,0,[11,12]⟩,⟨(some (3,4)),.load false 1 (t 3 3),none,1,[13,11,12]⟩,⟨(some (3,5)),.bin .quo (t 3 4) (c 8),none,0,[14,13,11,12]⟩,⟨(some (3,6)),.bin .and (t 3 5) (c 31),none,0,[15,14,13,11,12]⟩,⟨(some (0,11)),.mv (t 3 0),none,0,[10,9,8,4,3,2,0,1,7,6,5]⟩,⟨(some (0,12)),.mv (t 3 6),none,0,[16,15,14,13,11,12,17,10,9,8,4,3,2,0,1,7,6,5]⟩]) (.seq (.reg [⟨(some (3,8)),.load true 13 (t 0 8),none,1,[]⟩,⟨(some (3,9)),.mv (t 0 11),none,0,[]⟩,⟨(some (3,10)),.mv (t 0 12),none,0,[]⟩,⟨(some (3,11)),.build [.int .i64 0,.int .i64 0,.int .i64 0,.int .i64 0,.int .i64 0,.int .i64 0,.int .i64 0,.int .i64 0,.int .i64 0,.int .i64 0,.int .i64 0,.int .i64 0,.int .i64 0,.int .i64 0,.str 0 0,.nsl,.int .i64 0,.str 0 0,.nsl,.str 0 0] [(0,1,(c 5)),(1,1,(t 3 9)),(2,1,(c 0)),(5,1,(t 3 10))],none,0,[]⟩,⟨(some (3,12)),.call (f n_replica_Receive) [(t 3 8),(t 3 11)],none,1,[]⟩,⟨(some (3,7)),.mv (t 3 12),none,0,[]⟩,⟨(some (3,13)),.extr (t 3 7) 0,none,0,[]⟩,⟨(some (3,14)),.extr (t 3 7) 1,none,0,[]⟩,⟨(some (0,13)),.alloc [.int .i64 0,.int .i64 0,.int .i64 0,.int .i64 0,.int .i64 0,.int .i64 0,.bool false,.int .i64 0,.str 0 0,.nsl,.nsl,.nsl,.nsl],none,3,[]⟩,⟨none,.store 13 (t 0 13) (t 3 13),none,2,[]⟩,⟨(some (0,14)),.mv (t 3 14),none,0,[]⟩]) (.seq (.seq (.reg [⟨(some (3,15)),.mv (t 0 14),none,0,[]⟩,⟨(some (4,0)),.len false (t 3 15),none,0,[]⟩,⟨(some (4,1)),.bin .neq (t 4 0) (c 0),none,0,[]⟩]) (.cond (t 4 1) (.seq (.reg [⟨(some (0,6)),.mv (.c (.one (.bool false))),none,0,[]⟩]) .ret) .skip)) (.seq (.reg [⟨(some (4,2)),.load true 13 (t 0 13),none,1,[]⟩,⟨none,.store 13 (t 0 8) (t 4 2),none,2,[]⟩]) (.seq (.reg [⟨(some (4,3)),.mv (t 0 9),none,0,[]⟩,⟨(some (4,4)),.mv (t 0 11),none,0,[]⟩,⟨(some (4,5)),.mv (t 0 9),none,0,[]⟩,⟨(some (4,6)),.mv (t 0 11),none,0,[]⟩,⟨(some (4,7)),.iaddr 1 (t 4 5) (t 4 6),none,0,[]⟩,⟨(some (4,8)),.load false 1 (t 4 7),none,1,[]⟩,⟨(some (4,9)),.mv (t 0 12),none,0,[]⟩,⟨(some (4,10)),.mv (t 0 1),none,0,[]⟩,⟨(some (4,11)),.bin .and (t 4 10) (c 15),none,0,[]⟩,⟨(some (4,12)),.min (t 4 9) [(t 4 11)],none,0,[]⟩,⟨(some (4,13)),.max (t 4 8) [(t 4 12)],none,0,[]⟩,⟨(some (4,14)),.iaddr 1 (t 4 3) (t 4 4),none,0,[]⟩,⟨none,.store 1 (t 4 14) (t 4 13),none,2,[]⟩]) (.seq (.reg [⟨(some (0,15)),.mv (c 0),none,0,[]⟩]) (.seq (.seq (.reg [⟨(some (1,0)),.mv (c 1),none,0,[]⟩]) (.blk 2 (.loop l_law17_ReplicaAcks_1))) (.seq (.reg [⟨(some (6,8)),.faddr 5 (t 0 8),none,0,[]⟩,⟨(some (6,9)),.load false 1 (t 6 8),none,1,[]⟩,⟨(some (6,10)),.mv (t 0 15),none,0,[]⟩,⟨(some (6,11)),.bin .neq (t 6 9) (t 6 10),none,0,[]⟩]) (.cond (t 6 11) (.seq (.reg [⟨(some (0,6)),.mv (.c (.one (.bool false))),none,0,[]⟩]) .ret) .skip)))))))))) (.reg [⟨(some (2,4)),.mv (t 0 10),none,0,[]⟩,⟨(some (2,5)),.bin .add (t 2 4) (c 1),none,0,[]⟩,⟨(some (0,10)),.mv (t 2 5),none,0,[]⟩])))
def b_law17_ReplicaAcks : ACode:=(.seq (.reg [⟨(some (0,6)),.mv (.c (.one (.bool false))),none,0,[]⟩]) (.seq (.seq (.reg [⟨(some (1,3)),.call (f n_law17_awake) [],none,1,[]⟩,⟨(some (1,4)),.not (t 1 3),none,0,[]⟩]) (.cond (t 1 4) (.seq (.reg [⟨(some (0,6)),.mv (.c (.one (.bool false))),none,0,[]⟩]) .ret) .skip)) (.seq (.reg [⟨(some (0,7)),.mv (c 3),none,0,[]⟩]) (.seq (.seq (.reg [⟨(some (1,5)),.mv (t 0 0),none,0,[]⟩]) (.cond (t 1 5) (.reg [⟨(some (0,7)),.mv (c 5),none,0,[]⟩]) .skip)) (.seq (.reg [⟨(some (1,6)),.mv (t 0 7),none,0,[]⟩,⟨(some (1,7)),.mv (t 0 1),none,0,[]⟩,⟨(some (1,8)),.bin .and (t 1 7) (c 15),none,0,[]⟩,⟨(some (1,9)),.call (f n_law17_fresh) [(c 0),(t 1 6),(c 0),(t 1 8),(c 0)],none,1,[]⟩,⟨(some (0,8)),.alloc [.int .i64 0,.int .i64 0,.int .i64 0,.int .i64 0,.int .i64 0,.int .i64 0,.bool false,.int .i64 0,.str 0 0,.nsl,.nsl,.nsl,.nsl],none,3,[]⟩,⟨none,.store 13 (t 0 8) (t 1 9),none,2,[]⟩]) (.seq (.reg [⟨(some (1,10)),.mv (t 0 7),none,0,[]⟩,⟨(some (1,11)),.mkslice 1 8 [.int .i64 0] (t 1 10) (t 1 10),none,3,[]⟩,⟨(some (0,9)),.mv (t 1 11),none,0,[]⟩]) (.seq (.seq (.reg [⟨(some (0,10)),.mv (c 0),none,0,[]⟩]) (.blk 0 (.loop l_law17_ReplicaAcks_2))) (.seq (.reg [⟨(some (0,6)),.mv (.c (.one (.bool true))),none,0,[]⟩]) .ret))))))))
def a_law17_ReplicaAcks : AFunc:=⟨108,3,[.tmp 0 6],b_law17_ReplicaAcks⟩
theorem i_law17_ReplicaAcks {P : Program} {fz : Fz} {mu : St} {n : Nat} {k : KT Prop} (fu : Nat) (x0 x1 x2 : AV) : textP P fu a_law17_ReplicaAcks [x0,x1,x2] fz mu n k = dcode pOrc False (CP P) fz fu b_law17_ReplicaAcks (tmE 108 (envI [x0,x1,x2])) mu n (endP fz [.tmp 0 6] k):=rfl
def b_replica_New : ACode:=(.seq (.reg [⟨(some (0,4)),.alloc [.int .i64 0,.int .i64 0,.int .i64 0,.int .i64 0,.int .i64 0,.int .i64 0,.bool false,.int .i64 0,.str 0 0,.nsl,.nsl,.nsl,.nsl],none,3,[]⟩,⟨(some (0,5)),.mv (c 0),none,0,[]⟩]) (.seq (.seq (.reg [⟨(some (0,6)),.mv (t 0 0),none,0,[]⟩,⟨(some (0,7)),.mv (t 0 1),none,0,[]⟩,⟨(some (0,8)),.call (f n_repair_Nodes) [(t 0 6),(t 0 7)],none,1,[]⟩,⟨(some (0,9)),.not (t 0 8),none,0,[]⟩]) (.cond (t 0 9) (.seq (.reg [⟨(some (0,10)),.build [.int .i64 0,.int .i64 0,.int .i64 0,.int .i64 0,.int .i64 0,.int .i64 0,.bool false,.int .i64 0,.str 0 0,.nsl,.nsl,.nsl,.nsl] [],none,0,[]⟩,⟨none,.store 13 (t 0 4) (t 0 10),none,2,[]⟩,⟨(some (0,5)),.mv (c 1700),none,0,[]⟩]) .ret) .skip)) (.seq (.reg [⟨(some (0,11)),.mv (t 0 0),none,0,[]⟩,⟨(some (0,12)),.mv (t 0 1),none,0,[]⟩,⟨(some (0,13)),.mv (t 0 1),none,0,[]⟩,⟨(some (0,14)),.mkslice 1 8 [.int .i64 0] (t 0 13) (t 0 13),none,3,[]⟩,⟨(some (0,15)),.build [.int .i64 0,.int .i64 0,.int .i64 0,.int .i64 0,.int .i64 0,.int .i64 0,.bool false,.int .i64 0,.str 0 0,.nsl,.nsl,.nsl,.nsl] [(0,1,(t 0 11)),(1,1,(t 0 12)),(10,1,(t 0 14))],none,0,[]⟩,⟨none,.store 13 (t 0 4) (t 0 15),none,2,[]⟩,⟨(some (0,5)),.mv (c 0),none,0,[]⟩]) .ret)))
def a_replica_New : AFunc:=⟨16,2,[.cell 0 4 true 13,.tmp 0 5],b_replica_New⟩
theorem i_replica_New {P : Program} {fz : Fz} {mu : St} {n : Nat} {k : KT Prop} (fu : Nat) (x0 x1 : AV) : textP P fu a_replica_New [x0,x1] fz mu n k = dcode pOrc False (CP P) fz fu b_replica_New (tmE 16 (envI [x0,x1])) mu n (endP fz [.cell 0 4 true 13,.tmp 0 5] k):=rfl
def l_replica_May_0 : ACode:=(.seq (.reg [⟨(some (7,1)),.bin .lss (t 7 0) (t 6 15),none,0,[]⟩]) (.seq (.cond (t 7 1) .skip (.exit 0)) (.seq (.blk 1 (.seq (.reg [⟨(some (7,2)),.iaddr 1 (t 6 14) (t 7 0),none,0,[]⟩,⟨(some (7,3)),.load false 1 (t 7 2),none,1,[]⟩,⟨(some (0,5)),.mv (t 7 3),none,0,[]⟩]) (.seq (.seq (.reg [⟨(some (7,4)),.mv (t 0 5),none,0,[]⟩,⟨(some (7,5)),.mv (t 0 3),none,0,[]⟩,⟨(some (7,6)),.bin .leq (t 7 4) (t 7 5),none,0,[]⟩,⟨(some (7,7)),.mv (t 7 6),none,0,[]⟩,⟨(some (7,8)),.mv (t 0 5),(some (7,7,false)),0,[]⟩,⟨(some (7,9)),.faddr 1 (t 0 1),(some (7,7,false)),0,[]⟩,⟨(some (7,10)),.load false 1 (t 7 9),(some (7,7,false)),1,[]⟩,⟨(some (7,11)),.bin .geq (t 7 8) (t 7 10),(some (7,7,false)),0,[]⟩,⟨(some (7,12)),.pick (t 7 7) (.c (.one (.bool true))) (t 7 11),none,0,[]⟩,⟨(some (7,13)),.mv (t 7 12),none,0,[]⟩,⟨(some (7,14)),.mv (t 0 5),(some (7,13,false)),0,[]⟩,⟨(some (7,15)),.faddr 0 (t 0 1),(some (7,13,false)),0,[]⟩,⟨(some (8,0)),.load false 1 (t 7 15),(some (7,13,false)),1,[]⟩,⟨(some (8,1)),.bin .eql (t 7 14) (t 8 0),(some (7,13,false)),0,[]⟩,⟨(some (8,2)),.pick (t 7 13) (.c (.one (.bool true))) (t 8 1),none,0,[]⟩]) (.cond (t 8 2) (.seq (.reg [⟨(some (0,2)),.mv (.c (.one (.bool false))),none,0,[]⟩]) .ret) .skip)) (.reg [⟨(some (8,3)),.mv (t 0 5),none,0,[]⟩,⟨(some (0,3)),.mv (t 8 3),none,0,[]⟩])))) (.reg [⟨(some (8,4)),.bin .add (t 7 0) (c 1),none,0,[]⟩,⟨(some (7,0)),.mv (t 8 4),none,0,[]⟩]))))
def l_replica_May_1 : ACode:=(.seq (.reg [⟨(some (8,9)),.bin .lss (t 8 8) (t 8 7),none,0,[]⟩]) (.seq (.cond (t 8 9) .skip (.exit 2)) (.seq (.blk 3 (.seq (.reg [⟨(some (8,10)),.iaddr 6 (t 8 6) (t 8 8),none,0,[]⟩,⟨(some (8,11)),.load true 6 (t 8 10),none,1,[]⟩,⟨(some (0,7)),.alloc [.int .i64 0,.int .i64 0,.int .i64 0,.int .i64 0,.str 0 0,.nsl],none,3,[]⟩,⟨none,.store 6 (t 0 7) (t 8 11),none,2,[]⟩]) (.seq (.seq (.reg [⟨(some (8,12)),.faddr 0 (t 0 7),none,0,[]⟩,⟨(some (8,13)),.load false 1 (t 8 12),none,1,[]⟩,⟨(some (8,14)),.mv (t 0 3),none,0,[]⟩,⟨(some (8,15)),.bin .leq (t 8 13) (t 8 14),none,0,[]⟩,⟨(some (9,0)),.mv (t 8 15),none,0,[]⟩,⟨(some (9,1)),.faddr 0 (t 0 7),(some (9,0,false)),0,[]⟩,⟨(some (9,2)),.load false 1 (t 9 1),(some (9,0,false)),1,[]⟩,⟨(some (9,3)),.faddr 1 (t 0 1),(some (9,0,false)),0,[]⟩,⟨(some (9,4)),.load false 1 (t 9 3),(some (9,0,false)),1,[]⟩,⟨(some (9,5)),.bin .geq (t 9 2) (t 9 4),(some (9,0,false)),0,[]⟩,⟨(some (9,6)),.pick (t 9 0) (.c (.one (.bool true))) (t 9 5),none,0,[]⟩,⟨(some (9,7)),.mv (t 9 6),none,0,[]⟩,⟨(some (9,8)),.faddr 0 (t 0 7),(some (9,7,false)),0,[]⟩,⟨(some (9,9)),.load false 1 (t 9 8),(some (9,7,false)),1,[]⟩,⟨(some (9,10)),.faddr 0 (t 0 1),(some (9,7,false)),0,[]⟩,⟨(some (9,11)),.load false 1 (t 9 10),(some (9,7,false)),1,[]⟩,⟨(some (9,12)),.bin .eql (t 9 9) (t 9 11),(some (9,7,false)),0,[]⟩,⟨(some (9,13)),.pick (t 9 7) (.c (.one (.bool true))) (t 9 12),none,0,[]⟩,⟨(some (9,14)),.mv (t 9 13),none,0,[]⟩,⟨(some (9,15)),.faddr 3 (t 0 7),(some (9,14,false)),0,[]⟩,⟨(some (10,0)),.load true 3 (t 9 15),(some (9,14,false)),1,[]⟩,⟨(some (10,1)),.call (f n_message_MayLog) [(t 10 0)],(some (9,14,false)),1,[]⟩,⟨(some (10,2)),.not (t 10 1),(some (9,14,false)),0,[]⟩,⟨(some (10,3)),.pick (t 9 14) (.c (.one (.bool true))) (t 10 2),none,0,[]⟩,⟨(some (10,4)),.mv (t 10 3),none,0,[]⟩,⟨(some (10,5)),.faddr 1 (t 0 7),(some (10,4,false)),0,[]⟩,⟨(some (10,6)),.load false 1 (t 10 5),(some (10,4,false)),1,[]⟩,⟨(some (10,7)),.bin .lss (t 10 6) (c 0),(some (10,4,false)),0,[]⟩,⟨(some (10,8)),.pick (t 10 4) (.c (.one (.bool true))) (t 10 7),none,0,[]⟩,⟨(some (10,9)),.mv (t 10 8),none,0,[]⟩,⟨(some (10,10)),.faddr 1 (t 0 7),(some (10,9,false)),0,[]⟩,⟨(some (10,11)),.load false 1 (t 10 10),(some (10,9,false)),1,[]⟩,⟨(some (10,12)),.faddr 2 (t 0 1),(some (10,9,false)),0,[]⟩,⟨(some (10,13)),.load false 1 (t 10 12),(some (10,9,false)),1,[]⟩,⟨(some (10,14)),.bin .geq (t 10 11) (t 10 13),(some (10,9,false)),0,[]⟩,⟨(some (10,15)),.pick (t 10 9) (.c (.one (.bool true))) (t 10 14),none,0,[]⟩,⟨(some (11,0)),.mv (t 10 15),none,0,[]⟩,⟨(some (11,1)),.faddr 2 (t 0 7),(some (11,0,false)),0,[]⟩,⟨(some (11,2)),.load false 1 (t 11 1),(some (11,0,false)),1,[]⟩,⟨(some (11,3)),.bin .lss (t 11 2) (c 0),(some (11,0,false)),0,[]⟩,⟨(some (11,4)),.pick (t 11 0) (.c (.one (.bool true))) (t 11 3),none,0,[]⟩]) (.cond (t 11 4) (.seq (.reg [⟨(some (0,2)),.mv (.c (.one (.bool false))),none,0,[]⟩]) .ret) .skip)) (.reg [⟨(some (11,5)),.faddr 0 (t 0 7),none,0,[]⟩,⟨(some (11,6)),.load false 1 (t 11 5),none,1,[]⟩,⟨(some (0,3)),.mv (t 11 6),none,0,[]⟩])))) (.reg [⟨(some (11,7)),.bin .add (t 8 8) (c 1),none,0,[]⟩,⟨(some (8,8)),.mv (t 11 7),none,0,[]⟩]))))
def b_replica_May : ACode:=(.seq (.reg [⟨(some (0,1)),.box (t 0 0),none,3,[]⟩,⟨(some (0,2)),.mv (.c (.one (.bool false))),none,0,[]⟩]) (.seq (.seq (.reg [⟨(some (0,8)),.faddr 0 (t 0 1),none,0,[]⟩,⟨(some (0,9)),.load false 1 (t 0 8),none,1,[]⟩,⟨(some (0,10)),.faddr 1 (t 0 1),none,0,[]⟩,⟨(some (0,11)),.load false 1 (t 0 10),none,1,[]⟩,⟨(some (0,12)),.call (f n_repair_Nodes) [(t 0 9),(t 0 11)],none,1,[]⟩,⟨(some (0,13)),.not (t 0 12),none,0,[]⟩,⟨(some (0,14)),.mv (t 0 13),none,0,[]⟩,⟨(some (0,15)),.faddr 4 (t 0 1),(some (0,14,false)),0,[]⟩,⟨(some (1,0)),.load false 1 (t 0 15),(some (0,14,false)),1,[]⟩,⟨(some (1,1)),.bin .lss (t 1 0) (c 0),(some (0,14,false)),0,[]⟩,⟨(some (1,2)),.pick (t 0 14) (.c (.one (.bool true))) (t 1 1),none,0,[]⟩,⟨(some (1,3)),.mv (t 1 2),none,0,[]⟩,⟨(some (1,4)),.faddr 4 (t 0 1),(some (1,3,false)),0,[]⟩,⟨(some (1,5)),.load false 1 (t 1 4),(some (1,3,false)),1,[]⟩,⟨(some (1,6)),.bin .gtr (t 1 5) (c 2),(some (1,3,false)),0,[]⟩,⟨(some (1,7)),.pick (t 1 3) (.c (.one (.bool true))) (t 1 6),none,0,[]⟩,⟨(some (1,8)),.mv (t 1 7),none,0,[]⟩,⟨(some (1,9)),.faddr 2 (t 0 1),(some (1,8,false)),0,[]⟩,⟨(some (1,10)),.load false 1 (t 1 9),(some (1,8,false)),1,[]⟩,⟨(some (1,11)),.call (f n_replica_within) [(t 1 10)],(some (1,8,false)),1,[]⟩,⟨(some (1,12)),.not (t 1 11),(some (1,8,false)),0,[]⟩,⟨(some (1,13)),.pick (t 1 8) (.c (.one (.bool true))) (t 1 12),none,0,[]⟩,⟨(some (1,14)),.mv (t 1 13),none,0,[]⟩,⟨(some (1,15)),.faddr 3 (t 0 1),(some (1,14,false)),0,[]⟩,⟨(some (2,0)),.load false 1 (t 1 15),(some (1,14,false)),1,[]⟩,⟨(some (2,1)),.call (f n_replica_within) [(t 2 0)],(some (1,14,false)),1,[]⟩,⟨(some (2,2)),.not (t 2 1),(some (1,14,false)),0,[]⟩,⟨(some (2,3)),.pick (t 1 14) (.c (.one (.bool true))) (t 2 2),none,0,[]⟩,⟨(some (2,4)),.mv (t 2 3),none,0,[]⟩,⟨(some (2,5)),.faddr 5 (t 0 1),(some (2,4,false)),0,[]⟩,⟨(some (2,6)),.load false 1 (t 2 5),(some (2,4,false)),1,[]⟩,⟨(some (2,7)),.call (f n_replica_within) [(t 2 6)],(some (2,4,false)),1,[]⟩,⟨(some (2,8)),.not (t 2 7),(some (2,4,false)),0,[]⟩,⟨(some (2,9)),.pick (t 2 4) (.c (.one (.bool true))) (t 2 8),none,0,[]⟩]) (.cond (t 2 9) (.seq (.reg [⟨(some (0,2)),.mv (.c (.one (.bool false))),none,0,[]⟩]) .ret) .skip)) (.seq (.seq (.draw [⟨(some (2,10)),.faddr 3 (t 0 1),none,0,[]⟩,⟨(some (2,11)),.load false 1 (t 2 10),none,1,[0]⟩,⟨(some (2,12)),.faddr 2 (t 0 1),none,0,[]⟩,⟨(some (2,13)),.load false 1 (t 2 12),none,1,[2]⟩,⟨(some (2,14)),.bin .gtr (t 2 11) (t 2 13),none,0,[1,0,3,2]⟩,⟨(some (2,15)),.mv (t 2 14),none,0,[4,1,0,3,2]⟩,⟨(some (3,0)),.faddr 4 (t 0 1),(some (2,15,false)),0,[5,4,1,0,3,2]⟩,⟨(some (3,1)),.load false 1 (t 3 0),(some (2,15,false)),1,[6,5,4,1,0,3,2]⟩,⟨(some (3,2)),.bin .eql (t 3 1) (c 0),(some (2,15,false)),0,[7,6,5,4,1,0,3,2]⟩,⟨(some (3,3)),.mv (t 3 2),(some (2,15,false)),0,[8,7,6,5,4,1,0,3,2]⟩,⟨(some (3,4)),.faddr 3 (t 0 1),(some (3,3,true)),0,[9,8,7,6,5,4,1,0,3,2]⟩,⟨(some (3,5)),.load false 1 (t 3 4),(some (3,3,true)),1,[10,9,8,7,6,5,4,1,0,3,2]⟩,⟨(some (3,6)),.faddr 2 (t 0 1),(some (3,3,true)),0,[9,8,7,6,5,4,1,0,3,2]⟩,⟨(some (3,7)),.load false 1 (t 3 6),(some (3,3,true)),1,[12,9,8,7,6,5,4,1,0,3,2]⟩,⟨(some (3,8)),.bin .neq (t 3 5) (t 3 7),(some (3,3,true)),0,[11,10,9,8,7,6,5,4,1,0,3,2,13,12]⟩,⟨(some (3,9)),.pick (t 3 3) (t 3 8) (.c (.one (.bool false))),(some (2,15,false)),0,[9,8,7,6,5,4,1,0,3,2,14,11,10,13,12]⟩,⟨(some (3,10)),.pick (t 2 15) (.c (.one (.bool true))) (t 3 9),none,0,[5,4,1,0,3,2,15,9,8,7,6,14,11,10,13,12]⟩,⟨(some (3,11)),.mv (t 3 10),none,0,[16,5,4,1,0,3,2,15,9,8,7,6,14,11,10,13,12]⟩,⟨(some (3,12)),.faddr 7 (t 0 1),(some (3,11,false)),0,[17,16,5,4,1,0,3,2,15,9,8,7,6,14,11,10,13,12]⟩,⟨(some (3,13)),.load true 3 (t 3 12),(some (3,11,false)),1,[18,17,16,5,4,1,0,3,2,15,9,8,7,6,14,11,10,13,12]⟩,⟨(some (3,14)),.call (f n_message_MayLog) [(t 3 13)],(some (3,11,false)),1,[19,18,17,16,5,4,1,0,3,2,15,9,8,7,6,14,11,10,13,12]⟩,⟨(some (3,15)),.not (t 3 14),(some (3,11,false)),0,[20,19,18,17,16,5,4,1,0,3,2,15,9,8,7,6,14,11,10,13,12]⟩,⟨(some (4,0)),.pick (t 3 11) (.c (.one (.bool true))) (t 3 15),none,0,[17,16,5,4,1,0,3,2,15,9,8,7,6,14,11,10,13,12,21,20,19,18]⟩,⟨(some (4,1)),.mv (t 4 0),none,0,[22,17,16,5,4,1,0,3,2,15,9,8,7,6,14,11,10,13,12,21,20,19,18]⟩,⟨(some (4,2)),.faddr 5 (t 0 1),(some (4,1,false)),0,[23,22,17,16,5,4,1,0,3,2,15,9,8,7,6,14,11,10,13,12,21,20,19,18]⟩,⟨(some (4,3)),.load false 1 (t 4 2),(some (4,1,false)),1,[24,23,22,17,16,5,4,1,0,3,2,15,9,8,7,6,14,11,10,13,12,21,20,19,18]⟩,⟨(some (4,4)),.faddr 7 (t 0 1),(some (4,1,false)),0,[23,22,17,16,5,4,1,0,3,2,15,9,8,7,6,14,11,10,13,12,21,20,19,18]⟩,⟨(some (4,5)),.faddr 0 (t 4 4),(some (4,1,false)),0,[26,23,22,17,16,5,4,1,0,3,2,15,9,8,7,6,14,11,10,13,12,21,20,19,18]⟩,⟨(some (4,6)),.load false 1 (t 4 5),(some (4,1,false)),1,[27,26,23,22,17,16,5,4,1,0,3,2,15,9,8,7,6,14,11,10,13,12,21,20,19,18]⟩,⟨(some (4,7)),.bin .lss (t 4 3) (t 4 6),(some (4,1,false)),0,[25,24,23,22,17,16,5,4,1,0,3,2,15,9,8,7,6,14,11,10,13,12,21,20,19,18,28,27,26]⟩,⟨(some (4,8)),.pick (t 4 1) (.c (.one (.bool true))) (t 4 7),none,0,[23,22,17,16,5,4,1,0,3,2,15,9,8,7,6,14,11,10,13,12,21,20,19,18,29,25,24,28,27,26]⟩,⟨(some (4,9)),.mv (t 4 8),none,0,[30,23,22,17,16,5,4,1,0,3,2,15,9,8,7,6,14,11,10,13,12,21,20,19,18,29,25,24,28,27,26]⟩,⟨(some (4,10)),.faddr 5 (t 0 1),(some (4,9,false)),0,[31,30,23,22,17,16,5,4,1,0,3,2,15,9,8,7,6,14,11,10,13,12,21,20,19,18,29,25,24,28,27,26]⟩,⟨(some (4,11)),.load false 1 (t 4 10),(some (4,9,false)),1,[32,31,30,23,22,17,16,5,4,1,0,3,2,15,9,8,7,6,14,11,10,13,12,21,20,19,18,29,25,24,28,27,26]⟩,⟨(some (4,12)),.faddr 7 (t 0 1),(some (4,9,false)),0,[31,30,23,22,17,16,5,4,1,0,3,2,15,9,8,7,6,14,11,10,13,12,21,20,19,18,29,25,24,28,27,26]⟩,⟨(some (4,13)),.load true 3 (t 4 12),(some (4,9,false)),1,[34,31,30,23,22,17,16,5,4,1,0,3,2,15,9,8,7,6,14,11,10,13,12,21,20,19,18,29,25,24,28,27,26]⟩,⟨(some (4,14)),.call (f n_choose_Last) [(t 4 13)],(some (4,9,false)),1,[35,34,31,30,23,22,17,16,5,4,1,0,3,2,15,9,8,7,6,14,11,10,13,12,21,20,19,18,29,25,24,28,27,26]⟩,⟨(some (4,15)),.bin .gtr (t 4 11) (t 4 14),(some (4,9,false)),0,[33,32,31,30,23,22,17,16,5,4,1,0,3,2,15,9,8,7,6,14,11,10,13,12,21,20,19,18,29,25,24,28,27,26,36,35,34]⟩,⟨(some (5,0)),.pick (t 4 9) (.c (.one (.bool true))) (t 4 15),none,0,[31,30,23,22,17,16,5,4,1,0,3,2,15,9,8,7,6,14,11,10,13,12,21,20,19,18,29,25,24,28,27,26,37,33,32,36,35,34]⟩]) (.cond (t 5 0) (.seq (.reg [⟨(some (0,2)),.mv (.c (.one (.bool false))),none,0,[]⟩]) .ret) .skip)) (.seq (.seq (.reg [⟨(some (5,1)),.faddr 10 (t 0 1),none,0,[]⟩,⟨(some (5,2)),.load false 1 (t 5 1),none,1,[]⟩,⟨(some (5,3)),.len false (t 5 2),none,0,[]⟩,⟨(some (5,4)),.faddr 1 (t 0 1),none,0,[]⟩,⟨(some (5,5)),.load false 1 (t 5 4),none,1,[]⟩,⟨(some (5,6)),.bin .neq (t 5 3) (t 5 5),none,0,[]⟩,⟨(some (5,7)),.mv (t 5 6),none,0,[]⟩,⟨(some (5,8)),.faddr 10 (t 0 1),(some (5,7,false)),0,[]⟩,⟨(some (5,9)),.load false 1 (t 5 8),(some (5,7,false)),1,[]⟩,⟨(some (5,10)),.call (f n_slices_ContainsFunc_int_int) [(t 5 9),(f n_replica_May_1)],(some (5,7,false)),1,[]⟩,⟨(some (5,11)),.pick (t 5 7) (.c (.one (.bool true))) (t 5 10),none,0,[]⟩]) (.cond (t 5 11) (.seq (.reg [⟨(some (0,2)),.mv (.c (.one (.bool false))),none,0,[]⟩]) .ret) .skip)) (.seq (.seq (.reg [⟨(some (5,12)),.faddr 4 (t 0 1),none,0,[]⟩,⟨(some (5,13)),.load false 1 (t 5 12),none,1,[]⟩,⟨(some (5,14)),.bin .neq (t 5 13) (c 1),none,0,[]⟩,⟨(some (5,15)),.mv (t 5 14),none,0,[]⟩,⟨(some (6,0)),.faddr 6 (t 0 1),(some (5,15,true)),0,[]⟩,⟨(some (6,1)),.load false 1 (t 6 0),(some (5,15,true)),1,[]⟩,⟨(some (6,2)),.mv (t 6 1),(some (5,15,true)),0,[]⟩,⟨(some (6,3)),.faddr 11 (t 0 1),(some (6,2,false)),0,[]⟩,⟨(some (6,4)),.load false 1 (t 6 3),(some (6,2,false)),1,[]⟩,⟨(some (6,5)),.len false (t 6 4),(some (6,2,false)),0,[]⟩,⟨(some (6,6)),.faddr 12 (t 0 1),(some (6,2,false)),0,[]⟩,⟨(some (6,7)),.load false 1 (t 6 6),(some (6,2,false)),1,[]⟩,⟨(some (6,8)),.len false (t 6 7),(some (6,2,false)),0,[]⟩,⟨(some (6,9)),.bin .add (t 6 5) (t 6 8),(some (6,2,false)),0,[]⟩,⟨(some (6,10)),.bin .gtr (t 6 9) (c 0),(some (6,2,false)),0,[]⟩,⟨(some (6,11)),.pick (t 6 2) (.c (.one (.bool true))) (t 6 10),(some (5,15,true)),0,[]⟩,⟨(some (6,12)),.pick (t 5 15) (t 6 11) (.c (.one (.bool false))),none,0,[]⟩]) (.cond (t 6 12) (.seq (.reg [⟨(some (0,2)),.mv (.c (.one (.bool false))),none,0,[]⟩]) .ret) .skip)) (.seq (.reg [⟨(some (0,3)),.mv (c (-1)),none,0,[]⟩]) (.seq (.seq (.reg [⟨(some (6,13)),.faddr 11 (t 0 1),none,0,[]⟩,⟨(some (6,14)),.load false 1 (t 6 13),none,1,[]⟩,⟨(some (6,15)),.len false (t 6 14),none,0,[]⟩,⟨(some (7,0)),.mv (c 0),none,0,[]⟩]) (.blk 0 (.loop l_replica_May_0))) (.seq (.reg [⟨(some (0,3)),.mv (c (-1)),none,0,[]⟩]) (.seq (.seq (.reg [⟨(some (8,5)),.faddr 12 (t 0 1),none,0,[]⟩,⟨(some (8,6)),.load false 1 (t 8 5),none,1,[]⟩,⟨(some (8,7)),.len false (t 8 6),none,0,[]⟩,⟨(some (8,8)),.mv (c 0),none,0,[]⟩]) (.blk 2 (.loop l_replica_May_1))) (.seq (.reg [⟨(some (0,2)),.mv (.c (.one (.bool true))),none,0,[]⟩]) .ret))))))))))
def a_replica_May : AFunc:=⟨184,1,[.tmp 0 2],b_replica_May⟩
theorem i_replica_May {P : Program} {fz : Fz} {mu : St} {n : Nat} {k : KT Prop} (fu : Nat) (x0 : AV) : textP P fu a_replica_May [x0] fz mu n k = dcode pOrc False (CP P) fz fu b_replica_May (tmE 184 (envI [x0])) mu n (endP fz [.tmp 0 2] k):=rfl
def b_replica_Primary : ACode:=(.seq (.reg [⟨(some (0,4)),.mv (c 0),none,0,[]⟩]) (.seq (.seq (.reg [⟨(some (0,5)),.mv (t 0 1),none,0,[]⟩,⟨(some (0,6)),.bin .lss (t 0 5) (c 1),none,0,[]⟩,⟨(some (0,7)),.mv (t 0 6),none,0,[]⟩,⟨(some (0,8)),.mv (t 0 0),(some (0,7,false)),0,[]⟩,⟨(some (0,9)),.bin .lss (t 0 8) (c 0),(some (0,7,false)),0,[]⟩,⟨(some (0,10)),.pick (t 0 7) (.c (.one (.bool true))) (t 0 9),none,0,[]⟩]) (.cond (t 0 10) (.seq (.reg [⟨(some (0,4)),.mv (c 0),none,0,[]⟩]) .ret) .skip)) (.seq (.reg [⟨(some (0,11)),.mv (t 0 0),none,0,[]⟩,⟨(some (0,12)),.mv (t 0 1),none,0,[]⟩,⟨(some (0,13)),.bin .rem (t 0 11) (t 0 12),none,0,[]⟩,⟨(some (0,4)),.mv (t 0 13),none,0,[]⟩]) .ret)))
def a_replica_Primary : AFunc:=⟨14,2,[.tmp 0 4],b_replica_Primary⟩
theorem i_replica_Primary {P : Program} {fz : Fz} {mu : St} {n : Nat} {k : KT Prop} (fu : Nat) (x0 x1 : AV) : textP P fu a_replica_Primary [x0,x1] fz mu n k = dcode pOrc False (CP P) fz fu b_replica_Primary (tmE 14 (envI [x0,x1])) mu n (endP fz [.tmp 0 4] k):=rfl
def l_replica_Committed_0 : ACode:=(.seq (.reg [⟨(some (0,14)),.bin .lss (t 0 13) (t 0 12),none,0,[]⟩]) (.seq (.cond (t 0 14) .skip (.exit 0)) (.seq (.blk 1 (.seq (.reg [⟨(some (0,15)),.mv (t 0 13),none,0,[]⟩,⟨(some (1,0)),.iaddr 1 (t 0 11) (t 0 13),none,0,[]⟩,⟨(some (1,1)),.load false 1 (t 1 0),none,1,[]⟩,⟨(some (0,8)),.mv (t 0 15),none,0,[]⟩,⟨(some (0,9)),.mv (t 1 1),none,0,[]⟩]) (.seq (.reg [⟨(some (1,2)),.mv (t 0 8),none,0,[]⟩,⟨(some (1,3)),.mv (t 0 1),none,0,[]⟩,⟨(some (1,4)),.bin .neq (t 1 2) (t 1 3),none,0,[]⟩]) (.cond (t 1 4) (.reg [⟨(some (1,5)),.mv (t 0 7),none,0,[]⟩,⟨(some (1,6)),.mv (t 0 9),none,0,[]⟩,⟨(some (1,7)),.bslice 1 1 [.int .i64 0] [(0,1,(t 1 6))],none,3,[]⟩,⟨(some (1,8)),.append 1 8 (t 1 5) (t 1 7),none,2,[]⟩,⟨(some (0,7)),.mv (t 1 8),none,0,[]⟩]) .skip)))) (.reg [⟨(some (1,9)),.bin .add (t 0 13) (c 1),none,0,[]⟩,⟨(some (0,13)),.mv (t 1 9),none,0,[]⟩]))))
def b_replica_Committed : ACode:=(.seq (.reg [⟨(some (0,6)),.mv (c 0),none,0,[]⟩]) (.seq (.reg [⟨(some (0,7)),.mv (.c (.one (.nsl))),none,0,[]⟩]) (.seq (.seq (.reg [⟨(some (0,11)),.mv (t 0 0),none,0,[]⟩,⟨(some (0,12)),.len false (t 0 11),none,0,[]⟩,⟨(some (0,13)),.mv (c 0),none,0,[]⟩]) (.blk 0 (.loop l_replica_Committed_0))) (.seq (.reg [⟨(some (1,10)),.mv (t 0 0),none,0,[]⟩,⟨(some (1,11)),.len false (t 1 10),none,0,[]⟩,⟨(some (1,12)),.bin .sub (t 1 11) (c 1),none,0,[]⟩,⟨(some (1,13)),.bin .quo (t 1 12) (c 2),none,0,[]⟩,⟨(some (0,10)),.mv (t 1 13),none,0,[]⟩]) (.seq (.seq (.reg [⟨(some (1,14)),.mv (t 0 0),none,0,[]⟩,⟨(some (1,15)),.len false (t 1 14),none,0,[]⟩,⟨(some (2,0)),.bin .eql (t 1 15) (c 0),none,0,[]⟩,⟨(some (2,1)),.mv (t 2 0),none,0,[]⟩,⟨(some (2,2)),.mv (t 0 10),(some (2,1,false)),0,[]⟩,⟨(some (2,3)),.bin .leq (t 2 2) (c 0),(some (2,1,false)),0,[]⟩,⟨(some (2,4)),.pick (t 2 1) (.c (.one (.bool true))) (t 2 3),none,0,[]⟩]) (.cond (t 2 4) (.seq (.reg [⟨(some (2,5)),.mv (t 0 2),none,0,[]⟩,⟨(some (2,6)),.max (c 0) [(t 2 5)],none,0,[]⟩,⟨(some (0,6)),.mv (t 2 6),none,0,[]⟩]) .ret) .skip)) (.seq (.seq (.reg [⟨(some (2,7)),.mv (t 0 7),none,0,[]⟩,⟨(some (2,8)),.len false (t 2 7),none,0,[]⟩,⟨(some (2,9)),.mv (t 0 10),none,0,[]⟩,⟨(some (2,10)),.bin .lss (t 2 8) (t 2 9),none,0,[]⟩]) (.cond (t 2 10) (.seq (.reg [⟨(some (0,6)),.mv (c 0),none,0,[]⟩]) .ret) .skip)) (.seq (.reg [⟨(some (2,11)),.mv (t 0 7),none,0,[]⟩,⟨(some (2,12)),.call (f n_slices_Sort_int_int) [(t 2 11)],none,2,[]⟩]) (.seq (.reg [⟨(some (2,13)),.mv (t 0 2),none,0,[]⟩,⟨(some (2,14)),.mv (t 0 7),none,0,[]⟩,⟨(some (2,15)),.mv (t 0 7),none,0,[]⟩,⟨(some (3,0)),.len false (t 2 15),none,0,[]⟩,⟨(some (3,1)),.mv (t 0 10),none,0,[]⟩,⟨(some (3,2)),.bin .sub (t 3 0) (t 3 1),none,0,[]⟩,⟨(some (3,3)),.iaddr 1 (t 2 14) (t 3 2),none,0,[]⟩,⟨(some (3,4)),.load false 1 (t 3 3),none,1,[]⟩,⟨(some (3,5)),.min (t 2 13) [(t 3 4)],none,0,[]⟩,⟨(some (3,6)),.max (c 0) [(t 3 5)],none,0,[]⟩,⟨(some (0,6)),.mv (t 3 6),none,0,[]⟩]) .ret))))))))
def a_replica_Committed : AFunc:=⟨55,3,[.tmp 0 6],b_replica_Committed⟩
theorem i_replica_Committed {P : Program} {fz : Fz} {mu : St} {n : Nat} {k : KT Prop} (fu : Nat) (x0 x1 x2 : AV) : textP P fu a_replica_Committed [x0,x1,x2] fz mu n k = dcode pOrc False (CP P) fz fu b_replica_Committed (tmE 55 (envI [x0,x1,x2])) mu n (endP fz [.tmp 0 6] k):=rfl
def l_law17_fresh_0 : ACode:=(.seq (.seq (.reg [⟨(some (1,8)),.mv (t 0 13),none,0,[]⟩,⟨(some (1,9)),.mv (t 0 3),none,0,[]⟩,⟨(some (1,10)),.bin .lss (t 1 8) (t 1 9),none,0,[]⟩]) (.cond (t 1 10) .skip (.exit 0))) (.seq (.blk 1 (.reg [⟨(some (1,13)),.faddr 7 (t 0 11),none,0,[]⟩,⟨(some (1,14)),.faddr 2 (t 1 13),none,0,[]⟩,⟨(some (1,15)),.load false 1 (t 1 14),none,1,[]⟩,⟨(some (2,0)),.mv (t 0 2),none,0,[]⟩,⟨(some (2,1)),.mv (t 0 13),none,0,[]⟩,⟨(some (2,2)),.bin .add (t 2 1) (c 1),none,0,[]⟩,⟨(some (2,3)),.build [.int .i64 0,.int .i64 0,.int .i64 0,.int .i64 0,.nsl] [(0,1,(t 2 0)),(3,1,(t 2 2))],none,0,[]⟩,⟨(some (2,4)),.bslice 5 1 [.int .i64 0,.int .i64 0,.int .i64 0,.int .i64 0,.nsl] [(0,5,(t 2 3))],none,3,[]⟩,⟨(some (2,5)),.append 5 56 (t 1 15) (t 2 4),none,2,[]⟩,⟨(some (2,6)),.faddr 7 (t 0 11),none,0,[]⟩,⟨(some (2,7)),.faddr 2 (t 2 6),none,0,[]⟩,⟨none,.store 1 (t 2 7) (t 2 5),none,2,[]⟩])) (.reg [⟨(some (1,11)),.mv (t 0 13),none,0,[]⟩,⟨(some (1,12)),.bin .add (t 1 11) (c 1),none,0,[]⟩,⟨(some (0,13)),.mv (t 1 12),none,0,[]⟩])))
def b_law17_fresh : ACode:=(.seq (.reg [⟨(some (0,10)),.alloc [.int .i64 0,.int .i64 0,.int .i64 0,.int .i64 0,.int .i64 0,.int .i64 0,.bool false,.int .i64 0,.str 0 0,.nsl,.nsl,.nsl,.nsl],none,3,[]⟩]) (.seq (.reg [⟨(some (0,15)),.mv (t 0 0),none,0,[]⟩,⟨(some (1,0)),.mv (t 0 1),none,0,[]⟩,⟨(some (1,1)),.call (f n_replica_New) [(t 0 15),(t 1 0)],none,1,[]⟩,⟨(some (0,14)),.mv (t 1 1),none,0,[]⟩,⟨(some (1,2)),.extr (t 0 14) 0,none,0,[]⟩,⟨(some (1,3)),.extr (t 0 14) 1,none,0,[]⟩,⟨(some (0,11)),.alloc [.int .i64 0,.int .i64 0,.int .i64 0,.int .i64 0,.int .i64 0,.int .i64 0,.bool false,.int .i64 0,.str 0 0,.nsl,.nsl,.nsl,.nsl],none,3,[]⟩,⟨none,.store 13 (t 0 11) (t 1 2),none,2,[]⟩,⟨(some (0,12)),.mv (t 1 3),none,0,[]⟩]) (.seq (.reg [⟨(some (1,4)),.mv (t 0 2),none,0,[]⟩,⟨(some (1,5)),.faddr 2 (t 0 11),none,0,[]⟩,⟨none,.store 1 (t 1 5) (t 1 4),none,2,[]⟩]) (.seq (.reg [⟨(some (1,6)),.mv (t 0 2),none,0,[]⟩,⟨(some (1,7)),.faddr 3 (t 0 11),none,0,[]⟩,⟨none,.store 1 (t 1 7) (t 1 6),none,2,[]⟩]) (.seq (.seq (.reg [⟨(some (0,13)),.mv (c 0),none,0,[]⟩]) (.blk 0 (.loop l_law17_fresh_0))) (.seq (.reg [⟨(some (2,8)),.mv (t 0 4),none,0,[]⟩,⟨(some (2,9)),.faddr 5 (t 0 11),none,0,[]⟩,⟨none,.store 1 (t 2 9) (t 2 8),none,2,[]⟩]) (.seq (.reg [⟨(some (2,10)),.load true 13 (t 0 11),none,1,[]⟩,⟨none,.store 13 (t 0 10) (t 2 10),none,2,[]⟩]) .ret)))))))
def a_law17_fresh : AFunc:=⟨43,5,[.cell 0 10 true 13],b_law17_fresh⟩
theorem i_law17_fresh {P : Program} {fz : Fz} {mu : St} {n : Nat} {k : KT Prop} (fu : Nat) (x0 x1 x2 x3 x4 : AV) : textP P fu a_law17_fresh [x0,x1,x2,x3,x4] fz mu n k = dcode pOrc False (CP P) fz fu b_law17_fresh (tmE 43 (envI [x0,x1,x2,x3,x4])) mu n (endP fz [.cell 0 10 true 13] k):=rfl
def b_replica_Receive : ACode:=(.seq (.reg [⟨(some (0,2)),.box (t 0 0),none,3,[]⟩,⟨(some (0,3)),.box (t 0 1),none,3,[]⟩,⟨(some (0,4)),.alloc [.int .i64 0,.int .i64 0,.int .i64 0,.int .i64 0,.int .i64 0,.int .i64 0,.bool false,.int .i64 0,.str 0 0,.nsl,.nsl,.nsl,.nsl],none,3,[]⟩,⟨(some (0,5)),.mv (.c (.one (.nsl))),none,0,[]⟩]) (.seq (.seq (.reg [⟨(some (0,8)),.load true 13 (t 0 2),none,1,[]⟩,⟨(some (0,9)),.call (f n_replica_May) [(t 0 8)],none,1,[]⟩,⟨(some (0,10)),.not (t 0 9),none,0,[]⟩,⟨(some (0,11)),.mv (t 0 10),none,0,[]⟩,⟨(some (0,12)),.load true 20 (t 0 3),(some (0,11,false)),1,[]⟩,⟨(some (0,13)),.call (f n_message_May) [(t 0 12)],(some (0,11,false)),1,[]⟩,⟨(some (0,14)),.not (t 0 13),(some (0,11,false)),0,[]⟩,⟨(some (0,15)),.pick (t 0 11) (.c (.one (.bool true))) (t 0 14),none,0,[]⟩,⟨(some (1,0)),.mv (t 0 15),none,0,[]⟩,⟨(some (1,1)),.faddr 1 (t 0 3),(some (1,0,false)),0,[]⟩,⟨(some (1,2)),.load false 1 (t 1 1),(some (1,0,false)),1,[]⟩,⟨(some (1,3)),.faddr 0 (t 0 2),(some (1,0,false)),0,[]⟩,⟨(some (1,4)),.load false 1 (t 1 3),(some (1,0,false)),1,[]⟩,⟨(some (1,5)),.bin .eql (t 1 2) (t 1 4),(some (1,0,false)),0,[]⟩,⟨(some (1,6)),.pick (t 1 0) (.c (.one (.bool true))) (t 1 5),none,0,[]⟩,⟨(some (1,7)),.mv (t 1 6),none,0,[]⟩,⟨(some (1,8)),.faddr 1 (t 0 3),(some (1,7,false)),0,[]⟩,⟨(some (1,9)),.load false 1 (t 1 8),(some (1,7,false)),1,[]⟩,⟨(some (1,10)),.faddr 1 (t 0 2),(some (1,7,false)),0,[]⟩,⟨(some (1,11)),.load false 1 (t 1 10),(some (1,7,false)),1,[]⟩,⟨(some (1,12)),.bin .geq (t 1 9) (t 1 11),(some (1,7,false)),0,[]⟩,⟨(some (1,13)),.pick (t 1 7) (.c (.one (.bool true))) (t 1 12),none,0,[]⟩,⟨(some (1,14)),.mv (t 1 13),none,0,[]⟩,⟨(some (1,15)),.faddr 2 (t 0 3),(some (1,14,false)),0,[]⟩,⟨(some (2,0)),.load false 1 (t 1 15),(some (1,14,false)),1,[]⟩,⟨(some (2,1)),.faddr 0 (t 0 2),(some (1,14,false)),0,[]⟩,⟨(some (2,2)),.load false 1 (t 2 1),(some (1,14,false)),1,[]⟩,⟨(some (2,3)),.bin .neq (t 2 0) (t 2 2),(some (1,14,false)),0,[]⟩,⟨(some (2,4)),.pick (t 1 14) (.c (.one (.bool true))) (t 2 3),none,0,[]⟩,⟨(some (2,5)),.mv (t 2 4),none,0,[]⟩,⟨(some (2,6)),.faddr 3 (t 0 3),(some (2,5,false)),0,[]⟩,⟨(some (2,7)),.load false 1 (t 2 6),(some (2,5,false)),1,[]⟩,⟨(some (2,8)),.faddr 2 (t 0 2),(some (2,5,false)),0,[]⟩,⟨(some (2,9)),.load false 1 (t 2 8),(some (2,5,false)),1,[]⟩,⟨(some (2,10)),.bin .lss (t 2 7) (t 2 9),(some (2,5,false)),0,[]⟩,⟨(some (2,11)),.pick (t 2 5) (.c (.one (.bool true))) (t 2 10),none,0,[]⟩]) (.cond (t 2 11) (.seq (.reg [⟨(some (2,12)),.load true 13 (t 0 2),none,1,[]⟩,⟨(some (2,13)),.call (f n_replica_Clone) [(t 2 12)],none,1,[]⟩,⟨none,.store 13 (t 0 4) (t 2 13),none,2,[]⟩,⟨(some (0,5)),.mv (.c (.one (.nsl))),none,0,[]⟩]) .ret) .skip)) (.seq (.reg [⟨(some (2,14)),.load true 13 (t 0 2),none,1,[]⟩,⟨(some (2,15)),.call (f n_replica_begin) [(t 2 14)],none,1,[]⟩,⟨(some (0,6)),.mv (t 2 15),none,0,[]⟩]) (.seq (.draw [⟨(some (3,0)),.faddr 3 (t 0 3),none,0,[]⟩,⟨(some (3,1)),.load false 1 (t 3 0),none,1,[0]⟩,⟨(some (3,2)),.mv (t 0 6),none,0,[]⟩,⟨(some (3,3)),.nilc (t 3 2),none,0,[2]⟩,⟨(some (3,4)),.faddr 0 (t 3 3),none,0,[3,2]⟩,⟨(some (3,5)),.faddr 1 (t 3 4),none,0,[4,3,2]⟩,⟨(some (3,6)),.load false 1 (t 3 5),none,1,[5,4,3,2]⟩,⟨(some (3,7)),.call (f n_replica_Primary) [(t 3 1),(t 3 6)],none,1,[1,0,6,5,4,3,2]⟩,⟨(some (0,7)),.mv (t 3 7),none,0,[7,1,0,6,5,4,3,2]⟩]) (.seq (.seq (.reg [⟨(some (3,8)),.faddr 0 (t 0 3),none,0,[]⟩,⟨(some (3,9)),.load false 1 (t 3 8),none,1,[]⟩]) (.blk 0 (.seq (.seq (.reg [⟨(some (3,11)),.bin .eql (t 3 9) (c 4),none,0,[]⟩,⟨(some (3,10)),.mv (t 3 11),none,0,[]⟩]) (.cond (t 3 10) .skip (.reg [⟨(some (3,12)),.bin .eql (t 3 9) (c 6),none,0,[]⟩,⟨(some (3,10)),.mv (t 3 12),none,0,[]⟩]))) (.cond (t 3 10) (.seq (.reg [⟨(some (3,13)),.faddr 1 (t 0 3),none,0,[]⟩,⟨(some (3,14)),.load false 1 (t 3 13),none,1,[]⟩,⟨(some (3,15)),.mv (t 0 7),none,0,[]⟩,⟨(some (4,0)),.bin .eql (t 3 14) (t 3 15),none,0,[]⟩]) (.cond (t 4 0) (.reg [⟨(some (4,1)),.mv (t 0 6),none,0,[]⟩,⟨(some (4,2)),.load true 20 (t 0 3),none,1,[]⟩,⟨(some (4,3)),.call (f n_replica_step_follow) [(t 4 1),(t 4 2)],none,2,[]⟩]) .skip)) (.seq (.reg [⟨(some (4,5)),.bin .eql (t 3 9) (c 5),none,0,[]⟩,⟨(some (4,4)),.mv (t 4 5),none,0,[]⟩]) (.cond (t 4 4) (.reg [⟨(some (4,6)),.mv (t 0 6),none,0,[]⟩,⟨(some (4,7)),.load true 20 (t 0 3),none,1,[]⟩,⟨(some (4,8)),.call (f n_replica_step_acked) [(t 4 6),(t 4 7)],none,2,[]⟩]) (.seq (.reg [⟨(some (4,10)),.bin .eql (t 3 9) (c 7),none,0,[]⟩,⟨(some (4,9)),.mv (t 4 10),none,0,[]⟩]) (.cond (t 4 9) (.reg [⟨(some (4,11)),.mv (t 0 6),none,0,[]⟩,⟨(some (4,12)),.load true 20 (t 0 3),none,1,[]⟩,⟨(some (4,13)),.call (f n_replica_step_started) [(t 4 11),(t 4 12)],none,2,[]⟩]) (.seq (.reg [⟨(some (4,15)),.bin .eql (t 3 9) (c 8),none,0,[]⟩,⟨(some (4,14)),.mv (t 4 15),none,0,[]⟩]) (.cond (t 4 14) (.seq (.reg [⟨(some (5,0)),.mv (t 0 7),none,0,[]⟩,⟨(some (5,1)),.mv (t 0 6),none,0,[]⟩,⟨(some (5,2)),.nilc (t 5 1),none,0,[]⟩,⟨(some (5,3)),.faddr 0 (t 5 2),none,0,[]⟩,⟨(some (5,4)),.faddr 0 (t 5 3),none,0,[]⟩,⟨(some (5,5)),.load false 1 (t 5 4),none,1,[]⟩,⟨(some (5,6)),.bin .eql (t 5 0) (t 5 5),none,0,[]⟩,⟨(some (5,7)),.mv (t 5 6),none,0,[]⟩,⟨(some (5,8)),.faddr 4 (t 0 3),(some (5,7,true)),0,[]⟩,⟨(some (5,9)),.load false 1 (t 5 8),(some (5,7,true)),1,[]⟩,⟨(some (5,10)),.faddr 3 (t 0 3),(some (5,7,true)),0,[]⟩,⟨(some (5,11)),.load false 1 (t 5 10),(some (5,7,true)),1,[]⟩,⟨(some (5,12)),.bin .lss (t 5 9) (t 5 11),(some (5,7,true)),0,[]⟩,⟨(some (5,13)),.pick (t 5 7) (t 5 12) (.c (.one (.bool false))),none,0,[]⟩]) (.cond (t 5 13) (.reg [⟨(some (5,14)),.mv (t 0 6),none,0,[]⟩,⟨(some (5,15)),.load true 20 (t 0 3),none,1,[]⟩,⟨(some (6,0)),.call (f n_replica_step_voted) [(t 5 14),(t 5 15)],none,2,[]⟩]) .skip)) (.seq (.seq (.reg [⟨(some (6,2)),.bin .eql (t 3 9) (c 9),none,0,[]⟩,⟨(some (6,1)),.mv (t 6 2),none,0,[]⟩]) (.cond (t 6 1) .skip (.reg [⟨(some (6,3)),.bin .eql (t 3 9) (c 11),none,0,[]⟩,⟨(some (6,1)),.mv (t 6 3),none,0,[]⟩]))) (.cond (t 6 1) (.seq (.reg [⟨(some (6,4)),.faddr 1 (t 0 3),none,0,[]⟩,⟨(some (6,5)),.load false 1 (t 6 4),none,1,[]⟩,⟨(some (6,6)),.mv (t 0 7),none,0,[]⟩,⟨(some (6,7)),.bin .eql (t 6 5) (t 6 6),none,0,[]⟩]) (.cond (t 6 7) (.reg [⟨(some (6,8)),.mv (t 0 6),none,0,[]⟩,⟨(some (6,9)),.load true 20 (t 0 3),none,1,[]⟩,⟨(some (6,10)),.call (f n_replica_step_given) [(t 6 8),(t 6 9)],none,2,[]⟩]) .skip)) (.seq (.reg [⟨(some (6,12)),.bin .eql (t 3 9) (c 10),none,0,[]⟩,⟨(some (6,11)),.mv (t 6 12),none,0,[]⟩]) (.cond (t 6 11) (.seq (.draw [⟨(some (6,13)),.mv (t 0 6),none,0,[]⟩,⟨(some (6,14)),.call (f n_replica_step_normal) [(t 6 13)],none,1,[0]⟩,⟨(some (6,15)),.mv (t 6 14),none,0,[1,0]⟩,⟨(some (7,0)),.faddr 3 (t 0 3),(some (6,15,true)),0,[2,1,0]⟩,⟨(some (7,1)),.load false 1 (t 7 0),(some (6,15,true)),1,[3,2,1,0]⟩,⟨(some (7,2)),.mv (t 0 6),(some (6,15,true)),0,[2,1,0]⟩,⟨(some (7,3)),.nilc (t 7 2),(some (6,15,true)),0,[5,2,1,0]⟩,⟨(some (7,4)),.faddr 0 (t 7 3),(some (6,15,true)),0,[6,5,2,1,0]⟩,⟨(some (7,5)),.faddr 2 (t 7 4),(some (6,15,true)),0,[7,6,5,2,1,0]⟩,⟨(some (7,6)),.load false 1 (t 7 5),(some (6,15,true)),1,[8,7,6,5,2,1,0]⟩,⟨(some (7,7)),.bin .eql (t 7 1) (t 7 6),(some (6,15,true)),0,[4,3,2,1,0,9,8,7,6,5]⟩,⟨(some (7,8)),.pick (t 6 15) (t 7 7) (.c (.one (.bool false))),none,0,[2,1,0,10,4,3,9,8,7,6,5]⟩]) (.cond (t 7 8) (.draw [⟨(some (7,9)),.mv (t 0 6),none,0,[]⟩,⟨(some (7,10)),.faddr 1 (t 0 3),none,0,[]⟩,⟨(some (7,11)),.load false 1 (t 7 10),none,1,[1]⟩,⟨(some (7,12)),.mv (t 0 6),none,0,[]⟩,⟨(some (7,13)),.nilc (t 7 12),none,0,[3]⟩,⟨(some (7,14)),.faddr 0 (t 7 13),none,0,[4,3]⟩,⟨(some (7,15)),.faddr 2 (t 7 14),none,0,[5,4,3]⟩,⟨(some (8,0)),.load false 1 (t 7 15),none,1,[6,5,4,3]⟩,⟨(some (8,1)),.mv (t 0 6),none,0,[]⟩,⟨(some (8,2)),.nilc (t 8 1),none,0,[8]⟩,⟨(some (8,3)),.faddr 0 (t 8 2),none,0,[9,8]⟩,⟨(some (8,4)),.faddr 5 (t 8 3),none,0,[10,9,8]⟩,⟨(some (8,5)),.load false 1 (t 8 4),none,1,[11,10,9,8]⟩,⟨(some (8,6)),.mv (t 0 6),none,0,[]⟩,⟨(some (8,7)),.nilc (t 8 6),none,0,[13]⟩,⟨(some (8,8)),.faddr 0 (t 8 7),none,0,[14,13]⟩,⟨(some (8,9)),.faddr 7 (t 8 8),none,0,[15,14,13]⟩,⟨(some (8,10)),.load true 3 (t 8 9),none,1,[16,15,14,13]⟩,⟨(some (8,11)),.build [.int .i64 0,.int .i64 0,.int .i64 0,.int .i64 0,.int .i64 0,.int .i64 0,.int .i64 0,.int .i64 0,.int .i64 0,.int .i64 0,.int .i64 0,.int .i64 0,.int .i64 0,.int .i64 0,.str 0 0,.nsl,.int .i64 0,.str 0 0,.nsl,.str 0 0] [(0,1,(c 11)),(3,1,(t 8 0)),(6,1,(t 8 5)),(16,3,(t 8 10))],none,0,[7,6,5,4,3,12,11,10,9,8,17,16,15,14,13]⟩,⟨(some (8,12)),.call (f n_replica_step_send) [(t 7 9),(t 7 11),(t 8 11)],none,2,[0,2,1,18,7,6,5,4,3,12,11,10,9,8,17,16,15,14,13]⟩]) .skip)) .skip)))))))))))))) (.seq (.reg [⟨(some (8,13)),.mv (t 0 6),none,0,[]⟩,⟨(some (8,14)),.load true 13 (t 0 2),none,1,[]⟩,⟨(some (8,15)),.call (f n_replica_step_end) [(t 8 13),(t 8 14)],none,1,[]⟩,⟨(some (9,0)),.extr (t 8 15) 0,none,0,[]⟩,⟨(some (9,1)),.extr (t 8 15) 1,none,0,[]⟩,⟨none,.store 13 (t 0 4) (t 9 0),none,2,[]⟩,⟨(some (0,5)),.mv (t 9 1),none,0,[]⟩]) .ret))))))
def a_replica_Receive : AFunc:=⟨146,2,[.cell 0 4 true 13,.tmp 0 5],b_replica_Receive⟩
theorem i_replica_Receive {P : Program} {fz : Fz} {mu : St} {n : Nat} {k : KT Prop} (fu : Nat) (x0 x1 : AV) : textP P fu a_replica_Receive [x0,x1] fz mu n k = dcode pOrc False (CP P) fz fu b_replica_Receive (tmE 146 (envI [x0,x1])) mu n (endP fz [.cell 0 4 true 13,.tmp 0 5] k):=rfl
def l_message_May_0 : ACode:=(.seq (.reg [⟨(some (1,11)),.bin .lss (t 1 10) (t 1 9),none,0,[]⟩]) (.seq (.cond (t 1 11) .skip (.exit 0)) (.seq (.blk 1 (.seq (.reg [⟨(some (1,12)),.iaddr 1 (t 1 8) (t 1 10),none,0,[]⟩,⟨(some (1,13)),.load false 1 (t 1 12),none,1,[]⟩,⟨(some (0,7)),.mv (t 1 13),none,0,[]⟩]) (.reg [⟨(some (1,14)),.mv (t 0 7),none,0,[]⟩,⟨(some (1,15)),.iaddrA 1 15 (t 0 5) (t 1 14),none,0,[]⟩,⟨none,.store 1 (t 1 15) (.c (.one (.bool true))),none,2,[]⟩]))) (.reg [⟨(some (2,0)),.bin .add (t 1 10) (c 1),none,0,[]⟩,⟨(some (1,10)),.mv (t 2 0),none,0,[]⟩]))))
def l_message_May_1 : ACode:=(.seq (.reg [⟨(some (2,2)),.bin .lss (t 2 1) (c 15),none,0,[]⟩]) (.seq (.cond (t 2 2) .skip (.exit 2)) (.seq (.blk 3 (.seq (.reg [⟨(some (2,3)),.mv (t 2 1),none,0,[]⟩,⟨(some (0,8)),.mv (t 2 3),none,0,[]⟩]) (.seq (.reg [⟨(some (2,4)),.mv (t 0 8),none,0,[]⟩,⟨(some (2,5)),.call (f n_message_number) [(t 0 1),(t 2 4)],none,1,[]⟩,⟨(some (0,9)),.mv (t 2 5),none,0,[]⟩]) (.seq (.seq (.reg [⟨(some (2,6)),.mv (t 0 9),none,0,[]⟩,⟨(some (2,7)),.eqn false false (t 2 6) (.c (.one (.npt))),none,0,[]⟩]) (.cond (t 2 7) (.exit 3) .skip)) (.seq (.reg [⟨(some (2,9)),.faddr 0 (t 0 1),none,0,[]⟩,⟨(some (2,10)),.load false 1 (t 2 9),none,1,[]⟩,⟨(some (2,11)),.mv (t 0 8),none,0,[]⟩,⟨(some (2,12)),.call (f n_message_limits) [(t 2 10),(t 2 11)],none,1,[]⟩,⟨(some (2,8)),.mv (t 2 12),none,0,[]⟩,⟨(some (2,13)),.extr (t 2 8) 0,none,0,[]⟩,⟨(some (2,14)),.extr (t 2 8) 1,none,0,[]⟩,⟨(some (0,10)),.mv (t 2 13),none,0,[]⟩,⟨(some (0,11)),.mv (t 2 14),none,0,[]⟩]) (.seq (.reg [⟨(some (2,15)),.mv (t 0 8),none,0,[]⟩,⟨(some (3,0)),.iaddrA 1 15 (t 0 5) (t 2 15),none,0,[]⟩,⟨(some (3,1)),.load false 1 (t 3 0),none,1,[]⟩,⟨(some (3,2)),.not (t 3 1),none,0,[]⟩,⟨(some (3,3)),.mv (t 3 2),none,0,[]⟩,⟨(some (3,4)),.mv (t 0 9),(some (3,3,true)),0,[]⟩,⟨(some (3,5)),.nilc (t 3 4),(some (3,3,true)),0,[]⟩,⟨(some (3,6)),.load false 1 (t 3 5),(some (3,3,true)),1,[]⟩,⟨(some (3,7)),.bin .neq (t 3 6) (c 0),(some (3,3,true)),0,[]⟩,⟨(some (3,8)),.pick (t 3 3) (t 3 7) (.c (.one (.bool false))),none,0,[]⟩,⟨(some (3,9)),.mv (t 3 8),none,0,[]⟩,⟨(some (3,10)),.mv (t 0 9),(some (3,9,false)),0,[]⟩,⟨(some (3,11)),.nilc (t 3 10),(some (3,9,false)),0,[]⟩,⟨(some (3,12)),.load false 1 (t 3 11),(some (3,9,false)),1,[]⟩,⟨(some (3,13)),.mv (t 0 10),(some (3,9,false)),0,[]⟩,⟨(some (3,14)),.bin .lss (t 3 12) (t 3 13),(some (3,9,false)),0,[]⟩,⟨(some (3,15)),.pick (t 3 9) (.c (.one (.bool true))) (t 3 14),none,0,[]⟩,⟨(some (4,0)),.mv (t 3 15),none,0,[]⟩,⟨(some (4,1)),.mv (t 0 9),(some (4,0,false)),0,[]⟩,⟨(some (4,2)),.nilc (t 4 1),(some (4,0,false)),0,[]⟩,⟨(some (4,3)),.load false 1 (t 4 2),(some (4,0,false)),1,[]⟩,⟨(some (4,4)),.mv (t 0 11),(some (4,0,false)),0,[]⟩,⟨(some (4,5)),.bin .gtr (t 4 3) (t 4 4),(some (4,0,false)),0,[]⟩,⟨(some (4,6)),.pick (t 4 0) (.c (.one (.bool true))) (t 4 5),none,0,[]⟩]) (.cond (t 4 6) (.seq (.reg [⟨(some (0,2)),.mv (.c (.one (.bool false))),none,0,[]⟩]) .ret) .skip))))))) (.reg [⟨(some (4,7)),.bin .add (t 2 1) (c 1),none,0,[]⟩,⟨(some (2,1)),.mv (t 4 7),none,0,[]⟩]))))
def b_message_May : ACode:=(.seq (.reg [⟨(some (0,1)),.box (t 0 0),none,3,[]⟩,⟨(some (0,2)),.mv (.c (.one (.bool false))),none,0,[]⟩]) (.seq (.reg [⟨(some (0,13)),.faddr 0 (t 0 1),none,0,[]⟩,⟨(some (0,14)),.load false 1 (t 0 13),none,1,[]⟩,⟨(some (0,15)),.call (f n_message_fields) [(t 0 14)],none,1,[]⟩,⟨(some (0,12)),.mv (t 0 15),none,0,[]⟩,⟨(some (1,0)),.extr (t 0 12) 0,none,0,[]⟩,⟨(some (1,1)),.extr (t 0 12) 1,none,0,[]⟩,⟨(some (0,3)),.mv (t 1 0),none,0,[]⟩,⟨(some (0,4)),.mv (t 1 1),none,0,[]⟩]) (.seq (.seq (.reg [⟨(some (1,2)),.mv (t 0 4),none,0,[]⟩,⟨(some (1,3)),.not (t 1 2),none,0,[]⟩,⟨(some (1,4)),.mv (t 1 3),none,0,[]⟩,⟨(some (1,5)),.call (f n_message_who) [(t 0 1)],(some (1,4,false)),1,[]⟩,⟨(some (1,6)),.not (t 1 5),(some (1,4,false)),0,[]⟩,⟨(some (1,7)),.pick (t 1 4) (.c (.one (.bool true))) (t 1 6),none,0,[]⟩]) (.cond (t 1 7) (.seq (.reg [⟨(some (0,2)),.mv (.c (.one (.bool false))),none,0,[]⟩]) .ret) .skip)) (.seq (.reg [⟨(some (0,5)),.alloc [.bool false,.bool false,.bool false,.bool false,.bool false,.bool false,.bool false,.bool false,.bool false,.bool false,.bool false,.bool false,.bool false,.bool false,.bool false],none,3,[]⟩]) (.seq (.seq (.reg [⟨(some (1,8)),.mv (t 0 3),none,0,[]⟩,⟨(some (1,9)),.len false (t 1 8),none,0,[]⟩,⟨(some (1,10)),.mv (c 0),none,0,[]⟩]) (.blk 0 (.loop l_message_May_0))) (.seq (.seq (.reg [⟨(some (2,1)),.mv (c 0),none,0,[]⟩]) (.blk 2 (.loop l_message_May_1))) (.seq (.seq (.reg [⟨(some (4,8)),.iaddrA 1 15 (t 0 5) (c 11),none,0,[]⟩,⟨(some (4,9)),.load false 1 (t 4 8),none,1,[]⟩,⟨(some (4,10)),.mv (t 4 9),none,0,[]⟩,⟨(some (4,11)),.faddr 14 (t 0 1),(some (4,10,true)),0,[]⟩,⟨(some (4,12)),.load false 1 (t 4 11),(some (4,10,true)),1,[]⟩,⟨(some (4,13)),.call (f n_point_Name) [(t 4 12)],(some (4,10,true)),1,[]⟩,⟨(some (4,14)),.not (t 4 13),(some (4,10,true)),0,[]⟩,⟨(some (4,15)),.pick (t 4 10) (t 4 14) (.c (.one (.bool false))),none,0,[]⟩,⟨(some (5,0)),.mv (t 4 15),none,0,[]⟩,⟨(some (5,1)),.iaddrA 1 15 (t 0 5) (c 11),(some (5,0,false)),0,[]⟩,⟨(some (5,2)),.load false 1 (t 5 1),(some (5,0,false)),1,[]⟩,⟨(some (5,3)),.not (t 5 2),(some (5,0,false)),0,[]⟩,⟨(some (5,4)),.mv (t 5 3),(some (5,0,false)),0,[]⟩,⟨(some (5,5)),.faddr 14 (t 0 1),(some (5,4,true)),0,[]⟩,⟨(some (5,6)),.load false 1 (t 5 5),(some (5,4,true)),1,[]⟩,⟨(some (5,7)),.sbin .neq (t 5 6) (.c (.one (.str 0 0))),(some (5,4,true)),0,[]⟩,⟨(some (5,8)),.pick (t 5 4) (t 5 7) (.c (.one (.bool false))),(some (5,0,false)),0,[]⟩,⟨(some (5,9)),.pick (t 5 0) (.c (.one (.bool true))) (t 5 8),none,0,[]⟩,⟨(some (5,10)),.mv (t 5 9),none,0,[]⟩,⟨(some (5,11)),.faddr 19 (t 0 1),(some (5,10,false)),0,[]⟩,⟨(some (5,12)),.load false 1 (t 5 11),(some (5,10,false)),1,[]⟩,⟨(some (5,13)),.len true (t 5 12),(some (5,10,false)),0,[]⟩,⟨(some (5,14)),.bin .gtr (t 5 13) (c 65536),(some (5,10,false)),0,[]⟩,⟨(some (5,15)),.pick (t 5 10) (.c (.one (.bool true))) (t 5 14),none,0,[]⟩,⟨(some (6,0)),.mv (t 5 15),none,0,[]⟩,⟨(some (6,1)),.iaddrA 1 15 (t 0 5) (c 14),(some (6,0,false)),0,[]⟩,⟨(some (6,2)),.load false 1 (t 6 1),(some (6,0,false)),1,[]⟩,⟨(some (6,3)),.not (t 6 2),(some (6,0,false)),0,[]⟩,⟨(some (6,4)),.mv (t 6 3),(some (6,0,false)),0,[]⟩,⟨(some (6,5)),.faddr 19 (t 0 1),(some (6,4,true)),0,[]⟩,⟨(some (6,6)),.load false 1 (t 6 5),(some (6,4,true)),1,[]⟩,⟨(some (6,7)),.sbin .neq (t 6 6) (.c (.one (.str 0 0))),(some (6,4,true)),0,[]⟩,⟨(some (6,8)),.pick (t 6 4) (t 6 7) (.c (.one (.bool false))),(some (6,0,false)),0,[]⟩,⟨(some (6,9)),.pick (t 6 0) (.c (.one (.bool true))) (t 6 8),none,0,[]⟩]) (.cond (t 6 9) (.seq (.reg [⟨(some (0,2)),.mv (.c (.one (.bool false))),none,0,[]⟩]) .ret) .skip)) (.seq (.seq (.reg [⟨(some (6,10)),.faddr 15 (t 0 1),none,0,[]⟩,⟨(some (6,11)),.load false 1 (t 6 10),none,1,[]⟩,⟨(some (6,12)),.call (f n_point_Batch) [(t 6 11)],none,1,[]⟩,⟨(some (6,13)),.not (t 6 12),none,0,[]⟩,⟨(some (6,14)),.mv (t 6 13),none,0,[]⟩,⟨(some (6,15)),.iaddrA 1 15 (t 0 5) (c 12),(some (6,14,false)),0,[]⟩,⟨(some (7,0)),.load false 1 (t 6 15),(some (6,14,false)),1,[]⟩,⟨(some (7,1)),.not (t 7 0),(some (6,14,false)),0,[]⟩,⟨(some (7,2)),.mv (t 7 1),(some (6,14,false)),0,[]⟩,⟨(some (7,3)),.faddr 15 (t 0 1),(some (7,2,true)),0,[]⟩,⟨(some (7,4)),.load false 1 (t 7 3),(some (7,2,true)),1,[]⟩,⟨(some (7,5)),.len false (t 7 4),(some (7,2,true)),0,[]⟩,⟨(some (7,6)),.bin .gtr (t 7 5) (c 0),(some (7,2,true)),0,[]⟩,⟨(some (7,7)),.pick (t 7 2) (t 7 6) (.c (.one (.bool false))),(some (6,14,false)),0,[]⟩,⟨(some (7,8)),.pick (t 6 14) (.c (.one (.bool true))) (t 7 7),none,0,[]⟩]) (.cond (t 7 8) (.seq (.reg [⟨(some (0,2)),.mv (.c (.one (.bool false))),none,0,[]⟩]) .ret) .skip)) (.seq (.reg [⟨(some (7,9)),.faddr 16 (t 0 1),none,0,[]⟩,⟨(some (7,10)),.load true 3 (t 7 9),none,1,[]⟩,⟨(some (7,11)),.call (f n_message_MayLog) [(t 7 10)],none,1,[]⟩,⟨(some (7,12)),.mv (t 7 11),none,0,[]⟩,⟨(some (7,13)),.iaddrA 1 15 (t 0 5) (c 13),(some (7,12,true)),0,[]⟩,⟨(some (7,14)),.load false 1 (t 7 13),(some (7,12,true)),1,[]⟩,⟨(some (7,15)),.mv (t 7 14),(some (7,12,true)),0,[]⟩,⟨(some (8,0)),.faddr 16 (t 0 1),(some (7,15,false)),0,[]⟩,⟨(some (8,1)),.faddr 0 (t 8 0),(some (7,15,false)),0,[]⟩,⟨(some (8,2)),.load false 1 (t 8 1),(some (7,15,false)),1,[]⟩,⟨(some (8,3)),.bin .eql (t 8 2) (c 0),(some (7,15,false)),0,[]⟩,⟨(some (8,4)),.mv (t 8 3),(some (7,15,false)),0,[]⟩,⟨(some (8,5)),.faddr 16 (t 0 1),(some (8,4,true)),0,[]⟩,⟨(some (8,6)),.faddr 2 (t 8 5),(some (8,4,true)),0,[]⟩,⟨(some (8,7)),.load false 1 (t 8 6),(some (8,4,true)),1,[]⟩,⟨(some (8,8)),.len false (t 8 7),(some (8,4,true)),0,[]⟩,⟨(some (8,9)),.bin .eql (t 8 8) (c 0),(some (8,4,true)),0,[]⟩,⟨(some (8,10)),.pick (t 8 4) (t 8 9) (.c (.one (.bool false))),(some (7,15,false)),0,[]⟩,⟨(some (8,11)),.pick (t 7 15) (.c (.one (.bool true))) (t 8 10),(some (7,12,true)),0,[]⟩,⟨(some (8,12)),.pick (t 7 12) (t 8 11) (.c (.one (.bool false))),none,0,[]⟩,⟨(some (0,2)),.mv (t 8 12),none,0,[]⟩]) .ret)))))))))
def a_message_May : AFunc:=⟨141,1,[.tmp 0 2],b_message_May⟩
theorem i_message_May {P : Program} {fz : Fz} {mu : St} {n : Nat} {k : KT Prop} (fu : Nat) (x0 : AV) : textP P fu a_message_May [x0] fz mu n k = dcode pOrc False (CP P) fz fu b_message_May (tmE 141 (envI [x0])) mu n (endP fz [.tmp 0 2] k):=rfl
def b_choose_Last : ACode:=(.seq (.reg [⟨(some (0,1)),.box (t 0 0),none,3,[]⟩,⟨(some (0,2)),.mv (c 0),none,0,[]⟩]) (.seq (.reg [⟨(some (0,3)),.faddr 0 (t 0 1),none,0,[]⟩,⟨(some (0,4)),.load false 1 (t 0 3),none,1,[]⟩,⟨(some (0,5)),.faddr 2 (t 0 1),none,0,[]⟩,⟨(some (0,6)),.load false 1 (t 0 5),none,1,[]⟩,⟨(some (0,7)),.len false (t 0 6),none,0,[]⟩,⟨(some (0,8)),.bin .add (t 0 4) (t 0 7),none,0,[]⟩,⟨(some (0,2)),.mv (t 0 8),none,0,[]⟩]) .ret))
def a_choose_Last : AFunc:=⟨9,1,[.tmp 0 2],b_choose_Last⟩
theorem i_choose_Last {P : Program} {fz : Fz} {mu : St} {n : Nat} {k : KT Prop} (fu : Nat) (x0 : AV) : textP P fu a_choose_Last [x0] fz mu n k = dcode pOrc False (CP P) fz fu b_choose_Last (tmE 9 (envI [x0])) mu n (endP fz [.tmp 0 2] k):=rfl
def b_repair_Nodes : ACode:=(.seq (.reg [⟨(some (0,4)),.mv (.c (.one (.bool false))),none,0,[]⟩]) (.seq (.reg [⟨(some (0,5)),.mv (t 0 1),none,0,[]⟩,⟨(some (0,6)),.bin .geq (t 0 5) (c 1),none,0,[]⟩,⟨(some (0,7)),.mv (t 0 6),none,0,[]⟩,⟨(some (0,8)),.mv (t 0 1),(some (0,7,true)),0,[]⟩,⟨(some (0,9)),.bin .leq (t 0 8) (c 7),(some (0,7,true)),0,[]⟩,⟨(some (0,10)),.pick (t 0 7) (t 0 9) (.c (.one (.bool false))),none,0,[]⟩,⟨(some (0,11)),.mv (t 0 10),none,0,[]⟩,⟨(some (0,12)),.mv (t 0 1),(some (0,11,true)),0,[]⟩,⟨(some (0,13)),.bin .rem (t 0 12) (c 2),(some (0,11,true)),0,[]⟩,⟨(some (0,14)),.bin .eql (t 0 13) (c 1),(some (0,11,true)),0,[]⟩,⟨(some (0,15)),.pick (t 0 11) (t 0 14) (.c (.one (.bool false))),none,0,[]⟩,⟨(some (1,0)),.mv (t 0 15),none,0,[]⟩,⟨(some (1,1)),.mv (t 0 0),(some (1,0,true)),0,[]⟩,⟨(some (1,2)),.bin .geq (t 1 1) (c 0),(some (1,0,true)),0,[]⟩,⟨(some (1,3)),.pick (t 1 0) (t 1 2) (.c (.one (.bool false))),none,0,[]⟩,⟨(some (1,4)),.mv (t 1 3),none,0,[]⟩,⟨(some (1,5)),.mv (t 0 0),(some (1,4,true)),0,[]⟩,⟨(some (1,6)),.mv (t 0 1),(some (1,4,true)),0,[]⟩,⟨(some (1,7)),.bin .lss (t 1 5) (t 1 6),(some (1,4,true)),0,[]⟩,⟨(some (1,8)),.pick (t 1 4) (t 1 7) (.c (.one (.bool false))),none,0,[]⟩,⟨(some (0,4)),.mv (t 1 8),none,0,[]⟩]) .ret))
def a_repair_Nodes : AFunc:=⟨25,2,[.tmp 0 4],b_repair_Nodes⟩
theorem i_repair_Nodes {P : Program} {fz : Fz} {mu : St} {n : Nat} {k : KT Prop} (fu : Nat) (x0 x1 : AV) : textP P fu a_repair_Nodes [x0,x1] fz mu n k = dcode pOrc False (CP P) fz fu b_repair_Nodes (tmE 25 (envI [x0,x1])) mu n (endP fz [.tmp 0 4] k):=rfl
def b_replica_within : ACode:=(.seq (.reg [⟨(some (0,2)),.mv (.c (.one (.bool false))),none,0,[]⟩]) (.seq (.reg [⟨(some (0,3)),.mv (t 0 0),none,0,[]⟩,⟨(some (0,4)),.bin .geq (t 0 3) (c 0),none,0,[]⟩,⟨(some (0,5)),.mv (t 0 4),none,0,[]⟩,⟨(some (0,6)),.mv (t 0 0),(some (0,5,true)),0,[]⟩,⟨(some (0,7)),.bin .leq (t 0 6) (c 2147483647),(some (0,5,true)),0,[]⟩,⟨(some (0,8)),.pick (t 0 5) (t 0 7) (.c (.one (.bool false))),none,0,[]⟩,⟨(some (0,2)),.mv (t 0 8),none,0,[]⟩]) .ret))
def a_replica_within : AFunc:=⟨9,1,[.tmp 0 2],b_replica_within⟩
theorem i_replica_within {P : Program} {fz : Fz} {mu : St} {n : Nat} {k : KT Prop} (fu : Nat) (x0 : AV) : textP P fu a_replica_within [x0] fz mu n k = dcode pOrc False (CP P) fz fu b_replica_within (tmE 9 (envI [x0])) mu n (endP fz [.tmp 0 2] k):=rfl
def l_message_MayLog_0 : ACode:=(.seq (.reg [⟨(some (2,7)),.bin .lss (t 2 6) (t 2 5),none,0,[]⟩]) (.seq (.cond (t 2 7) .skip (.exit 0)) (.seq (.blk 1 (.seq (.reg [⟨(some (2,8)),.iaddr 5 (t 2 4) (t 2 6),none,0,[]⟩,⟨(some (2,9)),.load true 5 (t 2 8),none,1,[]⟩,⟨(some (0,4)),.alloc [.int .i64 0,.int .i64 0,.int .i64 0,.int .i64 0,.nsl],none,3,[]⟩,⟨none,.store 5 (t 0 4) (t 2 9),none,2,[]⟩]) (.seq (.reg [⟨(some (2,10)),.load true 5 (t 0 4),none,1,[]⟩,⟨(some (2,11)),.call (f n_message_MayEntry) [(t 2 10)],none,1,[]⟩,⟨(some (2,12)),.not (t 2 11),none,0,[]⟩]) (.cond (t 2 12) (.seq (.reg [⟨(some (0,2)),.mv (.c (.one (.bool false))),none,0,[]⟩]) .ret) .skip)))) (.reg [⟨(some (2,13)),.bin .add (t 2 6) (c 1),none,0,[]⟩,⟨(some (2,6)),.mv (t 2 13),none,0,[]⟩]))))
def b_message_MayLog : ACode:=(.seq (.reg [⟨(some (0,1)),.box (t 0 0),none,3,[]⟩,⟨(some (0,2)),.mv (.c (.one (.bool false))),none,0,[]⟩]) (.seq (.seq (.reg [⟨(some (0,5)),.faddr 0 (t 0 1),none,0,[]⟩,⟨(some (0,6)),.load false 1 (t 0 5),none,1,[]⟩,⟨(some (0,7)),.bin .lss (t 0 6) (c 0),none,0,[]⟩,⟨(some (0,8)),.mv (t 0 7),none,0,[]⟩,⟨(some (0,9)),.faddr 0 (t 0 1),(some (0,8,false)),0,[]⟩,⟨(some (0,10)),.load false 1 (t 0 9),(some (0,8,false)),1,[]⟩,⟨(some (0,11)),.bin .gtr (t 0 10) (c 2147483647),(some (0,8,false)),0,[]⟩,⟨(some (0,12)),.pick (t 0 8) (.c (.one (.bool true))) (t 0 11),none,0,[]⟩,⟨(some (0,13)),.mv (t 0 12),none,0,[]⟩,⟨(some (0,14)),.faddr 1 (t 0 1),(some (0,13,false)),0,[]⟩,⟨(some (0,15)),.load false 1 (t 0 14),(some (0,13,false)),1,[]⟩,⟨(some (1,0)),.len true (t 0 15),(some (0,13,false)),0,[]⟩,⟨(some (1,1)),.bin .gtr (t 1 0) (c 65536),(some (0,13,false)),0,[]⟩,⟨(some (1,2)),.pick (t 0 13) (.c (.one (.bool true))) (t 1 1),none,0,[]⟩,⟨(some (1,3)),.mv (t 1 2),none,0,[]⟩,⟨(some (1,4)),.faddr 0 (t 0 1),(some (1,3,false)),0,[]⟩,⟨(some (1,5)),.load false 1 (t 1 4),(some (1,3,false)),1,[]⟩,⟨(some (1,6)),.bin .eql (t 1 5) (c 0),(some (1,3,false)),0,[]⟩,⟨(some (1,7)),.mv (t 1 6),(some (1,3,false)),0,[]⟩,⟨(some (1,8)),.faddr 1 (t 0 1),(some (1,7,true)),0,[]⟩,⟨(some (1,9)),.load false 1 (t 1 8),(some (1,7,true)),1,[]⟩,⟨(some (1,10)),.sbin .neq (t 1 9) (.c (.one (.str 0 0))),(some (1,7,true)),0,[]⟩,⟨(some (1,11)),.pick (t 1 7) (t 1 10) (.c (.one (.bool false))),(some (1,3,false)),0,[]⟩,⟨(some (1,12)),.pick (t 1 3) (.c (.one (.bool true))) (t 1 11),none,0,[]⟩,⟨(some (1,13)),.mv (t 1 12),none,0,[]⟩,⟨(some (1,14)),.faddr 2 (t 0 1),(some (1,13,false)),0,[]⟩,⟨(some (1,15)),.load false 1 (t 1 14),(some (1,13,false)),1,[]⟩,⟨(some (2,0)),.len false (t 1 15),(some (1,13,false)),0,[]⟩,⟨(some (2,1)),.bin .gtr (t 2 0) (c 4096),(some (1,13,false)),0,[]⟩,⟨(some (2,2)),.pick (t 1 13) (.c (.one (.bool true))) (t 2 1),none,0,[]⟩]) (.cond (t 2 2) (.seq (.reg [⟨(some (0,2)),.mv (.c (.one (.bool false))),none,0,[]⟩]) .ret) .skip)) (.seq (.seq (.reg [⟨(some (2,3)),.faddr 2 (t 0 1),none,0,[]⟩,⟨(some (2,4)),.load false 1 (t 2 3),none,1,[]⟩,⟨(some (2,5)),.len false (t 2 4),none,0,[]⟩,⟨(some (2,6)),.mv (c 0),none,0,[]⟩]) (.blk 0 (.loop l_message_MayLog_0))) (.seq (.reg [⟨(some (0,2)),.mv (.c (.one (.bool true))),none,0,[]⟩]) .ret))))
def a_message_MayLog : AFunc:=⟨46,1,[.tmp 0 2],b_message_MayLog⟩
theorem i_message_MayLog {P : Program} {fz : Fz} {mu : St} {n : Nat} {k : KT Prop} (fu : Nat) (x0 : AV) : textP P fu a_message_MayLog [x0] fz mu n k = dcode pOrc False (CP P) fz fu b_message_MayLog (tmE 46 (envI [x0])) mu n (endP fz [.tmp 0 2] k):=rfl
def b_slices_ContainsFunc_int_int : ACode:=(.seq (.reg [⟨(some (0,4)),.mv (.c (.one (.bool false))),none,0,[]⟩]) (.seq (.reg [⟨(some (0,5)),.mv (t 0 0),none,0,[]⟩,⟨(some (0,6)),.mv (t 0 1),none,0,[]⟩,⟨(some (0,7)),.call (f n_slices_IndexFunc_int_int) [(t 0 5),(t 0 6)],none,1,[]⟩,⟨(some (0,8)),.bin .geq (t 0 7) (c 0),none,0,[]⟩,⟨(some (0,4)),.mv (t 0 8),none,0,[]⟩]) .ret))
def a_slices_ContainsFunc_int_int : AFunc:=⟨9,2,[.tmp 0 4],b_slices_ContainsFunc_int_int⟩
theorem i_slices_ContainsFunc_int_int {P : Program} {fz : Fz} {mu : St} {n : Nat} {k : KT Prop} (fu : Nat) (x0 x1 : AV) : textP P fu a_slices_ContainsFunc_int_int [x0,x1] fz mu n k = dcode pOrc False (CP P) fz fu b_slices_ContainsFunc_int_int (tmE 9 (envI [x0,x1])) mu n (endP fz [.tmp 0 4] k):=rfl
def b_replica_May_1 : ACode:=(.seq (.reg [⟨(some (0,2)),.mv (.c (.one (.bool false))),none,0,[]⟩]) (.seq (.reg [⟨(some (0,3)),.mv (t 0 0),none,0,[]⟩,⟨(some (0,4)),.call (f n_replica_within) [(t 0 3)],none,1,[]⟩,⟨(some (0,5)),.not (t 0 4),none,0,[]⟩,⟨(some (0,2)),.mv (t 0 5),none,0,[]⟩]) .ret))
def a_replica_May_1 : AFunc:=⟨6,1,[.tmp 0 2],b_replica_May_1⟩
theorem i_replica_May_1 {P : Program} {fz : Fz} {mu : St} {n : Nat} {k : KT Prop} (fu : Nat) (x0 : AV) : textP P fu a_replica_May_1 [x0] fz mu n k = dcode pOrc False (CP P) fz fu b_replica_May_1 (tmE 6 (envI [x0])) mu n (endP fz [.tmp 0 2] k):=rfl
def l_replica_Clone_0 : ACode:=(.seq (.reg [⟨(some (1,8)),.bin .lss (t 1 7) (t 1 6),none,0,[]⟩]) (.seq (.cond (t 1 8) .skip (.exit 0)) (.seq (.blk 1 (.seq (.reg [⟨(some (1,9)),.mv (t 1 7),none,0,[]⟩,⟨(some (0,3)),.mv (t 1 9),none,0,[]⟩]) (.draw [⟨(some (1,10)),.faddr 12 (t 0 1),none,0,[]⟩,⟨(some (1,11)),.load false 1 (t 1 10),none,1,[0]⟩,⟨(some (1,12)),.mv (t 0 3),none,0,[]⟩,⟨(some (1,13)),.faddr 12 (t 0 1),none,0,[]⟩,⟨(some (1,14)),.load false 1 (t 1 13),none,1,[3]⟩,⟨(some (1,15)),.mv (t 0 3),none,0,[]⟩,⟨(some (2,0)),.iaddr 6 (t 1 14) (t 1 15),none,0,[4,3,5]⟩,⟨(some (2,1)),.faddr 3 (t 2 0),none,0,[6,4,3,5]⟩,⟨(some (2,2)),.load true 3 (t 2 1),none,1,[7,6,4,3,5]⟩,⟨(some (2,3)),.call (f n_message_CloneLog) [(t 2 2)],none,1,[8,7,6,4,3,5]⟩,⟨(some (2,4)),.iaddr 6 (t 1 11) (t 1 12),none,0,[1,0,2,3,4,5,6,7,8,9]⟩,⟨(some (2,5)),.faddr 3 (t 2 4),none,0,[10,1,0,2,3,4,5,6,7,8,9]⟩,⟨none,.store 3 (t 2 5) (t 2 3),none,2,[11,10,1,0,2,3,4,5,6,7,8,9]⟩]))) (.reg [⟨(some (2,6)),.bin .add (t 1 7) (c 1),none,0,[]⟩,⟨(some (1,7)),.mv (t 2 6),none,0,[]⟩]))))
def b_replica_Clone : ACode:=(.seq (.reg [⟨(some (0,1)),.box (t 0 0),none,3,[]⟩,⟨(some (0,2)),.alloc [.int .i64 0,.int .i64 0,.int .i64 0,.int .i64 0,.int .i64 0,.int .i64 0,.bool false,.int .i64 0,.str 0 0,.nsl,.nsl,.nsl,.nsl],none,3,[]⟩]) (.seq (.reg [⟨(some (0,4)),.faddr 7 (t 0 1),none,0,[]⟩,⟨(some (0,5)),.load true 3 (t 0 4),none,1,[]⟩,⟨(some (0,6)),.call (f n_message_CloneLog) [(t 0 5)],none,1,[]⟩,⟨(some (0,7)),.faddr 7 (t 0 1),none,0,[]⟩,⟨none,.store 3 (t 0 7) (t 0 6),none,2,[]⟩]) (.seq (.draw [⟨(some (0,8)),.faddr 10 (t 0 1),none,0,[]⟩,⟨(some (0,9)),.load false 1 (t 0 8),none,1,[0]⟩,⟨(some (0,10)),.call (f n_slices_Clone_int_int) [(t 0 9)],none,1,[1,0]⟩,⟨(some (0,11)),.faddr 11 (t 0 1),none,0,[]⟩,⟨(some (0,12)),.load false 1 (t 0 11),none,1,[3]⟩,⟨(some (0,13)),.call (f n_slices_Clone_int_int) [(t 0 12)],none,1,[4,3,2,1,0]⟩,⟨(some (0,14)),.faddr 12 (t 0 1),none,0,[]⟩,⟨(some (0,15)),.load false 1 (t 0 14),none,1,[6]⟩,⟨(some (1,0)),.call (f n_slices_Clone_api_Do_api_Do) [(t 0 15)],none,1,[7,6,5,4,3,2,1,0]⟩,⟨(some (1,1)),.faddr 10 (t 0 1),none,0,[0,1,2,3,4,6,7]⟩,⟨none,.store 1 (t 1 1) (t 0 10),none,2,[9,0,1,2,3,4,6,7,8,5]⟩,⟨(some (1,2)),.faddr 11 (t 0 1),none,0,[0,1,2,3,4,5,6,7,9,10,8]⟩,⟨none,.store 1 (t 1 2) (t 0 13),none,2,[11,0,1,2,3,4,5,6,7,9,10,8]⟩,⟨(some (1,3)),.faddr 12 (t 0 1),none,0,[0,1,2,3,4,5,6,7,8,9,10,11,12]⟩,⟨none,.store 1 (t 1 3) (t 1 0),none,2,[13,0,1,2,3,4,5,6,7,8,9,10,11,12]⟩]) (.seq (.seq (.reg [⟨(some (1,4)),.faddr 12 (t 0 1),none,0,[]⟩,⟨(some (1,5)),.load false 1 (t 1 4),none,1,[]⟩,⟨(some (1,6)),.len false (t 1 5),none,0,[]⟩,⟨(some (1,7)),.mv (c 0),none,0,[]⟩]) (.blk 0 (.loop l_replica_Clone_0))) (.seq (.reg [⟨(some (2,7)),.load true 13 (t 0 1),none,1,[]⟩,⟨none,.store 13 (t 0 2) (t 2 7),none,2,[]⟩]) .ret)))))
def a_replica_Clone : AFunc:=⟨40,1,[.cell 0 2 true 13],b_replica_Clone⟩
theorem i_replica_Clone {P : Program} {fz : Fz} {mu : St} {n : Nat} {k : KT Prop} (fu : Nat) (x0 : AV) : textP P fu a_replica_Clone [x0] fz mu n k = dcode pOrc False (CP P) fz fu b_replica_Clone (tmE 40 (envI [x0])) mu n (endP fz [.cell 0 2 true 13] k):=rfl
def b_replica_begin : ACode:=(.seq (.reg [⟨(some (0,1)),.box (t 0 0),none,3,[]⟩,⟨(some (0,2)),.mv (.c (.one (.npt))),none,0,[]⟩]) (.seq (.reg [⟨(some (0,3)),.load true 13 (t 0 1),none,1,[]⟩,⟨(some (0,4)),.call (f n_replica_Clone) [(t 0 3)],none,1,[]⟩,⟨(some (0,5)),.build [.int .i64 0,.int .i64 0,.int .i64 0,.int .i64 0,.int .i64 0,.int .i64 0,.bool false,.int .i64 0,.str 0 0,.nsl,.nsl,.nsl,.nsl,.nsl,.bool false] [(0,13,(t 0 4))],none,0,[]⟩,⟨(some (0,6)),.box (t 0 5),none,3,[]⟩,⟨(some (0,2)),.mv (t 0 6),none,0,[]⟩]) .ret))
def a_replica_begin : AFunc:=⟨7,1,[.tmp 0 2],b_replica_begin⟩
theorem i_replica_begin {P : Program} {fz : Fz} {mu : St} {n : Nat} {k : KT Prop} (fu : Nat) (x0 : AV) : textP P fu a_replica_begin [x0] fz mu n k = dcode pOrc False (CP P) fz fu b_replica_begin (tmE 7 (envI [x0])) mu n (endP fz [.tmp 0 2] k):=rfl
def b_replica_step_acked : ACode:=(.seq (.reg [⟨(some (0,3)),.box (t 0 1),none,3,[]⟩]) (.seq (.seq (.draw [⟨(some (0,4)),.mv (t 0 0),none,0,[]⟩,⟨(some (0,5)),.call (f n_replica_step_normal) [(t 0 4)],none,1,[0]⟩,⟨(some (0,6)),.not (t 0 5),none,0,[1,0]⟩,⟨(some (0,7)),.mv (t 0 6),none,0,[2,1,0]⟩,⟨(some (0,8)),.faddr 3 (t 0 3),(some (0,7,false)),0,[3,2,1,0]⟩,⟨(some (0,9)),.load false 1 (t 0 8),(some (0,7,false)),1,[4,3,2,1,0]⟩,⟨(some (0,10)),.mv (t 0 0),(some (0,7,false)),0,[3,2,1,0]⟩,⟨(some (0,11)),.nilc (t 0 10),(some (0,7,false)),0,[6,3,2,1,0]⟩,⟨(some (0,12)),.faddr 0 (t 0 11),(some (0,7,false)),0,[7,6,3,2,1,0]⟩,⟨(some (0,13)),.faddr 2 (t 0 12),(some (0,7,false)),0,[8,7,6,3,2,1,0]⟩,⟨(some (0,14)),.load false 1 (t 0 13),(some (0,7,false)),1,[9,8,7,6,3,2,1,0]⟩,⟨(some (0,15)),.bin .gtr (t 0 9) (t 0 14),(some (0,7,false)),0,[5,4,3,2,1,0,10,9,8,7,6]⟩,⟨(some (1,0)),.pick (t 0 7) (.c (.one (.bool true))) (t 0 15),none,0,[3,2,1,0,11,5,4,10,9,8,7,6]⟩]) (.cond (t 1 0) .ret .skip)) (.seq (.draw [⟨(some (1,1)),.mv (t 0 0),none,0,[]⟩,⟨(some (1,2)),.nilc (t 1 1),none,0,[0]⟩,⟨(some (1,3)),.faddr 0 (t 1 2),none,0,[1,0]⟩,⟨(some (1,4)),.faddr 10 (t 1 3),none,0,[2,1,0]⟩,⟨(some (1,5)),.load false 1 (t 1 4),none,1,[3,2,1,0]⟩,⟨(some (1,6)),.faddr 1 (t 0 3),none,0,[]⟩,⟨(some (1,7)),.load false 1 (t 1 6),none,1,[5]⟩,⟨(some (1,8)),.mv (t 0 0),none,0,[]⟩,⟨(some (1,9)),.nilc (t 1 8),none,0,[7]⟩,⟨(some (1,10)),.faddr 0 (t 1 9),none,0,[8,7]⟩,⟨(some (1,11)),.faddr 10 (t 1 10),none,0,[9,8,7]⟩,⟨(some (1,12)),.load false 1 (t 1 11),none,1,[10,9,8,7]⟩,⟨(some (1,13)),.faddr 1 (t 0 3),none,0,[]⟩,⟨(some (1,14)),.load false 1 (t 1 13),none,1,[12]⟩,⟨(some (1,15)),.iaddr 1 (t 1 12) (t 1 14),none,0,[11,10,9,8,7,13,12]⟩,⟨(some (2,0)),.load false 1 (t 1 15),none,1,[14,11,10,9,8,7,13,12]⟩,⟨(some (2,1)),.faddr 5 (t 0 3),none,0,[]⟩,⟨(some (2,2)),.load false 1 (t 2 1),none,1,[16]⟩,⟨(some (2,3)),.mv (t 0 0),none,0,[]⟩,⟨(some (2,4)),.call (f n_replica_step_last) [(t 2 3)],none,1,[18]⟩,⟨(some (2,5)),.min (t 2 2) [(t 2 4)],none,0,[17,16,19,18]⟩,⟨(some (2,6)),.max (t 2 0) [(t 2 5)],none,0,[15,14,11,10,9,8,7,13,12,20,17,16,19,18]⟩,⟨(some (2,7)),.iaddr 1 (t 1 5) (t 1 7),none,0,[4,3,2,1,0,6,5,7,8,9,10,11,12,13,14,15,16,17,18,19,20,21]⟩,⟨none,.store 1 (t 2 7) (t 2 6),none,2,[22,4,3,2,1,0,6,5,7,8,9,10,11,12,13,14,15,16,17,18,19,20,21]⟩]) (.draw [⟨(some (2,8)),.mv (t 0 0),none,0,[]⟩,⟨(some (2,9)),.mv (t 0 0),none,0,[]⟩,⟨(some (2,10)),.nilc (t 2 9),none,0,[1]⟩,⟨(some (2,11)),.faddr 0 (t 2 10),none,0,[2,1]⟩,⟨(some (2,12)),.faddr 5 (t 2 11),none,0,[3,2,1]⟩,⟨(some (2,13)),.load false 1 (t 2 12),none,1,[4,3,2,1]⟩,⟨(some (2,14)),.mv (t 0 0),none,0,[]⟩,⟨(some (2,15)),.nilc (t 2 14),none,0,[6]⟩,⟨(some (3,0)),.faddr 0 (t 2 15),none,0,[7,6]⟩,⟨(some (3,1)),.faddr 10 (t 3 0),none,0,[8,7,6]⟩,⟨(some (3,2)),.load false 1 (t 3 1),none,1,[9,8,7,6]⟩,⟨(some (3,3)),.mv (t 0 0),none,0,[]⟩,⟨(some (3,4)),.nilc (t 3 3),none,0,[11]⟩,⟨(some (3,5)),.faddr 0 (t 3 4),none,0,[12,11]⟩,⟨(some (3,6)),.faddr 0 (t 3 5),none,0,[13,12,11]⟩,⟨(some (3,7)),.load false 1 (t 3 6),none,1,[14,13,12,11]⟩,⟨(some (3,8)),.mv (t 0 0),none,0,[]⟩,⟨(some (3,9)),.call (f n_replica_step_last) [(t 3 8)],none,1,[16]⟩,⟨(some (3,10)),.call (f n_replica_Committed) [(t 3 2),(t 3 7),(t 3 9)],none,1,[10,9,8,7,6,15,14,13,12,11,17,16]⟩,⟨(some (3,11)),.max (t 2 13) [(t 3 10)],none,0,[5,4,3,2,1,18,10,9,8,7,6,15,14,13,12,11,17,16]⟩,⟨(some (3,12)),.nilc (t 2 8),none,0,[0,1,2,3,4,5,6,7,8,9,10,11,12,13,14,15,16,17,18,19]⟩,⟨(some (3,13)),.faddr 0 (t 3 12),none,0,[20,0,1,2,3,4,5,6,7,8,9,10,11,12,13,14,15,16,17,18,19]⟩,⟨(some (3,14)),.faddr 5 (t 3 13),none,0,[21,20,0,1,2,3,4,5,6,7,8,9,10,11,12,13,14,15,16,17,18,19]⟩,⟨none,.store 1 (t 3 14) (t 3 11),none,2,[22,21,20,0,1,2,3,4,5,6,7,8,9,10,11,12,13,14,15,16,17,18,19]⟩]))))
def a_replica_step_acked : AFunc:=⟨63,2,[],b_replica_step_acked⟩
theorem i_replica_step_acked {P : Program} {fz : Fz} {mu : St} {n : Nat} {k : KT Prop} (fu : Nat) (x0 x1 : AV) : textP P fu a_replica_step_acked [x0,x1] fz mu n k = dcode pOrc False (CP P) fz fu b_replica_step_acked (tmE 63 (envI [x0,x1])) mu n (endP fz [] k):=rfl
def b_replica_step_normal : ACode:=(.seq (.reg [⟨(some (0,2)),.mv (.c (.one (.bool false))),none,0,[]⟩]) (.seq (.reg [⟨(some (0,3)),.mv (t 0 0),none,0,[]⟩,⟨(some (0,4)),.call (f n_replica_step_leads) [(t 0 3)],none,1,[]⟩,⟨(some (0,5)),.mv (t 0 4),none,0,[]⟩,⟨(some (0,6)),.mv (t 0 0),(some (0,5,true)),0,[]⟩,⟨(some (0,7)),.nilc (t 0 6),(some (0,5,true)),0,[]⟩,⟨(some (0,8)),.faddr 0 (t 0 7),(some (0,5,true)),0,[]⟩,⟨(some (0,9)),.faddr 4 (t 0 8),(some (0,5,true)),0,[]⟩,⟨(some (0,10)),.load false 1 (t 0 9),(some (0,5,true)),1,[]⟩,⟨(some (0,11)),.bin .eql (t 0 10) (c 0),(some (0,5,true)),0,[]⟩,⟨(some (0,12)),.pick (t 0 5) (t 0 11) (.c (.one (.bool false))),none,0,[]⟩,⟨(some (0,2)),.mv (t 0 12),none,0,[]⟩]) .ret))
def a_replica_step_normal : AFunc:=⟨13,1,[.tmp 0 2],b_replica_step_normal⟩
theorem i_replica_step_normal {P : Program} {fz : Fz} {mu : St} {n : Nat} {k : KT Prop} (fu : Nat) (x0 : AV) : textP P fu a_replica_step_normal [x0] fz mu n k = dcode pOrc False (CP P) fz fu b_replica_step_normal (tmE 13 (envI [x0])) mu n (endP fz [.tmp 0 2] k):=rfl
def b_replica_step_end : ACode:=(.seq (.reg [⟨(some (0,3)),.box (t 0 1),none,3,[]⟩,⟨(some (0,4)),.alloc [.int .i64 0,.int .i64 0,.int .i64 0,.int .i64 0,.int .i64 0,.int .i64 0,.bool false,.int .i64 0,.str 0 0,.nsl,.nsl,.nsl,.nsl],none,3,[]⟩,⟨(some (0,5)),.mv (.c (.one (.nsl))),none,0,[]⟩]) (.seq (.seq (.reg [⟨(some (0,6)),.mv (t 0 0),none,0,[]⟩,⟨(some (0,7)),.nilc (t 0 6),none,0,[]⟩,⟨(some (0,8)),.faddr 14 (t 0 7),none,0,[]⟩,⟨(some (0,9)),.load false 1 (t 0 8),none,1,[]⟩]) (.cond (t 0 9) (.seq (.reg [⟨(some (0,10)),.load true 13 (t 0 3),none,1,[]⟩,⟨(some (0,11)),.call (f n_replica_Clone) [(t 0 10)],none,1,[]⟩,⟨none,.store 13 (t 0 4) (t 0 11),none,2,[]⟩,⟨(some (0,5)),.mv (.c (.one (.nsl))),none,0,[]⟩]) .ret) .skip)) (.seq (.draw [⟨(some (0,12)),.mv (t 0 0),none,0,[]⟩,⟨(some (0,13)),.nilc (t 0 12),none,0,[0]⟩,⟨(some (0,14)),.faddr 0 (t 0 13),none,0,[1,0]⟩,⟨(some (0,15)),.load true 13 (t 0 14),none,1,[2,1,0]⟩,⟨(some (1,0)),.mv (t 0 0),none,0,[]⟩,⟨(some (1,1)),.nilc (t 1 0),none,0,[4]⟩,⟨(some (1,2)),.faddr 13 (t 1 1),none,0,[5,4]⟩,⟨(some (1,3)),.load false 1 (t 1 2),none,1,[6,5,4]⟩,⟨none,.store 13 (t 0 4) (t 0 15),none,4,[3,2,1,0]⟩,⟨(some (0,5)),.mv (t 1 3),none,0,[7,6,5,4,8,3,2,1,0]⟩]) .ret)))
def a_replica_step_end : AFunc:=⟨20,2,[.cell 0 4 true 13,.tmp 0 5],b_replica_step_end⟩
theorem i_replica_step_end {P : Program} {fz : Fz} {mu : St} {n : Nat} {k : KT Prop} (fu : Nat) (x0 x1 : AV) : textP P fu a_replica_step_end [x0,x1] fz mu n k = dcode pOrc False (CP P) fz fu b_replica_step_end (tmE 20 (envI [x0,x1])) mu n (endP fz [.cell 0 4 true 13,.tmp 0 5] k):=rfl
def b_slices_Clone_int_int : ACode:=(.seq (.reg [⟨(some (0,2)),.mv (.c (.one (.nsl))),none,0,[]⟩]) (.seq (.seq (.reg [⟨(some (0,3)),.mv (t 0 0),none,0,[]⟩,⟨(some (0,4)),.eqn true false (t 0 3) (.c (.one (.nsl))),none,0,[]⟩]) (.cond (t 0 4) (.seq (.reg [⟨(some (0,2)),.mv (.c (.one (.nsl))),none,0,[]⟩]) .ret) .skip)) (.seq (.reg [⟨(some (0,5)),.bslice 1 0 [.int .i64 0] [],none,3,[]⟩,⟨(some (0,6)),.mv (t 0 0),none,0,[]⟩,⟨(some (0,7)),.append 1 8 (t 0 5) (t 0 6),none,2,[]⟩,⟨(some (0,2)),.mv (t 0 7),none,0,[]⟩]) .ret)))
def a_slices_Clone_int_int : AFunc:=⟨8,1,[.tmp 0 2],b_slices_Clone_int_int⟩
theorem i_slices_Clone_int_int {P : Program} {fz : Fz} {mu : St} {n : Nat} {k : KT Prop} (fu : Nat) (x0 : AV) : textP P fu a_slices_Clone_int_int [x0] fz mu n k = dcode pOrc False (CP P) fz fu b_slices_Clone_int_int (tmE 8 (envI [x0])) mu n (endP fz [.tmp 0 2] k):=rfl
def b_message_fields : ACode:=(.seq (.reg [⟨(some (0,2)),.mv (.c (.one (.nsl))),none,0,[]⟩,⟨(some (0,3)),.mv (.c (.one (.bool false))),none,0,[]⟩]) (.seq (.reg [⟨(some (0,5)),.bslice 1 3 [.int .i64 0] [(0,1,(c 6)),(1,1,(c 7)),(2,1,(c 12))],none,3,[]⟩,⟨(some (0,6)),.bslice 1 4 [.int .i64 0] [(0,1,(c 6)),(1,1,(c 7)),(2,1,(c 8)),(3,1,(c 2))],none,3,[]⟩,⟨(some (0,7)),.bslice 1 5 [.int .i64 0] [(0,1,(c 7)),(1,1,(c 9)),(2,1,(c 11)),(3,1,(c 2)),(4,1,(c 10))],none,3,[]⟩,⟨(some (0,8)),.bslice 1 4 [.int .i64 0] [(0,1,(c 7)),(1,1,(c 8)),(2,1,(c 2)),(3,1,(c 4))],none,3,[]⟩,⟨(some (0,9)),.bslice 1 7 [.int .i64 0] [(0,1,(c 0)),(1,1,(c 2)),(2,1,(c 3)),(3,1,(c 5)),(4,1,(c 6)),(5,1,(c 7)),(6,1,(c 12))],none,3,[]⟩,⟨(some (0,10)),.bslice 1 2 [.int .i64 0] [(0,1,(c 0)),(1,1,(c 2))],none,3,[]⟩,⟨(some (0,11)),.bslice 1 3 [.int .i64 0] [(0,1,(c 0)),(1,1,(c 2)),(2,1,(c 3))],none,3,[]⟩,⟨(some (0,12)),.bslice 1 1 [.int .i64 0] [(0,1,(c 0))],none,3,[]⟩,⟨(some (0,13)),.bslice 1 4 [.int .i64 0] [(0,1,(c 0)),(1,1,(c 1)),(2,1,(c 3)),(3,1,(c 13))],none,3,[]⟩,⟨(some (0,14)),.bslice 1 3 [.int .i64 0] [(0,1,(c 0)),(1,1,(c 3)),(2,1,(c 13))],none,3,[]⟩,⟨(some (0,15)),.bslice 1 2 [.int .i64 0] [(0,1,(c 0)),(1,1,(c 2))],none,3,[]⟩,⟨(some (1,0)),.bslice 1 3 [.int .i64 0] [(0,1,(c 0)),(1,1,(c 3)),(2,1,(c 13))],none,3,[]⟩,⟨(some (1,1)),.bslice 1 2 [.int .i64 0] [(0,1,(c 0)),(1,1,(c 4))],none,3,[]⟩,⟨(some (1,2)),.bslice 1 2 [.int .i64 0] [(0,1,(c 0)),(1,1,(c 4))],none,3,[]⟩,⟨(some (1,3)),.bslice 1 1 [.int .i64 0] [(0,1,(c 2))],none,3,[]⟩,⟨(some (1,4)),.bslice 1 1 [.int .i64 0] [(0,1,(c 2))],none,3,[]⟩,⟨(some (1,5)),.bslice 1 2 [.int .i64 0] [(0,1,(c 2)),(1,1,(c 14))],none,3,[]⟩,⟨(some (1,6)),.bslice 1 17 [.nsl] [(0,1,(t 0 5)),(1,1,(t 0 6)),(2,1,(t 0 7)),(3,1,(t 0 8)),(4,1,(t 0 9)),(5,1,(t 0 10)),(6,1,(t 0 11)),(7,1,(t 0 12)),(8,1,(t 0 13)),(9,1,(t 0 14)),(10,1,(t 0 15)),(11,1,(t 1 0)),(12,1,(t 1 1)),(13,1,(t 1 2)),(14,1,(t 1 3)),(15,1,(t 1 4)),(16,1,(t 1 5))],none,3,[]⟩,⟨(some (0,4)),.mv (t 1 6),none,0,[]⟩]) (.seq (.seq (.reg [⟨(some (1,7)),.mv (t 0 0),none,0,[]⟩,⟨(some (1,8)),.bin .lss (t 1 7) (c 0),none,0,[]⟩,⟨(some (1,9)),.mv (t 1 8),none,0,[]⟩,⟨(some (1,10)),.mv (t 0 0),(some (1,9,false)),0,[]⟩,⟨(some (1,11)),.mv (t 0 4),(some (1,9,false)),0,[]⟩,⟨(some (1,12)),.len false (t 1 11),(some (1,9,false)),0,[]⟩,⟨(some (1,13)),.bin .geq (t 1 10) (t 1 12),(some (1,9,false)),0,[]⟩,⟨(some (1,14)),.pick (t 1 9) (.c (.one (.bool true))) (t 1 13),none,0,[]⟩]) (.cond (t 1 14) (.seq (.reg [⟨(some (0,2)),.mv (.c (.one (.nsl))),none,0,[]⟩,⟨(some (0,3)),.mv (.c (.one (.bool false))),none,0,[]⟩]) .ret) .skip)) (.seq (.reg [⟨(some (1,15)),.mv (t 0 4),none,0,[]⟩,⟨(some (2,0)),.mv (t 0 0),none,0,[]⟩,⟨(some (2,1)),.iaddr 1 (t 1 15) (t 2 0),none,0,[]⟩,⟨(some (2,2)),.load false 1 (t 2 1),none,1,[]⟩,⟨(some (0,2)),.mv (t 2 2),none,0,[]⟩,⟨(some (0,3)),.mv (.c (.one (.bool true))),none,0,[]⟩]) .ret))))
def a_message_fields : AFunc:=⟨35,1,[.tmp 0 2,.tmp 0 3],b_message_fields⟩
theorem i_message_fields {P : Program} {fz : Fz} {mu : St} {n : Nat} {k : KT Prop} (fu : Nat) (x0 : AV) : textP P fu a_message_fields [x0] fz mu n k = dcode pOrc False (CP P) fz fu b_message_fields (tmE 35 (envI [x0])) mu n (endP fz [.tmp 0 2,.tmp 0 3] k):=rfl
def b_message_who : ACode:=(.seq (.reg [⟨(some (0,2)),.mv (.c (.one (.bool false))),none,0,[]⟩]) (.seq (.reg [⟨(some (0,3)),.mv (f n_message_Node),none,0,[]⟩,⟨(some (0,4)),.mv (f n_message_Node),none,0,[]⟩]) (.seq (.seq (.reg [⟨(some (0,5)),.mv (t 0 0),none,0,[]⟩,⟨(some (0,6)),.nilc (t 0 5),none,0,[]⟩,⟨(some (0,7)),.faddr 0 (t 0 6),none,0,[]⟩,⟨(some (0,8)),.load false 1 (t 0 7),none,1,[]⟩]) (.blk 0 (.seq (.seq (.reg [⟨(some (0,10)),.bin .eql (t 0 8) (c 0),none,0,[]⟩,⟨(some (0,9)),.mv (t 0 10),none,0,[]⟩]) (.cond (t 0 9) .skip (.reg [⟨(some (0,11)),.bin .eql (t 0 8) (c 2),none,0,[]⟩,⟨(some (0,9)),.mv (t 0 11),none,0,[]⟩]))) (.cond (t 0 9) (.reg [⟨(some (0,3)),.mv (f n_message_Client),none,0,[]⟩]) (.seq (.seq (.reg [⟨(some (0,13)),.bin .eql (t 0 8) (c 1),none,0,[]⟩,⟨(some (0,12)),.mv (t 0 13),none,0,[]⟩]) (.cond (t 0 12) .skip (.reg [⟨(some (0,14)),.bin .eql (t 0 8) (c 3),none,0,[]⟩,⟨(some (0,12)),.mv (t 0 14),none,0,[]⟩]))) (.cond (t 0 12) (.reg [⟨(some (0,4)),.mv (f n_message_Client),none,0,[]⟩]) .skip)))))) (.seq (.reg [⟨(some (0,15)),.mv (t 0 3),none,0,[]⟩,⟨(some (1,0)),.mv (t 0 0),none,0,[]⟩,⟨(some (1,1)),.nilc (t 1 0),none,0,[]⟩,⟨(some (1,2)),.faddr 1 (t 1 1),none,0,[]⟩,⟨(some (1,3)),.load false 1 (t 1 2),none,1,[]⟩,⟨(some (1,4)),.call (t 0 15) [(t 1 3)],none,1,[]⟩,⟨(some (1,5)),.mv (t 1 4),none,0,[]⟩,⟨(some (1,6)),.mv (t 0 4),(some (1,5,true)),0,[]⟩,⟨(some (1,7)),.mv (t 0 0),(some (1,5,true)),0,[]⟩,⟨(some (1,8)),.nilc (t 1 7),(some (1,5,true)),0,[]⟩,⟨(some (1,9)),.faddr 2 (t 1 8),(some (1,5,true)),0,[]⟩,⟨(some (1,10)),.load false 1 (t 1 9),(some (1,5,true)),1,[]⟩,⟨(some (1,11)),.call (t 1 6) [(t 1 10)],(some (1,5,true)),1,[]⟩,⟨(some (1,12)),.pick (t 1 5) (t 1 11) (.c (.one (.bool false))),none,0,[]⟩,⟨(some (0,2)),.mv (t 1 12),none,0,[]⟩]) .ret))))
def a_message_who : AFunc:=⟨29,1,[.tmp 0 2],b_message_who⟩
theorem i_message_who {P : Program} {fz : Fz} {mu : St} {n : Nat} {k : KT Prop} (fu : Nat) (x0 : AV) : textP P fu a_message_who [x0] fz mu n k = dcode pOrc False (CP P) fz fu b_message_who (tmE 29 (envI [x0])) mu n (endP fz [.tmp 0 2] k):=rfl
def b_message_number : ACode:=(.seq (.reg [⟨(some (0,4)),.mv (.c (.one (.npt))),none,0,[]⟩]) (.seq (.seq (.reg [⟨(some (0,5)),.mv (t 0 1),none,0,[]⟩]) (.blk 0 (.seq (.reg [⟨(some (0,7)),.bin .eql (t 0 5) (c 0),none,0,[]⟩,⟨(some (0,6)),.mv (t 0 7),none,0,[]⟩]) (.cond (t 0 6) (.seq (.reg [⟨(some (0,8)),.mv (t 0 0),none,0,[]⟩,⟨(some (0,9)),.nilc (t 0 8),none,0,[]⟩,⟨(some (0,10)),.faddr 3 (t 0 9),none,0,[]⟩,⟨(some (0,4)),.mv (t 0 10),none,0,[]⟩]) .ret) (.seq (.reg [⟨(some (0,12)),.bin .eql (t 0 5) (c 1),none,0,[]⟩,⟨(some (0,11)),.mv (t 0 12),none,0,[]⟩]) (.cond (t 0 11) (.seq (.reg [⟨(some (0,13)),.mv (t 0 0),none,0,[]⟩,⟨(some (0,14)),.nilc (t 0 13),none,0,[]⟩,⟨(some (0,15)),.faddr 4 (t 0 14),none,0,[]⟩,⟨(some (0,4)),.mv (t 0 15),none,0,[]⟩]) .ret) (.seq (.reg [⟨(some (1,1)),.bin .eql (t 0 5) (c 2),none,0,[]⟩,⟨(some (1,0)),.mv (t 1 1),none,0,[]⟩]) (.cond (t 1 0) (.seq (.reg [⟨(some (1,2)),.mv (t 0 0),none,0,[]⟩,⟨(some (1,3)),.nilc (t 1 2),none,0,[]⟩,⟨(some (1,4)),.faddr 5 (t 1 3),none,0,[]⟩,⟨(some (0,4)),.mv (t 1 4),none,0,[]⟩]) .ret) (.seq (.reg [⟨(some (1,6)),.bin .eql (t 0 5) (c 3),none,0,[]⟩,⟨(some (1,5)),.mv (t 1 6),none,0,[]⟩]) (.cond (t 1 5) (.seq (.reg [⟨(some (1,7)),.mv (t 0 0),none,0,[]⟩,⟨(some (1,8)),.nilc (t 1 7),none,0,[]⟩,⟨(some (1,9)),.faddr 6 (t 1 8),none,0,[]⟩,⟨(some (0,4)),.mv (t 1 9),none,0,[]⟩]) .ret) (.seq (.reg [⟨(some (1,11)),.bin .eql (t 0 5) (c 4),none,0,[]⟩,⟨(some (1,10)),.mv (t 1 11),none,0,[]⟩]) (.cond (t 1 10) (.seq (.reg [⟨(some (1,12)),.mv (t 0 0),none,0,[]⟩,⟨(some (1,13)),.nilc (t 1 12),none,0,[]⟩,⟨(some (1,14)),.faddr 7 (t 1 13),none,0,[]⟩,⟨(some (0,4)),.mv (t 1 14),none,0,[]⟩]) .ret) (.seq (.reg [⟨(some (2,0)),.bin .eql (t 0 5) (c 5),none,0,[]⟩,⟨(some (1,15)),.mv (t 2 0),none,0,[]⟩]) (.cond (t 1 15) (.seq (.reg [⟨(some (2,1)),.mv (t 0 0),none,0,[]⟩,⟨(some (2,2)),.nilc (t 2 1),none,0,[]⟩,⟨(some (2,3)),.faddr 8 (t 2 2),none,0,[]⟩,⟨(some (0,4)),.mv (t 2 3),none,0,[]⟩]) .ret) (.seq (.reg [⟨(some (2,5)),.bin .eql (t 0 5) (c 6),none,0,[]⟩,⟨(some (2,4)),.mv (t 2 5),none,0,[]⟩]) (.cond (t 2 4) (.seq (.reg [⟨(some (2,6)),.mv (t 0 0),none,0,[]⟩,⟨(some (2,7)),.nilc (t 2 6),none,0,[]⟩,⟨(some (2,8)),.faddr 9 (t 2 7),none,0,[]⟩,⟨(some (0,4)),.mv (t 2 8),none,0,[]⟩]) .ret) (.seq (.reg [⟨(some (2,10)),.bin .eql (t 0 5) (c 7),none,0,[]⟩,⟨(some (2,9)),.mv (t 2 10),none,0,[]⟩]) (.cond (t 2 9) (.seq (.reg [⟨(some (2,11)),.mv (t 0 0),none,0,[]⟩,⟨(some (2,12)),.nilc (t 2 11),none,0,[]⟩,⟨(some (2,13)),.faddr 10 (t 2 12),none,0,[]⟩,⟨(some (0,4)),.mv (t 2 13),none,0,[]⟩]) .ret) (.seq (.reg [⟨(some (2,15)),.bin .eql (t 0 5) (c 8),none,0,[]⟩,⟨(some (2,14)),.mv (t 2 15),none,0,[]⟩]) (.cond (t 2 14) (.seq (.reg [⟨(some (3,0)),.mv (t 0 0),none,0,[]⟩,⟨(some (3,1)),.nilc (t 3 0),none,0,[]⟩,⟨(some (3,2)),.faddr 11 (t 3 1),none,0,[]⟩,⟨(some (0,4)),.mv (t 3 2),none,0,[]⟩]) .ret) (.seq (.reg [⟨(some (3,4)),.bin .eql (t 0 5) (c 9),none,0,[]⟩,⟨(some (3,3)),.mv (t 3 4),none,0,[]⟩]) (.cond (t 3 3) (.seq (.reg [⟨(some (3,5)),.mv (t 0 0),none,0,[]⟩,⟨(some (3,6)),.nilc (t 3 5),none,0,[]⟩,⟨(some (3,7)),.faddr 12 (t 3 6),none,0,[]⟩,⟨(some (0,4)),.mv (t 3 7),none,0,[]⟩]) .ret) (.seq (.reg [⟨(some (3,9)),.bin .eql (t 0 5) (c 10),none,0,[]⟩,⟨(some (3,8)),.mv (t 3 9),none,0,[]⟩]) (.cond (t 3 8) (.seq (.reg [⟨(some (3,10)),.mv (t 0 0),none,0,[]⟩,⟨(some (3,11)),.nilc (t 3 10),none,0,[]⟩,⟨(some (3,12)),.faddr 13 (t 3 11),none,0,[]⟩,⟨(some (0,4)),.mv (t 3 12),none,0,[]⟩]) .ret) .skip)))))))))))))))))))))))) (.seq (.reg [⟨(some (0,4)),.mv (.c (.one (.npt))),none,0,[]⟩]) .ret)))
def a_message_number : AFunc:=⟨61,2,[.tmp 0 4],b_message_number⟩
theorem i_message_number {P : Program} {fz : Fz} {mu : St} {n : Nat} {k : KT Prop} (fu : Nat) (x0 x1 : AV) : textP P fu a_message_number [x0,x1] fz mu n k = dcode pOrc False (CP P) fz fu b_message_number (tmE 61 (envI [x0,x1])) mu n (endP fz [.tmp 0 4] k):=rfl
def b_message_limits : ACode:=(.seq (.reg [⟨(some (0,4)),.mv (c 0),none,0,[]⟩,⟨(some (0,5)),.mv (c 0),none,0,[]⟩]) (.seq (.blk 0 (.seq (.reg [⟨(some (0,7)),.mv (t 0 1),none,0,[]⟩,⟨(some (0,8)),.bin .eql (t 0 7) (c 8),none,0,[]⟩,⟨(some (0,6)),.mv (t 0 8),none,0,[]⟩]) (.cond (t 0 6) (.seq (.reg [⟨(some (0,4)),.mv (c 0),none,0,[]⟩,⟨(some (0,5)),.mv (c 9),none,0,[]⟩]) .ret) (.seq (.reg [⟨(some (0,10)),.mv (t 0 1),none,0,[]⟩,⟨(some (0,11)),.bin .eql (t 0 10) (c 9),none,0,[]⟩,⟨(some (0,9)),.mv (t 0 11),none,0,[]⟩]) (.cond (t 0 9) (.seq (.reg [⟨(some (0,4)),.mv (c 0),none,0,[]⟩,⟨(some (0,5)),.mv (c 4),none,0,[]⟩]) .ret) (.seq (.reg [⟨(some (0,13)),.mv (t 0 1),none,0,[]⟩,⟨(some (0,14)),.bin .eql (t 0 13) (c 2),none,0,[]⟩,⟨(some (0,15)),.mv (t 0 14),none,0,[]⟩,⟨(some (1,0)),.mv (t 0 0),(some (0,15,true)),0,[]⟩,⟨(some (1,1)),.bin .eql (t 1 0) (c 1),(some (0,15,true)),0,[]⟩,⟨(some (1,2)),.pick (t 0 15) (t 1 1) (.c (.one (.bool false))),none,0,[]⟩,⟨(some (0,12)),.mv (t 1 2),none,0,[]⟩]) (.cond (t 0 12) (.seq (.reg [⟨(some (0,4)),.mv (c (-1)),none,0,[]⟩,⟨(some (0,5)),.mv (c 2147483647),none,0,[]⟩]) .ret) (.seq (.reg [⟨(some (1,4)),.mv (t 0 1),none,0,[]⟩,⟨(some (1,5)),.bin .eql (t 1 4) (c 2),none,0,[]⟩,⟨(some (1,6)),.mv (t 1 5),none,0,[]⟩,⟨(some (1,7)),.mv (t 0 1),(some (1,6,false)),0,[]⟩,⟨(some (1,8)),.bin .eql (t 1 7) (c 10),(some (1,6,false)),0,[]⟩,⟨(some (1,9)),.pick (t 1 6) (.c (.one (.bool true))) (t 1 8),none,0,[]⟩,⟨(some (1,10)),.mv (t 1 9),none,0,[]⟩,⟨(some (1,11)),.mv (t 0 0),(some (1,10,true)),0,[]⟩,⟨(some (1,12)),.bin .eql (t 1 11) (c 2),(some (1,10,true)),0,[]⟩,⟨(some (1,13)),.mv (t 1 12),(some (1,10,true)),0,[]⟩,⟨(some (1,14)),.mv (t 0 0),(some (1,13,false)),0,[]⟩,⟨(some (1,15)),.bin .eql (t 1 14) (c 3),(some (1,13,false)),0,[]⟩,⟨(some (2,0)),.pick (t 1 13) (.c (.one (.bool true))) (t 1 15),(some (1,10,true)),0,[]⟩,⟨(some (2,1)),.pick (t 1 10) (t 2 0) (.c (.one (.bool false))),none,0,[]⟩,⟨(some (1,3)),.mv (t 2 1),none,0,[]⟩]) (.cond (t 1 3) (.seq (.reg [⟨(some (0,4)),.mv (c (-2147483648)),none,0,[]⟩,⟨(some (0,5)),.mv (c 2147483647),none,0,[]⟩]) .ret) .skip))))))))) (.seq (.reg [⟨(some (0,4)),.mv (c 0),none,0,[]⟩,⟨(some (0,5)),.mv (c 2147483647),none,0,[]⟩]) .ret)))
def a_message_limits : AFunc:=⟨34,2,[.tmp 0 4,.tmp 0 5],b_message_limits⟩
theorem i_message_limits {P : Program} {fz : Fz} {mu : St} {n : Nat} {k : KT Prop} (fu : Nat) (x0 x1 : AV) : textP P fu a_message_limits [x0,x1] fz mu n k = dcode pOrc False (CP P) fz fu b_message_limits (tmE 34 (envI [x0,x1])) mu n (endP fz [.tmp 0 4,.tmp 0 5] k):=rfl
def l_point_Name_0 : ACode:=(.seq (.reg [⟨(some (0,15)),.bin .lss (t 0 14) (t 0 13),none,0,[]⟩]) (.seq (.cond (t 0 15) .skip (.exit 0)) (.seq (.blk 1 (.seq (.reg [⟨(some (1,0)),.mv (t 0 14),none,0,[]⟩,⟨(some (0,3)),.mv (t 1 0),none,0,[]⟩]) (.seq (.seq (.reg [⟨(some (1,1)),.mv (t 0 0),none,0,[]⟩,⟨(some (1,2)),.mv (t 0 3),none,0,[]⟩,⟨(some (1,3)),.idx (t 1 1) (t 1 2),none,0,[]⟩,⟨(some (0,4)),.mv (t 1 3),none,0,[]⟩]) (.blk 2 (.seq (.seq (.reg [⟨(some (1,5)),.mv (t 0 4),none,0,[]⟩,⟨(some (1,6)),.bin .geq (t 1 5) (.c (.one (.int .u8 97))),none,0,[]⟩,⟨(some (1,7)),.mv (t 1 6),none,0,[]⟩,⟨(some (1,8)),.mv (t 0 4),(some (1,7,true)),0,[]⟩,⟨(some (1,9)),.bin .leq (t 1 8) (.c (.one (.int .u8 122))),(some (1,7,true)),0,[]⟩,⟨(some (1,10)),.pick (t 1 7) (t 1 9) (.c (.one (.bool false))),none,0,[]⟩,⟨(some (1,4)),.mv (t 1 10),none,0,[]⟩]) (.cond (t 1 4) .skip (.seq (.reg [⟨(some (1,11)),.mv (t 0 4),none,0,[]⟩,⟨(some (1,12)),.bin .geq (t 1 11) (.c (.one (.int .u8 48))),none,0,[]⟩,⟨(some (1,13)),.mv (t 1 12),none,0,[]⟩,⟨(some (1,14)),.mv (t 0 4),(some (1,13,true)),0,[]⟩,⟨(some (1,15)),.bin .leq (t 1 14) (.c (.one (.int .u8 57))),(some (1,13,true)),0,[]⟩,⟨(some (2,0)),.pick (t 1 13) (t 1 15) (.c (.one (.bool false))),none,0,[]⟩,⟨(some (1,4)),.mv (t 2 0),none,0,[]⟩]) (.cond (t 1 4) .skip (.reg [⟨(some (2,1)),.mv (t 0 4),none,0,[]⟩,⟨(some (2,2)),.bin .eql (t 2 1) (.c (.one (.int .u8 95))),none,0,[]⟩,⟨(some (1,4)),.mv (t 2 2),none,0,[]⟩]))))) (.cond (t 1 4) (.exit 1) .skip)))) (.seq (.reg [⟨(some (0,2)),.mv (.c (.one (.bool false))),none,0,[]⟩]) .ret)))) (.reg [⟨(some (2,3)),.bin .add (t 0 14) (c 1),none,0,[]⟩,⟨(some (0,14)),.mv (t 2 3),none,0,[]⟩]))))
def b_point_Name : ACode:=(.seq (.reg [⟨(some (0,2)),.mv (.c (.one (.bool false))),none,0,[]⟩]) (.seq (.seq (.reg [⟨(some (0,5)),.mv (t 0 0),none,0,[]⟩,⟨(some (0,6)),.sbin .eql (t 0 5) (.c (.one (.str 0 0))),none,0,[]⟩,⟨(some (0,7)),.mv (t 0 6),none,0,[]⟩,⟨(some (0,8)),.mv (t 0 0),(some (0,7,false)),0,[]⟩,⟨(some (0,9)),.len true (t 0 8),(some (0,7,false)),0,[]⟩,⟨(some (0,10)),.bin .gtr (t 0 9) (c 12),(some (0,7,false)),0,[]⟩,⟨(some (0,11)),.pick (t 0 7) (.c (.one (.bool true))) (t 0 10),none,0,[]⟩]) (.cond (t 0 11) (.seq (.reg [⟨(some (0,2)),.mv (.c (.one (.bool false))),none,0,[]⟩]) .ret) .skip)) (.seq .skip (.seq (.seq (.reg [⟨(some (0,12)),.mv (t 0 0),none,0,[]⟩,⟨(some (0,13)),.len true (t 0 12),none,0,[]⟩,⟨(some (0,14)),.mv (c 0),none,0,[]⟩]) (.blk 0 (.loop l_point_Name_0))) (.seq (.reg [⟨(some (0,2)),.mv (.c (.one (.bool true))),none,0,[]⟩]) .ret)))))
def a_point_Name : AFunc:=⟨36,1,[.tmp 0 2],b_point_Name⟩
theorem i_point_Name {P : Program} {fz : Fz} {mu : St} {n : Nat} {k : KT Prop} (fu : Nat) (x0 : AV) : textP P fu a_point_Name [x0] fz mu n k = dcode pOrc False (CP P) fz fu b_point_Name (tmE 36 (envI [x0])) mu n (endP fz [.tmp 0 2] k):=rfl
def b_point_Batch : ACode:=(.seq (.reg [⟨(some (0,2)),.mv (.c (.one (.bool false))),none,0,[]⟩]) (.seq (.reg [⟨(some (0,3)),.mv (t 0 0),none,0,[]⟩,⟨(some (0,4)),.len false (t 0 3),none,0,[]⟩,⟨(some (0,5)),.bin .leq (t 0 4) (c 8),none,0,[]⟩,⟨(some (0,6)),.mv (t 0 5),none,0,[]⟩,⟨(some (0,7)),.mv (t 0 0),(some (0,6,true)),0,[]⟩,⟨(some (0,8)),.call (f n_slices_ContainsFunc_api_Point_api_Point) [(t 0 7),(f n_point_Batch_1)],(some (0,6,true)),1,[]⟩,⟨(some (0,9)),.not (t 0 8),(some (0,6,true)),0,[]⟩,⟨(some (0,10)),.pick (t 0 6) (t 0 9) (.c (.one (.bool false))),none,0,[]⟩,⟨(some (0,2)),.mv (t 0 10),none,0,[]⟩]) .ret))
def a_point_Batch : AFunc:=⟨11,1,[.tmp 0 2],b_point_Batch⟩
theorem i_point_Batch {P : Program} {fz : Fz} {mu : St} {n : Nat} {k : KT Prop} (fu : Nat) (x0 : AV) : textP P fu a_point_Batch [x0] fz mu n k = dcode pOrc False (CP P) fz fu b_point_Batch (tmE 11 (envI [x0])) mu n (endP fz [.tmp 0 2] k):=rfl
def l_message_CloneLog_0 : ACode:=(.seq (.reg [⟨(some (0,15)),.bin .lss (t 0 14) (t 0 13),none,0,[]⟩]) (.seq (.cond (t 0 15) .skip (.exit 0)) (.seq (.blk 1 (.seq (.reg [⟨(some (1,0)),.iaddr 5 (t 0 12) (t 0 14),none,0,[]⟩,⟨(some (1,1)),.load true 5 (t 1 0),none,1,[]⟩,⟨(some (0,5)),.alloc [.int .i64 0,.int .i64 0,.int .i64 0,.int .i64 0,.nsl],none,3,[]⟩,⟨none,.store 5 (t 0 5) (t 1 1),none,2,[]⟩]) (.draw [⟨(some (1,2)),.faddr 2 (t 0 3),none,0,[]⟩,⟨(some (1,3)),.load false 1 (t 1 2),none,1,[0]⟩,⟨(some (1,4)),.load true 5 (t 0 5),none,1,[]⟩,⟨(some (1,5)),.call (f n_message_CloneEntry) [(t 1 4)],none,1,[2]⟩,⟨(some (1,6)),.bslice 5 1 [.int .i64 0,.int .i64 0,.int .i64 0,.int .i64 0,.nsl] [(0,5,(t 1 5))],none,3,[3,2]⟩,⟨(some (1,7)),.append 5 56 (t 1 3) (t 1 6),none,2,[1,0,4,3,2]⟩,⟨(some (1,8)),.faddr 2 (t 0 3),none,0,[0,1,2,3,4,5]⟩,⟨none,.store 1 (t 1 8) (t 1 7),none,2,[6,0,1,2,3,4,5]⟩]))) (.reg [⟨(some (1,9)),.bin .add (t 0 14) (c 1),none,0,[]⟩,⟨(some (0,14)),.mv (t 1 9),none,0,[]⟩]))))
def b_message_CloneLog : ACode:=(.seq (.reg [⟨(some (0,1)),.box (t 0 0),none,3,[]⟩,⟨(some (0,2)),.alloc [.int .i64 0,.str 0 0,.nsl],none,3,[]⟩]) (.seq (.reg [⟨(some (0,6)),.faddr 0 (t 0 1),none,0,[]⟩,⟨(some (0,7)),.load false 1 (t 0 6),none,1,[]⟩,⟨(some (0,8)),.faddr 1 (t 0 1),none,0,[]⟩,⟨(some (0,9)),.load false 1 (t 0 8),none,1,[]⟩,⟨(some (0,10)),.build [.int .i64 0,.str 0 0,.nsl] [(0,1,(t 0 7)),(1,1,(t 0 9))],none,0,[]⟩,⟨(some (0,3)),.alloc [.int .i64 0,.str 0 0,.nsl],none,3,[]⟩,⟨none,.store 3 (t 0 3) (t 0 10),none,2,[]⟩]) (.seq (.seq (.reg [⟨(some (0,11)),.faddr 2 (t 0 1),none,0,[]⟩,⟨(some (0,12)),.load false 1 (t 0 11),none,1,[]⟩,⟨(some (0,13)),.len false (t 0 12),none,0,[]⟩,⟨(some (0,14)),.mv (c 0),none,0,[]⟩]) (.blk 0 (.loop l_message_CloneLog_0))) (.seq (.reg [⟨(some (1,10)),.load true 3 (t 0 3),none,1,[]⟩,⟨none,.store 3 (t 0 2) (t 1 10),none,2,[]⟩]) .ret))))
def a_message_CloneLog : AFunc:=⟨27,1,[.cell 0 2 true 3],b_message_CloneLog⟩
theorem i_message_CloneLog {P : Program} {fz : Fz} {mu : St} {n : Nat} {k : KT Prop} (fu : Nat) (x0 : AV) : textP P fu a_message_CloneLog [x0] fz mu n k = dcode pOrc False (CP P) fz fu b_message_CloneLog (tmE 27 (envI [x0])) mu n (endP fz [.cell 0 2 true 3] k):=rfl
def l_message_MayEntry_0 : ACode:=(.seq (.reg [⟨(some (1,0)),.bin .lss (t 0 15) (t 0 14),none,0,[]⟩]) (.seq (.cond (t 1 0) .skip (.exit 0)) (.seq (.blk 1 (.seq (.reg [⟨(some (1,1)),.iaddr 1 (t 0 13) (t 0 15),none,0,[]⟩,⟨(some (1,2)),.load false 1 (t 1 1),none,1,[]⟩,⟨(some (0,4)),.mv (t 1 2),none,0,[]⟩]) (.seq (.reg [⟨(some (1,3)),.mv (t 0 4),none,0,[]⟩,⟨(some (1,4)),.bin .lss (t 1 3) (c 0),none,0,[]⟩,⟨(some (1,5)),.mv (t 1 4),none,0,[]⟩,⟨(some (1,6)),.mv (t 0 4),(some (1,5,false)),0,[]⟩,⟨(some (1,7)),.bin .gtr (t 1 6) (c 2147483647),(some (1,5,false)),0,[]⟩,⟨(some (1,8)),.pick (t 1 5) (.c (.one (.bool true))) (t 1 7),none,0,[]⟩]) (.cond (t 1 8) (.seq (.reg [⟨(some (0,2)),.mv (.c (.one (.bool false))),none,0,[]⟩]) .ret) .skip)))) (.reg [⟨(some (1,9)),.bin .add (t 0 15) (c 1),none,0,[]⟩,⟨(some (0,15)),.mv (t 1 9),none,0,[]⟩]))))
def b_message_MayEntry : ACode:=(.seq (.reg [⟨(some (0,1)),.box (t 0 0),none,3,[]⟩,⟨(some (0,2)),.mv (.c (.one (.bool false))),none,0,[]⟩]) (.seq (.seq (.reg [⟨(some (0,5)),.faddr 0 (t 0 1),none,0,[]⟩,⟨(some (0,6)),.load false 1 (t 0 5),none,1,[]⟩,⟨(some (0,7)),.faddr 1 (t 0 1),none,0,[]⟩,⟨(some (0,8)),.load false 1 (t 0 7),none,1,[]⟩,⟨(some (0,9)),.faddr 2 (t 0 1),none,0,[]⟩,⟨(some (0,10)),.load false 1 (t 0 9),none,1,[]⟩,⟨(some (0,11)),.faddr 3 (t 0 1),none,0,[]⟩,⟨(some (0,12)),.load false 1 (t 0 11),none,1,[]⟩,⟨(some (0,13)),.bslice 1 4 [.int .i64 0] [(0,1,(t 0 6)),(1,1,(t 0 8)),(2,1,(t 0 10)),(3,1,(t 0 12))],none,3,[]⟩,⟨(some (0,14)),.len false (t 0 13),none,0,[]⟩,⟨(some (0,15)),.mv (c 0),none,0,[]⟩]) (.blk 0 (.loop l_message_MayEntry_0))) (.seq (.reg [⟨(some (1,10)),.faddr 4 (t 0 1),none,0,[]⟩,⟨(some (1,11)),.load false 1 (t 1 10),none,1,[]⟩,⟨(some (1,12)),.call (f n_point_Batch) [(t 1 11)],none,1,[]⟩,⟨(some (1,13)),.mv (t 1 12),none,0,[]⟩,⟨(some (1,14)),.faddr 2 (t 0 1),(some (1,13,true)),0,[]⟩,⟨(some (1,15)),.load false 1 (t 1 14),(some (1,13,true)),1,[]⟩,⟨(some (2,0)),.bin .gtr (t 1 15) (c 0),(some (1,13,true)),0,[]⟩,⟨(some (2,1)),.mv (t 2 0),(some (1,13,true)),0,[]⟩,⟨(some (2,2)),.faddr 4 (t 0 1),(some (2,1,false)),0,[]⟩,⟨(some (2,3)),.load false 1 (t 2 2),(some (2,1,false)),1,[]⟩,⟨(some (2,4)),.len false (t 2 3),(some (2,1,false)),0,[]⟩,⟨(some (2,5)),.bin .eql (t 2 4) (c 0),(some (2,1,false)),0,[]⟩,⟨(some (2,6)),.pick (t 2 1) (.c (.one (.bool true))) (t 2 5),(some (1,13,true)),0,[]⟩,⟨(some (2,7)),.pick (t 1 13) (t 2 6) (.c (.one (.bool false))),none,0,[]⟩,⟨(some (0,2)),.mv (t 2 7),none,0,[]⟩]) .ret)))
def a_message_MayEntry : AFunc:=⟨40,1,[.tmp 0 2],b_message_MayEntry⟩
theorem i_message_MayEntry {P : Program} {fz : Fz} {mu : St} {n : Nat} {k : KT Prop} (fu : Nat) (x0 : AV) : textP P fu a_message_MayEntry [x0] fz mu n k = dcode pOrc False (CP P) fz fu b_message_MayEntry (tmE 40 (envI [x0])) mu n (endP fz [.tmp 0 2] k):=rfl
def l_slices_IndexFunc_int_int_0 : ACode:=(.seq (.reg [⟨(some (0,9)),.bin .lss (t 0 8) (t 0 7),none,0,[]⟩]) (.seq (.cond (t 0 9) .skip (.exit 0)) (.seq (.blk 1 (.seq (.reg [⟨(some (0,10)),.mv (t 0 8),none,0,[]⟩,⟨(some (0,5)),.mv (t 0 10),none,0,[]⟩]) (.seq (.reg [⟨(some (0,11)),.mv (t 0 1),none,0,[]⟩,⟨(some (0,12)),.mv (t 0 0),none,0,[]⟩,⟨(some (0,13)),.mv (t 0 5),none,0,[]⟩,⟨(some (0,14)),.iaddr 1 (t 0 12) (t 0 13),none,0,[]⟩,⟨(some (0,15)),.load false 1 (t 0 14),none,1,[]⟩,⟨(some (1,0)),.call (t 0 11) [(t 0 15)],none,1,[]⟩]) (.cond (t 1 0) (.seq (.reg [⟨(some (1,1)),.mv (t 0 5),none,0,[]⟩,⟨(some (0,4)),.mv (t 1 1),none,0,[]⟩]) .ret) .skip)))) (.reg [⟨(some (1,2)),.bin .add (t 0 8) (c 1),none,0,[]⟩,⟨(some (0,8)),.mv (t 1 2),none,0,[]⟩]))))
def b_slices_IndexFunc_int_int : ACode:=(.seq (.reg [⟨(some (0,4)),.mv (c 0),none,0,[]⟩]) (.seq (.seq (.reg [⟨(some (0,6)),.mv (t 0 0),none,0,[]⟩,⟨(some (0,7)),.len false (t 0 6),none,0,[]⟩,⟨(some (0,8)),.mv (c 0),none,0,[]⟩]) (.blk 0 (.loop l_slices_IndexFunc_int_int_0))) (.seq (.reg [⟨(some (0,4)),.mv (c (-1)),none,0,[]⟩]) .ret)))
def a_slices_IndexFunc_int_int : AFunc:=⟨19,2,[.tmp 0 4],b_slices_IndexFunc_int_int⟩
theorem i_slices_IndexFunc_int_int {P : Program} {fz : Fz} {mu : St} {n : Nat} {k : KT Prop} (fu : Nat) (x0 x1 : AV) : textP P fu a_slices_IndexFunc_int_int [x0,x1] fz mu n k = dcode pOrc False (CP P) fz fu b_slices_IndexFunc_int_int (tmE 19 (envI [x0,x1])) mu n (endP fz [.tmp 0 4] k):=rfl
def b_slices_Clone_api_Do_api_Do : ACode:=(.seq (.reg [⟨(some (0,2)),.mv (.c (.one (.nsl))),none,0,[]⟩]) (.seq (.seq (.reg [⟨(some (0,3)),.mv (t 0 0),none,0,[]⟩,⟨(some (0,4)),.eqn true false (t 0 3) (.c (.one (.nsl))),none,0,[]⟩]) (.cond (t 0 4) (.seq (.reg [⟨(some (0,2)),.mv (.c (.one (.nsl))),none,0,[]⟩]) .ret) .skip)) (.seq (.reg [⟨(some (0,5)),.bslice 6 0 [.int .i64 0,.int .i64 0,.int .i64 0,.int .i64 0,.str 0 0,.nsl] [],none,3,[]⟩,⟨(some (0,6)),.mv (t 0 0),none,0,[]⟩,⟨(some (0,7)),.append 6 72 (t 0 5) (t 0 6),none,2,[]⟩,⟨(some (0,2)),.mv (t 0 7),none,0,[]⟩]) .ret)))
def a_slices_Clone_api_Do_api_Do : AFunc:=⟨8,1,[.tmp 0 2],b_slices_Clone_api_Do_api_Do⟩
theorem i_slices_Clone_api_Do_api_Do {P : Program} {fz : Fz} {mu : St} {n : Nat} {k : KT Prop} (fu : Nat) (x0 : AV) : textP P fu a_slices_Clone_api_Do_api_Do [x0] fz mu n k = dcode pOrc False (CP P) fz fu b_slices_Clone_api_Do_api_Do (tmE 8 (envI [x0])) mu n (endP fz [.tmp 0 2] k):=rfl
def b_replica_step_last : ACode:=(.seq (.reg [⟨(some (0,2)),.mv (c 0),none,0,[]⟩]) (.seq (.reg [⟨(some (0,3)),.mv (t 0 0),none,0,[]⟩,⟨(some (0,4)),.nilc (t 0 3),none,0,[]⟩,⟨(some (0,5)),.faddr 0 (t 0 4),none,0,[]⟩,⟨(some (0,6)),.faddr 7 (t 0 5),none,0,[]⟩,⟨(some (0,7)),.load true 3 (t 0 6),none,1,[]⟩,⟨(some (0,8)),.call (f n_choose_Last) [(t 0 7)],none,1,[]⟩,⟨(some (0,2)),.mv (t 0 8),none,0,[]⟩]) .ret))
def a_replica_step_last : AFunc:=⟨9,1,[.tmp 0 2],b_replica_step_last⟩
theorem i_replica_step_last {P : Program} {fz : Fz} {mu : St} {n : Nat} {k : KT Prop} (fu : Nat) (x0 : AV) : textP P fu a_replica_step_last [x0] fz mu n k = dcode pOrc False (CP P) fz fu b_replica_step_last (tmE 9 (envI [x0])) mu n (endP fz [.tmp 0 2] k):=rfl
def b_message_CloneEntry : ACode:=(.seq (.reg [⟨(some (0,1)),.box (t 0 0),none,3,[]⟩,⟨(some (0,2)),.alloc [.int .i64 0,.int .i64 0,.int .i64 0,.int .i64 0,.nsl],none,3,[]⟩]) (.seq (.reg [⟨(some (0,3)),.faddr 4 (t 0 1),none,0,[]⟩,⟨(some (0,4)),.load false 1 (t 0 3),none,1,[]⟩,⟨(some (0,5)),.append 3 32 (.c (.one (.nsl))) (t 0 4),none,2,[]⟩,⟨(some (0,6)),.faddr 4 (t 0 1),none,0,[]⟩,⟨none,.store 1 (t 0 6) (t 0 5),none,2,[]⟩]) (.seq (.reg [⟨(some (0,7)),.load true 5 (t 0 1),none,1,[]⟩,⟨none,.store 5 (t 0 2) (t 0 7),none,2,[]⟩]) .ret)))
def a_message_CloneEntry : AFunc:=⟨8,1,[.cell 0 2 true 5],b_message_CloneEntry⟩
theorem i_message_CloneEntry {P : Program} {fz : Fz} {mu : St} {n : Nat} {k : KT Prop} (fu : Nat) (x0 : AV) : textP P fu a_message_CloneEntry [x0] fz mu n k = dcode pOrc False (CP P) fz fu b_message_CloneEntry (tmE 8 (envI [x0])) mu n (endP fz [.cell 0 2 true 5] k):=rfl
def b_replica_step_leads : ACode:=(.seq (.reg [⟨(some (0,2)),.mv (.c (.one (.bool false))),none,0,[]⟩]) (.seq (.draw [⟨(some (0,3)),.mv (t 0 0),none,0,[]⟩,⟨(some (0,4)),.nilc (t 0 3),none,0,[0]⟩,⟨(some (0,5)),.faddr 0 (t 0 4),none,0,[1,0]⟩,⟨(some (0,6)),.faddr 2 (t 0 5),none,0,[2,1,0]⟩,⟨(some (0,7)),.load false 1 (t 0 6),none,1,[3,2,1,0]⟩,⟨(some (0,8)),.mv (t 0 0),none,0,[]⟩,⟨(some (0,9)),.nilc (t 0 8),none,0,[5]⟩,⟨(some (0,10)),.faddr 0 (t 0 9),none,0,[6,5]⟩,⟨(some (0,11)),.faddr 1 (t 0 10),none,0,[7,6,5]⟩,⟨(some (0,12)),.load false 1 (t 0 11),none,1,[8,7,6,5]⟩,⟨(some (0,13)),.call (f n_replica_Primary) [(t 0 7),(t 0 12)],none,1,[4,3,2,1,0,9,8,7,6,5]⟩,⟨(some (0,14)),.mv (t 0 0),none,0,[]⟩,⟨(some (0,15)),.nilc (t 0 14),none,0,[11]⟩,⟨(some (1,0)),.faddr 0 (t 0 15),none,0,[12,11]⟩,⟨(some (1,1)),.faddr 0 (t 1 0),none,0,[13,12,11]⟩,⟨(some (1,2)),.load false 1 (t 1 1),none,1,[14,13,12,11]⟩,⟨(some (1,3)),.bin .eql (t 0 13) (t 1 2),none,0,[10,4,3,2,1,0,9,8,7,6,5,15,14,13,12,11]⟩,⟨(some (0,2)),.mv (t 1 3),none,0,[16,10,4,3,2,1,0,9,8,7,6,5,15,14,13,12,11]⟩]) .ret))
def a_replica_step_leads : AFunc:=⟨20,1,[.tmp 0 2],b_replica_step_leads⟩
theorem i_replica_step_leads {P : Program} {fz : Fz} {mu : St} {n : Nat} {k : KT Prop} (fu : Nat) (x0 : AV) : textP P fu a_replica_step_leads [x0] fz mu n k = dcode pOrc False (CP P) fz fu b_replica_step_leads (tmE 20 (envI [x0])) mu n (endP fz [.tmp 0 2] k):=rfl
def b_message_Node : ACode:=(.seq (.reg [⟨(some (0,2)),.mv (.c (.one (.bool false))),none,0,[]⟩]) (.seq (.reg [⟨(some (0,3)),.mv (t 0 0),none,0,[]⟩,⟨(some (0,4)),.bin .geq (t 0 3) (c 0),none,0,[]⟩,⟨(some (0,5)),.mv (t 0 4),none,0,[]⟩,⟨(some (0,6)),.mv (t 0 0),(some (0,5,true)),0,[]⟩,⟨(some (0,7)),.bin .lss (t 0 6) (c 7),(some (0,5,true)),0,[]⟩,⟨(some (0,8)),.pick (t 0 5) (t 0 7) (.c (.one (.bool false))),none,0,[]⟩,⟨(some (0,2)),.mv (t 0 8),none,0,[]⟩]) .ret))
def a_message_Node : AFunc:=⟨9,1,[.tmp 0 2],b_message_Node⟩
theorem i_message_Node {P : Program} {fz : Fz} {mu : St} {n : Nat} {k : KT Prop} (fu : Nat) (x0 : AV) : textP P fu a_message_Node [x0] fz mu n k = dcode pOrc False (CP P) fz fu b_message_Node (tmE 9 (envI [x0])) mu n (endP fz [.tmp 0 2] k):=rfl
def b_message_Client : ACode:=(.seq (.reg [⟨(some (0,2)),.mv (.c (.one (.bool false))),none,0,[]⟩]) (.seq (.reg [⟨(some (0,3)),.mv (t 0 0),none,0,[]⟩,⟨(some (0,4)),.bin .geq (t 0 3) (c 100),none,0,[]⟩,⟨(some (0,5)),.mv (t 0 4),none,0,[]⟩,⟨(some (0,6)),.mv (t 0 0),(some (0,5,true)),0,[]⟩,⟨(some (0,7)),.bin .lss (t 0 6) (c 108),(some (0,5,true)),0,[]⟩,⟨(some (0,8)),.pick (t 0 5) (t 0 7) (.c (.one (.bool false))),none,0,[]⟩,⟨(some (0,2)),.mv (t 0 8),none,0,[]⟩]) .ret))
def a_message_Client : AFunc:=⟨9,1,[.tmp 0 2],b_message_Client⟩
theorem i_message_Client {P : Program} {fz : Fz} {mu : St} {n : Nat} {k : KT Prop} (fu : Nat) (x0 : AV) : textP P fu a_message_Client [x0] fz mu n k = dcode pOrc False (CP P) fz fu b_message_Client (tmE 9 (envI [x0])) mu n (endP fz [.tmp 0 2] k):=rfl
def b_slices_ContainsFunc_api_Point_api_Point : ACode:=(.seq (.reg [⟨(some (0,4)),.mv (.c (.one (.bool false))),none,0,[]⟩]) (.seq (.reg [⟨(some (0,5)),.mv (t 0 0),none,0,[]⟩,⟨(some (0,6)),.mv (t 0 1),none,0,[]⟩,⟨(some (0,7)),.call (f n_slices_IndexFunc_api_Point_api_Point) [(t 0 5),(t 0 6)],none,1,[]⟩,⟨(some (0,8)),.bin .geq (t 0 7) (c 0),none,0,[]⟩,⟨(some (0,4)),.mv (t 0 8),none,0,[]⟩]) .ret))
def a_slices_ContainsFunc_api_Point_api_Point : AFunc:=⟨9,2,[.tmp 0 4],b_slices_ContainsFunc_api_Point_api_Point⟩
theorem i_slices_ContainsFunc_api_Point_api_Point {P : Program} {fz : Fz} {mu : St} {n : Nat} {k : KT Prop} (fu : Nat) (x0 x1 : AV) : textP P fu a_slices_ContainsFunc_api_Point_api_Point [x0,x1] fz mu n k = dcode pOrc False (CP P) fz fu b_slices_ContainsFunc_api_Point_api_Point (tmE 9 (envI [x0,x1])) mu n (endP fz [.tmp 0 4] k):=rfl
def b_point_Batch_1 : ACode:=(.seq (.reg [⟨(some (0,1)),.box (t 0 0),none,3,[]⟩,⟨(some (0,2)),.mv (.c (.one (.bool false))),none,0,[]⟩]) (.seq (.reg [⟨(some (0,3)),.load true 3 (t 0 1),none,1,[]⟩,⟨(some (0,4)),.call (f n_point_May) [(t 0 3)],none,1,[]⟩,⟨(some (0,5)),.not (t 0 4),none,0,[]⟩,⟨(some (0,2)),.mv (t 0 5),none,0,[]⟩]) .ret))
def a_point_Batch_1 : AFunc:=⟨6,1,[.tmp 0 2],b_point_Batch_1⟩
theorem i_point_Batch_1 {P : Program} {fz : Fz} {mu : St} {n : Nat} {k : KT Prop} (fu : Nat) (x0 : AV) : textP P fu a_point_Batch_1 [x0] fz mu n k = dcode pOrc False (CP P) fz fu b_point_Batch_1 (tmE 6 (envI [x0])) mu n (endP fz [.tmp 0 2] k):=rfl
def b_point_May : ACode:=(.seq (.reg [⟨(some (0,1)),.box (t 0 0),none,3,[]⟩,⟨(some (0,2)),.mv (.c (.one (.bool false))),none,0,[]⟩]) (.seq (.reg [⟨(some (0,3)),.faddr 0 (t 0 1),none,0,[]⟩,⟨(some (0,4)),.load false 1 (t 0 3),none,1,[]⟩,⟨(some (0,5)),.call (f n_point_Name) [(t 0 4)],none,1,[]⟩,⟨(some (0,6)),.mv (t 0 5),none,0,[]⟩,⟨(some (0,7)),.faddr 1 (t 0 1),(some (0,6,true)),0,[]⟩,⟨(some (0,8)),.load false 1 (t 0 7),(some (0,6,true)),1,[]⟩,⟨(some (0,9)),.call (f n_point_Small) [(t 0 8)],(some (0,6,true)),1,[]⟩,⟨(some (0,10)),.pick (t 0 6) (t 0 9) (.c (.one (.bool false))),none,0,[]⟩,⟨(some (0,11)),.mv (t 0 10),none,0,[]⟩,⟨(some (0,12)),.faddr 2 (t 0 1),(some (0,11,true)),0,[]⟩,⟨(some (0,13)),.load false 1 (t 0 12),(some (0,11,true)),1,[]⟩,⟨(some (0,14)),.call (f n_point_Small) [(t 0 13)],(some (0,11,true)),1,[]⟩,⟨(some (0,15)),.pick (t 0 11) (t 0 14) (.c (.one (.bool false))),none,0,[]⟩,⟨(some (0,2)),.mv (t 0 15),none,0,[]⟩]) .ret))
def a_point_May : AFunc:=⟨16,1,[.tmp 0 2],b_point_May⟩
theorem i_point_May {P : Program} {fz : Fz} {mu : St} {n : Nat} {k : KT Prop} (fu : Nat) (x0 : AV) : textP P fu a_point_May [x0] fz mu n k = dcode pOrc False (CP P) fz fu b_point_May (tmE 16 (envI [x0])) mu n (endP fz [.tmp 0 2] k):=rfl
def l_slices_IndexFunc_api_Point_api_Point_0 : ACode:=(.seq (.reg [⟨(some (0,9)),.bin .lss (t 0 8) (t 0 7),none,0,[]⟩]) (.seq (.cond (t 0 9) .skip (.exit 0)) (.seq (.blk 1 (.seq (.reg [⟨(some (0,10)),.mv (t 0 8),none,0,[]⟩,⟨(some (0,5)),.mv (t 0 10),none,0,[]⟩]) (.seq (.reg [⟨(some (0,11)),.mv (t 0 1),none,0,[]⟩,⟨(some (0,12)),.mv (t 0 0),none,0,[]⟩,⟨(some (0,13)),.mv (t 0 5),none,0,[]⟩,⟨(some (0,14)),.iaddr 3 (t 0 12) (t 0 13),none,0,[]⟩,⟨(some (0,15)),.load true 3 (t 0 14),none,1,[]⟩,⟨(some (1,0)),.call (t 0 11) [(t 0 15)],none,1,[]⟩]) (.cond (t 1 0) (.seq (.reg [⟨(some (1,1)),.mv (t 0 5),none,0,[]⟩,⟨(some (0,4)),.mv (t 1 1),none,0,[]⟩]) .ret) .skip)))) (.reg [⟨(some (1,2)),.bin .add (t 0 8) (c 1),none,0,[]⟩,⟨(some (0,8)),.mv (t 1 2),none,0,[]⟩]))))
def b_slices_IndexFunc_api_Point_api_Point : ACode:=(.seq (.reg [⟨(some (0,4)),.mv (c 0),none,0,[]⟩]) (.seq (.seq (.reg [⟨(some (0,6)),.mv (t 0 0),none,0,[]⟩,⟨(some (0,7)),.len false (t 0 6),none,0,[]⟩,⟨(some (0,8)),.mv (c 0),none,0,[]⟩]) (.blk 0 (.loop l_slices_IndexFunc_api_Point_api_Point_0))) (.seq (.reg [⟨(some (0,4)),.mv (c (-1)),none,0,[]⟩]) .ret)))
def a_slices_IndexFunc_api_Point_api_Point : AFunc:=⟨19,2,[.tmp 0 4],b_slices_IndexFunc_api_Point_api_Point⟩
theorem i_slices_IndexFunc_api_Point_api_Point {P : Program} {fz : Fz} {mu : St} {n : Nat} {k : KT Prop} (fu : Nat) (x0 x1 : AV) : textP P fu a_slices_IndexFunc_api_Point_api_Point [x0,x1] fz mu n k = dcode pOrc False (CP P) fz fu b_slices_IndexFunc_api_Point_api_Point (tmE 19 (envI [x0,x1])) mu n (endP fz [.tmp 0 4] k):=rfl
def b_point_Small : ACode:=(.seq (.reg [⟨(some (0,2)),.mv (.c (.one (.bool false))),none,0,[]⟩]) (.seq (.reg [⟨(some (0,3)),.mv (t 0 0),none,0,[]⟩,⟨(some (0,4)),.mv (t 0 0),none,0,[]⟩,⟨(some (0,5)),.conv .i32 (t 0 4),none,0,[]⟩,⟨(some (0,6)),.conv .i64 (t 0 5),none,0,[]⟩,⟨(some (0,7)),.bin .eql (t 0 3) (t 0 6),none,0,[]⟩,⟨(some (0,2)),.mv (t 0 7),none,0,[]⟩]) .ret))
def a_point_Small : AFunc:=⟨8,1,[.tmp 0 2],b_point_Small⟩
theorem i_point_Small {P : Program} {fz : Fz} {mu : St} {n : Nat} {k : KT Prop} (fu : Nat) (x0 : AV) : textP P fu a_point_Small [x0] fz mu n k = dcode pOrc False (CP P) fz fu b_point_Small (tmE 8 (envI [x0])) mu n (endP fz [.tmp 0 2] k):=rfl
structure Fs (P : Program) : Prop where
  mx : P.follows .mixedOrders = true
  law17_ReplicaAcks : FOk P n_law17_ReplicaAcks a_law17_ReplicaAcks
  replica_New : FOk P n_replica_New a_replica_New
  replica_May : FOk P n_replica_May a_replica_May
  replica_Primary : FOk P n_replica_Primary a_replica_Primary
  replica_Committed : FOk P n_replica_Committed a_replica_Committed
  law17_fresh : FOk P n_law17_fresh a_law17_fresh
  replica_Receive : FOk P n_replica_Receive a_replica_Receive
  message_May : FOk P n_message_May a_message_May
  choose_Last : FOk P n_choose_Last a_choose_Last
  repair_Nodes : FOk P n_repair_Nodes a_repair_Nodes
  replica_within : FOk P n_replica_within a_replica_within
  message_MayLog : FOk P n_message_MayLog a_message_MayLog
  slices_ContainsFunc_int_int : FOk P n_slices_ContainsFunc_int_int a_slices_ContainsFunc_int_int
  replica_May_1 : FOk P n_replica_May_1 a_replica_May_1
  replica_Clone : FOk P n_replica_Clone a_replica_Clone
  replica_begin : FOk P n_replica_begin a_replica_begin
  replica_step_acked : FOk P n_replica_step_acked a_replica_step_acked
  replica_step_normal : FOk P n_replica_step_normal a_replica_step_normal
  replica_step_end : FOk P n_replica_step_end a_replica_step_end
  slices_Clone_int_int : FOk P n_slices_Clone_int_int a_slices_Clone_int_int
  message_fields : FOk P n_message_fields a_message_fields
  message_who : FOk P n_message_who a_message_who
  message_number : FOk P n_message_number a_message_number
  message_limits : FOk P n_message_limits a_message_limits
  point_Name : FOk P n_point_Name a_point_Name
  point_Batch : FOk P n_point_Batch a_point_Batch
  message_CloneLog : FOk P n_message_CloneLog a_message_CloneLog
  message_MayEntry : FOk P n_message_MayEntry a_message_MayEntry
  slices_IndexFunc_int_int : FOk P n_slices_IndexFunc_int_int a_slices_IndexFunc_int_int
  slices_Clone_api_Do_api_Do : FOk P n_slices_Clone_api_Do_api_Do a_slices_Clone_api_Do_api_Do
  replica_step_last : FOk P n_replica_step_last a_replica_step_last
  message_CloneEntry : FOk P n_message_CloneEntry a_message_CloneEntry
  replica_step_leads : FOk P n_replica_step_leads a_replica_step_leads
  message_Node : FOk P n_message_Node a_message_Node
  message_Client : FOk P n_message_Client a_message_Client
  slices_ContainsFunc_api_Point_api_Point : FOk P n_slices_ContainsFunc_api_Point_api_Point a_slices_ContainsFunc_api_Point_api_Point
  point_Batch_1 : FOk P n_point_Batch_1 a_point_Batch_1
  point_May : FOk P n_point_May a_point_May
  slices_IndexFunc_api_Point_api_Point : FOk P n_slices_IndexFunc_api_Point_api_Point a_slices_IndexFunc_api_Point_api_Point
  point_Small : FOk P n_point_Small a_point_Small
end Go.Proofs.Ytnnjlnkoomeadaa.Pv
namespace Go.Ev.Rp
open Go.Ev
structure Tx where
  l : Nat
  n : Nat
  wf : n < 256 ^ l
  deriving DecidableEq
abbrev Tx.sv (t : Tx) : SV:=.str t.l t.n
structure Pt where
  series : Tx
  time : Int
  value : Int
  deriving DecidableEq
structure Ent where
  view : Int
  client : Int
  session : Int
  number : Int
  batch : List Pt
  deriving DecidableEq
structure Lg where
  base : Int
  snap : Tx
  ents : List Ent
  deriving DecidableEq
structure Dv where
  frm : Int
  normal : Int
  commit : Int
  log : Lg
  deriving DecidableEq
structure Rep where
  me : Int
  nodes : Int
  view : Int
  normal : Int
  status : Int
  commit : Int
  sent : Bool
  log : Lg
  acks : List Int
  starts : List Int
  dos : List Dv
  deriving DecidableEq
structure Msg where
  kind : Int
  frm : Int
  to : Int
  view : Int
  normal : Int
  at' : Int
  commit : Int
  round : Int
  client : Int
  session : Int
  number : Int
  code : Int
  agg : Int
  until' : Int
  series : Tx
  batch : List Pt
  log : Lg
  text : Tx
  deriving DecidableEq
structure Rd where
  round : Int
  at' : Int
  client : Int
  agreed : List Int
  msg : Msg
  deriving DecidableEq
abbrev I (n : Int) : SV:=.int .i64 n
def ptC (p : Pt) : List SV:=[p.series.sv,I p.time,I p.value]
def intC (n : Int) : List SV:=[I n]
def PtsR (M : Fz) (x : SV) (l : List Pt) : Prop:=Sl M 3 x (l.map ptC)
def IntsR (M : Fz) (x : SV) (l : List Int) : Prop:=Sl M 1 x (l.map intC)
def entC (e : Ent) (b : SV) : List SV:=[I e.view,I e.client,I e.session,I e.number,b]
def EntR (M : Fz) (c : List SV) (e : Ent) : Prop:=∃ b,c = entC e b ∧ PtsR M b e.batch
def EntsR (M : Fz) (x : SV) (l : List Ent) : Prop:=∃ cs,Sl M 5 x cs ∧ All2 (EntR M) cs l
def lgC (l : Lg) (x : SV) : List SV:=[I l.base,l.snap.sv,x]
def LgR (M : Fz) (c : List SV) (l : Lg) : Prop:=∃ x,c = lgC l x ∧ EntsR M x l.ents
def dvC (d : Dv) (x : SV) : List SV:=[I d.frm,I d.normal,I d.commit,I d.log.base,d.log.snap.sv,x]
def DvR (M : Fz) (c : List SV) (d : Dv) : Prop:=∃ x,c = dvC d x ∧ EntsR M x d.log.ents
def DvsR (M : Fz) (x : SV) (l : List Dv) : Prop:=∃ cs,Sl M 6 x cs ∧ All2 (DvR M) cs l
def repC (r : Rep) (xe xa xs xd : SV) : List SV :=
  [I r.me,I r.nodes,I r.view,I r.normal,I r.status,I r.commit,.bool r.sent,I r.log.base,r.log.snap.sv,xe,xa,xs,xd]
def RepR (M : Fz) (c : List SV) (r : Rep) : Prop:=∃ xe xa xs xd,c = repC r xe xa xs xd ∧ EntsR M xe r.log.ents ∧ IntsR M xa r.acks ∧ IntsR M xs r.starts ∧ DvsR M xd r.dos
def msgC (m : Msg) (xb xe : SV) : List SV :=
  [I m.kind,I m.frm,I m.to,I m.view,I m.normal,I m.at',I m.commit,I m.round,I m.client,I m.session,I m.number,I m.code,I m.agg,I m.until',m.series.sv,xb,I m.log.base,m.log.snap.sv,xe,m.text.sv]
def MsgR (M : Fz) (c : List SV) (m : Msg) : Prop:=∃ xb xe,c = msgC m xb xe ∧ PtsR M xb m.batch ∧ EntsR M xe m.log.ents
def MsgsR (M : Fz) (x : SV) (l : List Msg) : Prop:=∃ cs,Sl M 20 x cs ∧ All2 (MsgR M) cs l
def RdR (M : Fz) (c : List SV) (x : Rd) : Prop:=∃ xa cm,c = [I x.round,I x.at',I x.client,xa] ++ cm ∧ IntsR M xa x.agreed ∧ MsgR M cm x.msg
section
variable {M M' : Fz} (hm : ∀ id B,M id = some B → M' id = some B)
include hm
theorem PtsR.mono {x : SV} {l : List Pt} (h : PtsR M x l) : PtsR M' x l:=Sl.mono h hm
theorem IntsR.mono {x : SV} {l : List Int} (h : IntsR M x l) : IntsR M' x l:=Sl.mono h hm
theorem EntR.mono {c : List SV} {e : Ent} (h : EntR M c e) : EntR M' c e:=let ⟨b,h1,h2⟩:=h; ⟨b,h1,PtsR.mono hm h2⟩
theorem EntsR.mono {x : SV} {l : List Ent} (h : EntsR M x l) : EntsR M' x l:=let ⟨cs,h1,h2⟩:=h; ⟨cs,h1.mono hm,h2.imp λ_ _ h=>EntR.mono hm h⟩
theorem LgR.mono {c : List SV} {l : Lg} (h : LgR M c l) : LgR M' c l:=let ⟨x,h1,h2⟩:=h; ⟨x,h1,EntsR.mono hm h2⟩
theorem DvR.mono {c : List SV} {d : Dv} (h : DvR M c d) : DvR M' c d:=let ⟨x,h1,h2⟩:=h; ⟨x,h1,EntsR.mono hm h2⟩
theorem DvsR.mono {x : SV} {l : List Dv} (h : DvsR M x l) : DvsR M' x l:=let ⟨cs,h1,h2⟩:=h; ⟨cs,h1.mono hm,h2.imp λ_ _ h=>DvR.mono hm h⟩
theorem RepR.mono {c : List SV} {r : Rep} (h : RepR M c r) : RepR M' c r:=let ⟨xe,xa,xs,xd,h1,h2,h3,h4,h5⟩:=h; ⟨xe,xa,xs,xd,h1,EntsR.mono hm h2,IntsR.mono hm h3,IntsR.mono hm h4,DvsR.mono hm h5⟩
theorem MsgR.mono {c : List SV} {m : Msg} (h : MsgR M c m) : MsgR M' c m:=let ⟨xb,xe,h1,h2,h3⟩:=h; ⟨xb,xe,h1,PtsR.mono hm h2,EntsR.mono hm h3⟩
theorem MsgsR.mono {x : SV} {l : List Msg} (h : MsgsR M x l) : MsgsR M' x l:=let ⟨cs,h1,h2⟩:=h; ⟨cs,h1.mono hm,h2.imp λ_ _ h=>MsgR.mono hm h⟩
theorem RdR.mono {c : List SV} {x : Rd} (h : RdR M c x) : RdR M' c x:=let ⟨xa,cm,h1,h2,h3⟩:=h; ⟨xa,cm,h1,IntsR.mono hm h2,MsgR.mono hm h3⟩
end
theorem PtsR.elem {M : Fz} {x : SV} {l : List Pt} (h : PtsR M x l) {i : Nat} (hi : i < l.length) : ∃ id off cap B,x = .osl id off l.length cap 3 ∧ M id = some B ∧ mkd B = false ∧ off + i * 3 + 3 ≤ B.length ∧ (B.drop (off + i * 3)).take 3 = ptC l[i]:=by
  obtain ⟨id,off,cap,B,h1,h2,h3,h4,h5⟩:=Sl.elem h (i:=i) (by simpa using hi)
  exact ⟨id,off,cap,B,by simpa using h1,h2,h3,h4,by simpa using h5⟩
theorem IntsR.elem {M : Fz} {x : SV} {l : List Int} (h : IntsR M x l) {i : Nat} (hi : i < l.length) : ∃ id off cap B,x = .osl id off l.length cap 1 ∧ M id = some B ∧ mkd B = false ∧ off + i * 1 + 1 ≤ B.length ∧ (B.drop (off + i * 1)).take 1 = [I l[i]]:=by
  obtain ⟨id,off,cap,B,h1,h2,h3,h4,h5⟩:=Sl.elem h (i:=i) (by simpa using hi)
  exact ⟨id,off,cap,B,by simpa using h1,h2,h3,h4,by simpa [intC] using h5⟩
theorem EntsR.elem {M : Fz} {x : SV} {l : List Ent} (h : EntsR M x l) {i : Nat} (hi : i < l.length) : ∃ id off cap B b,x = .osl id off l.length cap 5 ∧ M id = some B ∧ mkd B = false ∧ off + i * 5 + 5 ≤ B.length ∧ (B.drop (off + i * 5)).take 5 = entC l[i] b ∧ PtsR M b l[i].batch:=by
  obtain ⟨cs,h1,h2⟩:=h
  have hl:=h2.length
  obtain ⟨id,off,cap,B,g1,g2,g3,g4,g5⟩:=h1.elem (i:=i) (by omega)
  obtain ⟨b,e1,e2⟩:=h2.at (i:=i) (by omega) hi
  exact ⟨id,off,cap,B,b,by rw [← hl]; exact g1,g2,g3,g4,by rw [g5,e1],e2⟩
theorem DvsR.elem {M : Fz} {x : SV} {l : List Dv} (h : DvsR M x l) {i : Nat} (hi : i < l.length) : ∃ id off cap B b,x = .osl id off l.length cap 6 ∧ M id = some B ∧ mkd B = false ∧ off + i * 6 + 6 ≤ B.length ∧ (B.drop (off + i * 6)).take 6 = dvC l[i] b ∧ EntsR M b l[i].log.ents:=by
  obtain ⟨cs,h1,h2⟩:=h
  have hl:=h2.length
  obtain ⟨id,off,cap,B,g1,g2,g3,g4,g5⟩:=h1.elem (i:=i) (by omega)
  obtain ⟨b,e1,e2⟩:=h2.at (i:=i) (by omega) hi
  exact ⟨id,off,cap,B,b,by rw [← hl]; exact g1,g2,g3,g4,by rw [g5,e1],e2⟩
theorem PtsR.len {M : Fz} {x : SV} {l : List Pt} (h : PtsR M x l) : (∀ k,onLen x k = k l.length) ∧ x.isStr = false ∧ x.known = true ∧ x.isMk = false :=
  ⟨λk=>by have:=(Sl.len h (k:=k)).1; simpa using this,(Sl.len h (k:=λ_=>True)).2,(Sl.known h).1,(Sl.known h).2⟩
theorem IntsR.len {M : Fz} {x : SV} {l : List Int} (h : IntsR M x l) : (∀ k,onLen x k = k l.length) ∧ x.isStr = false ∧ x.known = true ∧ x.isMk = false :=
  ⟨λk=>by have:=(Sl.len h (k:=k)).1; simpa using this,(Sl.len h (k:=λ_=>True)).2,(Sl.known h).1,(Sl.known h).2⟩
theorem EntsR.len {M : Fz} {x : SV} {l : List Ent} (h : EntsR M x l) : (∀ k,onLen x k = k l.length) ∧ x.isStr = false ∧ x.known = true ∧ x.isMk = false:=by
  obtain ⟨cs,h1,h2⟩:=h
  exact ⟨λk=>by have:=(Sl.len h1 (k:=k)).1; rw [h2.length] at this; exact this,(Sl.len h1 (k:=λ_=>True)).2,(Sl.known h1).1,(Sl.known h1).2⟩
theorem DvsR.len {M : Fz} {x : SV} {l : List Dv} (h : DvsR M x l) : (∀ k,onLen x k = k l.length) ∧ x.isStr = false ∧ x.known = true ∧ x.isMk = false:=by
  obtain ⟨cs,h1,h2⟩:=h
  exact ⟨λk=>by have:=(Sl.len h1 (k:=k)).1; rw [h2.length] at this; exact this,(Sl.len h1 (k:=λ_=>True)).2,(Sl.known h1).1,(Sl.known h1).2⟩
def okByte (b : Nat) : Bool:=decide (97 ≤ b) && decide (b ≤ 122) || decide (48 ≤ b) && decide (b ≤ 57) || decide (b = 95)
def byteAt (l n i : Nat) : Nat:=n / 256 ^ (l - 1 - i) % 256
def nameB (t : Tx) : Bool:=decide (1 ≤ t.l) && decide (t.l ≤ 12) && (List.range t.l).all λi=>okByte (byteAt t.l t.n i)
def smallB (x : Int) : Bool:=decide (-2147483648 ≤ x) && decide (x ≤ 2147483647)
def countB (x : Int) : Bool:=decide (0 ≤ x) && decide (x ≤ 2147483647)
def ptB (p : Pt) : Bool:=nameB p.series && smallB p.time && smallB p.value
def batchB (l : List Pt) : Bool:=decide (l.length ≤ 8) && l.all ptB
def entB (e : Ent) : Bool:=countB e.view && countB e.client && countB e.session && countB e.number && batchB e.batch && (decide (0 < e.session) || decide (e.batch.length = 0))
def lgB (l : Lg) : Bool:=countB l.base && decide (l.snap.l ≤ 65536) && (decide (l.base ≠ 0) || decide (l.snap.l = 0)) && decide (l.ents.length ≤ 4096) && l.ents.all entB
def last (l : Lg) : Int:=IntKind.i64.wrap (l.base + l.ents.length)
def nodesB (k : Int) : Bool:=decide (k = 1) || decide (k = 3) || decide (k = 5) || decide (k = 7)
def risesB (me k : Int) : Int → List Int → Bool
  | _,[]=>true
  | p,x :: l=>decide (p < x) && decide (x < k) && decide (x ≠ me) && risesB me k x l
def dosB (r : Rep) : Bool:=r.dos.all λd=>lgB d.log && decide (0 ≤ d.normal) && decide (d.normal < r.view) && decide (0 ≤ d.commit)
def repB (r : Rep) : Bool :=
  nodesB r.nodes && decide (0 ≤ r.me) && decide (r.me < r.nodes) && decide (0 ≤ r.status) && decide (r.status ≤ 2) && countB r.view && countB r.normal && countB r.commit &&
  decide (r.normal ≤ r.view) && (decide (r.status ≠ 0) || decide (r.normal = r.view)) && lgB r.log && decide (r.log.base ≤ r.commit) && decide (r.commit ≤ last r.log) &&
  decide ((r.acks.length : Int) = r.nodes) && r.acks.all countB && (decide (r.status = 1) || decide (r.starts.length = 0) && decide (r.dos.length = 0) && !r.sent) &&
  risesB r.me r.nodes (-1) r.starts && risesB r.me r.nodes (-1) (r.dos.map (·.frm)) && dosB r
end Go.Ev.Rp
namespace Go.Proofs.Ytnnjlnkoomeadaa.Pv
open Go.Ev Go.Ev.Rp
set_option maxRecDepth 100000
set_option linter.unusedSimpArgs false
set_option linter.unusedVariables false
set_option linter.unusedSectionVars false
theorem small_eq (x : Int) : decide (x = IntKind.i64.wrap (IntKind.i32.wrap x)) = smallB x:=by
  unfold smallB
  have h1 : IntKind.i32.wrap x = (x + 2147483648) % 4294967296 - 2147483648:=by simp [IntKind.wrap,IntKind.bits,IntKind.signed]; omega
  have h2 : IntKind.i64.wrap (IntKind.i32.wrap x) = IntKind.i32.wrap x:=wrap64 (by rw [h1]; omega) (by rw [h1]; omega)
  rw [h2,h1,Bool.eq_iff_iff]
  simp; omega
abbrev BoolC (P : Program) (f : Nat) (args : List AV) (pre : Fz → Prop) (b : Bool) : Prop:=Ctr P f args pre λ_ _ _ v=>v = .one (.bool b)
theorem boolC {P : Program} {f : Nat} {af : AFunc} {args : List AV} {pre : Fz → Prop} {b : Bool} (hmx : P.follows .mixedOrders = true) (hf : FOk P f af) (fu : Nat) (h : ∀ fz mu n k,Free fz mu n → Gr n fz mu mu n n → pre (with' mu fz) → (∀ mu' n',Gr n fz mu mu' n n' → k (.one (.bool b)) mu' n') → textP P fu af args fz mu n k) : BoolC P f args pre b :=
  Ctr.of hmx hf (λ_=>fu) λfz mu n k h1 h2 h3=>h fz mu n k h1 (Gr.refl h1) h2 λmu' n' g=>h3 _ mu' n' g rfl
theorem ok_byte (b : Nat) : okByte b = (decide ((97 : Int) ≤ b) && decide ((b : Int) ≤ 122) || (decide ((48 : Int) ≤ b) && decide ((b : Int) ≤ 57) || decide ((b : Int) = 95))):=by
  unfold okByte
  rw [Bool.eq_iff_iff]; simp; omega
theorem tx_empty (t : Tx) : strEq t.l t.n 0 0 = decide (t.l = 0):=by
  rw [Bool.eq_iff_iff,strEq_iff,decide_eq_true_iff]
  refine ⟨λh=>h.1,λh=>⟨h,?_⟩⟩
  have:=t.wf
  rw [h] at this; simpa using this
theorem nodes_eq (b : Int) : nodesB b = (decide (1 ≤ b) && decide (b ≤ 7) && decide (b.tmod 2 = 1)):=by
  unfold nodesB
  rw [Bool.eq_iff_iff]
  simp only [Bool.or_eq_true,Bool.and_eq_true,decide_eq_true_eq]
  constructor
  · rintro (((rfl | rfl) | rfl) | rfl) <;> decide
  · rintro ⟨⟨h1,h2⟩,h3⟩
    rw [Int.tmod_eq_emod_of_nonneg (by omega)] at h3; omega
def meB (a b : Int) : Bool:=nodesB b && decide (0 ≤ a) && decide (a < b)
variable {P : Program} (H : Fs P)
include H
theorem point_Small (x : Int) : BoolC P n_point_Small [.one (I x)] (λ_=>True) (smallB x):=boolC H.mx H.point_Small 0 λfz mu n k hfr g0 _ h=>by
  rw [i_point_Small,dc_at b_point_Small.eq_1]
  simp only [↓E1,E2,zA,zB,zC,zD,zE,zF,zG,zH,zI,zJ,zK,zL,zM,zN,reduceIte,zO,zP,small_eq]
  exact h _ _ g0
theorem point_Name (t : Tx) : BoolC P n_point_Name [.one t.sv] (λ_=>True) (nameB t):=boolC H.mx H.point_Name 14 λfz mu n k hfr g0 _ h=>by
  rw [i_point_Name,dc_at b_point_Name.eq_1]
  simp only [↓E1,E2,zA,zB,zC,zD,zE,zF,zG,zH,zI,zJ,zK,zL,zM,zN,reduceIte,zO,zP,tx_empty]
  repeat' (refine Br_intro (λhb=>?_) (λhb=>?_) <;> simp only [↓E1,E2,zA,zB,zC,zD,zE,zF,zG,zH,zI,zJ,zK,zL,zM,zN,reduceIte,zO,zP,hb])
  · have e : nameB t = false := by
      unfold nameB; simp at hb; simp [hb]
    rw [← e]; exact h _ _ g0
  · have e : nameB t = false := by
      unfold nameB; simp at hb
      have : ¬ t.l ≤ 12:=by omega
      simp [this]
    rw [← e]; exact h _ _ g0
  · rename_i hb0
    have hl : t.l ≤ 12:=by simp at hb; omega
    have hl1 : 1 ≤ t.l:=by simp at hb0; omega
    refine scan (x:=0) (L:=t.l) (q:=0) (r:=14) (p:=λi=>okByte (byteAt t.l t.n i)) (λe mu n=>Free fz mu n ∧ e 0 0 = .one t.sv ∧ e 0 13 = .one (.int .i64 t.l)) (λe=>e 0 2 = .one (.bool false)) (λ_ _ _ h=>h.1) ?_ ?_ t.l 0 14 _ mu n _ _ (by omega) (by omega) (by omega) ⟨hfr,?_,?_⟩ ?_ ?_ ?_
    · rintro i e mu n K hi ⟨hf,h0,h13⟩ hc hy hn
      rw [dc_at l_point_Name_0.eq_1]
      have hw:=wrap_succ hi (by omega)
      obtain ⟨b,hbe⟩ : ∃ b,t.n / 256 ^ (t.l - 1 - i) % 256 = b:=⟨_,rfl⟩
      rw [show byteAt t.l t.n i = b from hbe,ok_byte] at hy hn
      simp only [↓E1,E2,zA,zB,zC,zD,zE,zF,zG,zH,zI,zJ,zK,zL,zM,zN,reduceIte,zO,zP,h0,h13,hc,hi,hbe]
      repeat' (refine Br_intro (λhb=>?_) (λhb=>?_) <;> simp only [↓E1,E2,zA,zB,zC,zD,zE,zF,zG,zH,zI,zJ,zK,zL,zM,zN,reduceIte,zO,zP,hb,hc,hw,hbe])
      all_goals first
        | (refine hn (by simp only [↓E1,E2,zA,zB,zC,zD,zE,zF,zG,zH,zI,zJ,zK,zL,zM,zN,reduceIte,zO,zP, *]) _ _ _ (Gr.refl hf) ?_; simp [updN,updE]; done)
        | (refine hy (by simp only [↓E1,E2,zA,zB,zC,zD,zE,zF,zG,zH,zI,zJ,zK,zL,zM,zN,reduceIte,zO,zP, *]) _ _ _ (Gr.refl hf) ⟨hf,?_,?_⟩ ?_ <;> simp [updN,updE,h0,h13]; done)
    · rintro e mu n K ⟨hf,h0,h13⟩ hc hx
      rw [dc_at l_point_Name_0.eq_1]
      have hlt : (t.l < t.l) = False:=by simp
      simp only [↓E1,E2,zA,zB,zC,zD,zE,zF,zG,zH,zI,zJ,zK,zL,zM,zN,reduceIte,zO,zP,h0,h13,hc,hlt]
      exact hx _ _ _ (Gr.refl hf) ⟨hf,by simp [updN,updE,h0],by simp [updN,updE,h13]⟩
    · simp [updN,updE,envI]
    · simp [updN,updE]
    · simp [updN,updE]
    · intro ha e' mu' n' g hI
      simp only [↓E1,E2,zA,zB,zC,zD,zE,zF,zG,zH,zI,zJ,zK,zL,zM,zN,reduceIte,zO,zP]
      have e : nameB t = true:=by
        unfold nameB; simp [hl,hl1,all_range ha]
      rw [← e]; exact h _ _ g
    · intro hx e' mu' n' g hR
      simp only [↓E1,E2,zA,zB,zC,zD,zE,zF,zG,zH,zI,zJ,zK,zL,zM,zN,reduceIte,zO,zP,hR]
      have e : nameB t = false:=by
        unfold nameB; rw [not_all_range hx]; simp
      rw [← e]; exact h _ _ g
theorem message_Node (x : Int) : BoolC P n_message_Node [.one (I x)] (λ_=>True) (decide (0 ≤ x) && decide (x < 7)):=boolC H.mx H.message_Node 0 λfz mu n k hfr g0 _ h=>by
  rw [i_message_Node,dc_at b_message_Node.eq_1]
  simp only [↓E1,E2,zA,zB,zC,zD,zE,zF,zG,zH,zI,zJ,zK,zL,zM,zN,reduceIte,zO,zP]
  repeat' (refine Br_intro (λhb=>?_) (λhb=>?_) <;> simp only [↓E1,E2,zA,zB,zC,zD,zE,zF,zG,zH,zI,zJ,zK,zL,zM,zN,reduceIte,zO,zP,hb])
  all_goals first
    | (have:=h _ _ g0; simp_all; done)
theorem message_Client (x : Int) : BoolC P n_message_Client [.one (I x)] (λ_=>True) (decide (100 ≤ x) && decide (x < 108)):=boolC H.mx H.message_Client 0 λfz mu n k hfr g0 _ h=>by
  rw [i_message_Client,dc_at b_message_Client.eq_1]
  simp only [↓E1,E2,zA,zB,zC,zD,zE,zF,zG,zH,zI,zJ,zK,zL,zM,zN,reduceIte,zO,zP]
  repeat' (refine Br_intro (λhb=>?_) (λhb=>?_) <;> simp only [↓E1,E2,zA,zB,zC,zD,zE,zF,zG,zH,zI,zJ,zK,zL,zM,zN,reduceIte,zO,zP,hb])
  all_goals (have:=h _ _ g0; simp_all)
theorem point_May (p : Pt) : BoolC P n_point_May [.ag (ptC p)] (λ_=>True) (ptB p):=boolC H.mx H.point_May 0 λfz mu n k hfr gg _ h=>by
  rw [i_point_May,dc_at b_point_May.eq_1]
  unfold ptC
  simp only [↓E1,E2,zA,zB,zC,zD,zE,zF,zG,zH,zI,zJ,zK,zL,zM,zN,reduceIte,zO,zP]
  have hle:=Nat.le_refl n
  repeat' (first | ((with_reducible refine Br_intro (λhb=>?_) (λhb=>?_)) <;> simp only [↓E1,E2,zA,zB,zC,zD,zE,zF,zG,zH,zI,zJ,zK,zL,zM,zN,reduceIte,zO,zP, *]) | ((with_reducible refine CPr_f (f:=n_point_Name) ?_); ((first | (refine (point_Name H p.series).d2 hfr (by first | trivial | assumption) ?_; rintro v mu2 n2 g2 rfl) | (refine (point_Name H p.series).d3 hfr (λhm=>by first | trivial) ?_; rintro v mu2 n2 g2 b1 rfl) | (refine (point_Name H p.series).c1 hfr (by first | trivial | assumption) ?_; rintro v mu2 n2 g2 rfl) | (refine (point_Name H p.series).c2 hfr (λhm=>by first | trivial) ?_; rintro v mu2 n2 g2 b1 rfl) | (refine (point_Name H p.series).c3 hfr (λhm=>by first | trivial) ?_; rintro v mu2 n2 g2 b1 b2 rfl)); (try replace b1:=g2.old hfr b1); replace gg:=gg.trans (g2.weaken hle); replace hle:=Nat.le_trans hle g2.le; replace hfr:=g2.free; clear g2; simp only [↓E1,E2,zA,zB,zC,zD,zE,zF,zG,zH,zI,zJ,zK,zL,zM,zN,reduceIte,zO,zP, *])) | ((with_reducible refine CPr_f (f:=n_point_Small) ?_); ((first | (refine (point_Small H _).d2 hfr (by first | trivial | assumption) ?_; rintro v mu2 n2 g2 rfl) | (refine (point_Small H _).d3 hfr (λhm=>by first | trivial) ?_; rintro v mu2 n2 g2 b1 rfl) | (refine (point_Small H _).c1 hfr (by first | trivial | assumption) ?_; rintro v mu2 n2 g2 rfl) | (refine (point_Small H _).c2 hfr (λhm=>by first | trivial) ?_; rintro v mu2 n2 g2 b1 rfl) | (refine (point_Small H _).c3 hfr (λhm=>by first | trivial) ?_; rintro v mu2 n2 g2 b1 b2 rfl)); (try replace b1:=g2.old hfr b1); replace gg:=gg.trans (g2.weaken hle); replace hle:=Nat.le_trans hle g2.le; replace hfr:=g2.free; clear g2; simp only [↓E1,E2,zA,zB,zC,zD,zE,zF,zG,zH,zI,zJ,zK,zL,zM,zN,reduceIte,zO,zP, *])))
  all_goals (refine leafB h (by first | exact gg | exact gg.cons hle _ | exact (gg.cons hle _).cons (Nat.le_succ_of_le hle) _) ?_; (try clear loop); (try clear u); clear h; first | (simp_all [ptB]; done) | (simp_all [ptB]; omega))
theorem point_Batch_1 (p : Pt) : BoolC P n_point_Batch_1 [.ag (ptC p)] (λ_=>True) (!ptB p):=boolC H.mx H.point_Batch_1 0 λfz mu n k hfr g0 _ h=>by
  rw [i_point_Batch_1,dc_at b_point_Batch_1.eq_1]
  unfold ptC
  simp only [↓E1,E2,zA,zB,zC,zD,zE,zF,zG,zH,zI,zJ,zK,zL,zM,zN,reduceIte,zO,zP]
  refine (point_May H p).c1 (hfr.cons _) trivial ?_
  rintro v mu1 n1 g1 rfl
  simp only [↓E1,E2,zA,zB,zC,zD,zE,zF,zG,zH,zI,zJ,zK,zL,zM,zN,reduceIte,zO,zP]
  exact h _ _ ((g0.cons (Nat.le_refl _) _).trans (g1.weaken (Nat.le_succ _)))
theorem index_pts (g : Nat) (p : Pt → Bool) (hg : ∀ a,BoolC P g [.ag (ptC a)] (λ_=>True) (p a)) (x : SV) (l : List Pt) (hl : l.length ≤ 4611686018427387904) : Ctr P n_slices_IndexFunc_api_Point_api_Point [.one x,.one (.fn g [])] (λM=>PtsR M x l) (λ_ _ _ v=>∃ i : Int,v = .one (I i) ∧ decide (0 ≤ i) = l.any p) :=
 Ctr.of H.mx H.slices_IndexFunc_api_Point_api_Point (λ_=>l.length + 1) λfz mu n k hfr hx hk=>by
  obtain ⟨xl,xs,xk,xm⟩:=hx.len
  rw [i_slices_IndexFunc_api_Point_api_Point,dc_at b_slices_IndexFunc_api_Point_api_Point.eq_1]
  simp only [↓E1,E2,zA,zB,zC,zD,zE,zF,zG,zH,zI,zJ,zK,zL,zM,zN,reduceIte,zO,zP,xl,xs]
  refine scan (x:=0) (L:=l.length) (q:=0) (r:=8) (p:=λi=>!((l[i]?.map p).getD false)) (λe mu n=>Free fz mu n ∧ PtsR (with' mu fz) x l ∧ e 0 0 = .one x ∧ e 0 1 = .one (.fn g []) ∧ e 0 7 = .one (.int .i64 l.length)) (λe=>∃ j : Nat,e 0 4 = .one (I j)) (λ_ _ _ h=>h.1) ?_ ?_ l.length 0 (l.length + 1) _ mu n _ _ (by omega) (by omega) (by omega) ⟨hfr,hx,?_,?_,?_⟩ ?_ ?_ ?_
  · rintro i e mu n K hi ⟨hf,hx,h0,h1,h7⟩ hc hy hn
    obtain ⟨id,off,cap,B,rfl,hB,hmk,hbd,hsub⟩:=hx.elem hi
    rw [dc_at l_slices_IndexFunc_api_Point_api_Point_0.eq_1]
    have hw:=wrap_succ hi hl
    simp only [↓E1,E2,zA,zB,zC,zD,zE,zF,zG,zH,zI,zJ,zK,zL,zM,zN,reduceIte,zO,zP,h0,h1,h7,hc,hi,hB,hmk,hbd,hsub]
    refine (hg l[i]).c1 hf trivial ?_
    rintro v mu' n' g rfl
    cases hp : p l[i] with
    | true =>
      simp only [↓E1,E2,zA,zB,zC,zD,zE,zF,zG,zH,zI,zJ,zK,zL,zM,zN,reduceIte,zO,zP]
      exact hn (by simp [hi,hp]) _ _ _ g ⟨i,by simp [updN,updE]⟩
    | false =>
      simp only [↓E1,E2,zA,zB,zC,zD,zE,zF,zG,zH,zI,zJ,zK,zL,zM,zN,reduceIte,zO,zP,hc,hw]
      exact hy (by simp [hi,hp]) _ _ _ g ⟨g.free,PtsR.mono (λid B h=>g.old hf h) hx,by simp [updN,updE,h0],by simp [updN,updE,h1],by simp [updN,updE,h7]⟩ (by simp [updN,updE])
  · rintro e mu n K ⟨hf,hx,h0,h1,h7⟩ hc hy
    rw [dc_at l_slices_IndexFunc_api_Point_api_Point_0.eq_1]
    have hlt : (l.length < l.length) = False:=by simp
    simp only [↓E1,E2,zA,zB,zC,zD,zE,zF,zG,zH,zI,zJ,zK,zL,zM,zN,reduceIte,zO,zP,h0,h1,h7,hc,hlt]
    exact hy _ _ _ (Gr.refl hf) ⟨hf,hx,by simp [updN,updE,h0],by simp [updN,updE,h1],by simp [updN,updE,h7]⟩
  · simp [updN,updE,envI]
  · simp [updN,updE,envI]
  · simp [updN,updE]
  · simp [updN,updE]
  · intro ha e' mu' n' g hI
    simp only [↓E1,E2,zA,zB,zC,zD,zE,zF,zG,zH,zI,zJ,zK,zL,zM,zN,reduceIte,zO,zP]
    refine hk _ _ _ g ⟨-1,rfl,?_⟩
    rw [any_no ha]; rfl
  · rintro hx' e' mu' n' g ⟨j,hj⟩
    simp only [↓E1,E2,zA,zB,zC,zD,zE,zF,zG,zH,zI,zJ,zK,zL,zM,zN,reduceIte,zO,zP,hj]
    refine hk _ _ _ g ⟨j,rfl,?_⟩
    rw [any_yes hx']; simp
theorem contains_pts (g : Nat) (p : Pt → Bool) (hg : ∀ a,BoolC P g [.ag (ptC a)] (λ_=>True) (p a)) (x : SV) (l : List Pt) (hl : l.length ≤ 4611686018427387904) : BoolC P n_slices_ContainsFunc_api_Point_api_Point [.one x,.one (.fn g [])] (λM=>PtsR M x l) (l.any p) :=
 boolC H.mx H.slices_ContainsFunc_api_Point_api_Point 0 λfz mu n k hfr g0 hx h=>by
  rw [i_slices_ContainsFunc_api_Point_api_Point,dc_at b_slices_ContainsFunc_api_Point_api_Point.eq_1]
  simp only [↓E1,E2,zA,zB,zC,zD,zE,zF,zG,zH,zI,zJ,zK,zL,zM,zN,reduceIte,zO,zP]
  refine (index_pts H g p hg x l hl).c1 hfr hx ?_
  rintro v mu1 n1 g1 ⟨i,rfl,hi⟩
  simp only [↓E1,E2,zA,zB,zC,zD,zE,zF,zG,zH,zI,zJ,zK,zL,zM,zN,reduceIte,zO,zP,hi]
  exact h _ _ g1
theorem index_ints (g : Nat) (p : Int → Bool) (hg : ∀ a,BoolC P g [.one (I a)] (λ_=>True) (p a)) (x : SV) (l : List Int) (hl : l.length ≤ 4611686018427387904) : Ctr P n_slices_IndexFunc_int_int [.one x,.one (.fn g [])] (λM=>IntsR M x l) (λ_ _ _ v=>∃ i : Int,v = .one (I i) ∧ decide (0 ≤ i) = l.any p) :=
 Ctr.of H.mx H.slices_IndexFunc_int_int (λ_=>l.length + 1) λfz mu n k hfr hx hk=>by
  obtain ⟨xl,xs,xk,xm⟩:=hx.len
  rw [i_slices_IndexFunc_int_int,dc_at b_slices_IndexFunc_int_int.eq_1]
  simp only [↓E1,E2,zA,zB,zC,zD,zE,zF,zG,zH,zI,zJ,zK,zL,zM,zN,reduceIte,zO,zP,xl,xs]
  refine scan (x:=0) (L:=l.length) (q:=0) (r:=8) (p:=λi=>!((l[i]?.map p).getD false)) (λe mu n=>Free fz mu n ∧ IntsR (with' mu fz) x l ∧ e 0 0 = .one x ∧ e 0 1 = .one (.fn g []) ∧ e 0 7 = .one (.int .i64 l.length)) (λe=>∃ j : Nat,e 0 4 = .one (I j)) (λ_ _ _ h=>h.1) ?_ ?_ l.length 0 (l.length + 1) _ mu n _ _ (by omega) (by omega) (by omega) ⟨hfr,hx,?_,?_,?_⟩ ?_ ?_ ?_
  · rintro i e mu n K hi ⟨hf,hx,h0,h1,h7⟩ hc hy hn
    obtain ⟨id,off,cap,B,rfl,hB,hmk,hbd,hsub⟩:=hx.elem hi
    rw [dc_at l_slices_IndexFunc_int_int_0.eq_1]
    have hw:=wrap_succ hi hl
    simp only [↓E1,E2,zA,zB,zC,zD,zE,zF,zG,zH,zI,zJ,zK,zL,zM,zN,reduceIte,zO,zP,h0,h1,h7,hc,hi,hB,hmk,hbd,hsub]
    refine (hg l[i]).c1 hf trivial ?_
    rintro v mu' n' g rfl
    cases hp : p l[i] with
    | true =>
      simp only [↓E1,E2,zA,zB,zC,zD,zE,zF,zG,zH,zI,zJ,zK,zL,zM,zN,reduceIte,zO,zP]
      exact hn (by simp [hi,hp]) _ _ _ g ⟨i,by simp [updN,updE]⟩
    | false =>
      simp only [↓E1,E2,zA,zB,zC,zD,zE,zF,zG,zH,zI,zJ,zK,zL,zM,zN,reduceIte,zO,zP,hc,hw]
      exact hy (by simp [hi,hp]) _ _ _ g ⟨g.free,IntsR.mono (λid B h=>g.old hf h) hx,by simp [updN,updE,h0],by simp [updN,updE,h1],by simp [updN,updE,h7]⟩ (by simp [updN,updE])
  · rintro e mu n K ⟨hf,hx,h0,h1,h7⟩ hc hy
    rw [dc_at l_slices_IndexFunc_int_int_0.eq_1]
    have hlt : (l.length < l.length) = False:=by simp
    simp only [↓E1,E2,zA,zB,zC,zD,zE,zF,zG,zH,zI,zJ,zK,zL,zM,zN,reduceIte,zO,zP,h0,h1,h7,hc,hlt]
    exact hy _ _ _ (Gr.refl hf) ⟨hf,hx,by simp [updN,updE,h0],by simp [updN,updE,h1],by simp [updN,updE,h7]⟩
  · simp [updN,updE,envI]
  · simp [updN,updE,envI]
  · simp [updN,updE]
  · simp [updN,updE]
  · intro ha e' mu' n' g hI
    simp only [↓E1,E2,zA,zB,zC,zD,zE,zF,zG,zH,zI,zJ,zK,zL,zM,zN,reduceIte,zO,zP]
    refine hk _ _ _ g ⟨-1,rfl,?_⟩
    rw [any_no ha]; rfl
  · rintro hx' e' mu' n' g ⟨j,hj⟩
    simp only [↓E1,E2,zA,zB,zC,zD,zE,zF,zG,zH,zI,zJ,zK,zL,zM,zN,reduceIte,zO,zP,hj]
    refine hk _ _ _ g ⟨j,rfl,?_⟩
    rw [any_yes hx']; simp
theorem contains_ints (g : Nat) (p : Int → Bool) (hg : ∀ a,BoolC P g [.one (I a)] (λ_=>True) (p a)) (x : SV) (l : List Int) (hl : l.length ≤ 4611686018427387904) : BoolC P n_slices_ContainsFunc_int_int [.one x,.one (.fn g [])] (λM=>IntsR M x l) (l.any p) :=
 boolC H.mx H.slices_ContainsFunc_int_int 0 λfz mu n k hfr g0 hx h=>by
  rw [i_slices_ContainsFunc_int_int,dc_at b_slices_ContainsFunc_int_int.eq_1]
  simp only [↓E1,E2,zA,zB,zC,zD,zE,zF,zG,zH,zI,zJ,zK,zL,zM,zN,reduceIte,zO,zP]
  refine (index_ints H g p hg x l hl).c1 hfr hx ?_
  rintro v mu1 n1 g1 ⟨i,rfl,hi⟩
  simp only [↓E1,E2,zA,zB,zC,zD,zE,zF,zG,zH,zI,zJ,zK,zL,zM,zN,reduceIte,zO,zP,hi]
  exact h _ _ g1
theorem point_Batch (x : SV) (l : List Pt) : BoolC P n_point_Batch [.one x] (λM=>PtsR M x l) (batchB l):=boolC H.mx H.point_Batch 0 λfz mu n k hfr g0 hx h=>by
  obtain ⟨xl,xs,xk,xm⟩:=hx.len
  rw [i_point_Batch,dc_at b_point_Batch.eq_1]
  simp only [↓E1,E2,zA,zB,zC,zD,zE,zF,zG,zH,zI,zJ,zK,zL,zM,zN,reduceIte,zO,zP,xl,xs]
  refine Br_intro (λhb=>?_) (λhb=>?_) <;> simp only [↓E1,E2,zA,zB,zC,zD,zE,zF,zG,zH,zI,zJ,zK,zL,zM,zN,reduceIte,zO,zP,hb]
  · refine (contains_pts H _ _ (point_Batch_1 H) x l (by simp at hb; omega)).c1 hfr hx ?_
    rintro v mu1 n1 g1 rfl
    simp only [↓E1,E2,zA,zB,zC,zD,zE,zF,zG,zH,zI,zJ,zK,zL,zM,zN,reduceIte,zO,zP,hb]
    have e : batchB l = !(l.any λp=>!ptB p):=by
      unfold batchB
      have : l.length ≤ 8:=by simp at hb; omega
      simp [this,List.all_eq_not_any_not]
    rw [← e]; exact h _ _ g1
  · have e : batchB l = false := by
      unfold batchB
      have : ¬ l.length ≤ 8:=by simp at hb; omega
      simp [this]
    rw [← e]; exact h _ _ g0
theorem message_MayEntry (e : Ent) (b : SV) : BoolC P n_message_MayEntry [.ag (entC e b)] (λM=>PtsR M b e.batch) (entB e):=boolC H.mx H.message_MayEntry 5 λfz mu n k hfr gg s1 h=>by
  obtain ⟨xl,xs,xk,xm⟩:=s1.len
  have u : ∀ en mu n k,dcode pOrc False (CP P) fz 5 l_message_MayEntry_0 (tmE 40 en) mu n k = _:=λen mu n k=>dc_at l_message_MayEntry_0.eq_1
  rw [i_message_MayEntry,dc_at b_message_MayEntry.eq_1]
  unfold entC
  simp only [↓E1,E2,zA,zB,zC,zD,zE,zF,zG,zH,zI,zJ,zK,zL,zM,zN,reduceIte,zO,zP,xl,xs,xk,xm,↓u,↓Lp_step]
  have hle:=Nat.le_refl n
  repeat' (first | ((with_reducible refine Br_intro (λhb=>?_) (λhb=>?_)) <;> simp only [↓E1,E2,zA,zB,zC,zD,zE,zF,zG,zH,zI,zJ,zK,zL,zM,zN,reduceIte,zO,zP, *,↓u,↓Lp_step]) | ((with_reducible refine CPr_f (f:=n_point_Batch) ?_); ((first | (refine (point_Batch H b e.batch).d2 hfr (by first | trivial | exact s1 | assumption) ?_; rintro v mu2 n2 g2 rfl) | (refine (point_Batch H b e.batch).d3 hfr (λhm=>by first | trivial | exact PtsR.mono hm s1) ?_; rintro v mu2 n2 g2 b1 rfl) | (refine (point_Batch H b e.batch).c1 hfr (by first | trivial | exact s1 | assumption) ?_; rintro v mu2 n2 g2 rfl) | (refine (point_Batch H b e.batch).c2 hfr (λhm=>by first | trivial | exact PtsR.mono hm s1) ?_; rintro v mu2 n2 g2 b1 rfl) | (refine (point_Batch H b e.batch).c3 hfr (λhm=>by first | trivial | exact PtsR.mono hm s1) ?_; rintro v mu2 n2 g2 b1 b2 rfl)); (try replace b1:=g2.old hfr b1); (try replace b2:=g2.old hfr b2); (try replace s1:=PtsR.mono (λ_ _ hh=>g2.old hfr hh) s1); replace gg:=gg.trans (g2.weaken hle); replace hle:=Nat.le_trans hle g2.le; replace hfr:=g2.free; clear g2; simp only [↓E1,E2,zA,zB,zC,zD,zE,zF,zG,zH,zI,zJ,zK,zL,zM,zN,reduceIte,zO,zP, *,↓u,↓Lp_step])))
  all_goals clear u
  all_goals (refine leafB h (by first | exact gg | exact gg.cons hle _ | exact (gg.cons hle _).cons (Nat.le_succ_of_le hle) _) ?_; (try clear loop); (try clear u); clear h; first | (simp_all [entB,countB]; done) | (simp_all [entB,countB]; omega))
theorem message_MayLog (l : Lg) (x : SV) : BoolC P n_message_MayLog [.ag (lgC l x)] (λM=>EntsR M x l.ents) (lgB l):=boolC H.mx H.message_MayLog 4098 λfz mu n k hfr gg s1 h=>by
  obtain ⟨xl,xs,xk,xm⟩:=s1.len
  have loop : ∀ (e : Env) mu1 n1 (K : LK) w, l.ents.length ≤ 4096 → Gr n fz mu mu1 n n1 → EntsR (with' mu1 fz) x l.ents → e 2 4 = .one x → e 2 5 = .one (.int .i64 l.ents.length) → e 2 6 = .one (.int .i64 0) →
      (l.ents.all entB = true → ∀ e' mu' n',Gr n fz mu mu' n n' → K (.exit 0) (tmE 46 e') mu' n') → (l.ents.all entB = false → ∀ e' mu' n',Gr n fz mu mu' n n' → e' 0 2 = .one (.bool false) → K .ret (tmE 46 e') mu' n') →
      Lp (dcode pOrc False (CP P) fz 4098 l_message_MayLog_0) 4098 (tmE 46 e) mu1 n1 K w:=by
    intro e mu1 n1 K w hl g1 s1 i1 i2 i3 hd hr
    refine scan (x:=0) (L:=l.ents.length) (p:=λi=>(l.ents[i]?.map entB).getD true) (λe mu n=>Free fz mu n ∧ EntsR (with' mu fz) x l.ents ∧ e 2 4 = .one x ∧ e 2 5 = .one (.int .i64 l.ents.length)) (λe=>e 0 2 = .one (.bool false)) (λ_ _ _ h=>h.1) ?_ ?_ l.ents.length 0 4098 e mu1 n1 K w (by omega) (by omega) (by omega) ⟨g1.free,s1,i1,i2⟩ i3
      (λha e' mu' n' g _=>hd (all_list ha) e' mu' n' (g1.trans (g.weaken g1.le))) (λha e' mu' n' g hR=>hr (not_all_list ha) e' mu' n' (g1.trans (g.weaken g1.le)) hR)
    · rintro i e mu n K hi ⟨hfr,s1,i1,i2⟩ hc hy hn
      obtain ⟨id,off,cap,B,bx,rfl,hB,hmk,hbd,hsub,s2⟩:=s1.elem hi
      have hw:=wrap_succ hi (by omega)
      have gg:=Gr.refl (lo:=n) hfr
      have hle:=Nat.le_refl n
      rw [dc_at l_message_MayLog_0.eq_1]
      obtain ⟨yl,ys,yk,ym⟩:=s2.len; unfold entC at hsub
      simp only [↓E1,E2,zA,zB,zC,zD,zE,zF,zG,zH,zI,zJ,zK,zL,zM,zN,reduceIte,zO,zP, *]
      repeat' (first | ((with_reducible refine Br_intro (λhb=>?_) (λhb=>?_)) <;> simp only [↓E1,E2,zA,zB,zC,zD,zE,zF,zG,zH,zI,zJ,zK,zL,zM,zN,reduceIte,zO,zP, *]) | ((with_reducible refine CPr_f (f:=n_message_MayEntry) ?_); ((first | (refine (message_MayEntry H l.ents[i] bx).d2 hfr (by first | trivial | exact s1 | exact s2 | assumption) ?_; rintro v mu2 n2 g2 rfl) | (refine (message_MayEntry H l.ents[i] bx).d3 hfr (λhm=>by first | trivial | exact EntsR.mono hm s1 | exact PtsR.mono hm s2) ?_; rintro v mu2 n2 g2 b1 rfl) | (refine (message_MayEntry H l.ents[i] bx).c1 hfr (by first | trivial | exact s1 | exact s2 | assumption) ?_; rintro v mu2 n2 g2 rfl) | (refine (message_MayEntry H l.ents[i] bx).c2 hfr (λhm=>by first | trivial | exact EntsR.mono hm s1 | exact PtsR.mono hm s2) ?_; rintro v mu2 n2 g2 b1 rfl) | (refine (message_MayEntry H l.ents[i] bx).c3 hfr (λhm=>by first | trivial | exact EntsR.mono hm s1 | exact PtsR.mono hm s2) ?_; rintro v mu2 n2 g2 b1 b2 rfl)); (try replace s1:=EntsR.mono (λ_ _ hh=>g2.old hfr hh) s1); (try replace s2:=PtsR.mono (λ_ _ hh=>g2.old hfr hh) s2); replace gg:=gg.trans (g2.weaken hle); replace hle:=Nat.le_trans hle g2.le; replace hfr:=g2.free; clear g2; simp only [↓E1,E2,zA,zB,zC,zD,zE,zF,zG,zH,zI,zJ,zK,zL,zM,zN,reduceIte,zO,zP, *])))
      all_goals first
        | (refine hy (by simp_all [entB]) _ _ _ (by first | exact gg | exact gg.cons hle _ | exact (gg.cons hle _).cons (Nat.le_succ_of_le hle) _) ⟨(by first | exact hfr | exact hfr.cons _ | exact (hfr.cons _).cons _),(by first | exact s1 | exact EntsR.mono (λ_ _ hh=>((Gr.refl (lo:=_) hfr).cons (Nat.le_refl _) _).old hfr hh) s1 | exact EntsR.mono (λ_ _ hh=>(((Gr.refl (lo:=_) hfr).cons (Nat.le_refl _) _).cons (Nat.le_succ _) _).old hfr hh) s1),by simp [updN,updE, *],by simp [updN,updE, *]⟩ (by simp [updN,updE, *]); done)
        | (refine hn (by simp_all [entB]) _ _ _ (by first | exact gg | exact gg.cons hle _ | exact (gg.cons hle _).cons (Nat.le_succ_of_le hle) _) (by simp [updN,updE, *]); done)
    · rintro e mu n K ⟨hfr,s1,i1,i2⟩ hc hy
      rw [dc_at l_message_MayLog_0.eq_1]
      have hlt : (l.ents.length < l.ents.length) = False:=by simp
      simp only [↓E1,E2,zA,zB,zC,zD,zE,zF,zG,zH,zI,zJ,zK,zL,zM,zN,reduceIte,zO,zP, *]
      exact hy _ _ _ (Gr.refl hfr) ⟨hfr,s1,by simp [updN,updE, *],by simp [updN,updE, *]⟩
  rw [i_message_MayLog,dc_at b_message_MayLog.eq_1]
  unfold lgC
  simp only [↓E1,E2,zA,zB,zC,zD,zE,zF,zG,zH,zI,zJ,zK,zL,zM,zN,reduceIte,zO,zP,xl,xs,xk,xm,tx_empty]
  have hle:=Nat.le_refl n
  repeat' (first | ((with_reducible refine Br_intro (λhb=>?_) (λhb=>?_)) <;> simp only [↓E1,E2,zA,zB,zC,zD,zE,zF,zG,zH,zI,zJ,zK,zL,zM,zN,reduceIte,zO,zP, *,tx_empty]))
  all_goals try (refine leafB h (gg.cons hle _) ?_; clear loop h; first | (simp_all [lgB,countB]; done) | (simp_all [lgB,countB]; omega))
  all_goals (refine loop _ _ _ _ _ (by clear loop h; first | assumption | (simp_all; omega) | (simp_all; done)) (by first | exact gg | exact gg.cons hle _ | exact (gg.cons hle _).cons (Nat.le_succ_of_le hle) _) (by first | exact s1 | exact EntsR.mono (λ_ _ hh=>((Gr.refl (lo:=_) hfr).cons (Nat.le_refl _) _).old hfr hh) s1 | exact EntsR.mono (λ_ _ hh=>(((Gr.refl (lo:=_) hfr).cons (Nat.le_refl _) _).cons (Nat.le_succ _) _).old hfr hh) s1) (by simp [updN,updE, *]) (by simp [updN,updE, *]) (by simp [updN,updE, *]) (λha e' mu' n' g=>?_) (λha e' mu' n' g hR=>?_) <;> simp only [↓E1,E2,zA,zB,zC,zD,zE,zF,zG,zH,zI,zJ,zK,zL,zM,zN,reduceIte,zO,zP, *] <;> (refine leafB h g ?_; (first | (simp_all [lgB,countB]; done) | (simp_all [lgB,countB]; omega))))
theorem repair_Nodes (a b : Int) : BoolC P n_repair_Nodes [.one (I a),.one (I b)] (λ_=>True) (meB a b):=boolC H.mx H.repair_Nodes 0 λfz mu n k hfr gg _ h=>by
  rw [i_repair_Nodes,dc_at b_repair_Nodes.eq_1]
  simp only [↓E1,E2,zA,zB,zC,zD,zE,zF,zG,zH,zI,zJ,zK,zL,zM,zN,reduceIte,zO,zP,← nodes_eq]
  have hle:=Nat.le_refl n
  repeat' (first | ((with_reducible refine Br_intro (λhb=>?_) (λhb=>?_)) <;> simp only [↓E1,E2,zA,zB,zC,zD,zE,zF,zG,zH,zI,zJ,zK,zL,zM,zN,reduceIte,zO,zP, *]))
  all_goals (refine leafB h (by first | exact gg | exact gg.cons hle _ | exact (gg.cons hle _).cons (Nat.le_succ_of_le hle) _) ?_; (try clear loop); (try clear u); clear h; first | (simp_all [meB,nodes_eq]; done) | (simp_all [meB,nodes_eq]; omega))
theorem replica_within (x : Int) : BoolC P n_replica_within [.one (I x)] (λ_=>True) (countB x):=boolC H.mx H.replica_within 0 λfz mu n k hfr g0 _ h=>by
  rw [i_replica_within,dc_at b_replica_within.eq_1]
  simp only [↓E1,E2,zA,zB,zC,zD,zE,zF,zG,zH,zI,zJ,zK,zL,zM,zN,reduceIte,zO,zP]
  repeat' (refine Br_intro (λhb=>?_) (λhb=>?_) <;> simp only [↓E1,E2,zA,zB,zC,zD,zE,zF,zG,zH,zI,zJ,zK,zL,zM,zN,reduceIte,zO,zP,hb])
  all_goals (have:=h _ _ g0; simp_all [countB])
theorem replica_May_1 (x : Int) : BoolC P n_replica_May_1 [.one (I x)] (λ_=>True) (!countB x):=boolC H.mx H.replica_May_1 0 λfz mu n k hfr g0 _ h=>by
  rw [i_replica_May_1,dc_at b_replica_May_1.eq_1]
  simp only [↓E1,E2,zA,zB,zC,zD,zE,zF,zG,zH,zI,zJ,zK,zL,zM,zN,reduceIte,zO,zP]
  refine (replica_within H x).c1 hfr trivial ?_
  rintro v mu1 n1 g1 rfl
  simp only [↓E1,E2,zA,zB,zC,zD,zE,zF,zG,zH,zI,zJ,zK,zL,zM,zN,reduceIte,zO,zP]
  exact h _ _ g1
theorem choose_Last (l : Lg) (x : SV) : Ctr P n_choose_Last [.ag (lgC l x)] (λM=>EntsR M x l.ents) (λ_ _ _ v=>v = .one (I (last l))):=Ctr.of H.mx H.choose_Last (λ_=>0) λfz mu n k hfr hx hk=>by
  obtain ⟨xl,xs,xk,xm⟩:=hx.len
  rw [i_choose_Last,dc_at b_choose_Last.eq_1]
  unfold lgC
  simp only [↓E1,E2,zA,zB,zC,zD,zE,zF,zG,zH,zI,zJ,zK,zL,zM,zN,reduceIte,zO,zP,xl,xs,xk,xm]
  exact hk _ _ _ ((Gr.refl hfr).cons (Nat.le_refl _) _) rfl
end Go.Proofs.Ytnnjlnkoomeadaa.Pv
namespace Go.Ev
set_option linter.unusedVariables false
def Sub (G M : Fz) : Prop:=∀ id B,G id = some B → M id = some B
theorem Sub.refl (M : Fz) : Sub M M:=λ_ _ h=>h
theorem Sub.trans {A B C : Fz} (h : Sub A B) (k : Sub B C) : Sub A C:=λ_ _ g=>k _ _ (h _ _ g)
def From (n : Nat) (M : Fz) : Fz:=λj=>if n ≤ j then M j else none
theorem From.sub {n : Nat} {M : Fz} : Sub (From n M) M:=λid B h=>by unfold From at h; split at h; exact h; cases h
theorem From.mono {n : Nat} {M M' : Fz} (h : Sub M M') : Sub (From n M) (From n M'):=λid B g=>by
  unfold From at g ⊢
  split at g
  · rename_i hle; rw [if_pos hle]; exact h _ _ g
  · cases g
theorem From.le {n m : Nat} {M : Fz} (h : m ≤ n) : Sub (From n M) (From m M):=λid B g=>by
  unfold From at g ⊢
  split at g
  · rename_i hle; rw [if_pos (by omega)]; exact g
  · cases g
theorem From.at {n id : Nat} {M : Fz} {B : List SV} (h : n ≤ id) (g : M id = some B) : From n M id = some B:=by unfold From; rw [if_pos h]; exact g
theorem From.lt {n id : Nat} {M : Fz} {B : List SV} (h : From n M id = some B) : n ≤ id:=by
  unfold From at h; split at h
  · assumption
  · cases h
theorem Gr.sub {fz : Fz} {mu mu' : St} {n n' lo : Nat} (g : Gr lo fz mu mu' n n') (hf : Free fz mu n) (h : n ≤ lo) : Sub (with' mu fz) (with' mu' fz):=λid B hh=>(g.ext id (by have:=hf.lt hh; omega)).trans hh
theorem own_of_free {fz : Fz} {mu mu' : St} {n id : Nat} {B : List SV} (hf : Free fz mu n) (hi : n ≤ id) (h : with' mu' fz id = some B) : look mu' id = some B:=by
  have h0 : fz id = none:=by
    have:=hf.none hi
    rw [with_eq] at this
    cases e : look mu id with
    | none=>rw [e] at this; exact this
    | some c=>rw [e] at this; cases this
  rw [with_eq] at h
  cases e : look mu' id with
  | none=>rw [e,h0] at h; cases h
  | some c=>rw [e] at h; exact h
def SlX (M : Fz) (s : Nat) (x : SV) (es : List (List SV)) : Prop :=
  (x = .nsl ∨ x = .esl) ∧ es = [] ∨
  ∃ id,x = .osl id 0 es.length es.length s ∧ M id = some es.flatten ∧ mkd es.flatten = false ∧ ∀ e ∈ es,e.length = s ∧ knownAll e = true
theorem SlX.mono {M M' : Fz} {s : Nat} {x : SV} {es : List (List SV)} (h : SlX M s x es) (hm : Sub M M') : SlX M' s x es:=by
  rcases h with h | ⟨id,h1,h2,h3⟩
  · exact .inl h
  · exact .inr ⟨id,h1,hm id _ h2,h3⟩
theorem SlX.to {M : Fz} {s : Nat} {x : SV} {es : List (List SV)} (h : SlX M s x es) : Sl M s x es:=by
  rcases h with ⟨h,he⟩ | ⟨id,h1,h2,h3,h4⟩
  · refine .inl ⟨?_,he⟩
    rcases h with h | h
    · exact .inl h
    · exact .inr (.inl h)
  · refine .inr ⟨id,0,es.length,_,h1,Nat.le_refl _,h2,h3,?_,?_,h4⟩
    · rw [flat_length λe he=>(h4 e he).1]; omega
    · rw [List.drop_zero,List.take_of_length_le]; rw [flat_length λe he=>(h4 e he).1]; omega
theorem SlX.len {M : Fz} {s : Nat} {x : SV} {es : List (List SV)} (h : SlX M s x es) : (∀ k,onLen x k = k es.length) ∧ x.isStr = false ∧ x.known = true ∧ x.isMk = false :=
  ⟨λk=>(Sl.len h.to (k:=k)).1,(Sl.len h.to (k:=λ_=>True)).2,(Sl.known h.to).1,(Sl.known h.to).2⟩
theorem knownAll_flat {s : Nat} : ∀ {es : List (List SV)},(∀ e ∈ es,e.length = s ∧ knownAll e = true) → knownAll es.flatten = true
  | [],_=>rfl
  | e :: es,h=>by
    rw [List.flatten_cons,knownAll_app,(h e (by simp)).2,knownAll_flat (es:=es) λx hx=>h x (by simp [hx])]; rfl
theorem known_mk : ∀ {s : SV},s.known = true → s.isMk = false:=fun {s} h=>by cases s <;> first | rfl | cases h
theorem mkd_known : ∀ {l : List SV},knownAll l = true → mkd l = false
  | [],_=>rfl
  | s :: l,h=>by
    rw [knownAll_cons,Bool.and_eq_true] at h
    exact known_mk h.1
theorem onSrc_Sl {M : Fz} {s : Nat} {x : SV} {es : List (List SV)} (h : Sl M s x es) {k : List SV → Nat → Prop} : onSrc M s x k = k es.flatten es.length ∧ knownAll es.flatten = true:=by
  rcases h with ⟨h,rfl⟩ | ⟨id,off,cap,B,rfl,h2,h3,h4,h5,h6,h7⟩
  · rcases h with rfl | rfl | rfl <;> exact ⟨rfl,rfl⟩
  · refine ⟨?_,knownAll_flat h7⟩
    rw [onSrc_osl,show Nat.beq s s = true by simp,h3,onSome_some,h6]
    simp [Need,h4,h5]
theorem onApp_new {mu : St} {n s b : Nat} {x : SV} {es : List (List SV)} {k : KT Prop} (hx : x = .nsl ∨ x = .esl) (hf : fits es.length b = true) (he : ∀ e ∈ es, e.length = s ∧ knownAll e = true)
    (h0 : es = [] → k (.one x) mu n) (h1 : es ≠ [] → k (.one (.osl n 0 es.length es.length s)) ((n,es.flatten) :: mu) (n + 1)) : onApp mu n s b x es.flatten es.length k:=by
  by_cases e : es = []
  · subst e
    rcases hx with rfl | rfl
    · exact h0 rfl
    · exact h0 rfl
  · have hl : es.length ≠ 0:=λh=>e (List.length_eq_zero_iff.1 h)
    rcases hx with rfl | rfl
    · rw [onApp_nsl hl]; exact ⟨hf,h1 e⟩
    · rw [onApp_esl hl]; exact ⟨hf,h1 e⟩
theorem onApp_more {mu : St} {n s b : Nat} {x : SV} {es fs : List (List SV)} {k : KT Prop} {G : Fz} (hx : SlX G s x es) (hG : ∀ id B, G id = some B → look mu id = some B) (hf : fits (es.length + fs.length) b = true) (hfs : fs ≠ []) (he : ∀ e ∈ fs, e.length = s ∧ knownAll e = true)
    (h1 : ∀ mu',(∀ j,j ≠ n → look mu' j = look mu j ∨ ∃ B,G j = some B ∧ (x = .osl j 0 es.length es.length s) ∧ look mu' j = none) → look mu' n = some (es ++ fs).flatten → k (.one (.osl n 0 (es ++ fs).length (es ++ fs).length s)) mu' (n + 1)) : onApp mu n s b x fs.flatten fs.length k:=by
  have hl : fs.length ≠ 0:=λh=>hfs (List.length_eq_zero_iff.1 h)
  rcases hx with ⟨h,rfl⟩ | ⟨id,rfl,h2,h3,h4⟩
  · have hb : k (.one (.osl n 0 fs.length fs.length s)) ((n, fs.flatten) :: mu) (n + 1) := by
      have:=h1 ((n,fs.flatten) :: mu) (λj hj=>.inl (by rw [look_c,if_neg (by omega)])) (by rw [look_c,if_pos rfl]; rfl)
      simpa using this
    rw [List.length_nil,Nat.zero_add] at hf
    rcases h with rfl | rfl
    · rw [onApp_nsl hl]; exact ⟨hf,hb⟩
    · rw [onApp_esl hl]; exact ⟨hf,hb⟩
  · have hlen : es.flatten.length = 0 + es.length * s:=by rw [flat_length λe he=>(h4 e he).1]; omega
    rw [onApp_osl hl (hG _ _ h2) h3 hlen]
    refine ⟨hf,?_⟩
    have:=h1 ((n,(es ++ fs).flatten) :: killS mu id) (λj hj=>?_) (by rw [look_c,if_pos rfl])
    · simpa using this
    · rw [look_c,if_neg (by omega),look_killS]
      by_cases e : id = j
      · subst e; rw [if_pos rfl]; exact .inr ⟨_,h2,rfl,rfl⟩
      · rw [if_neg e]; exact .inl rfl
def blk : SV → Option Nat
  | .osl id _ _ _ _=>some id
  | _=>none
def Ex (x : SV) (M : Fz) : Fz:=λj=>if blk x = some j then none else M j
theorem Ex.at {j : Nat} {x : SV} {M : Fz} {B : List SV} (h2 : blk x ≠ some j) (h : M j = some B) : Ex x M j = some B:=by
  unfold Ex; rw [if_neg h2]; exact h
theorem Ex.el {j : Nat} {x : SV} {M : Fz} {B : List SV} (h : Ex x M j = some B) : blk x ≠ some j ∧ M j = some B:=by
  unfold Ex at h
  split at h
  · cases h
  · rename_i hn; exact ⟨hn,h⟩
theorem Ex.sub {x : SV} {M : Fz} : Sub (Ex x M) M:=λ_ _ h=>(Ex.el h).2
theorem Ex.mono {x : SV} {M M' : Fz} (h : Sub M M') : Sub (Ex x M) (Ex x M'):=λ_ _ hj=>Ex.at (Ex.el hj).1 (h _ _ (Ex.el hj).2)
theorem From.el {n j : Nat} {M : Fz} {B : List SV} (h : From n M j = some B) : n ≤ j ∧ M j = some B:=⟨From.lt h,From.sub _ _ h⟩
def Grow {α : Type} (lo : Nat) (M : Fz) (s : Nat) (R : Fz → List SV → α → Prop) (x : SV) (l : List α) : Prop :=
  ∃ cs,SlX (From lo M) s x cs ∧ All2 (R (Ex x (From lo M))) cs l
theorem Grow.nil {α : Type} {lo : Nat} {M : Fz} {s : Nat} {R : Fz → List SV → α → Prop} : Grow lo M s R .nsl []:=⟨[],.inl ⟨.inl rfl,rfl⟩,trivial⟩
theorem Grow.len {α : Type} {lo : Nat} {M : Fz} {s : Nat} {R : Fz → List SV → α → Prop} {x : SV} {l : List α} (h : Grow lo M s R x l) : (∀ k,onLen x k = k l.length) ∧ x.isStr = false ∧ x.known = true ∧ x.isMk = false:=by
  obtain ⟨cs,h1,h2⟩:=h
  rw [← h2.length]; exact h1.len
theorem with_look {mu : St} {fz : Fz} {id : Nat} (h : fz id = none) : with' mu fz id = look mu id:=by
  rw [with_eq]; cases look mu id with
  | none=>exact h
  | some c=>rfl
theorem with_congr {mu mu' : St} {fz : Fz} {id : Nat} (h : look mu id = look mu' id) : with' mu fz id = with' mu' fz id:=by rw [with_eq,with_eq,h]
theorem Free.fz {fz : Fz} {mu : St} {n : Nat} (h : Free fz mu n) : ∀ j,n ≤ j → fz j = Option.none:=λj hj=>by
  have:=h.none hj
  rw [with_eq] at this
  cases e : Ev.look mu j with
  | none=>rw [e] at this; exact this
  | some c=>rw [e] at this; cases this
theorem Grow.more {α : Type} {R : Fz → List SV → α → Prop} (hR : ∀ {M M' c a}, Sub M M' → R M c a → R M' c a) {lo : Nat} {fz : Fz} {mu mu2 : St} {n n2 s b : Nat} {x : SV} {l : List α} {c : List SV} {a : α} {k : KT Prop}
    (G : Grow lo (with' mu fz) s R x l) (hfr : Free fz mu n) (hlo : lo ≤ n) (hfz : ∀ j,lo ≤ j → fz j = none) (g : Gr n fz mu mu2 n n2)
    (hc : R (From n (with' mu2 fz)) c a) (hcl : c.length = s ∧ knownAll c = true) (hf : fits (l.length + 1) b = true)
    (h1 : ∀ mu3,Gr lo fz mu mu3 n (n2 + 1) → Grow lo (with' mu3 fz) s R (.osl n2 0 (l.length + 1) (l.length + 1) s) (l ++ [a]) → k (.one (.osl n2 0 (l.length + 1) (l.length + 1) s)) mu3 (n2 + 1)) :
    onApp mu2 n2 s b x c 1 k:=by
  obtain ⟨cs,hx,hall⟩:=G
  have hl:=hall.length
  have key : onApp mu2 n2 s b x [c].flatten [c].length k:=by
    refine onApp_more (G:=From lo (with' mu fz)) hx (λid B h=>?_) (by rw [hl]; exact hf) (by simp) (by simpa using hcl) λmu3 ho hn=>?_
    · obtain ⟨h2,h3⟩:=From.el h
      rw [g.own id (hfr.lt h3),← h3,with_look (hfz id h2)]
    · have hkill : ∀ j, j ≠ n2 → (j < lo ∨ blk x ≠ some j ∨ n ≤ j) → look mu3 j = look mu2 j := by
        intro j hj hd
        rcases ho j hj with h | ⟨B,h2,h3,h4⟩
        · exact h
        · exfalso
          obtain ⟨h5,h6⟩:=From.el h2
          have:=hfr.lt h6
          rcases hd with hd | hd | hd
          · omega
          · exact hd (by rw [h3]; rfl)
          · omega
      have hle:=g.le
      have hM3 : with' mu3 fz n2 = some (cs ++ [c]).flatten:=look_with hn
      have hlen : (cs ++ [c]).length = l.length + 1:=by simp [hl]
      rw [hlen]
      refine h1 mu3 ⟨by omega,λid hi=>?_,λid hi=>?_,λj=>?_⟩ ⟨cs ++ [c],?_,hall.imp (λc a h=>hR ?_ h) |>.append ⟨hR ?_ hc,trivial⟩⟩
      · rw [with_congr (hkill id (by omega) (.inl hi))]; exact g.ext id (by omega)
      · rw [hkill id (by omega) (.inl hi)]; exact g.own id (by omega)
      · have h5:=g.free.none (id:=n2 + 1 + j) (by omega)
        rcases ho (n2 + 1 + j) (by omega) with h | ⟨B,h2,h3,h4⟩
        · rw [with_congr h]; exact h5
        · rw [with_eq,h4]; exact hfz _ (by omega)
      · refine .inr ⟨n2,by rw [hlen],From.at (by omega) hM3,?_,?_⟩
        · rcases hx with ⟨_,rfl⟩ | ⟨id,_,_,_,h4⟩
          · simpa using mkd_known hcl.2
          · refine mkd_known (knownAll_flat (s:=s) λe he=>?_)
            rcases List.mem_append.1 he with he | he
            · exact h4 e he
            · rw [List.mem_singleton.1 he]; exact hcl
        · intro e he
          rcases List.mem_append.1 he with he | he
          · rcases hx with ⟨_,rfl⟩ | ⟨id,_,_,_,h4⟩
            · cases he
            · exact h4 e he
          · rw [List.mem_singleton.1 he]; exact hcl
      · intro j B h
        obtain ⟨h3,h4⟩:=Ex.el h
        obtain ⟨h5,h6⟩:=From.el h4
        have h7:=hfr.lt h6
        refine Ex.at (λe=>?_) (From.at h5 ?_)
        · have : n2 = j:=by simpa [blk] using e
          omega
        · rw [with_congr (hkill j (by omega) (.inr (.inl h3))),g.ext j h7]; exact h6
      · intro j B h
        obtain ⟨h5,h6⟩:=From.el h
        have h7:=g.free.lt h6
        refine Ex.at (λe=>?_) (From.at (by omega) ?_)
        · have : n2 = j:=by simpa [blk] using e
          omega
        · rw [with_congr (hkill j (by omega) (.inr (.inr h5)))]; exact h6
  simpa using key
theorem Grow.mono {α : Type} {R : Fz → List SV → α → Prop} (hR : ∀ {M M' c a},Sub M M' → R M c a → R M' c a) {lo : Nat} {M M' : Fz} {s : Nat} {x : SV} {l : List α} (G : Grow lo M s R x l) (h : Sub (From lo M) (From lo M')) : Grow lo M' s R x l:=by
  obtain ⟨cs,hx,hall⟩:=G
  exact ⟨cs,hx.mono h,hall.imp λc a hh=>hR (Ex.mono h) hh⟩
theorem From.put {lo : Nat} {fz : Fz} {mu : St} {ob : Nat} {d d' : List SV} (ho : ob < lo) (h : look mu ob = some d) : Sub (From lo (with' mu fz)) (From lo (with' (putS mu ob d') fz)):=λj B hj=>by
  obtain ⟨h5,h6⟩:=From.el hj
  exact From.at h5 (by rw [with_putS h,if_neg (by omega)]; exact h6)
theorem app_empty {fz : Fz} {mu : St} {n s b : Nat} {fs : List (List SV)} {k : KT Prop} (hfr : Free fz mu n) (hf : fits fs.length b = true) (he : ∀ e ∈ fs, e.length = s ∧ knownAll e = true)
    (h : ∀ x mu' n',Gr n fz mu mu' n n' → SlX (From n (with' mu' fz)) s x fs → k (.one x) mu' n') : onApp ((n,[]) :: mu) (n + 1) s b (.osl n 0 0 0 s) fs.flatten fs.length k:=by
  have g1 : Gr n fz mu ((n,[]) :: mu) n (n + 1):=(Gr.refl hfr).cons (Nat.le_refl _) _
  by_cases e : fs = []
  · subst e
    show onApp ((n,[]) :: mu) (n + 1) s b (.osl n 0 0 0 s) [] 0 k
    rw [onApp_osl0]
    exact h _ _ _ g1 (.inr ⟨n,rfl,From.at (Nat.le_refl _) (by rw [with_c,if_pos rfl]; rfl),rfl,λe he=>by cases he⟩)
  · refine onApp_more (G:=From n (with' ((n,[]) :: mu) fz)) (es:=[]) (.inr ⟨n,rfl,From.at (Nat.le_refl _) (by rw [with_c,if_pos rfl]; rfl),rfl,λe he=>by cases he⟩) (λid B hh=>?_) (by simpa using hf) e he λmu3 ho hn=>?_
    · obtain ⟨h1,h2⟩:=From.el hh
      rw [← h2,with_look (hfr.fz id h1)]
    · have hs : ∀ j, j < n → look mu3 j = look mu j := fun j hj => by
        rcases ho j (by omega) with h1 | ⟨B,h1,-⟩
        · rw [h1,look_c,if_neg (by omega)]
        · have:=From.lt h1; omega
      refine h _ _ _ ⟨by omega,λid hi=>with_congr (hs id hi),λid hi=>hs id hi,λj=>?_⟩ (.inr ⟨n + 1,rfl,From.at (by omega) (look_with hn),mkd_known (knownAll_flat he),he⟩)
      rcases ho (n + 1 + 1 + j) (by omega) with h1 | ⟨B,h1,h2,h3⟩
      · rw [with_congr h1]; exact g1.free.none (by omega)
      · rw [with_eq,h3]; exact hfr.fz _ (by omega)
theorem with_putI {mu : St} {fz : Fz} {id j : Nat} {c : List SV} (h : (look mu id).isSome = true) : with' (putS mu id c) fz j = if id = j then some c else with' mu fz j:=by
  obtain ⟨d,hd⟩:=Option.isSome_iff_exists.1 h
  exact with_putS hd
theorem putS_putS {id : Nat} {c d : List SV} : ∀ {mu : St},putS (putS mu id c) id d = putS mu id d
  | []=>rfl
  | (i,e) :: mu=>by
    rw [putS_c,putS_c]
    by_cases h : i = id
    · rw [if_pos h,if_pos h,putS_c,if_pos h]
    · rw [if_neg h,if_neg h,putS_c,if_neg h,putS_putS]
theorem Grow.weaken {α : Type} {R : Fz → List SV → α → Prop} (hR : ∀ {M M' c a},Sub M M' → R M c a → R M' c a) {lo lo' : Nat} {M : Fz} {s : Nat} {x : SV} {l : List α} (h : lo' ≤ lo) (G : Grow lo M s R x l) : Grow lo' M s R x l:=by
  obtain ⟨cs,hx,hall⟩:=G
  exact ⟨cs,hx.mono (From.le h),hall.imp λc a hh=>hR (Ex.mono (From.le h)) hh⟩
theorem Ctr.mono {P : Program} {f : Nat} {args : List AV} {pre : Fz → Prop} {post post' : Nat → Nat → Fz → AV → Prop} (h : Ctr P f args pre post) (hp : ∀ n n' M v,post n n' M v → post' n n' M v) : Ctr P f args pre post' :=
  λfz mu n k hf hpre hk=>h fz mu n k hf hpre λv mu' n' g hpost=>hk v mu' n' g (hp _ _ _ _ hpost)
theorem lookI {mu : St} {id : Nat} {c : List SV} (h : look mu id = some c) : (look mu id).isSome = true:=by rw [h]; rfl
end Go.Ev
namespace Go.Proofs.Ytnnjlnkoomeadaa.Pv
open Go.Ev Go.Ev.Rp
set_option maxRecDepth 100000
set_option maxHeartbeats 4000000
set_option linter.unusedSimpArgs false
set_option linter.unusedVariables false
set_option linter.unusedSectionVars false
def PtsX (M : Fz) (x : SV) (l : List Pt) : Prop:=SlX M 3 x (l.map ptC)
def IntsX (M : Fz) (x : SV) (l : List Int) : Prop:=SlX M 1 x (l.map intC)
def EntX (M : Fz) (c : List SV) (e : Ent) : Prop:=∃ b,c = entC e b ∧ PtsX M b e.batch
def EntsX (M : Fz) (x : SV) (l : List Ent) : Prop:=∃ cs,SlX M 5 x cs ∧ All2 (EntX M) cs l
def DvX (M : Fz) (c : List SV) (d : Dv) : Prop:=∃ x,c = dvC d x ∧ EntsX M x d.log.ents
def DvsX (M : Fz) (x : SV) (l : List Dv) : Prop:=∃ cs,SlX M 6 x cs ∧ All2 (DvX M) cs l
section
variable {M M' : Fz} (hm : Sub M M')
include hm
theorem PtsX.mono {x : SV} {l : List Pt} (h : PtsX M x l) : PtsX M' x l:=SlX.mono h hm
theorem IntsX.mono {x : SV} {l : List Int} (h : IntsX M x l) : IntsX M' x l:=SlX.mono h hm
theorem EntX.mono {c : List SV} {e : Ent} (h : EntX M c e) : EntX M' c e:=let ⟨b,h1,h2⟩:=h; ⟨b,h1,PtsX.mono hm h2⟩
theorem EntsX.mono {x : SV} {l : List Ent} (h : EntsX M x l) : EntsX M' x l:=let ⟨cs,h1,h2⟩:=h; ⟨cs,SlX.mono h1 hm,h2.imp λ_ _ h=>EntX.mono hm h⟩
theorem DvX.mono {c : List SV} {d : Dv} (h : DvX M c d) : DvX M' c d:=let ⟨x,h1,h2⟩:=h; ⟨x,h1,EntsX.mono hm h2⟩
theorem DvsX.mono {x : SV} {l : List Dv} (h : DvsX M x l) : DvsX M' x l:=let ⟨cs,h1,h2⟩:=h; ⟨cs,SlX.mono h1 hm,h2.imp λ_ _ h=>DvX.mono hm h⟩
end
section
variable {M : Fz}
theorem PtsX.to {x : SV} {l : List Pt} (h : PtsX M x l) : PtsR M x l:=SlX.to h
theorem IntsX.to {x : SV} {l : List Int} (h : IntsX M x l) : IntsR M x l:=SlX.to h
theorem EntX.to {c : List SV} {e : Ent} (h : EntX M c e) : EntR M c e:=let ⟨b,h1,h2⟩:=h; ⟨b,h1,h2.to⟩
theorem EntsX.to {x : SV} {l : List Ent} (h : EntsX M x l) : EntsR M x l:=let ⟨cs,h1,h2⟩:=h; ⟨cs,h1.to,h2.imp λ_ _ h=>h.to⟩
theorem DvX.to {c : List SV} {d : Dv} (h : DvX M c d) : DvR M c d:=let ⟨x,h1,h2⟩:=h; ⟨x,h1,h2.to⟩
theorem DvsX.to {x : SV} {l : List Dv} (h : DvsX M x l) : DvsR M x l:=let ⟨cs,h1,h2⟩:=h; ⟨cs,h1.to,h2.imp λ_ _ h=>h.to⟩
end
theorem pt_ok {l : List Pt} : ∀ e ∈ l.map ptC,e.length = 3 ∧ knownAll e = true:=by
  intro e he
  obtain ⟨p,_,rfl⟩:=List.mem_map.1 he
  exact ⟨rfl,rfl⟩
theorem int_ok {l : List Int} : ∀ e ∈ l.map intC,e.length = 1 ∧ knownAll e = true:=by
  intro e he
  obtain ⟨p,_,rfl⟩:=List.mem_map.1 he
  exact ⟨rfl,rfl⟩
theorem SlX.mk_new {M : Fz} {s id : Nat} {es : List (List SV)} (h1 : M id = some es.flatten) (h2 : ∀ e ∈ es,e.length = s ∧ knownAll e = true) : SlX M s (.osl id 0 es.length es.length s) es :=
  .inr ⟨id,rfl,h1,mkd_known (knownAll_flat h2),h2⟩
theorem fits_le {n b : Nat} (h : n * b ≤ 140737488355328) (h1 : 1 ≤ b) (h2 : b ≤ 65536) : fits n b = true:=by
  unfold fits
  cases Nat.ble (Nat.mul n (Nat.succ b)) roomy with
  | true=>rfl
  | false =>
    have e1 : Nat.ble (Nat.mul n b) 140737488355328 = true:=by rw [Nat.ble_eq]; exact h
    have e2 : Nat.ble 1 b = true:=by rw [Nat.ble_eq]; exact h1
    have e3 : Nat.ble b 65536 = true:=by rw [Nat.ble_eq]; exact h2
    rw [e1,e2,e3]; rfl
theorem sub1 {fz : Fz} {mu : St} {n : Nat} (hfr : Free fz mu n) {c : List SV} : Sub (with' mu fz) (with' ((n,c) :: mu) fz):=λ_ _ hh=>((Gr.refl (lo:=n) hfr).cons (Nat.le_refl _) _).old hfr hh
theorem sub2 {fz : Fz} {mu : St} {n : Nat} (hfr : Free fz mu n) {c d : List SV} : Sub (with' mu fz) (with' ((n + 1,d) :: (n,c) :: mu) fz):=λ_ _ hh=>(((Gr.refl (lo:=n) hfr).cons (Nat.le_refl _) _).cons (Nat.le_succ _) _).old hfr hh
theorem gr1 {fz : Fz} {mu : St} {n : Nat} (hfr : Free fz mu n) {c : List SV} : Gr n fz mu ((n,c) :: mu) n (n + 1):=(Gr.refl hfr).cons (Nat.le_refl _) _
theorem gr2 {fz : Fz} {mu : St} {n : Nat} (hfr : Free fz mu n) {c d : List SV} : Gr n fz mu ((n + 1,d) :: (n,c) :: mu) n (n + 2):=(gr1 hfr).cons (Nat.le_succ _) _
theorem gr3 {fz : Fz} {mu : St} {n : Nat} (hfr : Free fz mu n) {c d e : List SV} : Gr n fz mu ((n + 2,e) :: (n + 1,d) :: (n,c) :: mu) n (n + 3):=(gr2 hfr).cons (by omega) _
variable {P : Program} (H : Fs P)
include H
theorem message_CloneEntry (e : Ent) (b : SV) (hb : e.batch.length ≤ 4398046511104) : Ctr P n_message_CloneEntry [.ag (entC e b)] (λM=>PtsR M b e.batch) (λn _ M v=>∃ b',v = .ag (entC e b') ∧ PtsX (From n M) b' e.batch):=Ctr.of H.mx H.message_CloneEntry (λ_=>0) λfz mu n k hfr s1 hk=>by
  obtain ⟨xl,xs,xk,xm⟩:=s1.len
  rw [i_message_CloneEntry,dc_at b_message_CloneEntry.eq_1]
  unfold entC
  simp only [↓E1,E2,zA,zB,zC,zD,zE,zF,zG,zH,zI,zJ,zK,zL,zM,zN,reduceIte,zO,zP, *]
  obtain ⟨h1,h2⟩:=onSrc_Sl (Sl.mono s1 (sub2 hfr (c:=[I e.view,I e.client,I e.session,I e.number,b]) (d:=[I 0,I 0,I 0,I 0,.nsl])))
  rw [h1]
  refine ⟨h2,onApp_new (.inl rfl) (fits_le (by simp; omega) (by decide) (by decide)) pt_ok (λhe=>?_) (λhe=>?_)⟩
  · simp only [↓E1,E2,zA,zB,zC,zD,zE,zF,zG,zH,zI,zJ,zK,zL,zM,zN,reduceIte,zO,zP, *]
    exact hk _ _ _ (gr2 hfr) ⟨.nsl,rfl,.inl ⟨.inl rfl,he⟩⟩
  · simp only [↓E1,E2,zA,zB,zC,zD,zE,zF,zG,zH,zI,zJ,zK,zL,zM,zN,reduceIte,zO,zP, *]
    exact hk _ _ _ (gr3 hfr) ⟨_,rfl,SlX.mk_new (From.at (by omega) (by rw [with_c,if_pos rfl])) pt_ok⟩
end Go.Proofs.Ytnnjlnkoomeadaa.Pv
namespace Go.Proofs.Ytnnjlnkoomeadaa.Pv
open Go.Ev Go.Ev.Rp
set_option maxRecDepth 100000
set_option maxHeartbeats 4000000
set_option linter.unusedSimpArgs false
set_option linter.unusedVariables false
set_option linter.unusedSectionVars false
variable {P : Program} (H : Fs P)
include H
theorem CloneLog_step (l : Lg) (x : SV) {fz : Fz} {mu0 : St} {n0 lo : Nat} (hfr0 : Free fz mu0 n0) (s1 : EntsR (with' mu0 fz) x l.ents) (hL : l.ents.length ≤ 2513169434916) (hb : ∀ e ∈ l.ents, e.batch.length ≤ 4398046511104) (ob : Nat) (xe : SV) (i : Nat) (hi : i < l.ents.length) {fu : Nat} {e : Env} {mu : St} {n : Nat} {K : LK}
   (hfr : Free fz mu n) (hlo : n0 ≤ lo ∧ lo ≤ n) (g0 : Gr n0 fz mu0 mu n0 n) (b1 : Ev.look mu ob = some [I l.base,l.snap.sv,xe]) (hob : n0 ≤ ob ∧ ob < lo) (G : Grow lo (with' mu fz) 5 EntX xe (l.ents.take i)) (h3 : e 0 3 = .one (.optr ob 0)) (h12 : e 0 12 = .one x) (h13 : e 0 13 = .one (.int .i64 l.ents.length)) (h14 : e 0 14 = .one (.int .i64 i))
   (hK : ∀ e' mu' n' xe',Gr n0 fz mu0 mu' n0 n' → lo ≤ n' → Ev.look mu' ob = some [I l.base,l.snap.sv,xe'] → (∀ j,j < lo → j ≠ ob → Ev.look mu' j = Ev.look mu j) → Grow lo (with' mu' fz) 5 EntX xe' (l.ents.take (i + 1)) → e' 0 2 = e 0 2 → e' 0 3 = .one (.optr ob 0) → e' 0 12 = .one x → e' 0 13 = .one (.int .i64 l.ents.length) → e' 0 14 = .one (.int .i64 ((i + 1 : Nat) : Int)) → K .normal (tmE 27 e') mu' n') :
   dcode pOrc False (CP P) fz fu l_message_CloneLog_0 (tmE 27 e) mu n K:=by
  obtain ⟨id,off,cap,B,b,rfl,hB,hmk,hbd,hsub,s2⟩:=(EntsR.mono (λ_ _ hh=>g0.old hfr0 hh) s1).elem hi
  have hw:=wrap_succ hi (by omega)
  have b2:=look_with (fz:=fz) b1
  have hno : (n = ob) = False:=by simp; omega
  obtain ⟨yl,ys,yk,ym⟩:=s2.len
  obtain ⟨-,-,zk,zm⟩:=G.len
  have hE:=message_CloneEntry H l.ents[i] b (hb _ (List.getElem_mem hi))
  unfold entC at hsub hE
  rw [dc_at l_message_CloneLog_0.eq_1]
  simp only [↓E1,E2,zA,zB,zC,zD,zE,zF,zG,zH,zI,zJ,zK,zL,zM,zN,reduceIte,zO,zP, *]
  refine hE.d3 hfr (λhm=>s2.mono hm) ?_
  rintro v new n2 g2 bx1 ⟨b',rfl,hb'⟩
  simp only [↓E1,E2,zA,zB,zC,zD,zE,zF,zG,zH,zI,zJ,zK,zL,zM,zN,reduceIte,zO,zP, *]
  have yk':=(SlX.len hb').2.2.1
  have hli : (l.ents.take i).length = i:=by rw [List.length_take]; omega
  refine ⟨yk',yk',Grow.more (R:=EntX) (λh g=>EntX.mono h g) (a:=l.ents[i]) G hfr hlo.2 (λj hj=>hfr0.fz j (by omega)) (g2.cons g2.le _) ⟨b',rfl,PtsX.mono ((From.mono (sub1 g2.free)).trans (From.le (by omega))) hb'⟩ ⟨rfl,by simp only [↓E1,E2,zA,zB,zC,zD,zE,zF,zG,zH,zI,zJ,zK,zL,zM,zN,reduceIte,zO,zP,yk']⟩ (by rw [hli]; exact fits_le (by omega) (by decide) (by decide)) (λmu3 g3 G3=>?_)⟩
  have b3 : Ev.look mu3 ob = some [I l.base,l.snap.sv,xe]:=by
    rw [g3.own ob hob.2]; exact b1
  rw [hli] at G3 ⊢
  simp only [↓E1,E2,zA,zB,zC,zD,zE,zF,zG,zH,zI,zJ,zK,zL,zM,zN,reduceIte,zO,zP, *]
  refine hK _ _ _ _ ((g0.trans (g3.weaken hlo.1)).put hob.1 b3) (by have:=g2.le; omega) (by rw [look_putS,if_pos rfl,b3]; rfl) (λj hj hne=>by rw [look_putS,if_neg (by omega)]; exact g3.own j hj) (Grow.mono (R:=EntX) (λh g=>EntX.mono h g) ?_ (From.put hob.2 b3)) ?_ ?_ ?_ ?_ ?_
  · rw [List.take_add_one,List.getElem?_eq_getElem hi]; exact G3
  all_goals simp [updN,updE, *]
omit H in
theorem growEnts {lo : Nat} {M : Fz} {x : SV} {l : List Ent} (h : Grow lo M 5 EntX x l) : EntsX (From lo M) x l:=let ⟨cs,h1,h2⟩:=h; ⟨cs,h1,h2.imp λ_ _ g=>EntX.mono Ex.sub g⟩
theorem message_CloneLogG (l : Lg) (x : SV) (hL : l.ents.length ≤ 2513169434916) (hb : ∀ e ∈ l.ents,e.batch.length ≤ 4398046511104) : Ctr P n_message_CloneLog [.ag (lgC l x)] (λM=>EntsR M x l.ents) (λn _ M v=>∃ x',v = .ag (lgC l x') ∧ Grow n M 5 EntX x' l.ents):=Ctr.of H.mx H.message_CloneLog (λ_=>l.ents.length + 1) λfz mu n k hfr s1 hk=>by
  obtain ⟨xl,xs,xk,xm⟩:=s1.len
  rw [i_message_CloneLog,dc_at b_message_CloneLog.eq_1]
  unfold lgC
  simp only [↓E1,E2,zA,zB,zC,zD,zE,zF,zG,zH,zI,zJ,zK,zL,zM,zN,reduceIte,zO,zP, *]
  refine loopI (x:=0) (L:=l.ents.length) (p:=λ_=>true) (λi e mu' n'=>∃ xe,Gr n fz mu mu' n n' ∧ n + 3 ≤ n' ∧ Ev.look mu' (n + 1) = some [I 0,.str 0 0,.nsl] ∧ Ev.look mu' (n + 1 + 1) = some [I l.base,l.snap.sv,xe] ∧ Grow (n + 3) (with' mu' fz) 5 EntX xe (l.ents.take i) ∧ e 0 2 = .one (.optr (n + 1) 0) ∧ e 0 3 = .one (.optr (n + 1 + 1) 0) ∧ e 0 12 = .one x ∧ e 0 13 = .one (.int .i64 l.ents.length) ∧ e 0 14 = .one (.int .i64 i)) (λ_ _ _=>False) ?_ ?_ _ _ _ _ _ (by omega) ?_ ?_ ?_
  · rintro i e mu1 n1 K hi ⟨xe,g1,c2,c1,c3,c4,c5,c6,c7,c8,c9⟩ hy hn
    exact CloneLog_step H l x hfr s1 hL hb (n + 1 + 1) xe i hi g1.free ⟨by omega,c2⟩ g1 c3 (by omega) c4 c6 c7 c8 c9 (λe' mu' n' xe' g' a0 a1 a2 a3 a4 a5 a6 a7 a8=>hy rfl _ _ _ ⟨xe',g',a0,(a2 _ (by omega) (by omega)).trans c1,a1,a3,a4.trans c5,a5,a6,a7,a8⟩)
  · rintro e mu1 n1 K ⟨xe,g1,c2,c1,c3,c4,c5,c6,c7,c8,c9⟩ hx
    rw [dc_at l_message_CloneLog_0.eq_1]
    have hlt : (l.ents.length < l.ents.length) = False:=by simp
    simp only [↓E1,E2,zA,zB,zC,zD,zE,zF,zG,zH,zI,zJ,zK,zL,zM,zN,reduceIte,zO,zP, *]
    exact hx _ _ _ ⟨xe,g1,c2,c1,c3,c4,by simp [updN,updE,c5],by simp [updN,updE,c6],by simp [updN,updE,c7],by simp [updN,updE,c8],by simp [updN,updE,c9]⟩
  · exact ⟨.nsl,gr3 hfr,by omega,by simp [look_c],by simp [look_c],Grow.nil,by simp [updN,updE],by simp [updN,updE],by simp [updN,updE],by simp [updN,updE],by simp [updN,updE]⟩
  · rintro - e1 mu1 n1 ⟨xe,g1,c2,c1,c3,c4,c5,c6,c7,c8,c9⟩
    have b3:=look_with (fz:=fz) c3
    obtain ⟨-,-,zk,zm⟩:=c4.len
    simp only [↓E1,E2,zA,zB,zC,zD,zE,zF,zG,zH,zI,zJ,zK,zL,zM,zN,reduceIte,zO,zP, *]
    have g2:=g1.put (id:=n + 1) (by omega) c1 (c:=[I l.base,l.snap.sv,xe])
    have e1 : with' (putS mu1 (n + 1) [I l.base,l.snap.sv,xe]) fz (n + 1) = some [I l.base,l.snap.sv,xe]:=by rw [with_putS c1,if_pos rfl]
    simp only [↓E1,E2,zA,zB,zC,zD,zE,zF,zG,zH,zI,zJ,zK,zL,zM,zN,reduceIte,zO,zP, *]
    rw [List.take_length] at c4
    exact hk _ _ _ g2 ⟨xe,rfl,Grow.weaken (R:=EntX) (lo:=n + 3) (lo':=n) (λh g=>EntX.mono h g) (by omega) (Grow.mono (R:=EntX) (λh g=>EntX.mono h g) c4 (From.put (by omega) c1))⟩
  · rintro ⟨_,_,_,h⟩; cases h
theorem message_CloneLog (l : Lg) (x : SV) (hL : l.ents.length ≤ 2513169434916) (hb : ∀ e ∈ l.ents,e.batch.length ≤ 4398046511104) : Ctr P n_message_CloneLog [.ag (lgC l x)] (λM=>EntsR M x l.ents) (λn _ M v=>∃ x',v = .ag (lgC l x') ∧ EntsX (From n M) x' l.ents) :=
  (message_CloneLogG H l x hL hb).mono λ_ _ _ _ ⟨x',h1,h2⟩=>⟨x',h1,growEnts h2⟩
end Go.Proofs.Ytnnjlnkoomeadaa.Pv
namespace Go.Proofs.Ytnnjlnkoomeadaa.Pv
open Go.Ev Go.Ev.Rp
set_option maxRecDepth 100000
set_option maxHeartbeats 4000000
set_option linter.unusedSimpArgs false
set_option linter.unusedVariables false
set_option linter.unusedSectionVars false
def prv (p : Int) (l : List Int) (i : Nat) : Int:=if i = 0 then p else l.getD (i - 1) 0
def riseAt (me k p : Int) (l : List Int) (i : Nat) : Bool:=decide (prv p l i < l.getD i 0) && decide (l.getD i 0 < k) && decide (l.getD i 0 ≠ me)
theorem rises_all (me k : Int) : ∀ (l : List Int) (p : Int),risesB me k p l = (List.range l.length).all (riseAt me k p l)
  | [],p=>rfl
  | a :: l,p=>by
    rw [risesB,rises_all me k l a,List.length_cons,List.range_succ_eq_map,List.all_cons,List.all_map]
    congr 1
    apply List.all_congr rfl
    intro i
    cases i <;> rfl
def dosOk (r : Rep) (i : Nat) : Bool:=match r.dos[i]? with | none=>true | some d=>lgB d.log && decide (0 ≤ d.normal) && decide (d.normal < r.view) && decide (0 ≤ d.commit)
theorem dos_all (r : Rep) : dosB r = (List.range r.dos.length).all (dosOk r):=by
  unfold dosB
  rw [Bool.eq_iff_iff,List.all_eq_true,List.all_eq_true]
  constructor
  · intro h i hi
    have hi : i < r.dos.length:=by simpa using hi
    unfold dosOk
    rw [List.getElem?_eq_getElem hi]
    exact h _ (List.getElem_mem hi)
  · intro h d hd
    obtain ⟨i,hi,rfl⟩:=List.getElem_of_mem hd
    have:=h i (by simpa using hi)
    unfold dosOk at this
    rw [List.getElem?_eq_getElem hi] at this
    exact this
def doAt (r : Rep) (i : Nat) : Bool:=riseAt r.me r.nodes (-1) (r.dos.map (·.frm)) i && dosOk r i
theorem do_all (r : Rep) : (risesB r.me r.nodes (-1) (r.dos.map (·.frm)) && dosB r) = (List.range r.dos.length).all (doAt r):=by
  rw [rises_all,dos_all,List.length_map]
  unfold doAt
  rw [Bool.eq_iff_iff]
  simp only [Bool.and_eq_true,List.all_eq_true]
  exact ⟨λh i hi=>⟨h.1 i hi,h.2 i hi⟩,λh=>⟨λi hi=>(h i hi).1,λi hi=>(h i hi).2⟩⟩
theorem repB_eq (r : Rep) : repB r = (meB r.me r.nodes && decide (0 ≤ r.status) && decide (r.status ≤ 2) && countB r.view && countB r.normal && countB r.commit &&
  decide (r.normal ≤ r.view) && (decide (r.status ≠ 0) || decide (r.normal = r.view)) && lgB r.log && decide (r.log.base ≤ r.commit) && decide (r.commit ≤ last r.log) &&
  decide ((r.acks.length : Int) = r.nodes) && !(r.acks.any λa=>!countB a) && (decide (r.status = 1) || decide (r.starts.length = 0) && decide (r.dos.length = 0) && !r.sent) &&
  risesB r.me r.nodes (-1) r.starts && (risesB r.me r.nodes (-1) (r.dos.map (·.frm)) && dosB r)):=by
  unfold repB meB
  rw [List.all_eq_not_any_not,Bool.and_assoc (_ && risesB r.me r.nodes (-1) r.starts)]
variable {P : Program} (H : Fs P)
include H
theorem replica_May (r : Rep) (xe xa xs xd : SV) (hl1 : r.starts.length ≤ 1152921504606846976) (hl2 : r.dos.length ≤ 1152921504606846976) (hl3 : r.acks.length ≤ 1152921504606846976) :
    BoolC P n_replica_May [.ag (repC r xe xa xs xd)] (λM=>EntsR M xe r.log.ents ∧ IntsR M xa r.acks ∧ IntsR M xs r.starts ∧ DvsR M xd r.dos) (repB r):=boolC H.mx H.replica_May (r.starts.length + r.dos.length + 1) λfz mu n k hfr gg s h=>by
  obtain ⟨s1,s2,s3,s4⟩:=s
  obtain ⟨xel,xes,xek,xem⟩:=s1.len
  obtain ⟨xal,xas,xak,xam⟩:=s2.len
  obtain ⟨xsl,xss,xsk,xsm⟩:=s3.len
  obtain ⟨xdl,xds,xdk,xdm⟩:=s4.len
  have hfr0:=hfr
  have loop0 : Hide (∀ (e : Env) mu1 n1 (K : LK) w, Gr n fz mu mu1 n n1 → with' mu1 fz n = some (repC r xe xa xs xd) → e 0 1 = .one (.optr n 0) → e 6 14 = .one xs → e 6 15 = .one (.int .i64 r.starts.length) → e 7 0 = .one (.int .i64 0) → e 0 3 = .one (.int .i64 (-1)) →
      (risesB r.me r.nodes (-1) r.starts = true → ∀ e' mu' n',Gr n fz mu mu' n n' → with' mu' fz n = some (repC r xe xa xs xd) → e' 0 1 = .one (.optr n 0) → K (.exit 0) (tmE 184 e') mu' n') →
      (risesB r.me r.nodes (-1) r.starts = false → ∀ e' mu' n',Gr n fz mu mu' n n' → e' 0 2 = .one (.bool false) → K .ret (tmE 184 e') mu' n') →
      Lp (dcode pOrc False (CP P) fz (r.starts.length + r.dos.length + 1) l_replica_May_0) (r.starts.length + r.dos.length + 1) (tmE 184 e) mu1 n1 K w):=⟨by
    intro e mu1 n1 K w g1 a1 a2 a3 a4 a5 a6 hd hr
    rw [rises_all] at hd hr
    refine loopI (x:=0) (L:=r.starts.length) (p:=riseAt r.me r.nodes (-1) r.starts) (λi e mu' n'=>Gr n fz mu mu' n n' ∧ with' mu' fz n = some (repC r xe xa xs xd) ∧ e 0 1 = .one (.optr n 0) ∧ e 6 14 = .one xs ∧ e 6 15 = .one (.int .i64 r.starts.length) ∧ e 7 0 = .one (.int .i64 i) ∧ e 0 3 = .one (.int .i64 (prv (-1) r.starts i)))
      (λe mu' n'=>Gr n fz mu mu' n n' ∧ e 0 2 = .one (.bool false)) ?_ ?_ e mu1 n1 K w (by omega) ⟨g1,a1,a2,a3,a4,a5,a6⟩ (λha e' mu' n' hI=>hd (all_range ha) e' mu' n' hI.1 hI.2.1 hI.2.2.1) (λhx e' mu' n' hR=>hr (not_all_range hx) e' mu' n' hR.1 hR.2)
    · rintro i e mu1 n1 K hi ⟨g1,b1,a2,a3,a4,a5,a6⟩ hy hn
      have t3:=IntsR.mono (λ_ _ hh=>g1.old hfr0 hh) s3
      obtain ⟨id,off,cap,B,rfl,hB,hmk,hbd,hsub⟩:=t3.elem hi
      have hw:=wrap_succ hi (by omega)
      have hle:=Nat.le_refl n1
      have hp : prv (-1) r.starts (i + 1) = r.starts[i]:=by simp [prv,hi]
      have hg : r.starts.getD i 0 = r.starts[i]:=by simp [hi]
      clear hd hr h
      unfold repC at b1
      rw [dc_at l_replica_May_0.eq_1]
      simp only [↓E1,E2,zA,zB,zC,zD,zE,zF,zG,zH,zI,zJ,zK,zL,zM,zN,reduceIte,zO,zP, *]
      repeat' (first | ((with_reducible refine Br_intro (λhb=>?_) (λhb=>?_)) <;> simp only [↓E1,E2,zA,zB,zC,zD,zE,zF,zG,zH,zI,zJ,zK,zL,zM,zN,reduceIte,zO,zP, *]))
      all_goals first
        | (refine hy ?_ _ _ _ ⟨g1,b1,?_,?_,?_,?_,?_⟩ <;> (try simp [updN,updE, *]) <;> (clear hy hn; simp_all [riseAt]); done)
        | (refine hn ?_ _ _ _ ⟨g1,?_⟩ <;> (try simp [updN,updE, *]) <;> (clear hy hn; simp_all [riseAt]; try omega); done)
    · rintro e mu n K hI hd
      obtain ⟨g1,a1,a2,a3,a4,a5,a6⟩:=id hI
      rw [dc_at l_replica_May_0.eq_1]
      have hlt : (r.starts.length < r.starts.length) = False:=by simp
      simp only [↓E1,E2,zA,zB,zC,zD,zE,zF,zG,zH,zI,zJ,zK,zL,zM,zN,reduceIte,zO,zP, *]
      all_goals refine hd _ _ _ ⟨g1,a1,by simp [updN,updE, *],by simp [updN,updE, *],by simp [updN,updE, *],by simp [updN,updE, *],by simp [updN,updE, *]⟩⟩
  have loop1 : Hide (∀ (e : Env) mu1 n1 (K : LK) w, Gr n fz mu mu1 n n1 → with' mu1 fz n = some (repC r xe xa xs xd) → e 0 1 = .one (.optr n 0) → e 8 6 = .one xd → e 8 7 = .one (.int .i64 r.dos.length) → e 8 8 = .one (.int .i64 0) → e 0 3 = .one (.int .i64 (-1)) →
      ((risesB r.me r.nodes (-1) (r.dos.map (·.frm)) && dosB r) = true → ∀ e' mu' n',Gr n fz mu mu' n n' → K (.exit 2) (tmE 184 e') mu' n') →
      ((risesB r.me r.nodes (-1) (r.dos.map (·.frm)) && dosB r) = false → ∀ e' mu' n',Gr n fz mu mu' n n' → e' 0 2 = .one (.bool false) → K .ret (tmE 184 e') mu' n') →
      Lp (dcode pOrc False (CP P) fz (r.starts.length + r.dos.length + 1) l_replica_May_1) (r.starts.length + r.dos.length + 1) (tmE 184 e) mu1 n1 K w):=⟨by
    clear loop0
    intro e mu1 n1 K w g1 a1 a2 a3 a4 a5 a6 hd hr
    rw [do_all] at hd hr
    refine loopI (x:=2) (L:=r.dos.length) (p:=doAt r) (λi e mu' n'=>Gr n fz mu mu' n n' ∧ with' mu' fz n = some (repC r xe xa xs xd) ∧ e 0 1 = .one (.optr n 0) ∧ e 8 6 = .one xd ∧ e 8 7 = .one (.int .i64 r.dos.length) ∧ e 8 8 = .one (.int .i64 i) ∧ e 0 3 = .one (.int .i64 (prv (-1) (r.dos.map (·.frm)) i)))
      (λe mu' n'=>Gr n fz mu mu' n n' ∧ e 0 2 = .one (.bool false)) ?_ ?_ e mu1 n1 K w (by omega) ⟨g1,a1,a2,a3,a4,a5,a6⟩ (λha e' mu' n' hI=>hd (all_range ha) e' mu' n' hI.1) (λhx e' mu' n' hR=>hr (not_all_range hx) e' mu' n' hR.1 hR.2)
    · rintro i e mu1 n1 K hi ⟨g1,b1,a2,a3,a4,a5,a6⟩ hy hn
      have t4:=DvsR.mono (λ_ _ hh=>g1.old hfr0 hh) s4
      obtain ⟨id,off,cap,B,bx,rfl,hB,hmk,hbd,hsub,t5⟩:=t4.elem hi
      obtain ⟨ybl,ybs,ybk,ybm⟩:=t5.len
      have hw:=wrap_succ hi (by omega)
      have hle:=Nat.le_refl n1
      have hfr:=g1.free
      have gg:=Gr.refl (lo:=n1) hfr
      have hp : prv (-1) (r.dos.map (·.frm)) (i + 1) = r.dos[i].frm:=by simp [prv,hi]
      have hg : (r.dos.map (·.frm)).getD i 0 = r.dos[i].frm:=by simp [hi]
      have hgi : r.dos[i]? = some r.dos[i]:=List.getElem?_eq_getElem hi
      have hn1 : n < n1:=g1.free.lt b1
      have hne : ¬ n1 = n:=by omega
      have hmm:=message_MayLog H r.dos[i].log bx
      clear hd hr h
      unfold repC at b1
      unfold dvC at hsub
      rw [dc_at l_replica_May_1.eq_1]
      simp only [↓E1,E2,zA,zB,zC,zD,zE,zF,zG,zH,zI,zJ,zK,zL,zM,zN,reduceIte,zO,zP, *]
      repeat' (first | ((with_reducible refine Br_intro (λhb=>?_) (λhb=>?_)) <;> simp only [↓E1,E2,zA,zB,zC,zD,zE,zF,zG,zH,zI,zJ,zK,zL,zM,zN,reduceIte,zO,zP, *]) | ((with_reducible refine CPr_f (f:=n_message_MayLog) ?_); ((first | (refine (hmm).d2 hfr (by first | trivial | exact t5 | assumption) ?_; rintro v mu2 n2 g2 rfl) | (refine (hmm).d3 hfr (λhm=>by first | trivial | exact EntsR.mono hm t5) ?_; rintro v mu2 n2 g2 b7 rfl) | (refine (hmm).c1 hfr (by first | trivial | exact t5 | assumption) ?_; rintro v mu2 n2 g2 rfl) | (refine (hmm).c2 hfr (λhm=>by first | trivial | exact EntsR.mono hm t5) ?_; rintro v mu2 n2 g2 b7 rfl) | (refine (hmm).c3 hfr (λhm=>by first | trivial | exact EntsR.mono hm t5) ?_; rintro v mu2 n2 g2 b7 b8 rfl)); (try replace b1:=g2.old hfr b1); (try replace b7:=g2.old hfr b7); (try replace t5:=EntsR.mono (λ_ _ hh=>g2.old hfr hh) t5); replace gg:=gg.trans (g2.weaken hle); replace hle:=Nat.le_trans hle g2.le; replace hfr:=g2.free; clear g2; simp only [↓E1,E2,zA,zB,zC,zD,zE,zF,zG,zH,zI,zJ,zK,zL,zM,zN,reduceIte,zO,zP, *])))
      all_goals first
        | (refine hy ?_ _ _ _ ⟨g1.trans (gg.weaken g1.le),b1,?_,?_,?_,?_,?_⟩ <;> (try simp [updN,updE, *]) <;> (clear hy hn hmm; simp_all [doAt,riseAt,dosOk]); done)
        | (refine hn ?_ _ _ _ ⟨(by first | exact g1.trans (gg.weaken g1.le) | exact g1.cons g1.le _),?_⟩ <;> (try simp [updN,updE, *]) <;> (clear hy hn hmm; simp_all [doAt,riseAt,dosOk]; try omega); done)
    · rintro e mu n K hI hd
      obtain ⟨g1,a1,a2,a3,a4,a5,a6⟩:=id hI
      rw [dc_at l_replica_May_1.eq_1]
      have hlt : (r.dos.length < r.dos.length) = False:=by simp
      simp only [↓E1,E2,zA,zB,zC,zD,zE,zF,zG,zH,zI,zJ,zK,zL,zM,zN,reduceIte,zO,zP, *]
      all_goals refine hd _ _ _ ⟨g1,a1,by simp [updN,updE, *],by simp [updN,updE, *],by simp [updN,updE, *],by simp [updN,updE, *],by simp [updN,updE, *]⟩⟩
  rw [i_replica_May,dc_at b_replica_May.eq_1]
  have hA : True:=trivial
  have hle:=Nat.le_refl n
  have hwa : IntKind.i64.wrap ((r.starts.length : Int) + r.dos.length) = ((r.starts.length + r.dos.length : Nat) : Int):=by rw [wrap64 (by omega) (by omega)]; rfl
  unfold repC
  simp only [↓E1,E2,zA,zB,zC,zD,zE,zF,zG,zH,zI,zJ,zK,zL,zM,zN,reduceIte,zO,zP, *]
  repeat' (first | ((with_reducible refine Br_intro (λhb=>?_) (λhb=>?_)) <;> (replace hA:=And.intro hA hb; clear hb; simp only [↓E1,E2,zA,zB,zC,zD,zE,zF,zG,zH,zI,zJ,zK,zL,zM,zN,reduceIte,zO,zP, *])) | ((with_reducible refine CPr_f (f:=n_repair_Nodes) ?_); ((first | (refine (repair_Nodes H _ _).d2 hfr (by first | trivial | exact s1 | exact s2 | exact s3 | exact s4 | assumption) ?_; rintro v mu2 n2 g2 rfl) | (refine (repair_Nodes H _ _).d3 hfr (λhm=>by first | trivial | exact EntsR.mono hm s1 | exact IntsR.mono hm s2 | exact IntsR.mono hm s3 | exact DvsR.mono hm s4) ?_; rintro v mu2 n2 g2 b1 rfl) | (refine (repair_Nodes H _ _).c1 hfr (by first | trivial | exact s1 | exact s2 | exact s3 | exact s4 | assumption) ?_; rintro v mu2 n2 g2 rfl) | (refine (repair_Nodes H _ _).c2 hfr (λhm=>by first | trivial | exact EntsR.mono hm s1 | exact IntsR.mono hm s2 | exact IntsR.mono hm s3 | exact DvsR.mono hm s4) ?_; rintro v mu2 n2 g2 b1 rfl) | (refine (repair_Nodes H _ _).c3 hfr (λhm=>by first | trivial | exact EntsR.mono hm s1 | exact IntsR.mono hm s2 | exact IntsR.mono hm s3 | exact DvsR.mono hm s4) ?_; rintro v mu2 n2 g2 b1 b2 rfl)); (try replace b1:=g2.old hfr b1); (try replace s1:=EntsR.mono (λ_ _ hh=>g2.old hfr hh) s1); (try replace s2:=IntsR.mono (λ_ _ hh=>g2.old hfr hh) s2); (try replace s3:=IntsR.mono (λ_ _ hh=>g2.old hfr hh) s3); (try replace s4:=DvsR.mono (λ_ _ hh=>g2.old hfr hh) s4); replace gg:=gg.trans (g2.weaken hle); replace hle:=Nat.le_trans hle g2.le; replace hfr:=g2.free; clear g2; simp only [↓E1,E2,zA,zB,zC,zD,zE,zF,zG,zH,zI,zJ,zK,zL,zM,zN,reduceIte,zO,zP, *])) | ((with_reducible refine CPr_f (f:=n_replica_within) ?_); ((first | (refine (replica_within H _).d2 hfr (by first | trivial | exact s1 | exact s2 | exact s3 | exact s4 | assumption) ?_; rintro v mu2 n2 g2 rfl) | (refine (replica_within H _).d3 hfr (λhm=>by first | trivial | exact EntsR.mono hm s1 | exact IntsR.mono hm s2 | exact IntsR.mono hm s3 | exact DvsR.mono hm s4) ?_; rintro v mu2 n2 g2 b1 rfl) | (refine (replica_within H _).c1 hfr (by first | trivial | exact s1 | exact s2 | exact s3 | exact s4 | assumption) ?_; rintro v mu2 n2 g2 rfl) | (refine (replica_within H _).c2 hfr (λhm=>by first | trivial | exact EntsR.mono hm s1 | exact IntsR.mono hm s2 | exact IntsR.mono hm s3 | exact DvsR.mono hm s4) ?_; rintro v mu2 n2 g2 b1 rfl) | (refine (replica_within H _).c3 hfr (λhm=>by first | trivial | exact EntsR.mono hm s1 | exact IntsR.mono hm s2 | exact IntsR.mono hm s3 | exact DvsR.mono hm s4) ?_; rintro v mu2 n2 g2 b1 b2 rfl)); (try replace b1:=g2.old hfr b1); (try replace s1:=EntsR.mono (λ_ _ hh=>g2.old hfr hh) s1); (try replace s2:=IntsR.mono (λ_ _ hh=>g2.old hfr hh) s2); (try replace s3:=IntsR.mono (λ_ _ hh=>g2.old hfr hh) s3); (try replace s4:=DvsR.mono (λ_ _ hh=>g2.old hfr hh) s4); replace gg:=gg.trans (g2.weaken hle); replace hle:=Nat.le_trans hle g2.le; replace hfr:=g2.free; clear g2; simp only [↓E1,E2,zA,zB,zC,zD,zE,zF,zG,zH,zI,zJ,zK,zL,zM,zN,reduceIte,zO,zP, *])) | ((with_reducible refine CPr_f (f:=n_message_MayLog) ?_); ((first | (refine (message_MayLog H r.log xe).d2 hfr (by first | trivial | exact s1 | exact s2 | exact s3 | exact s4 | assumption) ?_; rintro v mu2 n2 g2 rfl) | (refine (message_MayLog H r.log xe).d3 hfr (λhm=>by first | trivial | exact EntsR.mono hm s1 | exact IntsR.mono hm s2 | exact IntsR.mono hm s3 | exact DvsR.mono hm s4) ?_; rintro v mu2 n2 g2 b1 rfl) | (refine (message_MayLog H r.log xe).c1 hfr (by first | trivial | exact s1 | exact s2 | exact s3 | exact s4 | assumption) ?_; rintro v mu2 n2 g2 rfl) | (refine (message_MayLog H r.log xe).c2 hfr (λhm=>by first | trivial | exact EntsR.mono hm s1 | exact IntsR.mono hm s2 | exact IntsR.mono hm s3 | exact DvsR.mono hm s4) ?_; rintro v mu2 n2 g2 b1 rfl) | (refine (message_MayLog H r.log xe).c3 hfr (λhm=>by first | trivial | exact EntsR.mono hm s1 | exact IntsR.mono hm s2 | exact IntsR.mono hm s3 | exact DvsR.mono hm s4) ?_; rintro v mu2 n2 g2 b1 b2 rfl)); (try replace b1:=g2.old hfr b1); (try replace s1:=EntsR.mono (λ_ _ hh=>g2.old hfr hh) s1); (try replace s2:=IntsR.mono (λ_ _ hh=>g2.old hfr hh) s2); (try replace s3:=IntsR.mono (λ_ _ hh=>g2.old hfr hh) s3); (try replace s4:=DvsR.mono (λ_ _ hh=>g2.old hfr hh) s4); replace gg:=gg.trans (g2.weaken hle); replace hle:=Nat.le_trans hle g2.le; replace hfr:=g2.free; clear g2; simp only [↓E1,E2,zA,zB,zC,zD,zE,zF,zG,zH,zI,zJ,zK,zL,zM,zN,reduceIte,zO,zP, *])) | ((with_reducible refine CPr_f (f:=n_choose_Last) ?_); ((first | (refine (choose_Last H r.log xe).d2 hfr (by first | trivial | exact s1 | exact s2 | exact s3 | exact s4 | assumption) ?_; rintro v mu2 n2 g2 rfl) | (refine (choose_Last H r.log xe).d3 hfr (λhm=>by first | trivial | exact EntsR.mono hm s1 | exact IntsR.mono hm s2 | exact IntsR.mono hm s3 | exact DvsR.mono hm s4) ?_; rintro v mu2 n2 g2 b1 rfl) | (refine (choose_Last H r.log xe).c1 hfr (by first | trivial | exact s1 | exact s2 | exact s3 | exact s4 | assumption) ?_; rintro v mu2 n2 g2 rfl) | (refine (choose_Last H r.log xe).c2 hfr (λhm=>by first | trivial | exact EntsR.mono hm s1 | exact IntsR.mono hm s2 | exact IntsR.mono hm s3 | exact DvsR.mono hm s4) ?_; rintro v mu2 n2 g2 b1 rfl) | (refine (choose_Last H r.log xe).c3 hfr (λhm=>by first | trivial | exact EntsR.mono hm s1 | exact IntsR.mono hm s2 | exact IntsR.mono hm s3 | exact DvsR.mono hm s4) ?_; rintro v mu2 n2 g2 b1 b2 rfl)); (try replace b1:=g2.old hfr b1); (try replace s1:=EntsR.mono (λ_ _ hh=>g2.old hfr hh) s1); (try replace s2:=IntsR.mono (λ_ _ hh=>g2.old hfr hh) s2); (try replace s3:=IntsR.mono (λ_ _ hh=>g2.old hfr hh) s3); (try replace s4:=DvsR.mono (λ_ _ hh=>g2.old hfr hh) s4); replace gg:=gg.trans (g2.weaken hle); replace hle:=Nat.le_trans hle g2.le; replace hfr:=g2.free; clear g2; simp only [↓E1,E2,zA,zB,zC,zD,zE,zF,zG,zH,zI,zJ,zK,zL,zM,zN,reduceIte,zO,zP, *])) | ((with_reducible refine CPr_f (f:=n_slices_ContainsFunc_int_int) ?_); ((first | (refine (contains_ints H _ _ (replica_May_1 H) xa r.acks (Nat.le_trans hl3 (by decide))).d2 hfr (by first | trivial | exact s1 | exact s2 | exact s3 | exact s4 | assumption) ?_; rintro v mu2 n2 g2 rfl) | (refine (contains_ints H _ _ (replica_May_1 H) xa r.acks (Nat.le_trans hl3 (by decide))).d3 hfr (λhm=>by first | trivial | exact EntsR.mono hm s1 | exact IntsR.mono hm s2 | exact IntsR.mono hm s3 | exact DvsR.mono hm s4) ?_; rintro v mu2 n2 g2 b1 rfl) | (refine (contains_ints H _ _ (replica_May_1 H) xa r.acks (Nat.le_trans hl3 (by decide))).c1 hfr (by first | trivial | exact s1 | exact s2 | exact s3 | exact s4 | assumption) ?_; rintro v mu2 n2 g2 rfl) | (refine (contains_ints H _ _ (replica_May_1 H) xa r.acks (Nat.le_trans hl3 (by decide))).c2 hfr (λhm=>by first | trivial | exact EntsR.mono hm s1 | exact IntsR.mono hm s2 | exact IntsR.mono hm s3 | exact DvsR.mono hm s4) ?_; rintro v mu2 n2 g2 b1 rfl) | (refine (contains_ints H _ _ (replica_May_1 H) xa r.acks (Nat.le_trans hl3 (by decide))).c3 hfr (λhm=>by first | trivial | exact EntsR.mono hm s1 | exact IntsR.mono hm s2 | exact IntsR.mono hm s3 | exact DvsR.mono hm s4) ?_; rintro v mu2 n2 g2 b1 b2 rfl)); (try replace b1:=g2.old hfr b1); (try replace s1:=EntsR.mono (λ_ _ hh=>g2.old hfr hh) s1); (try replace s2:=IntsR.mono (λ_ _ hh=>g2.old hfr hh) s2); (try replace s3:=IntsR.mono (λ_ _ hh=>g2.old hfr hh) s3); (try replace s4:=DvsR.mono (λ_ _ hh=>g2.old hfr hh) s4); replace gg:=gg.trans (g2.weaken hle); replace hle:=Nat.le_trans hle g2.le; replace hfr:=g2.free; clear g2; simp only [↓E1,E2,zA,zB,zC,zD,zE,zF,zG,zH,zI,zJ,zK,zL,zM,zN,reduceIte,zO,zP, *])))
  all_goals try (refine leafB h (by first | exact gg | exact gg.cons hle _ | exact (gg.cons hle _).cons (Nat.le_succ_of_le hle) _) ?_; (clear h gg hle hfr); (try clear loop); (try clear loop0); (try clear loop1); (try clear s1); (try clear s2); (try clear s3); (try clear s4); (try clear b1); (try clear b2); clear xel xes xek xem xal xas xak xam xsl xss xsk xsm xdl xds xdk xdm hfr0 hwa; rw [repB_eq]; (try generalize (r.acks.any λa=>!countB a) = qq at hA ⊢); first | (simp_all [-List.length_eq_zero_iff]; done) | (simp_all [-List.length_eq_zero_iff]; omega))
  all_goals ((with_reducible refine Lp_at ?_); refine loop0.out _ _ _ _ _ gg b1 (by simp [updN,updE]) (by simp [updN,updE]) (by simp [updN,updE]) (by simp [updN,updE]) (by simp [updN,updE]) (λhr e1 mu1 n1 g1 b1 a2=>?_) (λhr e1 mu1 n1 g1 a1=>?_))
  all_goals (replace hA:=And.intro hA hr; clear hr gg s1 s2 s3 s4 hfr hle)
  all_goals try (simp only [↓E1,E2,zA,zB,zC,zD,zE,zF,zG,zH,zI,zJ,zK,zL,zM,zN,reduceIte,zO,zP, *]; refine leafB h g1 ?_; clear h g1 loop0 loop1 b1 xel xes xek xem xal xas xak xam xsl xss xsk xsm xdl xds xdk xdm hfr0 hwa; rw [repB_eq]; (try generalize (r.acks.any λa=>!countB a) = qq at hA ⊢); simp_all [-List.length_eq_zero_iff]; done)
  all_goals
    have b0:=b1
    unfold repC at b1
    simp only [↓E1,E2,zA,zB,zC,zD,zE,zF,zG,zH,zI,zJ,zK,zL,zM,zN,reduceIte,zO,zP, *]
    refine loop1.out _ _ _ _ _ g1 b0 (by simp [updN,updE, *]) (by simp [updN,updE, *]) (by simp [updN,updE, *]) (by simp [updN,updE, *]) (by simp [updN,updE, *]) (λhr e2 mu2 n2 g2=>?_) (λhr e2 mu2 n2 g2 a1=>?_)
  all_goals (replace hA:=And.intro hA hr; clear hr; simp only [↓E1,E2,zA,zB,zC,zD,zE,zF,zG,zH,zI,zJ,zK,zL,zM,zN,reduceIte,zO,zP, *]; refine leafB h g2 ?_; clear h g1 g2 loop0 loop1 b0 b1 xel xes xek xem xal xas xak xam xsl xss xsk xsm xdl xds xdk xdm hfr0 hwa; rw [repB_eq]; (try generalize (r.acks.any λa=>!countB a) = qq at hA ⊢); first | (simp_all [-List.length_eq_zero_iff]; done) | (simp_all [-List.length_eq_zero_iff]; omega) | (simp_all [-List.length_eq_zero_iff]; exfalso; omega))
end Go.Proofs.Ytnnjlnkoomeadaa.Pv
