/-
  run.Print of one act of one number: walked.
-/
import Derived.Test.YteojiklbcfbliaaGreatDoorRnG
import Derived.Test.YteojiklbcfbliaaGreatDoorRnS
import Derived.Test.YteojiklbcfbliaaGreatDoorLay
set_option linter.unusedVariables false
set_option linter.unusedSimpArgs false
noncomputable section
namespace Go.Ry
open Go Go.Conc Go.Proofs Go.RowKit Go.Kn Go.Kx
def at27 (a : Act) : Nat:=match a.tmps[27]? with | some (Value.int _ k)=>k.toNat | _=>0
theorem built_below {T e : TypeId} {B b : Nat} {bs : List Value} {W W' : World} (h : Lib.IsBuilder T e B b bs W) (hb : Below W.heap.size W W') : Lib.IsBuilder T e B b bs W':=by
 have key : ∀ {p : Value},Lib.BuilderAt T e B b p bs W → Lib.BuilderAt T e B b p bs W':=fun {p} h=>by
  have hlt:=h.lt
  obtain ⟨hB,v,hv,hown,hne⟩:=h
  exact ⟨hB,v,(hb.block b hlt).trans hv,hown.kept (row:=none) ⟨hb.os,hb.tape,hb.output,hb.size,λk hk _=>hb.block k hk⟩ (Classical.em _),hne⟩
 exact h.elim (λx=>.inl (key x)) (λx=>.inr (key x))
theorem same_below {w w' : World} (h : Go.Ev.Fr (λ_=>none) [] w w') : Below w.heap.size w w' :=
 ⟨h.os,h.tape,h.output,h.size,λi hi=>h.keep i hi λid p hl=>by cases hl⟩
theorem nodes_eq : (⟨#[110,111,100,101,115]⟩ : ByteArray) ++ ((⟨#[32]⟩ : ByteArray) ++ ⟨(Lib.itoa 3).toArray⟩) = nodesT:=by
 refine ba_inj ?_
 rw [append_list,append_list]
 have e : Lib.itoa 3 = [51]:=by rw [show Lib.itoa 3 = Lib.decDigits 3 from rfl,Lib.decDigits]; rfl
 rw [e]
 rfl
theorem contains_no (D : ByteArray) (h : (10 : UInt8) ∉ D.data.toList) (hs : D.size ≤ 100) (w : World) (hg : Gl w) :
 Calls Tryz.prog 18 #[.string (tickT D),.string ⟨#[10]⟩] w λe w'=>e = .returned (.bool false) ∧ w' = w:=by
 obtain ⟨mx,hm⟩:=hg.max
 refine (Any.strings_Contains lays144 (tickT D) ⟨#[10]⟩ mx w (by rw [tickT_size]; omega) hm).mono λe w' ⟨he,hw⟩=>⟨?_,hw⟩
 have hi : Lib.index (tickT D).data.toList [10] = -1:=index_no _ _ (by rw [tickT_list]; simpa using h)
 rw [he]
 show Ending.returned (.bool (decide (0 ≤ Lib.index (tickT D).data.toList [10]))) = _
 rw [hi]
 rfl
theorem wpList_load_wanted {P : Program} {ops : Array Oper} {rest : List Oper} {op : Oper} {a : Act} {w : World} {Q : Exit → Act → World → Prop} (hw : Region.wanted op (yielded ops a.tmps) = true) (ty : TypeId) (x : Operand) (ho : op.op = .load ty x)
 (b o : Nat) (hx : a.eval x = .pointer (some ⟨b,o,none⟩)) (cs : List Value) (d : TypeDesc) (hc : w.rangeAt b o cs)
 (hu : P.underlying ty = some d) (hd : d.isRow = true) (hi : (P.info? ty).map (·.size) = some cs.length)
 (h : wpList P ops Q rest (a.put op.dst (.agg cs.toArray)) w) : wpList P ops Q (op :: rest) a w :=
 wpList_step λK hK=>by rw [if_pos hw]; exact wp_load_mid ty x ho b o hx cs d hc hu hd hi (hK _ _ h)
def outL (D : ByteArray) : List UInt8:=nodesT.data.toList ++ [10] ++ ((tickT D).data.toList ++ [10])
def Printed (w : World) (D : ByteArray) (b : Bool) (e : Ending) (w' : World) : Prop:=Below w.heap.size w w' ∧
 (b = false ∧ e = .returned (.tuple #[.string ⟨#[]⟩,.int .i64 2600]) ∨ b = true ∧ e = .returned (.tuple #[.string ⟨(outL D).toArray⟩,.int .i64 0]))
set_option maxHeartbeats 2000000 in
set_option maxRecDepth 100000 in
theorem print_tick (x : Int) (D : ByteArray) (hDx : D = ⟨(Lib.itoa x).toArray⟩) (b : Bool) (h1 : -9223372036854775808 < x) (h2 : x ≤ 9223372036854775807) (hs : (Lib.itoa x).length ≤ 20) (hD : (32 : UInt8) ∉ D.data.toList) (hD2 : (10 : UInt8) ∉ D.data.toList)
 (A c : Nat) (w : World) (hg : Gl w) (hA : A < w.heap.size) (hr : w.rangeAt A 0 (actC 3 x))
 (hn : ∀ W,Below w.heap.size w W → Calls Tryz.prog 11 #[.string D] W λe w'=>e = .returned (.tuple #[.int .i64 x,.bool b]) ∧ Below W.heap.size W w') :
 Calls Tryz.prog 7 #[.int .i64 3,.slice (some ⟨A,0,none⟩) 1 c] w λe w'=>Printed w D b e w':=by
 have hi37 : (Tryz.prog.info? 37).map (·.size) = some 24:=by kernel_rfl
 have hTs : (tickT D).size ≤ 25:=by rw [tickT_size,hDx]; have h9 : (⟨(Lib.itoa x).toArray⟩ : ByteArray).size ≤ 20:=(by simpa [ByteArray.size] using hs); omega
 have hDs : D.size ≤ 20:=by rw [hDx]; simpa [ByteArray.size] using hs
 have k1:=λ(A : Nat) (W : World) (hb : Below w.heap.size w W) (hA : A < W.heap.size) (hc : W.cell? ⟨A,0,none⟩ = some (.int .i64 3))=>words_one ⟨#[110,111,100,101,115]⟩ 3 (by decide) (by decide) (by decide) (by rw [show Lib.itoa 3 = Lib.decDigits 3 from rfl,Lib.decDigits]; decide) A W (hg.tab.on hb) hA hc
 rw [nodes_eq] at k1
 have k2:=λW (h : Below w.heap.size w W)=>line_tick x h1 h2 hs W (hg.on h)
 rw [← hDx] at k2
 clear hDx
 have k3:=λW (h : Below w.heap.size w W)=>act_tick D x b hD (by omega) W (hg.on h) (λV hV=>hn V (h.trans (hV.mono h.size)))
 have k4:=λW (h : Below w.heap.size w W)=>contains_no D hD2 (by omega) W (hg.on h)
 clear hn
 have hI0:=Lib.fresh_isBuilder 52 5 w
 have hbA:=Below.alloc (Below.refl w.heap.size w) (Nat.le_refl _) (.cells #[.pointer none,.slice none 0 0] 52)
 refine calls_of_wpN Tryz.func7 rfl ?_
 simp only [Tryz.ntmps7,List.size_toArray,List.length_cons,List.length_nil,Nat.reduceAdd,Nat.reduceSub,Array.replicate_succ,
  Array.replicate_zero,List.push_toArray,List.append_toArray,List.nil_append,List.cons_append]
 refine wpN_seq (of_wp ?_)
 go_wp2
 refine wpN_seq (of_wp ?_)
 go_wp2
 refine (λ(h : ∀ V,Below w.heap.size w V → Lib.IsBuilder 52 5 w.heap.size w.heap.size (Lib.byteCells []) V → WpN Tryz.prog _ _ _ V)=>h _ hbA hI0) ?_
 clear hbA hI0
 intro W0 hb0 hI0
 have hz0:=hb0.size
 have k5 : Calls Tryz.prog 14 #[.string ⟨#[110,111,100,101,115]⟩,.slice (some ⟨W0.heap.size,0,none⟩) 1 1] (W0.alloc (.cells #[.int .i64 3] 3)) λe w'=>e = .returned (.string nodesT) ∧ Below w.heap.size w w' ∧ Lib.IsBuilder 52 5 w.heap.size w.heap.size (Lib.byteCells []) w':=by
  have ha : Below W0.heap.size W0 (W0.alloc (.cells #[.int .i64 3] 3)):=Below.alloc (Below.refl _ _) (Nat.le_refl _) _
  have hw:=hb0.trans (ha.mono hz0)
  refine (k1 W0.heap.size _ hw (by show _ < (W0.heap.push _).size; rw [Array.size_push]; omega) (World.cell?_alloc_at (w:=W0) _ _ _ _ rfl)).mono ?_
  rintro e w' ⟨he,hb⟩
  exact ⟨he,hw.trans (hb.mono hw.size),built_below (built_below hI0 ha) hb⟩
 refine wpN_seq (of_wp ?_)
 go_wp2_with (first | (go_at_call 14; refine k5.mono ?_; rintro e W1 ⟨rfl,hb1,hI1⟩; clear k5 k1 hI0) | (go_at_call 13; refine (knPutA w.heap.size [] nodesT ⟨#[10]⟩ rfl (by decide) W1 hI1 hb1.size).mono ?_; rintro e W2 ⟨rfl,hI2,hb2⟩; replace hb2:=hb1.trans hb2; clear hI1 hb1))
 refine wpN_seq (wpN_seq (of_wp ?_))
 go_wp2_with (go_at_call 15; refine (fits_ok 3 (by decide) (by decide) _).mono ?_; rintro e W3 ⟨rfl,hW3⟩; have h9:=hW3.symm; clear hW3; subst h9)
 refine of_wp ?_
 go_wp2
 refine wpN_seq ?_
 refine wpN_seq (of_wp ?_)
 go_wp2
 refine wpN_block (wpN_loop (λa W=>∃ (i : Nat) (u2 u3 u7 u8 u9 u10 u11 u12 u13 u14 u15 u16 u17 u18 u19 u20 u21 u22 u23 u24 u28 u29 u30 u31 u32 u33 u34 u35 u36 u37 u38 u39 u40 u41 u42 u43 u44 u45 u46 u47 u48 u49 u50 u51 u52 u53 u54 u55 u56 : Value),(i = 0 ∧ Lib.IsBuilder 52 5 w.heap.size w.heap.size (Lib.byteCells ([] ++ (nodesT.data.toList ++ [10]))) W ∨ i = 1 ∧ b = true ∧ Lib.IsBuilder 52 5 w.heap.size w.heap.size (Lib.byteCells (outL D)) W) ∧ Below w.heap.size w W ∧ a = ⟨#[.int .i64 3,.slice (some ⟨A,0,none⟩) 1 c,u2,u3,.string ⟨#[]⟩,.int .i64 0,.pointer (some ⟨w.heap.size,0,none⟩),u7,u8,u9,u10,u11,u12,u13,u14,u15,u16,u17,u18,u19,u20,u21,u22,u23,u24,.slice (some ⟨A,0,none⟩) 1 c,.int .i64 1,.int .i64 (i : Nat),u28,u29,u30,u31,u32,u33,u34,u35,u36,u37,u38,u39,u40,u41,u42,u43,u44,u45,u46,u47,u48,u49,u50,u51,u52,u53,u54,u55,u56],[]⟩) (λa _=>2 - at27 a) ?_ ?_)
 ·exact ⟨0,_,_,_,_,_,_,_,_,_,_,_,_,_,_,_,_,_,_,_,_,_,_,_,_,_,_,_,_,_,_,_,_,_,_,_,_,_,_,_,_,_,_,_,_,_,_,_,_,_,.inl ⟨rfl,hI2⟩,hb2,rfl⟩
 ·clear hI2 hb2 hb0 hz0
  rintro a V ⟨i,u2,u3,u7,u8,u9,u10,u11,u12,u13,u14,u15,u16,u17,u18,u19,u20,u21,u22,u23,u24,u28,u29,u30,u31,u32,u33,u34,u35,u36,u37,u38,u39,u40,u41,u42,u43,u44,u45,u46,u47,u48,u49,u50,u51,u52,u53,u54,u55,u56,hi,hV,rfl⟩
  rcases hi with ⟨rfl,hI⟩ | ⟨rfl,hbt,hI⟩
  ·have hrV : V.rangeAt A 0 (actC 3 x):=λj v hv=>(hV.cell hA).trans (hr j v hv)
   refine wpN_seq (of_wp ?_)
   go_wp2
   refine wpN_seq (of_wp ?_)
   go_wp2
   refine wpN_seq (wpN_block ?_)
   refine wpN_seq (of_wp ?_)
   go_wp2_with (first | (refine wpList_load_mid (op:={ dst:=some 30,op:=.load 37 (.tmp 29),type:=_,pos:=_,after:=_,guard:=_ }) rfl 37 (.tmp 29) rfl A 0 rfl (actC 3 x) _ ?hc Tryz.underlying37 rfl hi37 ?_; case hc=>exact hrV) | (refine wpList_store_mid (op:={ dst:=none,op:=.store 37 (.tmp 8) (.tmp 30),type:=_,pos:=_,after:=_,guard:=_ }) rfl 37 (.tmp 8) (.tmp 30) rfl V.heap.size 0 (actC 3 x).toArray rfl rfl ?ht hi37 (actC_one 3 x) ?_; case ht=>exact act_there V 3 x))
   have hb5:=setCells_below hV V.heap.size hV.size (actC 3 x) 0 _ (hV.alloc hV.size (.cells (actC 0 0).toArray 37))
   have hr5:=act_range V 3 x
   have hI5 : Lib.IsBuilder 52 5 w.heap.size w.heap.size (Lib.byteCells ([] ++ (nodesT.data.toList ++ [10]))) ((V.alloc (.cells (actC 0 0).toArray 37)).setCells V.heap.size 0 (actC 3 x)):=built_below hI (setCells_below (Below.refl V.heap.size V) V.heap.size (Nat.le_refl _) (actC 3 x) 0 _ (Below.alloc (Below.refl _ _) (Nat.le_refl _) _))
   have hlt5 : V.heap.size < ((V.alloc (.cells (actC 0 0).toArray 37)).setCells V.heap.size 0 (actC 3 x)).heap.size:=by
    have h:=(setCells_below (Below.refl 0 (V.alloc (.cells (actC 0 0).toArray 37))) V.heap.size (Nat.zero_le _) (actC 3 x) 0 _ (Below.refl 0 (V.alloc (.cells (actC 0 0).toArray 37)))).size
    have h2 : (V.alloc (.cells (actC 0 0).toArray 37)).heap.size = V.heap.size + 1:=by show (V.heap.push _).size = _; rw [Array.size_push]
    omega
   generalize V.heap.size = B1 at hb5 hr5 hI5 hlt5 ⊢
   refine (λ(h : ∀ U,Below w.heap.size w U → U.rangeAt B1 0 (actC 3 x) → B1 < U.heap.size → Lib.IsBuilder 52 5 w.heap.size w.heap.size (Lib.byteCells ([] ++ (nodesT.data.toList ++ [10]))) U → WpN Tryz.prog _ _ _ U)=>h _ hb5 hr5 hlt5 hI5) ?_
   clear hb5 hr5 hI5 hlt5 hV hI hrV
   intro V1 hV hr1 hlt hI
   have hz1:=hV.size
   refine wpN_seq (of_wp ?_)
   go_wp2_with (first | (refine wpList_load_mid (op:={ dst:=some 31,op:=.load 37 (.tmp 8),type:=_,pos:=_,after:=_,guard:=_ }) rfl 37 (.tmp 8) rfl B1 0 rfl (actC 3 x) _ ?hc Tryz.underlying37 rfl hi37 ?_; case hc=>exact hr1) | (go_at_call 16; refine (k2 V1 hV).mono ?_; rintro e V2 ⟨rfl,hb2⟩))
   have hr2 : V2.rangeAt B1 0 (actC 3 x):=λj v hv=>(hb2.cell hlt).trans (hr1 j v hv)
   have hlt2 : B1 < V2.heap.size:=Nat.lt_of_lt_of_le hlt hb2.size
   have hI2:=built_below hI hb2
   replace hb2:=hV.trans (hb2.mono hz1)
   clear hr1 hlt hI hV hz1 k2
   have k6:=k3 V2 hb2
   clear k3
   have hz2:=hb2.size
   cases b with
   | false =>
    rw [if_neg (by simp)] at k6
    refine wpN_seq (of_wp ?_)
    go_wp2_with (first | (go_at_call 12; refine k6.mono ?_; rintro e V3 ⟨rfl,hb3⟩; replace hb3:=hb2.trans (hb3.mono hz2)) | (refine wpList_store_mid (op:={ dst:=none,op:=.store 37 (.tmp 10) (.tmp 36),type:=_,pos:=_,after:=_,guard:=_ }) rfl 37 (.tmp 10) (.tmp 36) rfl V3.heap.size 0 (actC 0 0).toArray rfl rfl ?ht hi37 (actC_one 0 0) ?_; case ht=>exact act_there V3 0 0))
    have hb4:=setCells_below hb3 V3.heap.size hb3.size (actC 0 0) 0 _ (hb3.alloc hb3.size (.cells (actC 0 0).toArray 37))
    refine (λ(h : ∀ U,Below w.heap.size w U → WpN Tryz.prog _ _ _ U)=>h _ hb4) ?_
    clear hb4 hb3 hI2 hr2 hlt2 hb2 k6
    intro V5 hV
    refine wpN_seq (wpN_seq (of_wp ?_))
    go_wp2
    refine of_wp ?_
    go_wp2
    go_ret2
    exact ⟨hV,.inl ⟨rfl,rfl⟩⟩
   | true =>
    rw [if_pos rfl] at k6
    refine wpN_seq (of_wp ?_)
    go_wp2_with (first | (go_at_call 12; refine k6.mono ?_; rintro e V3 ⟨rfl,hb3⟩) | (refine wpList_store_mid (op:={ dst:=none,op:=.store 37 (.tmp 10) (.tmp 36),type:=_,pos:=_,after:=_,guard:=_ }) rfl 37 (.tmp 10) (.tmp 36) rfl V3.heap.size 0 (actC 3 x).toArray rfl rfl ?ht hi37 (actC_one 3 x) ?_; case ht=>exact act_there V3 3 x))
    have hr3 : ((V3.alloc (.cells (actC 0 0).toArray 37)).setCells V3.heap.size 0 (actC 3 x)).rangeAt B1 0 (actC 3 x):=λj v hv=>(setCells_below (Below.refl V3.heap.size V3) V3.heap.size (Nat.le_refl _) (actC 3 x) 0 _ (Below.alloc (Below.refl _ _) (Nat.le_refl _) _)).cell (p:=⟨B1,0 + j,none⟩) (Nat.lt_of_lt_of_le hlt2 hb3.size) |>.trans ((hb3.cell (p:=⟨B1,0 + j,none⟩) hlt2).trans (hr2 j v hv))
    have hI3 : Lib.IsBuilder 52 5 w.heap.size w.heap.size (Lib.byteCells ([] ++ (nodesT.data.toList ++ [10]))) ((V3.alloc (.cells (actC 0 0).toArray 37)).setCells V3.heap.size 0 (actC 3 x)):=built_below (built_below hI2 hb3) (setCells_below (Below.refl V3.heap.size V3) V3.heap.size (Nat.le_refl _) (actC 3 x) 0 _ (Below.alloc (Below.refl _ _) (Nat.le_refl _) _))
    have hb3':=hb2.trans (hb3.mono hz2)
    have hb4:=setCells_below hb3' V3.heap.size hb3'.size (actC 3 x) 0 _ (hb3'.alloc hb3'.size (.cells (actC 0 0).toArray 37))
    have hr4:=act_range V3 3 x
    generalize V3.heap.size = B2 at hb4 hr3 hr4 hI3 ⊢
    refine (λ(h : ∀ U,Below w.heap.size w U → U.rangeAt B1 0 (actC 3 x) → U.rangeAt B2 0 (actC 3 x) → Lib.IsBuilder 52 5 w.heap.size w.heap.size (Lib.byteCells ([] ++ (nodesT.data.toList ++ [10]))) U → WpN Tryz.prog _ _ _ U)=>h _ hb4 hr3 hr4 hI3) ?_
    clear hb4 hr3 hr4 hI3 hb3' hb3 hb2 hz2 hr2 hlt2 hI2 k6
    intro V5 hV q1 q2 hI
    refine wpN_seq (wpN_seq (of_wp ?_))
    go_wp2_with (first | (refine wpList_load_wanted (op:={ dst:=some 41,op:=.load 37 (.tmp 8),type:=_,pos:=_,after:=_,guard:=_ }) ?hw 37 (.tmp 8) rfl B1 0 rfl (actC 3 x) _ ?hc Tryz.underlying37 rfl hi37 ?_; (case hc=>exact q1); (case hw=>simp [Region.wanted,yielded,Act.put])) | (refine wpList_load_wanted (op:={ dst:=some 42,op:=.load 37 (.tmp 10),type:=_,pos:=_,after:=_,guard:=_ }) ?hw 37 (.tmp 10) rfl B2 0 rfl (actC 3 x) _ ?hc Tryz.underlying37 rfl hi37 ?_; (case hc=>exact q2); (case hw=>simp [Region.wanted,yielded,Act.put])) | (go_at_call 17; refine (Go.Proofs.YteojiklbcfbliaaGreatDoor.Ev.same_ok x V5).mono ?_; rintro e V6 ⟨rfl,hf6⟩; have hb6:=same_below hf6; clear hf6; have hI6:=built_below hI hb6; replace hb6:=hV.trans (hb6.mono hV.size)) | (go_at_call 18; refine (k4 V6 hb6).mono ?_; rintro e W9 ⟨rfl,hW9⟩; have h9:=hW9.symm; clear hW9; subst h9))
    refine of_wp ?_
    go_wp2
    refine of_wp ?_
    go_wp2_with (go_at_call 13; refine (knPutA w.heap.size ([] ++ (nodesT.data.toList ++ [10])) (tickT D) ⟨#[10]⟩ rfl (by have : ([] ++ (nodesT.data.toList ++ [10])).length = 8:=(by decide); omega) V6 hI6 hb6.size).mono ?_; rintro e V7 ⟨rfl,hI7,hb7⟩; replace hb7:=hb6.trans hb7)
    refine of_wp ?_
    go_wp2
    exact ⟨⟨1,_,_,_,_,_,_,_,_,_,_,_,_,_,_,_,_,_,_,_,_,_,_,_,_,_,_,_,_,_,_,_,_,_,_,_,_,_,_,_,_,_,_,_,_,_,_,_,_,_,.inr ⟨rfl,trivial,hI7⟩,hb7,rfl⟩,by simp [at27]⟩
  ·refine wpN_seq (of_wp ?_)
   go_wp2
   refine wpN_seq (of_wp ?_)
   go_wp2
   have hln : Calls Tryz.prog 19 #[.pointer (some ⟨w.heap.size,0,none⟩)] V λe w'=>e = .returned (.int .i64 ((Lib.byteCells (outL D)).length : Nat)) ∧ w' = V:=Any.Builder_Len Tryz.lLen w.heap.size w.heap.size (Lib.byteCells (outL D)) V hI
   have hol : (Lib.byteCells (outL D)).length ≤ 100:=by
    have h9 : (tickT D).data.toList.length = (tickT D).size:=by rw [Array.length_toList]; rfl
    have h8 : nodesT.data.toList.length = 7:=rfl
    have h7:=tickT_size D
    simp only [Lib.byteCells,List.length_map,outL,List.length_append,List.length_cons,List.length_nil]
    omega
   have hst:=knString w.heap.size w.heap.size (outL D) V hI hV.size
   generalize (Lib.byteCells (outL D)).length = N at hln hol
   refine wpN_seq (wpN_seq (of_wp ?_))
   go_wp2_with (go_at_call 19; refine hln.mono ?_; rintro e W3 ⟨rfl,hW3⟩; have h9:=hW3.symm; clear hW3; subst h9)
   refine of_wp ?_
   go_wp2
   refine wpN_seq (of_wp ?_)
   go_wp2_with (go_at_call 20; refine hst.mono ?_; rintro e W4 ⟨rfl,hb4⟩)
   refine of_wp ?_
   go_wp2
   go_ret2
   exact ⟨hV.trans hb4,.inr ⟨hbt,rfl⟩⟩
end Go.Ry
