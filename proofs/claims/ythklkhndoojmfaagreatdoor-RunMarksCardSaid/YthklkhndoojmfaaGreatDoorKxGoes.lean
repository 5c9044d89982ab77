/-
  The law's picks; Decimal of few; law0.Num.
-/
import Derived.Test.YthklkhndoojmfaaGreatDoorRmO
import Derived.Test.YthklkhndoojmfaaGreatDoorRmQ
import Derived.Test.YthklkhndoojmfaaGreatDoorKxRow
import Derived.Test.YthklkhndoojmfaaGreatDoorRows
import Derived.KernelRfl
import Derived.SevenTiedAt
set_option linter.unusedVariables false
set_option linter.unusedSimpArgs false
noncomputable section
set_option maxRecDepth 1000000
namespace Go.Rm
open Go Go.Lib Go.Kx Go.Ry
def kind (x:Int):Nat:=(x%4).toNat
theorem kind_lt (x:Int):kind x<4:=by unfold kind;omega
theorem kind_eq (x:Int):(IntKind.u64.wrap x).tmod 4=((kind x:Nat):Int):=by
 have h:IntKind.u64.wrap x=x%18446744073709551616:=by
  simp[IntKind.wrap,IntKind.signed,IntKind.bits]
 rw[h,Int.tmod_eq_emod_of_nonneg (by omega)]
 unfold kind
 omega
def pickL (zs:List Int):List Nat:=(zs.take 30).map kind
theorem pickL_length (zs:List Int):(pickL zs).length=min 30 zs.length:=by simp[pickL]
theorem pickL_get (zs:List Int) (i:Nat) (h:i<(pickL zs).length):(pickL zs)[i]=kind (zs.getD i 0):=by
 have h1:i<zs.length:=by have:=pickL_length zs;omega
 simp[pickL,List.getD,h1]
theorem pickL_lt (zs:List Int):∀p∈pickL zs,p<4:=λp h=>by
 unfold pickL at h
 obtain⟨x,_,rfl⟩:=List.mem_map.1 h
 exact kind_lt x
theorem whole_eq (ps:List Nat):wholeL ps=[110,111,100,101,115,32,51,10]++scriptL ps:=by
 unfold wholeL headL
 simp
end Go.Rm
namespace Go.Proofs.YthklkhndoojmfaaGreatDoor.Ev
open Go Go.Ev Go.Proofs Go.RowKit Go.Rm Go.Ry Go.Kx
def decL (n:Nat):Nat:=bif Nat.blt n 10 then 1 else 2
def decN (n:Nat):Nat:=bif Nat.blt n 10 then 48+n else(48+n/10)*256+(48+n%10)
def decRun (n:Nat):Bool:=hcall (noOrc zz) KT0.find FT.find 60 5 [.one (.int .i64 (n:Int))] (gFz 0 1 3) [] 3 (isV (.one (.str (decL n) (decN n))) []) []
theorem decRuns:(List.range 31).all decRun=true:=by kernel_rfl
theorem decTexts:(List.range 31).all (λn=>decide (decN n<256^decL n)&&decide ((sOf (decL n) (decN n)).data.toList=Lib.itoa (n:Int)))=true:=by kernel_rfl
theorem dec_ok (n:Nat) (hn:n≤30) (w:World) (hw:GW 0 1 3 w):Calls Tryz.prog 5 #[.int .i64 (n:Nat)] w λe w'=>e=.returned (.string (bs (Lib.itoa (n:Int))))∧Below w.heap.size w w':=by
 have hm:n∈List.range 31:=List.mem_range.2 (by omega)
 have h1:decRun n=true:=List.all_eq_true.1 decRuns n hm
 have h2:=List.all_eq_true.1 decTexts n hm
 simp only[Bool.and_eq_true,decide_eq_true_eq]at h2
 unfold decRun at h1
 refine(evalG h1 w (xs:=[.int .i64 (n:Nat)]) ⟨rfl,trivial⟩ hw).mono λe w' ⟨x,ρ',e1,hx,hb⟩=>⟨?_,hb⟩
 obtain⟨_,h4⟩:=(show decN n<256^decL n∧x=.string (sOf (decL n) (decN n))from hx)
 rw[e1,h4]
 congr 2
 refine ba_inj ?_
 rw[h2.2,bs_list]
end Go.Proofs.YthklkhndoojmfaaGreatDoor.Ev
set_option linter.unusedVariables false
set_option linter.unusedSimpArgs false
noncomputable section
namespace Go.Rm
open Go Go.Conc Go.Proofs Go.RowKit Go.Kn Go.Kx Go.Ry Go.Ev
def headT:List UInt8:=[110,111,100,101,115,32,51,10]
structure LawS (w:World) (ps:List Nat) (i:Nat) (s t:ByteArray) (V:World):Prop where
 script:s=bs (headT++scriptL (ps.take i))
 want:t=bs (toldL (ps.take i))
 below:Below w.heap.size w V
def at6 (a:Act):Nat:=match a.tmps[6]? with|some (Value.int _ k)=>k.toNat|_=>0
set_option maxHeartbeats 4000000 in
theorem open_law {C:Act→World→Prop} {S:Nat→ByteArray→ByteArray→World→Prop} {b:Nat→Nat} {ao:Option Addr} {m n ac:Nat}
 (h:∀(V:World) (i:Nat) (s t:ByteArray) (u1 u7 u8 u9 u10 u11 u12 u13 u14 u15 u16 u17 u18 u19 u20 u21 u22 u23 u24 u25 u26 u27 u28 u29 u30 u31 u32 u33 u34 u35 u36 u37 u38 u39 u40 u41 u42 u43 u44 u45 u46 u47 u48 u49 u50 u51 u52 u53 u54 u55 u56 u57 u58 u59 u60 u61 u62:Value) (rest:List Value),rest.length=19→i≤m→S i s t V→C ⟨(.slice ao n ac::u1::.bool false::.string s::.string t::.int .i64 (b i:Nat)::.int .i64 (i:Nat)::u7::u8::u9::u10::u11::u12::u13::u14::u15::u16::u17::u18::u19::u20::u21::u22::u23::u24::u25::u26::u27::u28::u29::u30::u31::u32::u33::u34::u35::u36::u37::u38::u39::u40::u41::u42::u43::u44::u45::u46::u47::u48::u49::u50::u51::u52::u53::u54::u55::u56::u57::u58::u59::u60::u61::u62::rest).toArray,[]⟩ V):
 ∀a V,(∃(i:Nat) (s t:ByteArray) (u1 u7 u8 u9 u10 u11 u12 u13 u14 u15 u16 u17 u18 u19 u20 u21 u22 u23 u24 u25 u26 u27 u28 u29 u30 u31 u32 u33 u34 u35 u36 u37 u38 u39 u40 u41 u42 u43 u44 u45 u46 u47 u48 u49 u50 u51 u52 u53 u54 u55 u56 u57 u58 u59 u60 u61 u62:Value) (rest:List Value),rest.length=19∧i≤m∧S i s t V∧a=⟨(.slice ao n ac::u1::.bool false::.string s::.string t::.int .i64 (b i:Nat)::.int .i64 (i:Nat)::u7::u8::u9::u10::u11::u12::u13::u14::u15::u16::u17::u18::u19::u20::u21::u22::u23::u24::u25::u26::u27::u28::u29::u30::u31::u32::u33::u34::u35::u36::u37::u38::u39::u40::u41::u42::u43::u44::u45::u46::u47::u48::u49::u50::u51::u52::u53::u54::u55::u56::u57::u58::u59::u60::u61::u62::rest).toArray,[]⟩)→C a V:=by
 rintro a V ⟨i,s,t,u1,u7,u8,u9,u10,u11,u12,u13,u14,u15,u16,u17,u18,u19,u20,u21,u22,u23,u24,u25,u26,u27,u28,u29,u30,u31,u32,u33,u34,u35,u36,u37,u38,u39,u40,u41,u42,u43,u44,u45,u46,u47,u48,u49,u50,u51,u52,u53,u54,u55,u56,u57,u58,u59,u60,u61,u62,rest,hr,h1,h2,rfl⟩
 exact h V i s t _ _ _ _ _ _ _ _ _ _ _ _ _ _ _ _ _ _ _ _ _ _ _ _ _ _ _ _ _ _ _ _ _ _ _ _ _ _ _ _ _ _ _ _ _ _ _ _ _ _ _ _ _ _ _ _ _ rest hr h1 h2
theorem num_ok (k:Int) (w:World):Calls Tryz.prog 7 #[.int .i64 k] w λe w'=>e=.returned (.int .i64 k)∧w'=w:=by
 go_enter Tryz.func7,Tryz.ntmps7
 go_wp2
 go_ret
 exact⟨rfl,rfl⟩
theorem awake_ok {W:World} (hgw:GW 0 1 3 W):Calls Tryz.prog 4 #[] W λe w'=>e=.returned (.bool true)∧Below W.heap.size W w':=
 (Go.Proofs.YthklkhndoojmfaaGreatDoor.Ev.awakeG W hgw).mono λe w' h=>⟨h.1,Go.Proofs.YthklkhndoojmfaaGreatDoor.Ev.below_of_fr h.2⟩
theorem script_next (ps:List Nat) (i:Nat) (hi:i<ps.length) (s:ByteArray) (hs:s=bs (headT++scriptL (ps.take i))) (l:List UInt8) (hl:lineL ps[i]++[10]=l):s++bs l=bs (headT++scriptL (ps.take (i+1))):=by
 rw[List.take_succ_eq_append_getElem hi,scriptL_snoc,hl,hs,←List.append_assoc,bs_append (headT++_) l]
theorem want_next (ps:List Nat) (i:Nat) (hi:i<ps.length) (t:ByteArray) (ht:t=bs (toldL (ps.take i))) (m:List UInt8) (hm:markL (okB (bagOf (ps.take i)) ps[i])++[32]=m) (k:Nat) (hk:next (bagOf (ps.take i)) ps[i]=k):
 ((t++bs m)++bs (Lib.itoa (k:Int)))++bs [10]=bs (toldL (ps.take (i+1))):=by
 rw[List.take_succ_eq_append_getElem hi,toldL_snoc,ht,←bs_append,←bs_append,←bs_append]
 congr 1
 unfold tellL
 rw[hk,←hm]
 simp
theorem bag_next (ps:List Nat) (i:Nat) (hi:i<ps.length):bagOf (ps.take (i+1))=next (bagOf (ps.take i)) ps[i]:=by
 rw[List.take_succ_eq_append_getElem hi,bagOf_snoc]
end Go.Rm
set_option linter.unusedVariables false
set_option linter.unusedSimpArgs false
noncomputable section
namespace Go.Rm
open Go Go.Conc Go.Proofs Go.RowKit Go.Kn Go.Kx Go.Ry Go.Ev
theorem cons19 {α:Type} {n:Nat}:∀{l:List α},l.length=n+1→∃a r,l=a::r∧r.length=n
 |[],h=>by simp at h
 |a::r,h=>⟨a,r,rfl,by simpa using h⟩
theorem split_law {l:List Value} (h:l.length=19):∃u63 u64 u65 u66 u67 u68 u69 u70 u71 u72 u73 u74 u75 u76 u77 u78 u79 u80 u81,l=u63::u64::u65::u66::u67::u68::u69::u70::u71::u72::u73::u74::u75::u76::u77::u78::u79::u80::u81::[]:=by
 obtain⟨u63,l63,e63,h⟩:=cons19 h
 obtain⟨u64,l64,e64,h⟩:=cons19 h
 obtain⟨u65,l65,e65,h⟩:=cons19 h
 obtain⟨u66,l66,e66,h⟩:=cons19 h
 obtain⟨u67,l67,e67,h⟩:=cons19 h
 obtain⟨u68,l68,e68,h⟩:=cons19 h
 obtain⟨u69,l69,e69,h⟩:=cons19 h
 obtain⟨u70,l70,e70,h⟩:=cons19 h
 obtain⟨u71,l71,e71,h⟩:=cons19 h
 obtain⟨u72,l72,e72,h⟩:=cons19 h
 obtain⟨u73,l73,e73,h⟩:=cons19 h
 obtain⟨u74,l74,e74,h⟩:=cons19 h
 obtain⟨u75,l75,e75,h⟩:=cons19 h
 obtain⟨u76,l76,e76,h⟩:=cons19 h
 obtain⟨u77,l77,e77,h⟩:=cons19 h
 obtain⟨u78,l78,e78,h⟩:=cons19 h
 obtain⟨u79,l79,e79,h⟩:=cons19 h
 obtain⟨u80,l80,e80,h⟩:=cons19 h
 obtain⟨u81,l81,e81,h⟩:=cons19 h
 have e:=List.eq_nil_of_length_eq_zero h
 exact⟨u63,u64,u65,u66,u67,u68,u69,u70,u71,u72,u73,u74,u75,u76,u77,u78,u79,u80,u81,by rw[e63,e64,e65,e66,e67,e68,e69,e70,e71,e72,e73,e74,e75,e76,e77,e78,e79,e80,e81,e]⟩
set_option maxHeartbeats 4000000 in
set_option maxRecDepth 100000 in
theorem law_ok (zs:List Int) (ao:Option Addr) (cap:Nat) (w:World) (hc:0<zs.length→∃b off,ao=some ⟨b,off,none⟩∧∀j,j<zs.length→w.cell? ⟨b,off+j,none⟩=some (.int .i64 (zs.getD j 0))) (hg:Gl w) (hw:GW 0 1 3 w):
 Calls Tryz.prog 3 #[.slice ao zs.length cap] w λe w'=>e=.returned (.bool true)∧Below w.heap.size w w':=by
 have haw:=awake_ok hw
 have hdec:Hid (∀(n:Nat),n≤30→∀V,Below w.heap.size w V→_):=λn hn V hV=>Go.Proofs.YthklkhndoojmfaaGreatDoor.Ev.dec_ok n hn V (gw_on hw hV)
 obtain⟨ps,hps⟩:∃ps,pickL zs=ps:=⟨_,rfl⟩
 have hpl:ps.length=min 30 zs.length:=by rw[←hps];exact pickL_length zs
 have hpk:∀i (h:i<ps.length),ps[i]=kind (zs.getD i 0):=λi h=>by subst hps;exact pickL_get zs i h
 have hp4:∀p∈ps,p<4:=by rw[←hps];exact pickL_lt zs
 clear hps
 refine calls_of_wpN Tryz.func3 rfl ?_
 simp only[Tryz.ntmps3,List.size_toArray,List.length_cons,List.length_nil,Nat.reduceAdd,Nat.reduceSub,Array.replicate_succ,
  Array.replicate_zero,List.push_toArray,List.append_toArray,List.nil_append,List.cons_append]
 refine wpN_seq (of_wp ?_)
 go_wp2
 refine wpN_seq (of_wp ?_)
 go_wp2_with (go_at_call 4;refine haw.mono ?_;rintro e W1 ⟨rfl,hb1⟩;clear haw)
 refine wpN_seq (of_wp ?_)
 go_wp2
 refine wpN_seq (of_wp ?_)
 go_wp2
 refine wpN_seq ?_
 refine wpN_seq (of_wp ?_)
 go_wp2
 have hS0:LawS w ps 0 ⟨#[110,111,100,101,115,32,51,10]⟩ ⟨#[]⟩ W1:=⟨rfl,rfl,hb1⟩
 have hb1H:Hid _:=hb1
 clear hb1
 refine wpN_block (wpN_loop (λa V=>∃(i:Nat) (s t:ByteArray) (u1 u7 u8 u9 u10 u11 u12 u13 u14 u15 u16 u17 u18 u19 u20 u21 u22 u23 u24 u25 u26 u27 u28 u29 u30 u31 u32 u33 u34 u35 u36 u37 u38 u39 u40 u41 u42 u43 u44 u45 u46 u47 u48 u49 u50 u51 u52 u53 u54 u55 u56 u57 u58 u59 u60 u61 u62:Value) (rest:List Value),rest.length=19∧i≤ps.length∧LawS w ps i s t V∧a=⟨(.slice ao zs.length cap::u1::.bool false::.string s::.string t::.int .i64 (bagOf (ps.take i):Nat)::.int .i64 (i:Nat)::u7::u8::u9::u10::u11::u12::u13::u14::u15::u16::u17::u18::u19::u20::u21::u22::u23::u24::u25::u26::u27::u28::u29::u30::u31::u32::u33::u34::u35::u36::u37::u38::u39::u40::u41::u42::u43::u44::u45::u46::u47::u48::u49::u50::u51::u52::u53::u54::u55::u56::u57::u58::u59::u60::u61::u62::rest).toArray,[]⟩) (λa _=>40-at6 a) ?_ ?_)
 ·exact⟨0,_,_,_,_,_,_,_,_,_,_,_,_,_,_,_,_,_,_,_,_,_,_,_,_,_,_,_,_,_,_,_,_,_,_,_,_,_,_,_,_,_,_,_,_,_,_,_,_,_,_,_,_,_,_,_,_,_,_,_,_,rfl,Nat.zero_le _,hS0,rfl⟩
 ·refine open_law (S:=λi s t V=>LawS w ps i s t V) (b:=λi=>bagOf (ps.take i)) ?_
  clear hS0
  intro V i s t u1 u7 u8 u9 u10 u11 u12 u13 u14 u15 u16 u17 u18 u19 u20 u21 u22 u23 u24 u25 u26 u27 u28 u29 u30 u31 u32 u33 u34 u35 u36 u37 u38 u39 u40 u41 u42 u43 u44 u45 u46 u47 u48 u49 u50 u51 u52 u53 u54 u55 u56 u57 u58 u59 u60 u61 u62 rest hrest hi hS
  rcases Nat.lt_or_ge i ps.length with hlt|hge
  ·obtain⟨hs,ht,hb⟩:=hS
   have hbo:bagOf (ps.take i)≤i:=Nat.le_trans (bagOf_le _) (by rw[List.length_take];omega)
   have hsl:s.size≤600:=by
    have h1:=scriptL_len (ps.take i)
    rw[List.length_take]at h1
    rw[hs,bs_size,List.length_append]
    show 8+_≤_
    omega
   have htl:t.size≤800:=by
    have h1:=toldL_len (ps.take i) 0 (by rw[List.length_take];omega)
    rw[List.length_take]at h1
    rw[ht,bs_size]
    unfold toldL
    omega
   obtain⟨p,off,rfl,hcs⟩:=hc (by omega)
   have hz:=hcs i (by omega)
   have hpi:=hpk i hlt
   obtain⟨z,hze⟩:∃z,zs.getD i 0=z:=⟨_,rfl⟩
   rw[hze]at hz hpi
   clear hze
   have hzV:V.cell? ⟨p,off+i,none⟩=some (.int .i64 z):=(hb.cell (World.block_lt_of_cell? w _ hz)).trans hz
   have hke:(IntKind.u64.wrap z).tmod 4=((ps[i]:Nat):Int):=by rw[hpi];exact kind_eq z
   have hk4:ps[i]<4:=by rw[hpi];exact kind_lt z
   have hbn:=bag_next ps i hlt
   have hsn:=script_next ps i hlt s hs
   have htn:=want_next ps i hlt t ht
   have hdV:=λn hn W hW=>hdec.out n hn W (hb.trans hW)
   have hi1:(i:Int)<(zs.length:Int):=by omega
   have hi2:(i:Int)<30:=by omega
   have hds:∀n:Nat,n≤31→(bs (Lib.itoa (n:Int))).size≤21:=λn hn=>by rw[bs_size];exact itoa_small n (by omega)
   obtain⟨q,hq⟩:∃q,ps[i]=q:=⟨_,rfl⟩
   rw[hq]at hke hk4 hbn hsn htn
   obtain⟨b,hbe⟩:∃b,bagOf (ps.take i)=b:=⟨_,rfl⟩
   rw[hbe]at hbo hbn htn⊢
   have hsnH:Hid _:=hsn
   have htnH:Hid _:=htn
   have hbH:Hid _:=hb
   have hcH:Hid _:=hc
   have hd0:=hds b (by omega)
   have hd1:(bs (Lib.itoa ((b:Int)+1))).size≤21:=hds (b+1) (by omega)
   have hd2:(bs (Lib.itoa ((b+1:Nat):Int))).size≤21:=hds (b+1) (by omega)
   have hdsH:Hid _:=hds
   have hcase:q=0∨q=1∨q=2∨q=3:=by omega
   clear hsn htn hb hs ht hc hcs hz hpi hds hq hbe
   refine wpN_seq (of_wp ?_)
   go_wp2
   refine wpN_seq (wpN_block ?_)
   refine wpN_seq ?_
   refine wpN_seq (of_wp ?_)
   go_wp2
   rcases hcase with rfl|rfl|rfl|rfl
   ·clear hke
    refine of_wp ?_
    go_wp2
    refine of_wp ?_
    go_wp2_with (go_at_call 5;refine(hdV b (by omega) V (Below.refl _ _)).mono ?_;rintro e W2 ⟨rfl,hb2⟩)
    refine of_wp ?_
    go_wp2
    exact⟨⟨i+1,_,_,_,_,_,_,_,_,_,_,_,_,_,_,_,_,_,_,_,_,_,_,_,_,_,_,_,_,_,_,_,_,_,_,_,_,_,_,_,_,_,_,_,_,_,_,_,_,_,_,_,_,_,_,_,_,_,_,_,rest,hrest,hlt,⟨hsnH.out _ rfl,htnH.out _ rfl b rfl,hbH.out.trans (hb2.mono hbH.out.size)⟩,by rw[hbn];rfl⟩,by simp[at6];omega⟩
   ·clear hke
    refine of_wp ?_
    go_wp2
    refine of_wp ?_
    go_wp2_with (go_at_call 5;refine(hdV b (by omega) V (Below.refl _ _)).mono ?_;rintro e W2 ⟨rfl,hb2⟩)
    refine of_wp ?_
    go_wp2
    exact⟨⟨i+1,_,_,_,_,_,_,_,_,_,_,_,_,_,_,_,_,_,_,_,_,_,_,_,_,_,_,_,_,_,_,_,_,_,_,_,_,_,_,_,_,_,_,_,_,_,_,_,_,_,_,_,_,_,_,_,_,_,_,_,rest,hrest,hlt,⟨hsnH.out _ rfl,htnH.out _ rfl b rfl,hbH.out.trans (hb2.mono hbH.out.size)⟩,by rw[hbn];rfl⟩,by simp[at6];omega⟩
   ·clear hke
    refine of_wp ?_
    go_wp2
    refine of_wp ?_
    go_wp2_with (go_at_call 5;refine(hdV (b+1) (by omega) V (Below.refl _ _)).mono ?_;rintro e W2 ⟨rfl,hb2⟩)
    refine of_wp ?_
    go_wp2
    exact⟨⟨i+1,_,_,_,_,_,_,_,_,_,_,_,_,_,_,_,_,_,_,_,_,_,_,_,_,_,_,_,_,_,_,_,_,_,_,_,_,_,_,_,_,_,_,_,_,_,_,_,_,_,_,_,_,_,_,_,_,_,_,_,rest,hrest,hlt,⟨hsnH.out _ rfl,htnH.out _ rfl (b+1) rfl,hbH.out.trans (hb2.mono hbH.out.size)⟩,by rw[hbn];rfl⟩,by simp[at6];omega⟩
   ·rcases b with _|c
    ·clear hke
     have hd3:(bs (Lib.itoa 0)).size≤21:=hdsH.out 0 (by omega)
     refine of_wp ?_
     go_wp2
     refine of_wp ?_
     go_wp2_with (go_at_call 5;refine(hdV 0 (by omega) V (Below.refl _ _)).mono ?_;rintro e W2 ⟨rfl,hb2⟩)
     refine of_wp ?_
     go_wp2
     exact⟨⟨i+1,_,_,_,_,_,_,_,_,_,_,_,_,_,_,_,_,_,_,_,_,_,_,_,_,_,_,_,_,_,_,_,_,_,_,_,_,_,_,_,_,_,_,_,_,_,_,_,_,_,_,_,_,_,_,_,_,_,_,_,rest,hrest,hlt,⟨hsnH.out _ rfl,htnH.out _ rfl 0 rfl,hbH.out.trans (hb2.mono hbH.out.size)⟩,by rw[hbn];rfl⟩,by simp[at6];omega⟩
    ·clear hke
     have hd3:(bs (Lib.itoa (c:Int))).size≤21:=hdsH.out c (by omega)
     refine of_wp ?_
     go_wp2
     refine of_wp ?_
     go_wp2_with (go_at_call 5;refine(hdV c (by omega) V (Below.refl _ _)).mono ?_;rintro e W2 ⟨rfl,hb2⟩)
     refine of_wp ?_
     go_wp2
     exact⟨⟨i+1,_,_,_,_,_,_,_,_,_,_,_,_,_,_,_,_,_,_,_,_,_,_,_,_,_,_,_,_,_,_,_,_,_,_,_,_,_,_,_,_,_,_,_,_,_,_,_,_,_,_,_,_,_,_,_,_,_,_,_,rest,hrest,hlt,⟨hsnH.out _ rfl,htnH.out _ rfl c rfl,hbH.out.trans (hb2.mono hbH.out.size)⟩,by rw[hbn];rfl⟩,by simp[at6];omega⟩
  ·obtain⟨hs,ht,hb⟩:=hS
   have hie:i=ps.length:=by omega
   rw[hie,List.take_length]at hs ht
   have hsl:s.size≤600:=by
    have h1:=scriptL_len ps
    rw[hs,bs_size,List.length_append]
    show 8+_≤_
    omega
   have htl:t.size≤800:=by
    have h1:=toldL_len ps 0 (by omega)
    rw[ht,bs_size]
    unfold toldL
    omega
   have hrun:=run_ok ps (by omega) hp4 V (hg.on hb) (gw_on hw hb)
   rw[whole_eq ps,show bs ([110,111,100,101,115,32,51,10]++scriptL ps)=s from hs.symm,allT_jt,bs_append,←ht,show bs lastL=⟨([110,111,100,101,32,48,32,48,32,48,32,48,32,48,32,48,32,48,32,48,10,110,111,100,101,32,49,32,48,32,48,32,48,32].append [48,32,48,32,48,32,48,10,110,111,100,101,32,50,32,48,32,48,32,48,32,48,32,48,32,48,32,48,10,103,111,116,32,48,10]).toArray⟩from by kernel_rfl]at hrun
   have hrunH:Hid _:=hrun
   have hbH:Hid _:=hb
   obtain⟨u63,u64,u65,u66,u67,u68,u69,u70,u71,u72,u73,u74,u75,u76,u77,u78,u79,u80,u81,rfl⟩:=split_law hrest
   have hdone:¬(i:Int)<(zs.length:Int)∨(i:Int)<(zs.length:Int)∧¬(i:Int)<30:=by omega
   clear hrun hb hs ht hie hc
   rcases hdone with h1|⟨h1,h2⟩
   all_goals
    refine wpN_seq (of_wp ?_)
    go_wp2
    refine wpN_seq (of_wp ?_)
    go_wp2_with (go_at_call 6;refine Calls.mono hrunH.out ?_;rintro e W2 ⟨rfl,hb2⟩)
    refine wpN_seq (of_wp ?_)
    go_wp2_with (go_at_call 7;refine(num_ok _ _).mono ?_;rintro e W9 ⟨rfl,hW9⟩;have h9:=hW9.symm;clear hW9;subst h9)
    refine of_wp ?_
    go_wp2
    go_ret
    exact⟨rfl,hbH.out.trans (hb2.mono hbH.out.size)⟩
end Go.Rm
set_option linter.unusedVariables false
set_option linter.unusedSimpArgs false
noncomputable section
namespace Go.Ry
open Go Go.Conc Go.Proofs Go.RowKit Go.Kn Go.Kx Go.Ev
theorem gl_of {W:World} (h:W.ShapedOpen Tryz.prog) (hl:laidMetH Tryz.prog Go.Proofs.YthklkhndoojmfaaGreatDoor.Rows.runMarksRow.laid W):Gl W:=by
 obtain⟨m,h0⟩:=max_cell h
 obtain⟨ty,fr,h2⟩:=tab_cells (show laidMet Tryz.prog Go.Proofs.YthklkhndoojmfaaGreatDoor.Rows.runMarksRow.laid W from hl)
 have hlt:3<W.heap.size:=(Array.getElem?_eq_some_iff.1 h2).1
 refine⟨λV hb=>?_,⟨m,h0⟩,by omega⟩
 have hn:Tryz.prog.globalNamed "internal/strconv.uint64pow10" =some 3:=by kernel_rfl
 unfold Lib.TabIs World.var?
 rw[hn]
 show(match V.heap[3]? with|some (.cells cs _ _)=>some cs|_=>none)=_
 rw[hb.block 3 hlt,h2]
end Go.Ry
set_option linter.unusedVariables false
set_option linter.unusedSimpArgs false
noncomputable section
set_option maxRecDepth 1000000
namespace Go.Kx
open Go Go.Proofs
theorem none_goes:Tryz.prog.funcs.toList.any Func.goes=false:=by kernel_rfl
theorem goes_no {P:Program} (h:P.funcs.toList.any Func.goes=false) (f:FuncId):P.goes f=false:=by
 have hall:∀fn∈P.funcs.toList,Func.goes fn=false:=by
  intro fn hfn
  have:=List.any_eq_false.1 h fn hfn
  simpa using this
 unfold Program.goes
 have h1:P.funcs.any Func.goes=false:=by rw[←Array.any_toList];exact h
 rw[h1,Bool.and_false,Bool.or_false]
 have key:∀g:FuncId,(P.funcs[g]?).any Func.goes=false:=by
  intro g
  cases hq:P.funcs[g]? with
  |none=>rfl
  |some fn=>
   show Func.goes fn=false
   refine hall fn ?_
   have:fn∈P.funcs:=Array.mem_of_getElem? hq
   simpa using this
 simp[key]
theorem goesBy_no {c:OpenClaim} (hs:c.start=.entering) (h:Tryz.prog.funcs.toList.any Func.goes=false):false=c.goesBy Tryz.prog:=by
 unfold OpenClaim.goesBy Program.goesAt Program.goesFrom
 rw[hs]
 cases Tryz.prog.funcNamed c.func with
 |none=>rfl
 |some f=>simp[goes_no h f]
end Go.Kx
