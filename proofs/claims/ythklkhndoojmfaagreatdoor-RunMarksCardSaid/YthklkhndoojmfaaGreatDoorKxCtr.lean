/-
  A part of the proof.
-/
import Derived.Test.YthklkhndoojmfaaGreatDoorKxLines
import Derived.Test.YthklkhndoojmfaaGreatDoorKxRunK
set_option linter.unusedVariables false
set_option linter.unusedSimpArgs false
noncomputable section
namespace Go.Ev
open Go Go.Conc Go.Proofs Go.RowKit Go.Kn Go.Kx
def nmK:Contract RR:=λargs fz mu n k=>onGl 1 1 1 fz (onGl 2 3 2 fz (onS1 args λl s=>Nat.rec (motive:=λ_=>RR) (k (.tp [.one (.int .i64 0),.one (.bool false)]) mu n)
 (λ_ _=>cond (Nat.ble l 17) (parR l s λx=>cond (ltI x (Int.ofNat 9007199254740993)) (cond (ltI x (Int.negSucc 9007199254740991)) zz (itoR x λl' s'=>cond (Nat.beq l l') (cond (Nat.beq s s') (k (.tp [.one (.int .i64 x),.one (.bool true)]) mu n) zz) zz)) zz) zz) l))
def digC (d:Nat) (k:Nat→RR):RR:=cond (Nat.blt d 10) (fN (Nat.add 48 d) k) (fN (Nat.add 87 d) k)
def hxK:Contract RR:=λargs fz mu n k=>onS1 args λl s=>cond (Nat.beq l 1) (cond (Nat.blt s 256) (digC (Nat.div s 16) λa=>digC (Nat.mod s 16) λb=>fN (Nat.add (Nat.mul a 256) b) λc=>k (.one (.str 2 c)) mu n) zz) zz
section
variable {T:RR→Prop} {val:Nat→Int} {fz:Fz} {ρ:Rho} {mu:St} {n:Nat} {w:World}
theorem numR_elim:∀(m n a:Nat) {k:Nat→RR},T (numR m n a k)→∃a',T (k a')
 |0,n,a,k,h=>⟨a,h⟩
 |m+1,n,a,k,h=>by
  have h1:T (fN (a*10+(n/256^m-48)) λa=>fN (n%256^m) λn=>numR m n a k):=h
  rw[fN_eq,fN_eq]at h1
  exact numR_elim m _ _ h1
theorem parR_elim {l s:Nat} {k:Int→RR} (h:T (parR l s k)):∃x,T (k x):=by
 cases l with
 |zero=>exact⟨0,h⟩
 |succ m=>
  have h1:T (cond (Nat.beq (s/256^m) 45) (fN (s%256^m) λr=>numR m r 0 λa=>fI (Int.neg (Int.ofNat a)) k) (numR (m+1) s 0 λa=>fI (Int.ofNat a) k)):=h
  cases hb:Nat.beq (s/256^m) 45 with
  |true=>
   rw[hb]at h1
   have h2:T (fN (s%256^m) λr=>numR m r 0 λa=>fI (Int.neg (Int.ofNat a)) k):=h1
   rw[fN_eq]at h2
   obtain⟨a,h3⟩:=numR_elim _ _ _ h2
   rw[fI_eq]at h3
   exact⟨_,h3⟩
  |false=>
   rw[hb]at h1
   obtain⟨a,h3⟩:=numR_elim _ _ _ (show T (numR (m+1) s 0 λa=>fI (Int.ofNat a) k)from h1)
   rw[fI_eq]at h3
   exact⟨_,h3⟩
theorem tab_is (hr:Rel val ρ fz mu w) (h:fz 2=some [.mk 0,.mk 3,.mk 2]):∀W,Below w.heap.size w W→Lib.TabIs Tryz.prog W "internal/strconv.uint64pow10" .u64 Lib.pow10Tab:=by
 obtain⟨C,ty,fr,v,h1,h2,⟨h3,_⟩|⟨h3,_⟩|⟨_,h3⟩⟩:=glob_at hr h
 ·cases h3
 ·cases h3
 intro W hb
 have hlt:3<w.heap.size:=(Array.getElem?_eq_some_iff.1 h1).1
 have hn:Tryz.prog.globalNamed "internal/strconv.uint64pow10" =some 3:=by kernel_rfl
 unfold Lib.TabIs World.var?
 rw[hn]
 show(match W.heap[3]? with|some (.cells cs _ _)=>some cs|_=>none)=_
 rw[hb.block 3 hlt,h1,h3]
theorem s1_inv {l s:Nat} {xs:List Value} (h:All2 (AVR val ρ w) [.one (.str l s)] xs):xs=[.string (sOf l s)]∧s<256^l:=by
 match xs,h with
 |[x1],hx=>
  obtain⟨ha,rfl⟩:=(show s<256^l∧x1=.string (sOf l s)from hx.1)
  exact⟨rfl,ha⟩
theorem nmK_ok (hz:¬T zz):ContractOk T Tryz.prog val 20 nmK:=by
 intro args fz mu n k ht
 have hbody:hasBody Tryz.prog 20=true:=by kernel_rfl
 obtain⟨g1,h1⟩:=onGl_elim hz ht
 obtain⟨g2,h2⟩:=onGl_elim hz h1
 obtain⟨l,s,rfl,h3⟩:=onS1_elim hz h2
 cases l with
 |zero=>
  refine⟨_,_,_,h3,hbody,Nat.le_refl _,λρ w xs hr hx _=>?_⟩
  obtain⟨rfl,hs⟩:=s1_inv hx
  obtain⟨ev,c1,c2⟩:=glob_err hr g1
  refine(number_no (sOf 0 s) (by rw[sOf_size];decide) rfl ev w c1 c2).mono λe w' ⟨he,hb⟩=>⟨_,he,?_⟩
  exact(Stp.below hr hb).post ⟨[_,_],rfl,rfl,rfl,trivial⟩
 |succ l=>
  obtain⟨e1,h4⟩:=cond_elim hz (show T (cond (Nat.ble (l+1) 17) (parR (l+1) s λx=>cond (ltI x (Int.ofNat 9007199254740993)) (cond (ltI x (Int.negSucc 9007199254740991)) zz (itoR x λl' s'=>cond (Nat.beq (l+1) l') (cond (Nat.beq s s') (k (.tp [.one (.int .i64 x),.one (.bool true)]) mu n) zz) zz)) zz) zz)from h3)
  have hl:=Nat.le_of_ble_eq_true e1
  obtain⟨x,h5⟩:=parR_elim h4
  obtain⟨e2,h6⟩:=cond_elim hz h5
  obtain⟨e3,h7⟩:=cond_elim' hz h6
  rw[ltI_eq,decide_eq_true_iff]at e2
  rw[ltI_eq,decide_eq_false_iff_not]at e3
  have hx1: -9007199254740992≤x:=by
   have:¬x<(-9007199254740992:Int):=e3
   omega
  have hx2:x≤9007199254740992:=by
   have:x<(9007199254740993:Int):=e2
   omega
  obtain⟨l',s',h8,hs',hi⟩:=itoR_elim hz h7
  obtain⟨e4,h9⟩:=cond_elim hz h8
  obtain⟨e5,h10⟩:=cond_elim hz h9
  have:=beq_yes e4;subst this
  have:=beq_yes e5;subst this
  refine⟨_,_,_,h10,hbody,Nat.le_refl _,λρ w xs hr hx _=>?_⟩
  obtain⟨rfl,hs⟩:=s1_inv hx
  refine(number_ok (sOf (l+1) s) x (by rw[sOf_size];omega) (by rw[sOf_list];exact hi) hx1 hx2 w (tab_is hr g2)).mono λe w' ⟨he,hb⟩=>⟨_,he,?_⟩
  exact(Stp.below hr hb).post ⟨[_,_],rfl,rfl,rfl,trivial⟩
theorem itK_ok (hz:¬T zz):ContractOk T Tryz.prog val 43 (itK 3):=by
 intro args fz mu n k ht
 have hbody:hasBody Tryz.prog 43=true:=by kernel_rfl
 obtain⟨g2,h2⟩:=onGl_elim hz ht
 obtain⟨x,r1,rfl,h3⟩:=uncons_elim hz h2
 obtain⟨rfl,h4⟩:=noMore_elim hz h3
 obtain⟨x,rfl,h5⟩:=onOne_elim hz h4
 obtain⟨kd,i,rfl,h6⟩:=onInt_elim hz h5
 obtain⟨e1,h7⟩:=cond_elim hz h6
 have:=eqb_eq e1;subst this
 obtain⟨e2,h8⟩:=cond_elim hz h7
 obtain⟨e3,h9⟩:=cond_elim' hz h8
 rw[ltI_eq,decide_eq_true_iff]at e2
 rw[ltI_eq,decide_eq_false_iff_not]at e3
 have hx1: -9223372036854775808≤i:=by
  have:¬i<(-9223372036854775808:Int):=e3
  omega
 have hx2:i≤9223372036854775807:=by
  have:i<(9223372036854775808:Int):=e2
  omega
 obtain⟨l',s',h10,hs',hi⟩:=itoR_elim hz h9
 refine⟨_,_,_,h10,hbody,Nat.le_refl _,λρ w xs hr hx _=>?_⟩
 match xs,hx with
 |[x1],hx=>
  have hx1':x1=.int .i64 i:=hx.1
  subst hx1'
  refine(itoa_ok i hx1 hx2 w (tab_is hr g2 w (Below.refl _ w))).mono λe w' ⟨he,hb⟩=>⟨_,he,?_⟩
  exact(Stp.below hr hb).post ⟨hs',by rw[←hi];rfl⟩
theorem hd_lo:∀d:Fin 16,Kx.hd d.1=UInt8.ofNat (if d.1<10 then 48+d.1 else 87+d.1):=by decide
theorem digC_elim {d:Nat} {k:Nat→RR} (hlt:d<16) (h:T (digC d k)):∃c,T (k c)∧c<256∧Kx.hd d=UInt8.ofNat c:=by
 have h1:=hd_lo ⟨d,hlt⟩
 have h2:T (cond (Nat.blt d 10) (fN (48+d) k) (fN (87+d) k)):=h
 cases hb:Nat.blt d 10 with
 |true=>
  rw[hb]at h2
  have h3:T (fN (48+d) k):=h2
  rw[fN_eq]at h3
  have hd:d<10:=by simpa[Nat.blt_eq]using hb
  exact⟨_,h3,by omega,by rw[h1,if_pos hd]⟩
 |false=>
  rw[hb]at h2
  have h3:T (fN (87+d) k):=h2
  rw[fN_eq]at h3
  have hd:¬d<10:=λh=>by rw[show Nat.blt d 10=true by simpa[Nat.blt_eq]using h]at hb;cases hb
  exact⟨_,h3,by omega,by rw[h1,if_neg hd]⟩
theorem hxK_ok (hz:¬T zz):ContractOk T Tryz.prog val 54 hxK:=by
 intro args fz mu n k ht
 have hbody:hasBody Tryz.prog 54=true:=by kernel_rfl
 obtain⟨l,s,rfl,h3⟩:=onS1_elim hz ht
 obtain⟨e1,h4⟩:=cond_elim hz h3
 have:=beq_yes e1;subst this
 obtain⟨e2,h5⟩:=cond_elim hz h4
 have hs:s<256:=by simpa[Nat.blt_eq]using e2
 obtain⟨a,h6,ha,ha2⟩:=digC_elim (by show s/16<16;omega) h5
 obtain⟨b,h7,hb,hb2⟩:=digC_elim (by show s%16<16;omega) h6
 rw[fN_eq]at h7
 refine⟨_,_,_,h7,hbody,Nat.le_refl _,λρ w xs hr hx _=>?_⟩
 obtain⟨rfl,_⟩:=s1_inv hx
 refine(hex_ok (sOf 1 s) (by rw[sOf_size];decide) (by rw[sOf_size];decide) w).mono λe w' ⟨he,hbl⟩=>⟨_,he,?_⟩
 have e5:hexT (sOf 1 s) (sOf 1 s).size=sB 2 (a*256+b):=by
  rw[sOf_size]
  unfold hexT
  rw[sOf_list]
  have h1:(UInt8.ofNat s).toNat=s:=by rw[UInt8.toNat_ofNat'];omega
  have h2:sB 2 (a*256+b)=[UInt8.ofNat a,UInt8.ofNat b]:=by
   have e1:=sB_append 1 a 1 b (by simpa using hb)
   rw[Nat.pow_one]at e1
   rw[e1];rfl
  rw[h2]
  show hex2 (UInt8.ofNat s)++[]=_
  unfold hex2
  rw[h1]
  have ha3:Kx.hd (s/16)=UInt8.ofNat a:=ha2
  have hb3:Kx.hd (s%16)=UInt8.ofNat b:=hb2
  rw[ha3,hb3];rfl
 refine(Stp.below hr hbl).post ⟨?_,?_⟩
 ·show a*256+b<256^2
  omega
 ·show Value.string (hexOf (sOf 1 s))=_
  unfold hexOf
  rw[e5];rfl
end
end Go.Ev
