/-
  The evaluator: code as terms.
-/
import Derived.Test.YticddijkkbcdmaaGreatEwM6
set_option linter.unusedVariables false
set_option linter.unusedSimpArgs false
noncomputable section
namespace Go.Ev
def fg (kp:Nat→Bool) (tm:TM):TM:=tm.zipIdx.map λp=>p.1.zipIdx.map λs=>cond (kp (16*p.2+s.2)) s.1 (.one .un)
theorem row_fg (kp:Nat→Bool) (tm:TM) (q:Nat):(fg kp tm)[q]?=(tm[q]?).map λrow=>row.zipIdx.map λs=>cond (kp (16*q+s.2)) s.1 (.one .un):=by
 unfold fg
 rw[List.getElem?_map,List.getElem?_zipIdx]
 cases tm[q]?<;>simp
theorem inR_fg {kp:Nat→Bool} {tm:TM} {q r:Nat}:inR (fg kp tm) q r↔inR tm q r:=by
 unfold inR
 rw[row_fg]
 cases tm[q]?<;>simp
theorem get_fg (kp:Nat→Bool) (tm:TM) (q r:Nat):get (fg kp tm) q r=cond (kp (16*q+r)) (get tm q r) (.one .un):=by
 unfold get
 rw[nth_eq,nth_eq,nth_eq,nth_eq,row_fg]
 cases tm[q]? with
 |none=>simp
 |some row=>
  simp only[Option.map_some,Option.getD_some,List.getElem?_map,List.getElem?_zipIdx,Nat.zero_add]
  cases row[r]? with
  |none=>simp
  |some v=>simp
theorem TmR.fg {val:Nat→Int} {ρ:Rho} {w:World} {tm:TM} {a:Act} (kp:Nat→Bool) (h:TmR val ρ w tm a):TmR val ρ w (fg kp tm) a:=by
 refine⟨λt ht=>h.rng t (inR_fg.1 ht),λt=>?_⟩
 rw[get_fg]
 cases kp (16*(t/16)+t%16)with
 |true=>exact h.vals t
 |false=>trivial
theorem PostS.fg {val:Nat→Int} {ρ:Rho} {fz:Fz} {mu:St} {n:Nat} {w:World} {a:Act} {tm':TM} {mu':St} {n':Nat} {a':Act} {w':World} (kp:Nat→Bool) (h:PostS val ρ fz mu n w a tm' mu' n' a' w'):PostS val ρ fz mu n w a (fg kp tm') mu' n' a' w':=by
 obtain⟨d,ρ',p1,p2,p3,p4⟩:=h
 exact⟨d,ρ',p1,p2,p3.fg kp,p4⟩
def BC.tst:BC→Bool
 |.ite ..=>true
 |.iteN ..=>true
 |.test ..=>true
 |_=>false
section
variable {R:Type}
def inBN (id:Nat) (next:TM→St→Nat→R) (k:AExit→TM→St→Nat→R):AExit→TM→St→Nat→R:=λe tm mu n=>AExit.rec (motive:=λ_=>R) (next tm mu n) (λid'=>cond (Nat.beq id' id) (next tm mu n) (k (.exit id') tm mu n)) (k .ret tm mu n) e
def onIf (z:R) (v:AV) (a b:R):R:=v.onOne z λs=>s.onBool z λt=>cond t a b
def runKf (orc:Orc R) (z:R) (call:CallT R) (fz:Fz) (kp:Nat→Bool) (ops:List AOper):Nat→TM→St→Nat→(TM→St→Nat→R)→R:=
 List.rec (motive:=λ_=>Nat→TM→St→Nat→(TM→St→Nat→R)→R) (λ_ tm mu n k=>k tm mu n)
  (λo _ ih c tm mu n k=>Nat.rec (motive:=λ_=>R) (stepK orc z call fz o (fg kp tm) mu n λtm mu n=>ih 9 tm mu n k) (λc _=>stepK orc z call fz o tm mu n λtm mu n=>ih c tm mu n k) c) ops
def bcode (orc:Orc R) (z:R) (call:CallT R) (fz:Fz) (fuel:Nat) (kp:Nat→Bool):BC→TM→St→Nat→(AExit→TM→St→Nat→R)→R
 |.norm,tm,mu,n,k=>k .normal tm mu n
 |.ret,tm,mu,n,k=>k .ret tm mu n
 |.bad,_,_,_,_=>z
 |.exit id,tm,mu,n,k=>k (.exit id) tm mu n
 |.reg ops nx,tm,mu,n,k=>runKf orc z call fz kp ops 10 tm mu n λtm mu n=>bcode orc z call fz fuel kp nx (cond nx.tst tm (fg kp tm)) mu n k
 |.draw ops nx,tm,mu,n,k=>drawK orc z call fz ops tm mu n λtm mu n=>bcode orc z call fz fuel kp nx (cond nx.tst tm (fg kp tm)) mu n k
 |.ite x a b,tm,mu,n,k=>onIf z (ev tm x) (bcode orc z call fz fuel kp a (fg kp tm) mu n k) (bcode orc z call fz fuel kp b (fg kp tm) mu n k)
 |.iteN x a b nx,tm,mu,n,k=>onIf z (ev tm x) (bcode orc z call fz fuel kp a (fg kp tm) mu n (onw (bcode orc z call fz fuel kp nx · · · k) k)) (bcode orc z call fz fuel kp b (fg kp tm) mu n (onw (bcode orc z call fz fuel kp nx · · · k) k))
 |.test x id nx,tm,mu,n,k=>onIf z (ev tm x) (bcode orc z call fz fuel kp nx (fg kp tm) mu n k) (k (.exit id) (fg kp tm) mu n)
 |.blk id a nx,tm,mu,n,k=>bcode orc z call fz fuel kp a tm mu n (inBN id (bcode orc z call fz fuel kp nx · · · k) k)
 |.loop a nx,tm,mu,n,k=>loopD z (bcode orc z call fz fuel kp a) fuel tm mu n (onw (bcode orc z call fz fuel kp nx · · · k) k)
end
section
variable {R:Type} {T:R→Prop} {z:R} {P:Program} {val:Nat→Int} {fz:Fz} {orc:Orc R} {call:CallT R} {kp:Nat→Bool}
theorem CodeD.fg {c:Code} {tm:TM} {mu:St} {n:Nat} {e:AExit} {tm':TM} {mu':St} {n':Nat} (h:CodeD P val fz c (fg kp tm) mu n e tm' mu' n'):CodeD P val fz c tm mu n e tm' mu' n':=
 ⟨h.1,λρ w a hr ht hf Q hQ=>h.2 ρ w a hr (ht.fg kp) hf Q hQ⟩
def Out (T:R→Prop) (next:TM→St→Nat→Prop) (k:AExit→TM→St→Nat→R):AExit→TM→St→Nat→Prop
 |.normal,tm,mu,n=>next tm mu n
 |.exit id,tm,mu,n=>T (k (.exit id) tm mu n)
 |.ret,tm,mu,n=>T (k .ret tm mu n)
theorem runKf_sound (hz:¬T z) (hc:CallSound T P val call) (hk:OrcOk T val orc) {ops:Array Oper}:∀{l:List Oper} {al:List AOper} {c:Nat} {tm:TM} {mu:St} {n:Nat} {k:TM→St→Nat→R},All2 (OpR P ops) l al→T (runKf orc z call fz kp al c tm mu n k)→
 ∃tm' mu' n',T (k tm' mu' n')∧n≤n'∧∀ρ w a,Rel val ρ fz mu w→TmR val ρ w tm a→FreshN ρ n n'→∀(Q:Exit→Act→World→Prop),(∀a' w',PostS val ρ fz mu n w a tm' mu' n' a' w'→Q .normal a' w')→wpList P ops Q l a w
 |[],[],c,tm,mu,n,k,_,h=>⟨tm,mu,n,h,Nat.le_refl _,λρ w a hr ht _ Q hQ=>hQ a w (PostS.refl hr ht)⟩
 |[],_::_,_,_,_,_,_,hl,_=>hl.elim
 |_::_,[],_,_,_,_,_,hl,_=>hl.elim
 |o::l,ao::al,c,tm,mu,n,k,hl,h=>by
  have go:∀(c':Nat) (tm0:TM),(∀ρ w a,TmR val ρ w tm a→TmR val ρ w tm0 a)→T (stepK orc z call fz ao tm0 mu n λtm mu n=>runKf orc z call fz kp al c' tm mu n k)→
   ∃tm' mu' n',T (k tm' mu' n')∧n≤n'∧∀ρ w a,Rel val ρ fz mu w→TmR val ρ w tm a→FreshN ρ n n'→∀(Q:Exit→Act→World→Prop),(∀a' w',PostS val ρ fz mu n w a tm' mu' n' a' w'→Q .normal a' w')→wpList P ops Q (o::l) a w:=by
   intro c' tm0 h0 h
   obtain⟨tm1,mu1,n1,h1,h2⟩:=stepK_sound (P:=P) (val:=val) hz hc hk hl.1 h
   obtain⟨tm2,mu2,n2,h3,h4,h5⟩:=runKf_sound hz hc hk hl.2 h1
   refine⟨tm2,mu2,n2,h3,Nat.le_trans h2.1 h4,λρ w a hr ht hf Q hQ=>?_⟩
   have:=h2.2 ρ w a hr (h0 ρ w a ht) (hf.sub (Nat.le_refl _) h4) (wpList P ops Q l) Q λa1 w1 hp=>by
    obtain⟨d,ρ1,p1,p2,p3,p4,p5,p6⟩:=hp
    refine h5 ρ1 w1 a1 p2 p3 (hf.later p1 h2.1) Q λa2 w2 hp2=>hQ a2 w2 ?_
    exact PostS.trans d p1 p4 p5 p6 h2.1 h4 hp2
   simpa only[wpList]using this
  cases c with
  |zero=>exact go 9 (fg kp tm) (λρ w a ht=>ht.fg kp) h
  |succ c=>exact go c tm (λρ w a ht=>ht) h
theorem fgC (kp:Nat→Bool) (b:Bool) {val:Nat→Int} {ρ:Rho} {fz:Fz} {mu:St} {n:Nat} {w:World} {a:Act} {tm':TM} {mu':St} {n':Nat} {a':Act} {w':World} (h:PostS val ρ fz mu n w a tm' mu' n' a' w'):PostS val ρ fz mu n w a (cond b tm' (fg kp tm')) mu' n' a' w':=by
 cases b with
 |true=>exact h
 |false=>exact h.fg kp
theorem onIf_elim (hz:¬T z) {v:AV} {a b:R} (h:T (onIf z v a b)):∃t,v=.one (.bool t)∧T (cond t a b):=by
 obtain⟨s,e1,h1⟩:=onOne_elim hz h
 obtain⟨t,e2,h2⟩:=onBool_elim hz h1
 exact⟨t,by rw[e1,e2],h2⟩
theorem out_onw {next:TM→St→Nat→R} {k:AExit→TM→St→Nat→R} {e:AExit} {tm:TM} {mu:St} {n:Nat} (h:T (onw next k e tm mu n)):Out T (λtm mu n=>T (next tm mu n)) k e tm mu n:=by
 cases e<;>exact h
theorem out_norm {fuel:Nat} {k:AExit→TM→St→Nat→R} {e:AExit} {tm:TM} {mu:St} {n:Nat} (h:Out T (λtm mu n=>T (bcode orc z call fz fuel kp .norm tm mu n k)) k e tm mu n):T (k e tm mu n):=by
 cases e<;>exact h
theorem testId_some {a b:ACode} {id:Nat} (h:ACode.testId a b=some id):a=.skip∧b=.exit id:=by
 unfold ACode.testId at h
 split at h
 ·cases h;exact⟨rfl,rfl⟩
 ·cases h
theorem bcode_sound (hz:¬T z) (hc:CallSound T P val call) (hk:OrcOk T val orc) (hmx:P.follows .mixedOrders=true) {m:Muts} {fuel:Nat}:∀(c:Code) {ac:ACode} {nx:BC} {tm:TM} {mu:St} {n:Nat} {k:AExit→TM→St→Nat→R},prepCode P m c=some ac→T (bcode orc z call fz fuel kp (flat ac nx) tm mu n k)→
 ∃e tm' mu' n',Out T (λtm mu n=>T (bcode orc z call fz fuel kp nx tm mu n k)) k e tm' mu' n'∧CodeD P val fz c tm mu n e tm' mu' n'
 |.skip,ac,nx,tm,mu,n,k,hp,h=>by
  simp only[prepCode,Option.some.injEq]at hp;subst hp
  exact⟨.normal,tm,mu,n,h,codeD_same λQ a w hq=>wp_skip hq⟩
 |.label l,ac,nx,tm,mu,n,k,hp,h=>by
  simp only[prepCode,Option.some.injEq]at hp;subst hp
  exact⟨.normal,tm,mu,n,h,codeD_same λQ a w hq=>wp_label hq⟩
 |.exit id,ac,nx,tm,mu,n,k,hp,h=>by
  simp only[prepCode,Option.some.injEq]at hp;subst hp
  exact⟨.exit id,tm,mu,n,h,codeD_same λQ a w hq=>wp_exit hq⟩
 |.ret,ac,nx,tm,mu,n,k,hp,h=>by
  simp only[prepCode,Option.some.injEq]at hp;subst hp
  exact⟨.ret,tm,mu,n,h,codeD_same λQ a w hq=>wp_ret hq⟩
 |.region id ops false,ac,nx,tm,mu,n,k,hp,h=>by
  simp only[prepCode]at hp
  split at hp
  ·rename_i al h1
   cases hp
   obtain⟨tm',mu',n',h2,h3,h4⟩:=runKf_sound (P:=P) (val:=val) hz hc hk (prepOpers_R h1) (show T (runKf orc z call fz kp al 10 tm mu n λtm mu n=>bcode orc z call fz fuel kp nx (cond nx.tst tm (fg kp tm)) mu n k)from h)
   exact⟨.normal,_,mu',n',h2,h3,λρ w a hr ht hf Q hQ=>wp_region_list (h4 ρ w a hr ht hf Q λa' w' hp=>hQ a' w' (fgC kp nx.tst hp))⟩
  ·cases hp;exact(hz h).elim
 |.region id ops true,ac,nx,tm,mu,n,k,hp,h=>by
  simp only[prepCode]at hp
  split at hp
  ·rename_i l h1
   split at hp
   ·rename_i hok
    cases hp
    have hR:All2 (OpR P ops) ops.toList (modes l (ancs ops.toList [])):=by
     have hl:=prepOpers_R h1
     have hlen:(modes l (ancs ops.toList [])).length=ops.toList.length:=modes_length h1
     refine All2.of_get hlen.symm λi o ao ho hao=>?_
     obtain⟨ao',h2,h3⟩:=hl.get ho
     exact h3.same (modes_get h2 hao)
    obtain⟨tm',mu',n',h2,h3,h4⟩:=draw_sound (P:=P) (val:=val) (id:=id) hz hc hk hmx hok hR (show T (drawK orc z call fz _ tm mu n λtm mu n=>bcode orc z call fz fuel kp nx (cond nx.tst tm (fg kp tm)) mu n k)from h)
    exact⟨.normal,_,mu',n',h2,h3,λρ w a hr ht hf Q hQ=>h4 ρ w a hr ht hf Q λa' w' hp=>hQ a' w' (fgC kp nx.tst hp)⟩
   ·cases hp;exact(hz h).elim
  ·cases hp;exact(hz h).elim
 |.seq a b,ac,nx,tm,mu,n,k,hp,h=>by
  simp only[prepCode]at hp
  split at hp
  ·rename_i x y hx hy
   cases hp
   obtain⟨e,tm1,mu1,n1,h1,h2⟩:=bcode_sound hz hc hk hmx a hx (show T (bcode orc z call fz fuel kp (flat x (flat y nx)) tm mu n k)from h)
   cases e with
   |normal=>
    obtain⟨e2,tm2,mu2,n2,h3,h4⟩:=bcode_sound hz hc hk hmx b hy (show T (bcode orc z call fz fuel kp (flat y nx) tm1 mu1 n1 k)from h1)
    refine⟨e2,tm2,mu2,n2,h3,Nat.le_trans h2.1 h4.1,λρ w a hr ht hf Q hQ=>wp_seq ?_⟩
    refine h2.2 ρ w a hr ht (hf.sub (Nat.le_refl _) h4.1) _ λa1 w1 hp=>?_
    obtain⟨d,ρ1,p1,p2,p3,p4,p5,p6⟩:=hp
    refine h4.2 ρ1 w1 a1 p2 p3 (hf.later p1 h2.1) Q λa2 w2 hp2=>hQ a2 w2 ?_
    exact PostS.trans d p1 p4 p5 p6 h2.1 h4.1 hp2
   |exit id=>exact⟨.exit id,tm1,mu1,n1,h1,h2.1,λρ w a hr ht hf Q hQ=>wp_seq (h2.2 ρ w a hr ht hf (Exit.then (b.wp P Q) Q) hQ)⟩
   |ret=>exact⟨.ret,tm1,mu1,n1,h1,h2.1,λρ w a hr ht hf Q hQ=>wp_seq (h2.2 ρ w a hr ht hf (Exit.then (b.wp P Q) Q) hQ)⟩
  ·cases hp
 |.cond c a b,ac,nx,tm,mu,n,k,hp,h=>by
  simp only[prepCode]at hp
  split at hp
  ·rename_i c' x y hcd hx hy
   cases hp
   have hev:∀t,ev tm c'=.one (.bool t)→∀ρ w (act:Act),TmR val ρ w tm act→act.eval c=.bool t:=λt e1 ρ w act ht=>by
    have:=ht.ev hcd
    rw[e1]at this
    exact this
   have yes:∀{t:Bool} {e:AExit} {tm':TM} {mu':St} {n':Nat},ev tm c'=.one (.bool t)→t=true→CodeD P val fz a (fg kp tm) mu n e tm' mu' n'→CodeD P val fz (.cond c a b) tm mu n e tm' mu' n':=λe1 et h=>
    ⟨h.1,λρ w act hr ht hf Q hQ=>wp_cond_true (by rw[hev _ e1 ρ w act ht,et]) (h.fg.2 ρ w act hr ht hf Q hQ)⟩
   have no:∀{t:Bool} {e:AExit} {tm':TM} {mu':St} {n':Nat},ev tm c'=.one (.bool t)→t=false→CodeD P val fz b (fg kp tm) mu n e tm' mu' n'→CodeD P val fz (.cond c a b) tm mu n e tm' mu' n':=λe1 et h=>
    ⟨h.1,λρ w act hr ht hf Q hQ=>wp_cond_false (by rw[hev _ e1 ρ w act ht,et]) (h.fg.2 ρ w act hr ht hf Q hQ)⟩
   have h9:T (bcode orc z call fz fuel kp (Bool.rec (motive:=λ_=>BC) (Option.rec (motive:=λ_=>BC) (.iteN c' (flat x .norm) (flat y .norm) nx) (λid=>.test c' id nx) (ACode.testId x y)) (.ite c' (flat x .norm) (flat y .norm)) nx.isNorm) tm mu n k):=h
   cases hn:nx.isNorm with
   |true=>
    have hnx:nx=.norm:=by cases nx<;>first|rfl|cases hn
    subst hnx
    simp only[hn]at h9
    obtain⟨t,e1,h1⟩:=onIf_elim hz h9
    cases t with
    |true=>
     obtain⟨e,tm1,mu1,n1,h3,h4⟩:=bcode_sound hz hc hk hmx a hx h1
     exact⟨e,tm1,mu1,n1,h3,yes e1 rfl h4⟩
    |false=>
     obtain⟨e,tm1,mu1,n1,h3,h4⟩:=bcode_sound hz hc hk hmx b hy h1
     exact⟨e,tm1,mu1,n1,h3,no e1 rfl h4⟩
   |false=>
    cases hi:ACode.testId x y with
    |some id=>
     simp only[hn,hi]at h9
     obtain⟨rfl,rfl⟩:=testId_some hi
     obtain⟨t,e1,h1⟩:=onIf_elim hz h9
     cases t with
     |true=>
      obtain⟨e,tm1,mu1,n1,h3,h4⟩:=bcode_sound hz hc hk hmx a hx (show T (bcode orc z call fz fuel kp (flat .skip nx) (fg kp tm) mu n k)from h1)
      exact⟨e,tm1,mu1,n1,h3,yes e1 rfl h4⟩
     |false=>
      obtain⟨e,tm1,mu1,n1,h3,h4⟩:=bcode_sound hz hc hk hmx b hy (show T (bcode orc z call fz fuel kp (flat (.exit id) nx) (fg kp tm) mu n k)from h1)
      exact⟨e,tm1,mu1,n1,h3,no e1 rfl h4⟩
    |none=>
     simp only[hn,hi]at h9
     obtain⟨t,e1,h1⟩:=onIf_elim hz h9
     cases t with
     |true=>
      obtain⟨e,tm1,mu1,n1,h3,h4⟩:=bcode_sound hz hc hk hmx a hx h1
      exact⟨e,tm1,mu1,n1,out_onw (out_norm h3),yes e1 rfl h4⟩
     |false=>
      obtain⟨e,tm1,mu1,n1,h3,h4⟩:=bcode_sound hz hc hk hmx b hy h1
      exact⟨e,tm1,mu1,n1,out_onw (out_norm h3),no e1 rfl h4⟩
  ·cases hp
 |.block id a,ac,nx,tm,mu,n,k,hp,h=>by
  simp only[prepCode]at hp
  obtain⟨x,hx,rfl⟩:=Option.map_eq_some_iff.1 hp
  obtain⟨e,tm1,mu1,n1,h0,h2⟩:=bcode_sound hz hc hk hmx a hx (show T (bcode orc z call fz fuel kp (flat x .norm) tm mu n (inBN id (bcode orc z call fz fuel kp nx · · · k) k))from h)
  have h1:=out_norm h0
  cases e with
  |normal=>exact⟨.normal,tm1,mu1,n1,h1,h2.1,λρ w a hr ht hf Q hQ=>wp_block (h2.2 ρ w a hr ht hf (Exit.inBlock id Q) hQ)⟩
  |ret=>exact⟨.ret,tm1,mu1,n1,h1,h2.1,λρ w a hr ht hf Q hQ=>wp_block (h2.2 ρ w a hr ht hf (Exit.inBlock id Q) hQ)⟩
  |exit id'=>
   have h1':T (cond (Nat.beq id' id) (bcode orc z call fz fuel kp nx tm1 mu1 n1 k) (k (.exit id') tm1 mu1 n1)):=h1
   cases hb:Nat.beq id' id with
   |true=>
    rw[hb]at h1'
    have:=Nat.eq_of_beq_eq_true hb
    subst this
    refine⟨.normal,tm1,mu1,n1,h1',h2.1,λρ w a hr ht hf Q hQ=>wp_block (h2.2 ρ w a hr ht hf _ λa' w' hp=>?_)⟩
    show Exit.inBlock id' Q (.exit id') a' w'
    simp only[Exit.inBlock,if_true]
    exact hQ a' w' hp
   |false=>
    rw[hb]at h1'
    have:=Nat.ne_of_beq_eq_false hb
    refine⟨.exit id',tm1,mu1,n1,h1',h2.1,λρ w a hr ht hf Q hQ=>wp_block (h2.2 ρ w a hr ht hf _ λa' w' hp=>?_)⟩
    show Exit.inBlock id Q (.exit id') a' w'
    simp only[Exit.inBlock,this,if_false]
    exact hQ a' w' hp
 |.loop a,ac,nx,tm,mu,n,k,hp,h=>by
  simp only[prepCode]at hp
  obtain⟨x,hx,rfl⟩:=Option.map_eq_some_iff.1 hp
  obtain⟨e,tm1,mu1,n1,h1,h2,h3⟩:=loopD_sound (P:=P) (val:=val) (fz:=fz) (a:=a) (D:=bcode orc z call fz fuel kp (flat x .norm)) hz (λh=>by
   obtain⟨e,tm',mu',n',g1,g2⟩:=bcode_sound hz hc hk hmx a hx h
   exact⟨e,tm',mu',n',out_norm g1,g2⟩) fuel (show T (loopD z (bcode orc z call fz fuel kp (flat x .norm)) fuel tm mu n (onw (bcode orc z call fz fuel kp nx · · · k) k))from h)
  exact⟨e,tm1,mu1,n1,out_onw h1,h2,λρ w act hr ht hf Q hQ=>wp_loop_rounds _ (h3 ρ w act hr ht hf Q hQ)⟩
 |.scope a,ac,nx,tm,mu,n,k,hp,h=>by
  simp only[prepCode]at hp
  obtain⟨e,tm1,mu1,n1,h1,h2⟩:=bcode_sound hz hc hk hmx a hp h
  refine⟨e,tm1,mu1,n1,h1,h2.1,λρ w act hr ht hf Q hQ=>wp_scope_straight (h2.2 ρ w act hr ht hf _ λa' w' hp=>?_)⟩
  cases e<;>exact hQ a' w' hp
 |.goto l,ac,nx,tm,mu,n,k,hp,h=>by
  simp only[prepCode,Option.some.injEq]at hp;subst hp
  exact(hz h).elim
 |.rangeFunc ..,ac,nx,tm,mu,n,k,hp,h=>by
  simp only[prepCode,Option.some.injEq]at hp;subst hp
  exact(hz h).elim
 |.refuse _,ac,nx,tm,mu,n,k,hp,h=>by
  simp only[prepCode,Option.some.injEq]at hp;subst hp
  exact(hz h).elim
end
end Go.Ev
namespace Go.Ev
def idxOf (l:List Nat) (t:Nat):Nat→Option Nat:=List.rec (motive:=λ_=>Nat→Option Nat) (λ_=>none) (λa _ ih j=>Bool.rec (motive:=λ_=>Option Nat) (ih (Nat.succ j)) (some j) (Nat.beq a t)) l
def gE (q r:S16):GT:=S16.rec (motive:=λ_=>S16→GT)
 (λr=>S16.rec (motive:=λ_=>GT) e0_0 e0_1 e0_2 e0_3 e0_4 e0_5 e0_6 e0_7 e0_8 e0_9 e0_10 e0_11 e0_12 e0_13 e0_14 e0_15 r)
 (λr=>S16.rec (motive:=λ_=>GT) e1_0 e1_1 e1_2 e1_3 e1_4 e1_5 e1_6 e1_7 e1_8 e1_9 e1_10 e1_11 e1_12 e1_13 e1_14 e1_15 r)
 (λr=>S16.rec (motive:=λ_=>GT) e2_0 e2_1 e2_2 e2_3 e2_4 e2_5 e2_6 e2_7 e2_8 e2_9 e2_10 e2_11 e2_12 e2_13 e2_14 e2_15 r)
 (λr=>S16.rec (motive:=λ_=>GT) e3_0 e3_1 e3_2 e3_3 e3_4 e3_5 e3_6 e3_7 e3_8 e3_9 e3_10 e3_11 e3_12 e3_13 e3_14 e3_15 r)
 (λr=>S16.rec (motive:=λ_=>GT) e4_0 e4_1 e4_2 e4_3 e4_4 e4_5 e4_6 e4_7 e4_8 e4_9 e4_10 e4_11 e4_12 e4_13 e4_14 e4_15 r)
 (λr=>S16.rec (motive:=λ_=>GT) e5_0 e5_1 e5_2 e5_3 e5_4 e5_5 e5_6 e5_7 e5_8 e5_9 e5_10 e5_11 e5_12 e5_13 e5_14 e5_15 r)
 (λr=>S16.rec (motive:=λ_=>GT) e6_0 e6_1 e6_2 e6_3 e6_4 e6_5 e6_6 e6_7 e6_8 e6_9 e6_10 e6_11 e6_12 e6_13 e6_14 e6_15 r)
 (λr=>S16.rec (motive:=λ_=>GT) e7_0 e7_1 e7_2 e7_3 e7_4 e7_5 e7_6 e7_7 e7_8 e7_9 e7_10 e7_11 e7_12 e7_13 e7_14 e7_15 r)
 (λr=>S16.rec (motive:=λ_=>GT) e8_0 e8_1 e8_2 e8_3 e8_4 e8_5 e8_6 e8_7 e8_8 e8_9 e8_10 e8_11 e8_12 e8_13 e8_14 e8_15 r)
 (λr=>S16.rec (motive:=λ_=>GT) e9_0 e9_1 e9_2 e9_3 e9_4 e9_5 e9_6 e9_7 e9_8 e9_9 e9_10 e9_11 e9_12 e9_13 e9_14 e9_15 r)
 (λr=>S16.rec (motive:=λ_=>GT) e10_0 e10_1 e10_2 e10_3 e10_4 e10_5 e10_6 e10_7 e10_8 e10_9 e10_10 e10_11 e10_12 e10_13 e10_14 e10_15 r)
 (λr=>S16.rec (motive:=λ_=>GT) e11_0 e11_1 e11_2 e11_3 e11_4 e11_5 e11_6 e11_7 e11_8 e11_9 e11_10 e11_11 e11_12 e11_13 e11_14 e11_15 r)
 (λr=>S16.rec (motive:=λ_=>GT) e12_0 e12_1 e12_2 e12_3 e12_4 e12_5 e12_6 e12_7 e12_8 e12_9 e12_10 e12_11 e12_12 e12_13 e12_14 e12_15 r)
 (λr=>S16.rec (motive:=λ_=>GT) e13_0 e13_1 e13_2 e13_3 e13_4 e13_5 e13_6 e13_7 e13_8 e13_9 e13_10 e13_11 e13_12 e13_13 e13_14 e13_15 r)
 (λr=>S16.rec (motive:=λ_=>GT) e14_0 e14_1 e14_2 e14_3 e14_4 e14_5 e14_6 e14_7 e14_8 e14_9 e14_10 e14_11 e14_12 e14_13 e14_14 e14_15 r)
 (λr=>S16.rec (motive:=λ_=>GT) e15_0 e15_1 e15_2 e15_3 e15_4 e15_5 e15_6 e15_7 e15_8 e15_9 e15_10 e15_11 e15_12 e15_13 e15_14 e15_15 r)
 q r
def sE (q r:S16):ST:=S16.rec (motive:=λ_=>S16→ST)
 (λr=>S16.rec (motive:=λ_=>ST) se0_0 se0_1 se0_2 se0_3 se0_4 se0_5 se0_6 se0_7 se0_8 se0_9 se0_10 se0_11 se0_12 se0_13 se0_14 se0_15 r)
 (λr=>S16.rec (motive:=λ_=>ST) se1_0 se1_1 se1_2 se1_3 se1_4 se1_5 se1_6 se1_7 se1_8 se1_9 se1_10 se1_11 se1_12 se1_13 se1_14 se1_15 r)
 (λr=>S16.rec (motive:=λ_=>ST) se2_0 se2_1 se2_2 se2_3 se2_4 se2_5 se2_6 se2_7 se2_8 se2_9 se2_10 se2_11 se2_12 se2_13 se2_14 se2_15 r)
 (λr=>S16.rec (motive:=λ_=>ST) se3_0 se3_1 se3_2 se3_3 se3_4 se3_5 se3_6 se3_7 se3_8 se3_9 se3_10 se3_11 se3_12 se3_13 se3_14 se3_15 r)
 (λr=>S16.rec (motive:=λ_=>ST) se4_0 se4_1 se4_2 se4_3 se4_4 se4_5 se4_6 se4_7 se4_8 se4_9 se4_10 se4_11 se4_12 se4_13 se4_14 se4_15 r)
 (λr=>S16.rec (motive:=λ_=>ST) se5_0 se5_1 se5_2 se5_3 se5_4 se5_5 se5_6 se5_7 se5_8 se5_9 se5_10 se5_11 se5_12 se5_13 se5_14 se5_15 r)
 (λr=>S16.rec (motive:=λ_=>ST) se6_0 se6_1 se6_2 se6_3 se6_4 se6_5 se6_6 se6_7 se6_8 se6_9 se6_10 se6_11 se6_12 se6_13 se6_14 se6_15 r)
 (λr=>S16.rec (motive:=λ_=>ST) se7_0 se7_1 se7_2 se7_3 se7_4 se7_5 se7_6 se7_7 se7_8 se7_9 se7_10 se7_11 se7_12 se7_13 se7_14 se7_15 r)
 (λr=>S16.rec (motive:=λ_=>ST) se8_0 se8_1 se8_2 se8_3 se8_4 se8_5 se8_6 se8_7 se8_8 se8_9 se8_10 se8_11 se8_12 se8_13 se8_14 se8_15 r)
 (λr=>S16.rec (motive:=λ_=>ST) se9_0 se9_1 se9_2 se9_3 se9_4 se9_5 se9_6 se9_7 se9_8 se9_9 se9_10 se9_11 se9_12 se9_13 se9_14 se9_15 r)
 (λr=>S16.rec (motive:=λ_=>ST) se10_0 se10_1 se10_2 se10_3 se10_4 se10_5 se10_6 se10_7 se10_8 se10_9 se10_10 se10_11 se10_12 se10_13 se10_14 se10_15 r)
 (λr=>S16.rec (motive:=λ_=>ST) se11_0 se11_1 se11_2 se11_3 se11_4 se11_5 se11_6 se11_7 se11_8 se11_9 se11_10 se11_11 se11_12 se11_13 se11_14 se11_15 r)
 (λr=>S16.rec (motive:=λ_=>ST) se12_0 se12_1 se12_2 se12_3 se12_4 se12_5 se12_6 se12_7 se12_8 se12_9 se12_10 se12_11 se12_12 se12_13 se12_14 se12_15 r)
 (λr=>S16.rec (motive:=λ_=>ST) se13_0 se13_1 se13_2 se13_3 se13_4 se13_5 se13_6 se13_7 se13_8 se13_9 se13_10 se13_11 se13_12 se13_13 se13_14 se13_15 r)
 (λr=>S16.rec (motive:=λ_=>ST) se14_0 se14_1 se14_2 se14_3 se14_4 se14_5 se14_6 se14_7 se14_8 se14_9 se14_10 se14_11 se14_12 se14_13 se14_14 se14_15 r)
 (λr=>S16.rec (motive:=λ_=>ST) se15_0 se15_1 se15_2 se15_3 se15_4 se15_5 se15_6 se15_7 se15_8 se15_9 se15_10 se15_11 se15_12 se15_13 se15_14 se15_15 r)
 q r
theorem gE_eq (q r:S16) (a0 a1 a2 a3 a4 a5 a6 a7:AV) (x:T2):gE q r (.mk a0 a1 a2 a3 a4 a5 a6 a7 x)=get2 q r x:=by cases q<;>cases r<;>rfl
theorem sE_eq (q r:S16) (a0 a1 a2 a3 a4 a5 a6 a7:AV) (x:T2) (v:AV) (k:Fm→RR):sE q r (.mk a0 a1 a2 a3 a4 a5 a6 a7 x) v k=set2 q r x v λx=>k (.mk a0 a1 a2 a3 a4 a5 a6 a7 x):=by cases q<;>cases r<;>rfl
def gAt:Nat→GT
 |0=>d0
 |1=>d1
 |2=>d2
 |3=>d3
 |4=>d4
 |5=>d5
 |6=>d6
 |7=>d7
 |j+8=>gE (S16.of (j/16)) (S16.of (j%16))
def sAt:Nat→ST
 |0=>sd0
 |1=>sd1
 |2=>sd2
 |3=>sd3
 |4=>sd4
 |5=>sd5
 |6=>sd6
 |7=>sd7
 |j+8=>sE (S16.of (j/16)) (S16.of (j%16))
def setP:Nat→Fm→AV→Fm
 |0,.mk _ a1 a2 a3 a4 a5 a6 a7 x,v=>.mk v a1 a2 a3 a4 a5 a6 a7 x
 |1,.mk a0 _ a2 a3 a4 a5 a6 a7 x,v=>.mk a0 v a2 a3 a4 a5 a6 a7 x
 |2,.mk a0 a1 _ a3 a4 a5 a6 a7 x,v=>.mk a0 a1 v a3 a4 a5 a6 a7 x
 |3,.mk a0 a1 a2 _ a4 a5 a6 a7 x,v=>.mk a0 a1 a2 v a4 a5 a6 a7 x
 |4,.mk a0 a1 a2 a3 _ a5 a6 a7 x,v=>.mk a0 a1 a2 a3 v a5 a6 a7 x
 |5,.mk a0 a1 a2 a3 a4 _ a6 a7 x,v=>.mk a0 a1 a2 a3 a4 v a6 a7 x
 |6,.mk a0 a1 a2 a3 a4 a5 _ a7 x,v=>.mk a0 a1 a2 a3 a4 a5 v a7 x
 |7,.mk a0 a1 a2 a3 a4 a5 a6 _ x,v=>.mk a0 a1 a2 a3 a4 a5 a6 v x
 |j+8,.mk a0 a1 a2 a3 a4 a5 a6 a7 x,v=>.mk a0 a1 a2 a3 a4 a5 a6 a7 (set2p (S16.of (j/16)) (S16.of (j%16)) x v)
def initAt:Nat→IF
 |0=>init0
 |1=>init1
 |2=>init2
 |3=>init3
 |4=>init4
 |5=>init5
 |6=>init6
 |7=>init7
 |8=>init8
 |_=>λ_ _=>zz
def frm (l:List AV):Fm:=.mk ((l[0]?).getD (.one .un)) ((l[1]?).getD (.one .un)) ((l[2]?).getD (.one .un)) ((l[3]?).getD (.one .un)) ((l[4]?).getD (.one .un)) ((l[5]?).getD (.one .un)) ((l[6]?).getD (.one .un)) ((l[7]?).getD (.one .un)) t2U
theorem sAt_eq (j:Nat) (t:Fm) (v:AV) (k:Fm→RR):sAt j t v k=k (setP j t v):=by
 obtain⟨a0,a1,a2,a3,a4,a5,a6,a7,x⟩:=t
 unfold sAt setP
 split<;>first|rfl|(rw[sE_eq,set2_eq])
theorem get2_same (q r:S16) (x:T2) (v:AV):get2 q r (set2p q r x v)=v:=by
 unfold get2 set2p
 rw[tg_same,rg_same]
theorem get2_ne {q r q' r':S16} (h:¬(q=q'∧r=r')) (x:T2) (v:AV):get2 q r (set2p q' r' x v)=get2 q r x:=by
 unfold get2 set2p
 by_cases hq:q=q'
 ·subst hq
  rw[tg_same,rg_ne (λhr=>h ⟨rfl,hr⟩)]
 ·rw[tg_ne hq]
theorem gAt_setP {i j:Nat} (hi:i<264) (hj:j<264) (t:Fm) (v:AV):gAt i (setP j t v)=if i=j then v else gAt i t:=by
 obtain⟨a0,a1,a2,a3,a4,a5,a6,a7,x⟩:=t
 have big:∀{a b:Nat},a<256→b<256→a≠b→¬(S16.of (a/16)=S16.of (b/16)∧S16.of (a%16)=S16.of (b%16)):=by
  intro a b ha hb hne ⟨h1,h2⟩
  have e1:a/16=b/16:=by
   have:=congrArg S16.n h1
   rwa [S16.n_of (by omega),S16.n_of (by omega)]at this
  have e2:a%16=b%16:=by
   have:=congrArg S16.n h2
   rwa [S16.n_of (by omega),S16.n_of (by omega)]at this
  omega
 rcases(show i=0∨i=1∨i=2∨i=3∨i=4∨i=5∨i=6∨i=7∨∃a,i=a+8 from by
  rcases Nat.lt_or_ge i 8 with h|h
  ·omega
  ·have:∃a,i=a+8:=⟨i-8,by omega⟩
   simp[this])with rfl|rfl|rfl|rfl|rfl|rfl|rfl|rfl|⟨a,rfl⟩<;>
 rcases(show j=0∨j=1∨j=2∨j=3∨j=4∨j=5∨j=6∨j=7∨∃b,j=b+8 from by
  rcases Nat.lt_or_ge j 8 with h|h
  ·omega
  ·have:∃a,j=a+8:=⟨j-8,by omega⟩
   simp[this])with rfl|rfl|rfl|rfl|rfl|rfl|rfl|rfl|⟨b,rfl⟩<;>
 first
 |rfl
 |(rw[if_neg (by omega)];rfl)
 |(show gE (S16.of (a/16)) (S16.of (a%16)) (.mk a0 a1 a2 a3 a4 a5 a6 a7 (set2p (S16.of (b/16)) (S16.of (b%16)) x v))=_
   rw[gE_eq]
   by_cases e:a=b
   ·subst e;rw[get2_same];simp
   ·rw[get2_ne (big (by omega) (by omega) e),if_neg (by omega)];exact(gE_eq _ _ _ _ _ _ _ _ _ _ _).symm)
 |(rw[if_neg (by omega)];exact(gE_eq _ _ _ _ _ _ _ _ _ _ _).trans (gE_eq _ _ _ _ _ _ _ _ _ _ _).symm)
theorem get2_t2U (q r:S16):get2 q r t2U=.one .un:=by cases q<;>cases r<;>rfl
theorem gAt_frm {j:Nat} {l:List AV} (hl:l.length≤8):gAt j (frm l)=(l[j]?).getD (.one .un):=by
 rcases(show j=0∨j=1∨j=2∨j=3∨j=4∨j=5∨j=6∨j=7∨∃a,j=a+8 from by
  rcases Nat.lt_or_ge j 8 with h|h
  ·omega
  ·have:∃a,j=a+8:=⟨j-8,by omega⟩
   simp[this])with rfl|rfl|rfl|rfl|rfl|rfl|rfl|rfl|⟨a,rfl⟩<;>first
 |rfl
 |(rw[List.getElem?_eq_none (by omega)];exact(gE_eq _ _ _ _ _ _ _ _ _ _ _).trans (get2_t2U _ _))
theorem initAt_elim {T:RR→Prop} (hz:¬T zz) {m:Nat} {l:List AV} {k:Fm→RR} (h:T (initAt m l k)):l.length=m∧m≤8∧T (k (frm l)):=by
 rcases(show m=0∨m=1∨m=2∨m=3∨m=4∨m=5∨m=6∨m=7∨m=8∨8<m by omega)with rfl|rfl|rfl|rfl|rfl|rfl|rfl|rfl|rfl|hm
 ·match l,h with
  |[],h=>exact⟨rfl,by omega,h⟩
  |_::_,h=>exact(hz h).elim
 ·match l,h with
  |[],h=>exact(hz h).elim
  |[_],h=>exact⟨rfl,by omega,h⟩
  |_::_::_,h=>exact(hz h).elim
 ·match l,h with
  |[],h=>exact(hz h).elim
  |[_],h=>exact(hz h).elim
  |[_,_],h=>exact⟨rfl,by omega,h⟩
  |_::_::_::_,h=>exact(hz h).elim
 ·match l,h with
  |[],h=>exact(hz h).elim
  |[_],h=>exact(hz h).elim
  |[_,_],h=>exact(hz h).elim
  |[_,_,_],h=>exact⟨rfl,by omega,h⟩
  |_::_::_::_::_,h=>exact(hz h).elim
 ·match l,h with
  |[],h=>exact(hz h).elim
  |[_],h=>exact(hz h).elim
  |[_,_],h=>exact(hz h).elim
  |[_,_,_],h=>exact(hz h).elim
  |[_,_,_,_],h=>exact⟨rfl,by omega,h⟩
  |_::_::_::_::_::_,h=>exact(hz h).elim
 ·match l,h with
  |[],h=>exact(hz h).elim
  |[_],h=>exact(hz h).elim
  |[_,_],h=>exact(hz h).elim
  |[_,_,_],h=>exact(hz h).elim
  |[_,_,_,_],h=>exact(hz h).elim
  |[_,_,_,_,_],h=>exact⟨rfl,by omega,h⟩
  |_::_::_::_::_::_::_,h=>exact(hz h).elim
 ·match l,h with
  |[],h=>exact(hz h).elim
  |[_],h=>exact(hz h).elim
  |[_,_],h=>exact(hz h).elim
  |[_,_,_],h=>exact(hz h).elim
  |[_,_,_,_],h=>exact(hz h).elim
  |[_,_,_,_,_],h=>exact(hz h).elim
  |[_,_,_,_,_,_],h=>exact⟨rfl,by omega,h⟩
  |_::_::_::_::_::_::_::_,h=>exact(hz h).elim
 ·match l,h with
  |[],h=>exact(hz h).elim
  |[_],h=>exact(hz h).elim
  |[_,_],h=>exact(hz h).elim
  |[_,_,_],h=>exact(hz h).elim
  |[_,_,_,_],h=>exact(hz h).elim
  |[_,_,_,_,_],h=>exact(hz h).elim
  |[_,_,_,_,_,_],h=>exact(hz h).elim
  |[_,_,_,_,_,_,_],h=>exact⟨rfl,by omega,h⟩
  |_::_::_::_::_::_::_::_::_,h=>exact(hz h).elim
 ·match l,h with
  |[],h=>exact(hz h).elim
  |[_],h=>exact(hz h).elim
  |[_,_],h=>exact(hz h).elim
  |[_,_,_],h=>exact(hz h).elim
  |[_,_,_,_],h=>exact(hz h).elim
  |[_,_,_,_,_],h=>exact(hz h).elim
  |[_,_,_,_,_,_],h=>exact(hz h).elim
  |[_,_,_,_,_,_,_],h=>exact(hz h).elim
  |[_,_,_,_,_,_,_,_],h=>exact⟨rfl,by omega,h⟩
  |_::_::_::_::_::_::_::_::_::_,h=>exact(hz h).elim
 ·exfalso
  apply hz
  have:initAt m l k=zz:=by
   unfold initAt
   split<;>first|omega|rfl
  rwa [this]at h
def env0 (kept:List Nat) (t:Fm):EnvQ:=λi=>Option.rec (motive:=λ_=>EV) (.pl (.one .un)) (λj=>.fr (gAt j t)) (idxOf kept i 0)
def kpOf (kept:List Nat):Nat→Bool:=λi=>Option.rec (motive:=λ_=>Bool) false (λ_=>true) (idxOf kept i 0)
def valE (e:EnvQ) (d:Nat):AV:=EV.rec (motive:=λ_=>AV) (λv=>v) (λv=>v) (e d)
def storK (kept:List Nat) (e:EnvQ) (ds:List Nat):Fm→(Fm→RR)→RR:=(λ(_:Unit)=>
 List.rec (motive:=λ_=>Fm→(Fm→RR)→RR) (λt k=>k t) (λd _ ih t k=>Option.rec (motive:=λ_=>RR) (ih t k) (λj=>sAt j t (valE e d) λt=>ih t k) (idxOf kept d 0)) ds) tall
def dsO (o:AOper) (ds:List Nat):List Nat:=AOper.rec (motive:=λ_=>List Nat) (λdst _ _ _ _=>Option.rec (motive:=λ_=>List Nat) ds (λp=>Prod.rec (motive:=λ_=>List Nat) (λq r=>Nat.add (Nat.mul 16 q) r::ds) p) dst) o
def memN (a:Nat) (l:List Nat):Bool:=List.rec (motive:=λ_=>Bool) false (λb _ ih=>Bool.rec (motive:=λ_=>Bool) ih true (Nat.beq a b)) l
def nub (l:List Nat):List Nat:=List.rec (motive:=λ_=>List Nat) [] (λa _ ih=>Bool.rec (motive:=λ_=>List Nat) (a::ih) ih (memN a ih)) l
section
variable (kept:List Nat) (orc:Orc RR) (call:CallT RR) (fz:Fz)
def stepE (o:AOper) (e:EnvQ) (mu:St) (n:Nat) (k:EnvQ→St→Nat→RR):RR:=(fun(_:Unit)=>AOper.rec (motive:=fun _=>RR)
 (λdst op g mode _=>Option.rec (motive:=λ_=>RR) (eop orc call fz (Nat.beq mode 1) op e mu n λv mu n=>k (updD e dst v) mu n)
  (λp=>Prod.rec (motive:=λ_=>RR) (λq p=>Prod.rec (motive:=λ_=>RR) (λr w=>gd (atV e q r) w (λJ=>eop orc call fz (Nat.beq mode 1) op e mu n J) mu n λv mu n=>k (updD e dst v) mu n) p) p) g) o) tall
def runE (ops:List AOper):Nat→List Nat→EnvQ→Fm→St→Nat→(List Nat→EnvQ→Fm→St→Nat→RR)→RR:=(fun(_:Unit)=>
 List.rec (motive:=λ_=>Nat→List Nat→EnvQ→Fm→St→Nat→(List Nat→EnvQ→Fm→St→Nat→RR)→RR) (λ_ ds e t mu n k=>k ds e t mu n)
  (λo _ ih c ds e t mu n k=>Nat.rec (motive:=λ_=>RR) (storK kept e (nub ds) t λt=>stepE orc call fz o (env0 kept t) mu n λe mu n=>ih 9 (dsO o []) e t mu n k)
   (λc _=>stepE orc call fz o e mu n λe mu n=>ih c (dsO o ds) e t mu n k) c) ops) tall
def ropE (i:Nat) (op:AOp) (mode:Nat) (anc:List Nat) (e:EnvQ) (mu:St) (ad:List St) (n:Nat) (J:AV→St→List St→Nat→RR):RR:=(fun(_:Unit)=>Nat.rec (motive:=fun _=>RR)
 (dr0 (λfz mu n k=>eop orc call fz false op e mu n k) n λv n=>J v mu ad n)
 (λm _=>Nat.rec (motive:=λ_=>RR) (dr1 (λfz mu n k=>eop orc call fz true op e mu n k) anc i fz mu ad n λv ad n=>J v mu ad n)
  (λm _=>Nat.rec (motive:=λ_=>RR) (dr2 (λfz mu n k=>eop orc call fz false op e mu n k) anc fz mu ad n λv mu ad n=>J v mu ad n)
   (λm _=>Nat.rec (motive:=λ_=>RR) (dr3 (λfz mu n k=>eop orc call fz false op e mu n k) i ad n λv ad n=>J v mu ad n)
    (λ_ _=>dr4 (λfz mu n k=>eop orc call fz false op e mu n k) anc i fz ad n λv ad n=>J v mu ad n) m) m) m) mode) tall
def rstepE (i:Nat) (o:AOper) (e:EnvQ) (mu:St) (ad:List St) (n:Nat) (k:EnvQ→St→List St→Nat→RR):RR:=(fun(_:Unit)=>AOper.rec (motive:=fun _=>RR)
 (λdst op g mode anc=>Option.rec (motive:=λ_=>RR) (ropE orc call fz i op mode anc e mu ad n λv mu ad n=>k (updD e dst v) mu ad n)
  (λp=>Prod.rec (motive:=λ_=>RR) (λq p=>Prod.rec (motive:=λ_=>RR) (λr w=>gdD (atV e q r) w mu ad n (λJ=>ropE orc call fz i op mode anc e mu ad n J) λv mu ad n=>k (updD e dst v) mu ad n) p) p) g) o) tall
def rrunE (ops:List AOper):Nat→List Nat→EnvQ→St→List St→Nat→(List Nat→EnvQ→St→List St→Nat→RR)→RR:=(fun(_:Unit)=>
 List.rec (motive:=λ_=>Nat→List Nat→EnvQ→St→List St→Nat→(List Nat→EnvQ→St→List St→Nat→RR)→RR) (λ_ ds e mu ad n k=>k ds e mu ad n)
  (λo _ ih i ds e mu ad n k=>rstepE orc call fz i o e mu ad n λe mu ad n=>ih (Nat.succ i) (dsO o ds) e mu ad n k) ops) tall
def preE (ops:List AOper):EnvQ→St→Nat→(EnvQ→RR)→RR:=(λ(_:Unit)=>
 List.rec (motive:=λ_=>EnvQ→St→Nat→(EnvQ→RR)→RR) (λe _ _ k=>k e) (λo _ ih e mu n k=>stepE orc call fz o e mu n λe _ _=>ih e mu n k) ops) tall
def looseOf (o:AOper):Option Od:=AOper.rec (motive:=λ_=>Option Od) (λ_ op _ mode _=>Bool.rec (motive:=λ_=>Option Od) none op.storeX (Nat.beq mode 4)) o
def apartE (ops:List AOper):Nat→EnvQ→St→List St→(St→List St→RR)→RR:=(fun(_:Unit)=>
 List.rec (motive:=λ_=>Nat→EnvQ→St→List St→(St→List St→RR)→RR) (λ_ _ mu ad k=>k mu ad)
  (λo _ ih i e mu ad k=>Option.rec (motive:=λ_=>RR) (ih (Nat.succ i) e mu ad k) (λx=>apS (evV e x) i mu ad λmu ad=>ih (Nat.succ i) e mu ad k) (looseOf o)) ops) tall
end
def gx (kept:List Nat) (x:Od):GT:=(λ(_:Unit)=>Od.rec (motive:=λ_=>GT) (λq r=>Option.rec (motive:=λ_=>GT) (λ_=>.one .un) (λj=>gAt j) (idxOf kept (Nat.add (Nat.mul 16 q) r) 0)) (λv=>λ_=>v) x) tall
def comp (kept:List Nat) (c:BC):Option EnvQ→HC:=(λ(_:Unit)=>BC.rec (motive:=λ_=>Option EnvQ→HC)
 (λ_=>cNorm) (λ_=>cRet) (λ_=>cBad) (λid _=>cExit id)
 (λops _ ih _=>λorc call fz t mu n k=>runE kept orc call fz ops 10 [] (env0 kept t) t mu n λds e t mu n=>storK kept e (nub ds) t λt=>ih (some e) orc call fz t mu n k)
 (λops _ ih _=>λorc call fz t mu n k=>preE orc call fz (preOf ops) (env0 kept t) mu n λe=>(λad=>apartE (markOf ops) 0 e mu ad λmu ad=>rrunE orc call fz ops 0 [] (env0 kept t) mu ad n λds e mu ad n=>joinAll ad mu λmu=>storK kept e (nub ds) t λt=>ih (some e) orc call fz t mu n k) (ops.map λ_=>[]))
 (λx _ _ iha ihb oe=>Option.rec (motive:=λ_=>HC) (cIf (gx kept x) (iha none) (ihb none)) (λe=>tIf (evV e x) (iha none) (ihb none)) oe)
 (λx _ _ _ iha ihb ihn oe=>Option.rec (motive:=λ_=>HC) (cIfN (gx kept x) (iha none) (ihb none) (ihn none)) (λe=>tIfN (evV e x) (iha none) (ihb none) (ihn none)) oe)
 (λx id _ ihn oe=>Option.rec (motive:=λ_=>HC) (cTest (gx kept x) id (ihn none)) (λe=>tTest (evV e x) id (ihn none)) oe)
 (λid _ _ iha ihn _=>cBlk id (iha none) (ihn none))
 (λ_ _ iha ihn _=>cLoop (iha none) (ihn none)) c) tall
def res1 (r:ARes) (e:EnvQ) (fz:Fz) (mu:St) (k:AV→RR):RR:=(λ(_:Unit)=>ARes.rec (motive:=λ_=>RR) (λq r=>k (atV e q r)) (λq r a m=>rCell (atV e q r) a m fz mu k) r) tall
def resAllE (l:List ARes) (e:EnvQ) (fz:Fz) (mu:St):(List CV→RR)→RR:=(λ(_:Unit)=>
 List.rec (motive:=λ_=>(List CV→RR)→RR) (λk=>k []) (λr _ ih k=>res1 r e fz mu λv=>toCV zz v λc=>ih λcs=>k (c::cs)) l) tall
def resC (kept:List Nat) (l:List ARes):RF:=(fun(_:Unit)=>List.rec (motive:=fun _=>RF) (fun _ _ _ k=>k (.tp []))
 (λr rest _=>List.rec (motive:=λ_=>RF) (ARes.rec (motive:=λ_=>RF) (λq r=>rTmp (gx kept (.t q r))) (λq r a m=>λfz t mu k=>rCell (atV (env0 kept t) q r) a m fz mu k) r)
  (λ_ _ _=>λfz t mu k=>resAllE l (env0 kept t) fz mu λcs=>k (.tp cs)) rest) l) tall
def compFunc (kept:List Nat) (gc:Bool) (af:AFunc):HFunc:=(λ(_:Unit)=>AFunc.rec (motive:=λ_=>HFunc) (λ_ nargs res body=>.mk (initAt nargs) (resC kept res) (comp kept (flat body .norm) none) gc) af) tall
def allL {α:Type} (p:α→Bool) (l:List α):Bool:=List.rec (motive:=λ_=>Bool) true (λa _ ih=>Bool.rec (motive:=λ_=>Bool) false ih (p a)) l
def okDst (nt:Nat) (o:Option (Nat×Nat)):Bool:=Option.rec (motive:=λ_=>Bool) true (λp=>okT nt (.t p.1 p.2)) o
def okGd (nt:Nat) (o:Option (Nat×Nat×Bool)):Bool:=Option.rec (motive:=λ_=>Bool) true (λp=>okT nt (.t p.1 p.2.1)) o
def okOper (nt:Nat) (o:AOper):Bool:=okOp nt o.op&&(okDst nt o.dst&&okGd nt o.g)
def okLoose (o:AOper):Bool:=cond (Nat.beq o.mode 4) ((looseOf o).isSome) true
def okB (nt:Nat) (c:BC):Bool:=BC.rec (motive:=λ_=>Bool) true true true (λ_=>true)
 (λops _ ih=>allL (okOper nt) ops&&ih)
 (λops _ ih=>allL (λo=>okOper nt o&&okLoose o) ops&&ih)
 (λx _ _ iha ihb=>okT nt x&&(iha&&ihb))
 (λx _ _ _ iha ihb ihn=>okT nt x&&(iha&&(ihb&&ihn)))
 (λx _ _ ihn=>okT nt x&&ihn)
 (λ_ _ _ iha ihn=>iha&&ihn)
 (λ_ _ iha ihn=>iha&&ihn) c
def okRes (nt:Nat) (r:ARes):Bool:=ARes.rec (motive:=λ_=>Bool) (λq r=>okT nt (.t q r)) (λq r _ _=>okT nt (.t q r)) r
def optIs (o:Option Nat) (i:Nat):Bool:=Option.rec (motive:=λ_=>Bool) false (λj=>Nat.beq j i) o
def okFunc (kept:List Nat) (af:AFunc):Bool:=Nat.ble kept.length 264&&(Nat.ble af.nargs af.ntmps&&(allL (λi=>optIs (idxOf kept i 0) i) (List.range af.nargs)&&(allL (okRes af.ntmps) af.res&&okB af.ntmps (flat af.body .norm))))
end Go.Ev
namespace Go.Ev
theorem idxOf_get:∀{l:List Nat} {t j i:Nat},idxOf l t j=some i→∃m,i=j+m∧l[m]?=some t
 |[],t,j,i,h=>by cases h
 |a::l,t,j,i,h=>by
  have h':Bool.rec (motive:=λ_=>Option Nat) (idxOf l t (Nat.succ j)) (some j) (Nat.beq a t)=some i:=h
  cases e:Nat.beq a t with
  |true=>
   rw[e]at h'
   cases h'
   exact⟨0,rfl,by simp[Nat.eq_of_beq_eq_true e]⟩
  |false=>
   rw[e]at h'
   obtain⟨m,h1,h2⟩:=idxOf_get (l:=l) h'
   exact⟨m+1,by omega,by simpa using h2⟩
theorem idxOf_inj {l:List Nat} {a b i:Nat} (ha:idxOf l a 0=some i) (hb:idxOf l b 0=some i):a=b:=by
 obtain⟨m,h1,h2⟩:=idxOf_get ha
 obtain⟨m',h3,h4⟩:=idxOf_get hb
 have:m=m':=by omega
 subst this
 rw[h2]at h4
 cases h4;rfl
theorem idxOf_lt {l:List Nat} {a i:Nat} (ha:idxOf l a 0=some i):i<l.length:=by
 obtain⟨m,h1,h2⟩:=idxOf_get ha
 have:=(List.getElem?_eq_some_iff.1 h2).1
 omega
theorem env0_some {kept:List Nat} {t:Fm} {i j:Nat} (h:idxOf kept i 0=some j):env0 kept t i=.fr (gAt j t):=by
 show Option.rec (motive:=λ_=>EV) (.pl (.one .un)) (λj=>.fr (gAt j t)) (idxOf kept i 0)=_
 rw[h]
theorem env0_none {kept:List Nat} {t:Fm} {i:Nat} (h:idxOf kept i 0=none):env0 kept t i=.pl (.one .un):=by
 show Option.rec (motive:=λ_=>EV) (.pl (.one .un)) (λj=>.fr (gAt j t)) (idxOf kept i 0)=_
 rw[h]
theorem kpOf_some {kept:List Nat} {i j:Nat} (h:idxOf kept i 0=some j):kpOf kept i=true:=by
 show Option.rec (motive:=λ_=>Bool) false (λ_=>true) (idxOf kept i 0)=true
 rw[h]
theorem kpOf_none {kept:List Nat} {i:Nat} (h:idxOf kept i 0=none):kpOf kept i=false:=by
 show Option.rec (motive:=λ_=>Bool) false (λ_=>true) (idxOf kept i 0)=false
 rw[h]
theorem valE_eq (e:EnvQ) (d:Nat):valE e d=(e d).val:=by unfold valE;cases e d<;>rfl
def storP (kept:List Nat) (e:EnvQ):List Nat→Fm→Fm
 |[],t=>t
 |d::ds,t=>match idxOf kept d 0 with
  |some j=>storP kept e ds (setP j t (e d).val)
  |none=>storP kept e ds t
theorem storK_eq (kept:List Nat) (e:EnvQ):∀(ds:List Nat) (t:Fm) (k:Fm→RR),storK kept e ds t k=k (storP kept e ds t)
 |[],t,k=>rfl
 |d::ds,t,k=>by
  show Option.rec (motive:=λ_=>RR) (storK kept e ds t k) (λj=>sAt j t (valE e d) λt=>storK kept e ds t k) (idxOf kept d 0)=_
  unfold storP
  cases h:idxOf kept d 0 with
  |none=>exact storK_eq kept e ds t k
  |some j=>
   show sAt j t (valE e d) (λt=>storK kept e ds t k)=_
   rw[sAt_eq,storK_eq kept e ds,valE_eq]
theorem gAt_storP {kept:List Nat} (hl:kept.length≤264) {e:EnvQ} {i j:Nat} (h:idxOf kept i 0=some j):∀(ds:List Nat) (t:Fm),gAt j (storP kept e ds t)=if i∈ds then(e i).val else gAt j t
 |[],t=>by simp[storP]
 |d::ds,t=>by
  unfold storP
  cases hd:idxOf kept d 0 with
  |none=>
   simp only
   rw[gAt_storP hl h ds t]
   have:i≠d:=λe=>by subst e;rw[h]at hd;cases hd
   simp[this]
  |some j'=>
   simp only
   rw[gAt_storP hl h ds,gAt_setP (Nat.lt_of_lt_of_le (idxOf_lt h) hl) (Nat.lt_of_lt_of_le (idxOf_lt hd) hl)]
   by_cases e1:i=d
   ·subst e1
    rw[h]at hd;cases hd
    simp
   ·have:¬j=j':=λe=>e1 (idxOf_inj h (e▸hd))
    simp[this,e1]
theorem memN_eq (a:Nat):∀(l:List Nat),memN a l=true↔a∈l
 |[]=>by simp[memN]
 |b::l=>by
  have:memN a (b::l)=Bool.rec (motive:=λ_=>Bool) (memN a l) true (Nat.beq a b):=rfl
  rw[this]
  cases e:Nat.beq a b with
  |true=>simp[Nat.eq_of_beq_eq_true e]
  |false=>
   have hne:=Nat.ne_of_beq_eq_false e
   simp only[List.mem_cons,hne,false_or]
   exact memN_eq a l
theorem mem_nub {i:Nat}:∀(l:List Nat),i∈nub l↔i∈l
 |[]=>by simp[nub]
 |a::l=>by
  have:nub (a::l)=Bool.rec (motive:=λ_=>List Nat) (a::nub l) (nub l) (memN a (nub l)):=rfl
  rw[this]
  cases e:memN a (nub l)with
  |true=>
   have:=(memN_eq a _).1 e
   show i∈nub l↔_
   rw[mem_nub l,List.mem_cons]
   constructor
   ·exactλh=>.inr h
   ·rintro(h|h)
    ·subst h;exact(mem_nub l).1 this
    ·exact h
  |false=>
   show i∈a::nub l↔_
   rw[List.mem_cons,List.mem_cons,mem_nub l]
theorem allL_iff {α:Type} {p:α→Bool}:∀{l:List α},allL p l=true↔∀a∈l,p a=true
 |[]=>by simp[allL]
 |a::l=>by
  have:allL p (a::l)=Bool.rec (motive:=λ_=>Bool) false (allL p l) (p a):=rfl
  rw[this]
  cases e:p a with
  |false=>simp[e]
  |true=>
   simp only[List.forall_mem_cons,e,true_and]
   exact allL_iff
structure Inv (nt:Nat) (kept:List Nat) (e:EnvQ) (t:Fm) (ds:List Nat) (tm:TM):Prop where
 er:EnvR nt e tm
 fr:∀i j,idxOf kept i 0=some j→i∉ds→gAt j t=(e i).val
section
variable {nt:Nat} {kept:List Nat} {e:EnvQ} {t:Fm} {ds:List Nat} {tm:TM} {orc:Orc RR} {call:CallT RR} {fz:Fz}
theorem Inv.start (h:EnvR nt (env0 kept t) tm):Inv nt kept (env0 kept t) t [] tm:=⟨h,λi j hi _=>by rw[env0_some hi];rfl⟩
theorem Inv.stor (hl:kept.length≤264) (h:Inv nt kept e t ds tm):EnvR nt (env0 kept (storP kept e (nub ds) t)) (fg (kpOf kept) tm):=by
 intro q r hr hn
 have hq:=h.er q r hr hn
 refine⟨inR_fg.2 hq.1,?_⟩
 rw[get_fg]
 cases hi:idxOf kept (16*q+r) 0 with
 |none=>rw[kpOf_none hi,env0_none hi];rfl
 |some j=>
  rw[kpOf_some hi,env0_some hi]
  show get tm q r=gAt j (storP kept e (nub ds) t)
  rw[hq.2,gAt_storP hl hi]
  by_cases hm:16*q+r∈ds
  ·simp[(mem_nub ds).2 hm]
  ·have:¬16*q+r∈nub ds:=λx=>hm ((mem_nub ds).1 x)
   simp only[this,if_false]
   exact(h.fr _ _ hi hm).symm
theorem EnvR.again (h:EnvR nt (env0 kept t) tm):EnvR nt (env0 kept t) (fg (kpOf kept) tm):=by
 intro q r hr hn
 have hq:=h q r hr hn
 refine⟨inR_fg.2 hq.1,?_⟩
 rw[get_fg]
 cases hi:idxOf kept (16*q+r) 0 with
 |none=>rw[kpOf_none hi,env0_none hi];rfl
 |some j=>rw[kpOf_some hi];exact hq.2
theorem EnvR.updD (h:EnvR nt e tm) {dst:Option (Nat×Nat)} (hd:okDst nt dst=true) (v:AV):EnvR nt (updD e dst v) (setDT tm dst v):=by
 cases dst with
 |none=>exact h
 |some p=>
  obtain⟨q,r⟩:=p
  have:=okT_t (show okT nt (.t q r)=true from hd)
  exact h.upd this.1 this.2 v
theorem updD_other {dst:Option (Nat×Nat)} {v:AV} {i:Nat} (h:∀q r,dst=some (q,r)→i≠16*q+r):updD e dst v i=e i:=by
 cases dst with
 |none=>rfl
 |some p=>
  obtain⟨q,r⟩:=p
  show updEn e (16*q+r) (.pl v) i=e i
  rw[upd_get,if_neg (h q r rfl)]
theorem mem_dsO {o:AOper} {i:Nat} (h:i∉dsO o ds):i∉ds∧∀q r,o.dst=some (q,r)→i≠16*q+r:=by
 obtain⟨dst,op,g,mode,anc⟩:=o
 cases dst with
 |none=>exact⟨h,λq r e=>by cases e⟩
 |some p=>
  obtain⟨q,r⟩:=p
  have h':i∉(16*q+r)::ds:=h
  simp only[List.mem_cons,not_or]at h'
  exact⟨h'.2,λq' r' e=>by cases e;exact h'.1⟩
theorem Inv.step (h:Inv nt kept e t ds tm) {o:AOper} (hd:okDst nt o.dst=true) (v:AV):Inv nt kept (updD e o.dst v) t (dsO o ds) (setDT tm o.dst v):=
 ⟨h.er.updD hd v,λi j hi hm=>by
  obtain⟨h1,h2⟩:=mem_dsO hm
  rw[updD_other h2]
  exact h.fr i j hi h1⟩
theorem wantF_eq (v:AV) (want:Bool) (yes no:RR):wantF v want yes no=AV.rec (motive:=λ_=>RR) (λs=>s.onBool zz λb=>cond (b==want) yes no) (λ_=>zz) (λl=>List.rec (motive:=λ_=>RR) no (λ_ _ _=>zz) l) v:=by
 cases v with
 |ag l=>rfl
 |tp l=>rfl
 |one s=>
  cases s with
  |bool b=>cases b<;>cases want<;>rfl
  |_=>rfl
theorem okOper_elim {o:AOper} (h:okOper nt o=true):okOp nt o.op=true∧okDst nt o.dst=true∧okGd nt o.g=true:=by
 simp only[okOper,Bool.and_eq_true]at h
 exact⟨h.1,h.2.1,h.2.2⟩
theorem guard_eq (h:EnvR nt e tm) {g:Option (Nat×Nat×Bool)} (hg:okGd nt g=true) {yes no:RR}:
 onWanted zz g tm yes no=Option.rec (motive:=λ_=>RR) yes (λp=>wantF (atV e p.1 p.2.1) p.2.2 yes no) g:=by
 cases g with
 |none=>rfl
 |some p=>
  obtain⟨q,r,w⟩:=p
  have hq:=okT_t (show okT nt (.t q r)=true from hg)
  show AV.rec (motive:=λ_=>RR) (λs=>s.onBool zz λb=>cond (b==w) yes no) (λ_=>zz) (λl=>List.rec (motive:=λ_=>RR) no (λ_ _ _=>zz) l) (get tm q r)=wantF (atV e q r) w yes no
  rw[wantF_eq,atV_eq,(h q r hq.1 hq.2).2]
theorem stepE_eq (h:EnvR nt e tm) {o:AOper} (hok:okOper nt o=true) {mu:St} {n:Nat} {k:EnvQ→St→Nat→RR} {K:TM→St→Nat→RR} (hk:∀v mu n,k (Go.Ev.updD e o.dst v) mu n=K (setDT tm o.dst v) mu n):
 stepE orc call fz o e mu n k=stepK orc zz call fz o tm mu n K:=by
 obtain⟨h1,h2,h3⟩:=okOper_elim hok
 unfold stepK
 rw[guard_eq h h3]
 obtain⟨dst,op,g,mode,anc⟩:=o
 have e1:eop orc call fz (Nat.beq mode 1) op e mu n (λv mu n=>k (Go.Ev.updD e dst v) mu n)=aop orc zz call fz tm mu n (Nat.beq mode 1) op λv mu n=>setDst tm dst v λtm=>K tm mu n:=by
  rw[eop_eq h h1]
  congr 1
  funext v mu n
  rw[setDst_eq]
  exact hk v mu n
 cases g with
 |none=>exact e1
 |some p=>
  obtain⟨q,r,w⟩:=p
  show wantF (atV e q r) w (eop orc call fz (Nat.beq mode 1) op e mu n (λv mu n=>k (Go.Ev.updD e dst v) mu n)) (k (Go.Ev.updD e dst noVal) mu n)=wantF (atV e q r) w _ (setDst tm dst noVal λtm=>K tm mu n)
  rw[e1,setDst_eq]
  congr 1
  exact hk noVal mu n
theorem preE_eq:∀{l:List AOper} {e:EnvQ} {tm:TM} {mu:St} {n:Nat} {k:EnvQ→RR} {K:TM→RR},(∀o∈l,okOper nt o=true)→EnvR nt e tm→(∀e' tm',EnvR nt e' tm'→k e'=K tm')→preE orc call fz l e mu n k=preK orc zz call fz l tm mu n K
 |[],e,tm,mu,n,k,K,_,h,hk=>hk _ _ h
 |o::l,e,tm,mu,n,k,K,hok,h,hk=>by
  have ho:=hok o (by simp)
  have hd:=(okOper_elim ho).2.1
  show(stepE orc call fz o e mu n λe _ _=>preE orc call fz l e mu n k)=stepK orc zz call fz o tm mu n λtm _ _=>preK orc zz call fz l tm mu n K
  exact stepE_eq h ho λv _ _=>preE_eq (λo h=>hok o (by simp[h])) (h.updD hd v) hk
theorem runE_eq (hl:kept.length≤264):∀{ops:List AOper} {c:Nat} {ds:List Nat} {e:EnvQ} {t:Fm} {tm:TM} {mu:St} {n:Nat} {k:List Nat→EnvQ→Fm→St→Nat→RR} {K:TM→St→Nat→RR},(∀o∈ops,okOper nt o=true)→Inv nt kept e t ds tm→
 (∀ds e t tm mu n,Inv nt kept e t ds tm→k ds e t mu n=K tm mu n)→runE kept orc call fz ops c ds e t mu n k=runKf orc zz call fz (kpOf kept) ops c tm mu n K
 |[],c,ds,e,t,tm,mu,n,k,K,_,hi,hk=>hk _ _ _ _ _ _ hi
 |o::l,c,ds,e,t,tm,mu,n,k,K,hok,hi,hk=>by
  have ho:=hok o (by simp)
  have hd:=(okOper_elim ho).2.1
  cases c with
  |zero=>
   show(storK kept e (nub ds) t λt=>stepE orc call fz o (env0 kept t) mu n λe mu n=>runE kept orc call fz l 9 (dsO o []) e t mu n k)=stepK orc zz call fz o (fg (kpOf kept) tm) mu n λtm mu n=>runKf orc zz call fz (kpOf kept) l 9 tm mu n K
   rw[storK_eq]
   have h0:=hi.stor hl
   refine stepE_eq h0 ho λv mu n=>?_
   exact runE_eq hl (λo h=>hok o (by simp[h])) ((Inv.start h0).step hd v) hk
  |succ c=>
   show(stepE orc call fz o e mu n λe mu n=>runE kept orc call fz l c (dsO o ds) e t mu n k)=stepK orc zz call fz o tm mu n λtm mu n=>runKf orc zz call fz (kpOf kept) l c tm mu n K
   refine stepE_eq hi.er ho λv mu n=>?_
   exact runE_eq hl (λo h=>hok o (by simp[h])) (hi.step hd v) hk
theorem rstepE_eq (h:EnvR nt e tm) {i:Nat} {o:AOper} (hok:okOper nt o=true) {mu:St} {ad:List St} {n:Nat} {k:EnvQ→St→List St→Nat→RR} {K:TM→St→List St→Nat→RR} (hk:∀v mu ad n,k (Go.Ev.updD e o.dst v) mu ad n=K (setDT tm o.dst v) mu ad n):
 rstepE orc call fz i o e mu ad n k=rstep orc zz call fz i o tm mu ad n K:=by
 obtain⟨h1,h2,h3⟩:=okOper_elim hok
 unfold rstep
 rw[guard_eq h h3]
 obtain⟨dst,op,g,mode,anc⟩:=o
 have hf:∀ro,(λ(fz:Fz) (mu:St) (n:Nat) (k:KT RR)=>eop orc call fz ro op e mu n k)=λfz mu n k=>aop orc zz call fz tm mu n ro op k:=λro=>by
  funext fz mu n k
  exact eop_eq h h1
 have hj:∀v mu ad n,k (Go.Ev.updD e dst v) mu ad n=setDst tm dst v λtm=>K tm mu ad n:=λv mu ad n=>by rw[setDst_eq];exact hk v mu ad n
 have e1:ropE orc call fz i op mode anc e mu ad n (λv mu ad n=>k (Go.Ev.updD e dst v) mu ad n)=
  (cond (Nat.beq mode 0) (aop orc zz call (λ_=>none) tm [] n false op λv new n=>List.rec (motive:=λ_=>RR) (setDst tm dst v λtm=>K tm mu ad n) (λ_ _ _=>zz) new)
  (cond (Nat.beq mode 1) (aop orc zz call (with' (adsOf ad anc) (with' mu fz)) tm [] n true op λv new n=>setDst tm dst v λtm=>setK ad i new λad=>K tm mu ad n)
  (cond (Nat.beq mode 2) (joinK (adsOf ad anc) mu λmu=>clearK anc ad λad=>aop orc zz call fz tm mu n false op λv mu n=>setDst tm dst v λtm=>K tm mu ad n)
  (cond (Nat.beq mode 3) (aop orc zz call (λ_=>none) tm [] n false op λv new n=>setDst tm dst v λtm=>setK ad i new λad=>K tm mu ad n)
   (joinK (nth [] ad i) (adsOf ad anc) λown=>aop orc zz call fz tm own n false op λv new n=>setDst tm dst v λtm=>clearK anc ad λad=>setK ad i new λad=>K tm mu ad n))))):=by
  match mode with
  |0=>
   show dr0 (λfz mu n k=>eop orc call fz false op e mu n k) n (λv n=>k (Go.Ev.updD e dst v) mu ad n)=_
   rw[hf]
   simp only[hj]
   rfl
  |1=>
   show dr1 (λfz mu n k=>eop orc call fz true op e mu n k) anc i fz mu ad n (λv ad n=>k (Go.Ev.updD e dst v) mu ad n)=_
   rw[hf]
   simp only[hj]
   show(aop orc zz call (with' (adsOf ad anc) (with' mu fz)) tm [] n true op λv new n=>setK ad i new λad=>setDst tm dst v λtm=>K tm mu ad n)=aop orc zz call (with' (adsOf ad anc) (with' mu fz)) tm [] n true op λv new n=>setDst tm dst v λtm=>setK ad i new λad=>K tm mu ad n
   simp only[setDst_eq,setK_eq]
  |2=>
   show dr2 (λfz mu n k=>eop orc call fz false op e mu n k) anc fz mu ad n (λv mu ad n=>k (Go.Ev.updD e dst v) mu ad n)=_
   rw[hf]
   simp only[hj]
   rfl
  |3=>
   show dr3 (λfz mu n k=>eop orc call fz false op e mu n k) i ad n (λv ad n=>k (Go.Ev.updD e dst v) mu ad n)=_
   rw[hf]
   simp only[hj]
   show(aop orc zz call (λ_=>none) tm [] n false op λv new n=>setK ad i new λad=>setDst tm dst v λtm=>K tm mu ad n)=aop orc zz call (λ_=>none) tm [] n false op λv new n=>setDst tm dst v λtm=>setK ad i new λad=>K tm mu ad n
   simp only[setDst_eq,setK_eq]
  |m+4=>
   show dr4 (λfz mu n k=>eop orc call fz false op e mu n k) anc i fz ad n (λv ad n=>k (Go.Ev.updD e dst v) mu ad n)=_
   rw[hf]
   simp only[hj]
   show(joinK (nth [] ad i) (adsOf ad anc) λown=>aop orc zz call fz tm own n false op λv new n=>clearK anc ad λad=>setK ad i new λad=>setDst tm dst v λtm=>K tm mu ad n)=
    joinK (nth [] ad i) (adsOf ad anc) λown=>aop orc zz call fz tm own n false op λv new n=>setDst tm dst v λtm=>clearK anc ad λad=>setK ad i new λad=>K tm mu ad n
   simp only[setDst_eq,setK_eq,clearK_eq]
 cases g with
 |none=>exact e1
 |some p=>
  obtain⟨q,r,w⟩:=p
  show wantF (atV e q r) w (ropE orc call fz i op mode anc e mu ad n (λv mu ad n=>k (Go.Ev.updD e dst v) mu ad n)) (k (Go.Ev.updD e dst noVal) mu ad n)=wantF (atV e q r) w _ (setDst tm dst noVal λtm=>K tm mu ad n)
  rw[e1,hj]
theorem rrunE_eq:∀{ops:List AOper} {i:Nat} {ds:List Nat} {e:EnvQ} {tm:TM} {mu:St} {ad:List St} {n:Nat} {k:List Nat→EnvQ→St→List St→Nat→RR} {K:TM→St→List St→Nat→RR},(∀o∈ops,okOper nt o=true)→Inv nt kept e t ds tm→
 (∀ds e tm mu ad n,Inv nt kept e t ds tm→k ds e mu ad n=K tm mu ad n)→rrunE orc call fz ops i ds e mu ad n k=rrun orc zz call fz ops i tm mu ad n K
 |[],i,ds,e,tm,mu,ad,n,k,K,_,hi,hk=>hk _ _ _ _ _ _ hi
 |o::l,i,ds,e,tm,mu,ad,n,k,K,hok,hi,hk=>by
  have ho:=hok o (by simp)
  have hd:=(okOper_elim ho).2.1
  show(rstepE orc call fz i o e mu ad n λe mu ad n=>rrunE orc call fz l (Nat.succ i) (dsO o ds) e mu ad n k)=rstep orc zz call fz i o tm mu ad n λtm mu ad n=>rrun orc zz call fz l (Nat.succ i) tm mu ad n K
  refine rstepE_eq hi.er ho λv mu ad n=>?_
  exact rrunE_eq (λo h=>hok o (by simp[h])) (hi.step hd v) hk
theorem storeX_mem {op:AOp} {x:Od} (h:op.storeX=some x):x∈op.odsA:=by
 cases op with
 |call f args=>cases args with
  |nil=>cases h
  |cons y l=>cases h;simp[AOp.odsA,AOp.ods]
 |_=>first|(cases h;done)|(cases h;simp[AOp.odsA,AOp.ods])
theorem apartE_eq (h:EnvR nt e tm):∀{ops:List AOper} {i:Nat} {mu:St} {ad:List St} {k:St→List St→RR},(∀o∈ops,okOper nt o=true∧okLoose o=true)→apartE ops i e mu ad k=apart ops i tm mu ad k
 |[],i,mu,ad,k,_=>rfl
 |o::l,i,mu,ad,k,hok=>by
  have ih:∀i mu ad,apartE l i e mu ad k=apart l i tm mu ad k:=λi mu ad=>apartE_eq h λo h=>hok o (by simp[h])
  obtain⟨h1,h2⟩:=hok o (by simp)
  have h1':=(okOper_elim h1).1
  obtain⟨dst,op,g,mode,anc⟩:=o
  have e0:apartE (⟨dst,op,g,mode,anc⟩::l) i e mu ad k=Option.rec (motive:=λ_=>RR) (apartE l (Nat.succ i) e mu ad k) (λx=>apS (evV e x) i mu ad λmu ad=>apartE l (Nat.succ i) e mu ad k) (Bool.rec (motive:=λ_=>Option Od) none op.storeX (Nat.beq mode 4)):=rfl
  rw[e0]
  cases hm:Nat.beq mode 4 with
  |false=>
   show apartE l (Nat.succ i) e mu ad k=cond (Nat.beq mode 4) _ (apart l (Nat.succ i) tm mu ad k)
   rw[hm,ih];rfl
  |true=>
   have h2':(looseOf ⟨dst,op,g,mode,anc⟩).isSome=true:=by
    have h3:cond (Nat.beq mode 4) ((looseOf ⟨dst,op,g,mode,anc⟩).isSome) true=true:=h2
    rw[hm]at h3;exact h3
   have e3:looseOf ⟨dst,op,g,mode,anc⟩=op.storeX:=by
    show Bool.rec (motive:=λ_=>Option Od) none op.storeX (Nat.beq mode 4)=_
    rw[hm]
   rw[e3]at h2'
   obtain⟨x,hx⟩:=Option.isSome_iff_exists.1 h2'
   rw[hx]
   show apS (evV e x) i mu ad (λmu ad=>apartE l (Nat.succ i) e mu ad k)=cond (Nat.beq mode 4) (Option.rec (motive:=λ_=>RR) (apart l (Nat.succ i) tm mu ad k) (λx=>setApart (ev tm x) i mu ad λmu ad=>apart l (Nat.succ i) tm mu ad k) op.storeX) _
   rw[hm,hx,evE_eq h (List.all_eq_true.1 h1' x (storeX_mem hx))]
   unfold apS
   simp only[ih]
   rfl
theorem vIf_eq (v:AV) (a b:RR):vIf v a b=onIf zz v a b:=by
 cases v with
 |ag l=>rfl
 |tp l=>rfl
 |one s=>
  cases s with
  |bool y=>cases y<;>rfl
  |_=>rfl
theorem gx_eq (h:EnvR nt (env0 kept t) tm) {x:Od} (hx:okT nt x=true):gx kept x t=ev tm x:=by
 rw[←evE_eq h hx,evV_eq]
 cases x with
 |c v=>rfl
 |t q r=>
  show Option.rec (motive:=λ_=>GT) (λ_=>.one .un) (λj=>gAt j) (idxOf kept (16*q+r) 0) t=(env0 kept t (16*q+r)).val
  cases hi:idxOf kept (16*q+r) 0 with
  |none=>rw[env0_none hi];rfl
  |some j=>rw[env0_some hi];rfl
def KR (nt:Nat) (kept:List Nat) (k:AExit→Fm→St→Nat→RR) (K:AExit→TM→St→Nat→RR):Prop:=∀e t tm mu n,EnvR nt (env0 kept t) tm→k e t mu n=K e tm mu n
structure Same (nt:Nat) (kept:List Nat) (orc:Orc RR) (call:CallT RR) (fz:Fz) (c:BC):Prop where
 alone:∀t tm mu n k K,EnvR nt (env0 kept t) tm→KR nt kept k K→comp kept c none orc call fz t mu n k=bcode orc zz call fz 100000 (kpOf kept) c tm mu n K
 behind:∀e t tm mu n k K,EnvR nt e tm→EnvR nt (env0 kept t) (fg (kpOf kept) tm)→KR nt kept k K→comp kept c (some e) orc call fz t mu n k=bcode orc zz call fz 100000 (kpOf kept) c (cond c.tst tm (fg (kpOf kept) tm)) mu n K
theorem Same.plain {c:BC} (hc:c.tst=false) (hs:∀e,comp kept c (some e)=comp kept c none) (h:∀t tm mu n k K,EnvR nt (env0 kept t) tm→KR nt kept k K→comp kept c none orc call fz t mu n k=bcode orc zz call fz 100000 (kpOf kept) c tm mu n K):Same nt kept orc call fz c:=
 ⟨h,λe t tm mu n k K _ h2 hk=>by rw[hs,hc];exact h t _ mu n k K h2 hk⟩
theorem KR.onward {next:Fm→St→Nat→RR} {Next:TM→St→Nat→RR} {k:AExit→Fm→St→Nat→RR} {K:AExit→TM→St→Nat→RR} (hn:∀t tm mu n,EnvR nt (env0 kept t) tm→next t mu n=Next tm mu n) (hk:KR nt kept k K):KR nt kept (onward next k) (onw Next K):=by
 intro e t tm mu n h
 cases e with
 |normal=>exact hn t tm mu n h
 |exit id=>exact hk (.exit id) t tm mu n h
 |ret=>exact hk .ret t tm mu n h
theorem KR.inBlk {id:Nat} {next:Fm→St→Nat→RR} {Next:TM→St→Nat→RR} {k:AExit→Fm→St→Nat→RR} {K:AExit→TM→St→Nat→RR} (hn:∀t tm mu n,EnvR nt (env0 kept t) tm→next t mu n=Next tm mu n) (hk:KR nt kept k K):KR nt kept (inBlk id next k) (inBN id Next K):=by
 intro e t tm mu n h
 cases e with
 |normal=>exact hn t tm mu n h
 |exit id'=>
  show Bool.rec (motive:=λ_=>RR) (k (.exit id') t mu n) (next t mu n) (Nat.beq id' id)=cond (Nat.beq id' id) (Next tm mu n) (K (.exit id') tm mu n)
  cases Nat.beq id' id with
  |true=>exact hn t tm mu n h
  |false=>exact hk (.exit id') t tm mu n h
 |ret=>exact hk .ret t tm mu n h
theorem comp_eq (hl:kept.length≤264):∀{c:BC},okB nt c=true→Same nt kept orc call fz c
 |.norm,_=>Same.plain rfl (λ_=>rfl) λt tm mu n k K h hk=>hk .normal t tm mu n h
 |.ret,_=>Same.plain rfl (λ_=>rfl) λt tm mu n k K h hk=>hk .ret t tm mu n h
 |.bad,_=>Same.plain rfl (λ_=>rfl) λt tm mu n k K h hk=>rfl
 |.exit id,_=>Same.plain rfl (λ_=>rfl) λt tm mu n k K h hk=>hk (.exit id) t tm mu n h
 |.reg ops nx,hok=>by
  have hok':(allL (okOper nt) ops&&okB nt nx)=true:=hok
  simp only[Bool.and_eq_true]at hok'
  have ih:=comp_eq hl hok'.2
  refine Same.plain rfl (λ_=>rfl) λt tm mu n k K h hk=>?_
  show(runE kept orc call fz ops 10 [] (env0 kept t) t mu n λds e t mu n=>storK kept e (nub ds) t λt=>comp kept nx (some e) orc call fz t mu n k)=runKf orc zz call fz (kpOf kept) ops 10 tm mu n λtm mu n=>bcode orc zz call fz 100000 (kpOf kept) nx (cond nx.tst tm (fg (kpOf kept) tm)) mu n K
  refine runE_eq hl (allL_iff.1 hok'.1) (Inv.start h) λds e t tm mu n hi=>?_
  rw[storK_eq]
  exact ih.behind _ _ _ _ _ _ _ hi.er (hi.stor hl) hk
 |.draw ops nx,hok=>by
  have hok':(allL (λo=>okOper nt o&&okLoose o) ops&&okB nt nx)=true:=hok
  simp only[Bool.and_eq_true]at hok'
  have ih:=comp_eq hl hok'.2
  have hall:∀o∈ops,okOper nt o=true∧okLoose o=true:=λo ho=>by
   have:=allL_iff.1 hok'.1 o ho
   simpa only[Bool.and_eq_true]using this
  refine Same.plain rfl (λ_=>rfl) λt tm mu n k K h hk=>?_
  show(preE orc call fz (preOf ops) (env0 kept t) mu n λe=>apartE (markOf ops) 0 e mu (ops.map λ_=>[]) λmu ad=>rrunE orc call fz ops 0 [] (env0 kept t) mu ad n λds e mu ad n=>joinAll ad mu λmu=>storK kept e (nub ds) t λt=>comp kept nx (some e) orc call fz t mu n k)=
   preK orc zz call fz (preOf ops) tm mu n λtm'=>apart (markOf ops) 0 tm' mu (ops.map λ_=>[]) λmu ad=>rrun orc zz call fz ops 0 tm mu ad n λtm mu ad n=>joinAll ad mu λmu=>bcode orc zz call fz 100000 (kpOf kept) nx (cond nx.tst tm (fg (kpOf kept) tm)) mu n K
  refine preE_eq (λo ho=>(hall o (preOf_mem ho)).1) h λe' tm' h'=>?_
  have hmark:∀o∈markOf ops,okOper nt o=true∧okLoose o=true:=λo ho=>by
   obtain⟨i,hi⟩:=List.getElem?_of_mem ho
   obtain⟨o',e0,e1,e2,e3,e4,e5⟩:=markOf_get hi
   obtain⟨g1,g2⟩:=hall o' (List.mem_of_getElem? e0)
   obtain⟨d',op',gg',m',a'⟩:=o'
   obtain⟨d,op,gg,m,a⟩:=o
   cases e1;cases e2;cases e3;cases e4
   refine⟨g1,?_⟩
   rcases e5 with e5|e5
   ·cases e5;exact g2
   ·cases e5;rfl
  rw[apartE_eq h' hmark]
  congr 1
  funext mu ad
  refine rrunE_eq (t:=t) (λo ho=>(hall o ho).1) (Inv.start h) λds e tm mu ad n hi=>?_
  rw[joinAll_eq,joinAll_eq,storK_eq]
  exact ih.behind _ _ _ _ _ _ _ hi.er (hi.stor hl) hk
 |.ite x a b,hok=>by
  have hok':(okT nt x&&(okB nt a&&okB nt b))=true:=hok
  simp only[Bool.and_eq_true]at hok'
  have iha:=comp_eq hl hok'.2.1
  have ihb:=comp_eq hl hok'.2.2
  refine⟨λt tm mu n k K h hk=>?_,λe t tm mu n k K he h hk=>?_⟩
  ·show vIf (gx kept x t) (comp kept a none orc call fz t mu n k) (comp kept b none orc call fz t mu n k)=onIf zz (ev tm x) _ _
   rw[vIf_eq,gx_eq h hok'.1,iha.alone _ _ _ _ _ _ h.again hk,ihb.alone _ _ _ _ _ _ h.again hk]
  ·show vIf (evV e x) (comp kept a none orc call fz t mu n k) (comp kept b none orc call fz t mu n k)=onIf zz (ev tm x) _ _
   rw[vIf_eq,evE_eq he hok'.1,iha.alone _ _ _ _ _ _ h hk,ihb.alone _ _ _ _ _ _ h hk];rfl
 |.iteN x a b nx,hok=>by
  have hok':(okT nt x&&(okB nt a&&(okB nt b&&okB nt nx)))=true:=hok
  simp only[Bool.and_eq_true]at hok'
  have iha:=comp_eq hl hok'.2.1
  have ihb:=comp_eq hl hok'.2.2.1
  have ihn:=comp_eq hl hok'.2.2.2
  have hn:∀{k K},KR nt kept k K→KR nt kept (onward (comp kept nx none orc call fz · · · k) k) (onw (bcode orc zz call fz 100000 (kpOf kept) nx · · · K) K):=λhk=>KR.onward (λt tm mu n h=>ihn.alone _ _ _ _ _ _ h hk) hk
  refine⟨λt tm mu n k K h hk=>?_,λe t tm mu n k K he h hk=>?_⟩
  ·show vIf (gx kept x t) (comp kept a none orc call fz t mu n (onward (comp kept nx none orc call fz · · · k) k)) (comp kept b none orc call fz t mu n (onward (comp kept nx none orc call fz · · · k) k))=onIf zz (ev tm x) _ _
   rw[vIf_eq,gx_eq h hok'.1,iha.alone _ _ _ _ _ _ h.again (hn hk),ihb.alone _ _ _ _ _ _ h.again (hn hk)]
  ·show vIf (evV e x) (comp kept a none orc call fz t mu n (onward (comp kept nx none orc call fz · · · k) k)) (comp kept b none orc call fz t mu n (onward (comp kept nx none orc call fz · · · k) k))=onIf zz (ev tm x) _ _
   rw[vIf_eq,evE_eq he hok'.1,iha.alone _ _ _ _ _ _ h (hn hk),ihb.alone _ _ _ _ _ _ h (hn hk)];rfl
 |.test x id nx,hok=>by
  have hok':(okT nt x&&okB nt nx)=true:=hok
  simp only[Bool.and_eq_true]at hok'
  have ihn:=comp_eq hl hok'.2
  refine⟨λt tm mu n k K h hk=>?_,λe t tm mu n k K he h hk=>?_⟩
  ·show vIf (gx kept x t) (comp kept nx none orc call fz t mu n k) (k (.exit id) t mu n)=onIf zz (ev tm x) _ _
   rw[vIf_eq,gx_eq h hok'.1,ihn.alone _ _ _ _ _ _ h.again hk,hk (.exit id) t _ mu n h.again]
  ·show vIf (evV e x) (comp kept nx none orc call fz t mu n k) (k (.exit id) t mu n)=onIf zz (ev tm x) _ _
   rw[vIf_eq,evE_eq he hok'.1,ihn.alone _ _ _ _ _ _ h hk,hk (.exit id) t _ mu n h];rfl
 |.blk id a nx,hok=>by
  have hok':(okB nt a&&okB nt nx)=true:=hok
  simp only[Bool.and_eq_true]at hok'
  have iha:=comp_eq hl hok'.1
  have ihn:=comp_eq hl hok'.2
  refine Same.plain rfl (λ_=>rfl) λt tm mu n k K h hk=>?_
  exact iha.alone t tm mu n (inBlk id (comp kept nx none orc call fz · · · k) k) (inBN id (bcode orc zz call fz 100000 (kpOf kept) nx · · · K) K) h (KR.inBlk (λt tm mu n h=>ihn.alone _ _ _ _ _ _ h hk) hk)
 |.loop a nx,hok=>by
  have hok':(okB nt a&&okB nt nx)=true:=hok
  simp only[Bool.and_eq_true]at hok'
  have iha:=comp_eq hl hok'.1
  have ihn:=comp_eq hl hok'.2
  refine Same.plain rfl (λ_=>rfl) λt tm mu n k K h hk=>?_
  have key:∀(fuel:Nat) t tm mu n k K,EnvR nt (env0 kept t) tm→KR nt kept k K→loopK (comp kept a none) orc call fz fuel t mu n k=loopD zz (bcode orc zz call fz 100000 (kpOf kept) a) fuel tm mu n K:=by
   intro fuel
   induction fuel with
   |zero=>intros;rfl
   |succ f ih=>
    intro t tm mu n k K h hk
    exact iha.alone t tm mu n (onward (loopK (comp kept a none) orc call fz f · · · k) k) (onw (loopD zz (bcode orc zz call fz 100000 (kpOf kept) a) f · · · K) K) h (KR.onward (λt tm mu n h=>ih t tm mu n k K h hk) hk)
  have e1:comp kept (.loop a nx) none=cLoop (comp kept a none) (comp kept nx none):=rfl
  rw[e1,bcode]
  unfold cLoop
  exact key _ t tm mu n _ _ h (KR.onward (λt tm mu n h=>ihn.alone _ _ _ _ _ _ h hk) hk)
end
end Go.Ev
namespace Go.Ev
def tmOf (nt:Nat) (e:EnvQ):TM:=(List.range ((nt+15)/16)).map λq=>(List.range (min 16 (nt-16*q))).map λr=>(e (16*q+r)).val
theorem tmOf_in {nt:Nat} {e:EnvQ} {q r:Nat} (hr:r<16) (hn:16*q+r<nt):inR (tmOf nt e) q r∧get (tmOf nt e) q r=(e (16*q+r)).val:=by
 have h1:(tmOf nt e)[q]?=some ((List.range (min 16 (nt-16*q))).map λr=>(e (16*q+r)).val):=by
  unfold tmOf
  rw[List.getElem?_map,List.getElem?_range (by omega)];rfl
 refine⟨⟨_,h1,by simp;omega⟩,?_⟩
 unfold get
 rw[nth_eq,nth_eq,h1,Option.getD_some,List.getElem?_map,List.getElem?_range (by omega)]
 rfl
theorem tmOf_out {nt:Nat} {e:EnvQ} {q r:Nat} (h:inR (tmOf nt e) q r):16*q+r<nt:=by
 obtain⟨row,h1,h2⟩:=h
 unfold tmOf at h1
 rw[List.getElem?_map]at h1
 obtain⟨q',h3,rfl⟩:=Option.map_eq_some_iff.1 h1
 have h4:=List.getElem?_eq_some_iff.1 h3
 obtain⟨h5,h6⟩:=h4
 simp at h6
 subst h6
 simp at h2
 omega
theorem tmOf_envR (nt:Nat) (e:EnvQ):EnvR nt e (tmOf nt e):=λ_ _ hr hn=>tmOf_in hr hn
section
variable {nt:Nat} {kept:List Nat} {e:EnvQ} {t:Fm} {tm:TM} {fz:Fz}
theorem res1_eq (h:EnvR nt (env0 kept t) tm) {r:ARes} (hr:okRes nt r=true) {mu:St} {k:AV→RR}:res1 r (env0 kept t) fz mu k=resVal zz fz r tm mu k:=by
 cases r with
 |tmp q r=>
  have:=okT_t (show okT nt (.t q r)=true from hr)
  show k (atV (env0 kept t) q r)=k (get tm q r)
  rw[atV_eq,(h q r this.1 this.2).2]
 |cell q r a m=>
  have:=okT_t (show okT nt (.t q r)=true from hr)
  show rCell (atV (env0 kept t) q r) a m fz mu k=(get tm q r).onOne zz λs=>s.onPtr zz λid off=>lookAll fz mu id zz λcs=>subK cs off m zz λc=>asRes a c zz k
  rw[atV_eq,(h q r this.1 this.2).2];rfl
theorem resAllE_eq (h:EnvR nt (env0 kept t) tm):∀{l:List ARes},(∀r∈l,okRes nt r=true)→∀{mu:St} {k:List CV→RR},resAllE l (env0 kept t) fz mu k=resAll zz fz l tm mu k
 |[],_,mu,k=>rfl
 |r::l,hr,mu,k=>by
  show(res1 r (env0 kept t) fz mu λv=>toCV zz v λc=>resAllE l (env0 kept t) fz mu λcs=>k (c::cs))=resVal zz fz r tm mu λv=>toCV zz v λc=>resAll zz fz l tm mu λcs=>k (c::cs)
  rw[res1_eq h (hr r (by simp))]
  congr 1
  funext v
  congr 1
  funext c
  exact resAllE_eq h λr hr'=>hr r (by simp[hr'])
theorem resC_eq (h:EnvR nt (env0 kept t) tm) {l:List ARes} (hr:∀r∈l,okRes nt r=true) {mu:St} {k:AV→RR}:resC kept l fz t mu k=resK zz fz l tm mu k:=by
 match l,hr with
 |[],_=>rfl
 |[.tmp q r],hr=>
  show fAV (gx kept (.t q r) t) k=k (get tm q r)
  rw[fAV_eq,gx_eq h (show okT nt (.t q r)=true from hr (.tmp q r) (by simp))];rfl
 |[.cell q r a m],hr=>exact res1_eq (r:=.cell q r a m) h (hr _ (by simp))
 |r::r2::l,hr=>
  show(resAllE (r::r2::l) (env0 kept t) fz mu λcs=>k (.tp cs))=resAll zz fz (r::r2::l) tm mu λcs=>k (.tp cs)
  exact resAllE_eq h hr
end
theorem subI {mu mu2:St} (h:∀id c,look mu2 id=some c→look mu id=some c) {id:Nat} (hs:(look mu2 id).isSome):(look mu id).isSome:=by
 obtain⟨c,hc⟩:=Option.isSome_iff_exists.1 hs
 simp[h id c hc]
theorem Rel.sub {val:Nat→Int} {ρ:Rho} {fz:Fz} {mu mu2:St} {w:World} (hr:Rel val ρ fz mu w) (h:∀id c,look mu2 id=some c→look mu id=some c):Rel val ρ fz mu2 w:=
 ⟨hr.rf,λid c hc=>hr.rm id c (h id c hc),λid c hc=>hr.dm id c (h id c hc),λa b p q ha hb=>hr.dj a b p q (subI h ha) (hb.imp (subI h) (λx=>x))⟩
theorem NewB.sub {ρ ρ':Rho} {mu mu' mu2:St} {w:World} (hb:NewB ρ ρ' mu mu' w) (h:∀id c,look mu2 id=some c→look mu' id=some c):NewB ρ ρ' mu mu2 w:=λid p hl hp=>hb id p (subI h hl) hp
theorem NewI.sub {mu mu' mu2:St} {n n':Nat} (hi:NewI mu mu' n n') (h:∀id c,look mu2 id=some c→look mu' id=some c):NewI mu mu2 n n':=λid hl=>hi id (subI h hl)
def HOk (P:Program) (f:Nat) (h:HFunc):Prop:=hasBody P f=true∧∃fn m kept gc af,P.funcs[f]?=some fn∧prepFunc P m fn=some af∧okFunc kept af=true∧compFunc kept gc af=h
theorem hok {P:Program} {f:Nat} {h:HFunc} {m:Muts} {kept:List Nat} {gc:Bool} {fn:Func} (hb:hasBody P f=true) (hf:P.funcs[f]?=some fn) (h1:(prepFunc P m fn).map (okFunc kept)=some true) (h2:(prepFunc P m fn).map (compFunc kept gc)=some h):HOk P f h:=by
 cases hp:prepFunc P m fn with
 |none=>rw[hp]at h1;cases h1
 |some af=>
  rw[hp]at h1 h2
  simp only[Option.map_some,Option.some.injEq]at h1 h2
  exact⟨hb,fn,m,kept,gc,af,hf,hp,h1,h2⟩
section
variable {T:RR→Prop} {P:Program} {val:Nat→Int} {orc:Orc RR}
theorem frm_TmR {nt nargs:Nat} {kept:List Nat} {args:List AV} (hlen:args.length=nargs) (h8:nargs≤8) (hk:∀i,i<nargs→idxOf kept i 0=some i) (ρ:Rho) (w:World) (xs:List Value) (hx:All2 (AVR val ρ w) args xs):
 TmR val ρ w (tmOf nt (env0 kept (frm args))) {tmps:=xs.toArray++Array.replicate (nt-xs.toArray.size) undef,defers:=[]}:=by
 refine⟨λt ht=>?_,λt=>?_⟩
 ·have:=tmOf_out ht
  simp;omega
 ·by_cases ht:t<nt
  ·have h1:=(tmOf_in (nt:=nt) (e:=env0 kept (frm args)) (q:=t/16) (r:=t%16) (by omega) (by omega)).2
   have e1:16*(t/16)+t%16=t:=by omega
   rw[h1,e1]
   cases hi:idxOf kept t 0 with
   |none=>rw[env0_none hi];trivial
   |some j=>
    rw[env0_some hi]
    show AVR val ρ w (gAt j (frm args)) _
    rw[gAt_frm (by omega)]
    by_cases hj:j<nargs
    ·have hjj:=hk j hj
     have:t=j:=idxOf_inj hi hjj
     subst this
     have h3:t<args.length:=by omega
     obtain⟨b,h4,h5⟩:=hx.get (List.getElem?_eq_getElem h3)
     have h6:t<xs.length:=by rw[←hx.length];exact h3
     rw[List.getElem?_eq_getElem h3,Option.getD_some,Array.getD_eq_getD_getElem?,Array.getElem?_append_left (by simpa using h6)]
     simp only[List.getElem?_toArray,h4,Option.getD_some]
     exact h5
    ·rw[List.getElem?_eq_none (by omega)];trivial
  ·have:get (tmOf nt (env0 kept (frm args))) (t/16) (t%16)=.one .un:=by
    by_cases hin:inR (tmOf nt (env0 kept (frm args))) (t/16) (t%16)
    ·have:=tmOf_out hin;omega
    ·cases hg:get (tmOf nt (env0 kept (frm args))) (t/16) (t%16)with
     |one s=>cases s with
      |un=>rfl
      |_=>exact(hin (get_inR (by rw[hg];intro h;cases h))).elim
     |_=>exact(hin (get_inR (by rw[hg];intro h;cases h))).elim
   rw[this];trivial
theorem hcall_sound (hz:¬T zz) (hk:OrcOk T val orc) (hmx:P.follows .mixedOrders=true) {K:Nat→Option (Contract RR)} {F:Nat→Option HFunc} (hK:∀f c,K f=some c→ContractOk T P val f c) (hF:∀f h,F f=some h→HOk P f h):
 ∀depth,CallSound T P val (hcall orc K F depth)
 |0=>λf args fz mu n k h=>(hz h).elim
 |depth+1=>fun f args fz mu n k h=>by
  have ih:=hcall_sound hz hk hmx hK hF depth
  have h:T (Option.rec (motive:=λ_=>RR)
   (Option.rec (motive:=λ_=>RR) zz (λfn=>HFunc.rec (motive:=λ_=>RR) (λinit res body gc=>init args λt=>body orc (hcall orc K F depth) fz t mu n (ends res fz (gcK gc n k))) fn) (F f))
   (λc=>c args fz mu n k) (K f)):=h
  cases eK:K f with
  |some c=>
   rw[eK]at h
   exact hK f c eK args fz mu n k h
  |none=>
   rw[eK]at h
   cases eF:F f with
   |none=>rw[eF]at h;exact(hz h).elim
   |some hf=>
    rw[eF]at h
    obtain⟨hb,fn,m,kept,gc,af,hfn,hp,hok,hcomp⟩:=hF f hf eF
    subst hcomp
    unfold prepFunc at hp
    cases hbody:fn.body with
    |none=>rw[hbody]at hp;cases hp
    |some c=>
     rw[hbody]at hp
     simp only at hp
     split at hp
     ·rename_i b r hpc hpr
      cases hp
      have h:T (initAt (fn.params.size+fn.nfree) args λt=>comp kept (flat b .norm) none orc (hcall orc K F depth) fz t mu n (ends (resC kept r) fz (gcK gc n k))):=h
      simp only[okFunc,Bool.and_eq_true]at hok
      obtain⟨ok1,ok2,ok3,ok4,ok5⟩:=hok
      have hl:kept.length≤264:=Nat.le_of_ble_eq_true ok1
      have hkp:∀i,i<fn.params.size+fn.nfree→idxOf kept i 0=some i:=λi hi=>by
       have:=allL_iff.1 ok3 i (by simpa using hi)
       have h2:Option.rec (motive:=λ_=>Bool) false (λj=>Nat.beq j i) (idxOf kept i 0)=true:=this
       cases hx:idxOf kept i 0 with
       |none=>rw[hx]at h2;cases h2
       |some j=>rw[hx]at h2;rw[Nat.eq_of_beq_eq_true h2]
      obtain⟨hlen,h8,h1⟩:=initAt_elim hz h
      have henv:=tmOf_envR fn.ntmps (env0 kept (frm args))
      have hKR:KR fn.ntmps kept (ends (resC kept r) fz (gcK gc n k)) (λe tm mu n'=>AExit.rec (motive:=λ_=>RR) (resK zz fz r tm mu λv=>gcK gc n k v mu n') (λ_=>zz) (resK zz fz r tm mu λv=>gcK gc n k v mu n') e):=by
       intro e t tm mu n' he
       have:=resC_eq (fz:=fz) he (allL_iff.1 ok4) (mu:=mu) (k:=λv=>gcK gc n k v mu n')
       cases e with
       |normal=>exact this
       |ret=>exact this
       |exit id=>rfl
      rw[(comp_eq (orc:=orc) (call:=hcall orc K F depth) (fz:=fz) hl ok5).alone _ _ mu n _ _ henv hKR]at h1
      obtain⟨e,tm',mu',n',h3,h4⟩:=bcode_sound (P:=P) (val:=val) hz ih hk hmx c hpc h1
      have h3':=out_norm h3
      have h5:T (resK zz fz r tm' mu' λv=>gcK gc n k v mu' n')∧(e=.normal∨e=.ret):=by
       cases e with
       |normal=>exact⟨h3',.inl rfl⟩
       |ret=>exact⟨h3',.inr rfl⟩
       |exit id=>exact(hz h3').elim
      obtain⟨h6,h7⟩:=h5
      obtain⟨v,h8',h9⟩:=resK_sound (P:=P) (val:=val) hz hpr h6
      obtain⟨mu2,h10,hsub⟩:∃mu2,T (k v mu2 n')∧∀id c,look mu2 id=some c→look mu' id=some c:=by
       cases gc with
       |false=>exact⟨mu',h8',λ_ _ h=>h⟩
       |true=>exact sweepK_elim (show T (sweepK n v mu' λmu=>k v mu n')from h8')
      refine⟨v,mu2,n',h10,hb,h4.1,λρ w xs hr hx hf=>?_⟩
      refine calls_of_wp hfn hbody (h4.2 ρ w _ hr (frm_TmR hlen h8 hkp ρ w xs hx) hf _ λa' w' hp=>?_)
      obtain⟨d,ρ',p1,p2,p3,p4,p5,p6⟩:=hp
      obtain⟨x,g1,g2⟩:=h9 ρ' w' a' p2 p3
      have:a'.defers=[]∧∃v_1,(results fn a'.tmps).run P w'=.ok v_1 w'∧∃x,Ending.returned v_1=.returned x∧Post val ρ fz mu n w v mu2 n' x w':=
       ⟨d,x,g1,x,rfl,ρ',p1,p2.sub hsub,g2,p4,p5.sub hsub,p6.sub hsub⟩
      rcases h7 with rfl|rfl
      ·exact this
      ·exact this
     ·cases hp
end
def HTree.Ok (P:Program):HTree→Prop
 |.nil=>True
 |.node k v l r=>HOk P k v∧l.Ok P∧r.Ok P
theorem HTree.ok {P:Program}:∀{t:HTree},t.Ok P→∀f h,t.find f=some h→HOk P f h
 |.nil,_,f,h,e=>by cases e
 |.node k v l r,ht,f,h,e=>by
  have e':Bool.rec (motive:=λ_=>Option HFunc) (Bool.rec (motive:=λ_=>Option HFunc) (r.find f) (l.find f) (Nat.ble f k)) (some v) (Nat.beq f k)=some h:=e
  cases e1:Nat.beq f k with
  |true=>
   rw[e1]at e'
   have:=Nat.eq_of_beq_eq_true e1
   subst this
   cases e'
   exact ht.1
  |false=>
   rw[e1]at e'
   cases e2:Nat.ble f k with
   |true=>rw[e2]at e';exact HTree.ok ht.2.1 f h e'
   |false=>rw[e2]at e';exact HTree.ok ht.2.2 f h e'
theorem lawH {T:RR→Prop} (hz:¬T zz) {P:Program} {val:Nat→Int} {orc:Orc RR} {K:Nat→Option (Contract RR)} {F:HTree} {depth f:Nat} {args:List AV} (hR:∀v mu n,T (isR v mu n)→v=.one (.bool true)) (hk:OrcOk T val orc) (hmx:P.follows .mixedOrders=true)
 (hK:∀f c,K f=some c→ContractOk T P val f c) (hF:F.Ok P) (h:T (hcall orc K F.find depth f args (λ_=>none) [] 0 isR)) (w:World) (xs:List Value) (hx:All2 (AVR val (λ_=>none) w) args xs):
 Calls P f xs.toArray w λe w'=>e=.returned (.bool true)∧Fr (λ_=>none) [] w w':=by
 obtain⟨v,mu',n',h1,_,h2,h3⟩:=hcall_sound (T:=T) hz hk hmx hK (HTree.ok hF) depth f args (λ_=>none) [] 0 isR h
 have:=hR _ _ _ h1
 subst this
 refine(h3 (λ_=>none) w xs ⟨λid cs h=>(by cases h),λid cs h=>(by cases h),λid cs h=>(by cases h),λid id' p p' h=>(by cases h)⟩ hx λ_ _ _=>rfl).mono λe w' ⟨x,e1,ρ',p1,p2,p3,p4,p5,p6⟩=>?_
 subst e1
 have hx:x=.bool true:=p3
 subst hx
 exact⟨rfl,p4⟩
end Go.Ev
