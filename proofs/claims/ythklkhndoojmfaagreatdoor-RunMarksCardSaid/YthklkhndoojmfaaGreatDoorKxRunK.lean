/-
  A part of the proof.
-/
import Derived.Test.YthklkhndoojmfaaGreatDoorKxRun
import Derived.Test.YthklkhndoojmfaaGreatDoorEwM9
set_option linter.unusedVariables false
set_option linter.unusedSimpArgs false
noncomputable section
namespace Go.Ev
open Go Go.Conc Go.Proofs Go.RowKit Go.Kn Go.Kx
def joinR:List SV→Nat→Nat→(Nat→Nat→RR)→RR:=
 List.rec (motive:=λ_=>Nat→Nat→(Nat→Nat→RR)→RR) (λL S k=>k L S)
  (λx _ ih L S k=>x.onStr zz λl s=>fN (Nat.add (Nat.mul (Nat.add (Nat.mul S (Nat.pow 256 l)) s) 256) 10) λS=>fN (Nat.succ (Nat.add L l)) λL=>ih L S k)
def onRow (v:SV) (k:Nat→Nat→Nat→RR):RR:=
 SV.rec (motive:=λ_=>RR) zz (λ_ _=>zz) (λ_=>zz) (λ_ _=>zz) zz zz zz (λ_ _=>zz) (λg off len _ s=>cond (Nat.beq s 1) (k g off len) zz) zz zz (λ_ _=>zz) (λ_ _=>zz) zz (λ_=>zz) zz (λ_=>zz) v
def rnRow (fz:Fz) (mu:St) (n:Nat) (k:AV→St→Nat→RR) (v:AV):RR:=
 v.onOne zz λv=>onRow v λg off len=>cond (Nat.ble len 1000000) (lookAll fz mu g zz λcs=>subK cs off len zz λcs=>joinR cs 0 0 λL S=>cond (Nat.ble L 1000000000) (k (.tp [.one (.str L S),.one (.int .i64 0),.one (.int .i64 0)]) mu n) zz) zz
def rnK (orc:Orc RR) (call:CallT RR) (body:HC) (res:RF):Contract RR:=λargs fz mu n k=>onS1 args λl s=>
 body orc call fz (frm [.one (.str l s)]) mu n (λe t mu n=>AExit.rec (motive:=λ_=>RR) (rnRow fz mu n k (gAt 1 t)) (λ_=>zz) (res fz t mu λv=>k v mu n) e)
set_option maxRecDepth 100000 in
theorem cons118 (l:List Value) (h:118≤l.length):∃(u0 u1 u2 u3 u4 u5 u6 u7 u8 u9 u10 u11 u12 u13 u14 u15 u16 u17 u18 u19 u20 u21 u22 u23 u24 u25 u26 u27 u28 u29 u30 u31 u32 u33 u34 u35 u36 u37 u38 u39 u40 u41 u42 u43 u44 u45 u46 u47 u48 u49 u50 u51 u52 u53 u54 u55 u56 u57 u58 u59 u60 u61 u62 u63 u64 u65 u66 u67 u68 u69 u70 u71 u72 u73 u74 u75 u76 u77 u78 u79 u80 u81 u82 u83 u84 u85 u86 u87 u88 u89 u90 u91 u92 u93 u94 u95 u96 u97 u98 u99 u100 u101 u102 u103 u104 u105 u106 u107 u108 u109 u110 u111 u112 u113 u114 u115 u116 u117:Value) (rest:List Value),l=u0::u1::u2::u3::u4::u5::u6::u7::u8::u9::u10::u11::u12::u13::u14::u15::u16::u17::u18::u19::u20::u21::u22::u23::u24::u25::u26::u27::u28::u29::u30::u31::u32::u33::u34::u35::u36::u37::u38::u39::u40::u41::u42::u43::u44::u45::u46::u47::u48::u49::u50::u51::u52::u53::u54::u55::u56::u57::u58::u59::u60::u61::u62::u63::u64::u65::u66::u67::u68::u69::u70::u71::u72::u73::u74::u75::u76::u77::u78::u79::u80::u81::u82::u83::u84::u85::u86::u87::u88::u89::u90::u91::u92::u93::u94::u95::u96::u97::u98::u99::u100::u101::u102::u103::u104::u105::u106::u107::u108::u109::u110::u111::u112::u113::u114::u115::u116::u117::rest:=by
 obtain _|⟨u0,l⟩:=l
 ·simp at h
 obtain _|⟨u1,l⟩:=l
 ·simp at h
 obtain _|⟨u2,l⟩:=l
 ·simp at h
 obtain _|⟨u3,l⟩:=l
 ·simp at h
 obtain _|⟨u4,l⟩:=l
 ·simp at h
 obtain _|⟨u5,l⟩:=l
 ·simp at h
 obtain _|⟨u6,l⟩:=l
 ·simp at h
 obtain _|⟨u7,l⟩:=l
 ·simp at h
 obtain _|⟨u8,l⟩:=l
 ·simp at h
 obtain _|⟨u9,l⟩:=l
 ·simp at h
 obtain _|⟨u10,l⟩:=l
 ·simp at h
 obtain _|⟨u11,l⟩:=l
 ·simp at h
 obtain _|⟨u12,l⟩:=l
 ·simp at h
 obtain _|⟨u13,l⟩:=l
 ·simp at h
 obtain _|⟨u14,l⟩:=l
 ·simp at h
 obtain _|⟨u15,l⟩:=l
 ·simp at h
 obtain _|⟨u16,l⟩:=l
 ·simp at h
 obtain _|⟨u17,l⟩:=l
 ·simp at h
 obtain _|⟨u18,l⟩:=l
 ·simp at h
 obtain _|⟨u19,l⟩:=l
 ·simp at h
 obtain _|⟨u20,l⟩:=l
 ·simp at h
 obtain _|⟨u21,l⟩:=l
 ·simp at h
 obtain _|⟨u22,l⟩:=l
 ·simp at h
 obtain _|⟨u23,l⟩:=l
 ·simp at h
 obtain _|⟨u24,l⟩:=l
 ·simp at h
 obtain _|⟨u25,l⟩:=l
 ·simp at h
 obtain _|⟨u26,l⟩:=l
 ·simp at h
 obtain _|⟨u27,l⟩:=l
 ·simp at h
 obtain _|⟨u28,l⟩:=l
 ·simp at h
 obtain _|⟨u29,l⟩:=l
 ·simp at h
 obtain _|⟨u30,l⟩:=l
 ·simp at h
 obtain _|⟨u31,l⟩:=l
 ·simp at h
 obtain _|⟨u32,l⟩:=l
 ·simp at h
 obtain _|⟨u33,l⟩:=l
 ·simp at h
 obtain _|⟨u34,l⟩:=l
 ·simp at h
 obtain _|⟨u35,l⟩:=l
 ·simp at h
 obtain _|⟨u36,l⟩:=l
 ·simp at h
 obtain _|⟨u37,l⟩:=l
 ·simp at h
 obtain _|⟨u38,l⟩:=l
 ·simp at h
 obtain _|⟨u39,l⟩:=l
 ·simp at h
 obtain _|⟨u40,l⟩:=l
 ·simp at h
 obtain _|⟨u41,l⟩:=l
 ·simp at h
 obtain _|⟨u42,l⟩:=l
 ·simp at h
 obtain _|⟨u43,l⟩:=l
 ·simp at h
 obtain _|⟨u44,l⟩:=l
 ·simp at h
 obtain _|⟨u45,l⟩:=l
 ·simp at h
 obtain _|⟨u46,l⟩:=l
 ·simp at h
 obtain _|⟨u47,l⟩:=l
 ·simp at h
 obtain _|⟨u48,l⟩:=l
 ·simp at h
 obtain _|⟨u49,l⟩:=l
 ·simp at h
 obtain _|⟨u50,l⟩:=l
 ·simp at h
 obtain _|⟨u51,l⟩:=l
 ·simp at h
 obtain _|⟨u52,l⟩:=l
 ·simp at h
 obtain _|⟨u53,l⟩:=l
 ·simp at h
 obtain _|⟨u54,l⟩:=l
 ·simp at h
 obtain _|⟨u55,l⟩:=l
 ·simp at h
 obtain _|⟨u56,l⟩:=l
 ·simp at h
 obtain _|⟨u57,l⟩:=l
 ·simp at h
 obtain _|⟨u58,l⟩:=l
 ·simp at h
 obtain _|⟨u59,l⟩:=l
 ·simp at h
 obtain _|⟨u60,l⟩:=l
 ·simp at h
 obtain _|⟨u61,l⟩:=l
 ·simp at h
 obtain _|⟨u62,l⟩:=l
 ·simp at h
 obtain _|⟨u63,l⟩:=l
 ·simp at h
 obtain _|⟨u64,l⟩:=l
 ·simp at h
 obtain _|⟨u65,l⟩:=l
 ·simp at h
 obtain _|⟨u66,l⟩:=l
 ·simp at h
 obtain _|⟨u67,l⟩:=l
 ·simp at h
 obtain _|⟨u68,l⟩:=l
 ·simp at h
 obtain _|⟨u69,l⟩:=l
 ·simp at h
 obtain _|⟨u70,l⟩:=l
 ·simp at h
 obtain _|⟨u71,l⟩:=l
 ·simp at h
 obtain _|⟨u72,l⟩:=l
 ·simp at h
 obtain _|⟨u73,l⟩:=l
 ·simp at h
 obtain _|⟨u74,l⟩:=l
 ·simp at h
 obtain _|⟨u75,l⟩:=l
 ·simp at h
 obtain _|⟨u76,l⟩:=l
 ·simp at h
 obtain _|⟨u77,l⟩:=l
 ·simp at h
 obtain _|⟨u78,l⟩:=l
 ·simp at h
 obtain _|⟨u79,l⟩:=l
 ·simp at h
 obtain _|⟨u80,l⟩:=l
 ·simp at h
 obtain _|⟨u81,l⟩:=l
 ·simp at h
 obtain _|⟨u82,l⟩:=l
 ·simp at h
 obtain _|⟨u83,l⟩:=l
 ·simp at h
 obtain _|⟨u84,l⟩:=l
 ·simp at h
 obtain _|⟨u85,l⟩:=l
 ·simp at h
 obtain _|⟨u86,l⟩:=l
 ·simp at h
 obtain _|⟨u87,l⟩:=l
 ·simp at h
 obtain _|⟨u88,l⟩:=l
 ·simp at h
 obtain _|⟨u89,l⟩:=l
 ·simp at h
 obtain _|⟨u90,l⟩:=l
 ·simp at h
 obtain _|⟨u91,l⟩:=l
 ·simp at h
 obtain _|⟨u92,l⟩:=l
 ·simp at h
 obtain _|⟨u93,l⟩:=l
 ·simp at h
 obtain _|⟨u94,l⟩:=l
 ·simp at h
 obtain _|⟨u95,l⟩:=l
 ·simp at h
 obtain _|⟨u96,l⟩:=l
 ·simp at h
 obtain _|⟨u97,l⟩:=l
 ·simp at h
 obtain _|⟨u98,l⟩:=l
 ·simp at h
 obtain _|⟨u99,l⟩:=l
 ·simp at h
 obtain _|⟨u100,l⟩:=l
 ·simp at h
 obtain _|⟨u101,l⟩:=l
 ·simp at h
 obtain _|⟨u102,l⟩:=l
 ·simp at h
 obtain _|⟨u103,l⟩:=l
 ·simp at h
 obtain _|⟨u104,l⟩:=l
 ·simp at h
 obtain _|⟨u105,l⟩:=l
 ·simp at h
 obtain _|⟨u106,l⟩:=l
 ·simp at h
 obtain _|⟨u107,l⟩:=l
 ·simp at h
 obtain _|⟨u108,l⟩:=l
 ·simp at h
 obtain _|⟨u109,l⟩:=l
 ·simp at h
 obtain _|⟨u110,l⟩:=l
 ·simp at h
 obtain _|⟨u111,l⟩:=l
 ·simp at h
 obtain _|⟨u112,l⟩:=l
 ·simp at h
 obtain _|⟨u113,l⟩:=l
 ·simp at h
 obtain _|⟨u114,l⟩:=l
 ·simp at h
 obtain _|⟨u115,l⟩:=l
 ·simp at h
 obtain _|⟨u116,l⟩:=l
 ·simp at h
 obtain _|⟨u117,l⟩:=l
 ·simp at h
 exact⟨u0,u1,u2,u3,u4,u5,u6,u7,u8,u9,u10,u11,u12,u13,u14,u15,u16,u17,u18,u19,u20,u21,u22,u23,u24,u25,u26,u27,u28,u29,u30,u31,u32,u33,u34,u35,u36,u37,u38,u39,u40,u41,u42,u43,u44,u45,u46,u47,u48,u49,u50,u51,u52,u53,u54,u55,u56,u57,u58,u59,u60,u61,u62,u63,u64,u65,u66,u67,u68,u69,u70,u71,u72,u73,u74,u75,u76,u77,u78,u79,u80,u81,u82,u83,u84,u85,u86,u87,u88,u89,u90,u91,u92,u93,u94,u95,u96,u97,u98,u99,u100,u101,u102,u103,u104,u105,u106,u107,u108,u109,u110,u111,u112,u113,u114,u115,u116,u117,l,rfl⟩
section
variable {T:RR→Prop} {val:Nat→Int} {fz:Fz} {ρ:Rho} {mu:St} {n:Nat} {w:World} {orc:Orc RR} {call:CallT RR}
theorem onS1_elim (hz:¬T zz) {args:List AV} {k:Nat→Nat→RR} (h:T (onS1 args k)):∃l s,args=[.one (.str l s)]∧T (k l s):=by
 obtain⟨x,r1,rfl,h1⟩:=uncons_elim hz h
 obtain⟨rfl,h3⟩:=noMore_elim hz h1
 obtain⟨x,rfl,h4⟩:=onOne_elim hz h3
 obtain⟨l,a,rfl,h5⟩:=onStr_elim hz h4
 exact⟨l,a,rfl,h5⟩
theorem onRow_elim (hz:¬T zz) {v:SV} {k:Nat→Nat→Nat→RR} (h:T (onRow v k)):∃g off len cap,v=.osl g off len cap 1∧T (k g off len):=by
 cases v with
 |osl g off len cap s=>
  obtain⟨h1,h2⟩:=cond_elim hz (show T (cond (Nat.beq s 1) (k g off len) zz)from h)
  have:=beq_yes h1;subst this
  exact⟨g,off,len,cap,rfl,h2⟩
 |_=>exact(hz h).elim
theorem joinR_elim (hz:¬T zz):∀{cs:List SV} {L S:Nat} {k:Nat→Nat→RR},T (joinR cs L S k)→∃ps:List (Nat×Nat),cs=ps.map (λp=>SV.str p.1 p.2)∧∃L' S',T (k L' S')∧
 ((∀p∈ps,p.2<256^p.1)→S<256^L→S'<256^L'∧sB L' S'=sB L S++jt (ps.map λp=>sOf p.1 p.2))
 |[],L,S,k,h=>⟨[],rfl,L,S,h,λ_ hS=>⟨hS,by simp[jt]⟩⟩
 |x::cs,L,S,k,h=>by
  obtain⟨l,s,rfl,h1⟩:=onStr_elim hz (show T (x.onStr zz λl s=>fN ((S*256^l+s)*256+10) λS=>fN (Nat.succ (L+l)) λL=>joinR cs L S k)from h)
  rw[fN_eq,fN_eq]at h1
  obtain⟨ps,rfl,L',S',h2,h3⟩:=joinR_elim hz h1
  refine⟨(l,s)::ps,rfl,L',S',h2,λhp hS=>?_⟩
  have hs:s<256^l:=hp (l,s) (by simp)
  have hp1:0<256^l:=Nat.pow_pos (by decide)
  have a1:S*256^l+s<256^(L+l):=by
   rw[Nat.pow_add]
   have:(S+1)*256^l≤256^L*256^l:=Nat.mul_le_mul_right _ hS
   rw[Nat.add_mul]at this
   omega
  have a2:(S*256^l+s)*256+10<256^(Nat.succ (L+l)):=by rw[Nat.pow_succ];omega
  obtain⟨b1,b2⟩:=h3 (λp h=>hp p (by simp[h])) a2
  refine⟨b1,?_⟩
  have e1:=sB_append (L+l) (S*256^l+s) 1 10 (by decide)
  rw[Nat.pow_one]at e1
  have e2:=sB_append L S l s hs
  rw[b2,show Nat.succ (L+l)=L+l+1 from rfl,e1,e2]
  simp only[jt,List.map_cons,List.flatMap_cons,List.append_assoc,sOf_list]
  rfl
theorem one_TmR {P:Program} {nt:Nat} {kept:List Nat} {a:AV} {w:World} {act:Act} (h0:idxOf kept 0 0=some 0) (hs:act.tmps.size=nt) (ha:AVR val ρ w a (act.tmps.getD 0 undef)):TmR val ρ w (tmOf nt (env0 kept (frm [a]))) act:=by
 refine⟨λt ht=>?_,λt=>?_⟩
 ·have:=tmOf_out ht
  omega
 ·by_cases ht:t<nt
  ·have h1:=(tmOf_in (nt:=nt) (e:=env0 kept (frm [a])) (q:=t/16) (r:=t%16) (by omega) (by omega)).2
   have e1:16*(t/16)+t%16=t:=by omega
   rw[h1,e1]
   cases hi:idxOf kept t 0 with
   |none=>rw[env0_none hi];trivial
   |some j=>
    rw[env0_some hi]
    show AVR val ρ w (gAt j (frm [a])) _
    rw[gAt_frm (by simp)]
    match j,hi with
    |0,hi=>have:=idxOf_inj hi h0;subst this;exact ha
    |j+1,hi=>
     rw[List.getElem?_eq_none (by simp)]
     trivial
  ·have:get (tmOf nt (env0 kept (frm [a]))) (t/16) (t%16)=.one .un:=by
    by_cases hin:inR (tmOf nt (env0 kept (frm [a]))) (t/16) (t%16)
    ·have:=tmOf_out hin;omega
    ·cases hg:get (tmOf nt (env0 kept (frm [a]))) (t/16) (t%16)with
     |one s=>cases s with
      |un=>rfl
      |_=>exact(hin (get_inR (by rw[hg];intro h;cases h))).elim
     |_=>exact(hin (get_inR (by rw[hg];intro h;cases h))).elim
   rw[this];trivial
def lastB (tm:TM):Bool:=match tm[7]? with
 |some row=>Nat.blt 5 row.length
 |none=>false
theorem lastB_iff {tm:TM}:lastB tm=true↔inR tm 7 5:=by
 unfold lastB inR
 cases h:tm[7]? with
 |none=>simp
 |some row=>simp[Nat.blt_eq]
def rnEnd (fz:Fz) (rl:List ARes) (k:AV→St→Nat→RR):AExit→TM→St→Nat→RR:=λe tm mu n=>
 AExit.rec (motive:=λ_=>RR) (cond (lastB tm) (rnRow fz mu n k (get tm 6 8)) zz) (λ_=>zz) (resK zz fz rl tm mu λv=>k v mu n) e
set_option maxHeartbeats 2000000 in
set_option maxRecDepth 100000 in
theorem rnK_ok (hz:¬T zz) (hc:CallSound T Tryz.prog val call) (hk:OrcOk T val orc) (hmx:Tryz.prog.follows .mixedOrders=true) {m:Muts} {kept:List Nat} {ac:ACode} {rl:List ARes} {body:HC} {res:RF}
 (hp:prepCode Tryz.prog m (runL.foldr Code.seq (.region 23 (runF.take 8).toArray false))=some ac) (hsame:prepOpers Tryz.prog m (runF.take 8).toArray (runF.take 8)=prepOpers Tryz.prog m runF.toArray (runF.take 8)) (hlen:runF.length=10)
 (hpr:prepRes Tryz.prog Tryz.f6.results.toList=some rl) (hl:kept.length≤264) (h0:idxOf kept 0 0=some 0) (h1:idxOf kept 104 0=some 1)
 (hok:okB 118 (flat ac .norm)=true) (hrl:allL (okRes 118) rl=true) (hcomp:comp kept (flat ac .norm) none=body) (hres:resC kept rl=res):ContractOk T Tryz.prog val 6 (rnK orc call body res):=by
 subst hcomp hres
 intro args fz mu n k ht
 have hbody:hasBody Tryz.prog 6=true:=by kernel_rfl
 obtain⟨l,s,rfl,q1⟩:=onS1_elim hz ht
 have henv:=tmOf_envR 118 (env0 kept (frm [.one (.str l s)]))
 have hKR:KR 118 kept (λe t mu n=>AExit.rec (motive:=λ_=>RR) (rnRow fz mu n k (gAt 1 t)) (λ_=>zz) (resC kept rl fz t mu λv=>k v mu n) e) (rnEnd fz rl k):=by
  intro e t tm mu n' he
  cases e with
  |normal=>
   have h7:lastB tm=true:=lastB_iff.2 (he 7 5 (by decide) (by decide)).1
   have h8:get tm 6 8=gAt 1 t:=by
    rw[(he 6 8 (by decide) (by decide)).2,env0_some h1];rfl
   show rnRow fz mu n' k (gAt 1 t)=cond (lastB tm) (rnRow fz mu n' k (get tm 6 8)) zz
   rw[h7,h8];rfl
  |ret=>exact resC_eq (fz:=fz) he (allL_iff.1 hrl) (mu:=mu) (k:=λv=>k v mu n')
  |exit id=>rfl
 rw[(comp_eq (orc:=orc) (call:=call) (fz:=fz) hl hok).alone _ _ _ _ _ _ henv hKR]at q1
 obtain⟨e,tm',mu',n',g1,g2,g3⟩:=front_run (P:=Tryz.prog) (val:=val) hz hc hk hmx (by omega) hsame hp q1
 -- the call,once the end is known
 have walk:∀(v:AV),(∀ρ w (a:Act),Rel val ρ fz mu w→TmR val ρ w (tmOf 118 (env0 kept (frm [.one (.str l s)]))) a→FreshN ρ n n'→a.defers=[]→
  ∀R:Ending→World→Prop,(∀x w',Post val ρ fz mu n w v mu' n' x w'→R (.returned x) w')→WpN Tryz.prog (runL.foldr Code.seq (.seq (.region 23 runF.toArray false) runY)) (Exit.noGoto (bodyPost Tryz.prog Tryz.f6 R)) a w)→
  ∀ρ w (xs:List Value),Rel val ρ fz mu w→All2 (AVR val ρ w) [.one (.str l s)] xs→FreshN ρ n n'→Calls Tryz.prog 6 xs.toArray w λe w'=>∃x,e=.returned x∧Post val ρ fz mu n w v mu' n' x w':=by
  intro v hv ρ w xs hr hx hf
  match xs,hx with
  |[x1],hx=>
  obtain⟨hs,rfl⟩:=(show s<256^l∧x1=.string (sOf l s)from hx.1)
  have hv':=λa h1 h2=>hv ρ w a hr h1 hf h2 (λe w'=>∃x,e=.returned x∧Post val ρ fz mu n w v mu' n' x w') (λx w' h=>⟨x,rfl,h⟩)
  refine calls_of_wpN Tryz.func6 rfl ?_
  simp only[Tryz.ntmps6,List.size_toArray,List.length_cons,List.length_nil,Nat.reduceAdd,Nat.reduceSub,Array.replicate_succ,
   Array.replicate_zero,List.push_toArray,List.append_toArray,List.nil_append,List.cons_append]
  refine wpN_seq (of_wp ?_)
  go_wp2
  refine wpN_scope ?_
  exact hv' _ (one_TmR (P:=Tryz.prog) h0 rfl ⟨hs,rfl⟩) rfl
 cases e with
 |exit id=>exact(hz g1).elim
 |ret=>
  have g1':T (resK zz fz rl tm' mu' λv=>k v mu' n'):=g1
  obtain⟨v,g8,g9⟩:=resK_sound (P:=Tryz.prog) (val:=val) hz hpr g1'
  refine⟨v,mu',n',g8,hbody,g2,walk v λρ w a hr ht hf hd R hR=>?_⟩
  refine g3 ρ w a hr ht hf runY _ (λ_ a' w' hps=>?_) (λh=>by cases h)
  obtain⟨d1,ρ',p1,p2,p3,p4,p5,p6⟩:=hps
  obtain⟨x,b1,b2⟩:=g9 ρ' w' a' p2 p3
  have st2:Stp val fz ρ mu n w ρ' mu' n' w':=⟨g2,p1,p2,p4,p5,p6⟩
  exact⟨d1.trans hd,x,b1,hR x w' (st2.post b2)⟩
 |normal=>
  have g1':T (cond (lastB tm') (rnRow fz mu' n' k (get tm' 6 8)) zz):=g1
  obtain⟨e1,i1⟩:=cond_elim hz g1'
  have hin:=lastB_iff.1 e1
  obtain⟨v1,ev,i2⟩:=onOne_elim hz i1
  obtain⟨g,off,len,cap,rfl,i3⟩:=onRow_elim hz i2
  obtain⟨e2,i4⟩:=cond_elim hz i3
  have hlen1:=Nat.le_of_ble_eq_true e2
  obtain⟨cs,⟨hlk,hplain⟩,i5⟩:=lookAll_elim hz i4
  obtain⟨hsub,i6⟩:=subK_elim hz i5
  obtain⟨ps,hps,L,S,i7,i8⟩:=joinR_elim hz i6
  obtain⟨e3,i9⟩:=cond_elim hz i7
  have hL:=Nat.le_of_ble_eq_true e3
  have hpl:ps.length=len:=by
   have:=congrArg List.length hps
   simp at this
   omega
  refine⟨_,mu',n',i9,hbody,g2,walk _ λρ w a hr ht hf hd R hR=>?_⟩
  refine g3 ρ w a hr ht hf runY _ (λh=>(h rfl).elim) (λ_ a' w' hpost=>?_)
  obtain⟨d1,ρ',p1,p2,p3,p4,p5,p6⟩:=hpost
  have st2:Stp val fz ρ mu n w ρ' mu' n' w':=⟨g2,p1,p2,p4,p5,p6⟩
  have hsz:118≤a'.tmps.size:=by have:=p3.rng 117 hin;omega
  have hv:=p3.vals 104
  rw[show(104:Nat)/16=6 from rfl,show(104:Nat)%16=8 from rfl,ev]at hv
  obtain⟨p,c,hp',hsl,hc1,hc2,hc3,hc4⟩:=(show∃p c,ρ' g=some p∧a'.tmps.getD 104 undef=.slice (some ⟨p.1,p.2+off,none⟩) len c∧len≤cap∧cap≤c∧p.2+off+c*1≤bsize w' p.1∧c≤9223372036854775807 from hv)
  have hod:=(seenG p2 hlk).plain hplain
  have hat:∀i q,ps[i]?=some q→w'.cell? ⟨p.1,p.2+off+i,none⟩=some (.string (sOf q.1 q.2))∧q.2<256^q.1:=by
   intro i q hq
   have hi:i<len:=by rw[←hpl];exact(List.getElem?_eq_some_iff.1 hq).1
   have e5:((cs.drop off).take len)[i]?=some (.str q.1 q.2):=by rw[hps,List.getElem?_map,hq];rfl
   rw[List.getElem?_take,if_pos hi,List.getElem?_drop]at e5
   obtain⟨v5,c5,r5⟩:=own_cell hod hp' e5
   obtain⟨r6,rfl⟩:=(show q.2<256^q.1∧v5=.string (sOf q.1 q.2)from r5)
   exact⟨by rw[Nat.add_assoc];exact c5,r6⟩
  obtain⟨j1,j2⟩:=i8 (λq hq=>by
   obtain⟨i,hi⟩:=List.mem_iff_getElem?.1 hq
   exact(hat i q hi).2) (by decide)
  have hjt:sB L S=jt (ps.map λp=>sOf p.1 p.2):=by simpa[sB]using j2
  have hg:p.1<w'.heap.size:=by
   obtain⟨q,C,ty,fr,e7,e8,_⟩:=hod
   rw[hp']at e7;cases e7
   exact(Array.getElem?_eq_some_iff.1 e8).1
  obtain⟨tmps,defers⟩:=a'
  have hd':defers=[]:=d1.trans hd
  subst hd'
  obtain⟨tl⟩:=tmps
  obtain⟨u0,u1,u2,u3,u4,u5,u6,u7,u8,u9,u10,u11,u12,u13,u14,u15,u16,u17,u18,u19,u20,u21,u22,u23,u24,u25,u26,u27,u28,u29,u30,u31,u32,u33,u34,u35,u36,u37,u38,u39,u40,u41,u42,u43,u44,u45,u46,u47,u48,u49,u50,u51,u52,u53,u54,u55,u56,u57,u58,u59,u60,u61,u62,u63,u64,u65,u66,u67,u68,u69,u70,u71,u72,u73,u74,u75,u76,u77,u78,u79,u80,u81,u82,u83,u84,u85,u86,u87,u88,u89,u90,u91,u92,u93,u94,u95,u96,u97,u98,u99,u100,u101,u102,u103,u104,u105,u106,u107,u108,u109,u110,u111,u112,u113,u114,u115,u116,u117,rest,rfl⟩:=cons118 tl (by simpa using hsz)
  have h104:u104=.slice (some ⟨p.1,p.2+off,none⟩) (ps.map λp=>sOf p.1 p.2).length c:=by rw[List.length_map,hpl];exact hsl
  subst h104
  rw[hlen]
  refine run_tail (ps.map λp=>sOf p.1 p.2) (by simp;omega) (by rw[←hjt,sB_length];exact hL) u0 u1 u2 u3 u4 u5 u6 u7 u8 u9 u10 u11 u12 u13 u14 u15 u16 u17 u18 u19 u20 u21 u22 u23 u24 u25 u26 u27 u28 u29 u30 u31 u32 u33 u34 u35 u36 u37 u38 u39 u40 u41 u42 u43 u44 u45 u46 u47 u48 u49 u50 u51 u52 u53 u54 u55 u56 u57 u58 u59 u60 u61 u62 u63 u64 u65 u66 u67 u68 u69 u70 u71 u72 u73 u74 u75 u76 u77 u78 u79 u80 u81 u82 u83 u84 u85 u86 u87 u88 u89 u90 u91 u92 u93 u94 u95 u96 u97 u98 u99 u100 u101 u102 u103 u105 u106 u107 u108 u109 u110 u111 u112 u113 u114 u115 u116 u117 rest p.1 (p.2+off) c w' hg (λi h=>?_) R (λw2 hb=>hR _ _ ?_)
  ·have hi:i<ps.length:=by simpa using h
   have:=(hat i ps[i] (List.getElem?_eq_getElem hi)).1
   simpa using this
  ·refine(st2.trans (Stp.below p2 hb)).post ⟨[_,_,_],rfl,⟨j1,?_⟩,rfl,rfl,trivial⟩
   rw[←hjt];rfl
end
end Go.Ev
