/-
  ReplicaAcks: part 7 of what the proof is made of.
-/
import Derived.Test.YtnnjlnkoomeadaaReplicaAcksP6
import Derived.Test.YtnnjlnkoomeadaaRows
import Derived.KernelRfl
import Derived.Below
import Derived.Shelf.Sort.Plain
import Derived.Test.YtnnjlnkoomeadaaProg
import Derived.Deep.Slices
import Derived.ChangeArms
import Derived.DataReads
import Derived.SizedLaws
import Derived.Carry
import Derived.OpenShut
set_option linter.unusedVariables false
set_option linter.unusedSimpArgs false
namespace Go.Ev
noncomputable def tmOf (nt : Nat) (e : EnvQ) : TM:=(List.range ((nt + 15) / 16)).map λq=>(List.range (min 16 (nt - 16 * q))).map λr=>(e (16 * q + r)).val
theorem tmOf_in {nt : Nat} {e : EnvQ} {q r : Nat} (hr : r < 16) (hn : 16 * q + r < nt) : inR (tmOf nt e) q r ∧ get (tmOf nt e) q r = (e (16 * q + r)).val:=by
  have h1 : (tmOf nt e)[q]? = some ((List.range (min 16 (nt - 16 * q))).map λr=>(e (16 * q + r)).val):=by
    unfold tmOf
    rw [List.getElem?_map,List.getElem?_range (by omega)]; rfl
  refine ⟨⟨_,h1,by simp; omega⟩,?_⟩
  unfold get
  rw [nth_eq,nth_eq,h1,Option.getD_some,List.getElem?_map,List.getElem?_range (by omega)]
  rfl
theorem tmOf_out {nt : Nat} {e : EnvQ} {q r : Nat} (h : inR (tmOf nt e) q r) : 16 * q + r < nt:=by
  obtain ⟨row,h1,h2⟩:=h
  unfold tmOf at h1
  rw [List.getElem?_map] at h1
  obtain ⟨q',h3,rfl⟩:=Option.map_eq_some_iff.1 h1
  have h4:=List.getElem?_eq_some_iff.1 h3
  obtain ⟨h5,h6⟩:=h4
  simp at h6
  subst h6
  simp at h2
  omega
theorem tmOf_envR (nt : Nat) (e : EnvQ) : EnvR nt e (tmOf nt e):=λ_ _ hr hn=>tmOf_in hr hn
section
variable {nt : Nat} {kept : List Nat} {e : EnvQ} {t : Fm} {tm : TM} {fz : Fz}
theorem res1_eq (h : EnvR nt (env0 kept t) tm) {r : ARes} (hr : okRes nt r = true) {mu : St} {k : AV → RR} : res1 r (env0 kept t) fz mu k = resVal zz fz r tm mu k:=by
  cases r with
  | tmp q r =>
    have:=okT_t (show okT nt (.t q r) = true from hr)
    show k (atV (env0 kept t) q r) = k (get tm q r)
    rw [atV_eq,(h q r this.1 this.2).2]
  | cell q r a m =>
    have:=okT_t (show okT nt (.t q r) = true from hr)
    show rCell (atV (env0 kept t) q r) a m fz mu k = (get tm q r).onOne zz λs=>s.onPtr zz λid off=>lookAll fz mu id zz λcs=>subK cs off m zz λc=>asRes a c zz k
    rw [atV_eq,(h q r this.1 this.2).2]; rfl
theorem resAllE_eq (h : EnvR nt (env0 kept t) tm) : ∀ {l : List ARes},(∀ r ∈ l,okRes nt r = true) → ∀ {mu : St} {k : List CV → RR},resAllE l (env0 kept t) fz mu k = resAll zz fz l tm mu k
  | [],_,mu,k=>rfl
  | r :: l,hr,mu,k=>by
    show (res1 r (env0 kept t) fz mu λv=>toCV zz v λc=>resAllE l (env0 kept t) fz mu λcs=>k (c :: cs)) = resVal zz fz r tm mu λv=>toCV zz v λc=>resAll zz fz l tm mu λcs=>k (c :: cs)
    rw [res1_eq h (hr r (by simp))]
    congr 1
    funext v
    congr 1
    funext c
    exact resAllE_eq h λr hr'=>hr r (by simp [hr'])
theorem resC_eq (h : EnvR nt (env0 kept t) tm) {l : List ARes} (hr : ∀ r ∈ l,okRes nt r = true) {mu : St} {k : AV → RR} : resC kept l fz t mu k = resK zz fz l tm mu k:=by
  match l,hr with
  | [],_=>rfl
  | [.tmp q r],hr =>
    show fAV (gx kept (.t q r) t) k = k (get tm q r)
    rw [fAV_eq,gx_eq h (show okT nt (.t q r) = true from hr (.tmp q r) (by simp))]; rfl
  | [.cell q r a m],hr=>exact res1_eq (r:=.cell q r a m) h (hr _ (by simp))
  | r :: r2 :: l,hr =>
    show (resAllE (r :: r2 :: l) (env0 kept t) fz mu λcs=>k (.tp cs)) = resAll zz fz (r :: r2 :: l) tm mu λcs=>k (.tp cs)
    exact resAllE_eq h hr
end
theorem subI {mu mu2 : St} (h : ∀ id c,look mu2 id = some c → look mu id = some c) {id : Nat} (hs : (look mu2 id).isSome) : (look mu id).isSome:=by
  obtain ⟨c,hc⟩:=Option.isSome_iff_exists.1 hs
  simp [h id c hc]
theorem Rel.sub {val : Nat → Int} {ρ : Rho} {fz : Fz} {mu mu2 : St} {w : World} (hr : Rel val ρ fz mu w) (h : ∀ id c,look mu2 id = some c → look mu id = some c) : Rel val ρ fz mu2 w :=
  ⟨hr.rf,λid c hc=>hr.rm id c (h id c hc),λid c hc=>hr.dm id c (h id c hc),λa b p q ha hb=>hr.dj a b p q (subI h ha) (hb.imp (subI h) (λx=>x))⟩
theorem NewB.sub {ρ ρ' : Rho} {mu mu' mu2 : St} {w : World} (hb : NewB ρ ρ' mu mu' w) (h : ∀ id c,look mu2 id = some c → look mu' id = some c) : NewB ρ ρ' mu mu2 w:=λid p hl hp=>hb id p (subI h hl) hp
theorem NewI.sub {mu mu' mu2 : St} {n n' : Nat} (hi : NewI mu mu' n n') (h : ∀ id c,look mu2 id = some c → look mu' id = some c) : NewI mu mu2 n n':=λid hl=>hi id (subI h hl)
def HOk (P : Program) (f : Nat) (h : HFunc) : Prop:=hasBody P f = true ∧ ∃ fn m kept gc af,P.funcs[f]? = some fn ∧ prepFunc P m fn = some af ∧ okFunc kept af = true ∧ compFunc kept gc af = h
theorem hok {P : Program} {f : Nat} {h : HFunc} {m : Muts} {kept : List Nat} {gc : Bool} {fn : Func} (hb : hasBody P f = true) (hf : P.funcs[f]? = some fn) (h1 : (prepFunc P m fn).map (okFunc kept) = some true) (h2 : (prepFunc P m fn).map (compFunc kept gc) = some h) : HOk P f h:=by
  cases hp : prepFunc P m fn with
  | none=>rw [hp] at h1; cases h1
  | some af =>
    rw [hp] at h1 h2
    simp only [Option.map_some,Option.some.injEq] at h1 h2
    exact ⟨hb,fn,m,kept,gc,af,hf,hp,h1,h2⟩
section
variable {T : RR → Prop} {P : Program} {val : Nat → Int} {orc : Orc RR}
theorem frm_TmR {nt nargs : Nat} {kept : List Nat} {args : List AV} (hlen : args.length = nargs) (h8 : nargs ≤ 8) (hk : ∀ i, i < nargs → idxOf kept i 0 = some i) (ρ : Rho) (w : World) (xs : List Value) (hx : All2 (AVR val ρ w) args xs) :
    TmR val ρ w (tmOf nt (env0 kept (frm args))) { tmps:=xs.toArray ++ Array.replicate (nt - xs.toArray.size) undef,defers:=[] }:=by
  refine ⟨λt ht=>?_,λt=>?_⟩
  · have:=tmOf_out ht
    simp; omega
  · by_cases ht : t < nt
    · have h1:=(tmOf_in (nt:=nt) (e:=env0 kept (frm args)) (q:=t / 16) (r:=t % 16) (by omega) (by omega)).2
      have e1 : 16 * (t / 16) + t % 16 = t:=by omega
      rw [h1,e1]
      cases hi : idxOf kept t 0 with
      | none=>rw [env0_none hi]; trivial
      | some j =>
        rw [env0_some hi]
        show AVR val ρ w (gAt j (frm args)) _
        rw [gAt_frm (by omega)]
        by_cases hj : j < nargs
        · have hjj:=hk j hj
          have : t = j:=idxOf_inj hi hjj
          subst this
          have h3 : t < args.length:=by omega
          obtain ⟨b,h4,h5⟩:=hx.get (List.getElem?_eq_getElem h3)
          have h6 : t < xs.length:=by rw [← hx.length]; exact h3
          rw [List.getElem?_eq_getElem h3,Option.getD_some,Array.getD_eq_getD_getElem?,Array.getElem?_append_left (by simpa using h6)]
          simp only [List.getElem?_toArray,h4,Option.getD_some]
          exact h5
        · rw [List.getElem?_eq_none (by omega)]; trivial
    · have : get (tmOf nt (env0 kept (frm args))) (t / 16) (t % 16) = .one .un := by
        by_cases hin : inR (tmOf nt (env0 kept (frm args))) (t / 16) (t % 16)
        · have:=tmOf_out hin; omega
        · cases hg : get (tmOf nt (env0 kept (frm args))) (t / 16) (t % 16) with
          | one s=>cases s with
            | un=>rfl
            | _=>exact (hin (get_inR (by rw [hg]; intro h; cases h))).elim
          | _=>exact (hin (get_inR (by rw [hg]; intro h; cases h))).elim
      rw [this]; trivial
theorem hcall_sound (hz : ¬ T zz) (hk : OrcOk T val orc) (hmx : P.follows .mixedOrders = true) {K : Nat → Option (Contract RR)} {F : Nat → Option HFunc} (hK : ∀ f c, K f = some c → ContractOk T P val f c) (hF : ∀ f h, F f = some h → HOk P f h) :
    ∀ depth,CallSound T P val (hcall orc K F depth)
  | 0=>λf args fz mu n k h=>(hz h).elim
  | depth + 1=>λf args fz mu n k h=>by
    have ih:=hcall_sound hz hk hmx hK hF depth
    have h : T (Option.rec (motive:=λ_=>RR)
      (Option.rec (motive:=λ_=>RR) zz (λfn=>HFunc.rec (motive:=λ_=>RR) (λinit res body gc=>init args λt=>body orc (hcall orc K F depth) fz t mu n (ends res fz (gcK gc n k))) fn) (F f))
      (λc=>c args fz mu n k) (K f)):=h
    cases eK : K f with
    | some c =>
      rw [eK] at h
      exact hK f c eK args fz mu n k h
    | none =>
      rw [eK] at h
      cases eF : F f with
      | none=>rw [eF] at h; exact (hz h).elim
      | some hf =>
        rw [eF] at h
        obtain ⟨hb,fn,m,kept,gc,af,hfn,hp,hok,hcomp⟩:=hF f hf eF
        subst hcomp
        unfold prepFunc at hp
        cases hbody : fn.body with
        | none=>rw [hbody] at hp; cases hp
        | some c =>
          rw [hbody] at hp
          simp only at hp
          split at hp
          · rename_i b r hpc hpr
            cases hp
            have h : T (initAt (fn.params.size + fn.nfree) args λt=>comp kept (flat b .norm) none orc (hcall orc K F depth) fz t mu n (ends (resC kept r) fz (gcK gc n k))):=h
            simp only [okFunc,Bool.and_eq_true] at hok
            obtain ⟨ok1,ok2,ok3,ok4,ok5⟩:=hok
            have hl : kept.length ≤ 264:=Nat.le_of_ble_eq_true ok1
            have hkp : ∀ i,i < fn.params.size + fn.nfree → idxOf kept i 0 = some i:=λi hi=>by
              have:=allL_iff.1 ok3 i (by simpa using hi)
              have h2 : Option.rec (motive:=λ_=>Bool) false (λj=>Nat.beq j i) (idxOf kept i 0) = true:=this
              cases hx : idxOf kept i 0 with
              | none=>rw [hx] at h2; cases h2
              | some j=>rw [hx] at h2; rw [Nat.eq_of_beq_eq_true h2]
            obtain ⟨hlen,h8,h1⟩:=initAt_elim hz h
            have henv:=tmOf_envR fn.ntmps (env0 kept (frm args))
            have hKR : KR fn.ntmps kept (ends (resC kept r) fz (gcK gc n k)) (λe tm mu n'=>AExit.rec (motive:=λ_=>RR) (resK zz fz r tm mu λv=>gcK gc n k v mu n') (λ_=>zz) (resK zz fz r tm mu λv=>gcK gc n k v mu n') e):=by
              intro e t tm mu n' he
              have:=resC_eq (fz:=fz) he (allL_iff.1 ok4) (mu:=mu) (k:=λv=>gcK gc n k v mu n')
              cases e with
              | normal=>exact this
              | ret=>exact this
              | exit id=>rfl
            rw [(comp_eq (orc:=orc) (call:=hcall orc K F depth) (fz:=fz) hl ok5).alone _ _ mu n _ _ henv hKR] at h1
            obtain ⟨e,tm',mu',n',h3,h4⟩:=bcode_sound (P:=P) (val:=val) hz ih hk hmx c hpc h1
            have h3':=out_norm h3
            have h5 : T (resK zz fz r tm' mu' λv=>gcK gc n k v mu' n') ∧ (e = .normal ∨ e = .ret):=by
              cases e with
              | normal=>exact ⟨h3',.inl rfl⟩
              | ret=>exact ⟨h3',.inr rfl⟩
              | exit id=>exact (hz h3').elim
            obtain ⟨h6,h7⟩:=h5
            obtain ⟨v,h8',h9⟩:=resK_sound (P:=P) (val:=val) hz hpr h6
            obtain ⟨mu2,h10,hsub⟩ : ∃ mu2,T (k v mu2 n') ∧ ∀ id c,look mu2 id = some c → look mu' id = some c:=by
              cases gc with
              | false=>exact ⟨mu',h8',λ_ _ h=>h⟩
              | true=>exact sweepK_elim (show T (sweepK n v mu' λmu=>k v mu n') from h8')
            refine ⟨v,mu2,n',h10,hb,h4.1,λρ w xs hr hx hf=>?_⟩
            refine calls_of_wp hfn hbody (h4.2 ρ w _ hr (frm_TmR hlen h8 hkp ρ w xs hx) hf _ λa' w' hp=>?_)
            obtain ⟨d,ρ',p1,p2,p3,p4,p5,p6⟩:=hp
            obtain ⟨x,g1,g2⟩:=h9 ρ' w' a' p2 p3
            have : a'.defers = [] ∧ ∃ v_1,(results fn a'.tmps).run P w' = .ok v_1 w' ∧ ∃ x,Ending.returned v_1 = .returned x ∧ Post val ρ fz mu n w v mu2 n' x w' :=
              ⟨d,x,g1,x,rfl,ρ',p1,p2.sub hsub,g2,p4,p5.sub hsub,p6.sub hsub⟩
            rcases h7 with rfl | rfl
            · exact this
            · exact this
          · cases hp
end
def HTree.Ok (P : Program) : HTree → Prop
  | .nil=>True
  | .node k v l r=>HOk P k v ∧ l.Ok P ∧ r.Ok P
theorem HTree.ok {P : Program} : ∀ {t : HTree},t.Ok P → ∀ f h,t.find f = some h → HOk P f h
  | .nil,_,f,h,e=>by cases e
  | .node k v l r,ht,f,h,e=>by
    have e' : Bool.rec (motive:=λ_=>Option HFunc) (Bool.rec (motive:=λ_=>Option HFunc) (r.find f) (l.find f) (Nat.ble f k)) (some v) (Nat.beq f k) = some h:=e
    cases e1 : Nat.beq f k with
    | true =>
      rw [e1] at e'
      have:=Nat.eq_of_beq_eq_true e1
      subst this
      cases e'
      exact ht.1
    | false =>
      rw [e1] at e'
      cases e2 : Nat.ble f k with
      | true=>rw [e2] at e'; exact HTree.ok ht.2.1 f h e'
      | false=>rw [e2] at e'; exact HTree.ok ht.2.2 f h e'
theorem lawH {T : RR → Prop} (hz : ¬ T zz) {P : Program} {val : Nat → Int} {orc : Orc RR} {K : Nat → Option (Contract RR)} {F : HTree} {depth f : Nat} {args : List AV} (hR : ∀ v mu n, T (isR v mu n) → v = .one (.bool true)) (hk : OrcOk T val orc) (hmx : P.follows .mixedOrders = true)
    (hK : ∀ f c,K f = some c → ContractOk T P val f c) (hF : F.Ok P) (h : T (hcall orc K F.find depth f args (λ_=>none) [] 0 isR)) (w : World) (xs : List Value) (hx : All2 (AVR val (λ_=>none) w) args xs) :
    Calls P f xs.toArray w λe w'=>e = .returned (.bool true) ∧ Fr (λ_=>none) [] w w':=by
  obtain ⟨v,mu',n',h1,_,h2,h3⟩:=hcall_sound (T:=T) hz hk hmx hK (HTree.ok hF) depth f args (λ_=>none) [] 0 isR h
  have:=hR _ _ _ h1
  subst this
  refine (h3 (λ_=>none) w xs ⟨λid cs h=>(by cases h),λid cs h=>(by cases h),λid cs h=>(by cases h),λid id' p p' h=>(by cases h)⟩ hx λ_ _ _=>rfl).mono λe w' ⟨x,e1,ρ',p1,p2,p3,p4,p5,p6⟩=>?_
  subst e1
  have hx : x = .bool true:=p3
  subst hx
  exact ⟨rfl,p4⟩
end Go.Ev
set_option maxRecDepth 1000000
set_option linter.unusedVariables false
namespace Go.Proofs.Ytnnjlnkoomeadaa.Ev
open Go.Ev
def bF : AV:=.one (.bool false)
def bT : AV:=.one (.bool true)
def nS : AV:=.one .nsl
def i0 : AV:=.one (.int .i64 (.ofNat 0))
def i1 : AV:=.one (.int .i64 (.ofNat 1))
def i2 : AV:=.one (.int .i64 (.ofNat 2))
def i3 : AV:=.one (.int .i64 (.ofNat 3))
def i4 : AV:=.one (.int .i64 (.ofNat 4))
def i5 : AV:=.one (.int .i64 (.ofNat 5))
def i7 : AV:=.one (.int .i64 (.ofNat 7))
def i8 : AV:=.one (.int .i64 (.ofNat 8))
def i9 : AV:=.one (.int .i64 (.ofNat 9))
def i12 : AV:=.one (.int .i64 (.ofNat 12))
def i16 : AV:=.one (.int .i64 (.ofNat 16))
def i32 : AV:=.one (.int .i64 (.ofNat 32))
def i64 : AV:=.one (.int .i64 (.ofNat 64))
def j0 : AV:=.one (.int .i64 (.negSucc 0))
def j1 : AV:=.one (.int .i64 (.negSucc 1))
def j2 : AV:=.one (.int .i64 (.negSucc 2))
def j3 : AV:=.one (.int .i64 (.negSucc 3))
def z0 : List SV:=[.int .i64 (.ofNat 0),.int .i64 (.ofNat 0),.int .i64 (.ofNat 0),.int .i64 (.ofNat 0),.int .i64 (.ofNat 0),.int .i64 (.ofNat 0),.bool false,.int .i64 (.ofNat 0),.str 0 0,.nsl,.nsl,.nsl,.nsl]
def z1 : List SV:=[.int .i64 (.ofNat 0),.int .i64 (.ofNat 0),.int .i64 (.ofNat 0),.int .i64 (.ofNat 0),.str 0 0,.nsl]
def z2 : List SV:=[.int .i64 (.ofNat 0),.int .i64 (.ofNat 0),.int .i64 (.ofNat 0),.int .i64 (.ofNat 0),.int .i64 (.ofNat 0),.int .i64 (.ofNat 0),.int .i64 (.ofNat 0),.int .i64 (.ofNat 0),.int .i64 (.ofNat 0),.int .i64 (.ofNat 0),.int .i64 (.ofNat 0),.int .i64 (.ofNat 0),.int .i64 (.ofNat 0),.int .i64 (.ofNat 0),.str 0 0,.nsl,.int .i64 (.ofNat 0),.str 0 0,.nsl,.str 0 0]
def z3 : List SV:=[.int .i64 (.ofNat 0),.int .i64 (.ofNat 0),.int .i64 (.ofNat 0),.int .i64 (.ofNat 0),.nsl]
def z4 : List SV:=[.int .i64 (.ofNat 0),.str 0 0,.nsl]
def z5 : List SV:=[.int .i64 (.ofNat 0),.int .i64 (.ofNat 0),.int .i64 (.ofNat 0),.int .i64 (.ofNat 0),.int .i64 (.ofNat 0),.int .i64 (.ofNat 0),.bool false,.int .i64 (.ofNat 0),.str 0 0,.nsl,.nsl,.nsl,.nsl,.nsl,.bool false]
noncomputable def F21 : HFunc:=.mk init2 (λz t m k=>rCell (d2 t) true 13 z m (λv=>toCV zz v λc0=>(λv=>toCV zz v λc1=>k (.tp [c0,c1])) (d3 t)))
  (λo c z t m n k=>qAlloc z0 m n λx4 m n=>sd3 t i0 λt=>sd2 t x4 λt=>fAV (d0 t) λx6=>fAV (d1 t) λx7=>qCallR o c 50 [x6,x7] z m n λx8 m n=>pNot x8 λx9=>tIfN x9 (λo c z t m n k=>qOth o c z m n false (.build z0 []) λx10 m n=>qStore 13 (d2 t) x10 m λm=>sd3 t (.one (.int .i64 (.ofNat 1700))) λt=>cRet o c z t m n k) cNorm (λo c z t m n k=>fAV (d0 t) λx11=>fAV (d1 t) λx12=>fAV (d1 t) λx13=>forceV x13 o λy0=>forceV y0 o λy1=>qOth o c z m n false (.mkslice 1 8 [.int .i64 (.ofNat 0)] (.c y1) (.c y1)) λx14 m n=>qOth o c z m n false (.build z0 [(0,1,(.c x11)),(1,1,(.c x12)),(10,1,(.c x14))]) λx15 m n=>qStore 13 (d2 t) x15 m λm=>sd3 t i0 λt=>cRet o c z t m n k) o c z t m n k) false
noncomputable def F23 : HFunc:=.mk init1 (rTmp d1)
  (λo c z t m n k=>sd1 t i0 λt=>fAV (d0 t) λx3=>sd1 t x3 λt=>cRet o c z t m n k) false
noncomputable def F24 : HFunc:=.mk init1 (rTmp e1_6)
  (λo c z t m n k=>qBox (d0 t) m n λx1 m n=>se1_6 t bF λt=>sd1 t x1 λt=>pFaddr 0 (d1 t) λx8=>pLoad1 x8 z m λx9=>pFaddr 1 (d1 t) λx10=>pLoad1 x10 z m λx11=>qCallR o c 50 [x9,x11] z m n λx12 m n=>pNot x12 λx13=>gd x13 false (λJ=>pFaddr 4 (d1 t) λv=>J v m n) m n λx15 m n=>gd x13 false (λJ=>pLoad1 x15 z m λv=>J v m n) m n λx16 m n=>gd x13 false (λJ=>p_lss x16 i0 o λv=>J v m n) m n λx17 m n=>se0_7 t x17 λt=>se0_6 t x13 λt=>pPick (e0_6 t) bT (e0_7 t) λx18=>gd x18 false (λJ=>pFaddr 4 (d1 t) λv=>J v m n) m n λx20 m n=>gd x18 false (λJ=>pLoad1 x20 z m λv=>J v m n) m n λx21 m n=>gd x18 false (λJ=>p_gtr x21 i2 o λv=>J v m n) m n λx22 m n=>pPick x18 bT x22 λx23=>gd x23 false (λJ=>pFaddr 2 (d1 t) λv=>J v m n) m n λx25 m n=>gd x23 false (λJ=>pLoad1 x25 z m λv=>J v m n) m n λx26 m n=>gd x23 false (λJ=>qCallR o c 52 [x26] z m n λv m n=>J v m n) m n λx27 m n=>se0_8 t x27 λt=>se0_3 t x23 λt=>gd (e0_3 t) false (λJ=>pNot (e0_8 t) λv=>J v m n) m n λx28 m n=>pPick (e0_3 t) bT x28 λx29=>gd x29 false (λJ=>pFaddr 3 (d1 t) λv=>J v m n) m n λx31 m n=>gd x29 false (λJ=>pLoad1 x31 z m λv=>J v m n) m n λx32 m n=>gd x29 false (λJ=>qCallR o c 52 [x32] z m n λv m n=>J v m n) m n λx33 m n=>gd x29 false (λJ=>pNot x33 λv=>J v m n) m n λx34 m n=>pPick x29 bT x34 λx35=>gd x35 false (λJ=>pFaddr 5 (d1 t) λv=>J v m n) m n λx37 m n=>se0_9 t x37 λt=>sd6 t x35 λt=>gd (d6 t) false (λJ=>pLoad1 (e0_9 t) z m λv=>J v m n) m n λx38 m n=>gd (d6 t) false (λJ=>qCallR o c 52 [x38] z m n λv m n=>J v m n) m n λx39 m n=>gd (d6 t) false (λJ=>pNot x39 λv=>J v m n) m n λx40 m n=>pPick (d6 t) bT x40 λx41=>tIfN x41 (λo c z t m n k=>se1_6 t bF λt=>cRet o c z t m n k) cNorm (λo c z t m n k=>(λa=>dP (pFaddr 3 (d1 t)) n λx42 n=>dL (pLoad1 x42) [0] 1 z m a n λx43 a n=>dP (pFaddr 2 (d1 t)) n λx44 n=>dL (pLoad1 x44) [2] 3 z m a n λx45 a n=>dP (p_gtr x43 x45 o) n λx46 n=>dM x46 n λx47 n=>gdD x47 false m a n (λJ=>dP (pFaddr 4 (d1 t)) n λx48 n=>J x48 m a n) λx48 m a n=>gdD x47 false m a n (λJ=>dL (pLoad1 x48) [6,5,4,1,0,3,2] 7 z m a n λx49 a n=>J x49 m a n) λx49 m a n=>gdD x47 false m a n (λJ=>dP (p_eql x49 i0 o) n λx50 n=>J x50 m a n) λx50 m a n=>gdD x47 false m a n (λJ=>dM x50 n λx51 n=>J x51 m a n) λx51 m a n=>gdD x51 true m a n (λJ=>dP (pFaddr 3 (d1 t)) n λx52 n=>J x52 m a n) λx52 m a n=>gdD x51 true m a n (λJ=>dL (pLoad1 x52) [10,9,8,7,6,5,4,1,0,3,2] 11 z m a n λx53 a n=>J x53 m a n) λx53 m a n=>gdD x51 true m a n (λJ=>dP (pFaddr 2 (d1 t)) n λx54 n=>J x54 m a n) λx54 m a n=>gdD x51 true m a n (λJ=>dL (pLoad1 x54) [12,9,8,7,6,5,4,1,0,3,2] 13 z m a n λx55 a n=>J x55 m a n) λx55 m a n=>gdD x51 true m a n (λJ=>dP (p_neq x53 x55 o) n λx56 n=>J x56 m a n) λx56 m a n=>gdD x47 false m a n (λJ=>dP (pPick x51 x56 bF) n λx57 n=>J x57 m a n) λx57 m a n=>dP (pPick x47 bT x57) n λx58 n=>dM x58 n λx59 n=>gdD x59 false m a n (λJ=>dP (pFaddr 7 (d1 t)) n λx60 n=>J x60 m a n) λx60 m a n=>gdD x59 false m a n (λJ=>dL (pLoadA 3 x60) [18,17,16,5,4,1,0,3,2,15,9,8,7,6,14,11,10,13,12] 19 z m a n λx61 a n=>J x61 m a n) λx61 m a n=>gdD x59 false m a n (λJ=>dr1 (λz m n k=>qCallR o c 53 [x61] z m n λv m n=>k v m n) [19,18,17,16,5,4,1,0,3,2,15,9,8,7,6,14,11,10,13,12] 20 z m a n λx62 a n=>J x62 m a n) λx62 m a n=>gdD x59 false m a n (λJ=>dP (pNot x62) n λx63 n=>J x63 m a n) λx63 m a n=>dP (pPick x59 bT x63) n λx64 n=>dM x64 n λx65 n=>gdD x65 false m a n (λJ=>dP (pFaddr 5 (d1 t)) n λx66 n=>J x66 m a n) λx66 m a n=>gdD x65 false m a n (λJ=>dL (pLoad1 x66) [24,23,22,17,16,5,4,1,0,3,2,15,9,8,7,6,14,11,10,13,12,21,20,19,18] 25 z m a n λx67 a n=>J x67 m a n) λx67 m a n=>gdD x65 false m a n (λJ=>dP (pFaddr 7 (d1 t)) n λx68 n=>J x68 m a n) λx68 m a n=>gdD x65 false m a n (λJ=>dP (pFaddr 0 x68) n λx69 n=>J x69 m a n) λx69 m a n=>gdD x65 false m a n (λJ=>dL (pLoad1 x69) [27,26,23,22,17,16,5,4,1,0,3,2,15,9,8,7,6,14,11,10,13,12,21,20,19,18] 28 z m a n λx70 a n=>J x70 m a n) λx70 m a n=>gdD x65 false m a n (λJ=>dP (p_lss x67 x70 o) n λx71 n=>J x71 m a n) λx71 m a n=>dP (pPick x65 bT x71) n λx72 n=>dM x72 n λx73 n=>gdD x73 false m a n (λJ=>dP (pFaddr 5 (d1 t)) n λx74 n=>J x74 m a n) λx74 m a n=>gdD x73 false m a n (λJ=>dL (pLoad1 x74) [32,31,30,23,22,17,16,5,4,1,0,3,2,15,9,8,7,6,14,11,10,13,12,21,20,19,18,29,25,24,28,27,26] 33 z m a n λx75 a n=>J x75 m a n) λx75 m a n=>gdD x73 false m a n (λJ=>dP (pFaddr 7 (d1 t)) n λx76 n=>J x76 m a n) λx76 m a n=>gdD x73 false m a n (λJ=>dL (pLoadA 3 x76) [34,31,30,23,22,17,16,5,4,1,0,3,2,15,9,8,7,6,14,11,10,13,12,21,20,19,18,29,25,24,28,27,26] 35 z m a n λx77 a n=>J x77 m a n) λx77 m a n=>gdD x73 false m a n (λJ=>dr1 (λz m n k=>qCallR o c 48 [x77] z m n λv m n=>k v m n) [35,34,31,30,23,22,17,16,5,4,1,0,3,2,15,9,8,7,6,14,11,10,13,12,21,20,19,18,29,25,24,28,27,26] 36 z m a n λx78 a n=>J x78 m a n) λx78 m a n=>gdD x73 false m a n (λJ=>dP (p_gtr x75 x78 o) n λx79 n=>J x79 m a n) λx79 m a n=>dP (pPick x73 bT x79) n λx80 n=>joinAll a m λm=>tIfN x80 (λo c z t m n k=>se1_6 t bF λt=>cRet o c z t m n k) cNorm (λo c z t m n k=>pFaddr 10 (d1 t) λx81=>pLoad1 x81 z m λx82=>pLen x82 λx83=>pFaddr 1 (d1 t) λx84=>pLoad1 x84 z m λx85=>p_neq x83 x85 o λx86=>gd x86 false (λJ=>pFaddr 10 (d1 t) λv=>J v m n) m n λx88 m n=>gd x86 false (λJ=>pLoad1 x88 z m λv=>J v m n) m n λx89 m n=>gd x86 false (λJ=>qCallR o c 54 [x89,(.one (.fn 55 []))] z m n λv m n=>J v m n) m n λx90 m n=>se0_11 t x90 λt=>se0_10 t x86 λt=>pPick (e0_10 t) bT (e0_11 t) λx91=>tIfN x91 (λo c z t m n k=>se1_6 t bF λt=>cRet o c z t m n k) cNorm (λo c z t m n k=>pFaddr 4 (d1 t) λx92=>pLoad1 x92 z m λx93=>p_neq x93 i1 o λx94=>gd x94 true (λJ=>pFaddr 6 (d1 t) λv=>J v m n) m n λx96 m n=>gd x94 true (λJ=>pLoad1 x96 z m λv=>J v m n) m n λx97 m n=>gd x94 true (λJ=>J x97 m n) m n λx98 m n=>gd x98 false (λJ=>pFaddr 11 (d1 t) λv=>J v m n) m n λx99 m n=>gd x98 false (λJ=>pLoad1 x99 z m λv=>J v m n) m n λx100 m n=>gd x98 false (λJ=>pLen x100 λv=>J v m n) m n λx101 m n=>se0_12 t x101 λt=>sd3 t x98 λt=>se0_4 t x94 λt=>gd (d3 t) false (λJ=>pFaddr 12 (d1 t) λv=>J v m n) m n λx102 m n=>gd (d3 t) false (λJ=>pLoad1 x102 z m λv=>J v m n) m n λx103 m n=>gd (d3 t) false (λJ=>pLen x103 λv=>J v m n) m n λx104 m n=>gd (d3 t) false (λJ=>p_add (e0_12 t) x104 o λv=>J v m n) m n λx105 m n=>gd (d3 t) false (λJ=>p_gtr x105 i0 o λv=>J v m n) m n λx106 m n=>gd (e0_4 t) true (λJ=>pPick (d3 t) bT x106 λv=>J v m n) m n λx107 m n=>pPick (e0_4 t) x107 bF λx108=>tIfN x108 (λo c z t m n k=>se1_6 t bF λt=>cRet o c z t m n k) cNorm (λo c z t m n k=>se0_5 t j0 λt=>pFaddr 11 (d1 t) λx109=>pLoad1 x109 z m λx110=>pLen x110 λx111=>se0_1 t i0 λt=>se0_13 t x111 λt=>se0_14 t x110 λt=>(cBlk 0 (cLoop (λo c z t m n k=>p_lss (e0_1 t) (e0_13 t) o λx113=>tTest x113 0 (cBlk 1 (λo c z t m n k=>forceV (e0_1 t) o λy=>pIaddr 1 (e0_14 t) y λx114=>pLoad1 x114 z m λx115=>sd7 t x115 λt=>fAV (d7 t) λx116=>fAV (e0_5 t) λx117=>p_leq x116 x117 o λx118=>gd x118 false (λJ=>fAV (d7 t) λv=>J v m n) m n λx120 m n=>gd x118 false (λJ=>pFaddr 1 (d1 t) λv=>J v m n) m n λx121 m n=>gd x118 false (λJ=>pLoad1 x121 z m λv=>J v m n) m n λx122 m n=>gd x118 false (λJ=>p_geq x120 x122 o λv=>J v m n) m n λx123 m n=>pPick x118 bT x123 λx124=>sd5 t x124 λt=>gd (d5 t) false (λJ=>fAV (d7 t) λv=>J v m n) m n λx126 m n=>gd (d5 t) false (λJ=>pFaddr 0 (d1 t) λv=>J v m n) m n λx127 m n=>gd (d5 t) false (λJ=>pLoad1 x127 z m λv=>J v m n) m n λx128 m n=>gd (d5 t) false (λJ=>p_eql x126 x128 o λv=>J v m n) m n λx129 m n=>pPick (d5 t) bT x129 λx130=>tIfN x130 (λo c z t m n k=>se1_6 t bF λt=>cRet o c z t m n k) cNorm (λo c z t m n k=>fAV (d7 t) λx131=>se0_5 t x131 λt=>cNorm o c z t m n k) o c z t m n k) (λo c z t m n k=>p_add (e0_1 t) i1 o λx132=>se0_1 t x132 λt=>cNorm o c z t m n k)) o c z t m n k) cNorm) (λo c z t m n k=>se0_5 t j0 λt=>pFaddr 12 (d1 t) λx133=>pLoad1 x133 z m λx134=>pLen x134 λx135=>se0_2 t i0 λt=>se0_15 t x135 λt=>se1_0 t x134 λt=>(cBlk 2 (cLoop (λo c z t m n k=>p_lss (e0_2 t) (e0_15 t) o λx137=>tTest x137 2 (cBlk 3 (λo c z t m n k=>forceV (e0_2 t) o λy=>pIaddr 6 (e1_0 t) y λx138=>pLoadA 6 x138 z m λx139=>qAlloc z1 m n λx7 m n=>qStore 6 x7 x139 m λm=>sd2 t x7 λt=>pFaddr 0 (d2 t) λx140=>pLoad1 x140 z m λx141=>fAV (e0_5 t) λx142=>p_leq x141 x142 o λx143=>gd x143 false (λJ=>pFaddr 0 (d2 t) λv=>J v m n) m n λx145 m n=>gd x143 false (λJ=>pLoad1 x145 z m λv=>J v m n) m n λx146 m n=>gd x143 false (λJ=>pFaddr 1 (d1 t) λv=>J v m n) m n λx147 m n=>gd x143 false (λJ=>pLoad1 x147 z m λv=>J v m n) m n λx148 m n=>gd x143 false (λJ=>p_geq x146 x148 o λv=>J v m n) m n λx149 m n=>se1_2 t x149 λt=>se1_1 t x143 λt=>pPick (e1_1 t) bT (e1_2 t) λx150=>gd x150 false (λJ=>pFaddr 0 (d2 t) λv=>J v m n) m n λx152 m n=>gd x150 false (λJ=>pLoad1 x152 z m λv=>J v m n) m n λx153 m n=>gd x150 false (λJ=>pFaddr 0 (d1 t) λv=>J v m n) m n λx154 m n=>gd x150 false (λJ=>pLoad1 x154 z m λv=>J v m n) m n λx155 m n=>gd x150 false (λJ=>p_eql x153 x155 o λv=>J v m n) m n λx156 m n=>pPick x150 bT x156 λx157=>gd x157 false (λJ=>pFaddr 3 (d2 t) λv=>J v m n) m n λx159 m n=>se1_3 t x159 λt=>se0_0 t x157 λt=>gd (e0_0 t) false (λJ=>pLoadA 3 (e1_3 t) z m λv=>J v m n) m n λx160 m n=>gd (e0_0 t) false (λJ=>qCallR o c 53 [x160] z m n λv m n=>J v m n) m n λx161 m n=>gd (e0_0 t) false (λJ=>pNot x161 λv=>J v m n) m n λx162 m n=>pPick (e0_0 t) bT x162 λx163=>gd x163 false (λJ=>pFaddr 1 (d2 t) λv=>J v m n) m n λx165 m n=>gd x163 false (λJ=>pLoad1 x165 z m λv=>J v m n) m n λx166 m n=>gd x163 false (λJ=>p_lss x166 i0 o λv=>J v m n) m n λx167 m n=>pPick x163 bT x167 λx168=>sd4 t x168 λt=>gd (d4 t) false (λJ=>pFaddr 1 (d2 t) λv=>J v m n) m n λx170 m n=>gd (d4 t) false (λJ=>pLoad1 x170 z m λv=>J v m n) m n λx171 m n=>gd (d4 t) false (λJ=>pFaddr 2 (d1 t) λv=>J v m n) m n λx172 m n=>gd (d4 t) false (λJ=>pLoad1 x172 z m λv=>J v m n) m n λx173 m n=>gd (d4 t) false (λJ=>p_geq x171 x173 o λv=>J v m n) m n λx174 m n=>pPick (d4 t) bT x174 λx175=>gd x175 false (λJ=>pFaddr 2 (d2 t) λv=>J v m n) m n λx177 m n=>gd x175 false (λJ=>pLoad1 x177 z m λv=>J v m n) m n λx178 m n=>gd x175 false (λJ=>p_lss x178 i0 o λv=>J v m n) m n λx179 m n=>se1_5 t x179 λt=>se1_4 t x175 λt=>pPick (e1_4 t) bT (e1_5 t) λx180=>tIfN x180 (λo c z t m n k=>se1_6 t bF λt=>cRet o c z t m n k) cNorm (λo c z t m n k=>pFaddr 0 (d2 t) λx181=>pLoad1 x181 z m λx182=>se0_5 t x182 λt=>cNorm o c z t m n k) o c z t m n k) (λo c z t m n k=>p_add (e0_2 t) i1 o λx183=>se0_2 t x183 λt=>cNorm o c z t m n k)) o c z t m n k) cNorm) (λo c z t m n k=>se1_6 t bT λt=>cRet o c z t m n k)) o c z t m n k)) o c z t m n k) o c z t m n k) o c z t m n k) o c z t m n k) [[],[],[],[],[],[],[],[],[],[],[],[],[],[],[],[],[],[],[],[],[],[],[],[],[],[],[],[],[],[],[],[],[],[],[],[],[],[],[]]) o c z t m n k) false
noncomputable def F26 : HFunc:=.mk init2 (rTmp d2)
  (λo c z t m n k=>sd2 t i0 λt=>fAV (d1 t) λx5=>p_lss x5 i1 o λx6=>gd x6 false (λJ=>fAV (d0 t) λv=>J v m n) m n λx8 m n=>gd x6 false (λJ=>p_lss x8 i0 o λv=>J v m n) m n λx9 m n=>pPick x6 bT x9 λx10=>tIfN x10 (λo c z t m n k=>sd2 t i0 λt=>cRet o c z t m n k) cNorm (λo c z t m n k=>fAV (d0 t) λx11=>fAV (d1 t) λx12=>p_rem x11 x12 o λx13=>sd2 t x13 λt=>cRet o c z t m n k) o c z t m n k) false
noncomputable def F28 : HFunc:=.mk init3 (rTmp e0_3)
  (λo c z t m n k=>se0_3 t i0 λt=>sd3 t nS λt=>fAV (d0 t) λx11=>pLen x11 λx12=>sd4 t i0 λt=>sd6 t x12 λt=>sd7 t x11 λt=>(cBlk 0 (cLoop (λo c z t m n k=>p_lss (d4 t) (d6 t) o λx14=>tTest x14 0 (cBlk 1 (λo c z t m n k=>fAV (d4 t) λx15=>forceV (d4 t) o λy=>pIaddr 1 (d7 t) y λx16=>pLoad1 x16 z m λx17=>se0_1 t x17 λt=>se0_0 t x15 λt=>fAV (e0_0 t) λx18=>fAV (d1 t) λx19=>p_neq x18 x19 o λx20=>tIf x20 (λo c z t m n k=>fAV (d3 t) λx21=>fAV (e0_1 t) λx22=>qOth o c z m n false (.bslice 1 1 [.int .i64 (.ofNat 0)] [(0,1,(.c x22))]) λx23 m n=>qOth o c z m n false (.append 1 8 (.c x21) (.c x23)) λx24 m n=>sd3 t x24 λt=>cNorm o c z t m n k) cNorm o c z t m n k) (λo c z t m n k=>p_add (d4 t) i1 o λx25=>sd4 t x25 λt=>cNorm o c z t m n k)) o c z t m n k) cNorm) (λo c z t m n k=>fAV (d0 t) λx26=>pLen x26 λx27=>p_sub x27 i1 o λx28=>p_quo x28 i2 o λx29=>sd5 t x29 λt=>fAV (d0 t) λx30=>pLen x30 λx31=>p_eql x31 i0 o λx32=>gd x32 false (λJ=>fAV (d5 t) λv=>J v m n) m n λx34 m n=>gd x32 false (λJ=>p_leq x34 i0 o λv=>J v m n) m n λx35 m n=>pPick x32 bT x35 λx36=>tIfN x36 (λo c z t m n k=>fAV (d2 t) λx37=>qOth o c z m n false (.max (.c i0) [(.c x37)]) λx38 m n=>se0_3 t x38 λt=>cRet o c z t m n k) cNorm (λo c z t m n k=>fAV (d3 t) λx39=>pLen x39 λx40=>fAV (d5 t) λx41=>p_lss x40 x41 o λx42=>tIfN x42 (λo c z t m n k=>se0_3 t i0 λt=>cRet o c z t m n k) cNorm (λo c z t m n k=>fAV (d3 t) λx43=>c 59 [x43] z m n λx44 m n=>fAV (d2 t) λx45=>fAV (d3 t) λx46=>fAV (d3 t) λx47=>pLen x47 λx48=>fAV (d5 t) λx49=>p_sub x48 x49 o λx50=>forceV x50 o λy=>pIaddr 1 x46 y λx51=>pLoad1 x51 z m λx52=>qOth o c z m n false (.min (.c x45) [(.c x52)]) λx53 m n=>qOth o c z m n false (.max (.c i0) [(.c x53)]) λx54 m n=>se0_2 t x54 λt=>fAV (e0_2 t) λx6=>se0_3 t x6 λt=>cRet o c z t m n k) o c z t m n k) o c z t m n k)) o c z t m n k) false
noncomputable def F30 : HFunc:=.mk init0 (rTmp e0_5)
  (λo c z t m n k=>se0_5 t bF λt=>qCallR o c 21 [i1,i3] z m n λx8 m n=>pExtr x8 0 λx9=>pExtr x8 1 λx10=>qAlloc z0 m n λx1 m n=>qStore 13 x1 x9 m λm=>sd6 t x10 λt=>sd2 t x1 λt=>pLoadA 13 (d2 t) z m λx12=>qCallR o c 60 [x12] z m n λx13 m n=>pExtr x13 0 λx14=>pExtr x13 1 λx15=>qAlloc z0 m n λx3 m n=>qStore 13 x3 x14 m λm=>sd1 t x15 λt=>sd3 t x3 λt=>qCallR o c 21 [i0,i2] z m n λx17 m n=>pExtr x17 0 λx18=>pExtr x17 1 λx19=>qAlloc z0 m n λx5 m n=>qStore 13 x5 x18 m λm=>se0_1 t x19 λt=>fAV (d6 t) λx20=>qCallR o c 23 [x20] z m n λx21 m n=>p_eql x21 i0 o λx22=>gd x22 true (λJ=>pLoadA 13 (d2 t) z m λv=>J v m n) m n λx24 m n=>gd x22 true (λJ=>qCallR o c 24 [x24] z m n λv m n=>J v m n) m n λx25 m n=>pPick x22 x25 bF λx26=>gd x26 true (λJ=>pFaddr 2 (d3 t) λv=>J v m n) m n λx28 m n=>gd x26 true (λJ=>pLoad1 x28 z m λv=>J v m n) m n λx29 m n=>sd7 t x29 λt=>sd4 t x26 λt=>gd (d4 t) true (λJ=>p_eql (d7 t) i1 o λv=>J v m n) m n λx30 m n=>pPick (d4 t) x30 bF λx31=>gd x31 true (λJ=>pFaddr 4 (d3 t) λv=>J v m n) m n λx33 m n=>gd x31 true (λJ=>pLoad1 x33 z m λv=>J v m n) m n λx34 m n=>gd x31 true (λJ=>p_eql x34 i1 o λv=>J v m n) m n λx35 m n=>pPick x31 x35 bF λx36=>gd x36 true (λJ=>fAV (d1 t) λv=>J v m n) m n λx38 m n=>gd x36 true (λJ=>pLen x38 λv=>J v m n) m n λx39 m n=>se0_0 t x39 λt=>sd5 t x36 λt=>gd (d5 t) true (λJ=>p_eql (e0_0 t) i2 o λv=>J v m n) m n λx40 m n=>pPick (d5 t) x40 bF λx41=>gd x41 true (λJ=>fAV (d1 t) λv=>J v m n) m n λx43 m n=>gd x41 true (λJ=>pIaddr 20 x43 i0 λv=>J v m n) m n λx44 m n=>gd x41 true (λJ=>pFaddr 0 x44 λv=>J v m n) m n λx45 m n=>gd x41 true (λJ=>pLoad1 x45 z m λv=>J v m n) m n λx46 m n=>gd x41 true (λJ=>p_eql x46 i7 o λv=>J v m n) m n λx47 m n=>pPick x41 x47 bF λx48=>sd0 t x48 λt=>gd (d0 t) true (λJ=>fAV (d1 t) λv=>J v m n) m n λx50 m n=>gd (d0 t) true (λJ=>pIaddr 20 x50 i0 λv=>J v m n) m n λx51 m n=>gd (d0 t) true (λJ=>pFaddr 2 x51 λv=>J v m n) m n λx52 m n=>gd (d0 t) true (λJ=>pLoad1 x52 z m λv=>J v m n) m n λx53 m n=>gd (d0 t) true (λJ=>p_eql x53 i0 o λv=>J v m n) m n λx54 m n=>pPick (d0 t) x54 bF λx55=>gd x55 true (λJ=>fAV (e0_1 t) λv=>J v m n) m n λx57 m n=>gd x55 true (λJ=>qCallR o c 23 [x57] z m n λv m n=>J v m n) m n λx58 m n=>gd x55 true (λJ=>p_eql x58 (.one (.int .i64 (.ofNat 1700))) o λv=>J v m n) m n λx59 m n=>se0_3 t x59 λt=>se0_2 t x55 λt=>pPick (e0_2 t) (e0_3 t) bF λx60=>gd x60 true (λJ=>qCallR o c 26 [i4,i3] z m n λv m n=>J v m n) m n λx62 m n=>gd x60 true (λJ=>p_eql x62 i1 o λv=>J v m n) m n λx63 m n=>pPick x60 x63 bF λx64=>gd x64 true (λJ=>qOth o c z m n false (.bslice 1 3 [.int .i64 (.ofNat 0)] [(0,1,(.c i0)),(1,1,(.c i5)),(2,1,(.c i3))]) λv m n=>J v m n) m n λx66 m n=>gd x64 true (λJ=>qCallR o c 28 [x66,i0,i9] z m n λv m n=>J v m n) m n λx67 m n=>gd x64 true (λJ=>p_eql x67 i5 o λv=>J v m n) m n λx68 m n=>pPick x64 x68 bF λx69=>se0_4 t x69 λt=>fAV (e0_4 t) λx0=>se0_5 t x0 λt=>cRet o c z t m n k) false
noncomputable def F48 : HFunc:=.mk init1 (rTmp d2)
  (λo c z t m n k=>qBox (d0 t) m n λx1 m n=>sd2 t i0 λt=>sd1 t x1 λt=>pFaddr 0 (d1 t) λx3=>pLoad1 x3 z m λx4=>pFaddr 2 (d1 t) λx5=>pLoad1 x5 z m λx6=>pLen x6 λx7=>p_add x4 x7 o λx8=>sd2 t x8 λt=>cRet o c z t m n k) false
noncomputable def F49 : HFunc:=.mk init1 (λz t m k=>rCell (d2 t) true 20 z m (k))
  (λo c z t m n k=>qBox (d0 t) m n λx1 m n=>qAlloc z2 m n λx2 m n=>sd2 t x2 λt=>sd1 t x1 λt=>pFaddr 15 (d1 t) λx3=>pLoad1 x3 z m λx4=>qOth o c z m n false (.append 3 32 (.c nS) (.c x4)) λx5 m n=>pFaddr 15 (d1 t) λx6=>qStore1 x6 x5 m λm=>pFaddr 16 (d1 t) λx7=>pLoadA 3 x7 z m λx8=>qCallR o c 86 [x8] z m n λx9 m n=>pFaddr 16 (d1 t) λx10=>qStore 3 x10 x9 m λm=>pLoadA 20 (d1 t) z m λx11=>qStore 20 (d2 t) x11 m λm=>cRet o c z t m n k) false
noncomputable def F50 : HFunc:=.mk init2 (rTmp d5)
  (λo c z t m n k=>sd5 t bF λt=>fAV (d1 t) λx5=>p_geq x5 i1 o λx6=>gd x6 true (λJ=>fAV (d1 t) λv=>J v m n) m n λx8 m n=>gd x6 true (λJ=>p_leq x8 i7 o λv=>J v m n) m n λx9 m n=>pPick x6 x9 bF λx10=>gd x10 true (λJ=>fAV (d1 t) λv=>J v m n) m n λx12 m n=>gd x10 true (λJ=>p_rem x12 i2 o λv=>J v m n) m n λx13 m n=>gd x10 true (λJ=>p_eql x13 i1 o λv=>J v m n) m n λx14 m n=>sd3 t x14 λt=>sd2 t x10 λt=>pPick (d2 t) (d3 t) bF λx15=>gd x15 true (λJ=>fAV (d0 t) λv=>J v m n) m n λx17 m n=>gd x15 true (λJ=>p_geq x17 i0 o λv=>J v m n) m n λx18 m n=>pPick x15 x18 bF λx19=>gd x19 true (λJ=>fAV (d0 t) λv=>J v m n) m n λx21 m n=>gd x19 true (λJ=>fAV (d1 t) λv=>J v m n) m n λx22 m n=>gd x19 true (λJ=>p_lss x21 x22 o λv=>J v m n) m n λx23 m n=>pPick x19 x23 bF λx24=>sd4 t x24 λt=>fAV (d4 t) λx4=>sd5 t x4 λt=>cRet o c z t m n k) false
noncomputable def F52 : HFunc:=.mk init1 (rTmp d1)
  (λo c z t m n k=>sd1 t bF λt=>fAV (d0 t) λx3=>p_geq x3 i0 o λx4=>gd x4 true (λJ=>fAV (d0 t) λv=>J v m n) m n λx6 m n=>gd x4 true (λJ=>p_leq x6 (.one (.int .i64 (.ofNat 2147483647))) o λv=>J v m n) m n λx7 m n=>pPick x4 x7 bF λx8=>sd1 t x8 λt=>cRet o c z t m n k) false
noncomputable def F53 : HFunc:=.mk init1 (rTmp e0_3)
  (λo c z t m n k=>qBox (d0 t) m n λx1 m n=>se0_3 t bF λt=>sd1 t x1 λt=>pFaddr 0 (d1 t) λx5=>pLoad1 x5 z m λx6=>p_lss x6 i0 o λx7=>gd x7 false (λJ=>pFaddr 0 (d1 t) λv=>J v m n) m n λx9 m n=>gd x7 false (λJ=>pLoad1 x9 z m λv=>J v m n) m n λx10 m n=>gd x7 false (λJ=>p_gtr x10 (.one (.int .i64 (.ofNat 2147483647))) o λv=>J v m n) m n λx11 m n=>pPick x7 bT x11 λx12=>gd x12 false (λJ=>pFaddr 1 (d1 t) λv=>J v m n) m n λx14 m n=>sd6 t x14 λt=>sd2 t x12 λt=>gd (d2 t) false (λJ=>pLoad1 (d6 t) z m λv=>J v m n) m n λx15 m n=>gd (d2 t) false (λJ=>pLenS x15 λv=>J v m n) m n λx16 m n=>gd (d2 t) false (λJ=>p_gtr x16 (.one (.int .i64 (.ofNat 65536))) o λv=>J v m n) m n λx17 m n=>pPick (d2 t) bT x17 λx18=>gd x18 false (λJ=>pFaddr 0 (d1 t) λv=>J v m n) m n λx20 m n=>gd x18 false (λJ=>pLoad1 x20 z m λv=>J v m n) m n λx21 m n=>gd x18 false (λJ=>p_eql x21 i0 o λv=>J v m n) m n λx22 m n=>gd x18 false (λJ=>J x22 m n) m n λx23 m n=>gd x23 true (λJ=>pFaddr 1 (d1 t) λv=>J v m n) m n λx24 m n=>sd7 t x24 λt=>sd3 t x23 λt=>sd5 t x18 λt=>gd (d3 t) true (λJ=>pLoad1 (d7 t) z m λv=>J v m n) m n λx25 m n=>gd (d3 t) true (λJ=>qOth o c z m n false (.sbin .neq (.c x25) (.c (.one (.str 0 0)))) λv m n=>J v m n) m n λx26 m n=>gd (d5 t) false (λJ=>pPick (d3 t) x26 bF λv=>J v m n) m n λx27 m n=>pPick (d5 t) bT x27 λx28=>gd x28 false (λJ=>pFaddr 2 (d1 t) λv=>J v m n) m n λx30 m n=>gd x28 false (λJ=>pLoad1 x30 z m λv=>J v m n) m n λx31 m n=>gd x28 false (λJ=>pLen x31 λv=>J v m n) m n λx32 m n=>gd x28 false (λJ=>p_gtr x32 (.one (.int .i64 (.ofNat 4096))) o λv=>J v m n) m n λx33 m n=>pPick x28 bT x33 λx34=>tIfN x34 (λo c z t m n k=>se0_3 t bF λt=>cRet o c z t m n k) cNorm (λo c z t m n k=>pFaddr 2 (d1 t) λx35=>pLoad1 x35 z m λx36=>pLen x36 λx37=>sd4 t i0 λt=>se0_0 t x37 λt=>se0_1 t x36 λt=>(cBlk 0 (cLoop (λo c z t m n k=>p_lss (d4 t) (e0_0 t) o λx39=>tTest x39 0 (cBlk 1 (λo c z t m n k=>forceV (d4 t) o λy=>pIaddr 5 (e0_1 t) y λx40=>pLoadA 5 x40 z m λx41=>qAlloc z3 m n λx4 m n=>qStore 5 x4 x41 m λm=>se0_2 t x4 λt=>pLoadA 5 (e0_2 t) z m λx42=>qCallR o c 88 [x42] z m n λx43 m n=>pNot x43 λx44=>tIf x44 (λo c z t m n k=>se0_3 t bF λt=>cRet o c z t m n k) cNorm o c z t m n k) (λo c z t m n k=>p_add (d4 t) i1 o λx45=>sd4 t x45 λt=>cNorm o c z t m n k)) o c z t m n k) cNorm) (λo c z t m n k=>se0_3 t bT λt=>cRet o c z t m n k)) o c z t m n k) o c z t m n k) false
noncomputable def F54 : HFunc:=.mk init2 (rTmp d2)
  (λo c z t m n k=>sd2 t bF λt=>fAV (d0 t) λx5=>fAV (d1 t) λx6=>qCallR o c 89 [x5,x6] z m n λx7 m n=>p_geq x7 i0 o λx8=>sd2 t x8 λt=>cRet o c z t m n k) false
noncomputable def F55 : HFunc:=.mk init1 (rTmp d1)
  (λo c z t m n k=>sd1 t bF λt=>fAV (d0 t) λx3=>qCallR o c 52 [x3] z m n λx4 m n=>pNot x4 λx5=>sd1 t x5 λt=>cRet o c z t m n k) false
noncomputable def F59 : HFunc:=.mk init1 (λ_ _ _ k=>k (.tp []))
  (λo c z t m n k=>fAV (d0 t) λx3=>pLen x3 λx4=>sd1 t x4 λt=>fAV (d0 t) λx5=>fAV (d1 t) λx6=>fAV (d1 t) λx7=>qOth o c z m n false (.conv .u64 (.c x7)) λx8 m n=>qCallR o c 92 [x8] z m n λx9 m n=>c 91 [x5,i0,x6,x9] z m n λx10 m n=>cNorm o c z t m n k) false
noncomputable def F60 : HFunc:=.mk init1 (λz t m k=>rCell (d3 t) true 13 z m (λv=>toCV zz v λc0=>(λv=>toCV zz v λc1=>k (.tp [c0,c1])) (d6 t)))
  (λo c z t m n k=>qBox (d0 t) m n λx1 m n=>qAlloc z0 m n λx2 m n=>sd6 t nS λt=>sd3 t x2 λt=>sd2 t x1 λt=>pLoadA 13 (d2 t) z m λx5=>qCallR o c 62 [x5] z m n λx6 m n=>sd1 t x6 λt=>pLoadA 13 (d2 t) z m λx7=>qCallR o c 24 [x7] z m n λx8 m n=>pNot x8 λx9=>gd x9 false (λJ=>fAV (d1 t) λv=>J v m n) m n λx11 m n=>gd x9 false (λJ=>qCallR o c 68 [x11] z m n λv m n=>J v m n) m n λx12 m n=>pPick x9 bT x12 λx13=>gd x13 false (λJ=>pFaddr 2 (d2 t) λv=>J v m n) m n λx15 m n=>gd x13 false (λJ=>pLoad1 x15 z m λv=>J v m n) m n λx16 m n=>sd5 t x16 λt=>sd4 t x13 λt=>gd (d4 t) false (λJ=>p_geq (d5 t) (.one (.int .i64 (.ofNat 2147483647))) o λv=>J v m n) m n λx17 m n=>pPick (d4 t) bT x17 λx18=>tIfN x18 (λo c z t m n k=>fAV (d1 t) λx19=>pNilc x19 λx20=>pFaddr 0 x20 λx21=>pLoadA 13 x21 z m λx22=>qStore 13 (d3 t) x22 m λm=>sd6 t nS λt=>cRet o c z t m n k) cNorm (λo c z t m n k=>fAV (d1 t) λx23=>fAV (d1 t) λx24=>pNilc x24 λx25=>pFaddr 0 x25 λx26=>pFaddr 2 x26 λx27=>pLoad1 x27 z m λx28=>p_add x28 i1 o λx29=>c 93 [x23,x29] z m n λx30 m n=>fAV (d1 t) λx31=>pNilc x31 λx32=>pFaddr 0 x32 λx33=>pFaddr 1 x33 λx34=>pLoad1 x34 z m λx35=>p_eql x35 i1 o λx36=>tIfN x36 (λo c z t m n k=>fAV (d1 t) λx37=>c 94 [x37] z m n λx38 m n=>cNorm o c z t m n k) cNorm (λo c z t m n k=>fAV (d1 t) λx39=>pLoadA 13 (d2 t) z m λx40=>qCallR o c 70 [x39,x40] z m n λx41 m n=>pExtr x41 0 λx42=>pExtr x41 1 λx43=>qStore 13 (d3 t) x42 m λm=>sd6 t x43 λt=>cRet o c z t m n k) o c z t m n k) o c z t m n k) false
noncomputable def F61 : HFunc:=.mk init1 (λz t m k=>rCell (d4 t) true 13 z m (k))
  (λo c z t m n k=>qBox (d0 t) m n λx1 m n=>qAlloc z0 m n λx2 m n=>sd4 t x2 λt=>sd1 t x1 λt=>pFaddr 7 (d1 t) λx4=>pLoadA 3 x4 z m λx5=>qCallR o c 86 [x5] z m n λx6 m n=>pFaddr 7 (d1 t) λx7=>qStore 3 x7 x6 m λm=>(λa=>dP (pFaddr 10 (d1 t)) n λx8 n=>dL (pLoad1 x8) [0] 1 z m a n λx9 a n=>dr1 (λz m n k=>qCallR o c 72 [x9] z m n λv m n=>k v m n) [1,0] 2 z m a n λx10 a n=>dP (pFaddr 11 (d1 t)) n λx11 n=>dL (pLoad1 x11) [3] 4 z m a n λx12 a n=>dr1 (λz m n k=>qCallR o c 72 [x12] z m n λv m n=>k v m n) [4,3,2,1,0] 5 z m a n λx13 a n=>dP (pFaddr 12 (d1 t)) n λx14 n=>dL (pLoad1 x14) [6] 7 z m a n λx15 a n=>dr1 (λz m n k=>qCallR o c 95 [x15] z m n λv m n=>k v m n) [7,6,5,4,3,2,1,0] 8 z m a n λx16 a n=>dP (pFaddr 10 (d1 t)) n λx17 n=>dr2 (λz m n k=>qStore1 x17 x10 m λm=>k noVal m n) [9,0,1,2,3,4,6,7,8,5] z m a n λ_ m a n=>dP (pFaddr 11 (d1 t)) n λx18 n=>dr2 (λz m n k=>qStore1 x18 x13 m λm=>k noVal m n) [11,0,1,2,3,4,5,6,7,9,10,8] z m a n λ_ m a n=>dP (pFaddr 12 (d1 t)) n λx19 n=>dr2 (λz m n k=>qStore1 x19 x16 m λm=>k noVal m n) [13,0,1,2,3,4,5,6,7,8,9,10,11,12] z m a n λ_ m a n=>joinAll a m λm=>pFaddr 12 (d1 t) λx20=>pLoad1 x20 z m λx21=>pLen x21 λx22=>sd2 t i0 λt=>sd5 t x22 λt=>(cBlk 0 (cLoop (λo c z t m n k=>p_lss (d2 t) (d5 t) o λx24=>tTest x24 0 (cBlk 1 (λo c z t m n k=>fAV (d2 t) λx25=>sd3 t x25 λt=>(λa=>dP (pFaddr 12 (d1 t)) n λx26 n=>dL (pLoad1 x26) [0] 1 z m a n λx27 a n=>dP (fAV (d3 t)) n λx28 n=>dP (pFaddr 12 (d1 t)) n λx29 n=>dL (pLoad1 x29) [3] 4 z m a n λx30 a n=>dP (fAV (d3 t)) n λx31 n=>dr0 (λz m n k=>forceV x31 o λy=>pIaddr 6 x30 y λv=>k v m n) n λx32 n=>dP (pFaddr 3 x32) n λx33 n=>dL (pLoadA 3 x33) [7,6,4,3,5] 8 z m a n λx34 a n=>dr1 (λz m n k=>qCallR o c 86 [x34] z m n λv m n=>k v m n) [8,7,6,4,3,5] 9 z m a n λx35 a n=>dr0 (λz m n k=>forceV x28 o λy=>pIaddr 6 x27 y λv=>k v m n) n λx36 n=>dP (pFaddr 3 x36) n λx37 n=>dr2 (λz m n k=>qStore 3 x37 x35 m λm=>k noVal m n) [11,10,1,0,2,3,4,5,6,7,8,9] z m a n λ_ m a n=>joinAll a m λm=>cNorm o c z t m n k) [[],[],[],[],[],[],[],[],[],[],[],[],[]]) (λo c z t m n k=>p_add (d2 t) i1 o λx38=>sd2 t x38 λt=>cNorm o c z t m n k)) o c z t m n k) cNorm) (λo c z t m n k=>pLoadA 13 (d1 t) z m λx39=>qStore 13 (d4 t) x39 m λm=>cRet o c z t m n k)) o c z t m n k) [[],[],[],[],[],[],[],[],[],[],[],[],[],[],[]]) false
noncomputable def F62 : HFunc:=.mk init1 (rTmp d2)
  (λo c z t m n k=>qBox (d0 t) m n λx1 m n=>sd2 t (.one (.npt)) λt=>sd1 t x1 λt=>pLoadA 13 (d1 t) z m λx3=>qCallR o c 61 [x3] z m n λx4 m n=>qOth o c z m n false (.build z5 [(0,13,(.c x4))]) λx5 m n=>qBox x5 m n λx6 m n=>sd2 t x6 λt=>cRet o c z t m n k) false
noncomputable def F68 : HFunc:=.mk init1 (rTmp d2)
  (λo c z t m n k=>sd2 t bF λt=>fAV (d0 t) λx3=>qCallR o c 103 [x3] z m n λx4 m n=>gd x4 true (λJ=>fAV (d0 t) λv=>J v m n) m n λx6 m n=>gd x4 true (λJ=>pNilc x6 λv=>J v m n) m n λx7 m n=>gd x4 true (λJ=>pFaddr 0 x7 λv=>J v m n) m n λx8 m n=>gd x4 true (λJ=>pFaddr 4 x8 λv=>J v m n) m n λx9 m n=>gd x4 true (λJ=>pLoad1 x9 z m λv=>J v m n) m n λx10 m n=>gd x4 true (λJ=>p_eql x10 i0 o λv=>J v m n) m n λx11 m n=>pPick x4 x11 bF λx12=>sd1 t x12 λt=>fAV (d1 t) λx2=>sd2 t x2 λt=>cRet o c z t m n k) false
noncomputable def F69 : HFunc:=.mk init3 (λ_ _ _ k=>k (.tp []))
  (λo c z t m n k=>qBox (d2 t) m n λx5 m n=>sd3 t x5 λt=>fAV (d0 t) λx6=>pNilc x6 λx7=>pFaddr 0 x7 λx8=>pFaddr 0 x8 λx9=>pLoad1 x9 z m λx10=>fAV (d1 t) λx11=>pFaddr 1 (d3 t) λx12=>qStore1 x12 x10 m λm=>pFaddr 2 (d3 t) λx13=>qStore1 x13 x11 m λm=>(λa=>dP (fAV (d0 t)) n λx14 n=>dP (fAV (d0 t)) n λx15 n=>dP (pNilc x15) n λx16 n=>dP (pFaddr 13 x16) n λx17 n=>dL (pLoad1 x17) [3,2,1] 4 z m a n λx18 a n=>dL (pLoadA 20 (d3 t)) [] 5 z m a n λx19 a n=>dr1 (λz m n k=>qCallR o c 49 [x19] z m n λv m n=>k v m n) [5] 6 z m a n λx20 a n=>dr3 (λz m n k=>qOth o c z m n false (.bslice 20 1 [.int .i64 (.ofNat 0),.int .i64 (.ofNat 0),.int .i64 (.ofNat 0),.int .i64 (.ofNat 0),.int .i64 (.ofNat 0),.int .i64 (.ofNat 0),.int .i64 (.ofNat 0),.int .i64 (.ofNat 0),.int .i64 (.ofNat 0),.int .i64 (.ofNat 0),.int .i64 (.ofNat 0),.int .i64 (.ofNat 0),.int .i64 (.ofNat 0),.int .i64 (.ofNat 0),.str 0 0,.nsl,.int .i64 (.ofNat 0),.str 0 0,.nsl,.str 0 0] [(0,20,(.c x20))]) λv m n=>k v m n) 7 a n λx21 a n=>dr2 (λz m n k=>qOth o c z m n false (.append 20 216 (.c x18) (.c x21)) λv m n=>k v m n) [4,3,2,1,7,6,5] z m a n λx22 m a n=>dP (pNilc x14) n λx23 n=>dP (pFaddr 13 x23) n λx24 n=>dr2 (λz m n k=>qStore1 x24 x22 m λm=>k noVal m n) [10,9,0,1,2,3,4,5,6,7,8] z m a n λ_ m a n=>joinAll a m λm=>cNorm o c z t m n k) [[],[],[],[],[],[],[],[],[],[],[],[]]) false
noncomputable def F70 : HFunc:=.mk init2 (λz t m k=>rCell (d2 t) true 13 z m (λv=>toCV zz v λc0=>(λv=>toCV zz v λc1=>k (.tp [c0,c1])) (d4 t)))
  (λo c z t m n k=>qBox (d1 t) m n λx3 m n=>qAlloc z0 m n λx4 m n=>sd4 t nS λt=>sd2 t x4 λt=>sd3 t x3 λt=>fAV (d0 t) λx6=>pNilc x6 λx7=>pFaddr 14 x7 λx8=>pLoad1 x8 z m λx9=>tIfN x9 (λo c z t m n k=>pLoadA 13 (d3 t) z m λx10=>qCallR o c 61 [x10] z m n λx11 m n=>qStore 13 (d2 t) x11 m λm=>sd4 t nS λt=>cRet o c z t m n k) cNorm (λo c z t m n k=>(λa=>apS (d2 t) 8 m a λm a=>dP (fAV (d0 t)) n λx12 n=>dP (pNilc x12) n λx13 n=>dP (pFaddr 0 x13) n λx14 n=>dL (pLoadA 13 x14) [2,1,0] 3 z m a n λx15 a n=>dP (fAV (d0 t)) n λx16 n=>dP (pNilc x16) n λx17 n=>dP (pFaddr 13 x17) n λx18 n=>dL (pLoad1 x18) [6,5,4] 7 z m a n λx19 a n=>dr4 (λz m n k=>qStore 13 (d2 t) x15 m λm=>k noVal m n) [3,2,1,0] 8 a n λ_ a n=>dM x19 n λx5 n=>joinAll a m λm=>sd4 t x5 λt=>cRet o c z t m n k) [[],[],[],[],[],[],[],[],[],[]]) o c z t m n k) false
noncomputable def F72 : HFunc:=.mk init1 (rTmp d1)
  (λo c z t m n k=>sd1 t nS λt=>fAV (d0 t) λx3=>qOth o c z m n false (.eqn true false (.c x3) (.c nS)) λx4 m n=>tIfN x4 (λo c z t m n k=>sd1 t nS λt=>cRet o c z t m n k) cNorm (λo c z t m n k=>qOth o c z m n false (.bslice 1 0 [.int .i64 (.ofNat 0)] []) λx5 m n=>fAV (d0 t) λx6=>qOth o c z m n false (.append 1 8 (.c x5) (.c x6)) λx7 m n=>sd1 t x7 λt=>cRet o c z t m n k) o c z t m n k) false
noncomputable def F79 : HFunc:=.mk init2 (rTmp d5)
  (λo c z t m n k=>sd5 t bF λt=>fAV (d0 t) λx5=>qCallR o c 116 [x5] z m n λx6 m n=>gd x6 true (λJ=>fAV (d1 t) λv=>J v m n) m n λx8 m n=>gd x6 true (λJ=>qCallR o c 116 [x8] z m n λv m n=>J v m n) m n λx9 m n=>gd x6 true (λJ=>pNot x9 λv=>J v m n) m n λx10 m n=>pPick x6 x10 bF λx11=>gd x11 false (λJ=>fAV (d0 t) λv=>J v m n) m n λx13 m n=>gd x11 false (λJ=>fAV (d1 t) λv=>J v m n) m n λx14 m n=>sd4 t x14 λt=>sd3 t x13 λt=>sd2 t x11 λt=>gd (d2 t) false (λJ=>p_lss (d3 t) (d4 t) o λv=>J v m n) m n λx15 m n=>pPick (d2 t) bT x15 λx16=>sd5 t x16 λt=>cRet o c z t m n k) false
noncomputable def F86 : HFunc:=.mk init1 (λz t m k=>rCell (d4 t) true 3 z m (k))
  (λo c z t m n k=>qBox (d0 t) m n λx1 m n=>qAlloc z4 m n λx2 m n=>sd4 t x2 λt=>sd1 t x1 λt=>pFaddr 0 (d1 t) λx6=>pLoad1 x6 z m λx7=>pFaddr 1 (d1 t) λx8=>pLoad1 x8 z m λx9=>qOth o c z m n false (.build z4 [(0,1,(.c x7)),(1,1,(.c x9))]) λx10 m n=>qAlloc z4 m n λx3 m n=>qStore 3 x3 x10 m λm=>sd3 t x3 λt=>pFaddr 2 (d1 t) λx11=>pLoad1 x11 z m λx12=>pLen x12 λx13=>sd2 t i0 λt=>sd5 t x13 λt=>sd6 t x12 λt=>(cBlk 0 (cLoop (λo c z t m n k=>p_lss (d2 t) (d5 t) o λx15=>tTest x15 0 (cBlk 1 (λo c z t m n k=>forceV (d2 t) o λy=>pIaddr 5 (d6 t) y λx16=>pLoadA 5 x16 z m λx17=>qAlloc z3 m n λx5 m n=>qStore 5 x5 x17 m λm=>sd7 t x5 λt=>(λa=>dP (pFaddr 2 (d3 t)) n λx18 n=>dL (pLoad1 x18) [0] 1 z m a n λx19 a n=>dL (pLoadA 5 (d7 t)) [] 2 z m a n λx20 a n=>dr1 (λz m n k=>qCallR o c 99 [x20] z m n λv m n=>k v m n) [2] 3 z m a n λx21 a n=>dr3 (λz m n k=>qOth o c z m n false (.bslice 5 1 [.int .i64 (.ofNat 0),.int .i64 (.ofNat 0),.int .i64 (.ofNat 0),.int .i64 (.ofNat 0),.nsl] [(0,5,(.c x21))]) λv m n=>k v m n) 4 a n λx22 a n=>dr2 (λz m n k=>qOth o c z m n false (.append 5 56 (.c x19) (.c x22)) λv m n=>k v m n) [1,0,4,3,2] z m a n λx23 m a n=>dP (pFaddr 2 (d3 t)) n λx24 n=>dr2 (λz m n k=>qStore1 x24 x23 m λm=>k noVal m n) [6,0,1,2,3,4,5] z m a n λ_ m a n=>joinAll a m λm=>cNorm o c z t m n k) [[],[],[],[],[],[],[],[]]) (λo c z t m n k=>p_add (d2 t) i1 o λx25=>sd2 t x25 λt=>cNorm o c z t m n k)) o c z t m n k) cNorm) (λo c z t m n k=>pLoadA 3 (d3 t) z m λx26=>qStore 3 (d4 t) x26 m λm=>cRet o c z t m n k)) o c z t m n k) false
noncomputable def F89 : HFunc:=.mk init2 (rTmp d5)
  (λo c z t m n k=>sd5 t i0 λt=>fAV (d0 t) λx6=>pLen x6 λx7=>sd2 t i0 λt=>sd4 t x7 λt=>(cBlk 0 (cLoop (λo c z t m n k=>p_lss (d2 t) (d4 t) o λx9=>tTest x9 0 (cBlk 1 (λo c z t m n k=>fAV (d2 t) λx10=>sd3 t x10 λt=>fAV (d1 t) λx11=>fAV (d0 t) λx12=>fAV (d3 t) λx13=>forceV x13 o λy=>pIaddr 1 x12 y λx14=>pLoad1 x14 z m λx15=>qOth o c z m n true (.call (.c x11) [(.c x15)]) λx16 m n=>tIf x16 (λo c z t m n k=>fAV (d3 t) λx17=>sd5 t x17 λt=>cRet o c z t m n k) cNorm o c z t m n k) (λo c z t m n k=>p_add (d2 t) i1 o λx18=>sd2 t x18 λt=>cNorm o c z t m n k)) o c z t m n k) cNorm) (λo c z t m n k=>sd5 t j0 λt=>cRet o c z t m n k)) o c z t m n k) false
noncomputable def F91 : HFunc:=.mk init4 (λ_ _ _ k=>k (.tp []))
  (λo c z t m n k=>sd7 t bT λt=>se0_4 t bT λt=>(cBlk 0 (cLoop (cBlk 1 (λo c z t m n k=>fAV (d2 t) λx19=>fAV (d1 t) λx20=>p_sub x19 x20 o λx21=>sd6 t x21 λt=>fAV (d6 t) λx22=>p_leq x22 i12 o λx23=>tIfN x23 (λo c z t m n k=>fAV (d0 t) λx24=>fAV (d1 t) λx25=>fAV (d2 t) λx26=>c 127 [x24,x25,x26] z m n λx27 m n=>cRet o c z t m n k) cNorm (λo c z t m n k=>fAV (d3 t) λx28=>p_eql x28 i0 o λx29=>tIfN x29 (λo c z t m n k=>fAV (d0 t) λx30=>fAV (d1 t) λx31=>fAV (d2 t) λx32=>c 128 [x30,x31,x32] z m n λx33 m n=>cRet o c z t m n k) cNorm (λo c z t m n k=>fAV (d7 t) λx34=>pNot x34 λx35=>tIfN x35 (λo c z t m n k=>fAV (d0 t) λx36=>fAV (d1 t) λx37=>fAV (d2 t) λx38=>c 129 [x36,x37,x38] z m n λx39 m n=>fAV (d3 t) λx40=>p_sub x40 i1 o λx41=>sd3 t x41 λt=>cNorm o c z t m n k) cNorm (λo c z t m n k=>fAV (d0 t) λx43=>fAV (d1 t) λx44=>fAV (d2 t) λx45=>c 130 [x43,x44,x45] z m n λx46 m n=>pExtr x46 0 λx47=>pExtr x46 1 λx48=>se0_0 t x48 λt=>sd5 t x47 λt=>fAV (e0_0 t) λx49=>p_eql x49 i2 o λx50=>tIfN x50 (λo c z t m n k=>fAV (d0 t) λx51=>fAV (d1 t) λx52=>fAV (d2 t) λx53=>c 131 [x51,x52,x53] z m n λx54 m n=>fAV (d2 t) λx55=>p_sub x55 i1 o λx56=>fAV (d5 t) λx57=>fAV (d1 t) λx58=>p_sub x57 x58 o λx59=>p_sub x56 x59 o λx60=>sd5 t x60 λt=>se0_0 t i1 λt=>cNorm o c z t m n k) cNorm (λo c z t m n k=>fAV (d7 t) λx61=>gd x61 true (λJ=>fAV (e0_4 t) λv=>J v m n) m n λx63 m n=>pPick x61 x63 bF λx64=>gd x64 true (λJ=>fAV (e0_0 t) λv=>J v m n) m n λx66 m n=>gd x64 true (λJ=>p_eql x66 i1 o λv=>J v m n) m n λx67 m n=>pPick x64 x67 bF λx68=>tIfN x68 (λo c z t m n k=>fAV (d0 t) λx69=>fAV (d1 t) λx70=>fAV (d2 t) λx71=>c 132 [x69,x70,x71] z m n λx72 m n=>tIf x72 cRet cNorm o c z t m n k) cNorm (λo c z t m n k=>(λa=>dP (fAV (d1 t)) n λx73 n=>dP (p_gtr x73 i0 o) n λx74 n=>dM x74 n λx75 n=>gdD x75 true m a n (λJ=>dP (fAV (d0 t)) n λx76 n=>J x76 m a n) λx76 m a n=>gdD x75 true m a n (λJ=>dP (fAV (d1 t)) n λx77 n=>J x77 m a n) λx77 m a n=>gdD x75 true m a n (λJ=>dP (p_sub x77 i1 o) n λx78 n=>J x78 m a n) λx78 m a n=>gdD x75 true m a n (λJ=>dr0 (λz m n k=>forceV x78 o λy=>pIaddr 1 x76 y λv=>k v m n) n λx79 n=>J x79 m a n) λx79 m a n=>gdD x75 true m a n (λJ=>dL (pLoad1 x79) [6,3,2,1,0,5,4] 7 z m a n λx80 a n=>J x80 m a n) λx80 m a n=>gdD x75 true m a n (λJ=>dP (fAV (d0 t)) n λx81 n=>J x81 m a n) λx81 m a n=>gdD x75 true m a n (λJ=>dP (fAV (d5 t)) n λx82 n=>J x82 m a n) λx82 m a n=>gdD x75 true m a n (λJ=>dr0 (λz m n k=>forceV x82 o λy=>pIaddr 1 x81 y λv=>k v m n) n λx83 n=>J x83 m a n) λx83 m a n=>gdD x75 true m a n (λJ=>dL (pLoad1 x83) [10,8,2,1,0,9] 11 z m a n λx84 a n=>J x84 m a n) λx84 m a n=>gdD x75 true m a n (λJ=>dr1 (λz m n k=>qCallR o c 79 [x80,x84] z m n λv m n=>k v m n) [7,6,3,2,1,0,5,4,11,10,8,9] 12 z m a n λx85 a n=>J x85 m a n) λx85 m a n=>gdD x75 true m a n (λJ=>dP (pNot x85) n λx86 n=>J x86 m a n) λx86 m a n=>dP (pPick x75 x86 bF) n λx87 n=>joinAll a m λm=>tIfN x87 (λo c z t m n k=>fAV (d0 t) λx88=>fAV (d1 t) λx89=>fAV (d2 t) λx90=>fAV (d5 t) λx91=>c 133 [x88,x89,x90,x91] z m n λx92 m n=>se0_5 t x92 λt=>fAV (e0_5 t) λx93=>sd1 t x93 λt=>(cExit 1) o c z t m n k) cNorm (λo c z t m n k=>fAV (d0 t) λx95=>fAV (d1 t) λx96=>fAV (d2 t) λx97=>fAV (d5 t) λx98=>c 134 [x95,x96,x97,x98] z m n λx99 m n=>pExtr x99 0 λx100=>pExtr x99 1 λx101=>se0_6 t x101 λt=>sd4 t x100 λt=>fAV (e0_6 t) λx102=>se0_4 t x102 λt=>fAV (d4 t) λx103=>fAV (d1 t) λx104=>p_sub x103 x104 o λx105=>fAV (d2 t) λx106=>fAV (d4 t) λx107=>p_sub x106 x107 o λx108=>se0_2 t x108 λt=>se0_1 t x105 λt=>fAV (d6 t) λx109=>p_quo x109 i8 o λx110=>se0_3 t x110 λt=>fAV (e0_1 t) λx111=>fAV (e0_2 t) λx112=>p_lss x111 x112 o λx113=>tIf x113 (λo c z t m n k=>fAV (e0_1 t) λx114=>fAV (e0_3 t) λx115=>p_geq x114 x115 o λx116=>sd7 t x116 λt=>fAV (d0 t) λx117=>fAV (d1 t) λx118=>fAV (d4 t) λx119=>fAV (d3 t) λx120=>c 91 [x117,x118,x119,x120] z m n λx121 m n=>fAV (d4 t) λx122=>p_add x122 i1 o λx123=>sd1 t x123 λt=>cNorm o c z t m n k) (λo c z t m n k=>fAV (e0_2 t) λx124=>fAV (e0_3 t) λx125=>p_geq x124 x125 o λx126=>sd7 t x126 λt=>fAV (d0 t) λx127=>fAV (d4 t) λx128=>p_add x128 i1 o λx129=>fAV (d2 t) λx130=>fAV (d3 t) λx131=>c 91 [x127,x129,x130,x131] z m n λx132 m n=>fAV (d4 t) λx133=>sd2 t x133 λt=>cNorm o c z t m n k) o c z t m n k) o c z t m n k) [[],[],[],[],[],[],[],[],[],[],[],[],[],[],[]]) o c z t m n k) o c z t m n k) o c z t m n k) o c z t m n k) o c z t m n k) cNorm) cNorm) cNorm) o c z t m n k) false
noncomputable def F92 : HFunc:=.mk init1 (rTmp d1)
  (λo c z t m n k=>sd1 t i0 λt=>tIfN bF (λo c z t m n k=>fAV (d0 t) λx3=>qOth o c z m n false (.conv .u32 (.c x3)) λx4 m n=>qCallR o c 135 [x4] z m n λx5 m n=>sd1 t x5 λt=>cRet o c z t m n k) cNorm (λo c z t m n k=>fAV (d0 t) λx6=>qCallR o c 136 [x6] z m n λx7 m n=>sd1 t x7 λt=>cRet o c z t m n k) o c z t m n k) false
noncomputable def F93 : HFunc:=.mk init2 (λ_ _ _ k=>k (.tp []))
  (λo c z t m n k=>fAV (d0 t) λx4=>fAV (d0 t) λx5=>fAV (d1 t) λx6=>pNilc x4 λx7=>pFaddr 0 x7 λx8=>pFaddr 2 x8 λx9=>qStore1 x9 x6 m λm=>pNilc x5 λx10=>pFaddr 0 x10 λx11=>pFaddr 4 x11 λx12=>sd2 t x12 λt=>qStore1 (d2 t) i1 m λm=>fAV (d0 t) λx13=>c 137 [x13] z m n λx14 m n=>fAV (d0 t) λx15=>fAV (d0 t) λx16=>qCallR o c 139 [x16] z m n λx17 m n=>c 138 [x15,x17] z m n λx18 m n=>cNorm o c z t m n k) false
noncomputable def F95 : HFunc:=.mk init1 (rTmp d1)
  (λo c z t m n k=>sd1 t nS λt=>fAV (d0 t) λx3=>qOth o c z m n false (.eqn true false (.c x3) (.c nS)) λx4 m n=>tIfN x4 (λo c z t m n k=>sd1 t nS λt=>cRet o c z t m n k) cNorm (λo c z t m n k=>qOth o c z m n false (.bslice 6 0 [.int .i64 (.ofNat 0),.int .i64 (.ofNat 0),.int .i64 (.ofNat 0),.int .i64 (.ofNat 0),.str 0 0,.nsl] []) λx5 m n=>fAV (d0 t) λx6=>qOth o c z m n false (.append 6 72 (.c x5) (.c x6)) λx7 m n=>sd1 t x7 λt=>cRet o c z t m n k) o c z t m n k) false
noncomputable def F103 : HFunc:=.mk init1 (rTmp d1)
  (λo c z t m n k=>sd1 t bF λt=>(λa=>dP (fAV (d0 t)) n λx3 n=>dP (pNilc x3) n λx4 n=>dP (pFaddr 0 x4) n λx5 n=>dP (pFaddr 2 x5) n λx6 n=>dL (pLoad1 x6) [3,2,1,0] 4 z m a n λx7 a n=>dP (fAV (d0 t)) n λx8 n=>dP (pNilc x8) n λx9 n=>dP (pFaddr 0 x9) n λx10 n=>dP (pFaddr 1 x10) n λx11 n=>dL (pLoad1 x11) [8,7,6,5] 9 z m a n λx12 a n=>dr1 (λz m n k=>qCallR o c 26 [x7,x12] z m n λv m n=>k v m n) [4,3,2,1,0,9,8,7,6,5] 10 z m a n λx13 a n=>dP (fAV (d0 t)) n λx14 n=>dP (pNilc x14) n λx15 n=>dP (pFaddr 0 x15) n λx16 n=>dP (pFaddr 0 x16) n λx17 n=>dL (pLoad1 x17) [14,13,12,11] 15 z m a n λx18 a n=>dP (p_eql x13 x18 o) n λx19 n=>dM x19 n λx2 n=>joinAll a m λm=>sd1 t x2 λt=>cRet o c z t m n k) [[],[],[],[],[],[],[],[],[],[],[],[],[],[],[],[],[],[]]) false
noncomputable def F116 : HFunc:=.mk init1 (rTmp d1)
  (λo c z t m n k=>sd1 t bF λt=>fAV (d0 t) λx3=>fAV (d0 t) λx4=>p_neq x3 x4 o λx5=>sd1 t x5 λt=>cRet o c z t m n k) false
noncomputable def F127 : HFunc:=.mk init3 (λ_ _ _ k=>k (.tp []))
  (λo c z t m n k=>fAV (d1 t) λx8=>p_add x8 i1 o λx9=>sd4 t x9 λt=>(cBlk 0 (cLoop (λo c z t m n k=>fAV (d4 t) λx10=>fAV (d2 t) λx11=>p_lss x10 x11 o λx12=>tTest x12 0 (cBlk 1 (λo c z t m n k=>fAV (d4 t) λx15=>sd3 t x15 λt=>(cBlk 2 (cLoop (λo c z t m n k=>(λa=>dP (fAV (d3 t)) n λx16 n=>dP (fAV (d1 t)) n λx17 n=>dP (p_gtr x16 x17 o) n λx18 n=>dM x18 n λx19 n=>gdD x19 true m a n (λJ=>dP (fAV (d0 t)) n λx20 n=>J x20 m a n) λx20 m a n=>gdD x19 true m a n (λJ=>dP (fAV (d3 t)) n λx21 n=>J x21 m a n) λx21 m a n=>gdD x19 true m a n (λJ=>dr0 (λz m n k=>forceV x21 o λy=>pIaddr 1 x20 y λv=>k v m n) n λx22 n=>J x22 m a n) λx22 m a n=>gdD x19 true m a n (λJ=>dL (pLoad1 x22) [6,4,3,2,0,1,5] 7 z m a n λx23 a n=>J x23 m a n) λx23 m a n=>gdD x19 true m a n (λJ=>dP (fAV (d0 t)) n λx24 n=>J x24 m a n) λx24 m a n=>gdD x19 true m a n (λJ=>dP (fAV (d3 t)) n λx25 n=>J x25 m a n) λx25 m a n=>gdD x19 true m a n (λJ=>dP (p_sub x25 i1 o) n λx26 n=>J x26 m a n) λx26 m a n=>gdD x19 true m a n (λJ=>dr0 (λz m n k=>forceV x26 o λy=>pIaddr 1 x24 y λv=>k v m n) n λx27 n=>J x27 m a n) λx27 m a n=>gdD x19 true m a n (λJ=>dL (pLoad1 x27) [11,8,3,2,0,1,10,9] 12 z m a n λx28 a n=>J x28 m a n) λx28 m a n=>gdD x19 true m a n (λJ=>dr1 (λz m n k=>qCallR o c 79 [x23,x28] z m n λv m n=>k v m n) [7,6,4,3,2,0,1,5,12,11,8,10,9] 13 z m a n λx29 a n=>J x29 m a n) λx29 m a n=>dP (pPick x19 x29 bF) n λx30 n=>joinAll a m λm=>tTest x30 2 (cBlk 3 (λo c z t m n k=>(λa=>dP (fAV (d0 t)) n λx33 n=>dP (fAV (d3 t)) n λx34 n=>dP (fAV (d0 t)) n λx35 n=>dP (fAV (d3 t)) n λx36 n=>dP (p_sub x36 i1 o) n λx37 n=>dP (fAV (d0 t)) n λx38 n=>dP (fAV (d3 t)) n λx39 n=>dP (p_sub x39 i1 o) n λx40 n=>dr0 (λz m n k=>forceV x40 o λy=>pIaddr 1 x38 y λv=>k v m n) n λx41 n=>dL (pLoad1 x41) [8,5,7,6] 9 z m a n λx42 a n=>dP (fAV (d0 t)) n λx43 n=>dP (fAV (d3 t)) n λx44 n=>dr0 (λz m n k=>forceV x44 o λy=>pIaddr 1 x43 y λv=>k v m n) n λx45 n=>dL (pLoad1 x45) [12,10,11] 13 z m a n λx46 a n=>dr0 (λz m n k=>forceV x34 o λy=>pIaddr 1 x33 y λv=>k v m n) n λx47 n=>dr2 (λz m n k=>qStore1 x47 x42 m λm=>k noVal m n) [14,0,1,5,6,7,8,9,13,12,10,11] z m a n λ_ m a n=>dr0 (λz m n k=>forceV x37 o λy=>pIaddr 1 x35 y λv=>k v m n) n λx48 n=>dr2 (λz m n k=>qStore1 x48 x46 m λm=>k noVal m n) [16,2,4,3,0,1,5,6,7,8,9,10,11,12,13,14,15] z m a n λ_ m a n=>joinAll a m λm=>cNorm o c z t m n k) [[],[],[],[],[],[],[],[],[],[],[],[],[],[],[],[],[],[]]) (λo c z t m n k=>fAV (d3 t) λx31=>p_sub x31 i1 o λx32=>sd3 t x32 λt=>cNorm o c z t m n k)) o c z t m n k) [[],[],[],[],[],[],[],[],[],[],[],[],[],[],[]]) cNorm) cNorm) o c z t m n k) (λo c z t m n k=>fAV (d4 t) λx13=>p_add x13 i1 o λx14=>sd4 t x14 λt=>cNorm o c z t m n k)) o c z t m n k) cNorm) cNorm) o c z t m n k) false
noncomputable def F136 : HFunc:=.mk init1 (rTmp d1)
  (λo c z t m n k=>sd1 t i0 λt=>fAV (d0 t) λx3=>p_geq x3 (.one (.int .u64 (.ofNat 4294967296))) o λx4=>tIfN x4 (λo c z t m n k=>fAV (d0 t) λx5=>forceV x5 o λy0=>qOth o c z m n false (.shift false (.c y0) (.c (.one (.int .u64 (.ofNat 32))))) λx6 m n=>sd0 t x6 λt=>sd1 t i32 λt=>cNorm o c z t m n k) cNorm (λo c z t m n k=>fAV (d0 t) λx7=>p_geq x7 (.one (.int .u64 (.ofNat 65536))) o λx8=>tIfN x8 (λo c z t m n k=>fAV (d0 t) λx9=>forceV x9 o λy0=>qOth o c z m n false (.shift false (.c y0) (.c (.one (.int .u64 (.ofNat 16))))) λx10 m n=>sd0 t x10 λt=>fAV (d1 t) λx11=>p_add x11 i16 o λx12=>sd1 t x12 λt=>cNorm o c z t m n k) cNorm (λo c z t m n k=>fAV (d0 t) λx13=>p_geq x13 (.one (.int .u64 (.ofNat 256))) o λx14=>tIfN x14 (λo c z t m n k=>fAV (d0 t) λx15=>forceV x15 o λy0=>qOth o c z m n false (.shift false (.c y0) (.c (.one (.int .u64 (.ofNat 8))))) λx16 m n=>sd0 t x16 λt=>fAV (d1 t) λx17=>p_add x17 i8 o λx18=>sd1 t x18 λt=>cNorm o c z t m n k) cNorm (λo c z t m n k=>fAV (d1 t) λx19=>fAV (d0 t) λx20=>qOth o c z m n false (.conv .u8 (.c x20)) λx21 m n=>forceV x21 o λy0=>qOth o c z m n false (.idx (.c (.one (.str 256 496986003408712215933005303621146343841837811690876167382323004466384420695090407243345123874780946046625255262057845613767806773758184921447759720770971536008171983842311960805720366577116933250839345203839274948261284255908394484732272583221484877694546905335834403051067785895034095251181560891789708940188598129052595634438001880866652824740680664595948164050600812232986714152902334120417949232733424961741260388658846598210939813666227264727603044226856020347194099943897342244906131705541414413428559898943151040826816076322978570758226444464494629814583418847495712557856038296917933182380796641777551368))) (.c y0)) λx22 m n=>qOth o c z m n false (.conv .i64 (.c x22)) λx23 m n=>p_add x19 x23 o λx24=>sd1 t x24 λt=>cRet o c z t m n k) o c z t m n k) o c z t m n k) o c z t m n k) false
noncomputable def F137 : HFunc:=.mk init1 (λ_ _ _ k=>k (.tp []))
  (λo c z t m n k=>fAV (d0 t) λx2=>fAV (d0 t) λx3=>fAV (d0 t) λx4=>pNilc x2 λx5=>pFaddr 0 x5 λx6=>pFaddr 6 x6 λx7=>qStore1 x7 bF m λm=>pNilc x3 λx8=>pFaddr 0 x8 λx9=>pFaddr 11 x9 λx10=>sd1 t x10 λt=>sd2 t x4 λt=>qStore1 (d1 t) nS m λm=>pNilc (d2 t) λx11=>pFaddr 0 x11 λx12=>pFaddr 12 x12 λx13=>qStore1 x13 nS m λm=>fAV (d0 t) λx14=>fAV (d0 t) λx15=>pNilc x15 λx16=>pFaddr 0 x16 λx17=>pFaddr 1 x17 λx18=>pLoad1 x18 z m λx19=>forceV x19 o λy0=>forceV y0 o λy1=>qOth o c z m n false (.mkslice 1 8 [.int .i64 (.ofNat 0)] (.c y1) (.c y1)) λx20 m n=>pNilc x14 λx21=>pFaddr 0 x21 λx22=>pFaddr 10 x22 λx23=>sd3 t x23 λt=>sd4 t x20 λt=>qStore1 (d3 t) (d4 t) m λm=>cNorm o c z t m n k) false
noncomputable def F138 : HFunc:=.mk init2 (λ_ _ _ k=>k (.tp []))
  (λo c z t m n k=>qBox (d1 t) m n λx3 m n=>sd5 t x3 λt=>fAV (d0 t) λx5=>pNilc x5 λx6=>pFaddr 0 x6 λx7=>pFaddr 1 x7 λx8=>pLoad1 x8 z m λx9=>sd2 t i0 λt=>sd4 t x9 λt=>(cBlk 0 (cLoop (λo c z t m n k=>p_lss (d2 t) (d4 t) o λx11=>tTest x11 0 (cBlk 1 (λo c z t m n k=>fAV (d2 t) λx12=>sd3 t x12 λt=>fAV (d3 t) λx13=>fAV (d0 t) λx14=>pNilc x14 λx15=>pFaddr 0 x15 λx16=>pFaddr 0 x16 λx17=>pLoad1 x17 z m λx18=>p_neq x13 x18 o λx19=>tIf x19 (λo c z t m n k=>fAV (d0 t) λx20=>fAV (d3 t) λx21=>pLoadA 20 (d5 t) z m λx22=>c 69 [x20,x21,x22] z m n λx23 m n=>cNorm o c z t m n k) cNorm o c z t m n k) (λo c z t m n k=>p_add (d2 t) i1 o λx24=>sd2 t x24 λt=>cNorm o c z t m n k)) o c z t m n k) cNorm) cNorm) o c z t m n k) false
noncomputable def F139 : HFunc:=.mk init1 (λz t m k=>rCell (d1 t) true 20 z m (k))
  (λo c z t m n k=>qAlloc z2 m n λx2 m n=>sd1 t x2 λt=>fAV (d0 t) λx3=>pNilc x3 λx4=>pFaddr 0 x4 λx5=>pFaddr 2 x5 λx6=>pLoad1 x6 z m λx7=>qOth o c z m n false (.build z2 [(0,1,(.c i7)),(3,1,(.c x7))]) λx8 m n=>qStore 20 (d1 t) x8 m λm=>cRet o c z t m n k) false
noncomputable def FT : HTree:=(.node 68 F68 (.node 50 F50 (.node 28 F28 (.node 24 F24 (.node 23 F23 (.node 21 F21 .nil .nil) .nil) (.node 26 F26 .nil .nil)) (.node 48 F48 (.node 30 F30 .nil .nil) (.node 49 F49 .nil .nil))) (.node 59 F59 (.node 54 F54 (.node 53 F53 (.node 52 F52 .nil .nil) .nil) (.node 55 F55 .nil .nil)) (.node 61 F61 (.node 60 F60 .nil .nil) (.node 62 F62 .nil .nil)))) (.node 93 F93 (.node 86 F86 (.node 72 F72 (.node 70 F70 (.node 69 F69 .nil .nil) .nil) (.node 79 F79 .nil .nil)) (.node 91 F91 (.node 89 F89 .nil .nil) (.node 92 F92 .nil .nil))) (.node 136 F136 (.node 116 F116 (.node 103 F103 (.node 95 F95 .nil .nil) .nil) (.node 127 F127 .nil .nil)) (.node 138 F138 (.node 137 F137 .nil .nil) (.node 139 F139 .nil .nil)))))
end Go.Proofs.Ytnnjlnkoomeadaa.Ev
set_option maxRecDepth 1000000
namespace Go.Proofs.Ytnnjlnkoomeadaa.Ev
open Go.Ev
def ml : List Nat:=[41,59,63,64,65,66,67,69,82,91,93,94,96,100,106,108,109,117,127,128,129,130,131,132,133,134,137,138,142,147,151,154,155,157,159]
theorem k21 : HOk Try.prog 21 F21:=hok (m:=mutsOf ml false) (kept:=[0,1,4,5]) (gc:=false) (by kernel_rfl) Try.func21 (by kernel_rfl) (by kernel_rfl)
theorem k23 : HOk Try.prog 23 F23:=hok (m:=mutsOf ml false) (kept:=[0,2]) (gc:=false) (by kernel_rfl) Try.func23 (by kernel_rfl) (by kernel_rfl)
theorem k24 : HOk Try.prog 24 F24:=hok (m:=mutsOf ml false) (kept:=[0,1,7,98,169,125,36,5,158,112,136,24,95,3,14,17,27,37,87,90,101,111,110,135,134,144,149,159,176,179,2]) (gc:=false) (by kernel_rfl) Try.func24 (by kernel_rfl) (by kernel_rfl)
theorem k26 : HOk Try.prog 26 F26:=hok (m:=mutsOf ml false) (kept:=[0,1,4]) (gc:=false) (by kernel_rfl) Try.func26 (by kernel_rfl) (by kernel_rfl)
theorem k28 : HOk Try.prog 28 F28:=hok (m:=mutsOf ml false) (kept:=[0,1,2,7,13,10,12,11,8,9,54,6]) (gc:=false) (by kernel_rfl) Try.func28 (by kernel_rfl) (by kernel_rfl)
theorem k30 : HOk Try.prog 30 F30:=hok (m:=mutsOf ml false) (kept:=[49,4,1,3,27,37,2,29,39,6,56,59,69,0]) (gc:=false) (by kernel_rfl) Try.func30 (by kernel_rfl) (by kernel_rfl)
theorem k48 : HOk Try.prog 48 F48:=hok (m:=mutsOf ml false) (kept:=[0,1,2]) (gc:=false) (by kernel_rfl) Try.func48 (by kernel_rfl) (by kernel_rfl)
theorem k49 : HOk Try.prog 49 F49:=hok (m:=mutsOf ml false) (kept:=[0,1,2]) (gc:=false) (by kernel_rfl) Try.func49 (by kernel_rfl) (by kernel_rfl)
theorem k50 : HOk Try.prog 50 F50:=hok (m:=mutsOf ml false) (kept:=[0,1,11,14,24,4]) (gc:=false) (by kernel_rfl) Try.func50 (by kernel_rfl) (by kernel_rfl)
theorem k52 : HOk Try.prog 52 F52:=hok (m:=mutsOf ml false) (kept:=[0,2]) (gc:=false) (by kernel_rfl) Try.func52 (by kernel_rfl) (by kernel_rfl)
theorem k53 : HOk Try.prog 53 F53:=hok (m:=mutsOf ml false) (kept:=[0,1,13,23,38,19,14,24,37,36,4,2]) (gc:=false) (by kernel_rfl) Try.func53 (by kernel_rfl) (by kernel_rfl)
theorem k54 : HOk Try.prog 54 F54:=hok (m:=mutsOf ml false) (kept:=[0,1,4]) (gc:=false) (by kernel_rfl) Try.func54 (by kernel_rfl) (by kernel_rfl)
theorem k55 : HOk Try.prog 55 F55:=hok (m:=mutsOf ml false) (kept:=[0,2]) (gc:=false) (by kernel_rfl) Try.func55 (by kernel_rfl) (by kernel_rfl)
theorem k59 : HOk Try.prog 59 F59:=hok (m:=mutsOf ml false) (kept:=[0,2]) (gc:=false) (by kernel_rfl) Try.func59 (by kernel_rfl) (by kernel_rfl)
theorem k60 : HOk Try.prog 60 F60:=hok (m:=mutsOf ml false) (kept:=[0,4,1,2,14,16,3]) (gc:=false) (by kernel_rfl) Try.func60 (by kernel_rfl) (by kernel_rfl)
theorem k61 : HOk Try.prog 61 F61:=hok (m:=mutsOf ml false) (kept:=[0,1,23,3,2,22]) (gc:=false) (by kernel_rfl) Try.func61 (by kernel_rfl) (by kernel_rfl)
theorem k62 : HOk Try.prog 62 F62:=hok (m:=mutsOf ml false) (kept:=[0,1,2]) (gc:=false) (by kernel_rfl) Try.func62 (by kernel_rfl) (by kernel_rfl)
end Go.Proofs.Ytnnjlnkoomeadaa.Ev
set_option maxRecDepth 1000000
namespace Go.Proofs.Ytnnjlnkoomeadaa.Ev
open Go.Ev
theorem k68 : HOk Try.prog 68 F68:=hok (m:=mutsOf ml false) (kept:=[0,12,2]) (gc:=false) (by kernel_rfl) Try.func68 (by kernel_rfl) (by kernel_rfl)
theorem k69 : HOk Try.prog 69 F69:=hok (m:=mutsOf ml false) (kept:=[0,1,2,5]) (gc:=false) (by kernel_rfl) Try.func69 (by kernel_rfl) (by kernel_rfl)
theorem k70 : HOk Try.prog 70 F70:=hok (m:=mutsOf ml false) (kept:=[0,1,4,3,5]) (gc:=false) (by kernel_rfl) Try.func70 (by kernel_rfl) (by kernel_rfl)
theorem k72 : HOk Try.prog 72 F72:=hok (m:=mutsOf ml false) (kept:=[0,2]) (gc:=false) (by kernel_rfl) Try.func72 (by kernel_rfl) (by kernel_rfl)
theorem k79 : HOk Try.prog 79 F79:=hok (m:=mutsOf ml false) (kept:=[0,1,12,13,14,4]) (gc:=false) (by kernel_rfl) Try.func79 (by kernel_rfl) (by kernel_rfl)
theorem k86 : HOk Try.prog 86 F86:=hok (m:=mutsOf ml false) (kept:=[0,1,14,3,2,13,12,5]) (gc:=false) (by kernel_rfl) Try.func86 (by kernel_rfl) (by kernel_rfl)
theorem k89 : HOk Try.prog 89 F89:=hok (m:=mutsOf ml false) (kept:=[0,1,8,5,7,4]) (gc:=false) (by kernel_rfl) Try.func89 (by kernel_rfl) (by kernel_rfl)
theorem k91 : HOk Try.prog 91 F91:=hok (m:=mutsOf ml false) (kept:=[0,1,2,3,14,11,10,8,12,16,17,18,9,13,15]) (gc:=false) (by kernel_rfl) Try.func91 (by kernel_rfl) (by kernel_rfl)
theorem k92 : HOk Try.prog 92 F92:=hok (m:=mutsOf ml false) (kept:=[0,2]) (gc:=false) (by kernel_rfl) Try.func92 (by kernel_rfl) (by kernel_rfl)
theorem k93 : HOk Try.prog 93 F93:=hok (m:=mutsOf ml false) (kept:=[0,1,12]) (gc:=false) (by kernel_rfl) Try.func93 (by kernel_rfl) (by kernel_rfl)
theorem k95 : HOk Try.prog 95 F95:=hok (m:=mutsOf ml false) (kept:=[0,2]) (gc:=false) (by kernel_rfl) Try.func95 (by kernel_rfl) (by kernel_rfl)
theorem k103 : HOk Try.prog 103 F103:=hok (m:=mutsOf ml false) (kept:=[0,2]) (gc:=false) (by kernel_rfl) Try.func103 (by kernel_rfl) (by kernel_rfl)
theorem k116 : HOk Try.prog 116 F116:=hok (m:=mutsOf ml false) (kept:=[0,2]) (gc:=false) (by kernel_rfl) Try.func116 (by kernel_rfl) (by kernel_rfl)
theorem k127 : HOk Try.prog 127 F127:=hok (m:=mutsOf ml false) (kept:=[0,1,2,7,6]) (gc:=false) (by kernel_rfl) Try.func127 (by kernel_rfl) (by kernel_rfl)
theorem k136 : HOk Try.prog 136 F136:=hok (m:=mutsOf ml false) (kept:=[0,2]) (gc:=false) (by kernel_rfl) Try.func136 (by kernel_rfl) (by kernel_rfl)
theorem k137 : HOk Try.prog 137 F137:=hok (m:=mutsOf ml false) (kept:=[0,10,4,23,20]) (gc:=false) (by kernel_rfl) Try.func137 (by kernel_rfl) (by kernel_rfl)
theorem k138 : HOk Try.prog 138 F138:=hok (m:=mutsOf ml false) (kept:=[0,1,10,4,9,3]) (gc:=false) (by kernel_rfl) Try.func138 (by kernel_rfl) (by kernel_rfl)
theorem k139 : HOk Try.prog 139 F139:=hok (m:=mutsOf ml false) (kept:=[0,2]) (gc:=false) (by kernel_rfl) Try.func139 (by kernel_rfl) (by kernel_rfl)
theorem ftOk : FT.Ok Try.prog:=⟨k68,⟨k50,⟨k28,⟨k24,⟨k23,⟨k21,trivial,trivial⟩,trivial⟩,⟨k26,trivial,trivial⟩⟩,⟨k48,⟨k30,trivial,trivial⟩,⟨k49,trivial,trivial⟩⟩⟩,⟨k59,⟨k54,⟨k53,⟨k52,trivial,trivial⟩,trivial⟩,⟨k55,trivial,trivial⟩⟩,⟨k61,⟨k60,trivial,trivial⟩,⟨k62,trivial,trivial⟩⟩⟩⟩,⟨k93,⟨k86,⟨k72,⟨k70,⟨k69,trivial,trivial⟩,trivial⟩,⟨k79,trivial,trivial⟩⟩,⟨k91,⟨k89,trivial,trivial⟩,⟨k92,trivial,trivial⟩⟩⟩,⟨k136,⟨k116,⟨k103,⟨k95,trivial,trivial⟩,trivial⟩,⟨k127,trivial,trivial⟩⟩,⟨k138,⟨k137,trivial,trivial⟩,⟨k139,trivial,trivial⟩⟩⟩⟩⟩
end Go.Proofs.Ytnnjlnkoomeadaa.Ev
namespace Go.Ev
theorem pcNil {m : Nat → Nat} : PcOk m []:=λj p h=>by simp at h
end Go.Ev
set_option maxRecDepth 1000000
namespace Go.Proofs.Ytnnjlnkoomeadaa.Ev
open Go.Ev
theorem mixed : Try.prog.follows .mixedOrders = true:=by kernel_rfl
noncomputable def K0 (_ : Nat) : Option (Contract RR):=none
theorem awake17Runs : hcall (noOrc zz) K0 FT.find 60 30 [] (λ_=>none) [] 0 isR [] = true:=by kernel_rfl
theorem awake17 : SaysTrue Try.prog 30:=λw=>lawH (T:=TT λ_=>0) (val:=λ_=>0) zz_not isR_elim (noOrc_ok zz_not _) mixed (λf c h=>by cases h) ftOk ⟨[],pcNil,awake17Runs⟩ w [] trivial
end Go.Proofs.Ytnnjlnkoomeadaa.Ev
namespace Go.Ev
section
variable {val : Nat → Int} {fz : Fz}
structure Stp (val : Nat → Int) (fz : Fz) (ρ : Rho) (mu : St) (n : Nat) (w : World) (ρ' : Rho) (mu' : St) (n' : Nat) (w' : World) : Prop where
  le : n ≤ n'
  ext : Ext ρ ρ' n n'
  rel : Rel val ρ' fz mu' w'
  fr : Fr ρ mu w w'
  nb : NewB ρ ρ' mu mu' w
  ni : NewI mu mu' n n'
variable {ρ ρ' ρ'' : Rho} {mu mu' mu'' : St} {n n' n'' : Nat} {w w' w'' : World}
theorem Stp.refl (hr : Rel val ρ fz mu w) : Stp val fz ρ mu n w ρ mu n w:=⟨Nat.le_refl _,Ext.refl _ _ _,hr,Fr.refl _ _ _,NewB.refl,NewI.refl⟩
theorem Stp.trans (h : Stp val fz ρ mu n w ρ' mu' n' w') (k : Stp val fz ρ' mu' n' w' ρ'' mu'' n'' w'') : Stp val fz ρ mu n w ρ'' mu'' n'' w'' :=
  ⟨Nat.le_trans h.le k.le,h.ext.trans k.ext h.le k.le,k.rel,h.fr.trans h.nb k.fr,h.nb.trans k.nb h.fr.size,h.ni.trans k.ni h.le k.le⟩
theorem Stp.sub (h : Stp val fz ρ mu n w ρ' mu' n' w') (hs : ∀ id c,look mu'' id = some c → look mu' id = some c) : Stp val fz ρ mu n w ρ' mu'' n' w' :=
  ⟨h.le,h.ext,h.rel.sub hs,h.fr,h.nb.sub hs,h.ni.sub hs⟩
theorem Stp.post (h : Stp val fz ρ mu n w ρ' mu' n' w') {v : AV} {x : Value} (hv : AVR val ρ' w' v x) : Post val ρ fz mu n w v mu' n' x w':=⟨ρ',h.ext,h.rel,hv,h.fr,h.nb,h.ni⟩
theorem Stp.like (hr : Rel val ρ fz mu w) (hl : Like w w') : Stp val fz ρ mu n w ρ mu n w':=⟨Nat.le_refl _,Ext.refl _ _ _,hr.like hl,hl.fr,NewB.refl,NewI.refl⟩
theorem Stp.put {id : Nat} {cs cs' : List SV} {p : Nat × Nat} (hr : Rel val ρ fz mu w) (hl : look mu id = some cs) (hp : ρ id = some p) (hos : w'.os = w.os) (htp : w'.tape = w.tape) (hou : w'.output = w.output)
    (hsz : w'.heap.size = w.heap.size) (hother : ∀ b,b ≠ p.1 → w'.heap[b]? = w.heap[b]?) (hbs : ∀ b,bsize w b ≤ bsize w' b) (hown : OwnG val ρ w' id cs') :
    Stp val fz ρ mu n w ρ (putS mu id cs') n w' :=
  let ⟨a1,a2,a3,a4⟩:=put_blockW hr hl hp hos htp hou hsz hother hbs hown
  ⟨Nat.le_refl _,Ext.refl _ _ _,a1,a2,a3,a4⟩
theorem Stp.new {cs : List SV} (hos : w'.os = w.os) (htp : w'.tape = w.tape) (hou : w'.output = w.output) (hsz : w'.heap.size = w.heap.size + 1) (hold : ∀ b, b < w.heap.size → w'.heap[b]? = w.heap[b]?)
    (hr : Rel val ρ fz mu w) (hn : ρ n = none) (hown : (∀ b,bsize w b ≤ bsize w' b) → OwnG val (upd ρ n (w.heap.size,0)) w' n cs) : Stp val fz ρ mu n w (upd ρ n (w.heap.size,0)) ((n,cs) :: mu) (n + 1) w' :=
  let ⟨a1,a2,a3,a4,a5⟩:=new_blockW hos htp hou hsz hold hr hn hown
  ⟨Nat.le_succ _,a1,a2,a3,a4,a5⟩
theorem Stp.kill (hr : Rel val ρ fz mu w) (id : Nat) : Stp val fz ρ mu n w ρ (killS mu id) n w :=
  (Stp.refl hr).sub λa c h=>by
    rw [look_killS] at h
    split at h
    · cases h
    · exact h
theorem Stp.move {id : Nat} {cs cs' : List SV} {p : Nat × Nat} {oo : Nat} (hr : Rel val ρ fz mu w) (hl : look mu id = some cs) (hp : ρ id = some p) (hn : ρ n = none) (hos : w'.os = w.os) (htp : w'.tape = w.tape) (hou : w'.output = w.output)
    (hsz : w'.heap.size = w.heap.size) (hother : ∀ b,b ≠ p.1 → w'.heap[b]? = w.heap[b]?) (hbs' : ∀ b,bsize w b ≤ bsize w' b) (hown : OwnG val (upd ρ n (p.1,oo)) w' n cs') :
    Stp val fz ρ mu n w (upd ρ n (p.1,oo)) ((n,cs') :: killS mu id) (n + 1) w':=by
  have hup:=λid r hq=>upd_old (p:=(p.1,oo)) hn id r hq
  have hfn : fz n = none:=by
    cases e : fz n with
    | none=>rfl
    | some c=>obtain ⟨p,o,h1,_⟩:=(hr.rf n c e).at; rw [hn] at h1; cases h1
  have keepOwn : ∀ id' c,id' ≠ id → ((look mu id').isSome ∨ (fz id').isSome) → OwnG val ρ w id' c → OwnG val (upd ρ n (p.1,oo)) w' id' c:=by
    intro id' c hne hlv hown
    refine hown.mono hup hbs' λq hq=>hother _ λe=>hne ?_
    exact (hr.dj id id' p q (by simp [hl]) hlv hp hq e.symm).symm
  have keepF : ∀ id' c,id' ≠ id → ((look mu id').isSome ∨ (fz id').isSome) → OwnF val ρ w id' c → OwnF val (upd ρ n (p.1,oo)) w' id' c:=by
    intro id' c hne hlv hown
    refine hown.mono hup hbs' λq hq=>hother _ λe=>hne ?_
    exact (hr.dj id id' p q (by simp [hl]) hlv hp hq e.symm).symm
  have hlk : ∀ id' c,look ((n,cs') :: killS mu id) id' = some c → id' = n ∧ c = cs' ∨ id' ≠ n ∧ id' ≠ id ∧ look mu id' = some c:=by
    intro id' c h
    rw [look_cons] at h
    by_cases e : n = id'
    · simp only [e,if_true,Option.some.injEq] at h; exact .inl ⟨e.symm,h.symm⟩
    · simp only [e,if_false,look_killS] at h
      split at h
      · cases h
      · rename_i e2; exact .inr ⟨λx=>e x.symm,λx=>e2 x.symm,h⟩
  refine ⟨Nat.le_succ _,upd_ext hn,⟨λid' c h=>?_,λid' c h=>?_,λid' c h=>?_,λa b q q' ha hb hq hq' he=>?_⟩,
    ⟨hos,htp,hou,by omega,λb _ hb=>hother b λe=>hb id p (by simp [hl]) hp e.symm,hbs'⟩,λa q ha hq=>?_,λa ha=>?_⟩
  · refine keepF id' c (λe=>?_) (.inr (by simp [h])) (hr.rf id' c h)
    subst e; have:=hr.dm id' cs hl; rw [this] at h; cases h
  · rcases hlk id' c h with ⟨rfl,rfl⟩ | ⟨e1,e2,e3⟩
    · exact hown
    · exact keepOwn id' c e2 (.inl (by simp [e3])) (hr.rm id' c e3)
  · rcases hlk id' c h with ⟨rfl,rfl⟩ | ⟨e1,e2,e3⟩
    · exact hfn
    · exact hr.dm id' c e3
  · have key : ∀ a r, ((look ((n, cs') :: killS mu id) a).isSome ∨ (fz a).isSome) → upd ρ n (p.1, oo) a = some r → a = n ∧ r.1 = p.1 ∨ a ≠ n ∧ a ≠ id ∧ ρ a = some r ∧ ((look mu a).isSome ∨ (fz a).isSome) := by
      intro a r h hq
      by_cases e : a = n
      · left; subst e; rw [upd_same] at hq; cases hq; exact ⟨rfl,rfl⟩
      · right
        have hq2 : ρ a = some r:=by simpa [upd,e] using hq
        rcases h with h | h
        · obtain ⟨c,hc⟩:=Option.isSome_iff_exists.1 h
          rcases hlk a c hc with ⟨x,_⟩ | ⟨_,x2,x3⟩
          · exact (e x).elim
          · exact ⟨e,x2,hq2,.inl (by simp [x3])⟩
        · refine ⟨e,λx=>?_,hq2,.inr h⟩
          subst x; have:=hr.dm a cs hl; rw [this] at h; cases h
    rcases key a q (.inl ha) hq with ⟨x1,x2⟩ | ⟨x1,x2,x3,x4⟩
    · rcases key b q' hb hq' with ⟨y1,y2⟩ | ⟨y1,y2,y3,y4⟩
      · rw [x1,y1]
      · exact (y2 (hr.dj id b p q' (by simp [hl]) y4 hp y3 (by omega)).symm).elim
    · rcases key b q' hb hq' with ⟨y1,y2⟩ | ⟨y1,y2,y3,y4⟩
      · exact (x2 (hr.dj id a p q (by simp [hl]) x4 hp x3 (by omega)).symm).elim
      · have hm : (look mu a).isSome := by
          obtain ⟨c,hc⟩:=Option.isSome_iff_exists.1 ha
          rcases hlk a c hc with ⟨x,_⟩ | ⟨_,_,z3⟩
          · exact (x1 x).elim
          · simp [z3]
        exact hr.dj a b q q' hm y4 x3 y3 he
  · obtain ⟨c,hc⟩:=Option.isSome_iff_exists.1 ha
    rcases hlk a c hc with ⟨rfl,_⟩ | ⟨x1,x2,x3⟩
    · rw [upd_same] at hq; cases hq
      exact .inr ⟨id,p,by simp [hl],hp,rfl⟩
    · exact .inr ⟨a,q,by simp [x3],by simpa [upd,x1] using hq,rfl⟩
  · obtain ⟨c,hc⟩:=Option.isSome_iff_exists.1 ha
    rcases hlk a c hc with ⟨rfl,_⟩ | ⟨x1,x2,x3⟩
    · exact .inr ⟨Nat.le_refl _,Nat.lt_succ_self _⟩
    · exact .inl (by simp [x3])
end
end Go.Ev
namespace Go.Ev
set_option linter.unusedVariables false
set_option linter.unusedSimpArgs false
open Go.Shelf Go.Proofs Go.Sort Go.RowKit
section
variable {val : Nat → Int} {fz : Fz} {ρ : Rho} {mu : St} {n : Nat} {w w' : World}
theorem bsize_belowS (hb : Below w.heap.size w w') (b : Nat) : bsize w b ≤ bsize w' b:=by
  unfold bsize
  by_cases h : b < w.heap.size
  · rw [hb.block b h]; exact Nat.le_refl _
  · rw [show w.heap[b]? = none from by simp; omega]; exact Nat.zero_le _
theorem Rel.belowS (hr : Rel val ρ fz mu w) (hb : Below w.heap.size w w') : Rel val ρ fz mu w' :=
  ⟨λid cs h=>(hr.rf id cs h).mono (λ_ _ h=>h) (bsize_belowS hb) λp hp=>hb.block _ ((hr.rf id cs h).lt hp),
   λid cs h=>(hr.rm id cs h).mono (λ_ _ h=>h) (bsize_belowS hb) λp hp=>hb.block _ ((hr.rm id cs h).lt hp),hr.dm,hr.dj⟩
theorem Stp.belowS (hr : Rel val ρ fz mu w) (hb : Below w.heap.size w w') : Stp val fz ρ mu n w ρ mu n w' :=
  ⟨Nat.le_refl _,Ext.refl _ _ _,hr.belowS hb,⟨hb.os,hb.tape,hb.output,hb.size,λb h _=>hb.block b h,bsize_belowS hb⟩,NewB.refl,NewI.refl⟩
end
theorem heap_sort {w : World} {g m off : Nat} {cur : Array Value} {e : TypeId} {fr : Nat × Nat} (d : Array Int) (hb : w.heap[g]? = some (.cells cur e fr)) :
    (putRow (Value.int .i64) (Sort.ahead w m) g off d).heap[g]? = some (.cells (putCells (Value.int .i64) off d cur) e fr):=by
  simp [putRow,mapBlock,Sort.ahead,Array.getElem?_modify,hb,onCells]
theorem heap_sort_other {w : World} {g m off b : Nat} (d : Array Int) (h : b ≠ g) : (putRow (Value.int .i64) (Sort.ahead w m) g off d).heap[b]? = w.heap[b]?:=by
  simp [putRow,mapBlock,Sort.ahead,Array.getElem?_modify,Ne.symm h]
theorem hasBody_sort {P : Program} {f : FuncId} {B : Func} (hf : P.funcs[f]? = some B) (hb : B.body.isSome = true) (hn : (B.name == "runtime.NumGoroutine") = false) : hasBody P f = true := by
  unfold hasBody
  rw [hf]
  show (B.body.isSome && !(B.name == "runtime.NumGoroutine")) = true
  rw [hb,hn]; rfl
theorem sort_call {P : Program} {ren : Ren} {f : FuncId} (hf0 : ren.f 189 = f) (L : Lays.n189 P ren) {id cap : Nat} {l : List Int} {fz : Fz} {mu : St} {n : Nat} {k : AV → St → Nat → Prop}
    (hl : look mu id = some (l.map (SV.int .i64))) (hs : l.length < 4611686018427387904)
    (h : k (.tp []) (putS mu id ((srt l).map (SV.int .i64))) n) : CP P f [.one (.osl id 0 l.length cap 1)] fz mu n k:=by
  subst hf0
  refine ⟨_, _, _, h, hasBody_sort L.f189 rfl (show ("slices.Sort[[]int,int]" == "runtime.NumGoroutine") = false by decide), Nat.le_refl _, fun ρ w xs hr hx hf => ?_⟩
  match xs,hx with
  | [x],hx =>
  obtain ⟨q,c,hq,hxe,_⟩:=(show VR v0 ρ w (.osl id 0 l.length cap 1) x from hx.1)
  subst hxe
  obtain ⟨p,C,ty,fr,hp,hC,hfr,hsz,hcs⟩:=(hr.rm id _ hl).plain (by cases l <;> rfl)
  rw [hq] at hp; cases hp
  have hsz : q.2 + l.length ≤ C.size:=by simpa using hsz
  have hcell : ∀ j (hj : j < l.length),C[q.2 + j]? = some (.int .i64 l[j]):=λj hj=>by
    obtain ⟨v,e1,e2⟩:=hcs j (.int .i64 l[j]) (by simp [hj])
    rw [e1,show v = .int .i64 l[j] from e2]
  have hH : Holds (Value.int .i64) w q.1 q.2 l.toArray:=by
    intro j hj
    have hj : j < l.length:=by simpa using hj
    refine ⟨?_,?_⟩
    · simp only [World.cell?,hC,Option.isSome_none,Bool.false_eq_true,if_false]
      rw [hcell j hj]; simp [hj]
    · simp only [World.frozen?,hC]
      exact hfr.no (by omega)
  have hlt : q.1 < w.heap.size:=(Array.getElem?_eq_some_iff.1 hC).1
  refine (Any.slices_Sort_int L q.1 q.2 c l w hH hlt hs).mono ?_
  rintro e w' ⟨rfl,m,os,rfl⟩
  refine ⟨_,rfl,?_⟩
  have hdl : (srt l).toArray.size = l.length:=by simp [srt_length]
  have hself:=heap_sort (m:=m) (off:=q.2) (srt l).toArray hC
  have hother : ∀ b,b ≠ q.1 → (putRow (Value.int .i64) (Sort.ahead w m) q.1 q.2 (srt l).toArray).heap[b]? = w.heap[b]?:=λb hb=>heap_sort_other _ hb
  have hsize : (putRow (Value.int .i64) (Sort.ahead w m) q.1 q.2 (srt l).toArray).heap.size = w.heap.size:=by simp [Sort.ahead]
  have hbs : ∀ b,bsize w b ≤ bsize (putRow (Value.int .i64) (Sort.ahead w m) q.1 q.2 (srt l).toArray) b:=λb=>by
    unfold bsize
    by_cases hb : b = q.1
    · subst hb; rw [hself,hC]; simp [putCells]
    · rw [hother b hb]; exact Nat.le_refl _
  have h1 : Stp v0 fz ρ mu n w ρ (putS mu id ((srt l).map (SV.int .i64))) n (putRow (Value.int .i64) (Sort.ahead w m) q.1 q.2 (srt l).toArray):=by
    refine Stp.put hr hl hq rfl rfl rfl hsize hother hbs (.inl ⟨q,_,ty,fr,hq,hself,by simpa [putCells] using hfr,by simpa [putCells,srt_length] using hsz,λi s hi=>?_⟩)
    simp only [List.getElem?_map,Option.map_eq_some_iff] at hi
    obtain ⟨z,hz,rfl⟩:=hi
    obtain ⟨hzl,rfl⟩:=List.getElem?_eq_some_iff.1 hz
    have hil : i < l.length:=by rw [← srt_length l]; exact hzl
    refine ⟨.int .i64 (srt l)[i],?_,rfl⟩
    have : q.2 + i < C.size:=by omega
    simp [putCells,this,srt_length,hil,hzl]
  have hb : Below (putRow (Value.int .i64) (Sort.ahead w m) q.1 q.2 (srt l).toArray).heap.size (putRow (Value.int .i64) (Sort.ahead w m) q.1 q.2 (srt l).toArray) (grow (putRow (Value.int .i64) (Sort.ahead w m) q.1 q.2 (srt l).toArray) os) :=
    ⟨rfl,rfl,rfl,by simp [grow],λb hb=>heap_grow_old _ _ hb⟩
  exact (h1.trans (Stp.belowS h1.rel hb)).post ⟨_,rfl,trivial⟩
end Go.Ev
set_option maxRecDepth 1000000
namespace Go.Proofs.Ytnnjlnkoomeadaa.Ev
open Go.Ev Go.Shelf
theorem mixedSort : Try.prog.follows .mixedOrders = true:=by kernel_rfl
def renSort : Ren:=⟨λk=>if k = 189 then 59 else if k = 125 then 92 else if k = 257 then 91 else if k = 128 then 135 else if k = 129 then 136 else if k = 294 then 127 else if k = 295 then 128 else if k = 296 then 129 else if k = 297 then 130 else if k = 298 then 131 else if k = 299 then 132 else if k = 216 then 79 else if k = 300 then 133 else if k = 301 then 134 else if k = 328 then 151 else if k = 329 then 152 else if k = 330 then 153 else if k = 331 then 154 else if k = 332 then 155 else if k = 215 then 116 else if k = 343 then 158 else k,λk=>if k = 28 then 25 else if k = 3 then 3 else if k = 46 then 48 else if k = 0 then 0 else if k = 51 then 139 else if k = 53 then 141 else if k = 4 then 4 else if k = 183 then 133 else if k = 182 then 132 else if k = 131 then 73 else if k = 5 then 5 else if k = 9 then 9 else if k = 218 then 149 else if k = 222 then 99 else if k = 228 then 155 else if k = 229 then 101 else k,λk=>k⟩
theorem laysSort : Lays.n189 Try.prog renSort where
  mixed:=mixedSort
  f125:=by kernel_rfl
  f128:=by kernel_rfl
  f129:=by kernel_rfl
  f189:=by kernel_rfl
  f215:=by kernel_rfl
  f216:=by kernel_rfl
  f257:=by kernel_rfl
  f294:=by kernel_rfl
  f295:=by kernel_rfl
  f296:=by kernel_rfl
  f297:=by kernel_rfl
  f298:=by kernel_rfl
  f299:=by kernel_rfl
  f300:=by kernel_rfl
  f301:=by kernel_rfl
  f328:=by kernel_rfl
  f329:=by kernel_rfl
  f330:=by kernel_rfl
  f331:=by kernel_rfl
  f332:=by kernel_rfl
  f343:=by kernel_rfl
  t0:=by kernel_rfl
  a0:=λw=>by kernel_rfl
  z0:=λw=>by kernel_rfl
  v0:=λw=>by kernel_rfl
  t3:=by kernel_rfl
  a3:=λw=>by kernel_rfl
  z3:=λw=>by kernel_rfl
  v3:=λw=>by kernel_rfl
  t4:=by kernel_rfl
  a4:=λw=>by kernel_rfl
  z4:=λw=>by kernel_rfl
  v4:=λw=>by kernel_rfl
  t5:=by kernel_rfl
  a5:=λw=>by kernel_rfl
  z5:=λw=>by kernel_rfl
  v5:=λw=>by kernel_rfl
  t9:=by kernel_rfl
  a9:=λw=>by kernel_rfl
  z9:=λw=>by kernel_rfl
  v9:=λw=>by kernel_rfl
  t28:=by kernel_rfl
  a28:=λw=>by kernel_rfl
  z28:=λw=>by kernel_rfl
  v28:=λw=>by kernel_rfl
  t46:=by kernel_rfl
  a46:=λw=>by kernel_rfl
  z46:=λw=>by kernel_rfl
  v46:=λw=>by kernel_rfl
  t51:=by kernel_rfl
  a51:=λw=>by kernel_rfl
  z51:=λw=>by kernel_rfl
  v51:=λw=>by kernel_rfl
  t53:=by kernel_rfl
  a53:=λw=>by kernel_rfl
  z53:=λw=>by kernel_rfl
  v53:=λw=>by kernel_rfl
  t131:=by kernel_rfl
  a131:=λw=>by kernel_rfl
  z131:=λw=>by kernel_rfl
  v131:=λw=>by kernel_rfl
  t182:=by kernel_rfl
  a182:=λw=>by kernel_rfl
  z182:=λw=>by kernel_rfl
  v182:=λw=>by kernel_rfl
  t183:=by kernel_rfl
  a183:=λw=>by kernel_rfl
  z183:=λw=>by kernel_rfl
  v183:=λw=>by kernel_rfl
  t218:=by kernel_rfl
  a218:=λw=>by kernel_rfl
  z218:=λw=>by kernel_rfl
  v218:=λw=>by kernel_rfl
  t222:=by kernel_rfl
  a222:=λw=>by kernel_rfl
  z222:=λw=>by kernel_rfl
  v222:=λw=>by kernel_rfl
  t228:=by kernel_rfl
  a228:=λw=>by kernel_rfl
  z228:=λw=>by kernel_rfl
  v228:=λw=>by kernel_rfl
  t229:=by kernel_rfl
  a229:=λw=>by kernel_rfl
  z229:=λw=>by kernel_rfl
  v229:=λw=>by kernel_rfl
theorem sortC : Pv.SortC Try.prog:=λid cap l fz mu n k hl hs h=>sort_call (ren:=renSort) rfl laysSort hl hs h
end Go.Proofs.Ytnnjlnkoomeadaa.Ev
set_option maxRecDepth 1000000
namespace Go.Proofs.Ytnnjlnkoomeadaa.Pv
open Go.Ev
def ml : List Nat:=[16,41,59,63,64,65,66,67,69,82,91,93,94,96,100,106,108,109,117,127,128,129,130,131,132,133,134,137,138,142,147,151,154,155,157,159]
theorem k_law17_ReplicaAcks : FOk Try.prog n_law17_ReplicaAcks a_law17_ReplicaAcks:=⟨by kernel_rfl,Try.f6,mutsOf ml false,Try.func6,by kernel_rfl⟩
theorem k_replica_New : FOk Try.prog n_replica_New a_replica_New:=⟨by kernel_rfl,Try.f21,mutsOf ml false,Try.func21,by kernel_rfl⟩
theorem k_replica_May : FOk Try.prog n_replica_May a_replica_May:=⟨by kernel_rfl,Try.f24,mutsOf ml false,Try.func24,by kernel_rfl⟩
theorem k_replica_Primary : FOk Try.prog n_replica_Primary a_replica_Primary:=⟨by kernel_rfl,Try.f26,mutsOf ml false,Try.func26,by kernel_rfl⟩
theorem k_replica_Committed : FOk Try.prog n_replica_Committed a_replica_Committed:=⟨by kernel_rfl,Try.f28,mutsOf ml false,Try.func28,by kernel_rfl⟩
theorem k_law17_fresh : FOk Try.prog n_law17_fresh a_law17_fresh:=⟨by kernel_rfl,Try.f31,mutsOf ml false,Try.func31,by kernel_rfl⟩
theorem k_replica_Receive : FOk Try.prog n_replica_Receive a_replica_Receive:=⟨by kernel_rfl,Try.f32,mutsOf ml false,Try.func32,by kernel_rfl⟩
theorem k_message_May : FOk Try.prog n_message_May a_message_May:=⟨by kernel_rfl,Try.f38,mutsOf ml false,Try.func38,by kernel_rfl⟩
theorem k_choose_Last : FOk Try.prog n_choose_Last a_choose_Last:=⟨by kernel_rfl,Try.f48,mutsOf ml false,Try.func48,by kernel_rfl⟩
theorem k_repair_Nodes : FOk Try.prog n_repair_Nodes a_repair_Nodes:=⟨by kernel_rfl,Try.f50,mutsOf ml false,Try.func50,by kernel_rfl⟩
theorem k_replica_within : FOk Try.prog n_replica_within a_replica_within:=⟨by kernel_rfl,Try.f52,mutsOf ml false,Try.func52,by kernel_rfl⟩
theorem k_message_MayLog : FOk Try.prog n_message_MayLog a_message_MayLog:=⟨by kernel_rfl,Try.f53,mutsOf ml false,Try.func53,by kernel_rfl⟩
theorem k_slices_ContainsFunc_int_int : FOk Try.prog n_slices_ContainsFunc_int_int a_slices_ContainsFunc_int_int:=⟨by kernel_rfl,Try.f54,mutsOf ml false,Try.func54,by kernel_rfl⟩
theorem k_replica_May_1 : FOk Try.prog n_replica_May_1 a_replica_May_1:=⟨by kernel_rfl,Try.f55,mutsOf ml false,Try.func55,by kernel_rfl⟩
theorem k_replica_Clone : FOk Try.prog n_replica_Clone a_replica_Clone:=⟨by kernel_rfl,Try.f61,mutsOf ml false,Try.func61,by kernel_rfl⟩
theorem k_replica_begin : FOk Try.prog n_replica_begin a_replica_begin:=⟨by kernel_rfl,Try.f62,mutsOf ml false,Try.func62,by kernel_rfl⟩
theorem k_replica_step_acked : FOk Try.prog n_replica_step_acked a_replica_step_acked:=⟨by kernel_rfl,Try.f64,mutsOf ml false,Try.func64,by kernel_rfl⟩
theorem k_replica_step_normal : FOk Try.prog n_replica_step_normal a_replica_step_normal:=⟨by kernel_rfl,Try.f68,mutsOf ml false,Try.func68,by kernel_rfl⟩
theorem k_replica_step_end : FOk Try.prog n_replica_step_end a_replica_step_end:=⟨by kernel_rfl,Try.f70,mutsOf ml false,Try.func70,by kernel_rfl⟩
theorem k_slices_Clone_int_int : FOk Try.prog n_slices_Clone_int_int a_slices_Clone_int_int:=⟨by kernel_rfl,Try.f72,mutsOf ml false,Try.func72,by kernel_rfl⟩
theorem k_message_fields : FOk Try.prog n_message_fields a_message_fields:=⟨by kernel_rfl,Try.f73,mutsOf ml false,Try.func73,by kernel_rfl⟩
theorem k_message_who : FOk Try.prog n_message_who a_message_who:=⟨by kernel_rfl,Try.f74,mutsOf ml false,Try.func74,by kernel_rfl⟩
theorem k_message_number : FOk Try.prog n_message_number a_message_number:=⟨by kernel_rfl,Try.f75,mutsOf ml false,Try.func75,by kernel_rfl⟩
theorem k_message_limits : FOk Try.prog n_message_limits a_message_limits:=⟨by kernel_rfl,Try.f76,mutsOf ml false,Try.func76,by kernel_rfl⟩
theorem k_point_Name : FOk Try.prog n_point_Name a_point_Name:=⟨by kernel_rfl,Try.f77,mutsOf ml false,Try.func77,by kernel_rfl⟩
theorem k_point_Batch : FOk Try.prog n_point_Batch a_point_Batch:=⟨by kernel_rfl,Try.f78,mutsOf ml false,Try.func78,by kernel_rfl⟩
theorem k_message_CloneLog : FOk Try.prog n_message_CloneLog a_message_CloneLog:=⟨by kernel_rfl,Try.f86,mutsOf ml false,Try.func86,by kernel_rfl⟩
theorem k_message_MayEntry : FOk Try.prog n_message_MayEntry a_message_MayEntry:=⟨by kernel_rfl,Try.f88,mutsOf ml false,Try.func88,by kernel_rfl⟩
theorem k_slices_IndexFunc_int_int : FOk Try.prog n_slices_IndexFunc_int_int a_slices_IndexFunc_int_int:=⟨by kernel_rfl,Try.f89,mutsOf ml false,Try.func89,by kernel_rfl⟩
theorem k_slices_Clone_api_Do_api_Do : FOk Try.prog n_slices_Clone_api_Do_api_Do a_slices_Clone_api_Do_api_Do:=⟨by kernel_rfl,Try.f95,mutsOf ml false,Try.func95,by kernel_rfl⟩
theorem k_replica_step_last : FOk Try.prog n_replica_step_last a_replica_step_last:=⟨by kernel_rfl,Try.f97,mutsOf ml false,Try.func97,by kernel_rfl⟩
theorem k_message_CloneEntry : FOk Try.prog n_message_CloneEntry a_message_CloneEntry:=⟨by kernel_rfl,Try.f99,mutsOf ml false,Try.func99,by kernel_rfl⟩
theorem k_replica_step_leads : FOk Try.prog n_replica_step_leads a_replica_step_leads:=⟨by kernel_rfl,Try.f103,mutsOf ml false,Try.func103,by kernel_rfl⟩
theorem k_message_Node : FOk Try.prog n_message_Node a_message_Node:=⟨by kernel_rfl,Try.f111,mutsOf ml false,Try.func111,by kernel_rfl⟩
theorem k_message_Client : FOk Try.prog n_message_Client a_message_Client:=⟨by kernel_rfl,Try.f112,mutsOf ml false,Try.func112,by kernel_rfl⟩
theorem k_slices_ContainsFunc_api_Point_api_Point : FOk Try.prog n_slices_ContainsFunc_api_Point_api_Point a_slices_ContainsFunc_api_Point_api_Point:=⟨by kernel_rfl,Try.f113,mutsOf ml false,Try.func113,by kernel_rfl⟩
theorem k_point_Batch_1 : FOk Try.prog n_point_Batch_1 a_point_Batch_1:=⟨by kernel_rfl,Try.f114,mutsOf ml false,Try.func114,by kernel_rfl⟩
theorem k_point_May : FOk Try.prog n_point_May a_point_May:=⟨by kernel_rfl,Try.f115,mutsOf ml false,Try.func115,by kernel_rfl⟩
theorem k_slices_IndexFunc_api_Point_api_Point : FOk Try.prog n_slices_IndexFunc_api_Point_api_Point a_slices_IndexFunc_api_Point_api_Point:=⟨by kernel_rfl,Try.f145,mutsOf ml false,Try.func145,by kernel_rfl⟩
theorem k_point_Small : FOk Try.prog n_point_Small a_point_Small:=⟨by kernel_rfl,Try.f146,mutsOf ml false,Try.func146,by kernel_rfl⟩
theorem fs : Fs Try.prog:=⟨by kernel_rfl,k_law17_ReplicaAcks,k_replica_New,k_replica_May,k_replica_Primary,k_replica_Committed,k_law17_fresh,k_replica_Receive,k_message_May,k_choose_Last,k_repair_Nodes,k_replica_within,k_message_MayLog,k_slices_ContainsFunc_int_int,k_replica_May_1,k_replica_Clone,k_replica_begin,k_replica_step_acked,k_replica_step_normal,k_replica_step_end,k_slices_Clone_int_int,k_message_fields,k_message_who,k_message_number,k_message_limits,k_point_Name,k_point_Batch,k_message_CloneLog,k_message_MayEntry,k_slices_IndexFunc_int_int,k_slices_Clone_api_Do_api_Do,k_replica_step_last,k_message_CloneEntry,k_replica_step_leads,k_message_Node,k_message_Client,k_slices_ContainsFunc_api_Point_api_Point,k_point_Batch_1,k_point_May,k_slices_IndexFunc_api_Point_api_Point,k_point_Small⟩
end Go.Proofs.Ytnnjlnkoomeadaa.Pv
namespace Go.Ev
set_option linter.unusedVariables false
structure Imp (w : World) (n : Nat) (fz : Fz) (ρ : Rho) : Prop where
  fr : ∀ id,n ≤ id → fz id = none ∧ ρ id = none
  own : ∀ id cs,fz id = some cs → OwnR v0 ρ w id cs
theorem Imp.nil (w : World) : Imp w 0 (λ_=>none) (λ_=>none):=⟨λ_ _=>⟨rfl,rfl⟩,λ_ _ h=>by cases h⟩
theorem Imp.rel {w : World} {n : Nat} {fz : Fz} {ρ : Rho} (h : Imp w n fz ρ) : Rel v0 ρ fz [] w :=
  ⟨λid cs hh=>.inl (h.own id cs hh),λid cs h=>(by cases h),λid cs h=>(by cases h),λid id' p p' h=>(by cases h)⟩
theorem Imp.free {w : World} {n : Nat} {fz : Fz} {ρ : Rho} (h : Imp w n fz ρ) : Free fz [] n:=λj=>(h.fr _ (by omega)).1
theorem Imp.fresh {w : World} {n n' : Nat} {fz : Fz} {ρ : Rho} (h : Imp w n fz ρ) : FreshN ρ n n':=λid h1 _=>(h.fr id h1).2
structure ImpX (n : Nat) (fz : Fz) (ρ : Rho) (n' : Nat) (fz' : Fz) (ρ' : Rho) : Prop where
  le : n ≤ n'
  fz : Sub fz fz'
  rho : ∀ id p,ρ id = some p → ρ' id = some p
theorem ImpX.refl {n : Nat} {fz : Fz} {ρ : Rho} : ImpX n fz ρ n fz ρ:=⟨Nat.le_refl _,Sub.refl _,λ_ _ h=>h⟩
theorem ImpX.trans {n n' n'' : Nat} {fz fz' fz'' : Fz} {ρ ρ' ρ'' : Rho} (h : ImpX n fz ρ n' fz' ρ') (k : ImpX n' fz' ρ' n'' fz'' ρ'') : ImpX n fz ρ n'' fz'' ρ'' :=
  ⟨Nat.le_trans h.le k.le,h.fz.trans k.fz,λ_ _ g=>k.rho _ _ (h.rho _ _ g)⟩
theorem ImpX.vr {n n' : Nat} {fz fz' : Fz} {ρ ρ' : Rho} (h : ImpX n fz ρ n' fz' ρ') {w : World} {s : SV} {v : Value} (g : VR v0 ρ w s v) : VR v0 ρ' w s v:=g.mono h.rho λ_=>Nat.le_refl _
theorem ImpX.vrs {n n' : Nat} {fz fz' : Fz} {ρ ρ' : Rho} (h : ImpX n fz ρ n' fz' ρ') {w : World} {s : List SV} {v : List Value} (g : All2 (VR v0 ρ w) s v) : All2 (VR v0 ρ' w) s v:=g.imp λ_ _ g=>h.vr g
def Im (w : World) (n : Nat) (fz : Fz) (ρ : Rho) (vs : List Value) (q : Fz → List SV → Prop) : Prop :=
  ∃ n' fz' ρ' c,Imp w n' fz' ρ' ∧ ImpX n fz ρ n' fz' ρ' ∧ All2 (VR v0 ρ' w) c vs ∧ knownAll c = true ∧ q fz' c
theorem Im.seq {w : World} {n : Nat} {fz : Fz} {ρ : Rho} {vs us : List Value} {q r : Fz → List SV → Prop} (hq : ∀ {M M' c}, Sub M M' → q M c → q M' c) (h : Im w n fz ρ vs q) (k : ∀ n fz ρ, Imp w n fz ρ → Im w n fz ρ us r) :
    Im w n fz ρ (vs ++ us) λM c=>∃ a b,c = a ++ b ∧ q M a ∧ r M b:=by
  obtain ⟨n1,fz1,ρ1,a,h1,h2,h3,h4,h5⟩:=h
  obtain ⟨n2,fz2,ρ2,b,k1,k2,k3,k4,k5⟩:=k n1 fz1 ρ1 h1
  exact ⟨n2,fz2,ρ2,a ++ b,k1,h2.trans k2,(k2.vrs h3).append k3,by rw [knownAll_app,h4,k4]; rfl,a,b,rfl,hq k2.fz h5,k5⟩
theorem Im.one {w : World} {n : Nat} {fz : Fz} {ρ : Rho} (h : Imp w n fz ρ) {c : List SV} {vs : List Value} (hv : ∀ ρ,All2 (VR v0 ρ w) c vs) (hk : knownAll c = true) : Im w n fz ρ vs λ_ d=>d = c :=
  ⟨n,fz,ρ,c,h,.refl,hv ρ,hk,rfl⟩
theorem Im.mono {w : World} {n : Nat} {fz : Fz} {ρ : Rho} {vs : List Value} {q r : Fz → List SV → Prop} (h : Im w n fz ρ vs q) (hq : ∀ M c,q M c → r M c) : Im w n fz ρ vs r :=
  let ⟨n',fz',ρ',c,h1,h2,h3,h4,h5⟩:=h; ⟨n',fz',ρ',c,h1,h2,h3,h4,hq _ _ h5⟩
theorem imp_slice {w : World} {s : Nat} (hs : 0 < s) {a : Addr} {len cap : Nat} {C : Nat → List Value} (hcells : ∀ i, i < cap → w.cells? 0 (a.add (i * s)) s = some (C i)) (hle : len ≤ cap) (hcap : cap ≤ maxLen)
    {El : Fz → List SV → Nat → Prop} (hm : ∀ {M M' c i},Sub M M' → El M c i → El M' c i) (hel : ∀ i,i < len → ∀ n fz ρ,Imp w n fz ρ → Im w n fz ρ (C i) λM c=>El M c i)
    {n : Nat} {fz : Fz} {ρ : Rho} (h : Imp w n fz ρ) : Im w n fz ρ [.slice (some a) len cap] λM c=>∃ x css,c = [x] ∧ Sl M s x css ∧ css.length = len ∧ ∀ i (hi : i < css.length),El M css[i] i:=by
  have hlen : ∀ i,i < cap → (C i).length = s:=λi hi=>by
    have:=hcells i hi
    unfold World.cells? at this
    rw [if_pos (Nat.zero_le _)] at this
    have:=Go.mapM_some_length this
    simpa using this
  have hcell : ∀ i j,i < cap → j < s → w.cell? ((a.add (i * s)).add j) = (C i)[j]?:=λi j hi hj=>by
    have:=hcells i hi
    unfold World.cells? at this
    rw [if_pos (Nat.zero_le _)] at this
    exact Go.mapM_some_get this j j (by simp [hj])
  -- the elements
  have key : ∀ m,m ≤ len → ∃ (n' : Nat) (fz' : Fz) (ρ' : Rho) (css : List (List SV)),Imp w n' fz' ρ' ∧ ImpX n fz ρ n' fz' ρ' ∧ css.length = m ∧ (∀ i (hi : i < css.length),All2 (VR v0 ρ' w) css[i] (C i)) ∧ (∀ i (hi : i < css.length),knownAll css[i] = true) ∧ ∀ i (hi : i < css.length),El fz' css[i] i:=by
    intro m
    induction m with
    | zero=>exact λ_=>⟨n,fz,ρ,[],h,.refl,rfl,λi hi=>(by simp at hi),λi hi=>(by simp at hi),λi hi=>(by simp at hi)⟩
    | succ m ih =>
      intro hm1
      obtain ⟨n1,fz1,ρ1,css,g1,g2,g3,g4,g5,g6⟩:=ih (by omega)
      obtain ⟨n2,fz2,ρ2,c,k1,k2,k3,k4,k5⟩:=hel m (by omega) n1 fz1 ρ1 g1
      refine ⟨n2,fz2,ρ2,css ++ [c],k1,g2.trans k2,by simp [g3],λi hi=>?_,λi hi=>?_,λi hi=>?_⟩
      all_goals
        rcases Nat.lt_or_ge i css.length with h1 | h1
        · rw [List.getElem_append_left h1]
          first | exact k2.vrs (g4 i h1) | exact g5 i h1 | exact hm k2.fz (g6 i h1)
        · have : i = m:=by simp at hi; omega
          subst this
          rw [List.getElem_append_right h1]
          simp only [g3,Nat.sub_self,List.getElem_cons_zero]
          first | exact k3 | exact k4 | exact k5
  obtain ⟨n1,fz1,ρ1,css,g1,g2,g3,g4,g5,g6⟩:=key len (Nat.le_refl _)
  rcases Nat.eq_zero_or_pos len with h0 | h0
  · subst h0
    exact ⟨n1,fz1,ρ1,[.zsl],g1,g2,⟨⟨a,cap,rfl⟩,trivial⟩,rfl,.zsl,css,rfl,.inl ⟨.inr (.inr rfl),List.length_eq_zero_iff.1 g3⟩,g3,g6⟩
  · have hls : ∀ e ∈ css, e.length = s ∧ knownAll e = true := fun e he => by
      obtain ⟨i,hi,rfl⟩:=List.getElem_of_mem he
      exact ⟨by rw [(g4 i hi).length,hlen i (by omega)],g5 i hi⟩
    have hfl : css.flatten.length = len * s:=by rw [flat_length λe he=>(hls e he).1,g3]
    -- the block
    obtain ⟨B,ty,fr,hB,hsp⟩ : ∃ B ty fr,w.heap[a.block]? = some (.cells B ty fr) ∧ a.spot = none:=by
      have:=hcell 0 0 (by omega) hs
      rw [List.getElem?_eq_getElem (by rw [hlen 0 (by omega)]; exact hs),Nat.zero_mul] at this
      have ha : (a.add 0).add 0 = a:=by simp [Addr.add]
      rw [ha] at this
      unfold World.cell? at this
      split at this
      · rename_i c t f hc
        refine ⟨c,t,f,hc,?_⟩
        split at this
        · cases this
        · rename_i hns; simpa using hns
      · cases this
    have hadd : ∀ k,a.add k = ⟨a.block,a.off + k,none⟩:=λk=>by
      cases a with | mk b o sp =>
      simp only at hsp
      subst hsp
      simp only [Addr.add]
      split
      · rename_i h; subst h; rfl
      · rfl
    have hB2 : ∀ i j,i < cap → j < s → B[a.off + (i * s + j)]? = (C i)[j]?:=λi j hi hj=>by
      rw [← hcell i j hi hj,hadd]
      have : (⟨a.block,a.off + i * s,none⟩ : Addr).add j = ⟨a.block,a.off + i * s + j,none⟩:=by
        simp only [Addr.add]
        split
        · rename_i h; subst h; rfl
        · rfl
      rw [this,Nat.add_assoc]
      simp only [World.cell?,hB]
      rfl
    have hsz : a.off + cap * s ≤ B.size:=by
      have h1:=hB2 (cap - 1) (s - 1) (by omega) (by omega)
      rw [List.getElem?_eq_getElem (by rw [hlen _ (by omega)]; omega)] at h1
      have h2:=(Array.getElem?_eq_some_iff.1 h1).1
      have h3 : (cap - 1) * s + (s - 1) + 1 = cap * s:=by
        obtain ⟨c,rfl⟩ : ∃ c,cap = c + 1:=⟨cap - 1,by omega⟩
        rw [Nat.add_sub_cancel,Nat.add_mul]; omega
      omega
    have hdiv : ∀ k,k < len * s → k / s < len ∧ k % s < s ∧ k = k / s * s + k % s:=λk hk=>⟨Nat.div_lt_of_lt_mul (by rw [Nat.mul_comm]; exact hk),Nat.mod_lt _ hs,by rw [Nat.mul_comm]; exact (Nat.div_add_mod k s).symm⟩
    let ρ2 : Rho:=upd ρ1 n1 (a.block,a.off)
    let fz2 : Fz:=λid=>if id = n1 then some css.flatten else fz1 id
    have hup : ∀ id p,ρ1 id = some p → ρ2 id = some p:=λid p hp=>upd_old (p:=(a.block,a.off)) (g1.fr n1 (Nat.le_refl _)).2 id p hp
    have hx : ImpX n1 fz1 ρ1 (n1 + 1) fz2 ρ2:=⟨by omega,λid B hb=>by
      show (if id = n1 then _ else _) = _
      rw [if_neg (λe=>by subst e; rw [(g1.fr id (Nat.le_refl _)).1] at hb; cases hb)]; exact hb,hup⟩
    refine ⟨n1 + 1,fz2,ρ2,[.osl n1 0 len len s],⟨λid hi=>⟨?_,?_⟩,λid cs hcs=>?_⟩,g2.trans hx,⟨⟨(a.block,a.off),cap,upd_same _ _ _,?_,Nat.le_refl _,hle,?_,?_⟩,trivial⟩,rfl,_,css,rfl,.inr ⟨n1,0,len,css.flatten,by rw [g3],by omega,?_,mkd_known (knownAll_flat hls),by rw [hfl,g3]; omega,?_,hls⟩,g3,λi hi=>hm hx.fz (g6 i hi)⟩
    · show (if id = n1 then _ else _) = none
      rw [if_neg (by omega)]; exact (g1.fr id (by omega)).1
    · show upd ρ1 n1 _ id = none
      unfold upd; rw [if_neg (by omega)]; exact (g1.fr id (by omega)).2
    · have hcs' : (if id = n1 then some css.flatten else fz1 id) = some cs:=hcs
      split at hcs'
      · rename_i e
        subst e
        cases hcs'
        refine ⟨(a.block,a.off),B,ty,fr,upd_same _ _ _,hB,?_,λk sv hk=>?_⟩
        · show a.off + css.flatten.length ≤ B.size
          have : len * s ≤ cap * s:=Nat.mul_le_mul_right _ hle
          omega
        · have hkl : k < len * s:=by rw [← hfl]; exact (List.getElem?_eq_some_iff.1 hk).1
          obtain ⟨d1,d2,d3⟩:=hdiv k hkl
          have hci : k / s < css.length:=by omega
          have h1:=flat_sub (es:=css) (i:=k / s) (k:=k % s) (m:=1) (λe he=>(hls e he).1) hci (by omega)
          rw [← d3] at h1
          have h2 : css.flatten[k]? = (css[k / s])[k % s]?:=by
            have:=congrArg List.head? h1
            rwa [List.head?_take,List.head?_take,if_neg (by omega),if_neg (by omega),List.head?_drop,List.head?_drop] at this
          rw [h2] at hk
          obtain ⟨v,hv,hr⟩:=(g4 _ hci).get hk
          refine ⟨v,?_,VR.mono hr hup λ_=>Nat.le_refl _⟩
          rw [show (a.block,a.off).2 + k = a.off + (k / s * s + k % s) by show a.off + k = _; omega,hB2 _ _ (by omega) d2]; exact hv
      · exact OwnR.mono (g1.own id cs hcs') hup (λ_=>Nat.le_refl _) λ_ _=>rfl
    · show Value.slice (some a) len cap = .slice (some ⟨a.block,a.off + 0,none⟩) len cap
      rw [← hadd 0]; rfl
    · show a.off + 0 + cap * s ≤ bsize w a.block
      unfold bsize; rw [hB]; show _ ≤ B.size; omega
    · unfold maxLen at hcap; omega
    · show (if n1 = n1 then some css.flatten else fz1 n1) = some _
      rw [if_pos rfl]
    · rw [List.drop_zero,List.take_of_length_le]
      rw [hfl,g3]; omega
end Go.Ev
namespace Go.Ev
set_option linter.unusedVariables false
section
variable {H : Type} {enc : TypeId × Value → H} {P : Program} {w : World}
def ImpT {H : Type} (enc : TypeId × Value → H) (P : Program) (w : World) (T : TypeId) (q : Fz → List SV → Prop) : Prop :=
  ∀ fuel cs d ps,DataW.trod enc P w 0 (λ_=>true) true fuel T cs = some (d,ps) → (∀ k ∈ d.weights P T,k ≤ reachBytes) → ∀ n fz ρ,Imp w n fz ρ → Im w n fz ρ cs q
def Mono (q : Fz → List SV → Prop) : Prop:=∀ M M' c,Sub M M' → q M c → q M' c
theorem ImpT.mono {T : TypeId} {q r : Fz → List SV → Prop} (h : ImpT enc P w T q) (hq : ∀ M c,q M c → r M c) : ImpT enc P w T r:=λfuel cs d ps h1 h2 n fz ρ h3=>(h fuel cs d ps h1 h2 n fz ρ h3).mono hq
theorem impT_int {T : TypeId} (ht : P.underlying T = some (.int .i64)) : ImpT enc P w T λ_ c=>∃ i : Int,(Lit.int .i64 i).wf = true ∧ c = [.int .i64 i]:=λfuel cs d ps h _ n fz ρ hi=>by
  obtain ⟨i,rfl,_,hw⟩:=DataW.trod_int ht h
  exact (Im.one hi (c:=[.int .i64 i]) (vs:=[.int .i64 i]) (λ_=>⟨rfl,trivial⟩) rfl).mono λ_ _ h=>⟨i,hw,h⟩
theorem weights_each {ts : List TypeId} {ds : List (DataW H)} {i : Nat} {t : TypeId} {d : DataW H} (ht : ts[i]? = some t) (hd : ds[i]? = some d) : ∀ k ∈ d.weights P t,k ∈ DataW.weightsEach P ts ds:=λk hk=>DataW.weights_mem_each ht hd k hk
theorem weights_all {e : TypeId} : ∀ {ds : List (DataW H)} {d : DataW H},d ∈ ds → ∀ k ∈ d.weights P e,k ∈ DataW.weightsAll P e ds
  | [],_,h,_,_=>by cases h
  | x :: ds,d,h,k,hk=>by
    simp only [DataW.weightsAll,List.mem_append]
    rcases List.mem_cons.1 h with rfl | h
    · exact .inl hk
    · exact .inr (weights_all h k hk)
theorem impT_slice {T e : TypeId} (ht : P.underlying T = some (.slice e)) {s b : Nat} (hs : P.cellsOf e = s) (hs0 : 0 < s) (hb : P.bytesOf e = b) {q : Fz → List SV → Prop} (hm : Mono q) (hi : ImpT enc P w e q) :
    ImpT enc P w T λM c=>∃ x css,c = [x] ∧ Sl M s x css ∧ css.length * b ≤ reachBytes ∧ ∀ d ∈ css,q M d:=λfuel cs d ps h hwt n fz ρ himp=>by
  rcases Go.Deep.open_slice ht h with ⟨rfl,_⟩ | ⟨a,len,cap,m,k,D,Pl,rfl,_,hle,hcap,hmm,hx,hel⟩
  · exact (Im.one himp (c:=[.nsl]) (vs:=[.slice none 0 0]) (λ_=>⟨rfl,trivial⟩) rfl).mono λM c hc=>⟨.nsl,[],hc,.inl ⟨.inl rfl,rfl⟩,by simp,λd hd=>(by cases hd)⟩
  · have hmm : m = cap:=hmm
    rw [hmm] at hx hel
    have hd : d = .slice ((List.range len).map D) ((List.range (cap - len)).map λj=>D (len + j)):=congrArg Prod.fst hx
    subst hd
    have hel' : ∀ i,i < cap → ∃ cs',w.cells? 0 (a.add (i * s)) s = some cs' ∧ DataW.trod enc P w 0 (λ_=>true) true k e cs' = some (D i,Pl i):=λi hi=>by rw [← hs]; exact hel i hi
    have hC : ∃ C : Nat → List Value,∀ i,i < cap → w.cells? 0 (a.add (i * s)) s = some (C i) ∧ DataW.trod enc P w 0 (λ_=>true) true k e (C i) = some (D i,Pl i):=by
      refine ⟨λi=>((w.cells? 0 (a.add (i * s)) s).getD []),λi hi=>?_⟩
      obtain ⟨cs',h1,h2⟩:=hel' i hi
      simp only [h1,Option.getD_some]; exact ⟨trivial,h2⟩
    obtain ⟨C,hC⟩:=hC
    have hw1 : ∀ i,i < len → ∀ k ∈ (D i).weights P e,k ≤ reachBytes:=λi hi k hk=>hwt k (by
      simp only [DataW.weights,ht,List.mem_cons,List.mem_append]
      exact .inr (.inl (weights_all (List.mem_map.2 ⟨i,by simpa using hi,rfl⟩) k hk)))
    have hw2 : len * b ≤ reachBytes:=by
      have:=hwt _ (by simp only [DataW.weights,ht,List.mem_cons]; exact .inl rfl)
      simp only [List.length_map,List.length_range,hb] at this
      have h3 : len * b ≤ (len + (cap - len)) * b:=Nat.mul_le_mul_right _ (by omega)
      omega
    refine (imp_slice hs0 (C:=C) (λi hi=>(hC i hi).1) hle hcap (El:=λM c _=>q M c) (λhs hq=>hm _ _ _ hs hq) (λi hi' n fz ρ h=>hi k (C i) _ _ (hC i (by omega)).2 (hw1 i hi') n fz ρ h) himp).mono ?_
    rintro M c ⟨x,css,rfl,h1,h2,h3⟩
    refine ⟨x,css,rfl,h1,by rw [h2]; exact hw2,λd hd=>?_⟩
    obtain ⟨i,hi,rfl⟩:=List.getElem_of_mem hd
    exact h3 i hi
end
end Go.Ev
namespace Go.Proofs.Ytnnjlnkoomeadaa.Pv
open Go.Ev Go.Ev.Rp
set_option maxRecDepth 100000
set_option linter.unusedVariables false
def qI : Fz → List SV → Prop:=λ_ c=>∃ i : Int,(Lit.int .i64 i).wf = true ∧ c = [I i]
structure LgW (l : Lg) : Prop where
  snap : l.snap.l ≤ reachBytes
  ents : l.ents.length * 56 ≤ reachBytes
  bat : ∀ e ∈ l.ents,e.batch.length * 32 ≤ reachBytes
structure RepW (r : Rep) : Prop where
  log : LgW r.log
  acks : r.acks.length * 8 ≤ reachBytes
  starts : r.starts.length * 8 ≤ reachBytes
  dos : r.dos.length * 72 ≤ reachBytes
  dlog : ∀ d ∈ r.dos,LgW d.log
def qIs : Fz → List SV → Prop:=λM c=>∃ x l,c = [x] ∧ IntsR M x l ∧ l.length * 8 ≤ reachBytes
theorem qI_m : Mono qI:=λ_ _ _ _ h=>h
section
variable {H : Type} {enc : TypeId × Value → H} {w : World}
theorem im_int : ImpT enc Try.prog w 3 qI:=impT_int Try.underlying3
theorem im_ints : ImpT enc Try.prog w 25 qIs:=by
  refine (impT_slice Try.underlying25 (s:=1) (b:=8) (by decide +kernel) (by decide) (by decide +kernel) qI_m im_int).mono ?_
  rintro M c ⟨x,css,rfl,h1,h2,h3⟩
  have hl : ∃ l : List Int,css = l.map intC:=by
    clear h1 h2
    induction css with
    | nil=>exact ⟨[],rfl⟩
    | cons d css ih =>
      obtain ⟨l,hl⟩:=ih λd hd=>h3 d (by simp [hd])
      obtain ⟨i,-,rfl⟩:=h3 d (by simp)
      exact ⟨i :: l,by rw [hl]; rfl⟩
  obtain ⟨l,rfl⟩:=hl
  exact ⟨x,l,rfl,h1,by simpa using h2⟩
end
end Go.Proofs.Ytnnjlnkoomeadaa.Pv
namespace Go.Ev
set_option linter.unusedVariables false
theorem ctr_of_says {P : Program} {f : Nat} (hb : hasBody P f = true) (h : SaysTrue P f) : Ctr P f [] (λ_=>True) λ_ _ _ v=>v = .one (.bool true):=λfz mu n k hfr _ hk =>
  ⟨.one (.bool true),mu,n,hk _ _ _ (Gr.refl hfr) rfl,hb,Nat.le_refl _,λρ w xs hr hx hf=>by
    cases xs with
    | cons _ _=>exact hx.elim
    | nil=>exact (h w).mono λe w' ⟨he,hf⟩=>⟨_,he,ρ,Ext.refl _ _ _,hr.grow hf,rfl,hf.any,λid p hl hp=>.inr ⟨id,p,hl,hp,rfl⟩,NewI.refl⟩⟩
theorem calls_of_CP {P : Program} {f : Nat} {avs : List AV} {fz : Fz} {n : Nat} {ρ : Rho} {w : World} {xs : List Value} (h : CP P f avs fz [] n fun v _ _ => v = .one (.bool true)) (hi : Imp w n fz ρ) (hx : All2 (AVR v0 ρ w) avs xs) :
    Calls P f xs.toArray w λe w'=>e = .returned (.bool true) ∧ Fr ρ [] w w':=by
  obtain ⟨v,mu',n',rfl,hb,hle,hc⟩:=h
  refine (hc ρ w xs hi.rel hx hi.fresh).mono λe w' ⟨x,he,ρ',h1,h2,h3,h4,_⟩=>⟨?_,h4⟩
  have : x = .bool true:=h3
  rw [he,this]
section
open Go.ChangeShapes Go.WideShapes Go.RowKit
variable {H : Type} {enc : TypeId × Value → H} {P : Program}
theorem trodAll_stays (hl : laidOutB P = true) {W W' : World} (hb : Below W.heap.size W W') {sp : Nat → Bool} : ∀ {ts : List TypeId} {vs : List Value} {ds : List (DataW H)} {ps : List MemPlace}, (∀ t ∈ ts, P.readableRec t = true ∧ t < P.types.size) →
    DataW.TrodAll enc P W 0 (λ_=>true) true ts vs ds ps → (∀ x ∈ ps,x.block < W.heap.size) → (∀ p ∈ ps,sp p.block = true) → DataW.TrodAll enc P W' 0 sp true ts vs ds ps
  | [],[],[],_,_,h,_,_=>h
  | t :: ts, v :: vs, d :: ds, ps, ht, ⟨p, q, h1, h2, he⟩, hlt, hs => ⟨p, q, WideElems.Trod_stays hl (ht t (by simp)).1 (ht t (by simp)).2 h1 (fun x hx => hb.same (hlt x (by rw [he]; simp [hx]))) (fun x hx => hs x (by rw [he]; simp [hx])),
      trodAll_stays hl hb (λt h=>ht t (by simp [h])) h2 (λx hx=>hlt x (by rw [he]; simp [hx])) (λx hx=>hs x (by rw [he]; simp [hx])),he⟩
  | [],_ :: _,_,_,_,h,_,_=>h.elim
  | [],[],_ :: _,_,_,h,_,_=>h.elim
  | _ :: _,[],_,_,_,h,_,_=>h.elim
  | _ :: _,_ :: _,[],_,_,h,_,_=>h.elim
theorem Fr.below {ρ : Rho} {w w' : World} (h : Fr ρ [] w w') : Below w.heap.size w w':=⟨h.os,h.tape,h.output,h.size,λk hk=>h.keep k hk λid p hl=>by cases hl⟩
theorem post_law {f : Func} {s : ChangeSpec} {apart fresh handsOn again : Bool} {W W' : World} {args : Array Value} {ds gs : List (DataW H)} {before : List MemPlace} {ρ : Rho} {tb : TypeId} (hl : laidOutB P = true) (hts : ∀ t ∈ f.params.toList, P.readableRec t = true ∧ t < P.types.size)
    (hv : s.vars = []) (hr : f.resultTypes = #[tb]) (htb : P.underlying tb = some .bool) (hs : (s.fn H (ds ++ gs)).results = [.lit (.bool true)]) (hs2 : (s.fn H (ds ++ gs)).args = ds) (hs3 : (s.fn H (ds ++ gs)).vars = [])
    (hW : DataW.Whole enc P f.params.toList s.vars apart W args.toList ds gs before) (hf : Fr ρ [] W W') : s.post enc P f apart fresh handsOn again W args (.bool true) W':=by
  have hlt:=hW.lt
  have hW':=hW
  obtain ⟨p,q,hA,hV,rfl,hfz,hnd⟩:=hW
  have hq : q = []:=by
    rw [hv] at hV
    cases gs with
    | nil=>exact hV
    | cons g gs=>exact hV.elim
  subst hq
  have hg:=hf.grown
  refine post_of_grown (pa:=p) (pv:=[]) hW' (λb sp hd=>?_) (λsp hsp=>?_) (λsp hsp=>?_) rfl (hg.frame _) hg.2.1 ?_
  · rw [hs,hr]; exact trodAll_cons_mk (shut_bool htb _) trodAll_mk0
  · rw [hs2]; exact trodAll_stays hl (Fr.below hf) hts hA (λx hx=>hlt x (by simp [hx])) (λx hx=>hsp x (by simp [hx]))
  · rw [hs3,hv]; exact rfl
  · exact ok_one hr rfl (okWide_bool_mk htb _)
end
end Go.Ev
