/-
  ReplicaOld: part 4 of what the proof is made of.
-/
import Derived.Test.YtnnjlnkoomeadaaReplicaOldP3
import Derived.Test.YtnnjlnkoomeadaaRows
import Derived.KernelRfl
set_option linter.unusedVariables false
set_option linter.unusedSimpArgs false
namespace Go.Ev
section
variable {R : Type}
noncomputable def onw (next : TM → St → Nat → R) (k : AExit → TM → St → Nat → R) : AExit → TM → St → Nat → R:=λe tm mu n=>AExit.rec (motive:=λ_=>R) (next tm mu n) (λid=>k (.exit id) tm mu n) (k .ret tm mu n) e
noncomputable def inB (id : Nat) (k : AExit → TM → St → Nat → R) : AExit → TM → St → Nat → R:=λe tm mu n=>AExit.rec (motive:=λ_=>R) (k .normal tm mu n) (λid'=>cond (Nat.beq id' id) (k .normal tm mu n) (k (.exit id') tm mu n)) (k .ret tm mu n) e
noncomputable def loopD (z : R) (a : TM → St → Nat → (AExit → TM → St → Nat → R) → R) (fuel : Nat) : TM → St → Nat → (AExit → TM → St → Nat → R) → R :=
  Nat.rec (motive:=λ_=>TM → St → Nat → (AExit → TM → St → Nat → R) → R) (λ_ _ _ _=>z) (λ_ ih tm mu n k=>a tm mu n (onw (ih · · · k) k)) fuel
noncomputable def dcode (orc : Orc R) (z : R) (call : CallT R) (fz : Fz) (fuel : Nat) : ACode → TM → St → Nat → (AExit → TM → St → Nat → R) → R
  | .skip,tm,mu,n,k=>k .normal tm mu n
  | .reg ops,tm,mu,n,k=>runK orc z call fz ops tm mu n (k .normal)
  | .draw ops,tm,mu,n,k=>drawK orc z call fz ops tm mu n (k .normal)
  | .seq a b,tm,mu,n,k=>dcode orc z call fz fuel a tm mu n (onw (dcode orc z call fz fuel b · · · k) k)
  | .cond x a b,tm,mu,n,k=>(ev tm x).onOne z λs=>s.onBool z λt=>cond t (dcode orc z call fz fuel a tm mu n k) (dcode orc z call fz fuel b tm mu n k)
  | .blk id a,tm,mu,n,k=>dcode orc z call fz fuel a tm mu n (inB id k)
  | .loop a,tm,mu,n,k=>loopD z (dcode orc z call fz fuel a) fuel tm mu n k
  | .exit id,tm,mu,n,k=>k (.exit id) tm mu n
  | .ret,tm,mu,n,k=>k .ret tm mu n
  | .bad,_,_,_,_=>z
end
section
variable {R : Type} {T : R → Prop} {z : R} {P : Program} {val : Nat → Int} {fz : Fz} {orc : Orc R} {call : CallT R}
def CodeD (P : Program) (val : Nat → Int) (fz : Fz) (c : Code) (tm : TM) (mu : St) (n : Nat) (e : AExit) (tm' : TM) (mu' : St) (n' : Nat) : Prop :=
  n ≤ n' ∧ ∀ ρ w a,Rel val ρ fz mu w → TmR val ρ w tm a → FreshN ρ n n' → ∀ (Q : Exit → Act → World → Prop),(∀ a' w',PostS val ρ fz mu n w a tm' mu' n' a' w' → Q e.toExit a' w') → c.wp P Q a w
theorem codeD_same {c : Code} {tm : TM} {mu : St} {n : Nat} {e : AExit} (h : ∀ (Q : Exit → Act → World → Prop) a w,Q e.toExit a w → c.wp P Q a w) : CodeD P val fz c tm mu n e tm mu n :=
  ⟨Nat.le_refl _,λ_ w a hr ht _ Q hQ=>h Q a w (hQ a w (PostS.refl hr ht))⟩
theorem loopD_sound (hz : ¬ T z) {a : Code} {D : TM → St → Nat → (AExit → TM → St → Nat → R) → R}
    (ha : ∀ {tm : TM} {mu : St} {n : Nat} {k : AExit → TM → St → Nat → R},T (D tm mu n k) → ∃ e tm' mu' n',T (k e tm' mu' n') ∧ CodeD P val fz a tm mu n e tm' mu' n') :
    ∀ (fuel : Nat) {tm : TM} {mu : St} {n : Nat} {k : AExit → TM → St → Nat → R},T (loopD z D fuel tm mu n k) →
    ∃ e tm' mu' n',T (k e tm' mu' n') ∧ n ≤ n' ∧ ∀ ρ w act,Rel val ρ fz mu w → TmR val ρ w tm act → FreshN ρ n n' → ∀ (Q : Exit → Act → World → Prop),(∀ a' w',PostS val ρ fz mu n w act tm' mu' n' a' w' → Q e.toExit a' w') → Code.rounds P a Q fuel act w
  | 0,tm,mu,n,k,h=>(hz h).elim
  | fuel + 1,tm,mu,n,k,h=>by
    obtain ⟨e,tm1,mu1,n1,h1,h2⟩:=ha (show T (D tm mu n (onw (loopD z D fuel · · · k) k)) from h)
    cases e with
    | normal =>
      obtain ⟨e2,tm2,mu2,n2,h3,h4,h5⟩:=loopD_sound hz ha fuel (show T (loopD z D fuel tm1 mu1 n1 k) from h1)
      refine ⟨e2,tm2,mu2,n2,h3,Nat.le_trans h2.1 h4,λρ w act hr ht hf Q hQ=>?_⟩
      refine h2.2 ρ w act hr ht (hf.sub (Nat.le_refl _) h4) (Exit.then (Code.rounds P a Q fuel) Q) λa1 w1 hp=>?_
      obtain ⟨d,ρ1,p1,p2,p3,p4,p5,p6⟩:=hp
      refine h5 ρ1 w1 a1 p2 p3 (hf.later p1 h2.1) Q λa2 w2 hp2=>hQ a2 w2 ?_
      exact PostS.trans d p1 p4 p5 p6 h2.1 h4 hp2
    | exit id=>exact ⟨.exit id,tm1,mu1,n1,h1,h2.1,λρ w act hr ht hf Q hQ=>h2.2 ρ w act hr ht hf (Exit.then (Code.rounds P a Q fuel) Q) hQ⟩
    | ret=>exact ⟨.ret,tm1,mu1,n1,h1,h2.1,λρ w act hr ht hf Q hQ=>h2.2 ρ w act hr ht hf (Exit.then (Code.rounds P a Q fuel) Q) hQ⟩
theorem dcode_sound (hz : ¬ T z) (hc : CallSound T P val call) (hk : OrcOk T val orc) (hmx : P.follows .mixedOrders = true) {m : Muts} {fuel : Nat} : ∀ (c : Code) {ac : ACode} {tm : TM} {mu : St} {n : Nat} {k : AExit → TM → St → Nat → R}, prepCode P m c = some ac → T (dcode orc z call fz fuel ac tm mu n k) →
    ∃ e tm' mu' n',T (k e tm' mu' n') ∧ CodeD P val fz c tm mu n e tm' mu' n'
  | .skip,ac,tm,mu,n,k,hp,h=>by
    simp only [prepCode,Option.some.injEq] at hp; subst hp
    exact ⟨.normal,tm,mu,n,h,codeD_same λQ a w hq=>wp_skip hq⟩
  | .label l,ac,tm,mu,n,k,hp,h=>by
    simp only [prepCode,Option.some.injEq] at hp; subst hp
    exact ⟨.normal,tm,mu,n,h,codeD_same λQ a w hq=>wp_label hq⟩
  | .exit id,ac,tm,mu,n,k,hp,h=>by
    simp only [prepCode,Option.some.injEq] at hp; subst hp
    exact ⟨.exit id,tm,mu,n,h,codeD_same λQ a w hq=>wp_exit hq⟩
  | .ret,ac,tm,mu,n,k,hp,h=>by
    simp only [prepCode,Option.some.injEq] at hp; subst hp
    exact ⟨.ret,tm,mu,n,h,codeD_same λQ a w hq=>wp_ret hq⟩
  | .region id ops false,ac,tm,mu,n,k,hp,h=>by
    simp only [prepCode] at hp
    split at hp
    · rename_i al h1
      cases hp
      obtain ⟨tm',mu',n',h2,h3,h4⟩:=runK_sound (P:=P) (val:=val) hz hc hk (prepOpers_R h1) (show T (runK orc z call fz al tm mu n (k .normal)) from h)
      exact ⟨.normal,tm',mu',n',h2,h3,λρ w a hr ht hf Q hQ=>wp_region_list (h4 ρ w a hr ht hf Q hQ)⟩
    · cases hp; exact (hz h).elim
  | .region id ops true,ac,tm,mu,n,k,hp,h=>by
    simp only [prepCode] at hp
    split at hp
    · rename_i l h1
      split at hp
      · rename_i hok
        cases hp
        have hR : All2 (OpR P ops) ops.toList (modes l (ancs ops.toList [])):=by
          have hl:=prepOpers_R h1
          have hlen : (modes l (ancs ops.toList [])).length = ops.toList.length:=modes_length h1
          refine All2.of_get hlen.symm λi o ao ho hao=>?_
          obtain ⟨ao',h2,h3⟩:=hl.get ho
          exact h3.same (modes_get h2 hao)
        obtain ⟨tm',mu',n',h2,h3,h4⟩:=draw_sound (P:=P) (val:=val) (id:=id) hz hc hk hmx hok hR (show T (drawK orc z call fz _ tm mu n (k .normal)) from h)
        exact ⟨.normal,tm',mu',n',h2,h3,λρ w a hr ht hf Q hQ=>h4 ρ w a hr ht hf Q hQ⟩
      · cases hp; exact (hz h).elim
    · cases hp; exact (hz h).elim
  | .seq a b,ac,tm,mu,n,k,hp,h=>by
    simp only [prepCode] at hp
    split at hp
    · rename_i x y hx hy
      cases hp
      obtain ⟨e,tm1,mu1,n1,h1,h2⟩:=dcode_sound hz hc hk hmx a hx (show T (dcode orc z call fz fuel x tm mu n (onw (dcode orc z call fz fuel y · · · k) k)) from h)
      cases e with
      | normal =>
        obtain ⟨e2,tm2,mu2,n2,h3,h4⟩:=dcode_sound hz hc hk hmx b hy (show T (dcode orc z call fz fuel y tm1 mu1 n1 k) from h1)
        refine ⟨e2,tm2,mu2,n2,h3,Nat.le_trans h2.1 h4.1,λρ w a hr ht hf Q hQ=>wp_seq ?_⟩
        refine h2.2 ρ w a hr ht (hf.sub (Nat.le_refl _) h4.1) _ λa1 w1 hp=>?_
        obtain ⟨d,ρ1,p1,p2,p3,p4,p5,p6⟩:=hp
        refine h4.2 ρ1 w1 a1 p2 p3 (hf.later p1 h2.1) Q λa2 w2 hp2=>hQ a2 w2 ?_
        exact PostS.trans d p1 p4 p5 p6 h2.1 h4.1 hp2
      | exit id=>exact ⟨.exit id,tm1,mu1,n1,h1,h2.1,λρ w a hr ht hf Q hQ=>wp_seq (h2.2 ρ w a hr ht hf (Exit.then (b.wp P Q) Q) hQ)⟩
      | ret=>exact ⟨.ret,tm1,mu1,n1,h1,h2.1,λρ w a hr ht hf Q hQ=>wp_seq (h2.2 ρ w a hr ht hf (Exit.then (b.wp P Q) Q) hQ)⟩
    · cases hp
  | .cond c a b,ac,tm,mu,n,k,hp,h=>by
    simp only [prepCode] at hp
    split at hp
    · rename_i c' x y hcd hx hy
      cases hp
      have h' : T ((ev tm c').onOne z λs=>s.onBool z λt=>cond t (dcode orc z call fz fuel x tm mu n k) (dcode orc z call fz fuel y tm mu n k)):=h
      obtain ⟨s,e1,h1⟩:=onOne_elim hz h'
      obtain ⟨t,rfl,h2⟩:=onBool_elim hz h1
      have hev : ∀ ρ w (act : Act),TmR val ρ w tm act → act.eval c = .bool t:=λρ w act ht=>by
        have:=ht.ev hcd
        rw [e1] at this
        exact this
      cases t with
      | true =>
        obtain ⟨e,tm1,mu1,n1,h3,h4⟩:=dcode_sound hz hc hk hmx a hx h2
        exact ⟨e,tm1,mu1,n1,h3,h4.1,λρ w act hr ht hf Q hQ=>wp_cond_true (hev ρ w act ht) (h4.2 ρ w act hr ht hf Q hQ)⟩
      | false =>
        obtain ⟨e,tm1,mu1,n1,h3,h4⟩:=dcode_sound hz hc hk hmx b hy h2
        exact ⟨e,tm1,mu1,n1,h3,h4.1,λρ w act hr ht hf Q hQ=>wp_cond_false (hev ρ w act ht) (h4.2 ρ w act hr ht hf Q hQ)⟩
    · cases hp
  | .block id a,ac,tm,mu,n,k,hp,h=>by
    simp only [prepCode] at hp
    obtain ⟨x,hx,rfl⟩:=Option.map_eq_some_iff.1 hp
    obtain ⟨e,tm1,mu1,n1,h1,h2⟩:=dcode_sound hz hc hk hmx a hx (show T (dcode orc z call fz fuel x tm mu n (inB id k)) from h)
    cases e with
    | normal=>exact ⟨.normal,tm1,mu1,n1,h1,h2.1,λρ w a hr ht hf Q hQ=>wp_block (h2.2 ρ w a hr ht hf (Exit.inBlock id Q) hQ)⟩
    | ret=>exact ⟨.ret,tm1,mu1,n1,h1,h2.1,λρ w a hr ht hf Q hQ=>wp_block (h2.2 ρ w a hr ht hf (Exit.inBlock id Q) hQ)⟩
    | exit id' =>
      have h1' : T (cond (Nat.beq id' id) (k .normal tm1 mu1 n1) (k (.exit id') tm1 mu1 n1)):=h1
      cases hb : Nat.beq id' id with
      | true =>
        rw [hb] at h1'
        have:=Nat.eq_of_beq_eq_true hb
        subst this
        refine ⟨.normal,tm1,mu1,n1,h1',h2.1,λρ w a hr ht hf Q hQ=>wp_block (h2.2 ρ w a hr ht hf _ λa' w' hp=>?_)⟩
        show Exit.inBlock id' Q (.exit id') a' w'
        simp only [Exit.inBlock,if_true]
        exact hQ a' w' hp
      | false =>
        rw [hb] at h1'
        have:=Nat.ne_of_beq_eq_false hb
        refine ⟨.exit id',tm1,mu1,n1,h1',h2.1,λρ w a hr ht hf Q hQ=>wp_block (h2.2 ρ w a hr ht hf _ λa' w' hp=>?_)⟩
        show Exit.inBlock id Q (.exit id') a' w'
        simp only [Exit.inBlock,this,if_false]
        exact hQ a' w' hp
  | .loop a,ac,tm,mu,n,k,hp,h=>by
    simp only [prepCode] at hp
    obtain ⟨x,hx,rfl⟩:=Option.map_eq_some_iff.1 hp
    obtain ⟨e,tm1,mu1,n1,h1,h2,h3⟩:=loopD_sound (P:=P) (val:=val) (fz:=fz) (a:=a) hz (λh=>dcode_sound hz hc hk hmx a hx h) fuel (show T (loopD z (dcode orc z call fz fuel x) fuel tm mu n k) from h)
    exact ⟨e,tm1,mu1,n1,h1,h2,λρ w act hr ht hf Q hQ=>wp_loop_rounds _ (h3 ρ w act hr ht hf Q hQ)⟩
  | .scope a,ac,tm,mu,n,k,hp,h=>by
    simp only [prepCode] at hp
    obtain ⟨e,tm1,mu1,n1,h1,h2⟩:=dcode_sound hz hc hk hmx a hp h
    refine ⟨e,tm1,mu1,n1,h1,h2.1,λρ w act hr ht hf Q hQ=>wp_scope_straight (h2.2 ρ w act hr ht hf _ λa' w' hp=>?_)⟩
    cases e <;> exact hQ a' w' hp
  | .goto l,ac,tm,mu,n,k,hp,h=>by
    simp only [prepCode,Option.some.injEq] at hp; subst hp
    exact (hz h).elim
  | .rangeFunc ..,ac,tm,mu,n,k,hp,h=>by
    simp only [prepCode,Option.some.injEq] at hp; subst hp
    exact (hz h).elim
  | .refuse _,ac,tm,mu,n,k,hp,h=>by
    simp only [prepCode,Option.some.injEq] at hp; subst hp
    exact (hz h).elim
end
end Go.Ev
namespace Go.Ev
inductive BC where
  | norm
  | ret
  | bad
  | exit (id : Nat)
  | reg (ops : List AOper) (next : BC)
  | draw (ops : List AOper) (next : BC)
  | ite (x : Od) (a b : BC)
  | iteN (x : Od) (a b next : BC)
  | test (x : Od) (id : Nat) (next : BC)
  | blk (id : Nat) (a next : BC)
  | loop (a next : BC)
def BC.isNorm : BC → Bool
  | .norm=>true
  | _=>false
def ACode.testId : ACode → ACode → Option Nat
  | .skip,.exit id=>some id
  | _,_=>none
noncomputable def flat (c : ACode) : BC → BC:=ACode.rec (motive:=λ_=>BC → BC)
  (λnx=>nx)
  (λops nx=>.reg ops nx)
  (λops nx=>.draw ops nx)
  (λ_ _ iha ihb nx=>iha (ihb nx))
  (λx a b iha ihb nx=>Bool.rec (motive:=λ_=>BC) (Option.rec (motive:=λ_=>BC) (.iteN x (iha .norm) (ihb .norm) nx) (λid=>.test x id nx) (ACode.testId a b)) (.ite x (iha .norm) (ihb .norm)) nx.isNorm)
  (λid _ iha nx=>.blk id (iha .norm) nx)
  (λ_ iha nx=>.loop (iha .norm) nx)
  (λid _=>.exit id)
  (λ_=>.ret)
  (λ_=>.bad) c
end Go.Ev
namespace Go.Ev
noncomputable def fg (kp : Nat → Bool) (tm : TM) : TM:=tm.zipIdx.map λp=>p.1.zipIdx.map λs=>cond (kp (16 * p.2 + s.2)) s.1 (.one .un)
theorem row_fg (kp : Nat → Bool) (tm : TM) (q : Nat) : (fg kp tm)[q]? = (tm[q]?).map λrow=>row.zipIdx.map λs=>cond (kp (16 * q + s.2)) s.1 (.one .un):=by
  unfold fg
  rw [List.getElem?_map,List.getElem?_zipIdx]
  cases tm[q]? <;> simp
theorem inR_fg {kp : Nat → Bool} {tm : TM} {q r : Nat} : inR (fg kp tm) q r ↔ inR tm q r:=by
  unfold inR
  rw [row_fg]
  cases tm[q]? <;> simp
theorem get_fg (kp : Nat → Bool) (tm : TM) (q r : Nat) : get (fg kp tm) q r = cond (kp (16 * q + r)) (get tm q r) (.one .un):=by
  unfold get
  rw [nth_eq,nth_eq,nth_eq,nth_eq,row_fg]
  cases tm[q]? with
  | none=>simp
  | some row =>
    simp only [Option.map_some,Option.getD_some,List.getElem?_map,List.getElem?_zipIdx,Nat.zero_add]
    cases row[r]? with
    | none=>simp
    | some v=>simp
theorem TmR.fg {val : Nat → Int} {ρ : Rho} {w : World} {tm : TM} {a : Act} (kp : Nat → Bool) (h : TmR val ρ w tm a) : TmR val ρ w (fg kp tm) a:=by
  refine ⟨λt ht=>h.rng t (inR_fg.1 ht),λt=>?_⟩
  rw [get_fg]
  cases kp (16 * (t / 16) + t % 16) with
  | true=>exact h.vals t
  | false=>trivial
theorem PostS.fg {val : Nat → Int} {ρ : Rho} {fz : Fz} {mu : St} {n : Nat} {w : World} {a : Act} {tm' : TM} {mu' : St} {n' : Nat} {a' : Act} {w' : World} (kp : Nat → Bool) (h : PostS val ρ fz mu n w a tm' mu' n' a' w') : PostS val ρ fz mu n w a (fg kp tm') mu' n' a' w':=by
  obtain ⟨d,ρ',p1,p2,p3,p4⟩:=h
  exact ⟨d,ρ',p1,p2,p3.fg kp,p4⟩
def BC.tst : BC → Bool
  | .ite ..=>true
  | .iteN ..=>true
  | .test ..=>true
  | _=>false
section
variable {R : Type}
noncomputable def inBN (id : Nat) (next : TM → St → Nat → R) (k : AExit → TM → St → Nat → R) : AExit → TM → St → Nat → R:=λe tm mu n=>AExit.rec (motive:=λ_=>R) (next tm mu n) (λid'=>cond (Nat.beq id' id) (next tm mu n) (k (.exit id') tm mu n)) (k .ret tm mu n) e
noncomputable def onIf (z : R) (v : AV) (a b : R) : R:=v.onOne z λs=>s.onBool z λt=>cond t a b
noncomputable def runKf (orc : Orc R) (z : R) (call : CallT R) (fz : Fz) (kp : Nat → Bool) (ops : List AOper) : Nat → TM → St → Nat → (TM → St → Nat → R) → R :=
  List.rec (motive:=λ_=>Nat → TM → St → Nat → (TM → St → Nat → R) → R) (λ_ tm mu n k=>k tm mu n)
    (λo _ ih c tm mu n k=>Nat.rec (motive:=λ_=>R) (stepK orc z call fz o (fg kp tm) mu n λtm mu n=>ih 9 tm mu n k) (λc _=>stepK orc z call fz o tm mu n λtm mu n=>ih c tm mu n k) c) ops
noncomputable def bcode (orc : Orc R) (z : R) (call : CallT R) (fz : Fz) (fuel : Nat) (kp : Nat → Bool) : BC → TM → St → Nat → (AExit → TM → St → Nat → R) → R
  | .norm,tm,mu,n,k=>k .normal tm mu n
  | .ret,tm,mu,n,k=>k .ret tm mu n
  | .bad,_,_,_,_=>z
  | .exit id,tm,mu,n,k=>k (.exit id) tm mu n
  | .reg ops nx,tm,mu,n,k=>runKf orc z call fz kp ops 10 tm mu n λtm mu n=>bcode orc z call fz fuel kp nx (cond nx.tst tm (fg kp tm)) mu n k
  | .draw ops nx,tm,mu,n,k=>drawK orc z call fz ops tm mu n λtm mu n=>bcode orc z call fz fuel kp nx (cond nx.tst tm (fg kp tm)) mu n k
  | .ite x a b,tm,mu,n,k=>onIf z (ev tm x) (bcode orc z call fz fuel kp a (fg kp tm) mu n k) (bcode orc z call fz fuel kp b (fg kp tm) mu n k)
  | .iteN x a b nx,tm,mu,n,k=>onIf z (ev tm x) (bcode orc z call fz fuel kp a (fg kp tm) mu n (onw (bcode orc z call fz fuel kp nx · · · k) k)) (bcode orc z call fz fuel kp b (fg kp tm) mu n (onw (bcode orc z call fz fuel kp nx · · · k) k))
  | .test x id nx,tm,mu,n,k=>onIf z (ev tm x) (bcode orc z call fz fuel kp nx (fg kp tm) mu n k) (k (.exit id) (fg kp tm) mu n)
  | .blk id a nx,tm,mu,n,k=>bcode orc z call fz fuel kp a tm mu n (inBN id (bcode orc z call fz fuel kp nx · · · k) k)
  | .loop a nx,tm,mu,n,k=>loopD z (bcode orc z call fz fuel kp a) fuel tm mu n (onw (bcode orc z call fz fuel kp nx · · · k) k)
end
section
variable {R : Type} {T : R → Prop} {z : R} {P : Program} {val : Nat → Int} {fz : Fz} {orc : Orc R} {call : CallT R} {kp : Nat → Bool}
theorem CodeD.fg {c : Code} {tm : TM} {mu : St} {n : Nat} {e : AExit} {tm' : TM} {mu' : St} {n' : Nat} (h : CodeD P val fz c (fg kp tm) mu n e tm' mu' n') : CodeD P val fz c tm mu n e tm' mu' n' :=
  ⟨h.1,λρ w a hr ht hf Q hQ=>h.2 ρ w a hr (ht.fg kp) hf Q hQ⟩
def Out (T : R → Prop) (next : TM → St → Nat → Prop) (k : AExit → TM → St → Nat → R) : AExit → TM → St → Nat → Prop
  | .normal,tm,mu,n=>next tm mu n
  | .exit id,tm,mu,n=>T (k (.exit id) tm mu n)
  | .ret,tm,mu,n=>T (k .ret tm mu n)
theorem runKf_sound (hz : ¬ T z) (hc : CallSound T P val call) (hk : OrcOk T val orc) {ops : Array Oper} : ∀ {l : List Oper} {al : List AOper} {c : Nat} {tm : TM} {mu : St} {n : Nat} {k : TM → St → Nat → R}, All2 (OpR P ops) l al → T (runKf orc z call fz kp al c tm mu n k) →
    ∃ tm' mu' n',T (k tm' mu' n') ∧ n ≤ n' ∧ ∀ ρ w a,Rel val ρ fz mu w → TmR val ρ w tm a → FreshN ρ n n' → ∀ (Q : Exit → Act → World → Prop),(∀ a' w',PostS val ρ fz mu n w a tm' mu' n' a' w' → Q .normal a' w') → wpList P ops Q l a w
  | [],[],c,tm,mu,n,k,_,h=>⟨tm,mu,n,h,Nat.le_refl _,λρ w a hr ht _ Q hQ=>hQ a w (PostS.refl hr ht)⟩
  | [],_ :: _,_,_,_,_,_,hl,_=>hl.elim
  | _ :: _,[],_,_,_,_,_,hl,_=>hl.elim
  | o :: l,ao :: al,c,tm,mu,n,k,hl,h=>by
    have go : ∀ (c' : Nat) (tm0 : TM), (∀ ρ w a, TmR val ρ w tm a → TmR val ρ w tm0 a) → T (stepK orc z call fz ao tm0 mu n fun tm mu n => runKf orc z call fz kp al c' tm mu n k) →
        ∃ tm' mu' n',T (k tm' mu' n') ∧ n ≤ n' ∧ ∀ ρ w a,Rel val ρ fz mu w → TmR val ρ w tm a → FreshN ρ n n' → ∀ (Q : Exit → Act → World → Prop),(∀ a' w',PostS val ρ fz mu n w a tm' mu' n' a' w' → Q .normal a' w') → wpList P ops Q (o :: l) a w:=by
      intro c' tm0 h0 h
      obtain ⟨tm1,mu1,n1,h1,h2⟩:=stepK_sound (P:=P) (val:=val) hz hc hk hl.1 h
      obtain ⟨tm2,mu2,n2,h3,h4,h5⟩:=runKf_sound hz hc hk hl.2 h1
      refine ⟨tm2,mu2,n2,h3,Nat.le_trans h2.1 h4,λρ w a hr ht hf Q hQ=>?_⟩
      have:=h2.2 ρ w a hr (h0 ρ w a ht) (hf.sub (Nat.le_refl _) h4) (wpList P ops Q l) Q λa1 w1 hp=>by
        obtain ⟨d,ρ1,p1,p2,p3,p4,p5,p6⟩:=hp
        refine h5 ρ1 w1 a1 p2 p3 (hf.later p1 h2.1) Q λa2 w2 hp2=>hQ a2 w2 ?_
        exact PostS.trans d p1 p4 p5 p6 h2.1 h4 hp2
      simpa only [wpList] using this
    cases c with
    | zero=>exact go 9 (fg kp tm) (λρ w a ht=>ht.fg kp) h
    | succ c=>exact go c tm (λρ w a ht=>ht) h
theorem fgC (kp : Nat → Bool) (b : Bool) {val : Nat → Int} {ρ : Rho} {fz : Fz} {mu : St} {n : Nat} {w : World} {a : Act} {tm' : TM} {mu' : St} {n' : Nat} {a' : Act} {w' : World} (h : PostS val ρ fz mu n w a tm' mu' n' a' w') : PostS val ρ fz mu n w a (cond b tm' (fg kp tm')) mu' n' a' w':=by
  cases b with
  | true=>exact h
  | false=>exact h.fg kp
theorem onIf_elim (hz : ¬ T z) {v : AV} {a b : R} (h : T (onIf z v a b)) : ∃ t,v = .one (.bool t) ∧ T (cond t a b):=by
  obtain ⟨s,e1,h1⟩:=onOne_elim hz h
  obtain ⟨t,e2,h2⟩:=onBool_elim hz h1
  exact ⟨t,by rw [e1,e2],h2⟩
theorem out_onw {next : TM → St → Nat → R} {k : AExit → TM → St → Nat → R} {e : AExit} {tm : TM} {mu : St} {n : Nat} (h : T (onw next k e tm mu n)) : Out T (λtm mu n=>T (next tm mu n)) k e tm mu n:=by
  cases e <;> exact h
theorem out_norm {fuel : Nat} {k : AExit → TM → St → Nat → R} {e : AExit} {tm : TM} {mu : St} {n : Nat} (h : Out T (λtm mu n=>T (bcode orc z call fz fuel kp .norm tm mu n k)) k e tm mu n) : T (k e tm mu n):=by
  cases e <;> exact h
theorem testId_some {a b : ACode} {id : Nat} (h : ACode.testId a b = some id) : a = .skip ∧ b = .exit id:=by
  unfold ACode.testId at h
  split at h
  · cases h; exact ⟨rfl,rfl⟩
  · cases h
theorem bcode_sound (hz : ¬ T z) (hc : CallSound T P val call) (hk : OrcOk T val orc) (hmx : P.follows .mixedOrders = true) {m : Muts} {fuel : Nat} : ∀ (c : Code) {ac : ACode} {nx : BC} {tm : TM} {mu : St} {n : Nat} {k : AExit → TM → St → Nat → R}, prepCode P m c = some ac → T (bcode orc z call fz fuel kp (flat ac nx) tm mu n k) →
    ∃ e tm' mu' n',Out T (λtm mu n=>T (bcode orc z call fz fuel kp nx tm mu n k)) k e tm' mu' n' ∧ CodeD P val fz c tm mu n e tm' mu' n'
  | .skip,ac,nx,tm,mu,n,k,hp,h=>by
    simp only [prepCode,Option.some.injEq] at hp; subst hp
    exact ⟨.normal,tm,mu,n,h,codeD_same λQ a w hq=>wp_skip hq⟩
  | .label l,ac,nx,tm,mu,n,k,hp,h=>by
    simp only [prepCode,Option.some.injEq] at hp; subst hp
    exact ⟨.normal,tm,mu,n,h,codeD_same λQ a w hq=>wp_label hq⟩
  | .exit id,ac,nx,tm,mu,n,k,hp,h=>by
    simp only [prepCode,Option.some.injEq] at hp; subst hp
    exact ⟨.exit id,tm,mu,n,h,codeD_same λQ a w hq=>wp_exit hq⟩
  | .ret,ac,nx,tm,mu,n,k,hp,h=>by
    simp only [prepCode,Option.some.injEq] at hp; subst hp
    exact ⟨.ret,tm,mu,n,h,codeD_same λQ a w hq=>wp_ret hq⟩
  | .region id ops false,ac,nx,tm,mu,n,k,hp,h=>by
    simp only [prepCode] at hp
    split at hp
    · rename_i al h1
      cases hp
      obtain ⟨tm',mu',n',h2,h3,h4⟩:=runKf_sound (P:=P) (val:=val) hz hc hk (prepOpers_R h1) (show T (runKf orc z call fz kp al 10 tm mu n λtm mu n=>bcode orc z call fz fuel kp nx (cond nx.tst tm (fg kp tm)) mu n k) from h)
      exact ⟨.normal,_,mu',n',h2,h3,λρ w a hr ht hf Q hQ=>wp_region_list (h4 ρ w a hr ht hf Q λa' w' hp=>hQ a' w' (fgC kp nx.tst hp))⟩
    · cases hp; exact (hz h).elim
  | .region id ops true,ac,nx,tm,mu,n,k,hp,h=>by
    simp only [prepCode] at hp
    split at hp
    · rename_i l h1
      split at hp
      · rename_i hok
        cases hp
        have hR : All2 (OpR P ops) ops.toList (modes l (ancs ops.toList [])):=by
          have hl:=prepOpers_R h1
          have hlen : (modes l (ancs ops.toList [])).length = ops.toList.length:=modes_length h1
          refine All2.of_get hlen.symm λi o ao ho hao=>?_
          obtain ⟨ao',h2,h3⟩:=hl.get ho
          exact h3.same (modes_get h2 hao)
        obtain ⟨tm',mu',n',h2,h3,h4⟩:=draw_sound (P:=P) (val:=val) (id:=id) hz hc hk hmx hok hR (show T (drawK orc z call fz _ tm mu n λtm mu n=>bcode orc z call fz fuel kp nx (cond nx.tst tm (fg kp tm)) mu n k) from h)
        exact ⟨.normal,_,mu',n',h2,h3,λρ w a hr ht hf Q hQ=>h4 ρ w a hr ht hf Q λa' w' hp=>hQ a' w' (fgC kp nx.tst hp)⟩
      · cases hp; exact (hz h).elim
    · cases hp; exact (hz h).elim
  | .seq a b,ac,nx,tm,mu,n,k,hp,h=>by
    simp only [prepCode] at hp
    split at hp
    · rename_i x y hx hy
      cases hp
      obtain ⟨e,tm1,mu1,n1,h1,h2⟩:=bcode_sound hz hc hk hmx a hx (show T (bcode orc z call fz fuel kp (flat x (flat y nx)) tm mu n k) from h)
      cases e with
      | normal =>
        obtain ⟨e2,tm2,mu2,n2,h3,h4⟩:=bcode_sound hz hc hk hmx b hy (show T (bcode orc z call fz fuel kp (flat y nx) tm1 mu1 n1 k) from h1)
        refine ⟨e2,tm2,mu2,n2,h3,Nat.le_trans h2.1 h4.1,λρ w a hr ht hf Q hQ=>wp_seq ?_⟩
        refine h2.2 ρ w a hr ht (hf.sub (Nat.le_refl _) h4.1) _ λa1 w1 hp=>?_
        obtain ⟨d,ρ1,p1,p2,p3,p4,p5,p6⟩:=hp
        refine h4.2 ρ1 w1 a1 p2 p3 (hf.later p1 h2.1) Q λa2 w2 hp2=>hQ a2 w2 ?_
        exact PostS.trans d p1 p4 p5 p6 h2.1 h4.1 hp2
      | exit id=>exact ⟨.exit id,tm1,mu1,n1,h1,h2.1,λρ w a hr ht hf Q hQ=>wp_seq (h2.2 ρ w a hr ht hf (Exit.then (b.wp P Q) Q) hQ)⟩
      | ret=>exact ⟨.ret,tm1,mu1,n1,h1,h2.1,λρ w a hr ht hf Q hQ=>wp_seq (h2.2 ρ w a hr ht hf (Exit.then (b.wp P Q) Q) hQ)⟩
    · cases hp
  | .cond c a b,ac,nx,tm,mu,n,k,hp,h=>by
    simp only [prepCode] at hp
    split at hp
    · rename_i c' x y hcd hx hy
      cases hp
      have hev : ∀ t,ev tm c' = .one (.bool t) → ∀ ρ w (act : Act),TmR val ρ w tm act → act.eval c = .bool t:=λt e1 ρ w act ht=>by
        have:=ht.ev hcd
        rw [e1] at this
        exact this
      have yes : ∀ {t : Bool} {e : AExit} {tm' : TM} {mu' : St} {n' : Nat},ev tm c' = .one (.bool t) → t = true → CodeD P val fz a (fg kp tm) mu n e tm' mu' n' → CodeD P val fz (.cond c a b) tm mu n e tm' mu' n':=λe1 et h =>
        ⟨h.1,λρ w act hr ht hf Q hQ=>wp_cond_true (by rw [hev _ e1 ρ w act ht,et]) (h.fg.2 ρ w act hr ht hf Q hQ)⟩
      have no : ∀ {t : Bool} {e : AExit} {tm' : TM} {mu' : St} {n' : Nat},ev tm c' = .one (.bool t) → t = false → CodeD P val fz b (fg kp tm) mu n e tm' mu' n' → CodeD P val fz (.cond c a b) tm mu n e tm' mu' n':=λe1 et h =>
        ⟨h.1,λρ w act hr ht hf Q hQ=>wp_cond_false (by rw [hev _ e1 ρ w act ht,et]) (h.fg.2 ρ w act hr ht hf Q hQ)⟩
      have h9 : T (bcode orc z call fz fuel kp (Bool.rec (motive:=λ_=>BC) (Option.rec (motive:=λ_=>BC) (.iteN c' (flat x .norm) (flat y .norm) nx) (λid=>.test c' id nx) (ACode.testId x y)) (.ite c' (flat x .norm) (flat y .norm)) nx.isNorm) tm mu n k):=h
      cases hn : nx.isNorm with
      | true =>
        have hnx : nx = .norm:=by cases nx <;> first | rfl | cases hn
        subst hnx
        simp only [hn] at h9
        obtain ⟨t,e1,h1⟩:=onIf_elim hz h9
        cases t with
        | true =>
          obtain ⟨e,tm1,mu1,n1,h3,h4⟩:=bcode_sound hz hc hk hmx a hx h1
          exact ⟨e,tm1,mu1,n1,h3,yes e1 rfl h4⟩
        | false =>
          obtain ⟨e,tm1,mu1,n1,h3,h4⟩:=bcode_sound hz hc hk hmx b hy h1
          exact ⟨e,tm1,mu1,n1,h3,no e1 rfl h4⟩
      | false =>
        cases hi : ACode.testId x y with
        | some id =>
          simp only [hn,hi] at h9
          obtain ⟨rfl,rfl⟩:=testId_some hi
          obtain ⟨t,e1,h1⟩:=onIf_elim hz h9
          cases t with
          | true =>
            obtain ⟨e,tm1,mu1,n1,h3,h4⟩:=bcode_sound hz hc hk hmx a hx (show T (bcode orc z call fz fuel kp (flat .skip nx) (fg kp tm) mu n k) from h1)
            exact ⟨e,tm1,mu1,n1,h3,yes e1 rfl h4⟩
          | false =>
            obtain ⟨e,tm1,mu1,n1,h3,h4⟩:=bcode_sound hz hc hk hmx b hy (show T (bcode orc z call fz fuel kp (flat (.exit id) nx) (fg kp tm) mu n k) from h1)
            exact ⟨e,tm1,mu1,n1,h3,no e1 rfl h4⟩
        | none =>
          simp only [hn,hi] at h9
          obtain ⟨t,e1,h1⟩:=onIf_elim hz h9
          cases t with
          | true =>
            obtain ⟨e,tm1,mu1,n1,h3,h4⟩:=bcode_sound hz hc hk hmx a hx h1
            exact ⟨e,tm1,mu1,n1,out_onw (out_norm h3),yes e1 rfl h4⟩
          | false =>
            obtain ⟨e,tm1,mu1,n1,h3,h4⟩:=bcode_sound hz hc hk hmx b hy h1
            exact ⟨e,tm1,mu1,n1,out_onw (out_norm h3),no e1 rfl h4⟩
    · cases hp
  | .block id a,ac,nx,tm,mu,n,k,hp,h=>by
    simp only [prepCode] at hp
    obtain ⟨x,hx,rfl⟩:=Option.map_eq_some_iff.1 hp
    obtain ⟨e,tm1,mu1,n1,h0,h2⟩:=bcode_sound hz hc hk hmx a hx (show T (bcode orc z call fz fuel kp (flat x .norm) tm mu n (inBN id (bcode orc z call fz fuel kp nx · · · k) k)) from h)
    have h1:=out_norm h0
    cases e with
    | normal=>exact ⟨.normal,tm1,mu1,n1,h1,h2.1,λρ w a hr ht hf Q hQ=>wp_block (h2.2 ρ w a hr ht hf (Exit.inBlock id Q) hQ)⟩
    | ret=>exact ⟨.ret,tm1,mu1,n1,h1,h2.1,λρ w a hr ht hf Q hQ=>wp_block (h2.2 ρ w a hr ht hf (Exit.inBlock id Q) hQ)⟩
    | exit id' =>
      have h1' : T (cond (Nat.beq id' id) (bcode orc z call fz fuel kp nx tm1 mu1 n1 k) (k (.exit id') tm1 mu1 n1)):=h1
      cases hb : Nat.beq id' id with
      | true =>
        rw [hb] at h1'
        have:=Nat.eq_of_beq_eq_true hb
        subst this
        refine ⟨.normal,tm1,mu1,n1,h1',h2.1,λρ w a hr ht hf Q hQ=>wp_block (h2.2 ρ w a hr ht hf _ λa' w' hp=>?_)⟩
        show Exit.inBlock id' Q (.exit id') a' w'
        simp only [Exit.inBlock,if_true]
        exact hQ a' w' hp
      | false =>
        rw [hb] at h1'
        have:=Nat.ne_of_beq_eq_false hb
        refine ⟨.exit id',tm1,mu1,n1,h1',h2.1,λρ w a hr ht hf Q hQ=>wp_block (h2.2 ρ w a hr ht hf _ λa' w' hp=>?_)⟩
        show Exit.inBlock id Q (.exit id') a' w'
        simp only [Exit.inBlock,this,if_false]
        exact hQ a' w' hp
  | .loop a,ac,nx,tm,mu,n,k,hp,h=>by
    simp only [prepCode] at hp
    obtain ⟨x,hx,rfl⟩:=Option.map_eq_some_iff.1 hp
    obtain ⟨e,tm1,mu1,n1,h1,h2,h3⟩:=loopD_sound (P:=P) (val:=val) (fz:=fz) (a:=a) (D:=bcode orc z call fz fuel kp (flat x .norm)) hz (λh=>by
      obtain ⟨e,tm',mu',n',g1,g2⟩:=bcode_sound hz hc hk hmx a hx h
      exact ⟨e,tm',mu',n',out_norm g1,g2⟩) fuel (show T (loopD z (bcode orc z call fz fuel kp (flat x .norm)) fuel tm mu n (onw (bcode orc z call fz fuel kp nx · · · k) k)) from h)
    exact ⟨e,tm1,mu1,n1,out_onw h1,h2,λρ w act hr ht hf Q hQ=>wp_loop_rounds _ (h3 ρ w act hr ht hf Q hQ)⟩
  | .scope a,ac,nx,tm,mu,n,k,hp,h=>by
    simp only [prepCode] at hp
    obtain ⟨e,tm1,mu1,n1,h1,h2⟩:=bcode_sound hz hc hk hmx a hp h
    refine ⟨e,tm1,mu1,n1,h1,h2.1,λρ w act hr ht hf Q hQ=>wp_scope_straight (h2.2 ρ w act hr ht hf _ λa' w' hp=>?_)⟩
    cases e <;> exact hQ a' w' hp
  | .goto l,ac,nx,tm,mu,n,k,hp,h=>by
    simp only [prepCode,Option.some.injEq] at hp; subst hp
    exact (hz h).elim
  | .rangeFunc ..,ac,nx,tm,mu,n,k,hp,h=>by
    simp only [prepCode,Option.some.injEq] at hp; subst hp
    exact (hz h).elim
  | .refuse _,ac,nx,tm,mu,n,k,hp,h=>by
    simp only [prepCode,Option.some.injEq] at hp; subst hp
    exact (hz h).elim
end
end Go.Ev
namespace Go.Ev
noncomputable def idxOf (l : List Nat) (t : Nat) : Nat → Option Nat:=List.rec (motive:=λ_=>Nat → Option Nat) (λ_=>none) (λa _ ih j=>Bool.rec (motive:=λ_=>Option Nat) (ih (Nat.succ j)) (some j) (Nat.beq a t)) l
noncomputable def gE (q r : S16) : GT:=S16.rec (motive:=λ_=>S16 → GT)
  (λr=>S16.rec (motive:=λ_=>GT) e0_0 e0_1 e0_2 e0_3 e0_4 e0_5 e0_6 e0_7 e0_8 e0_9 e0_10 e0_11 e0_12 e0_13 e0_14 e0_15 r)
  (λr=>S16.rec (motive:=λ_=>GT) e1_0 e1_1 e1_2 e1_3 e1_4 e1_5 e1_6 e1_7 e1_8 e1_9 e1_10 e1_11 e1_12 e1_13 e1_14 e1_15 r)
  (λr=>S16.rec (motive:=λ_=>GT) e2_0 e2_1 e2_2 e2_3 e2_4 e2_5 e2_6 e2_7 e2_8 e2_9 e2_10 e2_11 e2_12 e2_13 e2_14 e2_15 r)
  (λr=>S16.rec (motive:=λ_=>GT) e3_0 e3_1 e3_2 e3_3 e3_4 e3_5 e3_6 e3_7 e3_8 e3_9 e3_10 e3_11 e3_12 e3_13 e3_14 e3_15 r)
  (λr=>S16.rec (motive:=λ_=>GT) e4_0 e4_1 e4_2 e4_3 e4_4 e4_5 e4_6 e4_7 e4_8 e4_9 e4_10 e4_11 e4_12 e4_13 e4_14 e4_15 r)
  (λr=>S16.rec (motive:=λ_=>GT) e5_0 e5_1 e5_2 e5_3 e5_4 e5_5 e5_6 e5_7 e5_8 e5_9 e5_10 e5_11 e5_12 e5_13 e5_14 e5_15 r)
  (λr=>S16.rec (motive:=λ_=>GT) e6_0 e6_1 e6_2 e6_3 e6_4 e6_5 e6_6 e6_7 e6_8 e6_9 e6_10 e6_11 e6_12 e6_13 e6_14 e6_15 r)
  (λr=>S16.rec (motive:=λ_=>GT) e7_0 e7_1 e7_2 e7_3 e7_4 e7_5 e7_6 e7_7 e7_8 e7_9 e7_10 e7_11 e7_12 e7_13 e7_14 e7_15 r)
  (λr=>S16.rec (motive:=λ_=>GT) e8_0 e8_1 e8_2 e8_3 e8_4 e8_5 e8_6 e8_7 e8_8 e8_9 e8_10 e8_11 e8_12 e8_13 e8_14 e8_15 r)
  (λr=>S16.rec (motive:=λ_=>GT) e9_0 e9_1 e9_2 e9_3 e9_4 e9_5 e9_6 e9_7 e9_8 e9_9 e9_10 e9_11 e9_12 e9_13 e9_14 e9_15 r)
  (λr=>S16.rec (motive:=λ_=>GT) e10_0 e10_1 e10_2 e10_3 e10_4 e10_5 e10_6 e10_7 e10_8 e10_9 e10_10 e10_11 e10_12 e10_13 e10_14 e10_15 r)
  (λr=>S16.rec (motive:=λ_=>GT) e11_0 e11_1 e11_2 e11_3 e11_4 e11_5 e11_6 e11_7 e11_8 e11_9 e11_10 e11_11 e11_12 e11_13 e11_14 e11_15 r)
  (λr=>S16.rec (motive:=λ_=>GT) e12_0 e12_1 e12_2 e12_3 e12_4 e12_5 e12_6 e12_7 e12_8 e12_9 e12_10 e12_11 e12_12 e12_13 e12_14 e12_15 r)
  (λr=>S16.rec (motive:=λ_=>GT) e13_0 e13_1 e13_2 e13_3 e13_4 e13_5 e13_6 e13_7 e13_8 e13_9 e13_10 e13_11 e13_12 e13_13 e13_14 e13_15 r)
  (λr=>S16.rec (motive:=λ_=>GT) e14_0 e14_1 e14_2 e14_3 e14_4 e14_5 e14_6 e14_7 e14_8 e14_9 e14_10 e14_11 e14_12 e14_13 e14_14 e14_15 r)
  (λr=>S16.rec (motive:=λ_=>GT) e15_0 e15_1 e15_2 e15_3 e15_4 e15_5 e15_6 e15_7 e15_8 e15_9 e15_10 e15_11 e15_12 e15_13 e15_14 e15_15 r)
  q r
noncomputable def sE (q r : S16) : ST:=S16.rec (motive:=λ_=>S16 → ST)
  (λr=>S16.rec (motive:=λ_=>ST) se0_0 se0_1 se0_2 se0_3 se0_4 se0_5 se0_6 se0_7 se0_8 se0_9 se0_10 se0_11 se0_12 se0_13 se0_14 se0_15 r)
  (λr=>S16.rec (motive:=λ_=>ST) se1_0 se1_1 se1_2 se1_3 se1_4 se1_5 se1_6 se1_7 se1_8 se1_9 se1_10 se1_11 se1_12 se1_13 se1_14 se1_15 r)
  (λr=>S16.rec (motive:=λ_=>ST) se2_0 se2_1 se2_2 se2_3 se2_4 se2_5 se2_6 se2_7 se2_8 se2_9 se2_10 se2_11 se2_12 se2_13 se2_14 se2_15 r)
  (λr=>S16.rec (motive:=λ_=>ST) se3_0 se3_1 se3_2 se3_3 se3_4 se3_5 se3_6 se3_7 se3_8 se3_9 se3_10 se3_11 se3_12 se3_13 se3_14 se3_15 r)
  (λr=>S16.rec (motive:=λ_=>ST) se4_0 se4_1 se4_2 se4_3 se4_4 se4_5 se4_6 se4_7 se4_8 se4_9 se4_10 se4_11 se4_12 se4_13 se4_14 se4_15 r)
  (λr=>S16.rec (motive:=λ_=>ST) se5_0 se5_1 se5_2 se5_3 se5_4 se5_5 se5_6 se5_7 se5_8 se5_9 se5_10 se5_11 se5_12 se5_13 se5_14 se5_15 r)
  (λr=>S16.rec (motive:=λ_=>ST) se6_0 se6_1 se6_2 se6_3 se6_4 se6_5 se6_6 se6_7 se6_8 se6_9 se6_10 se6_11 se6_12 se6_13 se6_14 se6_15 r)
  (λr=>S16.rec (motive:=λ_=>ST) se7_0 se7_1 se7_2 se7_3 se7_4 se7_5 se7_6 se7_7 se7_8 se7_9 se7_10 se7_11 se7_12 se7_13 se7_14 se7_15 r)
  (λr=>S16.rec (motive:=λ_=>ST) se8_0 se8_1 se8_2 se8_3 se8_4 se8_5 se8_6 se8_7 se8_8 se8_9 se8_10 se8_11 se8_12 se8_13 se8_14 se8_15 r)
  (λr=>S16.rec (motive:=λ_=>ST) se9_0 se9_1 se9_2 se9_3 se9_4 se9_5 se9_6 se9_7 se9_8 se9_9 se9_10 se9_11 se9_12 se9_13 se9_14 se9_15 r)
  (λr=>S16.rec (motive:=λ_=>ST) se10_0 se10_1 se10_2 se10_3 se10_4 se10_5 se10_6 se10_7 se10_8 se10_9 se10_10 se10_11 se10_12 se10_13 se10_14 se10_15 r)
  (λr=>S16.rec (motive:=λ_=>ST) se11_0 se11_1 se11_2 se11_3 se11_4 se11_5 se11_6 se11_7 se11_8 se11_9 se11_10 se11_11 se11_12 se11_13 se11_14 se11_15 r)
  (λr=>S16.rec (motive:=λ_=>ST) se12_0 se12_1 se12_2 se12_3 se12_4 se12_5 se12_6 se12_7 se12_8 se12_9 se12_10 se12_11 se12_12 se12_13 se12_14 se12_15 r)
  (λr=>S16.rec (motive:=λ_=>ST) se13_0 se13_1 se13_2 se13_3 se13_4 se13_5 se13_6 se13_7 se13_8 se13_9 se13_10 se13_11 se13_12 se13_13 se13_14 se13_15 r)
  (λr=>S16.rec (motive:=λ_=>ST) se14_0 se14_1 se14_2 se14_3 se14_4 se14_5 se14_6 se14_7 se14_8 se14_9 se14_10 se14_11 se14_12 se14_13 se14_14 se14_15 r)
  (λr=>S16.rec (motive:=λ_=>ST) se15_0 se15_1 se15_2 se15_3 se15_4 se15_5 se15_6 se15_7 se15_8 se15_9 se15_10 se15_11 se15_12 se15_13 se15_14 se15_15 r)
  q r
theorem gE_eq (q r : S16) (a0 a1 a2 a3 a4 a5 a6 a7 : AV) (x : T2) : gE q r (.mk a0 a1 a2 a3 a4 a5 a6 a7 x) = get2 q r x:=by cases q <;> cases r <;> rfl
theorem sE_eq (q r : S16) (a0 a1 a2 a3 a4 a5 a6 a7 : AV) (x : T2) (v : AV) (k : Fm → RR) : sE q r (.mk a0 a1 a2 a3 a4 a5 a6 a7 x) v k = set2 q r x v λx=>k (.mk a0 a1 a2 a3 a4 a5 a6 a7 x):=by cases q <;> cases r <;> rfl
noncomputable def gAt : Nat → GT
  | 0=>d0
  | 1=>d1
  | 2=>d2
  | 3=>d3
  | 4=>d4
  | 5=>d5
  | 6=>d6
  | 7=>d7
  | j + 8=>gE (S16.of (j / 16)) (S16.of (j % 16))
noncomputable def sAt : Nat → ST
  | 0=>sd0
  | 1=>sd1
  | 2=>sd2
  | 3=>sd3
  | 4=>sd4
  | 5=>sd5
  | 6=>sd6
  | 7=>sd7
  | j + 8=>sE (S16.of (j / 16)) (S16.of (j % 16))
noncomputable def setP : Nat → Fm → AV → Fm
  | 0,.mk _ a1 a2 a3 a4 a5 a6 a7 x,v=>.mk v a1 a2 a3 a4 a5 a6 a7 x
  | 1,.mk a0 _ a2 a3 a4 a5 a6 a7 x,v=>.mk a0 v a2 a3 a4 a5 a6 a7 x
  | 2,.mk a0 a1 _ a3 a4 a5 a6 a7 x,v=>.mk a0 a1 v a3 a4 a5 a6 a7 x
  | 3,.mk a0 a1 a2 _ a4 a5 a6 a7 x,v=>.mk a0 a1 a2 v a4 a5 a6 a7 x
  | 4,.mk a0 a1 a2 a3 _ a5 a6 a7 x,v=>.mk a0 a1 a2 a3 v a5 a6 a7 x
  | 5,.mk a0 a1 a2 a3 a4 _ a6 a7 x,v=>.mk a0 a1 a2 a3 a4 v a6 a7 x
  | 6,.mk a0 a1 a2 a3 a4 a5 _ a7 x,v=>.mk a0 a1 a2 a3 a4 a5 v a7 x
  | 7,.mk a0 a1 a2 a3 a4 a5 a6 _ x,v=>.mk a0 a1 a2 a3 a4 a5 a6 v x
  | j + 8,.mk a0 a1 a2 a3 a4 a5 a6 a7 x,v=>.mk a0 a1 a2 a3 a4 a5 a6 a7 (set2p (S16.of (j / 16)) (S16.of (j % 16)) x v)
noncomputable def initAt : Nat → IF
  | 0=>init0
  | 1=>init1
  | 2=>init2
  | 3=>init3
  | 4=>init4
  | 5=>init5
  | 6=>init6
  | 7=>init7
  | 8=>init8
  | _=>λ_ _=>zz
noncomputable def frm (l : List AV) : Fm:=.mk ((l[0]?).getD (.one .un)) ((l[1]?).getD (.one .un)) ((l[2]?).getD (.one .un)) ((l[3]?).getD (.one .un)) ((l[4]?).getD (.one .un)) ((l[5]?).getD (.one .un)) ((l[6]?).getD (.one .un)) ((l[7]?).getD (.one .un)) t2U
theorem sAt_eq (j : Nat) (t : Fm) (v : AV) (k : Fm → RR) : sAt j t v k = k (setP j t v):=by
  obtain ⟨a0,a1,a2,a3,a4,a5,a6,a7,x⟩:=t
  unfold sAt setP
  split <;> first | rfl | (rw [sE_eq,set2_eq])
theorem get2_same (q r : S16) (x : T2) (v : AV) : get2 q r (set2p q r x v) = v:=by
  unfold get2 set2p
  rw [tg_same,rg_same]
theorem get2_ne {q r q' r' : S16} (h : ¬ (q = q' ∧ r = r')) (x : T2) (v : AV) : get2 q r (set2p q' r' x v) = get2 q r x:=by
  unfold get2 set2p
  by_cases hq : q = q'
  · subst hq
    rw [tg_same,rg_ne (λhr=>h ⟨rfl,hr⟩)]
  · rw [tg_ne hq]
theorem gAt_setP {i j : Nat} (hi : i < 264) (hj : j < 264) (t : Fm) (v : AV) : gAt i (setP j t v) = if i = j then v else gAt i t:=by
  obtain ⟨a0,a1,a2,a3,a4,a5,a6,a7,x⟩:=t
  have big : ∀ {a b : Nat},a < 256 → b < 256 → a ≠ b → ¬ (S16.of (a / 16) = S16.of (b / 16) ∧ S16.of (a % 16) = S16.of (b % 16)):=by
    intro a b ha hb hne ⟨h1,h2⟩
    have e1 : a / 16 = b / 16:=by
      have:=congrArg S16.n h1
      rwa [S16.n_of (by omega),S16.n_of (by omega)] at this
    have e2 : a % 16 = b % 16:=by
      have:=congrArg S16.n h2
      rwa [S16.n_of (by omega),S16.n_of (by omega)] at this
    omega
  rcases (show i = 0 ∨ i = 1 ∨ i = 2 ∨ i = 3 ∨ i = 4 ∨ i = 5 ∨ i = 6 ∨ i = 7 ∨ ∃ a,i = a + 8 from by
    rcases Nat.lt_or_ge i 8 with h | h
    · omega
    · have : ∃ a,i = a + 8:=⟨i - 8,by omega⟩
      simp [this]) with rfl | rfl | rfl | rfl | rfl | rfl | rfl | rfl | ⟨a,rfl⟩ <;>
  rcases (show j = 0 ∨ j = 1 ∨ j = 2 ∨ j = 3 ∨ j = 4 ∨ j = 5 ∨ j = 6 ∨ j = 7 ∨ ∃ b,j = b + 8 from by
    rcases Nat.lt_or_ge j 8 with h | h
    · omega
    · have : ∃ a,j = a + 8:=⟨j - 8,by omega⟩
      simp [this]) with rfl | rfl | rfl | rfl | rfl | rfl | rfl | rfl | ⟨b,rfl⟩ <;>
  first
  | rfl
  | (rw [if_neg (by omega)]; rfl)
  | (show gE (S16.of (a / 16)) (S16.of (a % 16)) (.mk a0 a1 a2 a3 a4 a5 a6 a7 (set2p (S16.of (b / 16)) (S16.of (b % 16)) x v)) = _
     rw [gE_eq]
     by_cases e : a = b
     · subst e; rw [get2_same]; simp
     · rw [get2_ne (big (by omega) (by omega) e),if_neg (by omega)]; exact (gE_eq _ _ _ _ _ _ _ _ _ _ _).symm)
  | (rw [if_neg (by omega)]; exact (gE_eq _ _ _ _ _ _ _ _ _ _ _).trans (gE_eq _ _ _ _ _ _ _ _ _ _ _).symm)
theorem get2_t2U (q r : S16) : get2 q r t2U = .one .un:=by cases q <;> cases r <;> rfl
theorem gAt_frm {j : Nat} {l : List AV} (hl : l.length ≤ 8) : gAt j (frm l) = (l[j]?).getD (.one .un):=by
  rcases (show j = 0 ∨ j = 1 ∨ j = 2 ∨ j = 3 ∨ j = 4 ∨ j = 5 ∨ j = 6 ∨ j = 7 ∨ ∃ a,j = a + 8 from by
    rcases Nat.lt_or_ge j 8 with h | h
    · omega
    · have : ∃ a,j = a + 8:=⟨j - 8,by omega⟩
      simp [this]) with rfl | rfl | rfl | rfl | rfl | rfl | rfl | rfl | ⟨a,rfl⟩ <;> first
  | rfl
  | (rw [List.getElem?_eq_none (by omega)]; exact (gE_eq _ _ _ _ _ _ _ _ _ _ _).trans (get2_t2U _ _))
theorem initAt_elim {T : RR → Prop} (hz : ¬ T zz) {m : Nat} {l : List AV} {k : Fm → RR} (h : T (initAt m l k)) : l.length = m ∧ m ≤ 8 ∧ T (k (frm l)):=by
  rcases (show m = 0 ∨ m = 1 ∨ m = 2 ∨ m = 3 ∨ m = 4 ∨ m = 5 ∨ m = 6 ∨ m = 7 ∨ m = 8 ∨ 8 < m by omega) with rfl | rfl | rfl | rfl | rfl | rfl | rfl | rfl | rfl | hm
  · match l,h with
    | [],h=>exact ⟨rfl,by omega,h⟩
    | _ :: _,h=>exact (hz h).elim
  · match l,h with
    | [],h=>exact (hz h).elim
    | [_],h=>exact ⟨rfl,by omega,h⟩
    | _ :: _ :: _,h=>exact (hz h).elim
  · match l,h with
    | [],h=>exact (hz h).elim
    | [_],h=>exact (hz h).elim
    | [_,_],h=>exact ⟨rfl,by omega,h⟩
    | _ :: _ :: _ :: _,h=>exact (hz h).elim
  · match l,h with
    | [],h=>exact (hz h).elim
    | [_],h=>exact (hz h).elim
    | [_,_],h=>exact (hz h).elim
    | [_,_,_],h=>exact ⟨rfl,by omega,h⟩
    | _ :: _ :: _ :: _ :: _,h=>exact (hz h).elim
  · match l,h with
    | [],h=>exact (hz h).elim
    | [_],h=>exact (hz h).elim
    | [_,_],h=>exact (hz h).elim
    | [_,_,_],h=>exact (hz h).elim
    | [_,_,_,_],h=>exact ⟨rfl,by omega,h⟩
    | _ :: _ :: _ :: _ :: _ :: _,h=>exact (hz h).elim
  · match l,h with
    | [],h=>exact (hz h).elim
    | [_],h=>exact (hz h).elim
    | [_,_],h=>exact (hz h).elim
    | [_,_,_],h=>exact (hz h).elim
    | [_,_,_,_],h=>exact (hz h).elim
    | [_,_,_,_,_],h=>exact ⟨rfl,by omega,h⟩
    | _ :: _ :: _ :: _ :: _ :: _ :: _,h=>exact (hz h).elim
  · match l,h with
    | [],h=>exact (hz h).elim
    | [_],h=>exact (hz h).elim
    | [_,_],h=>exact (hz h).elim
    | [_,_,_],h=>exact (hz h).elim
    | [_,_,_,_],h=>exact (hz h).elim
    | [_,_,_,_,_],h=>exact (hz h).elim
    | [_,_,_,_,_,_],h=>exact ⟨rfl,by omega,h⟩
    | _ :: _ :: _ :: _ :: _ :: _ :: _ :: _,h=>exact (hz h).elim
  · match l,h with
    | [],h=>exact (hz h).elim
    | [_],h=>exact (hz h).elim
    | [_,_],h=>exact (hz h).elim
    | [_,_,_],h=>exact (hz h).elim
    | [_,_,_,_],h=>exact (hz h).elim
    | [_,_,_,_,_],h=>exact (hz h).elim
    | [_,_,_,_,_,_],h=>exact (hz h).elim
    | [_,_,_,_,_,_,_],h=>exact ⟨rfl,by omega,h⟩
    | _ :: _ :: _ :: _ :: _ :: _ :: _ :: _ :: _,h=>exact (hz h).elim
  · match l,h with
    | [],h=>exact (hz h).elim
    | [_],h=>exact (hz h).elim
    | [_,_],h=>exact (hz h).elim
    | [_,_,_],h=>exact (hz h).elim
    | [_,_,_,_],h=>exact (hz h).elim
    | [_,_,_,_,_],h=>exact (hz h).elim
    | [_,_,_,_,_,_],h=>exact (hz h).elim
    | [_,_,_,_,_,_,_],h=>exact (hz h).elim
    | [_,_,_,_,_,_,_,_],h=>exact ⟨rfl,by omega,h⟩
    | _ :: _ :: _ :: _ :: _ :: _ :: _ :: _ :: _ :: _,h=>exact (hz h).elim
  · exfalso
    apply hz
    have : initAt m l k = zz:=by
      unfold initAt
      split <;> first | omega | rfl
    rwa [this] at h
noncomputable def env0 (kept : List Nat) (t : Fm) : EnvQ:=λi=>Option.rec (motive:=λ_=>EV) (.pl (.one .un)) (λj=>.fr (gAt j t)) (idxOf kept i 0)
noncomputable def kpOf (kept : List Nat) : Nat → Bool:=λi=>Option.rec (motive:=λ_=>Bool) false (λ_=>true) (idxOf kept i 0)
noncomputable def valE (e : EnvQ) (d : Nat) : AV:=EV.rec (motive:=λ_=>AV) (λv=>v) (λv=>v) (e d)
noncomputable def storK (kept : List Nat) (e : EnvQ) (ds : List Nat) : Fm → (Fm → RR) → RR:=(λ(_ : Unit) =>
  List.rec (motive:=λ_=>Fm → (Fm → RR) → RR) (λt k=>k t) (λd _ ih t k=>Option.rec (motive:=λ_=>RR) (ih t k) (λj=>sAt j t (valE e d) λt=>ih t k) (idxOf kept d 0)) ds) tall
noncomputable def dsO (o : AOper) (ds : List Nat) : List Nat:=AOper.rec (motive:=λ_=>List Nat) (λdst _ _ _ _=>Option.rec (motive:=λ_=>List Nat) ds (λp=>Prod.rec (motive:=λ_=>List Nat) (λq r=>Nat.add (Nat.mul 16 q) r :: ds) p) dst) o
noncomputable def memN (a : Nat) (l : List Nat) : Bool:=List.rec (motive:=λ_=>Bool) false (λb _ ih=>Bool.rec (motive:=λ_=>Bool) ih true (Nat.beq a b)) l
noncomputable def nub (l : List Nat) : List Nat:=List.rec (motive:=λ_=>List Nat) [] (λa _ ih=>Bool.rec (motive:=λ_=>List Nat) (a :: ih) ih (memN a ih)) l
section
variable (kept : List Nat) (orc : Orc RR) (call : CallT RR) (fz : Fz)
noncomputable def stepE (o : AOper) (e : EnvQ) (mu : St) (n : Nat) (k : EnvQ → St → Nat → RR) : RR:=(λ(_ : Unit)=>AOper.rec (motive:=λ_=>RR)
  (λdst op g mode _=>Option.rec (motive:=λ_=>RR) (eop orc call fz (Nat.beq mode 1) op e mu n λv mu n=>k (updD e dst v) mu n)
    (λp=>Prod.rec (motive:=λ_=>RR) (λq p=>Prod.rec (motive:=λ_=>RR) (λr w=>gd (atV e q r) w (λJ=>eop orc call fz (Nat.beq mode 1) op e mu n J) mu n λv mu n=>k (updD e dst v) mu n) p) p) g) o) tall
noncomputable def runE (ops : List AOper) : Nat → List Nat → EnvQ → Fm → St → Nat → (List Nat → EnvQ → Fm → St → Nat → RR) → RR:=(λ(_ : Unit) =>
  List.rec (motive:=λ_=>Nat → List Nat → EnvQ → Fm → St → Nat → (List Nat → EnvQ → Fm → St → Nat → RR) → RR) (λ_ ds e t mu n k=>k ds e t mu n)
    (λo _ ih c ds e t mu n k=>Nat.rec (motive:=λ_=>RR) (storK kept e (nub ds) t λt=>stepE orc call fz o (env0 kept t) mu n λe mu n=>ih 9 (dsO o []) e t mu n k)
      (λc _=>stepE orc call fz o e mu n λe mu n=>ih c (dsO o ds) e t mu n k) c) ops) tall
noncomputable def ropE (i : Nat) (op : AOp) (mode : Nat) (anc : List Nat) (e : EnvQ) (mu : St) (ad : List St) (n : Nat) (J : AV → St → List St → Nat → RR) : RR:=(λ(_ : Unit)=>Nat.rec (motive:=λ_=>RR)
  (dr0 (λfz mu n k=>eop orc call fz false op e mu n k) n λv n=>J v mu ad n)
  (λm _=>Nat.rec (motive:=λ_=>RR) (dr1 (λfz mu n k=>eop orc call fz true op e mu n k) anc i fz mu ad n λv ad n=>J v mu ad n)
    (λm _=>Nat.rec (motive:=λ_=>RR) (dr2 (λfz mu n k=>eop orc call fz false op e mu n k) anc fz mu ad n λv mu ad n=>J v mu ad n)
      (λm _=>Nat.rec (motive:=λ_=>RR) (dr3 (λfz mu n k=>eop orc call fz false op e mu n k) i ad n λv ad n=>J v mu ad n)
        (λ_ _=>dr4 (λfz mu n k=>eop orc call fz false op e mu n k) anc i ad n λv ad n=>J v mu ad n) m) m) m) mode) tall
noncomputable def rstepE (i : Nat) (o : AOper) (e : EnvQ) (mu : St) (ad : List St) (n : Nat) (k : EnvQ → St → List St → Nat → RR) : RR:=(λ(_ : Unit)=>AOper.rec (motive:=λ_=>RR)
  (λdst op g mode anc=>Option.rec (motive:=λ_=>RR) (ropE orc call fz i op mode anc e mu ad n λv mu ad n=>k (updD e dst v) mu ad n)
    (λp=>Prod.rec (motive:=λ_=>RR) (λq p=>Prod.rec (motive:=λ_=>RR) (λr w=>gdD (atV e q r) w mu ad n (λJ=>ropE orc call fz i op mode anc e mu ad n J) λv mu ad n=>k (updD e dst v) mu ad n) p) p) g) o) tall
noncomputable def rrunE (ops : List AOper) : Nat → List Nat → EnvQ → St → List St → Nat → (List Nat → EnvQ → St → List St → Nat → RR) → RR:=(λ(_ : Unit) =>
  List.rec (motive:=λ_=>Nat → List Nat → EnvQ → St → List St → Nat → (List Nat → EnvQ → St → List St → Nat → RR) → RR) (λ_ ds e mu ad n k=>k ds e mu ad n)
    (λo _ ih i ds e mu ad n k=>rstepE orc call fz i o e mu ad n λe mu ad n=>ih (Nat.succ i) (dsO o ds) e mu ad n k) ops) tall
noncomputable def preE (ops : List AOper) : EnvQ → St → Nat → (EnvQ → RR) → RR:=(λ(_ : Unit) =>
  List.rec (motive:=λ_=>EnvQ → St → Nat → (EnvQ → RR) → RR) (λe _ _ k=>k e) (λo _ ih e mu n k=>stepE orc call fz o e mu n λe _ _=>ih e mu n k) ops) tall
noncomputable def looseOf (o : AOper) : Option Od:=AOper.rec (motive:=λ_=>Option Od) (λ_ op _ mode _=>Bool.rec (motive:=λ_=>Option Od) none op.storeX (Nat.beq mode 4)) o
noncomputable def apartE (ops : List AOper) : Nat → EnvQ → St → List St → (St → List St → RR) → RR:=(λ(_ : Unit) =>
  List.rec (motive:=λ_=>Nat → EnvQ → St → List St → (St → List St → RR) → RR) (λ_ _ mu ad k=>k mu ad)
    (λo _ ih i e mu ad k=>Option.rec (motive:=λ_=>RR) (ih (Nat.succ i) e mu ad k) (λx=>apS (evV e x) i mu ad λmu ad=>ih (Nat.succ i) e mu ad k) (looseOf o)) ops) tall
end
noncomputable def gx (kept : List Nat) (x : Od) : GT:=(λ(_ : Unit)=>Od.rec (motive:=λ_=>GT) (λq r=>Option.rec (motive:=λ_=>GT) (λ_=>.one .un) (λj=>gAt j) (idxOf kept (Nat.add (Nat.mul 16 q) r) 0)) (λv=>λ_=>v) x) tall
noncomputable def comp (kept : List Nat) (c : BC) : Option EnvQ → HC:=(λ(_ : Unit)=>BC.rec (motive:=λ_=>Option EnvQ → HC)
  (λ_=>cNorm) (λ_=>cRet) (λ_=>cBad) (λid _=>cExit id)
  (λops _ ih _=>λorc call fz t mu n k=>runE kept orc call fz ops 10 [] (env0 kept t) t mu n λds e t mu n=>storK kept e (nub ds) t λt=>ih (some e) orc call fz t mu n k)
  (λops _ ih _=>λorc call fz t mu n k=>preE orc call fz (preOf ops) (env0 kept t) mu n λe=>(λad=>apartE ops 0 e mu ad λmu ad=>rrunE orc call fz ops 0 [] (env0 kept t) mu ad n λds e mu ad n=>joinAll ad mu λmu=>storK kept e (nub ds) t λt=>ih (some e) orc call fz t mu n k) (ops.map λ_=>[]))
  (λx _ _ iha ihb oe=>Option.rec (motive:=λ_=>HC) (cIf (gx kept x) (iha none) (ihb none)) (λe=>tIf (evV e x) (iha none) (ihb none)) oe)
  (λx _ _ _ iha ihb ihn oe=>Option.rec (motive:=λ_=>HC) (cIfN (gx kept x) (iha none) (ihb none) (ihn none)) (λe=>tIfN (evV e x) (iha none) (ihb none) (ihn none)) oe)
  (λx id _ ihn oe=>Option.rec (motive:=λ_=>HC) (cTest (gx kept x) id (ihn none)) (λe=>tTest (evV e x) id (ihn none)) oe)
  (λid _ _ iha ihn _=>cBlk id (iha none) (ihn none))
  (λ_ _ iha ihn _=>cLoop (iha none) (ihn none)) c) tall
noncomputable def res1 (r : ARes) (e : EnvQ) (fz : Fz) (mu : St) (k : AV → RR) : RR:=(λ(_ : Unit)=>ARes.rec (motive:=λ_=>RR) (λq r=>k (atV e q r)) (λq r a m=>rCell (atV e q r) a m fz mu k) r) tall
noncomputable def resAllE (l : List ARes) (e : EnvQ) (fz : Fz) (mu : St) : (List CV → RR) → RR:=(λ(_ : Unit) =>
  List.rec (motive:=λ_=>(List CV → RR) → RR) (λk=>k []) (λr _ ih k=>res1 r e fz mu λv=>toCV zz v λc=>ih λcs=>k (c :: cs)) l) tall
noncomputable def resC (kept : List Nat) (l : List ARes) : RF:=(λ(_ : Unit)=>List.rec (motive:=λ_=>RF) (λ_ _ _ k=>k (.tp []))
  (λr rest _=>List.rec (motive:=λ_=>RF) (ARes.rec (motive:=λ_=>RF) (λq r=>rTmp (gx kept (.t q r))) (λq r a m=>λfz t mu k=>rCell (atV (env0 kept t) q r) a m fz mu k) r)
    (λ_ _ _=>λfz t mu k=>resAllE l (env0 kept t) fz mu λcs=>k (.tp cs)) rest) l) tall
noncomputable def compFunc (kept : List Nat) (gc : Bool) (af : AFunc) : HFunc:=(λ(_ : Unit)=>AFunc.rec (motive:=λ_=>HFunc) (λ_ nargs res body=>.mk (initAt nargs) (resC kept res) (comp kept (flat body .norm) none) gc) af) tall
noncomputable def allL {α : Type} (p : α → Bool) (l : List α) : Bool:=List.rec (motive:=λ_=>Bool) true (λa _ ih=>Bool.rec (motive:=λ_=>Bool) false ih (p a)) l
noncomputable def okDst (nt : Nat) (o : Option (Nat × Nat)) : Bool:=Option.rec (motive:=λ_=>Bool) true (λp=>okT nt (.t p.1 p.2)) o
noncomputable def okGd (nt : Nat) (o : Option (Nat × Nat × Bool)) : Bool:=Option.rec (motive:=λ_=>Bool) true (λp=>okT nt (.t p.1 p.2.1)) o
noncomputable def okOper (nt : Nat) (o : AOper) : Bool:=okOp nt o.op && (okDst nt o.dst && okGd nt o.g)
noncomputable def okLoose (o : AOper) : Bool:=cond (Nat.beq o.mode 4) ((looseOf o).isSome) true
noncomputable def okB (nt : Nat) (c : BC) : Bool:=BC.rec (motive:=λ_=>Bool) true true true (λ_=>true)
  (λops _ ih=>allL (okOper nt) ops && ih)
  (λops _ ih=>allL (λo=>okOper nt o && okLoose o) ops && ih)
  (λx _ _ iha ihb=>okT nt x && (iha && ihb))
  (λx _ _ _ iha ihb ihn=>okT nt x && (iha && (ihb && ihn)))
  (λx _ _ ihn=>okT nt x && ihn)
  (λ_ _ _ iha ihn=>iha && ihn)
  (λ_ _ iha ihn=>iha && ihn) c
noncomputable def okRes (nt : Nat) (r : ARes) : Bool:=ARes.rec (motive:=λ_=>Bool) (λq r=>okT nt (.t q r)) (λq r _ _=>okT nt (.t q r)) r
noncomputable def optIs (o : Option Nat) (i : Nat) : Bool:=Option.rec (motive:=λ_=>Bool) false (λj=>Nat.beq j i) o
noncomputable def okFunc (kept : List Nat) (af : AFunc) : Bool:=Nat.ble kept.length 264 && (Nat.ble af.nargs af.ntmps && (allL (λi=>optIs (idxOf kept i 0) i) (List.range af.nargs) && (allL (okRes af.ntmps) af.res && okB af.ntmps (flat af.body .norm))))
end Go.Ev
namespace Go.Ev
theorem idxOf_get : ∀ {l : List Nat} {t j i : Nat},idxOf l t j = some i → ∃ m,i = j + m ∧ l[m]? = some t
  | [],t,j,i,h=>by cases h
  | a :: l,t,j,i,h=>by
    have h' : Bool.rec (motive:=λ_=>Option Nat) (idxOf l t (Nat.succ j)) (some j) (Nat.beq a t) = some i:=h
    cases e : Nat.beq a t with
    | true =>
      rw [e] at h'
      cases h'
      exact ⟨0,rfl,by simp [Nat.eq_of_beq_eq_true e]⟩
    | false =>
      rw [e] at h'
      obtain ⟨m,h1,h2⟩:=idxOf_get (l:=l) h'
      exact ⟨m + 1,by omega,by simpa using h2⟩
theorem idxOf_inj {l : List Nat} {a b i : Nat} (ha : idxOf l a 0 = some i) (hb : idxOf l b 0 = some i) : a = b:=by
  obtain ⟨m,h1,h2⟩:=idxOf_get ha
  obtain ⟨m',h3,h4⟩:=idxOf_get hb
  have : m = m':=by omega
  subst this
  rw [h2] at h4
  cases h4; rfl
theorem idxOf_lt {l : List Nat} {a i : Nat} (ha : idxOf l a 0 = some i) : i < l.length:=by
  obtain ⟨m,h1,h2⟩:=idxOf_get ha
  have:=(List.getElem?_eq_some_iff.1 h2).1
  omega
theorem env0_some {kept : List Nat} {t : Fm} {i j : Nat} (h : idxOf kept i 0 = some j) : env0 kept t i = .fr (gAt j t):=by
  show Option.rec (motive:=λ_=>EV) (.pl (.one .un)) (λj=>.fr (gAt j t)) (idxOf kept i 0) = _
  rw [h]
theorem env0_none {kept : List Nat} {t : Fm} {i : Nat} (h : idxOf kept i 0 = none) : env0 kept t i = .pl (.one .un):=by
  show Option.rec (motive:=λ_=>EV) (.pl (.one .un)) (λj=>.fr (gAt j t)) (idxOf kept i 0) = _
  rw [h]
theorem kpOf_some {kept : List Nat} {i j : Nat} (h : idxOf kept i 0 = some j) : kpOf kept i = true:=by
  show Option.rec (motive:=λ_=>Bool) false (λ_=>true) (idxOf kept i 0) = true
  rw [h]
theorem kpOf_none {kept : List Nat} {i : Nat} (h : idxOf kept i 0 = none) : kpOf kept i = false:=by
  show Option.rec (motive:=λ_=>Bool) false (λ_=>true) (idxOf kept i 0) = false
  rw [h]
theorem valE_eq (e : EnvQ) (d : Nat) : valE e d = (e d).val:=by unfold valE; cases e d <;> rfl
noncomputable def storP (kept : List Nat) (e : EnvQ) : List Nat → Fm → Fm
  | [],t=>t
  | d :: ds,t=>match idxOf kept d 0 with
    | some j=>storP kept e ds (setP j t (e d).val)
    | none=>storP kept e ds t
theorem storK_eq (kept : List Nat) (e : EnvQ) : ∀ (ds : List Nat) (t : Fm) (k : Fm → RR),storK kept e ds t k = k (storP kept e ds t)
  | [],t,k=>rfl
  | d :: ds,t,k=>by
    show Option.rec (motive:=λ_=>RR) (storK kept e ds t k) (λj=>sAt j t (valE e d) λt=>storK kept e ds t k) (idxOf kept d 0) = _
    unfold storP
    cases h : idxOf kept d 0 with
    | none=>exact storK_eq kept e ds t k
    | some j =>
      show sAt j t (valE e d) (λt=>storK kept e ds t k) = _
      rw [sAt_eq,storK_eq kept e ds,valE_eq]
theorem gAt_storP {kept : List Nat} (hl : kept.length ≤ 264) {e : EnvQ} {i j : Nat} (h : idxOf kept i 0 = some j) : ∀ (ds : List Nat) (t : Fm),gAt j (storP kept e ds t) = if i ∈ ds then (e i).val else gAt j t
  | [],t=>by simp [storP]
  | d :: ds,t=>by
    unfold storP
    cases hd : idxOf kept d 0 with
    | none =>
      simp only
      rw [gAt_storP hl h ds t]
      have : i ≠ d:=λe=>by subst e; rw [h] at hd; cases hd
      simp [this]
    | some j' =>
      simp only
      rw [gAt_storP hl h ds,gAt_setP (Nat.lt_of_lt_of_le (idxOf_lt h) hl) (Nat.lt_of_lt_of_le (idxOf_lt hd) hl)]
      by_cases e1 : i = d
      · subst e1
        rw [h] at hd; cases hd
        simp
      · have : ¬ j = j':=λe=>e1 (idxOf_inj h (e ▸ hd))
        simp [this,e1]
theorem memN_eq (a : Nat) : ∀ (l : List Nat),memN a l = true ↔ a ∈ l
  | []=>by simp [memN]
  | b :: l=>by
    have : memN a (b :: l) = Bool.rec (motive:=λ_=>Bool) (memN a l) true (Nat.beq a b):=rfl
    rw [this]
    cases e : Nat.beq a b with
    | true=>simp [Nat.eq_of_beq_eq_true e]
    | false =>
      have hne:=Nat.ne_of_beq_eq_false e
      simp only [List.mem_cons,hne,false_or]
      exact memN_eq a l
theorem mem_nub {i : Nat} : ∀ (l : List Nat),i ∈ nub l ↔ i ∈ l
  | []=>by simp [nub]
  | a :: l=>by
    have : nub (a :: l) = Bool.rec (motive:=λ_=>List Nat) (a :: nub l) (nub l) (memN a (nub l)):=rfl
    rw [this]
    cases e : memN a (nub l) with
    | true =>
      have:=(memN_eq a _).1 e
      show i ∈ nub l ↔ _
      rw [mem_nub l,List.mem_cons]
      constructor
      · exact λh=>.inr h
      · rintro (h | h)
        · subst h; exact (mem_nub l).1 this
        · exact h
    | false =>
      show i ∈ a :: nub l ↔ _
      rw [List.mem_cons,List.mem_cons,mem_nub l]
theorem allL_iff {α : Type} {p : α → Bool} : ∀ {l : List α},allL p l = true ↔ ∀ a ∈ l,p a = true
  | []=>by simp [allL]
  | a :: l=>by
    have : allL p (a :: l) = Bool.rec (motive:=λ_=>Bool) false (allL p l) (p a):=rfl
    rw [this]
    cases e : p a with
    | false=>simp [e]
    | true =>
      simp only [List.forall_mem_cons,e,true_and]
      exact allL_iff
structure Inv (nt : Nat) (kept : List Nat) (e : EnvQ) (t : Fm) (ds : List Nat) (tm : TM) : Prop where
  er : EnvR nt e tm
  fr : ∀ i j,idxOf kept i 0 = some j → i ∉ ds → gAt j t = (e i).val
section
variable {nt : Nat} {kept : List Nat} {e : EnvQ} {t : Fm} {ds : List Nat} {tm : TM} {orc : Orc RR} {call : CallT RR} {fz : Fz}
theorem Inv.start (h : EnvR nt (env0 kept t) tm) : Inv nt kept (env0 kept t) t [] tm:=⟨h,λi j hi _=>by rw [env0_some hi]; rfl⟩
theorem Inv.stor (hl : kept.length ≤ 264) (h : Inv nt kept e t ds tm) : EnvR nt (env0 kept (storP kept e (nub ds) t)) (fg (kpOf kept) tm):=by
  intro q r hr hn
  have hq:=h.er q r hr hn
  refine ⟨inR_fg.2 hq.1,?_⟩
  rw [get_fg]
  cases hi : idxOf kept (16 * q + r) 0 with
  | none=>rw [kpOf_none hi,env0_none hi]; rfl
  | some j =>
    rw [kpOf_some hi,env0_some hi]
    show get tm q r = gAt j (storP kept e (nub ds) t)
    rw [hq.2,gAt_storP hl hi]
    by_cases hm : 16 * q + r ∈ ds
    · simp [(mem_nub ds).2 hm]
    · have : ¬ 16 * q + r ∈ nub ds:=λx=>hm ((mem_nub ds).1 x)
      simp only [this,if_false]
      exact (h.fr _ _ hi hm).symm
theorem EnvR.again (h : EnvR nt (env0 kept t) tm) : EnvR nt (env0 kept t) (fg (kpOf kept) tm):=by
  intro q r hr hn
  have hq:=h q r hr hn
  refine ⟨inR_fg.2 hq.1,?_⟩
  rw [get_fg]
  cases hi : idxOf kept (16 * q + r) 0 with
  | none=>rw [kpOf_none hi,env0_none hi]; rfl
  | some j=>rw [kpOf_some hi]; exact hq.2
theorem EnvR.updD (h : EnvR nt e tm) {dst : Option (Nat × Nat)} (hd : okDst nt dst = true) (v : AV) : EnvR nt (updD e dst v) (setDT tm dst v):=by
  cases dst with
  | none=>exact h
  | some p =>
    obtain ⟨q,r⟩:=p
    have:=okT_t (show okT nt (.t q r) = true from hd)
    exact h.upd this.1 this.2 v
theorem updD_other {dst : Option (Nat × Nat)} {v : AV} {i : Nat} (h : ∀ q r,dst = some (q,r) → i ≠ 16 * q + r) : updD e dst v i = e i:=by
  cases dst with
  | none=>rfl
  | some p =>
    obtain ⟨q,r⟩:=p
    show updEn e (16 * q + r) (.pl v) i = e i
    rw [upd_get,if_neg (h q r rfl)]
theorem mem_dsO {o : AOper} {i : Nat} (h : i ∉ dsO o ds) : i ∉ ds ∧ ∀ q r,o.dst = some (q,r) → i ≠ 16 * q + r:=by
  obtain ⟨dst,op,g,mode,anc⟩:=o
  cases dst with
  | none=>exact ⟨h,λq r e=>by cases e⟩
  | some p =>
    obtain ⟨q,r⟩:=p
    have h' : i ∉ (16 * q + r) :: ds:=h
    simp only [List.mem_cons,not_or] at h'
    exact ⟨h'.2,λq' r' e=>by cases e; exact h'.1⟩
theorem Inv.step (h : Inv nt kept e t ds tm) {o : AOper} (hd : okDst nt o.dst = true) (v : AV) : Inv nt kept (updD e o.dst v) t (dsO o ds) (setDT tm o.dst v) :=
  ⟨h.er.updD hd v,λi j hi hm=>by
    obtain ⟨h1,h2⟩:=mem_dsO hm
    rw [updD_other h2]
    exact h.fr i j hi h1⟩
theorem wantF_eq (v : AV) (want : Bool) (yes no : RR) : wantF v want yes no = AV.rec (motive:=λ_=>RR) (λs=>s.onBool zz λb=>cond (b == want) yes no) (λ_=>zz) (λl=>List.rec (motive:=λ_=>RR) no (λ_ _ _=>zz) l) v:=by
  cases v with
  | ag l=>rfl
  | tp l=>rfl
  | one s =>
    cases s with
    | bool b=>cases b <;> cases want <;> rfl
    | _=>rfl
theorem okOper_elim {o : AOper} (h : okOper nt o = true) : okOp nt o.op = true ∧ okDst nt o.dst = true ∧ okGd nt o.g = true:=by
  simp only [okOper,Bool.and_eq_true] at h
  exact ⟨h.1,h.2.1,h.2.2⟩
theorem guard_eq (h : EnvR nt e tm) {g : Option (Nat × Nat × Bool)} (hg : okGd nt g = true) {yes no : RR} :
    onWanted zz g tm yes no = Option.rec (motive:=λ_=>RR) yes (λp=>wantF (atV e p.1 p.2.1) p.2.2 yes no) g:=by
  cases g with
  | none=>rfl
  | some p =>
    obtain ⟨q,r,w⟩:=p
    have hq:=okT_t (show okT nt (.t q r) = true from hg)
    show AV.rec (motive:=λ_=>RR) (λs=>s.onBool zz λb=>cond (b == w) yes no) (λ_=>zz) (λl=>List.rec (motive:=λ_=>RR) no (λ_ _ _=>zz) l) (get tm q r) = wantF (atV e q r) w yes no
    rw [wantF_eq,atV_eq,(h q r hq.1 hq.2).2]
theorem stepE_eq (h : EnvR nt e tm) {o : AOper} (hok : okOper nt o = true) {mu : St} {n : Nat} {k : EnvQ → St → Nat → RR} {K : TM → St → Nat → RR} (hk : ∀ v mu n, k (Go.Ev.updD e o.dst v) mu n = K (setDT tm o.dst v) mu n) :
    stepE orc call fz o e mu n k = stepK orc zz call fz o tm mu n K:=by
  obtain ⟨h1,h2,h3⟩:=okOper_elim hok
  unfold stepK
  rw [guard_eq h h3]
  obtain ⟨dst,op,g,mode,anc⟩:=o
  have e1 : eop orc call fz (Nat.beq mode 1) op e mu n (λv mu n=>k (Go.Ev.updD e dst v) mu n) = aop orc zz call fz tm mu n (Nat.beq mode 1) op λv mu n=>setDst tm dst v λtm=>K tm mu n:=by
    rw [eop_eq h h1]
    congr 1
    funext v mu n
    rw [setDst_eq]
    exact hk v mu n
  cases g with
  | none=>exact e1
  | some p =>
    obtain ⟨q,r,w⟩:=p
    show wantF (atV e q r) w (eop orc call fz (Nat.beq mode 1) op e mu n (λv mu n=>k (Go.Ev.updD e dst v) mu n)) (k (Go.Ev.updD e dst noVal) mu n) = wantF (atV e q r) w _ (setDst tm dst noVal λtm=>K tm mu n)
    rw [e1,setDst_eq]
    congr 1
    exact hk noVal mu n
theorem preE_eq : ∀ {l : List AOper} {e : EnvQ} {tm : TM} {mu : St} {n : Nat} {k : EnvQ → RR} {K : TM → RR},(∀ o ∈ l,okOper nt o = true) → EnvR nt e tm → (∀ e' tm',EnvR nt e' tm' → k e' = K tm') → preE orc call fz l e mu n k = preK orc zz call fz l tm mu n K
  | [],e,tm,mu,n,k,K,_,h,hk=>hk _ _ h
  | o :: l,e,tm,mu,n,k,K,hok,h,hk=>by
    have ho:=hok o (by simp)
    have hd:=(okOper_elim ho).2.1
    show (stepE orc call fz o e mu n λe _ _=>preE orc call fz l e mu n k) = stepK orc zz call fz o tm mu n λtm _ _=>preK orc zz call fz l tm mu n K
    exact stepE_eq h ho λv _ _=>preE_eq (λo h=>hok o (by simp [h])) (h.updD hd v) hk
theorem runE_eq (hl : kept.length ≤ 264) : ∀ {ops : List AOper} {c : Nat} {ds : List Nat} {e : EnvQ} {t : Fm} {tm : TM} {mu : St} {n : Nat} {k : List Nat → EnvQ → Fm → St → Nat → RR} {K : TM → St → Nat → RR}, (∀ o ∈ ops, okOper nt o = true) → Inv nt kept e t ds tm →
    (∀ ds e t tm mu n,Inv nt kept e t ds tm → k ds e t mu n = K tm mu n) → runE kept orc call fz ops c ds e t mu n k = runKf orc zz call fz (kpOf kept) ops c tm mu n K
  | [],c,ds,e,t,tm,mu,n,k,K,_,hi,hk=>hk _ _ _ _ _ _ hi
  | o :: l,c,ds,e,t,tm,mu,n,k,K,hok,hi,hk=>by
    have ho:=hok o (by simp)
    have hd:=(okOper_elim ho).2.1
    cases c with
    | zero =>
      show (storK kept e (nub ds) t λt=>stepE orc call fz o (env0 kept t) mu n λe mu n=>runE kept orc call fz l 9 (dsO o []) e t mu n k) = stepK orc zz call fz o (fg (kpOf kept) tm) mu n λtm mu n=>runKf orc zz call fz (kpOf kept) l 9 tm mu n K
      rw [storK_eq]
      have h0:=hi.stor hl
      refine stepE_eq h0 ho λv mu n=>?_
      exact runE_eq hl (λo h=>hok o (by simp [h])) ((Inv.start h0).step hd v) hk
    | succ c =>
      show (stepE orc call fz o e mu n λe mu n=>runE kept orc call fz l c (dsO o ds) e t mu n k) = stepK orc zz call fz o tm mu n λtm mu n=>runKf orc zz call fz (kpOf kept) l c tm mu n K
      refine stepE_eq hi.er ho λv mu n=>?_
      exact runE_eq hl (λo h=>hok o (by simp [h])) (hi.step hd v) hk
theorem rstepE_eq (h : EnvR nt e tm) {i : Nat} {o : AOper} (hok : okOper nt o = true) {mu : St} {ad : List St} {n : Nat} {k : EnvQ → St → List St → Nat → RR} {K : TM → St → List St → Nat → RR} (hk : ∀ v mu ad n, k (Go.Ev.updD e o.dst v) mu ad n = K (setDT tm o.dst v) mu ad n) :
    rstepE orc call fz i o e mu ad n k = rstep orc zz call fz i o tm mu ad n K:=by
  obtain ⟨h1,h2,h3⟩:=okOper_elim hok
  unfold rstep
  rw [guard_eq h h3]
  obtain ⟨dst,op,g,mode,anc⟩:=o
  have hf : ∀ ro,(λ(fz : Fz) (mu : St) (n : Nat) (k : KT RR)=>eop orc call fz ro op e mu n k) = λfz mu n k=>aop orc zz call fz tm mu n ro op k:=λro=>by
    funext fz mu n k
    exact eop_eq h h1
  have hj : ∀ v mu ad n,k (Go.Ev.updD e dst v) mu ad n = setDst tm dst v λtm=>K tm mu ad n:=λv mu ad n=>by rw [setDst_eq]; exact hk v mu ad n
  have e1 : ropE orc call fz i op mode anc e mu ad n (fun v mu ad n => k (Go.Ev.updD e dst v) mu ad n) =
      (cond (Nat.beq mode 0) (aop orc zz call (λ_=>none) tm [] n false op λv new n=>List.rec (motive:=λ_=>RR) (setDst tm dst v λtm=>K tm mu ad n) (λ_ _ _=>zz) new)
      (cond (Nat.beq mode 1) (aop orc zz call (with' (adsOf ad anc) (with' mu fz)) tm [] n true op λv new n=>setDst tm dst v λtm=>setK ad i new λad=>K tm mu ad n)
      (cond (Nat.beq mode 2) (joinK (adsOf ad anc) mu λmu=>clearK anc ad λad=>aop orc zz call fz tm mu n false op λv mu n=>setDst tm dst v λtm=>K tm mu ad n)
      (cond (Nat.beq mode 3) (aop orc zz call (λ_=>none) tm [] n false op λv new n=>setDst tm dst v λtm=>setK ad i new λad=>K tm mu ad n)
        (joinK (nth [] ad i) (adsOf ad anc) λown=>aop orc zz call (λ_=>none) tm own n false op λv new n=>setDst tm dst v λtm=>clearK anc ad λad=>setK ad i new λad=>K tm mu ad n))))):=by
    match mode with
    | 0 =>
      show dr0 (λfz mu n k=>eop orc call fz false op e mu n k) n (λv n=>k (Go.Ev.updD e dst v) mu ad n) = _
      rw [hf]
      simp only [hj]
      rfl
    | 1 =>
      show dr1 (λfz mu n k=>eop orc call fz true op e mu n k) anc i fz mu ad n (λv ad n=>k (Go.Ev.updD e dst v) mu ad n) = _
      rw [hf]
      simp only [hj]
      show (aop orc zz call (with' (adsOf ad anc) (with' mu fz)) tm [] n true op λv new n=>setK ad i new λad=>setDst tm dst v λtm=>K tm mu ad n) = aop orc zz call (with' (adsOf ad anc) (with' mu fz)) tm [] n true op λv new n=>setDst tm dst v λtm=>setK ad i new λad=>K tm mu ad n
      simp only [setDst_eq,setK_eq]
    | 2 =>
      show dr2 (λfz mu n k=>eop orc call fz false op e mu n k) anc fz mu ad n (λv mu ad n=>k (Go.Ev.updD e dst v) mu ad n) = _
      rw [hf]
      simp only [hj]
      rfl
    | 3 =>
      show dr3 (λfz mu n k=>eop orc call fz false op e mu n k) i ad n (λv ad n=>k (Go.Ev.updD e dst v) mu ad n) = _
      rw [hf]
      simp only [hj]
      show (aop orc zz call (λ_=>none) tm [] n false op λv new n=>setK ad i new λad=>setDst tm dst v λtm=>K tm mu ad n) = aop orc zz call (λ_=>none) tm [] n false op λv new n=>setDst tm dst v λtm=>setK ad i new λad=>K tm mu ad n
      simp only [setDst_eq,setK_eq]
    | m + 4 =>
      show dr4 (λfz mu n k=>eop orc call fz false op e mu n k) anc i ad n (λv ad n=>k (Go.Ev.updD e dst v) mu ad n) = _
      rw [hf]
      simp only [hj]
      show (joinK (nth [] ad i) (adsOf ad anc) λown=>aop orc zz call (λ_=>none) tm own n false op λv new n=>clearK anc ad λad=>setK ad i new λad=>setDst tm dst v λtm=>K tm mu ad n) =
        joinK (nth [] ad i) (adsOf ad anc) λown=>aop orc zz call (λ_=>none) tm own n false op λv new n=>setDst tm dst v λtm=>clearK anc ad λad=>setK ad i new λad=>K tm mu ad n
      simp only [setDst_eq,setK_eq,clearK_eq]
  cases g with
  | none=>exact e1
  | some p =>
    obtain ⟨q,r,w⟩:=p
    show wantF (atV e q r) w (ropE orc call fz i op mode anc e mu ad n (λv mu ad n=>k (Go.Ev.updD e dst v) mu ad n)) (k (Go.Ev.updD e dst noVal) mu ad n) = wantF (atV e q r) w _ (setDst tm dst noVal λtm=>K tm mu ad n)
    rw [e1,hj]
theorem rrunE_eq : ∀ {ops : List AOper} {i : Nat} {ds : List Nat} {e : EnvQ} {tm : TM} {mu : St} {ad : List St} {n : Nat} {k : List Nat → EnvQ → St → List St → Nat → RR} {K : TM → St → List St → Nat → RR}, (∀ o ∈ ops, okOper nt o = true) → Inv nt kept e t ds tm →
    (∀ ds e tm mu ad n,Inv nt kept e t ds tm → k ds e mu ad n = K tm mu ad n) → rrunE orc call fz ops i ds e mu ad n k = rrun orc zz call fz ops i tm mu ad n K
  | [],i,ds,e,tm,mu,ad,n,k,K,_,hi,hk=>hk _ _ _ _ _ _ hi
  | o :: l,i,ds,e,tm,mu,ad,n,k,K,hok,hi,hk=>by
    have ho:=hok o (by simp)
    have hd:=(okOper_elim ho).2.1
    show (rstepE orc call fz i o e mu ad n λe mu ad n=>rrunE orc call fz l (Nat.succ i) (dsO o ds) e mu ad n k) = rstep orc zz call fz i o tm mu ad n λtm mu ad n=>rrun orc zz call fz l (Nat.succ i) tm mu ad n K
    refine rstepE_eq hi.er ho λv mu ad n=>?_
    exact rrunE_eq (λo h=>hok o (by simp [h])) (hi.step hd v) hk
theorem storeX_mem {op : AOp} {x : Od} (h : op.storeX = some x) : x ∈ op.odsA:=by
  cases op with
  | call f args=>cases args with
    | nil=>cases h
    | cons y l=>cases h; simp [AOp.odsA,AOp.ods]
  | _=>first | (cases h; done) | (cases h; simp [AOp.odsA,AOp.ods])
theorem apartE_eq (h : EnvR nt e tm) : ∀ {ops : List AOper} {i : Nat} {mu : St} {ad : List St} {k : St → List St → RR},(∀ o ∈ ops,okOper nt o = true ∧ okLoose o = true) → apartE ops i e mu ad k = apart ops i tm mu ad k
  | [],i,mu,ad,k,_=>rfl
  | o :: l,i,mu,ad,k,hok=>by
    have ih : ∀ i mu ad,apartE l i e mu ad k = apart l i tm mu ad k:=λi mu ad=>apartE_eq h λo h=>hok o (by simp [h])
    obtain ⟨h1,h2⟩:=hok o (by simp)
    have h1':=(okOper_elim h1).1
    obtain ⟨dst,op,g,mode,anc⟩:=o
    have e0 : apartE (⟨dst,op,g,mode,anc⟩ :: l) i e mu ad k = Option.rec (motive:=λ_=>RR) (apartE l (Nat.succ i) e mu ad k) (λx=>apS (evV e x) i mu ad λmu ad=>apartE l (Nat.succ i) e mu ad k) (Bool.rec (motive:=λ_=>Option Od) none op.storeX (Nat.beq mode 4)):=rfl
    rw [e0]
    cases hm : Nat.beq mode 4 with
    | false =>
      show apartE l (Nat.succ i) e mu ad k = cond (Nat.beq mode 4) _ (apart l (Nat.succ i) tm mu ad k)
      rw [hm,ih]; rfl
    | true =>
      have h2' : (looseOf ⟨dst,op,g,mode,anc⟩).isSome = true:=by
        have h3 : cond (Nat.beq mode 4) ((looseOf ⟨dst,op,g,mode,anc⟩).isSome) true = true:=h2
        rw [hm] at h3; exact h3
      have e3 : looseOf ⟨dst,op,g,mode,anc⟩ = op.storeX:=by
        show Bool.rec (motive:=λ_=>Option Od) none op.storeX (Nat.beq mode 4) = _
        rw [hm]
      rw [e3] at h2'
      obtain ⟨x,hx⟩:=Option.isSome_iff_exists.1 h2'
      rw [hx]
      show apS (evV e x) i mu ad (λmu ad=>apartE l (Nat.succ i) e mu ad k) = cond (Nat.beq mode 4) (Option.rec (motive:=λ_=>RR) (apart l (Nat.succ i) tm mu ad k) (λx=>setApart (ev tm x) i mu ad λmu ad=>apart l (Nat.succ i) tm mu ad k) op.storeX) _
      rw [hm,hx,evE_eq h (List.all_eq_true.1 h1' x (storeX_mem hx))]
      unfold apS
      simp only [ih]
      rfl
theorem vIf_eq (v : AV) (a b : RR) : vIf v a b = onIf zz v a b:=by
  cases v with
  | ag l=>rfl
  | tp l=>rfl
  | one s =>
    cases s with
    | bool y=>cases y <;> rfl
    | _=>rfl
theorem gx_eq (h : EnvR nt (env0 kept t) tm) {x : Od} (hx : okT nt x = true) : gx kept x t = ev tm x:=by
  rw [← evE_eq h hx,evV_eq]
  cases x with
  | c v=>rfl
  | t q r =>
    show Option.rec (motive:=λ_=>GT) (λ_=>.one .un) (λj=>gAt j) (idxOf kept (16 * q + r) 0) t = (env0 kept t (16 * q + r)).val
    cases hi : idxOf kept (16 * q + r) 0 with
    | none=>rw [env0_none hi]; rfl
    | some j=>rw [env0_some hi]; rfl
def KR (nt : Nat) (kept : List Nat) (k : AExit → Fm → St → Nat → RR) (K : AExit → TM → St → Nat → RR) : Prop:=∀ e t tm mu n,EnvR nt (env0 kept t) tm → k e t mu n = K e tm mu n
structure Same (nt : Nat) (kept : List Nat) (orc : Orc RR) (call : CallT RR) (fz : Fz) (c : BC) : Prop where
  alone : ∀ t tm mu n k K,EnvR nt (env0 kept t) tm → KR nt kept k K → comp kept c none orc call fz t mu n k = bcode orc zz call fz 100000 (kpOf kept) c tm mu n K
  behind : ∀ e t tm mu n k K,EnvR nt e tm → EnvR nt (env0 kept t) (fg (kpOf kept) tm) → KR nt kept k K → comp kept c (some e) orc call fz t mu n k = bcode orc zz call fz 100000 (kpOf kept) c (cond c.tst tm (fg (kpOf kept) tm)) mu n K
theorem Same.plain {c : BC} (hc : c.tst = false) (hs : ∀ e,comp kept c (some e) = comp kept c none) (h : ∀ t tm mu n k K,EnvR nt (env0 kept t) tm → KR nt kept k K → comp kept c none orc call fz t mu n k = bcode orc zz call fz 100000 (kpOf kept) c tm mu n K) : Same nt kept orc call fz c :=
  ⟨h,λe t tm mu n k K _ h2 hk=>by rw [hs,hc]; exact h t _ mu n k K h2 hk⟩
theorem KR.onward {next : Fm → St → Nat → RR} {Next : TM → St → Nat → RR} {k : AExit → Fm → St → Nat → RR} {K : AExit → TM → St → Nat → RR} (hn : ∀ t tm mu n,EnvR nt (env0 kept t) tm → next t mu n = Next tm mu n) (hk : KR nt kept k K) : KR nt kept (onward next k) (onw Next K):=by
  intro e t tm mu n h
  cases e with
  | normal=>exact hn t tm mu n h
  | exit id=>exact hk (.exit id) t tm mu n h
  | ret=>exact hk .ret t tm mu n h
theorem KR.inBlk {id : Nat} {next : Fm → St → Nat → RR} {Next : TM → St → Nat → RR} {k : AExit → Fm → St → Nat → RR} {K : AExit → TM → St → Nat → RR} (hn : ∀ t tm mu n,EnvR nt (env0 kept t) tm → next t mu n = Next tm mu n) (hk : KR nt kept k K) : KR nt kept (inBlk id next k) (inBN id Next K):=by
  intro e t tm mu n h
  cases e with
  | normal=>exact hn t tm mu n h
  | exit id' =>
    show Bool.rec (motive:=λ_=>RR) (k (.exit id') t mu n) (next t mu n) (Nat.beq id' id) = cond (Nat.beq id' id) (Next tm mu n) (K (.exit id') tm mu n)
    cases Nat.beq id' id with
    | true=>exact hn t tm mu n h
    | false=>exact hk (.exit id') t tm mu n h
  | ret=>exact hk .ret t tm mu n h
theorem comp_eq (hl : kept.length ≤ 264) : ∀ {c : BC},okB nt c = true → Same nt kept orc call fz c
  | .norm,_=>Same.plain rfl (λ_=>rfl) λt tm mu n k K h hk=>hk .normal t tm mu n h
  | .ret,_=>Same.plain rfl (λ_=>rfl) λt tm mu n k K h hk=>hk .ret t tm mu n h
  | .bad,_=>Same.plain rfl (λ_=>rfl) λt tm mu n k K h hk=>rfl
  | .exit id,_=>Same.plain rfl (λ_=>rfl) λt tm mu n k K h hk=>hk (.exit id) t tm mu n h
  | .reg ops nx,hok=>by
    have hok' : (allL (okOper nt) ops && okB nt nx) = true:=hok
    simp only [Bool.and_eq_true] at hok'
    have ih:=comp_eq hl hok'.2
    refine Same.plain rfl (λ_=>rfl) λt tm mu n k K h hk=>?_
    show (runE kept orc call fz ops 10 [] (env0 kept t) t mu n λds e t mu n=>storK kept e (nub ds) t λt=>comp kept nx (some e) orc call fz t mu n k) = runKf orc zz call fz (kpOf kept) ops 10 tm mu n λtm mu n=>bcode orc zz call fz 100000 (kpOf kept) nx (cond nx.tst tm (fg (kpOf kept) tm)) mu n K
    refine runE_eq hl (allL_iff.1 hok'.1) (Inv.start h) λds e t tm mu n hi=>?_
    rw [storK_eq]
    exact ih.behind _ _ _ _ _ _ _ hi.er (hi.stor hl) hk
  | .draw ops nx,hok=>by
    have hok' : (allL (λo=>okOper nt o && okLoose o) ops && okB nt nx) = true:=hok
    simp only [Bool.and_eq_true] at hok'
    have ih:=comp_eq hl hok'.2
    have hall : ∀ o ∈ ops,okOper nt o = true ∧ okLoose o = true:=λo ho=>by
      have:=allL_iff.1 hok'.1 o ho
      simpa only [Bool.and_eq_true] using this
    refine Same.plain rfl (λ_=>rfl) λt tm mu n k K h hk=>?_
    show (preE orc call fz (preOf ops) (env0 kept t) mu n λe=>apartE ops 0 e mu (ops.map λ_=>[]) λmu ad=>rrunE orc call fz ops 0 [] (env0 kept t) mu ad n λds e mu ad n=>joinAll ad mu λmu=>storK kept e (nub ds) t λt=>comp kept nx (some e) orc call fz t mu n k) =
      preK orc zz call fz (preOf ops) tm mu n λtm'=>apart ops 0 tm' mu (ops.map λ_=>[]) λmu ad=>rrun orc zz call fz ops 0 tm mu ad n λtm mu ad n=>joinAll ad mu λmu=>bcode orc zz call fz 100000 (kpOf kept) nx (cond nx.tst tm (fg (kpOf kept) tm)) mu n K
    refine preE_eq (λo ho=>(hall o (preOf_mem ho)).1) h λe' tm' h'=>?_
    rw [apartE_eq h' hall]
    congr 1
    funext mu ad
    refine rrunE_eq (t:=t) (λo ho=>(hall o ho).1) (Inv.start h) λds e tm mu ad n hi=>?_
    rw [joinAll_eq,joinAll_eq,storK_eq]
    exact ih.behind _ _ _ _ _ _ _ hi.er (hi.stor hl) hk
  | .ite x a b,hok=>by
    have hok' : (okT nt x && (okB nt a && okB nt b)) = true:=hok
    simp only [Bool.and_eq_true] at hok'
    have iha:=comp_eq hl hok'.2.1
    have ihb:=comp_eq hl hok'.2.2
    refine ⟨λt tm mu n k K h hk=>?_,λe t tm mu n k K he h hk=>?_⟩
    · show vIf (gx kept x t) (comp kept a none orc call fz t mu n k) (comp kept b none orc call fz t mu n k) = onIf zz (ev tm x) _ _
      rw [vIf_eq,gx_eq h hok'.1,iha.alone _ _ _ _ _ _ h.again hk,ihb.alone _ _ _ _ _ _ h.again hk]
    · show vIf (evV e x) (comp kept a none orc call fz t mu n k) (comp kept b none orc call fz t mu n k) = onIf zz (ev tm x) _ _
      rw [vIf_eq,evE_eq he hok'.1,iha.alone _ _ _ _ _ _ h hk,ihb.alone _ _ _ _ _ _ h hk]; rfl
  | .iteN x a b nx,hok=>by
    have hok' : (okT nt x && (okB nt a && (okB nt b && okB nt nx))) = true:=hok
    simp only [Bool.and_eq_true] at hok'
    have iha:=comp_eq hl hok'.2.1
    have ihb:=comp_eq hl hok'.2.2.1
    have ihn:=comp_eq hl hok'.2.2.2
    have hn : ∀ {k K},KR nt kept k K → KR nt kept (onward (comp kept nx none orc call fz · · · k) k) (onw (bcode orc zz call fz 100000 (kpOf kept) nx · · · K) K):=λhk=>KR.onward (λt tm mu n h=>ihn.alone _ _ _ _ _ _ h hk) hk
    refine ⟨λt tm mu n k K h hk=>?_,λe t tm mu n k K he h hk=>?_⟩
    · show vIf (gx kept x t) (comp kept a none orc call fz t mu n (onward (comp kept nx none orc call fz · · · k) k)) (comp kept b none orc call fz t mu n (onward (comp kept nx none orc call fz · · · k) k)) = onIf zz (ev tm x) _ _
      rw [vIf_eq,gx_eq h hok'.1,iha.alone _ _ _ _ _ _ h.again (hn hk),ihb.alone _ _ _ _ _ _ h.again (hn hk)]
    · show vIf (evV e x) (comp kept a none orc call fz t mu n (onward (comp kept nx none orc call fz · · · k) k)) (comp kept b none orc call fz t mu n (onward (comp kept nx none orc call fz · · · k) k)) = onIf zz (ev tm x) _ _
      rw [vIf_eq,evE_eq he hok'.1,iha.alone _ _ _ _ _ _ h (hn hk),ihb.alone _ _ _ _ _ _ h (hn hk)]; rfl
  | .test x id nx,hok=>by
    have hok' : (okT nt x && okB nt nx) = true:=hok
    simp only [Bool.and_eq_true] at hok'
    have ihn:=comp_eq hl hok'.2
    refine ⟨λt tm mu n k K h hk=>?_,λe t tm mu n k K he h hk=>?_⟩
    · show vIf (gx kept x t) (comp kept nx none orc call fz t mu n k) (k (.exit id) t mu n) = onIf zz (ev tm x) _ _
      rw [vIf_eq,gx_eq h hok'.1,ihn.alone _ _ _ _ _ _ h.again hk,hk (.exit id) t _ mu n h.again]
    · show vIf (evV e x) (comp kept nx none orc call fz t mu n k) (k (.exit id) t mu n) = onIf zz (ev tm x) _ _
      rw [vIf_eq,evE_eq he hok'.1,ihn.alone _ _ _ _ _ _ h hk,hk (.exit id) t _ mu n h]; rfl
  | .blk id a nx,hok=>by
    have hok' : (okB nt a && okB nt nx) = true:=hok
    simp only [Bool.and_eq_true] at hok'
    have iha:=comp_eq hl hok'.1
    have ihn:=comp_eq hl hok'.2
    refine Same.plain rfl (λ_=>rfl) λt tm mu n k K h hk=>?_
    exact iha.alone t tm mu n (inBlk id (comp kept nx none orc call fz · · · k) k) (inBN id (bcode orc zz call fz 100000 (kpOf kept) nx · · · K) K) h (KR.inBlk (λt tm mu n h=>ihn.alone _ _ _ _ _ _ h hk) hk)
  | .loop a nx,hok=>by
    have hok' : (okB nt a && okB nt nx) = true:=hok
    simp only [Bool.and_eq_true] at hok'
    have iha:=comp_eq hl hok'.1
    have ihn:=comp_eq hl hok'.2
    refine Same.plain rfl (λ_=>rfl) λt tm mu n k K h hk=>?_
    have key : ∀ (fuel : Nat) t tm mu n k K,EnvR nt (env0 kept t) tm → KR nt kept k K → loopK (comp kept a none) orc call fz fuel t mu n k = loopD zz (bcode orc zz call fz 100000 (kpOf kept) a) fuel tm mu n K:=by
      intro fuel
      induction fuel with
      | zero=>intros; rfl
      | succ f ih =>
        intro t tm mu n k K h hk
        exact iha.alone t tm mu n (onward (loopK (comp kept a none) orc call fz f · · · k) k) (onw (loopD zz (bcode orc zz call fz 100000 (kpOf kept) a) f · · · K) K) h (KR.onward (λt tm mu n h=>ih t tm mu n k K h hk) hk)
    have e1 : comp kept (.loop a nx) none = cLoop (comp kept a none) (comp kept nx none):=rfl
    rw [e1,bcode]
    unfold cLoop
    exact key _ t tm mu n _ _ h (KR.onward (λt tm mu n h=>ihn.alone _ _ _ _ _ _ h hk) hk)
end
end Go.Ev
namespace Go.Ev
noncomputable def tmOf (nt : Nat) (e : EnvQ) : TM:=(List.range ((nt + 15) / 16)).map λq=>(List.range (min 16 (nt - 16 * q))).map λr=>(e (16 * q + r)).val
theorem tmOf_in {nt : Nat} {e : EnvQ} {q r : Nat} (hr : r < 16) (hn : 16 * q + r < nt) : inR (tmOf nt e) q r ∧ get (tmOf nt e) q r = (e (16 * q + r)).val:=by
  have h1 : (tmOf nt e)[q]? = some ((List.range (min 16 (nt - 16 * q))).map λr=>(e (16 * q + r)).val):=by
    unfold tmOf
    rw [List.getElem?_map,List.getElem?_range (by omega)]; rfl
  refine ⟨⟨_,h1,by simp; omega⟩,?_⟩
  unfold get
  rw [nth_eq,nth_eq,h1,Option.getD_some,List.getElem?_map,List.getElem?_range (by omega)]
  rfl
theorem tmOf_out {nt : Nat} {e : EnvQ} {q r : Nat} (h : inR (tmOf nt e) q r) : 16 * q + r < nt:=by
  obtain ⟨row,h1,h2⟩:=h
  unfold tmOf at h1
  rw [List.getElem?_map] at h1
  obtain ⟨q',h3,rfl⟩:=Option.map_eq_some_iff.1 h1
  have h4:=List.getElem?_eq_some_iff.1 h3
  obtain ⟨h5,h6⟩:=h4
  simp at h6
  subst h6
  simp at h2
  omega
theorem tmOf_envR (nt : Nat) (e : EnvQ) : EnvR nt e (tmOf nt e):=λ_ _ hr hn=>tmOf_in hr hn
section
variable {nt : Nat} {kept : List Nat} {e : EnvQ} {t : Fm} {tm : TM} {fz : Fz}
theorem res1_eq (h : EnvR nt (env0 kept t) tm) {r : ARes} (hr : okRes nt r = true) {mu : St} {k : AV → RR} : res1 r (env0 kept t) fz mu k = resVal zz fz r tm mu k:=by
  cases r with
  | tmp q r =>
    have:=okT_t (show okT nt (.t q r) = true from hr)
    show k (atV (env0 kept t) q r) = k (get tm q r)
    rw [atV_eq,(h q r this.1 this.2).2]
  | cell q r a m =>
    have:=okT_t (show okT nt (.t q r) = true from hr)
    show rCell (atV (env0 kept t) q r) a m fz mu k = (get tm q r).onOne zz λs=>s.onPtr zz λid off=>lookAll fz mu id zz λcs=>subK cs off m zz λc=>asRes a c zz k
    rw [atV_eq,(h q r this.1 this.2).2]; rfl
theorem resAllE_eq (h : EnvR nt (env0 kept t) tm) : ∀ {l : List ARes},(∀ r ∈ l,okRes nt r = true) → ∀ {mu : St} {k : List CV → RR},resAllE l (env0 kept t) fz mu k = resAll zz fz l tm mu k
  | [],_,mu,k=>rfl
  | r :: l,hr,mu,k=>by
    show (res1 r (env0 kept t) fz mu λv=>toCV zz v λc=>resAllE l (env0 kept t) fz mu λcs=>k (c :: cs)) = resVal zz fz r tm mu λv=>toCV zz v λc=>resAll zz fz l tm mu λcs=>k (c :: cs)
    rw [res1_eq h (hr r (by simp))]
    congr 1
    funext v
    congr 1
    funext c
    exact resAllE_eq h λr hr'=>hr r (by simp [hr'])
theorem resC_eq (h : EnvR nt (env0 kept t) tm) {l : List ARes} (hr : ∀ r ∈ l,okRes nt r = true) {mu : St} {k : AV → RR} : resC kept l fz t mu k = resK zz fz l tm mu k:=by
  match l,hr with
  | [],_=>rfl
  | [.tmp q r],hr =>
    show fAV (gx kept (.t q r) t) k = k (get tm q r)
    rw [fAV_eq,gx_eq h (show okT nt (.t q r) = true from hr (.tmp q r) (by simp))]; rfl
  | [.cell q r a m],hr=>exact res1_eq (r:=.cell q r a m) h (hr _ (by simp))
  | r :: r2 :: l,hr =>
    show (resAllE (r :: r2 :: l) (env0 kept t) fz mu λcs=>k (.tp cs)) = resAll zz fz (r :: r2 :: l) tm mu λcs=>k (.tp cs)
    exact resAllE_eq h hr
end
theorem subI {mu mu2 : St} (h : ∀ id c,look mu2 id = some c → look mu id = some c) {id : Nat} (hs : (look mu2 id).isSome) : (look mu id).isSome:=by
  obtain ⟨c,hc⟩:=Option.isSome_iff_exists.1 hs
  simp [h id c hc]
theorem Rel.sub {val : Nat → Int} {ρ : Rho} {fz : Fz} {mu mu2 : St} {w : World} (hr : Rel val ρ fz mu w) (h : ∀ id c,look mu2 id = some c → look mu id = some c) : Rel val ρ fz mu2 w :=
  ⟨hr.rf,λid c hc=>hr.rm id c (h id c hc),λid c hc=>hr.dm id c (h id c hc),λa b p q ha hb=>hr.dj a b p q (subI h ha) (hb.imp (subI h) (λx=>x))⟩
theorem NewB.sub {ρ ρ' : Rho} {mu mu' mu2 : St} {w : World} (hb : NewB ρ ρ' mu mu' w) (h : ∀ id c,look mu2 id = some c → look mu' id = some c) : NewB ρ ρ' mu mu2 w:=λid p hl hp=>hb id p (subI h hl) hp
theorem NewI.sub {mu mu' mu2 : St} {n n' : Nat} (hi : NewI mu mu' n n') (h : ∀ id c,look mu2 id = some c → look mu' id = some c) : NewI mu mu2 n n':=λid hl=>hi id (subI h hl)
def HOk (P : Program) (f : Nat) (h : HFunc) : Prop:=hasBody P f = true ∧ ∃ fn m kept gc af,P.funcs[f]? = some fn ∧ prepFunc P m fn = some af ∧ okFunc kept af = true ∧ compFunc kept gc af = h
theorem hok {P : Program} {f : Nat} {h : HFunc} {m : Muts} {kept : List Nat} {gc : Bool} {fn : Func} (hb : hasBody P f = true) (hf : P.funcs[f]? = some fn) (h1 : (prepFunc P m fn).map (okFunc kept) = some true) (h2 : (prepFunc P m fn).map (compFunc kept gc) = some h) : HOk P f h:=by
  cases hp : prepFunc P m fn with
  | none=>rw [hp] at h1; cases h1
  | some af =>
    rw [hp] at h1 h2
    simp only [Option.map_some,Option.some.injEq] at h1 h2
    exact ⟨hb,fn,m,kept,gc,af,hf,hp,h1,h2⟩
section
variable {T : RR → Prop} {P : Program} {val : Nat → Int} {orc : Orc RR}
theorem frm_TmR {nt nargs : Nat} {kept : List Nat} {args : List AV} (hlen : args.length = nargs) (h8 : nargs ≤ 8) (hk : ∀ i, i < nargs → idxOf kept i 0 = some i) (ρ : Rho) (w : World) (xs : List Value) (hx : All2 (AVR val ρ w) args xs) :
    TmR val ρ w (tmOf nt (env0 kept (frm args))) { tmps:=xs.toArray ++ Array.replicate (nt - xs.toArray.size) undef,defers:=[] }:=by
  refine ⟨λt ht=>?_,λt=>?_⟩
  · have:=tmOf_out ht
    simp; omega
  · by_cases ht : t < nt
    · have h1:=(tmOf_in (nt:=nt) (e:=env0 kept (frm args)) (q:=t / 16) (r:=t % 16) (by omega) (by omega)).2
      have e1 : 16 * (t / 16) + t % 16 = t:=by omega
      rw [h1,e1]
      cases hi : idxOf kept t 0 with
      | none=>rw [env0_none hi]; trivial
      | some j =>
        rw [env0_some hi]
        show AVR val ρ w (gAt j (frm args)) _
        rw [gAt_frm (by omega)]
        by_cases hj : j < nargs
        · have hjj:=hk j hj
          have : t = j:=idxOf_inj hi hjj
          subst this
          have h3 : t < args.length:=by omega
          obtain ⟨b,h4,h5⟩:=hx.get (List.getElem?_eq_getElem h3)
          have h6 : t < xs.length:=by rw [← hx.length]; exact h3
          rw [List.getElem?_eq_getElem h3,Option.getD_some,Array.getD_eq_getD_getElem?,Array.getElem?_append_left (by simpa using h6)]
          simp only [List.getElem?_toArray,h4,Option.getD_some]
          exact h5
        · rw [List.getElem?_eq_none (by omega)]; trivial
    · have : get (tmOf nt (env0 kept (frm args))) (t / 16) (t % 16) = .one .un := by
        by_cases hin : inR (tmOf nt (env0 kept (frm args))) (t / 16) (t % 16)
        · have:=tmOf_out hin; omega
        · cases hg : get (tmOf nt (env0 kept (frm args))) (t / 16) (t % 16) with
          | one s=>cases s with
            | un=>rfl
            | _=>exact (hin (get_inR (by rw [hg]; intro h; cases h))).elim
          | _=>exact (hin (get_inR (by rw [hg]; intro h; cases h))).elim
      rw [this]; trivial
theorem hcall_sound (hz : ¬ T zz) (hk : OrcOk T val orc) (hmx : P.follows .mixedOrders = true) {K : Nat → Option (Contract RR)} {F : Nat → Option HFunc} (hK : ∀ f c, K f = some c → ContractOk T P val f c) (hF : ∀ f h, F f = some h → HOk P f h) :
    ∀ depth,CallSound T P val (hcall orc K F depth)
  | 0=>λf args fz mu n k h=>(hz h).elim
  | depth + 1=>λf args fz mu n k h=>by
    have ih:=hcall_sound hz hk hmx hK hF depth
    have h : T (Option.rec (motive:=λ_=>RR)
      (Option.rec (motive:=λ_=>RR) zz (λfn=>HFunc.rec (motive:=λ_=>RR) (λinit res body gc=>init args λt=>body orc (hcall orc K F depth) fz t mu n (ends res fz (gcK gc n k))) fn) (F f))
      (λc=>c args fz mu n k) (K f)):=h
    cases eK : K f with
    | some c =>
      rw [eK] at h
      exact hK f c eK args fz mu n k h
    | none =>
      rw [eK] at h
      cases eF : F f with
      | none=>rw [eF] at h; exact (hz h).elim
      | some hf =>
        rw [eF] at h
        obtain ⟨hb,fn,m,kept,gc,af,hfn,hp,hok,hcomp⟩:=hF f hf eF
        subst hcomp
        unfold prepFunc at hp
        cases hbody : fn.body with
        | none=>rw [hbody] at hp; cases hp
        | some c =>
          rw [hbody] at hp
          simp only at hp
          split at hp
          · rename_i b r hpc hpr
            cases hp
            have h : T (initAt (fn.params.size + fn.nfree) args λt=>comp kept (flat b .norm) none orc (hcall orc K F depth) fz t mu n (ends (resC kept r) fz (gcK gc n k))):=h
            simp only [okFunc,Bool.and_eq_true] at hok
            obtain ⟨ok1,ok2,ok3,ok4,ok5⟩:=hok
            have hl : kept.length ≤ 264:=Nat.le_of_ble_eq_true ok1
            have hkp : ∀ i,i < fn.params.size + fn.nfree → idxOf kept i 0 = some i:=λi hi=>by
              have:=allL_iff.1 ok3 i (by simpa using hi)
              have h2 : Option.rec (motive:=λ_=>Bool) false (λj=>Nat.beq j i) (idxOf kept i 0) = true:=this
              cases hx : idxOf kept i 0 with
              | none=>rw [hx] at h2; cases h2
              | some j=>rw [hx] at h2; rw [Nat.eq_of_beq_eq_true h2]
            obtain ⟨hlen,h8,h1⟩:=initAt_elim hz h
            have henv:=tmOf_envR fn.ntmps (env0 kept (frm args))
            have hKR : KR fn.ntmps kept (ends (resC kept r) fz (gcK gc n k)) (λe tm mu n'=>AExit.rec (motive:=λ_=>RR) (resK zz fz r tm mu λv=>gcK gc n k v mu n') (λ_=>zz) (resK zz fz r tm mu λv=>gcK gc n k v mu n') e):=by
              intro e t tm mu n' he
              have:=resC_eq (fz:=fz) he (allL_iff.1 ok4) (mu:=mu) (k:=λv=>gcK gc n k v mu n')
              cases e with
              | normal=>exact this
              | ret=>exact this
              | exit id=>rfl
            rw [(comp_eq (orc:=orc) (call:=hcall orc K F depth) (fz:=fz) hl ok5).alone _ _ mu n _ _ henv hKR] at h1
            obtain ⟨e,tm',mu',n',h3,h4⟩:=bcode_sound (P:=P) (val:=val) hz ih hk hmx c hpc h1
            have h3':=out_norm h3
            have h5 : T (resK zz fz r tm' mu' λv=>gcK gc n k v mu' n') ∧ (e = .normal ∨ e = .ret):=by
              cases e with
              | normal=>exact ⟨h3',.inl rfl⟩
              | ret=>exact ⟨h3',.inr rfl⟩
              | exit id=>exact (hz h3').elim
            obtain ⟨h6,h7⟩:=h5
            obtain ⟨v,h8',h9⟩:=resK_sound (P:=P) (val:=val) hz hpr h6
            obtain ⟨mu2,h10,hsub⟩ : ∃ mu2,T (k v mu2 n') ∧ ∀ id c,look mu2 id = some c → look mu' id = some c:=by
              cases gc with
              | false=>exact ⟨mu',h8',λ_ _ h=>h⟩
              | true=>exact sweepK_elim (show T (sweepK n v mu' λmu=>k v mu n') from h8')
            refine ⟨v,mu2,n',h10,hb,h4.1,λρ w xs hr hx hf=>?_⟩
            refine calls_of_wp hfn hbody (h4.2 ρ w _ hr (frm_TmR hlen h8 hkp ρ w xs hx) hf _ λa' w' hp=>?_)
            obtain ⟨d,ρ',p1,p2,p3,p4,p5,p6⟩:=hp
            obtain ⟨x,g1,g2⟩:=h9 ρ' w' a' p2 p3
            have : a'.defers = [] ∧ ∃ v_1,(results fn a'.tmps).run P w' = .ok v_1 w' ∧ ∃ x,Ending.returned v_1 = .returned x ∧ Post val ρ fz mu n w v mu2 n' x w' :=
              ⟨d,x,g1,x,rfl,ρ',p1,p2.sub hsub,g2,p4,p5.sub hsub,p6.sub hsub⟩
            rcases h7 with rfl | rfl
            · exact this
            · exact this
          · cases hp
end
def HTree.Ok (P : Program) : HTree → Prop
  | .nil=>True
  | .node k v l r=>HOk P k v ∧ l.Ok P ∧ r.Ok P
theorem HTree.ok {P : Program} : ∀ {t : HTree},t.Ok P → ∀ f h,t.find f = some h → HOk P f h
  | .nil,_,f,h,e=>by cases e
  | .node k v l r,ht,f,h,e=>by
    have e' : Bool.rec (motive:=λ_=>Option HFunc) (Bool.rec (motive:=λ_=>Option HFunc) (r.find f) (l.find f) (Nat.ble f k)) (some v) (Nat.beq f k) = some h:=e
    cases e1 : Nat.beq f k with
    | true =>
      rw [e1] at e'
      have:=Nat.eq_of_beq_eq_true e1
      subst this
      cases e'
      exact ht.1
    | false =>
      rw [e1] at e'
      cases e2 : Nat.ble f k with
      | true=>rw [e2] at e'; exact HTree.ok ht.2.1 f h e'
      | false=>rw [e2] at e'; exact HTree.ok ht.2.2 f h e'
theorem lawH {T : RR → Prop} (hz : ¬ T zz) {P : Program} {val : Nat → Int} {orc : Orc RR} {K : Nat → Option (Contract RR)} {F : HTree} {depth f : Nat} {args : List AV} (hR : ∀ v mu n, T (isR v mu n) → v = .one (.bool true)) (hk : OrcOk T val orc) (hmx : P.follows .mixedOrders = true)
    (hK : ∀ f c,K f = some c → ContractOk T P val f c) (hF : F.Ok P) (h : T (hcall orc K F.find depth f args (λ_=>none) [] 0 isR)) (w : World) (xs : List Value) (hx : All2 (AVR val (λ_=>none) w) args xs) :
    Calls P f xs.toArray w λe w'=>e = .returned (.bool true) ∧ Fr (λ_=>none) [] w w':=by
  obtain ⟨v,mu',n',h1,_,h2,h3⟩:=hcall_sound (T:=T) hz hk hmx hK (HTree.ok hF) depth f args (λ_=>none) [] 0 isR h
  have:=hR _ _ _ h1
  subst this
  refine (h3 (λ_=>none) w xs ⟨λid cs h=>(by cases h),λid cs h=>(by cases h),λid cs h=>(by cases h),λid id' p p' h=>(by cases h)⟩ hx λ_ _ _=>rfl).mono λe w' ⟨x,e1,ρ',p1,p2,p3,p4,p5,p6⟩=>?_
  subst e1
  have hx : x = .bool true:=p3
  subst hx
  exact ⟨rfl,p4⟩
end Go.Ev
set_option maxRecDepth 1000000
set_option linter.unusedVariables false
namespace Go.Proofs.Ytnnjlnkoomeadaa.Ev
open Go.Ev
def bF : AV:=.one (.bool false)
def bT : AV:=.one (.bool true)
def nS : AV:=.one .nsl
def i0 : AV:=.one (.int .i64 (.ofNat 0))
def i1 : AV:=.one (.int .i64 (.ofNat 1))
def i2 : AV:=.one (.int .i64 (.ofNat 2))
def i3 : AV:=.one (.int .i64 (.ofNat 3))
def i4 : AV:=.one (.int .i64 (.ofNat 4))
def i5 : AV:=.one (.int .i64 (.ofNat 5))
def i6 : AV:=.one (.int .i64 (.ofNat 6))
def i7 : AV:=.one (.int .i64 (.ofNat 7))
def i8 : AV:=.one (.int .i64 (.ofNat 8))
def i9 : AV:=.one (.int .i64 (.ofNat 9))
def i10 : AV:=.one (.int .i64 (.ofNat 10))
def i11 : AV:=.one (.int .i64 (.ofNat 11))
def i12 : AV:=.one (.int .i64 (.ofNat 12))
def i13 : AV:=.one (.int .i64 (.ofNat 13))
def i14 : AV:=.one (.int .i64 (.ofNat 14))
def i15 : AV:=.one (.int .i64 (.ofNat 15))
def i16 : AV:=.one (.int .i64 (.ofNat 16))
def i32 : AV:=.one (.int .i64 (.ofNat 32))
def i64 : AV:=.one (.int .i64 (.ofNat 64))
def i100 : AV:=.one (.int .i64 (.ofNat 100))
def j0 : AV:=.one (.int .i64 (.negSucc 0))
def j1 : AV:=.one (.int .i64 (.negSucc 1))
def j2 : AV:=.one (.int .i64 (.negSucc 2))
def j3 : AV:=.one (.int .i64 (.negSucc 3))
def z0 : List SV:=[.int .i64 (.ofNat 0),.int .i64 (.ofNat 0),.int .i64 (.ofNat 0),.int .i64 (.ofNat 0),.int .i64 (.ofNat 0),.int .i64 (.ofNat 0),.bool false,.int .i64 (.ofNat 0),.str 0 0,.nsl,.nsl,.nsl,.nsl]
def z1 : List SV:=[.int .i64 (.ofNat 0),.int .i64 (.ofNat 0),.int .i64 (.ofNat 0),.nsl,.int .i64 (.ofNat 0),.int .i64 (.ofNat 0),.int .i64 (.ofNat 0),.int .i64 (.ofNat 0),.int .i64 (.ofNat 0),.int .i64 (.ofNat 0),.int .i64 (.ofNat 0),.int .i64 (.ofNat 0),.int .i64 (.ofNat 0),.int .i64 (.ofNat 0),.int .i64 (.ofNat 0),.int .i64 (.ofNat 0),.int .i64 (.ofNat 0),.int .i64 (.ofNat 0),.str 0 0,.nsl,.int .i64 (.ofNat 0),.str 0 0,.nsl,.str 0 0]
def z2 : List SV:=[.int .i64 (.ofNat 0),.int .i64 (.ofNat 0),.int .i64 (.ofNat 0),.int .i64 (.ofNat 0),.str 0 0,.nsl]
def z3 : List SV:=[.bool false,.bool false,.bool false,.bool false,.bool false,.bool false,.bool false,.bool false,.bool false,.bool false,.bool false,.bool false,.bool false,.bool false,.bool false]
def z4 : List SV:=[.int .i64 (.ofNat 0),.int .i64 (.ofNat 0),.int .i64 (.ofNat 0),.int .i64 (.ofNat 0),.int .i64 (.ofNat 0),.int .i64 (.ofNat 0),.int .i64 (.ofNat 0),.int .i64 (.ofNat 0),.int .i64 (.ofNat 0),.int .i64 (.ofNat 0),.int .i64 (.ofNat 0),.int .i64 (.ofNat 0),.int .i64 (.ofNat 0),.int .i64 (.ofNat 0),.str 0 0,.nsl,.int .i64 (.ofNat 0),.str 0 0,.nsl,.str 0 0]
def z5 : List SV:=[.int .i64 (.ofNat 0),.int .i64 (.ofNat 0),.int .i64 (.ofNat 0),.int .i64 (.ofNat 0),.nsl]
def z6 : List SV:=[.int .i64 (.ofNat 0),.str 0 0,.nsl]
def z7 : List SV:=[.int .i64 (.ofNat 0),.int .i64 (.ofNat 0),.int .i64 (.ofNat 0),.int .i64 (.ofNat 0),.int .i64 (.ofNat 0),.int .i64 (.ofNat 0),.bool false,.int .i64 (.ofNat 0),.str 0 0,.nsl,.nsl,.nsl,.nsl,.nsl,.bool false]
noncomputable def F8 : HFunc:=.mk init0 (rTmp e0_5)
  (λo c z t m n k=>se0_5 t bF λt=>qCallR o c 19 [i0,i3] z m n λx11 m n=>pExtr x11 0 λx12=>pExtr x11 1 λx13=>qAlloc z0 m n λx1 m n=>qStore 13 x1 x12 m λm=>sd0 t x1 λt=>pLoadA 13 (d0 t) z m λx15=>qOth o c z m n false (.build z4 [(0,1,(.c i2)),(1,1,(.c i100)),(14,1,(.c (.one (.str 1 97))))]) λx16 m n=>qCallR o c 20 [x15,i7,x16] z m n λx17 m n=>pExtr x17 0 λx18=>pExtr x17 1 λx19=>pExtr x17 2 λx20=>qAlloc z1 m n λx3 m n=>qStore 24 x3 x18 m λm=>sd2 t x19 λt=>sd3 t x3 λt=>sd7 t x20 λt=>fAV (d7 t) λx5=>se0_0 t x5 λt=>fAV (e0_0 t) λx21=>p_neq x21 i0 o λx22=>gd x22 false (λJ=>fAV (d2 t) λv=>J v m n) m n λx24 m n=>gd x22 false (λJ=>pLen x24 λv=>J v m n) m n λx25 m n=>gd x22 false (λJ=>p_neq x25 i2 o λv=>J v m n) m n λx26 m n=>pPick x22 bT x26 λx27=>gd x27 false (λJ=>pLoadA 13 (d0 t) z m λv=>J v m n) m n λx29 m n=>gd x27 false (λJ=>pLoadA 24 (d3 t) z m λv=>J v m n) m n λx30 m n=>se0_2 t x30 λt=>se0_1 t x29 λt=>sd4 t x27 λt=>gd (d4 t) false (λJ=>fAV (e0_1 t) λy0=>fAV (e0_2 t) λy1=>qCallR o c 14 [y0,y1] z m n λv m n=>J v m n) m n λx31 m n=>pPick (d4 t) bT x31 λx32=>tIfN x32 (λo c z t m n k=>se0_5 t bF λt=>cRet o c z t m n k) cNorm (λo c z t m n k=>qCallR o c 19 [i1,i3] z m n λx34 m n=>pExtr x34 0 λx35=>pExtr x34 1 λx36=>qAlloc z0 m n λx6 m n=>qStore 13 x6 x35 m λm=>se0_3 t x6 λt=>(λa=>dL (pLoadA 13 (e0_3 t)) [] 0 z m a n λx37 a n=>dP (fAV (d2 t)) n λx38 n=>dP (pIaddr 20 x38 i0) n λx39 n=>dL (pLoadA 20 x39) [2,1] 3 z m a n λx40 a n=>dr1 (λz m n k=>qCallR o c 33 [x37,x40] z m n λv m n=>k v m n) [0,3,2,1] 4 z m a n λx41 a n=>dM x41 n λx8 n=>joinAll a m λm=>sd5 t x8 λt=>fAV (d5 t) λx42=>pLen x42 λx43=>p_neq x43 i1 o λx44=>tIfN x44 (λo c z t m n k=>se0_5 t bF λt=>cRet o c z t m n k) cNorm (λo c z t m n k=>(λa=>dL (pLoadA 13 (d0 t)) [] 0 z m a n λx45 a n=>dL (pLoadA 24 (d3 t)) [] 1 z m a n λx46 a n=>dP (fAV (d5 t)) n λx47 n=>dP (pIaddr 20 x47 i0) n λx48 n=>dL (pLoadA 20 x48) [3,2] 4 z m a n λx49 a n=>dr1 (λz m n k=>qCallR o c 11 [x45,x46,x49] z m n λv m n=>k v m n) [0,1,4,3,2] 5 z m a n λx50 a n=>dr3 (λz m n k=>qAlloc z1 m n λv m n=>k v m n) 6 a n λx9 a n=>dr2 (λz m n k=>qStore 24 x9 x50 m λm=>k noVal m n) [6,5,0,1,4,3,2] z m a n λ_ m a n=>joinAll a m λm=>sd6 t x9 λt=>qCallR o c 23 [i0] z m n λx51 m n=>p_eql x51 i0 o λx52=>gd x52 true (λJ=>pFaddr 3 (d6 t) λv=>J v m n) m n λx54 m n=>gd x52 true (λJ=>pLoad1 x54 z m λv=>J v m n) m n λx55 m n=>gd x52 true (λJ=>qOth o c z m n false (.bslice 1 1 [.int .i64 (.ofNat 0)] [(0,1,(.c i1))]) λv m n=>J v m n) m n λx56 m n=>gd x52 true (λJ=>qCallR o c 34 [x55,x56] z m n λv m n=>J v m n) m n λx57 m n=>pPick x52 x57 bF λx58=>gd x58 true (λJ=>pLoadA 13 (d0 t) z m λv=>J v m n) m n λx60 m n=>se0_4 t x60 λt=>sd1 t x58 λt=>gd (d1 t) true (λJ=>pLoadA 24 (d6 t) z m λv=>J v m n) m n λx61 m n=>gd (d1 t) true (λJ=>fAV (e0_4 t) λy0=>qCallR o c 14 [y0,x61] z m n λv m n=>J v m n) m n λx62 m n=>pPick (d1 t) x62 bF λx63=>se0_5 t x63 λt=>cRet o c z t m n k) [[],[],[],[],[],[],[],[]]) o c z t m n k) [[],[],[],[],[],[]]) o c z t m n k) false
noncomputable def F11 : HFunc:=.mk init3 (λz t m k=>rCell (e0_2 t) true 24 z m (k))
  (λo c z t m n k=>qBox (d0 t) m n λx3 m n=>qBox (d1 t) m n λx4 m n=>qBox (d2 t) m n λx5 m n=>qAlloc z1 m n λx6 m n=>se0_2 t x6 λt=>sd3 t x5 λt=>se0_3 t x4 λt=>sd4 t x3 λt=>pLoadA 24 (e0_3 t) z m λx10=>qCallR o c 37 [x10] z m n λx11 m n=>qAlloc z1 m n λx7 m n=>qStore 24 x7 x11 m λm=>sd7 t x7 λt=>pFaddr 0 (d3 t) λx12=>pLoad1 x12 z m λx13=>p_neq x13 i13 o λx14=>gd x14 false (λJ=>pLoadA 13 (d4 t) z m λv=>J v m n) m n λx16 m n=>gd x14 false (λJ=>qCallR o c 24 [x16] z m n λv m n=>J v m n) m n λx17 m n=>gd x14 false (λJ=>pNot x17 λv=>J v m n) m n λx18 m n=>pPick x14 bT x18 λx19=>gd x19 false (λJ=>pLoadA 20 (d3 t) z m λv=>J v m n) m n λx21 m n=>se0_5 t x21 λt=>se0_0 t x19 λt=>gd (e0_0 t) false (λJ=>fAV (e0_5 t) λy0=>qCallR o c 38 [y0] z m n λv m n=>J v m n) m n λx22 m n=>gd (e0_0 t) false (λJ=>pNot x22 λv=>J v m n) m n λx23 m n=>pPick (e0_0 t) bT x23 λx24=>gd x24 false (λJ=>pLoadA 13 (d4 t) z m λv=>J v m n) m n λx26 m n=>gd x24 false (λJ=>qCallR o c 39 [x26] z m n λv m n=>J v m n) m n λx27 m n=>gd x24 false (λJ=>pNot x27 λv=>J v m n) m n λx28 m n=>pPick x24 bT x28 λx29=>gd x29 false (λJ=>pFaddr 2 (d3 t) λv=>J v m n) m n λx31 m n=>se0_6 t x31 λt=>sd6 t x29 λt=>gd (d6 t) false (λJ=>pLoad1 (e0_6 t) z m λv=>J v m n) m n λx32 m n=>gd (d6 t) false (λJ=>pFaddr 0 (d4 t) λv=>J v m n) m n λx33 m n=>gd (d6 t) false (λJ=>pLoad1 x33 z m λv=>J v m n) m n λx34 m n=>gd (d6 t) false (λJ=>p_neq x32 x34 o λv=>J v m n) m n λx35 m n=>pPick (d6 t) bT x35 λx36=>gd x36 false (λJ=>pFaddr 1 (d3 t) λv=>J v m n) m n λx38 m n=>gd x36 false (λJ=>pLoad1 x38 z m λv=>J v m n) m n λx39 m n=>gd x36 false (λJ=>pFaddr 0 (d4 t) λv=>J v m n) m n λx40 m n=>gd x36 false (λJ=>pLoad1 x40 z m λv=>J v m n) m n λx41 m n=>se0_8 t x41 λt=>se0_7 t x39 λt=>se0_4 t x36 λt=>gd (e0_4 t) false (λJ=>p_eql (e0_7 t) (e0_8 t) o λv=>J v m n) m n λx42 m n=>pPick (e0_4 t) bT x42 λx43=>gd x43 false (λJ=>pFaddr 1 (d3 t) λv=>J v m n) m n λx45 m n=>gd x43 false (λJ=>pLoad1 x45 z m λv=>J v m n) m n λx46 m n=>gd x43 false (λJ=>pFaddr 1 (d4 t) λv=>J v m n) m n λx47 m n=>gd x43 false (λJ=>pLoad1 x47 z m λv=>J v m n) m n λx48 m n=>gd x43 false (λJ=>p_geq x46 x48 o λv=>J v m n) m n λx49 m n=>pPick x43 bT x49 λx50=>sd5 t x50 λt=>gd (d5 t) false (λJ=>pFaddr 3 (d3 t) λv=>J v m n) m n λx52 m n=>gd (d5 t) false (λJ=>pLoad1 x52 z m λv=>J v m n) m n λx53 m n=>gd (d5 t) false (λJ=>pFaddr 2 (d4 t) λv=>J v m n) m n λx54 m n=>gd (d5 t) false (λJ=>pLoad1 x54 z m λv=>J v m n) m n λx55 m n=>gd (d5 t) false (λJ=>p_neq x53 x55 o λv=>J v m n) m n λx56 m n=>pPick (d5 t) bT x56 λx57=>gd x57 false (λJ=>pFaddr 7 (d3 t) λv=>J v m n) m n λx59 m n=>gd x57 false (λJ=>pLoad1 x59 z m λv=>J v m n) m n λx60 m n=>gd x57 false (λJ=>pFaddr 0 (e0_3 t) λv=>J v m n) m n λx61 m n=>se0_9 t x61 λt=>se0_10 t x60 λt=>se0_1 t x57 λt=>gd (e0_1 t) false (λJ=>pLoad1 (e0_9 t) z m λv=>J v m n) m n λx62 m n=>gd (e0_1 t) false (λJ=>p_neq (e0_10 t) x62 o λv=>J v m n) m n λx63 m n=>pPick (e0_1 t) bT x63 λx64=>tIfN x64 (λo c z t m n k=>pLoadA 24 (d7 t) z m λx65=>qStore 24 (e0_2 t) x65 m λm=>cRet o c z t m n k) cNorm (λo c z t m n k=>pFaddr 3 (d7 t) λx67=>pLoad1 x67 z m λx68=>pFaddr 1 (d3 t) λx69=>pLoad1 x69 z m λx70=>qCallR o c 40 [x68,x70] z m n λx71 m n=>pExtr x71 0 λx72=>pExtr x71 1 λx73=>se0_11 t x73 λt=>se0_12 t x72 λt=>fAV (e0_11 t) λx74=>pNot x74 λx75=>tIfN x75 (λo c z t m n k=>pFaddr 3 (d7 t) λx76=>pLoad1 x76 z m λx77=>fAV (e0_12 t) λx78=>pFaddr 1 (d3 t) λx79=>pLoad1 x79 z m λx80=>qOth o c z m n false (.bslice 1 1 [.int .i64 (.ofNat 0)] [(0,1,(.c x80))]) λx81 m n=>c 41 [x77,x78,x81] z m n λx82 m n=>pFaddr 3 (d7 t) λx83=>qStore1 x83 x82 m λm=>cNorm o c z t m n k) cNorm (λo c z t m n k=>pLoadA 24 (d7 t) z m λx84=>qStore 24 (e0_2 t) x84 m λm=>cRet o c z t m n k) o c z t m n k) o c z t m n k) false
noncomputable def F14 : HFunc:=.mk init2 (rTmp e0_1)
  (λo c z t m n k=>qBox (d0 t) m n λx2 m n=>qBox (d1 t) m n λx3 m n=>se0_1 t bF λt=>sd5 t x3 λt=>sd3 t x2 λt=>pLoadA 13 (d3 t) z m λx5=>qCallR o c 24 [x5] z m n λx6 m n=>gd x6 true (λJ=>pLoadA 13 (d3 t) z m λv=>J v m n) m n λx8 m n=>gd x6 true (λJ=>qCallR o c 39 [x8] z m n λv m n=>J v m n) m n λx9 m n=>pPick x6 x9 bF λx10=>gd x10 true (λJ=>pFaddr 3 (d5 t) λv=>J v m n) m n λx12 m n=>gd x10 true (λJ=>pLoad1 x12 z m λv=>J v m n) m n λx13 m n=>gd x10 true (λJ=>pLen x13 λv=>J v m n) m n λx14 m n=>sd6 t x14 λt=>sd2 t x10 λt=>gd (d2 t) true (λJ=>pFaddr 1 (d3 t) λv=>J v m n) m n λx15 m n=>gd (d2 t) true (λJ=>pLoad1 x15 z m λv=>J v m n) m n λx16 m n=>gd (d2 t) true (λJ=>p_sub x16 i1 o λv=>J v m n) m n λx17 m n=>gd (d2 t) true (λJ=>p_quo x17 i2 o λv=>J v m n) m n λx18 m n=>gd (d2 t) true (λJ=>p_geq (d6 t) x18 o λv=>J v m n) m n λx19 m n=>pPick (d2 t) x19 bF λx20=>gd x20 true (λJ=>pFaddr 5 (d3 t) λv=>J v m n) m n λx22 m n=>gd x20 true (λJ=>pLoad1 x22 z m λv=>J v m n) m n λx23 m n=>gd x20 true (λJ=>pFaddr 1 (d5 t) λv=>J v m n) m n λx24 m n=>sd7 t x24 λt=>se0_0 t x23 λt=>sd4 t x20 λt=>gd (d4 t) true (λJ=>pLoad1 (d7 t) z m λv=>J v m n) m n λx25 m n=>gd (d4 t) true (λJ=>p_geq (e0_0 t) x25 o λv=>J v m n) m n λx26 m n=>pPick (d4 t) x26 bF λx27=>se0_1 t x27 λt=>cRet o c z t m n k) false
noncomputable def F19 : HFunc:=.mk init2 (λz t m k=>rCell (d2 t) true 13 z m (λv=>toCV zz v λc0=>(λv=>toCV zz v λc1=>k (.tp [c0,c1])) (d6 t)))
  (λo c z t m n k=>qAlloc z0 m n λx4 m n=>sd6 t i0 λt=>sd2 t x4 λt=>fAV (d1 t) λx6=>qCallR o c 47 [x6] z m n λx7 m n=>pNot x7 λx8=>gd x8 false (λJ=>fAV (d0 t) λv=>J v m n) m n λx10 m n=>gd x8 false (λJ=>p_lss x10 i0 o λv=>J v m n) m n λx11 m n=>pPick x8 bT x11 λx12=>gd x12 false (λJ=>fAV (d0 t) λv=>J v m n) m n λx14 m n=>gd x12 false (λJ=>fAV (d1 t) λv=>J v m n) m n λx15 m n=>sd5 t x15 λt=>sd4 t x14 λt=>sd3 t x12 λt=>gd (d3 t) false (λJ=>p_geq (d4 t) (d5 t) o λv=>J v m n) m n λx16 m n=>pPick (d3 t) bT x16 λx17=>tIfN x17 (λo c z t m n k=>qOth o c z m n false (.build z0 []) λx18 m n=>qStore 13 (d2 t) x18 m λm=>sd6 t (.one (.int .i64 (.ofNat 1700))) λt=>cRet o c z t m n k) cNorm (λo c z t m n k=>fAV (d0 t) λx19=>fAV (d1 t) λx20=>fAV (d1 t) λx21=>forceV x21 o λy0=>forceV y0 o λy1=>qOth o c z m n false (.mkslice 1 8 [.int .i64 (.ofNat 0)] (.c y1) (.c y1)) λx22 m n=>qOth o c z m n false (.build z0 [(0,1,(.c x19)),(1,1,(.c x20)),(10,1,(.c x22))]) λx23 m n=>qStore 13 (d2 t) x23 m λm=>sd6 t i0 λt=>cRet o c z t m n k) o c z t m n k) false
noncomputable def F20 : HFunc:=.mk init3 (λz t m k=>rCell (d4 t) true 24 z m (λv=>toCV zz v λc0=>(λv=>toCV zz v λc1=>(λv=>toCV zz v λc2=>k (.tp [c0,c1,c2])) (e0_4 t)) (e0_3 t)))
  (λo c z t m n k=>qBox (d0 t) m n λx3 m n=>qBox (d2 t) m n λx5 m n=>qAlloc z1 m n λx6 m n=>se0_4 t i0 λt=>se0_3 t nS λt=>sd4 t x6 λt=>se0_0 t x5 λt=>sd3 t x3 λt=>pLoadA 13 (d3 t) z m λx11=>qCallR o c 24 [x11] z m n λx12 m n=>pNot x12 λx13=>gd x13 false (λJ=>pLoadA 13 (d3 t) z m λv=>J v m n) m n λx15 m n=>gd x13 false (λJ=>qCallR o c 39 [x15] z m n λv m n=>J v m n) m n λx16 m n=>gd x13 false (λJ=>pNot x16 λv=>J v m n) m n λx17 m n=>pPick x13 bT x17 λx18=>tIfN x18 (λo c z t m n k=>qOth o c z m n false (.build z1 []) λx19 m n=>qStore 24 (d4 t) x19 m λm=>se0_4 t i2 λt=>se0_3 t nS λt=>cRet o c z t m n k) cNorm (λo c z t m n k=>sd7 t nS λt=>pFaddr 1 (d3 t) λx20=>pLoad1 x20 z m λx21=>sd5 t i0 λt=>se0_1 t x21 λt=>(cBlk 0 (cLoop (λo c z t m n k=>p_lss (d5 t) (e0_1 t) o λx23=>tTest x23 0 (cBlk 1 (λo c z t m n k=>fAV (d5 t) λx24=>sd6 t x24 λt=>fAV (d6 t) λx25=>pFaddr 0 (d3 t) λx26=>pLoad1 x26 z m λx27=>p_neq x25 x27 o λx28=>tIf x28 (λo c z t m n k=>fAV (d7 t) λx29=>pFaddr 0 (d3 t) λx30=>pLoad1 x30 z m λx31=>fAV (d6 t) λx32=>pFaddr 2 (d3 t) λx33=>pLoad1 x33 z m λx34=>fAV (d1 t) λx35=>qOth o c z m n false (.build z4 [(0,1,(.c i12)),(1,1,(.c x31)),(2,1,(.c x32)),(3,1,(.c x34)),(7,1,(.c x35))]) λx36 m n=>qOth o c z m n false (.bslice 20 1 [.int .i64 (.ofNat 0),.int .i64 (.ofNat 0),.int .i64 (.ofNat 0),.int .i64 (.ofNat 0),.int .i64 (.ofNat 0),.int .i64 (.ofNat 0),.int .i64 (.ofNat 0),.int .i64 (.ofNat 0),.int .i64 (.ofNat 0),.int .i64 (.ofNat 0),.int .i64 (.ofNat 0),.int .i64 (.ofNat 0),.int .i64 (.ofNat 0),.int .i64 (.ofNat 0),.str 0 0,.nsl,.int .i64 (.ofNat 0),.str 0 0,.nsl,.str 0 0] [(0,20,(.c x36))]) λx37 m n=>qOth o c z m n false (.append 20 216 (.c x29) (.c x37)) λx38 m n=>se0_2 t x38 λt=>fAV (e0_2 t) λx9=>sd7 t x9 λt=>cNorm o c z t m n k) cNorm o c z t m n k) (λo c z t m n k=>p_add (d5 t) i1 o λx39=>sd5 t x39 λt=>cNorm o c z t m n k)) o c z t m n k) cNorm) (λo c z t m n k=>(λa=>dP (fAV (d1 t)) n λx40 n=>dP (pFaddr 7 (d3 t)) n λx41 n=>dL (pLoadA 3 x41) [1] 2 z m a n λx42 a n=>dr1 (λz m n k=>qCallR o c 48 [x42] z m n λv m n=>k v m n) [2,1] 3 z m a n λx43 a n=>dP (pFaddr 1 (e0_0 t)) n λx44 n=>dL (pLoad1 x44) [4] 5 z m a n λx45 a n=>dL (pLoadA 20 (e0_0 t)) [] 6 z m a n λx46 a n=>dr1 (λz m n k=>qCallR o c 49 [x46] z m n λv m n=>k v m n) [6,3,2,1] 7 z m a n λx47 a n=>dr0 (λz m n k=>qOth o c z m n false (.build z1 [(0,1,(.c x40)),(1,1,(.c x43)),(2,1,(.c x45)),(4,20,(.c x47))]) λv m n=>k v m n) n λx48 n=>dP (fAV (d7 t)) n λx49 n=>dr2 (λz m n k=>qStore 24 (d4 t) x48 m λm=>k noVal m n) [8,0,3,2,1,5,4,7,6] z m a n λ_ m a n=>dM x49 n λx7 n=>dM i0 n λx8 n=>joinAll a m λm=>se0_4 t x8 λt=>se0_3 t x7 λt=>cRet o c z t m n k) [[],[],[],[],[],[],[],[],[],[],[],[],[]])) o c z t m n k) o c z t m n k) false
noncomputable def F21 : HFunc:=.mk init2 (λz t m k=>rCell (d2 t) true 13 z m (λv=>toCV zz v λc0=>(λv=>toCV zz v λc1=>k (.tp [c0,c1])) (d3 t)))
  (λo c z t m n k=>qAlloc z0 m n λx4 m n=>sd3 t i0 λt=>sd2 t x4 λt=>fAV (d0 t) λx6=>fAV (d1 t) λx7=>qCallR o c 50 [x6,x7] z m n λx8 m n=>pNot x8 λx9=>tIfN x9 (λo c z t m n k=>qOth o c z m n false (.build z0 []) λx10 m n=>qStore 13 (d2 t) x10 m λm=>sd3 t (.one (.int .i64 (.ofNat 1700))) λt=>cRet o c z t m n k) cNorm (λo c z t m n k=>fAV (d0 t) λx11=>fAV (d1 t) λx12=>fAV (d1 t) λx13=>forceV x13 o λy0=>forceV y0 o λy1=>qOth o c z m n false (.mkslice 1 8 [.int .i64 (.ofNat 0)] (.c y1) (.c y1)) λx14 m n=>qOth o c z m n false (.build z0 [(0,1,(.c x11)),(1,1,(.c x12)),(10,1,(.c x14))]) λx15 m n=>qStore 13 (d2 t) x15 m λm=>sd3 t i0 λt=>cRet o c z t m n k) o c z t m n k) false
noncomputable def F23 : HFunc:=.mk init1 (rTmp d1)
  (λo c z t m n k=>sd1 t i0 λt=>fAV (d0 t) λx3=>sd1 t x3 λt=>cRet o c z t m n k) false
noncomputable def F24 : HFunc:=.mk init1 (rTmp e1_6)
  (λo c z t m n k=>qBox (d0 t) m n λx1 m n=>se1_6 t bF λt=>sd1 t x1 λt=>pFaddr 0 (d1 t) λx8=>pLoad1 x8 z m λx9=>pFaddr 1 (d1 t) λx10=>pLoad1 x10 z m λx11=>qCallR o c 50 [x9,x11] z m n λx12 m n=>pNot x12 λx13=>gd x13 false (λJ=>pFaddr 4 (d1 t) λv=>J v m n) m n λx15 m n=>gd x13 false (λJ=>pLoad1 x15 z m λv=>J v m n) m n λx16 m n=>gd x13 false (λJ=>p_lss x16 i0 o λv=>J v m n) m n λx17 m n=>se0_7 t x17 λt=>se0_6 t x13 λt=>pPick (e0_6 t) bT (e0_7 t) λx18=>gd x18 false (λJ=>pFaddr 4 (d1 t) λv=>J v m n) m n λx20 m n=>gd x18 false (λJ=>pLoad1 x20 z m λv=>J v m n) m n λx21 m n=>gd x18 false (λJ=>p_gtr x21 i2 o λv=>J v m n) m n λx22 m n=>pPick x18 bT x22 λx23=>gd x23 false (λJ=>pFaddr 2 (d1 t) λv=>J v m n) m n λx25 m n=>gd x23 false (λJ=>pLoad1 x25 z m λv=>J v m n) m n λx26 m n=>gd x23 false (λJ=>qCallR o c 52 [x26] z m n λv m n=>J v m n) m n λx27 m n=>se0_8 t x27 λt=>se0_3 t x23 λt=>gd (e0_3 t) false (λJ=>pNot (e0_8 t) λv=>J v m n) m n λx28 m n=>pPick (e0_3 t) bT x28 λx29=>gd x29 false (λJ=>pFaddr 3 (d1 t) λv=>J v m n) m n λx31 m n=>gd x29 false (λJ=>pLoad1 x31 z m λv=>J v m n) m n λx32 m n=>gd x29 false (λJ=>qCallR o c 52 [x32] z m n λv m n=>J v m n) m n λx33 m n=>gd x29 false (λJ=>pNot x33 λv=>J v m n) m n λx34 m n=>pPick x29 bT x34 λx35=>gd x35 false (λJ=>pFaddr 5 (d1 t) λv=>J v m n) m n λx37 m n=>se0_9 t x37 λt=>sd6 t x35 λt=>gd (d6 t) false (λJ=>pLoad1 (e0_9 t) z m λv=>J v m n) m n λx38 m n=>gd (d6 t) false (λJ=>qCallR o c 52 [x38] z m n λv m n=>J v m n) m n λx39 m n=>gd (d6 t) false (λJ=>pNot x39 λv=>J v m n) m n λx40 m n=>pPick (d6 t) bT x40 λx41=>tIfN x41 (λo c z t m n k=>se1_6 t bF λt=>cRet o c z t m n k) cNorm (λo c z t m n k=>(λa=>dP (pFaddr 3 (d1 t)) n λx42 n=>dL (pLoad1 x42) [0] 1 z m a n λx43 a n=>dP (pFaddr 2 (d1 t)) n λx44 n=>dL (pLoad1 x44) [2] 3 z m a n λx45 a n=>dP (p_gtr x43 x45 o) n λx46 n=>dM x46 n λx47 n=>gdD x47 false m a n (λJ=>dP (pFaddr 4 (d1 t)) n λx48 n=>J x48 m a n) λx48 m a n=>gdD x47 false m a n (λJ=>dL (pLoad1 x48) [6,5,4,1,0,3,2] 7 z m a n λx49 a n=>J x49 m a n) λx49 m a n=>gdD x47 false m a n (λJ=>dP (p_eql x49 i0 o) n λx50 n=>J x50 m a n) λx50 m a n=>gdD x47 false m a n (λJ=>dM x50 n λx51 n=>J x51 m a n) λx51 m a n=>gdD x51 true m a n (λJ=>dP (pFaddr 3 (d1 t)) n λx52 n=>J x52 m a n) λx52 m a n=>gdD x51 true m a n (λJ=>dL (pLoad1 x52) [10,9,8,7,6,5,4,1,0,3,2] 11 z m a n λx53 a n=>J x53 m a n) λx53 m a n=>gdD x51 true m a n (λJ=>dP (pFaddr 2 (d1 t)) n λx54 n=>J x54 m a n) λx54 m a n=>gdD x51 true m a n (λJ=>dL (pLoad1 x54) [12,9,8,7,6,5,4,1,0,3,2] 13 z m a n λx55 a n=>J x55 m a n) λx55 m a n=>gdD x51 true m a n (λJ=>dP (p_neq x53 x55 o) n λx56 n=>J x56 m a n) λx56 m a n=>gdD x47 false m a n (λJ=>dP (pPick x51 x56 bF) n λx57 n=>J x57 m a n) λx57 m a n=>dP (pPick x47 bT x57) n λx58 n=>dM x58 n λx59 n=>gdD x59 false m a n (λJ=>dP (pFaddr 7 (d1 t)) n λx60 n=>J x60 m a n) λx60 m a n=>gdD x59 false m a n (λJ=>dL (pLoadA 3 x60) [18,17,16,5,4,1,0,3,2,15,9,8,7,6,14,11,10,13,12] 19 z m a n λx61 a n=>J x61 m a n) λx61 m a n=>gdD x59 false m a n (λJ=>dr1 (λz m n k=>qCallR o c 53 [x61] z m n λv m n=>k v m n) [19,18,17,16,5,4,1,0,3,2,15,9,8,7,6,14,11,10,13,12] 20 z m a n λx62 a n=>J x62 m a n) λx62 m a n=>gdD x59 false m a n (λJ=>dP (pNot x62) n λx63 n=>J x63 m a n) λx63 m a n=>dP (pPick x59 bT x63) n λx64 n=>dM x64 n λx65 n=>gdD x65 false m a n (λJ=>dP (pFaddr 5 (d1 t)) n λx66 n=>J x66 m a n) λx66 m a n=>gdD x65 false m a n (λJ=>dL (pLoad1 x66) [24,23,22,17,16,5,4,1,0,3,2,15,9,8,7,6,14,11,10,13,12,21,20,19,18] 25 z m a n λx67 a n=>J x67 m a n) λx67 m a n=>gdD x65 false m a n (λJ=>dP (pFaddr 7 (d1 t)) n λx68 n=>J x68 m a n) λx68 m a n=>gdD x65 false m a n (λJ=>dP (pFaddr 0 x68) n λx69 n=>J x69 m a n) λx69 m a n=>gdD x65 false m a n (λJ=>dL (pLoad1 x69) [27,26,23,22,17,16,5,4,1,0,3,2,15,9,8,7,6,14,11,10,13,12,21,20,19,18] 28 z m a n λx70 a n=>J x70 m a n) λx70 m a n=>gdD x65 false m a n (λJ=>dP (p_lss x67 x70 o) n λx71 n=>J x71 m a n) λx71 m a n=>dP (pPick x65 bT x71) n λx72 n=>dM x72 n λx73 n=>gdD x73 false m a n (λJ=>dP (pFaddr 5 (d1 t)) n λx74 n=>J x74 m a n) λx74 m a n=>gdD x73 false m a n (λJ=>dL (pLoad1 x74) [32,31,30,23,22,17,16,5,4,1,0,3,2,15,9,8,7,6,14,11,10,13,12,21,20,19,18,29,25,24,28,27,26] 33 z m a n λx75 a n=>J x75 m a n) λx75 m a n=>gdD x73 false m a n (λJ=>dP (pFaddr 7 (d1 t)) n λx76 n=>J x76 m a n) λx76 m a n=>gdD x73 false m a n (λJ=>dL (pLoadA 3 x76) [34,31,30,23,22,17,16,5,4,1,0,3,2,15,9,8,7,6,14,11,10,13,12,21,20,19,18,29,25,24,28,27,26] 35 z m a n λx77 a n=>J x77 m a n) λx77 m a n=>gdD x73 false m a n (λJ=>dr1 (λz m n k=>qCallR o c 48 [x77] z m n λv m n=>k v m n) [35,34,31,30,23,22,17,16,5,4,1,0,3,2,15,9,8,7,6,14,11,10,13,12,21,20,19,18,29,25,24,28,27,26] 36 z m a n λx78 a n=>J x78 m a n) λx78 m a n=>gdD x73 false m a n (λJ=>dP (p_gtr x75 x78 o) n λx79 n=>J x79 m a n) λx79 m a n=>dP (pPick x73 bT x79) n λx80 n=>joinAll a m λm=>tIfN x80 (λo c z t m n k=>se1_6 t bF λt=>cRet o c z t m n k) cNorm (λo c z t m n k=>pFaddr 10 (d1 t) λx81=>pLoad1 x81 z m λx82=>pLen x82 λx83=>pFaddr 1 (d1 t) λx84=>pLoad1 x84 z m λx85=>p_neq x83 x85 o λx86=>gd x86 false (λJ=>pFaddr 10 (d1 t) λv=>J v m n) m n λx88 m n=>gd x86 false (λJ=>pLoad1 x88 z m λv=>J v m n) m n λx89 m n=>gd x86 false (λJ=>qCallR o c 54 [x89,(.one (.fn 55 []))] z m n λv m n=>J v m n) m n λx90 m n=>se0_11 t x90 λt=>se0_10 t x86 λt=>pPick (e0_10 t) bT (e0_11 t) λx91=>tIfN x91 (λo c z t m n k=>se1_6 t bF λt=>cRet o c z t m n k) cNorm (λo c z t m n k=>pFaddr 4 (d1 t) λx92=>pLoad1 x92 z m λx93=>p_neq x93 i1 o λx94=>gd x94 true (λJ=>pFaddr 6 (d1 t) λv=>J v m n) m n λx96 m n=>gd x94 true (λJ=>pLoad1 x96 z m λv=>J v m n) m n λx97 m n=>gd x94 true (λJ=>J x97 m n) m n λx98 m n=>gd x98 false (λJ=>pFaddr 11 (d1 t) λv=>J v m n) m n λx99 m n=>gd x98 false (λJ=>pLoad1 x99 z m λv=>J v m n) m n λx100 m n=>gd x98 false (λJ=>pLen x100 λv=>J v m n) m n λx101 m n=>se0_12 t x101 λt=>sd3 t x98 λt=>se0_4 t x94 λt=>gd (d3 t) false (λJ=>pFaddr 12 (d1 t) λv=>J v m n) m n λx102 m n=>gd (d3 t) false (λJ=>pLoad1 x102 z m λv=>J v m n) m n λx103 m n=>gd (d3 t) false (λJ=>pLen x103 λv=>J v m n) m n λx104 m n=>gd (d3 t) false (λJ=>p_add (e0_12 t) x104 o λv=>J v m n) m n λx105 m n=>gd (d3 t) false (λJ=>p_gtr x105 i0 o λv=>J v m n) m n λx106 m n=>gd (e0_4 t) true (λJ=>pPick (d3 t) bT x106 λv=>J v m n) m n λx107 m n=>pPick (e0_4 t) x107 bF λx108=>tIfN x108 (λo c z t m n k=>se1_6 t bF λt=>cRet o c z t m n k) cNorm (λo c z t m n k=>se0_5 t j0 λt=>pFaddr 11 (d1 t) λx109=>pLoad1 x109 z m λx110=>pLen x110 λx111=>se0_1 t i0 λt=>se0_13 t x111 λt=>se0_14 t x110 λt=>(cBlk 0 (cLoop (λo c z t m n k=>p_lss (e0_1 t) (e0_13 t) o λx113=>tTest x113 0 (cBlk 1 (λo c z t m n k=>forceV (e0_1 t) o λy=>pIaddr 1 (e0_14 t) y λx114=>pLoad1 x114 z m λx115=>sd7 t x115 λt=>fAV (d7 t) λx116=>fAV (e0_5 t) λx117=>p_leq x116 x117 o λx118=>gd x118 false (λJ=>fAV (d7 t) λv=>J v m n) m n λx120 m n=>gd x118 false (λJ=>pFaddr 1 (d1 t) λv=>J v m n) m n λx121 m n=>gd x118 false (λJ=>pLoad1 x121 z m λv=>J v m n) m n λx122 m n=>gd x118 false (λJ=>p_geq x120 x122 o λv=>J v m n) m n λx123 m n=>pPick x118 bT x123 λx124=>sd5 t x124 λt=>gd (d5 t) false (λJ=>fAV (d7 t) λv=>J v m n) m n λx126 m n=>gd (d5 t) false (λJ=>pFaddr 0 (d1 t) λv=>J v m n) m n λx127 m n=>gd (d5 t) false (λJ=>pLoad1 x127 z m λv=>J v m n) m n λx128 m n=>gd (d5 t) false (λJ=>p_eql x126 x128 o λv=>J v m n) m n λx129 m n=>pPick (d5 t) bT x129 λx130=>tIfN x130 (λo c z t m n k=>se1_6 t bF λt=>cRet o c z t m n k) cNorm (λo c z t m n k=>fAV (d7 t) λx131=>se0_5 t x131 λt=>cNorm o c z t m n k) o c z t m n k) (λo c z t m n k=>p_add (e0_1 t) i1 o λx132=>se0_1 t x132 λt=>cNorm o c z t m n k)) o c z t m n k) cNorm) (λo c z t m n k=>se0_5 t j0 λt=>pFaddr 12 (d1 t) λx133=>pLoad1 x133 z m λx134=>pLen x134 λx135=>se0_2 t i0 λt=>se0_15 t x135 λt=>se1_0 t x134 λt=>(cBlk 2 (cLoop (λo c z t m n k=>p_lss (e0_2 t) (e0_15 t) o λx137=>tTest x137 2 (cBlk 3 (λo c z t m n k=>forceV (e0_2 t) o λy=>pIaddr 6 (e1_0 t) y λx138=>pLoadA 6 x138 z m λx139=>qAlloc z2 m n λx7 m n=>qStore 6 x7 x139 m λm=>sd2 t x7 λt=>pFaddr 0 (d2 t) λx140=>pLoad1 x140 z m λx141=>fAV (e0_5 t) λx142=>p_leq x141 x142 o λx143=>gd x143 false (λJ=>pFaddr 0 (d2 t) λv=>J v m n) m n λx145 m n=>gd x143 false (λJ=>pLoad1 x145 z m λv=>J v m n) m n λx146 m n=>gd x143 false (λJ=>pFaddr 1 (d1 t) λv=>J v m n) m n λx147 m n=>gd x143 false (λJ=>pLoad1 x147 z m λv=>J v m n) m n λx148 m n=>gd x143 false (λJ=>p_geq x146 x148 o λv=>J v m n) m n λx149 m n=>se1_2 t x149 λt=>se1_1 t x143 λt=>pPick (e1_1 t) bT (e1_2 t) λx150=>gd x150 false (λJ=>pFaddr 0 (d2 t) λv=>J v m n) m n λx152 m n=>gd x150 false (λJ=>pLoad1 x152 z m λv=>J v m n) m n λx153 m n=>gd x150 false (λJ=>pFaddr 0 (d1 t) λv=>J v m n) m n λx154 m n=>gd x150 false (λJ=>pLoad1 x154 z m λv=>J v m n) m n λx155 m n=>gd x150 false (λJ=>p_eql x153 x155 o λv=>J v m n) m n λx156 m n=>pPick x150 bT x156 λx157=>gd x157 false (λJ=>pFaddr 3 (d2 t) λv=>J v m n) m n λx159 m n=>se1_3 t x159 λt=>se0_0 t x157 λt=>gd (e0_0 t) false (λJ=>pLoadA 3 (e1_3 t) z m λv=>J v m n) m n λx160 m n=>gd (e0_0 t) false (λJ=>qCallR o c 53 [x160] z m n λv m n=>J v m n) m n λx161 m n=>gd (e0_0 t) false (λJ=>pNot x161 λv=>J v m n) m n λx162 m n=>pPick (e0_0 t) bT x162 λx163=>gd x163 false (λJ=>pFaddr 1 (d2 t) λv=>J v m n) m n λx165 m n=>gd x163 false (λJ=>pLoad1 x165 z m λv=>J v m n) m n λx166 m n=>gd x163 false (λJ=>p_lss x166 i0 o λv=>J v m n) m n λx167 m n=>pPick x163 bT x167 λx168=>sd4 t x168 λt=>gd (d4 t) false (λJ=>pFaddr 1 (d2 t) λv=>J v m n) m n λx170 m n=>gd (d4 t) false (λJ=>pLoad1 x170 z m λv=>J v m n) m n λx171 m n=>gd (d4 t) false (λJ=>pFaddr 2 (d1 t) λv=>J v m n) m n λx172 m n=>gd (d4 t) false (λJ=>pLoad1 x172 z m λv=>J v m n) m n λx173 m n=>gd (d4 t) false (λJ=>p_geq x171 x173 o λv=>J v m n) m n λx174 m n=>pPick (d4 t) bT x174 λx175=>gd x175 false (λJ=>pFaddr 2 (d2 t) λv=>J v m n) m n λx177 m n=>gd x175 false (λJ=>pLoad1 x177 z m λv=>J v m n) m n λx178 m n=>gd x175 false (λJ=>p_lss x178 i0 o λv=>J v m n) m n λx179 m n=>se1_5 t x179 λt=>se1_4 t x175 λt=>pPick (e1_4 t) bT (e1_5 t) λx180=>tIfN x180 (λo c z t m n k=>se1_6 t bF λt=>cRet o c z t m n k) cNorm (λo c z t m n k=>pFaddr 0 (d2 t) λx181=>pLoad1 x181 z m λx182=>se0_5 t x182 λt=>cNorm o c z t m n k) o c z t m n k) (λo c z t m n k=>p_add (e0_2 t) i1 o λx183=>se0_2 t x183 λt=>cNorm o c z t m n k)) o c z t m n k) cNorm) (λo c z t m n k=>se1_6 t bT λt=>cRet o c z t m n k)) o c z t m n k)) o c z t m n k) o c z t m n k) o c z t m n k) o c z t m n k) [[],[],[],[],[],[],[],[],[],[],[],[],[],[],[],[],[],[],[],[],[],[],[],[],[],[],[],[],[],[],[],[],[],[],[],[],[],[],[]]) o c z t m n k) false
noncomputable def F26 : HFunc:=.mk init2 (rTmp d2)
  (λo c z t m n k=>sd2 t i0 λt=>fAV (d1 t) λx5=>p_lss x5 i1 o λx6=>gd x6 false (λJ=>fAV (d0 t) λv=>J v m n) m n λx8 m n=>gd x6 false (λJ=>p_lss x8 i0 o λv=>J v m n) m n λx9 m n=>pPick x6 bT x9 λx10=>tIfN x10 (λo c z t m n k=>sd2 t i0 λt=>cRet o c z t m n k) cNorm (λo c z t m n k=>fAV (d0 t) λx11=>fAV (d1 t) λx12=>p_rem x11 x12 o λx13=>sd2 t x13 λt=>cRet o c z t m n k) o c z t m n k) false
noncomputable def F28 : HFunc:=.mk init3 (rTmp e0_3)
  (λo c z t m n k=>se0_3 t i0 λt=>sd3 t nS λt=>fAV (d0 t) λx11=>pLen x11 λx12=>sd4 t i0 λt=>sd6 t x12 λt=>sd7 t x11 λt=>(cBlk 0 (cLoop (λo c z t m n k=>p_lss (d4 t) (d6 t) o λx14=>tTest x14 0 (cBlk 1 (λo c z t m n k=>fAV (d4 t) λx15=>forceV (d4 t) o λy=>pIaddr 1 (d7 t) y λx16=>pLoad1 x16 z m λx17=>se0_1 t x17 λt=>se0_0 t x15 λt=>fAV (e0_0 t) λx18=>fAV (d1 t) λx19=>p_neq x18 x19 o λx20=>tIf x20 (λo c z t m n k=>fAV (d3 t) λx21=>fAV (e0_1 t) λx22=>qOth o c z m n false (.bslice 1 1 [.int .i64 (.ofNat 0)] [(0,1,(.c x22))]) λx23 m n=>qOth o c z m n false (.append 1 8 (.c x21) (.c x23)) λx24 m n=>sd3 t x24 λt=>cNorm o c z t m n k) cNorm o c z t m n k) (λo c z t m n k=>p_add (d4 t) i1 o λx25=>sd4 t x25 λt=>cNorm o c z t m n k)) o c z t m n k) cNorm) (λo c z t m n k=>fAV (d0 t) λx26=>pLen x26 λx27=>p_sub x27 i1 o λx28=>p_quo x28 i2 o λx29=>sd5 t x29 λt=>fAV (d0 t) λx30=>pLen x30 λx31=>p_eql x31 i0 o λx32=>gd x32 false (λJ=>fAV (d5 t) λv=>J v m n) m n λx34 m n=>gd x32 false (λJ=>p_leq x34 i0 o λv=>J v m n) m n λx35 m n=>pPick x32 bT x35 λx36=>tIfN x36 (λo c z t m n k=>fAV (d2 t) λx37=>qOth o c z m n false (.max (.c i0) [(.c x37)]) λx38 m n=>se0_3 t x38 λt=>cRet o c z t m n k) cNorm (λo c z t m n k=>fAV (d3 t) λx39=>pLen x39 λx40=>fAV (d5 t) λx41=>p_lss x40 x41 o λx42=>tIfN x42 (λo c z t m n k=>se0_3 t i0 λt=>cRet o c z t m n k) cNorm (λo c z t m n k=>fAV (d3 t) λx43=>c 59 [x43] z m n λx44 m n=>fAV (d2 t) λx45=>fAV (d3 t) λx46=>fAV (d3 t) λx47=>pLen x47 λx48=>fAV (d5 t) λx49=>p_sub x48 x49 o λx50=>forceV x50 o λy=>pIaddr 1 x46 y λx51=>pLoad1 x51 z m λx52=>qOth o c z m n false (.min (.c x45) [(.c x52)]) λx53 m n=>qOth o c z m n false (.max (.c i0) [(.c x53)]) λx54 m n=>se0_2 t x54 λt=>fAV (e0_2 t) λx6=>se0_3 t x6 λt=>cRet o c z t m n k) o c z t m n k) o c z t m n k)) o c z t m n k) false
noncomputable def F30 : HFunc:=.mk init0 (rTmp e0_5)
  (λo c z t m n k=>se0_5 t bF λt=>qCallR o c 21 [i1,i3] z m n λx8 m n=>pExtr x8 0 λx9=>pExtr x8 1 λx10=>qAlloc z0 m n λx1 m n=>qStore 13 x1 x9 m λm=>sd6 t x10 λt=>sd2 t x1 λt=>pLoadA 13 (d2 t) z m λx12=>qCallR o c 60 [x12] z m n λx13 m n=>pExtr x13 0 λx14=>pExtr x13 1 λx15=>qAlloc z0 m n λx3 m n=>qStore 13 x3 x14 m λm=>sd1 t x15 λt=>sd3 t x3 λt=>qCallR o c 21 [i0,i2] z m n λx17 m n=>pExtr x17 0 λx18=>pExtr x17 1 λx19=>qAlloc z0 m n λx5 m n=>qStore 13 x5 x18 m λm=>se0_1 t x19 λt=>fAV (d6 t) λx20=>qCallR o c 23 [x20] z m n λx21 m n=>p_eql x21 i0 o λx22=>gd x22 true (λJ=>pLoadA 13 (d2 t) z m λv=>J v m n) m n λx24 m n=>gd x22 true (λJ=>qCallR o c 24 [x24] z m n λv m n=>J v m n) m n λx25 m n=>pPick x22 x25 bF λx26=>gd x26 true (λJ=>pFaddr 2 (d3 t) λv=>J v m n) m n λx28 m n=>gd x26 true (λJ=>pLoad1 x28 z m λv=>J v m n) m n λx29 m n=>sd7 t x29 λt=>sd4 t x26 λt=>gd (d4 t) true (λJ=>p_eql (d7 t) i1 o λv=>J v m n) m n λx30 m n=>pPick (d4 t) x30 bF λx31=>gd x31 true (λJ=>pFaddr 4 (d3 t) λv=>J v m n) m n λx33 m n=>gd x31 true (λJ=>pLoad1 x33 z m λv=>J v m n) m n λx34 m n=>gd x31 true (λJ=>p_eql x34 i1 o λv=>J v m n) m n λx35 m n=>pPick x31 x35 bF λx36=>gd x36 true (λJ=>fAV (d1 t) λv=>J v m n) m n λx38 m n=>gd x36 true (λJ=>pLen x38 λv=>J v m n) m n λx39 m n=>se0_0 t x39 λt=>sd5 t x36 λt=>gd (d5 t) true (λJ=>p_eql (e0_0 t) i2 o λv=>J v m n) m n λx40 m n=>pPick (d5 t) x40 bF λx41=>gd x41 true (λJ=>fAV (d1 t) λv=>J v m n) m n λx43 m n=>gd x41 true (λJ=>pIaddr 20 x43 i0 λv=>J v m n) m n λx44 m n=>gd x41 true (λJ=>pFaddr 0 x44 λv=>J v m n) m n λx45 m n=>gd x41 true (λJ=>pLoad1 x45 z m λv=>J v m n) m n λx46 m n=>gd x41 true (λJ=>p_eql x46 i7 o λv=>J v m n) m n λx47 m n=>pPick x41 x47 bF λx48=>sd0 t x48 λt=>gd (d0 t) true (λJ=>fAV (d1 t) λv=>J v m n) m n λx50 m n=>gd (d0 t) true (λJ=>pIaddr 20 x50 i0 λv=>J v m n) m n λx51 m n=>gd (d0 t) true (λJ=>pFaddr 2 x51 λv=>J v m n) m n λx52 m n=>gd (d0 t) true (λJ=>pLoad1 x52 z m λv=>J v m n) m n λx53 m n=>gd (d0 t) true (λJ=>p_eql x53 i0 o λv=>J v m n) m n λx54 m n=>pPick (d0 t) x54 bF λx55=>gd x55 true (λJ=>fAV (e0_1 t) λv=>J v m n) m n λx57 m n=>gd x55 true (λJ=>qCallR o c 23 [x57] z m n λv m n=>J v m n) m n λx58 m n=>gd x55 true (λJ=>p_eql x58 (.one (.int .i64 (.ofNat 1700))) o λv=>J v m n) m n λx59 m n=>se0_3 t x59 λt=>se0_2 t x55 λt=>pPick (e0_2 t) (e0_3 t) bF λx60=>gd x60 true (λJ=>qCallR o c 26 [i4,i3] z m n λv m n=>J v m n) m n λx62 m n=>gd x60 true (λJ=>p_eql x62 i1 o λv=>J v m n) m n λx63 m n=>pPick x60 x63 bF λx64=>gd x64 true (λJ=>qOth o c z m n false (.bslice 1 3 [.int .i64 (.ofNat 0)] [(0,1,(.c i0)),(1,1,(.c i5)),(2,1,(.c i3))]) λv m n=>J v m n) m n λx66 m n=>gd x64 true (λJ=>qCallR o c 28 [x66,i0,i9] z m n λv m n=>J v m n) m n λx67 m n=>gd x64 true (λJ=>p_eql x67 i5 o λv=>J v m n) m n λx68 m n=>pPick x64 x68 bF λx69=>se0_4 t x69 λt=>fAV (e0_4 t) λx0=>se0_5 t x0 λt=>cRet o c z t m n k) false
noncomputable def F33 : HFunc:=.mk init2 (rTmp e0_2)
  (λo c z t m n k=>qBox (d0 t) m n λx2 m n=>qBox (d1 t) m n λx3 m n=>se0_2 t nS λt=>sd2 t x3 λt=>sd3 t x2 λt=>pFaddr 0 (d2 t) λx5=>pLoad1 x5 z m λx6=>p_neq x6 i12 o λx7=>gd x7 false (λJ=>pLoadA 13 (d3 t) z m λv=>J v m n) m n λx9 m n=>gd x7 false (λJ=>qCallR o c 24 [x9] z m n λv m n=>J v m n) m n λx10 m n=>gd x7 false (λJ=>pNot x10 λv=>J v m n) m n λx11 m n=>pPick x7 bT x11 λx12=>gd x12 false (λJ=>pLoadA 20 (d2 t) z m λv=>J v m n) m n λx14 m n=>sd6 t x14 λt=>sd4 t x12 λt=>gd (d4 t) false (λJ=>fAV (d6 t) λy0=>qCallR o c 38 [y0] z m n λv m n=>J v m n) m n λx15 m n=>gd (d4 t) false (λJ=>pNot x15 λv=>J v m n) m n λx16 m n=>pPick (d4 t) bT x16 λx17=>gd x17 false (λJ=>pFaddr 2 (d2 t) λv=>J v m n) m n λx19 m n=>gd x17 false (λJ=>pLoad1 x19 z m λv=>J v m n) m n λx20 m n=>gd x17 false (λJ=>pFaddr 0 (d3 t) λv=>J v m n) m n λx21 m n=>gd x17 false (λJ=>pLoad1 x21 z m λv=>J v m n) m n λx22 m n=>gd x17 false (λJ=>p_neq x20 x22 o λv=>J v m n) m n λx23 m n=>pPick x17 bT x23 λx24=>sd7 t x24 λt=>fAV (d7 t) λx25=>gd x25 false (λJ=>pFaddr 1 (d2 t) λv=>J v m n) m n λx26 m n=>gd x25 false (λJ=>pLoad1 x26 z m λv=>J v m n) m n λx27 m n=>gd x25 false (λJ=>pFaddr 0 (d3 t) λv=>J v m n) m n λx28 m n=>gd x25 false (λJ=>pLoad1 x28 z m λv=>J v m n) m n λx29 m n=>gd x25 false (λJ=>p_eql x27 x29 o λv=>J v m n) m n λx30 m n=>pPick x25 bT x30 λx31=>gd x31 false (λJ=>pFaddr 4 (d3 t) λv=>J v m n) m n λx33 m n=>gd x31 false (λJ=>pLoad1 x33 z m λv=>J v m n) m n λx34 m n=>se0_0 t x34 λt=>sd5 t x31 λt=>gd (d5 t) false (λJ=>p_neq (e0_0 t) i0 o λv=>J v m n) m n λx35 m n=>pPick (d5 t) bT x35 λx36=>gd x36 false (λJ=>pFaddr 3 (d2 t) λv=>J v m n) m n λx38 m n=>gd x36 false (λJ=>pLoad1 x38 z m λv=>J v m n) m n λx39 m n=>gd x36 false (λJ=>pFaddr 2 (d3 t) λv=>J v m n) m n λx40 m n=>gd x36 false (λJ=>pLoad1 x40 z m λv=>J v m n) m n λx41 m n=>gd x36 false (λJ=>p_neq x39 x41 o λv=>J v m n) m n λx42 m n=>pPick x36 bT x42 λx43=>tIfN x43 (λo c z t m n k=>se0_2 t nS λt=>cRet o c z t m n k) cNorm (λo c z t m n k=>pFaddr 0 (d3 t) λx44=>pLoad1 x44 z m λx45=>pFaddr 1 (d2 t) λx46=>pLoad1 x46 z m λx47=>pFaddr 2 (d3 t) λx48=>pLoad1 x48 z m λx49=>pFaddr 7 (d2 t) λx50=>pLoad1 x50 z m λx51=>qOth o c z m n false (.build z4 [(0,1,(.c i13)),(1,1,(.c x45)),(2,1,(.c x47)),(3,1,(.c x49)),(7,1,(.c x51))]) λx52 m n=>qOth o c z m n false (.bslice 20 1 [.int .i64 (.ofNat 0),.int .i64 (.ofNat 0),.int .i64 (.ofNat 0),.int .i64 (.ofNat 0),.int .i64 (.ofNat 0),.int .i64 (.ofNat 0),.int .i64 (.ofNat 0),.int .i64 (.ofNat 0),.int .i64 (.ofNat 0),.int .i64 (.ofNat 0),.int .i64 (.ofNat 0),.int .i64 (.ofNat 0),.int .i64 (.ofNat 0),.int .i64 (.ofNat 0),.str 0 0,.nsl,.int .i64 (.ofNat 0),.str 0 0,.nsl,.str 0 0] [(0,20,(.c x52))]) λx53 m n=>se0_1 t x53 λt=>fAV (e0_1 t) λx4=>se0_2 t x4 λt=>cRet o c z t m n k) o c z t m n k) false
noncomputable def F34 : HFunc:=.mk init2 (rTmp d3)
  (λo c z t m n k=>sd3 t bF λt=>fAV (d0 t) λx6=>pLen x6 λx7=>fAV (d1 t) λx8=>pLen x8 λx9=>p_neq x7 x9 o λx10=>tIfN x10 (λo c z t m n k=>sd3 t bF λt=>cRet o c z t m n k) cNorm (λo c z t m n k=>sd2 t i0 λt=>(cBlk 0 (cLoop (λo c z t m n k=>fAV (d2 t) λx11=>fAV (d0 t) λx12=>pLen x12 λx13=>p_lss x11 x13 o λx14=>tTest x14 0 (cBlk 1 (λo c z t m n k=>(λa=>dP (fAV (d0 t)) n λx17 n=>dP (fAV (d2 t)) n λx18 n=>dr0 (λz m n k=>forceV x18 o λy=>pIaddr 1 x17 y λv=>k v m n) n λx19 n=>dL (pLoad1 x19) [2,0,1] 3 z m a n λx20 a n=>dP (fAV (d1 t)) n λx21 n=>dP (fAV (d2 t)) n λx22 n=>dr0 (λz m n k=>forceV x22 o λy=>pIaddr 1 x21 y λv=>k v m n) n λx23 n=>dL (pLoad1 x23) [6,4,5] 7 z m a n λx24 a n=>dP (p_neq x20 x24 o) n λx25 n=>joinAll a m λm=>tIf x25 (λo c z t m n k=>sd3 t bF λt=>cRet o c z t m n k) cNorm o c z t m n k) [[],[],[],[],[],[],[],[],[]]) (λo c z t m n k=>fAV (d2 t) λx15=>p_add x15 i1 o λx16=>sd2 t x16 λt=>cNorm o c z t m n k)) o c z t m n k) cNorm) (λo c z t m n k=>sd3 t bT λt=>cRet o c z t m n k)) o c z t m n k) o c z t m n k) false
noncomputable def F37 : HFunc:=.mk init1 (λz t m k=>rCell (d2 t) true 24 z m (k))
  (λo c z t m n k=>qBox (d0 t) m n λx1 m n=>qAlloc z1 m n λx2 m n=>sd2 t x2 λt=>sd1 t x1 λt=>(λa=>dP (pFaddr 3 (d1 t)) n λx3 n=>dL (pLoad1 x3) [0] 1 z m a n λx4 a n=>dr1 (λz m n k=>qCallR o c 72 [x4] z m n λv m n=>k v m n) [1,0] 2 z m a n λx5 a n=>dP (pFaddr 4 (d1 t)) n λx6 n=>dL (pLoadA 20 x6) [3] 4 z m a n λx7 a n=>dr1 (λz m n k=>qCallR o c 49 [x7] z m n λv m n=>k v m n) [4,3,2,1,0] 5 z m a n λx8 a n=>dP (pFaddr 3 (d1 t)) n λx9 n=>dr2 (λz m n k=>qStore1 x9 x5 m λm=>k noVal m n) [6,0,1,2,3,4,5] z m a n λ_ m a n=>dP (pFaddr 4 (d1 t)) n λx10 n=>dr2 (λz m n k=>qStore 20 x10 x8 m λm=>k noVal m n) [8,0,1,2,3,4,5,6,7] z m a n λ_ m a n=>joinAll a m λm=>pLoadA 24 (d1 t) z m λx11=>qStore 24 (d2 t) x11 m λm=>cRet o c z t m n k) [[],[],[],[],[],[],[],[],[],[]]) false
noncomputable def F38 : HFunc:=.mk init1 (rTmp e1_7)
  (λo c z t m n k=>qBox (d0 t) m n λx1 m n=>se1_7 t bF λt=>sd1 t x1 λt=>pFaddr 0 (d1 t) λx13=>pLoad1 x13 z m λx14=>qCallR o c 73 [x14] z m n λx15 m n=>pExtr x15 0 λx16=>pExtr x15 1 λx17=>se0_8 t x17 λt=>se0_9 t x16 λt=>fAV (e0_8 t) λx18=>pNot x18 λx19=>gd x19 false (λJ=>fAV (d1 t) λy0=>qCallR o c 74 [y0] z m n λv m n=>J v m n) m n λx21 m n=>gd x19 false (λJ=>pNot x21 λv=>J v m n) m n λx22 m n=>pPick x19 bT x22 λx23=>tIfN x23 (λo c z t m n k=>se1_7 t bF λt=>cRet o c z t m n k) cNorm (λo c z t m n k=>qAlloc z3 m n λx5 m n=>sd2 t x5 λt=>fAV (e0_9 t) λx24=>pLen x24 λx25=>se0_1 t i0 λt=>se0_10 t x25 λt=>se0_11 t x24 λt=>(cBlk 0 (cLoop (λo c z t m n k=>p_lss (e0_1 t) (e0_10 t) o λx27=>tTest x27 0 (cBlk 1 (λo c z t m n k=>forceV (e0_1 t) o λy=>pIaddr 1 (e0_11 t) y λx28=>pLoad1 x28 z m λx29=>se0_12 t x29 λt=>fAV (e0_12 t) λx30=>forceV x30 o λy0=>qOth o c z m n false (.iaddrA 1 15 (.c (d2 t)) (.c y0)) λx31 m n=>qStore1 x31 bT m λm=>cNorm o c z t m n k) (λo c z t m n k=>p_add (e0_1 t) i1 o λx32=>se0_1 t x32 λt=>cNorm o c z t m n k)) o c z t m n k) cNorm) (λo c z t m n k=>se0_2 t i0 λt=>(cBlk 2 (cLoop (λo c z t m n k=>p_lss (e0_2 t) i15 o λx34=>tTest x34 2 (cBlk 3 (λo c z t m n k=>fAV (e0_2 t) λx35=>se0_3 t x35 λt=>fAV (e0_3 t) λx36=>fAV (d1 t) λy0=>qCallR o c 75 [y0,x36] z m n λx37 m n=>sd4 t x37 λt=>fAV (d4 t) λx38=>qOth o c z m n false (.eqn false false (.c x38) (.c (.one (.npt)))) λx39 m n=>tIfN x39 (cExit 3) cNorm (λo c z t m n k=>pFaddr 0 (d1 t) λx41=>pLoad1 x41 z m λx42=>fAV (e0_3 t) λx43=>qCallR o c 76 [x42,x43] z m n λx44 m n=>pExtr x44 0 λx45=>pExtr x44 1 λx46=>se1_0 t x46 λt=>se0_14 t x45 λt=>fAV (e0_3 t) λx47=>forceV x47 o λy0=>qOth o c z m n false (.iaddrA 1 15 (.c (d2 t)) (.c y0)) λx48 m n=>pLoad1 x48 z m λx49=>pNot x49 λx50=>gd x50 true (λJ=>fAV (d4 t) λv=>J v m n) m n λx52 m n=>gd x50 true (λJ=>pNilc x52 λv=>J v m n) m n λx53 m n=>gd x50 true (λJ=>pLoad1 x53 z m λv=>J v m n) m n λx54 m n=>gd x50 true (λJ=>p_neq x54 i0 o λv=>J v m n) m n λx55 m n=>pPick x50 x55 bF λx56=>se0_13 t x56 λt=>fAV (e0_13 t) λx57=>gd x57 false (λJ=>fAV (d4 t) λv=>J v m n) m n λx58 m n=>gd x57 false (λJ=>pNilc x58 λv=>J v m n) m n λx59 m n=>gd x57 false (λJ=>pLoad1 x59 z m λv=>J v m n) m n λx60 m n=>gd x57 false (λJ=>fAV (e0_14 t) λv=>J v m n) m n λx61 m n=>gd x57 false (λJ=>p_lss x60 x61 o λv=>J v m n) m n λx62 m n=>pPick x57 bT x62 λx63=>gd x63 false (λJ=>fAV (d4 t) λv=>J v m n) m n λx65 m n=>gd x63 false (λJ=>pNilc x65 λv=>J v m n) m n λx66 m n=>se0_15 t x66 λt=>sd5 t x63 λt=>gd (d5 t) false (λJ=>pLoad1 (e0_15 t) z m λv=>J v m n) m n λx67 m n=>gd (d5 t) false (λJ=>fAV (e1_0 t) λv=>J v m n) m n λx68 m n=>gd (d5 t) false (λJ=>p_gtr x67 x68 o λv=>J v m n) m n λx69 m n=>pPick (d5 t) bT x69 λx70=>tIf x70 (λo c z t m n k=>se1_7 t bF λt=>cRet o c z t m n k) cNorm o c z t m n k) o c z t m n k) (λo c z t m n k=>p_add (e0_2 t) i1 o λx71=>se0_2 t x71 λt=>cNorm o c z t m n k)) o c z t m n k) cNorm) (λo c z t m n k=>qOth o c z m n false (.iaddrA 1 15 (.c (d2 t)) (.c i11)) λx72 m n=>pLoad1 x72 z m λx73=>gd x73 true (λJ=>pFaddr 14 (d1 t) λv=>J v m n) m n λx75 m n=>gd x73 true (λJ=>pLoad1 x75 z m λv=>J v m n) m n λx76 m n=>gd x73 true (λJ=>qCallR o c 77 [x76] z m n λv m n=>J v m n) m n λx77 m n=>gd x73 true (λJ=>pNot x77 λv=>J v m n) m n λx78 m n=>pPick x73 x78 bF λx79=>gd x79 false (λJ=>qOth o c z m n false (.iaddrA 1 15 (.c (d2 t)) (.c i11)) λv m n=>J v m n) m n λx81 m n=>se1_1 t x81 λt=>sd3 t x79 λt=>gd (d3 t) false (λJ=>pLoad1 (e1_1 t) z m λv=>J v m n) m n λx82 m n=>gd (d3 t) false (λJ=>pNot x82 λv=>J v m n) m n λx83 m n=>gd (d3 t) false (λJ=>J x83 m n) m n λx84 m n=>gd x84 true (λJ=>pFaddr 14 (d1 t) λv=>J v m n) m n λx85 m n=>gd x84 true (λJ=>pLoad1 x85 z m λv=>J v m n) m n λx86 m n=>gd x84 true (λJ=>qOth o c z m n false (.sbin .neq (.c x86) (.c (.one (.str 0 0)))) λv m n=>J v m n) m n λx87 m n=>gd (d3 t) false (λJ=>pPick x84 x87 bF λv=>J v m n) m n λx88 m n=>pPick (d3 t) bT x88 λx89=>gd x89 false (λJ=>pFaddr 19 (d1 t) λv=>J v m n) m n λx91 m n=>se1_2 t x91 λt=>sd6 t x89 λt=>gd (d6 t) false (λJ=>pLoad1 (e1_2 t) z m λv=>J v m n) m n λx92 m n=>gd (d6 t) false (λJ=>pLenS x92 λv=>J v m n) m n λx93 m n=>gd (d6 t) false (λJ=>p_gtr x93 (.one (.int .i64 (.ofNat 65536))) o λv=>J v m n) m n λx94 m n=>pPick (d6 t) bT x94 λx95=>gd x95 false (λJ=>qOth o c z m n false (.iaddrA 1 15 (.c (d2 t)) (.c i14)) λv m n=>J v m n) m n λx97 m n=>gd x95 false (λJ=>pLoad1 x97 z m λv=>J v m n) m n λx98 m n=>gd x95 false (λJ=>pNot x98 λv=>J v m n) m n λx99 m n=>gd x95 false (λJ=>J x99 m n) m n λx100 m n=>gd x100 true (λJ=>pFaddr 19 (d1 t) λv=>J v m n) m n λx101 m n=>se1_3 t x101 λt=>se0_4 t x100 λt=>se0_5 t x95 λt=>gd (e0_4 t) true (λJ=>pLoad1 (e1_3 t) z m λv=>J v m n) m n λx102 m n=>gd (e0_4 t) true (λJ=>qOth o c z m n false (.sbin .neq (.c x102) (.c (.one (.str 0 0)))) λv m n=>J v m n) m n λx103 m n=>gd (e0_5 t) false (λJ=>pPick (e0_4 t) x103 bF λv=>J v m n) m n λx104 m n=>pPick (e0_5 t) bT x104 λx105=>tIfN x105 (λo c z t m n k=>se1_7 t bF λt=>cRet o c z t m n k) cNorm (λo c z t m n k=>pFaddr 15 (d1 t) λx106=>pLoad1 x106 z m λx107=>qCallR o c 78 [x107] z m n λx108 m n=>pNot x108 λx109=>gd x109 false (λJ=>qOth o c z m n false (.iaddrA 1 15 (.c (d2 t)) (.c i12)) λv m n=>J v m n) m n λx111 m n=>gd x109 false (λJ=>pLoad1 x111 z m λv=>J v m n) m n λx112 m n=>gd x109 false (λJ=>pNot x112 λv=>J v m n) m n λx113 m n=>gd x109 false (λJ=>J x113 m n) m n λx114 m n=>gd x114 true (λJ=>pFaddr 15 (d1 t) λv=>J v m n) m n λx115 m n=>se1_4 t x115 λt=>sd7 t x114 λt=>se0_6 t x109 λt=>gd (d7 t) true (λJ=>pLoad1 (e1_4 t) z m λv=>J v m n) m n λx116 m n=>gd (d7 t) true (λJ=>pLen x116 λv=>J v m n) m n λx117 m n=>gd (d7 t) true (λJ=>p_gtr x117 i0 o λv=>J v m n) m n λx118 m n=>gd (e0_6 t) false (λJ=>pPick (d7 t) x118 bF λv=>J v m n) m n λx119 m n=>pPick (e0_6 t) bT x119 λx120=>tIfN x120 (λo c z t m n k=>se1_7 t bF λt=>cRet o c z t m n k) cNorm (λo c z t m n k=>pFaddr 16 (d1 t) λx121=>pLoadA 3 x121 z m λx122=>qCallR o c 53 [x122] z m n λx123 m n=>gd x123 true (λJ=>qOth o c z m n false (.iaddrA 1 15 (.c (d2 t)) (.c i13)) λv m n=>J v m n) m n λx125 m n=>gd x123 true (λJ=>pLoad1 x125 z m λv=>J v m n) m n λx126 m n=>gd x123 true (λJ=>J x126 m n) m n λx127 m n=>gd x127 false (λJ=>pFaddr 16 (d1 t) λv=>J v m n) m n λx128 m n=>gd x127 false (λJ=>pFaddr 0 x128 λv=>J v m n) m n λx129 m n=>gd x127 false (λJ=>pLoad1 x129 z m λv=>J v m n) m n λx130 m n=>se1_5 t x130 λt=>se0_0 t x127 λt=>se0_7 t x123 λt=>gd (e0_0 t) false (λJ=>p_eql (e1_5 t) i0 o λv=>J v m n) m n λx131 m n=>gd (e0_0 t) false (λJ=>J x131 m n) m n λx132 m n=>gd x132 true (λJ=>pFaddr 16 (d1 t) λv=>J v m n) m n λx133 m n=>gd x132 true (λJ=>pFaddr 2 x133 λv=>J v m n) m n λx134 m n=>gd x132 true (λJ=>pLoad1 x134 z m λv=>J v m n) m n λx135 m n=>gd x132 true (λJ=>pLen x135 λv=>J v m n) m n λx136 m n=>gd x132 true (λJ=>p_eql x136 i0 o λv=>J v m n) m n λx137 m n=>gd (e0_0 t) false (λJ=>pPick x132 x137 bF λv=>J v m n) m n λx138 m n=>gd (e0_7 t) true (λJ=>pPick (e0_0 t) bT x138 λv=>J v m n) m n λx139 m n=>pPick (e0_7 t) x139 bF λx140=>se1_6 t x140 λt=>fAV (e1_6 t) λx2=>se1_7 t x2 λt=>cRet o c z t m n k) o c z t m n k) o c z t m n k)) o c z t m n k)) o c z t m n k) o c z t m n k) false
noncomputable def F39 : HFunc:=.mk init1 (rTmp d2)
  (λo c z t m n k=>qBox (d0 t) m n λx1 m n=>sd2 t bF λt=>sd1 t x1 λt=>pLoadA 13 (d1 t) z m λx3=>qOth o c z m n false (.build z7 [(0,13,(.c x3))]) λx4 m n=>qBox x4 m n λx5 m n=>qCallR o c 68 [x5] z m n λx6 m n=>sd2 t x6 λt=>cRet o c z t m n k) false
noncomputable def F40 : HFunc:=.mk init2 (λz t m k=>(λv=>toCV zz v λc0=>(λv=>toCV zz v λc1=>k (.tp [c0,c1])) (e0_6 t)) (e0_5 t))
  (λo c z t m n k=>se0_6 t bF λt=>se0_5 t i0 λt=>fAV (d0 t) λx10=>pLen x10 λx11=>sd5 t x11 λt=>fAV (d5 t) λx12=>sd6 t x12 λt=>sd2 t i0 λt=>(cBlk 0 (cLoop (λo c z t m n k=>fAV (d2 t) λx13=>fAV (d6 t) λx14=>p_lss x13 x14 o λx15=>tTest x15 0 (cBlk 1 (λo c z t m n k=>fAV (d2 t) λx16=>fAV (d6 t) λx17=>p_add x16 x17 o λx18=>qOth o c z m n false (.conv .u64 (.c x18)) λx19 m n=>forceV x19 o λy0=>qOth o c z m n false (.shift false (.c y0) (.c (.one (.int .u64 (.ofNat 1))))) λx20 m n=>qOth o c z m n false (.conv .i64 (.c x20)) λx21 m n=>sd4 t x21 λt=>fAV (d0 t) λx22=>fAV (d4 t) λx23=>forceV x23 o λy=>pIaddr 1 x22 y λx24=>pLoad1 x24 z m λx25=>fAV (d1 t) λx26=>qCallR o c 79 [x25,x26] z m n λx27 m n=>tIf x27 (λo c z t m n k=>fAV (d4 t) λx28=>p_add x28 i1 o λx29=>sd2 t x29 λt=>cNorm o c z t m n k) (λo c z t m n k=>fAV (d4 t) λx30=>sd6 t x30 λt=>cNorm o c z t m n k) o c z t m n k) cNorm) o c z t m n k) cNorm) (λo c z t m n k=>fAV (d2 t) λx31=>fAV (d2 t) λx32=>fAV (d5 t) λx33=>p_lss x32 x33 o λx34=>gd x34 true (λJ=>fAV (d0 t) λv=>J v m n) m n λx36 m n=>gd x34 true (λJ=>fAV (d2 t) λv=>J v m n) m n λx37 m n=>gd x34 true (λJ=>forceV x37 o λy=>pIaddr 1 x36 y λv=>J v m n) m n λx38 m n=>gd x34 true (λJ=>pLoad1 x38 z m λv=>J v m n) m n λx39 m n=>gd x34 true (λJ=>fAV (d1 t) λv=>J v m n) m n λx40 m n=>se0_1 t x40 λt=>se0_0 t x39 λt=>sd3 t x34 λt=>se0_4 t x31 λt=>gd (d3 t) true (λJ=>p_eql (e0_0 t) (e0_1 t) o λv=>J v m n) m n λx41 m n=>gd (d3 t) true (λJ=>J x41 m n) m n λx42 m n=>gd x42 false (λJ=>fAV (d0 t) λv=>J v m n) m n λx43 m n=>gd x42 false (λJ=>fAV (d2 t) λv=>J v m n) m n λx44 m n=>gd x42 false (λJ=>forceV x44 o λy=>pIaddr 1 x43 y λv=>J v m n) m n λx45 m n=>gd x42 false (λJ=>pLoad1 x45 z m λv=>J v m n) m n λx46 m n=>gd x42 false (λJ=>qCallR o c 80 [x46] z m n λv m n=>J v m n) m n λx47 m n=>gd x42 false (λJ=>J x47 m n) m n λx48 m n=>gd x48 true (λJ=>fAV (d1 t) λv=>J v m n) m n λx49 m n=>gd x48 true (λJ=>qCallR o c 80 [x49] z m n λv m n=>J v m n) m n λx50 m n=>se0_3 t x50 λt=>se0_2 t x48 λt=>sd7 t x42 λt=>gd (d7 t) false (λJ=>pPick (e0_2 t) (e0_3 t) bF λv=>J v m n) m n λx51 m n=>gd (d3 t) true (λJ=>pPick (d7 t) bT x51 λv=>J v m n) m n λx52 m n=>pPick (d3 t) x52 bF λx53=>fAV (e0_4 t) λx4=>se0_6 t x53 λt=>se0_5 t x4 λt=>cRet o c z t m n k)) o c z t m n k) false
noncomputable def F41 : HFunc:=.mk init3 (rTmp d5)
  (λo c z t m n k=>sd5 t nS λt=>fAV (d0 t) λx10=>fAV (d1 t) λx11=>forceV x11 o λy0=>qOth o c z m n false (.slc false 1 (.c x10) (some (.c y0)) none none) λx12 m n=>fAV (d2 t) λx13=>pLen x13 λx14=>sd3 t x14 λt=>fAV (d3 t) λx15=>p_eql x15 i0 o λx16=>tIfN x16 (λo c z t m n k=>fAV (d0 t) λx17=>sd5 t x17 λt=>cRet o c z t m n k) cNorm (λo c z t m n k=>fAV (d0 t) λx18=>pLen x18 λx19=>sd4 t x19 λt=>fAV (d1 t) λx20=>fAV (d4 t) λx21=>p_eql x20 x21 o λx22=>tIfN x22 (λo c z t m n k=>fAV (d0 t) λx23=>fAV (d2 t) λx24=>qOth o c z m n false (.append 1 8 (.c x23) (.c x24)) λx25 m n=>sd5 t x25 λt=>cRet o c z t m n k) cNorm (λo c z t m n k=>fAV (d4 t) λx26=>fAV (d3 t) λx27=>p_add x26 x27 o λx28=>fAV (d0 t) λx29=>qOth o c z m n false (.cap (.c x29)) λx30 m n=>p_gtr x28 x30 o λx31=>tIfN x31 cBad cNorm (λo c z t m n k=>fAV (d0 t) λx56=>fAV (d4 t) λx57=>fAV (d3 t) λx58=>p_add x57 x58 o λx59=>forceV x59 o λy0=>qOth o c z m n false (.slc false 1 (.c x56) none (some (.c y0)) none) λx60 m n=>sd0 t x60 λt=>cBad o c z t m n k) o c z t m n k) o c z t m n k) o c z t m n k) false
noncomputable def F47 : HFunc:=.mk init1 (rTmp d2)
  (λo c z t m n k=>sd2 t bF λt=>fAV (d0 t) λx3=>p_eql x3 i1 o λx4=>gd x4 false (λJ=>fAV (d0 t) λv=>J v m n) m n λx6 m n=>gd x4 false (λJ=>p_eql x6 i3 o λv=>J v m n) m n λx7 m n=>pPick x4 bT x7 λx8=>gd x8 false (λJ=>fAV (d0 t) λv=>J v m n) m n λx10 m n=>gd x8 false (λJ=>p_eql x10 i5 o λv=>J v m n) m n λx11 m n=>pPick x8 bT x11 λx12=>sd1 t x12 λt=>fAV (d1 t) λx13=>gd x13 false (λJ=>fAV (d0 t) λv=>J v m n) m n λx14 m n=>gd x13 false (λJ=>p_eql x14 i7 o λv=>J v m n) m n λx15 m n=>pPick x13 bT x15 λx16=>sd2 t x16 λt=>cRet o c z t m n k) false
noncomputable def F48 : HFunc:=.mk init1 (rTmp d2)
  (λo c z t m n k=>qBox (d0 t) m n λx1 m n=>sd2 t i0 λt=>sd1 t x1 λt=>pFaddr 0 (d1 t) λx3=>pLoad1 x3 z m λx4=>pFaddr 2 (d1 t) λx5=>pLoad1 x5 z m λx6=>pLen x6 λx7=>p_add x4 x7 o λx8=>sd2 t x8 λt=>cRet o c z t m n k) false
noncomputable def F49 : HFunc:=.mk init1 (λz t m k=>rCell (d2 t) true 20 z m (k))
  (λo c z t m n k=>qBox (d0 t) m n λx1 m n=>qAlloc z4 m n λx2 m n=>sd2 t x2 λt=>sd1 t x1 λt=>pFaddr 15 (d1 t) λx3=>pLoad1 x3 z m λx4=>qOth o c z m n false (.append 3 32 (.c nS) (.c x4)) λx5 m n=>pFaddr 15 (d1 t) λx6=>qStore1 x6 x5 m λm=>pFaddr 16 (d1 t) λx7=>pLoadA 3 x7 z m λx8=>qCallR o c 86 [x8] z m n λx9 m n=>pFaddr 16 (d1 t) λx10=>qStore 3 x10 x9 m λm=>pLoadA 20 (d1 t) z m λx11=>qStore 20 (d2 t) x11 m λm=>cRet o c z t m n k) false
noncomputable def F50 : HFunc:=.mk init2 (rTmp d5)
  (λo c z t m n k=>sd5 t bF λt=>fAV (d1 t) λx5=>p_geq x5 i1 o λx6=>gd x6 true (λJ=>fAV (d1 t) λv=>J v m n) m n λx8 m n=>gd x6 true (λJ=>p_leq x8 i7 o λv=>J v m n) m n λx9 m n=>pPick x6 x9 bF λx10=>gd x10 true (λJ=>fAV (d1 t) λv=>J v m n) m n λx12 m n=>gd x10 true (λJ=>p_rem x12 i2 o λv=>J v m n) m n λx13 m n=>gd x10 true (λJ=>p_eql x13 i1 o λv=>J v m n) m n λx14 m n=>sd3 t x14 λt=>sd2 t x10 λt=>pPick (d2 t) (d3 t) bF λx15=>gd x15 true (λJ=>fAV (d0 t) λv=>J v m n) m n λx17 m n=>gd x15 true (λJ=>p_geq x17 i0 o λv=>J v m n) m n λx18 m n=>pPick x15 x18 bF λx19=>gd x19 true (λJ=>fAV (d0 t) λv=>J v m n) m n λx21 m n=>gd x19 true (λJ=>fAV (d1 t) λv=>J v m n) m n λx22 m n=>gd x19 true (λJ=>p_lss x21 x22 o λv=>J v m n) m n λx23 m n=>pPick x19 x23 bF λx24=>sd4 t x24 λt=>fAV (d4 t) λx4=>sd5 t x4 λt=>cRet o c z t m n k) false
noncomputable def F52 : HFunc:=.mk init1 (rTmp d1)
  (λo c z t m n k=>sd1 t bF λt=>fAV (d0 t) λx3=>p_geq x3 i0 o λx4=>gd x4 true (λJ=>fAV (d0 t) λv=>J v m n) m n λx6 m n=>gd x4 true (λJ=>p_leq x6 (.one (.int .i64 (.ofNat 2147483647))) o λv=>J v m n) m n λx7 m n=>pPick x4 x7 bF λx8=>sd1 t x8 λt=>cRet o c z t m n k) false
noncomputable def F53 : HFunc:=.mk init1 (rTmp e0_3)
  (λo c z t m n k=>qBox (d0 t) m n λx1 m n=>se0_3 t bF λt=>sd1 t x1 λt=>pFaddr 0 (d1 t) λx5=>pLoad1 x5 z m λx6=>p_lss x6 i0 o λx7=>gd x7 false (λJ=>pFaddr 0 (d1 t) λv=>J v m n) m n λx9 m n=>gd x7 false (λJ=>pLoad1 x9 z m λv=>J v m n) m n λx10 m n=>gd x7 false (λJ=>p_gtr x10 (.one (.int .i64 (.ofNat 2147483647))) o λv=>J v m n) m n λx11 m n=>pPick x7 bT x11 λx12=>gd x12 false (λJ=>pFaddr 1 (d1 t) λv=>J v m n) m n λx14 m n=>sd6 t x14 λt=>sd2 t x12 λt=>gd (d2 t) false (λJ=>pLoad1 (d6 t) z m λv=>J v m n) m n λx15 m n=>gd (d2 t) false (λJ=>pLenS x15 λv=>J v m n) m n λx16 m n=>gd (d2 t) false (λJ=>p_gtr x16 (.one (.int .i64 (.ofNat 65536))) o λv=>J v m n) m n λx17 m n=>pPick (d2 t) bT x17 λx18=>gd x18 false (λJ=>pFaddr 0 (d1 t) λv=>J v m n) m n λx20 m n=>gd x18 false (λJ=>pLoad1 x20 z m λv=>J v m n) m n λx21 m n=>gd x18 false (λJ=>p_eql x21 i0 o λv=>J v m n) m n λx22 m n=>gd x18 false (λJ=>J x22 m n) m n λx23 m n=>gd x23 true (λJ=>pFaddr 1 (d1 t) λv=>J v m n) m n λx24 m n=>sd7 t x24 λt=>sd3 t x23 λt=>sd5 t x18 λt=>gd (d3 t) true (λJ=>pLoad1 (d7 t) z m λv=>J v m n) m n λx25 m n=>gd (d3 t) true (λJ=>qOth o c z m n false (.sbin .neq (.c x25) (.c (.one (.str 0 0)))) λv m n=>J v m n) m n λx26 m n=>gd (d5 t) false (λJ=>pPick (d3 t) x26 bF λv=>J v m n) m n λx27 m n=>pPick (d5 t) bT x27 λx28=>gd x28 false (λJ=>pFaddr 2 (d1 t) λv=>J v m n) m n λx30 m n=>gd x28 false (λJ=>pLoad1 x30 z m λv=>J v m n) m n λx31 m n=>gd x28 false (λJ=>pLen x31 λv=>J v m n) m n λx32 m n=>gd x28 false (λJ=>p_gtr x32 (.one (.int .i64 (.ofNat 4096))) o λv=>J v m n) m n λx33 m n=>pPick x28 bT x33 λx34=>tIfN x34 (λo c z t m n k=>se0_3 t bF λt=>cRet o c z t m n k) cNorm (λo c z t m n k=>pFaddr 2 (d1 t) λx35=>pLoad1 x35 z m λx36=>pLen x36 λx37=>sd4 t i0 λt=>se0_0 t x37 λt=>se0_1 t x36 λt=>(cBlk 0 (cLoop (λo c z t m n k=>p_lss (d4 t) (e0_0 t) o λx39=>tTest x39 0 (cBlk 1 (λo c z t m n k=>forceV (d4 t) o λy=>pIaddr 5 (e0_1 t) y λx40=>pLoadA 5 x40 z m λx41=>qAlloc z5 m n λx4 m n=>qStore 5 x4 x41 m λm=>se0_2 t x4 λt=>pLoadA 5 (e0_2 t) z m λx42=>qCallR o c 88 [x42] z m n λx43 m n=>pNot x43 λx44=>tIf x44 (λo c z t m n k=>se0_3 t bF λt=>cRet o c z t m n k) cNorm o c z t m n k) (λo c z t m n k=>p_add (d4 t) i1 o λx45=>sd4 t x45 λt=>cNorm o c z t m n k)) o c z t m n k) cNorm) (λo c z t m n k=>se0_3 t bT λt=>cRet o c z t m n k)) o c z t m n k) o c z t m n k) false
noncomputable def F54 : HFunc:=.mk init2 (rTmp d2)
  (λo c z t m n k=>sd2 t bF λt=>fAV (d0 t) λx5=>fAV (d1 t) λx6=>qCallR o c 89 [x5,x6] z m n λx7 m n=>p_geq x7 i0 o λx8=>sd2 t x8 λt=>cRet o c z t m n k) false
noncomputable def F55 : HFunc:=.mk init1 (rTmp d1)
  (λo c z t m n k=>sd1 t bF λt=>fAV (d0 t) λx3=>qCallR o c 52 [x3] z m n λx4 m n=>pNot x4 λx5=>sd1 t x5 λt=>cRet o c z t m n k) false
noncomputable def F59 : HFunc:=.mk init1 (λ_ _ _ k=>k (.tp []))
  (λo c z t m n k=>fAV (d0 t) λx3=>pLen x3 λx4=>sd1 t x4 λt=>fAV (d0 t) λx5=>fAV (d1 t) λx6=>fAV (d1 t) λx7=>qOth o c z m n false (.conv .u64 (.c x7)) λx8 m n=>qCallR o c 92 [x8] z m n λx9 m n=>c 91 [x5,i0,x6,x9] z m n λx10 m n=>cNorm o c z t m n k) false
noncomputable def F60 : HFunc:=.mk init1 (λz t m k=>rCell (d3 t) true 13 z m (λv=>toCV zz v λc0=>(λv=>toCV zz v λc1=>k (.tp [c0,c1])) (d6 t)))
  (λo c z t m n k=>qBox (d0 t) m n λx1 m n=>qAlloc z0 m n λx2 m n=>sd6 t nS λt=>sd3 t x2 λt=>sd2 t x1 λt=>pLoadA 13 (d2 t) z m λx5=>qCallR o c 62 [x5] z m n λx6 m n=>sd1 t x6 λt=>pLoadA 13 (d2 t) z m λx7=>qCallR o c 24 [x7] z m n λx8 m n=>pNot x8 λx9=>gd x9 false (λJ=>fAV (d1 t) λv=>J v m n) m n λx11 m n=>gd x9 false (λJ=>qCallR o c 68 [x11] z m n λv m n=>J v m n) m n λx12 m n=>pPick x9 bT x12 λx13=>gd x13 false (λJ=>pFaddr 2 (d2 t) λv=>J v m n) m n λx15 m n=>gd x13 false (λJ=>pLoad1 x15 z m λv=>J v m n) m n λx16 m n=>sd5 t x16 λt=>sd4 t x13 λt=>gd (d4 t) false (λJ=>p_geq (d5 t) (.one (.int .i64 (.ofNat 2147483647))) o λv=>J v m n) m n λx17 m n=>pPick (d4 t) bT x17 λx18=>tIfN x18 (λo c z t m n k=>fAV (d1 t) λx19=>pNilc x19 λx20=>pFaddr 0 x20 λx21=>pLoadA 13 x21 z m λx22=>qStore 13 (d3 t) x22 m λm=>sd6 t nS λt=>cRet o c z t m n k) cNorm (λo c z t m n k=>fAV (d1 t) λx23=>fAV (d1 t) λx24=>pNilc x24 λx25=>pFaddr 0 x25 λx26=>pFaddr 2 x26 λx27=>pLoad1 x27 z m λx28=>p_add x28 i1 o λx29=>c 93 [x23,x29] z m n λx30 m n=>fAV (d1 t) λx31=>pNilc x31 λx32=>pFaddr 0 x32 λx33=>pFaddr 1 x33 λx34=>pLoad1 x34 z m λx35=>p_eql x35 i1 o λx36=>tIfN x36 (λo c z t m n k=>fAV (d1 t) λx37=>c 94 [x37] z m n λx38 m n=>cNorm o c z t m n k) cNorm (λo c z t m n k=>fAV (d1 t) λx39=>pLoadA 13 (d2 t) z m λx40=>qCallR o c 70 [x39,x40] z m n λx41 m n=>pExtr x41 0 λx42=>pExtr x41 1 λx43=>qStore 13 (d3 t) x42 m λm=>sd6 t x43 λt=>cRet o c z t m n k) o c z t m n k) o c z t m n k) false
noncomputable def F61 : HFunc:=.mk init1 (λz t m k=>rCell (d4 t) true 13 z m (k))
  (λo c z t m n k=>qBox (d0 t) m n λx1 m n=>qAlloc z0 m n λx2 m n=>sd4 t x2 λt=>sd1 t x1 λt=>pFaddr 7 (d1 t) λx4=>pLoadA 3 x4 z m λx5=>qCallR o c 86 [x5] z m n λx6 m n=>pFaddr 7 (d1 t) λx7=>qStore 3 x7 x6 m λm=>(λa=>dP (pFaddr 10 (d1 t)) n λx8 n=>dL (pLoad1 x8) [0] 1 z m a n λx9 a n=>dr1 (λz m n k=>qCallR o c 72 [x9] z m n λv m n=>k v m n) [1,0] 2 z m a n λx10 a n=>dP (pFaddr 11 (d1 t)) n λx11 n=>dL (pLoad1 x11) [3] 4 z m a n λx12 a n=>dr1 (λz m n k=>qCallR o c 72 [x12] z m n λv m n=>k v m n) [4,3,2,1,0] 5 z m a n λx13 a n=>dP (pFaddr 12 (d1 t)) n λx14 n=>dL (pLoad1 x14) [6] 7 z m a n λx15 a n=>dr1 (λz m n k=>qCallR o c 95 [x15] z m n λv m n=>k v m n) [7,6,5,4,3,2,1,0] 8 z m a n λx16 a n=>dP (pFaddr 10 (d1 t)) n λx17 n=>dr2 (λz m n k=>qStore1 x17 x10 m λm=>k noVal m n) [9,0,1,2,3,4,6,7,8,5] z m a n λ_ m a n=>dP (pFaddr 11 (d1 t)) n λx18 n=>dr2 (λz m n k=>qStore1 x18 x13 m λm=>k noVal m n) [11,0,1,2,3,4,5,6,7,9,10,8] z m a n λ_ m a n=>dP (pFaddr 12 (d1 t)) n λx19 n=>dr2 (λz m n k=>qStore1 x19 x16 m λm=>k noVal m n) [13,0,1,2,3,4,5,6,7,8,9,10,11,12] z m a n λ_ m a n=>joinAll a m λm=>pFaddr 12 (d1 t) λx20=>pLoad1 x20 z m λx21=>pLen x21 λx22=>sd2 t i0 λt=>sd5 t x22 λt=>(cBlk 0 (cLoop (λo c z t m n k=>p_lss (d2 t) (d5 t) o λx24=>tTest x24 0 (cBlk 1 (λo c z t m n k=>fAV (d2 t) λx25=>sd3 t x25 λt=>(λa=>dP (pFaddr 12 (d1 t)) n λx26 n=>dL (pLoad1 x26) [0] 1 z m a n λx27 a n=>dP (fAV (d3 t)) n λx28 n=>dP (pFaddr 12 (d1 t)) n λx29 n=>dL (pLoad1 x29) [3] 4 z m a n λx30 a n=>dP (fAV (d3 t)) n λx31 n=>dr0 (λz m n k=>forceV x31 o λy=>pIaddr 6 x30 y λv=>k v m n) n λx32 n=>dP (pFaddr 3 x32) n λx33 n=>dL (pLoadA 3 x33) [7,6,4,3,5] 8 z m a n λx34 a n=>dr1 (λz m n k=>qCallR o c 86 [x34] z m n λv m n=>k v m n) [8,7,6,4,3,5] 9 z m a n λx35 a n=>dr0 (λz m n k=>forceV x28 o λy=>pIaddr 6 x27 y λv=>k v m n) n λx36 n=>dP (pFaddr 3 x36) n λx37 n=>dr2 (λz m n k=>qStore 3 x37 x35 m λm=>k noVal m n) [11,10,1,0,2,3,4,5,6,7,8,9] z m a n λ_ m a n=>joinAll a m λm=>cNorm o c z t m n k) [[],[],[],[],[],[],[],[],[],[],[],[],[]]) (λo c z t m n k=>p_add (d2 t) i1 o λx38=>sd2 t x38 λt=>cNorm o c z t m n k)) o c z t m n k) cNorm) (λo c z t m n k=>pLoadA 13 (d1 t) z m λx39=>qStore 13 (d4 t) x39 m λm=>cRet o c z t m n k)) o c z t m n k) [[],[],[],[],[],[],[],[],[],[],[],[],[],[],[]]) false
noncomputable def F62 : HFunc:=.mk init1 (rTmp d2)
  (λo c z t m n k=>qBox (d0 t) m n λx1 m n=>sd2 t (.one (.npt)) λt=>sd1 t x1 λt=>pLoadA 13 (d1 t) z m λx3=>qCallR o c 61 [x3] z m n λx4 m n=>qOth o c z m n false (.build z7 [(0,13,(.c x4))]) λx5 m n=>qBox x5 m n λx6 m n=>sd2 t x6 λt=>cRet o c z t m n k) false
noncomputable def F68 : HFunc:=.mk init1 (rTmp d2)
  (λo c z t m n k=>sd2 t bF λt=>fAV (d0 t) λx3=>qCallR o c 103 [x3] z m n λx4 m n=>gd x4 true (λJ=>fAV (d0 t) λv=>J v m n) m n λx6 m n=>gd x4 true (λJ=>pNilc x6 λv=>J v m n) m n λx7 m n=>gd x4 true (λJ=>pFaddr 0 x7 λv=>J v m n) m n λx8 m n=>gd x4 true (λJ=>pFaddr 4 x8 λv=>J v m n) m n λx9 m n=>gd x4 true (λJ=>pLoad1 x9 z m λv=>J v m n) m n λx10 m n=>gd x4 true (λJ=>p_eql x10 i0 o λv=>J v m n) m n λx11 m n=>pPick x4 x11 bF λx12=>sd1 t x12 λt=>fAV (d1 t) λx2=>sd2 t x2 λt=>cRet o c z t m n k) false
noncomputable def F69 : HFunc:=.mk init3 (λ_ _ _ k=>k (.tp []))
  (λo c z t m n k=>qBox (d2 t) m n λx5 m n=>sd3 t x5 λt=>fAV (d0 t) λx6=>pNilc x6 λx7=>pFaddr 0 x7 λx8=>pFaddr 0 x8 λx9=>pLoad1 x9 z m λx10=>fAV (d1 t) λx11=>pFaddr 1 (d3 t) λx12=>qStore1 x12 x10 m λm=>pFaddr 2 (d3 t) λx13=>qStore1 x13 x11 m λm=>(λa=>dP (fAV (d0 t)) n λx14 n=>dP (fAV (d0 t)) n λx15 n=>dP (pNilc x15) n λx16 n=>dP (pFaddr 13 x16) n λx17 n=>dL (pLoad1 x17) [3,2,1] 4 z m a n λx18 a n=>dL (pLoadA 20 (d3 t)) [] 5 z m a n λx19 a n=>dr1 (λz m n k=>qCallR o c 49 [x19] z m n λv m n=>k v m n) [5] 6 z m a n λx20 a n=>dr3 (λz m n k=>qOth o c z m n false (.bslice 20 1 [.int .i64 (.ofNat 0),.int .i64 (.ofNat 0),.int .i64 (.ofNat 0),.int .i64 (.ofNat 0),.int .i64 (.ofNat 0),.int .i64 (.ofNat 0),.int .i64 (.ofNat 0),.int .i64 (.ofNat 0),.int .i64 (.ofNat 0),.int .i64 (.ofNat 0),.int .i64 (.ofNat 0),.int .i64 (.ofNat 0),.int .i64 (.ofNat 0),.int .i64 (.ofNat 0),.str 0 0,.nsl,.int .i64 (.ofNat 0),.str 0 0,.nsl,.str 0 0] [(0,20,(.c x20))]) λv m n=>k v m n) 7 a n λx21 a n=>dr2 (λz m n k=>qOth o c z m n false (.append 20 216 (.c x18) (.c x21)) λv m n=>k v m n) [4,3,2,1,7,6,5] z m a n λx22 m a n=>dP (pNilc x14) n λx23 n=>dP (pFaddr 13 x23) n λx24 n=>dr2 (λz m n k=>qStore1 x24 x22 m λm=>k noVal m n) [10,9,0,1,2,3,4,5,6,7,8] z m a n λ_ m a n=>joinAll a m λm=>cNorm o c z t m n k) [[],[],[],[],[],[],[],[],[],[],[],[]]) false
noncomputable def F70 : HFunc:=.mk init2 (λz t m k=>rCell (d2 t) true 13 z m (λv=>toCV zz v λc0=>(λv=>toCV zz v λc1=>k (.tp [c0,c1])) (d4 t)))
  (λo c z t m n k=>qBox (d1 t) m n λx3 m n=>qAlloc z0 m n λx4 m n=>sd4 t nS λt=>sd2 t x4 λt=>sd3 t x3 λt=>fAV (d0 t) λx6=>pNilc x6 λx7=>pFaddr 14 x7 λx8=>pLoad1 x8 z m λx9=>tIfN x9 (λo c z t m n k=>pLoadA 13 (d3 t) z m λx10=>qCallR o c 61 [x10] z m n λx11 m n=>qStore 13 (d2 t) x11 m λm=>sd4 t nS λt=>cRet o c z t m n k) cNorm (λo c z t m n k=>(λa=>apS (d2 t) 8 m a λm a=>dP (fAV (d0 t)) n λx12 n=>dP (pNilc x12) n λx13 n=>dP (pFaddr 0 x13) n λx14 n=>dL (pLoadA 13 x14) [2,1,0] 3 z m a n λx15 a n=>dP (fAV (d0 t)) n λx16 n=>dP (pNilc x16) n λx17 n=>dP (pFaddr 13 x17) n λx18 n=>dL (pLoad1 x18) [6,5,4] 7 z m a n λx19 a n=>dr4 (λz m n k=>qStore 13 (d2 t) x15 m λm=>k noVal m n) [3,2,1,0] 8 a n λ_ a n=>dM x19 n λx5 n=>joinAll a m λm=>sd4 t x5 λt=>cRet o c z t m n k) [[],[],[],[],[],[],[],[],[],[]]) o c z t m n k) false
noncomputable def F72 : HFunc:=.mk init1 (rTmp d1)
  (λo c z t m n k=>sd1 t nS λt=>fAV (d0 t) λx3=>qOth o c z m n false (.eqn true false (.c x3) (.c nS)) λx4 m n=>tIfN x4 (λo c z t m n k=>sd1 t nS λt=>cRet o c z t m n k) cNorm (λo c z t m n k=>qOth o c z m n false (.bslice 1 0 [.int .i64 (.ofNat 0)] []) λx5 m n=>fAV (d0 t) λx6=>qOth o c z m n false (.append 1 8 (.c x5) (.c x6)) λx7 m n=>sd1 t x7 λt=>cRet o c z t m n k) o c z t m n k) false
noncomputable def F73 : HFunc:=.mk init1 (λz t m k=>(λv=>toCV zz v λc0=>(λv=>toCV zz v λc1=>k (.tp [c0,c1])) (e0_5 t)) (e0_4 t))
  (λo c z t m n k=>se0_5 t bF λt=>se0_4 t nS λt=>qOth o c z m n false (.bslice 1 3 [.int .i64 (.ofNat 0)] [(0,1,(.c i6)),(1,1,(.c i7)),(2,1,(.c i12))]) λx5 m n=>qOth o c z m n false (.bslice 1 4 [.int .i64 (.ofNat 0)] [(0,1,(.c i6)),(1,1,(.c i7)),(2,1,(.c i8)),(3,1,(.c i2))]) λx6 m n=>qOth o c z m n false (.bslice 1 5 [.int .i64 (.ofNat 0)] [(0,1,(.c i7)),(1,1,(.c i9)),(2,1,(.c i11)),(3,1,(.c i2)),(4,1,(.c i10))]) λx7 m n=>qOth o c z m n false (.bslice 1 4 [.int .i64 (.ofNat 0)] [(0,1,(.c i7)),(1,1,(.c i8)),(2,1,(.c i2)),(3,1,(.c i4))]) λx8 m n=>qOth o c z m n false (.bslice 1 7 [.int .i64 (.ofNat 0)] [(0,1,(.c i0)),(1,1,(.c i2)),(2,1,(.c i3)),(3,1,(.c i5)),(4,1,(.c i6)),(5,1,(.c i7)),(6,1,(.c i12))]) λx9 m n=>qOth o c z m n false (.bslice 1 2 [.int .i64 (.ofNat 0)] [(0,1,(.c i0)),(1,1,(.c i2))]) λx10 m n=>qOth o c z m n false (.bslice 1 3 [.int .i64 (.ofNat 0)] [(0,1,(.c i0)),(1,1,(.c i2)),(2,1,(.c i3))]) λx11 m n=>qOth o c z m n false (.bslice 1 1 [.int .i64 (.ofNat 0)] [(0,1,(.c i0))]) λx12 m n=>qOth o c z m n false (.bslice 1 4 [.int .i64 (.ofNat 0)] [(0,1,(.c i0)),(1,1,(.c i1)),(2,1,(.c i3)),(3,1,(.c i13))]) λx13 m n=>qOth o c z m n false (.bslice 1 3 [.int .i64 (.ofNat 0)] [(0,1,(.c i0)),(1,1,(.c i3)),(2,1,(.c i13))]) λx14 m n=>se0_3 t x14 λt=>se0_2 t x13 λt=>se0_1 t x12 λt=>se0_0 t x11 λt=>sd7 t x10 λt=>sd6 t x9 λt=>sd5 t x8 λt=>sd4 t x7 λt=>sd3 t x6 λt=>sd2 t x5 λt=>qOth o c z m n false (.bslice 1 2 [.int .i64 (.ofNat 0)] [(0,1,(.c i0)),(1,1,(.c i2))]) λx15 m n=>qOth o c z m n false (.bslice 1 3 [.int .i64 (.ofNat 0)] [(0,1,(.c i0)),(1,1,(.c i3)),(2,1,(.c i13))]) λx16 m n=>qOth o c z m n false (.bslice 1 2 [.int .i64 (.ofNat 0)] [(0,1,(.c i0)),(1,1,(.c i4))]) λx17 m n=>qOth o c z m n false (.bslice 1 2 [.int .i64 (.ofNat 0)] [(0,1,(.c i0)),(1,1,(.c i4))]) λx18 m n=>qOth o c z m n false (.bslice 1 1 [.int .i64 (.ofNat 0)] [(0,1,(.c i2))]) λx19 m n=>qOth o c z m n false (.bslice 1 1 [.int .i64 (.ofNat 0)] [(0,1,(.c i2))]) λx20 m n=>qOth o c z m n false (.bslice 1 2 [.int .i64 (.ofNat 0)] [(0,1,(.c i2)),(1,1,(.c i14))]) λx21 m n=>qOth o c z m n false (.bslice 1 17 [.nsl] [(0,1,(.c (d2 t))),(1,1,(.c (d3 t))),(2,1,(.c (d4 t))),(3,1,(.c (d5 t))),(4,1,(.c (d6 t))),(5,1,(.c (d7 t))),(6,1,(.c (e0_0 t))),(7,1,(.c (e0_1 t))),(8,1,(.c (e0_2 t))),(9,1,(.c (e0_3 t))),(10,1,(.c x15)),(11,1,(.c x16)),(12,1,(.c x17)),(13,1,(.c x18)),(14,1,(.c x19)),(15,1,(.c x20)),(16,1,(.c x21))]) λx22 m n=>sd1 t x22 λt=>fAV (d0 t) λx23=>p_lss x23 i0 o λx24=>gd x24 false (λJ=>fAV (d0 t) λv=>J v m n) m n λx26 m n=>gd x24 false (λJ=>fAV (d1 t) λv=>J v m n) m n λx27 m n=>gd x24 false (λJ=>pLen x27 λv=>J v m n) m n λx28 m n=>gd x24 false (λJ=>p_geq x26 x28 o λv=>J v m n) m n λx29 m n=>pPick x24 bT x29 λx30=>tIfN x30 (λo c z t m n k=>se0_5 t bF λt=>se0_4 t nS λt=>cRet o c z t m n k) cNorm (λo c z t m n k=>fAV (d1 t) λx31=>fAV (d0 t) λx32=>forceV x32 o λy=>pIaddr 1 x31 y λx33=>pLoad1 x33 z m λx34=>se0_5 t bT λt=>se0_4 t x34 λt=>cRet o c z t m n k) o c z t m n k) false
noncomputable def F74 : HFunc:=.mk init1 (rTmp e0_1)
  (λo c z t m n k=>se0_1 t bF λt=>sd6 t (.one (.fn 111 [])) λt=>sd5 t (.one (.fn 111 [])) λt=>fAV (d0 t) λx5=>pNilc x5 λx6=>pFaddr 0 x6 λx7=>pLoad1 x7 z m λx8=>sd1 t x8 λt=>(cBlk 0 (λo c z t m n k=>p_eql (d1 t) i0 o λx10=>sd3 t x10 λt=>tIfN x10 cNorm (λo c z t m n k=>p_eql (d1 t) i2 o λx11=>sd3 t x11 λt=>cNorm o c z t m n k) (cIf d3 (λo c z t m n k=>sd5 t (.one (.fn 112 [])) λt=>cNorm o c z t m n k) (λo c z t m n k=>p_eql (d1 t) i1 o λx13=>sd4 t x13 λt=>tIfN x13 cNorm (λo c z t m n k=>p_eql (d1 t) i3 o λx14=>sd4 t x14 λt=>cNorm o c z t m n k) (cIf d4 (λo c z t m n k=>sd6 t (.one (.fn 112 [])) λt=>cNorm o c z t m n k) cNorm) o c z t m n k)) o c z t m n k) (λo c z t m n k=>fAV (d5 t) λx15=>fAV (d0 t) λx16=>pNilc x16 λx17=>pFaddr 1 x17 λx18=>pLoad1 x18 z m λx19=>qOth o c z m n true (.call (.c x15) [(.c x19)]) λx20 m n=>gd x20 true (λJ=>fAV (d6 t) λv=>J v m n) m n λx22 m n=>gd x20 true (λJ=>fAV (d0 t) λv=>J v m n) m n λx23 m n=>gd x20 true (λJ=>pNilc x23 λv=>J v m n) m n λx24 m n=>sd7 t x24 λt=>se0_0 t x22 λt=>sd2 t x20 λt=>gd (d2 t) true (λJ=>pFaddr 2 (d7 t) λv=>J v m n) m n λx25 m n=>gd (d2 t) true (λJ=>pLoad1 x25 z m λv=>J v m n) m n λx26 m n=>gd (d2 t) true (λJ=>qOth o c z m n true (.call (.c (e0_0 t)) [(.c x26)]) λv m n=>J v m n) m n λx27 m n=>pPick (d2 t) x27 bF λx28=>se0_1 t x28 λt=>cRet o c z t m n k)) o c z t m n k) false
noncomputable def F75 : HFunc:=.mk init2 (rTmp d3)
  (λo c z t m n k=>sd3 t (.one (.npt)) λt=>fAV (d1 t) λx5=>sd2 t x5 λt=>(cBlk 0 (λo c z t m n k=>p_eql (d2 t) i0 o λx7=>tIf x7 (λo c z t m n k=>fAV (d0 t) λx8=>pNilc x8 λx9=>pFaddr 3 x9 λx10=>sd3 t x10 λt=>cRet o c z t m n k) (λo c z t m n k=>p_eql (d2 t) i1 o λx12=>tIf x12 (λo c z t m n k=>fAV (d0 t) λx13=>pNilc x13 λx14=>pFaddr 4 x14 λx15=>sd3 t x15 λt=>cRet o c z t m n k) (λo c z t m n k=>p_eql (d2 t) i2 o λx17=>tIf x17 (λo c z t m n k=>fAV (d0 t) λx18=>pNilc x18 λx19=>pFaddr 5 x19 λx20=>sd3 t x20 λt=>cRet o c z t m n k) (λo c z t m n k=>p_eql (d2 t) i3 o λx22=>tIf x22 (λo c z t m n k=>fAV (d0 t) λx23=>pNilc x23 λx24=>pFaddr 6 x24 λx25=>sd3 t x25 λt=>cRet o c z t m n k) (λo c z t m n k=>p_eql (d2 t) i4 o λx27=>tIf x27 (λo c z t m n k=>fAV (d0 t) λx28=>pNilc x28 λx29=>pFaddr 7 x29 λx30=>sd3 t x30 λt=>cRet o c z t m n k) (λo c z t m n k=>p_eql (d2 t) i5 o λx32=>tIf x32 (λo c z t m n k=>fAV (d0 t) λx33=>pNilc x33 λx34=>pFaddr 8 x34 λx35=>sd3 t x35 λt=>cRet o c z t m n k) (λo c z t m n k=>p_eql (d2 t) i6 o λx37=>tIf x37 (λo c z t m n k=>fAV (d0 t) λx38=>pNilc x38 λx39=>pFaddr 9 x39 λx40=>sd3 t x40 λt=>cRet o c z t m n k) (λo c z t m n k=>p_eql (d2 t) i7 o λx42=>tIf x42 (λo c z t m n k=>fAV (d0 t) λx43=>pNilc x43 λx44=>pFaddr 10 x44 λx45=>sd3 t x45 λt=>cRet o c z t m n k) (λo c z t m n k=>p_eql (d2 t) i8 o λx47=>tIf x47 (λo c z t m n k=>fAV (d0 t) λx48=>pNilc x48 λx49=>pFaddr 11 x49 λx50=>sd3 t x50 λt=>cRet o c z t m n k) (λo c z t m n k=>p_eql (d2 t) i9 o λx52=>tIf x52 (λo c z t m n k=>fAV (d0 t) λx53=>pNilc x53 λx54=>pFaddr 12 x54 λx55=>sd3 t x55 λt=>cRet o c z t m n k) (λo c z t m n k=>p_eql (d2 t) i10 o λx57=>tIf x57 (λo c z t m n k=>fAV (d0 t) λx58=>pNilc x58 λx59=>pFaddr 13 x59 λx60=>sd3 t x60 λt=>cRet o c z t m n k) cNorm o c z t m n k) o c z t m n k) o c z t m n k) o c z t m n k) o c z t m n k) o c z t m n k) o c z t m n k) o c z t m n k) o c z t m n k) o c z t m n k) o c z t m n k) (λo c z t m n k=>sd3 t (.one (.npt)) λt=>cRet o c z t m n k)) o c z t m n k) false
noncomputable def F76 : HFunc:=.mk init2 (λz t m k=>(λv=>toCV zz v λc0=>(λv=>toCV zz v λc1=>k (.tp [c0,c1])) (d5 t)) (d4 t))
  (λo c z t m n k=>sd5 t i0 λt=>sd4 t i0 λt=>(cBlk 0 (λo c z t m n k=>fAV (d1 t) λx7=>p_eql x7 i8 o λx8=>tIf x8 (λo c z t m n k=>sd5 t i9 λt=>sd4 t i0 λt=>cRet o c z t m n k) (λo c z t m n k=>fAV (d1 t) λx10=>p_eql x10 i9 o λx11=>tIf x11 (λo c z t m n k=>sd5 t i4 λt=>sd4 t i0 λt=>cRet o c z t m n k) (λo c z t m n k=>fAV (d1 t) λx13=>p_eql x13 i2 o λx14=>gd x14 true (λJ=>fAV (d0 t) λv=>J v m n) m n λx16 m n=>gd x14 true (λJ=>p_eql x16 i1 o λv=>J v m n) m n λx17 m n=>pPick x14 x17 bF λx18=>tIf x18 (λo c z t m n k=>sd5 t (.one (.int .i64 (.ofNat 2147483647))) λt=>sd4 t j0 λt=>cRet o c z t m n k) (λo c z t m n k=>fAV (d1 t) λx20=>p_eql x20 i2 o λx21=>gd x21 false (λJ=>fAV (d1 t) λv=>J v m n) m n λx23 m n=>gd x21 false (λJ=>p_eql x23 i10 o λv=>J v m n) m n λx24 m n=>pPick x21 bT x24 λx25=>gd x25 true (λJ=>fAV (d0 t) λv=>J v m n) m n λx27 m n=>gd x25 true (λJ=>p_eql x27 i2 o λv=>J v m n) m n λx28 m n=>gd x25 true (λJ=>J x28 m n) m n λx29 m n=>sd2 t x29 λt=>sd3 t x25 λt=>gd (d2 t) false (λJ=>fAV (d0 t) λv=>J v m n) m n λx30 m n=>gd (d2 t) false (λJ=>p_eql x30 i3 o λv=>J v m n) m n λx31 m n=>gd (d3 t) true (λJ=>pPick (d2 t) bT x31 λv=>J v m n) m n λx32 m n=>pPick (d3 t) x32 bF λx33=>tIf x33 (λo c z t m n k=>sd5 t (.one (.int .i64 (.ofNat 2147483647))) λt=>sd4 t (.one (.int .i64 (.negSucc 2147483647))) λt=>cRet o c z t m n k) cNorm o c z t m n k) o c z t m n k) o c z t m n k) o c z t m n k) (λo c z t m n k=>sd5 t (.one (.int .i64 (.ofNat 2147483647))) λt=>sd4 t i0 λt=>cRet o c z t m n k)) o c z t m n k) false
noncomputable def F78 : HFunc:=.mk init1 (rTmp d1)
  (λo c z t m n k=>sd1 t bF λt=>fAV (d0 t) λx3=>pLen x3 λx4=>p_leq x4 i8 o λx5=>gd x5 true (λJ=>fAV (d0 t) λv=>J v m n) m n λx7 m n=>gd x5 true (λJ=>qCallR o c 113 [x7,(.one (.fn 114 []))] z m n λv m n=>J v m n) m n λx8 m n=>gd x5 true (λJ=>pNot x8 λv=>J v m n) m n λx9 m n=>pPick x5 x9 bF λx10=>sd1 t x10 λt=>cRet o c z t m n k) false
noncomputable def F79 : HFunc:=.mk init2 (rTmp d5)
  (λo c z t m n k=>sd5 t bF λt=>fAV (d0 t) λx5=>qCallR o c 116 [x5] z m n λx6 m n=>gd x6 true (λJ=>fAV (d1 t) λv=>J v m n) m n λx8 m n=>gd x6 true (λJ=>qCallR o c 116 [x8] z m n λv m n=>J v m n) m n λx9 m n=>gd x6 true (λJ=>pNot x9 λv=>J v m n) m n λx10 m n=>pPick x6 x10 bF λx11=>gd x11 false (λJ=>fAV (d0 t) λv=>J v m n) m n λx13 m n=>gd x11 false (λJ=>fAV (d1 t) λv=>J v m n) m n λx14 m n=>sd4 t x14 λt=>sd3 t x13 λt=>sd2 t x11 λt=>gd (d2 t) false (λJ=>p_lss (d3 t) (d4 t) o λv=>J v m n) m n λx15 m n=>pPick (d2 t) bT x15 λx16=>sd5 t x16 λt=>cRet o c z t m n k) false
noncomputable def F86 : HFunc:=.mk init1 (λz t m k=>rCell (d4 t) true 3 z m (k))
  (λo c z t m n k=>qBox (d0 t) m n λx1 m n=>qAlloc z6 m n λx2 m n=>sd4 t x2 λt=>sd1 t x1 λt=>pFaddr 0 (d1 t) λx6=>pLoad1 x6 z m λx7=>pFaddr 1 (d1 t) λx8=>pLoad1 x8 z m λx9=>qOth o c z m n false (.build z6 [(0,1,(.c x7)),(1,1,(.c x9))]) λx10 m n=>qAlloc z6 m n λx3 m n=>qStore 3 x3 x10 m λm=>sd3 t x3 λt=>pFaddr 2 (d1 t) λx11=>pLoad1 x11 z m λx12=>pLen x12 λx13=>sd2 t i0 λt=>sd5 t x13 λt=>sd6 t x12 λt=>(cBlk 0 (cLoop (λo c z t m n k=>p_lss (d2 t) (d5 t) o λx15=>tTest x15 0 (cBlk 1 (λo c z t m n k=>forceV (d2 t) o λy=>pIaddr 5 (d6 t) y λx16=>pLoadA 5 x16 z m λx17=>qAlloc z5 m n λx5 m n=>qStore 5 x5 x17 m λm=>sd7 t x5 λt=>(λa=>dP (pFaddr 2 (d3 t)) n λx18 n=>dL (pLoad1 x18) [0] 1 z m a n λx19 a n=>dL (pLoadA 5 (d7 t)) [] 2 z m a n λx20 a n=>dr1 (λz m n k=>qCallR o c 99 [x20] z m n λv m n=>k v m n) [2] 3 z m a n λx21 a n=>dr3 (λz m n k=>qOth o c z m n false (.bslice 5 1 [.int .i64 (.ofNat 0),.int .i64 (.ofNat 0),.int .i64 (.ofNat 0),.int .i64 (.ofNat 0),.nsl] [(0,5,(.c x21))]) λv m n=>k v m n) 4 a n λx22 a n=>dr2 (λz m n k=>qOth o c z m n false (.append 5 56 (.c x19) (.c x22)) λv m n=>k v m n) [1,0,4,3,2] z m a n λx23 m a n=>dP (pFaddr 2 (d3 t)) n λx24 n=>dr2 (λz m n k=>qStore1 x24 x23 m λm=>k noVal m n) [6,0,1,2,3,4,5] z m a n λ_ m a n=>joinAll a m λm=>cNorm o c z t m n k) [[],[],[],[],[],[],[],[]]) (λo c z t m n k=>p_add (d2 t) i1 o λx25=>sd2 t x25 λt=>cNorm o c z t m n k)) o c z t m n k) cNorm) (λo c z t m n k=>pLoadA 3 (d3 t) z m λx26=>qStore 3 (d4 t) x26 m λm=>cRet o c z t m n k)) o c z t m n k) false
noncomputable def F89 : HFunc:=.mk init2 (rTmp d5)
  (λo c z t m n k=>sd5 t i0 λt=>fAV (d0 t) λx6=>pLen x6 λx7=>sd2 t i0 λt=>sd4 t x7 λt=>(cBlk 0 (cLoop (λo c z t m n k=>p_lss (d2 t) (d4 t) o λx9=>tTest x9 0 (cBlk 1 (λo c z t m n k=>fAV (d2 t) λx10=>sd3 t x10 λt=>fAV (d1 t) λx11=>fAV (d0 t) λx12=>fAV (d3 t) λx13=>forceV x13 o λy=>pIaddr 1 x12 y λx14=>pLoad1 x14 z m λx15=>qOth o c z m n true (.call (.c x11) [(.c x15)]) λx16 m n=>tIf x16 (λo c z t m n k=>fAV (d3 t) λx17=>sd5 t x17 λt=>cRet o c z t m n k) cNorm o c z t m n k) (λo c z t m n k=>p_add (d2 t) i1 o λx18=>sd2 t x18 λt=>cNorm o c z t m n k)) o c z t m n k) cNorm) (λo c z t m n k=>sd5 t j0 λt=>cRet o c z t m n k)) o c z t m n k) false
noncomputable def F91 : HFunc:=.mk init4 (λ_ _ _ k=>k (.tp []))
  (λo c z t m n k=>sd7 t bT λt=>se0_4 t bT λt=>(cBlk 0 (cLoop (cBlk 1 (λo c z t m n k=>fAV (d2 t) λx19=>fAV (d1 t) λx20=>p_sub x19 x20 o λx21=>sd6 t x21 λt=>fAV (d6 t) λx22=>p_leq x22 i12 o λx23=>tIfN x23 (λo c z t m n k=>fAV (d0 t) λx24=>fAV (d1 t) λx25=>fAV (d2 t) λx26=>c 127 [x24,x25,x26] z m n λx27 m n=>cRet o c z t m n k) cNorm (λo c z t m n k=>fAV (d3 t) λx28=>p_eql x28 i0 o λx29=>tIfN x29 (λo c z t m n k=>fAV (d0 t) λx30=>fAV (d1 t) λx31=>fAV (d2 t) λx32=>c 128 [x30,x31,x32] z m n λx33 m n=>cRet o c z t m n k) cNorm (λo c z t m n k=>fAV (d7 t) λx34=>pNot x34 λx35=>tIfN x35 (λo c z t m n k=>fAV (d0 t) λx36=>fAV (d1 t) λx37=>fAV (d2 t) λx38=>c 129 [x36,x37,x38] z m n λx39 m n=>fAV (d3 t) λx40=>p_sub x40 i1 o λx41=>sd3 t x41 λt=>cNorm o c z t m n k) cNorm (λo c z t m n k=>fAV (d0 t) λx43=>fAV (d1 t) λx44=>fAV (d2 t) λx45=>c 130 [x43,x44,x45] z m n λx46 m n=>pExtr x46 0 λx47=>pExtr x46 1 λx48=>se0_0 t x48 λt=>sd5 t x47 λt=>fAV (e0_0 t) λx49=>p_eql x49 i2 o λx50=>tIfN x50 (λo c z t m n k=>fAV (d0 t) λx51=>fAV (d1 t) λx52=>fAV (d2 t) λx53=>c 131 [x51,x52,x53] z m n λx54 m n=>fAV (d2 t) λx55=>p_sub x55 i1 o λx56=>fAV (d5 t) λx57=>fAV (d1 t) λx58=>p_sub x57 x58 o λx59=>p_sub x56 x59 o λx60=>sd5 t x60 λt=>se0_0 t i1 λt=>cNorm o c z t m n k) cNorm (λo c z t m n k=>fAV (d7 t) λx61=>gd x61 true (λJ=>fAV (e0_4 t) λv=>J v m n) m n λx63 m n=>pPick x61 x63 bF λx64=>gd x64 true (λJ=>fAV (e0_0 t) λv=>J v m n) m n λx66 m n=>gd x64 true (λJ=>p_eql x66 i1 o λv=>J v m n) m n λx67 m n=>pPick x64 x67 bF λx68=>tIfN x68 (λo c z t m n k=>fAV (d0 t) λx69=>fAV (d1 t) λx70=>fAV (d2 t) λx71=>c 132 [x69,x70,x71] z m n λx72 m n=>tIf x72 cRet cNorm o c z t m n k) cNorm (λo c z t m n k=>(λa=>dP (fAV (d1 t)) n λx73 n=>dP (p_gtr x73 i0 o) n λx74 n=>dM x74 n λx75 n=>gdD x75 true m a n (λJ=>dP (fAV (d0 t)) n λx76 n=>J x76 m a n) λx76 m a n=>gdD x75 true m a n (λJ=>dP (fAV (d1 t)) n λx77 n=>J x77 m a n) λx77 m a n=>gdD x75 true m a n (λJ=>dP (p_sub x77 i1 o) n λx78 n=>J x78 m a n) λx78 m a n=>gdD x75 true m a n (λJ=>dr0 (λz m n k=>forceV x78 o λy=>pIaddr 1 x76 y λv=>k v m n) n λx79 n=>J x79 m a n) λx79 m a n=>gdD x75 true m a n (λJ=>dL (pLoad1 x79) [6,3,2,1,0,5,4] 7 z m a n λx80 a n=>J x80 m a n) λx80 m a n=>gdD x75 true m a n (λJ=>dP (fAV (d0 t)) n λx81 n=>J x81 m a n) λx81 m a n=>gdD x75 true m a n (λJ=>dP (fAV (d5 t)) n λx82 n=>J x82 m a n) λx82 m a n=>gdD x75 true m a n (λJ=>dr0 (λz m n k=>forceV x82 o λy=>pIaddr 1 x81 y λv=>k v m n) n λx83 n=>J x83 m a n) λx83 m a n=>gdD x75 true m a n (λJ=>dL (pLoad1 x83) [10,8,2,1,0,9] 11 z m a n λx84 a n=>J x84 m a n) λx84 m a n=>gdD x75 true m a n (λJ=>dr1 (λz m n k=>qCallR o c 79 [x80,x84] z m n λv m n=>k v m n) [7,6,3,2,1,0,5,4,11,10,8,9] 12 z m a n λx85 a n=>J x85 m a n) λx85 m a n=>gdD x75 true m a n (λJ=>dP (pNot x85) n λx86 n=>J x86 m a n) λx86 m a n=>dP (pPick x75 x86 bF) n λx87 n=>joinAll a m λm=>tIfN x87 (λo c z t m n k=>fAV (d0 t) λx88=>fAV (d1 t) λx89=>fAV (d2 t) λx90=>fAV (d5 t) λx91=>c 133 [x88,x89,x90,x91] z m n λx92 m n=>se0_5 t x92 λt=>fAV (e0_5 t) λx93=>sd1 t x93 λt=>(cExit 1) o c z t m n k) cNorm (λo c z t m n k=>fAV (d0 t) λx95=>fAV (d1 t) λx96=>fAV (d2 t) λx97=>fAV (d5 t) λx98=>c 134 [x95,x96,x97,x98] z m n λx99 m n=>pExtr x99 0 λx100=>pExtr x99 1 λx101=>se0_6 t x101 λt=>sd4 t x100 λt=>fAV (e0_6 t) λx102=>se0_4 t x102 λt=>fAV (d4 t) λx103=>fAV (d1 t) λx104=>p_sub x103 x104 o λx105=>fAV (d2 t) λx106=>fAV (d4 t) λx107=>p_sub x106 x107 o λx108=>se0_2 t x108 λt=>se0_1 t x105 λt=>fAV (d6 t) λx109=>p_quo x109 i8 o λx110=>se0_3 t x110 λt=>fAV (e0_1 t) λx111=>fAV (e0_2 t) λx112=>p_lss x111 x112 o λx113=>tIf x113 (λo c z t m n k=>fAV (e0_1 t) λx114=>fAV (e0_3 t) λx115=>p_geq x114 x115 o λx116=>sd7 t x116 λt=>fAV (d0 t) λx117=>fAV (d1 t) λx118=>fAV (d4 t) λx119=>fAV (d3 t) λx120=>c 91 [x117,x118,x119,x120] z m n λx121 m n=>fAV (d4 t) λx122=>p_add x122 i1 o λx123=>sd1 t x123 λt=>cNorm o c z t m n k) (λo c z t m n k=>fAV (e0_2 t) λx124=>fAV (e0_3 t) λx125=>p_geq x124 x125 o λx126=>sd7 t x126 λt=>fAV (d0 t) λx127=>fAV (d4 t) λx128=>p_add x128 i1 o λx129=>fAV (d2 t) λx130=>fAV (d3 t) λx131=>c 91 [x127,x129,x130,x131] z m n λx132 m n=>fAV (d4 t) λx133=>sd2 t x133 λt=>cNorm o c z t m n k) o c z t m n k) o c z t m n k) [[],[],[],[],[],[],[],[],[],[],[],[],[],[],[]]) o c z t m n k) o c z t m n k) o c z t m n k) o c z t m n k) o c z t m n k) cNorm) cNorm) cNorm) o c z t m n k) false
noncomputable def F92 : HFunc:=.mk init1 (rTmp d1)
  (λo c z t m n k=>sd1 t i0 λt=>tIfN bF (λo c z t m n k=>fAV (d0 t) λx3=>qOth o c z m n false (.conv .u32 (.c x3)) λx4 m n=>qCallR o c 135 [x4] z m n λx5 m n=>sd1 t x5 λt=>cRet o c z t m n k) cNorm (λo c z t m n k=>fAV (d0 t) λx6=>qCallR o c 136 [x6] z m n λx7 m n=>sd1 t x7 λt=>cRet o c z t m n k) o c z t m n k) false
noncomputable def F93 : HFunc:=.mk init2 (λ_ _ _ k=>k (.tp []))
  (λo c z t m n k=>fAV (d0 t) λx4=>fAV (d0 t) λx5=>fAV (d1 t) λx6=>pNilc x4 λx7=>pFaddr 0 x7 λx8=>pFaddr 2 x8 λx9=>qStore1 x9 x6 m λm=>pNilc x5 λx10=>pFaddr 0 x10 λx11=>pFaddr 4 x11 λx12=>sd2 t x12 λt=>qStore1 (d2 t) i1 m λm=>fAV (d0 t) λx13=>c 137 [x13] z m n λx14 m n=>fAV (d0 t) λx15=>fAV (d0 t) λx16=>qCallR o c 139 [x16] z m n λx17 m n=>c 138 [x15,x17] z m n λx18 m n=>cNorm o c z t m n k) false
noncomputable def F95 : HFunc:=.mk init1 (rTmp d1)
  (λo c z t m n k=>sd1 t nS λt=>fAV (d0 t) λx3=>qOth o c z m n false (.eqn true false (.c x3) (.c nS)) λx4 m n=>tIfN x4 (λo c z t m n k=>sd1 t nS λt=>cRet o c z t m n k) cNorm (λo c z t m n k=>qOth o c z m n false (.bslice 6 0 [.int .i64 (.ofNat 0),.int .i64 (.ofNat 0),.int .i64 (.ofNat 0),.int .i64 (.ofNat 0),.str 0 0,.nsl] []) λx5 m n=>fAV (d0 t) λx6=>qOth o c z m n false (.append 6 72 (.c x5) (.c x6)) λx7 m n=>sd1 t x7 λt=>cRet o c z t m n k) o c z t m n k) false
noncomputable def F103 : HFunc:=.mk init1 (rTmp d1)
  (λo c z t m n k=>sd1 t bF λt=>(λa=>dP (fAV (d0 t)) n λx3 n=>dP (pNilc x3) n λx4 n=>dP (pFaddr 0 x4) n λx5 n=>dP (pFaddr 2 x5) n λx6 n=>dL (pLoad1 x6) [3,2,1,0] 4 z m a n λx7 a n=>dP (fAV (d0 t)) n λx8 n=>dP (pNilc x8) n λx9 n=>dP (pFaddr 0 x9) n λx10 n=>dP (pFaddr 1 x10) n λx11 n=>dL (pLoad1 x11) [8,7,6,5] 9 z m a n λx12 a n=>dr1 (λz m n k=>qCallR o c 26 [x7,x12] z m n λv m n=>k v m n) [4,3,2,1,0,9,8,7,6,5] 10 z m a n λx13 a n=>dP (fAV (d0 t)) n λx14 n=>dP (pNilc x14) n λx15 n=>dP (pFaddr 0 x15) n λx16 n=>dP (pFaddr 0 x16) n λx17 n=>dL (pLoad1 x17) [14,13,12,11] 15 z m a n λx18 a n=>dP (p_eql x13 x18 o) n λx19 n=>dM x19 n λx2 n=>joinAll a m λm=>sd1 t x2 λt=>cRet o c z t m n k) [[],[],[],[],[],[],[],[],[],[],[],[],[],[],[],[],[],[]]) false
noncomputable def F111 : HFunc:=.mk init1 (rTmp d1)
  (λo c z t m n k=>sd1 t bF λt=>fAV (d0 t) λx3=>p_geq x3 i0 o λx4=>gd x4 true (λJ=>fAV (d0 t) λv=>J v m n) m n λx6 m n=>gd x4 true (λJ=>p_lss x6 i7 o λv=>J v m n) m n λx7 m n=>pPick x4 x7 bF λx8=>sd1 t x8 λt=>cRet o c z t m n k) false
noncomputable def F113 : HFunc:=.mk init2 (rTmp d2)
  (λo c z t m n k=>sd2 t bF λt=>fAV (d0 t) λx5=>fAV (d1 t) λx6=>qCallR o c 145 [x5,x6] z m n λx7 m n=>p_geq x7 i0 o λx8=>sd2 t x8 λt=>cRet o c z t m n k) false
noncomputable def F116 : HFunc:=.mk init1 (rTmp d1)
  (λo c z t m n k=>sd1 t bF λt=>fAV (d0 t) λx3=>fAV (d0 t) λx4=>p_neq x3 x4 o λx5=>sd1 t x5 λt=>cRet o c z t m n k) false
noncomputable def F127 : HFunc:=.mk init3 (λ_ _ _ k=>k (.tp []))
  (λo c z t m n k=>fAV (d1 t) λx8=>p_add x8 i1 o λx9=>sd4 t x9 λt=>(cBlk 0 (cLoop (λo c z t m n k=>fAV (d4 t) λx10=>fAV (d2 t) λx11=>p_lss x10 x11 o λx12=>tTest x12 0 (cBlk 1 (λo c z t m n k=>fAV (d4 t) λx15=>sd3 t x15 λt=>(cBlk 2 (cLoop (λo c z t m n k=>(λa=>dP (fAV (d3 t)) n λx16 n=>dP (fAV (d1 t)) n λx17 n=>dP (p_gtr x16 x17 o) n λx18 n=>dM x18 n λx19 n=>gdD x19 true m a n (λJ=>dP (fAV (d0 t)) n λx20 n=>J x20 m a n) λx20 m a n=>gdD x19 true m a n (λJ=>dP (fAV (d3 t)) n λx21 n=>J x21 m a n) λx21 m a n=>gdD x19 true m a n (λJ=>dr0 (λz m n k=>forceV x21 o λy=>pIaddr 1 x20 y λv=>k v m n) n λx22 n=>J x22 m a n) λx22 m a n=>gdD x19 true m a n (λJ=>dL (pLoad1 x22) [6,4,3,2,0,1,5] 7 z m a n λx23 a n=>J x23 m a n) λx23 m a n=>gdD x19 true m a n (λJ=>dP (fAV (d0 t)) n λx24 n=>J x24 m a n) λx24 m a n=>gdD x19 true m a n (λJ=>dP (fAV (d3 t)) n λx25 n=>J x25 m a n) λx25 m a n=>gdD x19 true m a n (λJ=>dP (p_sub x25 i1 o) n λx26 n=>J x26 m a n) λx26 m a n=>gdD x19 true m a n (λJ=>dr0 (λz m n k=>forceV x26 o λy=>pIaddr 1 x24 y λv=>k v m n) n λx27 n=>J x27 m a n) λx27 m a n=>gdD x19 true m a n (λJ=>dL (pLoad1 x27) [11,8,3,2,0,1,10,9] 12 z m a n λx28 a n=>J x28 m a n) λx28 m a n=>gdD x19 true m a n (λJ=>dr1 (λz m n k=>qCallR o c 79 [x23,x28] z m n λv m n=>k v m n) [7,6,4,3,2,0,1,5,12,11,8,10,9] 13 z m a n λx29 a n=>J x29 m a n) λx29 m a n=>dP (pPick x19 x29 bF) n λx30 n=>joinAll a m λm=>tTest x30 2 (cBlk 3 (λo c z t m n k=>(λa=>dP (fAV (d0 t)) n λx33 n=>dP (fAV (d3 t)) n λx34 n=>dP (fAV (d0 t)) n λx35 n=>dP (fAV (d3 t)) n λx36 n=>dP (p_sub x36 i1 o) n λx37 n=>dP (fAV (d0 t)) n λx38 n=>dP (fAV (d3 t)) n λx39 n=>dP (p_sub x39 i1 o) n λx40 n=>dr0 (λz m n k=>forceV x40 o λy=>pIaddr 1 x38 y λv=>k v m n) n λx41 n=>dL (pLoad1 x41) [8,5,7,6] 9 z m a n λx42 a n=>dP (fAV (d0 t)) n λx43 n=>dP (fAV (d3 t)) n λx44 n=>dr0 (λz m n k=>forceV x44 o λy=>pIaddr 1 x43 y λv=>k v m n) n λx45 n=>dL (pLoad1 x45) [12,10,11] 13 z m a n λx46 a n=>dr0 (λz m n k=>forceV x34 o λy=>pIaddr 1 x33 y λv=>k v m n) n λx47 n=>dr2 (λz m n k=>qStore1 x47 x42 m λm=>k noVal m n) [14,0,1,5,6,7,8,9,13,12,10,11] z m a n λ_ m a n=>dr0 (λz m n k=>forceV x37 o λy=>pIaddr 1 x35 y λv=>k v m n) n λx48 n=>dr2 (λz m n k=>qStore1 x48 x46 m λm=>k noVal m n) [16,2,4,3,0,1,5,6,7,8,9,10,11,12,13,14,15] z m a n λ_ m a n=>joinAll a m λm=>cNorm o c z t m n k) [[],[],[],[],[],[],[],[],[],[],[],[],[],[],[],[],[],[]]) (λo c z t m n k=>fAV (d3 t) λx31=>p_sub x31 i1 o λx32=>sd3 t x32 λt=>cNorm o c z t m n k)) o c z t m n k) [[],[],[],[],[],[],[],[],[],[],[],[],[],[],[]]) cNorm) cNorm) o c z t m n k) (λo c z t m n k=>fAV (d4 t) λx13=>p_add x13 i1 o λx14=>sd4 t x14 λt=>cNorm o c z t m n k)) o c z t m n k) cNorm) cNorm) o c z t m n k) false
noncomputable def F136 : HFunc:=.mk init1 (rTmp d1)
  (λo c z t m n k=>sd1 t i0 λt=>fAV (d0 t) λx3=>p_geq x3 (.one (.int .u64 (.ofNat 4294967296))) o λx4=>tIfN x4 (λo c z t m n k=>fAV (d0 t) λx5=>forceV x5 o λy0=>qOth o c z m n false (.shift false (.c y0) (.c (.one (.int .u64 (.ofNat 32))))) λx6 m n=>sd0 t x6 λt=>sd1 t i32 λt=>cNorm o c z t m n k) cNorm (λo c z t m n k=>fAV (d0 t) λx7=>p_geq x7 (.one (.int .u64 (.ofNat 65536))) o λx8=>tIfN x8 (λo c z t m n k=>fAV (d0 t) λx9=>forceV x9 o λy0=>qOth o c z m n false (.shift false (.c y0) (.c (.one (.int .u64 (.ofNat 16))))) λx10 m n=>sd0 t x10 λt=>fAV (d1 t) λx11=>p_add x11 i16 o λx12=>sd1 t x12 λt=>cNorm o c z t m n k) cNorm (λo c z t m n k=>fAV (d0 t) λx13=>p_geq x13 (.one (.int .u64 (.ofNat 256))) o λx14=>tIfN x14 (λo c z t m n k=>fAV (d0 t) λx15=>forceV x15 o λy0=>qOth o c z m n false (.shift false (.c y0) (.c (.one (.int .u64 (.ofNat 8))))) λx16 m n=>sd0 t x16 λt=>fAV (d1 t) λx17=>p_add x17 i8 o λx18=>sd1 t x18 λt=>cNorm o c z t m n k) cNorm (λo c z t m n k=>fAV (d1 t) λx19=>fAV (d0 t) λx20=>qOth o c z m n false (.conv .u8 (.c x20)) λx21 m n=>forceV x21 o λy0=>qOth o c z m n false (.idx (.c (.one (.str 256 496986003408712215933005303621146343841837811690876167382323004466384420695090407243345123874780946046625255262057845613767806773758184921447759720770971536008171983842311960805720366577116933250839345203839274948261284255908394484732272583221484877694546905335834403051067785895034095251181560891789708940188598129052595634438001880866652824740680664595948164050600812232986714152902334120417949232733424961741260388658846598210939813666227264727603044226856020347194099943897342244906131705541414413428559898943151040826816076322978570758226444464494629814583418847495712557856038296917933182380796641777551368))) (.c y0)) λx22 m n=>qOth o c z m n false (.conv .i64 (.c x22)) λx23 m n=>p_add x19 x23 o λx24=>sd1 t x24 λt=>cRet o c z t m n k) o c z t m n k) o c z t m n k) o c z t m n k) false
noncomputable def F137 : HFunc:=.mk init1 (λ_ _ _ k=>k (.tp []))
  (λo c z t m n k=>fAV (d0 t) λx2=>fAV (d0 t) λx3=>fAV (d0 t) λx4=>pNilc x2 λx5=>pFaddr 0 x5 λx6=>pFaddr 6 x6 λx7=>qStore1 x7 bF m λm=>pNilc x3 λx8=>pFaddr 0 x8 λx9=>pFaddr 11 x9 λx10=>sd1 t x10 λt=>sd2 t x4 λt=>qStore1 (d1 t) nS m λm=>pNilc (d2 t) λx11=>pFaddr 0 x11 λx12=>pFaddr 12 x12 λx13=>qStore1 x13 nS m λm=>fAV (d0 t) λx14=>fAV (d0 t) λx15=>pNilc x15 λx16=>pFaddr 0 x16 λx17=>pFaddr 1 x17 λx18=>pLoad1 x18 z m λx19=>forceV x19 o λy0=>forceV y0 o λy1=>qOth o c z m n false (.mkslice 1 8 [.int .i64 (.ofNat 0)] (.c y1) (.c y1)) λx20 m n=>pNilc x14 λx21=>pFaddr 0 x21 λx22=>pFaddr 10 x22 λx23=>sd3 t x23 λt=>sd4 t x20 λt=>qStore1 (d3 t) (d4 t) m λm=>cNorm o c z t m n k) false
noncomputable def F138 : HFunc:=.mk init2 (λ_ _ _ k=>k (.tp []))
  (λo c z t m n k=>qBox (d1 t) m n λx3 m n=>sd5 t x3 λt=>fAV (d0 t) λx5=>pNilc x5 λx6=>pFaddr 0 x6 λx7=>pFaddr 1 x7 λx8=>pLoad1 x8 z m λx9=>sd2 t i0 λt=>sd4 t x9 λt=>(cBlk 0 (cLoop (λo c z t m n k=>p_lss (d2 t) (d4 t) o λx11=>tTest x11 0 (cBlk 1 (λo c z t m n k=>fAV (d2 t) λx12=>sd3 t x12 λt=>fAV (d3 t) λx13=>fAV (d0 t) λx14=>pNilc x14 λx15=>pFaddr 0 x15 λx16=>pFaddr 0 x16 λx17=>pLoad1 x17 z m λx18=>p_neq x13 x18 o λx19=>tIf x19 (λo c z t m n k=>fAV (d0 t) λx20=>fAV (d3 t) λx21=>pLoadA 20 (d5 t) z m λx22=>c 69 [x20,x21,x22] z m n λx23 m n=>cNorm o c z t m n k) cNorm o c z t m n k) (λo c z t m n k=>p_add (d2 t) i1 o λx24=>sd2 t x24 λt=>cNorm o c z t m n k)) o c z t m n k) cNorm) cNorm) o c z t m n k) false
noncomputable def F139 : HFunc:=.mk init1 (λz t m k=>rCell (d1 t) true 20 z m (k))
  (λo c z t m n k=>qAlloc z4 m n λx2 m n=>sd1 t x2 λt=>fAV (d0 t) λx3=>pNilc x3 λx4=>pFaddr 0 x4 λx5=>pFaddr 2 x5 λx6=>pLoad1 x6 z m λx7=>qOth o c z m n false (.build z4 [(0,1,(.c i7)),(3,1,(.c x7))]) λx8 m n=>qStore 20 (d1 t) x8 m λm=>cRet o c z t m n k) false
noncomputable def F145 : HFunc:=.mk init2 (rTmp d5)
  (λo c z t m n k=>sd5 t i0 λt=>fAV (d0 t) λx6=>pLen x6 λx7=>sd2 t i0 λt=>sd4 t x7 λt=>(cBlk 0 (cLoop (λo c z t m n k=>p_lss (d2 t) (d4 t) o λx9=>tTest x9 0 (cBlk 1 (λo c z t m n k=>fAV (d2 t) λx10=>sd3 t x10 λt=>fAV (d1 t) λx11=>fAV (d0 t) λx12=>fAV (d3 t) λx13=>forceV x13 o λy=>pIaddr 3 x12 y λx14=>pLoadA 3 x14 z m λx15=>qOth o c z m n true (.call (.c x11) [(.c x15)]) λx16 m n=>tIf x16 (λo c z t m n k=>fAV (d3 t) λx17=>sd5 t x17 λt=>cRet o c z t m n k) cNorm o c z t m n k) (λo c z t m n k=>p_add (d2 t) i1 o λx18=>sd2 t x18 λt=>cNorm o c z t m n k)) o c z t m n k) cNorm) (λo c z t m n k=>sd5 t j0 λt=>cRet o c z t m n k)) o c z t m n k) false
noncomputable def FT : HTree:=(.node 61 F61 (.node 38 F38 (.node 24 F24 (.node 19 F19 (.node 11 F11 (.node 8 F8 .nil .nil) (.node 14 F14 .nil .nil)) (.node 21 F21 (.node 20 F20 .nil .nil) (.node 23 F23 .nil .nil))) (.node 33 F33 (.node 28 F28 (.node 26 F26 .nil .nil) (.node 30 F30 .nil .nil)) (.node 37 F37 (.node 34 F34 .nil .nil) .nil))) (.node 50 F50 (.node 47 F47 (.node 40 F40 (.node 39 F39 .nil .nil) (.node 41 F41 .nil .nil)) (.node 49 F49 (.node 48 F48 .nil .nil) .nil)) (.node 55 F55 (.node 53 F53 (.node 52 F52 .nil .nil) (.node 54 F54 .nil .nil)) (.node 60 F60 (.node 59 F59 .nil .nil) .nil)))) (.node 91 F91 (.node 74 F74 (.node 70 F70 (.node 68 F68 (.node 62 F62 .nil .nil) (.node 69 F69 .nil .nil)) (.node 73 F73 (.node 72 F72 .nil .nil) .nil)) (.node 79 F79 (.node 76 F76 (.node 75 F75 .nil .nil) (.node 78 F78 .nil .nil)) (.node 89 F89 (.node 86 F86 .nil .nil) .nil))) (.node 116 F116 (.node 103 F103 (.node 93 F93 (.node 92 F92 .nil .nil) (.node 95 F95 .nil .nil)) (.node 113 F113 (.node 111 F111 .nil .nil) .nil)) (.node 138 F138 (.node 136 F136 (.node 127 F127 .nil .nil) (.node 137 F137 .nil .nil)) (.node 145 F145 (.node 139 F139 .nil .nil) .nil)))))
end Go.Proofs.Ytnnjlnkoomeadaa.Ev
set_option maxRecDepth 1000000
namespace Go.Proofs.Ytnnjlnkoomeadaa.Ev
open Go.Ev
def ml : List Nat:=[16,41,59,63,64,65,66,67,69,82,91,93,94,96,100,106,108,109,117,127,128,129,130,131,132,133,134,137,138,142,147,151,154,155,157,159]
theorem k8 : HOk Try.prog 8 F8:=hok (m:=mutsOf ml false) (kept:=[1,59,4,3,28,8,9,20,5,29,30,6,60,0]) (gc:=false) (by kernel_rfl) Try.func8 (by kernel_rfl) (by kernel_rfl)
theorem k11 : HOk Try.prog 11 F11:=hok (m:=mutsOf ml false) (kept:=[0,1,2,5,3,51,30,7,20,58,6,4,37,21,31,39,41,61,60,9,8]) (gc:=false) (by kernel_rfl) Try.func11 (by kernel_rfl) (by kernel_rfl)
theorem k14 : HOk Try.prog 14 F14:=hok (m:=mutsOf ml false) (kept:=[0,1,11,2,21,3,14,24,23,4]) (gc:=false) (by kernel_rfl) Try.func14 (by kernel_rfl) (by kernel_rfl)
theorem k19 : HOk Try.prog 19 F19:=hok (m:=mutsOf ml false) (kept:=[0,1,4,13,14,15,5]) (gc:=false) (by kernel_rfl) Try.func19 (by kernel_rfl) (by kernel_rfl)
theorem k20 : HOk Try.prog 20 F20:=hok (m:=mutsOf ml false) (kept:=[0,1,2,3,6,22,10,9,5,21,38,7,8]) (gc:=false) (by kernel_rfl) Try.func20 (by kernel_rfl) (by kernel_rfl)
theorem k21 : HOk Try.prog 21 F21:=hok (m:=mutsOf ml false) (kept:=[0,1,4,5]) (gc:=false) (by kernel_rfl) Try.func21 (by kernel_rfl) (by kernel_rfl)
theorem k23 : HOk Try.prog 23 F23:=hok (m:=mutsOf ml false) (kept:=[0,2]) (gc:=false) (by kernel_rfl) Try.func23 (by kernel_rfl) (by kernel_rfl)
theorem k24 : HOk Try.prog 24 F24:=hok (m:=mutsOf ml false) (kept:=[0,1,7,98,169,125,36,5,158,112,136,24,95,3,14,17,27,37,87,90,101,111,110,135,134,144,149,159,176,179,2]) (gc:=false) (by kernel_rfl) Try.func24 (by kernel_rfl) (by kernel_rfl)
theorem k26 : HOk Try.prog 26 F26:=hok (m:=mutsOf ml false) (kept:=[0,1,4]) (gc:=false) (by kernel_rfl) Try.func26 (by kernel_rfl) (by kernel_rfl)
theorem k28 : HOk Try.prog 28 F28:=hok (m:=mutsOf ml false) (kept:=[0,1,2,7,13,10,12,11,8,9,54,6]) (gc:=false) (by kernel_rfl) Try.func28 (by kernel_rfl) (by kernel_rfl)
theorem k30 : HOk Try.prog 30 F30:=hok (m:=mutsOf ml false) (kept:=[49,4,1,3,27,37,2,29,39,6,56,59,69,0]) (gc:=false) (by kernel_rfl) Try.func30 (by kernel_rfl) (by kernel_rfl)
theorem k33 : HOk Try.prog 33 F33:=hok (m:=mutsOf ml false) (kept:=[0,1,3,2,13,32,14,24,34,53,4]) (gc:=false) (by kernel_rfl) Try.func33 (by kernel_rfl) (by kernel_rfl)
theorem k34 : HOk Try.prog 34 F34:=hok (m:=mutsOf ml false) (kept:=[0,1,5,4]) (gc:=false) (by kernel_rfl) Try.func34 (by kernel_rfl) (by kernel_rfl)
theorem k37 : HOk Try.prog 37 F37:=hok (m:=mutsOf ml false) (kept:=[0,1,2]) (gc:=false) (by kernel_rfl) Try.func37 (by kernel_rfl) (by kernel_rfl)
theorem k38 : HOk Try.prog 38 F38:=hok (m:=mutsOf ml false) (kept:=[0,1,5,80,9,64,90,114,127,26,33,8,100,96,110,124,4,3,25,24,7,56,10,66,11,81,91,101,115,130,140,2]) (gc:=false) (by kernel_rfl) Try.func38 (by kernel_rfl) (by kernel_rfl)
theorem k39 : HOk Try.prog 39 F39:=hok (m:=mutsOf ml false) (kept:=[0,1,2]) (gc:=false) (by kernel_rfl) Try.func39 (by kernel_rfl) (by kernel_rfl)
theorem k40 : HOk Try.prog 40 F40:=hok (m:=mutsOf ml false) (kept:=[0,1,7,35,9,6,8,42,39,40,48,50,31,4,5]) (gc:=false) (by kernel_rfl) Try.func40 (by kernel_rfl) (by kernel_rfl)
theorem k41 : HOk Try.prog 41 F41:=hok (m:=mutsOf ml false) (kept:=[0,1,2,7,8,6]) (gc:=false) (by kernel_rfl) Try.func41 (by kernel_rfl) (by kernel_rfl)
theorem k47 : HOk Try.prog 47 F47:=hok (m:=mutsOf ml false) (kept:=[0,12,2]) (gc:=false) (by kernel_rfl) Try.func47 (by kernel_rfl) (by kernel_rfl)
theorem k48 : HOk Try.prog 48 F48:=hok (m:=mutsOf ml false) (kept:=[0,1,2]) (gc:=false) (by kernel_rfl) Try.func48 (by kernel_rfl) (by kernel_rfl)
theorem k49 : HOk Try.prog 49 F49:=hok (m:=mutsOf ml false) (kept:=[0,1,2]) (gc:=false) (by kernel_rfl) Try.func49 (by kernel_rfl) (by kernel_rfl)
theorem k50 : HOk Try.prog 50 F50:=hok (m:=mutsOf ml false) (kept:=[0,1,11,14,24,4]) (gc:=false) (by kernel_rfl) Try.func50 (by kernel_rfl) (by kernel_rfl)
theorem k52 : HOk Try.prog 52 F52:=hok (m:=mutsOf ml false) (kept:=[0,2]) (gc:=false) (by kernel_rfl) Try.func52 (by kernel_rfl) (by kernel_rfl)
theorem k53 : HOk Try.prog 53 F53:=hok (m:=mutsOf ml false) (kept:=[0,1,13,23,38,19,14,24,37,36,4,2]) (gc:=false) (by kernel_rfl) Try.func53 (by kernel_rfl) (by kernel_rfl)
theorem k54 : HOk Try.prog 54 F54:=hok (m:=mutsOf ml false) (kept:=[0,1,4]) (gc:=false) (by kernel_rfl) Try.func54 (by kernel_rfl) (by kernel_rfl)
theorem k55 : HOk Try.prog 55 F55:=hok (m:=mutsOf ml false) (kept:=[0,2]) (gc:=false) (by kernel_rfl) Try.func55 (by kernel_rfl) (by kernel_rfl)
theorem k59 : HOk Try.prog 59 F59:=hok (m:=mutsOf ml false) (kept:=[0,2]) (gc:=false) (by kernel_rfl) Try.func59 (by kernel_rfl) (by kernel_rfl)
theorem k60 : HOk Try.prog 60 F60:=hok (m:=mutsOf ml false) (kept:=[0,4,1,2,14,16,3]) (gc:=false) (by kernel_rfl) Try.func60 (by kernel_rfl) (by kernel_rfl)
end Go.Proofs.Ytnnjlnkoomeadaa.Ev
set_option maxRecDepth 1000000
namespace Go.Proofs.Ytnnjlnkoomeadaa.Ev
open Go.Ev
theorem k61 : HOk Try.prog 61 F61:=hok (m:=mutsOf ml false) (kept:=[0,1,23,3,2,22]) (gc:=false) (by kernel_rfl) Try.func61 (by kernel_rfl) (by kernel_rfl)
theorem k62 : HOk Try.prog 62 F62:=hok (m:=mutsOf ml false) (kept:=[0,1,2]) (gc:=false) (by kernel_rfl) Try.func62 (by kernel_rfl) (by kernel_rfl)
theorem k68 : HOk Try.prog 68 F68:=hok (m:=mutsOf ml false) (kept:=[0,12,2]) (gc:=false) (by kernel_rfl) Try.func68 (by kernel_rfl) (by kernel_rfl)
theorem k69 : HOk Try.prog 69 F69:=hok (m:=mutsOf ml false) (kept:=[0,1,2,5]) (gc:=false) (by kernel_rfl) Try.func69 (by kernel_rfl) (by kernel_rfl)
theorem k70 : HOk Try.prog 70 F70:=hok (m:=mutsOf ml false) (kept:=[0,1,4,3,5]) (gc:=false) (by kernel_rfl) Try.func70 (by kernel_rfl) (by kernel_rfl)
theorem k72 : HOk Try.prog 72 F72:=hok (m:=mutsOf ml false) (kept:=[0,2]) (gc:=false) (by kernel_rfl) Try.func72 (by kernel_rfl) (by kernel_rfl)
theorem k73 : HOk Try.prog 73 F73:=hok (m:=mutsOf ml false) (kept:=[0,4,5,6,7,8,9,10,11,12,13,14,2,3]) (gc:=false) (by kernel_rfl) Try.func73 (by kernel_rfl) (by kernel_rfl)
theorem k74 : HOk Try.prog 74 F74:=hok (m:=mutsOf ml false) (kept:=[0,8,21,9,12,3,4,24,22,2]) (gc:=false) (by kernel_rfl) Try.func74 (by kernel_rfl) (by kernel_rfl)
theorem k75 : HOk Try.prog 75 F75:=hok (m:=mutsOf ml false) (kept:=[0,1,5,4]) (gc:=false) (by kernel_rfl) Try.func75 (by kernel_rfl) (by kernel_rfl)
theorem k76 : HOk Try.prog 76 F76:=hok (m:=mutsOf ml false) (kept:=[0,1,29,26,4,5]) (gc:=false) (by kernel_rfl) Try.func76 (by kernel_rfl) (by kernel_rfl)
theorem k78 : HOk Try.prog 78 F78:=hok (m:=mutsOf ml false) (kept:=[0,2]) (gc:=false) (by kernel_rfl) Try.func78 (by kernel_rfl) (by kernel_rfl)
theorem k79 : HOk Try.prog 79 F79:=hok (m:=mutsOf ml false) (kept:=[0,1,12,13,14,4]) (gc:=false) (by kernel_rfl) Try.func79 (by kernel_rfl) (by kernel_rfl)
theorem k86 : HOk Try.prog 86 F86:=hok (m:=mutsOf ml false) (kept:=[0,1,14,3,2,13,12,5]) (gc:=false) (by kernel_rfl) Try.func86 (by kernel_rfl) (by kernel_rfl)
theorem k89 : HOk Try.prog 89 F89:=hok (m:=mutsOf ml false) (kept:=[0,1,8,5,7,4]) (gc:=false) (by kernel_rfl) Try.func89 (by kernel_rfl) (by kernel_rfl)
theorem k91 : HOk Try.prog 91 F91:=hok (m:=mutsOf ml false) (kept:=[0,1,2,3,14,11,10,8,12,16,17,18,9,13,15]) (gc:=false) (by kernel_rfl) Try.func91 (by kernel_rfl) (by kernel_rfl)
theorem k92 : HOk Try.prog 92 F92:=hok (m:=mutsOf ml false) (kept:=[0,2]) (gc:=false) (by kernel_rfl) Try.func92 (by kernel_rfl) (by kernel_rfl)
theorem k93 : HOk Try.prog 93 F93:=hok (m:=mutsOf ml false) (kept:=[0,1,12]) (gc:=false) (by kernel_rfl) Try.func93 (by kernel_rfl) (by kernel_rfl)
theorem k95 : HOk Try.prog 95 F95:=hok (m:=mutsOf ml false) (kept:=[0,2]) (gc:=false) (by kernel_rfl) Try.func95 (by kernel_rfl) (by kernel_rfl)
theorem k103 : HOk Try.prog 103 F103:=hok (m:=mutsOf ml false) (kept:=[0,2]) (gc:=false) (by kernel_rfl) Try.func103 (by kernel_rfl) (by kernel_rfl)
theorem k111 : HOk Try.prog 111 F111:=hok (m:=mutsOf ml false) (kept:=[0,2]) (gc:=false) (by kernel_rfl) Try.func111 (by kernel_rfl) (by kernel_rfl)
theorem k113 : HOk Try.prog 113 F113:=hok (m:=mutsOf ml false) (kept:=[0,1,4]) (gc:=false) (by kernel_rfl) Try.func113 (by kernel_rfl) (by kernel_rfl)
theorem k116 : HOk Try.prog 116 F116:=hok (m:=mutsOf ml false) (kept:=[0,2]) (gc:=false) (by kernel_rfl) Try.func116 (by kernel_rfl) (by kernel_rfl)
theorem k127 : HOk Try.prog 127 F127:=hok (m:=mutsOf ml false) (kept:=[0,1,2,7,6]) (gc:=false) (by kernel_rfl) Try.func127 (by kernel_rfl) (by kernel_rfl)
theorem k136 : HOk Try.prog 136 F136:=hok (m:=mutsOf ml false) (kept:=[0,2]) (gc:=false) (by kernel_rfl) Try.func136 (by kernel_rfl) (by kernel_rfl)
theorem k137 : HOk Try.prog 137 F137:=hok (m:=mutsOf ml false) (kept:=[0,10,4,23,20]) (gc:=false) (by kernel_rfl) Try.func137 (by kernel_rfl) (by kernel_rfl)
theorem k138 : HOk Try.prog 138 F138:=hok (m:=mutsOf ml false) (kept:=[0,1,10,4,9,3]) (gc:=false) (by kernel_rfl) Try.func138 (by kernel_rfl) (by kernel_rfl)
theorem k139 : HOk Try.prog 139 F139:=hok (m:=mutsOf ml false) (kept:=[0,2]) (gc:=false) (by kernel_rfl) Try.func139 (by kernel_rfl) (by kernel_rfl)
theorem k145 : HOk Try.prog 145 F145:=hok (m:=mutsOf ml false) (kept:=[0,1,8,5,7,4]) (gc:=false) (by kernel_rfl) Try.func145 (by kernel_rfl) (by kernel_rfl)
theorem ftOk : FT.Ok Try.prog:=⟨k61,⟨k38,⟨k24,⟨k19,⟨k11,⟨k8,trivial,trivial⟩,⟨k14,trivial,trivial⟩⟩,⟨k21,⟨k20,trivial,trivial⟩,⟨k23,trivial,trivial⟩⟩⟩,⟨k33,⟨k28,⟨k26,trivial,trivial⟩,⟨k30,trivial,trivial⟩⟩,⟨k37,⟨k34,trivial,trivial⟩,trivial⟩⟩⟩,⟨k50,⟨k47,⟨k40,⟨k39,trivial,trivial⟩,⟨k41,trivial,trivial⟩⟩,⟨k49,⟨k48,trivial,trivial⟩,trivial⟩⟩,⟨k55,⟨k53,⟨k52,trivial,trivial⟩,⟨k54,trivial,trivial⟩⟩,⟨k60,⟨k59,trivial,trivial⟩,trivial⟩⟩⟩⟩,⟨k91,⟨k74,⟨k70,⟨k68,⟨k62,trivial,trivial⟩,⟨k69,trivial,trivial⟩⟩,⟨k73,⟨k72,trivial,trivial⟩,trivial⟩⟩,⟨k79,⟨k76,⟨k75,trivial,trivial⟩,⟨k78,trivial,trivial⟩⟩,⟨k89,⟨k86,trivial,trivial⟩,trivial⟩⟩⟩,⟨k116,⟨k103,⟨k93,⟨k92,trivial,trivial⟩,⟨k95,trivial,trivial⟩⟩,⟨k113,⟨k111,trivial,trivial⟩,trivial⟩⟩,⟨k138,⟨k136,⟨k127,trivial,trivial⟩,⟨k137,trivial,trivial⟩⟩,⟨k145,⟨k139,trivial,trivial⟩,trivial⟩⟩⟩⟩⟩
end Go.Proofs.Ytnnjlnkoomeadaa.Ev
namespace Go.Ev
theorem pcNil {m : Nat → Nat} : PcOk m []:=λj p h=>by simp at h
end Go.Ev
set_option maxRecDepth 1000000
namespace Go.Proofs.Ytnnjlnkoomeadaa.Ev
open Go.Ev
theorem mixed : Try.prog.follows .mixedOrders = true:=by kernel_rfl
noncomputable def K0 (_ : Nat) : Option (Contract RR):=none
theorem awake17Runs : hcall (noOrc zz) K0 FT.find 60 30 [] (λ_=>none) [] 0 isR [] = true:=by kernel_rfl
theorem awake17 : SaysTrue Try.prog 30:=λw=>lawH (T:=TT λ_=>0) (val:=λ_=>0) zz_not isR_elim (noOrc_ok zz_not _) mixed (λf c h=>by cases h) ftOk ⟨[],pcNil,awake17Runs⟩ w [] trivial
end Go.Proofs.Ytnnjlnkoomeadaa.Ev
namespace Go.Ev
theorem nr {α : Sort _} {a b : α} (h : a = b) : a = b:=h
abbrev v0 : Nat → Int:=λ_=>0
def CallS (P : Program) (f : Nat) (args : List AV) (fz : Fz) (mu : St) (n : Nat) (v : AV) (mu' : St) (n' : Nat) : Prop :=
  hasBody P f = true ∧ n ≤ n' ∧ ∀ ρ w (xs : List Value),Rel v0 ρ fz mu w → All2 (AVR v0 ρ w) args xs → FreshN ρ n n' →
    Calls P f xs.toArray w λe w'=>∃ x,e = .returned x ∧ Post v0 ρ fz mu n w v mu' n' x w'
def CP (P : Program) : CallT Prop:=λf args fz mu n k=>∃ v mu' n',k v mu' n' ∧ CallS P f args fz mu n v mu' n'
theorem CP_sound {P : Program} : CallSound (λp : Prop=>p) P v0 (CP P):=λ_ _ _ _ _ _ ⟨v,mu',n',h,h1,h2,h3⟩=>⟨v,mu',n',h,h1,h2,h3⟩
theorem CP.mono {P : Program} {f : Nat} {args : List AV} {fz : Fz} {mu : St} {n : Nat} {k k' : KT Prop} (h : CP P f args fz mu n k) (hk : ∀ v mu' n',n ≤ n' → k v mu' n' → k' v mu' n') : CP P f args fz mu n k' :=
  let ⟨v,mu',n',h1,h2⟩:=h; ⟨v,mu',n',hk v mu' n' h2.2.1 h1,h2⟩
def pOrc : Orc Prop:=⟨λ_ _ _ _ _=>False,λ_ _ _ _ _=>False,λ_ _ _=>False,λ_ _=>False,false⟩
theorem pOrc_ok : OrcOk (λp : Prop=>p) v0 pOrc:=⟨λ_ _ _ _ _ h=>h.elim,λ_ _ _ _ _ h=>h.elim,λ_ _ _ h=>h.elim,λ_ _ h=>h.elim⟩
noncomputable def endP (fz : Fz) (res : List ARes) (k : KT Prop) : AExit → TM → St → Nat → Prop:=λe tm mu n =>
  AExit.rec (motive:=λ_=>Prop) (resK False fz res tm mu λv=>k v mu n) (λ_=>False) (resK False fz res tm mu λv=>k v mu n) e
def rowE (nt : Nat) (e : Nat → Nat → AV) (q : Nat) : List AV:=(List.range (min 16 (nt - 16 * q))).map (e q)
def tmE (nt : Nat) (e : Nat → Nat → AV) : TM:=(List.range ((nt + 15) / 16)).map (rowE nt e)
def updE (e : Nat → Nat → AV) (q r : Nat) (v : AV) : Nat → Nat → AV:=λq' r'=>if q' = q ∧ r' = r then v else e q' r'
def envI (args : List AV) : Nat → Nat → AV:=λq r=>(args[16 * q + r]?).getD noVal
theorem rowE_get {nt : Nat} {e : Nat → Nat → AV} {q r : Nat} : (rowE nt e q)[r]? = if r < 16 ∧ 16 * q + r < nt then some (e q r) else none:=by
  unfold rowE
  rw [List.getElem?_map]
  by_cases h : r < 16 ∧ 16 * q + r < nt
  · rw [List.getElem?_range (by omega),if_pos h]; rfl
  · rw [List.getElem?_eq_none (by simp; omega),if_neg h]; rfl
theorem tmE_get {nt : Nat} {e : Nat → Nat → AV} {q : Nat} : (tmE nt e)[q]? = if 16 * q < nt then some (rowE nt e q) else none:=by
  unfold tmE
  rw [List.getElem?_map]
  by_cases h : 16 * q < nt
  · rw [List.getElem?_range (by omega),if_pos h]; rfl
  · rw [List.getElem?_eq_none (by simp; omega),if_neg h]; rfl
theorem get_tmE {nt : Nat} {e : Nat → Nat → AV} {q r : Nat} (h1 : r < 16) (h2 : 16 * q + r < nt) : get (tmE nt e) q r = e q r:=by
  unfold get
  rw [nth_eq,nth_eq,tmE_get,if_pos (by omega),Option.getD_some,rowE_get,if_pos ⟨h1,h2⟩]; rfl
theorem set_tmE {nt : Nat} {e : Nat → Nat → AV} {q r : Nat} {v : AV} (h1 : r < 16) (h2 : 16 * q + r < nt) : setT (tmE nt e) q r v = tmE nt (updE e q r v):=by
  unfold setT
  apply List.ext_getElem?
  intro q'
  rw [List.getElem?_set,nth_eq,tmE_get,tmE_get,tmE_get]
  have hl : (tmE nt e).length = (nt + 15) / 16:=by simp [tmE]
  by_cases hq : q = q'
  · subst hq
    rw [if_pos rfl,if_pos (by omega),if_pos (by omega),if_pos (by omega)]
    congr 1
    rw [Option.getD_some]
    apply List.ext_getElem?
    intro r'
    rw [List.getElem?_set,rowE_get,rowE_get]
    have hrl : (rowE nt e q).length = min 16 (nt - 16 * q):=by simp [rowE]
    by_cases hr : r = r'
    · subst hr
      rw [if_pos rfl,if_pos (by omega),if_pos ⟨h1,h2⟩]
      simp [updE]
    · rw [if_neg hr]
      have : updE e q r v q r' = e q r':=by simp [updE]; intro h; exact (hr h.symm).elim
      rw [this]
  · rw [if_neg hq]
    by_cases h : 16 * q' < nt
    · rw [if_pos h,if_pos h]
      congr 1
      unfold rowE
      congr 1
      funext r'
      simp [updE]; intro h; exact (hq h.symm).elim
    · rw [if_neg h,if_neg h]
def updN (nt : Nat) (e : Nat → Nat → AV) (q r : Nat) (v : AV) : Nat → Nat → AV:=if r < 16 ∧ 16 * q + r < nt then updE e q r v else e
theorem tmE_none {nt : Nat} {e : Nat → Nat → AV} {q r : Nat} {v : AV} (h : ¬ (r < 16 ∧ 16 * q + r < nt)) : setT (tmE nt e) q r v = tmE nt e:=by
  unfold setT
  apply List.ext_getElem?
  intro q'
  rw [List.getElem?_set,nth_eq,tmE_get,tmE_get]
  have hl : (tmE nt e).length = (nt + 15) / 16:=by simp [tmE]
  by_cases hq : q = q'
  · subst hq
    rw [if_pos rfl]
    by_cases hb : 16 * q < nt
    · rw [if_pos (by omega),if_pos hb,Option.getD_some]
      congr 1
      have hrl : (rowE nt e q).length = min 16 (nt - 16 * q):=by simp [rowE]
      apply List.ext_getElem?
      intro r'
      rw [List.getElem?_set]
      by_cases hr : r = r'
      · subst hr
        rw [if_pos rfl,if_neg (by omega),List.getElem?_eq_none (by omega)]
      · rw [if_neg hr]
    · rw [if_neg (by omega),if_neg hb]
  · rw [if_neg hq]
theorem set_N {nt : Nat} {e : Nat → Nat → AV} {q r : Nat} {v : AV} : setT (tmE nt e) q r v = tmE nt (updN nt e q r v):=by
  unfold updN
  split
  · rename_i h; exact set_tmE h.1 h.2
  · rename_i h; exact tmE_none h
theorem tmE_out {nt : Nat} {e : Nat → Nat → AV} {q r : Nat} (h : inR (tmE nt e) q r) : 16 * q + r < nt:=by
  obtain ⟨row,h1,h2⟩:=h
  rw [tmE_get] at h1
  split at h1
  · cases h1
    simp [rowE] at h2
    omega
  · cases h1
theorem envI_TmR {nt : Nat} {args : List AV} {ρ : Rho} {w : World} {xs : List Value} (hx : All2 (AVR v0 ρ w) args xs) : TmR v0 ρ w (tmE nt (envI args)) { tmps:=xs.toArray ++ Array.replicate (nt - xs.toArray.size) undef,defers:=[] }:=by
  refine ⟨λt ht=>?_,λt=>?_⟩
  · have:=tmE_out ht
    simp; omega
  · by_cases ht : t < nt
    · rw [get_tmE (by omega) (by omega)]
      unfold envI
      rw [show 16 * (t / 16) + t % 16 = t by omega]
      by_cases h1 : t < args.length
      · obtain ⟨b,h2,h3⟩:=hx.get (List.getElem?_eq_getElem h1)
        have h4 : t < xs.length:=by rw [← hx.length]; exact h1
        rw [List.getElem?_eq_getElem h1,Option.getD_some,Array.getD_eq_getD_getElem?,Array.getElem?_append_left (by simpa using h4)]
        simp only [List.getElem?_toArray,h2,Option.getD_some]
        exact h3
      · have h4 : ¬ t < xs.length:=by rw [← hx.length]; exact h1
        rw [List.getElem?_eq_none (by omega),Array.getD_eq_getD_getElem?,Array.getElem?_append_right (by simpa using h4),Array.getElem?_replicate]
        split <;> exact ⟨[],rfl,trivial⟩
    · have : get (tmE nt (envI args)) (t / 16) (t % 16) = .one .un := by
        unfold get
        rw [nth_eq,nth_eq,tmE_get]
        split
        · rw [Option.getD_some,rowE_get,if_neg (by omega)]; rfl
        · rfl
      rw [this]; trivial
noncomputable def textP (P : Program) (fuel : Nat) (af : AFunc) (args : List AV) (fz : Fz) (mu : St) (n : Nat) (k : KT Prop) : Prop :=
  dcode pOrc False (CP P) fz fuel af.body (tmE af.ntmps (envI args)) mu n (endP fz af.res k)
theorem CP_of {P : Program} {f : Nat} {af : AFunc} {args : List AV} {fz : Fz} {mu : St} {n : Nat} {k : KT Prop} (hf : FOk P f af) (hmx : P.follows .mixedOrders = true) (fuel : Nat)
    (h : textP P fuel af args fz mu n k) : CP P f args fz mu n k:=by
  have hz : ¬ (λp : Prop=>p) False:=λh=>h
  obtain ⟨hb,fn,m,hfn,hp⟩:=hf
  unfold prepFunc at hp
  cases hbody : fn.body with
  | none=>rw [hbody] at hp; cases hp
  | some c =>
    rw [hbody] at hp
    simp only at hp
    split at hp
    · rename_i b r hpc hpr
      cases hp
      have h1:=h
      have h2:=λρ w (xs : List Value) (hx : All2 (AVR v0 ρ w) args xs)=>envI_TmR (nt:=fn.ntmps) hx
      obtain ⟨e,tm',mu',n',h3,h4⟩:=dcode_sound (P:=P) (val:=v0) (T:=λp : Prop=>p) hz CP_sound pOrc_ok hmx c hpc h1
      have h5 : resK False fz r tm' mu' (λv=>k v mu' n') ∧ (e = .normal ∨ e = .ret):=by
        cases e with
        | normal=>exact ⟨h3,.inl rfl⟩
        | ret=>exact ⟨h3,.inr rfl⟩
        | exit id=>exact (h3 : False).elim
      obtain ⟨h6,h7⟩:=h5
      obtain ⟨v,h8,h9⟩:=resK_sound (P:=P) (val:=v0) (T:=λp : Prop=>p) hz hpr h6
      refine ⟨v,mu',n',h8,hb,h4.1,λρ w xs hr hx hf=>?_⟩
      refine calls_of_wp hfn hbody (h4.2 ρ w _ hr (h2 ρ w xs hx) hf _ λa' w' hp=>?_)
      obtain ⟨d,ρ',p1,p2,p3,p4,p5,p6⟩:=hp
      obtain ⟨x,g1,g2⟩:=h9 ρ' w' a' p2 p3
      have : a'.defers = [] ∧ ∃ v_1,(results fn a'.tmps).run P w' = .ok v_1 w' ∧ ∃ x,Ending.returned v_1 = .returned x ∧ Post v0 ρ fz mu n w v mu' n' x w' :=
        ⟨d,x,g1,x,rfl,ρ',p1,p2,g2,p4,p5,p6⟩
      rcases h7 with rfl | rfl
      · exact this
      · exact this
    · cases hp
section
variable {fz : Fz} {mu : St} {n : Nat} {fu : Nat} {k : AExit → TM → St → Nat → Prop} {P : Program} {nt : Nat} {en : Nat → Nat → AV}
inductive W2 (a b : Prop) : Type where | mk
inductive WK (k : KT Prop) : Type where | mk
inductive WL (D : TM → St → Nat → (AExit → TM → St → Nat → Prop) → Prop) (k : AExit → TM → St → Nat → Prop) : Type where | mk
def Br (t : Bool) (a b : Prop) (_ : W2 a b) : Prop:=cond t a b
theorem Br_true {a b : Prop} {w : W2 a b} : Br true a b w = a:=nr rfl
theorem Br_false {a b : Prop} {w : W2 a b} : Br false a b w = b:=nr rfl
theorem beq_t {b : Bool} : (b == true) = b:=by cases b <;> rfl
theorem beq_f {b : Bool} : (b == false) = !b:=by cases b <;> rfl
theorem Br_not {t : Bool} {a b : Prop} {w : W2 a b} : Br (!t) a b w = Br t b a .mk:=by cases t <;> rfl
theorem Br_intro {t : Bool} {a b : Prop} {w : W2 a b} (h1 : t = true → a) (h2 : t = false → b) : Br t a b w:=by cases t; exact h2 rfl; exact h1 rfl
def CPh (P : Program) (f : Nat) (args : List AV) (fz : Fz) (mu : St) (n : Nat) (k : KT Prop) (_ : WK k) : Prop:=CP P f args fz mu n k
def CPr (P : Program) (f : Nat) (args : List AV) (fz : Fz) (mu : St) (n : Nat) (k : KT Prop) (_ : WK k) : Prop:=CP P f args (with' mu fz) [] n λv new n'=>k v (new ++ mu) n'
def Lp (D : TM → St → Nat → (AExit → TM → St → Nat → Prop) → Prop) (fu : Nat) (tm : TM) (mu : St) (n : Nat) (k : AExit → TM → St → Nat → Prop) (_ : WL D k) : Prop:=loopD False D fu tm mu n k
theorem Lp_step {D : TM → St → Nat → (AExit → TM → St → Nat → Prop) → Prop} {fu : Nat} {tm : TM} {k : AExit → TM → St → Nat → Prop} {w : WL D k} : Lp D (fu + 1) tm mu n k w = D tm mu n (onw (λtm mu n=>Lp D fu tm mu n k .mk) k):=nr rfl
def onSome {α : Type} (o : Option α) (k : α → Prop) : Prop:=Option.rec (motive:=λ_=>Prop) False k o
@[congr] theorem onSome_congr {α : Type} {o o' : Option α} {k : α → Prop} (h : o = o') : onSome o k = onSome o' k:=by rw [h]
theorem onSome_some {α : Type} {a : α} {k : α → Prop} : onSome (some a) k = k a:=nr rfl
def Need (c : Prop) (p : Prop) : Prop:=c ∧ p
theorem Need_true {p : Prop} : Need True p = p:=by simp [Need]
@[congr] theorem onOne_congr {v v' : AV} {z : Prop} {k : SV → Prop} (h : v = v') : v.onOne z k = v'.onOne z k:=by rw [h]
@[congr] theorem onAg_congr {v v' : AV} {z : Prop} {k : List SV → Prop} (h : v = v') : v.onAg z k = v'.onAg z k:=by rw [h]
@[congr] theorem onTp_congr {v v' : AV} {z : Prop} {k : List CV → Prop} (h : v = v') : v.onTp z k = v'.onTp z k:=by rw [h]
@[congr] theorem onCells_congr {v v' : AV} {z : Prop} {k : List SV → Prop} (h : v = v') : v.onCells z k = v'.onCells z k:=by rw [h]
@[congr] theorem onInt_congr {v v' : SV} {z : Prop} {k : IntKind → Int → Prop} (h : v = v') : v.onInt z k = v'.onInt z k:=by rw [h]
@[congr] theorem onBool_congr {v v' : SV} {z : Prop} {k : Bool → Prop} (h : v = v') : v.onBool z k = v'.onBool z k:=by rw [h]
@[congr] theorem onStr_congr {v v' : SV} {z : Prop} {k : Nat → Nat → Prop} (h : v = v') : v.onStr z k = v'.onStr z k:=by rw [h]
@[congr] theorem onPtr_congr {v v' : SV} {z : Prop} {k : Nat → Nat → Prop} (h : v = v') : v.onPtr z k = v'.onPtr z k:=by rw [h]
@[congr] theorem onSl_congr {v v' : SV} {z : Prop} {k : Nat → Nat → Nat → Nat → Nat → Prop} (h : v = v') : v.onSl z k = v'.onSl z k:=by rw [h]
@[congr] theorem onFn_congr {v v' : SV} {z : Prop} {k : Nat → List (Nat × Nat) → Prop} (h : v = v') : v.onFn z k = v'.onFn z k:=by rw [h]
theorem onOne_p {s : SV} {z : Prop} {k : SV → Prop} : (AV.one s).onOne z k = k s:=nr rfl
theorem onAg_p {s : List SV} {z : Prop} {k : List SV → Prop} : (AV.ag s).onAg z k = k s:=nr rfl
theorem onTp_p {s : List CV} {z : Prop} {k : List CV → Prop} : (AV.tp s).onTp z k = k s:=nr rfl
theorem onCells_one {s : SV} {z : Prop} {k : List SV → Prop} : (AV.one s).onCells z k = k [s]:=nr rfl
theorem onCells_ag {s : List SV} {z : Prop} {k : List SV → Prop} : (AV.ag s).onCells z k = k s:=nr rfl
theorem onInt_p {kd : IntKind} {i : Int} {z : Prop} {k : IntKind → Int → Prop} : (SV.int kd i).onInt z k = k kd i:=nr rfl
theorem onBool_p {b : Bool} {z : Prop} {k : Bool → Prop} : (SV.bool b).onBool z k = k b:=nr rfl
theorem onStr_p {l m : Nat} {z : Prop} {k : Nat → Nat → Prop} : (SV.str l m).onStr z k = k l m:=nr rfl
theorem onPtr_p {a b : Nat} {z : Prop} {k : Nat → Nat → Prop} : (SV.optr a b).onPtr z k = k a b:=nr rfl
theorem onSl_p {a b c d e : Nat} {z : Prop} {k : Nat → Nat → Nat → Nat → Nat → Prop} : (SV.osl a b c d e).onSl z k = k a b c d e:=nr rfl
theorem onFn_p {f : Nat} {c : List (Nat × Nat)} {z : Prop} {k : Nat → List (Nat × Nat) → Prop} : (SV.fn f c).onFn z k = k f c:=nr rfl
theorem dc_skip : dcode pOrc False (CP P) fz fu .skip (tmE nt en) mu n k = k .normal (tmE nt en) mu n:=nr rfl
theorem dc_reg {ops : List AOper} : dcode pOrc False (CP P) fz fu (.reg ops) (tmE nt en) mu n k = runK pOrc False (CP P) fz ops (tmE nt en) mu n (λtm mu n=>k .normal tm mu n):=nr rfl
theorem dc_draw {ops : List AOper} : dcode pOrc False (CP P) fz fu (.draw ops) (tmE nt en) mu n k = drawK pOrc False (CP P) fz ops (tmE nt en) mu n (λtm mu n=>k .normal tm mu n):=nr rfl
theorem dc_seq {a b : ACode} : dcode pOrc False (CP P) fz fu (.seq a b) (tmE nt en) mu n k = dcode pOrc False (CP P) fz fu a (tmE nt en) mu n (onw (λtm mu n=>dcode pOrc False (CP P) fz fu b tm mu n k) k):=nr rfl
theorem dc_cond {x : Od} {a b : ACode} : dcode pOrc False (CP P) fz fu (.cond x a b) (tmE nt en) mu n k = (ev (tmE nt en) x).onOne False λs=>s.onBool False λt=>Br t (dcode pOrc False (CP P) fz fu a (tmE nt en) mu n k) (dcode pOrc False (CP P) fz fu b (tmE nt en) mu n k) .mk:=nr rfl
theorem dc_blk {id : Nat} {a : ACode} : dcode pOrc False (CP P) fz fu (.blk id a) (tmE nt en) mu n k = dcode pOrc False (CP P) fz fu a (tmE nt en) mu n (inB id k):=nr rfl
theorem dc_loop {a : ACode} : dcode pOrc False (CP P) fz fu (.loop a) (tmE nt en) mu n k = Lp (dcode pOrc False (CP P) fz fu a) fu (tmE nt en) mu n k .mk:=nr rfl
theorem dc_exit {id : Nat} : dcode pOrc False (CP P) fz fu (.exit id) (tmE nt en) mu n k = k (.exit id) (tmE nt en) mu n:=nr rfl
theorem dc_ret : dcode pOrc False (CP P) fz fu .ret (tmE nt en) mu n k = k .ret (tmE nt en) mu n:=nr rfl
theorem onw_n {next : TM → St → Nat → Prop} : onw next k .normal (tmE nt en) mu n = next (tmE nt en) mu n:=nr rfl
theorem onw_x {next : TM → St → Nat → Prop} {id : Nat} : onw next k (.exit id) (tmE nt en) mu n = k (.exit id) (tmE nt en) mu n:=nr rfl
theorem onw_r {next : TM → St → Nat → Prop} : onw next k .ret (tmE nt en) mu n = k .ret (tmE nt en) mu n:=nr rfl
theorem inB_n {id : Nat} : inB id k .normal (tmE nt en) mu n = k .normal (tmE nt en) mu n:=nr rfl
theorem inB_same {id : Nat} : inB id k (.exit id) (tmE nt en) mu n = k .normal (tmE nt en) mu n:=by
  show cond (Nat.beq id id) _ _ = _
  rw [show Nat.beq id id = true by simp]; rfl
theorem inB_x {id id' : Nat} (h : ¬ id' = id) : inB id k (.exit id') (tmE nt en) mu n = k (.exit id') (tmE nt en) mu n:=by
  show cond (Nat.beq id' id) _ _ = _
  rw [beq_no h]; rfl
theorem inB_r {id : Nat} : inB id k .ret (tmE nt en) mu n = k .ret (tmE nt en) mu n:=nr rfl
theorem endP_n {res : List ARes} {k : KT Prop} : endP fz res k .normal (tmE nt en) mu n = resK False fz res (tmE nt en) mu (λv=>k v mu n):=nr rfl
theorem endP_r {res : List ARes} {k : KT Prop} : endP fz res k .ret (tmE nt en) mu n = resK False fz res (tmE nt en) mu (λv=>k v mu n):=nr rfl
theorem run_nil {k : TM → St → Nat → Prop} : runK pOrc False (CP P) fz [] (tmE nt en) mu n k = k (tmE nt en) mu n:=nr rfl
theorem run_c0 {d : Option (Nat × Nat)} {op : AOp} {anc : List Nat} {ops : List AOper} {k : TM → St → Nat → Prop} : runK pOrc False (CP P) fz (⟨d,op,none,0,anc⟩ :: ops) (tmE nt en) mu n k =
  aop pOrc False (CP P) fz (tmE nt en) mu n false op λv mu n=>setDst (tmE nt en) d v λtm=>runK pOrc False (CP P) fz ops tm mu n k:=nr rfl
theorem run_c1 {d : Option (Nat × Nat)} {op : AOp} {anc : List Nat} {ops : List AOper} {k : TM → St → Nat → Prop} : runK pOrc False (CP P) fz (⟨d,op,none,1,anc⟩ :: ops) (tmE nt en) mu n k =
  aop pOrc False (CP P) fz (tmE nt en) mu n true op λv mu n=>setDst (tmE nt en) d v λtm=>runK pOrc False (CP P) fz ops tm mu n k:=nr rfl
theorem run_c2 {d : Option (Nat × Nat)} {op : AOp} {anc : List Nat} {ops : List AOper} {k : TM → St → Nat → Prop} : runK pOrc False (CP P) fz (⟨d,op,none,2,anc⟩ :: ops) (tmE nt en) mu n k =
  aop pOrc False (CP P) fz (tmE nt en) mu n false op λv mu n=>setDst (tmE nt en) d v λtm=>runK pOrc False (CP P) fz ops tm mu n k:=nr rfl
theorem run_c3 {d : Option (Nat × Nat)} {op : AOp} {anc : List Nat} {ops : List AOper} {k : TM → St → Nat → Prop} : runK pOrc False (CP P) fz (⟨d,op,none,3,anc⟩ :: ops) (tmE nt en) mu n k =
  aop pOrc False (CP P) fz (tmE nt en) mu n false op λv mu n=>setDst (tmE nt en) d v λtm=>runK pOrc False (CP P) fz ops tm mu n k:=nr rfl
theorem run_c4 {d : Option (Nat × Nat)} {op : AOp} {anc : List Nat} {ops : List AOper} {k : TM → St → Nat → Prop} : runK pOrc False (CP P) fz (⟨d,op,none,4,anc⟩ :: ops) (tmE nt en) mu n k =
  aop pOrc False (CP P) fz (tmE nt en) mu n false op λv mu n=>setDst (tmE nt en) d v λtm=>runK pOrc False (CP P) fz ops tm mu n k:=nr rfl
noncomputable def wantP (v : AV) (b : Bool) (yes no : Prop) : Prop:=AV.rec (motive:=λ_=>Prop) (λs=>s.onBool False λt=>cond (t == b) yes no) (λ_=>False) (λl=>List.rec (motive:=λ_=>Prop) no (λ_ _ _=>False) l) v
@[congr] theorem wantP_congr {v v' : AV} {b : Bool} {p q : Prop} (h : v = v') : wantP v b p q = wantP v' b p q:=by rw [h]
theorem wantP_yes {b : Bool} {p q : Prop} : wantP (.one (.bool b)) b p q = p:=by cases b <;> rfl
theorem wantP_tf {p q : Prop} : wantP (.one (.bool true)) false p q = q:=nr rfl
theorem wantP_ft {p q : Prop} : wantP (.one (.bool false)) true p q = q:=nr rfl
theorem wantP_br {t b : Bool} {p q : Prop} : wantP (.one (.bool t)) b p q = Br (t == b) p q .mk:=nr rfl
theorem wantP_noVal {b : Bool} {p q : Prop} : wantP noVal b p q = q:=nr rfl
theorem wantP_none {b : Bool} {p q : Prop} : wantP (.tp []) b p q = q:=nr rfl
theorem run_g0 {d : Option (Nat × Nat)} {op : AOp} {q q' : Nat} {b : Bool} {anc : List Nat} {ops : List AOper} {k : TM → St → Nat → Prop} : runK pOrc False (CP P) fz (⟨d,op,some (q,q',b),0,anc⟩ :: ops) (tmE nt en) mu n k =
  wantP (get (tmE nt en) q q') b (aop pOrc False (CP P) fz (tmE nt en) mu n false op λv mu n=>setDst (tmE nt en) d v λtm=>runK pOrc False (CP P) fz ops tm mu n k) (setDst (tmE nt en) d noVal λtm=>runK pOrc False (CP P) fz ops tm mu n k):=nr rfl
theorem run_g1 {d : Option (Nat × Nat)} {op : AOp} {q q' : Nat} {b : Bool} {anc : List Nat} {ops : List AOper} {k : TM → St → Nat → Prop} : runK pOrc False (CP P) fz (⟨d,op,some (q,q',b),1,anc⟩ :: ops) (tmE nt en) mu n k =
  wantP (get (tmE nt en) q q') b (aop pOrc False (CP P) fz (tmE nt en) mu n true op λv mu n=>setDst (tmE nt en) d v λtm=>runK pOrc False (CP P) fz ops tm mu n k) (setDst (tmE nt en) d noVal λtm=>runK pOrc False (CP P) fz ops tm mu n k):=nr rfl
theorem run_g2 {d : Option (Nat × Nat)} {op : AOp} {q q' : Nat} {b : Bool} {anc : List Nat} {ops : List AOper} {k : TM → St → Nat → Prop} : runK pOrc False (CP P) fz (⟨d,op,some (q,q',b),2,anc⟩ :: ops) (tmE nt en) mu n k =
  wantP (get (tmE nt en) q q') b (aop pOrc False (CP P) fz (tmE nt en) mu n false op λv mu n=>setDst (tmE nt en) d v λtm=>runK pOrc False (CP P) fz ops tm mu n k) (setDst (tmE nt en) d noVal λtm=>runK pOrc False (CP P) fz ops tm mu n k):=nr rfl
theorem run_g3 {d : Option (Nat × Nat)} {op : AOp} {q q' : Nat} {b : Bool} {anc : List Nat} {ops : List AOper} {k : TM → St → Nat → Prop} : runK pOrc False (CP P) fz (⟨d,op,some (q,q',b),3,anc⟩ :: ops) (tmE nt en) mu n k =
  wantP (get (tmE nt en) q q') b (aop pOrc False (CP P) fz (tmE nt en) mu n false op λv mu n=>setDst (tmE nt en) d v λtm=>runK pOrc False (CP P) fz ops tm mu n k) (setDst (tmE nt en) d noVal λtm=>runK pOrc False (CP P) fz ops tm mu n k):=nr rfl
theorem run_g4 {d : Option (Nat × Nat)} {op : AOp} {q q' : Nat} {b : Bool} {anc : List Nat} {ops : List AOper} {k : TM → St → Nat → Prop} : runK pOrc False (CP P) fz (⟨d,op,some (q,q',b),4,anc⟩ :: ops) (tmE nt en) mu n k =
  wantP (get (tmE nt en) q q') b (aop pOrc False (CP P) fz (tmE nt en) mu n false op λv mu n=>setDst (tmE nt en) d v λtm=>runK pOrc False (CP P) fz ops tm mu n k) (setDst (tmE nt en) d noVal λtm=>runK pOrc False (CP P) fz ops tm mu n k):=nr rfl
end
end Go.Ev
