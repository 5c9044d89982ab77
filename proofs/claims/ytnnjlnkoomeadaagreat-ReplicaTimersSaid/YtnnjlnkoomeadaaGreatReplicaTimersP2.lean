/-
  ReplicaTimers: part 2 of what the proof is made of.
-/
import Derived.Test.YtnnjlnkoomeadaaGreatReplicaTimersP1
import Derived.Laws.BytesString
import Derived.MapKept
import Derived.Scope
import Derived.LoopN
set_option linter.unusedVariables false
set_option linter.unusedSimpArgs false
noncomputable section
namespace Go.Ev
section
variable {P : Program} {val : Nat → Int} {fz : Fz} {tm : TM} {mu : St} {n : Nat} {o : Oper}
def Qmv (x : Option Value) (d m : Nat) : Prop:=(x = none ∧ m = d) ∨ ∃ k i,x = some (.int k i) ∧ ¬ i < 0 ∧ m = i.toNat
theorem Qm5 {ρ : Rho} {w : World} {a : Act} {x : Option Operand} {y : Option Od} {d m : Nat} (hy : odO P x = some y) (hop : ∀ u v, x = some u → od P u = some v → AVR val ρ w (ev tm v) (a.eval u))
 (hm : bound (y.map (ev tm)) d = some m) : Qmv (x.map a.eval) d m:=by
 cases x with
 | none =>
  simp [odO] at hy; subst hy
  simp [bound] at hm
  exact .inl ⟨rfl,hm.symm⟩
 | some u =>
  simp only [odO] at hy
  cases hu : od P u with
  | none=>rw [hu] at hy; cases hy
  | some v =>
   rw [hu] at hy
   simp at hy; subst hy
   have g:=hop u v rfl hu
   simp only [Option.map_some,bound] at hm
   split at hm
   ·rename_i h; cases h
   ·rename_i k i h
    have e : ev tm v = .one (.int k i):=Option.some.inj h
    rw [e] at g
    have g' : a.eval u = .int k i:=g
    split at hm
    ·cases hm
    ·rename_i h0
     cases hm
     exact .inr ⟨k,i,by simp [g'],h0,rfl⟩
   ·cases hm
theorem Qec {w : World} {k : IntKind} {i : Int} {y : Nat} (code : BoundsCode) (h0 : ¬ i < 0) (h1 : i.toNat ≤ y) : (Instr.sliceBound (.int k i) y code).run P w = .ok i.toNat w:=by
 have : 0 ≤ i ∧ i ≤ (y : Int):=by omega
 simp [Instr.sliceBound,asIntOf,this]
theorem Qe4 {w : World} {b : Bool} {len cap l h m : Nat} {lo hi mx : Option Value} (hm : Qmv mx cap m) (hh : Qmv hi len h) (hl : Qmv lo 0 l) (c1 : m ≤ cap) (c2 : h ≤ m) (c3 : l ≤ h) (hmx : mx.isSome = true → hi.isSome = true) :
 (Instr.sliceBounds b len cap lo hi mx).run P w = .ok (l,h,m) w:=by
 rcases hm with ⟨rfl,rfl⟩ | ⟨km,im,rfl,m0,rfl⟩
 ·rcases hh with ⟨rfl,rfl⟩ | ⟨kh,ih,rfl,h0,rfl⟩
  ·rcases hl with ⟨rfl,rfl⟩ | ⟨kl,il,rfl,l0,rfl⟩
   ·simp [Instr.sliceBounds]
   ·simp [Instr.sliceBounds,Qec _ l0 c3]
  ·rcases hl with ⟨rfl,rfl⟩ | ⟨kl,il,rfl,l0,rfl⟩
   ·simp [Instr.sliceBounds,Qec _ h0 c2]
   ·simp [Instr.sliceBounds,Qec _ h0 c2,Qec _ l0 c3]
 ·rcases hh with ⟨rfl,rfl⟩ | ⟨kh,ih,rfl,h0,rfl⟩
  ·simp at hmx
  ·rcases hl with ⟨rfl,rfl⟩ | ⟨kl,il,rfl,l0,rfl⟩
   ·simp [Instr.sliceBounds,Qec _ m0 c1,Qec _ h0 c2]
   ·simp [Instr.sliceBounds,Qec _ m0 c1,Qec _ h0 c2,Qec _ l0 c3]
theorem Qnd {t : TypeId} {s : Nat} {x : Operand} {lo hi mx : Option Operand} {x' : Od} {lo' hi' mx' : Option Od} {sv r : SV} (ho : o.op = .slice t x lo hi mx)
 (hu : (∃ e,P.underlying t = some (.slice e) ∧ szOf P e = some s ∧ ∀ l b,sv ≠ .str l b) ∨ P.underlying t = some .string ∧ (∃ l b,sv = .str l b)) (hmx : mx.isSome = true → hi.isSome = true)
 (hx : od P x = some x') (hlo : odO P lo = some lo') (hhi : odO P hi = some hi') (hmx' : odO P mx = some mx') (ex : ev tm x' = .one sv)
 (hr : Qfb s sv (lo'.map (ev tm)) (hi'.map (ev tm)) (mx'.map (ev tm)) = some r) : Sound P val fz tm mu n o (.one r) mu n:=by
 refine Qdu λρ w a _ hop=>?_
 have g:=hop x x' (by simp [ho,Op.operands]) hx
 rw [ex] at g
 have ol : ∀ u v,lo = some u → od P u = some v → AVR val ρ w (ev tm v) (a.eval u):=λu v hu hv=>hop u v (by simp [ho,Op.operands,hu]) hv
 have oh : ∀ u v,hi = some u → od P u = some v → AVR val ρ w (ev tm v) (a.eval u):=λu v hu hv=>hop u v (by simp [ho,Op.operands,hu]) hv
 have om : ∀ u v,mx = some u → od P u = some v → AVR val ρ w (ev tm v) (a.eval u):=λu v hu hv=>hop u v (by simp [ho,Op.operands,hu]) hv
 have bl:=λd m h=>Qm5 (P:=P) (val:=val) (ρ:=ρ) (w:=w) (a:=a) (d:=d) (m:=m) hlo ol h
 have bh:=λd m h=>Qm5 (P:=P) (val:=val) (ρ:=ρ) (w:=w) (a:=a) (d:=d) (m:=m) hhi oh h
 have bm:=λd m h=>Qm5 (P:=P) (val:=val) (ρ:=ρ) (w:=w) (a:=a) (d:=d) (m:=m) hmx' om h
 have mnone : mx'.map (ev tm) = none → mx.map a.eval = none:=λh=>by
  cases mx with
  | none=>rfl
  | some u =>
   simp only [odO] at hmx'
   cases hu : od P u with
   | none=>rw [hu] at hmx'; cases hmx'
   | some v=>rw [hu] at hmx'; simp at hmx'; subst hmx'; simp at h
 have hms : (mx.map a.eval).isSome = true → (hi.map a.eval).isSome = true:=by simpa using hmx
 have goal : ∀ v,(Instr.slice t (a.eval x) (lo.map a.eval) (hi.map a.eval) (mx.map a.eval)).run P w = .ok v w → (∀ k e,P.underlying t ≠ some (.array k e)) → (execOp a.eval o).run P w = .ok (.value v) w:=by
  intro v hv hna
  have : (Instr.sliceAt t (a.eval x) (lo.map a.eval) (hi.map a.eval) (mx.map a.eval)).run P w = .ok v w:=by
   unfold Instr.sliceAt
   cases hut : P.underlying t with
   | none=>rcases hu with ⟨e,h,_⟩ | ⟨h,_⟩ <;> rw [hut] at h <;> cases h
   | some d =>
    simp only [Sem.run_bind,underlying,run_program,hut,Result.andThen_ok,Sem.run_pure]
    cases d <;> first | exact hv | exact (hna _ _ hut).elim
  simp [execOp,ho,this]
 rcases hu with ⟨e,hu,hs,hns⟩ | ⟨hu,sl,b,rfl⟩
 ·have hna : ∀ k e',P.underlying t ≠ some (.array k e'):=λk e' h=>by rw [hu] at h; cases h
  have hsz:=Qfi hs w
  cases sv with
  | str l b=>exact (hns l b rfl).elim
  | nsl =>
   simp only [Qfb] at hr
   split at hr
   ·rename_i h1 h2 h3
    cases hr
    have g' : a.eval x = .slice none 0 0:=g
    have hb:=Qe4 (P:=P) (w:=w) (b:=true) (bm 0 0 h1) (bh 0 0 h2) (bl 0 0 h3) (Nat.le_refl _) (Nat.le_refl _) (Nat.le_refl _) hms
    exact ⟨.slice none 0 0,goal _ (by simp [Instr.slice,underlying,hu,g',hb,hsz]) hna,rfl⟩
   ·cases hr
  | esl =>
   simp only [Qfb] at hr
   split at hr
   ·rename_i h1 h2 h3
    cases hr
    obtain ⟨ad,g'⟩:=g
    have hb:=Qe4 (P:=P) (w:=w) (b:=true) (bm 0 0 h1) (bh 0 0 h2) (bl 0 0 h3) (Nat.le_refl _) (Nat.le_refl _) (Nat.le_refl _) hms
    exact ⟨.slice (some ad) 0 0,goal _ (by simp [Instr.slice,underlying,hu,g',hb,hsz]) hna,ad,rfl⟩
   ·cases hr
  | osl id off len cap s' =>
   simp only [Qfb] at hr
   split at hr
   ·cases hr
   ·rename_i hs'
    have hss : s' = s:=by simpa using hs'
    subst hss
    obtain ⟨p,c,hp,g',q1,q2,q3,q4⟩:=g
    split at hr
    ·rename_i h l hh hl
     split at hr
     ·cases hr
     ·rename_i hcap
      have hcap' : h ≤ cap ∧ l ≤ h:=by simpa using hcap
      split at hr
      ·rename_i hmn
       have hmn' : mx.map a.eval = none:=mnone (by assumption)
       have hb:=Qe4 (P:=P) (w:=w) (b:=true) (len:=len) (cap:=c) (m:=c) (.inl ⟨hmn',rfl⟩) (bh len h hh) (bl 0 l hl) (Nat.le_refl _) (by omega) hcap'.2 hms
       split at hr
       ·rename_i hl0
        cases hr
        have hl0' : l < cap ∨ l = 0:=by
         rcases Bool.or_eq_true _ _ ▸ hl0 with h | h
         ·exact .inl (by simpa [Nat.blt_eq] using h)
         ·exact .inr (Qfk h)
        have haddr : (if c = l then (some ⟨p.1,p.2 + off,none⟩ : Option Addr) else (some ⟨p.1,p.2 + off,none⟩ : Option Addr).map (·.add (l * s'))) = some ⟨p.1,p.2 + (off + l * s'),none⟩:=by
         split
         ·have : l = 0:=by omega
          subst this; simp
         ·simp [addr_add,Nat.add_assoc]
        refine ⟨.slice (some ⟨p.1,p.2 + (off + l * s'),none⟩) (h - l) (c - l),goal _ ?_ hna,p,c - l,hp,rfl,by omega,by omega,?_,by omega⟩
        ·simp only [Instr.slice,Sem.run_bind,underlying,run_program,hu,Result.andThen_ok,Sem.run_pure,g',hb,hsz,haddr]
        ·have : (c - l) * s' + l * s' = c * s':=by rw [← Nat.add_mul]; congr 1; omega
         omega
       ·rename_i hl0
        cases hr
        have hl0' : ¬ (l < cap ∨ l = 0):=by
         intro hc
         apply hl0
         rw [Bool.or_eq_true]
         rcases hc with h | h
         ·exact .inl (by simpa [Nat.blt_eq] using h)
         ·exact .inr (by subst h; rfl)
        have hhl : h - l = 0:=by omega
        refine ⟨.slice (if c = l then (some ⟨p.1,p.2 + off,none⟩ : Option Addr) else (some ⟨p.1,p.2 + off,none⟩ : Option Addr).map (·.add (l * s'))) 0 (c - l),goal _ ?_ hna,?_⟩
        ·simp only [Instr.slice,Sem.run_bind,underlying,run_program,hu,Result.andThen_ok,Sem.run_pure,g',hb,hsz,hhl]
        ·by_cases hcl : c = l
         ·exact ⟨⟨p.1,p.2 + off,none⟩,c - l,by simp [hcl]⟩
         ·exact ⟨(⟨p.1,p.2 + off,none⟩ : Addr).add (l * s'),c - l,by simp [hcl]⟩
      ·rename_i mv hmv
       split at hr
       ·rename_i m hbm
        split at hr
        ·cases hr
        ·rename_i hmc
         have hmc' : m ≤ cap ∧ h ≤ m:=by simpa using hmc
         have hb:=Qe4 (P:=P) (w:=w) (b:=true) (len:=len) (cap:=c) (m:=m) (by
          have:=bm 0 m (by rw [hmv]; exact hbm)
          rcases this with ⟨hn,_⟩ | h
          ·exfalso
           cases mx with
           | none=>simp [odO] at hmx'; subst hmx'; cases hmv
           | some u=>cases hn
          ·exact .inr h) (bh len h hh) (bl 0 l hl) (by omega) hmc'.2 hcap'.2 hms
         split at hr
         ·rename_i hml
          cases hr
          have hml' : m = l:=Qfk hml
          have hhl : h - l = 0:=by omega
          refine ⟨.slice (some ⟨p.1,p.2 + off,none⟩) 0 0,goal _ ?_ hna,_,rfl⟩
          simp only [Instr.slice,Sem.run_bind,underlying,run_program,hu,Result.andThen_ok,Sem.run_pure,g',hb,hsz,hhl,hml',if_true,Nat.sub_self]
         ·rename_i hml
          cases hr
          have hml' : ¬ m = l:=λe=>hml (by subst e; exact Nat.beq_refl m)
          refine ⟨.slice (some ⟨p.1,p.2 + (off + l * s'),none⟩) (h - l) (m - l),goal _ ?_ hna,p,m - l,hp,rfl,by omega,Nat.le_refl _,?_,by omega⟩
          ·simp only [Instr.slice,Sem.run_bind,underlying,run_program,hu,Result.andThen_ok,Sem.run_pure,g',hb,hsz,hml',if_false,Option.map_some,addr_add,Nat.add_assoc]
          ·have h1 : (m - l) * s' + l * s' = m * s':=by rw [← Nat.add_mul]; congr 1; omega
           have h2 : m * s' ≤ c * s':=Nat.mul_le_mul_right _ (by omega)
           omega
       ·cases hr
    ·cases hr
  | _=>simp [Qfb] at hr
 ·have hna : ∀ k e',P.underlying t ≠ some (.array k e'):=λk e' h=>by rw [hu] at h; cases h
  have g' : a.eval x = .string (sOf sl b):=g.2
  simp only [Qfb] at hr
  split at hr
  ·cases hr
  ·rename_i hmn
   have hmn' : mx.map a.eval = none:=mnone (by assumption)
   split at hr
   ·rename_i h l hh hl
    split at hr
    ·rename_i hc
     have hc' : h ≤ sl ∧ l ≤ h:=by simpa using hc
     cases hr
     have hb:=Qe4 (P:=P) (w:=w) (b:=false) (len:=(sOf sl b).size) (cap:=(sOf sl b).size) (mx:=none) (m:=(sOf sl b).size) (.inl ⟨rfl,rfl⟩) (by rw [Qf3]; exact bh sl h hh) (bl 0 l hl) (Nat.le_refl _) (by rw [Qf3]; exact hc'.1) hc'.2 (by simp)
     have hex : (sOf sl b).extract l h = sOf (h - l) (b / 256 ^ (sl - h) % 256 ^ (h - l)):=by
      apply ByteArray.ext
      apply Array.ext'
      rw [ByteArray.data_extract,Array.toList_extract]
      show ((sB sl b).drop l).take (h - l) = sB _ _
      exact sB_slice hc'.1 hc'.2 b
     exact ⟨.string ((sOf sl b).extract l h),goal _ (by rw [hmn']; simp [Instr.slice,underlying,hu,g',hb]) hna,Nat.mod_lt _ (Nat.pow_pos (by decide)),by rw [hex]⟩
    ·cases hr
   ·cases hr
def SrcOk (P : Program) (val : Nat → Int) (fz : Fz) (mu : St) (s : Nat) (x : SV) (src : List SV) (cnt : Nat) : Prop :=
 src.length = cnt * s ∧ ∀ (ρ : Rho) (w : World) (v : Value),Rel val ρ fz mu w → VR val ρ w x v → (∀ w1,(Builtin.lenOf v).run P w1 = .ok cnt w1) ∧ ((∃ a l c,v = .slice a l c) ∨ ∃ b,v = .string b) ∧
  ∃ news : List Value,All2 (VR val ρ w) src news ∧ ∀ m,m ≤ cnt → ∀ w1,Like w w1 → (Builtin.firstCells s m v).run P w1 = .ok (news.take (m * s)).toArray w1
theorem Qle {R : Type} {T : R → Prop} {z : R} (hz : ¬ T z) {s : Nat} {x : SV} {k : List SV → Nat → R} (h : T (srcK fz mu s x z k)) : ∃ src cnt,SrcOk P val fz mu s x src cnt ∧ T (k src cnt):=by
 cases x with
 | un=>exact (hz h).elim
 | int=>exact (hz h).elim
 | bool=>exact (hz h).elim
 | npt=>exact (hz h).elim
 | nfn=>exact (hz h).elim
 | optr=>exact (hz h).elim
 | fn=>exact (hz h).elim
 | sym=>exact (hz h).elim
 | nmp=>exact (hz h).elim
 | mp=>exact (hz h).elim
 | nif=>exact (hz h).elim
 | mk=>exact (hz h).elim
 | str l b =>
  obtain ⟨h1,h2⟩:=Qdr hz (show T (cond (Nat.beq s 1) (digK l b [] λr=>k r l) z) from h)
  have hs : s = 1:=Qfk h1
  subst hs
  rw [Qm6,List.append_nil] at h2
  refine ⟨Qf6 (sB l b),l,⟨by simp [Qf6,Qeh],λρ w v hr hv=>?_⟩,h2⟩
  obtain ⟨_,rfl⟩:=hv
  refine ⟨λw1=>by simp [Builtin.lenOf,Qf3],.inr ⟨_,rfl⟩,(sB l b).map (λx=>.int .u8 x.toNat),?_,λm hm w1 _=>?_⟩
  ·refine All2.Qjc (by simp [Qf6]) λi a c ha hc=>?_
   simp only [Qf6,List.getElem?_map,Option.map_eq_some_iff] at ha hc
   obtain ⟨u,hu,rfl⟩:=ha
   obtain ⟨u',hu',rfl⟩:=hc
   rw [hu] at hu'; cases hu'
   rfl
  ·simp only [Builtin.firstCells,Sem.run_pure,Nat.mul_one]
   congr 1
   apply Array.ext'
   simp [sOf,List.map_take]
 | nsl=>exact ⟨[],0,⟨by simp,λρ w v hr hv=>by
  have hv' : v = .slice none 0 0:=hv
  subst hv'
  exact ⟨λw1=>by simp [Builtin.lenOf],.inl ⟨_,_,_,rfl⟩,[],trivial,λm hm w1 _=>by simp [Builtin.firstCells]⟩⟩,h⟩
 | esl=>exact ⟨[],0,⟨by simp,λρ w v hr hv=>by
  obtain ⟨a,rfl⟩:=hv
  refine ⟨λw1=>by simp [Builtin.lenOf],.inl ⟨_,_,_,rfl⟩,[],trivial,λm hm w1 _=>?_⟩
  have : m = 0:=by omega
  subst this
  simp [Builtin.firstCells,loadCells,loadCellsFrom]⟩,h⟩
 | zsl=>exact ⟨[],0,⟨by simp,λρ w v hr hv=>by
  obtain ⟨a,c,rfl⟩:=hv
  refine ⟨λw1=>by simp [Builtin.lenOf],.inl ⟨_,_,_,rfl⟩,[],trivial,λm hm w1 _=>?_⟩
  have : m = 0:=by omega
  subst this
  simp [Builtin.firstCells,loadCells,loadCellsFrom]⟩,h⟩
 | osl id off len cap s' =>
  obtain ⟨h1,h2⟩:=Qdr hz (show T (cond (Nat.beq s' s) (Qfr fz mu id z λcs=>fN (Nat.mul len s) λm=>fN off λoff=>subK cs off m z λr=>k r len) z) from h)
  have hs : s' = s:=Qfk h1
  subst hs
  obtain ⟨cs,h3,h4⟩:=Qgo hz h2
  simp only [fN_eq] at h4
  obtain ⟨h5,h6⟩:=Qg7 hz h4
  have h5' : off + len * s' ≤ cs.length:=h5
  refine ⟨(cs.drop off).take (len * s'),len,⟨by simp; omega,λρ w v hr hv=>?_⟩,h6⟩
  obtain ⟨p,c,hp,rfl,q1,q2,q3,q4⟩:=hv
  obtain ⟨vs,g1,g2,g3,g4⟩:=(seen hr h3).read (P:=P) hp h5'
  refine ⟨λw1=>by simp [Builtin.lenOf],.inl ⟨_,_,_,rfl⟩,vs,g2,λm hm w1 hl=>?_⟩
  have hms : m * s' ≤ len * s':=Nat.mul_le_mul_right _ hm
  have hlen : (vs.take (m * s')).length = m * s':=by simp; omega
  have:=run_loadCells_list (P:=P) w1 ⟨p.1,p.2 + off,none⟩ (vs.take (m * s')) (λj v hj=>by
   rw [addr_add,hl.cell]
   refine g3 j v ?_
   rw [List.getElem?_take] at hj
   split at hj
   ·exact hj
   ·cases hj)
  rw [hlen] at this
  exact this
theorem Quw {need old : Nat} (h : old < need) (hn : True) : Builtin.nextslicecap need old ≤ need + need / 4 + 512 := by
 unfold Builtin.nextslicecap
 clear hn
 split
 ·omega
 ·split
  ·omega
  ·have key : ∀ (r c : Nat),c < need → Builtin.growBy need r c ≤ need + need / 4 + 512:=by
    intro r
    induction r with
    | zero=>intro c hc; show c ≤ _; omega
    | succ r ih =>
     intro c hc
     simp only [Builtin.growBy,show ¬ c ≥ need by omega,if_false]
     by_cases h2 : c + (c + 768) / 4 < need
     ·exact ih _ h2
     ·cases r with
      | zero=>simp only [Builtin.growBy]; omega
      | succ r=>simp only [Builtin.growBy,show c + (c + 768) / 4 ≥ need by omega,if_true]; omega
   exact key 4 old h
end
end Go.Ev
namespace Go.Ev
section
variable {P : Program} {val : Nat → Int} {fz : Fz} {tm : TM} {mu : St} {n : Nat} {o : Oper}
theorem Qj2 {w : World} {sT xT e ty : TypeId} {i : TypeInfo} {zv : Value} {base : Option Addr} {sLen sCap cnt : Nat} {x : Value} {old news : List Value}
 (hu : P.underlying sT = some (.slice e)) (hx : (∃ e',P.underlying xT = some (.slice e')) ∨ P.underlying xT = some .string) (hi : P.info? e = some i) (hz : ∀ w,(zeroValue e).run P w = .ok zv w)
 (hlen : (Builtin.lenOf x).run P w = .ok cnt w) (hgrow : sCap < sLen + cnt) (hroom : fits (sLen + cnt) i.bytes = true)
 (hold : (Builtin.firstCells i.size sLen (.slice base sLen sCap)).run P w.drew = .ok old.toArray w.drew) (hnew : (Builtin.firstCells i.size cnt x).run P w.drew = .ok news.toArray w.drew) :
 ∃ newCap rest, (sLen + cnt ≤ newCap ∧ newCap ≤ 9223372036854775807) ∧ rest = Builtin.zeroCells zv.cells (newCap - (sLen + cnt)) ∧
   (Builtin.append_ #[sT,xT] ty #[.slice base sLen sCap,x]).run P w = .ok (.slice (some ⟨w.heap.size,0,none⟩) (sLen + cnt) newCap) (w.drew.alloc (.cells (old.toArray ++ news.toArray ++ rest) e)):=by
 obtain ⟨hneed,hbytes,hbb⟩:=Qo6 hroom
 have hcap:=Quw (need:=sLen + cnt) (old:=sCap) hgrow trivial
 have hlim : ¬ Builtin.nextslicecap (sLen + cnt) sCap * i.bytes > 2 ^ 48:=by
  have h3 : (281474976710656 : Nat) = 2 ^ 48:=by decide
  have h1 : Builtin.nextslicecap (sLen + cnt) sCap * i.bytes ≤ ((sLen + cnt) + (sLen + cnt) / 4 + 512) * i.bytes:=Nat.mul_le_mul_right _ hcap
  have h2 : ((sLen + cnt) + (sLen + cnt) / 4 + 512) * i.bytes = (sLen + cnt) * i.bytes + (sLen + cnt) / 4 * i.bytes + 512 * i.bytes:=by rw [Nat.add_mul,Nat.add_mul]
  have h4 : 4 * ((sLen + cnt) / 4 * i.bytes) ≤ (sLen + cnt) * i.bytes:=by
   rw [← Nat.mul_assoc]; exact Nat.mul_le_mul_right _ (by omega)
  rw [← h3]
  rcases hbb with h0 | ⟨h5,h6⟩
  ·omega
  ·generalize (sLen + cnt) * i.bytes = q at *
   generalize (sLen + cnt) / 4 * i.bytes = r at *
   generalize Builtin.nextslicecap (sLen + cnt) sCap * i.bytes = s at *
   omega
 generalize hnc : Question.cut (.appendCap (sLen + cnt) sCap e) (w.tape w.drawn (.appendCap (sLen + cnt) sCap e)) = newCap
 have hle : sLen + cnt ≤ newCap:=by rw [← hnc]; simp only [Question.cut]; omega
 have hmx : newCap ≤ 9223372036854775807:=by
  rw [← hnc]
  simp only [Question.cut]
  have:=Nat.mod_lt (w.tape w.drawn (.appendCap (sLen + cnt) sCap e)) (show 0 < 2 ^ 63 - (sLen + cnt) by omega)
  omega
 refine ⟨newCap,_,⟨hle,hmx⟩,rfl,?_⟩
 have hnle : ¬ sLen + cnt ≤ sCap:=by omega
 have hmax : ¬ ((9223372036854775807 : Int) < (sLen : Int) + (cnt : Int) ∧ i.bytes = 0):=by omega
 have hz':=hz w.drew
 have hti : ∀ w1,(typeInfo e).run P w1 = .ok i w1:=λw1=>by simp [typeInfo,hi]
 have hsz : ∀ w1,(sizeOf e).run P w1 = .ok i.size w1:=λw1=>by simp [sizeOf,hti]
 have hund : ∀ w1,(underlying sT).run P w1 = .ok (.slice e) w1:=λw1=>by simp [underlying,hu]
 have hch : (choose (.appendCap (sLen + cnt) sCap e)).run P w = .ok newCap w.drew:=by
  rw [run_choose]; simp only [Question.forced,Bool.false_eq_true,if_false,hnc]; rfl
 rcases hx with ⟨e',hxd⟩ | hxd
 ·have hunx : ∀ w1,(underlying xT).run P w1 = .ok (.slice e') w1:=λw1=>by simp [underlying,hxd]
  simp only [Builtin.append_,List.getElem?_toArray,List.getElem?_cons_zero,List.getElem?_cons_succ,Sem.run_bind,hund,hunx,hsz,hlen,hnle,hti,hlim,hch,hold,hnew,hz',Result.andThen_ok,Sem.run_pure,Sem.run_ite,if_false,Bool.false_eq_true,run_askRoom,newRow,run_newObj,Bool.not_false,if_true]
  simp [hmax]
  rfl
 ·have hunx : ∀ w1,(underlying xT).run P w1 = .ok .string w1:=λw1=>by simp [underlying,hxd]
  simp only [Builtin.append_,List.getElem?_toArray,List.getElem?_cons_zero,List.getElem?_cons_succ,Sem.run_bind,hund,hunx,hsz,hlen,hnle,hti,hlim,hch,hold,hnew,hz',Result.andThen_ok,Sem.run_pure,Sem.run_ite,if_false,Bool.false_eq_true,run_askRoom,newRow,run_newObj,Bool.not_false,if_true]
  simp [hmax]
  rfl
theorem Qhj {w w' : World} {sT xT e ty : TypeId} {i : TypeInfo} {a : Addr} {sLen sCap cnt : Nat} {x : Value} {news : List Value}
 (hu : P.underlying sT = some (.slice e)) (hx : (∃ e',P.underlying xT = some (.slice e')) ∨ P.underlying xT = some .string) (hi : P.info? e = some i)
 (hlen : (Builtin.lenOf x).run P w = .ok cnt w) (hfit : sLen + cnt ≤ sCap) (hnew : (Builtin.firstCells i.size cnt x).run P w = .ok news.toArray w) (hst : (storeCells (a.add (sLen * i.size)) news).run P w = .ok () w') :
 (Builtin.append_ #[sT,xT] ty #[.slice (some a) sLen sCap,x]).run P w = .ok (.slice (some a) (sLen + cnt) sCap) w':=by
 have hti : ∀ w1,(typeInfo e).run P w1 = .ok i w1:=λw1=>by simp [typeInfo,hi]
 have hsz : ∀ w1,(sizeOf e).run P w1 = .ok i.size w1:=λw1=>by simp [sizeOf,hti]
 have hund : ∀ w1,(underlying sT).run P w1 = .ok (.slice e) w1:=λw1=>by simp [underlying,hu]
 rcases hx with ⟨e',hxd⟩ | hxd
 ·have hunx : ∀ w1,(underlying xT).run P w1 = .ok (.slice e') w1:=λw1=>by simp [underlying,hxd]
  simp only [Builtin.append_,List.getElem?_toArray,List.getElem?_cons_zero,List.getElem?_cons_succ,Sem.run_bind,hund,hunx,hsz,hlen,hfit,hnew,Result.andThen_ok,Sem.run_pure,Sem.run_ite,Bool.false_eq_true,if_false,Bool.not_false,if_true,hst]
 ·have hunx : ∀ w1,(underlying xT).run P w1 = .ok .string w1:=λw1=>by simp [underlying,hxd]
  simp only [Builtin.append_,List.getElem?_toArray,List.getElem?_cons_zero,List.getElem?_cons_succ,Sem.run_bind,hund,hunx,hsz,hlen,hfit,hnew,Result.andThen_ok,Sem.run_pure,Sem.run_ite,Bool.false_eq_true,if_false,Bool.not_false,if_true,hst]
theorem append_nil {w : World} {sT xT e ty : TypeId} {i : TypeInfo} {x : Value}
 (hu : P.underlying sT = some (.slice e)) (hx : (∃ e',P.underlying xT = some (.slice e')) ∨ P.underlying xT = some .string) (hi : P.info? e = some i)
 (hlen : (Builtin.lenOf x).run P w = .ok 0 w) (hnew : (Builtin.firstCells i.size 0 x).run P w = .ok #[] w) :
 (Builtin.append_ #[sT,xT] ty #[.slice none 0 0,x]).run P w = .ok (.slice none 0 0) w:=by
 have hti : ∀ w1,(typeInfo e).run P w1 = .ok i w1:=λw1=>by simp [typeInfo,hi]
 have hsz : ∀ w1,(sizeOf e).run P w1 = .ok i.size w1:=λw1=>by simp [sizeOf,hti]
 have hund : ∀ w1,(underlying sT).run P w1 = .ok (.slice e) w1:=λw1=>by simp [underlying,hu]
 rcases hx with ⟨e',hxd⟩ | hxd
 ·have hunx : ∀ w1,(underlying xT).run P w1 = .ok (.slice e') w1:=λw1=>by simp [underlying,hxd]
  simp [Builtin.append_,hund,hunx,hsz,hlen,hnew]
 ·have hunx : ∀ w1,(underlying xT).run P w1 = .ok .string w1:=λw1=>by simp [underlying,hxd]
  simp [Builtin.append_,hund,hunx,hsz,hlen,hnew]
theorem Qro {ρ : Rho} {w : World} (hr : Rel val ρ fz mu w) {id : Nat} {known src : List SV} {off m : Nat} {p : Nat × Nat} {news : List Value} (hl : look mu id = some known) (hm : mkd known = false) (hn : ρ n = none) (hk : known.length = off + m) (hp : ρ id = some p)
 (hv : All2 (VR val ρ w) src news) (h1 : ∀ x ∈ news,x.oneCell' = true) (hfit : p.2 + off + m + src.length ≤ bsize w p.1) :
 ∃ w', (storeCells ⟨p.1, p.2 + off + m, none⟩ news).run P w = .ok () w' ∧ Ext ρ (upd ρ n (p.1, p.2 + off)) n (n + 1) ∧ Rel val (upd ρ n (p.1, p.2 + off)) fz ((n, known.drop off ++ src) :: killS mu id) w' ∧ Fr ρ mu w w' ∧
   NewB ρ (upd ρ n (p.1,p.2 + off)) mu ((n,known.drop off ++ src) :: killS mu id) w ∧ NewI mu ((n,known.drop off ++ src) :: killS mu id) n (n + 1) ∧ (∀ b,bsize w' b = bsize w b):=by
 obtain ⟨q,C,ty,fr,hq,hC,hfr,hsz,hcs⟩:=(hr.rm id known hl).plain hm
 rw [hp] at hq; cases hq
 have hlen:=hv.length
 have hbs0 : bsize w p.1 = C.size:=by unfold bsize; rw [hC]
 rw [hbs0] at hfit
 have hrun:=Qih P p.1 (p.2 + off + m) ty fr news 0 C w hC (λx _ h2=>hfr.no (by omega)) (by omega) h1
 simp only [Nat.add_zero] at hrun
 generalize hD : (C.toList.take (p.2 + off + m) ++ news ++ C.toList.drop (p.2 + off + m + news.length)).toArray = D at hrun
 have hDs : D.size = C.size:=by rw [← hD]; simp; omega
 have hDget : ∀ i : Nat,D[i]? = if i < p.2 + off + m then C[i]? else if i < p.2 + off + m + news.length then news[i - (p.2 + off + m)]? else C[i]?:=by
  intro i
  rw [← hD]
  simp only [List.getElem?_toArray]
  by_cases a1 : i < p.2 + off + m
  ·rw [List.append_assoc,List.getElem?_append_left (by simp; omega)]
   simp [a1]
  ·rw [List.append_assoc,List.getElem?_append_right (by simp; omega)]
   simp only [a1,if_false,List.length_take,Array.length_toList]
   rw [show min (p.2 + off + m) C.size = p.2 + off + m by omega]
   by_cases a2 : i < p.2 + off + m + news.length
   ·rw [List.getElem?_append_left (by omega)]; simp [a2]
   ·rw [List.getElem?_append_right (by omega)]
    simp only [a2,if_false,List.getElem?_drop,Array.getElem?_toList]
    congr 1; omega
 have hbs : ∀ b,bsize (w.setRow p.1 D) b = bsize w b:=Qj3 hC hDs
 have hbs' : ∀ b,bsize w b ≤ bsize (w.setRow p.1 D) b:=λb=>Nat.le_of_eq (hbs b).symm
 have hother : ∀ b,b ≠ p.1 → (w.setRow p.1 D).heap[b]? = w.heap[b]?:=λb hb=>setRow_other w p.1 b D hb
 have hself : (w.setRow p.1 D).heap[p.1]? = some (.cells D ty fr):=setRow_heap w p.1 C D ty fr hC
 have hup:=λid q hq=>Qlh (p:=(p.1,p.2 + off)) hn id q hq
 have hfn : fz n = none:=by
  cases e : fz n with
  | none=>rfl
  | some c=>obtain ⟨p,o,h1,_⟩:=(hr.rf n c e).at; rw [hn] at h1; cases h1
 have keepOwn : ∀ id' c,id' ≠ id → ((look mu id').isSome ∨ (fz id').isSome) → OwnG val ρ w id' c → OwnG val (upd ρ n (p.1,p.2 + off)) (w.setRow p.1 D) id' c:=by
  intro id' c hne hlv hown
  refine hown.mono hup hbs' λq hq=>hother _ λe=>hne ?_
  exact (hr.dj id id' p q (by simp [hl]) hlv hp hq e.symm).symm
 have keepF : ∀ id' c,id' ≠ id → ((look mu id').isSome ∨ (fz id').isSome) → OwnF val ρ w id' c → OwnF val (upd ρ n (p.1,p.2 + off)) (w.setRow p.1 D) id' c:=by
  intro id' c hne hlv hown
  refine hown.mono hup hbs' λq hq=>hother _ λe=>hne ?_
  exact (hr.dj id id' p q (by simp [hl]) hlv hp hq e.symm).symm
 have hlk : ∀ id' c,look ((n,known.drop off ++ src) :: killS mu id) id' = some c → id' = n ∧ c = known.drop off ++ src ∨ id' ≠ n ∧ id' ≠ id ∧ look mu id' = some c:=by
  intro id' c h
  rw [Qd1] at h
  by_cases e : n = id'
  ·simp only [e,if_true,Option.some.injEq] at h; exact .inl ⟨e.symm,h.symm⟩
  ·simp only [e,if_false,Qdz] at h
   split at h
   ·cases h
   ·rename_i e2; exact .inr ⟨λx=>e x.symm,λx=>e2 x.symm,h⟩
 refine ⟨w.setRow p.1 D,hrun,Qpv hn,⟨λid' c h=>?_,λid' c h=>?_,λid' c h=>?_,λa b q q' ha hb hq hq' he=>?_⟩,
  ⟨rfl,rfl,rfl,by simp,λb _ hb=>hother b λe=>hb id p (by simp [hl]) hp e.symm,hbs'⟩,λa q ha hq=>?_,λa ha=>?_,hbs⟩
 ·refine keepF id' c (λe=>?_) (.inr (by simp [h])) (hr.rf id' c h)
  subst e; have:=hr.dm id' known hl; rw [this] at h; cases h
 ·rcases hlk id' c h with ⟨rfl,rfl⟩ | ⟨e1,e2,e3⟩
  ·refine .inl ⟨(p.1,p.2 + off),D,ty,fr,upd_same _ _ _,hself,by rw [hDs]; exact hfr,by simp; omega,λi s hi=>?_⟩
   show ∃ v,D[p.2 + off + i]? = some v ∧ _
   rw [hDget]
   by_cases a1 : i < m
   ·simp only [show p.2 + off + i < p.2 + off + m by omega,if_true]
    rw [List.getElem?_append_left (by simp; omega),List.getElem?_drop] at hi
    obtain ⟨v,e,r⟩:=hcs (off + i) s hi
    exact ⟨v,by rw [Nat.add_assoc]; exact e,r.mono hup hbs'⟩
   ·simp only [show ¬ p.2 + off + i < p.2 + off + m by omega,if_false]
    rw [List.getElem?_append_right (by simp; omega)] at hi
    simp only [List.length_drop,hk] at hi
    obtain ⟨v,e,r⟩:=hv.get hi
    have hlt:=(List.getElem?_eq_some_iff.1 hi).1
    simp only [show p.2 + off + i < p.2 + off + m + news.length by omega,if_true]
    exact ⟨v,by rw [show p.2 + off + i - (p.2 + off + m) = i - (off + m - off) by omega]; exact e,r.mono hup hbs'⟩
  ·exact keepOwn id' c e2 (.inl (by simp [e3])) (hr.rm id' c e3)
 ·rcases hlk id' c h with ⟨rfl,rfl⟩ | ⟨e1,e2,e3⟩
  ·exact hfn
  ·exact hr.dm id' c e3
 ·have key : ∀ a q,((look ((n,known.drop off ++ src) :: killS mu id) a).isSome ∨ (fz a).isSome) → upd ρ n (p.1,p.2 + off) a = some q → a = n ∧ q.1 = p.1 ∨ a ≠ n ∧ a ≠ id ∧ ρ a = some q ∧ ((look mu a).isSome ∨ (fz a).isSome):=by
   intro a q h hq
   by_cases e : a = n
   ·left; subst e; rw [upd_same] at hq; cases hq; exact ⟨rfl,rfl⟩
   ·right
    have hq2 : ρ a = some q:=by simpa [upd,e] using hq
    rcases h with h | h
    ·obtain ⟨c,hc⟩:=Option.isSome_iff_exists.1 h
     rcases hlk a c hc with ⟨x,_⟩ | ⟨_,x2,x3⟩
     ·exact (e x).elim
     ·exact ⟨e,x2,hq2,.inl (by simp [x3])⟩
    ·refine ⟨e,λx=>?_,hq2,.inr h⟩
     subst x; have:=hr.dm a known hl; rw [this] at h; cases h
  rcases key a q (.inl ha) hq with ⟨x1,x2⟩ | ⟨x1,x2,x3,x4⟩
  ·rcases key b q' hb hq' with ⟨y1,y2⟩ | ⟨y1,y2,y3,y4⟩
   ·rw [x1,y1]
   ·exact (y2 (hr.dj id b p q' (by simp [hl]) y4 hp y3 (by omega)).symm).elim
  ·rcases key b q' hb hq' with ⟨y1,y2⟩ | ⟨y1,y2,y3,y4⟩
   ·exact (x2 (hr.dj id a p q (by simp [hl]) x4 hp x3 (by omega)).symm).elim
   ·have hm : (look mu a).isSome:=by
     obtain ⟨c,hc⟩:=Option.isSome_iff_exists.1 ha
     rcases hlk a c hc with ⟨x,_⟩ | ⟨_,_,z3⟩
     ·exact (x1 x).elim
     ·simp [z3]
    exact hr.dj a b q q' hm y4 x3 y3 he
 ·obtain ⟨c,hc⟩:=Option.isSome_iff_exists.1 ha
  rcases hlk a c hc with ⟨rfl,_⟩ | ⟨x1,x2,x3⟩
  ·rw [upd_same] at hq; cases hq
   exact .inr ⟨id,p,by simp [hl],hp,rfl⟩
  ·exact .inr ⟨a,q,by simp [x3],by simpa [upd,x1] using hq,rfl⟩
 ·obtain ⟨c,hc⟩:=Option.isSome_iff_exists.1 ha
  rcases hlk a c hc with ⟨rfl,_⟩ | ⟨x1,x2,x3⟩
  ·exact .inr ⟨Nat.le_refl _,Nat.lt_succ_self _⟩
  ·exact .inl (by simp [x3])
theorem Rel.kill {ρ : Rho} {w : World} (hr : Rel val ρ fz mu w) (id : Nat) : Rel val ρ fz (killS mu id) w:=by
 have h : ∀ a c,look (killS mu id) a = some c → look mu a = some c:=λa c h=>by
  rw [Qdz] at h
  split at h
  ·cases h
  ·exact h
 have h' : ∀ a,(look (killS mu id) a).isSome → (look mu a).isSome:=λa ha=>by
  obtain ⟨c,hc⟩:=Option.isSome_iff_exists.1 ha
  simp [h a c hc]
 exact ⟨hr.rf,λa c hc=>hr.rm a c (h a c hc),λa c hc=>hr.dm a c (h a c hc),λa b p q ha hb=>hr.dj a b p q (h' a ha) (hb.imp (h' b) (λx=>x))⟩
end
end Go.Ev
namespace Go.Ev
section
variable {P : Program} {val : Nat → Int} {fz : Fz} {tm : TM} {mu : St} {n : Nat} {o : Oper}
theorem Fr.wider {ρ : Rho} {mu1 : St} {w w' : World} (h : Fr ρ mu1 w w') (hs : ∀ id,(look mu1 id).isSome → (look mu id).isSome) : Fr ρ mu w w' :=
 ⟨h.os,h.tape,h.output,h.size,λb hb hn=>h.keep b hb λid p hl hp=>hn id p (hs id hl) hp,h.shape⟩
theorem NewB.wider {ρ ρ' : Rho} {mu1 mu' : St} {w : World} (h : NewB ρ ρ' mu1 mu' w) (hs : ∀ id,(look mu1 id).isSome → (look mu id).isSome) : NewB ρ ρ' mu mu' w :=
 λid p hl hp=>(h id p hl hp).imp (λx=>x) λ⟨a,q,h1,h2,h3⟩=>⟨a,q,hs a h1,h2,h3⟩
theorem NewI.wider {mu1 mu' : St} {n' : Nat} (h : NewI mu1 mu' n n') (hs : ∀ id,(look mu1 id).isSome → (look mu id).isSome) : NewI mu mu' n n' :=
 λid hl=>(h id hl).imp (hs id) (λx=>x)
theorem Qif (z : Array Value) (m : Nat) : (Builtin.zeroCells z m).size = m * z.size:=by simp [Builtin.zeroCells]
structure AppT (P : Program) (c : Call) (x y : Operand) (s b : Nat) (sT xT e : TypeId) (i : TypeInfo) (zv : Value) : Prop where
 callee : c.callee = .builtin .append
 types : c.argTypes = #[sT,xT]
 args : c.args = #[x,y]
 under : P.underlying sT = some (.slice e)
 src : (∃ e',P.underlying xT = some (.slice e')) ∨ P.underlying xT = some .string
 info : P.info? e = some i
 size : i.size = s
 bytes : i.bytes = b
 zero : ∀ w,(zeroValue e).run P w = .ok zv w
 zsize : zv.cells.size = s
theorem Qja {c : Call} {x y : Operand} {s b : Nat} {sT xT e : TypeId} {i : TypeInfo} {zv : Value} (ht : AppT P c x y s b sT xT e i zv) (ho : o.op = .call c) {a : Act} {w w' : World} {v : Value}
 (h : (Builtin.append_ #[sT,xT] o.type #[a.eval x,a.eval y]).run P w = .ok v w') : (execOp a.eval o).run P w = .ok (.value v) w':=by
 simp [execOp,ho,resolve,ht.callee,invoke,builtin,ht.types,ht.args,h]
theorem Qi2 {c : Call} {x y : Operand} {x' y' : Od} {s b : Nat} {sT xT e : TypeId} {i : TypeInfo} {zv : Value} {sx sy : SV} {src : List SV} (ht : AppT P c x y s b sT xT e i zv) (ho : o.op = .call c)
 (hx : od P x = some x') (hy : od P y = some y') (ex : ev tm x' = .one sx) (ey : ev tm y' = .one sy) (hsrc : SrcOk P val fz mu s sy src 0) (hk : sx = .nsl ∨ sx = .esl ∨ ∃ id off len cap s',sx = .osl id off len cap s') : Sound P val fz tm mu n o (.one sx) mu n:=by
 refine Qdu λρ w a hr hop=>?_
 have g1:=hop x x' (by simp [ho,Op.operands,Call.operands,ht.callee,ht.args]) hx
 have g2:=hop y y' (by simp [ho,Op.operands,Call.operands,ht.callee,ht.args]) hy
 rw [ex] at g1; rw [ey] at g2
 obtain ⟨hl,_,news,hv,hf⟩:=hsrc.2 ρ w _ hr g2
 have hf0:=hf 0 (Nat.le_refl _) w (Like.refl w)
 simp only [Nat.zero_mul,List.take_zero] at hf0
 rw [← ht.size] at hf0
 refine ⟨a.eval x,Qja ht ho ?_,g1⟩
 rcases hk with rfl | rfl | ⟨id,off,len,cap,s',rfl⟩
 ·have g1' : a.eval x = .slice none 0 0:=g1
  rw [g1']
  exact append_nil ht.under ht.src ht.info (hl w) hf0
 ·obtain ⟨ad,g1'⟩:=g1
  rw [g1']
  exact Qhj ht.under ht.src ht.info (hl w) (Nat.le_refl _) hf0 (by simp [storeCells])
 ·obtain ⟨p,c',_,g1',h1,h2,_⟩:=g1
  rw [g1']
  exact Qhj ht.under ht.src ht.info (hl w) (by omega) hf0 (by simp [storeCells])
theorem Qn4 {c : Call} {x y : Operand} {x' y' : Od} {s b : Nat} {sT xT e : TypeId} {i : TypeInfo} {zv : Value} {sx sy : SV} {src : List SV} {cnt : Nat} (ht : AppT P c x y s b sT xT e i zv) (ho : o.op = .call c)
 (hx : od P x = some x') (hy : od P y = some y') (ex : ev tm x' = .one sx) (ey : ev tm y' = .one sy) (hsrc : SrcOk P val fz mu s sy src cnt) (hk : sx = .nsl ∨ sx = .esl) (h0 : cnt ≠ 0) (hroom : fits cnt b = true) :
 Sound P val fz tm mu n o (.one (.osl n 0 cnt cnt s)) ((n,src) :: mu) (n + 1):=by
 refine Qd3 (Nat.le_succ _) λρ w a hr hop hfr=>?_
 have g1:=hop x x' (by simp [ho,Op.operands,Call.operands,ht.callee,ht.args]) hx
 have g2:=hop y y' (by simp [ho,Op.operands,Call.operands,ht.callee,ht.args]) hy
 rw [ex] at g1; rw [ey] at g2
 obtain ⟨hl,_,news,hv,hf⟩:=hsrc.2 ρ w _ hr g2
 have hnl : news.length = cnt * s:=by rw [← hv.length,hsrc.1]
 have hf1:=hf cnt (Nat.le_refl _) w.drew (Like.drew w)
 rw [← hnl,List.take_length,← ht.size] at hf1
 have hbase : ∃ base : Option Addr,a.eval x = .slice base 0 0:=by
  rcases hk with rfl | rfl
  ·exact ⟨none,g1⟩
  ·obtain ⟨ad,g⟩:=g1; exact ⟨some ad,g⟩
 obtain ⟨base,hbase⟩:=hbase
 have hold : (Builtin.firstCells i.size 0 (.slice base 0 0)).run P w.drew = .ok ([] : List Value).toArray w.drew:=by
  cases base <;> simp [Builtin.firstCells,loadCells,loadCellsFrom]
 obtain ⟨newCap,rest,⟨c1,c1'⟩,c2,c3⟩:=Qj2 (P:=P) (w:=w) (ty:=o.type) (sLen:=0) (sCap:=0) (base:=base) ht.under ht.src ht.info ht.zero (hl w) (by omega) (by rw [ht.bytes]; simpa using hroom) hold hf1
 rw [← hbase] at c3
 simp only [Nat.zero_add] at c1 c2 c3
 have hn:=hfr n (Nat.le_refl _) (Nat.lt_succ_self _)
 have hsz : (([] : List Value).toArray ++ news.toArray ++ rest).size = newCap * s:=by
  rw [c2]
  simp only [Array.size_append,Qif,ht.zsize,List.size_toArray,List.length_nil,hnl]
  rw [Nat.zero_add,← Nat.add_mul]; congr 1; omega
 obtain ⟨b1,b2,b3,b4,b5,b6⟩:=Qhq (ty:=e) (Like.drew w) hr hn (cs:=src) (C:=([] : List Value).toArray ++ news.toArray ++ rest) (by rw [hsrc.1,hsz]; exact Nat.mul_le_mul_right _ c1)
  (λj s' hj=>by
   obtain ⟨v,ev',rv⟩:=hv.get hj
   refine ⟨v,?_,rv⟩
   have hlt:=(List.getElem?_eq_some_iff.1 ev').1
   rw [Array.getElem?_append_left (by simpa using hlt)]
   simpa using ev')
 refine ⟨_,_,.inl (Qja ht ho c3),_,b1,b2,⟨(w.heap.size,0),newCap,upd_same _ _ _,rfl,Nat.le_refl _,c1,?_,c1'⟩,b3,b4,b5⟩
 rw [b6,hsz]; simp
theorem Qoy {c : Call} {x y : Operand} {x' y' : Od} {s b id off len cap : Nat} {sT xT e : TypeId} {i : TypeInfo} {zv : Value} {sy : SV} {src known : List SV} {cnt : Nat} (ht : AppT P c x y s b sT xT e i zv) (ho : o.op = .call c)
 (hx : od P x = some x') (hy : od P y = some y') (ex : ev tm x' = .one (.osl id off len cap s)) (ey : ev tm y' = .one sy) (hsrc : SrcOk P val fz mu s sy src cnt) (hks : Qdo src = true) (h0 : cnt ≠ 0) (hroom : fits (len + cnt) b = true)
 (hl : look mu id = some known) (hm : mkd known = false) (hkl : known.length = off + len * s) :
 Sound P val fz tm mu n o (.one (.osl n 0 (len + cnt) (len + cnt) s)) ((n,known.drop off ++ src) :: killS mu id) (n + 1):=by
 refine Qd3 (Nat.le_succ _) λρ w a hr hop hfr=>?_
 have g1:=hop x x' (by simp [ho,Op.operands,Call.operands,ht.callee,ht.args]) hx
 have g2:=hop y y' (by simp [ho,Op.operands,Call.operands,ht.callee,ht.args]) hy
 rw [ex] at g1; rw [ey] at g2
 obtain ⟨p,cc,hp,g1',q1,q2,q3,q4⟩:=g1
 obtain ⟨hlen,_,news,hv,hf⟩:=hsrc.2 ρ w _ hr g2
 have hnl : news.length = cnt * s:=by rw [← hv.length,hsrc.1]
 have hn:=hfr n (Nat.le_refl _) (Nat.lt_succ_self _)
 by_cases hfit : len + cnt ≤ cc
 ·have hf1:=hf cnt (Nat.le_refl _) w (Like.refl w)
  rw [← hnl,List.take_length,← ht.size] at hf1
  have hfits : p.2 + off + len * s + src.length ≤ bsize w p.1:=by
   rw [hsrc.1]
   have h1 : len * s + cnt * s = (len + cnt) * s:=by rw [Nat.add_mul]
   have h2 : (len + cnt) * s ≤ cc * s:=Nat.mul_le_mul_right _ hfit
   omega
  obtain ⟨w',m1,m2,m3,m4,m5,m6,m7⟩:=Qro (P:=P) hr hl hm hn hkl hp hv (Qhx hv hks) hfits
  have hst : (storeCells ((⟨p.1,p.2 + off,none⟩ : Addr).add (len * i.size)) news).run P w = .ok () w':=by rw [addr_add,ht.size]; exact m1
  have hap:=Qhj (P:=P) (ty:=o.type) ht.under ht.src ht.info (hlen w) hfit hf1 hst
  rw [← g1'] at hap
  refine ⟨_,_,.inl (Qja ht ho hap),_,m2,m3,⟨(p.1,p.2 + off),cc,upd_same _ _ _,rfl,Nat.le_refl _,hfit,?_,q4⟩,m4,m5,m6⟩
  rw [m7]; simpa using q3
 ·have hf1:=hf cnt (Nat.le_refl _) w.drew (Like.drew w)
  rw [← hnl,List.take_length,← ht.size] at hf1
  obtain ⟨old,o1,o2,o3,o4⟩:=((hr.rm id known hl).plain hm).r.read (P:=P) hp (off:=off) (n:=len * s) (by omega)
  have hold : (Builtin.firstCells i.size len (.slice (some ⟨p.1,p.2 + off,none⟩) len cc)).run P w.drew = .ok old.toArray w.drew:=by
   have:=run_loadCells_list (P:=P) w.drew ⟨p.1,p.2 + off,none⟩ old (λj v hj=>by rw [addr_add]; exact o3 j v hj)
   rw [o1] at this
   simp only [Builtin.firstCells,ht.size]
   exact this
  have o2' : All2 (VR val ρ w) (known.drop off) old:=by
   have : (known.drop off).take (len * s) = known.drop off:=List.take_of_length_le (by simp; omega)
   rwa [this] at o2
  obtain ⟨newCap,rest,⟨c1,c1'⟩,c2,c3⟩:=Qj2 (P:=P) (w:=w) (ty:=o.type) ht.under ht.src ht.info ht.zero (hlen w) (by omega) (by rw [ht.bytes]; exact hroom) hold hf1
  rw [← g1'] at c3
  have hsz : (old.toArray ++ news.toArray ++ rest).size = newCap * s:=by
   rw [c2]
   simp only [Array.size_append,Qif,ht.zsize,List.size_toArray,hnl,o1]
   rw [← Nat.add_mul,← Nat.add_mul]; congr 1; omega
  have hall : All2 (VR val ρ w) (known.drop off ++ src) (old ++ news):=o2'.append hv
  have hkmono : ∀ a,(look (killS mu id) a).isSome → (look mu a).isSome:=λa ha=>by
   rw [Qdz] at ha
   split at ha
   ·cases ha
   ·exact ha
  obtain ⟨b1,b2,b3,b4,b5,b6⟩:=Qhq (ty:=e) (Like.drew w) (hr.kill id) hn (cs:=known.drop off ++ src) (C:=old.toArray ++ news.toArray ++ rest) (by
   rw [hsz]
   simp only [List.length_append,List.length_drop,hkl,hsrc.1]
   have : off + len * s - off + cnt * s = (len + cnt) * s:=by rw [Nat.add_mul]; omega
   rw [this]; exact Nat.mul_le_mul_right _ c1)
   (λj s' hj=>by
    obtain ⟨v,ev',rv⟩:=hall.get hj
    refine ⟨v,?_,rv⟩
    have hlt:=(List.getElem?_eq_some_iff.1 ev').1
    rw [Array.getElem?_append_left (by simpa using hlt)]
    simpa using ev')
  refine ⟨_,_,.inl (Qja ht ho c3),_,b1,b2,⟨(w.heap.size,0),newCap,upd_same _ _ _,rfl,Nat.le_refl _,c1,?_,c1'⟩,b3.wider hkmono,b4.wider hkmono,b5.wider hkmono⟩
  rw [b6,hsz]; simp
theorem Qr5 {c : Call} {x y : Operand} {x' y' : Od} {s id off len cap : Nat} {sT xT e : TypeId} {sy : SV} {src known : List SV} {cnt : Nat} (ho : o.op = .call c) (hc : c.callee = .builtin .copy) (hty : c.argTypes = #[sT,xT]) (hargs : c.args = #[x,y])
 (hu : P.underlying sT = some (.slice e)) (hs : szOf P e = some s) (hx : od P x = some x') (hy : od P y = some y') (ex : ev tm x' = .one (.osl id off len cap s)) (ey : ev tm y' = .one sy) (hsrc : SrcOk P val fz mu s sy src cnt)
 (hks : Qdo (src.take (Nat.min cnt len * s)) = true) (hl : look mu id = some known) (hm : mkd known = false) (hb : off + (src.take (Nat.min cnt len * s)).length ≤ known.length) :
 Sound P val fz tm mu n o (.one (.int .i64 (Int.ofNat (Nat.min cnt len)))) (putS mu id (over known off (src.take (Nat.min cnt len * s)))) n:=by
 refine Qd3 (Nat.le_refl _) λρ w a hr hop _=>?_
 have g1:=hop x x' (by simp [ho,Op.operands,Call.operands,hc,hargs]) hx
 have g2:=hop y y' (by simp [ho,Op.operands,Call.operands,hc,hargs]) hy
 rw [ex] at g1; rw [ey] at g2
 obtain ⟨p,cc,hp,g1',q1,q2,q3,q4⟩:=g1
 obtain ⟨hlen,_,news,hv,hf⟩:=hsrc.2 ρ w _ hr g2
 have hf1:=hf (Nat.min cnt len) (Nat.min_le_left _ _) w (Like.refl w)
 have hv':=hv.take (Nat.min cnt len * s)
 obtain ⟨q,w',e1,e2,e3,e4,e5,e6,e7⟩:=Qiw (P:=P) (n:=n) (n':=n) hr hl hm hb hv' (Qhx hv' hks)
 rw [hp] at e1; cases e1
 have hszr:=Qfi hs w
 refine ⟨.int .i64 (Int.ofNat (Nat.min cnt len)),w',.inl ?_,ρ,Ext.refl _ _ _,e3,rfl,e4,e5,e6⟩
 have hund : (underlying sT).run P w = .ok (.slice e) w:=by simp [underlying,hu]
 have key : (Builtin.copy_ #[sT,xT] o.type #[.slice (some ⟨p.1,p.2 + off,none⟩) len cc,a.eval y]).run P w = .ok (goInt (Nat.min cnt len)) w':=by
  simp only [Builtin.copy_,List.getElem?_toArray,List.getElem?_cons_zero,List.getElem?_cons_succ,Sem.run_bind,hund,Result.andThen_ok,hlen w,hszr,hf1,e2,Sem.run_pure]
 rw [← g1'] at key
 simp [execOp,ho,resolve,hc,invoke,builtin,hty,hargs,key,goInt]
end
end Go.Ev
namespace Go.Ev
section
variable {R : Type} {T : R → Prop} {z : R} {P : Program} {val : Nat → Int} {fz : Fz} {tm : TM} {mu : St} {n : Nat} {o : Oper}
def Qey (T : R → Prop) (P : Program) (val : Nat → Int) (call : CallT R) : Prop :=
 ∀ f args fz mu n k, T (call f args fz mu n k) → ∃ v mu' n', T (k v mu' n') ∧ Qgb P f = true ∧ n ≤ n' ∧ ∀ ρ w (xs : List Value), Rel val ρ fz mu w → All2 (AVR val ρ w) args xs → Qfd ρ n n' →
   Calls P f xs.toArray w λe w'=>∃ x,e = .returned x ∧ Post val ρ fz mu n w v mu' n' x w'
theorem Qjr {n0 m : Nat} : ∀ {s : St} {k : St → R}, T (keepM n0 m s k) → ∃ s', T (k s') ∧ ∀ id, look s' id = if Nat.ble n0 id && !(bitIs n0 m id) then none else look s id
 | [],k,h=>⟨[],h,λid=>by simp [look_nil]⟩
 | p :: s, k, h => by
  have h' : T (cond (Nat.ble n0 p.1) (cond (bitIs n0 m p.1) (keepM n0 m s λr=>k (p :: r)) (keepM n0 m s k)) (keepM n0 m s λr=>k (p :: r))):=h
  have yes : (Nat.ble n0 p.1 && !(bitIs n0 m p.1)) = false → T (keepM n0 m s λr=>k (p :: r)) → ∃ s',T (k s') ∧ ∀ id,look s' id = if Nat.ble n0 id && !(bitIs n0 m id) then none else look (p :: s) id:=by
   intro hp h
   obtain ⟨s',h1,h2⟩:=Qjr (k:=λr=>k (p :: r)) h
   refine ⟨p :: s',h1,λid=>?_⟩
   rw [Qd1,Qd1,h2]
   by_cases he : p.1 = id
   ·subst he; simp only [if_true,hp,Bool.false_eq_true,if_false]
   ·simp only [he,if_false]
  cases e1 : Nat.ble n0 p.1 with
  | false=>rw [e1] at h'; exact yes (by rw [e1]; rfl) h'
  | true =>
   rw [e1] at h'
   cases e2 : bitIs n0 m p.1 with
   | true=>rw [e2] at h'; exact yes (by rw [e1,e2]; rfl) h'
   | false =>
    rw [e2] at h'
    obtain ⟨s',h1,h2⟩:=Qjr h'
    refine ⟨s',h1,λid=>?_⟩
    rw [Qd1,h2]
    by_cases he : p.1 = id
    ·subst he; simp [e1,e2]
    ·simp only [he,if_false]
theorem Qjg {n0 : Nat} : ∀ {l : List (Nat × Nat)} {m : Nat} {k : Nat → R},T (capsM n0 l m k) → ∃ m,T (k m)
 | [],m,k,h=>⟨m,h⟩
 | p :: l,m,k,h=>by
  have h' : T (cond (Nat.ble n0 p.1) (fN (Nat.lor m (Nat.shiftLeft 1 (Nat.sub p.1 n0))) λm=>capsM n0 l m k) (capsM n0 l m k)):=h
  cases e : Nat.ble n0 p.1 with
  | true=>rw [e] at h'; have h'' : T (fN (Nat.lor m (Nat.shiftLeft 1 (Nat.sub p.1 n0))) λm=>capsM n0 l m k):=h'; rw [fN_eq] at h''; exact Qjg h''
  | false=>rw [e] at h'; exact Qjg h'
theorem Qfg {n0 : Nat} : ∀ {l : List SV} {m : Nat} {k : Nat → R},T (idsM n0 l m k) → ∃ m,T (k m)
 | [],m,k,h=>⟨m,h⟩
 | v :: l, m, k, h => by
  have bit : ∀ id,T (bitK n0 id m λm=>idsM n0 l m k) → ∃ m,T (k m):=by
   intro id h
   have h' : T (cond (Nat.ble n0 id) (fN (Nat.lor m (Nat.shiftLeft 1 (Nat.sub id n0))) λm=>idsM n0 l m k) (idsM n0 l m k)):=h
   cases e : Nat.ble n0 id with
   | true=>rw [e] at h'; have h'' : T (fN (Nat.lor m (Nat.shiftLeft 1 (Nat.sub id n0))) λm=>idsM n0 l m k):=h'; rw [fN_eq] at h''; exact Qfg h''
   | false=>rw [e] at h'; exact Qfg h'
  cases v with
  | optr id o=>exact bit id h
  | osl id o a b c=>exact bit id h
  | mp id=>exact bit id h
  | fn f cs =>
   obtain ⟨m',h1⟩:=Qjg (show T (capsM n0 cs m λm=>idsM n0 l m k) from h)
   exact Qfg h1
  | _=>exact Qfg (l:=l) h
theorem Qrj {n0 : Nat} {v : AV} {k : Nat → R} (h : T (v.idsM n0 k)) : ∃ m, T (k m) := by
 cases v with
 | one s=>exact Qfg (l:=[s]) h
 | ag l=>exact Qfg (l:=l) h
 | tp l =>
  have key : ∀ (l : List CV) (m : Nat),T (List.rec (motive:=λ_=>Nat → R) k (λc _ ih m=>CV.rec (motive:=λ_=>R) (λs=>Ev.idsM n0 [s] m ih) (λl=>Ev.idsM n0 l m ih) c) l m) → ∃ m,T (k m):=by
   intro l
   induction l with
   | nil=>exact λm h=>⟨m,h⟩
   | cons c l ih =>
    intro m h
    cases c with
    | one s=>obtain ⟨m',h1⟩:=Qfg (l:=[s]) h; exact ih m' h1
    | ag l'=>obtain ⟨m',h1⟩:=Qfg (l:=l') h; exact ih m' h1
  exact key l 0 h
theorem Qip {n0 : Nat} : ∀ {s : St} {m : Nat} {k : Nat → R},T (Qqw n0 s m k) → ∃ m,T (k m)
 | [],m,k,h=>⟨m,h⟩
 | p :: s,m,k,h=>by
  have h' : T (cond (Nat.ble n0 p.1) (Qqw n0 s m k) (idsM n0 p.2 m λm=>Qqw n0 s m k)):=h
  cases e : Nat.ble n0 p.1 with
  | true=>rw [e] at h'; exact Qip (s:=s) h'
  | false=>rw [e] at h'; obtain ⟨m',h1⟩:=Qfg h'; exact Qip (s:=s) h1
theorem Qh9 {n0 : Nat} : ∀ {s : St} {m : Nat} {k : Nat → R},T (passM n0 s m k) → ∃ m,T (k m)
 | [],m,k,h=>⟨m,h⟩
 | p :: s, m, k, h => by
  have h' : T (cond (Nat.ble n0 p.1) (cond (bitIs n0 m p.1) (idsM n0 p.2 m λm=>passM n0 s m k) (passM n0 s m k)) (passM n0 s m k)):=h
  cases e : Nat.ble n0 p.1 with
  | false=>rw [e] at h'; exact Qh9 (s:=s) h'
  | true =>
   rw [e] at h'
   cases e2 : bitIs n0 m p.1 with
   | false=>rw [e2] at h'; exact Qh9 (s:=s) h'
   | true=>rw [e2] at h'; obtain ⟨m',h1⟩:=Qfg h'; exact Qh9 (s:=s) h1
theorem Qol {n0 : Nat} {s : St} : ∀ {d m : Nat} {k : Nat → R},T (fixM n0 s d m k) → ∃ m,T (k m)
 | 0,m,k,h=>⟨m,h⟩
 | d + 1,m,k,h=>by
  obtain ⟨m',h1⟩:=Qh9 (show T (passM n0 s m λm'=>cond (Nat.beq m m') (k m) (fixM n0 s d m' k)) from h)
  cases e : Nat.beq m m' with
  | true=>rw [e] at h1; exact ⟨m,h1⟩
  | false=>rw [e] at h1; exact Qol h1
theorem Qpf {n0 : Nat} {v : AV} {s : St} {k : St → R} (h : T (sweepK n0 v s k)) : ∃ s',T (k s') ∧ ∀ id c,look s' id = some c → look s id = some c:=by
 obtain ⟨m1,h1⟩:=Qrj h
 obtain ⟨m2,h2⟩:=Qip h1
 obtain ⟨m3,h3⟩:=Qol h2
 obtain ⟨s',h4,h5⟩:=Qjr h3
 refine ⟨s',h4,λid c hc=>?_⟩
 rw [h5] at hc
 split at hc
 ·cases hc
 ·exact hc
theorem Qpl {sw : Bool} {n0 : Nat} {v : AV} {s : St} {k : St → R} (h : T (sweepG sw n0 v s k)) : ∃ s',T (k s') ∧ ∀ id c,look s' id = some c → look s id = some c:=by
 cases sw with
 | true=>exact Qpf h
 | false=>exact ⟨s,h,λ_ _ h=>h⟩
theorem Qml {l : List Od} {c : List AV} {k : List AV → R} : argsK tm l c k = k (l.map (ev tm) ++ c):=by
 induction l generalizing k with
 | nil=>rfl
 | cons h t ih=>exact ih
theorem Qtr {ρ : Rho} {w : World} {cs : List (Nat × Nat)} {vs : List Value} (h : All2 (CapR ρ) cs vs) : All2 (AVR val ρ w) (Qgy cs) vs:=by
 induction cs generalizing vs with
 | nil=>cases vs with
  | nil=>trivial
  | cons _ _=>exact h.elim
 | cons c cs ih=>cases vs with
  | nil=>exact h.elim
  | cons v vs =>
   obtain ⟨q,hq,e⟩:=h.1
   exact ⟨⟨q,hq,e⟩,ih h.2⟩
theorem Rel.ro {ρ : Rho} {w : World} (hr : Rel val ρ fz mu w) : Rel val ρ (with' mu fz) [] w:=by
 refine ⟨λid cs h=>?_,λid cs h=>(by cases h),λid cs h=>(by cases h),λid id' p p' h=>(by cases h)⟩
 rw [Qd6] at h
 cases e : look mu id with
 | some c=>rw [e] at h; simp only [Option.some.injEq] at h; subst h; exact (hr.rm id c e).f
 | none=>rw [e] at h; exact hr.rf id cs h
theorem join_new {ρ ρ' : Rho} {w w' : World} {new new' : St} {n' : Nat} (hr : Rel val ρ fz mu w) (he : Ext ρ ρ' n n') (hr' : Rel val ρ' (with' mu fz) new w') (hf : Fr ρ [] w w') (hb : NewB ρ ρ' [] new w) (hi : NewI [] new n n')
 (hsub : ∀ id c,look new' id = some c → look new id = some c) :
 Rel val ρ' fz (new' ++ mu) w' ∧ Fr ρ mu w w' ∧ NewB ρ ρ' mu (new' ++ mu) w ∧ NewI mu (new' ++ mu) n n':=by
 have hsubI : ∀ id,(look new' id).isSome → (look new id).isSome:=λid h=>by
  obtain ⟨c,hc⟩:=Option.isSome_iff_exists.1 h; simp [hsub id c hc]
 have hlk : ∀ id c,look (new' ++ mu) id = some c → look new id = some c ∨ look mu id = some c:=λid c h=>by
  rw [Qd2] at h
  cases e : look new' id with
  | some d=>rw [e] at h; simp only [Option.some.injEq] at h; subst h; exact .inl (hsub id d e)
  | none=>rw [e] at h; exact .inr h
 have hlkI : ∀ id,(look (new' ++ mu) id).isSome → (look new id).isSome ∨ (look mu id).isSome:=λid h=>by
  obtain ⟨c,hc⟩:=Option.isSome_iff_exists.1 h
  rcases hlk id c hc with h | h
  ·exact .inl (by simp [h])
  ·exact .inr (by simp [h])
 have hw : ∀ id c,look mu id = some c → with' mu fz id = some c:=λid c h=>by rw [Qd6,h]
 have hwf : ∀ id c,fz id = some c → with' mu fz id = some c:=λid c h=>by
  rw [Qd6]
  cases e : look mu id with
  | some d=>rw [hr.dm id d e] at h; cases h
  | none=>exact h
 have hwI : ∀ id,((look mu id).isSome ∨ (fz id).isSome) → (with' mu fz id).isSome:=λid h=>by
  rcases h with h | h
  ·obtain ⟨c,hc⟩:=Option.isSome_iff_exists.1 h; simp [hw id c hc]
  ·obtain ⟨c,hc⟩:=Option.isSome_iff_exists.1 h; simp [hwf id c hc]
 refine ⟨⟨λid c h=>hr'.rf id c (hwf id c h),λid c h=>?_,λid c h=>?_,λa b p q ha hb' hp hq hpq=>?_⟩,hf.wider (λid h=>(by cases h)),λid p hl hp=>?_,λid hl=>?_⟩
 ·rcases hlk id c h with h | h
  ·exact hr'.rm id c h
  ·exact (hr.rm id c h).mono he.old hf.shape λp hp=>hf.keep _ ((hr.rm id c h).lt hp) λid p hl=>(by cases hl)
 ·rcases hlk id c h with h | h
  ·have:=hr'.dm id c h
   rw [Qd6] at this
   cases e : look mu id with
   | some d=>rw [e] at this; cases this
   | none=>rw [e] at this; exact this
  ·exact hr.dm id c h
 ·have hb2 : (look new b).isSome ∨ (with' mu fz b).isSome:=by
   rcases hb' with h | h
   ·rcases hlkI b h with h | h
    ·exact .inl h
    ·exact .inr (hwI b (.inl h))
   ·exact .inr (hwI b (.inr h))
  rcases hlkI a ha with h | h
  ·exact hr'.dj a b p q h hb2 hp hq hpq
  ·rcases hb2 with h2 | h2
   ·exact (hr'.dj b a q p h2 (.inr (hwI a (.inl h))) hq hp hpq.symm).symm
   ·have hb3 : (look mu b).isSome ∨ (fz b).isSome:=by
     rw [Qd6] at h2
     cases e : look mu b with
     | some d=>exact .inl rfl
     | none=>rw [e] at h2; exact .inr h2
    have old : ∀ x y,((look mu x).isSome ∨ (fz x).isSome) → ρ' x = some y → ρ x = some y:=by
     intro x y hx hxy
     have : ∃ y',ρ x = some y':=by
      rcases hx with hx | hx
      ·obtain ⟨c,hc⟩:=Option.isSome_iff_exists.1 hx
       obtain ⟨p,o,h1,_⟩:=(hr.rm x c hc).at; exact ⟨p,h1⟩
      ·obtain ⟨c,hc⟩:=Option.isSome_iff_exists.1 hx
       obtain ⟨p,o,h1,_⟩:=(hr.rf x c hc).at; exact ⟨p,h1⟩
     obtain ⟨y',hy'⟩:=this
     have:=he.old x y' hy'
     rw [hxy] at this; cases this; exact hy'
    exact hr.dj a b p q h hb3 (old a p (.inl h) hp) (old b q hb3 hq) hpq
 ·rcases hlkI id hl with h | h
  ·rcases hb id p h hp with h1 | ⟨_,_,h1,_⟩
   ·exact .inl h1
   ·cases h1
  ·obtain ⟨c,hc⟩:=Option.isSome_iff_exists.1 h
   obtain ⟨q,o,h1,_⟩:=(hr.rm id c hc).at
   have:=he.old id q h1
   rw [hp] at this; cases this
   exact .inr ⟨id,p,h,h1,rfl⟩
 ·rcases hlkI id hl with h | h
  ·rcases hi id h with h1 | h1
   ·cases h1
   ·exact .inr h1
  ·exact .inl h
theorem Qrw {call : CallT R} (hz : ¬ T z) (hc : Qey T P val call) {ro : Bool} {c : Call} {f : Operand} {f' : Od} {ys : List Od} {k : KT R} (ho : o.op = .call c) (hcal : c.callee = .value f) (hf : od P f = some f') (hys : ods P c.args.toList = some ys)
 {orc : Orc R} (h : T (oCall orc z call fz tm mu n ro f' ys k)) : ∃ v mu' n',T (k v mu' n') ∧ Sound P val fz tm mu n o v mu' n':=by
 obtain ⟨s,e1,h1⟩:=Qdn hz h
 obtain ⟨g,cs,e2,h2⟩:=Qsv hz h1
 subst e2
 rw [Qml] at h2
 have exec : ∀ (ρ : Rho) (w : World) (a : Act),OperR P val ρ w tm a o.op → Qgb P g = true → ∃ xs : List Value,All2 (AVR val ρ w) (ys.map (ev tm) ++ Qgy cs) xs ∧ (execOp a.eval o).run P w = .ok (.enter g xs.toArray) w:=by
  intro ρ w a hop hb
  have gf:=hop f f' (by simp [ho,Op.operands,Call.operands,hcal]) hf
  rw [e1] at gf
  obtain ⟨vs,gf',hvs⟩:=gf
  have hR:=ods_R (val:=val) (tm:=tm) (a:=a) hys λx y hx' hy=>hop x y (by simp [ho,Op.operands,Call.operands,hcal]; exact .inr (Array.mem_toList_iff.1 hx')) hy
  refine ⟨c.args.toList.map a.eval ++ vs,hR.append (Qtr hvs),?_⟩
  unfold Qgb at hb
  cases hg : P.funcs[g]? with
  | none=>rw [hg] at hb; cases hb
  | some fn =>
   rw [hg] at hb
   simp only [Bool.and_eq_true,Bool.not_eq_true'] at hb
   have hbn : ¬ fn.body = none:=by cases hbd : fn.body <;> simp_all
   have hnm : ¬ fn.name = "runtime.NumGoroutine" := by have := hb.2; simpa using this
   have harr : c.args.map a.eval ++ vs.toArray = (c.args.toList.map a.eval ++ vs).toArray:=by
    apply Array.ext'; simp
   simp [execOp,ho,resolve,hcal,gf',Deferred.ofValue,invoke,callFunc,hg,hnm,hbn,harr]
 cases ro with
 | false =>
  obtain ⟨v,mu',n',q1,q2,q3,q4⟩:=hc g _ fz mu n k h2
  refine ⟨v,mu',n',q1,q3,λρ w a hr hop hfr K Q hK=>?_⟩
  obtain ⟨xs,x1,x2⟩:=exec ρ w a hop q2
  unfold Oper.wp
  rw [x2]
  refine (q4 ρ w xs hr x1 hfr).mono ?_
  rintro e w' ⟨x,rfl,hp⟩
  exact hK x w' hp
 | true =>
  obtain ⟨v,new,n',q1,q2,q3,q4⟩:=hc g _ (with' mu fz) [] n _ h2
  obtain ⟨new',q5,q6⟩:=Qpl q1
  rw [Qgu] at q5
  refine ⟨v,new' ++ mu,n',q5,q3,λρ w a hr hop hfr K Q hK=>?_⟩
  obtain ⟨xs,x1,x2⟩:=exec ρ w a hop q2
  unfold Oper.wp
  rw [x2]
  refine (q4 ρ w xs hr.ro x1 hfr).mono ?_
  rintro e w' ⟨x,rfl,ρ',p1,p2,p3,p4,p5,p6⟩
  obtain ⟨r1,r2,r3,r4⟩:=join_new hr p1 p2 p4 p5 p6 q6
  exact hK x w' ⟨ρ',p1,r1,p3,r2,r3,r4⟩
end
end Go.Ev
namespace Go.Ev
section
variable {val : Nat → Int} {ρ : Rho} {fz : Fz} {mu : St} {w : World} {n n' : Nat}
theorem Qje {w' : World} {cs : List SV} (hos : w'.os = w.os) (htp : w'.tape = w.tape) (hou : w'.output = w.output) (hsz : w'.heap.size = w.heap.size + 1) (hold : ∀ b, b < w.heap.size → w'.heap[b]? = w.heap[b]?)
 (hr : Rel val ρ fz mu w) (hn : ρ n = none) (hown : (∀ b,bsize w b ≤ bsize w' b) → OwnG val (upd ρ n (w.heap.size,0)) w' n cs) :
 Ext ρ (upd ρ n (w.heap.size,0)) n (n + 1) ∧ Rel val (upd ρ n (w.heap.size,0)) fz ((n,cs) :: mu) w' ∧ Fr ρ mu w w' ∧
  NewB ρ (upd ρ n (w.heap.size,0)) mu ((n,cs) :: mu) w ∧ NewI mu ((n,cs) :: mu) n (n + 1):=by
 have hbs : ∀ b,bsize w b ≤ bsize w' b:=λb=>by
  by_cases hb : b < w.heap.size
  ·unfold bsize; rw [hold b hb]; exact Nat.le_refl _
  ·have : bsize w b = 0:=by unfold bsize; rw [Array.getElem?_eq_none (by omega)]
   omega
 have hown:=hown hbs
 have hup:=λid q hq=>Qlh (p:=(w.heap.size,0)) hn id q hq
 have keepOwn : ∀ id c,OwnG val ρ w id c → OwnG val (upd ρ n (w.heap.size,0)) w' id c:=λid c ho =>
  ho.mono hup hbs λp hp=>hold _ (ho.lt hp)
 have keepF : ∀ id c,OwnF val ρ w id c → OwnF val (upd ρ n (w.heap.size,0)) w' id c:=λid c ho =>
  ho.mono hup hbs λp hp=>hold _ (ho.lt hp)
 have hfn : fz n = none:=by
  cases e : fz n with
  | none=>rfl
  | some c=>obtain ⟨p,o,h1,_⟩:=(hr.rf n c e).at; rw [hn] at h1; cases h1
 have hmn : look mu n = none:=by
  cases e : look mu n with
  | none=>rfl
  | some c=>obtain ⟨p,o,h1,_⟩:=(hr.rm n c e).at; rw [hn] at h1; cases h1
 refine ⟨Qpv hn,⟨λid c h=>keepF id c (hr.rf id c h),λid c h=>?_,λid c h=>?_,λid id' p p' h h' hp hp' he=>?_⟩,
  ⟨hos,htp,hou,by omega,λb hb _=>hold b hb,hbs⟩,λid p h hp=>?_,λid h=>?_⟩
 ·rw [Qd1] at h
  split at h
  ·rename_i e
   cases h
   subst e
   exact hown
  ·exact keepOwn id c (hr.rm id c h)
 ·rw [Qd1] at h
  split at h
  ·rename_i e; subst e; exact hfn
  ·exact hr.dm id c h
 ·have key : ∀ id p,((look ((n,cs) :: mu) id).isSome ∨ (fz id).isSome) → upd ρ n (w.heap.size,0) id = some p → id = n ∧ p.1 = w.heap.size ∨ id ≠ n ∧ ρ id = some p ∧ ((look mu id).isSome ∨ (fz id).isSome) ∧ p.1 < w.heap.size:=by
   intro id p h hp
   by_cases e : id = n
   ·left; subst e; rw [upd_same] at hp; cases hp; exact ⟨rfl,rfl⟩
   ·right
    have hp' : ρ id = some p:=by simpa [upd,e] using hp
    have hl' : (look mu id).isSome ∨ (fz id).isSome:=by
     rcases h with h | h
     ·rw [Qd1] at h
      simp only [show ¬ n = id from λx=>e x.symm,if_false] at h
      exact .inl h
     ·exact .inr h
    refine ⟨e,hp',hl',?_⟩
    rcases hl' with h | h
    ·obtain ⟨c,hc⟩:=Option.isSome_iff_exists.1 h; exact (hr.rm id c hc).lt hp'
    ·obtain ⟨c,hc⟩:=Option.isSome_iff_exists.1 h; exact (hr.rf id c hc).lt hp'
  rcases key id p (.inl h) hp with ⟨e1,e2⟩ | ⟨e1,e2,e3,e4⟩
  ·rcases key id' p' h' hp' with ⟨f1,f2⟩ | ⟨f1,f2,f3,f4⟩
   ·rw [e1,f1]
   ·omega
  ·rcases key id' p' h' hp' with ⟨f1,f2⟩ | ⟨f1,f2,f3,f4⟩
   ·omega
   ·have hm : (look mu id).isSome:=by
     rw [Qd1] at h
     simpa [show ¬ n = id from λx=>e1 x.symm] using h
    exact hr.dj id id' p p' hm f3 e2 f2 he
 ·rw [Qd1] at h
  by_cases e : id = n
  ·subst e; rw [upd_same] at hp; cases hp; exact .inl (Nat.le_refl _)
  ·simp only [show ¬ n = id from λx=>e x.symm,if_false] at h
   exact .inr ⟨id,p,h,by simpa [upd,e] using hp,rfl⟩
 ·rw [Qd1] at h
  by_cases e : id = n
  ·subst e; exact .inr ⟨Nat.le_refl _,Nat.lt_succ_self _⟩
  ·simp only [show ¬ n = id from λx=>e x.symm,if_false] at h
   exact .inl h
theorem Qls {w' : World} {id : Nat} {cs cs' : List SV} {p : Nat × Nat} (hr : Rel val ρ fz mu w) (hl : look mu id = some cs) (hp : ρ id = some p) (hos : w'.os = w.os) (htp : w'.tape = w.tape) (hou : w'.output = w.output)
 (hsz : w'.heap.size = w.heap.size) (hother : ∀ b,b ≠ p.1 → w'.heap[b]? = w.heap[b]?) (hbs : ∀ b,bsize w b ≤ bsize w' b) (hown : OwnG val ρ w' id cs') :
 Rel val ρ fz (putS mu id cs') w' ∧ Fr ρ mu w w' ∧ NewB ρ ρ mu (putS mu id cs') w ∧ NewI mu (putS mu id cs') n n':=by
 have hlk : ∀ id',(look (putS mu id cs') id').isSome = (look mu id').isSome:=by
  intro id'
  rw [Qdm]
  split
  ·subst_vars; simp [hl]
  ·rfl
 have keepOwn : ∀ id' c,id' ≠ id → ((look mu id').isSome ∨ (fz id').isSome) → OwnG val ρ w id' c → OwnG val ρ w' id' c:=by
  intro id' c hne hlv hown
  refine hown.mono (λ_ _ h=>h) hbs λq hq=>hother _ λe=>hne ?_
  exact (hr.dj id id' p q (by simp [hl]) hlv hp hq e.symm).symm
 have keepF : ∀ id' c,id' ≠ id → ((look mu id').isSome ∨ (fz id').isSome) → OwnF val ρ w id' c → OwnF val ρ w' id' c:=by
  intro id' c hne hlv hown
  refine hown.mono (λ_ _ h=>h) hbs λq hq=>hother _ λe=>hne ?_
  exact (hr.dj id id' p q (by simp [hl]) hlv hp hq e.symm).symm
 refine ⟨⟨λid' c h=>?_,λid' c h=>?_,λid' c h=>?_,λa b q q' ha hb hq hq' he=>?_⟩,
  ⟨hos,htp,hou,by omega,λb _ hb=>hother b λe=>hb id p (by simp [hl]) hp e.symm,hbs⟩,λa q ha hq=>.inr ⟨a,q,by rwa [hlk] at ha,hq,rfl⟩,λa ha=>.inl (by rwa [hlk] at ha)⟩
 ·refine keepF id' c (λe=>?_) (.inr (by simp [h])) (hr.rf id' c h)
  subst e; have:=hr.dm id' cs hl; rw [this] at h; cases h
 ·rw [Qdm] at h
  split at h
  ·rename_i e; subst e
   simp only [hl,Option.map_some,Option.some.injEq] at h
   subst h
   exact hown
  ·rename_i e
   exact keepOwn id' c (λx=>e x.symm) (.inl (by simp [h])) (hr.rm id' c h)
 ·have:=hlk id'
  rw [h] at this
  obtain ⟨c',hc'⟩:=Option.isSome_iff_exists.1 this.symm
  exact hr.dm id' c' hc'
 ·rw [hlk] at ha hb
  exact hr.dj a b q q' ha hb hq hq' he
def Qft (bs : List UInt8) : List Value:=bs.map λb=>.int .u8 (Int.ofNat b.toNat)
theorem Qti {bs : List UInt8} {xs : List Value} (h : All2 (VR val ρ w) (Qf6 bs) xs) : xs = Qft bs:=by
 induction bs generalizing xs with
 | nil=>cases xs with
  | nil=>rfl
  | cons _ _=>exact h.elim
 | cons b bs ih=>cases xs with
  | nil=>exact h.elim
  | cons x xs =>
   have h1 : x = .int .u8 (Int.ofNat b.toNat):=h.1
   rw [h1,ih h.2]; rfl
theorem Qpp (bs : List UInt8) : All2 (VR val ρ w) (Qf6 bs) (Qft bs):=by
 induction bs with
 | nil=>trivial
 | cons b bs ih=>exact ⟨rfl,ih⟩
theorem Qoq : ∀ (bs : List UInt8) (s : ByteArray),((bs.map λb=>Int.ofNat b.toNat).foldl (λr n=>r.push (UInt8.ofNat n.toNat)) s).data.toList = s.data.toList ++ bs
 | [],s=>by simp
 | b :: bs, s => by
  simp only [List.map_cons,List.foldl_cons]
  rw [Qoq bs]
  have : (s.push (UInt8.ofNat (Int.ofNat b.toNat).toNat)).data.toList = s.data.toList ++ [b]:=by
   show (s.data.push _).toList = _
   simp
  rw [this]; simp
theorem fold_sOf (bs : List UInt8) : (bs.map λb=>Int.ofNat b.toNat).foldl (λr n=>r.push (UInt8.ofNat n.toNat)) ByteArray.empty = sOf bs.length (nOf bs):=by
 apply ByteArray.ext
 apply Array.ext'
 rw [Qoq]
 show [] ++ bs = sB _ _
 rw [Qsp]; rfl
end
section
variable {P : Program} {val : Nat → Int} {fz : Fz} {tm : TM} {mu : St} {n : Nat} {o : Oper}
theorem Quh {t u e : TypeId} {x : Operand} {y : Od} {sv : SV} {m : Nat} {bs : List UInt8} (ho : o.op = .convert t u x) (ht : P.underlying t = some (.slice e)) (he : P.underlying e = some (.int .u8)) (hu : P.underlying u = some .string)
 (hx : od P x = some y) (ex : ev tm y = .one sv) (hns : sv.isStr = false) (hun : sv ≠ .un) (hs : SrcOk P val fz mu 1 sv (Qf6 bs) m) : Sound P val fz tm mu n o (.one (.str m (nOf bs))) mu n:=by
 refine Qdu λρ w act hr hop=>?_
 have g:=hop x y (by simp [ho,Op.operands]) hx
 rw [ex] at g
 obtain ⟨h1,h2⟩:=hs
 have hm : bs.length = m:=by simpa [Qf6] using h1
 obtain ⟨hl,hk,news,hv,hf⟩:=h2 ρ w _ hr g
 have hn:=Qti hv
 subst hn
 obtain ⟨a,l,c,hval⟩ : ∃ a l c,act.eval x = .slice a l c:=by
  rcases hk with h | ⟨b,hb⟩
  ·exact h
  ·exfalso
   have g' : VR val ρ w sv (act.eval x):=g
   rw [hb] at g'
   cases sv with
   | un=>exact hun rfl
   | str=>cases hns
   | optr=>obtain ⟨p,_,e⟩:=g'; cases e
   | osl=>obtain ⟨p,c,_,e,_⟩:=g'; cases e
   | esl=>obtain ⟨p,e⟩:=g'; cases e
   | zsl=>obtain ⟨p,c,e⟩:=g'; cases e
   | fn=>obtain ⟨p,e,_⟩:=g'; cases e
   | mp=>obtain ⟨p,_,_,e⟩:=g'; cases e
   | mk=>exact g'.elim
   | _=>cases g'
 have hl':=hl w
 rw [hval] at hl'
 have hf':=hf m (Nat.le_refl _) w (Like.refl w)
 rw [hval] at hf'
 have hll : l = m:=by
  have : (Builtin.lenOf (.slice a l c)).run P w = .ok l w:=rfl
  rw [this] at hl'; cases hl'; rfl
 subst hll
 have htk : (Qft bs).take (l * 1) = Qft bs:=List.take_of_length_le (by simp [Qft]; omega)
 rw [htk] at hf'
 refine ⟨.string (sOf l (nOf bs)),?_,?_,rfl⟩
 ·have hconv : (Conv.bytesToString (.slice a l c)).run P w = .ok (.string (sOf l (nOf bs))) w:=by
   cases a with
   | none =>
    have h0 : (Qft bs).toArray = #[]:=by
     have : (Builtin.firstCells 1 l (.slice none l c)).run P w = .ok #[] w:=rfl
     rw [this] at hf'
     injection hf' with h1 h2
     exact h1.symm
    have hb0 : bs = []:=by
     have:=congrArg Array.size h0
     simpa [Qft] using this
    subst hb0
    simp at hm
    subst hm
    rfl
   | some ad =>
    have hlc : (loadCells ad l).run P w = .ok ((bs.map λb=>Int.ofNat b.toNat).map (Value.int .u8)).toArray w:=by
     have : (Builtin.firstCells 1 l (.slice (some ad) l c)).run P w = (loadCells ad (l * 1)).run P w:=rfl
     rw [this,Nat.mul_one] at hf'
     rw [hf']
     simp [Qft]
    rw [run_bytesToString w ad l c _ hlc,fold_sOf,hm]
  simp only [execOp,ho,hval,Sem.run_bind,run_convert_bytes_string w t u e a l c ht he hu,hconv]
  rfl
 ·have:=Ql3 bs; rwa [hm] at this
theorem Qt6 (hs2b : s2bOk = true) {t u e : TypeId} {x : Operand} {y : Od} {l b : Nat} (ho : o.op = .convert t u x) (ht : P.underlying t = some .string) (hu : P.underlying u = some (.slice e)) (he : P.underlying e = some (.int .u8))
 (hx : od P x = some y) (ex : ev tm y = .one (.str l b)) (hroom : l ≤ 140737488355328) : Sound P val fz tm mu n o (.one (.osl n 0 l l 1)) ((n,Qf6 (sB l b)) :: mu) (n + 1):=by
 refine Qd3 (Nat.le_succ _) λρ w act hr hop hfr=>?_
 have g:=hop x y (by simp [ho,Op.operands]) hx
 rw [ex] at g
 obtain ⟨hb,g'⟩:=g
 have hsz : (sOf l b).size = l:=Qf3 l b
 generalize hnc : Question.cut (.appendCap l 0 e) (w.tape w.drawn (.appendCap l 0 e)) = cap
 have hle : l ≤ cap:=by rw [← hnc]; simp only [Question.cut]; omega
 have hmx : cap ≤ 9223372036854775807:=by
  rw [← hnc]
  simp only [Question.cut]
  have:=Nat.mod_lt (w.tape w.drawn (.appendCap l 0 e)) (show 0 < 2 ^ 63 - l by omega)
  omega
 have hch : (choose (.appendCap (sOf l b).size 0 e)).run P w = .ok cap w.drew:=by
  rw [hsz,run_choose]; simp only [Question.forced,Bool.false_eq_true,if_false,hnc]; rfl
 generalize hC : ((sOf l b).data.map (λ(x : UInt8)=>(Value.int .u8 x.toNat)) ++ Array.replicate (cap - (sOf l b).size) (Value.int .u8 0)) = C
 have hCs : C.size = cap:=by rw [← hC]; simp only [Array.size_append,Array.size_map,Array.size_replicate]; rw [hsz]; show (sOf l b).size + _ = _; rw [hsz]; omega
 have hCget : ∀ (i : Nat) (v : Value),(Qft (sB l b))[i]? = some v → C[i]? = some v:=by
  intro i v hi
  have hlt : i < l:=by
   have:=(List.getElem?_eq_some_iff.1 hi).1
   simpa [Qft,Qeh] using this
  rw [← hC,Array.getElem?_append_left (by rw [Array.size_map]; show i < (sOf l b).size; rw [hsz]; exact hlt)]
  simp only [Qft,List.getElem?_map,Array.getElem?_map] at hi ⊢
  rw [← Array.getElem?_toList]
  show Option.map _ (sB l b)[i]? = _
  rw [← hi]; rfl
 have hn:=hfr n (Nat.le_refl _) (Nat.lt_succ_self _)
 let w1:=w.drew.alloc (.cells C e)
 have hheap : w1.heap[w.heap.size]? = some (.cells C e (0,0)):=Qiy (w:=w.drew) (.cells C e)
 let w2 : World:={ w1 with heap:=w1.heap.modify w.heap.size fun | .cells c elem (lo,hi)=>.cells c elem (if lo == hi then (C.size,C.size + 1) else (min lo C.size,max hi (C.size + 1))) | o=>o }
 have hlt1 : w.heap.size < w1.heap.size:=by show w.heap.size < (w.heap.push _).size; simp
 have hw2 : w2.heap[w.heap.size]? = some (.cells C e (C.size,C.size + 1)):=by
  show (w1.heap.modify w.heap.size _)[w.heap.size]? = some _
  rw [Array.getElem?_modify,hheap]; simp
 have hconv : (Conv.stringToBytes e (sOf l b)).run P w = .ok (.slice (some ⟨w.heap.size,0,none⟩) l cap) w2:=by
  have hmark : (markStringish ⟨w.heap.size,0,none⟩).run P w1 = .ok () w2:=by
   have hsh : w1.shape? w.heap.size = some (e,C.size):=by simp only [World.shape?,hheap]
   simp only [markStringish,Sem.run_bind,run_shape,hsh,Result.andThen_ok]
   rfl
  have hnr : (newRow e C).run P w.drew = .ok ⟨w.heap.size,0,none⟩ w1:=by simp [newRow]; rfl
  simp only [Conv.stringToBytes,Sem.run_bind,hch,Result.andThen_ok]
  rw [hC]
  simp only [hnr,Result.andThen_ok,hmark,Sem.run_pure,hsz]
 have hnb:=Qje (w':=w2) (cs:=Qf6 (sB l b)) (n:=n) (val:=val) (ρ:=ρ) (fz:=fz) (mu:=mu) (w:=w) rfl rfl rfl
  (by show (w1.heap.modify _ _).size = _; rw [Array.size_modify]; show (w.heap.push _).size = _; simp)
  (λ(b' : Nat) hb'=>by
   show (w1.heap.modify _ _)[b']? = w.heap[b']?
   rw [Array.getElem?_modify]
   have : ¬ w.heap.size = b':=by omega
   simp only [this,if_false]
   exact alloc_old (w:=w.drew) _ hb') hr hn (λhbs=>.inl ⟨(w.heap.size,0),C,e,_,upd_same _ _ _,hw2,.inr ⟨hs2b,Nat.le_refl _⟩,by simp [Qf6,Qeh]; omega,λi s hi=>by
    have hv:=Qpp (val:=val) (ρ:=upd ρ n (w.heap.size,0)) (w:=w2) (sB l b)
    obtain ⟨v,e1,r⟩:=hv.get hi
    exact ⟨v,by simpa using hCget i v e1,r⟩⟩)
 obtain ⟨b1,b2,b3,b4,b5⟩:=hnb
 refine ⟨_,w2,.inl ?_,_,b1,b2,⟨(w.heap.size,0),cap,upd_same _ _ _,rfl,Nat.le_refl _,hle,?_,hmx⟩,b3,b4,b5⟩
 ·have : (convert t u (.string (sOf l b))).run P w = (Conv.stringToBytes e (sOf l b)).run P w:=by
   simp [convert,run_underlying ht,run_underlying hu,run_underlying he]
  have g'' : act.eval x = .string (sOf l b):=g'
  simp only [execOp,ho,g'',Sem.run_bind,this,hconv]
  rfl
 ·show 0 + 0 + cap * 1 ≤ bsize w2 w.heap.size
  unfold bsize; rw [hw2]; simp [hCs]
end
end Go.Ev
namespace Go.Ev
inductive SameR : SV → SV → Bool → Prop where
 | int (kd : IntKind) (i j : Int) : SameR (.int kd i) (.int kd j) (decide (i = j))
 | str (l a l' b : Nat) : SameR (.str l a) (.str l' b) (strEq l a l' b)
def KeyIs (ks : Bool) : SV → Prop
 | .int _ _=>ks = false
 | .str _ _=>ks = true
 | _=>False
inductive FindR (key : SV) : List (SV × List SV) → Option (List SV) → Prop where
 | nil : FindR key [] none
 | hit (e es) : SameR key e.1 true → FindR key (e :: es) (some e.2)
 | miss (e es r) : SameR key e.1 false → FindR key es r → FindR key (e :: es) r
inductive PutR (key : SV) (c : List SV) : List (SV × List SV) → List (SV × List SV) → Prop where
 | nil : PutR key c [] [(key,c)]
 | hit (e es) : SameR key e.1 true → PutR key c (e :: es) ((key,c) :: es)
 | miss (e es es') : SameR key e.1 false → PutR key c es es' → PutR key c (e :: es) (e :: es')
inductive DelR (key : SV) : List (SV × List SV) → List (SV × List SV) → Prop where
 | nil : DelR key [] []
 | hit (e es) : SameR key e.1 true → DelR key (e :: es) es
 | miss (e es es') : SameR key e.1 false → DelR key es es' → DelR key (e :: es) (e :: es')
section
variable {R : Type} {T : R → Prop} {z : R} {val : Nat → Int} {orc : Orc R}
theorem Qji (hz : ¬ T z) {a b : SV} {k : Bool → R} (h : T (sameK z a b k)) : ∃ r,SameR a b r ∧ T (k r):=by
 cases a with
 | int kd i =>
  obtain ⟨kd',j,rfl,h1⟩:=Qez hz (show T (b.onInt z λkd' j=>cond (IntKind.eqb kd kd') (fB (eqI i j) k) z) from h)
  obtain ⟨h2,h3⟩:=Qdr hz h1
  have:=Qg9 h2
  subst this
  rw [fB_eq,Qhm] at h3
  exact ⟨_,.int kd i j,h3⟩
 | str l n =>
  obtain ⟨l',n',rfl,h1⟩:=Qg2 hz (show T (b.onStr z λl' n'=>fB (strEq l n l' n') k) from h)
  rw [fB_eq] at h1
  exact ⟨_,.str l n l' n',h1⟩
 | _=>exact (hz h).elim
theorem Qkz (hz : ¬ T z) (hk : OrcOk T val orc) {ks : Bool} {v : AV} {k : SV → R} (h : T (keyK orc z ks v k)) : ∃ s key,v = .one s ∧ SvEq val s key ∧ KeyIs ks key ∧ T (k key):=by
 obtain ⟨s,rfl,h1⟩:=Qdn hz h
 cases s with
 | int kd i =>
  obtain ⟨h2,h3⟩:=Qfq hz (show T (cond ks z (k (.int kd i))) from h1)
  exact ⟨_,_,rfl,.inl rfl,h2,h3⟩
 | str l b =>
  obtain ⟨h2,h3⟩:=Qdr hz (show T (cond ks (k (.str l b)) z) from h1)
  exact ⟨_,_,rfl,.inl rfl,h2,h3⟩
 | sym kd i =>
  obtain ⟨h2,h3⟩:=Qfq hz (show T (cond ks z (orc.force i λv=>fI v λv=>k (.int kd v))) from h1)
  have h4:=hk.force _ _ h3
  rw [fI_eq] at h4
  exact ⟨_,.int kd (val i),rfl,.inr ⟨kd,i,rfl,rfl⟩,h2,h4⟩
 | _=>exact (hz h1).elim
theorem Ql4 (hz : ¬ T z) {key : SV} : ∀ {es : List (SV × List SV)} {k : Option (List SV) → R},T (findE z key es k) → ∃ r,FindR key es r ∧ T (k r)
 | [],k,h=>⟨none,.nil,h⟩
 | e :: es, k, h => by
  obtain ⟨r,h1,h2⟩:=Qji hz (show T (sameK z key e.1 λb=>cond b (k (some e.2)) (findE z key es k)) from h)
  cases r with
  | true=>exact ⟨_,.hit e es h1,h2⟩
  | false =>
   obtain ⟨r,h3,h4⟩:=Ql4 hz (es:=es) h2
   exact ⟨r,.miss e es r h1 h3,h4⟩
theorem Qo0 (hz : ¬ T z) {key : SV} {c : List SV} : ∀ {es : List (SV × List SV)} {k : List (SV × List SV) → R},T (putE z key c es k) → ∃ r,PutR key c es r ∧ T (k r)
 | [],k,h=>⟨_,.nil,h⟩
 | e :: es, k, h => by
  obtain ⟨r,h1,h2⟩:=Qji hz (show T (sameK z key e.1 λb=>cond b (k ((key,c) :: es)) (putE z key c es λr=>k (e :: r))) from h)
  cases r with
  | true=>exact ⟨_,.hit e es h1,h2⟩
  | false =>
   obtain ⟨r,h3,h4⟩:=Qo0 hz (es:=es) h2
   exact ⟨_,.miss e es r h1 h3,h4⟩
theorem Qou (hz : ¬ T z) {key : SV} : ∀ {es : List (SV × List SV)} {k : List (SV × List SV) → R},T (delE z key es k) → ∃ r,DelR key es r ∧ T (k r)
 | [],k,h=>⟨_,.nil,h⟩
 | e :: es, k, h => by
  obtain ⟨r,h1,h2⟩:=Qji hz (show T (sameK z key e.1 λb=>cond b (k es) (delE z key es λr=>k (e :: r))) from h)
  cases r with
  | true=>exact ⟨_,.hit e es h1,h2⟩
  | false =>
   obtain ⟨r,h3,h4⟩:=Qou hz (es:=es) h2
   exact ⟨_,.miss e es r h1 h3,h4⟩
theorem Qjf (hz : ¬ T z) {v : Nat} : ∀ {fuel : Nat} {l : List SV} {k : List (SV × List SV) → R},T (entsK z v fuel l k) → ∃ es,l = flatE es ∧ (∀ e ∈ es,e.2.length = v) ∧ T (k es)
 | 0,_,_,h=>(hz h).elim
 | fuel + 1,[],k,h=>⟨[],rfl,λ_ h=>(by cases h),h⟩
 | fuel + 1,a :: t,k,h=>by
  have h' : T (takeK t v z λc=>subK t v (Nat.sub t.length v) z λr=>entsK z v fuel r λes=>k ((a,c) :: es)):=h
  obtain ⟨h1,h2⟩:=Qjl hz h'
  obtain ⟨h3,h4⟩:=Qg7 hz h2
  obtain ⟨es,h5,h6,h7⟩:=Qjf hz h4
  refine ⟨(a,t.take v) :: es,?_,λe he=>?_,h7⟩
  ·show a :: t = a :: (t.take v ++ flatE es)
   rw [← h5]
   have : (t.drop v).take (Nat.sub t.length v) = t.drop v:=List.take_of_length_le (by simp)
   rw [this,List.take_append_drop]
  ·simp only [List.mem_cons] at he
   rcases he with rfl | he
   ·simp; omega
   ·exact h6 e he
theorem Qn8 {v : Nat} : ∀ {es es' : List (SV × List SV)},(∀ e ∈ es,e.2.length = v) → (∀ e ∈ es',e.2.length = v) → flatE es = flatE es' → es = es'
 | [],[],_,_,_=>rfl
 | [],_ :: _,_,_,h=>by simp [flatE] at h
 | _ :: _,[],_,_,h=>by simp [flatE] at h
 | e :: es,e' :: es',h1,h2,h=>by
  have h' : e.1 :: (e.2 ++ flatE es) = e'.1 :: (e'.2 ++ flatE es'):=h
  injection h' with h3 h4
  have h5:=List.append_inj h4 (by rw [h1 e (by simp),h2 e' (by simp)])
  have:=Qn8 (λx hx=>h1 x (by simp [hx])) (λx hx=>h2 x (by simp [hx])) h5.2
  rw [this]
  congr 1
  exact Prod.ext h3 h5.1
theorem mtag_inj {a a' : Bool} {v v' : Nat} (h : mtag a v = mtag a' v') : a = a' ∧ v = v':=by
 unfold mtag at h
 have h1 : (cond a 5 4) + 2 * v = (cond a' 5 4) + 2 * v':=h
 cases a <;> cases a' <;> simp at h1 <;> first | exact ⟨rfl,by omega⟩ | omega
theorem Qp1 (a : Bool) (v : Nat) : 4 ≤ mtag a v:=by
 show 4 ≤ (cond a 5 4) + 2 * v
 cases a <;> simp <;> omega
theorem Qlv (hz : ¬ T z) {agg : Bool} {v : Nat} {cs : List SV} {k : List SV → R} (h : T (isMap z agg v cs k)) : ∃ t,cs = .mk (mtag agg v) :: t ∧ T (k t):=by
 cases cs with
 | nil=>exact (hz h).elim
 | cons a t =>
  obtain ⟨m,rfl,h1⟩:=Qtk hz (show T (a.onMk z λm=>cond (Nat.beq m (mtag agg v)) (k t) z) from h)
  obtain ⟨h2,h3⟩:=Qdr hz h1
  have:=Qfk h2
  subst this
  exact ⟨t,rfl,h3⟩
end
section
variable {val : Nat → Int} {ρ : Rho} {w : World}
def MapAt (val : Nat → Int) (ρ : Rho) (w : World) (id : Nat) (agg : Bool) (v : Nat) (es : List (SV × List SV)) (p : Nat) (ms : Array MapEntry) (clock : Nat) : Prop :=
 ρ id = some (p, 0) ∧ w.heap[p]? = some (.map ms clock) ∧ (∀ e ∈ es, e.2.length = v ∧ e.1.known = true ∧ Qdo e.2 = true) ∧
   All2 (EntR val ρ w agg) es ms.toList ∧ (ms.toList.map (·.born)).Pairwise (· < ·) ∧ ∀ m ∈ ms.toList,m.born < clock
theorem OwnG.map {id : Nat} {agg : Bool} {v : Nat} {es : List (SV × List SV)} (h : OwnG val ρ w id (.mk (mtag agg v) :: flatE es)) (hv : ∀ e ∈ es,e.2.length = v) : ∃ p ms clock,MapAt val ρ w id agg v es p ms clock:=by
 have h1:=h.other rfl
 generalize hc : (SV.mk (mtag agg v) :: flatE es) = cs at h1
 cases h1 with
 | map p agg' v' es' ms clock hp hw hv' he hb hcl =>
  injection hc with h2 h3
  injection h2 with h2
  obtain ⟨rfl,rfl⟩:=mtag_inj h2
  have:=Qn8 hv (λe he=>(hv' e he).1) h3
  subst this
  exact ⟨p,ms,clock,hp,hw,hv',he,hb,hcl⟩
 | text g l n C ty fr =>
  injection hc with h2 h3
  injection h2 with h2
  have:=Qp1 agg v; omega
 | bld p ty a s va vs =>
  injection hc with h2 h3
  injection h2 with h2
  have:=Qp1 agg v; omega
 | box p ty fr s =>
  injection hc with h2 h3
  injection h2 with h2
  have:=Qp1 agg v; omega
theorem MapAt.own {id : Nat} {agg : Bool} {v : Nat} {es : List (SV × List SV)} {p : Nat} {ms : Array MapEntry} {clock : Nat} (h : MapAt val ρ w id agg v es p ms clock) : OwnG val ρ w id (.mk (mtag agg v) :: flatE es) :=
 .inr (.map p agg v es ms clock h.1 h.2.1 h.2.2.1 h.2.2.2.1 h.2.2.2.2.1 h.2.2.2.2.2)
theorem Qh3 {ks : Bool} {key s' : SV} {b : Bool} {d : TypeDesc} {kv kv' : Value} (h : SameR key s' b) (hk : KeyIs ks key) (hd : (ks = false ∧ ∃ kd,d = .int kd) ∨ (ks = true ∧ d = .string)) (h1 : VR val ρ w key kv) (h2 : VR val ρ w s' kv') :
 Instr.sameNow d kv kv' = some b:=by
 cases h with
 | int kd i j =>
  have e1 : kv = .int kd i:=h1
  have e2 : kv' = .int kd j:=h2
  subst e1; subst e2
  have hk' : ks = false:=hk
  rcases hd with ⟨_,kd',rfl⟩ | ⟨h,_⟩
  ·simp only [Instr.sameNow,if_true,Option.some.injEq]
   rw [Bool.eq_iff_iff]; simp
  ·rw [hk'] at h; cases h
 | str l a l' b =>
  obtain ⟨g1,e1⟩:=h1
  obtain ⟨g2,e2⟩:=h2
  subst e1; subst e2
  have hk' : ks = true:=hk
  rcases hd with ⟨h,_⟩ | ⟨_,rfl⟩
  ·rw [hk'] at h; cases h
  ·simp only [Instr.sameNow,Option.some.injEq]
   rw [Bool.eq_iff_iff,Qgh]
   rw [Go.MapKept.bytes_beq]
   exact sOf_eq g1 g2
theorem find_now {ks : Bool} {key : SV} {d : TypeDesc} {kv : Value} {agg : Bool} (hk : KeyIs ks key) (hd : (ks = false ∧ ∃ kd,d = .int kd) ∨ (ks = true ∧ d = .string)) (h1 : VR val ρ w key kv) :
 ∀ {es : List (SV × List SV)} {r : Option (List SV)}, FindR key es r → ∀ {ms : List MapEntry} (i0 : Nat), All2 (EntR val ρ w agg) es ms →
   (r = none ∧ Instr.findNow d kv ms i0 = some none) ∨ ∃ c m j,r = some c ∧ ms[j]? = some m ∧ Instr.findNow d kv ms i0 = some (some (i0 + j,m.val)) ∧ ∃ e,es[j]? = some e ∧ e.2 = c:=by
 intro es r h
 induction h with
 | nil =>
  intro ms i0 hms
  cases ms with
  | nil=>exact .inl ⟨rfl,rfl⟩
  | cons _ _=>exact hms.elim
 | hit e es hs =>
  intro ms i0 hms
  cases ms with
  | nil=>exact hms.elim
  | cons m ms =>
   have:=Qh3 hs hk hd h1 hms.1.1
   exact .inr ⟨_,m,0,rfl,rfl,by simp only [Instr.findNow,this]; rfl,e,rfl,rfl⟩
 | miss e es r hs hr ih =>
  intro ms i0 hms
  cases ms with
  | nil=>exact hms.elim
  | cons m ms =>
   have:=Qh3 hs hk hd h1 hms.1.1
   rcases ih (i0 + 1) hms.2 with ⟨g1,g2⟩ | ⟨c,m',j,g1,g2,g3,e',g4,g5⟩
   ·exact .inl ⟨g1,by simp only [Instr.findNow,this]; exact g2⟩
   ·exact .inr ⟨c,m',j + 1,g1,by simpa using g2,by simp only [Instr.findNow,this]; rw [g3]; congr 3; omega,e',by simpa using g4,g5⟩
theorem modify_cons {α : Type} (a : α) (l : List α) (i : Nat) (f : α → α) : (a :: l).modify (i + 1) f = a :: l.modify i f:=by simp
theorem put_now {ks : Bool} {key : SV} {d : TypeDesc} {kv xv : Value} {agg : Bool} {c : List SV} {vs : List Value} (hk : KeyIs ks key) (hd : (ks = false ∧ ∃ kd, d = .int kd) ∨ (ks = true ∧ d = .string)) (h1 : VR val ρ w key kv)
 (hx : if agg then xv = .agg vs.toArray else vs = [xv]) (hvs : All2 (VR val ρ w) c vs) :
 ∀ {es es' : List (SV × List SV)}, PutR key c es es' → ∀ {ms : List MapEntry} (i0 clock : Nat), All2 (EntR val ρ w agg) es ms →
   (∃ j m,ms[j]? = some m ∧ Instr.findNow d kv ms i0 = some (some (i0 + j,m.val)) ∧ Instr.sameBits 10000 m.key kv = true ∧ All2 (EntR val ρ w agg) es' (ms.modify j λe=>{ e with key:=kv,val:=xv })) ∨
   (Instr.findNow d kv ms i0 = some none ∧ All2 (EntR val ρ w agg) es' (ms ++ [{ key:=kv,val:=xv,born:=clock }])):=by
 have hnew : ∀ b,EntR val ρ w agg (key,c) { key:=kv,val:=xv,born:=b }:=λb=>⟨h1,vs,hx,hvs⟩
 intro es es' h
 induction h with
 | nil =>
  intro ms i0 clock hms
  cases ms with
  | nil=>exact .inr ⟨rfl,hnew clock,trivial⟩
  | cons _ _=>exact hms.elim
 | hit e es hs =>
  intro ms i0 clock hms
  cases ms with
  | nil=>exact hms.elim
  | cons m ms =>
   have:=Qh3 hs hk hd h1 hms.1.1
   refine .inl ⟨0,m,rfl,by simp only [Instr.findNow,this]; rfl,?_,⟨h1,vs,hx,hvs⟩,hms.2⟩
   have hm:=hms.1.1
   have hb : ∃ b,SameR key e.1 b ∧ b = true:=⟨true,hs,rfl⟩
   obtain ⟨b,hs',hbt⟩:=hb
   generalize e.1 = s' at hs' hm
   cases hs' with
   | int kd i j =>
    have e1 : kv = .int kd i:=h1
    have e2 : m.key = .int kd j:=hm
    have : i = j:=by simpa using hbt
    rw [e1,e2,this]
    simp [Instr.sameBits]
   | str l a l' b =>
    obtain ⟨_,e1⟩:=h1
    obtain ⟨_,e2⟩:=hm
    obtain ⟨rfl,rfl⟩:=Qgh.1 hbt
    rw [e1,e2]
    show ((sOf l a) == (sOf l a)) = true
    rw [Go.MapKept.bytes_beq]
 | miss e es es' hs hr ih =>
  intro ms i0 clock hms
  cases ms with
  | nil=>exact hms.elim
  | cons m ms =>
   have:=Qh3 hs hk hd h1 hms.1.1
   rcases ih (i0 + 1) clock hms.2 with ⟨j,m',g1,g2,g3,g4⟩ | ⟨g1,g2⟩
   ·exact .inl ⟨j + 1,m',by simpa using g1,by simp only [Instr.findNow,this]; rw [g2]; congr 3; omega,g3,by rw [modify_cons]; exact ⟨hms.1,g4⟩⟩
   ·exact .inr ⟨by simp only [Instr.findNow,this]; exact g1,hms.1,g2⟩
theorem del_now {ks : Bool} {key : SV} {d : TypeDesc} {kv : Value} {agg : Bool} (hk : KeyIs ks key) (hd : (ks = false ∧ ∃ kd,d = .int kd) ∨ (ks = true ∧ d = .string)) (h1 : VR val ρ w key kv) :
 ∀ {es es' : List (SV × List SV)}, DelR key es es' → ∀ {ms : List MapEntry} (i0 : Nat), All2 (EntR val ρ w agg) es ms →
   (∃ j m,ms[j]? = some m ∧ Instr.findNow d kv ms i0 = some (some (i0 + j,m.val)) ∧ All2 (EntR val ρ w agg) es' (ms.eraseIdx j)) ∨ (Instr.findNow d kv ms i0 = some none ∧ es' = es):=by
 intro es es' h
 induction h with
 | nil =>
  intro ms i0 hms
  cases ms with
  | nil=>exact .inr ⟨rfl,rfl⟩
  | cons _ _=>exact hms.elim
 | hit e es hs =>
  intro ms i0 hms
  cases ms with
  | nil=>exact hms.elim
  | cons m ms =>
   have:=Qh3 hs hk hd h1 hms.1.1
   exact .inl ⟨0,m,rfl,by simp only [Instr.findNow,this]; rfl,hms.2⟩
 | miss e es es' hs hr ih =>
  intro ms i0 hms
  cases ms with
  | nil=>exact hms.elim
  | cons m ms =>
   have:=Qh3 hs hk hd h1 hms.1.1
   rcases ih (i0 + 1) hms.2 with ⟨j,m',g1,g2,g4⟩ | ⟨g1,g2⟩
   ·exact .inl ⟨j + 1,m',by simpa using g1,by simp only [Instr.findNow,this]; rw [g2]; congr 3; omega,by rw [List.eraseIdx_cons_succ]; exact ⟨hms.1,g4⟩⟩
   ·exact .inr ⟨by simp only [Instr.findNow,this]; exact g1,by rw [g2]⟩
theorem PutR.mem {key : SV} {c : List SV} {es es' : List (SV × List SV)} (h : PutR key c es es') : ∀ e ∈ es',e = (key,c) ∨ e ∈ es:=by
 induction h with
 | nil=>intro e he; simp at he; exact .inl he
 | hit e0 es hs =>
  intro e he; simp only [List.mem_cons] at he
  rcases he with rfl | he
  ·exact .inl rfl
  ·exact .inr (by simp [he])
 | miss e0 es es' hs hr ih =>
  intro e he; simp only [List.mem_cons] at he
  rcases he with rfl | he
  ·exact .inr (by simp)
  ·exact (ih e he).imp id λh=>by simp [h]
theorem DelR.mem {key : SV} {es es' : List (SV × List SV)} (h : DelR key es es') : ∀ e ∈ es',e ∈ es:=by
 induction h with
 | nil=>intro e he; exact he
 | hit e0 es hs=>intro e he; simp [he]
 | miss e0 es es' hs hr ih =>
  intro e he; simp only [List.mem_cons] at he
  rcases he with rfl | he
  ·simp
  ·simp [ih e he]
end
end Go.Ev
namespace Go.Ev
section
variable {P : Program} {val : Nat → Int} {fz : Fz} {tm : TM} {mu : St} {n : Nat} {o : Oper}
theorem SvEq.to {ρ : Rho} {w : World} {s key : SV} {v : Value} (h : SvEq val s key) (hv : VR val ρ w s v) : VR val ρ w key v:=by
 rcases h with rfl | ⟨kd,i,rfl,rfl⟩
 ·exact hv
 ·exact hv
theorem Qmk {t : TypeId} {ks : Bool} (h : keyTy P t = some ks) : ∃ d,P.underlying t = some d ∧ ((ks = false ∧ ∃ kd,d = .int kd) ∨ (ks = true ∧ d = .string)):=by
 unfold keyTy at h
 split at h
 ·rename_i kd hu; cases h; exact ⟨_,hu,.inl ⟨rfl,kd,rfl⟩⟩
 ·rename_i hu; cases h; exact ⟨_,hu,.inr ⟨rfl,rfl⟩⟩
 ·cases h
theorem Qes {w : World} {kt : TypeId} {d : TypeDesc} {ks : Bool} (hd : P.underlying kt = some d) (hk : (ks = false ∧ ∃ kd,d = .int kd) ∨ (ks = true ∧ d = .string)) (v : Value) (e : Bool) : (Instr.checkKey e 10000 kt v).run P w = .ok () w:=by
 unfold Instr.checkKey
 simp only [Sem.run_bind,run_underlying hd,Result.andThen]
 rcases hk with ⟨_,kd,rfl⟩ | ⟨_,rfl⟩ <;> cases v <;> rfl
def Qlj (fz : Fz) (mu : St) (agg : Bool) (v : Nat) (sm : SV) (es : List (SV × List SV)) : Prop :=
 (sm = .nmp ∧ es = []) ∨ ∃ id cs,sm = .mp id ∧ (look mu id = some cs ∨ look mu id = none ∧ fz id = some cs) ∧ cs = .mk (mtag agg v) :: flatE es ∧ ∀ e ∈ es,e.2.length = v
theorem Qma {R : Type} {T : R → Prop} {z : R} (hz : ¬ T z) {agg : Bool} {v : Nat} {sm : SV} {k : List (SV × List SV) → R} (h : T (readM z fz mu agg v sm k)) : ∃ es,Qlj fz mu agg v sm es ∧ T (k es):=by
 cases sm with
 | nmp=>exact ⟨[],.inl ⟨rfl,rfl⟩,h⟩
 | mp id =>
  obtain ⟨cs,h1,h2⟩:=Qn9 hz (show T (Qmo fz mu id z λcs=>isMap z agg v cs λt=>entsK z v 100000 t k) from h)
  obtain ⟨t,rfl,h3⟩:=Qlv hz h2
  obtain ⟨es,rfl,h4,h5⟩:=Qjf hz h3
  exact ⟨es,.inr ⟨id,_,rfl,h1,rfl,h4⟩,h5⟩
 | _=>exact (hz h).elim
theorem Qlj.entries {agg : Bool} {v : Nat} {sm : SV} {es : List (SV × List SV)} (h : Qlj fz mu agg v sm es) {ρ : Rho} {w : World} (hr : Rel val ρ fz mu w) {x : Value} (hx : VR val ρ w sm x) :
 (x = .map none ∧ es = []) ∨ ∃ p ms clock,x = .map (some p) ∧ w.heap[p]? = some (.map ms clock) ∧ All2 (EntR val ρ w agg) es ms.toList:=by
 rcases h with ⟨rfl,rfl⟩ | ⟨id,cs,rfl,hl,rfl,hv⟩
 ·exact .inl ⟨hx,rfl⟩
 ·obtain ⟨p,ms,clock,h1,h2,h3,h4,h5,h6⟩:=((seenG hr hl).g rfl).map hv
  obtain ⟨q,g1,g2,g3⟩:=hx
  rw [h1] at g1; cases g1
  exact .inr ⟨p,ms,clock,g3,h2,h4⟩
theorem Qkt {R : Type} {T : R → Prop} {z : R} (hz : ¬ T z) {agg : Bool} {v : Nat} {sm : SV} {k : Nat → List (SV × List SV) → R} (h : T (ownM z mu agg v sm k)) :
 ∃ id es,sm = .mp id ∧ look mu id = some (.mk (mtag agg v) :: flatE es) ∧ (∀ e ∈ es,e.2.length = v) ∧ T (k id es):=by
 obtain ⟨id,rfl,h1⟩:=Quk hz h
 obtain ⟨cs,hl,h2⟩:=Qev hz h1
 obtain ⟨t,rfl,h3⟩:=Qlv hz h2
 obtain ⟨es,rfl,h4,h5⟩:=Qjf hz h3
 exact ⟨id,es,rfl,hl,h4,h5⟩
theorem Qpq {R : Type} {agg : Bool} {v id : Nat} {es : List (SV × List SV)} {k : St → R} : setM mu agg v id es k = k (putS mu id (.mk (mtag agg v) :: flatE es)):=by
 unfold setM flatK
 rw [Qh6,fN_eq,Qii]
theorem Qqa {t k e : TypeId} {agg : Bool} {v : Nat} (ho : o.op = .makeMap t none) : Sound P val fz tm mu n o (.one (.mp n)) ((n,[.mk (mtag agg v)]) :: mu) (n + 1):=by
 refine Qd3 (Nat.le_succ _) λρ w act hr _ hfr=>?_
 have hn:=hfr n (Nat.le_refl _) (Nat.lt_succ_self _)
 obtain ⟨b1,b2,b3,b4,b5⟩:=Qje (w':=w.alloc (.map #[] 0)) (cs:=[.mk (mtag agg v)]) (n:=n) (val:=val) (ρ:=ρ) (fz:=fz) (mu:=mu) (w:=w) rfl rfl rfl
  (by show (w.heap.push _).size = _; simp) (λb' hb'=>alloc_old (w:=w) _ hb') hr hn
  (λ_=>MapAt.own (es:=[]) (p:=w.heap.size) (ms:=#[]) (clock:=0) ⟨upd_same _ _ _,Qiy (w:=w) _,λ_ h=>(by cases h),trivial,(by simp),λ_ h=>(by simp at h)⟩)
 refine ⟨.map (some w.heap.size),w.alloc (.map #[] 0),.inl ?_,_,b1,b2,⟨(w.heap.size,0),upd_same _ _ _,rfl,rfl⟩,b3,b4,b5⟩
 simp [execOp,ho,Instr.makeMap]
def mgetV (ok is : Bool) (c : AV) : AV:=if ok then .tp [match c with | .one s=>.one s | .ag l=>.ag l | .tp _=>.one .un,.one (.bool is)] else c
theorem Qlp {R : Type} {T : R → Prop} {z : R} (hz : ¬ T z) {agg ok is : Bool} {c : List SV} {k : AV → R} (h : T (mgetK z agg ok c is k)) : ∃ r,resOf agg c = some r ∧ T (k (mgetV ok is r)):=by
 obtain ⟨r,hr,h1⟩:=Qhz hz h
 refine ⟨r,hr,?_⟩
 cases ok with
 | false=>exact h1
 | true =>
  cases r with
  | one s=>exact h1
  | ag l=>exact h1
  | tp l=>exact (hz h1).elim
theorem Qni {ρ : Rho} {w : World} {agg : Bool} {c : List SV} {r : AV} {vs : List Value} {x : Value} (h : resOf agg c = some r) (hx : if agg then x = .agg vs.toArray else vs = [x]) (hv : All2 (VR val ρ w) c vs) : AVR val ρ w r x:=by
 cases agg with
 | true=>simp [resOf] at h; subst h; exact ⟨vs,hx,hv⟩
 | false =>
  have hx' : vs = [x]:=hx
  subst hx'
  cases c with
  | nil=>cases h
  | cons s t=>cases t with
   | nil=>simp [resOf] at h; subst h; exact hv.1
   | cons _ _=>cases h
theorem Ql0 {t k e : TypeId} {x i : Operand} {x' i' : Od} {ks ok agg : Bool} {zero : List SV} {v : Nat} {sm sk key : SV} {es : List (SV × List SV)} {r : Option (List SV)} {c : AV} (ho : o.op = .lookup t x i ok)
 (ht : P.underlying t = some (.map k e)) (hkt : keyTy P k = some ks) (hz : zeroOf P e = some zero) (hzi : Qsq P e agg = true) (hx : od P x = some x') (hi : od P i = some i') (ex : ev tm x' = .one sm) (ek : ev tm i' = .one sk) (hsk : SvEq val sk key) (hki : KeyIs ks key)
 (hm : Qlj fz mu agg v sm es) (hf : FindR key es r) (hc : resOf agg (r.getD zero) = some c) : Sound P val fz tm mu n o (mgetV ok r.isSome c) mu n:=by
 refine Qdu λρ w act hr hop=>?_
 have g1:=hop x x' (by simp [ho,Op.operands]) hx
 have g2:=hop i i' (by simp [ho,Op.operands]) hi
 rw [ex] at g1; rw [ek] at g2
 have g2':=hsk.to (val:=val) (ρ:=ρ) (w:=w) (v:=act.eval i) g2
 obtain ⟨d,hd,hdk⟩:=Qmk hkt
 obtain ⟨zv,zi,z1,z2,z3,z4,z5⟩:=Qfo hz
 have hzv : if agg then zv = .agg zv.cells else zv.cells.toList = [zv]:=by
  unfold Qsq at hzi
  rw [z1] at hzi
  simp only [z2] at hzi
  cases zv <;> cases agg <;> first | rfl | cases hzi
 have key : ∀ ms : Array MapEntry,All2 (EntR val ρ w agg) es ms.toList → (r = none ∧ Instr.findNow d (act.eval i) ms.toList 0 = some none ∧ AVR val ρ w c zv) ∨ (r.isSome = true ∧ ∃ j x,Instr.findNow d (act.eval i) ms.toList 0 = some (some (j,x)) ∧ AVR val ρ w c x):=by
  intro ms hms
  rcases find_now (val:=val) (ρ:=ρ) (w:=w) hki hdk g2' hf 0 hms with ⟨e1,e2⟩ | ⟨cc,m,j,e1,e2,e3,e',e4,e5⟩
  ·subst e1
   refine .inl ⟨rfl,e2,?_⟩
   have hzz:=(Qgp (val:=val) (ρ:=ρ) (w:=w) z3).1
   refine Qni hc ?_ hzz
   cases agg with
   | true=>simpa using hzv
   | false=>exact hzv
  ·subst e1
   refine .inr ⟨rfl,_,_,e3,?_⟩
   obtain ⟨b,hb,hbb⟩:=hms.get e4
   rw [e2] at hb; cases hb
   obtain ⟨_,vs,h6,h7⟩:=hbb
   rw [e5] at h7
   exact Qni hc h6 h7
 have fin : ∀ y,AVR val ρ w c y → AVR val ρ w (mgetV ok r.isSome c) (if ok then .tuple #[y,.bool r.isSome] else y):=by
  intro y hy
  unfold mgetV
  cases ok with
  | false=>exact hy
  | true =>
   refine ⟨[y,.bool r.isSome],rfl,?_,rfl,trivial⟩
   cases c with
   | one s=>exact hy
   | ag l=>exact hy
   | tp l=>trivial
 have go : ∀ ms : Array MapEntry,All2 (EntR val ρ w agg) es ms.toList →  ((act.eval x = .map none ∧ ms = #[]) ∨ ∃ p clock,act.eval x = .map (some p) ∧ w.heap[p]? = some (.map ms clock)) → ∃ y,(execOp act.eval o).run P w = .ok (.value y) w ∧ AVR val ρ w (mgetV ok r.isSome c) y:=by
  intro ms hms hx
  rcases key ms hms with ⟨e1,e2,e3⟩ | ⟨e1,j,y,e2,e3⟩
  ·refine ⟨_,?_,fin _ e3⟩
   have hfk:=Go.MapKept.run_findKey (w:=w) hd e2
   rcases hx with ⟨e4,e5⟩ | ⟨p,clock,e4,e5⟩
   ·subst e5
    simp only [execOp,ho,Instr.lookup,Sem.run_bind,run_underlying ht,Result.andThen_ok,e4,Sem.run_pure,Qes hd hdk,hfk,z5,e1]
    cases ok <;> rfl
   ·simp only [execOp,ho,Instr.lookup,Sem.run_bind,run_underlying ht,Result.andThen_ok,e4,Go.MapKept.run_getObj_map e5,Sem.run_pure,Qes hd hdk,hfk,z5,e1]
    cases ok <;> rfl
  ·refine ⟨_,?_,fin _ e3⟩
   have hfk:=Go.MapKept.run_findKey (w:=w) hd e2
   rcases hx with ⟨e4,e5⟩ | ⟨p,clock,e4,e5⟩
   ·subst e5
    simp only [execOp,ho,Instr.lookup,Sem.run_bind,run_underlying ht,Result.andThen_ok,e4,Sem.run_pure,Qes hd hdk,hfk,e1]
   ·simp only [execOp,ho,Instr.lookup,Sem.run_bind,run_underlying ht,Result.andThen_ok,e4,Go.MapKept.run_getObj_map e5,Sem.run_pure,Qes hd hdk,hfk,e1]
 rcases hm.entries hr g1 with ⟨e1,e2⟩ | ⟨p,ms,clock,e1,e2,e3⟩
 ·subst e2
  exact go #[] trivial (.inl ⟨e1,rfl⟩)
 ·exact go ms e3 (.inr ⟨p,clock,e1,e2⟩)
theorem Qth {w : World} {p : Nat} {ms ms' : Array MapEntry} {cl cl' : Nat} (hw : w.heap[p]? = some (.map ms cl)) (b : Nat) : bsize w b ≤ bsize { w with heap:=w.heap.setIfInBounds p (.map ms' cl') } b:=by
 obtain ⟨h1,h2⟩:=Go.MapKept.heap_set (o':=.map ms' cl') hw
 by_cases hb : b = p
 ·subst hb
  have : bsize w b = 0:=by unfold bsize; rw [hw]
  omega
 ·unfold bsize
  show _ ≤ match (w.heap.setIfInBounds p (.map ms' cl'))[b]? with | some (.cells c _ _)=>c.size | _=>0
  rw [h2 b hb]; exact Nat.le_refl _
theorem map_set {ρ : Rho} {w : World} {id : Nat} {agg : Bool} {v : Nat} {es es' : List (SV × List SV)} {p : Nat} {ms ms' : Array MapEntry} {clock clock' : Nat} (hr : Rel val ρ fz mu w) (hl : look mu id = some (.mk (mtag agg v) :: flatE es)) (h : MapAt val ρ w id agg v es p ms clock)
 (hv : ∀ e ∈ es',e.2.length = v ∧ e.1.known = true ∧ Qdo e.2 = true) (he : All2 (EntR val ρ w agg) es' ms'.toList) (hb : (ms'.toList.map (·.born)).Pairwise (· < ·)) (hc : ∀ m ∈ ms'.toList,m.born < clock') :
 Post val ρ fz mu n w (.tp []) (putS mu id (.mk (mtag agg v) :: flatE es')) n undef { w with heap:=w.heap.setIfInBounds p (.map ms' clock') }:=by
 obtain ⟨h1,h2,h3,h4,h5,h6⟩:=h
 obtain ⟨g1,g2⟩:=Go.MapKept.heap_set (o':=.map ms' clock') h2
 have hbs:=Qth (ms':=ms') (cl':=clock') h2
 obtain ⟨a1,a2,a3,a4⟩:=Qls (n:=n) (n':=n) (w':={ w with heap:=w.heap.setIfInBounds p (.map ms' clock') }) (cs':=.mk (mtag agg v) :: flatE es') hr hl h1 rfl rfl rfl (by simp) g2 hbs
  (MapAt.own ⟨h1,g1,hv,he.imp λ_ _ h=>h.mono (λ_ _ h=>h) hbs,hb,hc⟩)
 exact ⟨ρ,Ext.refl _ _ _,a1,⟨[],rfl,trivial⟩,a2,a3,a4⟩
theorem KeyIs.known {ks : Bool} {key : SV} (h : KeyIs ks key) : key.known = true:=by cases key <;> first | rfl | exact h.elim
theorem Qr4 {t k e : TypeId} {m i x : Operand} {m' i' x' : Od} {ks agg : Bool} {v id : Nat} {sk key : SV} {es es' : List (SV × List SV)} {c : List SV} (ho : o.op = .mapUpdate t m i x)
 (ht : P.underlying t = some (.map k e)) (hkt : keyTy P k = some ks) (hm : od P m = some m') (hi : od P i = some i') (hx : od P x = some x') (em : ev tm m' = .one (.mp id)) (ek : ev tm i' = .one sk) (hsk : SvEq val sk key) (hki : KeyIs ks key)
 (ex : (ev tm x').cells? = some c) (hag : isAg (ev tm x') agg = true) (hlen : c.length = v) (hkn : Qdo c = true) (hl : look mu id = some (.mk (mtag agg v) :: flatE es)) (hv : ∀ e ∈ es,e.2.length = v) (hp : PutR key c es es') :
 Sound P val fz tm mu n o (.tp []) (putS mu id (.mk (mtag agg v) :: flatE es')) n:=by
 refine Qd3 (Nat.le_refl _) λρ w act hr hop _=>?_
 have g1:=hop m m' (by simp [ho,Op.operands]) hm
 have g2:=hop i i' (by simp [ho,Op.operands]) hi
 have g3:=hop x x' (by simp [ho,Op.operands]) hx
 rw [em] at g1; rw [ek] at g2
 have g2':=hsk.to (val:=val) (ρ:=ρ) (w:=w) (v:=act.eval i) g2
 obtain ⟨d,hd,hdk⟩:=Qmk hkt
 obtain ⟨q,q1,q2,q3⟩:=g1
 obtain ⟨p,ms,clock,hma⟩:=(hr.rm id _ hl).map hv
 obtain ⟨h1,h2,h3,h4,h5,h6⟩:=hma
 rw [h1] at q1; cases q1
 have hxv : ∃ vs : List Value,(if agg then act.eval x = .agg vs.toArray else vs = [act.eval x]) ∧ All2 (VR val ρ w) c vs:=by
  generalize ev tm x' = a at g3 ex hag
  cases a with
  | one s =>
   simp [AV.cells?] at ex; subst ex
   have : agg = false:=by cases agg <;> first | rfl | cases hag
   subst this
   exact ⟨[act.eval x],rfl,g3,trivial⟩
  | ag l =>
   simp [AV.cells?] at ex; subst ex
   have : agg = true:=by cases agg <;> first | rfl | cases hag
   subst this
   obtain ⟨vs,e1,e2⟩:=g3
   exact ⟨vs,by simpa using e1,e2⟩
  | tp l=>simp [AV.cells?] at ex
 obtain ⟨vs,hvs1,hvs2⟩:=hxv
 have hall : ∀ e ∈ es',e.2.length = v ∧ e.1.known = true ∧ Qdo e.2 = true:=λe he=>by
  rcases hp.mem e he with rfl | he
  ·exact ⟨hlen,hki.known,hkn⟩
  ·exact h3 e he
 rcases put_now (val:=val) (ρ:=ρ) (w:=w) hki hdk g2' hvs1 hvs2 hp 0 clock h4 with ⟨j,me,e1,e2,e3,e4⟩ | ⟨e1,e2⟩
 ·have hfk:=Go.MapKept.run_findKey (w:=w) hd e2
  rw [Nat.zero_add] at hfk
  have hme : ((ms[j]?).map (·.key)).getD (act.eval i) = me.key:=by
   have : ms[j]? = some me:=by simpa using e1
   rw [this]; rfl
  have hmod : (ms.modify j λe=>{ e with key:=act.eval i,val:=act.eval x }).toList = ms.toList.modify j λe=>{ e with key:=act.eval i,val:=act.eval x }:=by simp
  have hpost:=map_set (n:=n) (clock':=clock) (ms':=ms.modify j λe=>{ e with key:=act.eval i,val:=act.eval x }) hr hl ⟨h1,h2,h3,h4,h5,h6⟩ hall (by rw [hmod]; exact e4)
   (by
    rw [hmod]
    have : (ms.toList.modify j λe=>{ e with key:=act.eval i,val:=act.eval x }).map (·.born) = ms.toList.map (·.born):=by
     apply List.ext_getElem?
     intro a
     simp only [List.getElem?_map,List.getElem?_modify]
     split
     ·cases ms.toList[a]? <;> rfl
     ·cases ms.toList[a]? <;> rfl
    rw [this]; exact h5)
   (by
    intro m hm
    rw [hmod] at hm
    obtain ⟨a,ha⟩:=List.getElem?_of_mem hm
    rw [List.getElem?_modify] at ha
    cases hma : ms.toList[a]? with
    | none=>rw [hma] at ha; simp at ha
    | some m0 =>
     rw [hma] at ha
     have hlt:=h6 m0 (List.mem_of_getElem? hma)
     split at ha <;> (injection ha with ha; subst ha; exact hlt))
  refine ⟨undef,_,.inr ⟨?_,rfl⟩,hpost⟩
  simp only [execOp,ho,Instr.mapUpdate,Sem.run_bind,run_underlying ht,Result.andThen_ok,q3,Go.MapKept.run_getObj_map h2,Sem.run_pure,Qes hd hdk,hfk,hme,Instr.keyThatStays,e3,if_true,Go.MapKept.run_setObj_map _ h2]
 ·have hfk:=Go.MapKept.run_findKey (w:=w) hd e1
  have hpost:=map_set (n:=n) (clock':=clock + 1) (ms':=ms.push { key:=act.eval i,val:=act.eval x,born:=clock }) hr hl ⟨h1,h2,h3,h4,h5,h6⟩ hall (by rw [Array.toList_push]; exact e2)
   (by
    rw [Array.toList_push,List.map_append,List.pairwise_append]
    refine ⟨h5,by simp,λa ha b hb=>?_⟩
    simp only [List.map_cons,List.map_nil,List.mem_singleton] at hb
    subst hb
    obtain ⟨m,hm,rfl⟩:=List.mem_map.1 ha
    exact h6 m hm)
   (by
    intro m hm
    rw [Array.toList_push,List.mem_append] at hm
    rcases hm with hm | hm
    ·have:=h6 m hm; omega
    ·simp only [List.mem_singleton] at hm; subst hm; exact Nat.lt_succ_self _)
  refine ⟨undef,_,.inr ⟨?_,rfl⟩,hpost⟩
  simp only [execOp,ho,Instr.mapUpdate,Sem.run_bind,run_underlying ht,Result.andThen_ok,q3,Go.MapKept.run_getObj_map h2,Sem.run_pure,Qes hd hdk,hfk,Go.MapKept.run_setObj_map _ h2]
end
end Go.Ev
namespace Go.Ev
section
variable {P : Program} {val : Nat → Int} {fz : Fz} {tm : TM} {mu : St} {n : Nat} {o : Oper}
theorem Qrs {c : Call} {t t2 k e : TypeId} {m i : Operand} {m' i' : Od} {ks agg : Bool} {v id : Nat} {sk key : SV} {es es' : List (SV × List SV)} (ho : o.op = .call c) (hc : c.callee = .builtin .delete) (hty : c.argTypes = #[t,t2]) (ha : c.args = #[m,i])
 (ht : P.underlying t = some (.map k e)) (hkt : keyTy P k = some ks) (hm : od P m = some m') (hi : od P i = some i') (em : ev tm m' = .one (.mp id)) (ek : ev tm i' = .one sk) (hsk : SvEq val sk key) (hki : KeyIs ks key)
 (hl : look mu id = some (.mk (mtag agg v) :: flatE es)) (hv : ∀ e ∈ es,e.2.length = v) (hp : DelR key es es') :
 Sound P val fz tm mu n o (.tp []) (putS mu id (.mk (mtag agg v) :: flatE es')) n:=by
 refine Qd3 (Nat.le_refl _) λρ w act hr hop _=>?_
 have g1:=hop m m' (by simp [ho,Op.operands,Call.operands,hc,ha]) hm
 have g2:=hop i i' (by simp [ho,Op.operands,Call.operands,hc,ha]) hi
 rw [em] at g1; rw [ek] at g2
 have g2':=hsk.to (val:=val) (ρ:=ρ) (w:=w) (v:=act.eval i) g2
 obtain ⟨d,hd,hdk⟩:=Qmk hkt
 obtain ⟨q,q1,q2,q3⟩:=g1
 obtain ⟨p,ms,clock,hma⟩:=(hr.rm id _ hl).map hv
 obtain ⟨h1,h2,h3,h4,h5,h6⟩:=hma
 rw [h1] at q1; cases q1
 have hall : ∀ e ∈ es',e.2.length = v ∧ e.1.known = true ∧ Qdo e.2 = true:=λe he=>h3 e (hp.mem e he)
 have fin : ∀ (w' : World) ,(Builtin.delete_ #[t,t2] o.type #[act.eval m,act.eval i]).run P w = .ok (.tuple #[]) w' → (execOp act.eval o).run P w = .ok (.value (.tuple #[])) w':=by
  intro w' h
  simp [execOp,ho,resolve,hc,invoke,builtin,hty,ha,h]
 have conv : ∀ {w' : World} {mu' : St},Post val ρ fz mu n w (.tp []) mu' n undef w' → Post val ρ fz mu n w (.tp []) mu' n (.tuple #[]) w':=by
  rintro w' mu' ⟨ρ',p1,p2,_,p4,p5,p6⟩
  exact ⟨ρ',p1,p2,⟨[],rfl,trivial⟩,p4,p5,p6⟩
 rcases del_now (val:=val) (ρ:=ρ) (w:=w) hki hdk g2' hp 0 h4 with ⟨j,me,e1,e2,e4⟩ | ⟨e1,e2⟩
 ·have hfk:=Go.MapKept.run_findKey (w:=w) hd e2
  rw [Nat.zero_add] at hfk
  have hmod : (ms.eraseIdxIfInBounds j).toList = ms.toList.eraseIdx j:=by simp
  have hpost:=map_set (n:=n) (clock':=clock) (ms':=ms.eraseIdxIfInBounds j) hr hl ⟨h1,h2,h3,h4,h5,h6⟩ hall (by rw [hmod]; exact e4)
   (by rw [hmod]; exact h5.sublist ((List.eraseIdx_sublist _ j).map _))
   (λm hm=>h6 m (by rw [hmod] at hm; exact List.mem_of_mem_eraseIdx hm))
  refine ⟨_,_,.inl (fin _ ?_),conv hpost⟩
  simp only [Builtin.delete_,List.getElem?_toArray,List.getElem?_cons_zero,List.getElem?_cons_succ,Sem.run_bind,run_underlying ht,Result.andThen_ok,q3,Go.MapKept.run_getObj_map h2,Sem.run_pure,Qes hd hdk,hfk,Go.MapKept.run_setObj_map _ h2]
 ·have hfk:=Go.MapKept.run_findKey (w:=w) hd e1
  subst e2
  have hpost:=map_set (n:=n) (clock':=clock) (ms':=ms) hr hl ⟨h1,h2,h3,h4,h5,h6⟩ h3 h4 h5 h6
  refine ⟨_,_,.inl (fin _ ?_),conv hpost⟩
  simp only [Builtin.delete_,List.getElem?_toArray,List.getElem?_cons_zero,List.getElem?_cons_succ,Sem.run_bind,run_underlying ht,Result.andThen_ok,q3,Go.MapKept.run_getObj_map h2,Sem.run_pure,Qes hd hdk,hfk,Go.MapKept.run_setObj_map _ h2]
theorem Qrr {c : Call} {t k e : TypeId} {m : Operand} {m' : Od} {agg : Bool} {v id : Nat} {es : List (SV × List SV)} (ho : o.op = .call c) (hc : c.callee = .builtin .clear) (hty : c.argTypes = #[t]) (ha : c.args = #[m])
 (ht : P.underlying t = some (.map k e)) (hm : od P m = some m') (em : ev tm m' = .one (.mp id)) (hl : look mu id = some (.mk (mtag agg v) :: flatE es)) (hv : ∀ e ∈ es,e.2.length = v) :
 Sound P val fz tm mu n o (.tp []) (putS mu id (.mk (mtag agg v) :: flatE [])) n:=by
 refine Qd3 (Nat.le_refl _) λρ w act hr hop _=>?_
 have g1:=hop m m' (by simp [ho,Op.operands,Call.operands,hc,ha]) hm
 rw [em] at g1
 obtain ⟨q,q1,q2,q3⟩:=g1
 obtain ⟨p,ms,clock,hma⟩:=(hr.rm id _ hl).map hv
 obtain ⟨h1,h2,h3,h4,h5,h6⟩:=hma
 rw [h1] at q1; cases q1
 have hpost:=map_set (n:=n) (clock':=clock) (ms':=#[]) (es':=[]) hr hl ⟨h1,h2,h3,h4,h5,h6⟩ (λ_ h=>(by cases h)) trivial (by simp) (λ_ h=>(by simp at h))
 obtain ⟨ρ',p1,p2,_,p4,p5,p6⟩:=hpost
 refine ⟨_,_,.inl ?_,ρ',p1,p2,⟨[],rfl,trivial⟩,p4,p5,p6⟩
 have key : (Builtin.clear_ #[t] o.type #[act.eval m]).run P w = .ok (.tuple #[]) { w with heap:=w.heap.setIfInBounds p (.map #[] clock) }:=by
  simp only [Builtin.clear_,List.getElem?_toArray,List.getElem?_cons_zero,Sem.run_bind,run_underlying ht,Result.andThen_ok,q3,Go.MapKept.run_getObj_map h2,Sem.run_pure,Go.MapKept.run_setObj_map _ h2]
 simp [execOp,ho,resolve,hc,invoke,builtin,hty,ha,key]
theorem Qra {c : Call} {t k e : TypeId} {m : Operand} {m' : Od} {agg : Bool} {v : Nat} {sm : SV} {es : List (SV × List SV)} (ho : o.op = .call c) (hc : c.callee = .builtin .len) (hty : c.argTypes = #[t]) (ha : c.args = #[m])
 (ht : P.underlying t = some (.map k e)) (hm : od P m = some m') (em : ev tm m' = .one sm) (hs : Qlj fz mu agg v sm es) :
 Sound P val fz tm mu n o (.one (.int .i64 (Int.ofNat es.length))) mu n:=by
 refine Qdu λρ w act hr hop=>?_
 have g1:=hop m m' (by simp [ho,Op.operands,Call.operands,hc,ha]) hm
 rw [em] at g1
 refine ⟨.int .i64 (Int.ofNat es.length),?_,rfl⟩
 have key : (Builtin.len_ #[t] o.type #[act.eval m]).run P w = .ok (.int .i64 (Int.ofNat es.length)) w:=by
  rcases hs.entries hr g1 with ⟨e1,e2⟩ | ⟨p,ms,clock,e1,e2,e3⟩
  ·subst e2; simp [Builtin.len_,run_underlying ht,e1,goInt]
  ·have:=e3.length
   have h2 : ms.size = es.length:=by simpa using this.symm
   simp [Builtin.len_,run_underlying ht,e1,Go.MapKept.run_getObj_map e2,goInt,h2]
 simp [execOp,ho,resolve,hc,invoke,builtin,hty,ha,key]
theorem rep_VR {ρ : Rho} {w : World} {v : Value} {zs : List SV} (hz : toSVs v.cells.toList = some zs) (h0 : zs.length ≠ 0) (m : Nat) : All2 (VR val ρ w) (rep zs m) (Builtin.zeroCells v.cells m).toList:=by
 have hl : zs.length = v.cells.size:=by have:=(Qgp (val:=val) (ρ:=ρ) (w:=w) hz).1.length; simpa using this
 refine All2.Qjc (by rw [Qg3]; simp [Builtin.zeroCells,hl]) λi a b ha hb=>?_
 obtain ⟨x,e1,e2⟩:=Qmj (val:=val) (ρ:=ρ) (w:=w) hz h0 m m (Nat.le_refl _) i a ha
 rw [hl] at e1
 have : (Builtin.zeroCells v.cells m)[i]? = some b:=by simpa using hb
 unfold Builtin.zeroCells at this
 rw [e1] at this; cases this
 exact e2
theorem Qtc {c : Call} {t e : TypeId} {x : Operand} {x' : Od} {s id off len cap : Nat} {zs known : List SV} (ho : o.op = .call c) (hc : c.callee = .builtin .clear) (hty : c.argTypes = #[t]) (ha : c.args = #[x])
 (ht : P.underlying t = some (.slice e)) (hs : szOf P e = some s) (hs0 : s ≠ 0) (hzs : zeroOf P e = some zs) (hx : od P x = some x') (ex : ev tm x' = .one (.osl id off len cap s)) (hkn : Qdo (rep zs len) = true) (hl : look mu id = some known) (hm : mkd known = false)
 (hb : off + (rep zs len).length ≤ known.length) : Sound P val fz tm mu n o (.tp []) (putS mu id (over known off (rep zs len))) n:=by
 refine Qd3 (Nat.le_refl _) λρ w act hr hop _=>?_
 have g1:=hop x x' (by simp [ho,Op.operands,Call.operands,hc,ha]) hx
 rw [ex] at g1
 obtain ⟨p,cc,hp,g1',q1,q2,q3,q4⟩:=g1
 obtain ⟨v,i,z1,z2,z3,z4,z5⟩:=Qfo hzs
 have hz0 : zs.length ≠ 0:=by
  have : i.size = s:=by unfold szOf at hs; rw [z1] at hs; simpa using hs
  omega
 have hv:=rep_VR (val:=val) (ρ:=ρ) (w:=w) z3 hz0 len
 obtain ⟨q,w',e1,e2,e3,e4,e5,e6,e7⟩:=Qiw (P:=P) (n:=n) (n':=n) hr hl hm hb hv (Qhx hv hkn)
 rw [hp] at e1; cases e1
 refine ⟨.tuple #[],w',.inl ?_,ρ,Ext.refl _ _ _,e3,⟨[],rfl,trivial⟩,e4,e5,e6⟩
 have key : (Builtin.clear_ #[t] o.type #[act.eval x]).run P w = .ok (.tuple #[]) w':=by
  by_cases h0 : len = 0
  ·subst h0
   have hw : w' = w:=by
    have : (Builtin.zeroCells v.cells 0).toList = []:=by simp [Builtin.zeroCells]
    rw [this] at e2
    have h2 : (storeCells ⟨p.1,p.2 + off,none⟩ []).run P w = .ok () w:=rfl
    rw [h2] at e2
    injection e2 with _ h3
    exact h3.symm
   subst hw
   simp [Builtin.clear_,run_underlying ht,g1']
  ·obtain ⟨m,rfl⟩ : ∃ m,len = m + 1:=⟨len - 1,by omega⟩
   simp only [Builtin.clear_,List.getElem?_toArray,List.getElem?_cons_zero,Sem.run_bind,run_underlying ht,Result.andThen_ok,g1',z5,e2,Sem.run_pure]
 simp [execOp,ho,resolve,hc,invoke,builtin,hty,ha,key]
theorem Qjh {c : Call} {t e : TypeId} {x : Operand} {x' : Od} {sx : SV} (ho : o.op = .call c) (hc : c.callee = .builtin .clear) (hty : c.argTypes = #[t]) (ha : c.args = #[x])
 (ht : P.underlying t = some (.slice e)) (hx : od P x = some x') (ex : ev tm x' = .one sx) (hk : sx = .nsl ∨ sx = .esl ∨ sx = .zsl) : Sound P val fz tm mu n o (.tp []) mu n:=by
 refine Qdu λρ w act hr hop=>?_
 have g1:=hop x x' (by simp [ho,Op.operands,Call.operands,hc,ha]) hx
 rw [ex] at g1
 refine ⟨.tuple #[],?_,[],rfl,trivial⟩
 have key : (Builtin.clear_ #[t] o.type #[act.eval x]).run P w = .ok (.tuple #[]) w:=by
  rcases hk with rfl | rfl | rfl
  ·have g : act.eval x = .slice none 0 0:=g1
   simp [Builtin.clear_,run_underlying ht,g]
  ·obtain ⟨a,g⟩:=g1; simp [Builtin.clear_,run_underlying ht,g]
  ·obtain ⟨a,cc,g⟩:=g1; simp [Builtin.clear_,run_underlying ht,g]
 simp [execOp,ho,resolve,hc,invoke,builtin,hty,ha,key]
theorem Qru {t e : TypeId} {x : Operand} {x' : Od} {s len id off : Nat} {cs : List SV} (ho : o.op = .slice t x none none none) (ht : P.underlying t = some (.array len e)) (hs : szOf P e = some s) (hlen : len ≤ 9223372036854775807) (hx : od P x = some x') (ex : ev tm x' = .one (.optr id off))
 (hl : (look mu id = some cs ∨ look mu id = none ∧ fz id = some cs) ∧ mkd cs = false) (hb : off + len * s ≤ cs.length) : Sound P val fz tm mu n o (.one (.osl id off len len s)) mu n:=by
 refine Qdu λρ w act hr hop=>?_
 have g1:=hop x x' (by simp [ho,Op.operands]) hx
 rw [ex] at g1
 obtain ⟨p,hp,g⟩:=g1
 obtain ⟨q,C,ty,fr,h1,h2,h4,h5⟩:=seen hr hl
 rw [hp] at h1; cases h1
 refine ⟨.slice (some ⟨p.1,p.2 + off,none⟩) len len,?_,p,len,hp,rfl,Nat.le_refl _,Nat.le_refl _,?_,hlen⟩
 ·have hsz:=Qfi hs w
  have hbd : (Instr.sliceBounds false len len none none none).run P w = .ok (0,len,len) w:=by simp [Instr.sliceBounds]
  have haddr : (if len = 0 then (⟨p.1,p.2 + off,none⟩ : Addr) else (⟨p.1,p.2 + off,none⟩ : Addr).add (0 * s)) = ⟨p.1,p.2 + off,none⟩:=by
   split
   ·rfl
   ·rw [Nat.zero_mul,addr_add]; rfl
  have : (Instr.sliceAt t (.pointer (some ⟨p.1,p.2 + off,none⟩)) none none none).run P w = .ok (.slice (some ⟨p.1,p.2 + off,none⟩) len len) w:=by
   simp only [Instr.sliceAt,Sem.run_bind,run_underlying ht,Result.andThen_ok,Instr.sureAddr,Sem.run_pure,hbd,hsz,haddr,Nat.sub_zero]
  simp [execOp,ho,g,this]
 ·unfold bsize; rw [h2]; show p.2 + off + len * s ≤ C.size; omega
theorem Qph {c : Call} {x y : Operand} {x' y' : Od} {s b id off len cap : Nat} {sT xT e : TypeId} {i : TypeInfo} {zv : Value} {sy : SV} {src known : List SV} {cnt : Nat} (ht : AppT P c x y s b sT xT e i zv) (ho : o.op = .call c)
 (hx : od P x = some x') (hy : od P y = some y') (ex : ev tm x' = .one (.osl id off len cap s)) (ey : ev tm y' = .one sy) (hsrc : SrcOk P val fz mu s sy src cnt) (hks : Qdo src = true) (hcap : len + cnt ≤ cap)
 (hl : look mu id = some known) (hm : mkd known = false) (hkl : off + len * s + src.length ≤ known.length) :
 Sound P val fz tm mu n o (.one (.osl id off (len + cnt) cap s)) (putS mu id (over known (off + len * s) src)) n:=by
 refine Qd3 (Nat.le_refl _) λρ w a hr hop _=>?_
 have g1:=hop x x' (by simp [ho,Op.operands,Call.operands,ht.callee,ht.args]) hx
 have g2:=hop y y' (by simp [ho,Op.operands,Call.operands,ht.callee,ht.args]) hy
 rw [ex] at g1; rw [ey] at g2
 obtain ⟨p,cc,hp,g1',q1,q2,q3,q4⟩:=g1
 obtain ⟨hlen,_,news,hv,hf⟩:=hsrc.2 ρ w _ hr g2
 have hnl : news.length = cnt * s:=by rw [← hv.length,hsrc.1]
 have hf1:=hf cnt (Nat.le_refl _) w (Like.refl w)
 rw [← hnl,List.take_length,← ht.size] at hf1
 obtain ⟨q,w',e1,e2,e3,e4,e5,e6,e7⟩:=Qiw (P:=P) (n:=n) (n':=n) hr hl hm hkl hv (Qhx hv hks)
 rw [hp] at e1; cases e1
 have hst : (storeCells ((⟨p.1,p.2 + off,none⟩ : Addr).add (len * i.size)) news).run P w = .ok () w':=by rw [addr_add,ht.size,Nat.add_assoc]; exact e2
 have hap:=Qhj (P:=P) (ty:=o.type) (sCap:=cc) ht.under ht.src ht.info (hlen w) (by omega) hf1 hst
 rw [← g1'] at hap
 exact ⟨_,_,.inl (Qja ht ho hap),ρ,Ext.refl _ _ _,e3,⟨p,cc,hp,rfl,hcap,q2,by rw [e7]; exact q3,q4⟩,e4,e5,e6⟩
end
end Go.Ev
namespace Go.Ev
section
variable {R : Type} {T : R → Prop} {z : R} {P : Program} {val : Nat → Int} {fz : Fz} {tm : TM} {mu : St} {n : Nat} {o : Oper} {orc : Orc R} {call : CallT R}
theorem Qp9 (hz : ¬ T z) (hk : OrcOk T val orc) {ro : Bool} {c : Call} {b : Builtin} {ys : List Od} {op : AOp} {k : KT R} (ho : o.op = .call c) (hcal : c.callee = .builtin b) (hys : ods P c.args.toList = some ys)
 (hp : Qij P b c.argTypes.toList ys = some op) (h : T (aop orc z call fz tm mu n ro op k)) : ∃ v mu' n',T (k v mu' n') ∧ Sound P val fz tm mu n o v mu' n':=by
 have arg1 : ∀ y,ys = [y] → ∃ x,c.args = #[x] ∧ od P x = some y:=by
  rintro y rfl
  cases hl : c.args.toList with
  | nil=>rw [hl] at hys; simp [ods] at hys
  | cons x r =>
   rw [hl] at hys
   simp only [ods] at hys
   split at hys
   ·rename_i a l h1 h2
    cases hys
    cases r with
    | nil=>exact ⟨x,by apply Array.ext'; simpa using hl,h1⟩
    | cons u v=>simp only [ods] at h2; split at h2 <;> cases h2
   ·cases hys
 have arg2 : ∀ y y', ys = [y, y'] → ∃ x x', c.args = #[x, x'] ∧ od P x = some y ∧ od P x' = some y' := by
  rintro y y' rfl
  cases hl : c.args.toList with
  | nil=>rw [hl] at hys; simp [ods] at hys
  | cons x r =>
   rw [hl] at hys
   simp only [ods] at hys
   split at hys
   ·rename_i a l h1 h2
    cases hys
    cases r with
    | nil=>simp [ods] at h2
    | cons u v =>
     simp only [ods] at h2
     split at h2
     ·rename_i a' l' h3 h4
      cases h2
      cases v with
      | nil=>exact ⟨x,u,by apply Array.ext'; simpa using hl,h1,h3⟩
      | cons _ _=>simp only [ods] at h4; split at h4 <;> cases h4
     ·cases h2
   ·cases hys
 have appCase : ∀ (t u : TypeId) (x y : Od) (e : TypeId) (s bb : Nat) (zs : List SV),c.argTypes.toList = [t,u] → ys = [x,y] → P.underlying t = some (.slice e) → ((∃ e',P.underlying u = some (.slice e')) ∨ P.underlying u = some .string) →
  szOf P e = some s → byOf P e = some bb → zeroOf P e = some zs → s ≠ 0 → b = .append → T (Qui z fz tm mu n s bb x y k) → ∃ v mu' n',T (k v mu' n') ∧ Sound P val fz tm mu n o v mu' n':=by
  intro t u x y e s bb zs hts hys' hut huu hs hb hzs hs0 hbb h
  obtain ⟨x0,y0,ha,hx0,hy0⟩:=arg2 x y hys'
  obtain ⟨zv,i,i1,i2,i3,i4,i5⟩:=Qfo hzs
  have hsi : i.size = s:=by unfold szOf at hs; rw [i1] at hs; simpa using hs
  have hbi : i.bytes = bb:=by unfold byOf at hb; rw [i1] at hb; simpa using hb
  have hzl : zv.cells.size = s:=by
   have:=(Qgp (val:=val) (ρ:=λ_=>none) (w:=default) i3).1.length
   rw [← hsi,← i4]; simpa using this.symm
  have ht : AppT P c x0 y0 s bb t u e i zv:=⟨by rw [hcal,hbb],by apply Array.ext'; simpa using hts,ha,hut,huu,i1,hsi,hbi,i5,hzl⟩
  obtain ⟨sx,ex,h1⟩:=Qdn hz h
  obtain ⟨sy,ey,h2⟩:=Qdn hz h1
  obtain ⟨src,cnt,hsrc,h3⟩:=Qle (P:=P) (val:=val) hz h2
  obtain ⟨hk,h4⟩:=Qdr hz h3
  have new : (sx = .nsl ∨ sx = .esl) → T (Qjw z mu n s bb sx src cnt k) → ∃ v mu' n',T (k v mu' n') ∧ Sound P val fz tm mu n o v mu' n':=by
   intro hsx h
   unfold Qjw at h
   cases hc0 : Nat.beq cnt 0 with
   | true =>
    rw [hc0] at h
    have : cnt = 0:=Qfk hc0
    subst this
    exact ⟨_,_,_,h,Qi2 ht ho hx0 hy0 ex ey hsrc (hsx.elim .inl λh=>.inr (.inl h))⟩
   | false =>
    rw [hc0] at h
    obtain ⟨hr,h⟩:=Qdr hz h
    rw [fN_eq] at h
    have hne : cnt ≠ 0:=λe=>by subst e; cases hc0
    exact ⟨_,_,_,h,Qn4 ht ho hx0 hy0 ex ey hsrc hsx hne hr⟩
  cases sx with
  | nsl=>exact new (.inl rfl) h4
  | esl=>exact new (.inr rfl) h4
  | osl id off len cap s' =>
   have h5 : T (appOwn z mu n s bb (.osl id off len cap s') id off len cap s' src cnt k):=h4
   unfold appOwn at h5
   cases hc0 : Nat.beq cnt 0 with
   | true =>
    rw [hc0] at h5
    have : cnt = 0:=Qfk hc0
    subst this
    exact ⟨_,_,_,h5,Qi2 ht ho hx0 hy0 ex ey hsrc (.inr (.inr ⟨_,_,_,_,_,rfl⟩))⟩
   | false =>
    rw [hc0] at h5
    have hne : cnt ≠ 0:=λe=>by subst e; cases hc0
    obtain ⟨hr,h6⟩:=Qdr hz h5
    simp only [Bool.and_eq_true] at hr
    have hss : s' = s:=Qfk hr.1
    subst hss
    obtain ⟨known,hl,hmk,h7⟩:=Qhd hz h6
    rw [fN_eq] at h7
    obtain ⟨h8,h9⟩:=Qg7 hz h7
    rw [Qin] at h9
    cases h10 : Nat.beq (0 + known.length) (Nat.add off (Nat.mul len s')) with
    | true =>
     rw [h10] at h9
     have h11 : T (appK ((known.drop off).take (Nat.mul len s')) src λcs=>killK mu id λmu=>fN (Nat.add len cnt) λl=>fN (Nat.succ n) λn'=>k (.one (.osl n 0 l l s')) ((n,cs) :: mu) n'):=h9
     simp only [Qs1,Qkg,fN_eq] at h11
     have hkl : known.length = off + len * s':=by have:=Qfk h10; simpa using this
     have hd : (known.drop off).take (Nat.mul len s') = known.drop off:=List.take_of_length_le (by simp [hkl])
     rw [hd] at h11
     exact ⟨_,_,_,h11,Qoy ht ho hx0 hy0 ex ey hsrc hk hne hr.2 hl hmk hkl⟩
    | false =>
     rw [h10] at h9
     obtain ⟨h11,h12⟩:=Qdr hz h9
     rw [fN_eq] at h12
     obtain ⟨h13,h14⟩:=Qhb hz h12
     rw [Qii,fN_eq] at h14
     exact ⟨_,_,_,h14,Qph ht ho hx0 hy0 ex ey hsrc hk (Nat.le_of_ble_eq_true h11) hl hmk h13⟩
  | _=>exact (hz h4).elim
 have tys1 : ∀ t,c.argTypes.toList = [t] → c.argTypes = #[t]:=λt h=>by apply Array.ext'; simpa using h
 have tys2 : ∀ t u,c.argTypes.toList = [t,u] → c.argTypes = #[t,u]:=λt u h=>by apply Array.ext'; simpa using h
 generalize hts : c.argTypes.toList = ts at hp
 unfold Qij at hp
 split at hp
 ·rename_i t x
  obtain ⟨x0,ha,hx0⟩:=arg1 x rfl
  have hty:=tys1 t hts
  split at hp
  ·rename_i e hu
   cases hp
   obtain ⟨s,ex,h1⟩:=Qdn hz (show T (oLen z tm mu n false x k) from h)
   obtain ⟨hst,h2⟩:=Qdr hz h1
   have hns : ∀ l b,s ≠ .str l b:=λl b e=>by subst e; cases hst
   have fin : ∀ m,lenOf s = some m → T (k (.one (.int .i64 (Int.ofNat m))) mu n) → ∃ v mu' n',T (k v mu' n') ∧ Sound P val fz tm mu n o v mu' n':=λm hm h=>⟨_,_,_,h,Qov ho hcal hty ha (.inl ⟨e,hu,hns⟩) hx0 ex hm⟩
   cases s <;> first | exact (hz h2).elim | exact fin _ rfl h2 | exact (hns _ _ rfl).elim
  ·rename_i hu
   cases hp
   obtain ⟨s,ex,h1⟩:=Qdn hz (show T (oLen z tm mu n true x k) from h)
   obtain ⟨hst,h2⟩:=Qdr hz h1
   cases s <;> first | (cases hst; done) | skip
   rename_i l b
   exact ⟨_,_,_,h2,Qov ho hcal hty ha (.inr ⟨hu,l,b,rfl⟩) hx0 ex rfl⟩
  ·rename_i kt e hu
   split at hp
   ·rename_i a v ha0 hs0
    cases hp
    obtain ⟨sm,em,h1⟩:=Qdn hz (show T ((ev tm x).onOne z λm=>readM z fz mu a v m λes=>fN es.length λl=>k (.one (.int .i64 (Int.ofNat l))) mu n) from h)
    obtain ⟨es,hes,h2⟩:=Qma hz h1
    rw [fN_eq] at h2
    exact ⟨_,_,_,h2,Qra ho hcal hty ha hu hx0 em hes⟩
   ·cases hp
  ·cases hp
 ·rename_i t x
  obtain ⟨x0,ha,hx0⟩:=arg1 x rfl
  have hty:=tys1 t hts
  split at hp
  ·rename_i e hu
   split at hp
   ·rename_i s zs hs hzs
    split at hp
    ·rename_i hs0
     cases hp
     obtain ⟨sx,ex,h1⟩:=Qdn hz (show T ((ev tm x).onOne z λx=>SV.rec (motive:=λ_=>R) z (λ_ _=>z) (λ_=>z) (λ_ _=>z) (k noVal mu n) z z (λ_ _=>z)
      (λid off len _ s'=>cond (Nat.beq s' s) (copyK (rep zs len) λcs=>oPut z mu id off cs λmu=>k noVal mu n) z) (k noVal mu n) (k noVal mu n) (λ_ _=>z) (λ_ _=>z) z (λ_=>z) z (λ_=>z) x) from h)
     cases sx with
     | nsl=>exact ⟨_,_,_,h1,Qjh ho hcal hty ha hu hx0 ex (.inl rfl)⟩
     | esl=>exact ⟨_,_,_,h1,Qjh ho hcal hty ha hu hx0 ex (.inr (.inl rfl))⟩
     | zsl=>exact ⟨_,_,_,h1,Qjh ho hcal hty ha hu hx0 ex (.inr (.inr rfl))⟩
     | osl id off len cap s' =>
      obtain ⟨hss,h2⟩:=Qdr hz (show T (cond (Nat.beq s' s) (copyK (rep zs len) λcs=>oPut z mu id off cs λmu=>k noVal mu n) z) from h1)
      have hss' : s' = s:=Qfk hss
      subst hss'
      rw [Qh6] at h2
      obtain ⟨hkn,h3⟩:=Qdr hz (show T (cond (Qdo (rep zs len)) (Qj5 mu id z λcs=>overK cs off (rep zs len) z λcs=>putK mu id cs λmu=>k noVal mu n) z) from h2)
      obtain ⟨known,hl,hmk,h4⟩:=Qhd hz h3
      obtain ⟨hb,h5⟩:=Qhb hz h4
      rw [Qii] at h5
      exact ⟨_,_,_,h5,Qtc ho hcal hty ha hu hs (by simpa using hs0) hzs hx0 ex hkn hl hmk hb⟩
     | _=>exact (hz h1).elim
    ·cases hp
   ·cases hp
  ·rename_i kt e hu
   split at hp
   ·rename_i a v ha0 hs0
    cases hp
    obtain ⟨sm,em,h1⟩:=Qdn hz (show T ((ev tm x).onOne z λm=>ownM z mu a v m λid _=>setM mu a v id [] λmu=>k noVal mu n) from h)
    obtain ⟨id,es,rfl,hl,hv,h2⟩:=Qkt hz h1
    rw [Qpq] at h2
    exact ⟨_,_,_,h2,Qrr ho hcal hty ha hu hx0 em hl hv⟩
   ·cases hp
  ·cases hp
 ·rename_i t t2 x y
  obtain ⟨x0,y0,ha,hx0,hy0⟩:=arg2 x y rfl
  have hty:=tys2 t t2 hts
  split at hp
  ·rename_i kt e hu
   split at hp
   ·rename_i ks a v hkt ha0 hs0
    cases hp
    obtain ⟨sm,em,h1⟩:=Qdn hz (show T ((ev tm x).onOne z λm=>keyK orc z ks (ev tm y) λkey=>ownM z mu a v m λid es=>delE z key es λes=>setM mu a v id es λmu=>k noVal mu n) from h)
    obtain ⟨sk,key,ek,hsk,hki,h2⟩:=Qkz hz hk h1
    obtain ⟨id,es,rfl,hl,hv,h3⟩:=Qkt hz h2
    obtain ⟨es',hd,h4⟩:=Qou hz h3
    rw [Qpq] at h4
    exact ⟨_,_,_,h4,Qrs ho hcal hty ha hu hkt hx0 hy0 em ek hsk hki hl hv hd⟩
   ·cases hp
  ·cases hp
 ·rename_i t x
  obtain ⟨x0,ha,hx0⟩:=arg1 x rfl
  have hty:=tys1 t hts
  split at hp
  ·rename_i e hu
   cases hp
   obtain ⟨s,ex,h1⟩:=Qdn hz (show T (oCap z tm mu n x k) from h)
   cases s <;> first | exact (hz h1).elim | exact ⟨_,_,_,h1,Qne ho hcal hty ha hu hx0 ex (.inl rfl)⟩ | exact ⟨_,_,_,h1,Qne ho hcal hty ha hu hx0 ex (.inr rfl)⟩
  ·cases hp
 ·rename_i t u x y
  split at hp
  ·rename_i e e' hut huu
   split at hp
   ·rename_i s bb zs hs hb hzs
    split at hp
    ·rename_i hs0
     cases hp
     exact appCase t u x y e s bb zs hts rfl hut (.inl ⟨e',huu⟩) hs hb hzs (by simpa using hs0) rfl h
    ·cases hp
   ·cases hp
  ·rename_i e hut huu
   split at hp
   ·rename_i s bb zs hs hb hzs
    split at hp
    ·rename_i hs0
     cases hp
     exact appCase t u x y e s bb zs hts rfl hut (.inr huu) hs hb hzs (by simpa using hs0) rfl h
    ·cases hp
   ·cases hp
  ·cases hp
 ·rename_i t u x y
  obtain ⟨x0,y0,ha,hx0,hy0⟩:=arg2 x y rfl
  have hty:=tys2 t u hts
  split at hp
  ·rename_i e hu
   split at hp
   ·rename_i s hs
    split at hp
    ·rename_i hs0
     cases hp
     obtain ⟨sx,ex,h1⟩:=Qdn hz (show T (oCopy z fz tm mu n s x y k) from h)
     obtain ⟨id,off,len,cap,s',e2,h2⟩:=Qo1 hz h1
     subst e2
     obtain ⟨sy,ey,h3⟩:=Qdn hz h2
     obtain ⟨hss,h4⟩:=Qdr hz h3
     have hss' : s' = s:=Qfk hss
     subst hss'
     obtain ⟨src,cnt,hsrc,h5⟩:=Qle (P:=P) (val:=val) hz h4
     rw [fN_eq] at h5
     obtain ⟨h6,h7⟩:=Qjl hz h5
     obtain ⟨hk,h8⟩:=Qdr hz (show T (cond (Qdo (src.take (Nat.mul (Nat.min cnt len) s'))) (Qj5 mu id z λcs=>overK cs off (src.take (Nat.mul (Nat.min cnt len) s')) z λcs=>putK mu id cs λmu=>k (.one (.int .i64 (Int.ofNat (Nat.min cnt len)))) mu n) z) from h7)
     obtain ⟨known,hl,hmk,h9⟩:=Qhd hz h8
     obtain ⟨hb,h10⟩:=Qhb hz h9
     rw [Qii] at h10
     exact ⟨_,_,_,h10,Qr5 ho hcal hty ha hu hs hx0 hy0 ex ey hsrc hk hl hmk hb⟩
    ·cases hp
   ·cases hp
  ·cases hp
 ·rename_i t ts' x xs
  split at hp
  ·cases hp
   obtain ⟨s,ex,h1⟩:=Qdn hz (show T (oMax orc z tm mu n x xs k) from h)
   obtain ⟨r,h3,h4⟩:=Qt5 (P:=P) (val:=val) (fz:=fz) (mu:=mu) (n:=n) hz hk ho hcal hys ex h1
   exact ⟨_,_,_,h3,h4⟩
  ·cases hp
 ·rename_i t ts' x xs
  split at hp
  ·cases hp
   obtain ⟨s,ex,h1⟩:=Qdn hz (show T (oMin orc z tm mu n x xs k) from h)
   obtain ⟨r,h3,h4⟩:=Qs4 (P:=P) (val:=val) (fz:=fz) (mu:=mu) (n:=n) hz hk ho hcal hys ex h1
   exact ⟨_,_,_,h3,h4⟩
  ·cases hp
 ·cases hp
theorem aop_bin (hz : ¬ T z) (hk : OrcOk T val orc) {ro : Bool} {op : BinOp} {t u : TypeId} {x y : Operand} {x' y' : Od} {aopr : AOp} {k : KT R} (ho : o.op = .binOp op t x y u) (hx : od P x = some x') (hy : od P y = some y')
 (hp : Qo9 P op t u x' y' = some aopr) (h : T (aop orc z call fz tm mu n ro aopr k)) : ∃ v mu' n',T (k v mu' n') ∧ Sound P val fz tm mu n o v mu' n':=by
 have eqn : ∀ (sl neg : Bool),o.op = .binOp (if neg then .neq else .eql) t x y u → ((sl = true ∧ ∃ e,P.underlying t = some (.slice e)) ∨ (sl = false ∧ ∃ e,P.underlying t = some (.pointer e))) → T (oEqn z tm mu n sl neg x' y' k) →
  ∃ v mu' n',T (k v mu' n') ∧ Sound P val fz tm mu n o v mu' n':=by
  intro sl neg ho hu h
  obtain ⟨s1,e1,h1⟩:=Qdn hz h
  obtain ⟨s2,e2,h2⟩:=Qdn hz h1
  obtain ⟨a,ha,h3⟩:=Qev hz h2
  obtain ⟨b,hb,h4⟩:=Qev hz h3
  obtain ⟨hab,h5⟩:=Qdr hz h4
  rw [fB_eq] at h5
  exact ⟨_,_,_,h5,Qvg ho hu hx hy e1 e2 ha hb hab⟩
 have eqs : ∀ {fs : Array Field} {ks : List Nat} (neg : Bool),o.op = .binOp (if neg then .neq else .eql) t x y u → P.underlying t = some (.struct fs) → (P.stoodInHeld t || P.eqGuardType P.depth t) = false → eqKs P 0 fs.toList = some ks →
  T (oEqs z tm mu n ks neg x' y' k) → ∃ v mu' n',T (k v mu' n') ∧ Sound P val fz tm mu n o v mu' n':=by
  intro fs ks neg ho hu hg hk h
  obtain ⟨a,e1,h1⟩:=Qk3 hz h
  obtain ⟨b,e2,h2⟩:=Qk3 hz h1
  obtain ⟨e,he,h3⟩:=Qev hz h2
  rw [fB_eq] at h3
  exact ⟨_,_,_,h3,Qss ho hu hg hk hx hy e1 e2 he⟩
 have eqb : ∀ (neg : Bool),o.op = .binOp (if neg then .neq else .eql) t x y u → P.underlying t = some .bool → T (oEqb z tm mu n neg x' y' k) → ∃ v mu' n',T (k v mu' n') ∧ Sound P val fz tm mu n o v mu' n':=by
  intro neg ho hu h
  obtain ⟨s1,e1,h1⟩:=Qdn hz h
  obtain ⟨a,e2,h2⟩:=Qew hz h1
  subst e2
  obtain ⟨s2,e3,h3⟩:=Qdn hz h2
  obtain ⟨b,e4,h4⟩:=Qew hz h3
  subst e4
  rw [fB_eq] at h4
  exact ⟨_,_,_,h4,Que ho hu hx hy e1 e3⟩
 have num : T (oBin orc z tm mu n op x' y' k) → ∃ v mu' n',T (k v mu' n') ∧ Sound P val fz tm mu n o v mu' n':=by
  intro h
  obtain ⟨s1,e1,h1⟩:=Qdn hz h
  obtain ⟨s2,e2,h2⟩:=Qdn hz h1
  cases s2 with
  | int kd' b =>
   cases s1 with
   | int kd a =>
    obtain ⟨hkd,h4⟩:=Qdr hz (show T (cond (IntKind.eqb kd kd') (binI op kd a b z λr=>k (.one r) mu n) z) from h2)
    have:=Qg9 hkd
    subst this
    obtain ⟨s,hs,h5⟩:=Qug hz h4
    exact ⟨_,_,_,h5,Qsm ho hx hy e1 e2 hs⟩
   | sym kd i =>
    obtain ⟨hkd,h4⟩:=Qdr hz (show T (cond (IntKind.eqb kd kd') (orc.bin op kd i b λr=>fSV r λr=>k (.one r) mu n) z) from h2)
    have:=Qg9 hkd
    subst this
    obtain ⟨s,s',hs,he,h5⟩:=hk.bin _ _ _ _ _ h4
    rw [Qkq] at h5
    exact ⟨_,_,_,h5,Qjj ho hx hy (.inr ⟨i,e1,rfl⟩) (.inl e2) hs he⟩
   | _=>exact (hz h2).elim
  | sym kd' j =>
   cases s1 with
   | int kd a =>
    obtain ⟨hkd,h4⟩:=Qdr hz (show T (cond (IntKind.eqb kd kd') (orc.nib op kd a j λr=>fSV r λr=>k (.one r) mu n) z) from h2)
    have:=Qg9 hkd
    subst this
    obtain ⟨s,s',hs,he,h5⟩:=hk.nib _ _ _ _ _ h4
    rw [Qkq] at h5
    exact ⟨_,_,_,h5,Qjj ho hx hy (.inl e1) (.inr ⟨j,e2,rfl⟩) hs he⟩
   | sym kd i =>
    obtain ⟨hkd,h4⟩:=Qdr hz (show T (cond (IntKind.eqb kd kd') (orc.force j λv=>orc.bin op kd i v λr=>fSV r λr=>k (.one r) mu n) z) from h2)
    have:=Qg9 hkd
    subst this
    obtain ⟨s,s',hs,he,h5⟩:=hk.bin _ _ _ _ _ (hk.force _ _ h4)
    rw [Qkq] at h5
    exact ⟨_,_,_,h5,Qjj ho hx hy (.inr ⟨i,e1,rfl⟩) (.inr ⟨j,e2,rfl⟩) hs he⟩
   | _=>exact (hz h2).elim
  | _=>exact (hz h2).elim
 have shf : ∀ left : Bool,o.op = .binOp (if left then .shl else .shr) t x y u → T (Qeb orc tm x' λtm=>Qeb orc tm y' λtm=>oShift z tm mu n left x' y' k) → ∃ v mu' n',T (k v mu' n') ∧ Sound P val fz tm mu n o v mu' n':=by
  intro left ho h
  obtain ⟨tm1,h,hf1⟩:=Qeu hk h
  obtain ⟨tm2,h,hf2⟩:=Qeu hk h
  obtain ⟨s1,e1,h1⟩:=Qdn hz h
  obtain ⟨kd,a,e2,h2⟩:=Qez hz h1
  subst e2
  obtain ⟨s2,e3,h3⟩:=Qdn hz h2
  obtain ⟨kd',b,e4,h4⟩:=Qez hz h3
  subst e4
  obtain ⟨hb,h5⟩:=Qfq hz (show T (cond (ltI b 0) z (cond left (fI (kd.wrap (a * 2 ^ min b.toNat kd.bits)) λn'=>k (.one (.int kd n')) mu n) (fI (a.fdiv (2 ^ min b.toNat kd.bits)) λn'=>k (.one (.int kd n')) mu n))) from h4)
  rw [Qfv] at hb
  have hb' : ¬ b < 0:=by simpa using hb
  simp only [fI_eq] at h5
  refine ⟨_,_,_,?_,Qf7 (hf1.trans hf2) (Qpd ho hx hy e1 e3 hb')⟩
  cases left <;> exact h5
 unfold Qo9 at hp
 split at hp
 ·split at hp
  ·cases hp; exact shf true ho h
  ·cases hp; exact shf false ho h
  ·cases hp
  ·cases hp
  ·cases hp; exact num h
 ·cases hp
  obtain ⟨s1,e1,h1⟩:=Qdn hz (show T (oSbin z tm mu n op x' y' k) from h)
  obtain ⟨la,a,e2,h2⟩:=Qg2 hz h1
  subst e2
  obtain ⟨s2,e3,h3⟩:=Qdn hz h2
  obtain ⟨lb,b,e4,h4⟩:=Qg2 hz h3
  subst e4
  obtain ⟨s,hs,h5⟩:=Qn2 hz h4
  exact ⟨_,_,_,h5,Qr7 ho hx hy e1 e3 hs⟩
 ·rename_i hu
  split at hp
  ·cases hp; exact eqb false ho hu h
  ·cases hp; exact eqb true ho hu h
  ·cases hp
 ·rename_i e hu
  split at hp
  ·cases hp
  ·split at hp
   ·cases hp; exact eqn true false ho (.inl ⟨rfl,e,hu⟩) h
   ·cases hp; exact eqn true true ho (.inl ⟨rfl,e,hu⟩) h
   ·cases hp
 ·rename_i e hu
  split at hp
  ·cases hp
  ·split at hp
   ·cases hp; exact eqn false false ho (.inr ⟨rfl,e,hu⟩) h
   ·cases hp; exact eqn false true ho (.inr ⟨rfl,e,hu⟩) h
   ·cases hp
 ·rename_i fs hu
  split at hp
  ·cases hp
  ·rename_i hg
   have hg : (P.stoodInHeld t || P.eqGuardType P.depth t) = false:=by simpa using hg
   split at hp
   ·rename_i hk; cases hp; exact eqs false ho hu hg hk h
   ·rename_i hk; cases hp; exact eqs true ho hu hg hk h
   ·cases hp
 ·cases hp
end
end Go.Ev
namespace Go.Ev
section
variable {R : Type} {T : R → Prop} {z : R} {P : Program} {val : Nat → Int} {fz : Fz} {tm : TM} {mu : St} {n : Nat} {o : Oper} {orc : Orc R} {call : CallT R}
theorem Qn5 {t : TypeId} {z : List SV} (ho : o.op = .alloc t) (hz : zeroOf P t = some z) : Sound P val fz tm mu n o (.one (.optr n 0)) ((n, bldZ P t z) :: mu) (n + 1) := by
 by_cases hb : bldZ P t z = z
 ·rw [hb]; exact Qqd ho hz
 ·have hz2 : z = [.npt,.nsl] ∧ bldZ P t z = [.mk 3,.mk t,.npt,.nsl]:=by
   unfold bldZ at hb ⊢
   split at hb
   ·cases hi : isBld P t with
    | true=>exact ⟨rfl,rfl⟩
    | false=>rw [hi] at hb; exact (hb rfl).elim
   ·exact (hb rfl).elim
  obtain ⟨h0,h00⟩:=hz2
  rw [h00]
  obtain ⟨v,i,h1,h2,h3,h4,h5⟩:=Qfo hz
  refine Qd3 (Nat.le_succ _) λρ w a hr _ hf=>?_
  have hn:=hf n (Nat.le_refl _) (Nat.lt_succ_self _)
  have hv : v.cells = #[.pointer none,.slice none 0 0]:=by
   have h6:=(Qgp (val:=val) (ρ:=ρ) (w:=w) h3).1
   subst h0
   match hc : v.cells.toList,h6 with
   | [x,y],h6 =>
    obtain ⟨e1,e2,_⟩:=h6
    have e1 : x = .pointer none:=e1
    have e2 : y = .slice none 0 0:=e2
    subst e1; subst e2
    apply Array.ext'
    rw [hc]
  obtain ⟨b1,b2,b3,b4,b5⟩:=Qje (w':=w.alloc (.cells v.cells t)) (cs:=[.mk 3,.mk t,.npt,.nsl]) (n:=n) (val:=val) (ρ:=ρ) (fz:=fz) (mu:=mu) (w:=w) rfl rfl rfl
   (by show (w.heap.push _).size = _; simp) (λb' hb'=>alloc_old (w:=w) _ hb') hr hn
   (λ_=>.inr (.bld w.heap.size t .npt .nsl (.pointer none) (.slice none 0 0) (upd_same _ _ _) (by rw [hv]; exact Qiy (w:=w) _) (.inl ⟨rfl,rfl⟩) rfl))
  refine ⟨.pointer (some ⟨w.heap.size,0,none⟩),w.alloc (.cells v.cells t),.inl ?_,_,b1,b2,⟨_,upd_same _ _ _,rfl⟩,b3,b4,b5⟩
  simp [execOp,ho,Instr.alloc,h5,newVar,newRow]
theorem Qg4 (hz : ¬ T z) (hc : Qey T P val call) (hk : OrcOk T val orc) {ro : Bool} {op : AOp} {k : KT R} (hp : Qet P o.op = some op) (h : T (aop orc z call fz tm mu n ro op k)) :
 ∃ v mu' n',T (k v mu' n') ∧ Sound P val fz tm mu n o v mu' n':=by
 cases ho : o.op with
 | move x =>
  rw [ho] at hp
  obtain ⟨y,hy,rfl⟩:=Option.map_eq_some_iff.1 hp
  exact ⟨_,_,_,h,Qqk (.inl ho) hy⟩
 | assign x =>
  rw [ho] at hp
  obtain ⟨y,hy,rfl⟩:=Option.map_eq_some_iff.1 hp
  exact ⟨_,_,_,h,Qqk (.inr ho) hy⟩
 | pick c a b =>
  rw [ho] at hp
  simp only [Qet] at hp
  split at hp
  ·rename_i c' a' b' hc' ha hb
   cases hp
   obtain ⟨s,e1,h1⟩:=Qdn hz (show T (oPick z tm mu n c' a' b' k) from h)
   obtain ⟨t,e2,h2⟩:=Qew hz h1
   subst e2
   refine ⟨_,_,_,?_,Qrd ho hc' ha hb e1⟩
   cases t <;> exact h2
  ·cases hp
 | alloc t =>
  rw [ho] at hp
  obtain ⟨zs,hzs,rfl⟩:=Option.map_eq_some_iff.1 hp
  have h1 : T (fN (Nat.succ n) λm=>k (.one (.optr n 0)) ((n,bldZ P t zs) :: mu) m):=h
  rw [fN_eq] at h1
  exact ⟨_,_,_,h1,Qn5 ho hzs⟩
 | box t x =>
  rw [ho] at hp
  obtain ⟨y,hy,rfl⟩:=Option.map_eq_some_iff.1 hp
  obtain ⟨l,e1,h1⟩:=Qgv hz (show T (oBox z tm mu n y k) from h)
  obtain ⟨hkn,h2⟩:=Qdr hz h1
  have h3 : T (fN (Nat.succ n) λm=>k (.one (.optr n 0)) ((n,l) :: mu) m):=h2
  rw [fN_eq] at h3
  exact ⟨_,_,_,h3,Qu1 ho hy e1 hkn⟩
 | build t parts =>
  rw [ho] at hp
  simp only [Qet] at hp
  split at hp
  ·rename_i fs zs hu hzs
   split at hp
   ·rename_i hall
    obtain ⟨qs,hq,rfl⟩:=Option.map_eq_some_iff.1 hp
    obtain ⟨cs,h1,h2⟩:=Qpn (P:=P) (val:=val) (fz:=fz) (mu:=mu) (n:=n) hz ho hu hzs hall hq (show T (fill z tm qs zs λcs=>k (.ag cs) mu n) from h)
    exact ⟨_,_,_,h1,h2⟩
   ·cases hp
  ·cases hp
 | buildSlice t len parts =>
  rw [ho] at hp
  simp only [Qet] at hp
  split at hp
  ·rename_i e hu
   split at hp
   ·rename_i s zs hs hzs
    split at hp
    ·rename_i hc0
     simp only [Bool.and_eq_true] at hc0
     obtain ⟨qs,hq,rfl⟩:=Option.map_eq_some_iff.1 hp
     have h1 : T (copyK (rep zs len) λcs=>fill z tm qs cs λcs=>fN (Nat.succ n) λm=>k (.one (.osl n 0 len len s)) ((n,cs) :: mu) m):=h
     rw [Qh6] at h1
     obtain ⟨cs,h2,h3⟩:=Qnh (P:=P) (val:=val) (fz:=fz) (mu:=mu) (n:=n) hz ho hu hs (by simpa using hc0.1) (Nat.le_of_ble_eq_true hc0.2) hzs hq h1
     rw [fN_eq] at h2
     exact ⟨_,_,_,h2,h3⟩
    ·cases hp
   ·cases hp
  ·cases hp
 | load t x =>
  rw [ho] at hp
  simp only [Qet] at hp
  split at hp
  ·rename_i a m y ha hs hy
   split at hp
   ·cases hp
    obtain ⟨s,e1,h1⟩:=Qdn hz (show T (oLoad z fz tm mu n a m y k) from h)
    obtain ⟨id,off,e2,h2⟩:=Qfy hz h1
    subst e2
    obtain ⟨cs,hl,h3⟩:=Qgo hz h2
    obtain ⟨hb,h4⟩:=Qg7 hz h3
    obtain ⟨v,hv,h5⟩:=Qhz hz h4
    exact ⟨_,_,_,h5,Qrl ho ha hs hy e1 hl hb hv⟩
   ·cases hp
  ·cases hp
 | store t x v =>
  rw [ho] at hp
  simp only [Qet] at hp
  split at hp
  ·rename_i m y u hs hy hu
   cases hp
   obtain ⟨s,e1,h1⟩:=Qdn hz (show T (oStore z tm mu n m y u k) from h)
   obtain ⟨id,off,e2,h2⟩:=Qfy hz h1
   subst e2
   obtain ⟨vs,e3,h3⟩:=Qgv hz h2
   rw [Qin] at h3
   obtain ⟨hm,h4⟩:=Qdr hz h3
   obtain ⟨hkn,h5⟩:=Qdr hz (show T (cond (Qdo vs) (Qj5 mu id z λcs=>overK cs off vs z λcs=>putK mu id cs λmu=>k noVal mu n) z) from h4)
   obtain ⟨cs,hl,hmk,h6⟩:=Qhd hz h5
   obtain ⟨hb,h7⟩:=Qhb hz h6
   rw [Qii] at h7
   exact ⟨_,_,_,h7,Qpm ho hs hy hu e1 e3 (by have:=Qfk hm; omega) hkn hl hmk hb⟩
  ·cases hp
 | nilCheck x =>
  rw [ho] at hp
  obtain ⟨y,hy,rfl⟩:=Option.map_eq_some_iff.1 hp
  obtain ⟨s,e1,h1⟩:=Qdn hz (show T (oNilc z tm mu n y k) from h)
  cases s <;> first | exact (hz h1).elim | exact ⟨_,_,_,h1,Ql1 ho hy e1 (.inl ⟨_,_,rfl⟩)⟩ | exact ⟨_,_,_,h1,Ql1 ho hy e1 (.inr ⟨_,_,rfl⟩)⟩
 | binOp op' t x y u =>
  rw [ho] at hp
  simp only [Qet] at hp
  split at hp
  ·rename_i x' y' hx hy
   exact aop_bin hz hk ho hx hy hp h
  ·cases hp
 | unOp op' t x =>
  rw [ho] at hp
  simp only [Qet] at hp
  split at hp
  ·rename_i y hy
   cases hp
   obtain ⟨s,e1,h1⟩:=Qdn hz (show T (oNot z tm mu n y k) from h)
   obtain ⟨b,e2,h2⟩:=Qew hz h1
   subst e2
   rw [fB_eq] at h2
   exact ⟨_,_,_,h2,Qsg ho hy e1⟩
  ·rename_i y hy
   cases hp
   obtain ⟨tm1,h,hf⟩:=Qeu hk (show T (Qeb orc tm y λtm=>oNeg z tm mu n y k) from h)
   obtain ⟨s,e1,h1⟩:=Qdn hz (show T (oNeg z tm1 mu n y k) from h)
   obtain ⟨kd,b,e2,h2⟩:=Qez hz h1
   subst e2
   rw [fI_eq] at h2
   exact ⟨_,_,_,h2,Qf7 hf (Qsi ho hy e1)⟩
  ·cases hp
 | convert t u x =>
  rw [ho] at hp
  simp only [Qet] at hp
  split at hp
  ·rename_i k' kd y ht hu hy
   cases hp
   obtain ⟨s,e1,h1⟩:=Qdn hz (show T (oConv orc z tm mu n kd y k) from h)
   cases s with
   | int ka a =>
    have h2 : T (wrapK kd a λr=>k (.one (.int kd r)) mu n):=h1
    rw [Qgn] at h2
    exact ⟨_,_,_,h2,Qrm ho ht hu hy e1⟩
   | sym ka i =>
    obtain ⟨s,hs,h2⟩:=hk.conv _ _ _ (show T (orc.conv kd i λr=>fSV r λr=>k (.one r) mu n) from h1)
    rw [Qkq] at h2
    exact ⟨_,_,_,h2,Qm1 ho ht hu hy e1 hs⟩
   | _=>exact (hz h1).elim
  ·rename_i e y ht hu hy
   split at hp
   ·rename_i he
    cases hp
    obtain ⟨sx,ex,h1⟩:=Qdn hz (show T ((ev tm y).onOne z λx=>cond x.isStr z (srcK fz mu 1 x z λcs m=>numK z cs 0 λb=>k (.one (.str m b)) mu n)) from h)
    obtain ⟨hns,h2⟩:=Qfq hz h1
    obtain ⟨src,cnt,hsrc,h3⟩:=Qle (P:=P) (val:=val) hz h2
    obtain ⟨bs,rfl,h4⟩:=Qo3 hz h3
    have hun : sx ≠ .un:=λe=>by subst e; exact hz h2
    exact ⟨_,_,_,h4,Quh ho ht he hu hy ex hns hun hsrc⟩
   ·cases hp
  ·rename_i e y ht hu hy
   split at hp
   ·rename_i he
    obtain ⟨hs2b,hp⟩:=Qnx hp
    cases hp
    obtain ⟨sx,ex,h1⟩:=Qdn hz (show T ((ev tm y).onOne z λx=>x.onStr z λl b=>cond (Nat.ble l 140737488355328) (digK l b [] λcs=>fN (Nat.succ n) λn'=>k (.one (.osl n 0 l l 1)) ((n,cs) :: mu) n') z) from h)
    obtain ⟨l,b,rfl,h2⟩:=Qg2 hz h1
    obtain ⟨hr,h3⟩:=Qdr hz h2
    rw [Qm6,fN_eq,List.append_nil] at h3
    exact ⟨_,_,_,h3,Qt6 hs2b ho ht hu he hy ex (Nat.le_of_ble_eq_true hr)⟩
   ·cases hp
  ·cases hp
 | makeMap t r =>
  rw [ho] at hp
  cases r with
  | some _=>simp [Qet] at hp
  | none =>
   simp only [Qet] at hp
   split at hp
   ·rename_i kt e hu
    split at hp
    ·rename_i a v ha hs
     cases hp
     have h1 : T (fN (Nat.succ n) λn'=>fN (mtag a v) λm=>k (.one (.mp n)) ((n,[.mk m]) :: mu) n'):=h
     rw [fN_eq,fN_eq] at h1
     exact ⟨_,_,_,h1,Qqa (k:=kt) (e:=e) ho⟩
    ·cases hp
   ·cases hp
 | lookup t x i ok =>
  rw [ho] at hp
  simp only [Qet] at hp
  split at hp
  ·rename_i kt e x' i' hu hx hi
   split at hp
   ·rename_i ks a v zs hkt ha hs hzs
    split at hp
    ·rename_i hc0
     cases hp
     simp only [Bool.and_eq_true] at hc0
     obtain ⟨sm,em,h1⟩:=Qdn hz (show T ((ev tm x').onOne z λm=>keyK orc z ks (ev tm i') λkey=>readM z fz mu a v m λes=>findE z key es λr =>
      Option.rec (motive:=λ_=>R) (mgetK z a ok zs false λx=>k x mu n) (λc=>mgetK z a ok c true λx=>k x mu n) r) from h)
     obtain ⟨sk,key,ek,hsk,hki,h2⟩:=Qkz hz hk h1
     obtain ⟨es,hes,h3⟩:=Qma hz h2
     obtain ⟨r,hf,h4⟩:=Ql4 hz h3
     cases r with
     | none =>
      obtain ⟨c,hc',h5⟩:=Qlp hz (show T (mgetK z a ok zs false λx=>k x mu n) from h4)
      exact ⟨_,_,_,h5,Ql0 (r:=none) ho hu hkt hzs hc0.2 hx hi em ek hsk hki hes hf hc'⟩
     | some c0 =>
      obtain ⟨c,hc',h5⟩:=Qlp hz (show T (mgetK z a ok c0 true λx=>k x mu n) from h4)
      exact ⟨_,_,_,h5,Ql0 (r:=some c0) ho hu hkt hzs hc0.2 hx hi em ek hsk hki hes hf hc'⟩
    ·cases hp
   ·cases hp
  ·cases hp
 | mapUpdate t m i x =>
  rw [ho] at hp
  simp only [Qet] at hp
  split at hp
  ·rename_i kt e m' i' x' hu hm hi hx
   split at hp
   ·rename_i ks a v hkt ha hs
    cases hp
    obtain ⟨sm,em,h1⟩:=Qdn hz (show T ((ev tm m').onOne z λm=>keyK orc z ks (ev tm i') λkey=>(ev tm x').onCells z λc=>lenK c 0 λl=>cond (Nat.beq l v) (cond (Qdo c) (cond (isAg (ev tm x') a) (ownM z mu a v m λid es=>putE z key c es λes=>setM mu a v id es λmu=>k noVal mu n) z) z) z) from h)
    obtain ⟨sk,key,ek,hsk,hki,h2⟩:=Qkz hz hk h1
    obtain ⟨c,ex,h3⟩:=Qgv hz h2
    rw [Qin] at h3
    obtain ⟨hlen,h4⟩:=Qdr hz h3
    obtain ⟨hkn,h5⟩:=Qdr hz h4
    obtain ⟨hag,h6⟩:=Qdr hz h5
    obtain ⟨id,es,rfl,hl,hv,h7⟩:=Qkt hz h6
    obtain ⟨es',hput,h8⟩:=Qo0 hz h7
    rw [Qpq] at h8
    exact ⟨_,_,_,h8,Qr4 ho hu hkt hm hi hx em ek hsk hki ex hag (by have:=Qfk hlen; omega) hkn hl hv hput⟩
   ·cases hp
  ·cases hp
 | makeFunc f first caps =>
  rw [ho] at hp
  cases f with
  | func f =>
   simp only [Qet] at hp
   split at hp
   ·rename_i hc0
    simp only [Bool.and_eq_true] at hc0
    obtain ⟨ys,hy,rfl⟩:=Option.map_eq_some_iff.1 hp
    obtain ⟨cs,h1,h2⟩:=Qrv hz (show T (capsK z tm ys λcs=>k (.one (.fn f cs)) mu n) from h)
    exact ⟨_,_,_,h2,Qrc ho hc0.1 hy h1⟩
   ·cases hp
  | _=>simp [Qet] at hp
 | makeSlice t l c =>
  rw [ho] at hp
  simp only [Qet] at hp
  split at hp
  ·rename_i e l' c' hu hl hc'
   split at hp
   ·rename_i s b zs hs hb hzs
    split at hp
    ·rename_i hs0
     cases hp
     obtain ⟨tm1,h,hf1⟩:=Qeu hk (show T (Qeb orc tm l' λtm=>Qeb orc tm c' λtm=>Qm8 z tm mu n s b zs l' c' k) from h)
     obtain ⟨tm2,h,hf2⟩:=Qeu hk h
     obtain ⟨s1,e1,h1⟩:=Qdn hz (show T (Qm8 z tm2 mu n s b zs l' c' k) from h)
     obtain ⟨ka,x,e2,h2⟩:=Qez hz h1
     subst e2
     obtain ⟨s2,e3,h3⟩:=Qdn hz h2
     obtain ⟨kb,y,e4,h4⟩:=Qez hz h3
     subst e4
     obtain ⟨hcond,h5⟩:=Qdr hz h4
     simp only [Bool.and_eq_true,Qfv,Bool.not_eq_true',decide_eq_false_iff_not] at hcond
     obtain ⟨⟨⟨⟨k1,k2⟩,k3⟩,k4⟩,k5⟩:=hcond
     have hka:=Qg9 k1
     have hkb:=Qg9 k2
     subst hka; subst hkb
     simp only [fN_eq,Qh6] at h5
     exact ⟨_,_,_,h5,Qf7 (hf1.trans hf2) (Qmm ho hu hs (by simpa using hs0) hb hzs hl hc' e1 e3 k3 k4 k5)⟩
    ·cases hp
   ·cases hp
  ·cases hp
 | slice t x lo hi mx =>
  rw [ho] at hp
  have hsome : ∀ {a : Option Operand} {b : Option Od},odO P a = some b → a.isSome = b.isSome:=by
   intro a b hab
   cases a with
   | none=>simp [odO] at hab; subst hab; rfl
   | some u=>simp only [odO] at hab; obtain ⟨v,_,rfl⟩:=Option.map_eq_some_iff.1 hab; rfl
  simp only [Qet] at hp
  split at hp
  ·rename_i e x' lo' hi' mx' hu hx hlo hhi hmx
   split at hp
   ·rename_i s hs
    split at hp
    ·cases hp
    ·rename_i hcond
     cases hp
     obtain ⟨tm1,h,hf1⟩:=Qfx hk (show T (Qfw orc tm lo' λtm=>Qfw orc tm hi' λtm=>Qfw orc tm mx' λtm=>oSlc z tm mu n false s x' lo' hi' mx' k) from h)
     obtain ⟨tm2,h,hf2⟩:=Qfx hk h
     obtain ⟨tm3,h,hf3⟩:=Qfx hk h
     obtain ⟨sv,e1,h1⟩:=Qdn hz (show T (oSlc z tm3 mu n false s x' lo' hi' mx' k) from h)
     obtain ⟨hst,h2⟩:=Qdr hz h1
     obtain ⟨r,hr,h3⟩:=Qev hz h2
     rw [Qkq] at h3
     have hns : ∀ l b,sv ≠ .str l b:=λl b e=>by subst e; cases hst
     have hmi : mx.isSome = true → hi.isSome = true:=λhm=>by
      rw [hsome hmx] at hm
      rw [hsome hhi]
      cases hh : hi' with
      | none=>exact (hcond (by simp [hm,hh])).elim
      | some _=>rfl
     exact ⟨_,_,_,h3,Qf7 ((hf1.trans hf2).trans hf3) (Qnd ho (.inl ⟨e,hu,hs,hns⟩) hmi hx hlo hhi hmx e1 hr)⟩
   ·cases hp
  ·rename_i x' lo' hi' mx' hu hx hlo hhi hmx
   split at hp
   ·cases hp
   ·rename_i hcond
    cases hp
    obtain ⟨tm1,h,hf1⟩:=Qfx hk (show T (Qfw orc tm lo' λtm=>Qfw orc tm hi' λtm=>Qfw orc tm mx' λtm=>oSlc z tm mu n true 0 x' lo' hi' mx' k) from h)
    obtain ⟨tm2,h,hf2⟩:=Qfx hk h
    obtain ⟨tm3,h,hf3⟩:=Qfx hk h
    obtain ⟨sv,e1,h1⟩:=Qdn hz (show T (oSlc z tm3 mu n true 0 x' lo' hi' mx' k) from h)
    obtain ⟨hst,h2⟩:=Qdr hz h1
    obtain ⟨r,hr,h3⟩:=Qev hz h2
    rw [Qkq] at h3
    have hs : ∃ l b,sv = .str l b:=by cases sv <;> first | exact ⟨_,_,rfl⟩ | cases hst
    have hmi : mx.isSome = true → hi.isSome = true:=λhm=>by
     rw [hsome hmx] at hm
     exact (hcond hm).elim
    exact ⟨_,_,_,h3,Qf7 ((hf1.trans hf2).trans hf3) (Qnd ho (.inr ⟨hu,hs⟩) hmi hx hlo hhi hmx e1 hr)⟩
  ·rename_i len e x' hu hx hlo hhi hmx
   have none_of : ∀ {a : Option Operand},odO P a = some none → a = none:=by
    intro a ha
    have:=hsome ha
    cases a with
    | none=>rfl
    | some _=>cases this
   have hlo':=none_of hlo
   have hhi':=none_of hhi
   have hmx':=none_of hmx
   subst hlo'; subst hhi'; subst hmx'
   split at hp
   ·rename_i s hs
    split at hp
    ·rename_i hc0
     cases hp
     simp only [Bool.and_eq_true] at hc0
     obtain ⟨sx,ex,h1⟩:=Qdn hz (show T ((ev tm x').onOne z λx=>x.onPtr z λid off=>Qfr fz mu id z λcs=>cond (Nat.ble (Nat.add off (Nat.mul len s)) cs.length) (k (.one (.osl id off len len s)) mu n) z) from h)
     obtain ⟨id,off,e2,h2⟩:=Qfy hz h1
     subst e2
     obtain ⟨cs,hl,h3⟩:=Qgo hz h2
     obtain ⟨hb,h4⟩:=Qdr hz h3
     have:=Nat.le_of_ble_eq_true hc0.2
     exact ⟨_,_,_,h4,Qru ho hu hs (by omega) hx ex hl (Nat.le_of_ble_eq_true hb)⟩
    ·cases hp
   ·cases hp
  ·cases hp
 | fieldAddr t x i =>
  rw [ho] at hp
  simp only [Qet] at hp
  split at hp
  ·rename_i fs y hu hy
   split at hp
   ·rename_i f hf
    split at hp
    ·rename_i m hs
     split at hp
     ·cases hp
     ·rename_i hm
      cases hp
      obtain ⟨s,e1,h1⟩:=Qdn hz (show T (oFaddr z tm mu n f.offset y k) from h)
      obtain ⟨id,off,e2,h2⟩:=Qfy hz h1
      subst e2
      rw [fN_eq] at h2
      exact ⟨_,_,_,h2,Qo7 ho hu hf hs (by simpa using hm) hy e1⟩
    ·cases hp
   ·cases hp
  ·cases hp
 | field t x i =>
  rw [ho] at hp
  simp only [Qet] at hp
  split at hp
  ·rename_i fs y hu hy
   split at hp
   ·rename_i f hf
    split at hp
    ·rename_i a m ha hs
     split at hp
     ·rename_i ham
      cases hp
      obtain ⟨cs,e1,h1⟩:=Qk3 hz (show T (oFld z tm mu n f.offset a m y k) from h)
      obtain ⟨hb,h2⟩:=Qg7 hz h1
      obtain ⟨v,hv,h3⟩:=Qhz hz h2
      exact ⟨_,_,_,h3,Quo ho hu hf ha hs (λe=>by subst e; simpa using ham) hy e1 hb hv⟩
     ·cases hp
    ·cases hp
   ·cases hp
  ·cases hp
 | indexAddr t x i =>
  rw [ho] at hp
  simp only [Qet] at hp
  split at hp
  ·rename_i e x' i' hu hx hi
   obtain ⟨s,hs,rfl⟩:=Option.map_eq_some_iff.1 hp
   obtain ⟨tm1,h,hf⟩:=Qeu hk (show T (Qeb orc tm i' λtm=>Qva z tm mu n s x' i' k) from h)
   obtain ⟨s1,e1,h1⟩:=Qdn hz (show T (Qva z tm1 mu n s x' i' k) from h)
   obtain ⟨kd,j,e2,h2⟩:=Qez hz h1
   subst e2
   obtain ⟨s2,e3,h3⟩:=Qdn hz h2
   obtain ⟨id,off,len,cap,s',e4,h4⟩:=Qo1 hz h3
   subst e4
   obtain ⟨hcond,h5⟩:=Qdr hz h4
   simp only [Bool.and_eq_true,Qfv,Bool.not_eq_true',decide_eq_false_iff_not,Nat.blt_eq] at hcond
   have hss : s' = s:=Qfk hcond.1.1
   subst hss
   rw [fN_eq] at h5
   exact ⟨_,_,_,h5,Qf7 hf (Qp0 ho hu hs hx hi e3 e1 hcond.1.2 hcond.2)⟩
  ·rename_i len e x' i' hu hx hi
   obtain ⟨s,hs,rfl⟩:=Option.map_eq_some_iff.1 hp
   obtain ⟨tm1,h,hf⟩:=Qeu hk (show T (Qeb orc tm i' λtm=>Qpi z tm mu n s len x' i' k) from h)
   obtain ⟨s1,e1,h1⟩:=Qdn hz (show T (Qpi z tm1 mu n s len x' i' k) from h)
   obtain ⟨kd,j,e2,h2⟩:=Qez hz h1
   subst e2
   obtain ⟨s2,e3,h3⟩:=Qdn hz h2
   obtain ⟨id,off,e4,h4⟩:=Qfy hz h3
   subst e4
   obtain ⟨hcond,h5⟩:=Qdr hz h4
   simp only [Bool.and_eq_true,Qfv,Bool.not_eq_true',decide_eq_false_iff_not,Nat.blt_eq] at hcond
   rw [fN_eq] at h5
   exact ⟨_,_,_,h5,Qf7 hf (Qo5 ho hu hs hx hi e3 e1 hcond.1 hcond.2)⟩
  ·cases hp
 | index t x i =>
  rw [ho] at hp
  simp only [Qet] at hp
  split at hp
  ·rename_i x' i' hu hx hi
   cases hp
   obtain ⟨tm1,h,hf⟩:=Qeu hk (show T (Qeb orc tm i' λtm=>oIdx z tm mu n x' i' k) from h)
   obtain ⟨s1,e1,h1⟩:=Qdn hz (show T (oIdx z tm1 mu n x' i' k) from h)
   obtain ⟨kd,j,e2,h2⟩:=Qez hz h1
   subst e2
   obtain ⟨s2,e3,h3⟩:=Qdn hz h2
   obtain ⟨l,b,e4,h4⟩:=Qg2 hz h3
   subst e4
   obtain ⟨h0,h5⟩:=Qfq hz h4
   rw [Qfv] at h0
   obtain ⟨hc',h6⟩:=Qdr hz h5
   rw [fN_eq] at h6
   exact ⟨_,_,_,h6,Qf7 hf (Qsz ho hu hx hi e3 e1 (by simpa using h0) (Nat.le_of_ble_eq_true hc'))⟩
  ·cases hp
 | extract x i =>
  rw [ho] at hp
  obtain ⟨y,hy,rfl⟩:=Option.map_eq_some_iff.1 hp
  obtain ⟨l,e1,h1⟩:=Qve hz (show T (oExtr z tm mu n y i k) from h)
  obtain ⟨c,hl,h2⟩:=Qul hz h1
  refine ⟨cvAV c,mu,n,?_,Qr9 ho hy e1 hl⟩
  cases c <;> exact h2
 | call c =>
  rw [ho] at hp
  simp only [Qet] at hp
  split at hp
  ·rename_i f args hcal hys
   obtain ⟨f',hf,rfl⟩:=Option.map_eq_some_iff.1 hp
   exact Qrw hz hc ho hcal hf hys h
  ·rename_i b args hcal hys
   exact Qp9 hz hk ho hcal hys hp h
  ·cases hp
 | _=>rw [ho] at hp; simp [Qet] at hp
end
end Go.Ev
namespace Go.Ev
structure TmR (val : Nat → Int) (ρ : Rho) (w : World) (tm : TM) (a : Act) : Prop where
 rng : ∀ t,inR tm (t / 16) (t % 16) → t < a.tmps.size
 vals : ∀ t,AVR val ρ w (get tm (t / 16) (t % 16)) (a.tmps.getD t undef)
section
variable {val : Nat → Int} {ρ ρ' : Rho} {w w' : World} {tm : TM} {a : Act}
theorem TmR.mono (h : TmR val ρ w tm a) (ho : ∀ id p,ρ id = some p → ρ' id = some p) (hs : ∀ b,bsize w b ≤ bsize w' b) : TmR val ρ' w' tm a :=
 ⟨h.rng,λt=>(h.vals t).mono ho hs⟩
theorem TmR.set (h : TmR val ρ w tm a) (t : Nat) {v : AV} {x : Value} (hv : AVR val ρ w v x) : TmR val ρ w (setT tm (t / 16) (t % 16) v) (a.put (some t) x):=by
 have hput : ∀ t',(a.put (some t) x).tmps.getD t' undef = if t' = t ∧ t < a.tmps.size then x else a.tmps.getD t' undef:=by
  intro t'
  simp only [Act.put,Array.getD_eq_getD_getElem?,Array.getElem?_setIfInBounds]
  by_cases e : t = t'
  ·subst e
   by_cases hl : t < a.tmps.size
   ·simp [hl]
   ·simp [hl,Array.getElem?_eq_none (Nat.le_of_not_lt hl)]
  ·have e' : ¬ t' = t:=λx=>e x.symm
   simp [e,e']
 refine ⟨λt' ht=>?_,λt'=>?_⟩
 ·simpa [Act.put] using h.rng t' (Qq4 ht)
 ·rw [hput]
  by_cases e : t' = t
  ·subst e
   rcases Qfs (tm:=tm) (q:=t' / 16) (r:=t' % 16) (v:=v) with ⟨h1,h2⟩ | ⟨h1,h2⟩
   ·rw [h2]; simp [h.rng t' h1,hv]
   ·rw [h2]; trivial
  ·have hne : ¬ (t' / 16 = t / 16 ∧ t' % 16 = t % 16):=by omega
   rw [Qgz hne]
   simp only [e,false_and,if_false]
   exact h.vals t'
def setDT (tm : TM) (dst : Option (Nat × Nat)) (v : AV) : TM:=match dst with | none=>tm | some p=>setT tm p.1 p.2 v
theorem Qf8 {R : Type} (tm : TM) (dst : Option (Nat × Nat)) (v : AV) (k : TM → R) : Qd7 tm dst v k = k (setDT tm dst v):=by
 cases dst with
 | none=>rfl
 | some p=>exact Qmn _ _ _ _ _
theorem TmR.put (h : TmR val ρ w tm a) (dst : Option Nat) {v : AV} {x : Value} (hv : AVR val ρ w v x) : TmR val ρ w (setDT tm (dst.map slot) v) (a.put dst x):=by
 cases dst with
 | none=>exact h
 | some t=>exact h.set t hv
theorem TmR.oper {P : Program} (h : TmR val ρ w tm a) (op : Op) : OperR P val ρ w tm a op:=by
 intro x y _ hy
 cases x with
 | tmp t=>simp [od] at hy; subst hy; exact h.vals t
 | const v =>
  obtain ⟨v',hv',rfl⟩:=Option.map_eq_some_iff.1 hy
  exact toAV_AVR hv'
 | global g=>cases hy
 | func f =>
  simp only [od] at hy
  split at hy
  ·cases hy; exact ⟨[],rfl,trivial⟩
  ·cases hy
theorem TmR.ev {P : Program} (h : TmR val ρ w tm a) {x : Operand} {y : Od} (hy : od P x = some y) : AVR val ρ w (Ev.ev tm y) (a.eval x):=h.oper (P:=P) (.move x) x y (by simp [Op.operands]) hy
end
def PostS (val : Nat → Int) (ρ : Rho) (fz : Fz) (mu : St) (n : Nat) (w : World) (a : Act) (tm' : TM) (mu' : St) (n' : Nat) (a' : Act) (w' : World) : Prop :=
 a'.defers = a.defers ∧ ∃ ρ',Ext ρ ρ' n n' ∧ Rel val ρ' fz mu' w' ∧ TmR val ρ' w' tm' a' ∧ Fr ρ mu w w' ∧ NewB ρ ρ' mu mu' w ∧ NewI mu mu' n n'
theorem PostS.refl {val : Nat → Int} {ρ : Rho} {fz : Fz} {mu : St} {n : Nat} {w : World} {a : Act} {tm : TM} (hr : Rel val ρ fz mu w) (ht : TmR val ρ w tm a) : PostS val ρ fz mu n w a tm mu n a w :=
 ⟨rfl,ρ,Ext.refl _ _ _,hr,ht,Fr.refl _ _ _,NewB.refl,NewI.refl⟩
theorem PostS.trans {val : Nat → Int} {ρ ρ1 : Rho} {fz : Fz} {mu mu1 mu2 : St} {n n1 n2 : Nat} {w w1 w2 : World} {a a1 a2 : Act} {tm2 : TM} (hd : a1.defers = a.defers) (he : Ext ρ ρ1 n n1) (hf : Fr ρ mu w w1) (hb : NewB ρ ρ1 mu mu1 w) (hi : NewI mu mu1 n n1)
 (h1 : n ≤ n1) (h2 : n1 ≤ n2) (h : PostS val ρ1 fz mu1 n1 w1 a1 tm2 mu2 n2 a2 w2) : PostS val ρ fz mu n w a tm2 mu2 n2 a2 w2:=by
 obtain ⟨d,ρ2,e2,r2,t2,f2,b2,i2⟩:=h
 exact ⟨d.trans hd,ρ2,he.trans e2 h1 h2,r2,t2,hf.trans hb f2,hb.trans b2 hf.size,hi.trans i2 h1 h2⟩
section
variable {R : Type} {T : R → Prop} {z : R} {P : Program} {val : Nat → Int} {fz : Fz} {orc : Orc R} {call : CallT R}
def OpR (P : Program) (ops : Array Oper) (o : Oper) (ao : AOper) : Prop:=ao.dst = o.dst.map slot ∧ Qet P o.op = some ao.op ∧ guardOf ops o.guard = some ao.g
def StepS (P : Program) (val : Nat → Int) (fz : Fz) (ops : Array Oper) (o : Oper) (tm : TM) (mu : St) (n : Nat) (tm' : TM) (mu' : St) (n' : Nat) : Prop :=
 n ≤ n' ∧ ∀ ρ w a, Rel val ρ fz mu w → TmR val ρ w tm a → Qfd ρ n n' → ∀ (K : Act → World → Prop) (Q : Exit → Act → World → Prop), (∀ a' w', PostS val ρ fz mu n w a tm' mu' n' a' w' → K a' w') →
   (if Region.wanted o (yielded ops a.tmps) then o.wp P a w K Q ∨ (o.asks P a w ∧ LetsOut Q) else K (a.put o.dst undef) w)
theorem put_defers (a : Act) (dst : Option Nat) (v : Value) : (a.put dst v).defers = a.defers:=by cases dst <;> rfl
theorem Qpr (hz : ¬ T z) {ops : Array Oper} {g : Option (Nat × Bool)} {g' : Option (Nat × Nat × Bool)} {tm : TM} {yes no : R} (hg : guardOf ops g = some g') (h : T (Qkc z g' tm yes no)) :
 (T yes ∧ ∀ ρ w a,TmR val ρ w tm a → ∀ o : Oper,o.guard = g → Region.wanted o (yielded ops a.tmps) = true) ∨ (T no ∧ ∀ ρ w a,TmR val ρ w tm a → ∀ o : Oper,o.guard = g → Region.wanted o (yielded ops a.tmps) = false):=by
 cases g with
 | none =>
  simp [guardOf] at hg; subst hg
  exact .inl ⟨h,λρ w a _ o ho=>by simp [Region.wanted,ho]⟩
 | some p =>
  obtain ⟨j,want⟩:=p
  simp only [guardOf] at hg
  split at hg
  ·rename_i t ht
   cases hg
   have hv : ∀ ρ w a,TmR val ρ w tm a → ∀ x,inR tm (t / 16) (t % 16) → a.tmps.getD t undef = x → a.tmps[t]? = some x:=by
    intro ρ w a hr x hin hx
    have hlt:=hr.rng t hin
    simp only [Array.getD_eq_getD_getElem?,Array.getElem?_eq_getElem hlt,Option.getD_some] at hx
    rw [Array.getElem?_eq_getElem hlt,hx]
   have hin : get tm (t / 16) (t % 16) ≠ .one .un → inR tm (t / 16) (t % 16):=by
    intro hne
    unfold get at hne
    simp only [Qfe] at hne
    cases e : tm[t / 16]? with
    | none=>rw [e] at hne; simp at hne
    | some row =>
     rw [e] at hne
     simp only [Option.getD_some] at hne
     refine ⟨row,e,?_⟩
     rcases Nat.lt_or_ge (t % 16) row.length with h | h
     ·exact h
     ·rw [List.getElem?_eq_none h] at hne; exact (hne rfl).elim
   have h' : T (AV.rec (motive:=λ_=>R) (λs=>s.Qei z λb=>cond (b == want) yes no) (λ_=>z) (λl=>List.rec (motive:=λ_=>R) no (λ_ _ _=>z) l) (get tm (t / 16) (t % 16))):=h
   cases e : get tm (t / 16) (t % 16) with
   | one s =>
    rw [e] at h'
    obtain ⟨b,e2,h2⟩:=Qew hz h'
    subst e2
    have key : ∀ ρ w a,TmR val ρ w tm a → ∀ o : Oper,o.guard = some (j,want) → Region.wanted o (yielded ops a.tmps) = (b == want):=by
     intro ρ w a hr o ho
     have hx:=hr.vals t
     rw [e] at hx
     have hx':=hv ρ w a hr (.bool b) (hin (by rw [e]; intro h; cases h)) hx
     have hy : yielded ops a.tmps j = some b:=by
      unfold yielded; rw [ht]; simp [hx']
     simp only [Region.wanted,ho,hy]
     cases b <;> cases want <;> rfl
    cases hb : (b == want) with
    | true=>rw [hb] at h2 key; exact .inl ⟨h2,key⟩
    | false=>rw [hb] at h2 key; exact .inr ⟨h2,key⟩
   | ag l=>rw [e] at h'; exact (hz h').elim
   | tp l =>
    rw [e] at h'
    cases l with
    | cons _ _=>exact (hz h').elim
    | nil =>
     refine .inr ⟨h',λρ w a hr o ho=>?_⟩
     have hx:=hr.vals t
     rw [e] at hx
     obtain ⟨vs,hx1,hx2⟩:=hx
     have hvs : vs = []:=by cases vs with | nil=>rfl | cons _ _=>exact hx2.elim
     subst hvs
     have hx':=hv ρ w a hr _ (hin (by rw [e]; intro h; cases h)) hx1
     have hy : yielded ops a.tmps j = none:=by
      unfold yielded; rw [ht]; simp [hx']
     simp [Region.wanted,ho,hy]
  ·cases hg
theorem Qkx (hz : ¬ T z) (hc : Qey T P val call) (hk : OrcOk T val orc) {ops : Array Oper} {o : Oper} {ao : AOper} {tm : TM} {mu : St} {n : Nat} {k : TM → St → Nat → R} (hr : OpR P ops o ao) (h : T (stepK orc z call fz ao tm mu n k)) :
 ∃ tm' mu' n',T (k tm' mu' n') ∧ StepS P val fz ops o tm mu n tm' mu' n':=by
 obtain ⟨hd,hp,hg⟩:=hr
 rcases Qpr (val:=val) hz hg h with ⟨h1,hw⟩ | ⟨h1,hw⟩
 ·obtain ⟨v,mu',n',h2,h3⟩:=Qg4 (P:=P) (val:=val) hz hc hk hp h1
  rw [Qf8] at h2
  refine ⟨_,_,_,h2,h3.1,λρ w a hrel htm hf K Q hK=>?_⟩
  simp only [hw ρ w a htm o rfl,if_true]
  left
  refine h3.2 ρ w a hrel (htm.oper _) hf K Q λx w' hpost=>?_
  obtain ⟨ρ',p1,p2,p3,p4,p5,p6⟩:=hpost
  refine hK _ _ ⟨put_defers _ _ _,ρ',p1,p2,?_,p4,p5,p6⟩
  rw [hd]
  exact (htm.mono p1.old p4.shape).put o.dst p3
 ·rw [Qf8] at h1
  refine ⟨_,_,_,h1,Nat.le_refl _,λρ w a hrel htm hf K Q hK=>?_⟩
  simp only [hw ρ w a htm o rfl,Bool.false_eq_true,if_false]
  refine hK _ _ ⟨put_defers _ _ _,ρ,Ext.refl _ _ _,hrel,?_,Fr.refl _ _ _,NewB.refl,NewI.refl⟩
  rw [hd]
  exact htm.put o.dst ⟨[],rfl,trivial⟩
theorem Qjs (hz : ¬ T z) (hc : Qey T P val call) (hk : OrcOk T val orc) {ops : Array Oper} : ∀ {l : List Oper} {al : List AOper} {tm : TM} {mu : St} {n : Nat} {k : TM → St → Nat → R},All2 (OpR P ops) l al → T (runK orc z call fz al tm mu n k) →
 ∃ tm' mu' n',T (k tm' mu' n') ∧ n ≤ n' ∧ ∀ ρ w a,Rel val ρ fz mu w → TmR val ρ w tm a → Qfd ρ n n' → ∀ (Q : Exit → Act → World → Prop),(∀ a' w',PostS val ρ fz mu n w a tm' mu' n' a' w' → Q .normal a' w') → wpList P ops Q l a w
 | [],[],tm,mu,n,k,_,h=>⟨tm,mu,n,h,Nat.le_refl _,λρ w a hr ht _ Q hQ=>hQ a w (PostS.refl hr ht)⟩
 | [],_ :: _,_,_,_,_,hl,_=>hl.elim
 | _ :: _,[],_,_,_,_,hl,_=>hl.elim
 | o :: l, ao :: al, tm, mu, n, k, hl, h => by
  obtain ⟨tm1,mu1,n1,h1,h2⟩:=Qkx (P:=P) (val:=val) hz hc hk hl.1 (show T (stepK orc z call fz ao tm mu n λtm mu n=>runK orc z call fz al tm mu n k) from h)
  obtain ⟨tm2,mu2,n2,h3,h4,h5⟩:=Qjs hz hc hk hl.2 h1
  refine ⟨tm2,mu2,n2,h3,Nat.le_trans h2.1 h4,λρ w a hr ht hf Q hQ=>?_⟩
  have:=h2.2 ρ w a hr ht (hf.sub (Nat.le_refl _) h4) (wpList P ops Q l) Q λa1 w1 hp=>by
   obtain ⟨d,ρ1,p1,p2,p3,p4,p5,p6⟩:=hp
   refine h5 ρ1 w1 a1 p2 p3 (hf.later p1 h2.1) Q λa2 w2 hp2=>hQ a2 w2 ?_
   exact PostS.trans d p1 p4 p5 p6 h2.1 h4 hp2
  simpa only [wpList] using this
theorem Qgk {m : Muts} {ops : Array Oper} : ∀ {l : List Oper} {al : List AOper},Qfh P m ops l = some al → All2 (OpR P ops) l al
 | [],al,h=>by simp [Qfh] at h; subst h; trivial
 | o :: l, al, h => by
  simp only [Qfh] at h
  split at h
  ·rename_i op g r h1 h2 h3
   cases h
   exact ⟨⟨rfl,h1,h2⟩,Qgk h3⟩
  ·cases h
end
end Go.Ev
namespace Go.Ev
structure CInv (val : Nat → Int) (ρ : Rho) (fz : Fz) (comp : Nat → St) (w : World) : Prop where
 rf : ∀ id cs,fz id = some cs → OwnF val ρ w id cs
 rm : ∀ c id cs,look (comp c) id = some cs → OwnG val ρ w id cs
 dm : ∀ c id cs,look (comp c) id = some cs → fz id = none
 dj : ∀ c c' id id' p p',(look (comp c) id).isSome → (look (comp c') id').isSome → ρ id = some p → ρ id' = some p' → p.1 = p'.1 → c = c' ∧ id = id'
 df : ∀ c id id' p p',(look (comp c) id).isSome → (fz id').isSome → ρ id = some p → ρ id' = some p' → p.1 ≠ p'.1
def cat (comp : Nat → St) : List Nat → St
 | []=>[]
 | c :: r=>comp c ++ cat comp r
theorem Qkh {comp : Nat → St} {l : List Nat} {id : Nat} {cs : List SV} (h : look (cat comp l) id = some cs) : ∃ c ∈ l,look (comp c) id = some cs:=by
 induction l with
 | nil=>cases h
 | cons c r ih =>
  simp only [cat,Qd2] at h
  cases e : look (comp c) id with
  | some d=>rw [e] at h; simp only [Option.some.injEq] at h; subst h; exact ⟨c,by simp,e⟩
  | none=>rw [e] at h; obtain ⟨c',h1,h2⟩:=ih h; exact ⟨c',by simp [h1],h2⟩
theorem Qg1 {comp : Nat → St} {l : List Nat} {id : Nat} (h : (look (cat comp l) id).isSome) : ∃ c ∈ l,(look (comp c) id).isSome:=by
 obtain ⟨cs,hcs⟩:=Option.isSome_iff_exists.1 h
 obtain ⟨c,h1,h2⟩:=Qkh hcs
 exact ⟨c,h1,by simp [h2]⟩
section
variable {val : Nat → Int} {ρ : Rho} {fz : Fz} {comp : Nat → St} {w : World}
theorem CInv.take (h : CInv val ρ fz comp w) (l : List Nat) : Rel val ρ fz (cat comp l) w:=by
 refine ⟨h.rf,λid cs hl=>?_,λid cs hl=>?_,λid id' p p' hl hl' hp hp' he=>?_⟩
 ·obtain ⟨c,_,h2⟩:=Qkh hl; exact h.rm c id cs h2
 ·obtain ⟨c,_,h2⟩:=Qkh hl; exact h.dm c id cs h2
 ·obtain ⟨c,_,h2⟩:=Qg1 hl
  rcases hl' with hl' | hl'
  ·obtain ⟨c',_,h3⟩:=Qg1 hl'; exact (h.dj c c' id id' p p' h2 h3 hp hp' he).2
  ·exact (h.df c id id' p p' h2 hl' hp hp' he).elim
theorem Rel.noFz {mu : St} (h : Rel val ρ fz mu w) : Rel val ρ (λ_=>none) mu w :=
 ⟨λid cs h=>(by cases h),h.rm,λ_ _ _=>rfl,λid id' p p' hl hl' hp hp' he=>h.dj id id' p p' hl (hl'.elim .inl (λx=>(by cases x))) hp hp' he⟩
theorem CInv.ro (h : CInv val ρ fz comp w) (l : List Nat) (c0 : Nat) : Rel val ρ (with' (cat comp l) (with' (comp c0) fz)) [] w:=by
 refine ⟨λid cs hl=>?_,λid cs hl=>(by cases hl),λid cs hl=>(by cases hl),λid id' p p' hl=>(by cases hl)⟩
 rw [Qd6] at hl
 cases e : look (cat comp l) id with
 | some d=>rw [e] at hl; simp only [Option.some.injEq] at hl; subst hl; obtain ⟨c,_,h2⟩:=Qkh e; exact (h.rm c id d h2).f
 | none =>
  rw [e] at hl
  simp only [Qd6] at hl
  cases e2 : look (comp c0) id with
  | some d=>rw [e2] at hl; simp only [Option.some.injEq] at hl; subst hl; exact (h.rm c0 id d e2).f
  | none=>rw [e2] at hl; exact h.rf id cs hl
def Qem (comp : Nat → St) (l : List Nat) (t : Nat) (out : St) : Nat → St:=λc=>if c = t then out else if c ∈ l then [] else comp c
theorem CInv.update {ρ' : Rho} {fzv : Fz} {muv out : St} {w' : World} {n n' t : Nat} {l : List Nat} (h : CInv val ρ fz comp w) (hmu : ∀ id, (look muv id).isSome → ∃ c ∈ l, (look (comp c) id).isSome) (he : Ext ρ ρ' n n') (hfr : Qfd ρ n n')
 (hr' : Rel val ρ' fzv out w') (hf : Fr ρ muv w w') (hb : NewB ρ ρ' muv out w) (hi : NewI muv out n n') : CInv val ρ' fz (Qem comp l t out) w':=by
 have fzRho : ∀ id,(fz id).isSome → ∃ p,ρ id = some p ∧ p.1 < w.heap.size:=λid hs=>by
  obtain ⟨c,hc⟩:=Option.isSome_iff_exists.1 hs
  have ho:=h.rf id c hc
  obtain ⟨p,o,h1,_⟩:=ho.at
  exact ⟨p,h1,(h.rf id c hc).lt h1⟩
 have cRho : ∀ c id,(look (comp c) id).isSome → ∃ p,ρ id = some p ∧ p.1 < w.heap.size:=λc id hs=>by
  obtain ⟨cs,hc⟩:=Option.isSome_iff_exists.1 hs
  have ho:=h.rm c id cs hc
  obtain ⟨p,o,h1,_⟩:=ho.at
  exact ⟨p,h1,(h.rm c id cs hc).lt h1⟩
 have keepB : ∀ b,b < w.heap.size → (∀ c ∈ l,∀ id p,(look (comp c) id).isSome → ρ id = some p → p.1 ≠ b) → w'.heap[b]? = w.heap[b]?:=λb hlt hn =>
  hf.keep b hlt λid p hl hp=>by obtain ⟨c,h1,h2⟩:=hmu id hl; exact hn c h1 id p h2 hp
 have oldC : ∀ c id cs,c ≠ t → look (Qem comp l t out c) id = some cs → c ∉ l ∧ look (comp c) id = some cs:=λc id cs hct hl=>by
  unfold Qem at hl
  simp only [hct,if_false] at hl
  split at hl
  ·cases hl
  ·rename_i hcl; exact ⟨hcl,hl⟩
 have oldCI : ∀ c id,c ≠ t → (look (Qem comp l t out c) id).isSome → c ∉ l ∧ (look (comp c) id).isSome:=λc id hct hl=>by
  obtain ⟨cs,hcs⟩:=Option.isSome_iff_exists.1 hl
  obtain ⟨h1,h2⟩:=oldC c id cs hct hcs
  exact ⟨h1,by simp [h2]⟩
 have newC : ∀ id,look (Qem comp l t out t) id = look out id:=λid=>by simp [Qem]
 have keepOwnC : ∀ c id cs,c ∉ l → look (comp c) id = some cs → OwnG val ρ' w' id cs:=λc id cs hcl hl=>by
  have ho:=h.rm c id cs hl
  refine ho.mono he.old hf.shape λp hp=>keepB p.1 (ho.lt hp) λc' hc' id' p' hl' hp' e=>?_
  exact hcl ((h.dj c c' id id' p p' (by simp [hl]) hl' hp hp' e.symm).1 ▸ hc')
 -- blocks of the new part
 have blk : ∀ id p,(look out id).isSome → ρ' id = some p → w.heap.size ≤ p.1 ∨ ∃ c ∈ l,∃ id0 p0,(look (comp c) id0).isSome ∧ ρ id0 = some p0 ∧ p0.1 = p.1:=λid p hl hp=>by
  rcases hb id p hl hp with h1 | ⟨id0,p0,h1,h2,h3⟩
  ·exact .inl h1
  ·obtain ⟨c,h4,h5⟩:=hmu id0 h1; exact .inr ⟨c,h4,id0,p0,h5,h2,h3⟩
 have rhoOld : ∀ c id p,(look (comp c) id).isSome → ρ' id = some p → ρ id = some p ∧ p.1 < w.heap.size:=λc id p hl hp=>by
  obtain ⟨q,h1,h2⟩:=cRho c id hl
  have:=he.old id q h1
  rw [hp] at this; cases this; exact ⟨h1,h2⟩
 have rhoFz : ∀ id p,(fz id).isSome → ρ' id = some p → ρ id = some p ∧ p.1 < w.heap.size:=λid p hl hp=>by
  obtain ⟨q,h1,h2⟩:=fzRho id hl
  have:=he.old id q h1
  rw [hp] at this; cases this; exact ⟨h1,h2⟩
 refine ⟨λid cs hl=>?_,λc id cs hl=>?_,λc id cs hl=>?_,λc c' id id' p p' hl hl' hp hp' e=>?_,λc id id' p p' hl hl' hp hp' e=>?_⟩
 ·have ho:=h.rf id cs hl
  refine ho.mono he.old hf.shape λp hp=>keepB p.1 (ho.lt hp) λc hc id' p' hl' hp' e=>?_
  exact h.df c id' id p' p hl' (by simp [hl]) hp' hp e
 ·by_cases hct : c = t
  ·subst hct; rw [newC] at hl; exact hr'.rm id cs hl
  ·obtain ⟨h1,h2⟩:=oldC c id cs hct hl; exact keepOwnC c id cs h1 h2
 ·by_cases hct : c = t
  ·subst hct
   rw [newC] at hl
   rcases hi id (by simp [hl]) with h1 | h1
   ·obtain ⟨c',_,h3⟩:=hmu id h1
    obtain ⟨cs',hcs'⟩:=Option.isSome_iff_exists.1 h3
    exact h.dm c' id cs' hcs'
   ·cases e : fz id with
    | none=>rfl
    | some x =>
     obtain ⟨p,h2,_⟩:=fzRho id (by simp [e])
     rw [hfr id h1.1 h1.2] at h2; cases h2
  ·obtain ⟨h1,h2⟩:=oldC c id cs hct hl; exact h.dm c id cs h2
 ·by_cases hct : c = t
  ·by_cases hct' : c' = t
   ·subst hct; subst hct'
    rw [newC] at hl hl'
    exact ⟨rfl,hr'.dj id id' p p' hl (.inl hl') hp hp' e⟩
   ·subst hct
    rw [newC] at hl
    obtain ⟨h1,h2⟩:=oldCI c' id' hct' hl'
    obtain ⟨h3,h4⟩:=rhoOld c' id' p' h2 hp'
    rcases blk id p hl hp with h5 | ⟨d,hd,id0,p0,h6,h7,h8⟩
    ·omega
    ·exact (h1 ((h.dj d c' id0 id' p0 p' h6 h2 h7 h3 (h8.trans e)).1 ▸ hd)).elim
  ·obtain ⟨h1,h2⟩:=oldCI c id hct hl
   obtain ⟨h3,h4⟩:=rhoOld c id p h2 hp
   by_cases hct' : c' = t
   ·subst hct'
    rw [newC] at hl'
    rcases blk id' p' hl' hp' with h5 | ⟨d,hd,id0,p0,h6,h7,h8⟩
    ·omega
    ·exact (h1 ((h.dj d c id0 id p0 p h6 h2 h7 h3 (h8.trans e.symm)).1 ▸ hd)).elim
   ·obtain ⟨g1,g2⟩:=oldCI c' id' hct' hl'
    obtain ⟨g3,g4⟩:=rhoOld c' id' p' g2 hp'
    exact h.dj c c' id id' p p' h2 g2 h3 g3 e
 ·obtain ⟨g1,g2⟩:=rhoFz id' p' hl' hp'
  by_cases hct : c = t
  ·subst hct
   rw [newC] at hl
   rcases blk id p hl hp with h5 | ⟨d,hd,id0,p0,h6,h7,h8⟩
   ·omega
   ·exact h.df d id0 id' p0 p' h6 hl' h7 g1 (h8.trans e)
  ·obtain ⟨h1,h2⟩:=oldCI c id hct hl
   obtain ⟨h3,h4⟩:=rhoOld c id p h2 hp
   exact h.df c id id' p p' h2 hl' h3 g1 e
theorem CInv.mono0 {ρ' : Rho} {w' : World} (h : CInv val ρ fz comp w) (he : ∀ id p,ρ id = some p → ρ' id = some p) (hf : Fr ρ [] w w') : CInv val ρ' fz comp w':=by
 have kp : ∀ b,b < w.heap.size → w'.heap[b]? = w.heap[b]?:=λb hb=>hf.keep b hb λid p hl=>(by cases hl)
 have rho : ∀ id cs p,OwnF val ρ w id cs → ρ' id = some p → ρ id = some p:=λid cs p ho hp=>by
  obtain ⟨q,o,h1,_⟩:=ho.at
  have:=he id q h1
  rw [hp] at this; cases this; exact h1
 refine ⟨λid cs hl=>(h.rf id cs hl).mono he hf.shape λp hp=>kp _ ((h.rf id cs hl).lt hp),λc id cs hl=>(h.rm c id cs hl).mono he hf.shape λp hp=>kp _ ((h.rm c id cs hl).lt hp),h.dm,λc c' id id' p p' hl hl' hp hp' e=>?_,λc id id' p p' hl hl' hp hp' e=>?_⟩
 ·obtain ⟨cs,h1⟩:=Option.isSome_iff_exists.1 hl
  obtain ⟨cs',h2⟩:=Option.isSome_iff_exists.1 hl'
  exact h.dj c c' id id' p p' hl hl' (rho id cs p (h.rm c id cs h1).f hp) (rho id' cs' p' (h.rm c' id' cs' h2).f hp') e
 ·obtain ⟨cs,h1⟩:=Option.isSome_iff_exists.1 hl
  obtain ⟨cs',h2⟩:=Option.isSome_iff_exists.1 hl'
  exact h.df c id id' p p' hl hl' (rho id cs p (h.rm c id cs h1).f hp) (rho id' cs' p' (h.rf id' cs' h2) hp') e
theorem CInv.like {w1 : World} (hl : Like w w1) (h : CInv val ρ fz comp w) : CInv val ρ fz comp w1 :=
 ⟨fun id c hc => (h.rf id c hc).mono (fun _ _ h => h) (fun b => Nat.le_of_eq (hl.bsize b).symm) fun p _ => by rw [hl.heap],
  λc id cs hc=>(h.rm c id cs hc).mono (λ_ _ h=>h) (λb=>Nat.le_of_eq (hl.bsize b).symm) λp _=>by rw [hl.heap],h.dm,h.dj,h.df⟩
end
end Go.Ev
namespace Go.Ev
structure Rec where
 w : Bool
 v : AV
 out : St
 n1 : Nat
def sucs (l : List Nat) : List Nat:=l.map (· + 1)
def takes (o : AOper) (i : Nat) : List Nat:=if o.mode = 2 then sucs o.anc ++ [0] else if o.mode = 0 ∨ o.mode = 1 ∨ o.mode = 3 then [] else (i + 1) :: sucs o.anc
def target (o : AOper) (i : Nat) : Nat:=if o.mode = 2 then 0 else i + 1
def updC (o : AOper) (i : Nat) (r : Rec) (comp : Nat → St) : Nat → St:=if r.w = true ∧ o.mode ≠ 0 then Qem comp (takes o i) (target o i) r.out else comp
def fzv (fz : Fz) (o : AOper) (comp : Nat → St) : Fz:=if o.mode = 1 then with' (cat comp (sucs o.anc)) (with' (comp 0) fz) else if o.mode = 2 then fz else λ_=>none
def muv (o : AOper) (i : Nat) (comp : Nat → St) : St:=cat comp (takes o i)
def Qi4 (g : Option (Nat × Nat × Bool)) (tm : TM) (b : Bool) : Prop :=
 match g with
 | none=>b = true
 | some (q,r,want)=>(∃ x,get tm q r = .one (.bool x) ∧ b = (x == want)) ∨ (get tm q r = .tp [] ∧ b = false)
section
variable {R : Type} {T : R → Prop} {z : R} {P : Program} {val : Nat → Int} {fz : Fz} {orc : Orc R} {call : CallT R}
theorem Qqe (hz : ¬ T z) {g : Option (Nat × Nat × Bool)} {tm : TM} {yes no : R} (h : T (Qkc z g tm yes no)) : (T yes ∧ Qi4 g tm true) ∨ (T no ∧ Qi4 g tm false):=by
 cases g with
 | none=>exact .inl ⟨h,rfl⟩
 | some p =>
  obtain ⟨q,r,want⟩:=p
  have h' : T (AV.rec (motive:=λ_=>R) (λs=>s.Qei z λb=>cond (b == want) yes no) (λ_=>z) (λl=>List.rec (motive:=λ_=>R) no (λ_ _ _=>z) l) (get tm q r)):=h
  cases e : get tm q r with
  | one s =>
   rw [e] at h'
   obtain ⟨b,e2,h2⟩:=Qew hz h'
   subst e2
   cases hb : (b == want) with
   | true=>rw [hb] at h2; exact .inl ⟨h2,.inl ⟨b,e,hb.symm⟩⟩
   | false=>rw [hb] at h2; exact .inr ⟨h2,.inl ⟨b,e,hb.symm⟩⟩
  | ag l=>rw [e] at h'; exact (hz h').elim
  | tp l =>
   rw [e] at h'
   cases l with
   | cons _ _=>exact (hz h').elim
   | nil=>exact .inr ⟨h',.inr ⟨e,rfl⟩⟩
theorem get_inR {tm : TM} {q r : Nat} (hne : get tm q r ≠ .one .un) : inR tm q r:=by
 unfold get at hne
 simp only [Qfe] at hne
 cases e : tm[q]? with
 | none=>rw [e] at hne; simp at hne
 | some row =>
  rw [e] at hne
  simp only [Option.getD_some] at hne
  refine ⟨row,e,?_⟩
  rcases Nat.lt_or_ge r row.length with h | h
  ·exact h
  ·rw [List.getElem?_eq_none h] at hne; exact (hne rfl).elim
theorem TmR.some {tm : TM} {ρ : Rho} {w : World} {a : Act} (hr : TmR val ρ w tm a) {t : Nat} (hne : get tm (t / 16) (t % 16) ≠ .one .un) : a.tmps[t]? = some (a.tmps.getD t undef):=by
 have hlt:=hr.rng t (get_inR hne)
 simp [Array.getD_eq_getD_getElem?,Array.getElem?_eq_getElem hlt]
theorem Qm3 {ops : Array Oper} {o : Oper} {g' : Option (Nat × Nat × Bool)} {tm : TM} {b : Bool} {ρ : Rho} {w : World} {a : Act} (hg : guardOf ops o.guard = some g') (h : Qi4 g' tm b) (hr : TmR val ρ w tm a) : Region.wanted o (yielded ops a.tmps) = b := by
 cases hgd : o.guard with
 | none =>
  rw [hgd] at hg
  simp [guardOf] at hg; subst hg
  have : b = true:=h
  simp [Region.wanted,hgd,this]
 | some p =>
  obtain ⟨j,want⟩:=p
  rw [hgd] at hg
  simp only [guardOf] at hg
  split at hg
  ·rename_i t ht
   cases hg
   have hv:=hr.vals t
   rcases h with ⟨x,h1,h2⟩ | ⟨h1,h2⟩
   ·have hs:=hr.some (t:=t) (by rw [h1]; intro h; cases h)
    rw [h1] at hv
    have hv' : a.tmps.getD t undef = .bool x:=hv
    rw [hv'] at hs
    have hy : yielded ops a.tmps j = some x:=by unfold yielded; rw [ht]; simp [hs]
    simp only [Region.wanted,hgd,hy,h2]
    cases x <;> cases want <;> rfl
   ·have hs:=hr.some (t:=t) (by rw [h1]; intro h; cases h)
    rw [h1] at hv
    obtain ⟨vs,hx1,hx2⟩:=hv
    have hvs : vs = []:=by cases vs with | nil=>rfl | cons _ _=>exact hx2.elim
    subst hvs
    rw [hx1] at hs
    have hy : yielded ops a.tmps j = none:=by unfold yielded; rw [ht]; simp [hs]
    simp [Region.wanted,hgd,hy,h2]
  ·cases hg
def SemOp (P : Program) (val : Nat → Int) (fz : Fz) (o : Oper) (ao : AOper) (i : Nat) (r : Rec) (tm : TM) (comp : Nat → St) (n : Nat) : Prop :=
 n ≤ r.n1 ∧ Qi4 ao.g tm r.w ∧ (r.w = true → Sound P val (fzv fz ao comp) tm (muv ao i comp) n o r.v r.out r.n1) ∧ (r.w = false → r.v = noVal)
def Chain (P : Program) (val : Nat → Int) (fz : Fz) : Nat → List Oper → List AOper → List Rec → TM → (Nat → St) → Nat → TM → (Nat → St) → Nat → Prop
 | _,[],[],[],tm,comp,n,tm',comp',n'=>tm' = tm ∧ comp' = comp ∧ n' = n
 | i,o :: l,ao :: al,r :: rs,tm,comp,n,tm',comp',n'=>SemOp P val fz o ao i r tm comp n ∧ Chain P val fz (i + 1) l al rs (setDT tm ao.dst r.v) (updC ao i r comp) r.n1 tm' comp' n'
 | _,_,_,_,_,_,_,_,_,_=>False
def Qdy (mu : St) (ad : List St) : Nat → St
 | 0=>mu
 | j + 1=>(ad[j]?).getD []
theorem Qm4 (mu : St) (ad : List St) (l : List Nat) : adsOf ad l = cat (Qdy mu ad) (sucs l):=by
 induction l with
 | nil=>rfl
 | cons i r ih =>
  show nth [] ad i ++ adsOf ad r = _
  rw [ih,Qfe]
  rfl
theorem Qr0 (comp : Nat → St) (l m : List Nat) : cat comp (l ++ m) = cat comp l ++ cat comp m:=by
 induction l with
 | nil=>rfl
 | cons c r ih=>simp [cat,ih]
def Qgl (l : List Nat) (ad : List St) : List St:=match l with | []=>ad | i :: r=>Qgl r (ad.set i [])
theorem Qi9 (l : List Nat) (ad : List St) (k : List St → R) : Qj8 l ad k = k (Qgl l ad):=by
 induction l generalizing ad with
 | nil=>rfl
 | cons i r ih =>
  show setK ad i [] (λad=>Qj8 r ad k) = _
  rw [Qgi,ih]
  rfl
theorem Qlx (l : List Nat) (ad : List St) (j : Nat) : ((Qgl l ad)[j]?).getD [] = if j ∈ l then [] else (ad[j]?).getD [] := by
 induction l generalizing ad with
 | nil=>simp [Qgl]
 | cons i r ih =>
  simp only [Qgl,ih,List.mem_cons]
  by_cases h1 : j ∈ r
  ·simp [h1]
  ·by_cases h2 : i = j
   ·subst h2
    simp [h1,List.getElem?_set]
    split <;> simp
   ·have h3 : ¬ j = i:=λe=>h2 e.symm
    simp [h1,h3,List.getElem?_set_ne h2]
theorem Qhg (l : List Nat) (ad : List St) : (Qgl l ad).length = ad.length:=by
 induction l generalizing ad with
 | nil=>rfl
 | cons i r ih=>simp [Qgl,ih]
theorem Qkk {l : List Nat} {j : Nat} : j + 1 ∈ sucs l ↔ j ∈ l:=by simp [sucs]
theorem Qkv {l : List Nat} : 0 ∉ sucs l:=by simp [sucs]
theorem Qrz (hz : ¬ T z) (hc : Qey T P val call) (hk : OrcOk T val orc) {o : Oper} {ao : AOper} {i : Nat} {tm : TM} {mu : St} {ad : List St} {n : Nat} {k : TM → St → List St → Nat → R} (hp : Qet P o.op = some ao.op) (hi : i < ad.length) (hm : ao.mode ≤ 4) (hanc : i ∉ ao.anc)
 (h : T (rstep orc z call fz i ao tm mu ad n k)) : ∃ r mu' ad',T (k (setDT tm ao.dst r.v) mu' ad' r.n1) ∧ ad'.length = ad.length ∧ SemOp P val fz o ao i r tm (Qdy mu ad) n ∧ Qdy mu' ad' = updC ao i r (Qdy mu ad):=by
 rcases Qqe hz h with ⟨h1,hg⟩ | ⟨h1,hg⟩
 ·have setI : ∀ (ad0 : List St) (new : St) (c : Nat),i < ad0.length → Qdy mu (ad0.set i new) c = if c = i + 1 then new else Qdy mu ad0 c:=by
   intro ad0 new c hi0
   cases c with
   | zero=>simp [Qdy]
   | succ j =>
    simp only [Qdy,Nat.add_right_cancel_iff]
    by_cases e : j = i
    ·subst e; simp [hi0]
    ·have e' : ¬ i = j:=λx=>e x.symm
     simp [e,List.getElem?_set_ne e']
  have hmode : ao.mode = 0 ∨ ao.mode = 1 ∨ ao.mode = 2 ∨ ao.mode = 3 ∨ ao.mode = 4:=by omega
  rcases hmode with hm0 | hm1 | hm2 | hm3 | hm4
  ·simp only [hm0] at h1
   obtain ⟨v,mu',n',h2,h3⟩:=Qg4 (P:=P) (val:=val) hz hc hk hp (show T (aop orc z call (λ_=>none) tm [] n false ao.op λv new n=>List.rec (motive:=λ_=>R) (Qd7 tm ao.dst v λtm=>k tm mu ad n) (λ_ _ _=>z) new) from h1)
   cases mu' with
   | cons _ _=>exact (hz h2).elim
   | nil =>
    have h4 : T (Qd7 tm ao.dst v λtm=>k tm mu ad n'):=h2
    rw [Qf8] at h4
    refine ⟨⟨true,v,[],n'⟩,mu,ad,h4,rfl,⟨h3.1,hg,λ_=>?_,λe=>by cases e⟩,?_⟩
    ·have e1 : fzv fz ao (Qdy mu ad) = λ_=>none:=by simp [fzv,hm0]
     have e2 : muv ao i (Qdy mu ad) = []:=by simp [muv,takes,hm0,cat]
     rw [e1,e2]; exact h3
    ·simp [updC,hm0]
  ·simp only [hm1] at h1
   obtain ⟨v,new,n',h2,h3⟩:=Qg4 (P:=P) (val:=val) hz hc hk hp (show T (aop orc z call (with' (adsOf ad ao.anc) (with' mu fz)) tm [] n true ao.op λv new n=>Qd7 tm ao.dst v λtm=>setK ad i new λad=>k tm mu ad n) from h1)
   rw [Qf8,Qgi] at h2
   refine ⟨⟨true,v,new,n'⟩,mu,ad.set i new,h2,by simp,⟨h3.1,hg,λ_=>?_,λe=>by cases e⟩,?_⟩
   ·have e1 : fzv fz ao (Qdy mu ad) = with' (adsOf ad ao.anc) (with' mu fz):=by simp [fzv,hm1,Qm4 mu,Qdy]
    have e2 : muv ao i (Qdy mu ad) = []:=by simp [muv,takes,hm1,cat]
    rw [e1,e2]; exact h3
   ·funext c
    rw [setI ad new c hi]
    simp [updC,hm1,Qem,target,takes]
  ·simp only [hm2] at h1
   have h1' : T (joinK (adsOf ad ao.anc) mu λmu=>Qj8 ao.anc ad λad=>aop orc z call fz tm mu n false ao.op λv mu n=>Qd7 tm ao.dst v λtm=>k tm mu ad n):=h1
   rw [Qgu,Qi9] at h1'
   obtain ⟨v,mu',n',h2,h3⟩:=Qg4 (P:=P) (val:=val) hz hc hk hp h1'
   rw [Qf8] at h2
   refine ⟨⟨true,v,mu',n'⟩,mu',Qgl ao.anc ad,h2,Qhg _ _,⟨h3.1,hg,λ_=>?_,λe=>by cases e⟩,?_⟩
   ·have e1 : fzv fz ao (Qdy mu ad) = fz:=by simp [fzv,hm2]
    have e2 : muv ao i (Qdy mu ad) = adsOf ad ao.anc ++ mu:=by simp [muv,takes,hm2,Qr0,Qm4 mu,cat,Qdy]
    rw [e1,e2]; exact h3
   ·funext c
    cases c with
    | zero=>simp [Qdy,updC,hm2,Qem,target]
    | succ j =>
     simp only [Qdy,Qlx,updC,hm2,target,takes]
     simp [Qem,Qkk,Qdy]
  ·simp only [hm3] at h1
   obtain ⟨v,new,n',h2,h3⟩:=Qg4 (P:=P) (val:=val) hz hc hk hp (show T (aop orc z call (λ_=>none) tm [] n false ao.op λv new n=>Qd7 tm ao.dst v λtm=>setK ad i new λad=>k tm mu ad n) from h1)
   rw [Qf8,Qgi] at h2
   refine ⟨⟨true,v,new,n'⟩,mu,ad.set i new,h2,by simp,⟨h3.1,hg,λ_=>?_,λe=>by cases e⟩,?_⟩
   ·have e1 : fzv fz ao (Qdy mu ad) = λ_=>none:=by simp [fzv,hm3]
    have e2 : muv ao i (Qdy mu ad) = []:=by simp [muv,takes,hm3,cat]
    rw [e1,e2]; exact h3
   ·funext c
    rw [setI ad new c hi]
    simp [updC,hm3,Qem,target,takes]
  ·simp only [hm4] at h1
   have h1' : T (joinK (nth [] ad i) (adsOf ad ao.anc) λown=>aop orc z call (λ_=>none) tm own n false ao.op λv new n=>Qd7 tm ao.dst v λtm=>Qj8 ao.anc ad λad=>setK ad i new λad=>k tm mu ad n):=h1
   rw [Qgu] at h1'
   obtain ⟨v,new,n',h2,h3⟩:=Qg4 (P:=P) (val:=val) hz hc hk hp h1'
   rw [Qf8,Qi9,Qgi] at h2
   refine ⟨⟨true,v,new,n'⟩,mu,(Qgl ao.anc ad).set i new,h2,by simp [Qhg],⟨h3.1,hg,λ_=>?_,λe=>by cases e⟩,?_⟩
   ·have e1 : fzv fz ao (Qdy mu ad) = λ_=>none:=by simp [fzv,hm4]
    have e2 : muv ao i (Qdy mu ad) = nth [] ad i ++ adsOf ad ao.anc:=by simp [muv,takes,hm4,Qm4 mu,cat,Qdy,Qfe]
    rw [e1,e2]; exact h3
   ·funext c
    rw [setI _ new c (by rw [Qhg]; exact hi)]
    cases c with
    | zero=>simp [Qdy,updC,hm4,Qem,target,takes,Qkv]
    | succ j =>
     simp only [Qdy,Qlx,updC,hm4,target,takes]
     by_cases e : j = i
     ·subst e; simp [Qem]
     ·simp [Qem,e,Qkk,Qdy]
 ·rw [Qf8] at h1
  exact ⟨⟨false,noVal,[],n⟩,mu,ad,h1,rfl,⟨Nat.le_refl _,hg,λe=>(by cases e),λ_=>rfl⟩,by simp [updC]⟩
theorem Qnf (hz : ¬ T z) (hc : Qey T P val call) (hk : OrcOk T val orc) {ops : Array Oper} : ∀ {l : List Oper} {al : List AOper} {i : Nat} {tm : TM} {mu : St} {ad : List St} {n : Nat} {k : TM → St → List St → Nat → R},All2 (OpR P ops) l al → i + al.length ≤ ad.length →
 (∀ (j : Nat) ao,al[j]? = some ao → ao.mode ≤ 4 ∧ (i + j) ∉ ao.anc) → T (rrun orc z call fz al i tm mu ad n k) →
 ∃ rs tm' mu' ad' n',T (k tm' mu' ad' n') ∧ ad'.length = ad.length ∧ Chain P val fz i l al rs tm (Qdy mu ad) n tm' (Qdy mu' ad') n'
 | [],[],i,tm,mu,ad,n,k,_,_,_,h=>⟨[],tm,mu,ad,n,h,rfl,rfl,rfl,rfl⟩
 | [],_ :: _,_,_,_,_,_,_,hl,_,_,_=>hl.elim
 | _ :: _,[],_,_,_,_,_,_,hl,_,_,_=>hl.elim
 | o :: l, ao :: al, i, tm, mu, ad, n, k, hl, hi, hm, h => by
  obtain ⟨h0,h0'⟩:=hm 0 ao (by simp)
  obtain ⟨r,mu1,ad1,h1,h2,h3,h4⟩:=Qrz (P:=P) (val:=val) (fz:=fz) hz hc hk hl.1.2.1 (by simp at hi; omega) h0 (by simpa using h0') (show T (rstep orc z call fz i ao tm mu ad n λtm mu ad n=>rrun orc z call fz al (Nat.succ i) tm mu ad n k) from h)
  obtain ⟨rs,tm',mu',ad',n',h5,h6,h7⟩:=Qnf hz hc hk (i:=i + 1) hl.2 (by rw [h2]; simp at hi; omega) (λj ao' hj=>by
   have:=hm (j + 1) ao' (by simpa using hj)
   rw [show i + (j + 1) = i + 1 + j by omega] at this
   exact this) h1
  refine ⟨r :: rs,tm',mu',ad',n',h5,h6.trans h2,h3,?_⟩
  rw [h4] at h7
  exact h7
end
end Go.Ev
namespace Go.Ev
theorem Qnr {tm : TM} {q r : Nat} {v : AV} {q' r' : Nat} : inR (setT tm q r v) q' r' ↔ inR tm q' r':=by
 refine ⟨Qq4,λ⟨row,h1,h2⟩=>?_⟩
 unfold setT
 by_cases hq : q = q'
 ·subst hq
  have hlt:=(List.getElem?_eq_some_iff.1 h1).1
  refine ⟨(nth [] tm q).set r v,List.getElem?_set_self hlt,?_⟩
  rw [Qfe,h1]
  simpa using h2
 ·exact ⟨row,by rw [List.getElem?_set_ne hq]; exact h1,h2⟩
theorem Qko {tm : TM} {dst : Option (Nat × Nat)} {v : AV} {q r : Nat} : inR (setDT tm dst v) q r ↔ inR tm q r:=by
 cases dst with
 | none=>exact Iff.rfl
 | some p=>exact Qnr
def TMeq (tm tm' : TM) : Prop:=(∀ q r,get tm q r = get tm' q r) ∧ ∀ q r,inR tm q r ↔ inR tm' q r
theorem TmR.congr {val : Nat → Int} {ρ : Rho} {w : World} {tm tm' : TM} {a : Act} (h : TmR val ρ w tm a) (e : TMeq tm tm') : TmR val ρ w tm' a :=
 ⟨λt ht=>h.rng t ((e.2 _ _).2 ht),λt=>by rw [← e.1]; exact h.vals t⟩
def Qep (M : Nat → Bool) : Nat → List AOper → List Rec → TM → TM
 | i,ao :: al,r :: rs,tm=>Qep M (i + 1) al rs (if M i then setDT tm ao.dst r.v else tm)
 | _,_,_,tm=>tm
def foldC (M : Nat → Bool) : Nat → List AOper → List Rec → (Nat → St) → Nat → St
 | i,ao :: al,r :: rs,comp=>foldC M (i + 1) al rs (if M i then updC ao i r comp else comp)
 | _,_,_,comp=>comp
def affC (ao : AOper) (i : Nat) (r : Rec) (c : Nat) : Prop:=r.w = true ∧ ao.mode ≠ 0 ∧ (c = target ao i ∨ c ∈ takes ao i)
theorem Qmu {ao : AOper} {i : Nat} {r : Rec} {comp : Nat → St} {c : Nat} (h : ¬ affC ao i r c) : updC ao i r comp c = comp c:=by
 unfold updC
 split
 ·rename_i hw
  have h1 : c ≠ target ao i:=λe=>h ⟨hw.1,hw.2,.inl e⟩
  have h2 : c ∉ takes ao i:=λe=>h ⟨hw.1,hw.2,.inr e⟩
  simp [Qem,h1,h2]
 ·rfl
theorem Qq7 {ao : AOper} {i : Nat} {r : Rec} {comp comp' : Nat → St} {c : Nat} (h : affC ao i r c) : updC ao i r comp c = updC ao i r comp' c:=by
 obtain ⟨h1,h2,h3⟩:=h
 unfold updC
 simp only [h1,h2,ne_eq,not_false_iff,and_self,if_true,Qem]
 split
 ·rfl
 ·rename_i hne
  have : c ∈ takes ao i:=h3.resolve_left hne
  simp [this]
theorem Qhi {M M' : Nat → Bool} {c : Nat} : ∀ {al : List AOper} {rs : List Rec} {i : Nat} {comp comp' : Nat → St}, comp c = comp' c →
 (∀ (j : Nat) ao r,al[j]? = some ao → rs[j]? = some r → affC ao (i + j) r c → M (i + j) = M' (i + j)) → foldC M i al rs comp c = foldC M' i al rs comp' c
 | [],_,_,_,_,h,_=>h
 | _ :: _,[],_,_,_,h,_=>h
 | ao :: al,r :: rs,i,comp,comp',h,hM=>by
  simp only [foldC]
  refine Qhi ?_ λj ao' r' h1 h2 h3=>?_
  ·by_cases ha : affC ao i r c
   ·have:=hM 0 ao r (by simp) (by simp) (by simpa using ha)
    simp only [Nat.add_zero] at this
    rw [this]
    split
    ·exact Qq7 ha
    ·exact h
   ·split <;> split <;> simp [Qmu ha,h]
  ·have:=hM (j + 1) ao' r' (by simpa using h1) (by simpa using h2) (by rw [show i + (j + 1) = i + 1 + j by omega]; exact h3)
   rwa [show i + (j + 1) = i + 1 + j by omega] at this
def also (M : Nat → Bool) (t : Nat) : Nat → Bool:=λx=>if x = t then true else M x
theorem Qh2 {M : Nat → Bool} {c : Nat} : ∀ {al : List AOper} {rs : List Rec} {i : Nat} {comp : Nat → St},
 (∀ (j : Nat) ao r,al[j]? = some ao → rs[j]? = some r → affC ao (i + j) r c → M (i + j) = false) → foldC M i al rs comp c = comp c
 | [],_,_,_,_=>rfl
 | _ :: _,[],_,_,_=>rfl
 | ao :: al,r :: rs,i,comp,hM=>by
  simp only [foldC]
  rw [Qh2 λj ao' r' h1 h2 h3=>by
   have:=hM (j + 1) ao' r' (by simpa using h1) (by simpa using h2) (by rw [show i + (j + 1) = i + 1 + j by omega]; exact h3)
   rwa [show i + (j + 1) = i + 1 + j by omega] at this]
  split
  ·rename_i hMi
   refine Qmu λha=>?_
   have:=hM 0 ao r (by simp) (by simp) (by simpa using ha)
   simp only [Nat.add_zero] at this
   rw [this] at hMi; cases hMi
  ·rfl
theorem Qnk {M : Nat → Bool} {c : Nat} : ∀ {al : List AOper} {rs : List Rec} {i j0 : Nat} {comp : Nat → St} {ao0 : AOper} {r0 : Rec}, al[j0]? = some ao0 → rs[j0]? = some r0 → M (i + j0) = false →
 (affC ao0 (i + j0) r0 c → ∀ (j : Nat) ao r,al[j]? = some ao → rs[j]? = some r → j0 < j → affC ao (i + j) r c → M (i + j) = false) →
 foldC (also M (i + j0)) i al rs comp c = updC ao0 (i + j0) r0 (foldC M i al rs comp) c
 | [],_,_,_,_,_,_,h,_,_,_=>by simp at h
 | _ :: _,[],_,_,_,_,_,_,h,_,_=>by simp at h
 | ao :: al, r :: rs, i, j0, comp, ao0, r0, ha, hr, hM, hH => by
  by_cases haff : affC ao0 (i + j0) r0 c
  ·cases j0 with
   | zero =>
    simp at ha hr; subst ha; subst hr
    simp only [Nat.add_zero] at hM hH haff ⊢
    simp only [foldC,also,if_true,hM,Bool.false_eq_true,if_false]
    rw [Qh2]
    ·exact Qq7 haff
    ·intro j ao' r' h1 h2 h3
     have hne : ¬ i + 1 + j = i:=by omega
     show (if i + 1 + j = i then true else M (i + 1 + j)) = false
     rw [if_neg hne]
     have:=hH haff (j + 1) ao' r' (by simpa using h1) (by simpa using h2) (by omega) (by rw [show i + (j + 1) = i + 1 + j by omega]; exact h3)
     rwa [show i + (j + 1) = i + 1 + j by omega] at this
   | succ j1 =>
    have e : i + (j1 + 1) = i + 1 + j1:=by omega
    simp only [foldC]
    rw [e] at hM hH ⊢
    have hne : ¬ i = i + 1 + j1:=by omega
    have e2 : also M (i + 1 + j1) i = M i:=by simp [also,hne]
    rw [e2]
    exact Qnk (by simpa using ha) (by simpa using hr) hM λhf j ao' r' h1 h2 h3 h4=>by
     have:=hH hf (j + 1) ao' r' (by simpa using h1) (by simpa using h2) (by omega) (by rw [show i + (j + 1) = i + 1 + j by omega]; exact h4)
     rwa [show i + (j + 1) = i + 1 + j by omega] at this
  ·rw [Qmu haff]
   refine Qhi rfl λj ao' r' h1 h2 h3=>?_
   unfold also
   by_cases e : i + j = i + j0
   ·exfalso
    have : j = j0:=by omega
    subst this
    rw [ha] at h1; cases h1
    rw [hr] at h2; cases h2
    exact haff h3
   ·show (if i + j = i + j0 then true else M (i + j)) = M (i + j)
    rw [if_neg e]
theorem Qlw {M : Nat → Bool} {c : Nat} : ∀ {al : List AOper} {rs : List Rec} {i : Nat} {comp : Nat → St}, comp c = [] →
 (∀ (j : Nat) ao r,al[j]? = some ao → rs[j]? = some r → affC ao (i + j) r c → c ≠ target ao (i + j)) → foldC M i al rs comp c = []
 | [],_,_,_,h,_=>h
 | _ :: _,[],_,_,h,_=>h
 | ao :: al,r :: rs,i,comp,h,hM=>by
  simp only [foldC]
  refine Qlw ?_ λj ao' r' h1 h2 h3=>by
   have:=hM (j + 1) ao' r' (by simpa using h1) (by simpa using h2) (by rw [show i + (j + 1) = i + 1 + j by omega]; exact h3)
   rwa [show i + (j + 1) = i + 1 + j by omega] at this
  split
  ·by_cases ha : affC ao i r c
   ·have hne:=hM 0 ao r (by simp) (by simp) (by simpa using ha)
    simp only [Nat.add_zero] at hne
    obtain ⟨h1,h2,h3⟩:=ha
    have h4 : c ∈ takes ao i:=h3.resolve_left hne
    unfold updC
    simp [h1,h2,Qem,hne,h4]
   ·rw [Qmu ha]; exact h
  ·exact h
theorem Qhr {tm : TM} {dst : Option (Nat × Nat)} {v : AV} {q r : Nat} (h : dst ≠ some (q,r)) : get (setDT tm dst v) q r = get tm q r:=by
 cases dst with
 | none=>rfl
 | some p=>exact Qgz λe=>h (by rw [show p = (p.1,p.2) from rfl,e.1,e.2])
theorem Qi6 {tm tm' : TM} {v : AV} {q r : Nat} (h : inR tm q r ↔ inR tm' q r) : get (setDT tm (some (q,r)) v) q r = get (setDT tm' (some (q,r)) v) q r:=by
 show get (setT tm q r v) q r = get (setT tm' q r v) q r
 rcases Qfs (tm:=tm) (q:=q) (r:=r) (v:=v) with ⟨h1,h2⟩ | ⟨h1,h2⟩
 ·rcases Qfs (tm:=tm') (q:=q) (r:=r) (v:=v) with ⟨h3,h4⟩ | ⟨h3,h4⟩
  ·rw [h2,h4]
  ·exact (h3 (h.1 h1)).elim
 ·rcases Qfs (tm:=tm') (q:=q) (r:=r) (v:=v) with ⟨h3,h4⟩ | ⟨h3,h4⟩
  ·exact (h1 (h.2 h3)).elim
  ·rw [h2,h4]
theorem Qf2 {M : Nat → Bool} {q r : Nat} : ∀ {al : List AOper} {rs : List Rec} {i : Nat} {tm : TM},inR (Qep M i al rs tm) q r ↔ inR tm q r
 | [],_,_,_=>Iff.rfl
 | _ :: _,[],_,_=>Iff.rfl
 | ao :: al,r' :: rs,i,tm=>by
  simp only [Qep]
  rw [Qf2]
  split
  ·exact Qko
  ·exact Iff.rfl
theorem Qgq {M M' : Nat → Bool} {q r : Nat} : ∀ {al : List AOper} {rs : List Rec} {i : Nat} {tm tm' : TM}, get tm q r = get tm' q r → (inR tm q r ↔ inR tm' q r) →
 (∀ (j : Nat) ao,al[j]? = some ao → ao.dst = some (q,r) → M (i + j) = M' (i + j)) → get (Qep M i al rs tm) q r = get (Qep M' i al rs tm') q r
 | [],_,_,_,_,h,_,_=>h
 | _ :: _,[],_,_,_,h,_,_=>h
 | ao :: al,r' :: rs,i,tm,tm',h,hin,hM=>by
  simp only [Qep]
  refine Qgq ?_ ?_ λj ao' h1 h2=>?_
  ·by_cases hd : ao.dst = some (q,r)
   ·have:=hM 0 ao (by simp) hd
    simp only [Nat.add_zero] at this
    rw [this]
    split
    ·rw [hd]; exact Qi6 hin
    ·exact h
   ·split <;> split <;> simp [Qhr hd,h]
  ·split <;> split <;> simp [Qko,hin]
  ·have:=hM (j + 1) ao' (by simpa using h1) h2
   rwa [show i + (j + 1) = i + 1 + j by omega] at this
theorem Qil {M : Nat → Bool} {q r : Nat} : ∀ {al : List AOper} {rs : List Rec} {i : Nat} {tm : TM},(∀ (j : Nat) ao,al[j]? = some ao → ao.dst = some (q,r) → M (i + j) = false) → get (Qep M i al rs tm) q r = get tm q r
 | [],_,_,_,_=>rfl
 | _ :: _,[],_,_,_=>rfl
 | ao :: al,r' :: rs,i,tm,hM=>by
  simp only [Qep]
  rw [Qil λj ao' h1 h2=>by
   have:=hM (j + 1) ao' (by simpa using h1) h2
   rwa [show i + (j + 1) = i + 1 + j by omega] at this]
  split
  ·rename_i hMi
   refine Qhr λhd=>?_
   have:=hM 0 ao (by simp) hd
   simp only [Nat.add_zero] at this
   rw [this] at hMi; cases hMi
  ·rfl
theorem Ql6 {M : Nat → Bool} {q r : Nat} : ∀ {al : List AOper} {rs : List Rec} {i j0 : Nat} {tm : TM} {ao0 : AOper} {r0 : Rec}, al[j0]? = some ao0 → rs[j0]? = some r0 → M (i + j0) = false →
 (ao0.dst = some (q,r) → ∀ (j : Nat) ao,al[j]? = some ao → j0 < j → ao.dst = some (q,r) → M (i + j) = false) →
 get (Qep (also M (i + j0)) i al rs tm) q r = get (setDT (Qep M i al rs tm) ao0.dst r0.v) q r
 | [],_,_,_,_,_,_,h,_,_,_=>by simp at h
 | _ :: _,[],_,_,_,_,_,_,h,_,_=>by simp at h
 | ao :: al, r' :: rs, i, j0, tm, ao0, r0, ha, hr, hM, hH => by
  by_cases haff : ao0.dst = some (q,r)
  ·cases j0 with
   | zero =>
    simp at ha hr; subst ha; subst hr
    simp only [Nat.add_zero] at hM hH ⊢
    simp only [Qep,also,if_true,hM,Bool.false_eq_true,if_false]
    rw [Qil]
    ·rw [haff]; exact Qi6 Qf2.symm
    ·intro j ao' h1 h2
     have hne : ¬ i + 1 + j = i:=by omega
     show (if i + 1 + j = i then true else M (i + 1 + j)) = false
     rw [if_neg hne]
     have:=hH haff (j + 1) ao' (by simpa using h1) (by omega) h2
     rwa [show i + (j + 1) = i + 1 + j by omega] at this
   | succ j1 =>
    have e : i + (j1 + 1) = i + 1 + j1:=by omega
    simp only [Qep]
    rw [e] at hM ⊢
    have hne : ¬ i = i + 1 + j1:=by omega
    have e2 : also M (i + 1 + j1) i = M i:=by simp [also,hne]
    rw [e2]
    exact Ql6 (by simpa using ha) (by simpa using hr) hM λhf j ao' h1 h3 h4=>by
     have:=hH hf (j + 1) ao' (by simpa using h1) (by omega) h4
     rwa [show i + (j + 1) = i + 1 + j by omega] at this
  ·rw [Qhr haff]
   refine Qgq rfl Iff.rfl λj ao' h1 h2=>?_
   unfold also
   by_cases e : i + j = i + j0
   ·exfalso
    have : j = j0:=by omega
    subst this
    rw [ha] at h1; cases h1
    exact haff h2
   ·show (if i + j = i + j0 then true else M (i + j)) = M (i + j)
    rw [if_neg e]
def nAt (n : Nat) (rs : List Rec) : Nat → Nat
 | 0=>n
 | j + 1=>((rs[j]?).map (·.n1)).getD n
section
variable {P : Program} {val : Nat → Int} {fz : Fz}
theorem Chain.lengths : ∀ {l : List Oper} {al : List AOper} {rs : List Rec} {i : Nat} {tm : TM} {comp : Nat → St} {n : Nat} {tm' : TM} {comp' : Nat → St} {n' : Nat},Chain P val fz i l al rs tm comp n tm' comp' n' → l.length = al.length ∧ rs.length = al.length
 | [],[],[],_,_,_,_,_,_,_,_=>⟨rfl,rfl⟩
 | o :: l,ao :: al,r :: rs,_,_,_,_,_,_,_,h=>by obtain ⟨a,b⟩:=Chain.lengths h.2; simp [a,b]
 | [],[],_ :: _,_,_,_,_,_,_,_,h=>h.elim
 | [],_ :: _,[],_,_,_,_,_,_,_,h=>h.elim
 | [],_ :: _,_ :: _,_,_,_,_,_,_,_,h=>h.elim
 | _ :: _,[],[],_,_,_,_,_,_,_,h=>h.elim
 | _ :: _,[],_ :: _,_,_,_,_,_,_,_,h=>h.elim
 | _ :: _,_ :: _,[],_,_,_,_,_,_,_,h=>h.elim
theorem Chain.get : ∀ {l : List Oper} {al : List AOper} {rs : List Rec} {i : Nat} {tm : TM} {comp : Nat → St} {n : Nat} {tm' : TM} {comp' : Nat → St} {n' : Nat}, Chain P val fz i l al rs tm comp n tm' comp' n' →
 ∀ (j : Nat) o ao r,l[j]? = some o → al[j]? = some ao → rs[j]? = some r → SemOp P val fz o ao (i + j) r (Qep (λx=>decide (x < i + j)) i al rs tm) (foldC (λx=>decide (x < i + j)) i al rs comp) (nAt n rs j)
 | [],_,_,_,_,_,_,_,_,_,_,j,o,ao,r,h1,_,_=>by simp at h1
 | _ :: _,[],_,_,_,_,_,_,_,_,h,_,_,_,_,_,h2,_=>by simp at h2
 | _ :: _,_ :: _,[],_,_,_,_,_,_,_,h,_,_,_,_,_,_,h3=>by simp at h3
 | o :: l, ao :: al, r :: rs, i, tm, comp, n, tm', comp', n', h, j, o', ao', r', h1, h2, h3 => by
  cases j with
  | zero =>
   simp at h1 h2 h3; subst h1; subst h2; subst h3
   have e1 : Qep (λx=>decide (x < i + 0)) i (ao :: al) (r :: rs) tm = tm:=by
    have : ∀ (al : List AOper) (rs : List Rec) (k : Nat) (tm : TM),i ≤ k → Qep (λx=>decide (x < i + 0)) k al rs tm = tm:=by
     intro al
     induction al with
     | nil=>intro rs k tm _; rfl
     | cons a al ih =>
      intro rs k tm hk
      cases rs with
      | nil=>rfl
      | cons b rs=>simp only [Qep,show ¬ k < i + 0 by omega,decide_false,Bool.false_eq_true,if_false]; exact ih rs (k + 1) tm (by omega)
    exact this _ _ i tm (Nat.le_refl _)
   have e2 : foldC (λx=>decide (x < i + 0)) i (ao :: al) (r :: rs) comp = comp:=by
    funext c
    exact Qh2 λj ao r _ _ _=>by simp
   rw [e1,e2]
   exact h.1
  | succ j =>
   have:=Chain.get h.2 j o' ao' r' (by simpa using h1) (by simpa using h2) (by simpa using h3)
   simp only [Qep,foldC,show i < i + (j + 1) by omega,decide_true,if_true]
   rw [show i + 1 + j = i + (j + 1) by omega] at this
   have en : nAt r.n1 rs j = nAt n (r :: rs) (j + 1):=by
    cases j with
    | zero=>simp [nAt]
    | succ j =>
     simp only [nAt,List.getElem?_cons_succ]
     simp only [List.getElem?_cons_succ] at h3
     have : j < rs.length:=by have:=(List.getElem?_eq_some_iff.1 h3).1; omega
     simp [List.getElem?_eq_getElem this]
   rw [← en]
   exact this
theorem Chain.final : ∀ {l : List Oper} {al : List AOper} {rs : List Rec} {i : Nat} {tm : TM} {comp : Nat → St} {n : Nat} {tm' : TM} {comp' : Nat → St} {n' : Nat}, Chain P val fz i l al rs tm comp n tm' comp' n' →
 tm' = Qep (λ_=>true) i al rs tm ∧ comp' = foldC (λ_=>true) i al rs comp ∧ n' = nAt n rs rs.length ∧ (∀ j,j < rs.length → nAt n rs j ≤ nAt n rs (j + 1))
 | [],[],[],_,_,_,_,_,_,_,h=>⟨h.1,h.2.1,h.2.2,λj hj=>by simp at hj⟩
 | o :: l, ao :: al, r :: rs, i, tm, comp, n, tm', comp', n', h => by
  obtain ⟨a,b,c,d⟩:=Chain.final h.2
  have en : ∀ j,j ≤ rs.length → nAt r.n1 rs j = nAt n (r :: rs) (j + 1):=by
   intro j hj
   cases j with
   | zero=>simp [nAt]
   | succ j=>simp [nAt,List.getElem?_eq_getElem (show j < rs.length by omega)]
  refine ⟨by simpa [Qep] using a,by simpa [foldC] using b,?_,λj hj=>?_⟩
  ·rw [c,en _ (Nat.le_refl _)]; rfl
  ·cases j with
   | zero=>simpa [nAt] using h.1.1
   | succ j =>
    have:=d j (by simpa using hj)
    rw [en j (by simp at hj; omega),en (j + 1) (by simp at hj; omega)] at this
    exact this
 | [],[],_ :: _,_,_,_,_,_,_,_,h=>h.elim
 | [],_ :: _,[],_,_,_,_,_,_,_,h=>h.elim
 | [],_ :: _,_ :: _,_,_,_,_,_,_,_,h=>h.elim
 | _ :: _,[],[],_,_,_,_,_,_,_,h=>h.elim
 | _ :: _,[],_ :: _,_,_,_,_,_,_,_,h=>h.elim
 | _ :: _,_ :: _,[],_,_,_,_,_,_,_,h=>h.elim
end
end Go.Ev
namespace Go.Ev
structure ROK (ops : List Oper) (al : List AOper) : Prop where
 back : ∀ (i : Nat) oc o,ops[i]? = some oc → al[i]? = some o → ∀ e ∈ oc.after.toList,Region.binds .any e = true → e.on < i
 anc : ∀ (i : Nat) oc o,ops[i]? = some oc → al[i]? = some o → ∀ j ∈ o.anc,∃ e ∈ oc.after.toList,Region.binds .any e = true ∧ (e.on = j ∨ ∃ p,al[e.on]? = some p ∧ j ∈ p.anc)
 mode : ∀ (i : Nat) oc o,ops[i]? = some oc → al[i]? = some o → o.mode ≤ 4
 pair : ∀ (i j : Nat) oc o p,ops[i]? = some oc → al[i]? = some o → al[j]? = some p → i ≠ j →
  (j < i ∧ j ∈ o.anc ∨ i < j ∧ i ∈ p.anc) ∨ ((∀ t,o.dst = some t → p.dst ≠ some t) ∧ (∀ t,p.dst = some t → t ∉ Qmb oc o.g) ∧ ∀ c ∈ aff al j p,c ∉ rds al i o ∧ c ∉ aff al i o)
theorem rok_of {ops : List Oper} {al : List AOper} (h : regOk ops al = true) : ROK ops al := by
 have key : ∀ (i : Nat) oc o,ops[i]? = some oc → al[i]? = some o → oneOk al i oc o = true ∧ ∀ (j : Nat) p,al[j]? = some p → Quy al i oc o j p = true:=by
  intro i oc o h1 h2
  unfold regOk at h
  rw [List.all_eq_true] at h
  have hz : (ops.zip al)[i]? = some (oc,o):=by rw [List.getElem?_zip_eq_some]; exact ⟨h1,h2⟩
  have hm : ((oc,o),i) ∈ (ops.zip al).zipIdx:=List.mem_zipIdx_iff_getElem?.2 hz
  have:=h _ hm
  simp only [Bool.and_eq_true] at this
  refine ⟨this.1,λj p hp=>?_⟩
  have h3:=this.2
  rw [List.all_eq_true] at h3
  exact h3 (p,j) (List.mem_zipIdx_iff_getElem?.2 hp)
 refine ⟨λi oc o h1 h2 e he hb=>?_,λi oc o h1 h2 j hj=>?_,λi oc o h1 h2=>?_,λi j oc o p h1 h2 h3 hne=>?_⟩
 ·have:=(key i oc o h1 h2).1
  simp only [oneOk,Bool.and_eq_true,List.all_eq_true] at this
  have h4:=this.1.1.2 e he
  rw [hb] at h4
  simpa [Nat.blt_eq] using h4
 ·have:=(key i oc o h1 h2).1
  simp only [oneOk,Bool.and_eq_true,List.all_eq_true] at this
  have h4:=this.1.2 j hj
  rw [List.any_eq_true] at h4
  obtain ⟨e,he,h5⟩:=h4
  simp only [Bool.and_eq_true,Bool.or_eq_true,beq_iff_eq] at h5
  refine ⟨e,he,h5.1,h5.2.imp id λh6=>?_⟩
  split at h6
  ·rename_i p hp; exact ⟨p,hp,by simpa using h6⟩
  ·cases h6
 ·have:=(key i oc o h1 h2).1
  simp only [oneOk,Bool.and_eq_true,Nat.ble_eq] at this
  exact this.1.1.1
 ·have:=(key i oc o h1 h2).2 j p h3
  simp only [Quy,Bool.or_eq_true,Bool.and_eq_true,beq_iff_eq,hne,false_or,ordered,Nat.blt_eq,List.contains_iff_mem] at this
  rcases this with h4 | ⟨⟨h5,h6⟩,h7⟩
  ·exact .inl h4
  ·refine .inr ⟨λt ht hp=>?_,λt ht hm=>?_,λc hc=>?_⟩
   ·rw [ht,hp] at h5; simp at h5
   ·rw [ht] at h6; simp [hm] at h6
   ·simp only [Bool.not_eq_true',List.any_eq_false,Bool.or_eq_true,List.contains_iff_mem,not_or] at h7
    exact h7 c hc
theorem ROK.lt {ops : List Oper} {al : List AOper} (h : ROK ops al) (hl : ops.length = al.length) : ∀ (i : Nat) o,al[i]? = some o → ∀ j ∈ o.anc,j < i:=by
 intro i
 induction i using Nat.strongRecOn with
 | ind i ih =>
  intro o ho j hj
  have hi:=(List.getElem?_eq_some_iff.1 ho).1
  obtain ⟨oc,hoc⟩ : ∃ oc,ops[i]? = some oc:=⟨ops[i],List.getElem?_eq_getElem (by omega)⟩
  obtain ⟨e,he,hb,h1⟩:=h.anc i oc o hoc ho j hj
  have h2:=h.back i oc o hoc ho e he hb
  rcases h1 with rfl | ⟨p,hp,h3⟩
  ·exact h2
  ·exact Nat.lt_trans (ih e.on h2 p hp j h3) h2
def live (al : List AOper) (c : Nat) : Prop:=c = 0 ∨ ∃ (k : Nat) (p : AOper),c = k + 1 ∧ al[k]? = some p ∧ p.mode ≠ 0 ∧ p.mode ≠ 2
theorem Qlr {al : List AOper} {o : AOper} {k : Nat} {p : AOper} (hk : k ∈ o.anc) (hp : al[k]? = some p) (h0 : p.mode ≠ 0) (h2 : p.mode ≠ 2) : k ∈ Qmd al o:=by
 unfold Qmd
 rw [List.mem_filter]
 exact ⟨hk,by simp [hp,h0,h2]⟩
theorem Qkw {al : List AOper} {i : Nat} {o : AOper} (ho : al[i]? = some o) (h0 : o.mode ≠ 0) : live al (target o i):=by
 unfold target
 split
 ·exact .inl rfl
 ·rename_i h2; exact .inr ⟨i,o,rfl,ho,h0,h2⟩
theorem Qny {al : List AOper} {i : Nat} {o : AOper} {c : Nat} (hm : o.mode ≤ 4) (hl : live al c) (hc : c ∈ takes o i) : c ∈ aff al i o:=by
 have hmode : o.mode = 0 ∨ o.mode = 1 ∨ o.mode = 2 ∨ o.mode = 3 ∨ o.mode = 4:=by omega
 have anc : ∀ c,live al c → c ∈ sucs o.anc → c ∈ (Qmd al o).map (· + 1):=by
  intro c hl hc
  rcases hl with rfl | ⟨k,p,rfl,h1,h2,h3⟩
  ·exact (Qkv hc).elim
  ·exact List.mem_map.2 ⟨k,Qlr (Qkk.1 hc) h1 h2 h3,rfl⟩
 rcases hmode with h | h | h | h | h <;> simp [takes,h] at hc
 ·rcases hc with hc | hc
  ·simp only [aff,h,List.mem_cons]; exact .inr (anc c hl hc)
  ·simp [aff,h,hc]
 ·rcases hc with hc | hc
  ·simp [aff,h,hc]
  ·simp only [aff,h,List.mem_cons]; exact .inr (anc c hl hc)
theorem Qmz {al : List AOper} {i : Nat} {o : AOper} {r : Rec} {c : Nat} (hm : o.mode ≤ 4) (hl : live al c) (h : affC o i r c) : c ∈ aff al i o:=by
 obtain ⟨_,h0,h1 | h1⟩:=h
 ·have hmode : o.mode = 1 ∨ o.mode = 2 ∨ o.mode = 3 ∨ o.mode = 4:=by omega
  rcases hmode with h | h | h | h <;> simp [target,h] at h1 <;> simp [aff,h,h1]
 ·exact Qny hm hl h1
def reads (o : AOper) (i : Nat) : List Nat:=if o.mode = 1 then 0 :: sucs o.anc else takes o i
theorem Qvi {al : List AOper} {i : Nat} {o : AOper} {c : Nat} (hm : o.mode ≤ 4) (hl : live al c) (hc : c ∈ reads o i) : c ∈ rds al i o:=by
 unfold reads at hc
 split at hc
 ·rename_i h
  simp only [List.mem_cons] at hc
  simp only [rds,h,List.mem_cons]
  refine hc.imp id λhc=>?_
  rcases hl with rfl | ⟨k,p,rfl,h1,h2,h3⟩
  ·exact (Qkv hc).elim
  ·exact List.mem_map.2 ⟨k,Qlr (Qkk.1 hc) h1 h2 h3,rfl⟩
 ·rename_i h
  have:=Qny hm hl hc
  unfold rds
  split
  ·rename_i h'; exact (h h').elim
  ·exact this
theorem Qnm {comp comp' : Nat → St} {l : List Nat} (h : ∀ c ∈ l,comp c = comp' c) : cat comp l = cat comp' l:=by
 induction l with
 | nil=>rfl
 | cons c r ih=>simp only [cat]; rw [h c (by simp),ih λc hc=>h c (by simp [hc])]
theorem Qt2 {o : AOper} {i : Nat} {comp comp' : Nat → St} (h : ∀ c ∈ reads o i,comp c = comp' c) : muv o i comp = muv o i comp':=by
 unfold muv
 by_cases h1 : o.mode = 1
 ·simp [takes,h1,cat]
 ·exact Qnm λc hc=>h c (by simp [reads,h1,hc])
theorem Qtt {fz : Fz} {o : AOper} {i : Nat} {comp comp' : Nat → St} (h : ∀ c ∈ reads o i,comp c = comp' c) : fzv fz o comp = fzv fz o comp':=by
 unfold fzv
 split
 ·rename_i h1
  rw [h 0 (by simp [reads,h1]),Qnm (comp:=comp) (comp':=comp') λc hc=>h c (by simp [reads,h1,hc])]
 ·rfl
section
variable {P : Program} {val : Nat → Int} {fz : Fz}
theorem CInv.rel {ρ : Rho} {comp : Nat → St} {w : World} (h : CInv val ρ fz comp w) (o : AOper) (i : Nat) : Rel val ρ (fzv fz o comp) (muv o i comp) w:=by
 unfold fzv muv
 split
 ·rename_i h1
  have : takes o i = []:=by simp [takes,h1]
  rw [this]
  exact h.ro _ _
 ·split
  ·exact h.take _
  ·exact (h.take _).noFz
theorem Qi4.congr {g : Option (Nat × Nat × Bool)} {tm tm' : TM} {b : Bool} (h : ∀ q r x,g = some (q,r,x) → get tm q r = get tm' q r) (hg : Qi4 g tm b) : Qi4 g tm' b:=by
 cases g with
 | none=>exact hg
 | some p =>
  obtain ⟨q,r,want⟩:=p
  have:=h q r want rfl
  simp only [Qi4] at *
  rw [← this]; exact hg
theorem OperR.of {ρ : Rho} {w : World} {tm tm' : TM} {a : Act} {oc : Oper} {g : Option (Nat × Nat × Bool)} (ht : TmR val ρ w tm a) (h : ∀ q r,(q,r) ∈ Qmb oc g → get tm q r = get tm' q r) : OperR P val ρ w tm' a oc.op:=by
 intro x y hx hy
 have h0:=ht.oper (P:=P) oc.op x y hx hy
 cases x with
 | tmp t =>
  simp [od] at hy; subst hy
  have e : get tm (t / 16) (t % 16) = get tm' (t / 16) (t % 16):=h _ _ (by
   unfold Qmb
   refine List.mem_append_left _ (List.mem_filterMap.2 ⟨.tmp t,by simpa using hx,rfl⟩))
  show AVR val ρ w (get tm' (t / 16) (t % 16)) _
  rw [← e]
  exact h0
 | const v =>
  obtain ⟨v',hv',rfl⟩:=Option.map_eq_some_iff.1 hy
  exact h0
 | global g=>cases hy
 | func f =>
  simp only [od] at hy
  split at hy
  ·cases hy; exact h0
  ·cases hy
end
end Go.Ev
