/-
  ReplicaOld: part 5 of what the proof is made of.
-/
import Derived.Test.YtnnjlnkoomeadaaReplicaOldP4
import Derived.Test.YtnnjlnkoomeadaaRows
import Derived.KernelRfl
import Derived.Deep.Slices
import Derived.ChangeArms
import Derived.DataReads
set_option linter.unusedVariables false
set_option linter.unusedSimpArgs false
namespace Go.Ev
section
variable {fz : Fz} {tm : TM} {mu : St} {n : Nat} {P : Program} {ro : Bool} {k : KT Prop}
theorem cond_P {c : Bool} {p : Prop} : cond c p False = Need (c = true) p:=by cases c <;> simp [Need]
theorem cond_N {c : Bool} {p : Prop} : cond c False p = Need (c = false) p:=by cases c <;> simp [Need]
theorem takeK_p {l : List SV} {m : Nat} {k : List SV → Prop} : takeK l m False k = Need (m ≤ l.length) (k (l.take m)):=by
  induction l generalizing m k with
  | nil=>cases m with
    | zero=>show k [] = _; simp [Need]
    | succ m=>show False = _; simp [Need]
  | cons h t ih=>cases m with
    | zero=>show k [] = _; simp [Need]
    | succ m =>
      refine (ih (m:=m) (k:=λr=>k (h :: r))).trans ?_
      simp [Need]
theorem subK_p {l : List SV} {off m : Nat} {k : List SV → Prop} : subK l off m False k = Need (off + m ≤ l.length) (k ((l.drop off).take m)):=by
  induction l generalizing off k with
  | nil=>cases off with
    | zero=>cases m with
      | zero=>show k [] = _; simp [Need]
      | succ m=>show False = _; simp [Need]
    | succ o=>show False = _; simp [Need]
  | cons h t ih=>cases off with
    | zero=>refine (takeK_p (l:=h :: t)).trans ?_; simp
    | succ o =>
      refine (ih (off:=o)).trans ?_
      rw [show (o + 1 + m ≤ (h :: t).length) = (o + m ≤ t.length) by simp; omega]; rfl
theorem headK_p {vs l : List SV} {k : List SV → Prop} : headK vs l False k = Need (vs.length ≤ l.length) (k (vs ++ l.drop vs.length)):=by
  induction vs generalizing l k with
  | nil=>show k l = _; simp [Need]
  | cons v vs ih=>cases l with
    | nil=>show False = _; simp [Need]
    | cons h t =>
      refine (ih (l:=t) (k:=λr=>k (v :: r))).trans ?_
      simp [Need]
theorem overK_p {l : List SV} {off : Nat} {vs : List SV} {k : List SV → Prop} : overK l off vs False k = Need (off + vs.length ≤ l.length) (k (over l off vs)):=by
  induction l generalizing off k with
  | nil=>cases off with
    | zero=>refine (headK_p (vs:=vs) (l:=[])).trans ?_; simp [Need,over]
    | succ o=>show False = _; simp [Need]
  | cons h t ih=>cases off with
    | zero=>refine (headK_p (vs:=vs) (l:=h :: t)).trans ?_; simp [over]
    | succ o =>
      refine (ih (off:=o) (k:=λr=>k (h :: r))).trans ?_
      have e : (o + 1 + vs.length ≤ (h :: t).length) = (o + vs.length ≤ t.length):=by simp; omega
      rw [e]
      simp only [over,List.take_succ_cons,List.cons_append]
      rw [show o + 1 + vs.length = (o + vs.length) + 1 by omega,List.drop_succ_cons]
theorem plainK_p {cs : List SV} {k : List SV → Prop} : plainK False k cs = Need (mkd cs = false) (k cs):=cond_N
theorem lookAll_p {id : Nat} {k : List SV → Prop} : lookAll fz mu id False k = onSome (with' mu fz id) λcs=>Need (mkd cs = false) (k cs):=by
  unfold lookAll
  rw [with_eq]
  cases look mu id with
  | some c=>exact plainK_p
  | none=>cases fz id with
    | some c=>exact plainK_p
    | none=>rfl
theorem onLook_p {id : Nat} {k : List SV → Prop} : onLook mu id False k = onSome (look mu id) λcs=>Need (mkd cs = false) (k cs):=by
  unfold onLook
  cases look mu id with
  | some c=>exact plainK_p
  | none=>rfl
theorem asRes_ag {r : List SV} {k : AV → Prop} : asRes true r False k = k (.ag r):=nr rfl
theorem asRes_one {s : SV} {k : AV → Prop} : asRes false [s] False k = k (.one s):=nr rfl
@[congr] theorem asRes_congr {b : Bool} {r r' : List SV} {z : Prop} {k : AV → Prop} (h : r = r') : asRes b r z k = asRes b r' z k:=by rw [h]
theorem over_0 {a b : SV} {l vs : List SV} : over (a :: l) 0 (b :: vs) = b :: over l 0 vs:=by
  simp [over]
theorem rep_0 {z : List SV} : rep z 0 = []:=nr rfl
theorem rep_s {z : List SV} {n : Nat} : rep z (n + 1) = z ++ rep z n:=nr rfl
theorem cast_lit {n : Nat} : (Nat.cast (no_index (OfNat.ofNat n)) : Int) = OfNat.ofNat n:=nr rfl
theorem over_n {l : List SV} : over l 0 [] = l:=by simp [over]
theorem over_s {a : SV} {l vs : List SV} {k : Nat} : over (a :: l) (k + 1) vs = a :: over l k vs:=by
  simp only [over,List.take_succ_cons,List.cons_append]
  rw [show k + 1 + vs.length = (k + vs.length) + 1 by omega,List.drop_succ_cons]
theorem look_c {i : Nat} {c : List SV} {s : St} {id : Nat} : look ((i,c) :: s) id = if i = id then some c else look s id:=look_cons _ _ _
theorem with_c {i : Nat} {c : List SV} {s : St} {id : Nat} : with' ((i,c) :: s) fz id = if i = id then some c else with' s fz id:=by
  rw [with_eq,look_c,with_eq]
  by_cases h : i = id
  · simp only [h,if_true]
  · simp only [h,if_false]
theorem with_nil : with' [] fz = fz:=nr rfl
theorem putS_c {i : Nat} {c d : List SV} {s : St} {id : Nat} : putS ((i,c) :: s) id d = if i = id then (i,d) :: s else (i,c) :: putS s id d:=nr rfl
theorem killS_c {i : Nat} {c : List SV} {s : St} {id : Nat} : killS ((i,c) :: s) id = if i = id then killS s id else (i,c) :: killS s id:=nr rfl
theorem get_p {nt : Nat} {en : Nat → Nat → AV} {q r : Nat} (h1 : Nat.blt r 16 = true) (h2 : Nat.blt (16 * q + r) nt = true) : get (tmE nt en) q r = en q r:=get_tmE (by simpa using h1) (by simpa using h2)
theorem ev_t {nt : Nat} {en : Nat → Nat → AV} {q r : Nat} (h1 : Nat.blt r 16 = true) (h2 : Nat.blt (16 * q + r) nt = true) : ev (tmE nt en) (.t q r) = en q r:=get_p h1 h2
theorem updE_same {nt : Nat} {en : Nat → Nat → AV} {q r : Nat} {v : AV} (h1 : Nat.blt r 16 = true) (h2 : Nat.blt (16 * q + r) nt = true) : updN nt en q r v q r = v:=by
  unfold updN; rw [if_pos ⟨by simpa using h1,by simpa using h2⟩]; simp [updE]
theorem updE_r {nt : Nat} {en : Nat → Nat → AV} {q r q' r' : Nat} {v : AV} (h : ¬ r' = r) : updN nt en q r v q' r' = en q' r':=by unfold updN; split <;> simp [updE,h]
theorem updE_q {nt : Nat} {en : Nat → Nat → AV} {q r q' r' : Nat} {v : AV} (h : ¬ q' = q) : updN nt en q r v q' r' = en q' r':=by unfold updN; split <;> simp [updE,h]
noncomputable def mvK (v : AV) (k : AV → Prop) : Prop:=k v
@[congr] theorem mvK_congr {v v' : AV} {k : AV → Prop} (h : v = v') : mvK v k = mvK v' k:=by rw [h]
theorem mvK_one {s : SV} {k : AV → Prop} : mvK (.one s) k = k (.one s):=nr rfl
theorem mvK_ag {s : List SV} {k : AV → Prop} : mvK (.ag s) k = k (.ag s):=nr rfl
theorem mvK_tp {s : List CV} {k : AV → Prop} : mvK (.tp s) k = k (.tp s):=nr rfl
theorem mvK_no {k : AV → Prop} : mvK noVal k = k noVal:=nr rfl
theorem env_0 {a : AV} {l : List AV} : envI (a :: l) 0 0 = a:=rfl
theorem env_1 {a b : AV} {l : List AV} : envI (a :: b :: l) 0 1 = b:=rfl
theorem env_2 {a b c : AV} {l : List AV} : envI (a :: b :: c :: l) 0 2 = c:=rfl
theorem env_3 {a b c d : AV} {l : List AV} : envI (a :: b :: c :: d :: l) 0 3 = d:=rfl
theorem env_4 {a b c d e : AV} {l : List AV} : envI (a :: b :: c :: d :: e :: l) 0 4 = e:=rfl
theorem ev_c {v : AV} : ev tm (.c v) = v:=nr rfl
theorem setDst_no {v : AV} {k : TM → Prop} : setDst tm none v k = k tm:=nr rfl
theorem setDst_t {nt : Nat} {en : Nat → Nat → AV} {q r : Nat} {v : AV} {k : TM → Prop} : setDst (tmE nt en) (some (q,r)) v k = k (tmE nt (updN nt en q r v)):=by
  rw [← set_N]; exact setTm_eq _ _ _ _ _
theorem known_int {kd : IntKind} {i : Int} : SV.known (.int kd i) = true:=nr rfl
theorem known_bool {b : Bool} : SV.known (.bool b) = true:=nr rfl
theorem known_str {l m : Nat} : SV.known (.str l m) = true:=nr rfl
theorem known_nsl : SV.known .nsl = true:=nr rfl
theorem known_npt : SV.known .npt = true:=nr rfl
theorem known_nfn : SV.known .nfn = true:=nr rfl
theorem known_optr {a b : Nat} : SV.known (.optr a b) = true:=nr rfl
theorem known_osl {a b c d e : Nat} : SV.known (.osl a b c d e) = true:=nr rfl
theorem known_esl : SV.known .esl = true:=nr rfl
theorem known_zsl : SV.known .zsl = true:=nr rfl
theorem known_fn {f : Nat} {c : List (Nat × Nat)} : SV.known (.fn f c) = true:=nr rfl
theorem knownAll_nil : knownAll [] = true:=nr rfl
theorem knownAll_cons {s : SV} {l : List SV} : knownAll (s :: l) = (s.known && knownAll l):=by
  show cond s.known (knownAll l) false = _
  cases s.known <;> rfl
theorem knownAll_app {l m : List SV} : knownAll (l ++ m) = (knownAll l && knownAll m):=by
  induction l with
  | nil=>simp [knownAll_nil]
  | cons a l ih=>rw [List.cons_append,knownAll_cons,knownAll_cons,ih,Bool.and_assoc]
theorem mkd_nil : mkd [] = false:=nr rfl
theorem mkd_cons {s : SV} {l : List SV} : mkd (s :: l) = s.isMk:=nr rfl
theorem mk_int {kd : IntKind} {i : Int} : SV.isMk (.int kd i) = false:=nr rfl
theorem mk_bool {b : Bool} : SV.isMk (.bool b) = false:=nr rfl
theorem mk_str {l m : Nat} : SV.isMk (.str l m) = false:=nr rfl
theorem mk_nsl : SV.isMk .nsl = false:=nr rfl
theorem mk_npt : SV.isMk .npt = false:=nr rfl
theorem mk_nfn : SV.isMk .nfn = false:=nr rfl
theorem mk_optr {a b : Nat} : SV.isMk (.optr a b) = false:=nr rfl
theorem mk_osl {a b c d e : Nat} : SV.isMk (.osl a b c d e) = false:=nr rfl
theorem mk_esl : SV.isMk .esl = false:=nr rfl
theorem mk_zsl : SV.isMk .zsl = false:=nr rfl
theorem mk_fn {f : Nat} {c : List (Nat × Nat)} : SV.isMk (.fn f c) = false:=nr rfl
noncomputable def fT (v : AV) (p : Prop) : Prop:=AV.rec (motive:=λ_=>Prop) (λs=>s.onSym p λ_ _=>False) (λ_=>p) (λ_=>p) v
@[congr] theorem fT_congr {v v' : AV} {p : Prop} (h : v = v') : fT v p = fT v' p:=by rw [h]
theorem fT_int {kd : IntKind} {i : Int} {p : Prop} : fT (.one (.int kd i)) p = p:=nr rfl
theorem forceK_t {q r : Nat} {k : TM → Prop} : forceK pOrc tm (.t q r) k = fT (ev tm (.t q r)) (k tm):=nr rfl
theorem forceK_c {v : AV} {k : TM → Prop} : forceK pOrc tm (.c v) k = k tm:=nr rfl
theorem forceO_n {k : TM → Prop} : forceO pOrc tm none k = k tm:=nr rfl
theorem forceO_s {x : Od} {k : TM → Prop} : forceO pOrc tm (some x) k = forceK pOrc tm x k:=nr rfl
theorem a_mv {x : Od} : aop pOrc False (CP P) fz tm mu n ro (.mv x) k = mvK (ev tm x) λv=>k v mu n:=nr rfl
theorem a_pick {c a b : Od} : aop pOrc False (CP P) fz tm mu n ro (.pick c a b) k = (ev tm c).onOne False λs=>s.onBool False λt=>Br t (mvK (ev tm a) λv=>k v mu n) (mvK (ev tm b) λv=>k v mu n) .mk:=nr rfl
theorem a_alloc {z : List SV} : aop pOrc False (CP P) fz tm mu n ro (.alloc z) k = k (.one (.optr n 0)) ((n,z) :: mu) (n + 1):=by
  show fN (Nat.succ n) (λm=>k (.one (.optr n 0)) ((n,z) :: mu) m) = _
  rw [fN_eq]
theorem a_box {x : Od} : aop pOrc False (CP P) fz tm mu n ro (.box x) k = (ev tm x).onCells False λcs=>Need (knownAll cs = true) (k (.one (.optr n 0)) ((n,cs) :: mu) (n + 1)):=by
  show (ev tm x).onCells False (λcs=>cond (knownAll cs) (oNew mu n cs k) False) = _
  congr 1; funext cs; rw [cond_P]; unfold oNew; rw [fN_eq]
theorem fill_nil {cs : List SV} {k : List SV → Prop} : fill False tm [] cs k = k cs:=nr rfl
theorem fill_cons {p : Nat × Nat × Od} {ps : List (Nat × Nat × Od)} {cs : List SV} {k : List SV → Prop} : fill False tm (p :: ps) cs k =
    (ev tm p.2.2).onCells False λvs=>Need (Nat.beq vs.length p.2.1 = true) (Need (knownAll vs = true) (Need (p.1 + vs.length ≤ cs.length) (fill False tm ps (over cs p.1 vs) k))):=by
  show (ev tm p.2.2).onCells False (λvs=>lenK vs 0 λm=>cond (Nat.beq m p.2.1) (cond (knownAll vs) (overK cs p.1 vs False λcs=>fill False tm ps cs k) False) False) = _
  congr 1; funext vs; rw [lenK_eq,Nat.zero_add,cond_P,cond_P,overK_p]
theorem a_build {z : List SV} {ps : List (Nat × Nat × Od)} : aop pOrc False (CP P) fz tm mu n ro (.build z ps) k = fill False tm ps z λcs=>k (.ag cs) mu n:=nr rfl
theorem a_bslice {s len : Nat} {z : List SV} {ps : List (Nat × Nat × Od)} : aop pOrc False (CP P) fz tm mu n ro (.bslice s len z ps) k = fill False tm ps (rep z len) λcs=>k (.one (.osl n 0 len len s)) ((n,cs) :: mu) (n + 1):=by
  show copyK (rep z len) (λcs=>fill False tm ps cs λcs=>fN (Nat.succ n) λm=>k (.one (.osl n 0 len len s)) ((n,cs) :: mu) m) = _
  rw [copyK_eq]; rfl
theorem a_load {agg : Bool} {m : Nat} {x : Od} : aop pOrc False (CP P) fz tm mu n ro (.load agg m x) k =
    (ev tm x).onOne False λs=>s.onPtr False λid off=>onSome (with' mu fz id) λcs=>Need (mkd cs = false) (Need (off + m ≤ cs.length) (asRes agg ((cs.drop off).take m) False λv=>k v mu n)):=by
  show (ev tm x).onOne False (λs=>s.onPtr False λid off=>lookAll fz mu id False λcs=>subK cs off m False λr=>asRes agg r False λv=>k v mu n) = _
  congr 1; funext s; congr 1; funext id off; rw [lookAll_p]; congr 1; funext cs; rw [subK_p]
theorem a_store {m : Nat} {x v : Od} : aop pOrc False (CP P) fz tm mu n ro (.store m x v) k =
    (ev tm x).onOne False λs=>s.onPtr False λid off=>(ev tm v).onCells False λvs=>Need (Nat.beq vs.length m = true) (Need (knownAll vs = true) (onSome (look mu id) λcs=>Need (mkd cs = false) (Need (off + vs.length ≤ cs.length) (k noVal (putS mu id (over cs off vs)) n)))):=by
  show (ev tm x).onOne False (λs=>s.onPtr False λid off=>(ev tm v).onCells False λvs=>lenK vs 0 λl=>cond (Nat.beq l m) (oPut False mu id off vs λmu=>k noVal mu n) False) = _
  congr 1; funext s; congr 1; funext id off; congr 1; funext vs; rw [lenK_eq,Nat.zero_add,cond_P]; unfold oPut; rw [cond_P,onLook_p]; congr 2; congr 1; funext cs; rw [overK_p,putK_eq]
theorem a_bin {op : BinOp} {x y : Od} : aop pOrc False (CP P) fz tm mu n ro (.bin op x y) k = (ev tm x).onOne False λs=>(ev tm y).onOne False λu=>u.onInt (u.onSym False λkd' j=>s.onInt False λkd a=>False) λkd' b=>s.onInt False λkd a=>Need (IntKind.eqb kd kd' = true) (binI op kd a b False λr=>k (.one r) mu n):=by
  show (ev tm x).onOne False (λs=>(ev tm y).onOne False λu=>_) = _
  congr 1; funext s; congr 1; funext u
  cases u <;> cases s <;> first | rfl | (show cond _ _ False = _; first | rw [cond_P]; rfl | (cases IntKind.eqb _ _ <;> rfl)) | skip
noncomputable def onNil (s : SV) (p : Prop) : Prop:=SV.rec (motive:=λ_=>Prop) False (λ_ _=>False) (λ_=>False) (λ_ _=>False) False False False (λ_ _=>p) (λ_ _ _ _ _=>False) False False (λ_ _=>p) (λ_ _=>False) False (λ_=>False) False (λ_=>False) s
@[congr] theorem onNil_congr {s s' : SV} {p : Prop} (h : s = s') : onNil s p = onNil s' p:=by rw [h]
theorem onNil_p {a b : Nat} {p : Prop} : onNil (.optr a b) p = p:=nr rfl
theorem onNil_f {a : Nat} {l : List (Nat × Nat)} {p : Prop} : onNil (.fn a l) p = p:=nr rfl
theorem a_nilc {x : Od} : aop pOrc False (CP P) fz tm mu n ro (.nilc x) k = (ev tm x).onOne False λs=>onNil s (k (.one s) mu n):=nr rfl
theorem nil_nsl : nilness true .nsl = some true:=rfl
theorem nil_osl {a b c d e : Nat} : nilness true (.osl a b c d e) = some false:=rfl
theorem nil_esl : nilness true .esl = some false:=rfl
theorem nil_zsl : nilness true .zsl = some false:=rfl
theorem nil_npt : nilness false .npt = some true:=rfl
theorem nil_ptr {a b : Nat} : nilness false (.optr a b) = some false:=rfl
theorem a_sbin {op : BinOp} {x y : Od} : aop pOrc False (CP P) fz tm mu n ro (.sbin op x y) k = (ev tm x).onOne False λs=>s.onStr False λl a=>(ev tm y).onOne False λu=>u.onStr False λl' b=>strBinK op l a l' b False λr=>k (.one r) mu n:=nr rfl
theorem a_eqb {neg : Bool} {x y : Od} : aop pOrc False (CP P) fz tm mu n ro (.eqb neg x y) k = (ev tm x).onOne False λs=>s.onBool False λa=>(ev tm y).onOne False λu=>u.onBool False λb=>k (.one (.bool (neg != (a == b)))) mu n:=by
  show (ev tm x).onOne False (λs=>s.onBool False λa=>(ev tm y).onOne False λu=>u.onBool False λb=>fB (neg != (a == b)) λr=>k (.one (.bool r)) mu n) = _
  congr 1; funext s; congr 1; funext a; congr 1; funext u; congr 1; funext b; rw [fB_eq]
theorem a_eqn {sl neg : Bool} {x y : Od} : aop pOrc False (CP P) fz tm mu n ro (.eqn sl neg x y) k = (ev tm x).onOne False λs=>(ev tm y).onOne False λu=>onSome (nilness sl s) λa=>onSome (nilness sl u) λb=>Need ((a || b) = true) (k (.one (.bool (neg != (a && b)))) mu n):=by
  show (ev tm x).onOne False (λs=>(ev tm y).onOne False λu=>Option.rec (motive:=λ_=>Prop) False (λa=>Option.rec (motive:=λ_=>Prop) False (λb=>cond (a || b) (fB (neg != (a && b)) λr=>k (.one (.bool r)) mu n) False) (nilness sl u)) (nilness sl s)) = _
  congr 1; funext s; congr 1; funext u
  cases nilness sl s with
  | none=>rfl
  | some a=>cases nilness sl u with
    | none=>rfl
    | some b=>show cond _ _ False = _; rw [cond_P,fB_eq]; rfl
theorem a_eqs {ks : List Nat} {neg : Bool} {x y : Od} : aop pOrc False (CP P) fz tm mu n ro (.eqs ks neg x y) k = (ev tm x).onAg False λa=>(ev tm y).onAg False λb=>onSome (eqCells ks a b) λe=>k (.one (.bool (neg != e))) mu n:=by
  show (ev tm x).onAg False (λa=>(ev tm y).onAg False λb=>Option.rec (motive:=λ_=>Prop) False (λe=>fB (neg != e) λr=>k (.one (.bool r)) mu n) (eqCells ks a b)) = _
  congr 1; funext a; congr 1; funext b
  cases eqCells ks a b with
  | none=>rfl
  | some e=>show fB _ _ = _; rw [fB_eq]; rfl
theorem a_not {x : Od} : aop pOrc False (CP P) fz tm mu n ro (.not x) k = (ev tm x).onOne False λs=>s.onBool False λa=>k (.one (.bool (!a))) mu n:=by
  show (ev tm x).onOne False (λs=>s.onBool False λa=>fB (not a) λr=>k (.one (.bool r)) mu n) = _
  congr 1; funext s; congr 1; funext a; rw [fB_eq]
theorem a_neg {x : Od} : aop pOrc False (CP P) fz tm mu n ro (.neg x) k = forceK pOrc tm x λtm=>(ev tm x).onOne False λs=>s.onInt False λkd a=>k (.one (.int kd (kd.wrap (0 - a)))) mu n:=by
  show forceK pOrc tm x (λtm=>(ev tm x).onOne False λs=>s.onInt False λkd a=>fI (kd.wrap (0 - a)) λr=>k (.one (.int kd r)) mu n) = _
  congr 1; funext tm; congr 1; funext s; congr 1; funext kd a; rw [fI_eq]
theorem a_conv {kd : IntKind} {x : Od} : aop pOrc False (CP P) fz tm mu n ro (.conv kd x) k = (ev tm x).onOne False λs=>s.onInt (s.onSym False λ_ _=>False) λ_ a=>k (.one (.int kd (kd.wrap a))) mu n:=by
  show (ev tm x).onOne False (λs=>s.onInt (s.onSym False λ_ i=>False) λ_ a=>wrapK kd a λr=>k (.one (.int kd r)) mu n) = _
  congr 1; funext s; congr 1; funext _ a; rw [wrapK_eq]
theorem capsK_nil {k : List (Nat × Nat) → Prop} : capsK False tm [] k = k []:=nr rfl
theorem capsK_cons {x : Od} {l : List Od} {k : List (Nat × Nat) → Prop} : capsK False tm (x :: l) k = (ev tm x).onOne False λs=>s.onPtr False λid off=>capsK False tm l λr=>k ((id,off) :: r):=nr rfl
theorem a_mkfn {f : Nat} {cs : List Od} : aop pOrc False (CP P) fz tm mu n ro (.mkfn f cs) k = capsK False tm cs λcs=>k (.one (.fn f cs)) mu n:=nr rfl
theorem a_mkslice {s b : Nat} {z : List SV} {l c : Od} : aop pOrc False (CP P) fz tm mu n ro (.mkslice s b z l c) k = forceK pOrc tm l fun tm => forceK pOrc tm c fun tm => (ev tm l).onOne False fun a => a.onInt False fun ka a => (ev tm c).onOne False fun d => d.onInt False fun kb d =>
    Need ((IntKind.eqb ka .i64 && IntKind.eqb kb .i64 && not (ltI a 0) && not (ltI d a) && fits d.toNat b) = true) (k (.one (.osl n 0 a.toNat a.toNat s)) ((n,rep z a.toNat) :: mu) (n + 1)):=by
  show forceK pOrc tm l (λtm=>forceK pOrc tm c λtm=>(ev tm l).onOne False λa=>a.onInt False λka a=>(ev tm c).onOne False λd=>d.onInt False λkb d =>
    cond (IntKind.eqb ka .i64 && IntKind.eqb kb .i64 && not (ltI a 0) && not (ltI d a) && fits d.toNat b) (fN a.toNat λm=>copyK (rep z m) λcs=>fN (Nat.succ n) λn'=>k (.one (.osl n 0 m m s)) ((n,cs) :: mu) n') False) = _
  congr 1; funext tm; congr 1; funext tm; congr 1; funext a; congr 1; funext ka a; congr 1; funext d; congr 1; funext kb d
  rw [cond_P,fN_eq,copyK_eq,fN_eq]
theorem a_slc {str : Bool} {s : Nat} {x : Od} {lo hi mx : Option Od} : aop pOrc False (CP P) fz tm mu n ro (.slc str s x lo hi mx) k = forceO pOrc tm lo fun tm => forceO pOrc tm hi fun tm => forceO pOrc tm mx fun tm => (ev tm x).onOne False fun v =>
    Need ((v.isStr == str) = true) (onSome (sliceOf s v (lo.map (ev tm)) (hi.map (ev tm)) (mx.map (ev tm))) λr=>k (.one r) mu n):=by
  show forceO pOrc tm lo (λtm=>forceO pOrc tm hi λtm=>forceO pOrc tm mx λtm=>(ev tm x).onOne False λv=>cond (v.isStr == str) (Option.rec (motive:=λ_=>Prop) False (λr=>fSV r λr=>k (.one r) mu n) (sliceOf s v (lo.map (ev tm)) (hi.map (ev tm)) (mx.map (ev tm)))) False) = _
  congr 1; funext tm; congr 1; funext tm; congr 1; funext tm; congr 1; funext v; rw [cond_P]; congr 1
  cases sliceOf s v (lo.map (ev tm)) (hi.map (ev tm)) (mx.map (ev tm)) with
  | none=>rfl
  | some r=>show fSV r _ = _; rw [fSV_eq]; rfl
theorem a_faddr {off : Nat} {x : Od} : aop pOrc False (CP P) fz tm mu n ro (.faddr off x) k = (ev tm x).onOne False λs=>s.onPtr False λid o=>k (.one (.optr id (o + off))) mu n:=by
  show (ev tm x).onOne False (λs=>s.onPtr False λid o=>fN (Nat.add o off) λo=>k (.one (.optr id o)) mu n) = _
  congr 1; funext s; congr 1; funext id o; rw [fN_eq]; rfl
theorem a_fld {off : Nat} {agg : Bool} {m : Nat} {x : Od} : aop pOrc False (CP P) fz tm mu n ro (.fld off agg m x) k = (ev tm x).onAg False λcs=>Need (off + m ≤ cs.length) (asRes agg ((cs.drop off).take m) False λv=>k v mu n):=by
  show (ev tm x).onAg False (λcs=>subK cs off m False λr=>asRes agg r False λv=>k v mu n) = _
  congr 1; funext cs; rw [subK_p]
theorem a_iaddr {s : Nat} {x i : Od} : aop pOrc False (CP P) fz tm mu n ro (.iaddr s x i) k = forceK pOrc tm i fun tm => (ev tm i).onOne False fun i => i.onInt False fun _ i => (ev tm x).onOne False fun v => v.onSl False fun id off len _ s' =>
    Need ((Nat.beq s' s && not (ltI i 0) && Nat.blt i.toNat len) = true) (k (.one (.optr id (off + i.toNat * s))) mu n):=by
  show forceK pOrc tm i (λtm=>(ev tm i).onOne False λi=>i.onInt False λ_ i=>(ev tm x).onOne False λv=>v.onSl False λid off len _ s'=>cond (Nat.beq s' s && not (ltI i 0) && Nat.blt i.toNat len) (fN (Nat.add off (Nat.mul i.toNat s)) λo=>k (.one (.optr id o)) mu n) False) = _
  congr 1; funext tm; congr 1; funext i; congr 1; funext _ i; congr 1; funext v; congr 1; funext id off len _ s'; rw [cond_P,fN_eq]; rfl
theorem a_iaddrA {s len : Nat} {x i : Od} : aop pOrc False (CP P) fz tm mu n ro (.iaddrA s len x i) k = forceK pOrc tm i fun tm => (ev tm i).onOne False fun i => i.onInt False fun _ i => (ev tm x).onOne False fun v => v.onPtr False fun id off =>
    Need ((not (ltI i 0) && Nat.blt i.toNat len) = true) (k (.one (.optr id (off + i.toNat * s))) mu n):=by
  show forceK pOrc tm i (λtm=>(ev tm i).onOne False λi=>i.onInt False λ_ i=>(ev tm x).onOne False λv=>v.onPtr False λid off=>cond (not (ltI i 0) && Nat.blt i.toNat len) (fN (Nat.add off (Nat.mul i.toNat s)) λo=>k (.one (.optr id o)) mu n) False) = _
  congr 1; funext tm; congr 1; funext i; congr 1; funext _ i; congr 1; funext v; congr 1; funext id off; rw [cond_P,fN_eq]; rfl
theorem a_idx {x i : Od} : aop pOrc False (CP P) fz tm mu n ro (.idx x i) k = forceK pOrc tm i fun tm => (ev tm i).onOne False fun i => i.onInt False fun _ i => (ev tm x).onOne False fun v => v.onStr False fun l b =>
    Need (ltI i 0 = false) (Need (Nat.blt i.toNat l = true) (k (.one (.int .u8 (Int.ofNat (b / 256 ^ (l - 1 - i.toNat) % 256)))) mu n)):=by
  show forceK pOrc tm i (λtm=>(ev tm i).onOne False λi=>i.onInt False λ_ i=>(ev tm x).onOne False λv=>v.onStr False λl b=>cond (ltI i 0) False (cond (Nat.blt i.toNat l) (fN (Nat.mod (Nat.div b (Nat.pow 256 (Nat.sub (Nat.pred l) i.toNat))) 256) λc=>k (.one (.int .u8 (Int.ofNat c))) mu n) False)) = _
  congr 1; funext tm; congr 1; funext i; congr 1; funext _ i; congr 1; funext v; congr 1; funext l b; rw [cond_N,cond_P,fN_eq]; rfl
theorem nthK_0 {α : Type} {a : α} {l : List α} {k : α → Prop} : nthK (a :: l) 0 False k = k a:=nr rfl
theorem nthK_s {α : Type} {a : α} {l : List α} {i : Nat} {k : α → Prop} : nthK (a :: l) (i + 1) False k = nthK l i False k:=nr rfl
noncomputable def onCV (c : CV) (k : AV → Prop) : Prop:=CV.rec (motive:=λ_=>Prop) (λs=>k (.one s)) (λl=>k (.ag l)) c
@[congr] theorem onCV_congr {c c' : CV} {k : AV → Prop} (h : c = c') : onCV c k = onCV c' k:=by rw [h]
theorem onCV_one {s : SV} {k : AV → Prop} : onCV (.one s) k = k (.one s):=nr rfl
theorem onCV_ag {s : List SV} {k : AV → Prop} : onCV (.ag s) k = k (.ag s):=nr rfl
theorem a_extr {x : Od} {i : Nat} : aop pOrc False (CP P) fz tm mu n ro (.extr x i) k = (ev tm x).onTp False λps=>nthK ps i False λc=>onCV c λv=>k v mu n:=nr rfl
noncomputable def onLen (s : SV) (k : Nat → Prop) : Prop:=SV.rec (motive:=λ_=>Prop) False (λ_ _=>False) (λ_=>False) (λl _=>k l) (k 0) False False (λ_ _=>False) (λ_ _ len _ _=>k len) (k 0) (k 0) (λ_ _=>False) (λ_ _=>False) False (λ_=>False) False (λ_=>False) s
@[congr] theorem onLen_congr {s s' : SV} {k : Nat → Prop} (h : s = s') : onLen s k = onLen s' k:=by rw [h]
theorem onLen_str {l b : Nat} {k : Nat → Prop} : onLen (.str l b) k = k l:=nr rfl
theorem onLen_nsl {k : Nat → Prop} : onLen .nsl k = k 0:=nr rfl
theorem onLen_esl {k : Nat → Prop} : onLen .esl k = k 0:=nr rfl
theorem onLen_zsl {k : Nat → Prop} : onLen .zsl k = k 0:=nr rfl
theorem onLen_osl {a b c d e : Nat} {k : Nat → Prop} : onLen (.osl a b c d e) k = k c:=nr rfl
theorem a_len {str : Bool} {x : Od} : aop pOrc False (CP P) fz tm mu n ro (.len str x) k = (ev tm x).onOne False λs=>Need ((s.isStr == str) = true) (onLen s λl=>k (.one (.int .i64 (Int.ofNat l))) mu n):=by
  show (ev tm x).onOne False (λs=>cond (s.isStr == str) _ False) = _
  congr 1; funext s; rw [cond_P]; rfl
theorem isStr_str {l b : Nat} : SV.isStr (.str l b) = true:=nr rfl
theorem isStr_nsl : SV.isStr .nsl = false:=nr rfl
theorem isStr_esl : SV.isStr .esl = false:=nr rfl
theorem isStr_zsl : SV.isStr .zsl = false:=nr rfl
theorem isStr_osl {a b c d e : Nat} : SV.isStr (.osl a b c d e) = false:=nr rfl
theorem a_max {x : Od} {xs : List Od} : aop pOrc False (CP P) fz tm mu n ro (.max x xs) k = (ev tm x).onOne False λs=>maxK pOrc False (evs tm xs) s λr=>k (.one r) mu n:=nr rfl
theorem a_min {x : Od} {xs : List Od} : aop pOrc False (CP P) fz tm mu n ro (.min x xs) k = (ev tm x).onOne False λs=>minK pOrc False (evs tm xs) s λr=>k (.one r) mu n:=nr rfl
theorem maxK_nil {a : SV} {k : SV → Prop} : maxK pOrc False [] a k = k a:=nr rfl
theorem minK_nil {a : SV} {k : SV → Prop} : minK pOrc False [] a k = k a:=nr rfl
theorem maxK_int {kd : IntKind} {i j : Int} {l : List AV} {k : SV → Prop} : maxK pOrc False (.one (.int kd j) :: l) (.int kd i) k = maxK pOrc False l (.int kd (max i j)) k:=by
  show cond (IntKind.eqb kd kd) ((λt=>cond t (maxK pOrc False l (.int kd j) k) (maxK pOrc False l (.int kd i) k)) (ltI i j)) False = _
  have e : IntKind.eqb kd kd = true:=by cases kd <;> rfl
  rw [e,ltI_eq]
  by_cases h : i < j
  · rw [show decide (i < j) = true by simpa using h,show max i j = j by omega]; rfl
  · rw [show decide (i < j) = false by simpa using h,show max i j = i by omega]; rfl
theorem minK_int {kd : IntKind} {i j : Int} {l : List AV} {k : SV → Prop} : minK pOrc False (.one (.int kd j) :: l) (.int kd i) k = minK pOrc False l (.int kd (min i j)) k:=by
  show cond (IntKind.eqb kd kd) ((λt=>cond t (minK pOrc False l (.int kd j) k) (minK pOrc False l (.int kd i) k)) (ltI j i)) False = _
  have e : IntKind.eqb kd kd = true:=by cases kd <;> rfl
  rw [e,ltI_eq]
  by_cases h : j < i
  · rw [show decide (j < i) = true by simpa using h,show min i j = j by omega]; rfl
  · rw [show decide (j < i) = false by simpa using h,show min i j = i by omega]; rfl
theorem a_call0 {f : Od} {asl : List Od} : aop pOrc False (CP P) fz tm mu n false (.call f asl) k = (ev tm f).onOne False λs=>s.onFn False λg cs=>CPh P g (asl.map (ev tm) ++ capVals cs) fz mu n k .mk:=by
  show (ev tm f).onOne False (λs=>s.onFn False λg cs=>argsK tm asl (capVals cs) λvs=>CP P g vs fz mu n k) = _
  congr 1; funext s; congr 1; funext g cs; rw [argsK_eq]; rfl
theorem a_call1 {f : Od} {asl : List Od} : aop pOrc False (CP P) fz tm mu n true (.call f asl) k = (ev tm f).onOne False λs=>s.onFn False λg cs=>CPr P g (asl.map (ev tm) ++ capVals cs) fz mu n k .mk:=by
  show (ev tm f).onOne False (λs=>s.onFn False λg cs=>argsK tm asl (capVals cs) λvs=>CP P g vs (with' mu fz) [] n λv new n'=>joinK new mu λmu=>k v mu n') = _
  congr 1; funext s; congr 1; funext g cs; rw [argsK_eq]; show CP _ _ _ _ _ _ _ = CP _ _ _ _ _ _ _; congr 1; funext v new n'; rw [joinK_eq]
theorem capVals_nil : capVals [] = []:=nr rfl
theorem capVals_cons {p : Nat × Nat} {l : List (Nat × Nat)} : capVals (p :: l) = .one (.optr p.1 p.2) :: capVals l:=nr rfl
noncomputable def onSrc (M : Fz) (s : Nat) (x : SV) (k : List SV → Nat → Prop) : Prop :=
  SV.rec (motive:=λ_=>Prop) False (λ_ _=>False) (λ_=>False) (λl b=>Need (Nat.beq s 1 = true) (k (bcells (sB l b)) l)) (k [] 0) False False (λ_ _=>False)
    (λid off len _ s'=>Need (Nat.beq s' s = true) (onSome (M id) λcs=>Need (mkd cs = false) (Need (off + len * s ≤ cs.length) (k ((cs.drop off).take (len * s)) len)))) (k [] 0) (k [] 0) (λ_ _=>False) (λ_ _=>False) False (λ_=>False) False (λ_=>False) x
@[congr] theorem onSrc_congr {M : Fz} {s : Nat} {x x' : SV} {k : List SV → Nat → Prop} (h : x = x') : onSrc M s x k = onSrc M s x' k:=by rw [h]
theorem srcK_p {s : Nat} {x : SV} {k : List SV → Nat → Prop} : srcK fz mu s x False k = onSrc (with' mu fz) s x k:=by
  cases x with
  | str l b=>show cond (Nat.beq s 1) (digK l b [] λr=>k r l) False = _; rw [cond_P,digK_eq,List.append_nil]; rfl
  | osl id off len c s' =>
    show cond (Nat.beq s' s) (lookAll fz mu id False λcs=>fN (Nat.mul len s) λm=>fN off λoff=>subK cs off m False λr=>k r len) False = _
    rw [cond_P,lookAll_p]
    show Need _ _ = Need _ _
    congr 1; congr 1; funext cs; rw [fN_eq,fN_eq,subK_p]; rfl
  | _=>rfl
theorem onSrc_nsl {M : Fz} {s : Nat} {k : List SV → Nat → Prop} : onSrc M s .nsl k = k [] 0:=nr rfl
theorem onSrc_esl {M : Fz} {s : Nat} {k : List SV → Nat → Prop} : onSrc M s .esl k = k [] 0:=nr rfl
theorem onSrc_zsl {M : Fz} {s : Nat} {k : List SV → Nat → Prop} : onSrc M s .zsl k = k [] 0:=nr rfl
theorem onSrc_osl {M : Fz} {s id off len c s' : Nat} {k : List SV → Nat → Prop} : onSrc M s (.osl id off len c s') k = Need (Nat.beq s' s = true) (onSome (M id) λcs=>Need (mkd cs = false) (Need (off + len * s ≤ cs.length) (k ((cs.drop off).take (len * s)) len))):=nr rfl
theorem onSrc_str {M : Fz} {l b : Nat} {k : List SV → Nat → Prop} : onSrc M 1 (.str l b) k = k (bcells (sB l b)) l:=by show Need _ _ = _; simp [Need]
noncomputable def onApp (mu : St) (n s bytes : Nat) (x : SV) (src : List SV) (cnt : Nat) (k : KT Prop) : Prop :=
  SV.rec (motive := fun _ => Prop) False (fun _ _ => False) (fun _ => False) (fun _ _ => False) (appNew False mu n s bytes x src cnt k) False False (fun _ _ => False)
      (λid off len cap s'=>appOwn False mu n s bytes x id off len cap s' src cnt k) (appNew False mu n s bytes x src cnt k) False (λ_ _=>False) (λ_ _=>False) False (λ_=>False) False (λ_=>False) x
@[congr] theorem onApp_congr {s b : Nat} {x x' : SV} {src src' : List SV} {cnt cnt' : Nat} (h : x = x') (h2 : src = src') (h3 : cnt = cnt') : onApp mu n s b x src cnt k = onApp mu n s b x' src' cnt' k:=by rw [h,h2,h3]
theorem a_append {s b : Nat} {x y : Od} : aop pOrc False (CP P) fz tm mu n ro (.append s b x y) k = (ev tm x).onOne False λx=>(ev tm y).onOne False λy=>onSrc (with' mu fz) s y λsrc cnt=>Need (knownAll src = true) (onApp mu n s b x src cnt k):=by
  show (ev tm x).onOne False (λx=>(ev tm y).onOne False λy=>srcK fz mu s y False λsrc cnt=>cond (knownAll src) _ False) = _
  congr 1; funext x; congr 1; funext y; rw [srcK_p]; congr 1; funext src cnt; rw [cond_P]; rfl
theorem appNew_p {s b : Nat} {x : SV} {src : List SV} {cnt : Nat} (h : cnt ≠ 0) : appNew False mu n s b x src cnt k = Need (fits cnt b = true) (k (.one (.osl n 0 cnt cnt s)) ((n,src) :: mu) (n + 1)):=by
  unfold appNew
  rw [show Nat.beq cnt 0 = false from beq_no h]
  show cond _ _ False = _
  rw [cond_P,fN_eq]
theorem onApp_nsl0 {s b : Nat} {src : List SV} : onApp mu n s b .nsl src 0 k = k (.one .nsl) mu n:=nr rfl
theorem onApp_esl0 {s b : Nat} {src : List SV} : onApp mu n s b .esl src 0 k = k (.one .esl) mu n:=nr rfl
theorem onApp_osl0 {s b id off len c s' : Nat} {src : List SV} : onApp mu n s b (.osl id off len c s') src 0 k = k (.one (.osl id off len c s')) mu n:=nr rfl
theorem onApp_nsl {s b : Nat} {src : List SV} {cnt : Nat} (h : cnt ≠ 0) : onApp mu n s b .nsl src cnt k = Need (fits cnt b = true) (k (.one (.osl n 0 cnt cnt s)) ((n,src) :: mu) (n + 1)):=appNew_p h
theorem onApp_esl {s b : Nat} {src : List SV} {cnt : Nat} (h : cnt ≠ 0) : onApp mu n s b .esl src cnt k = Need (fits cnt b = true) (k (.one (.osl n 0 cnt cnt s)) ((n,src) :: mu) (n + 1)):=appNew_p h
theorem onApp_osl {s b id off len c : Nat} {src cs : List SV} {cnt : Nat} (h : cnt ≠ 0) (hl : look mu id = some cs) (hm : mkd cs = false) (hk : cs.length = off + len * s) : onApp mu n s b (.osl id off len c s) src cnt k =
    Need (fits (len + cnt) b = true) (k (.one (.osl n 0 (len + cnt) (len + cnt) s)) ((n,cs.drop off ++ src) :: killS mu id) (n + 1)):=by
  show appOwn False mu n s b (.osl id off len c s) id off len c s src cnt k = _
  unfold appOwn
  rw [show Nat.beq cnt 0 = false from beq_no h]
  show cond _ _ False = _
  rw [cond_P,onLook_p,hl]
  have e1 : (Nat.beq s s && fits (len + cnt) b) = fits (len + cnt) b:=by rw [show Nat.beq s s = true by simp]; rfl
  show Need ((Nat.beq s s && fits (len + cnt) b) = true) _ = _
  rw [e1]
  congr 1
  show Need (mkd cs = false) _ = _
  rw [show (mkd cs = false) = True by simp [hm],Need_true,fN_eq,subK_p]
  have e2 : (off + Nat.mul len s ≤ cs.length) = True:=by simp only [Nat.mul_eq,eq_iff_iff,iff_true]; omega
  rw [e2,Need_true,lenK_eq]
  have e3 : Nat.beq (0 + cs.length) (Nat.add off (Nat.mul len s)) = true:=by
    rw [show Nat.add off (Nat.mul len s) = 0 + cs.length by simp only [Nat.add_eq,Nat.mul_eq]; omega]; simp
  rw [e3]
  show appK _ src _ = _
  rw [appK_eq,killK_eq,fN_eq,fN_eq]
  have e4 : (cs.drop off).take (Nat.mul len s) = cs.drop off:=List.take_of_length_le (by simp only [Nat.mul_eq,List.length_drop]; omega)
  rw [e4]; rfl
theorem a_copy {s : Nat} {x y : Od} : aop pOrc False (CP P) fz tm mu n ro (.copy s x y) k = (ev tm x).onOne False fun x => x.onSl False fun id off len _ s' => (ev tm y).onOne False fun y => Need (Nat.beq s' s = true) (onSrc (with' mu fz) s y fun src cnt =>
    Need (min cnt len * s ≤ src.length) (Need (knownAll (src.take (min cnt len * s)) = true) (onSome (look mu id) λcs=>Need (mkd cs = false) (Need (off + (src.take (min cnt len * s)).length ≤ cs.length) (k (.one (.int .i64 (Int.ofNat (min cnt len)))) (putS mu id (over cs off (src.take (min cnt len * s)))) n))))):=by
  show (ev tm x).onOne False (λx=>x.onSl False λid off len _ s'=>(ev tm y).onOne False λy=>cond (Nat.beq s' s) (srcK fz mu s y False λsrc cnt=>fN (Nat.min cnt len) λm=>takeK src (Nat.mul m s) False λsrc=>oPut False mu id off src λmu=>k (.one (.int .i64 (Int.ofNat m))) mu n) False) = _
  congr 1; funext x; congr 1; funext id off len _ s'; congr 1; funext y; rw [cond_P,srcK_p]; congr 1; congr 1; funext src cnt; rw [fN_eq,takeK_p]
  show Need _ _ = Need _ _
  congr 1; unfold oPut; rw [cond_P,onLook_p]; congr 2; congr 1; funext cs; rw [overK_p,putK_eq]; rfl
theorem res_nil {k : AV → Prop} : resK False fz [] tm mu k = k (.tp []):=nr rfl
theorem res_one {r : ARes} {k : AV → Prop} : resK False fz [r] tm mu k = resVal False fz r tm mu k:=nr rfl
theorem res_more {r r' : ARes} {l : List ARes} {k : AV → Prop} : resK False fz (r :: r' :: l) tm mu k = resAll False fz (r :: r' :: l) tm mu λcs=>k (.tp cs):=nr rfl
theorem resAll_nil {k : List CV → Prop} : resAll False fz [] tm mu k = k []:=nr rfl
noncomputable def onTo (v : AV) (k : CV → Prop) : Prop:=toCV False v k
@[congr] theorem onTo_congr {v v' : AV} {k : CV → Prop} (h : v = v') : onTo v k = onTo v' k:=by rw [h]
theorem onTo_one {s : SV} {k : CV → Prop} : onTo (.one s) k = k (.one s):=nr rfl
theorem onTo_ag {s : List SV} {k : CV → Prop} : onTo (.ag s) k = k (.ag s):=nr rfl
theorem resAll_cons {r : ARes} {l : List ARes} {k : List CV → Prop} : resAll False fz (r :: l) tm mu k = resVal False fz r tm mu λv=>onTo v λc=>resAll False fz l tm mu λcs=>k (c :: cs):=nr rfl
theorem resVal_t {q r : Nat} {k : AV → Prop} : resVal False fz (.tmp q r) tm mu k = mvK (ev tm (.t q r)) k:=nr rfl
theorem resVal_c {q r : Nat} {agg : Bool} {m : Nat} {k : AV → Prop} : resVal False fz (.cell q r agg m) tm mu k = (ev tm (.t q r)).onOne False λs=>s.onPtr False λid off=>onSome (with' mu fz id) λcs=>Need (mkd cs = false) (Need (off + m ≤ cs.length) (asRes agg ((cs.drop off).take m) False k)):=by
  show (ev tm (.t q r)).onOne False (λs=>s.onPtr False λid off=>lookAll fz mu id False λcs=>subK cs off m False λc=>asRes agg c False k) = _
  congr 1; funext s; congr 1; funext id off; rw [lookAll_p]; congr 1; funext cs; rw [subK_p]
theorem eqb_same {kd : IntKind} : IntKind.eqb kd kd = true:=by cases kd <;> rfl
theorem b_add {kd : IntKind} {a b : Int} {k : SV → Prop} : binI .add kd a b False k = k (.int kd (kd.wrap (a + b))):=wrapK_eq kd (Int.add a b) λn=>k (.int kd n)
theorem b_sub {kd : IntKind} {a b : Int} {k : SV → Prop} : binI .sub kd a b False k = k (.int kd (kd.wrap (a - b))):=wrapK_eq kd (Int.sub a b) λn=>k (.int kd n)
theorem b_mul {kd : IntKind} {a b : Int} {k : SV → Prop} : binI .mul kd a b False k = k (.int kd (kd.wrap (a * b))):=wrapK_eq kd (Int.mul a b) λn=>k (.int kd n)
theorem b_quo {kd : IntKind} {a b : Int} {k : SV → Prop} : binI .quo kd a b False k = Need (b ≠ 0) (k (.int kd (kd.wrap (a.tdiv b)))):=by
  show cond (eqI b 0) False (fI (kd.wrap (a.tdiv b)) λn=>k (.int kd n)) = _
  rw [cond_N,fI_eq,eqI_eq]; simp
theorem b_rem {kd : IntKind} {a b : Int} {k : SV → Prop} : binI .rem kd a b False k = Need (b ≠ 0) (k (.int kd (a.tmod b))):=by
  show cond (eqI b 0) False (fI (a.tmod b) λn=>k (.int kd n)) = _
  rw [cond_N,fI_eq,eqI_eq]; simp
theorem b_and {kd : IntKind} {a b : Int} {k : SV → Prop} : binI .and kd a b False k = k (.int kd (kd.wrap (BitVec.ofInt kd.bits a &&& BitVec.ofInt kd.bits b).toNat)):=fI_eq (kd.wrap (BitVec.ofInt kd.bits a &&& BitVec.ofInt kd.bits b).toNat) λn=>k (.int kd n)
theorem b_eql {kd : IntKind} {a b : Int} {k : SV → Prop} : binI .eql kd a b False k = k (.bool (decide (a = b))):=(fB_eq (eqI a b) λr=>k (.bool r)).trans (by rw [eqI_eq])
theorem b_neq {kd : IntKind} {a b : Int} {k : SV → Prop} : binI .neq kd a b False k = k (.bool (!decide (a = b))):=(fB_eq (eqI a b) λr=>k (.bool (not r))).trans (by rw [eqI_eq])
theorem b_lss {kd : IntKind} {a b : Int} {k : SV → Prop} : binI .lss kd a b False k = k (.bool (decide (a < b))):=(fB_eq (ltI a b) λr=>k (.bool r)).trans (by rw [ltI_eq])
theorem b_leq {kd : IntKind} {a b : Int} {k : SV → Prop} : binI .leq kd a b False k = k (.bool (decide (a ≤ b))):=by
  refine (fB_eq (ltI b a) λr=>k (.bool (not r))).trans ?_; rw [ltI_eq]; congr 2
  by_cases h : b < a
  · have : ¬ a ≤ b:=by omega
    simp [h,this]
  · have : a ≤ b:=by omega
    simp [h,this]
theorem b_gtr {kd : IntKind} {a b : Int} {k : SV → Prop} : binI .gtr kd a b False k = k (.bool (decide (b < a))):=(fB_eq (ltI b a) λr=>k (.bool r)).trans (by rw [ltI_eq])
theorem b_geq {kd : IntKind} {a b : Int} {k : SV → Prop} : binI .geq kd a b False k = k (.bool (decide (b ≤ a))):=by
  refine (fB_eq (ltI a b) λr=>k (.bool (not r))).trans ?_; rw [ltI_eq]; congr 2
  by_cases h : a < b
  · have : ¬ b ≤ a:=by omega
    simp [h,this]
  · have : b ≤ a:=by omega
    simp [h,this]
theorem s_neq {l a l' b : Nat} {k : SV → Prop} : strBinK .neq l a l' b False k = k (.bool (!strEq l a l' b)):=fB_eq (strEq l a l' b) λr=>k (.bool (not r))
theorem s_eql {l a l' b : Nat} {k : SV → Prop} : strBinK .eql l a l' b False k = k (.bool (strEq l a l' b)):=fB_eq (strEq l a l' b) λr=>k (.bool r)
theorem dc_at {nt : Nat} {en : Nat → Nat → AV} {fu : Nat} {c c' : ACode} {k : AExit → TM → St → Nat → Prop} (h : c = c') : dcode pOrc False (CP P) fz fu c (tmE nt en) mu n k = dcode pOrc False (CP P) fz fu c' (tmE nt en) mu n k:=by rw [h]
theorem nbeq_self {a : Nat} : Nat.beq a a = true:=by simp
theorem bx1 {n : Nat} : (n + 1 = n) = False:=by simp
theorem bx2 {n : Nat} : (n = n + 1) = False:=by simp
theorem bx3 {n : Nat} : (n + 1 + 1 = n) = False:=by simp; omega
theorem bx4 {n : Nat} : (n = n + 1 + 1) = False:=by simp; omega
theorem bx5 {n : Nat} : (n + 1 + 1 + 1 = n) = False:=by simp; omega
theorem bx6 {n : Nat} : (n = n + 1 + 1 + 1) = False:=by simp; omega
theorem cast_neg {a : Nat} : ((a : Int) < 0) = False:=by simp
theorem cast_lt {a b : Nat} : ((a : Int) < (b : Int)) = (a < b):=by simp
theorem cast_le {a b : Nat} : ((a : Int) ≤ (b : Int)) = (a ≤ b):=by simp
theorem castN_eq {a b : Nat} : ((a : Int) = (b : Int)) = (a = b):=propext Int.ofNat_inj
theorem cast_of {a : Nat} : Int.ofNat a = (a : Int):=nr rfl
theorem cast_nat {a : Nat} : (a : Int).toNat = a:=by simp
theorem blt_p {a b : Nat} : (Nat.blt a b = true) = (a < b):=by simp
theorem and_p {a b : Bool} : ((a && b) = true) = (a = true ∧ b = true):=by simp
theorem bool_tt : (true = true) = True:=by simp
theorem bool_ft : (false = true) = False:=by simp
theorem bool_tf : (true = false) = False:=by simp
theorem bool_ff : (false = false) = True:=by simp
theorem wrap64 {x : Int} (h1 : -9223372036854775808 ≤ x) (h2 : x < 9223372036854775808) : IntKind.i64.wrap x = x:=by
  simp [IntKind.wrap,IntKind.bits,IntKind.signed]; omega
end
end Go.Ev
namespace Go.Ev
section
variable {fz : Fz} {mu : St} {n : Nat} {P : Program} {nt : Nat} {en : Nat → Nat → AV} {ad : List St}
def nilK (new : St) (p : Prop) : Prop:=List.rec (motive:=λ_=>Prop) p (λ_ _ _=>False) new
theorem nilK_nil {p : Prop} : nilK [] p = p:=nr rfl
theorem ads_nil : adsOf ad [] = []:=nr rfl
theorem ads_cons {i : Nat} {l : List Nat} : adsOf ad (i :: l) = nth [] ad i ++ adsOf ad l:=nr rfl
theorem ath_0 {a : St} {l : List St} : nth [] (a :: l) 0 = a:=rfl
theorem ath_s {a : St} {l : List St} {i : Nat} : nth [] (a :: l) (i + 1) = nth [] l i:=rfl
theorem ast_0 {a b : St} {l : List St} : (a :: l).set 0 b = b :: l:=rfl
theorem ast_s {a b : St} {l : List St} {i : Nat} : (a :: l).set (i + 1) b = a :: l.set i b:=rfl
noncomputable def adK (ad : List St) (k : List St → Prop) : Prop:=k ad
@[congr] theorem adK_congr {ad ad' : List St} {k : List St → Prop} (h : ad = ad') : adK ad k = adK ad' k:=by rw [h]
abbrev RK:=TM → St → List St → Nat → Prop
def nm4 : List AOper → Bool
  | []=>true
  | o :: l=>!(Nat.beq o.mode 4) && nm4 l
theorem preOf_nm : ∀ {ops : List AOper},nm4 ops = true → ∀ p ∈ ops,looseC p = none
  | [],_,p,hp=>by cases hp
  | o :: l,h,p,hp=>by
    simp only [nm4,Bool.and_eq_true] at h
    rcases List.mem_cons.1 hp with rfl | hp
    · unfold looseC
      have : Nat.beq p.mode 4 = false:=by simpa using h.1
      rw [this]; rfl
    · exact preOf_nm h.2 p hp
theorem preOf_nil {ops : List AOper} (h : nm4 ops = true) : preOf ops = []:=by
  unfold preOf
  rw [List.flatMap_eq_nil_iff]
  rintro ⟨o,i⟩ hp
  have hm : o ∈ ops:=by
    have:=List.mem_zipIdx' hp
    exact List.mem_of_getElem? (by rw [List.getElem?_eq_getElem this.1]; exact congrArg some this.2.symm)
  simp only [preOf_nm h o hm]
theorem draw_p {ops : List AOper} {k : TM → St → Nat → Prop} (h : nm4 ops = true) : drawK pOrc False (CP P) fz ops (tmE nt en) mu n k = apart ops 0 (tmE nt en) mu (ops.map λ_=>[]) λmu ad=>rrun pOrc False (CP P) fz ops 0 (tmE nt en) mu ad n λtm mu ad n=>joinAll ad mu λmu=>k tm mu n:=by
  unfold drawK
  rw [preOf_nil h]
  exact nr rfl
section
variable {d : Option (Nat × Nat)} {op : AOp} {g : Option (Nat × Nat × Bool)} {anc : List Nat} {ops : List AOper}
theorem nm_nil : nm4 [] = true:=rfl
theorem nm_0 : nm4 (⟨d,op,g,0,anc⟩ :: ops) = nm4 ops:=nr (by show (!false && nm4 ops) = _; rfl)
theorem nm_1 : nm4 (⟨d,op,g,1,anc⟩ :: ops) = nm4 ops:=nr (by show (!false && nm4 ops) = _; rfl)
theorem nm_2 : nm4 (⟨d,op,g,2,anc⟩ :: ops) = nm4 ops:=nr (by show (!false && nm4 ops) = _; rfl)
theorem nm_3 : nm4 (⟨d,op,g,3,anc⟩ :: ops) = nm4 ops:=nr (by show (!false && nm4 ops) = _; rfl)
end
section
variable {d : Option (Nat × Nat)} {op : AOp} {g : Option (Nat × Nat × Bool)} {anc : List Nat} {ops : List AOper} {i : Nat} {k : St → List St → Prop} {tm : TM}
theorem apart_nil : apart [] i tm mu ad k = k mu ad:=nr rfl
theorem apart_0 : apart (⟨d,op,g,0,anc⟩ :: ops) i tm mu ad k = apart ops (i + 1) tm mu ad k:=nr rfl
theorem apart_1 : apart (⟨d,op,g,1,anc⟩ :: ops) i tm mu ad k = apart ops (i + 1) tm mu ad k:=nr rfl
theorem apart_2 : apart (⟨d,op,g,2,anc⟩ :: ops) i tm mu ad k = apart ops (i + 1) tm mu ad k:=nr rfl
theorem apart_3 : apart (⟨d,op,g,3,anc⟩ :: ops) i tm mu ad k = apart ops (i + 1) tm mu ad k:=nr rfl
end
section
variable {d : Option (Nat × Nat)} {op : AOp} {anc : List Nat} {ops : List AOper} {i : Nat} {k : RK}
theorem rr_nil : rrun pOrc False (CP P) fz [] i (tmE nt en) mu ad n k = k (tmE nt en) mu ad n:=nr rfl
theorem rr_0 : rrun pOrc False (CP P) fz (⟨d, op, none, 0, anc⟩ :: ops) i (tmE nt en) mu ad n k =
    aop pOrc False (CP P) (λ_=>none) (tmE nt en) [] n false op λv new n=>nilK new (setDst (tmE nt en) d v λtm=>rrun pOrc False (CP P) fz ops (i + 1) tm mu ad n k):=nr rfl
theorem rr_1 : rrun pOrc False (CP P) fz (⟨d, op, none, 1, anc⟩ :: ops) i (tmE nt en) mu ad n k =
    aop pOrc False (CP P) (with' (adsOf ad anc) (with' mu fz)) (tmE nt en) [] n true op λv new n=>setDst (tmE nt en) d v λtm=>adK (ad.set i new) λad=>rrun pOrc False (CP P) fz ops (i + 1) tm mu ad n k:=by
  show aop pOrc False (CP P) (with' (adsOf ad anc) (with' mu fz)) (tmE nt en) [] n true op (λv new n=>setDst (tmE nt en) d v λtm=>setK ad i new λad=>rrun pOrc False (CP P) fz ops (i + 1) tm mu ad n k) = _
  congr 1; funext v new n; congr 1; funext tm; rw [setK_eq]; rfl
theorem rr_3 : rrun pOrc False (CP P) fz (⟨d, op, none, 3, anc⟩ :: ops) i (tmE nt en) mu ad n k =
    aop pOrc False (CP P) (λ_=>none) (tmE nt en) [] n false op λv new n=>setDst (tmE nt en) d v λtm=>adK (ad.set i new) λad=>rrun pOrc False (CP P) fz ops (i + 1) tm mu ad n k:=by
  show aop pOrc False (CP P) (λ_=>none) (tmE nt en) [] n false op (λv new n=>setDst (tmE nt en) d v λtm=>setK ad i new λad=>rrun pOrc False (CP P) fz ops (i + 1) tm mu ad n k) = _
  congr 1; funext v new n; congr 1; funext tm; rw [setK_eq]; rfl
theorem rr_2 : rrun pOrc False (CP P) fz (⟨d, op, none, 2, anc⟩ :: ops) i (tmE nt en) mu ad n k =
    adK (clearS anc ad) λad'=>aop pOrc False (CP P) fz (tmE nt en) (adsOf ad anc ++ mu) n false op λv mu n=>setDst (tmE nt en) d v λtm=>rrun pOrc False (CP P) fz ops (i + 1) tm mu ad' n k:=by
  show joinK (adsOf ad anc) mu (λmu=>clearK anc ad λad=>aop pOrc False (CP P) fz (tmE nt en) mu n false op λv mu n=>setDst (tmE nt en) d v λtm=>rrun pOrc False (CP P) fz ops (i + 1) tm mu ad n k) = _
  rw [joinK_eq,clearK_eq]; rfl
variable {q q' : Nat} {b : Bool}
theorem rg_0 : rrun pOrc False (CP P) fz (⟨d,op,some (q,q',b),0,anc⟩ :: ops) i (tmE nt en) mu ad n k = wantP (get (tmE nt en) q q') b (rrun pOrc False (CP P) fz (⟨d,op,none,0,anc⟩ :: ops) i (tmE nt en) mu ad n k) (setDst (tmE nt en) d noVal λtm=>rrun pOrc False (CP P) fz ops (i + 1) tm mu ad n k):=nr rfl
theorem rg_1 : rrun pOrc False (CP P) fz (⟨d,op,some (q,q',b),1,anc⟩ :: ops) i (tmE nt en) mu ad n k = wantP (get (tmE nt en) q q') b (rrun pOrc False (CP P) fz (⟨d,op,none,1,anc⟩ :: ops) i (tmE nt en) mu ad n k) (setDst (tmE nt en) d noVal λtm=>rrun pOrc False (CP P) fz ops (i + 1) tm mu ad n k):=nr rfl
theorem rg_2 : rrun pOrc False (CP P) fz (⟨d,op,some (q,q',b),2,anc⟩ :: ops) i (tmE nt en) mu ad n k = wantP (get (tmE nt en) q q') b (rrun pOrc False (CP P) fz (⟨d,op,none,2,anc⟩ :: ops) i (tmE nt en) mu ad n k) (setDst (tmE nt en) d noVal λtm=>rrun pOrc False (CP P) fz ops (i + 1) tm mu ad n k):=nr rfl
theorem rg_3 : rrun pOrc False (CP P) fz (⟨d,op,some (q,q',b),3,anc⟩ :: ops) i (tmE nt en) mu ad n k = wantP (get (tmE nt en) q q') b (rrun pOrc False (CP P) fz (⟨d,op,none,3,anc⟩ :: ops) i (tmE nt en) mu ad n k) (setDst (tmE nt en) d noVal λtm=>rrun pOrc False (CP P) fz ops (i + 1) tm mu ad n k):=nr rfl
theorem adK_nil {k : List St → Prop} : adK [] k = k []:=nr rfl
theorem adK_cons {a : St} {l : List St} {k : List St → Prop} : adK (a :: l) k = k (a :: l):=nr rfl
theorem clearS_nil : clearS [] ad = ad:=nr rfl
theorem clearS_cons {l : List Nat} : clearS (i :: l) ad = clearS l (ad.set i []):=nr rfl
theorem join_nil {k : St → Prop} : joinAll [] mu k = k mu:=nr rfl
theorem join_cons {s : St} {l : List St} {k : St → Prop} : joinAll (s :: l) mu k = joinAll l (s ++ mu) k:=joinK_eq _ _ _
end
end
end Go.Ev
namespace Go.Ev
def Free (fz : Fz) (mu : St) (n : Nat) : Prop:=∀ j,with' mu fz (n + j) = none
structure Gr (lo : Nat) (fz : Fz) (mu mu' : St) (n n' : Nat) : Prop where
  le : n ≤ n'
  ext : ∀ id,id < lo → with' mu' fz id = with' mu fz id
  own : ∀ id,id < lo → look mu' id = look mu id
  free : Free fz mu' n'
section
variable {fz : Fz} {mu mu' mu'' : St} {n n' n'' lo : Nat}
theorem Free.at (h : Free fz mu n) : with' mu fz n = none:=h 0
theorem Free.none (h : Free fz mu n) {id : Nat} (hi : n ≤ id) : with' mu fz id = none:=by
  have:=h (id - n); rwa [show n + (id - n) = id by omega] at this
theorem Free.lt (h : Free fz mu n) {id : Nat} {B : List SV} (hi : with' mu fz id = some B) : id < n:=by
  rcases Nat.lt_or_ge id n with h1 | h1
  · exact h1
  · rw [h.none h1] at hi; cases hi
theorem look_with {id : Nat} {B : List SV} (h : look mu id = some B) : with' mu fz id = some B:=by rw [with_eq,h]
theorem Free.look (h : Free fz mu n) {id : Nat} (hi : n ≤ id) : look mu id = Option.none:=by
  cases e : Ev.look mu id with
  | none=>rfl
  | some c=>have:=look_with (fz:=fz) e; rw [h.none hi] at this; cases this
theorem Free.cons (h : Free fz mu n) (cs : List SV) : Free fz ((n,cs) :: mu) (n + 1):=λj=>by
  rw [with_c,if_neg (by omega)]; exact h.none (by omega)
theorem Free.mono (h : Free fz mu n) (hn : n ≤ n') : Free fz mu n':=λj=>h.none (by omega)
theorem Gr.refl (h : Free fz mu n) : Gr lo fz mu mu n n:=⟨Nat.le_refl _,λ_ _=>rfl,λ_ _=>rfl,h⟩
theorem Gr.trans (h : Gr lo fz mu mu' n n') (k : Gr lo fz mu' mu'' n' n'') : Gr lo fz mu mu'' n n'' :=
  ⟨Nat.le_trans h.le k.le,λid hi=>(k.ext id hi).trans (h.ext id hi),λid hi=>(k.own id hi).trans (h.own id hi),k.free⟩
theorem Gr.weaken {lo' : Nat} (h : Gr lo fz mu mu' n n') (hl : lo' ≤ lo) : Gr lo' fz mu mu' n n' :=
  ⟨h.le,λid hi=>h.ext id (by omega),λid hi=>h.own id (by omega),h.free⟩
theorem Gr.cons (h : Gr lo fz mu mu' n n') (hl : lo ≤ n') (cs : List SV) : Gr lo fz mu ((n',cs) :: mu') n (n' + 1) :=
  ⟨by have:=h.le; omega,λid hi=>by rw [with_c,if_neg (by omega)]; exact h.ext id hi,λid hi=>by rw [look_c,if_neg (by omega)]; exact h.own id hi,h.free.cons cs⟩
theorem Gr.old (h : Gr n fz mu mu' n n') (hf : Free fz mu n) {id : Nat} {B : List SV} (hi : with' mu fz id = some B) : with' mu' fz id = some B:=(h.ext id (hf.lt hi)).trans hi
theorem with_append (new mu : St) (fz : Fz) : with' (new ++ mu) fz = with' new (with' mu fz):=by
  funext id
  rw [with_eq,look_append,with_eq,with_eq]
  cases look new id <;> rfl
theorem Gr.join {new : St} (hf : Free fz mu n) (hl : lo ≤ n) (h : Gr n (with' mu fz) [] new n n') : Gr lo fz mu (new ++ mu) n n':=by
  refine ⟨h.le,λid hi=>?_,λid hi=>?_,λj=>?_⟩
  · rw [with_append]; exact h.ext id (by omega)
  · rw [look_append]
    have:=h.own id (by omega)
    rw [show look [] id = none from rfl] at this
    rw [this]
  · rw [with_append]; exact h.free j
theorem Gr.apart {mu1 new : St} {n1 n2 : Nat} (g1 : Gr lo fz mu mu1 n n1) (hf : Free fz mu n) (hl : n ≤ n1) (g2 : Gr n1 (with' mu fz) [] new n1 n2) {id : Nat} {B : List SV} (h : with' new (with' mu fz) id = some B) (hg : Gr n fz mu mu1 n n1) : with' (new ++ mu1) fz id = some B:=by
  rw [with_eq] at h
  rw [with_eq,look_append]
  cases e : look new id with
  | some c=>rw [e] at h; exact h
  | none =>
    rw [e] at h
    have:=hg.old hf h
    rw [with_eq] at this; exact this
end
def Ctr (P : Program) (f : Nat) (args : List AV) (pre : Fz → Prop) (post : Nat → Nat → Fz → AV → Prop) : Prop :=
  ∀ fz mu n k,Free fz mu n → pre (with' mu fz) → (∀ v mu' n',Gr n fz mu mu' n n' → post n n' (with' mu' fz) v → k v mu' n') → CP P f args fz mu n k
section
variable {P : Program} {f : Nat} {args : List AV} {pre : Fz → Prop} {post : Nat → Nat → Fz → AV → Prop} {fz : Fz} {mu : St} {n : Nat} {k : KT Prop}
theorem Ctr.c0 (h : Ctr P f args pre post) {w : WK k} (hf : Free fz mu n) (hp : pre (with' mu fz)) (hk : ∀ v mu' n',Gr n fz mu mu' n n' → post n n' (with' mu' fz) v → k v mu' n') : CPh P f args fz mu n k w:=h fz mu n k hf hp hk
theorem Ctr.c1 (h : Ctr P f args pre post) {w : WK k} (hf : Free fz mu n) (hp : pre (with' mu fz)) (hk : ∀ v mu' n',Gr n fz mu mu' n n' → post n n' (with' mu' fz) v → k v mu' n') : CPr P f args fz mu n k w :=
  h (with' mu fz) [] n _ (λj=>hf j) hp λv new n' hg hpost=>hk v _ n' (hg.join hf (Nat.le_refl _)) (by rw [with_append]; exact hpost)
theorem Ctr.c2 (h : Ctr P f args pre post) {cs : List SV} {w : WK k} (hf : Free fz mu n) (hp : (∀ id B, with' mu fz id = some B → with' ((n, cs) :: mu) fz id = some B) → pre (with' ((n, cs) :: mu) fz))
    (hk : ∀ v mu' n',Gr n fz mu mu' n n' → with' mu' fz n = some cs → post (n + 1) n' (with' mu' fz) v → k v mu' n') : CPr P f args fz ((n,cs) :: mu) (n + 1) k w:=by
  have g0:=(Gr.refl (lo:=n) hf).cons (Nat.le_refl _) cs
  refine h.c1 (hf.cons cs) (hp λid B hh=>g0.old hf hh) λv mu' n' g hpost=>hk v mu' n' (g0.trans (g.weaken (Nat.le_succ _))) ?_ hpost
  rw [g.ext n (Nat.lt_succ_self _),with_c,if_pos rfl]
theorem Ctr.c3 (h : Ctr P f args pre post) {cs cs' : List SV} {w : WK k} (hf : Free fz mu n) (hp : (∀ id B, with' mu fz id = some B → with' ((n + 1, cs') :: (n, cs) :: mu) fz id = some B) → pre (with' ((n + 1, cs') :: (n, cs) :: mu) fz))
    (hk : ∀ v mu' n',Gr n fz mu mu' n n' → with' mu' fz n = some cs → with' mu' fz (n + 1) = some cs' → post (n + 1 + 1) n' (with' mu' fz) v → k v mu' n') : CPr P f args fz ((n + 1,cs') :: (n,cs) :: mu) (n + 1 + 1) k w:=by
  have g0:=(Gr.refl (lo:=n) hf).cons (Nat.le_refl _) cs
  refine h.c2 (hf.cons cs) (λhm=>hp λid B hh=>hm id B (g0.old hf hh)) λv mu' n' g hb hpost=>hk v mu' n' (g0.trans (g.weaken (Nat.le_succ _))) ?_ hb hpost
  rw [g.ext n (Nat.lt_succ_self _),with_c,if_pos rfl]
theorem Ctr.d1 (h : Ctr P f args pre post) {w : WK k} (hf : Free fz mu n) (hp : pre (with' mu fz)) (hk : ∀ v new n',Gr n (with' mu fz) [] new n n' → post n n' (with' new (with' mu fz)) v → k v new n') : CPr P f args (with' mu fz) [] n k w :=
  h (with' [] (with' mu fz)) [] n _ (λj=>hf j) hp λv new n' hg hpost=>by
    show k v (new ++ []) n'
    rw [List.append_nil]; exact hk v new n' hg hpost
theorem Ctr.d2 (h : Ctr P f args pre post) {w : WK k} (hf : Free fz mu n) (hp : pre (with' mu fz)) (hk : ∀ v new n',Gr n fz mu (new ++ mu) n n' → post n n' (with' (new ++ mu) fz) v → k v new n') : CPr P f args (with' mu fz) [] n k w :=
  h.d1 hf hp λv new n' hg hpost=>hk v new n' (hg.join hf (Nat.le_refl _)) (by rw [with_append]; exact hpost)
theorem Ctr.d3 (h : Ctr P f args pre post) {cs : List SV} {w : WK k} (hf : Free fz mu n) (hp : (∀ id B, with' mu fz id = some B → with' ((n, cs) :: mu) fz id = some B) → pre (with' ((n, cs) :: mu) fz))
    (hk : ∀ v new n',Gr n fz mu (new ++ ((n,cs) :: mu)) n n' → with' (new ++ ((n,cs) :: mu)) fz n = some cs → post (n + 1) n' (with' (new ++ ((n,cs) :: mu)) fz) v → k v new n') : CPr P f args (with' ((n,cs) :: mu) fz) [] (n + 1) k w:=by
  have g0:=(Gr.refl (lo:=n) hf).cons (Nat.le_refl _) cs
  refine h.d2 (hf.cons cs) (hp λid B hh=>g0.old hf hh) λv new n' g hpost=>hk v new n' (g0.trans (g.weaken (Nat.le_succ _))) ?_ hpost
  rw [g.ext n (Nat.lt_succ_self _),with_c,if_pos rfl]
theorem CPr_f {w : WK k} (h : CPr P f args fz mu n k w) : CPr P f args fz mu n k w:=h
theorem with_two {a b : St} {f : Fz} : with' a (with' b f) = with' (a ++ b) f:=(with_append a b f).symm
theorem Ctr.of (hmx : P.follows .mixedOrders = true) {af : AFunc} (hf : FOk P f af) (fu : Fz → Nat) (h : ∀ fz mu n k,Free fz mu n → pre (with' mu fz) → (∀ v mu' n',Gr n fz mu mu' n n' → post n n' (with' mu' fz) v → k v mu' n') → textP P (fu (with' mu fz)) af args fz mu n k) : Ctr P f args pre post :=
  λfz mu n k h1 h2 h3=>CP_of hf hmx (fu (with' mu fz)) (h fz mu n k h1 h2 h3)
end
theorem own_at {mu : St} {n : Nat} {cs : List SV} : look ((n,cs) :: mu) n = some cs:=by rw [look_c,if_pos rfl]
def Sl (M : Fz) (s : Nat) (x : SV) (es : List (List SV)) : Prop :=
  (x = .nsl ∨ x = .esl ∨ x = .zsl) ∧ es = [] ∨
  ∃ id off cap B,x = .osl id off es.length cap s ∧ es.length ≤ cap ∧ M id = some B ∧ mkd B = false ∧ off + es.length * s ≤ B.length ∧ (B.drop off).take (es.length * s) = es.flatten ∧ ∀ e ∈ es,e.length = s ∧ knownAll e = true
theorem Sl.mono {M M' : Fz} {s : Nat} {x : SV} {es : List (List SV)} (h : Sl M s x es) (hm : ∀ id B,M id = some B → M' id = some B) : Sl M' s x es:=by
  rcases h with h | ⟨id,off,cap,B,h1,h2,h3,h4⟩
  · exact .inl h
  · exact .inr ⟨id,off,cap,B,h1,h2,hm id B h3,h4⟩
theorem flat_at {s : Nat} : ∀ {es : List (List SV)} {i : Nat} {e : List SV},(∀ e ∈ es,e.length = s) → es[i]? = some e → (es.flatten.drop (i * s)).take s = e
  | [],i,e,_,h=>by simp at h
  | a :: es,0,e,hl,h=>by
    simp at h; subst h
    have:=hl a (by simp)
    simp [← this]
  | a :: es,i + 1,e,hl,h=>by
    have ha:=hl a (by simp)
    have:=flat_at (es:=es) (i:=i) (e:=e) (λe he=>hl e (by simp [he])) (by simpa using h)
    rw [show (i + 1) * s = a.length + i * s by rw [ha,Nat.add_mul]; omega,List.flatten_cons,List.drop_append,List.drop_eq_nil_of_le (by omega),List.nil_append,show a.length + i * s - a.length = i * s by omega]
    exact this
theorem flat_length {s : Nat} : ∀ {es : List (List SV)},(∀ e ∈ es,e.length = s) → es.flatten.length = es.length * s
  | [],_=>by simp
  | a :: es,hl=>by
    have ha:=hl a (by simp)
    have:=flat_length (es:=es) λe he=>hl e (by simp [he])
    simp only [List.flatten_cons,List.length_append,this,ha,List.length_cons,Nat.add_mul]; omega
theorem Sl.at {M : Fz} {s id off len cap s' : Nat} {es : List (List SV)} (h : Sl M s (.osl id off len cap s') es) {i : Nat} (hi : i < es.length) : len = es.length ∧ s' = s ∧ ∃ B,M id = some B ∧ mkd B = false ∧ off + i * s + s ≤ B.length ∧ (B.drop (off + i * s)).take s = es[i]:=by
  rcases h with ⟨h,he⟩ | ⟨id',off',cap',B,h1,h2,h3,h4,h5,h6,h7⟩
  · subst he; simp at hi
  · cases h1
    have hle : i * s + s ≤ es.length * s:=by rw [← Nat.succ_mul]; exact Nat.mul_le_mul_right _ hi
    refine ⟨rfl,rfl,B,h3,h4,by omega,?_⟩
    have:=flat_at (i:=i) (λe he=>(h7 e he).1) (List.getElem?_eq_getElem hi)
    rw [← h6,List.drop_take,List.take_take,List.drop_drop] at this
    rw [← this,Nat.min_eq_left (by omega)]
theorem Sl.elem {M : Fz} {s : Nat} {x : SV} {es : List (List SV)} (h : Sl M s x es) {i : Nat} (hi : i < es.length) : ∃ id off cap B,x = .osl id off es.length cap s ∧ M id = some B ∧ mkd B = false ∧ off + i * s + s ≤ B.length ∧ (B.drop (off + i * s)).take s = es[i]:=by
  rcases h with ⟨_,he⟩ | ⟨id,off,cap,B,h1,h2,h3,h4,h5,h6,h7⟩
  · subst he; simp at hi
  · subst h1
    obtain ⟨_,_,B',g1,g2,g3,g4⟩:=Sl.at (M:=M) (s:=s) (id:=id) (off:=off) (len:=es.length) (cap:=cap) (s':=s) (es:=es) (.inr ⟨id,off,cap,B,rfl,h2,h3,h4,h5,h6,h7⟩) hi
    exact ⟨id,off,cap,B',rfl,g1,g2,g3,g4⟩
theorem Sl.len {M : Fz} {s : Nat} {x : SV} {es : List (List SV)} (h : Sl M s x es) {k : Nat → Prop} : onLen x k = k es.length ∧ x.isStr = false:=by
  rcases h with ⟨rfl | rfl | rfl,rfl⟩ | ⟨id,off,cap,B,rfl,_⟩ <;> exact ⟨rfl,rfl⟩
theorem Sl.known {M : Fz} {s : Nat} {x : SV} {es : List (List SV)} (h : Sl M s x es) : x.known = true ∧ x.isMk = false:=by
  rcases h with ⟨rfl | rfl | rfl,rfl⟩ | ⟨id,off,cap,B,rfl,_⟩ <;> exact ⟨rfl,rfl⟩
theorem All2.at {α β : Type} {R : α → β → Prop} {x : List α} {y : List β} (h : All2 R x y) {i : Nat} (h1 : i < x.length) (h2 : i < y.length) : R x[i] y[i]:=by
  obtain ⟨b,e,r⟩:=h.get (List.getElem?_eq_getElem h1)
  rw [List.getElem?_eq_getElem h2] at e; cases e; exact r
end Go.Ev
namespace Go.Ev
set_option maxRecDepth 100000
set_option linter.defProp false
def E1:=(And.intro @dc_skip (And.intro @dc_reg (And.intro @dc_draw (And.intro @dc_seq (And.intro @dc_cond (And.intro @dc_blk (And.intro @dc_loop (And.intro @dc_exit (And.intro @dc_ret (And.intro @onw_n (And.intro @onw_x (And.intro @onw_r (And.intro @inB_n (And.intro @inB_same (And.intro @inB_x (And.intro @inB_r (And.intro @endP_n (And.intro @endP_r (And.intro @run_nil (And.intro @run_c0 (And.intro @run_c1 (And.intro @run_c2 (And.intro @run_c3 (And.intro @run_c4 (And.intro @run_g0 (And.intro @run_g1 (And.intro @run_g2 (And.intro @run_g3 (And.intro @run_g4 (And.intro @mvK_one (And.intro @mvK_ag (And.intro @mvK_tp (And.intro @mvK_no (And.intro @Br_true (And.intro @Br_false (And.intro @onSome_some (And.intro @Need_true (And.intro @onOne_p (And.intro @onAg_p (And.intro @onTp_p (And.intro @onCells_one (And.intro @onCells_ag (And.intro @onInt_p (And.intro @onBool_p (And.intro @onStr_p (And.intro @onPtr_p (And.intro @onSl_p (And.intro @onFn_p (And.intro @wantP_yes (And.intro @wantP_tf (And.intro @wantP_ft (And.intro @wantP_none (And.intro @wantP_noVal (And.intro @asRes_ag (And.intro @asRes_one (And.intro @putS_c (And.intro @killS_c (And.intro @ev_c (And.intro @setDst_no (And.intro @setDst_t (And.intro @fT_int (And.intro @forceK_t (And.intro @forceK_c (And.intro @forceO_n (And.intro @forceO_s (And.intro @a_mv (And.intro @a_pick (And.intro @a_alloc (And.intro @a_box (And.intro @fill_nil (And.intro @fill_cons (And.intro @a_build (And.intro @a_bslice (And.intro @a_load (And.intro @a_store (And.intro @a_bin (And.intro @a_sbin (And.intro @a_eqb (And.intro @a_eqn (And.intro @a_eqs (And.intro @a_not (And.intro @a_neg (And.intro @a_conv (And.intro @capsK_nil (And.intro @capsK_cons (And.intro @a_mkfn (And.intro @a_mkslice (And.intro @a_slc (And.intro @a_faddr (And.intro @a_fld (And.intro @a_iaddr (And.intro @a_iaddrA (And.intro @a_idx (And.intro @nthK_0 (And.intro @nthK_s (And.intro @onCV_one (And.intro @onCV_ag (And.intro @a_extr (And.intro @onLen_str (And.intro @onLen_nsl (And.intro @onLen_esl (And.intro @onLen_zsl (And.intro @onLen_osl (And.intro @a_len (And.intro @a_max (And.intro @a_min (And.intro @maxK_nil (And.intro @minK_nil (And.intro @maxK_int (And.intro @minK_int (And.intro @a_call0 (And.intro @a_call1 (And.intro @onSrc_nsl (And.intro @onSrc_esl (And.intro @onSrc_zsl (And.intro @onSrc_osl (And.intro @onSrc_str (And.intro @a_append (And.intro @onApp_nsl0 (And.intro @onApp_esl0 (And.intro @onApp_osl0 (And.intro @a_copy (And.intro @res_nil (And.intro @res_one (And.intro @res_more (And.intro @resAll_nil (And.intro @resAll_cons (And.intro @onTo_one (And.intro @onTo_ag (And.intro @resVal_t (And.intro @resVal_c (And.intro @b_add (And.intro @b_sub (And.intro @b_mul (And.intro @b_quo (And.intro @b_rem (And.intro @b_eql (And.intro @b_neq (And.intro @b_lss (And.intro @b_leq (And.intro @b_gtr (And.intro @b_geq (And.intro @s_eql (And.intro @s_neq (And.intro @nilK_nil (And.intro @draw_p (And.intro @nm_nil (And.intro @nm_0 (And.intro @nm_1 (And.intro @nm_2 (And.intro @nm_3 (And.intro @apart_nil (And.intro @apart_0 (And.intro @apart_1 (And.intro @apart_2 (And.intro @apart_3 (And.intro @rr_nil (And.intro @rr_0 (And.intro @rr_1 (And.intro @rr_2 (And.intro @rr_3 (And.intro @rg_0 (And.intro @rg_1 (And.intro @rg_2 (And.intro @rg_3 (And.intro @adK_nil (And.intro @adK_cons (And.intro @join_nil (And.intro @join_cons (And.intro @onNil_p (And.intro @onNil_f @a_nilc)))))))))))))))))))))))))))))))))))))))))))))))))))))))))))))))))))))))))))))))))))))))))))))))))))))))))))))))))))))))))))))))))))))))))))))))))))))))))))))))))))))))))))
def E2:=(And.intro @wantP_br (And.intro @beq_t (And.intro @beq_f (And.intro @Br_not (And.intro @look_c (And.intro @with_c (And.intro @with_nil (And.intro @with_two (And.intro @ev_t (And.intro @get_p (And.intro @updE_same (And.intro @updE_r (And.intro @updE_q (And.intro @env_0 (And.intro @env_1 (And.intro @env_2 (And.intro @env_3 (And.intro @env_4 (And.intro @known_int (And.intro @known_bool (And.intro @known_str (And.intro @known_nsl (And.intro @known_npt (And.intro @known_nfn (And.intro @known_optr (And.intro @known_osl (And.intro @known_esl (And.intro @known_zsl (And.intro @known_fn (And.intro @knownAll_nil (And.intro @knownAll_cons (And.intro @mkd_nil (And.intro @mkd_cons (And.intro @mk_int (And.intro @mk_bool (And.intro @mk_str (And.intro @mk_nsl (And.intro @mk_npt (And.intro @mk_nfn (And.intro @mk_optr (And.intro @mk_osl (And.intro @mk_esl (And.intro @mk_zsl (And.intro @mk_fn (And.intro @isStr_str (And.intro @isStr_nsl (And.intro @isStr_esl (And.intro @isStr_zsl (And.intro @isStr_osl (And.intro @capVals_nil (And.intro @capVals_cons (And.intro @eqb_same (And.intro @ne_eq.{1} (And.intro @not_false_eq_true (And.intro @not_true_eq_false (And.intro @Bool.not_true (And.intro @Bool.not_false (And.intro @Bool.and_true (And.intro @Bool.true_and (And.intro @Bool.and_false (And.intro @Bool.false_and (And.intro @Bool.or_true (And.intro @Bool.true_or (And.intro @Bool.or_false (And.intro @Bool.false_or (And.intro @Bool.bne_true (And.intro @Bool.bne_false (And.intro @decide_true (And.intro @decide_false (And.intro @bne_self_eq_false.{0} (And.intro @List.length_cons.{0} (And.intro @List.length_nil.{0} (And.intro @Nat.zero_add (And.intro @List.drop_zero.{0} (And.intro @List.drop_succ_cons.{0} (And.intro @List.take_succ_cons.{0} (And.intro @List.take_zero.{0} (And.intro @List.map_cons.{0,0} (And.intro @List.map_nil.{0,0} (And.intro @List.append_nil.{0} (And.intro @List.nil_append.{0} (And.intro @List.cons_append.{0} (And.intro @if_true.{1} (And.intro @if_true.{0} (And.intro @if_false.{1} (And.intro @if_false.{0} (And.intro @Nat.blt_eq (And.intro @nbeq_self (And.intro @cast_neg (And.intro @cast_lt (And.intro @cast_le (And.intro @castN_eq (And.intro @cast_of (And.intro @cast_nat (And.intro @blt_p (And.intro @and_p (And.intro @bool_tt (And.intro @bool_ft (And.intro @bool_tf (And.intro @bool_ff (And.intro @ltI_eq (And.intro @eqI_eq (And.intro @true_and (And.intro @and_true (And.intro @false_and (And.intro @and_false (And.intro @bx1 (And.intro @bx2 (And.intro @bx3 (And.intro @bx4 (And.intro @bx5 (And.intro @bx6 (And.intro @over_0 (And.intro @over_n (And.intro @over_s (And.intro @rep_0 (And.intro @rep_s (And.intro @cast_lit (And.intro @ads_nil (And.intro @ads_cons (And.intro @ath_0 (And.intro @ath_s (And.intro @ast_0 (And.intro @ast_s (And.intro @clearS_nil (And.intro @clearS_cons (And.intro @nil_nsl (And.intro @nil_osl (And.intro @nil_esl (And.intro @nil_zsl (And.intro @nil_npt (And.intro @nil_ptr @wrap64))))))))))))))))))))))))))))))))))))))))))))))))))))))))))))))))))))))))))))))))))))))))))))))))))))))))))))))))))))))))))))))))))))
end Go.Ev
namespace Go.Ev
abbrev Env:=Nat → Nat → AV
abbrev LK:=AExit → TM → St → Nat → Prop
theorem scan {D : TM → St → Nat → LK → Prop} {nt q r L x : Nat} {fz : Fz} {p : Nat → Bool} (Inv : Env → St → Nat → Prop) (Rt : Env → Prop) (hfree : ∀ e mu n, Inv e mu n → Free fz mu n)
    (step : ∀ i e mu n (K : LK),i < L → Inv e mu n → e q r = .one (.int .i64 i) → (p i = true → ∀ e' mu' n',Gr n fz mu mu' n n' → Inv e' mu' n' → e' q r = .one (.int .i64 ((i + 1 : Nat) : Int)) → K .normal (tmE nt e') mu' n') →
      (p i = false → ∀ e' mu' n',Gr n fz mu mu' n n' → Rt e' → K .ret (tmE nt e') mu' n') → D (tmE nt e) mu n K)
    (stop : ∀ e mu n (K : LK),Inv e mu n → e q r = .one (.int .i64 L) → (∀ e' mu' n',Gr n fz mu mu' n n' → Inv e' mu' n' → K (.exit x) (tmE nt e') mu' n') → D (tmE nt e) mu n K) :
    ∀ (m i fu : Nat) (e : Env) (mu : St) (n : Nat) (K : LK) (w),m = L - i → m < fu → i ≤ L → Inv e mu n → e q r = .one (.int .i64 i) →
      ((∀ j,i ≤ j → j < L → p j = true) → ∀ e' mu' n',Gr n fz mu mu' n n' → Inv e' mu' n' → K (.exit x) (tmE nt e') mu' n') →
      ((∃ j,i ≤ j ∧ j < L ∧ p j = false) → ∀ e' mu' n',Gr n fz mu mu' n n' → Rt e' → K .ret (tmE nt e') mu' n') → Lp D fu (tmE nt e) mu n K w:=by
  intro m
  induction m with
  | zero =>
    intro i fu e mu n K w hm hfu hi hI hc hd hr
    obtain ⟨fu,rfl⟩ : ∃ f,fu = f + 1:=⟨fu - 1,by omega⟩
    rw [Lp_step]
    have : i = L:=by omega
    subst this
    exact stop e mu n _ hI hc λe' mu' n' g hI'=>hd (λj h1 h2=>by omega) e' mu' n' g hI'
  | succ m ih =>
    intro i fu e mu n K w hm hfu hi hI hc hd hr
    obtain ⟨fu,rfl⟩ : ∃ f,fu = f + 1:=⟨fu - 1,by omega⟩
    rw [Lp_step]
    refine step i e mu n _ (by omega) hI hc (λhp e' mu' n' g hI' hc'=>?_) (λhp e' mu' n' g hR=>hr ⟨i,Nat.le_refl _,by omega,hp⟩ e' mu' n' g hR)
    refine ih (i + 1) fu e' mu' n' K .mk (by omega) (by omega) (by omega) hI' hc' (λha e2 mu2 n2 g2 hI2=>?_) (λhx e2 mu2 n2 g2 hR=>?_)
    · exact hd (λj h1 h2=>by rcases Nat.eq_or_lt_of_le h1 with rfl | h; exact hp; exact ha j h h2) e2 mu2 n2 (g.trans (g2.weaken g.le)) hI2
    · obtain ⟨j,j1,j2,j3⟩:=hx
      exact hr ⟨j,by omega,j2,j3⟩ e2 mu2 n2 (g.trans (g2.weaken g.le)) hR
theorem Lp_at {D : TM → St → Nat → LK → Prop} {fu : Nat} {tm : TM} {mu : St} {n : Nat} {K : LK} {w} (h : Lp D fu tm mu n K w) : Lp D fu tm mu n K w:=h
structure Hide (p : Prop) : Prop where
  out : p
theorem loopI {D : TM → St → Nat → LK → Prop} {nt L x fu : Nat} {p : Nat → Bool} (Inv : Nat → Env → St → Nat → Prop) (Rt : Env → St → Nat → Prop)
    (step : ∀ i e mu n (K : LK),i < L → Inv i e mu n → (p i = true → ∀ e' mu' n',Inv (i + 1) e' mu' n' → K .normal (tmE nt e') mu' n') → (p i = false → ∀ e' mu' n',Rt e' mu' n' → K .ret (tmE nt e') mu' n') → D (tmE nt e) mu n K)
    (stop : ∀ e mu n (K : LK),Inv L e mu n → (∀ e' mu' n',Inv L e' mu' n' → K (.exit x) (tmE nt e') mu' n') → D (tmE nt e) mu n K)
    (e : Env) (mu : St) (n : Nat) (K : LK) (w) (hfu : L < fu) (hI : Inv 0 e mu n)
    (hd : (∀ j,0 ≤ j → j < L → p j = true) → ∀ e' mu' n',Inv L e' mu' n' → K (.exit x) (tmE nt e') mu' n')
    (hr : (∃ j,0 ≤ j ∧ j < L ∧ p j = false) → ∀ e' mu' n',Rt e' mu' n' → K .ret (tmE nt e') mu' n') : Lp D fu (tmE nt e) mu n K w:=by
  suffices h : ∀ (m i fu : Nat) (e : Env) (mu : St) (n : Nat) (K : LK) (w), m = L - i → m < fu → i ≤ L → Inv i e mu n → ((∀ j, i ≤ j → j < L → p j = true) → ∀ e' mu' n', Inv L e' mu' n' → K (.exit x) (tmE nt e') mu' n') →
      ((∃ j,i ≤ j ∧ j < L ∧ p j = false) → ∀ e' mu' n',Rt e' mu' n' → K .ret (tmE nt e') mu' n') → Lp D fu (tmE nt e) mu n K w from
    h L 0 fu e mu n K w rfl hfu (Nat.zero_le _) hI hd hr
  intro m
  induction m with
  | zero =>
    intro i fu e mu n K w hm hfu hi hI hd hr
    obtain ⟨fu,rfl⟩ : ∃ f,fu = f + 1:=⟨fu - 1,by omega⟩
    rw [Lp_step]
    have : i = L:=by omega
    subst this
    exact stop e mu n _ hI λe' mu' n' hI'=>hd (λj h1 h2=>by omega) e' mu' n' hI'
  | succ m ih =>
    intro i fu e mu n K w hm hfu hi hI hd hr
    obtain ⟨fu,rfl⟩ : ∃ f,fu = f + 1:=⟨fu - 1,by omega⟩
    rw [Lp_step]
    refine step i e mu n _ (by omega) hI (λhp e' mu' n' hI'=>?_) (λhp e' mu' n' hR=>hr ⟨i,Nat.le_refl _,by omega,hp⟩ e' mu' n' hR)
    refine ih (i + 1) fu e' mu' n' K .mk (by omega) (by omega) (by omega) hI' (λha=>hd λj h1 h2=>?_) (λhx=>hr ?_)
    · rcases Nat.eq_or_lt_of_le h1 with rfl | h
      · exact hp
      · exact ha j h h2
    · obtain ⟨j,j1,j2,j3⟩:=hx
      exact ⟨j,by omega,j2,j3⟩
theorem with_putS {mu : St} {fz : Fz} {id j : Nat} {c d : List SV} (h : look mu id = some d) : with' (putS mu id c) fz j = if id = j then some c else with' mu fz j:=by
  rw [with_eq,look_putS,with_eq]
  by_cases e : id = j
  · subst e; simp [h]
  · rw [if_neg e,if_neg e]
theorem Gr.put {lo n n' : Nat} {fz : Fz} {mu mu' : St} {id : Nat} {c d : List SV} (g : Gr lo fz mu mu' n n') (hl : lo ≤ id) (h : look mu' id = some d) : Gr lo fz mu (putS mu' id c) n n':=by
  refine ⟨g.le,λj hj=>?_,λj hj=>?_,λj=>?_⟩
  · rw [with_putS h,if_neg (by omega)]; exact g.ext j hj
  · rw [look_putS,if_neg (by omega)]; exact g.own j hj
  · have:=g.free.lt (look_with h)
    rw [with_putS h,if_neg (by omega)]; exact g.free j
theorem leafB {k : KT Prop} {fz : Fz} {mu mu' : St} {n n' : Nat} {s b : Bool} (h : ∀ mu' n',Gr n fz mu mu' n n' → k (.one (.bool s)) mu' n') (g : Gr n fz mu mu' n n') (e : b = s) : k (.one (.bool b)) mu' n':=by rw [e]; exact h _ _ g
theorem wrap_succ {i L : Nat} (h : i < L) (hL : L ≤ 4611686018427387904) : IntKind.i64.wrap ((i : Int) + 1) = ((i + 1 : Nat) : Int):=by rw [wrap64 (by omega) (by omega)]; rfl
theorem all_range {L : Nat} {p : Nat → Bool} (h : ∀ j,0 ≤ j → j < L → p j = true) : (List.range L).all p = true:=by
  rw [List.all_eq_true]; intro j hj; exact h j (Nat.zero_le _) (by simpa using hj)
theorem not_all_range {L : Nat} {p : Nat → Bool} (h : ∃ j,0 ≤ j ∧ j < L ∧ p j = false) : (List.range L).all p = false:=by
  obtain ⟨j,_,h1,h2⟩:=h
  rw [Bool.eq_false_iff]; intro ha
  have:=List.all_eq_true.1 ha j (by simpa using h1)
  rw [h2] at this; cases this
theorem all_list {α : Type} {l : List α} {f : α → Bool} (h : ∀ j,0 ≤ j → j < l.length → (l[j]?.map f).getD true = true) : l.all f = true:=by
  rw [List.all_eq_true]; intro a ha
  obtain ⟨j,h1,h2⟩:=List.getElem_of_mem ha
  have:=h j (Nat.zero_le _) h1
  rw [List.getElem?_eq_getElem h1] at this
  simpa [h2] using this
theorem not_all_list {α : Type} {l : List α} {f : α → Bool} (h : ∃ j,0 ≤ j ∧ j < l.length ∧ (l[j]?.map f).getD true = false) : l.all f = false:=by
  obtain ⟨j,_,h1,h2⟩:=h
  rw [Bool.eq_false_iff]; intro ha
  have:=List.all_eq_true.1 ha l[j] (List.getElem_mem h1)
  rw [List.getElem?_eq_getElem h1] at h2
  simp at h2
  rw [h2] at this; cases this
theorem any_no {α : Type} {l : List α} {p : α → Bool} (h : ∀ j,0 ≤ j → j < l.length → (!((l[j]?.map p).getD false)) = true) : l.any p = false:=by
  rw [Bool.eq_false_iff]; intro ha
  obtain ⟨a,ha,hp⟩:=List.any_eq_true.1 ha
  obtain ⟨j,h1,h2⟩:=List.getElem_of_mem ha
  have:=h j (Nat.zero_le _) h1
  rw [List.getElem?_eq_getElem h1,h2] at this
  simp [hp] at this
theorem any_yes {α : Type} {l : List α} {p : α → Bool} (h : ∃ j,0 ≤ j ∧ j < l.length ∧ (!((l[j]?.map p).getD false)) = false) : l.any p = true:=by
  obtain ⟨j,_,h1,h2⟩:=h
  rw [List.getElem?_eq_getElem h1] at h2
  exact List.any_eq_true.2 ⟨l[j],List.getElem_mem h1,by simpa using h2⟩
end Go.Ev
set_option maxRecDepth 1000000
set_option linter.unusedVariables false
namespace Go.Proofs.Ytnnjlnkoomeadaa.Pv
open Go.Ev
abbrev t (q r : Nat) : Od:=.t q r
abbrev c (i : Int) : Od:=.c (.one (.int .i64 i))
abbrev f (g : Nat) : Od:=.c (.one (.fn g []))
abbrev n_law17_ReplicaOld : Nat:=7
abbrev n_replica_New : Nat:=21
abbrev n_replica_May : Nat:=24
abbrev n_replica_Primary : Nat:=26
abbrev n_law17_awake : Nat:=30
abbrev n_law17_fresh : Nat:=31
abbrev n_replica_Receive : Nat:=32
abbrev n_message_May : Nat:=38
abbrev n_choose_Last : Nat:=48
abbrev n_repair_Nodes : Nat:=50
abbrev n_replica_within : Nat:=52
abbrev n_message_MayLog : Nat:=53
abbrev n_slices_ContainsFunc_int_int : Nat:=54
abbrev n_replica_May_1 : Nat:=55
abbrev n_replica_Clone : Nat:=61
abbrev n_replica_begin : Nat:=62
abbrev n_replica_step_follow : Nat:=63
abbrev n_replica_step_acked : Nat:=64
abbrev n_replica_step_started : Nat:=65
abbrev n_replica_step_voted : Nat:=66
abbrev n_replica_step_given : Nat:=67
abbrev n_replica_step_normal : Nat:=68
abbrev n_replica_step_send : Nat:=69
abbrev n_replica_step_end : Nat:=70
abbrev n_slices_Clone_int_int : Nat:=72
abbrev n_message_fields : Nat:=73
abbrev n_message_who : Nat:=74
abbrev n_message_number : Nat:=75
abbrev n_message_limits : Nat:=76
abbrev n_point_Name : Nat:=77
abbrev n_point_Batch : Nat:=78
abbrev n_message_CloneLog : Nat:=86
abbrev n_message_MayEntry : Nat:=88
abbrev n_slices_IndexFunc_int_int : Nat:=89
abbrev n_slices_Clone_api_Do_api_Do : Nat:=95
abbrev n_message_CloneEntry : Nat:=99
abbrev n_message_Node : Nat:=111
abbrev n_message_Client : Nat:=112
abbrev n_slices_ContainsFunc_api_Point_api_Point : Nat:=113
abbrev n_point_Batch_1 : Nat:=114
abbrev n_point_May : Nat:=115
abbrev n_slices_IndexFunc_api_Point_api_Point : Nat:=145
abbrev n_point_Small : Nat:=146
def b_law17_ReplicaOld : ACode:=(.seq (.reg [⟨(some (0,5)),.box (t 0 2),none,3,[]⟩,⟨(some (0,6)),.mv (.c (.one (.bool false))),none,0,[]⟩]) (.seq (.seq (.reg [⟨(some (0,12)),.call (f n_law17_awake) [],none,1,[]⟩,⟨(some (0,13)),.not (t 0 12),none,0,[]⟩]) (.cond (t 0 13) (.seq (.reg [⟨(some (0,6)),.mv (.c (.one (.bool false))),none,0,[]⟩]) .ret) .skip)) (.seq (.reg [⟨(some (0,14)),.mv (t 0 0),none,0,[]⟩,⟨(some (0,15)),.bin .and (t 0 14) (c 7),none,0,[]⟩,⟨(some (1,0)),.bin .add (c 1) (t 0 15),none,0,[]⟩,⟨(some (0,7)),.mv (t 1 0),none,0,[]⟩]) (.seq (.reg [⟨(some (1,1)),.mv (t 0 7),none,0,[]⟩,⟨(some (1,2)),.call (f n_law17_fresh) [(c 1),(c 3),(t 1 1),(c 4),(c 2)],none,1,[]⟩,⟨(some (0,8)),.alloc [.int .i64 0,.int .i64 0,.int .i64 0,.int .i64 0,.int .i64 0,.int .i64 0,.bool false,.int .i64 0,.str 0 0,.nsl,.nsl,.nsl,.nsl],none,3,[]⟩,⟨none,.store 13 (t 0 8) (t 1 2),none,2,[]⟩]) (.seq (.reg [⟨(some (1,3)),.bslice 1 8 [.int .i64 0] [(0,1,(c 4)),(1,1,(c 5)),(2,1,(c 6)),(3,1,(c 7)),(4,1,(c 8)),(5,1,(c 9)),(6,1,(c 10)),(7,1,(c 11))],none,3,[]⟩,⟨(some (0,9)),.mv (t 1 3),none,0,[]⟩]) (.seq (.reg [⟨(some (1,4)),.mv (t 0 9),none,0,[]⟩,⟨(some (1,5)),.mv (t 0 1),none,0,[]⟩,⟨(some (1,6)),.bin .and (t 1 5) (c 7),none,0,[]⟩,⟨(some (1,7)),.iaddr 1 (t 1 4) (t 1 6),none,0,[]⟩,⟨(some (1,8)),.load false 1 (t 1 7),none,1,[]⟩,⟨(some (1,9)),.faddr 0 (t 0 5),none,0,[]⟩,⟨none,.store 1 (t 1 9) (t 1 8),none,2,[]⟩]) (.seq (.reg [⟨(some (1,10)),.faddr 3 (t 0 5),none,0,[]⟩,⟨(some (1,11)),.load false 1 (t 1 10),none,1,[]⟩,⟨(some (1,12)),.conv .u64 (t 1 11),none,0,[]⟩,⟨(some (1,13)),.mv (t 0 7),none,0,[]⟩,⟨(some (1,14)),.conv .u64 (t 1 13),none,0,[]⟩,⟨(some (1,15)),.bin .rem (t 1 12) (t 1 14),none,0,[]⟩,⟨(some (2,0)),.conv .i64 (t 1 15),none,0,[]⟩,⟨(some (2,1)),.faddr 3 (t 0 5),none,0,[]⟩,⟨none,.store 1 (t 2 1) (t 2 0),none,2,[]⟩]) (.seq (.reg [⟨(some (2,3)),.load true 13 (t 0 8),none,1,[]⟩,⟨(some (2,4)),.load true 20 (t 0 5),none,1,[]⟩,⟨(some (2,5)),.call (f n_replica_Receive) [(t 2 3),(t 2 4)],none,1,[]⟩,⟨(some (2,2)),.mv (t 2 5),none,0,[]⟩,⟨(some (2,6)),.extr (t 2 2) 0,none,0,[]⟩,⟨(some (2,7)),.extr (t 2 2) 1,none,0,[]⟩,⟨(some (0,10)),.alloc [.int .i64 0,.int .i64 0,.int .i64 0,.int .i64 0,.int .i64 0,.int .i64 0,.bool false,.int .i64 0,.str 0 0,.nsl,.nsl,.nsl,.nsl],none,3,[]⟩,⟨none,.store 13 (t 0 10) (t 2 6),none,2,[]⟩,⟨(some (0,11)),.mv (t 2 7),none,0,[]⟩]) (.seq (.reg [⟨(some (2,8)),.mv (t 0 11),none,0,[]⟩,⟨(some (2,9)),.len false (t 2 8),none,0,[]⟩,⟨(some (2,10)),.bin .eql (t 2 9) (c 0),none,0,[]⟩,⟨(some (2,11)),.mv (t 2 10),none,0,[]⟩,⟨(some (2,12)),.faddr 2 (t 0 10),(some (2,11,true)),0,[]⟩,⟨(some (2,13)),.load false 1 (t 2 12),(some (2,11,true)),1,[]⟩,⟨(some (2,14)),.mv (t 0 7),(some (2,11,true)),0,[]⟩,⟨(some (2,15)),.bin .eql (t 2 13) (t 2 14),(some (2,11,true)),0,[]⟩,⟨(some (3,0)),.pick (t 2 11) (t 2 15) (.c (.one (.bool false))),none,0,[]⟩,⟨(some (3,1)),.mv (t 3 0),none,0,[]⟩,⟨(some (3,2)),.faddr 4 (t 0 10),(some (3,1,true)),0,[]⟩,⟨(some (3,3)),.load false 1 (t 3 2),(some (3,1,true)),1,[]⟩,⟨(some (3,4)),.bin .eql (t 3 3) (c 0),(some (3,1,true)),0,[]⟩,⟨(some (3,5)),.pick (t 3 1) (t 3 4) (.c (.one (.bool false))),none,0,[]⟩,⟨(some (3,6)),.mv (t 3 5),none,0,[]⟩,⟨(some (3,7)),.faddr 5 (t 0 10),(some (3,6,true)),0,[]⟩,⟨(some (3,8)),.load false 1 (t 3 7),(some (3,6,true)),1,[]⟩,⟨(some (3,9)),.bin .eql (t 3 8) (c 2),(some (3,6,true)),0,[]⟩,⟨(some (3,10)),.pick (t 3 6) (t 3 9) (.c (.one (.bool false))),none,0,[]⟩,⟨(some (3,11)),.mv (t 3 10),none,0,[]⟩,⟨(some (3,12)),.faddr 7 (t 0 10),(some (3,11,true)),0,[]⟩,⟨(some (3,13)),.faddr 2 (t 3 12),(some (3,11,true)),0,[]⟩,⟨(some (3,14)),.load false 1 (t 3 13),(some (3,11,true)),1,[]⟩,⟨(some (3,15)),.len false (t 3 14),(some (3,11,true)),0,[]⟩,⟨(some (4,0)),.bin .eql (t 3 15) (c 4),(some (3,11,true)),0,[]⟩,⟨(some (4,1)),.pick (t 3 11) (t 4 0) (.c (.one (.bool false))),none,0,[]⟩,⟨(some (0,6)),.mv (t 4 1),none,0,[]⟩]) .ret)))))))))
def a_law17_ReplicaOld : AFunc:=⟨66,3,[.tmp 0 6],b_law17_ReplicaOld⟩
theorem i_law17_ReplicaOld {P : Program} {fz : Fz} {mu : St} {n : Nat} {k : KT Prop} (fu : Nat) (x0 x1 x2 : AV) : textP P fu a_law17_ReplicaOld [x0,x1,x2] fz mu n k = dcode pOrc False (CP P) fz fu b_law17_ReplicaOld (tmE 66 (envI [x0,x1,x2])) mu n (endP fz [.tmp 0 6] k):=rfl
def b_replica_New : ACode:=(.seq (.reg [⟨(some (0,4)),.alloc [.int .i64 0,.int .i64 0,.int .i64 0,.int .i64 0,.int .i64 0,.int .i64 0,.bool false,.int .i64 0,.str 0 0,.nsl,.nsl,.nsl,.nsl],none,3,[]⟩,⟨(some (0,5)),.mv (c 0),none,0,[]⟩]) (.seq (.seq (.reg [⟨(some (0,6)),.mv (t 0 0),none,0,[]⟩,⟨(some (0,7)),.mv (t 0 1),none,0,[]⟩,⟨(some (0,8)),.call (f n_repair_Nodes) [(t 0 6),(t 0 7)],none,1,[]⟩,⟨(some (0,9)),.not (t 0 8),none,0,[]⟩]) (.cond (t 0 9) (.seq (.reg [⟨(some (0,10)),.build [.int .i64 0,.int .i64 0,.int .i64 0,.int .i64 0,.int .i64 0,.int .i64 0,.bool false,.int .i64 0,.str 0 0,.nsl,.nsl,.nsl,.nsl] [],none,0,[]⟩,⟨none,.store 13 (t 0 4) (t 0 10),none,2,[]⟩,⟨(some (0,5)),.mv (c 1700),none,0,[]⟩]) .ret) .skip)) (.seq (.reg [⟨(some (0,11)),.mv (t 0 0),none,0,[]⟩,⟨(some (0,12)),.mv (t 0 1),none,0,[]⟩,⟨(some (0,13)),.mv (t 0 1),none,0,[]⟩,⟨(some (0,14)),.mkslice 1 8 [.int .i64 0] (t 0 13) (t 0 13),none,3,[]⟩,⟨(some (0,15)),.build [.int .i64 0,.int .i64 0,.int .i64 0,.int .i64 0,.int .i64 0,.int .i64 0,.bool false,.int .i64 0,.str 0 0,.nsl,.nsl,.nsl,.nsl] [(0,1,(t 0 11)),(1,1,(t 0 12)),(10,1,(t 0 14))],none,0,[]⟩,⟨none,.store 13 (t 0 4) (t 0 15),none,2,[]⟩,⟨(some (0,5)),.mv (c 0),none,0,[]⟩]) .ret)))
def a_replica_New : AFunc:=⟨16,2,[.cell 0 4 true 13,.tmp 0 5],b_replica_New⟩
theorem i_replica_New {P : Program} {fz : Fz} {mu : St} {n : Nat} {k : KT Prop} (fu : Nat) (x0 x1 : AV) : textP P fu a_replica_New [x0,x1] fz mu n k = dcode pOrc False (CP P) fz fu b_replica_New (tmE 16 (envI [x0,x1])) mu n (endP fz [.cell 0 4 true 13,.tmp 0 5] k):=rfl
def l_replica_May_0 : ACode:=(.seq (.reg [⟨(some (7,1)),.bin .lss (t 7 0) (t 6 15),none,0,[]⟩]) (.seq (.cond (t 7 1) .skip (.exit 0)) (.seq (.blk 1 (.seq (.reg [⟨(some (7,2)),.iaddr 1 (t 6 14) (t 7 0),none,0,[]⟩,⟨(some (7,3)),.load false 1 (t 7 2),none,1,[]⟩,⟨(some (0,5)),.mv (t 7 3),none,0,[]⟩]) (.seq (.seq (.reg [⟨(some (7,4)),.mv (t 0 5),none,0,[]⟩,⟨(some (7,5)),.mv (t 0 3),none,0,[]⟩,⟨(some (7,6)),.bin .leq (t 7 4) (t 7 5),none,0,[]⟩,⟨(some (7,7)),.mv (t 7 6),none,0,[]⟩,⟨(some (7,8)),.mv (t 0 5),(some (7,7,false)),0,[]⟩,⟨(some (7,9)),.faddr 1 (t 0 1),(some (7,7,false)),0,[]⟩,⟨(some (7,10)),.load false 1 (t 7 9),(some (7,7,false)),1,[]⟩,⟨(some (7,11)),.bin .geq (t 7 8) (t 7 10),(some (7,7,false)),0,[]⟩,⟨(some (7,12)),.pick (t 7 7) (.c (.one (.bool true))) (t 7 11),none,0,[]⟩,⟨(some (7,13)),.mv (t 7 12),none,0,[]⟩,⟨(some (7,14)),.mv (t 0 5),(some (7,13,false)),0,[]⟩,⟨(some (7,15)),.faddr 0 (t 0 1),(some (7,13,false)),0,[]⟩,⟨(some (8,0)),.load false 1 (t 7 15),(some (7,13,false)),1,[]⟩,⟨(some (8,1)),.bin .eql (t 7 14) (t 8 0),(some (7,13,false)),0,[]⟩,⟨(some (8,2)),.pick (t 7 13) (.c (.one (.bool true))) (t 8 1),none,0,[]⟩]) (.cond (t 8 2) (.seq (.reg [⟨(some (0,2)),.mv (.c (.one (.bool false))),none,0,[]⟩]) .ret) .skip)) (.reg [⟨(some (8,3)),.mv (t 0 5),none,0,[]⟩,⟨(some (0,3)),.mv (t 8 3),none,0,[]⟩])))) (.reg [⟨(some (8,4)),.bin .add (t 7 0) (c 1),none,0,[]⟩,⟨(some (7,0)),.mv (t 8 4),none,0,[]⟩]))))
def l_replica_May_1 : ACode:=(.seq (.reg [⟨(some (8,9)),.bin .lss (t 8 8) (t 8 7),none,0,[]⟩]) (.seq (.cond (t 8 9) .skip (.exit 2)) (.seq (.blk 3 (.seq (.reg [⟨(some (8,10)),.iaddr 6 (t 8 6) (t 8 8),none,0,[]⟩,⟨(some (8,11)),.load true 6 (t 8 10),none,1,[]⟩,⟨(some (0,7)),.alloc [.int .i64 0,.int .i64 0,.int .i64 0,.int .i64 0,.str 0 0,.nsl],none,3,[]⟩,⟨none,.store 6 (t 0 7) (t 8 11),none,2,[]⟩]) (.seq (.seq (.reg [⟨(some (8,12)),.faddr 0 (t 0 7),none,0,[]⟩,⟨(some (8,13)),.load false 1 (t 8 12),none,1,[]⟩,⟨(some (8,14)),.mv (t 0 3),none,0,[]⟩,⟨(some (8,15)),.bin .leq (t 8 13) (t 8 14),none,0,[]⟩,⟨(some (9,0)),.mv (t 8 15),none,0,[]⟩,⟨(some (9,1)),.faddr 0 (t 0 7),(some (9,0,false)),0,[]⟩,⟨(some (9,2)),.load false 1 (t 9 1),(some (9,0,false)),1,[]⟩,⟨(some (9,3)),.faddr 1 (t 0 1),(some (9,0,false)),0,[]⟩,⟨(some (9,4)),.load false 1 (t 9 3),(some (9,0,false)),1,[]⟩,⟨(some (9,5)),.bin .geq (t 9 2) (t 9 4),(some (9,0,false)),0,[]⟩,⟨(some (9,6)),.pick (t 9 0) (.c (.one (.bool true))) (t 9 5),none,0,[]⟩,⟨(some (9,7)),.mv (t 9 6),none,0,[]⟩,⟨(some (9,8)),.faddr 0 (t 0 7),(some (9,7,false)),0,[]⟩,⟨(some (9,9)),.load false 1 (t 9 8),(some (9,7,false)),1,[]⟩,⟨(some (9,10)),.faddr 0 (t 0 1),(some (9,7,false)),0,[]⟩,⟨(some (9,11)),.load false 1 (t 9 10),(some (9,7,false)),1,[]⟩,⟨(some (9,12)),.bin .eql (t 9 9) (t 9 11),(some (9,7,false)),0,[]⟩,⟨(some (9,13)),.pick (t 9 7) (.c (.one (.bool true))) (t 9 12),none,0,[]⟩,⟨(some (9,14)),.mv (t 9 13),none,0,[]⟩,⟨(some (9,15)),.faddr 3 (t 0 7),(some (9,14,false)),0,[]⟩,⟨(some (10,0)),.load true 3 (t 9 15),(some (9,14,false)),1,[]⟩,⟨(some (10,1)),.call (f n_message_MayLog) [(t 10 0)],(some (9,14,false)),1,[]⟩,⟨(some (10,2)),.not (t 10 1),(some (9,14,false)),0,[]⟩,⟨(some (10,3)),.pick (t 9 14) (.c (.one (.bool true))) (t 10 2),none,0,[]⟩,⟨(some (10,4)),.mv (t 10 3),none,0,[]⟩,⟨(some (10,5)),.faddr 1 (t 0 7),(some (10,4,false)),0,[]⟩,⟨(some (10,6)),.load false 1 (t 10 5),(some (10,4,false)),1,[]⟩,⟨(some (10,7)),.bin .lss (t 10 6) (c 0),(some (10,4,false)),0,[]⟩,⟨(some (10,8)),.pick (t 10 4) (.c (.one (.bool true))) (t 10 7),none,0,[]⟩,⟨(some (10,9)),.mv (t 10 8),none,0,[]⟩,⟨(some (10,10)),.faddr 1 (t 0 7),(some (10,9,false)),0,[]⟩,⟨(some (10,11)),.load false 1 (t 10 10),(some (10,9,false)),1,[]⟩,⟨(some (10,12)),.faddr 2 (t 0 1),(some (10,9,false)),0,[]⟩,⟨(some (10,13)),.load false 1 (t 10 12),(some (10,9,false)),1,[]⟩,⟨(some (10,14)),.bin .geq (t 10 11) (t 10 13),(some (10,9,false)),0,[]⟩,⟨(some (10,15)),.pick (t 10 9) (.c (.one (.bool true))) (t 10 14),none,0,[]⟩,⟨(some (11,0)),.mv (t 10 15),none,0,[]⟩,⟨(some (11,1)),.faddr 2 (t 0 7),(some (11,0,false)),0,[]⟩,⟨(some (11,2)),.load false 1 (t 11 1),(some (11,0,false)),1,[]⟩,⟨(some (11,3)),.bin .lss (t 11 2) (c 0),(some (11,0,false)),0,[]⟩,⟨(some (11,4)),.pick (t 11 0) (.c (.one (.bool true))) (t 11 3),none,0,[]⟩]) (.cond (t 11 4) (.seq (.reg [⟨(some (0,2)),.mv (.c (.one (.bool false))),none,0,[]⟩]) .ret) .skip)) (.reg [⟨(some (11,5)),.faddr 0 (t 0 7),none,0,[]⟩,⟨(some (11,6)),.load false 1 (t 11 5),none,1,[]⟩,⟨(some (0,3)),.mv (t 11 6),none,0,[]⟩])))) (.reg [⟨(some (11,7)),.bin .add (t 8 8) (c 1),none,0,[]⟩,⟨(some (8,8)),.mv (t 11 7),none,0,[]⟩]))))
def b_replica_May : ACode:=(.seq (.reg [⟨(some (0,1)),.box (t 0 0),none,3,[]⟩,⟨(some (0,2)),.mv (.c (.one (.bool false))),none,0,[]⟩]) (.seq (.seq (.reg [⟨(some (0,8)),.faddr 0 (t 0 1),none,0,[]⟩,⟨(some (0,9)),.load false 1 (t 0 8),none,1,[]⟩,⟨(some (0,10)),.faddr 1 (t 0 1),none,0,[]⟩,⟨(some (0,11)),.load false 1 (t 0 10),none,1,[]⟩,⟨(some (0,12)),.call (f n_repair_Nodes) [(t 0 9),(t 0 11)],none,1,[]⟩,⟨(some (0,13)),.not (t 0 12),none,0,[]⟩,⟨(some (0,14)),.mv (t 0 13),none,0,[]⟩,⟨(some (0,15)),.faddr 4 (t 0 1),(some (0,14,false)),0,[]⟩,⟨(some (1,0)),.load false 1 (t 0 15),(some (0,14,false)),1,[]⟩,⟨(some (1,1)),.bin .lss (t 1 0) (c 0),(some (0,14,false)),0,[]⟩,⟨(some (1,2)),.pick (t 0 14) (.c (.one (.bool true))) (t 1 1),none,0,[]⟩,⟨(some (1,3)),.mv (t 1 2),none,0,[]⟩,⟨(some (1,4)),.faddr 4 (t 0 1),(some (1,3,false)),0,[]⟩,⟨(some (1,5)),.load false 1 (t 1 4),(some (1,3,false)),1,[]⟩,⟨(some (1,6)),.bin .gtr (t 1 5) (c 2),(some (1,3,false)),0,[]⟩,⟨(some (1,7)),.pick (t 1 3) (.c (.one (.bool true))) (t 1 6),none,0,[]⟩,⟨(some (1,8)),.mv (t 1 7),none,0,[]⟩,⟨(some (1,9)),.faddr 2 (t 0 1),(some (1,8,false)),0,[]⟩,⟨(some (1,10)),.load false 1 (t 1 9),(some (1,8,false)),1,[]⟩,⟨(some (1,11)),.call (f n_replica_within) [(t 1 10)],(some (1,8,false)),1,[]⟩,⟨(some (1,12)),.not (t 1 11),(some (1,8,false)),0,[]⟩,⟨(some (1,13)),.pick (t 1 8) (.c (.one (.bool true))) (t 1 12),none,0,[]⟩,⟨(some (1,14)),.mv (t 1 13),none,0,[]⟩,⟨(some (1,15)),.faddr 3 (t 0 1),(some (1,14,false)),0,[]⟩,⟨(some (2,0)),.load false 1 (t 1 15),(some (1,14,false)),1,[]⟩,⟨(some (2,1)),.call (f n_replica_within) [(t 2 0)],(some (1,14,false)),1,[]⟩,⟨(some (2,2)),.not (t 2 1),(some (1,14,false)),0,[]⟩,⟨(some (2,3)),.pick (t 1 14) (.c (.one (.bool true))) (t 2 2),none,0,[]⟩,⟨(some (2,4)),.mv (t 2 3),none,0,[]⟩,⟨(some (2,5)),.faddr 5 (t 0 1),(some (2,4,false)),0,[]⟩,⟨(some (2,6)),.load false 1 (t 2 5),(some (2,4,false)),1,[]⟩,⟨(some (2,7)),.call (f n_replica_within) [(t 2 6)],(some (2,4,false)),1,[]⟩,⟨(some (2,8)),.not (t 2 7),(some (2,4,false)),0,[]⟩,⟨(some (2,9)),.pick (t 2 4) (.c (.one (.bool true))) (t 2 8),none,0,[]⟩]) (.cond (t 2 9) (.seq (.reg [⟨(some (0,2)),.mv (.c (.one (.bool false))),none,0,[]⟩]) .ret) .skip)) (.seq (.seq (.draw [⟨(some (2,10)),.faddr 3 (t 0 1),none,0,[]⟩,⟨(some (2,11)),.load false 1 (t 2 10),none,1,[0]⟩,⟨(some (2,12)),.faddr 2 (t 0 1),none,0,[]⟩,⟨(some (2,13)),.load false 1 (t 2 12),none,1,[2]⟩,⟨(some (2,14)),.bin .gtr (t 2 11) (t 2 13),none,0,[1,0,3,2]⟩,⟨(some (2,15)),.mv (t 2 14),none,0,[4,1,0,3,2]⟩,⟨(some (3,0)),.faddr 4 (t 0 1),(some (2,15,false)),0,[5,4,1,0,3,2]⟩,⟨(some (3,1)),.load false 1 (t 3 0),(some (2,15,false)),1,[6,5,4,1,0,3,2]⟩,⟨(some (3,2)),.bin .eql (t 3 1) (c 0),(some (2,15,false)),0,[7,6,5,4,1,0,3,2]⟩,⟨(some (3,3)),.mv (t 3 2),(some (2,15,false)),0,[8,7,6,5,4,1,0,3,2]⟩,⟨(some (3,4)),.faddr 3 (t 0 1),(some (3,3,true)),0,[9,8,7,6,5,4,1,0,3,2]⟩,⟨(some (3,5)),.load false 1 (t 3 4),(some (3,3,true)),1,[10,9,8,7,6,5,4,1,0,3,2]⟩,⟨(some (3,6)),.faddr 2 (t 0 1),(some (3,3,true)),0,[9,8,7,6,5,4,1,0,3,2]⟩,⟨(some (3,7)),.load false 1 (t 3 6),(some (3,3,true)),1,[12,9,8,7,6,5,4,1,0,3,2]⟩,⟨(some (3,8)),.bin .neq (t 3 5) (t 3 7),(some (3,3,true)),0,[11,10,9,8,7,6,5,4,1,0,3,2,13,12]⟩,⟨(some (3,9)),.pick (t 3 3) (t 3 8) (.c (.one (.bool false))),(some (2,15,false)),0,[9,8,7,6,5,4,1,0,3,2,14,11,10,13,12]⟩,⟨(some (3,10)),.pick (t 2 15) (.c (.one (.bool true))) (t 3 9),none,0,[5,4,1,0,3,2,15,9,8,7,6,14,11,10,13,12]⟩,⟨(some (3,11)),.mv (t 3 10),none,0,[16,5,4,1,0,3,2,15,9,8,7,6,14,11,10,13,12]⟩,⟨(some (3,12)),.faddr 7 (t 0 1),(some (3,11,false)),0,[17,16,5,4,1,0,3,2,15,9,8,7,6,14,11,10,13,12]⟩,⟨(some (3,13)),.load true 3 (t 3 12),(some (3,11,false)),1,[18,17,16,5,4,1,0,3,2,15,9,8,7,6,14,11,10,13,12]⟩,⟨(some (3,14)),.call (f n_message_MayLog) [(t 3 13)],(some (3,11,false)),1,[19,18,17,16,5,4,1,0,3,2,15,9,8,7,6,14,11,10,13,12]⟩,⟨(some (3,15)),.not (t 3 14),(some (3,11,false)),0,[20,19,18,17,16,5,4,1,0,3,2,15,9,8,7,6,14,11,10,13,12]⟩,⟨(some (4,0)),.pick (t 3 11) (.c (.one (.bool true))) (t 3 15),none,0,[17,16,5,4,1,0,3,2,15,9,8,7,6,14,11,10,13,12,21,20,19,18]⟩,⟨(some (4,1)),.mv (t 4 0),none,0,[22,17,16,5,4,1,0,3,2,15,9,8,7,6,14,11,10,13,12,21,20,19,18]⟩,⟨(some (4,2)),.faddr 5 (t 0 1),(some (4,1,false)),0,[23,22,17,16,5,4,1,0,3,2,15,9,8,7,6,14,11,10,13,12,21,20,19,18]⟩,⟨(some (4,3)),.load false 1 (t 4 2),(some (4,1,false)),1,[24,23,22,17,16,5,4,1,0,3,2,15,9,8,7,6,14,11,10,13,12,21,20,19,18]⟩,⟨(some (4,4)),.faddr 7 (t 0 1),(some (4,1,false)),0,[23,22,17,16,5,4,1,0,3,2,15,9,8,7,6,14,11,10,13,12,21,20,19,18]⟩,⟨(some (4,5)),.faddr 0 (t 4 4),(some (4,1,false)),0,[26,23,22,17,16,5,4,1,0,3,2,15,9,8,7,6,14,11,10,13,12,21,20,19,18]⟩,⟨(some (4,6)),.load false 1 (t 4 5),(some (4,1,false)),1,[27,26,23,22,17,16,5,4,1,0,3,2,15,9,8,7,6,14,11,10,13,12,21,20,19,18]⟩,⟨(some (4,7)),.bin .lss (t 4 3) (t 4 6),(some (4,1,false)),0,[25,24,23,22,17,16,5,4,1,0,3,2,15,9,8,7,6,14,11,10,13,12,21,20,19,18,28,27,26]⟩,⟨(some (4,8)),.pick (t 4 1) (.c (.one (.bool true))) (t 4 7),none,0,[23,22,17,16,5,4,1,0,3,2,15,9,8,7,6,14,11,10,13,12,21,20,19,18,29,25,24,28,27,26]⟩,⟨(some (4,9)),.mv (t 4 8),none,0,[30,23,22,17,16,5,4,1,0,3,2,15,9,8,7,6,14,11,10,13,12,21,20,19,18,29,25,24,28,27,26]⟩,⟨(some (4,10)),.faddr 5 (t 0 1),(some (4,9,false)),0,[31,30,23,22,17,16,5,4,1,0,3,2,15,9,8,7,6,14,11,10,13,12,21,20,19,18,29,25,24,28,27,26]⟩,⟨(some (4,11)),.load false 1 (t 4 10),(some (4,9,false)),1,[32,31,30,23,22,17,16,5,4,1,0,3,2,15,9,8,7,6,14,11,10,13,12,21,20,19,18,29,25,24,28,27,26]⟩,⟨(some (4,12)),.faddr 7 (t 0 1),(some (4,9,false)),0,[31,30,23,22,17,16,5,4,1,0,3,2,15,9,8,7,6,14,11,10,13,12,21,20,19,18,29,25,24,28,27,26]⟩,⟨(some (4,13)),.load true 3 (t 4 12),(some (4,9,false)),1,[34,31,30,23,22,17,16,5,4,1,0,3,2,15,9,8,7,6,14,11,10,13,12,21,20,19,18,29,25,24,28,27,26]⟩,⟨(some (4,14)),.call (f n_choose_Last) [(t 4 13)],(some (4,9,false)),1,[35,34,31,30,23,22,17,16,5,4,1,0,3,2,15,9,8,7,6,14,11,10,13,12,21,20,19,18,29,25,24,28,27,26]⟩,⟨(some (4,15)),.bin .gtr (t 4 11) (t 4 14),(some (4,9,false)),0,[33,32,31,30,23,22,17,16,5,4,1,0,3,2,15,9,8,7,6,14,11,10,13,12,21,20,19,18,29,25,24,28,27,26,36,35,34]⟩,⟨(some (5,0)),.pick (t 4 9) (.c (.one (.bool true))) (t 4 15),none,0,[31,30,23,22,17,16,5,4,1,0,3,2,15,9,8,7,6,14,11,10,13,12,21,20,19,18,29,25,24,28,27,26,37,33,32,36,35,34]⟩]) (.cond (t 5 0) (.seq (.reg [⟨(some (0,2)),.mv (.c (.one (.bool false))),none,0,[]⟩]) .ret) .skip)) (.seq (.seq (.reg [⟨(some (5,1)),.faddr 10 (t 0 1),none,0,[]⟩,⟨(some (5,2)),.load false 1 (t 5 1),none,1,[]⟩,⟨(some (5,3)),.len false (t 5 2),none,0,[]⟩,⟨(some (5,4)),.faddr 1 (t 0 1),none,0,[]⟩,⟨(some (5,5)),.load false 1 (t 5 4),none,1,[]⟩,⟨(some (5,6)),.bin .neq (t 5 3) (t 5 5),none,0,[]⟩,⟨(some (5,7)),.mv (t 5 6),none,0,[]⟩,⟨(some (5,8)),.faddr 10 (t 0 1),(some (5,7,false)),0,[]⟩,⟨(some (5,9)),.load false 1 (t 5 8),(some (5,7,false)),1,[]⟩,⟨(some (5,10)),.call (f n_slices_ContainsFunc_int_int) [(t 5 9),(f n_replica_May_1)],(some (5,7,false)),1,[]⟩,⟨(some (5,11)),.pick (t 5 7) (.c (.one (.bool true))) (t 5 10),none,0,[]⟩]) (.cond (t 5 11) (.seq (.reg [⟨(some (0,2)),.mv (.c (.one (.bool false))),none,0,[]⟩]) .ret) .skip)) (.seq (.seq (.reg [⟨(some (5,12)),.faddr 4 (t 0 1),none,0,[]⟩,⟨(some (5,13)),.load false 1 (t 5 12),none,1,[]⟩,⟨(some (5,14)),.bin .neq (t 5 13) (c 1),none,0,[]⟩,⟨(some (5,15)),.mv (t 5 14),none,0,[]⟩,⟨(some (6,0)),.faddr 6 (t 0 1),(some (5,15,true)),0,[]⟩,⟨(some (6,1)),.load false 1 (t 6 0),(some (5,15,true)),1,[]⟩,⟨(some (6,2)),.mv (t 6 1),(some (5,15,true)),0,[]⟩,⟨(some (6,3)),.faddr 11 (t 0 1),(some (6,2,false)),0,[]⟩,⟨(some (6,4)),.load false 1 (t 6 3),(some (6,2,false)),1,[]⟩,⟨(some (6,5)),.len false (t 6 4),(some (6,2,false)),0,[]⟩,⟨(some (6,6)),.faddr 12 (t 0 1),(some (6,2,false)),0,[]⟩,⟨(some (6,7)),.load false 1 (t 6 6),(some (6,2,false)),1,[]⟩,⟨(some (6,8)),.len false (t 6 7),(some (6,2,false)),0,[]⟩,⟨(some (6,9)),.bin .add (t 6 5) (t 6 8),(some (6,2,false)),0,[]⟩,⟨(some (6,10)),.bin .gtr (t 6 9) (c 0),(some (6,2,false)),0,[]⟩,⟨(some (6,11)),.pick (t 6 2) (.c (.one (.bool true))) (t 6 10),(some (5,15,true)),0,[]⟩,⟨(some (6,12)),.pick (t 5 15) (t 6 11) (.c (.one (.bool false))),none,0,[]⟩]) (.cond (t 6 12) (.seq (.reg [⟨(some (0,2)),.mv (.c (.one (.bool false))),none,0,[]⟩]) .ret) .skip)) (.seq (.reg [⟨(some (0,3)),.mv (c (-1)),none,0,[]⟩]) (.seq (.seq (.reg [⟨(some (6,13)),.faddr 11 (t 0 1),none,0,[]⟩,⟨(some (6,14)),.load false 1 (t 6 13),none,1,[]⟩,⟨(some (6,15)),.len false (t 6 14),none,0,[]⟩,⟨(some (7,0)),.mv (c 0),none,0,[]⟩]) (.blk 0 (.loop l_replica_May_0))) (.seq (.reg [⟨(some (0,3)),.mv (c (-1)),none,0,[]⟩]) (.seq (.seq (.reg [⟨(some (8,5)),.faddr 12 (t 0 1),none,0,[]⟩,⟨(some (8,6)),.load false 1 (t 8 5),none,1,[]⟩,⟨(some (8,7)),.len false (t 8 6),none,0,[]⟩,⟨(some (8,8)),.mv (c 0),none,0,[]⟩]) (.blk 2 (.loop l_replica_May_1))) (.seq (.reg [⟨(some (0,2)),.mv (.c (.one (.bool true))),none,0,[]⟩]) .ret))))))))))
def a_replica_May : AFunc:=⟨184,1,[.tmp 0 2],b_replica_May⟩
theorem i_replica_May {P : Program} {fz : Fz} {mu : St} {n : Nat} {k : KT Prop} (fu : Nat) (x0 : AV) : textP P fu a_replica_May [x0] fz mu n k = dcode pOrc False (CP P) fz fu b_replica_May (tmE 184 (envI [x0])) mu n (endP fz [.tmp 0 2] k):=rfl
def l_law17_fresh_0 : ACode:=(.seq (.seq (.reg [⟨(some (1,8)),.mv (t 0 13),none,0,[]⟩,⟨(some (1,9)),.mv (t 0 3),none,0,[]⟩,⟨(some (1,10)),.bin .lss (t 1 8) (t 1 9),none,0,[]⟩]) (.cond (t 1 10) .skip (.exit 0))) (.seq (.blk 1 (.reg [⟨(some (1,13)),.faddr 7 (t 0 11),none,0,[]⟩,⟨(some (1,14)),.faddr 2 (t 1 13),none,0,[]⟩,⟨(some (1,15)),.load false 1 (t 1 14),none,1,[]⟩,⟨(some (2,0)),.mv (t 0 2),none,0,[]⟩,⟨(some (2,1)),.mv (t 0 13),none,0,[]⟩,⟨(some (2,2)),.bin .add (t 2 1) (c 1),none,0,[]⟩,⟨(some (2,3)),.build [.int .i64 0,.int .i64 0,.int .i64 0,.int .i64 0,.nsl] [(0,1,(t 2 0)),(3,1,(t 2 2))],none,0,[]⟩,⟨(some (2,4)),.bslice 5 1 [.int .i64 0,.int .i64 0,.int .i64 0,.int .i64 0,.nsl] [(0,5,(t 2 3))],none,3,[]⟩,⟨(some (2,5)),.append 5 56 (t 1 15) (t 2 4),none,2,[]⟩,⟨(some (2,6)),.faddr 7 (t 0 11),none,0,[]⟩,⟨(some (2,7)),.faddr 2 (t 2 6),none,0,[]⟩,⟨none,.store 1 (t 2 7) (t 2 5),none,2,[]⟩])) (.reg [⟨(some (1,11)),.mv (t 0 13),none,0,[]⟩,⟨(some (1,12)),.bin .add (t 1 11) (c 1),none,0,[]⟩,⟨(some (0,13)),.mv (t 1 12),none,0,[]⟩])))
def b_law17_fresh : ACode:=(.seq (.reg [⟨(some (0,10)),.alloc [.int .i64 0,.int .i64 0,.int .i64 0,.int .i64 0,.int .i64 0,.int .i64 0,.bool false,.int .i64 0,.str 0 0,.nsl,.nsl,.nsl,.nsl],none,3,[]⟩]) (.seq (.reg [⟨(some (0,15)),.mv (t 0 0),none,0,[]⟩,⟨(some (1,0)),.mv (t 0 1),none,0,[]⟩,⟨(some (1,1)),.call (f n_replica_New) [(t 0 15),(t 1 0)],none,1,[]⟩,⟨(some (0,14)),.mv (t 1 1),none,0,[]⟩,⟨(some (1,2)),.extr (t 0 14) 0,none,0,[]⟩,⟨(some (1,3)),.extr (t 0 14) 1,none,0,[]⟩,⟨(some (0,11)),.alloc [.int .i64 0,.int .i64 0,.int .i64 0,.int .i64 0,.int .i64 0,.int .i64 0,.bool false,.int .i64 0,.str 0 0,.nsl,.nsl,.nsl,.nsl],none,3,[]⟩,⟨none,.store 13 (t 0 11) (t 1 2),none,2,[]⟩,⟨(some (0,12)),.mv (t 1 3),none,0,[]⟩]) (.seq (.reg [⟨(some (1,4)),.mv (t 0 2),none,0,[]⟩,⟨(some (1,5)),.faddr 2 (t 0 11),none,0,[]⟩,⟨none,.store 1 (t 1 5) (t 1 4),none,2,[]⟩]) (.seq (.reg [⟨(some (1,6)),.mv (t 0 2),none,0,[]⟩,⟨(some (1,7)),.faddr 3 (t 0 11),none,0,[]⟩,⟨none,.store 1 (t 1 7) (t 1 6),none,2,[]⟩]) (.seq (.seq (.reg [⟨(some (0,13)),.mv (c 0),none,0,[]⟩]) (.blk 0 (.loop l_law17_fresh_0))) (.seq (.reg [⟨(some (2,8)),.mv (t 0 4),none,0,[]⟩,⟨(some (2,9)),.faddr 5 (t 0 11),none,0,[]⟩,⟨none,.store 1 (t 2 9) (t 2 8),none,2,[]⟩]) (.seq (.reg [⟨(some (2,10)),.load true 13 (t 0 11),none,1,[]⟩,⟨none,.store 13 (t 0 10) (t 2 10),none,2,[]⟩]) .ret)))))))
def a_law17_fresh : AFunc:=⟨43,5,[.cell 0 10 true 13],b_law17_fresh⟩
theorem i_law17_fresh {P : Program} {fz : Fz} {mu : St} {n : Nat} {k : KT Prop} (fu : Nat) (x0 x1 x2 x3 x4 : AV) : textP P fu a_law17_fresh [x0,x1,x2,x3,x4] fz mu n k = dcode pOrc False (CP P) fz fu b_law17_fresh (tmE 43 (envI [x0,x1,x2,x3,x4])) mu n (endP fz [.cell 0 10 true 13] k):=rfl
def b_replica_Receive : ACode:=(.seq (.reg [⟨(some (0,2)),.box (t 0 0),none,3,[]⟩,⟨(some (0,3)),.box (t 0 1),none,3,[]⟩,⟨(some (0,4)),.alloc [.int .i64 0,.int .i64 0,.int .i64 0,.int .i64 0,.int .i64 0,.int .i64 0,.bool false,.int .i64 0,.str 0 0,.nsl,.nsl,.nsl,.nsl],none,3,[]⟩,⟨(some (0,5)),.mv (.c (.one (.nsl))),none,0,[]⟩]) (.seq (.seq (.reg [⟨(some (0,8)),.load true 13 (t 0 2),none,1,[]⟩,⟨(some (0,9)),.call (f n_replica_May) [(t 0 8)],none,1,[]⟩,⟨(some (0,10)),.not (t 0 9),none,0,[]⟩,⟨(some (0,11)),.mv (t 0 10),none,0,[]⟩,⟨(some (0,12)),.load true 20 (t 0 3),(some (0,11,false)),1,[]⟩,⟨(some (0,13)),.call (f n_message_May) [(t 0 12)],(some (0,11,false)),1,[]⟩,⟨(some (0,14)),.not (t 0 13),(some (0,11,false)),0,[]⟩,⟨(some (0,15)),.pick (t 0 11) (.c (.one (.bool true))) (t 0 14),none,0,[]⟩,⟨(some (1,0)),.mv (t 0 15),none,0,[]⟩,⟨(some (1,1)),.faddr 1 (t 0 3),(some (1,0,false)),0,[]⟩,⟨(some (1,2)),.load false 1 (t 1 1),(some (1,0,false)),1,[]⟩,⟨(some (1,3)),.faddr 0 (t 0 2),(some (1,0,false)),0,[]⟩,⟨(some (1,4)),.load false 1 (t 1 3),(some (1,0,false)),1,[]⟩,⟨(some (1,5)),.bin .eql (t 1 2) (t 1 4),(some (1,0,false)),0,[]⟩,⟨(some (1,6)),.pick (t 1 0) (.c (.one (.bool true))) (t 1 5),none,0,[]⟩,⟨(some (1,7)),.mv (t 1 6),none,0,[]⟩,⟨(some (1,8)),.faddr 1 (t 0 3),(some (1,7,false)),0,[]⟩,⟨(some (1,9)),.load false 1 (t 1 8),(some (1,7,false)),1,[]⟩,⟨(some (1,10)),.faddr 1 (t 0 2),(some (1,7,false)),0,[]⟩,⟨(some (1,11)),.load false 1 (t 1 10),(some (1,7,false)),1,[]⟩,⟨(some (1,12)),.bin .geq (t 1 9) (t 1 11),(some (1,7,false)),0,[]⟩,⟨(some (1,13)),.pick (t 1 7) (.c (.one (.bool true))) (t 1 12),none,0,[]⟩,⟨(some (1,14)),.mv (t 1 13),none,0,[]⟩,⟨(some (1,15)),.faddr 2 (t 0 3),(some (1,14,false)),0,[]⟩,⟨(some (2,0)),.load false 1 (t 1 15),(some (1,14,false)),1,[]⟩,⟨(some (2,1)),.faddr 0 (t 0 2),(some (1,14,false)),0,[]⟩,⟨(some (2,2)),.load false 1 (t 2 1),(some (1,14,false)),1,[]⟩,⟨(some (2,3)),.bin .neq (t 2 0) (t 2 2),(some (1,14,false)),0,[]⟩,⟨(some (2,4)),.pick (t 1 14) (.c (.one (.bool true))) (t 2 3),none,0,[]⟩,⟨(some (2,5)),.mv (t 2 4),none,0,[]⟩,⟨(some (2,6)),.faddr 3 (t 0 3),(some (2,5,false)),0,[]⟩,⟨(some (2,7)),.load false 1 (t 2 6),(some (2,5,false)),1,[]⟩,⟨(some (2,8)),.faddr 2 (t 0 2),(some (2,5,false)),0,[]⟩,⟨(some (2,9)),.load false 1 (t 2 8),(some (2,5,false)),1,[]⟩,⟨(some (2,10)),.bin .lss (t 2 7) (t 2 9),(some (2,5,false)),0,[]⟩,⟨(some (2,11)),.pick (t 2 5) (.c (.one (.bool true))) (t 2 10),none,0,[]⟩]) (.cond (t 2 11) (.seq (.reg [⟨(some (2,12)),.load true 13 (t 0 2),none,1,[]⟩,⟨(some (2,13)),.call (f n_replica_Clone) [(t 2 12)],none,1,[]⟩,⟨none,.store 13 (t 0 4) (t 2 13),none,2,[]⟩,⟨(some (0,5)),.mv (.c (.one (.nsl))),none,0,[]⟩]) .ret) .skip)) (.seq (.reg [⟨(some (2,14)),.load true 13 (t 0 2),none,1,[]⟩,⟨(some (2,15)),.call (f n_replica_begin) [(t 2 14)],none,1,[]⟩,⟨(some (0,6)),.mv (t 2 15),none,0,[]⟩]) (.seq (.draw [⟨(some (3,0)),.faddr 3 (t 0 3),none,0,[]⟩,⟨(some (3,1)),.load false 1 (t 3 0),none,1,[0]⟩,⟨(some (3,2)),.mv (t 0 6),none,0,[]⟩,⟨(some (3,3)),.nilc (t 3 2),none,0,[2]⟩,⟨(some (3,4)),.faddr 0 (t 3 3),none,0,[3,2]⟩,⟨(some (3,5)),.faddr 1 (t 3 4),none,0,[4,3,2]⟩,⟨(some (3,6)),.load false 1 (t 3 5),none,1,[5,4,3,2]⟩,⟨(some (3,7)),.call (f n_replica_Primary) [(t 3 1),(t 3 6)],none,1,[1,0,6,5,4,3,2]⟩,⟨(some (0,7)),.mv (t 3 7),none,0,[7,1,0,6,5,4,3,2]⟩]) (.seq (.seq (.reg [⟨(some (3,8)),.faddr 0 (t 0 3),none,0,[]⟩,⟨(some (3,9)),.load false 1 (t 3 8),none,1,[]⟩]) (.blk 0 (.seq (.seq (.reg [⟨(some (3,11)),.bin .eql (t 3 9) (c 4),none,0,[]⟩,⟨(some (3,10)),.mv (t 3 11),none,0,[]⟩]) (.cond (t 3 10) .skip (.reg [⟨(some (3,12)),.bin .eql (t 3 9) (c 6),none,0,[]⟩,⟨(some (3,10)),.mv (t 3 12),none,0,[]⟩]))) (.cond (t 3 10) (.seq (.reg [⟨(some (3,13)),.faddr 1 (t 0 3),none,0,[]⟩,⟨(some (3,14)),.load false 1 (t 3 13),none,1,[]⟩,⟨(some (3,15)),.mv (t 0 7),none,0,[]⟩,⟨(some (4,0)),.bin .eql (t 3 14) (t 3 15),none,0,[]⟩]) (.cond (t 4 0) (.reg [⟨(some (4,1)),.mv (t 0 6),none,0,[]⟩,⟨(some (4,2)),.load true 20 (t 0 3),none,1,[]⟩,⟨(some (4,3)),.call (f n_replica_step_follow) [(t 4 1),(t 4 2)],none,2,[]⟩]) .skip)) (.seq (.reg [⟨(some (4,5)),.bin .eql (t 3 9) (c 5),none,0,[]⟩,⟨(some (4,4)),.mv (t 4 5),none,0,[]⟩]) (.cond (t 4 4) (.reg [⟨(some (4,6)),.mv (t 0 6),none,0,[]⟩,⟨(some (4,7)),.load true 20 (t 0 3),none,1,[]⟩,⟨(some (4,8)),.call (f n_replica_step_acked) [(t 4 6),(t 4 7)],none,2,[]⟩]) (.seq (.reg [⟨(some (4,10)),.bin .eql (t 3 9) (c 7),none,0,[]⟩,⟨(some (4,9)),.mv (t 4 10),none,0,[]⟩]) (.cond (t 4 9) (.reg [⟨(some (4,11)),.mv (t 0 6),none,0,[]⟩,⟨(some (4,12)),.load true 20 (t 0 3),none,1,[]⟩,⟨(some (4,13)),.call (f n_replica_step_started) [(t 4 11),(t 4 12)],none,2,[]⟩]) (.seq (.reg [⟨(some (4,15)),.bin .eql (t 3 9) (c 8),none,0,[]⟩,⟨(some (4,14)),.mv (t 4 15),none,0,[]⟩]) (.cond (t 4 14) (.seq (.reg [⟨(some (5,0)),.mv (t 0 7),none,0,[]⟩,⟨(some (5,1)),.mv (t 0 6),none,0,[]⟩,⟨(some (5,2)),.nilc (t 5 1),none,0,[]⟩,⟨(some (5,3)),.faddr 0 (t 5 2),none,0,[]⟩,⟨(some (5,4)),.faddr 0 (t 5 3),none,0,[]⟩,⟨(some (5,5)),.load false 1 (t 5 4),none,1,[]⟩,⟨(some (5,6)),.bin .eql (t 5 0) (t 5 5),none,0,[]⟩,⟨(some (5,7)),.mv (t 5 6),none,0,[]⟩,⟨(some (5,8)),.faddr 4 (t 0 3),(some (5,7,true)),0,[]⟩,⟨(some (5,9)),.load false 1 (t 5 8),(some (5,7,true)),1,[]⟩,⟨(some (5,10)),.faddr 3 (t 0 3),(some (5,7,true)),0,[]⟩,⟨(some (5,11)),.load false 1 (t 5 10),(some (5,7,true)),1,[]⟩,⟨(some (5,12)),.bin .lss (t 5 9) (t 5 11),(some (5,7,true)),0,[]⟩,⟨(some (5,13)),.pick (t 5 7) (t 5 12) (.c (.one (.bool false))),none,0,[]⟩]) (.cond (t 5 13) (.reg [⟨(some (5,14)),.mv (t 0 6),none,0,[]⟩,⟨(some (5,15)),.load true 20 (t 0 3),none,1,[]⟩,⟨(some (6,0)),.call (f n_replica_step_voted) [(t 5 14),(t 5 15)],none,2,[]⟩]) .skip)) (.seq (.seq (.reg [⟨(some (6,2)),.bin .eql (t 3 9) (c 9),none,0,[]⟩,⟨(some (6,1)),.mv (t 6 2),none,0,[]⟩]) (.cond (t 6 1) .skip (.reg [⟨(some (6,3)),.bin .eql (t 3 9) (c 11),none,0,[]⟩,⟨(some (6,1)),.mv (t 6 3),none,0,[]⟩]))) (.cond (t 6 1) (.seq (.reg [⟨(some (6,4)),.faddr 1 (t 0 3),none,0,[]⟩,⟨(some (6,5)),.load false 1 (t 6 4),none,1,[]⟩,⟨(some (6,6)),.mv (t 0 7),none,0,[]⟩,⟨(some (6,7)),.bin .eql (t 6 5) (t 6 6),none,0,[]⟩]) (.cond (t 6 7) (.reg [⟨(some (6,8)),.mv (t 0 6),none,0,[]⟩,⟨(some (6,9)),.load true 20 (t 0 3),none,1,[]⟩,⟨(some (6,10)),.call (f n_replica_step_given) [(t 6 8),(t 6 9)],none,2,[]⟩]) .skip)) (.seq (.reg [⟨(some (6,12)),.bin .eql (t 3 9) (c 10),none,0,[]⟩,⟨(some (6,11)),.mv (t 6 12),none,0,[]⟩]) (.cond (t 6 11) (.seq (.draw [⟨(some (6,13)),.mv (t 0 6),none,0,[]⟩,⟨(some (6,14)),.call (f n_replica_step_normal) [(t 6 13)],none,1,[0]⟩,⟨(some (6,15)),.mv (t 6 14),none,0,[1,0]⟩,⟨(some (7,0)),.faddr 3 (t 0 3),(some (6,15,true)),0,[2,1,0]⟩,⟨(some (7,1)),.load false 1 (t 7 0),(some (6,15,true)),1,[3,2,1,0]⟩,⟨(some (7,2)),.mv (t 0 6),(some (6,15,true)),0,[2,1,0]⟩,⟨(some (7,3)),.nilc (t 7 2),(some (6,15,true)),0,[5,2,1,0]⟩,⟨(some (7,4)),.faddr 0 (t 7 3),(some (6,15,true)),0,[6,5,2,1,0]⟩,⟨(some (7,5)),.faddr 2 (t 7 4),(some (6,15,true)),0,[7,6,5,2,1,0]⟩,⟨(some (7,6)),.load false 1 (t 7 5),(some (6,15,true)),1,[8,7,6,5,2,1,0]⟩,⟨(some (7,7)),.bin .eql (t 7 1) (t 7 6),(some (6,15,true)),0,[4,3,2,1,0,9,8,7,6,5]⟩,⟨(some (7,8)),.pick (t 6 15) (t 7 7) (.c (.one (.bool false))),none,0,[2,1,0,10,4,3,9,8,7,6,5]⟩]) (.cond (t 7 8) (.draw [⟨(some (7,9)),.mv (t 0 6),none,0,[]⟩,⟨(some (7,10)),.faddr 1 (t 0 3),none,0,[]⟩,⟨(some (7,11)),.load false 1 (t 7 10),none,1,[1]⟩,⟨(some (7,12)),.mv (t 0 6),none,0,[]⟩,⟨(some (7,13)),.nilc (t 7 12),none,0,[3]⟩,⟨(some (7,14)),.faddr 0 (t 7 13),none,0,[4,3]⟩,⟨(some (7,15)),.faddr 2 (t 7 14),none,0,[5,4,3]⟩,⟨(some (8,0)),.load false 1 (t 7 15),none,1,[6,5,4,3]⟩,⟨(some (8,1)),.mv (t 0 6),none,0,[]⟩,⟨(some (8,2)),.nilc (t 8 1),none,0,[8]⟩,⟨(some (8,3)),.faddr 0 (t 8 2),none,0,[9,8]⟩,⟨(some (8,4)),.faddr 5 (t 8 3),none,0,[10,9,8]⟩,⟨(some (8,5)),.load false 1 (t 8 4),none,1,[11,10,9,8]⟩,⟨(some (8,6)),.mv (t 0 6),none,0,[]⟩,⟨(some (8,7)),.nilc (t 8 6),none,0,[13]⟩,⟨(some (8,8)),.faddr 0 (t 8 7),none,0,[14,13]⟩,⟨(some (8,9)),.faddr 7 (t 8 8),none,0,[15,14,13]⟩,⟨(some (8,10)),.load true 3 (t 8 9),none,1,[16,15,14,13]⟩,⟨(some (8,11)),.build [.int .i64 0,.int .i64 0,.int .i64 0,.int .i64 0,.int .i64 0,.int .i64 0,.int .i64 0,.int .i64 0,.int .i64 0,.int .i64 0,.int .i64 0,.int .i64 0,.int .i64 0,.int .i64 0,.str 0 0,.nsl,.int .i64 0,.str 0 0,.nsl,.str 0 0] [(0,1,(c 11)),(3,1,(t 8 0)),(6,1,(t 8 5)),(16,3,(t 8 10))],none,0,[7,6,5,4,3,12,11,10,9,8,17,16,15,14,13]⟩,⟨(some (8,12)),.call (f n_replica_step_send) [(t 7 9),(t 7 11),(t 8 11)],none,2,[0,2,1,18,7,6,5,4,3,12,11,10,9,8,17,16,15,14,13]⟩]) .skip)) .skip)))))))))))))) (.seq (.reg [⟨(some (8,13)),.mv (t 0 6),none,0,[]⟩,⟨(some (8,14)),.load true 13 (t 0 2),none,1,[]⟩,⟨(some (8,15)),.call (f n_replica_step_end) [(t 8 13),(t 8 14)],none,1,[]⟩,⟨(some (9,0)),.extr (t 8 15) 0,none,0,[]⟩,⟨(some (9,1)),.extr (t 8 15) 1,none,0,[]⟩,⟨none,.store 13 (t 0 4) (t 9 0),none,2,[]⟩,⟨(some (0,5)),.mv (t 9 1),none,0,[]⟩]) .ret))))))
def a_replica_Receive : AFunc:=⟨146,2,[.cell 0 4 true 13,.tmp 0 5],b_replica_Receive⟩
theorem i_replica_Receive {P : Program} {fz : Fz} {mu : St} {n : Nat} {k : KT Prop} (fu : Nat) (x0 x1 : AV) : textP P fu a_replica_Receive [x0,x1] fz mu n k = dcode pOrc False (CP P) fz fu b_replica_Receive (tmE 146 (envI [x0,x1])) mu n (endP fz [.cell 0 4 true 13,.tmp 0 5] k):=rfl
def l_message_May_0 : ACode:=(.seq (.reg [⟨(some (1,11)),.bin .lss (t 1 10) (t 1 9),none,0,[]⟩]) (.seq (.cond (t 1 11) .skip (.exit 0)) (.seq (.blk 1 (.seq (.reg [⟨(some (1,12)),.iaddr 1 (t 1 8) (t 1 10),none,0,[]⟩,⟨(some (1,13)),.load false 1 (t 1 12),none,1,[]⟩,⟨(some (0,7)),.mv (t 1 13),none,0,[]⟩]) (.reg [⟨(some (1,14)),.mv (t 0 7),none,0,[]⟩,⟨(some (1,15)),.iaddrA 1 15 (t 0 5) (t 1 14),none,0,[]⟩,⟨none,.store 1 (t 1 15) (.c (.one (.bool true))),none,2,[]⟩]))) (.reg [⟨(some (2,0)),.bin .add (t 1 10) (c 1),none,0,[]⟩,⟨(some (1,10)),.mv (t 2 0),none,0,[]⟩]))))
def l_message_May_1 : ACode:=(.seq (.reg [⟨(some (2,2)),.bin .lss (t 2 1) (c 15),none,0,[]⟩]) (.seq (.cond (t 2 2) .skip (.exit 2)) (.seq (.blk 3 (.seq (.reg [⟨(some (2,3)),.mv (t 2 1),none,0,[]⟩,⟨(some (0,8)),.mv (t 2 3),none,0,[]⟩]) (.seq (.reg [⟨(some (2,4)),.mv (t 0 8),none,0,[]⟩,⟨(some (2,5)),.call (f n_message_number) [(t 0 1),(t 2 4)],none,1,[]⟩,⟨(some (0,9)),.mv (t 2 5),none,0,[]⟩]) (.seq (.seq (.reg [⟨(some (2,6)),.mv (t 0 9),none,0,[]⟩,⟨(some (2,7)),.eqn false false (t 2 6) (.c (.one (.npt))),none,0,[]⟩]) (.cond (t 2 7) (.exit 3) .skip)) (.seq (.reg [⟨(some (2,9)),.faddr 0 (t 0 1),none,0,[]⟩,⟨(some (2,10)),.load false 1 (t 2 9),none,1,[]⟩,⟨(some (2,11)),.mv (t 0 8),none,0,[]⟩,⟨(some (2,12)),.call (f n_message_limits) [(t 2 10),(t 2 11)],none,1,[]⟩,⟨(some (2,8)),.mv (t 2 12),none,0,[]⟩,⟨(some (2,13)),.extr (t 2 8) 0,none,0,[]⟩,⟨(some (2,14)),.extr (t 2 8) 1,none,0,[]⟩,⟨(some (0,10)),.mv (t 2 13),none,0,[]⟩,⟨(some (0,11)),.mv (t 2 14),none,0,[]⟩]) (.seq (.reg [⟨(some (2,15)),.mv (t 0 8),none,0,[]⟩,⟨(some (3,0)),.iaddrA 1 15 (t 0 5) (t 2 15),none,0,[]⟩,⟨(some (3,1)),.load false 1 (t 3 0),none,1,[]⟩,⟨(some (3,2)),.not (t 3 1),none,0,[]⟩,⟨(some (3,3)),.mv (t 3 2),none,0,[]⟩,⟨(some (3,4)),.mv (t 0 9),(some (3,3,true)),0,[]⟩,⟨(some (3,5)),.nilc (t 3 4),(some (3,3,true)),0,[]⟩,⟨(some (3,6)),.load false 1 (t 3 5),(some (3,3,true)),1,[]⟩,⟨(some (3,7)),.bin .neq (t 3 6) (c 0),(some (3,3,true)),0,[]⟩,⟨(some (3,8)),.pick (t 3 3) (t 3 7) (.c (.one (.bool false))),none,0,[]⟩,⟨(some (3,9)),.mv (t 3 8),none,0,[]⟩,⟨(some (3,10)),.mv (t 0 9),(some (3,9,false)),0,[]⟩,⟨(some (3,11)),.nilc (t 3 10),(some (3,9,false)),0,[]⟩,⟨(some (3,12)),.load false 1 (t 3 11),(some (3,9,false)),1,[]⟩,⟨(some (3,13)),.mv (t 0 10),(some (3,9,false)),0,[]⟩,⟨(some (3,14)),.bin .lss (t 3 12) (t 3 13),(some (3,9,false)),0,[]⟩,⟨(some (3,15)),.pick (t 3 9) (.c (.one (.bool true))) (t 3 14),none,0,[]⟩,⟨(some (4,0)),.mv (t 3 15),none,0,[]⟩,⟨(some (4,1)),.mv (t 0 9),(some (4,0,false)),0,[]⟩,⟨(some (4,2)),.nilc (t 4 1),(some (4,0,false)),0,[]⟩,⟨(some (4,3)),.load false 1 (t 4 2),(some (4,0,false)),1,[]⟩,⟨(some (4,4)),.mv (t 0 11),(some (4,0,false)),0,[]⟩,⟨(some (4,5)),.bin .gtr (t 4 3) (t 4 4),(some (4,0,false)),0,[]⟩,⟨(some (4,6)),.pick (t 4 0) (.c (.one (.bool true))) (t 4 5),none,0,[]⟩]) (.cond (t 4 6) (.seq (.reg [⟨(some (0,2)),.mv (.c (.one (.bool false))),none,0,[]⟩]) .ret) .skip))))))) (.reg [⟨(some (4,7)),.bin .add (t 2 1) (c 1),none,0,[]⟩,⟨(some (2,1)),.mv (t 4 7),none,0,[]⟩]))))
def b_message_May : ACode:=(.seq (.reg [⟨(some (0,1)),.box (t 0 0),none,3,[]⟩,⟨(some (0,2)),.mv (.c (.one (.bool false))),none,0,[]⟩]) (.seq (.reg [⟨(some (0,13)),.faddr 0 (t 0 1),none,0,[]⟩,⟨(some (0,14)),.load false 1 (t 0 13),none,1,[]⟩,⟨(some (0,15)),.call (f n_message_fields) [(t 0 14)],none,1,[]⟩,⟨(some (0,12)),.mv (t 0 15),none,0,[]⟩,⟨(some (1,0)),.extr (t 0 12) 0,none,0,[]⟩,⟨(some (1,1)),.extr (t 0 12) 1,none,0,[]⟩,⟨(some (0,3)),.mv (t 1 0),none,0,[]⟩,⟨(some (0,4)),.mv (t 1 1),none,0,[]⟩]) (.seq (.seq (.reg [⟨(some (1,2)),.mv (t 0 4),none,0,[]⟩,⟨(some (1,3)),.not (t 1 2),none,0,[]⟩,⟨(some (1,4)),.mv (t 1 3),none,0,[]⟩,⟨(some (1,5)),.call (f n_message_who) [(t 0 1)],(some (1,4,false)),1,[]⟩,⟨(some (1,6)),.not (t 1 5),(some (1,4,false)),0,[]⟩,⟨(some (1,7)),.pick (t 1 4) (.c (.one (.bool true))) (t 1 6),none,0,[]⟩]) (.cond (t 1 7) (.seq (.reg [⟨(some (0,2)),.mv (.c (.one (.bool false))),none,0,[]⟩]) .ret) .skip)) (.seq (.reg [⟨(some (0,5)),.alloc [.bool false,.bool false,.bool false,.bool false,.bool false,.bool false,.bool false,.bool false,.bool false,.bool false,.bool false,.bool false,.bool false,.bool false,.bool false],none,3,[]⟩]) (.seq (.seq (.reg [⟨(some (1,8)),.mv (t 0 3),none,0,[]⟩,⟨(some (1,9)),.len false (t 1 8),none,0,[]⟩,⟨(some (1,10)),.mv (c 0),none,0,[]⟩]) (.blk 0 (.loop l_message_May_0))) (.seq (.seq (.reg [⟨(some (2,1)),.mv (c 0),none,0,[]⟩]) (.blk 2 (.loop l_message_May_1))) (.seq (.seq (.reg [⟨(some (4,8)),.iaddrA 1 15 (t 0 5) (c 11),none,0,[]⟩,⟨(some (4,9)),.load false 1 (t 4 8),none,1,[]⟩,⟨(some (4,10)),.mv (t 4 9),none,0,[]⟩,⟨(some (4,11)),.faddr 14 (t 0 1),(some (4,10,true)),0,[]⟩,⟨(some (4,12)),.load false 1 (t 4 11),(some (4,10,true)),1,[]⟩,⟨(some (4,13)),.call (f n_point_Name) [(t 4 12)],(some (4,10,true)),1,[]⟩,⟨(some (4,14)),.not (t 4 13),(some (4,10,true)),0,[]⟩,⟨(some (4,15)),.pick (t 4 10) (t 4 14) (.c (.one (.bool false))),none,0,[]⟩,⟨(some (5,0)),.mv (t 4 15),none,0,[]⟩,⟨(some (5,1)),.iaddrA 1 15 (t 0 5) (c 11),(some (5,0,false)),0,[]⟩,⟨(some (5,2)),.load false 1 (t 5 1),(some (5,0,false)),1,[]⟩,⟨(some (5,3)),.not (t 5 2),(some (5,0,false)),0,[]⟩,⟨(some (5,4)),.mv (t 5 3),(some (5,0,false)),0,[]⟩,⟨(some (5,5)),.faddr 14 (t 0 1),(some (5,4,true)),0,[]⟩,⟨(some (5,6)),.load false 1 (t 5 5),(some (5,4,true)),1,[]⟩,⟨(some (5,7)),.sbin .neq (t 5 6) (.c (.one (.str 0 0))),(some (5,4,true)),0,[]⟩,⟨(some (5,8)),.pick (t 5 4) (t 5 7) (.c (.one (.bool false))),(some (5,0,false)),0,[]⟩,⟨(some (5,9)),.pick (t 5 0) (.c (.one (.bool true))) (t 5 8),none,0,[]⟩,⟨(some (5,10)),.mv (t 5 9),none,0,[]⟩,⟨(some (5,11)),.faddr 19 (t 0 1),(some (5,10,false)),0,[]⟩,⟨(some (5,12)),.load false 1 (t 5 11),(some (5,10,false)),1,[]⟩,⟨(some (5,13)),.len true (t 5 12),(some (5,10,false)),0,[]⟩,⟨(some (5,14)),.bin .gtr (t 5 13) (c 65536),(some (5,10,false)),0,[]⟩,⟨(some (5,15)),.pick (t 5 10) (.c (.one (.bool true))) (t 5 14),none,0,[]⟩,⟨(some (6,0)),.mv (t 5 15),none,0,[]⟩,⟨(some (6,1)),.iaddrA 1 15 (t 0 5) (c 14),(some (6,0,false)),0,[]⟩,⟨(some (6,2)),.load false 1 (t 6 1),(some (6,0,false)),1,[]⟩,⟨(some (6,3)),.not (t 6 2),(some (6,0,false)),0,[]⟩,⟨(some (6,4)),.mv (t 6 3),(some (6,0,false)),0,[]⟩,⟨(some (6,5)),.faddr 19 (t 0 1),(some (6,4,true)),0,[]⟩,⟨(some (6,6)),.load false 1 (t 6 5),(some (6,4,true)),1,[]⟩,⟨(some (6,7)),.sbin .neq (t 6 6) (.c (.one (.str 0 0))),(some (6,4,true)),0,[]⟩,⟨(some (6,8)),.pick (t 6 4) (t 6 7) (.c (.one (.bool false))),(some (6,0,false)),0,[]⟩,⟨(some (6,9)),.pick (t 6 0) (.c (.one (.bool true))) (t 6 8),none,0,[]⟩]) (.cond (t 6 9) (.seq (.reg [⟨(some (0,2)),.mv (.c (.one (.bool false))),none,0,[]⟩]) .ret) .skip)) (.seq (.seq (.reg [⟨(some (6,10)),.faddr 15 (t 0 1),none,0,[]⟩,⟨(some (6,11)),.load false 1 (t 6 10),none,1,[]⟩,⟨(some (6,12)),.call (f n_point_Batch) [(t 6 11)],none,1,[]⟩,⟨(some (6,13)),.not (t 6 12),none,0,[]⟩,⟨(some (6,14)),.mv (t 6 13),none,0,[]⟩,⟨(some (6,15)),.iaddrA 1 15 (t 0 5) (c 12),(some (6,14,false)),0,[]⟩,⟨(some (7,0)),.load false 1 (t 6 15),(some (6,14,false)),1,[]⟩,⟨(some (7,1)),.not (t 7 0),(some (6,14,false)),0,[]⟩,⟨(some (7,2)),.mv (t 7 1),(some (6,14,false)),0,[]⟩,⟨(some (7,3)),.faddr 15 (t 0 1),(some (7,2,true)),0,[]⟩,⟨(some (7,4)),.load false 1 (t 7 3),(some (7,2,true)),1,[]⟩,⟨(some (7,5)),.len false (t 7 4),(some (7,2,true)),0,[]⟩,⟨(some (7,6)),.bin .gtr (t 7 5) (c 0),(some (7,2,true)),0,[]⟩,⟨(some (7,7)),.pick (t 7 2) (t 7 6) (.c (.one (.bool false))),(some (6,14,false)),0,[]⟩,⟨(some (7,8)),.pick (t 6 14) (.c (.one (.bool true))) (t 7 7),none,0,[]⟩]) (.cond (t 7 8) (.seq (.reg [⟨(some (0,2)),.mv (.c (.one (.bool false))),none,0,[]⟩]) .ret) .skip)) (.seq (.reg [⟨(some (7,9)),.faddr 16 (t 0 1),none,0,[]⟩,⟨(some (7,10)),.load true 3 (t 7 9),none,1,[]⟩,⟨(some (7,11)),.call (f n_message_MayLog) [(t 7 10)],none,1,[]⟩,⟨(some (7,12)),.mv (t 7 11),none,0,[]⟩,⟨(some (7,13)),.iaddrA 1 15 (t 0 5) (c 13),(some (7,12,true)),0,[]⟩,⟨(some (7,14)),.load false 1 (t 7 13),(some (7,12,true)),1,[]⟩,⟨(some (7,15)),.mv (t 7 14),(some (7,12,true)),0,[]⟩,⟨(some (8,0)),.faddr 16 (t 0 1),(some (7,15,false)),0,[]⟩,⟨(some (8,1)),.faddr 0 (t 8 0),(some (7,15,false)),0,[]⟩,⟨(some (8,2)),.load false 1 (t 8 1),(some (7,15,false)),1,[]⟩,⟨(some (8,3)),.bin .eql (t 8 2) (c 0),(some (7,15,false)),0,[]⟩,⟨(some (8,4)),.mv (t 8 3),(some (7,15,false)),0,[]⟩,⟨(some (8,5)),.faddr 16 (t 0 1),(some (8,4,true)),0,[]⟩,⟨(some (8,6)),.faddr 2 (t 8 5),(some (8,4,true)),0,[]⟩,⟨(some (8,7)),.load false 1 (t 8 6),(some (8,4,true)),1,[]⟩,⟨(some (8,8)),.len false (t 8 7),(some (8,4,true)),0,[]⟩,⟨(some (8,9)),.bin .eql (t 8 8) (c 0),(some (8,4,true)),0,[]⟩,⟨(some (8,10)),.pick (t 8 4) (t 8 9) (.c (.one (.bool false))),(some (7,15,false)),0,[]⟩,⟨(some (8,11)),.pick (t 7 15) (.c (.one (.bool true))) (t 8 10),(some (7,12,true)),0,[]⟩,⟨(some (8,12)),.pick (t 7 12) (t 8 11) (.c (.one (.bool false))),none,0,[]⟩,⟨(some (0,2)),.mv (t 8 12),none,0,[]⟩]) .ret)))))))))
def a_message_May : AFunc:=⟨141,1,[.tmp 0 2],b_message_May⟩
theorem i_message_May {P : Program} {fz : Fz} {mu : St} {n : Nat} {k : KT Prop} (fu : Nat) (x0 : AV) : textP P fu a_message_May [x0] fz mu n k = dcode pOrc False (CP P) fz fu b_message_May (tmE 141 (envI [x0])) mu n (endP fz [.tmp 0 2] k):=rfl
def b_choose_Last : ACode:=(.seq (.reg [⟨(some (0,1)),.box (t 0 0),none,3,[]⟩,⟨(some (0,2)),.mv (c 0),none,0,[]⟩]) (.seq (.reg [⟨(some (0,3)),.faddr 0 (t 0 1),none,0,[]⟩,⟨(some (0,4)),.load false 1 (t 0 3),none,1,[]⟩,⟨(some (0,5)),.faddr 2 (t 0 1),none,0,[]⟩,⟨(some (0,6)),.load false 1 (t 0 5),none,1,[]⟩,⟨(some (0,7)),.len false (t 0 6),none,0,[]⟩,⟨(some (0,8)),.bin .add (t 0 4) (t 0 7),none,0,[]⟩,⟨(some (0,2)),.mv (t 0 8),none,0,[]⟩]) .ret))
def a_choose_Last : AFunc:=⟨9,1,[.tmp 0 2],b_choose_Last⟩
theorem i_choose_Last {P : Program} {fz : Fz} {mu : St} {n : Nat} {k : KT Prop} (fu : Nat) (x0 : AV) : textP P fu a_choose_Last [x0] fz mu n k = dcode pOrc False (CP P) fz fu b_choose_Last (tmE 9 (envI [x0])) mu n (endP fz [.tmp 0 2] k):=rfl
def b_repair_Nodes : ACode:=(.seq (.reg [⟨(some (0,4)),.mv (.c (.one (.bool false))),none,0,[]⟩]) (.seq (.reg [⟨(some (0,5)),.mv (t 0 1),none,0,[]⟩,⟨(some (0,6)),.bin .geq (t 0 5) (c 1),none,0,[]⟩,⟨(some (0,7)),.mv (t 0 6),none,0,[]⟩,⟨(some (0,8)),.mv (t 0 1),(some (0,7,true)),0,[]⟩,⟨(some (0,9)),.bin .leq (t 0 8) (c 7),(some (0,7,true)),0,[]⟩,⟨(some (0,10)),.pick (t 0 7) (t 0 9) (.c (.one (.bool false))),none,0,[]⟩,⟨(some (0,11)),.mv (t 0 10),none,0,[]⟩,⟨(some (0,12)),.mv (t 0 1),(some (0,11,true)),0,[]⟩,⟨(some (0,13)),.bin .rem (t 0 12) (c 2),(some (0,11,true)),0,[]⟩,⟨(some (0,14)),.bin .eql (t 0 13) (c 1),(some (0,11,true)),0,[]⟩,⟨(some (0,15)),.pick (t 0 11) (t 0 14) (.c (.one (.bool false))),none,0,[]⟩,⟨(some (1,0)),.mv (t 0 15),none,0,[]⟩,⟨(some (1,1)),.mv (t 0 0),(some (1,0,true)),0,[]⟩,⟨(some (1,2)),.bin .geq (t 1 1) (c 0),(some (1,0,true)),0,[]⟩,⟨(some (1,3)),.pick (t 1 0) (t 1 2) (.c (.one (.bool false))),none,0,[]⟩,⟨(some (1,4)),.mv (t 1 3),none,0,[]⟩,⟨(some (1,5)),.mv (t 0 0),(some (1,4,true)),0,[]⟩,⟨(some (1,6)),.mv (t 0 1),(some (1,4,true)),0,[]⟩,⟨(some (1,7)),.bin .lss (t 1 5) (t 1 6),(some (1,4,true)),0,[]⟩,⟨(some (1,8)),.pick (t 1 4) (t 1 7) (.c (.one (.bool false))),none,0,[]⟩,⟨(some (0,4)),.mv (t 1 8),none,0,[]⟩]) .ret))
def a_repair_Nodes : AFunc:=⟨25,2,[.tmp 0 4],b_repair_Nodes⟩
theorem i_repair_Nodes {P : Program} {fz : Fz} {mu : St} {n : Nat} {k : KT Prop} (fu : Nat) (x0 x1 : AV) : textP P fu a_repair_Nodes [x0,x1] fz mu n k = dcode pOrc False (CP P) fz fu b_repair_Nodes (tmE 25 (envI [x0,x1])) mu n (endP fz [.tmp 0 4] k):=rfl
def b_replica_within : ACode:=(.seq (.reg [⟨(some (0,2)),.mv (.c (.one (.bool false))),none,0,[]⟩]) (.seq (.reg [⟨(some (0,3)),.mv (t 0 0),none,0,[]⟩,⟨(some (0,4)),.bin .geq (t 0 3) (c 0),none,0,[]⟩,⟨(some (0,5)),.mv (t 0 4),none,0,[]⟩,⟨(some (0,6)),.mv (t 0 0),(some (0,5,true)),0,[]⟩,⟨(some (0,7)),.bin .leq (t 0 6) (c 2147483647),(some (0,5,true)),0,[]⟩,⟨(some (0,8)),.pick (t 0 5) (t 0 7) (.c (.one (.bool false))),none,0,[]⟩,⟨(some (0,2)),.mv (t 0 8),none,0,[]⟩]) .ret))
def a_replica_within : AFunc:=⟨9,1,[.tmp 0 2],b_replica_within⟩
theorem i_replica_within {P : Program} {fz : Fz} {mu : St} {n : Nat} {k : KT Prop} (fu : Nat) (x0 : AV) : textP P fu a_replica_within [x0] fz mu n k = dcode pOrc False (CP P) fz fu b_replica_within (tmE 9 (envI [x0])) mu n (endP fz [.tmp 0 2] k):=rfl
def l_message_MayLog_0 : ACode:=(.seq (.reg [⟨(some (2,7)),.bin .lss (t 2 6) (t 2 5),none,0,[]⟩]) (.seq (.cond (t 2 7) .skip (.exit 0)) (.seq (.blk 1 (.seq (.reg [⟨(some (2,8)),.iaddr 5 (t 2 4) (t 2 6),none,0,[]⟩,⟨(some (2,9)),.load true 5 (t 2 8),none,1,[]⟩,⟨(some (0,4)),.alloc [.int .i64 0,.int .i64 0,.int .i64 0,.int .i64 0,.nsl],none,3,[]⟩,⟨none,.store 5 (t 0 4) (t 2 9),none,2,[]⟩]) (.seq (.reg [⟨(some (2,10)),.load true 5 (t 0 4),none,1,[]⟩,⟨(some (2,11)),.call (f n_message_MayEntry) [(t 2 10)],none,1,[]⟩,⟨(some (2,12)),.not (t 2 11),none,0,[]⟩]) (.cond (t 2 12) (.seq (.reg [⟨(some (0,2)),.mv (.c (.one (.bool false))),none,0,[]⟩]) .ret) .skip)))) (.reg [⟨(some (2,13)),.bin .add (t 2 6) (c 1),none,0,[]⟩,⟨(some (2,6)),.mv (t 2 13),none,0,[]⟩]))))
def b_message_MayLog : ACode:=(.seq (.reg [⟨(some (0,1)),.box (t 0 0),none,3,[]⟩,⟨(some (0,2)),.mv (.c (.one (.bool false))),none,0,[]⟩]) (.seq (.seq (.reg [⟨(some (0,5)),.faddr 0 (t 0 1),none,0,[]⟩,⟨(some (0,6)),.load false 1 (t 0 5),none,1,[]⟩,⟨(some (0,7)),.bin .lss (t 0 6) (c 0),none,0,[]⟩,⟨(some (0,8)),.mv (t 0 7),none,0,[]⟩,⟨(some (0,9)),.faddr 0 (t 0 1),(some (0,8,false)),0,[]⟩,⟨(some (0,10)),.load false 1 (t 0 9),(some (0,8,false)),1,[]⟩,⟨(some (0,11)),.bin .gtr (t 0 10) (c 2147483647),(some (0,8,false)),0,[]⟩,⟨(some (0,12)),.pick (t 0 8) (.c (.one (.bool true))) (t 0 11),none,0,[]⟩,⟨(some (0,13)),.mv (t 0 12),none,0,[]⟩,⟨(some (0,14)),.faddr 1 (t 0 1),(some (0,13,false)),0,[]⟩,⟨(some (0,15)),.load false 1 (t 0 14),(some (0,13,false)),1,[]⟩,⟨(some (1,0)),.len true (t 0 15),(some (0,13,false)),0,[]⟩,⟨(some (1,1)),.bin .gtr (t 1 0) (c 65536),(some (0,13,false)),0,[]⟩,⟨(some (1,2)),.pick (t 0 13) (.c (.one (.bool true))) (t 1 1),none,0,[]⟩,⟨(some (1,3)),.mv (t 1 2),none,0,[]⟩,⟨(some (1,4)),.faddr 0 (t 0 1),(some (1,3,false)),0,[]⟩,⟨(some (1,5)),.load false 1 (t 1 4),(some (1,3,false)),1,[]⟩,⟨(some (1,6)),.bin .eql (t 1 5) (c 0),(some (1,3,false)),0,[]⟩,⟨(some (1,7)),.mv (t 1 6),(some (1,3,false)),0,[]⟩,⟨(some (1,8)),.faddr 1 (t 0 1),(some (1,7,true)),0,[]⟩,⟨(some (1,9)),.load false 1 (t 1 8),(some (1,7,true)),1,[]⟩,⟨(some (1,10)),.sbin .neq (t 1 9) (.c (.one (.str 0 0))),(some (1,7,true)),0,[]⟩,⟨(some (1,11)),.pick (t 1 7) (t 1 10) (.c (.one (.bool false))),(some (1,3,false)),0,[]⟩,⟨(some (1,12)),.pick (t 1 3) (.c (.one (.bool true))) (t 1 11),none,0,[]⟩,⟨(some (1,13)),.mv (t 1 12),none,0,[]⟩,⟨(some (1,14)),.faddr 2 (t 0 1),(some (1,13,false)),0,[]⟩,⟨(some (1,15)),.load false 1 (t 1 14),(some (1,13,false)),1,[]⟩,⟨(some (2,0)),.len false (t 1 15),(some (1,13,false)),0,[]⟩,⟨(some (2,1)),.bin .gtr (t 2 0) (c 4096),(some (1,13,false)),0,[]⟩,⟨(some (2,2)),.pick (t 1 13) (.c (.one (.bool true))) (t 2 1),none,0,[]⟩]) (.cond (t 2 2) (.seq (.reg [⟨(some (0,2)),.mv (.c (.one (.bool false))),none,0,[]⟩]) .ret) .skip)) (.seq (.seq (.reg [⟨(some (2,3)),.faddr 2 (t 0 1),none,0,[]⟩,⟨(some (2,4)),.load false 1 (t 2 3),none,1,[]⟩,⟨(some (2,5)),.len false (t 2 4),none,0,[]⟩,⟨(some (2,6)),.mv (c 0),none,0,[]⟩]) (.blk 0 (.loop l_message_MayLog_0))) (.seq (.reg [⟨(some (0,2)),.mv (.c (.one (.bool true))),none,0,[]⟩]) .ret))))
def a_message_MayLog : AFunc:=⟨46,1,[.tmp 0 2],b_message_MayLog⟩
theorem i_message_MayLog {P : Program} {fz : Fz} {mu : St} {n : Nat} {k : KT Prop} (fu : Nat) (x0 : AV) : textP P fu a_message_MayLog [x0] fz mu n k = dcode pOrc False (CP P) fz fu b_message_MayLog (tmE 46 (envI [x0])) mu n (endP fz [.tmp 0 2] k):=rfl
def b_slices_ContainsFunc_int_int : ACode:=(.seq (.reg [⟨(some (0,4)),.mv (.c (.one (.bool false))),none,0,[]⟩]) (.seq (.reg [⟨(some (0,5)),.mv (t 0 0),none,0,[]⟩,⟨(some (0,6)),.mv (t 0 1),none,0,[]⟩,⟨(some (0,7)),.call (f n_slices_IndexFunc_int_int) [(t 0 5),(t 0 6)],none,1,[]⟩,⟨(some (0,8)),.bin .geq (t 0 7) (c 0),none,0,[]⟩,⟨(some (0,4)),.mv (t 0 8),none,0,[]⟩]) .ret))
def a_slices_ContainsFunc_int_int : AFunc:=⟨9,2,[.tmp 0 4],b_slices_ContainsFunc_int_int⟩
theorem i_slices_ContainsFunc_int_int {P : Program} {fz : Fz} {mu : St} {n : Nat} {k : KT Prop} (fu : Nat) (x0 x1 : AV) : textP P fu a_slices_ContainsFunc_int_int [x0,x1] fz mu n k = dcode pOrc False (CP P) fz fu b_slices_ContainsFunc_int_int (tmE 9 (envI [x0,x1])) mu n (endP fz [.tmp 0 4] k):=rfl
def b_replica_May_1 : ACode:=(.seq (.reg [⟨(some (0,2)),.mv (.c (.one (.bool false))),none,0,[]⟩]) (.seq (.reg [⟨(some (0,3)),.mv (t 0 0),none,0,[]⟩,⟨(some (0,4)),.call (f n_replica_within) [(t 0 3)],none,1,[]⟩,⟨(some (0,5)),.not (t 0 4),none,0,[]⟩,⟨(some (0,2)),.mv (t 0 5),none,0,[]⟩]) .ret))
def a_replica_May_1 : AFunc:=⟨6,1,[.tmp 0 2],b_replica_May_1⟩
theorem i_replica_May_1 {P : Program} {fz : Fz} {mu : St} {n : Nat} {k : KT Prop} (fu : Nat) (x0 : AV) : textP P fu a_replica_May_1 [x0] fz mu n k = dcode pOrc False (CP P) fz fu b_replica_May_1 (tmE 6 (envI [x0])) mu n (endP fz [.tmp 0 2] k):=rfl
def l_replica_Clone_0 : ACode:=(.seq (.reg [⟨(some (1,8)),.bin .lss (t 1 7) (t 1 6),none,0,[]⟩]) (.seq (.cond (t 1 8) .skip (.exit 0)) (.seq (.blk 1 (.seq (.reg [⟨(some (1,9)),.mv (t 1 7),none,0,[]⟩,⟨(some (0,3)),.mv (t 1 9),none,0,[]⟩]) (.draw [⟨(some (1,10)),.faddr 12 (t 0 1),none,0,[]⟩,⟨(some (1,11)),.load false 1 (t 1 10),none,1,[0]⟩,⟨(some (1,12)),.mv (t 0 3),none,0,[]⟩,⟨(some (1,13)),.faddr 12 (t 0 1),none,0,[]⟩,⟨(some (1,14)),.load false 1 (t 1 13),none,1,[3]⟩,⟨(some (1,15)),.mv (t 0 3),none,0,[]⟩,⟨(some (2,0)),.iaddr 6 (t 1 14) (t 1 15),none,0,[4,3,5]⟩,⟨(some (2,1)),.faddr 3 (t 2 0),none,0,[6,4,3,5]⟩,⟨(some (2,2)),.load true 3 (t 2 1),none,1,[7,6,4,3,5]⟩,⟨(some (2,3)),.call (f n_message_CloneLog) [(t 2 2)],none,1,[8,7,6,4,3,5]⟩,⟨(some (2,4)),.iaddr 6 (t 1 11) (t 1 12),none,0,[1,0,2,3,4,5,6,7,8,9]⟩,⟨(some (2,5)),.faddr 3 (t 2 4),none,0,[10,1,0,2,3,4,5,6,7,8,9]⟩,⟨none,.store 3 (t 2 5) (t 2 3),none,2,[11,10,1,0,2,3,4,5,6,7,8,9]⟩]))) (.reg [⟨(some (2,6)),.bin .add (t 1 7) (c 1),none,0,[]⟩,⟨(some (1,7)),.mv (t 2 6),none,0,[]⟩]))))
def b_replica_Clone : ACode:=(.seq (.reg [⟨(some (0,1)),.box (t 0 0),none,3,[]⟩,⟨(some (0,2)),.alloc [.int .i64 0,.int .i64 0,.int .i64 0,.int .i64 0,.int .i64 0,.int .i64 0,.bool false,.int .i64 0,.str 0 0,.nsl,.nsl,.nsl,.nsl],none,3,[]⟩]) (.seq (.reg [⟨(some (0,4)),.faddr 7 (t 0 1),none,0,[]⟩,⟨(some (0,5)),.load true 3 (t 0 4),none,1,[]⟩,⟨(some (0,6)),.call (f n_message_CloneLog) [(t 0 5)],none,1,[]⟩,⟨(some (0,7)),.faddr 7 (t 0 1),none,0,[]⟩,⟨none,.store 3 (t 0 7) (t 0 6),none,2,[]⟩]) (.seq (.draw [⟨(some (0,8)),.faddr 10 (t 0 1),none,0,[]⟩,⟨(some (0,9)),.load false 1 (t 0 8),none,1,[0]⟩,⟨(some (0,10)),.call (f n_slices_Clone_int_int) [(t 0 9)],none,1,[1,0]⟩,⟨(some (0,11)),.faddr 11 (t 0 1),none,0,[]⟩,⟨(some (0,12)),.load false 1 (t 0 11),none,1,[3]⟩,⟨(some (0,13)),.call (f n_slices_Clone_int_int) [(t 0 12)],none,1,[4,3,2,1,0]⟩,⟨(some (0,14)),.faddr 12 (t 0 1),none,0,[]⟩,⟨(some (0,15)),.load false 1 (t 0 14),none,1,[6]⟩,⟨(some (1,0)),.call (f n_slices_Clone_api_Do_api_Do) [(t 0 15)],none,1,[7,6,5,4,3,2,1,0]⟩,⟨(some (1,1)),.faddr 10 (t 0 1),none,0,[0,1,2,3,4,6,7]⟩,⟨none,.store 1 (t 1 1) (t 0 10),none,2,[9,0,1,2,3,4,6,7,8,5]⟩,⟨(some (1,2)),.faddr 11 (t 0 1),none,0,[0,1,2,3,4,5,6,7,9,10,8]⟩,⟨none,.store 1 (t 1 2) (t 0 13),none,2,[11,0,1,2,3,4,5,6,7,9,10,8]⟩,⟨(some (1,3)),.faddr 12 (t 0 1),none,0,[0,1,2,3,4,5,6,7,8,9,10,11,12]⟩,⟨none,.store 1 (t 1 3) (t 1 0),none,2,[13,0,1,2,3,4,5,6,7,8,9,10,11,12]⟩]) (.seq (.seq (.reg [⟨(some (1,4)),.faddr 12 (t 0 1),none,0,[]⟩,⟨(some (1,5)),.load false 1 (t 1 4),none,1,[]⟩,⟨(some (1,6)),.len false (t 1 5),none,0,[]⟩,⟨(some (1,7)),.mv (c 0),none,0,[]⟩]) (.blk 0 (.loop l_replica_Clone_0))) (.seq (.reg [⟨(some (2,7)),.load true 13 (t 0 1),none,1,[]⟩,⟨none,.store 13 (t 0 2) (t 2 7),none,2,[]⟩]) .ret)))))
def a_replica_Clone : AFunc:=⟨40,1,[.cell 0 2 true 13],b_replica_Clone⟩
theorem i_replica_Clone {P : Program} {fz : Fz} {mu : St} {n : Nat} {k : KT Prop} (fu : Nat) (x0 : AV) : textP P fu a_replica_Clone [x0] fz mu n k = dcode pOrc False (CP P) fz fu b_replica_Clone (tmE 40 (envI [x0])) mu n (endP fz [.cell 0 2 true 13] k):=rfl
def b_slices_Clone_int_int : ACode:=(.seq (.reg [⟨(some (0,2)),.mv (.c (.one (.nsl))),none,0,[]⟩]) (.seq (.seq (.reg [⟨(some (0,3)),.mv (t 0 0),none,0,[]⟩,⟨(some (0,4)),.eqn true false (t 0 3) (.c (.one (.nsl))),none,0,[]⟩]) (.cond (t 0 4) (.seq (.reg [⟨(some (0,2)),.mv (.c (.one (.nsl))),none,0,[]⟩]) .ret) .skip)) (.seq (.reg [⟨(some (0,5)),.bslice 1 0 [.int .i64 0] [],none,3,[]⟩,⟨(some (0,6)),.mv (t 0 0),none,0,[]⟩,⟨(some (0,7)),.append 1 8 (t 0 5) (t 0 6),none,2,[]⟩,⟨(some (0,2)),.mv (t 0 7),none,0,[]⟩]) .ret)))
def a_slices_Clone_int_int : AFunc:=⟨8,1,[.tmp 0 2],b_slices_Clone_int_int⟩
theorem i_slices_Clone_int_int {P : Program} {fz : Fz} {mu : St} {n : Nat} {k : KT Prop} (fu : Nat) (x0 : AV) : textP P fu a_slices_Clone_int_int [x0] fz mu n k = dcode pOrc False (CP P) fz fu b_slices_Clone_int_int (tmE 8 (envI [x0])) mu n (endP fz [.tmp 0 2] k):=rfl
def b_message_fields : ACode:=(.seq (.reg [⟨(some (0,2)),.mv (.c (.one (.nsl))),none,0,[]⟩,⟨(some (0,3)),.mv (.c (.one (.bool false))),none,0,[]⟩]) (.seq (.reg [⟨(some (0,5)),.bslice 1 3 [.int .i64 0] [(0,1,(c 6)),(1,1,(c 7)),(2,1,(c 12))],none,3,[]⟩,⟨(some (0,6)),.bslice 1 4 [.int .i64 0] [(0,1,(c 6)),(1,1,(c 7)),(2,1,(c 8)),(3,1,(c 2))],none,3,[]⟩,⟨(some (0,7)),.bslice 1 5 [.int .i64 0] [(0,1,(c 7)),(1,1,(c 9)),(2,1,(c 11)),(3,1,(c 2)),(4,1,(c 10))],none,3,[]⟩,⟨(some (0,8)),.bslice 1 4 [.int .i64 0] [(0,1,(c 7)),(1,1,(c 8)),(2,1,(c 2)),(3,1,(c 4))],none,3,[]⟩,⟨(some (0,9)),.bslice 1 7 [.int .i64 0] [(0,1,(c 0)),(1,1,(c 2)),(2,1,(c 3)),(3,1,(c 5)),(4,1,(c 6)),(5,1,(c 7)),(6,1,(c 12))],none,3,[]⟩,⟨(some (0,10)),.bslice 1 2 [.int .i64 0] [(0,1,(c 0)),(1,1,(c 2))],none,3,[]⟩,⟨(some (0,11)),.bslice 1 3 [.int .i64 0] [(0,1,(c 0)),(1,1,(c 2)),(2,1,(c 3))],none,3,[]⟩,⟨(some (0,12)),.bslice 1 1 [.int .i64 0] [(0,1,(c 0))],none,3,[]⟩,⟨(some (0,13)),.bslice 1 4 [.int .i64 0] [(0,1,(c 0)),(1,1,(c 1)),(2,1,(c 3)),(3,1,(c 13))],none,3,[]⟩,⟨(some (0,14)),.bslice 1 3 [.int .i64 0] [(0,1,(c 0)),(1,1,(c 3)),(2,1,(c 13))],none,3,[]⟩,⟨(some (0,15)),.bslice 1 2 [.int .i64 0] [(0,1,(c 0)),(1,1,(c 2))],none,3,[]⟩,⟨(some (1,0)),.bslice 1 3 [.int .i64 0] [(0,1,(c 0)),(1,1,(c 3)),(2,1,(c 13))],none,3,[]⟩,⟨(some (1,1)),.bslice 1 2 [.int .i64 0] [(0,1,(c 0)),(1,1,(c 4))],none,3,[]⟩,⟨(some (1,2)),.bslice 1 2 [.int .i64 0] [(0,1,(c 0)),(1,1,(c 4))],none,3,[]⟩,⟨(some (1,3)),.bslice 1 1 [.int .i64 0] [(0,1,(c 2))],none,3,[]⟩,⟨(some (1,4)),.bslice 1 1 [.int .i64 0] [(0,1,(c 2))],none,3,[]⟩,⟨(some (1,5)),.bslice 1 2 [.int .i64 0] [(0,1,(c 2)),(1,1,(c 14))],none,3,[]⟩,⟨(some (1,6)),.bslice 1 17 [.nsl] [(0,1,(t 0 5)),(1,1,(t 0 6)),(2,1,(t 0 7)),(3,1,(t 0 8)),(4,1,(t 0 9)),(5,1,(t 0 10)),(6,1,(t 0 11)),(7,1,(t 0 12)),(8,1,(t 0 13)),(9,1,(t 0 14)),(10,1,(t 0 15)),(11,1,(t 1 0)),(12,1,(t 1 1)),(13,1,(t 1 2)),(14,1,(t 1 3)),(15,1,(t 1 4)),(16,1,(t 1 5))],none,3,[]⟩,⟨(some (0,4)),.mv (t 1 6),none,0,[]⟩]) (.seq (.seq (.reg [⟨(some (1,7)),.mv (t 0 0),none,0,[]⟩,⟨(some (1,8)),.bin .lss (t 1 7) (c 0),none,0,[]⟩,⟨(some (1,9)),.mv (t 1 8),none,0,[]⟩,⟨(some (1,10)),.mv (t 0 0),(some (1,9,false)),0,[]⟩,⟨(some (1,11)),.mv (t 0 4),(some (1,9,false)),0,[]⟩,⟨(some (1,12)),.len false (t 1 11),(some (1,9,false)),0,[]⟩,⟨(some (1,13)),.bin .geq (t 1 10) (t 1 12),(some (1,9,false)),0,[]⟩,⟨(some (1,14)),.pick (t 1 9) (.c (.one (.bool true))) (t 1 13),none,0,[]⟩]) (.cond (t 1 14) (.seq (.reg [⟨(some (0,2)),.mv (.c (.one (.nsl))),none,0,[]⟩,⟨(some (0,3)),.mv (.c (.one (.bool false))),none,0,[]⟩]) .ret) .skip)) (.seq (.reg [⟨(some (1,15)),.mv (t 0 4),none,0,[]⟩,⟨(some (2,0)),.mv (t 0 0),none,0,[]⟩,⟨(some (2,1)),.iaddr 1 (t 1 15) (t 2 0),none,0,[]⟩,⟨(some (2,2)),.load false 1 (t 2 1),none,1,[]⟩,⟨(some (0,2)),.mv (t 2 2),none,0,[]⟩,⟨(some (0,3)),.mv (.c (.one (.bool true))),none,0,[]⟩]) .ret))))
def a_message_fields : AFunc:=⟨35,1,[.tmp 0 2,.tmp 0 3],b_message_fields⟩
theorem i_message_fields {P : Program} {fz : Fz} {mu : St} {n : Nat} {k : KT Prop} (fu : Nat) (x0 : AV) : textP P fu a_message_fields [x0] fz mu n k = dcode pOrc False (CP P) fz fu b_message_fields (tmE 35 (envI [x0])) mu n (endP fz [.tmp 0 2,.tmp 0 3] k):=rfl
def b_message_who : ACode:=(.seq (.reg [⟨(some (0,2)),.mv (.c (.one (.bool false))),none,0,[]⟩]) (.seq (.reg [⟨(some (0,3)),.mv (f n_message_Node),none,0,[]⟩,⟨(some (0,4)),.mv (f n_message_Node),none,0,[]⟩]) (.seq (.seq (.reg [⟨(some (0,5)),.mv (t 0 0),none,0,[]⟩,⟨(some (0,6)),.nilc (t 0 5),none,0,[]⟩,⟨(some (0,7)),.faddr 0 (t 0 6),none,0,[]⟩,⟨(some (0,8)),.load false 1 (t 0 7),none,1,[]⟩]) (.blk 0 (.seq (.seq (.reg [⟨(some (0,10)),.bin .eql (t 0 8) (c 0),none,0,[]⟩,⟨(some (0,9)),.mv (t 0 10),none,0,[]⟩]) (.cond (t 0 9) .skip (.reg [⟨(some (0,11)),.bin .eql (t 0 8) (c 2),none,0,[]⟩,⟨(some (0,9)),.mv (t 0 11),none,0,[]⟩]))) (.cond (t 0 9) (.reg [⟨(some (0,3)),.mv (f n_message_Client),none,0,[]⟩]) (.seq (.seq (.reg [⟨(some (0,13)),.bin .eql (t 0 8) (c 1),none,0,[]⟩,⟨(some (0,12)),.mv (t 0 13),none,0,[]⟩]) (.cond (t 0 12) .skip (.reg [⟨(some (0,14)),.bin .eql (t 0 8) (c 3),none,0,[]⟩,⟨(some (0,12)),.mv (t 0 14),none,0,[]⟩]))) (.cond (t 0 12) (.reg [⟨(some (0,4)),.mv (f n_message_Client),none,0,[]⟩]) .skip)))))) (.seq (.reg [⟨(some (0,15)),.mv (t 0 3),none,0,[]⟩,⟨(some (1,0)),.mv (t 0 0),none,0,[]⟩,⟨(some (1,1)),.nilc (t 1 0),none,0,[]⟩,⟨(some (1,2)),.faddr 1 (t 1 1),none,0,[]⟩,⟨(some (1,3)),.load false 1 (t 1 2),none,1,[]⟩,⟨(some (1,4)),.call (t 0 15) [(t 1 3)],none,1,[]⟩,⟨(some (1,5)),.mv (t 1 4),none,0,[]⟩,⟨(some (1,6)),.mv (t 0 4),(some (1,5,true)),0,[]⟩,⟨(some (1,7)),.mv (t 0 0),(some (1,5,true)),0,[]⟩,⟨(some (1,8)),.nilc (t 1 7),(some (1,5,true)),0,[]⟩,⟨(some (1,9)),.faddr 2 (t 1 8),(some (1,5,true)),0,[]⟩,⟨(some (1,10)),.load false 1 (t 1 9),(some (1,5,true)),1,[]⟩,⟨(some (1,11)),.call (t 1 6) [(t 1 10)],(some (1,5,true)),1,[]⟩,⟨(some (1,12)),.pick (t 1 5) (t 1 11) (.c (.one (.bool false))),none,0,[]⟩,⟨(some (0,2)),.mv (t 1 12),none,0,[]⟩]) .ret))))
def a_message_who : AFunc:=⟨29,1,[.tmp 0 2],b_message_who⟩
theorem i_message_who {P : Program} {fz : Fz} {mu : St} {n : Nat} {k : KT Prop} (fu : Nat) (x0 : AV) : textP P fu a_message_who [x0] fz mu n k = dcode pOrc False (CP P) fz fu b_message_who (tmE 29 (envI [x0])) mu n (endP fz [.tmp 0 2] k):=rfl
def b_message_number : ACode:=(.seq (.reg [⟨(some (0,4)),.mv (.c (.one (.npt))),none,0,[]⟩]) (.seq (.seq (.reg [⟨(some (0,5)),.mv (t 0 1),none,0,[]⟩]) (.blk 0 (.seq (.reg [⟨(some (0,7)),.bin .eql (t 0 5) (c 0),none,0,[]⟩,⟨(some (0,6)),.mv (t 0 7),none,0,[]⟩]) (.cond (t 0 6) (.seq (.reg [⟨(some (0,8)),.mv (t 0 0),none,0,[]⟩,⟨(some (0,9)),.nilc (t 0 8),none,0,[]⟩,⟨(some (0,10)),.faddr 3 (t 0 9),none,0,[]⟩,⟨(some (0,4)),.mv (t 0 10),none,0,[]⟩]) .ret) (.seq (.reg [⟨(some (0,12)),.bin .eql (t 0 5) (c 1),none,0,[]⟩,⟨(some (0,11)),.mv (t 0 12),none,0,[]⟩]) (.cond (t 0 11) (.seq (.reg [⟨(some (0,13)),.mv (t 0 0),none,0,[]⟩,⟨(some (0,14)),.nilc (t 0 13),none,0,[]⟩,⟨(some (0,15)),.faddr 4 (t 0 14),none,0,[]⟩,⟨(some (0,4)),.mv (t 0 15),none,0,[]⟩]) .ret) (.seq (.reg [⟨(some (1,1)),.bin .eql (t 0 5) (c 2),none,0,[]⟩,⟨(some (1,0)),.mv (t 1 1),none,0,[]⟩]) (.cond (t 1 0) (.seq (.reg [⟨(some (1,2)),.mv (t 0 0),none,0,[]⟩,⟨(some (1,3)),.nilc (t 1 2),none,0,[]⟩,⟨(some (1,4)),.faddr 5 (t 1 3),none,0,[]⟩,⟨(some (0,4)),.mv (t 1 4),none,0,[]⟩]) .ret) (.seq (.reg [⟨(some (1,6)),.bin .eql (t 0 5) (c 3),none,0,[]⟩,⟨(some (1,5)),.mv (t 1 6),none,0,[]⟩]) (.cond (t 1 5) (.seq (.reg [⟨(some (1,7)),.mv (t 0 0),none,0,[]⟩,⟨(some (1,8)),.nilc (t 1 7),none,0,[]⟩,⟨(some (1,9)),.faddr 6 (t 1 8),none,0,[]⟩,⟨(some (0,4)),.mv (t 1 9),none,0,[]⟩]) .ret) (.seq (.reg [⟨(some (1,11)),.bin .eql (t 0 5) (c 4),none,0,[]⟩,⟨(some (1,10)),.mv (t 1 11),none,0,[]⟩]) (.cond (t 1 10) (.seq (.reg [⟨(some (1,12)),.mv (t 0 0),none,0,[]⟩,⟨(some (1,13)),.nilc (t 1 12),none,0,[]⟩,⟨(some (1,14)),.faddr 7 (t 1 13),none,0,[]⟩,⟨(some (0,4)),.mv (t 1 14),none,0,[]⟩]) .ret) (.seq (.reg [⟨(some (2,0)),.bin .eql (t 0 5) (c 5),none,0,[]⟩,⟨(some (1,15)),.mv (t 2 0),none,0,[]⟩]) (.cond (t 1 15) (.seq (.reg [⟨(some (2,1)),.mv (t 0 0),none,0,[]⟩,⟨(some (2,2)),.nilc (t 2 1),none,0,[]⟩,⟨(some (2,3)),.faddr 8 (t 2 2),none,0,[]⟩,⟨(some (0,4)),.mv (t 2 3),none,0,[]⟩]) .ret) (.seq (.reg [⟨(some (2,5)),.bin .eql (t 0 5) (c 6),none,0,[]⟩,⟨(some (2,4)),.mv (t 2 5),none,0,[]⟩]) (.cond (t 2 4) (.seq (.reg [⟨(some (2,6)),.mv (t 0 0),none,0,[]⟩,⟨(some (2,7)),.nilc (t 2 6),none,0,[]⟩,⟨(some (2,8)),.faddr 9 (t 2 7),none,0,[]⟩,⟨(some (0,4)),.mv (t 2 8),none,0,[]⟩]) .ret) (.seq (.reg [⟨(some (2,10)),.bin .eql (t 0 5) (c 7),none,0,[]⟩,⟨(some (2,9)),.mv (t 2 10),none,0,[]⟩]) (.cond (t 2 9) (.seq (.reg [⟨(some (2,11)),.mv (t 0 0),none,0,[]⟩,⟨(some (2,12)),.nilc (t 2 11),none,0,[]⟩,⟨(some (2,13)),.faddr 10 (t 2 12),none,0,[]⟩,⟨(some (0,4)),.mv (t 2 13),none,0,[]⟩]) .ret) (.seq (.reg [⟨(some (2,15)),.bin .eql (t 0 5) (c 8),none,0,[]⟩,⟨(some (2,14)),.mv (t 2 15),none,0,[]⟩]) (.cond (t 2 14) (.seq (.reg [⟨(some (3,0)),.mv (t 0 0),none,0,[]⟩,⟨(some (3,1)),.nilc (t 3 0),none,0,[]⟩,⟨(some (3,2)),.faddr 11 (t 3 1),none,0,[]⟩,⟨(some (0,4)),.mv (t 3 2),none,0,[]⟩]) .ret) (.seq (.reg [⟨(some (3,4)),.bin .eql (t 0 5) (c 9),none,0,[]⟩,⟨(some (3,3)),.mv (t 3 4),none,0,[]⟩]) (.cond (t 3 3) (.seq (.reg [⟨(some (3,5)),.mv (t 0 0),none,0,[]⟩,⟨(some (3,6)),.nilc (t 3 5),none,0,[]⟩,⟨(some (3,7)),.faddr 12 (t 3 6),none,0,[]⟩,⟨(some (0,4)),.mv (t 3 7),none,0,[]⟩]) .ret) (.seq (.reg [⟨(some (3,9)),.bin .eql (t 0 5) (c 10),none,0,[]⟩,⟨(some (3,8)),.mv (t 3 9),none,0,[]⟩]) (.cond (t 3 8) (.seq (.reg [⟨(some (3,10)),.mv (t 0 0),none,0,[]⟩,⟨(some (3,11)),.nilc (t 3 10),none,0,[]⟩,⟨(some (3,12)),.faddr 13 (t 3 11),none,0,[]⟩,⟨(some (0,4)),.mv (t 3 12),none,0,[]⟩]) .ret) .skip)))))))))))))))))))))))) (.seq (.reg [⟨(some (0,4)),.mv (.c (.one (.npt))),none,0,[]⟩]) .ret)))
def a_message_number : AFunc:=⟨61,2,[.tmp 0 4],b_message_number⟩
theorem i_message_number {P : Program} {fz : Fz} {mu : St} {n : Nat} {k : KT Prop} (fu : Nat) (x0 x1 : AV) : textP P fu a_message_number [x0,x1] fz mu n k = dcode pOrc False (CP P) fz fu b_message_number (tmE 61 (envI [x0,x1])) mu n (endP fz [.tmp 0 4] k):=rfl
def b_message_limits : ACode:=(.seq (.reg [⟨(some (0,4)),.mv (c 0),none,0,[]⟩,⟨(some (0,5)),.mv (c 0),none,0,[]⟩]) (.seq (.blk 0 (.seq (.reg [⟨(some (0,7)),.mv (t 0 1),none,0,[]⟩,⟨(some (0,8)),.bin .eql (t 0 7) (c 8),none,0,[]⟩,⟨(some (0,6)),.mv (t 0 8),none,0,[]⟩]) (.cond (t 0 6) (.seq (.reg [⟨(some (0,4)),.mv (c 0),none,0,[]⟩,⟨(some (0,5)),.mv (c 9),none,0,[]⟩]) .ret) (.seq (.reg [⟨(some (0,10)),.mv (t 0 1),none,0,[]⟩,⟨(some (0,11)),.bin .eql (t 0 10) (c 9),none,0,[]⟩,⟨(some (0,9)),.mv (t 0 11),none,0,[]⟩]) (.cond (t 0 9) (.seq (.reg [⟨(some (0,4)),.mv (c 0),none,0,[]⟩,⟨(some (0,5)),.mv (c 4),none,0,[]⟩]) .ret) (.seq (.reg [⟨(some (0,13)),.mv (t 0 1),none,0,[]⟩,⟨(some (0,14)),.bin .eql (t 0 13) (c 2),none,0,[]⟩,⟨(some (0,15)),.mv (t 0 14),none,0,[]⟩,⟨(some (1,0)),.mv (t 0 0),(some (0,15,true)),0,[]⟩,⟨(some (1,1)),.bin .eql (t 1 0) (c 1),(some (0,15,true)),0,[]⟩,⟨(some (1,2)),.pick (t 0 15) (t 1 1) (.c (.one (.bool false))),none,0,[]⟩,⟨(some (0,12)),.mv (t 1 2),none,0,[]⟩]) (.cond (t 0 12) (.seq (.reg [⟨(some (0,4)),.mv (c (-1)),none,0,[]⟩,⟨(some (0,5)),.mv (c 2147483647),none,0,[]⟩]) .ret) (.seq (.reg [⟨(some (1,4)),.mv (t 0 1),none,0,[]⟩,⟨(some (1,5)),.bin .eql (t 1 4) (c 2),none,0,[]⟩,⟨(some (1,6)),.mv (t 1 5),none,0,[]⟩,⟨(some (1,7)),.mv (t 0 1),(some (1,6,false)),0,[]⟩,⟨(some (1,8)),.bin .eql (t 1 7) (c 10),(some (1,6,false)),0,[]⟩,⟨(some (1,9)),.pick (t 1 6) (.c (.one (.bool true))) (t 1 8),none,0,[]⟩,⟨(some (1,10)),.mv (t 1 9),none,0,[]⟩,⟨(some (1,11)),.mv (t 0 0),(some (1,10,true)),0,[]⟩,⟨(some (1,12)),.bin .eql (t 1 11) (c 2),(some (1,10,true)),0,[]⟩,⟨(some (1,13)),.mv (t 1 12),(some (1,10,true)),0,[]⟩,⟨(some (1,14)),.mv (t 0 0),(some (1,13,false)),0,[]⟩,⟨(some (1,15)),.bin .eql (t 1 14) (c 3),(some (1,13,false)),0,[]⟩,⟨(some (2,0)),.pick (t 1 13) (.c (.one (.bool true))) (t 1 15),(some (1,10,true)),0,[]⟩,⟨(some (2,1)),.pick (t 1 10) (t 2 0) (.c (.one (.bool false))),none,0,[]⟩,⟨(some (1,3)),.mv (t 2 1),none,0,[]⟩]) (.cond (t 1 3) (.seq (.reg [⟨(some (0,4)),.mv (c (-2147483648)),none,0,[]⟩,⟨(some (0,5)),.mv (c 2147483647),none,0,[]⟩]) .ret) .skip))))))))) (.seq (.reg [⟨(some (0,4)),.mv (c 0),none,0,[]⟩,⟨(some (0,5)),.mv (c 2147483647),none,0,[]⟩]) .ret)))
def a_message_limits : AFunc:=⟨34,2,[.tmp 0 4,.tmp 0 5],b_message_limits⟩
theorem i_message_limits {P : Program} {fz : Fz} {mu : St} {n : Nat} {k : KT Prop} (fu : Nat) (x0 x1 : AV) : textP P fu a_message_limits [x0,x1] fz mu n k = dcode pOrc False (CP P) fz fu b_message_limits (tmE 34 (envI [x0,x1])) mu n (endP fz [.tmp 0 4,.tmp 0 5] k):=rfl
def l_point_Name_0 : ACode:=(.seq (.reg [⟨(some (0,15)),.bin .lss (t 0 14) (t 0 13),none,0,[]⟩]) (.seq (.cond (t 0 15) .skip (.exit 0)) (.seq (.blk 1 (.seq (.reg [⟨(some (1,0)),.mv (t 0 14),none,0,[]⟩,⟨(some (0,3)),.mv (t 1 0),none,0,[]⟩]) (.seq (.seq (.reg [⟨(some (1,1)),.mv (t 0 0),none,0,[]⟩,⟨(some (1,2)),.mv (t 0 3),none,0,[]⟩,⟨(some (1,3)),.idx (t 1 1) (t 1 2),none,0,[]⟩,⟨(some (0,4)),.mv (t 1 3),none,0,[]⟩]) (.blk 2 (.seq (.seq (.reg [⟨(some (1,5)),.mv (t 0 4),none,0,[]⟩,⟨(some (1,6)),.bin .geq (t 1 5) (.c (.one (.int .u8 97))),none,0,[]⟩,⟨(some (1,7)),.mv (t 1 6),none,0,[]⟩,⟨(some (1,8)),.mv (t 0 4),(some (1,7,true)),0,[]⟩,⟨(some (1,9)),.bin .leq (t 1 8) (.c (.one (.int .u8 122))),(some (1,7,true)),0,[]⟩,⟨(some (1,10)),.pick (t 1 7) (t 1 9) (.c (.one (.bool false))),none,0,[]⟩,⟨(some (1,4)),.mv (t 1 10),none,0,[]⟩]) (.cond (t 1 4) .skip (.seq (.reg [⟨(some (1,11)),.mv (t 0 4),none,0,[]⟩,⟨(some (1,12)),.bin .geq (t 1 11) (.c (.one (.int .u8 48))),none,0,[]⟩,⟨(some (1,13)),.mv (t 1 12),none,0,[]⟩,⟨(some (1,14)),.mv (t 0 4),(some (1,13,true)),0,[]⟩,⟨(some (1,15)),.bin .leq (t 1 14) (.c (.one (.int .u8 57))),(some (1,13,true)),0,[]⟩,⟨(some (2,0)),.pick (t 1 13) (t 1 15) (.c (.one (.bool false))),none,0,[]⟩,⟨(some (1,4)),.mv (t 2 0),none,0,[]⟩]) (.cond (t 1 4) .skip (.reg [⟨(some (2,1)),.mv (t 0 4),none,0,[]⟩,⟨(some (2,2)),.bin .eql (t 2 1) (.c (.one (.int .u8 95))),none,0,[]⟩,⟨(some (1,4)),.mv (t 2 2),none,0,[]⟩]))))) (.cond (t 1 4) (.exit 1) .skip)))) (.seq (.reg [⟨(some (0,2)),.mv (.c (.one (.bool false))),none,0,[]⟩]) .ret)))) (.reg [⟨(some (2,3)),.bin .add (t 0 14) (c 1),none,0,[]⟩,⟨(some (0,14)),.mv (t 2 3),none,0,[]⟩]))))
def b_point_Name : ACode:=(.seq (.reg [⟨(some (0,2)),.mv (.c (.one (.bool false))),none,0,[]⟩]) (.seq (.seq (.reg [⟨(some (0,5)),.mv (t 0 0),none,0,[]⟩,⟨(some (0,6)),.sbin .eql (t 0 5) (.c (.one (.str 0 0))),none,0,[]⟩,⟨(some (0,7)),.mv (t 0 6),none,0,[]⟩,⟨(some (0,8)),.mv (t 0 0),(some (0,7,false)),0,[]⟩,⟨(some (0,9)),.len true (t 0 8),(some (0,7,false)),0,[]⟩,⟨(some (0,10)),.bin .gtr (t 0 9) (c 12),(some (0,7,false)),0,[]⟩,⟨(some (0,11)),.pick (t 0 7) (.c (.one (.bool true))) (t 0 10),none,0,[]⟩]) (.cond (t 0 11) (.seq (.reg [⟨(some (0,2)),.mv (.c (.one (.bool false))),none,0,[]⟩]) .ret) .skip)) (.seq .skip (.seq (.seq (.reg [⟨(some (0,12)),.mv (t 0 0),none,0,[]⟩,⟨(some (0,13)),.len true (t 0 12),none,0,[]⟩,⟨(some (0,14)),.mv (c 0),none,0,[]⟩]) (.blk 0 (.loop l_point_Name_0))) (.seq (.reg [⟨(some (0,2)),.mv (.c (.one (.bool true))),none,0,[]⟩]) .ret)))))
def a_point_Name : AFunc:=⟨36,1,[.tmp 0 2],b_point_Name⟩
theorem i_point_Name {P : Program} {fz : Fz} {mu : St} {n : Nat} {k : KT Prop} (fu : Nat) (x0 : AV) : textP P fu a_point_Name [x0] fz mu n k = dcode pOrc False (CP P) fz fu b_point_Name (tmE 36 (envI [x0])) mu n (endP fz [.tmp 0 2] k):=rfl
def b_point_Batch : ACode:=(.seq (.reg [⟨(some (0,2)),.mv (.c (.one (.bool false))),none,0,[]⟩]) (.seq (.reg [⟨(some (0,3)),.mv (t 0 0),none,0,[]⟩,⟨(some (0,4)),.len false (t 0 3),none,0,[]⟩,⟨(some (0,5)),.bin .leq (t 0 4) (c 8),none,0,[]⟩,⟨(some (0,6)),.mv (t 0 5),none,0,[]⟩,⟨(some (0,7)),.mv (t 0 0),(some (0,6,true)),0,[]⟩,⟨(some (0,8)),.call (f n_slices_ContainsFunc_api_Point_api_Point) [(t 0 7),(f n_point_Batch_1)],(some (0,6,true)),1,[]⟩,⟨(some (0,9)),.not (t 0 8),(some (0,6,true)),0,[]⟩,⟨(some (0,10)),.pick (t 0 6) (t 0 9) (.c (.one (.bool false))),none,0,[]⟩,⟨(some (0,2)),.mv (t 0 10),none,0,[]⟩]) .ret))
def a_point_Batch : AFunc:=⟨11,1,[.tmp 0 2],b_point_Batch⟩
theorem i_point_Batch {P : Program} {fz : Fz} {mu : St} {n : Nat} {k : KT Prop} (fu : Nat) (x0 : AV) : textP P fu a_point_Batch [x0] fz mu n k = dcode pOrc False (CP P) fz fu b_point_Batch (tmE 11 (envI [x0])) mu n (endP fz [.tmp 0 2] k):=rfl
def l_message_CloneLog_0 : ACode:=(.seq (.reg [⟨(some (0,15)),.bin .lss (t 0 14) (t 0 13),none,0,[]⟩]) (.seq (.cond (t 0 15) .skip (.exit 0)) (.seq (.blk 1 (.seq (.reg [⟨(some (1,0)),.iaddr 5 (t 0 12) (t 0 14),none,0,[]⟩,⟨(some (1,1)),.load true 5 (t 1 0),none,1,[]⟩,⟨(some (0,5)),.alloc [.int .i64 0,.int .i64 0,.int .i64 0,.int .i64 0,.nsl],none,3,[]⟩,⟨none,.store 5 (t 0 5) (t 1 1),none,2,[]⟩]) (.draw [⟨(some (1,2)),.faddr 2 (t 0 3),none,0,[]⟩,⟨(some (1,3)),.load false 1 (t 1 2),none,1,[0]⟩,⟨(some (1,4)),.load true 5 (t 0 5),none,1,[]⟩,⟨(some (1,5)),.call (f n_message_CloneEntry) [(t 1 4)],none,1,[2]⟩,⟨(some (1,6)),.bslice 5 1 [.int .i64 0,.int .i64 0,.int .i64 0,.int .i64 0,.nsl] [(0,5,(t 1 5))],none,3,[3,2]⟩,⟨(some (1,7)),.append 5 56 (t 1 3) (t 1 6),none,2,[1,0,4,3,2]⟩,⟨(some (1,8)),.faddr 2 (t 0 3),none,0,[0,1,2,3,4,5]⟩,⟨none,.store 1 (t 1 8) (t 1 7),none,2,[6,0,1,2,3,4,5]⟩]))) (.reg [⟨(some (1,9)),.bin .add (t 0 14) (c 1),none,0,[]⟩,⟨(some (0,14)),.mv (t 1 9),none,0,[]⟩]))))
def b_message_CloneLog : ACode:=(.seq (.reg [⟨(some (0,1)),.box (t 0 0),none,3,[]⟩,⟨(some (0,2)),.alloc [.int .i64 0,.str 0 0,.nsl],none,3,[]⟩]) (.seq (.reg [⟨(some (0,6)),.faddr 0 (t 0 1),none,0,[]⟩,⟨(some (0,7)),.load false 1 (t 0 6),none,1,[]⟩,⟨(some (0,8)),.faddr 1 (t 0 1),none,0,[]⟩,⟨(some (0,9)),.load false 1 (t 0 8),none,1,[]⟩,⟨(some (0,10)),.build [.int .i64 0,.str 0 0,.nsl] [(0,1,(t 0 7)),(1,1,(t 0 9))],none,0,[]⟩,⟨(some (0,3)),.alloc [.int .i64 0,.str 0 0,.nsl],none,3,[]⟩,⟨none,.store 3 (t 0 3) (t 0 10),none,2,[]⟩]) (.seq (.seq (.reg [⟨(some (0,11)),.faddr 2 (t 0 1),none,0,[]⟩,⟨(some (0,12)),.load false 1 (t 0 11),none,1,[]⟩,⟨(some (0,13)),.len false (t 0 12),none,0,[]⟩,⟨(some (0,14)),.mv (c 0),none,0,[]⟩]) (.blk 0 (.loop l_message_CloneLog_0))) (.seq (.reg [⟨(some (1,10)),.load true 3 (t 0 3),none,1,[]⟩,⟨none,.store 3 (t 0 2) (t 1 10),none,2,[]⟩]) .ret))))
def a_message_CloneLog : AFunc:=⟨27,1,[.cell 0 2 true 3],b_message_CloneLog⟩
theorem i_message_CloneLog {P : Program} {fz : Fz} {mu : St} {n : Nat} {k : KT Prop} (fu : Nat) (x0 : AV) : textP P fu a_message_CloneLog [x0] fz mu n k = dcode pOrc False (CP P) fz fu b_message_CloneLog (tmE 27 (envI [x0])) mu n (endP fz [.cell 0 2 true 3] k):=rfl
def l_message_MayEntry_0 : ACode:=(.seq (.reg [⟨(some (1,0)),.bin .lss (t 0 15) (t 0 14),none,0,[]⟩]) (.seq (.cond (t 1 0) .skip (.exit 0)) (.seq (.blk 1 (.seq (.reg [⟨(some (1,1)),.iaddr 1 (t 0 13) (t 0 15),none,0,[]⟩,⟨(some (1,2)),.load false 1 (t 1 1),none,1,[]⟩,⟨(some (0,4)),.mv (t 1 2),none,0,[]⟩]) (.seq (.reg [⟨(some (1,3)),.mv (t 0 4),none,0,[]⟩,⟨(some (1,4)),.bin .lss (t 1 3) (c 0),none,0,[]⟩,⟨(some (1,5)),.mv (t 1 4),none,0,[]⟩,⟨(some (1,6)),.mv (t 0 4),(some (1,5,false)),0,[]⟩,⟨(some (1,7)),.bin .gtr (t 1 6) (c 2147483647),(some (1,5,false)),0,[]⟩,⟨(some (1,8)),.pick (t 1 5) (.c (.one (.bool true))) (t 1 7),none,0,[]⟩]) (.cond (t 1 8) (.seq (.reg [⟨(some (0,2)),.mv (.c (.one (.bool false))),none,0,[]⟩]) .ret) .skip)))) (.reg [⟨(some (1,9)),.bin .add (t 0 15) (c 1),none,0,[]⟩,⟨(some (0,15)),.mv (t 1 9),none,0,[]⟩]))))
def b_message_MayEntry : ACode:=(.seq (.reg [⟨(some (0,1)),.box (t 0 0),none,3,[]⟩,⟨(some (0,2)),.mv (.c (.one (.bool false))),none,0,[]⟩]) (.seq (.seq (.reg [⟨(some (0,5)),.faddr 0 (t 0 1),none,0,[]⟩,⟨(some (0,6)),.load false 1 (t 0 5),none,1,[]⟩,⟨(some (0,7)),.faddr 1 (t 0 1),none,0,[]⟩,⟨(some (0,8)),.load false 1 (t 0 7),none,1,[]⟩,⟨(some (0,9)),.faddr 2 (t 0 1),none,0,[]⟩,⟨(some (0,10)),.load false 1 (t 0 9),none,1,[]⟩,⟨(some (0,11)),.faddr 3 (t 0 1),none,0,[]⟩,⟨(some (0,12)),.load false 1 (t 0 11),none,1,[]⟩,⟨(some (0,13)),.bslice 1 4 [.int .i64 0] [(0,1,(t 0 6)),(1,1,(t 0 8)),(2,1,(t 0 10)),(3,1,(t 0 12))],none,3,[]⟩,⟨(some (0,14)),.len false (t 0 13),none,0,[]⟩,⟨(some (0,15)),.mv (c 0),none,0,[]⟩]) (.blk 0 (.loop l_message_MayEntry_0))) (.seq (.reg [⟨(some (1,10)),.faddr 4 (t 0 1),none,0,[]⟩,⟨(some (1,11)),.load false 1 (t 1 10),none,1,[]⟩,⟨(some (1,12)),.call (f n_point_Batch) [(t 1 11)],none,1,[]⟩,⟨(some (1,13)),.mv (t 1 12),none,0,[]⟩,⟨(some (1,14)),.faddr 2 (t 0 1),(some (1,13,true)),0,[]⟩,⟨(some (1,15)),.load false 1 (t 1 14),(some (1,13,true)),1,[]⟩,⟨(some (2,0)),.bin .gtr (t 1 15) (c 0),(some (1,13,true)),0,[]⟩,⟨(some (2,1)),.mv (t 2 0),(some (1,13,true)),0,[]⟩,⟨(some (2,2)),.faddr 4 (t 0 1),(some (2,1,false)),0,[]⟩,⟨(some (2,3)),.load false 1 (t 2 2),(some (2,1,false)),1,[]⟩,⟨(some (2,4)),.len false (t 2 3),(some (2,1,false)),0,[]⟩,⟨(some (2,5)),.bin .eql (t 2 4) (c 0),(some (2,1,false)),0,[]⟩,⟨(some (2,6)),.pick (t 2 1) (.c (.one (.bool true))) (t 2 5),(some (1,13,true)),0,[]⟩,⟨(some (2,7)),.pick (t 1 13) (t 2 6) (.c (.one (.bool false))),none,0,[]⟩,⟨(some (0,2)),.mv (t 2 7),none,0,[]⟩]) .ret)))
def a_message_MayEntry : AFunc:=⟨40,1,[.tmp 0 2],b_message_MayEntry⟩
theorem i_message_MayEntry {P : Program} {fz : Fz} {mu : St} {n : Nat} {k : KT Prop} (fu : Nat) (x0 : AV) : textP P fu a_message_MayEntry [x0] fz mu n k = dcode pOrc False (CP P) fz fu b_message_MayEntry (tmE 40 (envI [x0])) mu n (endP fz [.tmp 0 2] k):=rfl
def l_slices_IndexFunc_int_int_0 : ACode:=(.seq (.reg [⟨(some (0,9)),.bin .lss (t 0 8) (t 0 7),none,0,[]⟩]) (.seq (.cond (t 0 9) .skip (.exit 0)) (.seq (.blk 1 (.seq (.reg [⟨(some (0,10)),.mv (t 0 8),none,0,[]⟩,⟨(some (0,5)),.mv (t 0 10),none,0,[]⟩]) (.seq (.reg [⟨(some (0,11)),.mv (t 0 1),none,0,[]⟩,⟨(some (0,12)),.mv (t 0 0),none,0,[]⟩,⟨(some (0,13)),.mv (t 0 5),none,0,[]⟩,⟨(some (0,14)),.iaddr 1 (t 0 12) (t 0 13),none,0,[]⟩,⟨(some (0,15)),.load false 1 (t 0 14),none,1,[]⟩,⟨(some (1,0)),.call (t 0 11) [(t 0 15)],none,1,[]⟩]) (.cond (t 1 0) (.seq (.reg [⟨(some (1,1)),.mv (t 0 5),none,0,[]⟩,⟨(some (0,4)),.mv (t 1 1),none,0,[]⟩]) .ret) .skip)))) (.reg [⟨(some (1,2)),.bin .add (t 0 8) (c 1),none,0,[]⟩,⟨(some (0,8)),.mv (t 1 2),none,0,[]⟩]))))
def b_slices_IndexFunc_int_int : ACode:=(.seq (.reg [⟨(some (0,4)),.mv (c 0),none,0,[]⟩]) (.seq (.seq (.reg [⟨(some (0,6)),.mv (t 0 0),none,0,[]⟩,⟨(some (0,7)),.len false (t 0 6),none,0,[]⟩,⟨(some (0,8)),.mv (c 0),none,0,[]⟩]) (.blk 0 (.loop l_slices_IndexFunc_int_int_0))) (.seq (.reg [⟨(some (0,4)),.mv (c (-1)),none,0,[]⟩]) .ret)))
def a_slices_IndexFunc_int_int : AFunc:=⟨19,2,[.tmp 0 4],b_slices_IndexFunc_int_int⟩
theorem i_slices_IndexFunc_int_int {P : Program} {fz : Fz} {mu : St} {n : Nat} {k : KT Prop} (fu : Nat) (x0 x1 : AV) : textP P fu a_slices_IndexFunc_int_int [x0,x1] fz mu n k = dcode pOrc False (CP P) fz fu b_slices_IndexFunc_int_int (tmE 19 (envI [x0,x1])) mu n (endP fz [.tmp 0 4] k):=rfl
def b_slices_Clone_api_Do_api_Do : ACode:=(.seq (.reg [⟨(some (0,2)),.mv (.c (.one (.nsl))),none,0,[]⟩]) (.seq (.seq (.reg [⟨(some (0,3)),.mv (t 0 0),none,0,[]⟩,⟨(some (0,4)),.eqn true false (t 0 3) (.c (.one (.nsl))),none,0,[]⟩]) (.cond (t 0 4) (.seq (.reg [⟨(some (0,2)),.mv (.c (.one (.nsl))),none,0,[]⟩]) .ret) .skip)) (.seq (.reg [⟨(some (0,5)),.bslice 6 0 [.int .i64 0,.int .i64 0,.int .i64 0,.int .i64 0,.str 0 0,.nsl] [],none,3,[]⟩,⟨(some (0,6)),.mv (t 0 0),none,0,[]⟩,⟨(some (0,7)),.append 6 72 (t 0 5) (t 0 6),none,2,[]⟩,⟨(some (0,2)),.mv (t 0 7),none,0,[]⟩]) .ret)))
def a_slices_Clone_api_Do_api_Do : AFunc:=⟨8,1,[.tmp 0 2],b_slices_Clone_api_Do_api_Do⟩
theorem i_slices_Clone_api_Do_api_Do {P : Program} {fz : Fz} {mu : St} {n : Nat} {k : KT Prop} (fu : Nat) (x0 : AV) : textP P fu a_slices_Clone_api_Do_api_Do [x0] fz mu n k = dcode pOrc False (CP P) fz fu b_slices_Clone_api_Do_api_Do (tmE 8 (envI [x0])) mu n (endP fz [.tmp 0 2] k):=rfl
def b_message_CloneEntry : ACode:=(.seq (.reg [⟨(some (0,1)),.box (t 0 0),none,3,[]⟩,⟨(some (0,2)),.alloc [.int .i64 0,.int .i64 0,.int .i64 0,.int .i64 0,.nsl],none,3,[]⟩]) (.seq (.reg [⟨(some (0,3)),.faddr 4 (t 0 1),none,0,[]⟩,⟨(some (0,4)),.load false 1 (t 0 3),none,1,[]⟩,⟨(some (0,5)),.append 3 32 (.c (.one (.nsl))) (t 0 4),none,2,[]⟩,⟨(some (0,6)),.faddr 4 (t 0 1),none,0,[]⟩,⟨none,.store 1 (t 0 6) (t 0 5),none,2,[]⟩]) (.seq (.reg [⟨(some (0,7)),.load true 5 (t 0 1),none,1,[]⟩,⟨none,.store 5 (t 0 2) (t 0 7),none,2,[]⟩]) .ret)))
def a_message_CloneEntry : AFunc:=⟨8,1,[.cell 0 2 true 5],b_message_CloneEntry⟩
theorem i_message_CloneEntry {P : Program} {fz : Fz} {mu : St} {n : Nat} {k : KT Prop} (fu : Nat) (x0 : AV) : textP P fu a_message_CloneEntry [x0] fz mu n k = dcode pOrc False (CP P) fz fu b_message_CloneEntry (tmE 8 (envI [x0])) mu n (endP fz [.cell 0 2 true 5] k):=rfl
def b_message_Node : ACode:=(.seq (.reg [⟨(some (0,2)),.mv (.c (.one (.bool false))),none,0,[]⟩]) (.seq (.reg [⟨(some (0,3)),.mv (t 0 0),none,0,[]⟩,⟨(some (0,4)),.bin .geq (t 0 3) (c 0),none,0,[]⟩,⟨(some (0,5)),.mv (t 0 4),none,0,[]⟩,⟨(some (0,6)),.mv (t 0 0),(some (0,5,true)),0,[]⟩,⟨(some (0,7)),.bin .lss (t 0 6) (c 7),(some (0,5,true)),0,[]⟩,⟨(some (0,8)),.pick (t 0 5) (t 0 7) (.c (.one (.bool false))),none,0,[]⟩,⟨(some (0,2)),.mv (t 0 8),none,0,[]⟩]) .ret))
def a_message_Node : AFunc:=⟨9,1,[.tmp 0 2],b_message_Node⟩
theorem i_message_Node {P : Program} {fz : Fz} {mu : St} {n : Nat} {k : KT Prop} (fu : Nat) (x0 : AV) : textP P fu a_message_Node [x0] fz mu n k = dcode pOrc False (CP P) fz fu b_message_Node (tmE 9 (envI [x0])) mu n (endP fz [.tmp 0 2] k):=rfl
def b_message_Client : ACode:=(.seq (.reg [⟨(some (0,2)),.mv (.c (.one (.bool false))),none,0,[]⟩]) (.seq (.reg [⟨(some (0,3)),.mv (t 0 0),none,0,[]⟩,⟨(some (0,4)),.bin .geq (t 0 3) (c 100),none,0,[]⟩,⟨(some (0,5)),.mv (t 0 4),none,0,[]⟩,⟨(some (0,6)),.mv (t 0 0),(some (0,5,true)),0,[]⟩,⟨(some (0,7)),.bin .lss (t 0 6) (c 108),(some (0,5,true)),0,[]⟩,⟨(some (0,8)),.pick (t 0 5) (t 0 7) (.c (.one (.bool false))),none,0,[]⟩,⟨(some (0,2)),.mv (t 0 8),none,0,[]⟩]) .ret))
def a_message_Client : AFunc:=⟨9,1,[.tmp 0 2],b_message_Client⟩
theorem i_message_Client {P : Program} {fz : Fz} {mu : St} {n : Nat} {k : KT Prop} (fu : Nat) (x0 : AV) : textP P fu a_message_Client [x0] fz mu n k = dcode pOrc False (CP P) fz fu b_message_Client (tmE 9 (envI [x0])) mu n (endP fz [.tmp 0 2] k):=rfl
def b_slices_ContainsFunc_api_Point_api_Point : ACode:=(.seq (.reg [⟨(some (0,4)),.mv (.c (.one (.bool false))),none,0,[]⟩]) (.seq (.reg [⟨(some (0,5)),.mv (t 0 0),none,0,[]⟩,⟨(some (0,6)),.mv (t 0 1),none,0,[]⟩,⟨(some (0,7)),.call (f n_slices_IndexFunc_api_Point_api_Point) [(t 0 5),(t 0 6)],none,1,[]⟩,⟨(some (0,8)),.bin .geq (t 0 7) (c 0),none,0,[]⟩,⟨(some (0,4)),.mv (t 0 8),none,0,[]⟩]) .ret))
def a_slices_ContainsFunc_api_Point_api_Point : AFunc:=⟨9,2,[.tmp 0 4],b_slices_ContainsFunc_api_Point_api_Point⟩
theorem i_slices_ContainsFunc_api_Point_api_Point {P : Program} {fz : Fz} {mu : St} {n : Nat} {k : KT Prop} (fu : Nat) (x0 x1 : AV) : textP P fu a_slices_ContainsFunc_api_Point_api_Point [x0,x1] fz mu n k = dcode pOrc False (CP P) fz fu b_slices_ContainsFunc_api_Point_api_Point (tmE 9 (envI [x0,x1])) mu n (endP fz [.tmp 0 4] k):=rfl
def b_point_Batch_1 : ACode:=(.seq (.reg [⟨(some (0,1)),.box (t 0 0),none,3,[]⟩,⟨(some (0,2)),.mv (.c (.one (.bool false))),none,0,[]⟩]) (.seq (.reg [⟨(some (0,3)),.load true 3 (t 0 1),none,1,[]⟩,⟨(some (0,4)),.call (f n_point_May) [(t 0 3)],none,1,[]⟩,⟨(some (0,5)),.not (t 0 4),none,0,[]⟩,⟨(some (0,2)),.mv (t 0 5),none,0,[]⟩]) .ret))
def a_point_Batch_1 : AFunc:=⟨6,1,[.tmp 0 2],b_point_Batch_1⟩
theorem i_point_Batch_1 {P : Program} {fz : Fz} {mu : St} {n : Nat} {k : KT Prop} (fu : Nat) (x0 : AV) : textP P fu a_point_Batch_1 [x0] fz mu n k = dcode pOrc False (CP P) fz fu b_point_Batch_1 (tmE 6 (envI [x0])) mu n (endP fz [.tmp 0 2] k):=rfl
def b_point_May : ACode:=(.seq (.reg [⟨(some (0,1)),.box (t 0 0),none,3,[]⟩,⟨(some (0,2)),.mv (.c (.one (.bool false))),none,0,[]⟩]) (.seq (.reg [⟨(some (0,3)),.faddr 0 (t 0 1),none,0,[]⟩,⟨(some (0,4)),.load false 1 (t 0 3),none,1,[]⟩,⟨(some (0,5)),.call (f n_point_Name) [(t 0 4)],none,1,[]⟩,⟨(some (0,6)),.mv (t 0 5),none,0,[]⟩,⟨(some (0,7)),.faddr 1 (t 0 1),(some (0,6,true)),0,[]⟩,⟨(some (0,8)),.load false 1 (t 0 7),(some (0,6,true)),1,[]⟩,⟨(some (0,9)),.call (f n_point_Small) [(t 0 8)],(some (0,6,true)),1,[]⟩,⟨(some (0,10)),.pick (t 0 6) (t 0 9) (.c (.one (.bool false))),none,0,[]⟩,⟨(some (0,11)),.mv (t 0 10),none,0,[]⟩,⟨(some (0,12)),.faddr 2 (t 0 1),(some (0,11,true)),0,[]⟩,⟨(some (0,13)),.load false 1 (t 0 12),(some (0,11,true)),1,[]⟩,⟨(some (0,14)),.call (f n_point_Small) [(t 0 13)],(some (0,11,true)),1,[]⟩,⟨(some (0,15)),.pick (t 0 11) (t 0 14) (.c (.one (.bool false))),none,0,[]⟩,⟨(some (0,2)),.mv (t 0 15),none,0,[]⟩]) .ret))
def a_point_May : AFunc:=⟨16,1,[.tmp 0 2],b_point_May⟩
theorem i_point_May {P : Program} {fz : Fz} {mu : St} {n : Nat} {k : KT Prop} (fu : Nat) (x0 : AV) : textP P fu a_point_May [x0] fz mu n k = dcode pOrc False (CP P) fz fu b_point_May (tmE 16 (envI [x0])) mu n (endP fz [.tmp 0 2] k):=rfl
def l_slices_IndexFunc_api_Point_api_Point_0 : ACode:=(.seq (.reg [⟨(some (0,9)),.bin .lss (t 0 8) (t 0 7),none,0,[]⟩]) (.seq (.cond (t 0 9) .skip (.exit 0)) (.seq (.blk 1 (.seq (.reg [⟨(some (0,10)),.mv (t 0 8),none,0,[]⟩,⟨(some (0,5)),.mv (t 0 10),none,0,[]⟩]) (.seq (.reg [⟨(some (0,11)),.mv (t 0 1),none,0,[]⟩,⟨(some (0,12)),.mv (t 0 0),none,0,[]⟩,⟨(some (0,13)),.mv (t 0 5),none,0,[]⟩,⟨(some (0,14)),.iaddr 3 (t 0 12) (t 0 13),none,0,[]⟩,⟨(some (0,15)),.load true 3 (t 0 14),none,1,[]⟩,⟨(some (1,0)),.call (t 0 11) [(t 0 15)],none,1,[]⟩]) (.cond (t 1 0) (.seq (.reg [⟨(some (1,1)),.mv (t 0 5),none,0,[]⟩,⟨(some (0,4)),.mv (t 1 1),none,0,[]⟩]) .ret) .skip)))) (.reg [⟨(some (1,2)),.bin .add (t 0 8) (c 1),none,0,[]⟩,⟨(some (0,8)),.mv (t 1 2),none,0,[]⟩]))))
def b_slices_IndexFunc_api_Point_api_Point : ACode:=(.seq (.reg [⟨(some (0,4)),.mv (c 0),none,0,[]⟩]) (.seq (.seq (.reg [⟨(some (0,6)),.mv (t 0 0),none,0,[]⟩,⟨(some (0,7)),.len false (t 0 6),none,0,[]⟩,⟨(some (0,8)),.mv (c 0),none,0,[]⟩]) (.blk 0 (.loop l_slices_IndexFunc_api_Point_api_Point_0))) (.seq (.reg [⟨(some (0,4)),.mv (c (-1)),none,0,[]⟩]) .ret)))
def a_slices_IndexFunc_api_Point_api_Point : AFunc:=⟨19,2,[.tmp 0 4],b_slices_IndexFunc_api_Point_api_Point⟩
theorem i_slices_IndexFunc_api_Point_api_Point {P : Program} {fz : Fz} {mu : St} {n : Nat} {k : KT Prop} (fu : Nat) (x0 x1 : AV) : textP P fu a_slices_IndexFunc_api_Point_api_Point [x0,x1] fz mu n k = dcode pOrc False (CP P) fz fu b_slices_IndexFunc_api_Point_api_Point (tmE 19 (envI [x0,x1])) mu n (endP fz [.tmp 0 4] k):=rfl
def b_point_Small : ACode:=(.seq (.reg [⟨(some (0,2)),.mv (.c (.one (.bool false))),none,0,[]⟩]) (.seq (.reg [⟨(some (0,3)),.mv (t 0 0),none,0,[]⟩,⟨(some (0,4)),.mv (t 0 0),none,0,[]⟩,⟨(some (0,5)),.conv .i32 (t 0 4),none,0,[]⟩,⟨(some (0,6)),.conv .i64 (t 0 5),none,0,[]⟩,⟨(some (0,7)),.bin .eql (t 0 3) (t 0 6),none,0,[]⟩,⟨(some (0,2)),.mv (t 0 7),none,0,[]⟩]) .ret))
def a_point_Small : AFunc:=⟨8,1,[.tmp 0 2],b_point_Small⟩
theorem i_point_Small {P : Program} {fz : Fz} {mu : St} {n : Nat} {k : KT Prop} (fu : Nat) (x0 : AV) : textP P fu a_point_Small [x0] fz mu n k = dcode pOrc False (CP P) fz fu b_point_Small (tmE 8 (envI [x0])) mu n (endP fz [.tmp 0 2] k):=rfl
structure Fs (P : Program) : Prop where
  mx : P.follows .mixedOrders = true
  law17_ReplicaOld : FOk P n_law17_ReplicaOld a_law17_ReplicaOld
  replica_New : FOk P n_replica_New a_replica_New
  replica_May : FOk P n_replica_May a_replica_May
  law17_fresh : FOk P n_law17_fresh a_law17_fresh
  replica_Receive : FOk P n_replica_Receive a_replica_Receive
  message_May : FOk P n_message_May a_message_May
  choose_Last : FOk P n_choose_Last a_choose_Last
  repair_Nodes : FOk P n_repair_Nodes a_repair_Nodes
  replica_within : FOk P n_replica_within a_replica_within
  message_MayLog : FOk P n_message_MayLog a_message_MayLog
  slices_ContainsFunc_int_int : FOk P n_slices_ContainsFunc_int_int a_slices_ContainsFunc_int_int
  replica_May_1 : FOk P n_replica_May_1 a_replica_May_1
  replica_Clone : FOk P n_replica_Clone a_replica_Clone
  slices_Clone_int_int : FOk P n_slices_Clone_int_int a_slices_Clone_int_int
  message_fields : FOk P n_message_fields a_message_fields
  message_who : FOk P n_message_who a_message_who
  message_number : FOk P n_message_number a_message_number
  message_limits : FOk P n_message_limits a_message_limits
  point_Name : FOk P n_point_Name a_point_Name
  point_Batch : FOk P n_point_Batch a_point_Batch
  message_CloneLog : FOk P n_message_CloneLog a_message_CloneLog
  message_MayEntry : FOk P n_message_MayEntry a_message_MayEntry
  slices_IndexFunc_int_int : FOk P n_slices_IndexFunc_int_int a_slices_IndexFunc_int_int
  slices_Clone_api_Do_api_Do : FOk P n_slices_Clone_api_Do_api_Do a_slices_Clone_api_Do_api_Do
  message_CloneEntry : FOk P n_message_CloneEntry a_message_CloneEntry
  message_Node : FOk P n_message_Node a_message_Node
  message_Client : FOk P n_message_Client a_message_Client
  slices_ContainsFunc_api_Point_api_Point : FOk P n_slices_ContainsFunc_api_Point_api_Point a_slices_ContainsFunc_api_Point_api_Point
  point_Batch_1 : FOk P n_point_Batch_1 a_point_Batch_1
  point_May : FOk P n_point_May a_point_May
  slices_IndexFunc_api_Point_api_Point : FOk P n_slices_IndexFunc_api_Point_api_Point a_slices_IndexFunc_api_Point_api_Point
  point_Small : FOk P n_point_Small a_point_Small
end Go.Proofs.Ytnnjlnkoomeadaa.Pv
set_option maxRecDepth 1000000
namespace Go.Proofs.Ytnnjlnkoomeadaa.Pv
open Go.Ev
def ml : List Nat:=[16,41,59,63,64,65,66,67,69,82,91,93,94,96,100,106,108,109,117,127,128,129,130,131,132,133,134,137,138,142,147,151,154,155,157,159]
theorem k_law17_ReplicaOld : FOk Try.prog n_law17_ReplicaOld a_law17_ReplicaOld:=⟨by kernel_rfl,Try.f7,mutsOf ml false,Try.func7,by kernel_rfl⟩
theorem k_replica_New : FOk Try.prog n_replica_New a_replica_New:=⟨by kernel_rfl,Try.f21,mutsOf ml false,Try.func21,by kernel_rfl⟩
theorem k_replica_May : FOk Try.prog n_replica_May a_replica_May:=⟨by kernel_rfl,Try.f24,mutsOf ml false,Try.func24,by kernel_rfl⟩
theorem k_law17_fresh : FOk Try.prog n_law17_fresh a_law17_fresh:=⟨by kernel_rfl,Try.f31,mutsOf ml false,Try.func31,by kernel_rfl⟩
theorem k_replica_Receive : FOk Try.prog n_replica_Receive a_replica_Receive:=⟨by kernel_rfl,Try.f32,mutsOf ml false,Try.func32,by kernel_rfl⟩
theorem k_message_May : FOk Try.prog n_message_May a_message_May:=⟨by kernel_rfl,Try.f38,mutsOf ml false,Try.func38,by kernel_rfl⟩
theorem k_choose_Last : FOk Try.prog n_choose_Last a_choose_Last:=⟨by kernel_rfl,Try.f48,mutsOf ml false,Try.func48,by kernel_rfl⟩
theorem k_repair_Nodes : FOk Try.prog n_repair_Nodes a_repair_Nodes:=⟨by kernel_rfl,Try.f50,mutsOf ml false,Try.func50,by kernel_rfl⟩
theorem k_replica_within : FOk Try.prog n_replica_within a_replica_within:=⟨by kernel_rfl,Try.f52,mutsOf ml false,Try.func52,by kernel_rfl⟩
theorem k_message_MayLog : FOk Try.prog n_message_MayLog a_message_MayLog:=⟨by kernel_rfl,Try.f53,mutsOf ml false,Try.func53,by kernel_rfl⟩
theorem k_slices_ContainsFunc_int_int : FOk Try.prog n_slices_ContainsFunc_int_int a_slices_ContainsFunc_int_int:=⟨by kernel_rfl,Try.f54,mutsOf ml false,Try.func54,by kernel_rfl⟩
theorem k_replica_May_1 : FOk Try.prog n_replica_May_1 a_replica_May_1:=⟨by kernel_rfl,Try.f55,mutsOf ml false,Try.func55,by kernel_rfl⟩
theorem k_replica_Clone : FOk Try.prog n_replica_Clone a_replica_Clone:=⟨by kernel_rfl,Try.f61,mutsOf ml false,Try.func61,by kernel_rfl⟩
theorem k_slices_Clone_int_int : FOk Try.prog n_slices_Clone_int_int a_slices_Clone_int_int:=⟨by kernel_rfl,Try.f72,mutsOf ml false,Try.func72,by kernel_rfl⟩
theorem k_message_fields : FOk Try.prog n_message_fields a_message_fields:=⟨by kernel_rfl,Try.f73,mutsOf ml false,Try.func73,by kernel_rfl⟩
theorem k_message_who : FOk Try.prog n_message_who a_message_who:=⟨by kernel_rfl,Try.f74,mutsOf ml false,Try.func74,by kernel_rfl⟩
theorem k_message_number : FOk Try.prog n_message_number a_message_number:=⟨by kernel_rfl,Try.f75,mutsOf ml false,Try.func75,by kernel_rfl⟩
theorem k_message_limits : FOk Try.prog n_message_limits a_message_limits:=⟨by kernel_rfl,Try.f76,mutsOf ml false,Try.func76,by kernel_rfl⟩
theorem k_point_Name : FOk Try.prog n_point_Name a_point_Name:=⟨by kernel_rfl,Try.f77,mutsOf ml false,Try.func77,by kernel_rfl⟩
theorem k_point_Batch : FOk Try.prog n_point_Batch a_point_Batch:=⟨by kernel_rfl,Try.f78,mutsOf ml false,Try.func78,by kernel_rfl⟩
theorem k_message_CloneLog : FOk Try.prog n_message_CloneLog a_message_CloneLog:=⟨by kernel_rfl,Try.f86,mutsOf ml false,Try.func86,by kernel_rfl⟩
theorem k_message_MayEntry : FOk Try.prog n_message_MayEntry a_message_MayEntry:=⟨by kernel_rfl,Try.f88,mutsOf ml false,Try.func88,by kernel_rfl⟩
theorem k_slices_IndexFunc_int_int : FOk Try.prog n_slices_IndexFunc_int_int a_slices_IndexFunc_int_int:=⟨by kernel_rfl,Try.f89,mutsOf ml false,Try.func89,by kernel_rfl⟩
theorem k_slices_Clone_api_Do_api_Do : FOk Try.prog n_slices_Clone_api_Do_api_Do a_slices_Clone_api_Do_api_Do:=⟨by kernel_rfl,Try.f95,mutsOf ml false,Try.func95,by kernel_rfl⟩
theorem k_message_CloneEntry : FOk Try.prog n_message_CloneEntry a_message_CloneEntry:=⟨by kernel_rfl,Try.f99,mutsOf ml false,Try.func99,by kernel_rfl⟩
theorem k_message_Node : FOk Try.prog n_message_Node a_message_Node:=⟨by kernel_rfl,Try.f111,mutsOf ml false,Try.func111,by kernel_rfl⟩
theorem k_message_Client : FOk Try.prog n_message_Client a_message_Client:=⟨by kernel_rfl,Try.f112,mutsOf ml false,Try.func112,by kernel_rfl⟩
theorem k_slices_ContainsFunc_api_Point_api_Point : FOk Try.prog n_slices_ContainsFunc_api_Point_api_Point a_slices_ContainsFunc_api_Point_api_Point:=⟨by kernel_rfl,Try.f113,mutsOf ml false,Try.func113,by kernel_rfl⟩
theorem k_point_Batch_1 : FOk Try.prog n_point_Batch_1 a_point_Batch_1:=⟨by kernel_rfl,Try.f114,mutsOf ml false,Try.func114,by kernel_rfl⟩
theorem k_point_May : FOk Try.prog n_point_May a_point_May:=⟨by kernel_rfl,Try.f115,mutsOf ml false,Try.func115,by kernel_rfl⟩
theorem k_slices_IndexFunc_api_Point_api_Point : FOk Try.prog n_slices_IndexFunc_api_Point_api_Point a_slices_IndexFunc_api_Point_api_Point:=⟨by kernel_rfl,Try.f145,mutsOf ml false,Try.func145,by kernel_rfl⟩
theorem k_point_Small : FOk Try.prog n_point_Small a_point_Small:=⟨by kernel_rfl,Try.f146,mutsOf ml false,Try.func146,by kernel_rfl⟩
theorem fs : Fs Try.prog:=⟨by kernel_rfl,k_law17_ReplicaOld,k_replica_New,k_replica_May,k_law17_fresh,k_replica_Receive,k_message_May,k_choose_Last,k_repair_Nodes,k_replica_within,k_message_MayLog,k_slices_ContainsFunc_int_int,k_replica_May_1,k_replica_Clone,k_slices_Clone_int_int,k_message_fields,k_message_who,k_message_number,k_message_limits,k_point_Name,k_point_Batch,k_message_CloneLog,k_message_MayEntry,k_slices_IndexFunc_int_int,k_slices_Clone_api_Do_api_Do,k_message_CloneEntry,k_message_Node,k_message_Client,k_slices_ContainsFunc_api_Point_api_Point,k_point_Batch_1,k_point_May,k_slices_IndexFunc_api_Point_api_Point,k_point_Small⟩
end Go.Proofs.Ytnnjlnkoomeadaa.Pv
namespace Go.Ev.Rp
open Go.Ev
structure Tx where
  l : Nat
  n : Nat
  wf : n < 256 ^ l
  deriving DecidableEq
abbrev Tx.sv (t : Tx) : SV:=.str t.l t.n
structure Pt where
  series : Tx
  time : Int
  value : Int
  deriving DecidableEq
structure Ent where
  view : Int
  client : Int
  session : Int
  number : Int
  batch : List Pt
  deriving DecidableEq
structure Lg where
  base : Int
  snap : Tx
  ents : List Ent
  deriving DecidableEq
structure Dv where
  frm : Int
  normal : Int
  commit : Int
  log : Lg
  deriving DecidableEq
structure Rep where
  me : Int
  nodes : Int
  view : Int
  normal : Int
  status : Int
  commit : Int
  sent : Bool
  log : Lg
  acks : List Int
  starts : List Int
  dos : List Dv
  deriving DecidableEq
structure Msg where
  kind : Int
  frm : Int
  to : Int
  view : Int
  normal : Int
  at' : Int
  commit : Int
  round : Int
  client : Int
  session : Int
  number : Int
  code : Int
  agg : Int
  until' : Int
  series : Tx
  batch : List Pt
  log : Lg
  text : Tx
  deriving DecidableEq
structure Rd where
  round : Int
  at' : Int
  client : Int
  agreed : List Int
  msg : Msg
  deriving DecidableEq
abbrev I (n : Int) : SV:=.int .i64 n
def ptC (p : Pt) : List SV:=[p.series.sv,I p.time,I p.value]
def intC (n : Int) : List SV:=[I n]
def PtsR (M : Fz) (x : SV) (l : List Pt) : Prop:=Sl M 3 x (l.map ptC)
def IntsR (M : Fz) (x : SV) (l : List Int) : Prop:=Sl M 1 x (l.map intC)
def entC (e : Ent) (b : SV) : List SV:=[I e.view,I e.client,I e.session,I e.number,b]
def EntR (M : Fz) (c : List SV) (e : Ent) : Prop:=∃ b,c = entC e b ∧ PtsR M b e.batch
def EntsR (M : Fz) (x : SV) (l : List Ent) : Prop:=∃ cs,Sl M 5 x cs ∧ All2 (EntR M) cs l
def lgC (l : Lg) (x : SV) : List SV:=[I l.base,l.snap.sv,x]
def LgR (M : Fz) (c : List SV) (l : Lg) : Prop:=∃ x,c = lgC l x ∧ EntsR M x l.ents
def dvC (d : Dv) (x : SV) : List SV:=[I d.frm,I d.normal,I d.commit,I d.log.base,d.log.snap.sv,x]
def DvR (M : Fz) (c : List SV) (d : Dv) : Prop:=∃ x,c = dvC d x ∧ EntsR M x d.log.ents
def DvsR (M : Fz) (x : SV) (l : List Dv) : Prop:=∃ cs,Sl M 6 x cs ∧ All2 (DvR M) cs l
def repC (r : Rep) (xe xa xs xd : SV) : List SV :=
  [I r.me,I r.nodes,I r.view,I r.normal,I r.status,I r.commit,.bool r.sent,I r.log.base,r.log.snap.sv,xe,xa,xs,xd]
def RepR (M : Fz) (c : List SV) (r : Rep) : Prop:=∃ xe xa xs xd,c = repC r xe xa xs xd ∧ EntsR M xe r.log.ents ∧ IntsR M xa r.acks ∧ IntsR M xs r.starts ∧ DvsR M xd r.dos
def msgC (m : Msg) (xb xe : SV) : List SV :=
  [I m.kind,I m.frm,I m.to,I m.view,I m.normal,I m.at',I m.commit,I m.round,I m.client,I m.session,I m.number,I m.code,I m.agg,I m.until',m.series.sv,xb,I m.log.base,m.log.snap.sv,xe,m.text.sv]
def MsgR (M : Fz) (c : List SV) (m : Msg) : Prop:=∃ xb xe,c = msgC m xb xe ∧ PtsR M xb m.batch ∧ EntsR M xe m.log.ents
def MsgsR (M : Fz) (x : SV) (l : List Msg) : Prop:=∃ cs,Sl M 20 x cs ∧ All2 (MsgR M) cs l
def RdR (M : Fz) (c : List SV) (x : Rd) : Prop:=∃ xa cm,c = [I x.round,I x.at',I x.client,xa] ++ cm ∧ IntsR M xa x.agreed ∧ MsgR M cm x.msg
section
variable {M M' : Fz} (hm : ∀ id B,M id = some B → M' id = some B)
include hm
theorem PtsR.mono {x : SV} {l : List Pt} (h : PtsR M x l) : PtsR M' x l:=Sl.mono h hm
theorem IntsR.mono {x : SV} {l : List Int} (h : IntsR M x l) : IntsR M' x l:=Sl.mono h hm
theorem EntR.mono {c : List SV} {e : Ent} (h : EntR M c e) : EntR M' c e:=let ⟨b,h1,h2⟩:=h; ⟨b,h1,PtsR.mono hm h2⟩
theorem EntsR.mono {x : SV} {l : List Ent} (h : EntsR M x l) : EntsR M' x l:=let ⟨cs,h1,h2⟩:=h; ⟨cs,h1.mono hm,h2.imp λ_ _ h=>EntR.mono hm h⟩
theorem LgR.mono {c : List SV} {l : Lg} (h : LgR M c l) : LgR M' c l:=let ⟨x,h1,h2⟩:=h; ⟨x,h1,EntsR.mono hm h2⟩
theorem DvR.mono {c : List SV} {d : Dv} (h : DvR M c d) : DvR M' c d:=let ⟨x,h1,h2⟩:=h; ⟨x,h1,EntsR.mono hm h2⟩
theorem DvsR.mono {x : SV} {l : List Dv} (h : DvsR M x l) : DvsR M' x l:=let ⟨cs,h1,h2⟩:=h; ⟨cs,h1.mono hm,h2.imp λ_ _ h=>DvR.mono hm h⟩
theorem RepR.mono {c : List SV} {r : Rep} (h : RepR M c r) : RepR M' c r:=let ⟨xe,xa,xs,xd,h1,h2,h3,h4,h5⟩:=h; ⟨xe,xa,xs,xd,h1,EntsR.mono hm h2,IntsR.mono hm h3,IntsR.mono hm h4,DvsR.mono hm h5⟩
theorem MsgR.mono {c : List SV} {m : Msg} (h : MsgR M c m) : MsgR M' c m:=let ⟨xb,xe,h1,h2,h3⟩:=h; ⟨xb,xe,h1,PtsR.mono hm h2,EntsR.mono hm h3⟩
theorem MsgsR.mono {x : SV} {l : List Msg} (h : MsgsR M x l) : MsgsR M' x l:=let ⟨cs,h1,h2⟩:=h; ⟨cs,h1.mono hm,h2.imp λ_ _ h=>MsgR.mono hm h⟩
theorem RdR.mono {c : List SV} {x : Rd} (h : RdR M c x) : RdR M' c x:=let ⟨xa,cm,h1,h2,h3⟩:=h; ⟨xa,cm,h1,IntsR.mono hm h2,MsgR.mono hm h3⟩
end
theorem PtsR.elem {M : Fz} {x : SV} {l : List Pt} (h : PtsR M x l) {i : Nat} (hi : i < l.length) : ∃ id off cap B,x = .osl id off l.length cap 3 ∧ M id = some B ∧ mkd B = false ∧ off + i * 3 + 3 ≤ B.length ∧ (B.drop (off + i * 3)).take 3 = ptC l[i]:=by
  obtain ⟨id,off,cap,B,h1,h2,h3,h4,h5⟩:=Sl.elem h (i:=i) (by simpa using hi)
  exact ⟨id,off,cap,B,by simpa using h1,h2,h3,h4,by simpa using h5⟩
theorem IntsR.elem {M : Fz} {x : SV} {l : List Int} (h : IntsR M x l) {i : Nat} (hi : i < l.length) : ∃ id off cap B,x = .osl id off l.length cap 1 ∧ M id = some B ∧ mkd B = false ∧ off + i * 1 + 1 ≤ B.length ∧ (B.drop (off + i * 1)).take 1 = [I l[i]]:=by
  obtain ⟨id,off,cap,B,h1,h2,h3,h4,h5⟩:=Sl.elem h (i:=i) (by simpa using hi)
  exact ⟨id,off,cap,B,by simpa using h1,h2,h3,h4,by simpa [intC] using h5⟩
theorem EntsR.elem {M : Fz} {x : SV} {l : List Ent} (h : EntsR M x l) {i : Nat} (hi : i < l.length) : ∃ id off cap B b,x = .osl id off l.length cap 5 ∧ M id = some B ∧ mkd B = false ∧ off + i * 5 + 5 ≤ B.length ∧ (B.drop (off + i * 5)).take 5 = entC l[i] b ∧ PtsR M b l[i].batch:=by
  obtain ⟨cs,h1,h2⟩:=h
  have hl:=h2.length
  obtain ⟨id,off,cap,B,g1,g2,g3,g4,g5⟩:=h1.elem (i:=i) (by omega)
  obtain ⟨b,e1,e2⟩:=h2.at (i:=i) (by omega) hi
  exact ⟨id,off,cap,B,b,by rw [← hl]; exact g1,g2,g3,g4,by rw [g5,e1],e2⟩
theorem DvsR.elem {M : Fz} {x : SV} {l : List Dv} (h : DvsR M x l) {i : Nat} (hi : i < l.length) : ∃ id off cap B b,x = .osl id off l.length cap 6 ∧ M id = some B ∧ mkd B = false ∧ off + i * 6 + 6 ≤ B.length ∧ (B.drop (off + i * 6)).take 6 = dvC l[i] b ∧ EntsR M b l[i].log.ents:=by
  obtain ⟨cs,h1,h2⟩:=h
  have hl:=h2.length
  obtain ⟨id,off,cap,B,g1,g2,g3,g4,g5⟩:=h1.elem (i:=i) (by omega)
  obtain ⟨b,e1,e2⟩:=h2.at (i:=i) (by omega) hi
  exact ⟨id,off,cap,B,b,by rw [← hl]; exact g1,g2,g3,g4,by rw [g5,e1],e2⟩
theorem PtsR.len {M : Fz} {x : SV} {l : List Pt} (h : PtsR M x l) : (∀ k,onLen x k = k l.length) ∧ x.isStr = false ∧ x.known = true ∧ x.isMk = false :=
  ⟨λk=>by have:=(Sl.len h (k:=k)).1; simpa using this,(Sl.len h (k:=λ_=>True)).2,(Sl.known h).1,(Sl.known h).2⟩
theorem IntsR.len {M : Fz} {x : SV} {l : List Int} (h : IntsR M x l) : (∀ k,onLen x k = k l.length) ∧ x.isStr = false ∧ x.known = true ∧ x.isMk = false :=
  ⟨λk=>by have:=(Sl.len h (k:=k)).1; simpa using this,(Sl.len h (k:=λ_=>True)).2,(Sl.known h).1,(Sl.known h).2⟩
theorem EntsR.len {M : Fz} {x : SV} {l : List Ent} (h : EntsR M x l) : (∀ k,onLen x k = k l.length) ∧ x.isStr = false ∧ x.known = true ∧ x.isMk = false:=by
  obtain ⟨cs,h1,h2⟩:=h
  exact ⟨λk=>by have:=(Sl.len h1 (k:=k)).1; rw [h2.length] at this; exact this,(Sl.len h1 (k:=λ_=>True)).2,(Sl.known h1).1,(Sl.known h1).2⟩
theorem DvsR.len {M : Fz} {x : SV} {l : List Dv} (h : DvsR M x l) : (∀ k,onLen x k = k l.length) ∧ x.isStr = false ∧ x.known = true ∧ x.isMk = false:=by
  obtain ⟨cs,h1,h2⟩:=h
  exact ⟨λk=>by have:=(Sl.len h1 (k:=k)).1; rw [h2.length] at this; exact this,(Sl.len h1 (k:=λ_=>True)).2,(Sl.known h1).1,(Sl.known h1).2⟩
def okByte (b : Nat) : Bool:=decide (97 ≤ b) && decide (b ≤ 122) || decide (48 ≤ b) && decide (b ≤ 57) || decide (b = 95)
def byteAt (l n i : Nat) : Nat:=n / 256 ^ (l - 1 - i) % 256
def nameB (t : Tx) : Bool:=decide (1 ≤ t.l) && decide (t.l ≤ 12) && (List.range t.l).all λi=>okByte (byteAt t.l t.n i)
def smallB (x : Int) : Bool:=decide (-2147483648 ≤ x) && decide (x ≤ 2147483647)
def countB (x : Int) : Bool:=decide (0 ≤ x) && decide (x ≤ 2147483647)
def ptB (p : Pt) : Bool:=nameB p.series && smallB p.time && smallB p.value
def batchB (l : List Pt) : Bool:=decide (l.length ≤ 8) && l.all ptB
def entB (e : Ent) : Bool:=countB e.view && countB e.client && countB e.session && countB e.number && batchB e.batch && (decide (0 < e.session) || decide (e.batch.length = 0))
def lgB (l : Lg) : Bool:=countB l.base && decide (l.snap.l ≤ 65536) && (decide (l.base ≠ 0) || decide (l.snap.l = 0)) && decide (l.ents.length ≤ 4096) && l.ents.all entB
def last (l : Lg) : Int:=IntKind.i64.wrap (l.base + l.ents.length)
def nodesB (k : Int) : Bool:=decide (k = 1) || decide (k = 3) || decide (k = 5) || decide (k = 7)
def risesB (me k : Int) : Int → List Int → Bool
  | _,[]=>true
  | p,x :: l=>decide (p < x) && decide (x < k) && decide (x ≠ me) && risesB me k x l
def dosB (r : Rep) : Bool:=r.dos.all λd=>lgB d.log && decide (0 ≤ d.normal) && decide (d.normal < r.view) && decide (0 ≤ d.commit)
def repB (r : Rep) : Bool :=
  nodesB r.nodes && decide (0 ≤ r.me) && decide (r.me < r.nodes) && decide (0 ≤ r.status) && decide (r.status ≤ 2) && countB r.view && countB r.normal && countB r.commit &&
  decide (r.normal ≤ r.view) && (decide (r.status ≠ 0) || decide (r.normal = r.view)) && lgB r.log && decide (r.log.base ≤ r.commit) && decide (r.commit ≤ last r.log) &&
  decide ((r.acks.length : Int) = r.nodes) && r.acks.all countB && (decide (r.status = 1) || decide (r.starts.length = 0) && decide (r.dos.length = 0) && !r.sent) &&
  risesB r.me r.nodes (-1) r.starts && risesB r.me r.nodes (-1) (r.dos.map (·.frm)) && dosB r
end Go.Ev.Rp
namespace Go.Ev
set_option linter.unusedVariables false
def Sub (G M : Fz) : Prop:=∀ id B,G id = some B → M id = some B
theorem Sub.refl (M : Fz) : Sub M M:=λ_ _ h=>h
theorem Sub.trans {A B C : Fz} (h : Sub A B) (k : Sub B C) : Sub A C:=λ_ _ g=>k _ _ (h _ _ g)
def From (n : Nat) (M : Fz) : Fz:=λj=>if n ≤ j then M j else none
theorem From.sub {n : Nat} {M : Fz} : Sub (From n M) M:=λid B h=>by unfold From at h; split at h; exact h; cases h
theorem From.mono {n : Nat} {M M' : Fz} (h : Sub M M') : Sub (From n M) (From n M'):=λid B g=>by
  unfold From at g ⊢
  split at g
  · rename_i hle; rw [if_pos hle]; exact h _ _ g
  · cases g
theorem From.le {n m : Nat} {M : Fz} (h : m ≤ n) : Sub (From n M) (From m M):=λid B g=>by
  unfold From at g ⊢
  split at g
  · rename_i hle; rw [if_pos (by omega)]; exact g
  · cases g
theorem From.at {n id : Nat} {M : Fz} {B : List SV} (h : n ≤ id) (g : M id = some B) : From n M id = some B:=by unfold From; rw [if_pos h]; exact g
theorem From.lt {n id : Nat} {M : Fz} {B : List SV} (h : From n M id = some B) : n ≤ id:=by
  unfold From at h; split at h
  · assumption
  · cases h
theorem Gr.sub {fz : Fz} {mu mu' : St} {n n' lo : Nat} (g : Gr lo fz mu mu' n n') (hf : Free fz mu n) (h : n ≤ lo) : Sub (with' mu fz) (with' mu' fz):=λid B hh=>(g.ext id (by have:=hf.lt hh; omega)).trans hh
def SlX (M : Fz) (s : Nat) (x : SV) (es : List (List SV)) : Prop :=
  (x = .nsl ∨ x = .esl) ∧ es = [] ∨
  ∃ id,x = .osl id 0 es.length es.length s ∧ M id = some es.flatten ∧ mkd es.flatten = false ∧ ∀ e ∈ es,e.length = s ∧ knownAll e = true
theorem SlX.mono {M M' : Fz} {s : Nat} {x : SV} {es : List (List SV)} (h : SlX M s x es) (hm : Sub M M') : SlX M' s x es:=by
  rcases h with h | ⟨id,h1,h2,h3⟩
  · exact .inl h
  · exact .inr ⟨id,h1,hm id _ h2,h3⟩
theorem SlX.to {M : Fz} {s : Nat} {x : SV} {es : List (List SV)} (h : SlX M s x es) : Sl M s x es:=by
  rcases h with ⟨h,he⟩ | ⟨id,h1,h2,h3,h4⟩
  · refine .inl ⟨?_,he⟩
    rcases h with h | h
    · exact .inl h
    · exact .inr (.inl h)
  · refine .inr ⟨id,0,es.length,_,h1,Nat.le_refl _,h2,h3,?_,?_,h4⟩
    · rw [flat_length λe he=>(h4 e he).1]; omega
    · rw [List.drop_zero,List.take_of_length_le]; rw [flat_length λe he=>(h4 e he).1]; omega
theorem SlX.len {M : Fz} {s : Nat} {x : SV} {es : List (List SV)} (h : SlX M s x es) : (∀ k,onLen x k = k es.length) ∧ x.isStr = false ∧ x.known = true ∧ x.isMk = false :=
  ⟨λk=>(Sl.len h.to (k:=k)).1,(Sl.len h.to (k:=λ_=>True)).2,(Sl.known h.to).1,(Sl.known h.to).2⟩
theorem knownAll_flat {s : Nat} : ∀ {es : List (List SV)},(∀ e ∈ es,e.length = s ∧ knownAll e = true) → knownAll es.flatten = true
  | [],_=>rfl
  | e :: es,h=>by
    rw [List.flatten_cons,knownAll_app,(h e (by simp)).2,knownAll_flat (es:=es) λx hx=>h x (by simp [hx])]; rfl
theorem known_mk : ∀ {s : SV},s.known = true → s.isMk = false:=fun {s} h=>by cases s <;> first | rfl | cases h
theorem mkd_known : ∀ {l : List SV},knownAll l = true → mkd l = false
  | [],_=>rfl
  | s :: l,h=>by
    rw [knownAll_cons,Bool.and_eq_true] at h
    exact known_mk h.1
theorem onSrc_Sl {M : Fz} {s : Nat} {x : SV} {es : List (List SV)} (h : Sl M s x es) {k : List SV → Nat → Prop} : onSrc M s x k = k es.flatten es.length ∧ knownAll es.flatten = true:=by
  rcases h with ⟨h,rfl⟩ | ⟨id,off,cap,B,rfl,h2,h3,h4,h5,h6,h7⟩
  · rcases h with rfl | rfl | rfl <;> exact ⟨rfl,rfl⟩
  · refine ⟨?_,knownAll_flat h7⟩
    rw [onSrc_osl,show Nat.beq s s = true by simp,h3,onSome_some,h6]
    simp [Need,h4,h5]
theorem onApp_new {mu : St} {n s b : Nat} {x : SV} {es : List (List SV)} {k : KT Prop} (hx : x = .nsl ∨ x = .esl) (hf : fits es.length b = true) (he : ∀ e ∈ es, e.length = s ∧ knownAll e = true)
    (h0 : es = [] → k (.one x) mu n) (h1 : es ≠ [] → k (.one (.osl n 0 es.length es.length s)) ((n,es.flatten) :: mu) (n + 1)) : onApp mu n s b x es.flatten es.length k:=by
  by_cases e : es = []
  · subst e
    rcases hx with rfl | rfl
    · exact h0 rfl
    · exact h0 rfl
  · have hl : es.length ≠ 0:=λh=>e (List.length_eq_zero_iff.1 h)
    rcases hx with rfl | rfl
    · rw [onApp_nsl hl]; exact ⟨hf,h1 e⟩
    · rw [onApp_esl hl]; exact ⟨hf,h1 e⟩
theorem onApp_more {mu : St} {n s b : Nat} {x : SV} {es fs : List (List SV)} {k : KT Prop} {G : Fz} (hx : SlX G s x es) (hG : ∀ id B, G id = some B → look mu id = some B) (hf : fits (es.length + fs.length) b = true) (hfs : fs ≠ []) (he : ∀ e ∈ fs, e.length = s ∧ knownAll e = true)
    (h1 : ∀ mu',(∀ j,j ≠ n → look mu' j = look mu j ∨ ∃ B,G j = some B ∧ (x = .osl j 0 es.length es.length s) ∧ look mu' j = none) → look mu' n = some (es ++ fs).flatten → k (.one (.osl n 0 (es ++ fs).length (es ++ fs).length s)) mu' (n + 1)) : onApp mu n s b x fs.flatten fs.length k:=by
  have hl : fs.length ≠ 0:=λh=>hfs (List.length_eq_zero_iff.1 h)
  rcases hx with ⟨h,rfl⟩ | ⟨id,rfl,h2,h3,h4⟩
  · have hb : k (.one (.osl n 0 fs.length fs.length s)) ((n, fs.flatten) :: mu) (n + 1) := by
      have:=h1 ((n,fs.flatten) :: mu) (λj hj=>.inl (by rw [look_c,if_neg (by omega)])) (by rw [look_c,if_pos rfl]; rfl)
      simpa using this
    rw [List.length_nil,Nat.zero_add] at hf
    rcases h with rfl | rfl
    · rw [onApp_nsl hl]; exact ⟨hf,hb⟩
    · rw [onApp_esl hl]; exact ⟨hf,hb⟩
  · have hlen : es.flatten.length = 0 + es.length * s:=by rw [flat_length λe he=>(h4 e he).1]; omega
    rw [onApp_osl hl (hG _ _ h2) h3 hlen]
    refine ⟨hf,?_⟩
    have:=h1 ((n,(es ++ fs).flatten) :: killS mu id) (λj hj=>?_) (by rw [look_c,if_pos rfl])
    · simpa using this
    · rw [look_c,if_neg (by omega),look_killS]
      by_cases e : id = j
      · subst e; rw [if_pos rfl]; exact .inr ⟨_,h2,rfl,rfl⟩
      · rw [if_neg e]; exact .inl rfl
def blk : SV → Option Nat
  | .osl id _ _ _ _=>some id
  | _=>none
def Ex (x : SV) (M : Fz) : Fz:=λj=>if blk x = some j then none else M j
theorem Ex.at {j : Nat} {x : SV} {M : Fz} {B : List SV} (h2 : blk x ≠ some j) (h : M j = some B) : Ex x M j = some B:=by
  unfold Ex; rw [if_neg h2]; exact h
theorem Ex.el {j : Nat} {x : SV} {M : Fz} {B : List SV} (h : Ex x M j = some B) : blk x ≠ some j ∧ M j = some B:=by
  unfold Ex at h
  split at h
  · cases h
  · rename_i hn; exact ⟨hn,h⟩
theorem Ex.sub {x : SV} {M : Fz} : Sub (Ex x M) M:=λ_ _ h=>(Ex.el h).2
theorem Ex.mono {x : SV} {M M' : Fz} (h : Sub M M') : Sub (Ex x M) (Ex x M'):=λ_ _ hj=>Ex.at (Ex.el hj).1 (h _ _ (Ex.el hj).2)
theorem From.el {n j : Nat} {M : Fz} {B : List SV} (h : From n M j = some B) : n ≤ j ∧ M j = some B:=⟨From.lt h,From.sub _ _ h⟩
def Grow {α : Type} (lo : Nat) (M : Fz) (s : Nat) (R : Fz → List SV → α → Prop) (x : SV) (l : List α) : Prop :=
  ∃ cs,SlX (From lo M) s x cs ∧ All2 (R (Ex x (From lo M))) cs l
theorem Grow.nil {α : Type} {lo : Nat} {M : Fz} {s : Nat} {R : Fz → List SV → α → Prop} : Grow lo M s R .nsl []:=⟨[],.inl ⟨.inl rfl,rfl⟩,trivial⟩
theorem Grow.len {α : Type} {lo : Nat} {M : Fz} {s : Nat} {R : Fz → List SV → α → Prop} {x : SV} {l : List α} (h : Grow lo M s R x l) : (∀ k,onLen x k = k l.length) ∧ x.isStr = false ∧ x.known = true ∧ x.isMk = false:=by
  obtain ⟨cs,h1,h2⟩:=h
  rw [← h2.length]; exact h1.len
theorem with_look {mu : St} {fz : Fz} {id : Nat} (h : fz id = none) : with' mu fz id = look mu id:=by
  rw [with_eq]; cases look mu id with
  | none=>exact h
  | some c=>rfl
theorem with_congr {mu mu' : St} {fz : Fz} {id : Nat} (h : look mu id = look mu' id) : with' mu fz id = with' mu' fz id:=by rw [with_eq,with_eq,h]
theorem Free.fz {fz : Fz} {mu : St} {n : Nat} (h : Free fz mu n) : ∀ j,n ≤ j → fz j = Option.none:=λj hj=>by
  have:=h.none hj
  rw [with_eq] at this
  cases e : Ev.look mu j with
  | none=>rw [e] at this; exact this
  | some c=>rw [e] at this; cases this
theorem Grow.more {α : Type} {R : Fz → List SV → α → Prop} (hR : ∀ {M M' c a}, Sub M M' → R M c a → R M' c a) {lo : Nat} {fz : Fz} {mu mu2 : St} {n n2 s b : Nat} {x : SV} {l : List α} {c : List SV} {a : α} {k : KT Prop}
    (G : Grow lo (with' mu fz) s R x l) (hfr : Free fz mu n) (hlo : lo ≤ n) (hfz : ∀ j,lo ≤ j → fz j = none) (g : Gr n fz mu mu2 n n2)
    (hc : R (From n (with' mu2 fz)) c a) (hcl : c.length = s ∧ knownAll c = true) (hf : fits (l.length + 1) b = true)
    (h1 : ∀ mu3,Gr lo fz mu mu3 n (n2 + 1) → Grow lo (with' mu3 fz) s R (.osl n2 0 (l.length + 1) (l.length + 1) s) (l ++ [a]) → k (.one (.osl n2 0 (l.length + 1) (l.length + 1) s)) mu3 (n2 + 1)) :
    onApp mu2 n2 s b x c 1 k:=by
  obtain ⟨cs,hx,hall⟩:=G
  have hl:=hall.length
  have key : onApp mu2 n2 s b x [c].flatten [c].length k:=by
    refine onApp_more (G:=From lo (with' mu fz)) hx (λid B h=>?_) (by rw [hl]; exact hf) (by simp) (by simpa using hcl) λmu3 ho hn=>?_
    · obtain ⟨h2,h3⟩:=From.el h
      rw [g.own id (hfr.lt h3),← h3,with_look (hfz id h2)]
    · have hkill : ∀ j, j ≠ n2 → (j < lo ∨ blk x ≠ some j ∨ n ≤ j) → look mu3 j = look mu2 j := by
        intro j hj hd
        rcases ho j hj with h | ⟨B,h2,h3,h4⟩
        · exact h
        · exfalso
          obtain ⟨h5,h6⟩:=From.el h2
          have:=hfr.lt h6
          rcases hd with hd | hd | hd
          · omega
          · exact hd (by rw [h3]; rfl)
          · omega
      have hle:=g.le
      have hM3 : with' mu3 fz n2 = some (cs ++ [c]).flatten:=look_with hn
      have hlen : (cs ++ [c]).length = l.length + 1:=by simp [hl]
      rw [hlen]
      refine h1 mu3 ⟨by omega,λid hi=>?_,λid hi=>?_,λj=>?_⟩ ⟨cs ++ [c],?_,hall.imp (λc a h=>hR ?_ h) |>.append ⟨hR ?_ hc,trivial⟩⟩
      · rw [with_congr (hkill id (by omega) (.inl hi))]; exact g.ext id (by omega)
      · rw [hkill id (by omega) (.inl hi)]; exact g.own id (by omega)
      · have h5:=g.free.none (id:=n2 + 1 + j) (by omega)
        rcases ho (n2 + 1 + j) (by omega) with h | ⟨B,h2,h3,h4⟩
        · rw [with_congr h]; exact h5
        · rw [with_eq,h4]; exact hfz _ (by omega)
      · refine .inr ⟨n2,by rw [hlen],From.at (by omega) hM3,?_,?_⟩
        · rcases hx with ⟨_,rfl⟩ | ⟨id,_,_,_,h4⟩
          · simpa using mkd_known hcl.2
          · refine mkd_known (knownAll_flat (s:=s) λe he=>?_)
            rcases List.mem_append.1 he with he | he
            · exact h4 e he
            · rw [List.mem_singleton.1 he]; exact hcl
        · intro e he
          rcases List.mem_append.1 he with he | he
          · rcases hx with ⟨_,rfl⟩ | ⟨id,_,_,_,h4⟩
            · cases he
            · exact h4 e he
          · rw [List.mem_singleton.1 he]; exact hcl
      · intro j B h
        obtain ⟨h3,h4⟩:=Ex.el h
        obtain ⟨h5,h6⟩:=From.el h4
        have h7:=hfr.lt h6
        refine Ex.at (λe=>?_) (From.at h5 ?_)
        · have : n2 = j:=by simpa [blk] using e
          omega
        · rw [with_congr (hkill j (by omega) (.inr (.inl h3))),g.ext j h7]; exact h6
      · intro j B h
        obtain ⟨h5,h6⟩:=From.el h
        have h7:=g.free.lt h6
        refine Ex.at (λe=>?_) (From.at (by omega) ?_)
        · have : n2 = j:=by simpa [blk] using e
          omega
        · rw [with_congr (hkill j (by omega) (.inr (.inr h5)))]; exact h6
  simpa using key
theorem Grow.mono {α : Type} {R : Fz → List SV → α → Prop} (hR : ∀ {M M' c a},Sub M M' → R M c a → R M' c a) {lo : Nat} {M M' : Fz} {s : Nat} {x : SV} {l : List α} (G : Grow lo M s R x l) (h : Sub (From lo M) (From lo M')) : Grow lo M' s R x l:=by
  obtain ⟨cs,hx,hall⟩:=G
  exact ⟨cs,hx.mono h,hall.imp λc a hh=>hR (Ex.mono h) hh⟩
theorem From.put {lo : Nat} {fz : Fz} {mu : St} {ob : Nat} {d d' : List SV} (ho : ob < lo) (h : look mu ob = some d) : Sub (From lo (with' mu fz)) (From lo (with' (putS mu ob d') fz)):=λj B hj=>by
  obtain ⟨h5,h6⟩:=From.el hj
  exact From.at h5 (by rw [with_putS h,if_neg (by omega)]; exact h6)
theorem app_empty {fz : Fz} {mu : St} {n s b : Nat} {fs : List (List SV)} {k : KT Prop} (hfr : Free fz mu n) (hf : fits fs.length b = true) (he : ∀ e ∈ fs, e.length = s ∧ knownAll e = true)
    (h : ∀ x mu' n',Gr n fz mu mu' n n' → SlX (From n (with' mu' fz)) s x fs → k (.one x) mu' n') : onApp ((n,[]) :: mu) (n + 1) s b (.osl n 0 0 0 s) fs.flatten fs.length k:=by
  have g1 : Gr n fz mu ((n,[]) :: mu) n (n + 1):=(Gr.refl hfr).cons (Nat.le_refl _) _
  by_cases e : fs = []
  · subst e
    show onApp ((n,[]) :: mu) (n + 1) s b (.osl n 0 0 0 s) [] 0 k
    rw [onApp_osl0]
    exact h _ _ _ g1 (.inr ⟨n,rfl,From.at (Nat.le_refl _) (by rw [with_c,if_pos rfl]; rfl),rfl,λe he=>by cases he⟩)
  · refine onApp_more (G:=From n (with' ((n,[]) :: mu) fz)) (es:=[]) (.inr ⟨n,rfl,From.at (Nat.le_refl _) (by rw [with_c,if_pos rfl]; rfl),rfl,λe he=>by cases he⟩) (λid B hh=>?_) (by simpa using hf) e he λmu3 ho hn=>?_
    · obtain ⟨h1,h2⟩:=From.el hh
      rw [← h2,with_look (hfr.fz id h1)]
    · have hs : ∀ j, j < n → look mu3 j = look mu j := fun j hj => by
        rcases ho j (by omega) with h1 | ⟨B,h1,-⟩
        · rw [h1,look_c,if_neg (by omega)]
        · have:=From.lt h1; omega
      refine h _ _ _ ⟨by omega,λid hi=>with_congr (hs id hi),λid hi=>hs id hi,λj=>?_⟩ (.inr ⟨n + 1,rfl,From.at (by omega) (look_with hn),mkd_known (knownAll_flat he),he⟩)
      rcases ho (n + 1 + 1 + j) (by omega) with h1 | ⟨B,h1,h2,h3⟩
      · rw [with_congr h1]; exact g1.free.none (by omega)
      · rw [with_eq,h3]; exact hfr.fz _ (by omega)
theorem with_putI {mu : St} {fz : Fz} {id j : Nat} {c : List SV} (h : (look mu id).isSome = true) : with' (putS mu id c) fz j = if id = j then some c else with' mu fz j:=by
  obtain ⟨d,hd⟩:=Option.isSome_iff_exists.1 h
  exact with_putS hd
theorem putS_putS {id : Nat} {c d : List SV} : ∀ {mu : St},putS (putS mu id c) id d = putS mu id d
  | []=>rfl
  | (i,e) :: mu=>by
    rw [putS_c,putS_c]
    by_cases h : i = id
    · rw [if_pos h,if_pos h,putS_c,if_pos h]
    · rw [if_neg h,if_neg h,putS_c,if_neg h,putS_putS]
theorem Grow.weaken {α : Type} {R : Fz → List SV → α → Prop} (hR : ∀ {M M' c a},Sub M M' → R M c a → R M' c a) {lo lo' : Nat} {M : Fz} {s : Nat} {x : SV} {l : List α} (h : lo' ≤ lo) (G : Grow lo M s R x l) : Grow lo' M s R x l:=by
  obtain ⟨cs,hx,hall⟩:=G
  exact ⟨cs,hx.mono (From.le h),hall.imp λc a hh=>hR (Ex.mono (From.le h)) hh⟩
theorem Ctr.mono {P : Program} {f : Nat} {args : List AV} {pre : Fz → Prop} {post post' : Nat → Nat → Fz → AV → Prop} (h : Ctr P f args pre post) (hp : ∀ n n' M v,post n n' M v → post' n n' M v) : Ctr P f args pre post' :=
  λfz mu n k hf hpre hk=>h fz mu n k hf hpre λv mu' n' g hpost=>hk v mu' n' g (hp _ _ _ _ hpost)
theorem lookI {mu : St} {id : Nat} {c : List SV} (h : look mu id = some c) : (look mu id).isSome = true:=by rw [h]; rfl
end Go.Ev
namespace Go.Ev
set_option linter.unusedVariables false
def Tag (o : Nat → Nat) (t : Nat) (M : Fz) : Fz:=λj=>if o j = t then M j else none
theorem Tag.at {o : Nat → Nat} {t j : Nat} {M : Fz} {B : List SV} (h : o j = t) (g : M j = some B) : Tag o t M j = some B:=by unfold Tag; rw [if_pos h]; exact g
theorem Tag.el {o : Nat → Nat} {t j : Nat} {M : Fz} {B : List SV} (h : Tag o t M j = some B) : o j = t ∧ M j = some B:=by
  unfold Tag at h
  split at h
  · rename_i e; exact ⟨e,h⟩
  · cases h
theorem Tag.sub {o : Nat → Nat} {t : Nat} {M : Fz} : Sub (Tag o t M) M:=λ_ _ h=>(Tag.el h).2
theorem Tag.mono {o : Nat → Nat} {t : Nat} {M M' : Fz} (h : Sub M M') : Sub (Tag o t M) (Tag o t M'):=λ_ _ g=>Tag.at (Tag.el g).1 (h _ _ (Tag.el g).2)
def tagN (o : Nat → Nat) (n : Nat) (τ : Nat → Nat) : Nat → Nat:=λj=>if j < n then o j else τ j
theorem tagN_lt {o τ : Nat → Nat} {n j : Nat} (h : j < n) : tagN o n τ j = o j:=by unfold tagN; rw [if_pos h]
theorem tagN_ge {o τ : Nat → Nat} {n j : Nat} (h : n ≤ j) : tagN o n τ j = τ j:=by unfold tagN; rw [if_neg (by omega)]
theorem Tag.old {o τ : Nat → Nat} {t n : Nat} {fz : Fz} {mu mu' : St} (hf : Free fz mu n) (h : Sub (with' mu fz) (with' mu' fz)) : Sub (Tag o t (with' mu fz)) (Tag (tagN o n τ) t (with' mu' fz)):=λj B g=>by
  obtain ⟨g1,g2⟩:=Tag.el g
  exact Tag.at (by rw [tagN_lt (hf.lt g2)]; exact g1) (h _ _ g2)
theorem Tag.new {o τ : Nat → Nat} {t n : Nat} {M : Fz} (h : ∀ j,n ≤ j → τ j = t) : Sub (From n M) (Tag (tagN o n τ) t M):=λj B g=>by
  obtain ⟨g1,g2⟩:=From.el g
  exact Tag.at (by rw [tagN_ge g1]; exact h j g1) g2
theorem Tag.put {o : Nat → Nat} {t id : Nat} {fz : Fz} {mu : St} {c : List SV} (h : (look mu id).isSome = true) (ho : o id ≠ t) : Sub (Tag o t (with' mu fz)) (Tag o t (with' (putS mu id c) fz)):=λj B g=>by
  obtain ⟨g1,g2⟩:=Tag.el g
  exact Tag.at g1 (by rw [with_putI h,if_neg (by rintro rfl; exact ho g1)]; exact g2)
def splitT (x : SV) (a b : Nat) : Nat → Nat:=λj=>if blk x = some j then a else b
theorem Grow.tag {α : Type} {R : Fz → List SV → α → Prop} (hR : ∀ {M M' c a}, Sub M M' → R M c a → R M' c a) {lo : Nat} {M : Fz} {s : Nat} {x : SV} {l : List α} (G : Grow lo M s R x l) {o : Nat → Nat} {a b : Nat} :
    ∃ cs,SlX (Tag (tagN o lo (splitT x a b)) a M) s x cs ∧ All2 (R (Tag (tagN o lo (splitT x a b)) b M)) cs l:=by
  obtain ⟨cs,h1,h2⟩:=G
  refine ⟨cs,?_,h2.imp λc d h=>hR (λj B g=>?_) h⟩
  · rcases h1 with h1 | ⟨id,g1,g2,g3⟩
    · exact .inl h1
    · obtain ⟨g4,g5⟩:=From.el g2
      exact .inr ⟨id,g1,Tag.at (by rw [tagN_ge g4]; unfold splitT; rw [if_pos (by rw [g1]; rfl)]) g5,g3⟩
  · obtain ⟨g1,g2⟩:=Ex.el g
    obtain ⟨g3,g4⟩:=From.el g2
    exact Tag.at (by rw [tagN_ge g3]; unfold splitT; rw [if_neg g1]) g4
theorem flat_over {s : Nat} : ∀ {es : List (List SV)} {i k : Nat} {vs : List SV},(∀ e ∈ es,e.length = s) → (hi : i < es.length) → k + vs.length ≤ s → over es.flatten (i * s + k) vs = (es.set i (over es[i] k vs)).flatten
  | [],i,_,_,_,h,_=>by simp at h
  | e :: es,0,k,vs,hl,_,hk=>by
    have he:=hl e (by simp)
    simp only [Nat.zero_mul,Nat.zero_add,List.flatten_cons,List.set_cons_zero,List.getElem_cons_zero,over]
    rw [List.take_append,List.drop_append,show k - e.length = 0 by omega,show k + vs.length - e.length = 0 by omega]
    simp
  | e :: es,i + 1,k,vs,hl,hi,hk=>by
    have he:=hl e (by simp)
    have ih:=flat_over (es:=es) (i:=i) (k:=k) (vs:=vs) (λx hx=>hl x (by simp [hx])) (by simpa using hi) hk
    simp only [List.flatten_cons,List.set_cons_succ,List.getElem_cons_succ]
    rw [← ih,show (i + 1) * s + k = e.length + (i * s + k) by rw [Nat.add_mul,he]; omega]
    simp only [over]
    rw [List.take_append,List.drop_append,List.take_of_length_le (by omega),List.drop_eq_nil_of_le (by omega),show e.length + (i * s + k) - e.length = i * s + k by omega,show e.length + (i * s + k) + vs.length - e.length = i * s + k + vs.length by omega]
    simp
theorem flat_sub {s : Nat} : ∀ {es : List (List SV)} {i k m : Nat},(∀ e ∈ es,e.length = s) → (hi : i < es.length) → k + m ≤ s → (es.flatten.drop (i * s + k)).take m = (es[i].drop k).take m
  | [],i,_,_,_,h,_=>by simp at h
  | e :: es,0,k,m,hl,_,hk=>by
    have he:=hl e (by simp)
    simp only [Nat.zero_mul,Nat.zero_add,List.flatten_cons,List.getElem_cons_zero]
    rw [List.drop_append,show k - e.length = 0 by omega,List.drop_zero,List.take_append,show m - (e.drop k).length = 0 by simp; omega]
    simp
  | e :: es,i + 1,k,m,hl,hi,hk=>by
    have he:=hl e (by simp)
    have ih:=flat_sub (es:=es) (i:=i) (k:=k) (m:=m) (λx hx=>hl x (by simp [hx])) (by simpa using hi) hk
    simp only [List.flatten_cons,List.getElem_cons_succ]
    rw [← ih,show (i + 1) * s + k = e.length + (i * s + k) by rw [Nat.add_mul,he]; omega,List.drop_append,List.drop_eq_nil_of_le (by omega),show e.length + (i * s + k) - e.length = i * s + k by omega]
    simp
theorem All2.set {α β : Type} {R : α → β → Prop} : ∀ {x : List α} {y : List β} {i : Nat} {a : α},All2 R x y → (∀ b,y[i]? = some b → R a b) → All2 R (x.set i a) y
  | [],[],_,_,_,_=>trivial
  | [],_ :: _,_,_,h,_=>h.elim
  | _ :: _,[],_,_,h,_=>h.elim
  | x :: xs,y :: ys,0,a,h,hb=>⟨hb y rfl,h.2⟩
  | x :: xs,y :: ys,i + 1,a,h,hb=>⟨h.1,All2.set h.2 λb hh=>hb b (by simpa using hh)⟩
section
variable {P : Program} {f : Nat} {args : List AV} {fz : Fz} {mu : St} {n : Nat} {k : KT Prop} {w : WK k} {c d e : List SV}
theorem CPr.abs1 (hfr : Free fz mu n) (h : ∀ mu1 n1,Gr n fz mu mu1 n n1 → n + 1 ≤ n1 → look mu1 n = some c → CPr P f args fz mu1 n1 k w) : CPr P f args fz ((n,c) :: mu) (n + 1) k w :=
  h _ _ ((Gr.refl hfr).cons (Nat.le_refl _) _) (Nat.le_refl _) (by rw [look_c,if_pos rfl])
theorem CPr.abs2 (hfr : Free fz mu n) (h : ∀ mu1 n1,Gr n fz mu mu1 n n1 → n + 2 ≤ n1 → look mu1 n = some c → look mu1 (n + 1) = some d → CPr P f args fz mu1 n1 k w) : CPr P f args fz ((n + 1,d) :: (n,c) :: mu) (n + 1 + 1) k w :=
  h _ _ (((Gr.refl hfr).cons (Nat.le_refl _) _).cons (by omega) _) (Nat.le_refl _) (by rw [look_c,if_neg (by omega),look_c,if_pos rfl]) (by rw [look_c,if_pos rfl])
theorem CPr.abs3 (hfr : Free fz mu n) (h : ∀ mu1 n1,Gr n fz mu mu1 n n1 → n + 3 ≤ n1 → look mu1 n = some c → look mu1 (n + 1) = some d → look mu1 (n + 2) = some e → CPr P f args fz mu1 n1 k w) : CPr P f args fz ((n + 1 + 1,e) :: (n + 1,d) :: (n,c) :: mu) (n + 1 + 1 + 1) k w :=
  h _ _ ((((Gr.refl hfr).cons (Nat.le_refl _) _).cons (by omega) _).cons (by omega) _) (Nat.le_refl _) (by rw [look_c,if_neg (by omega),look_c,if_neg (by omega),look_c,if_pos rfl]) (by rw [look_c,if_neg (by omega),look_c,if_pos rfl]) (by rw [look_c,if_pos rfl])
end
def Ids (a : St) (lo hi : Nat) : Prop:=∀ id,look a id ≠ none → lo ≤ id ∧ id < hi
theorem look_swap {a b m : St} {id : Nat} (h : look a id ≠ none → look b id = none) : look (a ++ (b ++ m)) id = look (b ++ (a ++ m)) id:=by
  rw [look_append,look_append,look_append,look_append]
  cases ea : look a id with
  | none=>cases look b id <;> rfl
  | some c=>rw [h (by rw [ea]; simp)]
theorem look_under {a m m' : St} {id : Nat} (h : look m id = look m' id) : look (a ++ m) id = look (a ++ m') id:=by rw [look_append,look_append,h]
theorem Ids.apart {a b : St} {l1 h1 l2 h2 id : Nat} (ha : Ids a l1 h1) (hb : Ids b l2 h2) (h : h1 ≤ l2 ∨ h2 ≤ l1) (hn : look a id ≠ none) : look b id = none:=by
  have:=ha id hn
  cases eb : look b id with
  | none=>rfl
  | some c=>have:=hb id (by rw [eb]; simp); omega
theorem Gr.congr {lo : Nat} {fz : Fz} {mu mu1 mu2 : St} {n n' : Nat} (g : Gr lo fz mu mu1 n n') (h : ∀ id,look mu2 id = look mu1 id) : Gr lo fz mu mu2 n n' :=
  ⟨g.le,λid hi=>by rw [with_congr (h id)]; exact g.ext id hi,λid hi=>by rw [h]; exact g.own id hi,λj=>by rw [with_congr (h _)]; exact g.free j⟩
theorem with_fun {mu1 mu2 : St} {fz : Fz} (h : ∀ id,look mu2 id = look mu1 id) : with' mu2 fz = with' mu1 fz:=by funext id; exact with_congr (h id)
theorem Ctr.d4 {P : Program} {f : Nat} {args : List AV} {pre : Fz → Prop} {post : Nat → Nat → Fz → AV → Prop} {fz : Fz} {mu : St} {n : Nat} {k : KT Prop} (h : Ctr P f args pre post) {w : WK k} (hf : Free fz mu n) (hp : pre (with' mu fz))
    (hk : ∀ v new n',Gr n fz mu (new ++ mu) n n' → Ids new n n' → post n n' (with' (new ++ mu) fz) v → k v new n') : CPr P f args (with' mu fz) [] n k w :=
  h.d1 hf hp λv new n' hg hpost=>hk v new n' (hg.join hf (Nat.le_refl _)) (λid hn=>by
    refine ⟨?_,?_⟩
    · rcases Nat.lt_or_ge id n with h1 | h1
      · exfalso; exact hn (hg.own id h1)
      · exact h1
    · rcases Nat.lt_or_ge id n' with h1 | h1
      · exact h1
      · exfalso
        refine hn ?_
        have:=hg.free.none h1
        rw [with_eq] at this
        cases e : look new id with
        | none=>rfl
        | some c=>rw [e] at this; cases this) (by rw [with_append]; exact hpost)
end Go.Ev
namespace Go.Ev
set_option linter.unusedVariables false
structure Imp (w : World) (n : Nat) (fz : Fz) (ρ : Rho) : Prop where
  fr : ∀ id,n ≤ id → fz id = none ∧ ρ id = none
  own : ∀ id cs,fz id = some cs → OwnR v0 ρ w id cs
theorem Imp.nil (w : World) : Imp w 0 (λ_=>none) (λ_=>none):=⟨λ_ _=>⟨rfl,rfl⟩,λ_ _ h=>by cases h⟩
theorem Imp.rel {w : World} {n : Nat} {fz : Fz} {ρ : Rho} (h : Imp w n fz ρ) : Rel v0 ρ fz [] w :=
  ⟨λid cs hh=>.inl (h.own id cs hh),λid cs h=>(by cases h),λid cs h=>(by cases h),λid id' p p' h=>(by cases h)⟩
theorem Imp.free {w : World} {n : Nat} {fz : Fz} {ρ : Rho} (h : Imp w n fz ρ) : Free fz [] n:=λj=>(h.fr _ (by omega)).1
theorem Imp.fresh {w : World} {n n' : Nat} {fz : Fz} {ρ : Rho} (h : Imp w n fz ρ) : FreshN ρ n n':=λid h1 _=>(h.fr id h1).2
structure ImpX (n : Nat) (fz : Fz) (ρ : Rho) (n' : Nat) (fz' : Fz) (ρ' : Rho) : Prop where
  le : n ≤ n'
  fz : Sub fz fz'
  rho : ∀ id p,ρ id = some p → ρ' id = some p
theorem ImpX.refl {n : Nat} {fz : Fz} {ρ : Rho} : ImpX n fz ρ n fz ρ:=⟨Nat.le_refl _,Sub.refl _,λ_ _ h=>h⟩
theorem ImpX.trans {n n' n'' : Nat} {fz fz' fz'' : Fz} {ρ ρ' ρ'' : Rho} (h : ImpX n fz ρ n' fz' ρ') (k : ImpX n' fz' ρ' n'' fz'' ρ'') : ImpX n fz ρ n'' fz'' ρ'' :=
  ⟨Nat.le_trans h.le k.le,h.fz.trans k.fz,λ_ _ g=>k.rho _ _ (h.rho _ _ g)⟩
theorem ImpX.vr {n n' : Nat} {fz fz' : Fz} {ρ ρ' : Rho} (h : ImpX n fz ρ n' fz' ρ') {w : World} {s : SV} {v : Value} (g : VR v0 ρ w s v) : VR v0 ρ' w s v:=g.mono h.rho λ_=>Nat.le_refl _
theorem ImpX.vrs {n n' : Nat} {fz fz' : Fz} {ρ ρ' : Rho} (h : ImpX n fz ρ n' fz' ρ') {w : World} {s : List SV} {v : List Value} (g : All2 (VR v0 ρ w) s v) : All2 (VR v0 ρ' w) s v:=g.imp λ_ _ g=>h.vr g
def Im (w : World) (n : Nat) (fz : Fz) (ρ : Rho) (vs : List Value) (q : Fz → List SV → Prop) : Prop :=
  ∃ n' fz' ρ' c,Imp w n' fz' ρ' ∧ ImpX n fz ρ n' fz' ρ' ∧ All2 (VR v0 ρ' w) c vs ∧ knownAll c = true ∧ q fz' c
theorem Im.seq {w : World} {n : Nat} {fz : Fz} {ρ : Rho} {vs us : List Value} {q r : Fz → List SV → Prop} (hq : ∀ {M M' c}, Sub M M' → q M c → q M' c) (h : Im w n fz ρ vs q) (k : ∀ n fz ρ, Imp w n fz ρ → Im w n fz ρ us r) :
    Im w n fz ρ (vs ++ us) λM c=>∃ a b,c = a ++ b ∧ q M a ∧ r M b:=by
  obtain ⟨n1,fz1,ρ1,a,h1,h2,h3,h4,h5⟩:=h
  obtain ⟨n2,fz2,ρ2,b,k1,k2,k3,k4,k5⟩:=k n1 fz1 ρ1 h1
  exact ⟨n2,fz2,ρ2,a ++ b,k1,h2.trans k2,(k2.vrs h3).append k3,by rw [knownAll_app,h4,k4]; rfl,a,b,rfl,hq k2.fz h5,k5⟩
theorem Im.one {w : World} {n : Nat} {fz : Fz} {ρ : Rho} (h : Imp w n fz ρ) {c : List SV} {vs : List Value} (hv : ∀ ρ,All2 (VR v0 ρ w) c vs) (hk : knownAll c = true) : Im w n fz ρ vs λ_ d=>d = c :=
  ⟨n,fz,ρ,c,h,.refl,hv ρ,hk,rfl⟩
theorem Im.mono {w : World} {n : Nat} {fz : Fz} {ρ : Rho} {vs : List Value} {q r : Fz → List SV → Prop} (h : Im w n fz ρ vs q) (hq : ∀ M c,q M c → r M c) : Im w n fz ρ vs r :=
  let ⟨n',fz',ρ',c,h1,h2,h3,h4,h5⟩:=h; ⟨n',fz',ρ',c,h1,h2,h3,h4,hq _ _ h5⟩
theorem imp_slice {w : World} {s : Nat} (hs : 0 < s) {a : Addr} {len cap : Nat} {C : Nat → List Value} (hcells : ∀ i, i < cap → w.cells? 0 (a.add (i * s)) s = some (C i)) (hle : len ≤ cap) (hcap : cap ≤ maxLen)
    {El : Fz → List SV → Nat → Prop} (hm : ∀ {M M' c i},Sub M M' → El M c i → El M' c i) (hel : ∀ i,i < len → ∀ n fz ρ,Imp w n fz ρ → Im w n fz ρ (C i) λM c=>El M c i)
    {n : Nat} {fz : Fz} {ρ : Rho} (h : Imp w n fz ρ) : Im w n fz ρ [.slice (some a) len cap] λM c=>∃ x css,c = [x] ∧ Sl M s x css ∧ css.length = len ∧ ∀ i (hi : i < css.length),El M css[i] i:=by
  have hlen : ∀ i,i < cap → (C i).length = s:=λi hi=>by
    have:=hcells i hi
    unfold World.cells? at this
    rw [if_pos (Nat.zero_le _)] at this
    have:=Go.mapM_some_length this
    simpa using this
  have hcell : ∀ i j,i < cap → j < s → w.cell? ((a.add (i * s)).add j) = (C i)[j]?:=λi j hi hj=>by
    have:=hcells i hi
    unfold World.cells? at this
    rw [if_pos (Nat.zero_le _)] at this
    exact Go.mapM_some_get this j j (by simp [hj])
  -- the elements
  have key : ∀ m,m ≤ len → ∃ (n' : Nat) (fz' : Fz) (ρ' : Rho) (css : List (List SV)),Imp w n' fz' ρ' ∧ ImpX n fz ρ n' fz' ρ' ∧ css.length = m ∧ (∀ i (hi : i < css.length),All2 (VR v0 ρ' w) css[i] (C i)) ∧ (∀ i (hi : i < css.length),knownAll css[i] = true) ∧ ∀ i (hi : i < css.length),El fz' css[i] i:=by
    intro m
    induction m with
    | zero=>exact λ_=>⟨n,fz,ρ,[],h,.refl,rfl,λi hi=>(by simp at hi),λi hi=>(by simp at hi),λi hi=>(by simp at hi)⟩
    | succ m ih =>
      intro hm1
      obtain ⟨n1,fz1,ρ1,css,g1,g2,g3,g4,g5,g6⟩:=ih (by omega)
      obtain ⟨n2,fz2,ρ2,c,k1,k2,k3,k4,k5⟩:=hel m (by omega) n1 fz1 ρ1 g1
      refine ⟨n2,fz2,ρ2,css ++ [c],k1,g2.trans k2,by simp [g3],λi hi=>?_,λi hi=>?_,λi hi=>?_⟩
      all_goals
        rcases Nat.lt_or_ge i css.length with h1 | h1
        · rw [List.getElem_append_left h1]
          first | exact k2.vrs (g4 i h1) | exact g5 i h1 | exact hm k2.fz (g6 i h1)
        · have : i = m:=by simp at hi; omega
          subst this
          rw [List.getElem_append_right h1]
          simp only [g3,Nat.sub_self,List.getElem_cons_zero]
          first | exact k3 | exact k4 | exact k5
  obtain ⟨n1,fz1,ρ1,css,g1,g2,g3,g4,g5,g6⟩:=key len (Nat.le_refl _)
  rcases Nat.eq_zero_or_pos len with h0 | h0
  · subst h0
    exact ⟨n1,fz1,ρ1,[.zsl],g1,g2,⟨⟨a,cap,rfl⟩,trivial⟩,rfl,.zsl,css,rfl,.inl ⟨.inr (.inr rfl),List.length_eq_zero_iff.1 g3⟩,g3,g6⟩
  · have hls : ∀ e ∈ css, e.length = s ∧ knownAll e = true := fun e he => by
      obtain ⟨i,hi,rfl⟩:=List.getElem_of_mem he
      exact ⟨by rw [(g4 i hi).length,hlen i (by omega)],g5 i hi⟩
    have hfl : css.flatten.length = len * s:=by rw [flat_length λe he=>(hls e he).1,g3]
    -- the block
    obtain ⟨B,ty,fr,hB,hsp⟩ : ∃ B ty fr,w.heap[a.block]? = some (.cells B ty fr) ∧ a.spot = none:=by
      have:=hcell 0 0 (by omega) hs
      rw [List.getElem?_eq_getElem (by rw [hlen 0 (by omega)]; exact hs),Nat.zero_mul] at this
      have ha : (a.add 0).add 0 = a:=by simp [Addr.add]
      rw [ha] at this
      unfold World.cell? at this
      split at this
      · rename_i c t f hc
        refine ⟨c,t,f,hc,?_⟩
        split at this
        · cases this
        · rename_i hns; simpa using hns
      · cases this
    have hadd : ∀ k,a.add k = ⟨a.block,a.off + k,none⟩:=λk=>by
      cases a with | mk b o sp =>
      simp only at hsp
      subst hsp
      simp only [Addr.add]
      split
      · rename_i h; subst h; rfl
      · rfl
    have hB2 : ∀ i j,i < cap → j < s → B[a.off + (i * s + j)]? = (C i)[j]?:=λi j hi hj=>by
      rw [← hcell i j hi hj,hadd]
      have : (⟨a.block,a.off + i * s,none⟩ : Addr).add j = ⟨a.block,a.off + i * s + j,none⟩:=by
        simp only [Addr.add]
        split
        · rename_i h; subst h; rfl
        · rfl
      rw [this,Nat.add_assoc]
      simp only [World.cell?,hB]
      rfl
    have hsz : a.off + cap * s ≤ B.size:=by
      have h1:=hB2 (cap - 1) (s - 1) (by omega) (by omega)
      rw [List.getElem?_eq_getElem (by rw [hlen _ (by omega)]; omega)] at h1
      have h2:=(Array.getElem?_eq_some_iff.1 h1).1
      have h3 : (cap - 1) * s + (s - 1) + 1 = cap * s:=by
        obtain ⟨c,rfl⟩ : ∃ c,cap = c + 1:=⟨cap - 1,by omega⟩
        rw [Nat.add_sub_cancel,Nat.add_mul]; omega
      omega
    have hdiv : ∀ k,k < len * s → k / s < len ∧ k % s < s ∧ k = k / s * s + k % s:=λk hk=>⟨Nat.div_lt_of_lt_mul (by rw [Nat.mul_comm]; exact hk),Nat.mod_lt _ hs,by rw [Nat.mul_comm]; exact (Nat.div_add_mod k s).symm⟩
    let ρ2 : Rho:=upd ρ1 n1 (a.block,a.off)
    let fz2 : Fz:=λid=>if id = n1 then some css.flatten else fz1 id
    have hup : ∀ id p,ρ1 id = some p → ρ2 id = some p:=λid p hp=>upd_old (p:=(a.block,a.off)) (g1.fr n1 (Nat.le_refl _)).2 id p hp
    have hx : ImpX n1 fz1 ρ1 (n1 + 1) fz2 ρ2:=⟨by omega,λid B hb=>by
      show (if id = n1 then _ else _) = _
      rw [if_neg (λe=>by subst e; rw [(g1.fr id (Nat.le_refl _)).1] at hb; cases hb)]; exact hb,hup⟩
    refine ⟨n1 + 1,fz2,ρ2,[.osl n1 0 len len s],⟨λid hi=>⟨?_,?_⟩,λid cs hcs=>?_⟩,g2.trans hx,⟨⟨(a.block,a.off),cap,upd_same _ _ _,?_,Nat.le_refl _,hle,?_,?_⟩,trivial⟩,rfl,_,css,rfl,.inr ⟨n1,0,len,css.flatten,by rw [g3],by omega,?_,mkd_known (knownAll_flat hls),by rw [hfl,g3]; omega,?_,hls⟩,g3,λi hi=>hm hx.fz (g6 i hi)⟩
    · show (if id = n1 then _ else _) = none
      rw [if_neg (by omega)]; exact (g1.fr id (by omega)).1
    · show upd ρ1 n1 _ id = none
      unfold upd; rw [if_neg (by omega)]; exact (g1.fr id (by omega)).2
    · have hcs' : (if id = n1 then some css.flatten else fz1 id) = some cs:=hcs
      split at hcs'
      · rename_i e
        subst e
        cases hcs'
        refine ⟨(a.block,a.off),B,ty,fr,upd_same _ _ _,hB,?_,λk sv hk=>?_⟩
        · show a.off + css.flatten.length ≤ B.size
          have : len * s ≤ cap * s:=Nat.mul_le_mul_right _ hle
          omega
        · have hkl : k < len * s:=by rw [← hfl]; exact (List.getElem?_eq_some_iff.1 hk).1
          obtain ⟨d1,d2,d3⟩:=hdiv k hkl
          have hci : k / s < css.length:=by omega
          have h1:=flat_sub (es:=css) (i:=k / s) (k:=k % s) (m:=1) (λe he=>(hls e he).1) hci (by omega)
          rw [← d3] at h1
          have h2 : css.flatten[k]? = (css[k / s])[k % s]?:=by
            have:=congrArg List.head? h1
            rwa [List.head?_take,List.head?_take,if_neg (by omega),if_neg (by omega),List.head?_drop,List.head?_drop] at this
          rw [h2] at hk
          obtain ⟨v,hv,hr⟩:=(g4 _ hci).get hk
          refine ⟨v,?_,VR.mono hr hup λ_=>Nat.le_refl _⟩
          rw [show (a.block,a.off).2 + k = a.off + (k / s * s + k % s) by show a.off + k = _; omega,hB2 _ _ (by omega) d2]; exact hv
      · exact OwnR.mono (g1.own id cs hcs') hup (λ_=>Nat.le_refl _) λ_ _=>rfl
    · show Value.slice (some a) len cap = .slice (some ⟨a.block,a.off + 0,none⟩) len cap
      rw [← hadd 0]; rfl
    · show a.off + 0 + cap * s ≤ bsize w a.block
      unfold bsize; rw [hB]; show _ ≤ B.size; omega
    · unfold maxLen at hcap; omega
    · show (if n1 = n1 then some css.flatten else fz1 n1) = some _
      rw [if_pos rfl]
    · rw [List.drop_zero,List.take_of_length_le]
      rw [hfl,g3]; omega
end Go.Ev
