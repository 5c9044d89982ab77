/-
  Operations over an environment of temporaries are the evaluator's.
-/
import Derived.Test.YtmnkmmfjekcinaaGreatEvE2
set_option linter.unusedVariables false
set_option linter.unusedSimpArgs false
namespace Go.Ev

/-- What the check unfolds first is to stand above all that is run: the kernel unfolds what stands higher. -/
noncomputable def tall : Unit := (fun (_ : Orc RR → CallT RR → Fz → St → Nat → Bool → AOp → KT RR → RR) (_ : Orc RR → (Nat → Option (Contract RR)) → (Nat → Option HFunc) → Nat → CallT RR) (_ : OF → List Nat → Nat → Fz → St → List St → Nat → (AV → List St → Nat → RR) → RR) (_ : List St → St → (St → RR) → RR) (_ : ST) => ()) qOth hcall dr1 joinAll se0_0
/-- A value; pl: it is plain already. -/
inductive EV where
  | pl (v : AV)
  | fr (v : AV)
def EV.val (x : EV) : AV := match x with
  | .pl v => v
  | .fr v => v
abbrev Env := Nat → EV
noncomputable def updE (e : Env) (t : Nat) (x : EV) : Env := fun i => Bool.rec (motive := fun _ => EV) (e i) x (Nat.beq i t)
noncomputable def updD (e : Env) (dst : Option (Nat × Nat)) (v : AV) : Env := Option.rec (motive := fun _ => Env) e (fun p => Prod.rec (motive := fun _ => Env) (fun q r => updE e (Nat.add (Nat.mul 16 q) r) (.pl v)) p) dst
noncomputable def evE (e : Env) (x : Od) : EV := Od.rec (motive := fun _ => EV) (fun q r => e (Nat.add (Nat.mul 16 q) r)) (fun v => .pl v) x
noncomputable def evV (e : Env) (x : Od) : AV := EV.rec (motive := fun _ => AV) (fun v => v) (fun v => v) (evE e x)
noncomputable def atV (e : Env) (q r : Nat) : AV := EV.rec (motive := fun _ => AV) (fun v => v) (fun v => v) (e (Nat.add (Nat.mul 16 q) r))
noncomputable def fP (x : EV) (k : AV → RR) : RR := (fun (_ : Unit) => EV.rec (motive := fun _ => RR) (fun v => k v) (fun v => fAV v k) x) tall
theorem evV_eq (e : Env) (x : Od) : evV e x = (evE e x).val := by unfold evV; cases evE e x <;> rfl
theorem atV_eq (e : Env) (q r : Nat) : atV e q r = (e (16 * q + r)).val := by
  unfold atV
  show EV.rec (motive := fun _ => AV) (fun v => v) (fun v => v) (e (16 * q + r)) = _
  cases e (16 * q + r) <;> rfl
noncomputable def pBin (o : BinOp) : AV → AV → Orc RR → (AV → RR) → RR := (fun (_ : Unit) => BinOp.rec (motive := fun _ => AV → AV → Orc RR → (AV → RR) → RR)
  p_add p_sub p_mul p_quo p_rem p_and p_or p_xor p_shl p_shr p_andNot p_eql p_neq p_lss p_leq p_gtr p_geq o) tall
section
variable (orc : Orc RR) (call : CallT RR)
noncomputable def argsE (e : Env) (l : List Od) : (List AV → RR) → RR := (fun (_ : Unit) =>
  List.rec (motive := fun _ => (List AV → RR) → RR) (fun k => k []) (fun x _ ih k => fP (evE e x) fun v => ih fun r => k (v :: r)) l) tall
noncomputable def forceL (l : List Od) : Env → (Env → RR) → RR := (fun (_ : Unit) =>
  List.rec (motive := fun _ => Env → (Env → RR) → RR) (fun e k => k e)
    (fun x _ ih e k => Od.rec (motive := fun _ => RR) (fun q r => forceV (atV e q r) orc fun v => ih (updE e (Nat.add (Nat.mul 16 q) r) (.pl v)) k) (fun _ => ih e k) x) l) tall
noncomputable def othE (fz : Fz) (ro : Bool) (op : AOp) (e : Env) (mu : St) (n : Nat) (k : KT RR) : RR := (fun (_ : Unit) =>
  forceL orc op.forced e fun e => qOth orc call fz mu n ro (op.mapOd fun x => .c (evV e x)) k) tall
noncomputable def loadE (fz : Fz) (agg : Bool) (m : Nat) (x : AV) (mu : St) (k : AV → RR) : RR := (fun (_ : Unit) => Bool.rec (motive := fun _ => RR)
  (Nat.rec (motive := fun _ => RR) (pLoad false 0 x fz mu k) (fun i _ => Nat.rec (motive := fun _ => RR) (pLoad1 x fz mu k) (fun j _ => pLoad false (Nat.succ (Nat.succ j)) x fz mu k) i) m) (pLoadA m x fz mu k) agg) tall
noncomputable def storeE (m : Nat) (x v : AV) (mu : St) (k : St → RR) : RR := (fun (_ : Unit) =>
  Nat.rec (motive := fun _ => RR) (qStore 0 x v mu k) (fun i _ => Nat.rec (motive := fun _ => RR) (qStore1 x v mu k) (fun j _ => qStore (Nat.succ (Nat.succ j)) x v mu k) i) m) tall
noncomputable def iaddrE (s : Nat) (x i : Od) (e : Env) (k : AV → RR) : RR := (fun (_ : Unit) => Od.rec (motive := fun _ => RR)
  (fun q r => forceV (atV e q r) orc fun v => pIaddr s (evV (updE e (Nat.add (Nat.mul 16 q) r) (.pl v)) x) v k)
  (fun v => pIaddr s (evV e x) v k) i) tall
noncomputable def fnOf (f : Od) : Option Nat := Od.rec (motive := fun _ => Option Nat) (fun _ _ => none) (fun v => AV.rec (motive := fun _ => Option Nat)
  (fun s => SV.rec (motive := fun _ => Option Nat) none (fun _ _ => none) (fun _ => none) (fun _ => none) none none none (fun _ _ => none) (fun _ _ _ _ _ => none) none none (fun g cs => List.rec (motive := fun _ => Option Nat) (some g) (fun _ _ _ => none) cs) (fun _ _ => none) s) (fun _ => none) (fun _ => none) v) f
noncomputable def eop (fz : Fz) (ro : Bool) (op : AOp) (e : Env) (mu : St) (n : Nat) (k : KT RR) : RR := (fun (_ : Unit) => AOp.rec (motive := fun _ => RR)
  (fun x => fP (evE e x) fun v => k v mu n)
  (fun c a b => pPick (evV e c) (evV e a) (evV e b) fun v => k v mu n)
  (fun z => qAlloc z mu n k)
  (fun x => qBox (evV e x) mu n k)
  (fun z ps => othE orc call fz ro (.build z ps) e mu n k)
  (fun s l z ps => othE orc call fz ro (.bslice s l z ps) e mu n k)
  (fun agg m x => loadE fz agg m (evV e x) mu fun v => k v mu n)
  (fun m x v => storeE m (evV e x) (evV e v) mu fun mu => k noVal mu n)
  (fun x => pNilc (evV e x) fun v => k v mu n)
  (fun o x y => pBin o (evV e x) (evV e y) orc fun v => k v mu n)
  (fun b x y => othE orc call fz ro (.shift b x y) e mu n k)
  (fun o x y => othE orc call fz ro (.sbin o x y) e mu n k)
  (fun o x y => othE orc call fz ro (.eqb o x y) e mu n k)
  (fun s o x y => othE orc call fz ro (.eqn s o x y) e mu n k)
  (fun o x y => othE orc call fz ro (.eqs o x y) e mu n k)
  (fun x => pNot (evV e x) fun v => k v mu n)
  (fun x => othE orc call fz ro (.neg x) e mu n k)
  (fun kd x => othE orc call fz ro (.conv kd x) e mu n k)
  (fun g cs => othE orc call fz ro (.mkfn g cs) e mu n k)
  (fun s b z l c => othE orc call fz ro (.mkslice s b z l c) e mu n k)
  (fun st s x lo hi mx => othE orc call fz ro (.slc st s x lo hi mx) e mu n k)
  (fun o x => pFaddr o (evV e x) fun v => k v mu n)
  (fun o a m x => othE orc call fz ro (.fld o a m x) e mu n k)
  (fun s x i => iaddrE orc s x i e fun v => k v mu n)
  (fun s l x i => othE orc call fz ro (.iaddrA s l x i) e mu n k)
  (fun x i => othE orc call fz ro (.idx x i) e mu n k)
  (fun x i => pExtr (evV e x) i fun v => k v mu n)
  (fun s x => Bool.rec (motive := fun _ => RR) (pLen (evV e x) fun v => k v mu n) (pLenS (evV e x) fun v => k v mu n) s)
  (fun x => othE orc call fz ro (.cap x) e mu n k)
  (fun s b x y => othE orc call fz ro (.append s b x y) e mu n k)
  (fun s x y => othE orc call fz ro (.copy s x y) e mu n k)
  (fun x xs => othE orc call fz ro (.max x xs) e mu n k)
  (fun x xs => othE orc call fz ro (.min x xs) e mu n k)
  (fun f as => Option.rec (motive := fun _ => RR) (othE orc call fz ro (.call f as) e mu n k)
    (fun g => argsE e as fun vs => Bool.rec (motive := fun _ => RR) (call g vs fz mu n k) (qCallR call g vs fz mu n k) ro) (fnOf f)) op) tall
end

/-- All operands. -/
def AOp.odsA : AOp → List Od
  | .mv x => [x]
  | .pick c a b => [c, a, b]
  | .alloc _ => []
  | .box x => [x]
  | .load _ _ x => [x]
  | .store _ x v => [x, v]
  | .nilc x => [x]
  | .bin _ x y => [x, y]
  | .not x => [x]
  | .faddr _ x => [x]
  | .iaddr _ x i => [x, i]
  | .extr x _ => [x]
  | .len _ x => [x]
  | op => (op.ods).getD []
def okT (nt : Nat) : Od → Bool
  | .t q r => Nat.ble (r + 1) 16 && Nat.ble (16 * q + r + 1) nt
  | .c _ => true
def okOp (nt : Nat) (op : AOp) : Bool := op.odsA.all (okT nt)

def EnvR (nt : Nat) (e : Env) (tm : TM) : Prop := ∀ q r, r < 16 → 16 * q + r < nt → inR tm q r ∧ get tm q r = (e (16 * q + r)).val

section
variable {nt : Nat} {e : Env} {tm : TM} {orc : Orc RR} {call : CallT RR} {fz : Fz}
theorem okT_t {q r : Nat} (h : okT nt (.t q r) = true) : r < 16 ∧ 16 * q + r < nt := by
  simp only [okT, Bool.and_eq_true] at h
  exact ⟨Nat.le_of_ble_eq_true h.1, Nat.le_of_ble_eq_true h.2⟩
theorem evE_eq (h : EnvR nt e tm) {x : Od} (hx : okT nt x = true) : evV e x = ev tm x := by
  rw [evV_eq]
  cases x with
  | c v => rfl
  | t q r => exact (h q r (okT_t hx).1 (okT_t hx).2).2.symm
theorem upd_get (e : Env) (t i : Nat) (x : EV) : updE e t x i = if i = t then x else e i := by
  show Bool.rec (motive := fun _ => EV) (e i) x (Nat.beq i t) = _
  by_cases hi : i = t
  · subst hi; rw [Nat.beq_refl]; simp
  · have : Nat.beq i t = false := by
      cases hb : Nat.beq i t with
      | false => rfl
      | true => exact (hi (Nat.eq_of_beq_eq_true hb)).elim
    rw [this]; simp [hi]
theorem EnvR.upd (h : EnvR nt e tm) {q r : Nat} (h1 : r < 16) (h2 : 16 * q + r < nt) (v : AV) : EnvR nt (updE e (16 * q + r) (.pl v)) (setT tm q r v) := by
  intro q' r' hr hn
  refine ⟨inR_setT_iff.2 (h q' r' hr hn).1, ?_⟩
  rw [upd_get]
  by_cases he : 16 * q' + r' = 16 * q + r
  · have e1 : q' = q := by omega
    have e2 : r' = r := by omega
    subst e1; subst e2
    rcases get_setT_same (tm := tm) (q := q') (r := r') (v := v) with ⟨_, h3⟩ | ⟨h3, _⟩
    · rw [h3]; simp [EV.val]
    · exact (h3 (h q' r' hr hn).1).elim
  · rw [get_setT_other (by omega), if_neg he]
    exact (h q' r' hr hn).2
theorem EnvR.same (h : EnvR nt e tm) {t : Nat} {v : AV} (hv : v = (e t).val) : EnvR nt (updE e t (.pl v)) tm := by
  intro q' r' hr hn
  refine ⟨(h q' r' hr hn).1, ?_⟩
  rw [upd_get]
  split
  · rename_i he; rw [(h q' r' hr hn).2, he]; exact hv.symm
  · exact (h q' r' hr hn).2

theorem fP_eq (x : EV) (k : AV → RR) : fP x k = k x.val := by
  cases x with
  | pl v => rfl
  | fr v => exact fAV_eq _ _
theorem argsE_eq (h : EnvR nt e tm) {l : List Od} (hl : l.all (okT nt) = true) {k : List AV → RR} : argsE e l k = k (l.map (ev tm)) := by
  induction l generalizing k with
  | nil => rfl
  | cons x l ih =>
    simp only [List.all_cons, Bool.and_eq_true] at hl
    show (fP (evE e x) fun v => argsE e l fun r => k (v :: r)) = _
    rw [fP_eq, ih hl.2, ← evV_eq, evE_eq h hl.1, List.map_cons]
theorem force1_eq (h : EnvR nt e tm) {q r : Nat} (h1 : r < 16) (h2 : 16 * q + r < nt) {k : Env → RR} {K : TM → RR} (hk : ∀ e tm, EnvR nt e tm → k e = K tm) :
    (forceV (atV e q r) orc fun v => k (updE e (16 * q + r) (.pl v))) = forceK orc tm (.t q r) K := by
  show _ = AV.rec (motive := fun _ => RR) (fun s => s.onSym (K tm) fun kd i => orc.force i fun v => fI v fun v => setTm tm q r (.one (.int kd v)) K) (fun _ => K tm) (fun _ => K tm) (get tm q r)
  rw [(h q r h1 h2).2, atV_eq]
  have hs : ∀ v, v = (e (16 * q + r)).val → k (updE e (16 * q + r) (.pl v)) = K tm := fun v hv => hk _ _ (h.same hv)
  cases hv : (e (16 * q + r)).val with
  | ag l => exact hs _ hv.symm
  | tp l => exact hs _ hv.symm
  | one s =>
    cases s with
    | sym kd i =>
      show (orc.force i fun v => fI v fun v => k (updE e (16 * q + r) (.pl (.one (.int kd v))))) = orc.force i fun v => fI v fun v => setTm tm q r (.one (.int kd v)) K
      congr 1
      funext v
      rw [fI_eq, fI_eq, setTm_eq]
      exact hk _ _ (h.upd h1 h2 _)
    | _ => exact hs _ hv.symm
theorem forceL_cons {l : List Od} (h : EnvR nt e tm) {x : Od} (hx : okT nt x = true) {k : Env → RR} {K : TM → RR} (hk : ∀ e tm, EnvR nt e tm → forceL orc l e k = K tm) : forceL orc (x :: l) e k = forceK orc tm x K := by
  cases x with
  | c v => exact hk _ _ h
  | t q r => exact force1_eq h (okT_t hx).1 (okT_t hx).2 hk

theorem othE_eq (h : EnvR nt e tm) {op : AOp} {l : List Od} (ho : op.ods = some l) (hok : l.all (okT nt) = true) {ro : Bool} {mu : St} {n : Nat} {k : KT RR} : othE orc call fz ro op e mu n k = aop orc zz call fz tm mu n ro op k := by
  have hall := List.all_eq_true.1 hok
  have hm : ∀ e tm, EnvR nt e tm → (op.mapOd fun x => .c (evV e x)) = op.mapOd fun x => .c (ev tm x) := fun e tm h => mapOd_congr ho fun x hx => by rw [evE_eq h (hall x hx)]
  show forceL orc op.forced e (fun e => aop orc zz call fz [] mu n ro (op.mapOd fun x => .c (evV e x)) k) = _
  have hb : ∀ e tm, EnvR nt e tm → aop orc zz call fz [] mu n ro (op.mapOd fun x => .c (evV e x)) k = aop orc zz call fz [] mu n ro (op.mapOd fun x => .c (ev tm x)) k := fun e tm h => by rw [hm e tm h]
  cases op with
  | mv x => cases ho
  | pick a b c => cases ho
  | alloc z => cases ho
  | box x => cases ho
  | load a m x => cases ho
  | store m x v => cases ho
  | nilc x => cases ho
  | bin o x y => cases ho
  | not x => cases ho
  | faddr o x => cases ho
  | iaddr s x i => cases ho
  | extr x i => cases ho
  | len s x => cases ho
  | build z ps => exact (hb _ _ h).trans (fill_c _ _ _ _)
  | bslice s len z ps =>
    refine (hb _ _ h).trans ?_
    show (copyK (rep z len) fun cs => fill zz [] (ps.map fun p => (p.1, p.2.1, Od.c (ev tm p.2.2))) cs fun cs => fN (Nat.succ n) fun m => k (.one (.osl n 0 len len s)) ((n, cs) :: mu) m) = copyK (rep z len) fun cs => fill zz tm ps cs fun cs => fN (Nat.succ n) fun m => k (.one (.osl n 0 len len s)) ((n, cs) :: mu) m
    simp only [fill_c]
  | shift b x y =>
    cases ho
    refine forceL_cons (l := [y]) (K := fun tm => forceK orc tm y fun tm => oShift zz tm mu n b x y k) h (hall x (by simp)) fun e tm h => ?_
    exact forceL_cons (l := []) (K := fun tm => oShift zz tm mu n b x y k) h (hall y (by simp)) fun e tm h => hb _ _ h
  | sbin o x y => exact hb _ _ h
  | eqb o x y => exact hb _ _ h
  | eqn s o x y => exact hb _ _ h
  | eqs o x y => exact hb _ _ h
  | neg x =>
    cases ho
    exact forceL_cons (l := []) (K := fun tm => oNeg zz tm mu n x k) h (hall x (by simp)) fun e tm h => hb _ _ h
  | conv kd x => exact hb _ _ h
  | mkfn g cs => exact (hb _ _ h).trans (capsK_c _ _ _)
  | mkslice s b z x y =>
    cases ho
    refine forceL_cons (l := [y]) (K := fun tm => forceK orc tm y fun tm => oMkslice zz tm mu n s b z x y k) h (hall x (by simp)) fun e tm h => ?_
    exact forceL_cons (l := []) (K := fun tm => oMkslice zz tm mu n s b z x y k) h (hall y (by simp)) fun e tm h => hb _ _ h
  | slc st s x lo hi mx =>
    cases ho
    have key : ∀ e tm, EnvR nt e tm → aop orc zz call fz [] mu n ro ((AOp.slc st s x lo hi mx).mapOd fun x => .c (evV e x)) k = oSlc zz tm mu n st s x lo hi mx k := by
      intro e tm h
      rw [hb _ _ h]
      cases lo <;> cases hi <;> cases mx <;> rfl
    have h3 : ∀ e tm, EnvR nt e tm → forceL orc mx.toList e (fun e => aop orc zz call fz [] mu n ro ((AOp.slc st s x lo hi mx).mapOd fun x => .c (evV e x)) k) = forceO orc tm mx fun tm => oSlc zz tm mu n st s x lo hi mx k := by
      intro e tm h
      cases mx with
      | none => exact key _ _ h
      | some y => exact forceL_cons (l := []) (K := fun tm => oSlc zz tm mu n st s x lo hi (some y) k) h (hall y (by simp)) fun e tm h => key _ _ h
    have h2 : ∀ e tm, EnvR nt e tm → forceL orc (hi.toList ++ mx.toList) e (fun e => aop orc zz call fz [] mu n ro ((AOp.slc st s x lo hi mx).mapOd fun x => .c (evV e x)) k) = forceO orc tm hi fun tm => forceO orc tm mx fun tm => oSlc zz tm mu n st s x lo hi mx k := by
      intro e tm h
      cases hi with
      | none => exact h3 _ _ h
      | some y => exact forceL_cons (l := mx.toList) (K := fun tm => forceO orc tm mx fun tm => oSlc zz tm mu n st s x lo (some y) mx k) h (hall y (by simp)) fun e tm h => h3 _ _ h
    show forceL orc (lo.toList ++ (hi.toList ++ mx.toList)) e _ = forceO orc tm lo fun tm => forceO orc tm hi fun tm => forceO orc tm mx fun tm => oSlc zz tm mu n st s x lo hi mx k
    cases lo with
    | none => exact h2 _ _ h
    | some y => exact forceL_cons (l := hi.toList ++ mx.toList) (K := fun tm => forceO orc tm hi fun tm => forceO orc tm mx fun tm => oSlc zz tm mu n st s x (some y) hi mx k) h (hall y (by simp)) fun e tm h => h2 _ _ h
  | fld o a m x => exact hb _ _ h
  | iaddrA s len x i =>
    cases ho
    exact forceL_cons (l := []) (K := fun tm => oIaddrA zz tm mu n s len x i k) h (hall i (by simp)) fun e tm h => hb _ _ h
  | idx x i =>
    cases ho
    exact forceL_cons (l := []) (K := fun tm => oIdx zz tm mu n x i k) h (hall i (by simp)) fun e tm h => hb _ _ h
  | cap x => exact hb _ _ h
  | append s b x y => exact hb _ _ h
  | copy s x y => exact hb _ _ h
  | max x xs =>
    refine (hb _ _ h).trans ?_
    show ((ev tm x).onOne zz fun s => maxK orc zz (evs [] (xs.map fun x => Od.c (ev tm x))) s fun r => k (.one r) mu n) = (ev tm x).onOne zz fun s => maxK orc zz (evs tm xs) s fun r => k (.one r) mu n
    rw [evs_c]
  | min x xs =>
    refine (hb _ _ h).trans ?_
    show ((ev tm x).onOne zz fun s => minK orc zz (evs [] (xs.map fun x => Od.c (ev tm x))) s fun r => k (.one r) mu n) = (ev tm x).onOne zz fun s => minK orc zz (evs tm xs) s fun r => k (.one r) mu n
    rw [evs_c]
  | call g as =>
    refine (hb _ _ h).trans ?_
    show ((ev tm g).onOne zz fun s => s.onFn zz fun g cs => argsK [] (as.map fun x => Od.c (ev tm x)) (capVals cs) fun vs => cond ro (call g vs (with' mu fz) [] n fun v new n' => sweepK v new fun new => joinK new mu fun mu => k v mu n') (call g vs fz mu n k)) =
      (ev tm g).onOne zz fun s => s.onFn zz fun g cs => argsK tm as (capVals cs) fun vs => cond ro (call g vs (with' mu fz) [] n fun v new n' => sweepK v new fun new => joinK new mu fun mu => k v mu n') (call g vs fz mu n k)
    simp only [argsK_c]

theorem loadE_eq (agg : Bool) (m : Nat) (x : AV) (mu : St) (n : Nat) (k : KT RR) : (loadE fz agg m x mu fun v => k v mu n) = oLoad zz fz [] mu n agg m (.c x) k := by
  cases agg with
  | true => exact pLoadA_eq _ _ _ _ _ _
  | false => match m with
    | 0 => exact pLoad_eq _ _ _ _ _ _ _
    | 1 => exact pLoad1_eq _ _ _ _ _
    | m + 2 => exact pLoad_eq _ _ _ _ _ _ _
theorem storeE_eq (m : Nat) (x v : AV) (mu : St) (n : Nat) (k : KT RR) : (storeE m x v mu fun mu => k noVal mu n) = oStore zz [] mu n m (.c x) (.c v) k := by
  match m with
  | 0 => exact qStore_eq _ _ _ _ _ _
  | 1 => exact qStore1_eq _ _ _ _ _
  | m + 2 => exact qStore_eq _ _ _ _ _ _
theorem pBin_eq (o : BinOp) (x y : AV) (mu : St) (n : Nat) (k : KT RR) : (pBin o x y orc fun v => k v mu n) = oBin orc zz [] mu n o (.c x) (.c y) k := by
  cases o
  · exact p_add_eq _ _ _ _ _ _
  · exact p_sub_eq _ _ _ _ _ _
  · exact p_mul_eq _ _ _ _ _ _
  · exact p_quo_eq _ _ _ _ _ _
  · exact p_rem_eq _ _ _ _ _ _
  · exact p_and_eq _ _ _ _ _ _
  · exact p_or_eq _ _ _ _ _ _
  · exact p_xor_eq _ _ _ _ _ _
  · exact p_shl_eq _ _ _ _ _ _
  · exact p_shr_eq _ _ _ _ _ _
  · exact p_andNot_eq _ _ _ _ _ _
  · exact p_eql_eq _ _ _ _ _ _
  · exact p_neq_eq _ _ _ _ _ _
  · exact p_lss_eq _ _ _ _ _ _
  · exact p_leq_eq _ _ _ _ _ _
  · exact p_gtr_eq _ _ _ _ _ _
  · exact p_geq_eq _ _ _ _ _ _
theorem fnOf_some {f : Od} {g : Nat} (h : fnOf f = some g) : f = .c (.one (.fn g [])) := by
  cases f with
  | t q r => cases h
  | c v => cases v with
    | ag l => cases h
    | tp l => cases h
    | one s => cases s with
      | fn g' cs => cases cs with
        | nil => cases h; rfl
        | cons _ _ => cases h
      | _ => cases h

theorem eop_eq (h : EnvR nt e tm) {op : AOp} (hok : okOp nt op = true) {ro : Bool} {mu : St} {n : Nat} {k : KT RR} : eop orc call fz ro op e mu n k = aop orc zz call fz tm mu n ro op k := by
  have hall := List.all_eq_true.1 hok
  have hE : ∀ x ∈ op.odsA, evV e x = ev tm x := fun x hx => evE_eq h (hall x hx)
  cases op with
  | mv x => show (fP (evE e x) fun v => k v mu n) = k (ev tm x) mu n; rw [fP_eq, ← evV_eq, hE x (by simp [AOp.odsA])]
  | pick c a b =>
    show (pPick (evV e c) (evV e a) (evV e b) fun v => k v mu n) = _
    rw [hE c (by simp [AOp.odsA]), hE a (by simp [AOp.odsA]), hE b (by simp [AOp.odsA]), pPick_eq]; rfl
  | alloc z => rfl
  | box x => show oBox zz [] mu n (.c (evV e x)) k = _; rw [hE x (by simp [AOp.odsA])]; rfl
  | load a m x => show (loadE fz a m (evV e x) mu fun v => k v mu n) = _; rw [hE x (by simp [AOp.odsA]), loadE_eq]; rfl
  | store m x v => show (storeE m (evV e x) (evV e v) mu fun mu => k noVal mu n) = _; rw [hE x (by simp [AOp.odsA]), hE v (by simp [AOp.odsA]), storeE_eq]; rfl
  | nilc x => show (pNilc (evV e x) fun v => k v mu n) = _; rw [hE x (by simp [AOp.odsA]), pNilc_eq]; rfl
  | bin o x y => show (pBin o (evV e x) (evV e y) orc fun v => k v mu n) = _; rw [hE x (by simp [AOp.odsA]), hE y (by simp [AOp.odsA]), pBin_eq]; rfl
  | not x => show (pNot (evV e x) fun v => k v mu n) = _; rw [hE x (by simp [AOp.odsA]), pNot_eq]; rfl
  | faddr o x => show (pFaddr o (evV e x) fun v => k v mu n) = _; rw [hE x (by simp [AOp.odsA]), pFaddr_eq]; rfl
  | iaddr s x i =>
    have hx := hall x (by simp [AOp.odsA])
    have hi := hall i (by simp [AOp.odsA])
    cases i with
    | c v => show (pIaddr s (evV e x) v fun v => k v mu n) = _; rw [hE x (by simp [AOp.odsA]), pIaddr_eq]; rfl
    | t q r =>
      show (forceV (atV e q r) orc fun v => pIaddr s (evV (updE e (16 * q + r) (.pl v)) x) v fun v => k v mu n) = forceK orc tm (.t q r) fun tm => oIaddr zz tm mu n s x (.t q r) k
      have := force1_eq (orc := orc) h (okT_t hi).1 (okT_t hi).2 (k := fun e => pIaddr s (evV e x) (e (16 * q + r)).val fun v => k v mu n) (K := fun tm => oIaddr zz tm mu n s x (.t q r) k) (fun e tm h => by
        rw [pIaddr_eq, evE_eq h hx]
        have := evE_eq h hi
        rw [evV_eq] at this
        rw [show (e (16 * q + r)).val = ev tm (.t q r) from this]
        rfl)
      rw [← this]
      congr 1
      funext v
      have e1 : (updE e (16 * q + r) (.pl v) (16 * q + r)).val = v := by rw [upd_get]; simp [EV.val]
      simp only [e1]
  | extr x i => show (pExtr (evV e x) i fun v => k v mu n) = _; rw [hE x (by simp [AOp.odsA]), pExtr_eq]; rfl
  | len s x =>
    cases s with
    | true => show (pLenS (evV e x) fun v => k v mu n) = _; rw [hE x (by simp [AOp.odsA]), pLenS_eq]; rfl
    | false => show (pLen (evV e x) fun v => k v mu n) = _; rw [hE x (by simp [AOp.odsA]), pLen_eq]; rfl
  | call f as =>
    cases hf : fnOf f with
    | none =>
      show Option.rec (motive := fun _ => RR) (othE orc call fz ro (.call f as) e mu n k) (fun g => argsE e as fun vs => Bool.rec (motive := fun _ => RR) (call g vs fz mu n k) (qCallR call g vs fz mu n k) ro) (fnOf f) = _
      rw [hf]
      exact othE_eq (op := .call f as) h rfl hok
    | some g =>
      have hf' := fnOf_some hf
      subst hf'
      have : eop orc call fz ro (.call (.c (.one (.fn g []))) as) e mu n k = argsE e as fun vs => Bool.rec (motive := fun _ => RR) (call g vs fz mu n k) (qCallR call g vs fz mu n k) ro := rfl
      rw [this, argsE_eq h (List.all_eq_true.2 fun x hx => hall x (by simp [AOp.odsA, AOp.ods, hx]))]
      show _ = argsK tm as [] fun vs => cond ro (call g vs (with' mu fz) [] n fun v new n' => sweepK v new fun new => joinK new mu fun mu => k v mu n') (call g vs fz mu n k)
      rw [argsK_eq, List.append_nil]
      cases ro with
      | false => rfl
      | true => unfold qCallR; rw [withF_eq]; rfl
  | build z ps => exact othE_eq (op := .build z ps) h rfl hok
  | bslice s l z ps => exact othE_eq (op := .bslice s l z ps) h rfl hok
  | shift b x y => exact othE_eq (op := .shift b x y) h rfl hok
  | sbin o x y => exact othE_eq (op := .sbin o x y) h rfl hok
  | eqb o x y => exact othE_eq (op := .eqb o x y) h rfl hok
  | eqn s o x y => exact othE_eq (op := .eqn s o x y) h rfl hok
  | eqs o x y => exact othE_eq (op := .eqs o x y) h rfl hok
  | neg x => exact othE_eq (op := .neg x) h rfl hok
  | conv kd x => exact othE_eq (op := .conv kd x) h rfl hok
  | mkfn g cs => exact othE_eq (op := .mkfn g cs) h rfl hok
  | mkslice s b z x y => exact othE_eq (op := .mkslice s b z x y) h rfl hok
  | slc st s x lo hi mx => exact othE_eq (op := .slc st s x lo hi mx) h rfl hok
  | fld o a m x => exact othE_eq (op := .fld o a m x) h rfl hok
  | iaddrA s len x i => exact othE_eq (op := .iaddrA s len x i) h rfl hok
  | idx x i => exact othE_eq (op := .idx x i) h rfl hok
  | cap x => exact othE_eq (op := .cap x) h rfl hok
  | append s b x y => exact othE_eq (op := .append s b x y) h rfl hok
  | copy s x y => exact othE_eq (op := .copy s x y) h rfl hok
  | max x xs => exact othE_eq (op := .max x xs) h rfl hok
  | min x xs => exact othE_eq (op := .min x xs) h rfl hok
end
end Go.Ev
