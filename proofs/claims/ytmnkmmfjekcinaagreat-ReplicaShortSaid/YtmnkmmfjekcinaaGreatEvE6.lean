/-
  Code as a term is the evaluator's code.
-/
import Derived.Test.YtmnkmmfjekcinaaGreatEvE5
set_option linter.unusedVariables false
set_option linter.unusedSimpArgs false
namespace Go.Ev

theorem idxOf_get : ∀ {l : List Nat} {t j i : Nat}, idxOf l t j = some i → ∃ m, i = j + m ∧ l[m]? = some t
  | [], t, j, i, h => by cases h
  | a :: l, t, j, i, h => by
    have h' : Bool.rec (motive := fun _ => Option Nat) (idxOf l t (Nat.succ j)) (some j) (Nat.beq a t) = some i := h
    cases e : Nat.beq a t with
    | true =>
      rw [e] at h'
      cases h'
      exact ⟨0, rfl, by simp [Nat.eq_of_beq_eq_true e]⟩
    | false =>
      rw [e] at h'
      obtain ⟨m, h1, h2⟩ := idxOf_get (l := l) h'
      exact ⟨m + 1, by omega, by simpa using h2⟩
theorem idxOf_inj {l : List Nat} {a b i : Nat} (ha : idxOf l a 0 = some i) (hb : idxOf l b 0 = some i) : a = b := by
  obtain ⟨m, h1, h2⟩ := idxOf_get ha
  obtain ⟨m', h3, h4⟩ := idxOf_get hb
  have : m = m' := by omega
  subst this
  rw [h2] at h4
  cases h4; rfl
theorem idxOf_lt {l : List Nat} {a i : Nat} (ha : idxOf l a 0 = some i) : i < l.length := by
  obtain ⟨m, h1, h2⟩ := idxOf_get ha
  have := (List.getElem?_eq_some_iff.1 h2).1
  omega

theorem env0_some {kept : List Nat} {t : Fm} {i j : Nat} (h : idxOf kept i 0 = some j) : env0 kept t i = .fr (gAt j t) := by
  show Option.rec (motive := fun _ => EV) (.pl (.one .un)) (fun j => .fr (gAt j t)) (idxOf kept i 0) = _
  rw [h]
theorem env0_none {kept : List Nat} {t : Fm} {i : Nat} (h : idxOf kept i 0 = none) : env0 kept t i = .pl (.one .un) := by
  show Option.rec (motive := fun _ => EV) (.pl (.one .un)) (fun j => .fr (gAt j t)) (idxOf kept i 0) = _
  rw [h]
theorem kpOf_some {kept : List Nat} {i j : Nat} (h : idxOf kept i 0 = some j) : kpOf kept i = true := by
  show Option.rec (motive := fun _ => Bool) false (fun _ => true) (idxOf kept i 0) = true
  rw [h]
theorem kpOf_none {kept : List Nat} {i : Nat} (h : idxOf kept i 0 = none) : kpOf kept i = false := by
  show Option.rec (motive := fun _ => Bool) false (fun _ => true) (idxOf kept i 0) = false
  rw [h]
theorem valE_eq (e : Env) (d : Nat) : valE e d = (e d).val := by unfold valE; cases e d <;> rfl

noncomputable def storP (kept : List Nat) (e : Env) : List Nat → Fm → Fm
  | [], t => t
  | d :: ds, t => match idxOf kept d 0 with
    | some j => storP kept e ds (setP j t (e d).val)
    | none => storP kept e ds t
theorem storK_eq (kept : List Nat) (e : Env) : ∀ (ds : List Nat) (t : Fm) (k : Fm → RR), storK kept e ds t k = k (storP kept e ds t)
  | [], t, k => rfl
  | d :: ds, t, k => by
    show Option.rec (motive := fun _ => RR) (storK kept e ds t k) (fun j => sAt j t (valE e d) fun t => storK kept e ds t k) (idxOf kept d 0) = _
    unfold storP
    cases h : idxOf kept d 0 with
    | none => exact storK_eq kept e ds t k
    | some j =>
      show sAt j t (valE e d) (fun t => storK kept e ds t k) = _
      rw [sAt_eq, storK_eq kept e ds, valE_eq]
theorem gAt_storP {kept : List Nat} (hl : kept.length ≤ 264) {e : Env} {i j : Nat} (h : idxOf kept i 0 = some j) : ∀ (ds : List Nat) (t : Fm), gAt j (storP kept e ds t) = if i ∈ ds then (e i).val else gAt j t
  | [], t => by simp [storP]
  | d :: ds, t => by
    unfold storP
    cases hd : idxOf kept d 0 with
    | none =>
      simp only
      rw [gAt_storP hl h ds t]
      have : i ≠ d := fun e => by subst e; rw [h] at hd; cases hd
      simp [this]
    | some j' =>
      simp only
      rw [gAt_storP hl h ds, gAt_setP (Nat.lt_of_lt_of_le (idxOf_lt h) hl) (Nat.lt_of_lt_of_le (idxOf_lt hd) hl)]
      by_cases e1 : i = d
      · subst e1
        rw [h] at hd; cases hd
        simp
      · have : ¬ j = j' := fun e => e1 (idxOf_inj h (e ▸ hd))
        simp [this, e1]
theorem memN_eq (a : Nat) : ∀ (l : List Nat), memN a l = true ↔ a ∈ l
  | [] => by simp [memN]
  | b :: l => by
    have : memN a (b :: l) = Bool.rec (motive := fun _ => Bool) (memN a l) true (Nat.beq a b) := rfl
    rw [this]
    cases e : Nat.beq a b with
    | true => simp [Nat.eq_of_beq_eq_true e]
    | false =>
      have hne := Nat.ne_of_beq_eq_false e
      simp only [List.mem_cons, hne, false_or]
      exact memN_eq a l
theorem mem_nub {i : Nat} : ∀ (l : List Nat), i ∈ nub l ↔ i ∈ l
  | [] => by simp [nub]
  | a :: l => by
    have : nub (a :: l) = Bool.rec (motive := fun _ => List Nat) (a :: nub l) (nub l) (memN a (nub l)) := rfl
    rw [this]
    cases e : memN a (nub l) with
    | true =>
      have := (memN_eq a _).1 e
      show i ∈ nub l ↔ _
      rw [mem_nub l, List.mem_cons]
      constructor
      · exact fun h => .inr h
      · rintro (h | h)
        · subst h; exact (mem_nub l).1 this
        · exact h
    | false =>
      show i ∈ a :: nub l ↔ _
      rw [List.mem_cons, List.mem_cons, mem_nub l]

theorem allL_iff {α : Type} {p : α → Bool} : ∀ {l : List α}, allL p l = true ↔ ∀ a ∈ l, p a = true
  | [] => by simp [allL]
  | a :: l => by
    have : allL p (a :: l) = Bool.rec (motive := fun _ => Bool) false (allL p l) (p a) := rfl
    rw [this]
    cases e : p a with
    | false => simp [e]
    | true =>
      simp only [List.forall_mem_cons, e, true_and]
      exact allL_iff

/-- What the environment, the frame and the temporaries have in common. -/
structure Inv (nt : Nat) (kept : List Nat) (e : Env) (t : Fm) (ds : List Nat) (tm : TM) : Prop where
  er : EnvR nt e tm
  fr : ∀ i j, idxOf kept i 0 = some j → i ∉ ds → gAt j t = (e i).val

section
variable {nt : Nat} {kept : List Nat} {e : Env} {t : Fm} {ds : List Nat} {tm : TM} {orc : Orc RR} {call : CallT RR} {fz : Fz}
theorem Inv.start (h : EnvR nt (env0 kept t) tm) : Inv nt kept (env0 kept t) t [] tm := ⟨h, fun i j hi _ => by rw [env0_some hi]; rfl⟩
theorem Inv.stor (hl : kept.length ≤ 264) (h : Inv nt kept e t ds tm) : EnvR nt (env0 kept (storP kept e (nub ds) t)) (fg (kpOf kept) tm) := by
  intro q r hr hn
  have hq := h.er q r hr hn
  refine ⟨inR_fg.2 hq.1, ?_⟩
  rw [get_fg]
  cases hi : idxOf kept (16 * q + r) 0 with
  | none => rw [kpOf_none hi, env0_none hi]; rfl
  | some j =>
    rw [kpOf_some hi, env0_some hi]
    show get tm q r = gAt j (storP kept e (nub ds) t)
    rw [hq.2, gAt_storP hl hi]
    by_cases hm : 16 * q + r ∈ ds
    · simp [(mem_nub ds).2 hm]
    · have : ¬ 16 * q + r ∈ nub ds := fun x => hm ((mem_nub ds).1 x)
      simp only [this, if_false]
      exact (h.fr _ _ hi hm).symm
theorem EnvR.again (h : EnvR nt (env0 kept t) tm) : EnvR nt (env0 kept t) (fg (kpOf kept) tm) := by
  intro q r hr hn
  have hq := h q r hr hn
  refine ⟨inR_fg.2 hq.1, ?_⟩
  rw [get_fg]
  cases hi : idxOf kept (16 * q + r) 0 with
  | none => rw [kpOf_none hi, env0_none hi]; rfl
  | some j => rw [kpOf_some hi]; exact hq.2
theorem EnvR.updD (h : EnvR nt e tm) {dst : Option (Nat × Nat)} (hd : okDst nt dst = true) (v : AV) : EnvR nt (updD e dst v) (setDT tm dst v) := by
  cases dst with
  | none => exact h
  | some p =>
    obtain ⟨q, r⟩ := p
    have := okT_t (show okT nt (.t q r) = true from hd)
    exact h.upd this.1 this.2 v
theorem updD_other {dst : Option (Nat × Nat)} {v : AV} {i : Nat} (h : ∀ q r, dst = some (q, r) → i ≠ 16 * q + r) : updD e dst v i = e i := by
  cases dst with
  | none => rfl
  | some p =>
    obtain ⟨q, r⟩ := p
    show updE e (16 * q + r) (.pl v) i = e i
    rw [upd_get, if_neg (h q r rfl)]
theorem mem_dsO {o : AOper} {i : Nat} (h : i ∉ dsO o ds) : i ∉ ds ∧ ∀ q r, o.dst = some (q, r) → i ≠ 16 * q + r := by
  obtain ⟨dst, op, g, mode, anc⟩ := o
  cases dst with
  | none => exact ⟨h, fun q r e => by cases e⟩
  | some p =>
    obtain ⟨q, r⟩ := p
    have h' : i ∉ (16 * q + r) :: ds := h
    simp only [List.mem_cons, not_or] at h'
    exact ⟨h'.2, fun q' r' e => by cases e; exact h'.1⟩
theorem Inv.step (h : Inv nt kept e t ds tm) {o : AOper} (hd : okDst nt o.dst = true) (v : AV) : Inv nt kept (updD e o.dst v) t (dsO o ds) (setDT tm o.dst v) :=
  ⟨h.er.updD hd v, fun i j hi hm => by
    obtain ⟨h1, h2⟩ := mem_dsO hm
    rw [updD_other h2]
    exact h.fr i j hi h1⟩

theorem wantF_eq (v : AV) (want : Bool) (yes no : RR) : wantF v want yes no = AV.rec (motive := fun _ => RR) (fun s => s.onBool zz fun b => cond (b == want) yes no) (fun _ => zz) (fun l => List.rec (motive := fun _ => RR) no (fun _ _ _ => zz) l) v := by
  cases v with
  | ag l => rfl
  | tp l => rfl
  | one s =>
    cases s with
    | bool b => cases b <;> cases want <;> rfl
    | _ => rfl

theorem okOper_elim {o : AOper} (h : okOper nt o = true) : okOp nt o.op = true ∧ okDst nt o.dst = true ∧ okGd nt o.g = true := by
  simp only [okOper, Bool.and_eq_true] at h
  exact ⟨h.1, h.2.1, h.2.2⟩

theorem guard_eq (h : EnvR nt e tm) {g : Option (Nat × Nat × Bool)} (hg : okGd nt g = true) {yes no : RR} :
    onWanted zz g tm yes no = Option.rec (motive := fun _ => RR) yes (fun p => wantF (atV e p.1 p.2.1) p.2.2 yes no) g := by
  cases g with
  | none => rfl
  | some p =>
    obtain ⟨q, r, w⟩ := p
    have hq := okT_t (show okT nt (.t q r) = true from hg)
    show AV.rec (motive := fun _ => RR) (fun s => s.onBool zz fun b => cond (b == w) yes no) (fun _ => zz) (fun l => List.rec (motive := fun _ => RR) no (fun _ _ _ => zz) l) (get tm q r) = wantF (atV e q r) w yes no
    rw [wantF_eq, atV_eq, (h q r hq.1 hq.2).2]

theorem stepE_eq (h : EnvR nt e tm) {o : AOper} (hok : okOper nt o = true) {mu : St} {n : Nat} {k : Env → St → Nat → RR} {K : TM → St → Nat → RR} (hk : ∀ v mu n, k (Go.Ev.updD e o.dst v) mu n = K (setDT tm o.dst v) mu n) :
    stepE orc call fz o e mu n k = stepK orc zz call fz o tm mu n K := by
  obtain ⟨h1, h2, h3⟩ := okOper_elim hok
  unfold stepK
  rw [guard_eq h h3]
  obtain ⟨dst, op, g, mode, anc⟩ := o
  have e1 : eop orc call fz (Nat.beq mode 1) op e mu n (fun v mu n => k (Go.Ev.updD e dst v) mu n) = aop orc zz call fz tm mu n (Nat.beq mode 1) op fun v mu n => setDst tm dst v fun tm => K tm mu n := by
    rw [eop_eq h h1]
    congr 1
    funext v mu n
    rw [setDst_eq]
    exact hk v mu n
  cases g with
  | none => exact e1
  | some p =>
    obtain ⟨q, r, w⟩ := p
    show wantF (atV e q r) w (eop orc call fz (Nat.beq mode 1) op e mu n (fun v mu n => k (Go.Ev.updD e dst v) mu n)) (k (Go.Ev.updD e dst noVal) mu n) = wantF (atV e q r) w _ (setDst tm dst noVal fun tm => K tm mu n)
    rw [e1, setDst_eq]
    congr 1
    exact hk noVal mu n

theorem runE_eq (hl : kept.length ≤ 264) : ∀ {ops : List AOper} {c : Nat} {ds : List Nat} {e : Env} {t : Fm} {tm : TM} {mu : St} {n : Nat} {k : List Nat → Env → Fm → St → Nat → RR} {K : TM → St → Nat → RR}, (∀ o ∈ ops, okOper nt o = true) → Inv nt kept e t ds tm →
    (∀ ds e t tm mu n, Inv nt kept e t ds tm → k ds e t mu n = K tm mu n) → runE kept orc call fz ops c ds e t mu n k = runKf orc zz call fz (kpOf kept) ops c tm mu n K
  | [], c, ds, e, t, tm, mu, n, k, K, _, hi, hk => hk _ _ _ _ _ _ hi
  | o :: l, c, ds, e, t, tm, mu, n, k, K, hok, hi, hk => by
    have ho := hok o (by simp)
    have hd := (okOper_elim ho).2.1
    cases c with
    | zero =>
      show (storK kept e (nub ds) t fun t => stepE orc call fz o (env0 kept t) mu n fun e mu n => runE kept orc call fz l 9 (dsO o []) e t mu n k) = stepK orc zz call fz o (fg (kpOf kept) tm) mu n fun tm mu n => runKf orc zz call fz (kpOf kept) l 9 tm mu n K
      rw [storK_eq]
      have h0 := hi.stor hl
      refine stepE_eq h0 ho fun v mu n => ?_
      exact runE_eq hl (fun o h => hok o (by simp [h])) ((Inv.start h0).step hd v) hk
    | succ c =>
      show (stepE orc call fz o e mu n fun e mu n => runE kept orc call fz l c (dsO o ds) e t mu n k) = stepK orc zz call fz o tm mu n fun tm mu n => runKf orc zz call fz (kpOf kept) l c tm mu n K
      refine stepE_eq hi.er ho fun v mu n => ?_
      exact runE_eq hl (fun o h => hok o (by simp [h])) (hi.step hd v) hk

/-! regions of open order -/
theorem rstepE_eq (h : EnvR nt e tm) {i : Nat} {o : AOper} (hok : okOper nt o = true) {mu : St} {ad : List St} {n : Nat} {k : Env → St → List St → Nat → RR} {K : TM → St → List St → Nat → RR} (hk : ∀ v mu ad n, k (Go.Ev.updD e o.dst v) mu ad n = K (setDT tm o.dst v) mu ad n) :
    rstepE orc call fz i o e mu ad n k = rstep orc zz call fz i o tm mu ad n K := by
  obtain ⟨h1, h2, h3⟩ := okOper_elim hok
  unfold rstep
  rw [guard_eq h h3]
  obtain ⟨dst, op, g, mode, anc⟩ := o
  have hf : ∀ ro, (fun (fz : Fz) (mu : St) (n : Nat) (k : KT RR) => eop orc call fz ro op e mu n k) = fun fz mu n k => aop orc zz call fz tm mu n ro op k := fun ro => by
    funext fz mu n k
    exact eop_eq h h1
  have hj : ∀ v mu ad n, k (Go.Ev.updD e dst v) mu ad n = setDst tm dst v fun tm => K tm mu ad n := fun v mu ad n => by rw [setDst_eq]; exact hk v mu ad n
  have e1 : ropE orc call fz i op mode anc e mu ad n (fun v mu ad n => k (Go.Ev.updD e dst v) mu ad n) =
      (cond (Nat.beq mode 0) (aop orc zz call (fun _ => none) tm [] n false op fun v new n => List.rec (motive := fun _ => RR) (setDst tm dst v fun tm => K tm mu ad n) (fun _ _ _ => zz) new)
      (cond (Nat.beq mode 1) (aop orc zz call (with' (adsOf ad anc) (with' mu fz)) tm [] n true op fun v new n => setDst tm dst v fun tm => setK ad i new fun ad => K tm mu ad n)
      (cond (Nat.beq mode 2) (joinK (adsOf ad anc) mu fun mu => clearK anc ad fun ad => aop orc zz call fz tm mu n false op fun v mu n => setDst tm dst v fun tm => K tm mu ad n)
      (cond (Nat.beq mode 3) (aop orc zz call (fun _ => none) tm [] n false op fun v new n => setDst tm dst v fun tm => setK ad i new fun ad => K tm mu ad n)
        (joinK (nth [] ad i) (adsOf ad anc) fun own => aop orc zz call (fun _ => none) tm own n false op fun v new n => setDst tm dst v fun tm => clearK anc ad fun ad => setK ad i new fun ad => K tm mu ad n))))) := by
    match mode with
    | 0 =>
      show dr0 (fun fz mu n k => eop orc call fz false op e mu n k) n (fun v n => k (Go.Ev.updD e dst v) mu ad n) = _
      rw [hf]
      simp only [hj]
      rfl
    | 1 =>
      show dr1 (fun fz mu n k => eop orc call fz true op e mu n k) anc i fz mu ad n (fun v ad n => k (Go.Ev.updD e dst v) mu ad n) = _
      rw [hf]
      simp only [hj]
      show (aop orc zz call (with' (adsOf ad anc) (with' mu fz)) tm [] n true op fun v new n => setK ad i new fun ad => setDst tm dst v fun tm => K tm mu ad n) = aop orc zz call (with' (adsOf ad anc) (with' mu fz)) tm [] n true op fun v new n => setDst tm dst v fun tm => setK ad i new fun ad => K tm mu ad n
      simp only [setDst_eq, setK_eq]
    | 2 =>
      show dr2 (fun fz mu n k => eop orc call fz false op e mu n k) anc fz mu ad n (fun v mu ad n => k (Go.Ev.updD e dst v) mu ad n) = _
      rw [hf]
      simp only [hj]
      rfl
    | 3 =>
      show dr3 (fun fz mu n k => eop orc call fz false op e mu n k) i ad n (fun v ad n => k (Go.Ev.updD e dst v) mu ad n) = _
      rw [hf]
      simp only [hj]
      show (aop orc zz call (fun _ => none) tm [] n false op fun v new n => setK ad i new fun ad => setDst tm dst v fun tm => K tm mu ad n) = aop orc zz call (fun _ => none) tm [] n false op fun v new n => setDst tm dst v fun tm => setK ad i new fun ad => K tm mu ad n
      simp only [setDst_eq, setK_eq]
    | m + 4 =>
      show dr4 (fun fz mu n k => eop orc call fz false op e mu n k) anc i ad n (fun v ad n => k (Go.Ev.updD e dst v) mu ad n) = _
      rw [hf]
      simp only [hj]
      show (joinK (nth [] ad i) (adsOf ad anc) fun own => aop orc zz call (fun _ => none) tm own n false op fun v new n => clearK anc ad fun ad => setK ad i new fun ad => setDst tm dst v fun tm => K tm mu ad n) =
        joinK (nth [] ad i) (adsOf ad anc) fun own => aop orc zz call (fun _ => none) tm own n false op fun v new n => setDst tm dst v fun tm => clearK anc ad fun ad => setK ad i new fun ad => K tm mu ad n
      simp only [setDst_eq, setK_eq, clearK_eq]
  cases g with
  | none => exact e1
  | some p =>
    obtain ⟨q, r, w⟩ := p
    show wantF (atV e q r) w (ropE orc call fz i op mode anc e mu ad n (fun v mu ad n => k (Go.Ev.updD e dst v) mu ad n)) (k (Go.Ev.updD e dst noVal) mu ad n) = wantF (atV e q r) w _ (setDst tm dst noVal fun tm => K tm mu ad n)
    rw [e1, hj]

theorem rrunE_eq : ∀ {ops : List AOper} {i : Nat} {ds : List Nat} {e : Env} {tm : TM} {mu : St} {ad : List St} {n : Nat} {k : List Nat → Env → St → List St → Nat → RR} {K : TM → St → List St → Nat → RR}, (∀ o ∈ ops, okOper nt o = true) → Inv nt kept e t ds tm →
    (∀ ds e tm mu ad n, Inv nt kept e t ds tm → k ds e mu ad n = K tm mu ad n) → rrunE orc call fz ops i ds e mu ad n k = rrun orc zz call fz ops i tm mu ad n K
  | [], i, ds, e, tm, mu, ad, n, k, K, _, hi, hk => hk _ _ _ _ _ _ hi
  | o :: l, i, ds, e, tm, mu, ad, n, k, K, hok, hi, hk => by
    have ho := hok o (by simp)
    have hd := (okOper_elim ho).2.1
    show (rstepE orc call fz i o e mu ad n fun e mu ad n => rrunE orc call fz l (Nat.succ i) (dsO o ds) e mu ad n k) = rstep orc zz call fz i o tm mu ad n fun tm mu ad n => rrun orc zz call fz l (Nat.succ i) tm mu ad n K
    refine rstepE_eq hi.er ho fun v mu ad n => ?_
    exact rrunE_eq (fun o h => hok o (by simp [h])) (hi.step hd v) hk

theorem storeX_some {op : AOp} {x : Od} (h : op.storeX = some x) : ∃ m v, op = .store m x v := by
  cases op <;> first | (cases h; done) | (cases h; exact ⟨_, _, rfl⟩)
theorem apartE_eq (h : EnvR nt e tm) : ∀ {ops : List AOper} {i : Nat} {mu : St} {ad : List St} {k : St → List St → RR}, (∀ o ∈ ops, okOper nt o = true ∧ okLoose o = true) → apartE ops i e mu ad k = apart zz ops i tm mu ad k
  | [], i, mu, ad, k, _ => rfl
  | o :: l, i, mu, ad, k, hok => by
    have ih : ∀ i mu ad, apartE l i e mu ad k = apart zz l i tm mu ad k := fun i mu ad => apartE_eq h fun o h => hok o (by simp [h])
    obtain ⟨h1, h2⟩ := hok o (by simp)
    have h1' := (okOper_elim h1).1
    obtain ⟨dst, op, g, mode, anc⟩ := o
    have e0 : apartE (⟨dst, op, g, mode, anc⟩ :: l) i e mu ad k = Option.rec (motive := fun _ => RR) (apartE l (Nat.succ i) e mu ad k) (fun x => apS (evV e x) i mu ad fun mu ad => apartE l (Nat.succ i) e mu ad k) (Bool.rec (motive := fun _ => Option Od) none op.storeX (Nat.beq mode 4)) := rfl
    rw [e0]
    cases hm : Nat.beq mode 4 with
    | false =>
      show apartE l (Nat.succ i) e mu ad k = cond (Nat.beq mode 4) _ (apart zz l (Nat.succ i) tm mu ad k)
      rw [hm, ih]; rfl
    | true =>
      have h2' : (looseOf ⟨dst, op, g, mode, anc⟩).isSome = true := by
        have h3 : cond (Nat.beq mode 4) ((looseOf ⟨dst, op, g, mode, anc⟩).isSome) true = true := h2
        rw [hm] at h3; exact h3
      have e3 : looseOf ⟨dst, op, g, mode, anc⟩ = op.storeX := by
        show Bool.rec (motive := fun _ => Option Od) none op.storeX (Nat.beq mode 4) = _
        rw [hm]
      rw [e3] at h2'
      obtain ⟨x, hx⟩ := Option.isSome_iff_exists.1 h2'
      obtain ⟨m, v, rfl⟩ := storeX_some hx
      show apS (evV e x) i mu ad (fun mu ad => apartE l (Nat.succ i) e mu ad k) = cond (Nat.beq mode 4) ((ev tm x).onOne (apart zz l (Nat.succ i) tm mu ad k) fun s => s.onPtr (apart zz l (Nat.succ i) tm mu ad k) fun id _ =>
          onLook mu id (apart zz l (Nat.succ i) tm mu ad k) fun cs => killK mu id fun mu => setK ad i [(id, cs)] fun ad => apart zz l (Nat.succ i) tm mu ad k) _
      rw [hm, evE_eq h (List.all_eq_true.1 h1' x (by simp [AOp.odsA]))]
      unfold apS
      simp only [ih]
      rfl

/-! code -/
theorem vIf_eq (v : AV) (a b : RR) : vIf v a b = onIf zz v a b := by
  cases v with
  | ag l => rfl
  | tp l => rfl
  | one s =>
    cases s with
    | bool y => cases y <;> rfl
    | _ => rfl
theorem gx_eq (h : EnvR nt (env0 kept t) tm) {x : Od} (hx : okT nt x = true) : gx kept x t = ev tm x := by
  rw [← evE_eq h hx, evV_eq]
  cases x with
  | c v => rfl
  | t q r =>
    show Option.rec (motive := fun _ => GT) (fun _ => .one .un) (fun j => gAt j) (idxOf kept (16 * q + r) 0) t = (env0 kept t (16 * q + r)).val
    cases hi : idxOf kept (16 * q + r) 0 with
    | none => rw [env0_none hi]; rfl
    | some j => rw [env0_some hi]; rfl

def KR (nt : Nat) (kept : List Nat) (k : AExit → Fm → St → Nat → RR) (K : AExit → TM → St → Nat → RR) : Prop := ∀ e t tm mu n, EnvR nt (env0 kept t) tm → k e t mu n = K e tm mu n
/-- Code as a term, and code: alone, and behind a region. -/
structure Same (nt : Nat) (kept : List Nat) (orc : Orc RR) (call : CallT RR) (fz : Fz) (c : BC) : Prop where
  alone : ∀ t tm mu n k K, EnvR nt (env0 kept t) tm → KR nt kept k K → comp kept c none orc call fz t mu n k = bcode orc zz call fz 100000 (kpOf kept) c tm mu n K
  behind : ∀ e t tm mu n k K, EnvR nt e tm → EnvR nt (env0 kept t) (fg (kpOf kept) tm) → KR nt kept k K → comp kept c (some e) orc call fz t mu n k = bcode orc zz call fz 100000 (kpOf kept) c (cond c.tst tm (fg (kpOf kept) tm)) mu n K

theorem Same.plain {c : BC} (hc : c.tst = false) (hs : ∀ e, comp kept c (some e) = comp kept c none) (h : ∀ t tm mu n k K, EnvR nt (env0 kept t) tm → KR nt kept k K → comp kept c none orc call fz t mu n k = bcode orc zz call fz 100000 (kpOf kept) c tm mu n K) : Same nt kept orc call fz c :=
  ⟨h, fun e t tm mu n k K _ h2 hk => by rw [hs, hc]; exact h t _ mu n k K h2 hk⟩

theorem KR.onward {next : Fm → St → Nat → RR} {Next : TM → St → Nat → RR} {k : AExit → Fm → St → Nat → RR} {K : AExit → TM → St → Nat → RR} (hn : ∀ t tm mu n, EnvR nt (env0 kept t) tm → next t mu n = Next tm mu n) (hk : KR nt kept k K) : KR nt kept (onward next k) (onw Next K) := by
  intro e t tm mu n h
  cases e with
  | normal => exact hn t tm mu n h
  | exit id => exact hk (.exit id) t tm mu n h
  | ret => exact hk .ret t tm mu n h
theorem KR.inBlk {id : Nat} {next : Fm → St → Nat → RR} {Next : TM → St → Nat → RR} {k : AExit → Fm → St → Nat → RR} {K : AExit → TM → St → Nat → RR} (hn : ∀ t tm mu n, EnvR nt (env0 kept t) tm → next t mu n = Next tm mu n) (hk : KR nt kept k K) : KR nt kept (inBlk id next k) (inBN id Next K) := by
  intro e t tm mu n h
  cases e with
  | normal => exact hn t tm mu n h
  | exit id' =>
    show Bool.rec (motive := fun _ => RR) (k (.exit id') t mu n) (next t mu n) (Nat.beq id' id) = cond (Nat.beq id' id) (Next tm mu n) (K (.exit id') tm mu n)
    cases Nat.beq id' id with
    | true => exact hn t tm mu n h
    | false => exact hk (.exit id') t tm mu n h
  | ret => exact hk .ret t tm mu n h

theorem comp_eq (hl : kept.length ≤ 264) : ∀ {c : BC}, okB nt c = true → Same nt kept orc call fz c
  | .norm, _ => Same.plain rfl (fun _ => rfl) fun t tm mu n k K h hk => hk .normal t tm mu n h
  | .ret, _ => Same.plain rfl (fun _ => rfl) fun t tm mu n k K h hk => hk .ret t tm mu n h
  | .bad, _ => Same.plain rfl (fun _ => rfl) fun t tm mu n k K h hk => rfl
  | .exit id, _ => Same.plain rfl (fun _ => rfl) fun t tm mu n k K h hk => hk (.exit id) t tm mu n h
  | .reg ops nx, hok => by
    have hok' : (allL (okOper nt) ops && okB nt nx) = true := hok
    simp only [Bool.and_eq_true] at hok'
    have ih := comp_eq hl hok'.2
    refine Same.plain rfl (fun _ => rfl) fun t tm mu n k K h hk => ?_
    show (runE kept orc call fz ops 10 [] (env0 kept t) t mu n fun ds e t mu n => storK kept e (nub ds) t fun t => comp kept nx (some e) orc call fz t mu n k) = runKf orc zz call fz (kpOf kept) ops 10 tm mu n fun tm mu n => bcode orc zz call fz 100000 (kpOf kept) nx (cond nx.tst tm (fg (kpOf kept) tm)) mu n K
    refine runE_eq hl (allL_iff.1 hok'.1) (Inv.start h) fun ds e t tm mu n hi => ?_
    rw [storK_eq]
    exact ih.behind _ _ _ _ _ _ _ hi.er (hi.stor hl) hk
  | .draw ops nx, hok => by
    have hok' : (allL (fun o => okOper nt o && okLoose o) ops && okB nt nx) = true := hok
    simp only [Bool.and_eq_true] at hok'
    have ih := comp_eq hl hok'.2
    have hall : ∀ o ∈ ops, okOper nt o = true ∧ okLoose o = true := fun o ho => by
      have := allL_iff.1 hok'.1 o ho
      simpa only [Bool.and_eq_true] using this
    refine Same.plain rfl (fun _ => rfl) fun t tm mu n k K h hk => ?_
    show (apartE ops 0 (env0 kept t) mu (ops.map fun _ => []) fun mu ad => rrunE orc call fz ops 0 [] (env0 kept t) mu ad n fun ds e mu ad n => joinAll ad mu fun mu => storK kept e (nub ds) t fun t => comp kept nx (some e) orc call fz t mu n k) =
      apart zz ops 0 tm mu (ops.map fun _ => []) fun mu ad => rrun orc zz call fz ops 0 tm mu ad n fun tm mu ad n => joinAll ad mu fun mu => bcode orc zz call fz 100000 (kpOf kept) nx (cond nx.tst tm (fg (kpOf kept) tm)) mu n K
    rw [apartE_eq h hall]
    congr 1
    funext mu ad
    refine rrunE_eq (t := t) (fun o ho => (hall o ho).1) (Inv.start h) fun ds e tm mu ad n hi => ?_
    rw [joinAll_eq, joinAll_eq, storK_eq]
    exact ih.behind _ _ _ _ _ _ _ hi.er (hi.stor hl) hk
  | .ite x a b, hok => by
    have hok' : (okT nt x && (okB nt a && okB nt b)) = true := hok
    simp only [Bool.and_eq_true] at hok'
    have iha := comp_eq hl hok'.2.1
    have ihb := comp_eq hl hok'.2.2
    refine ⟨fun t tm mu n k K h hk => ?_, fun e t tm mu n k K he h hk => ?_⟩
    · show vIf (gx kept x t) (comp kept a none orc call fz t mu n k) (comp kept b none orc call fz t mu n k) = onIf zz (ev tm x) _ _
      rw [vIf_eq, gx_eq h hok'.1, iha.alone _ _ _ _ _ _ h.again hk, ihb.alone _ _ _ _ _ _ h.again hk]
    · show vIf (evV e x) (comp kept a none orc call fz t mu n k) (comp kept b none orc call fz t mu n k) = onIf zz (ev tm x) _ _
      rw [vIf_eq, evE_eq he hok'.1, iha.alone _ _ _ _ _ _ h hk, ihb.alone _ _ _ _ _ _ h hk]; rfl
  | .iteN x a b nx, hok => by
    have hok' : (okT nt x && (okB nt a && (okB nt b && okB nt nx))) = true := hok
    simp only [Bool.and_eq_true] at hok'
    have iha := comp_eq hl hok'.2.1
    have ihb := comp_eq hl hok'.2.2.1
    have ihn := comp_eq hl hok'.2.2.2
    have hn : ∀ {k K}, KR nt kept k K → KR nt kept (onward (comp kept nx none orc call fz · · · k) k) (onw (bcode orc zz call fz 100000 (kpOf kept) nx · · · K) K) := fun hk => KR.onward (fun t tm mu n h => ihn.alone _ _ _ _ _ _ h hk) hk
    refine ⟨fun t tm mu n k K h hk => ?_, fun e t tm mu n k K he h hk => ?_⟩
    · show vIf (gx kept x t) (comp kept a none orc call fz t mu n (onward (comp kept nx none orc call fz · · · k) k)) (comp kept b none orc call fz t mu n (onward (comp kept nx none orc call fz · · · k) k)) = onIf zz (ev tm x) _ _
      rw [vIf_eq, gx_eq h hok'.1, iha.alone _ _ _ _ _ _ h.again (hn hk), ihb.alone _ _ _ _ _ _ h.again (hn hk)]
    · show vIf (evV e x) (comp kept a none orc call fz t mu n (onward (comp kept nx none orc call fz · · · k) k)) (comp kept b none orc call fz t mu n (onward (comp kept nx none orc call fz · · · k) k)) = onIf zz (ev tm x) _ _
      rw [vIf_eq, evE_eq he hok'.1, iha.alone _ _ _ _ _ _ h (hn hk), ihb.alone _ _ _ _ _ _ h (hn hk)]; rfl
  | .test x id nx, hok => by
    have hok' : (okT nt x && okB nt nx) = true := hok
    simp only [Bool.and_eq_true] at hok'
    have ihn := comp_eq hl hok'.2
    refine ⟨fun t tm mu n k K h hk => ?_, fun e t tm mu n k K he h hk => ?_⟩
    · show vIf (gx kept x t) (comp kept nx none orc call fz t mu n k) (k (.exit id) t mu n) = onIf zz (ev tm x) _ _
      rw [vIf_eq, gx_eq h hok'.1, ihn.alone _ _ _ _ _ _ h.again hk, hk (.exit id) t _ mu n h.again]
    · show vIf (evV e x) (comp kept nx none orc call fz t mu n k) (k (.exit id) t mu n) = onIf zz (ev tm x) _ _
      rw [vIf_eq, evE_eq he hok'.1, ihn.alone _ _ _ _ _ _ h hk, hk (.exit id) t _ mu n h]; rfl
  | .blk id a nx, hok => by
    have hok' : (okB nt a && okB nt nx) = true := hok
    simp only [Bool.and_eq_true] at hok'
    have iha := comp_eq hl hok'.1
    have ihn := comp_eq hl hok'.2
    refine Same.plain rfl (fun _ => rfl) fun t tm mu n k K h hk => ?_
    exact iha.alone t tm mu n (inBlk id (comp kept nx none orc call fz · · · k) k) (inBN id (bcode orc zz call fz 100000 (kpOf kept) nx · · · K) K) h (KR.inBlk (fun t tm mu n h => ihn.alone _ _ _ _ _ _ h hk) hk)
  | .loop a nx, hok => by
    have hok' : (okB nt a && okB nt nx) = true := hok
    simp only [Bool.and_eq_true] at hok'
    have iha := comp_eq hl hok'.1
    have ihn := comp_eq hl hok'.2
    refine Same.plain rfl (fun _ => rfl) fun t tm mu n k K h hk => ?_
    have key : ∀ (fuel : Nat) t tm mu n k K, EnvR nt (env0 kept t) tm → KR nt kept k K → loopK (comp kept a none) orc call fz fuel t mu n k = loopD zz (bcode orc zz call fz 100000 (kpOf kept) a) fuel tm mu n K := by
      intro fuel
      induction fuel with
      | zero => intros; rfl
      | succ f ih =>
        intro t tm mu n k K h hk
        exact iha.alone t tm mu n (onward (loopK (comp kept a none) orc call fz f · · · k) k) (onw (loopD zz (bcode orc zz call fz 100000 (kpOf kept) a) f · · · K) K) h (KR.onward (fun t tm mu n h => ih t tm mu n k K h hk) hk)
    have e1 : comp kept (.loop a nx) none = cLoop (comp kept a none) (comp kept nx none) := rfl
    rw [e1, bcode]
    unfold cLoop
    exact key _ t tm mu n _ _ h (KR.onward (fun t tm mu n h => ihn.alone _ _ _ _ _ _ h hk) hk)
end
end Go.Ev
