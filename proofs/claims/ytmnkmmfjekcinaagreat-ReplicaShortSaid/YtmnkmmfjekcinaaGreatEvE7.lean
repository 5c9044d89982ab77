/-
  Calls of code as terms: sound. Laws.
-/
import Derived.Test.YtmnkmmfjekcinaaGreatEvE6
set_option linter.unusedVariables false
set_option linter.unusedSimpArgs false
namespace Go.Ev

noncomputable def tmOf (nt : Nat) (e : Env) : TM := (List.range ((nt + 15) / 16)).map fun q => (List.range (min 16 (nt - 16 * q))).map fun r => (e (16 * q + r)).val
theorem tmOf_in {nt : Nat} {e : Env} {q r : Nat} (hr : r < 16) (hn : 16 * q + r < nt) : inR (tmOf nt e) q r ∧ get (tmOf nt e) q r = (e (16 * q + r)).val := by
  have h1 : (tmOf nt e)[q]? = some ((List.range (min 16 (nt - 16 * q))).map fun r => (e (16 * q + r)).val) := by
    unfold tmOf
    rw [List.getElem?_map, List.getElem?_range (by omega)]; rfl
  refine ⟨⟨_, h1, by simp; omega⟩, ?_⟩
  unfold get
  rw [nth_eq, nth_eq, h1, Option.getD_some, List.getElem?_map, List.getElem?_range (by omega)]
  rfl
theorem tmOf_out {nt : Nat} {e : Env} {q r : Nat} (h : inR (tmOf nt e) q r) : 16 * q + r < nt := by
  obtain ⟨row, h1, h2⟩ := h
  unfold tmOf at h1
  rw [List.getElem?_map] at h1
  obtain ⟨q', h3, rfl⟩ := Option.map_eq_some_iff.1 h1
  have h4 := List.getElem?_eq_some_iff.1 h3
  obtain ⟨h5, h6⟩ := h4
  simp at h6
  subst h6
  simp at h2
  omega
theorem tmOf_envR (nt : Nat) (e : Env) : EnvR nt e (tmOf nt e) := fun _ _ hr hn => tmOf_in hr hn

section
variable {nt : Nat} {kept : List Nat} {e : Env} {t : Fm} {tm : TM} {fz : Fz}
theorem res1_eq (h : EnvR nt (env0 kept t) tm) {r : ARes} (hr : okRes nt r = true) {mu : St} {k : AV → RR} : res1 r (env0 kept t) fz mu k = resVal zz fz r tm mu k := by
  cases r with
  | tmp q r =>
    have := okT_t (show okT nt (.t q r) = true from hr)
    show k (atV (env0 kept t) q r) = k (get tm q r)
    rw [atV_eq, (h q r this.1 this.2).2]
  | cell q r a m =>
    have := okT_t (show okT nt (.t q r) = true from hr)
    show rCell (atV (env0 kept t) q r) a m fz mu k = (get tm q r).onOne zz fun s => s.onPtr zz fun id off => lookAll fz mu id zz fun cs => subK cs off m zz fun c => asRes a c zz k
    rw [atV_eq, (h q r this.1 this.2).2]; rfl
theorem resAllE_eq (h : EnvR nt (env0 kept t) tm) : ∀ {l : List ARes}, (∀ r ∈ l, okRes nt r = true) → ∀ {mu : St} {k : List CV → RR}, resAllE l (env0 kept t) fz mu k = resAll zz fz l tm mu k
  | [], _, mu, k => rfl
  | r :: l, hr, mu, k => by
    show (res1 r (env0 kept t) fz mu fun v => toCV zz v fun c => resAllE l (env0 kept t) fz mu fun cs => k (c :: cs)) = resVal zz fz r tm mu fun v => toCV zz v fun c => resAll zz fz l tm mu fun cs => k (c :: cs)
    rw [res1_eq h (hr r (by simp))]
    congr 1
    funext v
    congr 1
    funext c
    exact resAllE_eq h fun r hr' => hr r (by simp [hr'])
theorem resC_eq (h : EnvR nt (env0 kept t) tm) {l : List ARes} (hr : ∀ r ∈ l, okRes nt r = true) {mu : St} {k : AV → RR} : resC kept l fz t mu k = resK zz fz l tm mu k := by
  match l, hr with
  | [], _ => rfl
  | [.tmp q r], hr =>
    show fAV (gx kept (.t q r) t) k = k (get tm q r)
    rw [fAV_eq, gx_eq h (show okT nt (.t q r) = true from hr (.tmp q r) (by simp))]; rfl
  | [.cell q r a m], hr => exact res1_eq (r := .cell q r a m) h (hr _ (by simp))
  | r :: r2 :: l, hr =>
    show (resAllE (r :: r2 :: l) (env0 kept t) fz mu fun cs => k (.tp cs)) = resAll zz fz (r :: r2 :: l) tm mu fun cs => k (.tp cs)
    exact resAllE_eq h hr
end

def HOk (P : Program) (f : Nat) (h : HFunc) : Prop := hasBody P f = true ∧ ∃ fn m kept af, P.funcs[f]? = some fn ∧ prepFunc P m fn = some af ∧ okFunc kept af = true ∧ compFunc kept af = h
theorem hok {P : Program} {f : Nat} {h : HFunc} {m : Muts} {kept : List Nat} {fn : Func} (hb : hasBody P f = true) (hf : P.funcs[f]? = some fn) (h1 : (prepFunc P m fn).map (okFunc kept) = some true) (h2 : (prepFunc P m fn).map (compFunc kept) = some h) : HOk P f h := by
  cases hp : prepFunc P m fn with
  | none => rw [hp] at h1; cases h1
  | some af =>
    rw [hp] at h1 h2
    simp only [Option.map_some, Option.some.injEq] at h1 h2
    exact ⟨hb, fn, m, kept, af, hf, hp, h1, h2⟩

section
variable {T : RR → Prop} {P : Program} {val : Nat → Int} {orc : Orc RR}

theorem frm_TmR {nt nargs : Nat} {kept : List Nat} {args : List AV} (hlen : args.length = nargs) (h8 : nargs ≤ 8) (hk : ∀ i, i < nargs → idxOf kept i 0 = some i) (ρ : Rho) (w : World) (xs : List Value) (hx : All2 (AVR val ρ w) args xs) :
    TmR val ρ w (tmOf nt (env0 kept (frm args))) { tmps := xs.toArray ++ Array.replicate (nt - xs.toArray.size) undef, defers := [] } := by
  refine ⟨fun t ht => ?_, fun t => ?_⟩
  · have := tmOf_out ht
    simp; omega
  · by_cases ht : t < nt
    · have h1 := (tmOf_in (nt := nt) (e := env0 kept (frm args)) (q := t / 16) (r := t % 16) (by omega) (by omega)).2
      have e1 : 16 * (t / 16) + t % 16 = t := by omega
      rw [h1, e1]
      cases hi : idxOf kept t 0 with
      | none => rw [env0_none hi]; trivial
      | some j =>
        rw [env0_some hi]
        show AVR val ρ w (gAt j (frm args)) _
        rw [gAt_frm (by omega)]
        by_cases hj : j < nargs
        · have hjj := hk j hj
          have : t = j := idxOf_inj hi hjj
          subst this
          have h3 : t < args.length := by omega
          obtain ⟨b, h4, h5⟩ := hx.get (List.getElem?_eq_getElem h3)
          have h6 : t < xs.length := by rw [← hx.length]; exact h3
          rw [List.getElem?_eq_getElem h3, Option.getD_some, Array.getD_eq_getD_getElem?, Array.getElem?_append_left (by simpa using h6)]
          simp only [List.getElem?_toArray, h4, Option.getD_some]
          exact h5
        · rw [List.getElem?_eq_none (by omega)]; trivial
    · have : get (tmOf nt (env0 kept (frm args))) (t / 16) (t % 16) = .one .un := by
        by_cases hin : inR (tmOf nt (env0 kept (frm args))) (t / 16) (t % 16)
        · have := tmOf_out hin; omega
        · cases hg : get (tmOf nt (env0 kept (frm args))) (t / 16) (t % 16) with
          | one s => cases s with
            | un => rfl
            | _ => exact (hin (get_inR (by rw [hg]; intro h; cases h))).elim
          | _ => exact (hin (get_inR (by rw [hg]; intro h; cases h))).elim
      rw [this]; trivial

theorem hcall_sound (hz : ¬ T zz) (hk : OrcOk T val orc) (hmx : P.follows .mixedOrders = true) {K : Nat → Option (Contract RR)} {F : Nat → Option HFunc} (hK : ∀ f c, K f = some c → ContractOk T P val f c) (hF : ∀ f h, F f = some h → HOk P f h) :
    ∀ depth, CallSound T P val (hcall orc K F depth)
  | 0 => fun f args fz mu n k h => (hz h).elim
  | depth + 1 => fun f args fz mu n k h => by
    have ih := hcall_sound hz hk hmx hK hF depth
    have h : T (Option.rec (motive := fun _ => RR)
      (Option.rec (motive := fun _ => RR) zz (fun fn => HFunc.rec (motive := fun _ => RR) (fun init res body => init args fun t => body orc (hcall orc K F depth) fz t mu n (ends res fz k)) fn) (F f))
      (fun c => c args fz mu n k) (K f)) := h
    cases eK : K f with
    | some c =>
      rw [eK] at h
      exact hK f c eK args fz mu n k h
    | none =>
      rw [eK] at h
      cases eF : F f with
      | none => rw [eF] at h; exact (hz h).elim
      | some hf =>
        rw [eF] at h
        obtain ⟨hb, fn, m, kept, af, hfn, hp, hok, hcomp⟩ := hF f hf eF
        subst hcomp
        unfold prepFunc at hp
        cases hbody : fn.body with
        | none => rw [hbody] at hp; cases hp
        | some c =>
          rw [hbody] at hp
          simp only at hp
          split at hp
          · rename_i b r hpc hpr
            cases hp
            have h : T (initAt (fn.params.size + fn.nfree) args fun t => comp kept (flat b .norm) none orc (hcall orc K F depth) fz t mu n (ends (resC kept r) fz k)) := h
            simp only [okFunc, Bool.and_eq_true] at hok
            obtain ⟨ok1, ok2, ok3, ok4, ok5⟩ := hok
            have hl : kept.length ≤ 264 := Nat.le_of_ble_eq_true ok1
            have hkp : ∀ i, i < fn.params.size + fn.nfree → idxOf kept i 0 = some i := fun i hi => by
              have := allL_iff.1 ok3 i (by simpa using hi)
              have h2 : Option.rec (motive := fun _ => Bool) false (fun j => Nat.beq j i) (idxOf kept i 0) = true := this
              cases hx : idxOf kept i 0 with
              | none => rw [hx] at h2; cases h2
              | some j => rw [hx] at h2; rw [Nat.eq_of_beq_eq_true h2]
            obtain ⟨hlen, h8, h1⟩ := initAt_elim hz h
            have henv := tmOf_envR fn.ntmps (env0 kept (frm args))
            have hKR : KR fn.ntmps kept (ends (resC kept r) fz k) (fun e tm mu n => AExit.rec (motive := fun _ => RR) (resK zz fz r tm mu fun v => k v mu n) (fun _ => zz) (resK zz fz r tm mu fun v => k v mu n) e) := by
              intro e t tm mu n he
              have := resC_eq (fz := fz) he (allL_iff.1 ok4) (mu := mu) (k := fun v => k v mu n)
              cases e with
              | normal => exact this
              | ret => exact this
              | exit id => rfl
            rw [(comp_eq (orc := orc) (call := hcall orc K F depth) (fz := fz) hl ok5).alone _ _ mu n _ _ henv hKR] at h1
            obtain ⟨e, tm', mu', n', h3, h4⟩ := bcode_sound (P := P) (val := val) hz ih hk hmx c hpc h1
            have h3' := out_norm h3
            have h5 : T (resK zz fz r tm' mu' fun v => k v mu' n') ∧ (e = .normal ∨ e = .ret) := by
              cases e with
              | normal => exact ⟨h3', .inl rfl⟩
              | ret => exact ⟨h3', .inr rfl⟩
              | exit id => exact (hz h3').elim
            obtain ⟨h6, h7⟩ := h5
            obtain ⟨v, h8', h9⟩ := resK_sound (P := P) (val := val) hz hpr h6
            refine ⟨v, mu', n', h8', hb, h4.1, fun ρ w xs hr hx hf => ?_⟩
            refine calls_of_wp hfn hbody (h4.2 ρ w _ hr (frm_TmR hlen h8 hkp ρ w xs hx) hf _ fun a' w' hp => ?_)
            obtain ⟨d, ρ', p1, p2, p3, p4, p5, p6⟩ := hp
            obtain ⟨x, g1, g2⟩ := h9 ρ' w' a' p2 p3
            have : a'.defers = [] ∧ ∃ v_1, (results fn a'.tmps).run P w' = .ok v_1 w' ∧ ∃ x, Ending.returned v_1 = .returned x ∧ Post val ρ fz mu n w v mu' n' x w' :=
              ⟨d, x, g1, x, rfl, ρ', p1, p2, g2, p4, p5, p6⟩
            rcases h7 with rfl | rfl
            · exact this
            · exact this
          · cases hp
end

def HTree.Ok (P : Program) : HTree → Prop
  | .nil => True
  | .node k v l r => HOk P k v ∧ l.Ok P ∧ r.Ok P
theorem HTree.ok {P : Program} : ∀ {t : HTree}, t.Ok P → ∀ f h, t.find f = some h → HOk P f h
  | .nil, _, f, h, e => by cases e
  | .node k v l r, ht, f, h, e => by
    have e' : Bool.rec (motive := fun _ => Option HFunc) (Bool.rec (motive := fun _ => Option HFunc) (r.find f) (l.find f) (Nat.ble f k)) (some v) (Nat.beq f k) = some h := e
    cases e1 : Nat.beq f k with
    | true =>
      rw [e1] at e'
      have := Nat.eq_of_beq_eq_true e1
      subst this
      cases e'
      exact ht.1
    | false =>
      rw [e1] at e'
      cases e2 : Nat.ble f k with
      | true => rw [e2] at e'; exact HTree.ok ht.2.1 f h e'
      | false => rw [e2] at e'; exact HTree.ok ht.2.2 f h e'

/-- A law: it returns true, and leaves the elder world alone. -/
theorem lawH {T : RR → Prop} (hz : ¬ T zz) {P : Program} {val : Nat → Int} {orc : Orc RR} {K : Nat → Option (Contract RR)} {F : HTree} {depth f : Nat} {args : List AV} (hR : ∀ v mu n, T (isR v mu n) → v = .one (.bool true)) (hk : OrcOk T val orc) (hmx : P.follows .mixedOrders = true)
    (hK : ∀ f c, K f = some c → ContractOk T P val f c) (hF : F.Ok P) (h : T (hcall orc K F.find depth f args (fun _ => none) [] 0 isR)) (w : World) (xs : List Value) (hx : All2 (AVR val (fun _ => none) w) args xs) :
    Calls P f xs.toArray w fun e w' => e = .returned (.bool true) ∧ Fr (fun _ => none) [] w w' := by
  obtain ⟨v, mu', n', h1, _, h2, h3⟩ := hcall_sound (T := T) hz hk hmx hK (HTree.ok hF) depth f args (fun _ => none) [] 0 isR h
  have := hR _ _ _ h1
  subst this
  refine (h3 (fun _ => none) w xs ⟨fun id cs h => (by cases h), fun id cs h => (by cases h), fun id cs h => (by cases h), fun id id' p p' h => (by cases h)⟩ hx fun _ _ _ => rfl).mono fun e w' ⟨x, e1, ρ', p1, p2, p3, p4, p5, p6⟩ => ?_
  subst e1
  have hx : x = .bool true := p3
  subst hx
  exact ⟨rfl, p4⟩
end Go.Ev
