/-
  Code in its flat form, what is not kept forgotten: sound.
-/
import Derived.Test.YtmnkmmfjekcinaaGreatEvB
set_option linter.unusedVariables false
set_option linter.unusedSimpArgs false
namespace Go.Ev

/-- What is not kept is forgotten. -/
noncomputable def fg (kp : Nat → Bool) (tm : TM) : TM := tm.zipIdx.map fun p => p.1.zipIdx.map fun s => cond (kp (16 * p.2 + s.2)) s.1 (.one .un)
theorem row_fg (kp : Nat → Bool) (tm : TM) (q : Nat) : (fg kp tm)[q]? = (tm[q]?).map fun row => row.zipIdx.map fun s => cond (kp (16 * q + s.2)) s.1 (.one .un) := by
  unfold fg
  rw [List.getElem?_map, List.getElem?_zipIdx]
  cases tm[q]? <;> simp
theorem inR_fg {kp : Nat → Bool} {tm : TM} {q r : Nat} : inR (fg kp tm) q r ↔ inR tm q r := by
  unfold inR
  rw [row_fg]
  cases tm[q]? <;> simp
theorem get_fg (kp : Nat → Bool) (tm : TM) (q r : Nat) : get (fg kp tm) q r = cond (kp (16 * q + r)) (get tm q r) (.one .un) := by
  unfold get
  rw [nth_eq, nth_eq, nth_eq, nth_eq, row_fg]
  cases tm[q]? with
  | none => simp
  | some row =>
    simp only [Option.map_some, Option.getD_some, List.getElem?_map, List.getElem?_zipIdx, Nat.zero_add]
    cases row[r]? with
    | none => simp
    | some v => simp
theorem TmR.fg {val : Nat → Int} {ρ : Rho} {w : World} {tm : TM} {a : Act} (kp : Nat → Bool) (h : TmR val ρ w tm a) : TmR val ρ w (fg kp tm) a := by
  refine ⟨fun t ht => h.rng t (inR_fg.1 ht), fun t => ?_⟩
  rw [get_fg]
  cases kp (16 * (t / 16) + t % 16) with
  | true => exact h.vals t
  | false => trivial
theorem PostS.fg {val : Nat → Int} {ρ : Rho} {fz : Fz} {mu : St} {n : Nat} {w : World} {a : Act} {tm' : TM} {mu' : St} {n' : Nat} {a' : Act} {w' : World} (kp : Nat → Bool) (h : PostS val ρ fz mu n w a tm' mu' n' a' w') : PostS val ρ fz mu n w a (fg kp tm') mu' n' a' w' := by
  obtain ⟨d, ρ', p1, p2, p3, p4⟩ := h
  exact ⟨d, ρ', p1, p2, p3.fg kp, p4⟩

def BC.tst : BC → Bool
  | .ite .. => true
  | .iteN .. => true
  | .test .. => true
  | _ => false

section
variable {R : Type}
noncomputable def inBN (id : Nat) (next : TM → St → Nat → R) (k : AExit → TM → St → Nat → R) : AExit → TM → St → Nat → R := fun e tm mu n => AExit.rec (motive := fun _ => R) (next tm mu n) (fun id' => cond (Nat.beq id' id) (next tm mu n) (k (.exit id') tm mu n)) (k .ret tm mu n) e
noncomputable def onIf (z : R) (v : AV) (a b : R) : R := v.onOne z fun s => s.onBool z fun t => cond t a b

/-- Operations in their order; each ten what is not kept is forgotten. -/
noncomputable def runKf (orc : Orc R) (z : R) (call : CallT R) (fz : Fz) (kp : Nat → Bool) (ops : List AOper) : Nat → TM → St → Nat → (TM → St → Nat → R) → R :=
  List.rec (motive := fun _ => Nat → TM → St → Nat → (TM → St → Nat → R) → R) (fun _ tm mu n k => k tm mu n)
    (fun o _ ih c tm mu n k => Nat.rec (motive := fun _ => R) (stepK orc z call fz o (fg kp tm) mu n fun tm mu n => ih 9 tm mu n k) (fun c _ => stepK orc z call fz o tm mu n fun tm mu n => ih c tm mu n k) c) ops
noncomputable def bcode (orc : Orc R) (z : R) (call : CallT R) (fz : Fz) (fuel : Nat) (kp : Nat → Bool) : BC → TM → St → Nat → (AExit → TM → St → Nat → R) → R
  | .norm, tm, mu, n, k => k .normal tm mu n
  | .ret, tm, mu, n, k => k .ret tm mu n
  | .bad, _, _, _, _ => z
  | .exit id, tm, mu, n, k => k (.exit id) tm mu n
  | .reg ops nx, tm, mu, n, k => runKf orc z call fz kp ops 10 tm mu n fun tm mu n => bcode orc z call fz fuel kp nx (cond nx.tst tm (fg kp tm)) mu n k
  | .draw ops nx, tm, mu, n, k => drawK orc z call fz ops tm mu n fun tm mu n => bcode orc z call fz fuel kp nx (cond nx.tst tm (fg kp tm)) mu n k
  | .ite x a b, tm, mu, n, k => onIf z (ev tm x) (bcode orc z call fz fuel kp a (fg kp tm) mu n k) (bcode orc z call fz fuel kp b (fg kp tm) mu n k)
  | .iteN x a b nx, tm, mu, n, k => onIf z (ev tm x) (bcode orc z call fz fuel kp a (fg kp tm) mu n (onw (bcode orc z call fz fuel kp nx · · · k) k)) (bcode orc z call fz fuel kp b (fg kp tm) mu n (onw (bcode orc z call fz fuel kp nx · · · k) k))
  | .test x id nx, tm, mu, n, k => onIf z (ev tm x) (bcode orc z call fz fuel kp nx (fg kp tm) mu n k) (k (.exit id) (fg kp tm) mu n)
  | .blk id a nx, tm, mu, n, k => bcode orc z call fz fuel kp a tm mu n (inBN id (bcode orc z call fz fuel kp nx · · · k) k)
  | .loop a nx, tm, mu, n, k => loopD z (bcode orc z call fz fuel kp a) fuel tm mu n (onw (bcode orc z call fz fuel kp nx · · · k) k)
end

section
variable {R : Type} {T : R → Prop} {z : R} {P : Program} {val : Nat → Int} {fz : Fz} {orc : Orc R} {call : CallT R} {kp : Nat → Bool}

theorem CodeD.fg {c : Code} {tm : TM} {mu : St} {n : Nat} {e : AExit} {tm' : TM} {mu' : St} {n' : Nat} (h : CodeD P val fz c (fg kp tm) mu n e tm' mu' n') : CodeD P val fz c tm mu n e tm' mu' n' :=
  ⟨h.1, fun ρ w a hr ht hf Q hQ => h.2 ρ w a hr (ht.fg kp) hf Q hQ⟩

/-- How a piece ends: plainly, and on; or otherwise. -/
def Out (T : R → Prop) (next : TM → St → Nat → Prop) (k : AExit → TM → St → Nat → R) : AExit → TM → St → Nat → Prop
  | .normal, tm, mu, n => next tm mu n
  | .exit id, tm, mu, n => T (k (.exit id) tm mu n)
  | .ret, tm, mu, n => T (k .ret tm mu n)

theorem runKf_sound (hz : ¬ T z) (hc : CallSound T P val call) (hk : OrcOk T val orc) {ops : Array Oper} : ∀ {l : List Oper} {al : List AOper} {c : Nat} {tm : TM} {mu : St} {n : Nat} {k : TM → St → Nat → R}, All2 (OpR P ops) l al → T (runKf orc z call fz kp al c tm mu n k) →
    ∃ tm' mu' n', T (k tm' mu' n') ∧ n ≤ n' ∧ ∀ ρ w a, Rel val ρ fz mu w → TmR val ρ w tm a → FreshN ρ n n' → ∀ (Q : Exit → Act → World → Prop), (∀ a' w', PostS val ρ fz mu n w a tm' mu' n' a' w' → Q .normal a' w') → wpList P ops Q l a w
  | [], [], c, tm, mu, n, k, _, h => ⟨tm, mu, n, h, Nat.le_refl _, fun ρ w a hr ht _ Q hQ => hQ a w (PostS.refl hr ht)⟩
  | [], _ :: _, _, _, _, _, _, hl, _ => hl.elim
  | _ :: _, [], _, _, _, _, _, hl, _ => hl.elim
  | o :: l, ao :: al, c, tm, mu, n, k, hl, h => by
    have go : ∀ (c' : Nat) (tm0 : TM), (∀ ρ w a, TmR val ρ w tm a → TmR val ρ w tm0 a) → T (stepK orc z call fz ao tm0 mu n fun tm mu n => runKf orc z call fz kp al c' tm mu n k) →
        ∃ tm' mu' n', T (k tm' mu' n') ∧ n ≤ n' ∧ ∀ ρ w a, Rel val ρ fz mu w → TmR val ρ w tm a → FreshN ρ n n' → ∀ (Q : Exit → Act → World → Prop), (∀ a' w', PostS val ρ fz mu n w a tm' mu' n' a' w' → Q .normal a' w') → wpList P ops Q (o :: l) a w := by
      intro c' tm0 h0 h
      obtain ⟨tm1, mu1, n1, h1, h2⟩ := stepK_sound (P := P) (val := val) hz hc hk hl.1 h
      obtain ⟨tm2, mu2, n2, h3, h4, h5⟩ := runKf_sound hz hc hk hl.2 h1
      refine ⟨tm2, mu2, n2, h3, Nat.le_trans h2.1 h4, fun ρ w a hr ht hf Q hQ => ?_⟩
      have := h2.2 ρ w a hr (h0 ρ w a ht) (hf.sub (Nat.le_refl _) h4) (wpList P ops Q l) Q fun a1 w1 hp => by
        obtain ⟨d, ρ1, p1, p2, p3, p4, p5, p6⟩ := hp
        refine h5 ρ1 w1 a1 p2 p3 (hf.later p1 h2.1) Q fun a2 w2 hp2 => hQ a2 w2 ?_
        exact PostS.trans d p1 p4 p5 p6 h2.1 h4 hp2
      simpa only [wpList] using this
    cases c with
    | zero => exact go 9 (fg kp tm) (fun ρ w a ht => ht.fg kp) h
    | succ c => exact go c tm (fun ρ w a ht => ht) h

theorem fgC (kp : Nat → Bool) (b : Bool) {val : Nat → Int} {ρ : Rho} {fz : Fz} {mu : St} {n : Nat} {w : World} {a : Act} {tm' : TM} {mu' : St} {n' : Nat} {a' : Act} {w' : World} (h : PostS val ρ fz mu n w a tm' mu' n' a' w') : PostS val ρ fz mu n w a (cond b tm' (fg kp tm')) mu' n' a' w' := by
  cases b with
  | true => exact h
  | false => exact h.fg kp

theorem onIf_elim (hz : ¬ T z) {v : AV} {a b : R} (h : T (onIf z v a b)) : ∃ t, v = .one (.bool t) ∧ T (cond t a b) := by
  obtain ⟨s, e1, h1⟩ := onOne_elim hz h
  obtain ⟨t, e2, h2⟩ := onBool_elim hz h1
  exact ⟨t, by rw [e1, e2], h2⟩

theorem out_onw {next : TM → St → Nat → R} {k : AExit → TM → St → Nat → R} {e : AExit} {tm : TM} {mu : St} {n : Nat} (h : T (onw next k e tm mu n)) : Out T (fun tm mu n => T (next tm mu n)) k e tm mu n := by
  cases e <;> exact h
theorem out_norm {fuel : Nat} {k : AExit → TM → St → Nat → R} {e : AExit} {tm : TM} {mu : St} {n : Nat} (h : Out T (fun tm mu n => T (bcode orc z call fz fuel kp .norm tm mu n k)) k e tm mu n) : T (k e tm mu n) := by
  cases e <;> exact h

theorem testId_some {a b : ACode} {id : Nat} (h : ACode.testId a b = some id) : a = .skip ∧ b = .exit id := by
  unfold ACode.testId at h
  split at h
  · cases h; exact ⟨rfl, rfl⟩
  · cases h

theorem bcode_sound (hz : ¬ T z) (hc : CallSound T P val call) (hk : OrcOk T val orc) (hmx : P.follows .mixedOrders = true) {m : Muts} {fuel : Nat} : ∀ (c : Code) {ac : ACode} {nx : BC} {tm : TM} {mu : St} {n : Nat} {k : AExit → TM → St → Nat → R}, prepCode P m c = some ac → T (bcode orc z call fz fuel kp (flat ac nx) tm mu n k) →
    ∃ e tm' mu' n', Out T (fun tm mu n => T (bcode orc z call fz fuel kp nx tm mu n k)) k e tm' mu' n' ∧ CodeD P val fz c tm mu n e tm' mu' n'
  | .skip, ac, nx, tm, mu, n, k, hp, h => by
    simp only [prepCode, Option.some.injEq] at hp; subst hp
    exact ⟨.normal, tm, mu, n, h, codeD_same fun Q a w hq => wp_skip hq⟩
  | .label l, ac, nx, tm, mu, n, k, hp, h => by
    simp only [prepCode, Option.some.injEq] at hp; subst hp
    exact ⟨.normal, tm, mu, n, h, codeD_same fun Q a w hq => wp_label hq⟩
  | .exit id, ac, nx, tm, mu, n, k, hp, h => by
    simp only [prepCode, Option.some.injEq] at hp; subst hp
    exact ⟨.exit id, tm, mu, n, h, codeD_same fun Q a w hq => wp_exit hq⟩
  | .ret, ac, nx, tm, mu, n, k, hp, h => by
    simp only [prepCode, Option.some.injEq] at hp; subst hp
    exact ⟨.ret, tm, mu, n, h, codeD_same fun Q a w hq => wp_ret hq⟩
  | .region id ops false, ac, nx, tm, mu, n, k, hp, h => by
    simp only [prepCode] at hp
    split at hp
    · rename_i al h1
      cases hp
      obtain ⟨tm', mu', n', h2, h3, h4⟩ := runKf_sound (P := P) (val := val) hz hc hk (prepOpers_R h1) (show T (runKf orc z call fz kp al 10 tm mu n fun tm mu n => bcode orc z call fz fuel kp nx (cond nx.tst tm (fg kp tm)) mu n k) from h)
      exact ⟨.normal, _, mu', n', h2, h3, fun ρ w a hr ht hf Q hQ => wp_region_list (h4 ρ w a hr ht hf Q fun a' w' hp => hQ a' w' (fgC kp nx.tst hp))⟩
    · cases hp; exact (hz h).elim
  | .region id ops true, ac, nx, tm, mu, n, k, hp, h => by
    simp only [prepCode] at hp
    split at hp
    · rename_i l h1
      split at hp
      · rename_i hok
        cases hp
        have hR : All2 (OpR P ops) ops.toList (modes l (ancs ops.toList [])) := by
          have hl := prepOpers_R h1
          have hlen : (modes l (ancs ops.toList [])).length = ops.toList.length := modes_length h1
          refine All2.of_get hlen.symm fun i o ao ho hao => ?_
          obtain ⟨ao', h2, h3⟩ := hl.get ho
          exact h3.same (modes_get h2 hao)
        obtain ⟨tm', mu', n', h2, h3, h4⟩ := draw_sound (P := P) (val := val) (id := id) hz hc hk hmx hok hR (show T (drawK orc z call fz _ tm mu n fun tm mu n => bcode orc z call fz fuel kp nx (cond nx.tst tm (fg kp tm)) mu n k) from h)
        exact ⟨.normal, _, mu', n', h2, h3, fun ρ w a hr ht hf Q hQ => h4 ρ w a hr ht hf Q fun a' w' hp => hQ a' w' (fgC kp nx.tst hp)⟩
      · cases hp; exact (hz h).elim
    · cases hp; exact (hz h).elim
  | .seq a b, ac, nx, tm, mu, n, k, hp, h => by
    simp only [prepCode] at hp
    split at hp
    · rename_i x y hx hy
      cases hp
      obtain ⟨e, tm1, mu1, n1, h1, h2⟩ := bcode_sound hz hc hk hmx a hx (show T (bcode orc z call fz fuel kp (flat x (flat y nx)) tm mu n k) from h)
      cases e with
      | normal =>
        obtain ⟨e2, tm2, mu2, n2, h3, h4⟩ := bcode_sound hz hc hk hmx b hy (show T (bcode orc z call fz fuel kp (flat y nx) tm1 mu1 n1 k) from h1)
        refine ⟨e2, tm2, mu2, n2, h3, Nat.le_trans h2.1 h4.1, fun ρ w a hr ht hf Q hQ => wp_seq ?_⟩
        refine h2.2 ρ w a hr ht (hf.sub (Nat.le_refl _) h4.1) _ fun a1 w1 hp => ?_
        obtain ⟨d, ρ1, p1, p2, p3, p4, p5, p6⟩ := hp
        refine h4.2 ρ1 w1 a1 p2 p3 (hf.later p1 h2.1) Q fun a2 w2 hp2 => hQ a2 w2 ?_
        exact PostS.trans d p1 p4 p5 p6 h2.1 h4.1 hp2
      | exit id => exact ⟨.exit id, tm1, mu1, n1, h1, h2.1, fun ρ w a hr ht hf Q hQ => wp_seq (h2.2 ρ w a hr ht hf (Exit.then (b.wp P Q) Q) hQ)⟩
      | ret => exact ⟨.ret, tm1, mu1, n1, h1, h2.1, fun ρ w a hr ht hf Q hQ => wp_seq (h2.2 ρ w a hr ht hf (Exit.then (b.wp P Q) Q) hQ)⟩
    · cases hp
  | .cond c a b, ac, nx, tm, mu, n, k, hp, h => by
    simp only [prepCode] at hp
    split at hp
    · rename_i c' x y hcd hx hy
      cases hp
      have hev : ∀ t, ev tm c' = .one (.bool t) → ∀ ρ w (act : Act), TmR val ρ w tm act → act.eval c = .bool t := fun t e1 ρ w act ht => by
        have := ht.ev hcd
        rw [e1] at this
        exact this
      have yes : ∀ {t : Bool} {e : AExit} {tm' : TM} {mu' : St} {n' : Nat}, ev tm c' = .one (.bool t) → t = true → CodeD P val fz a (fg kp tm) mu n e tm' mu' n' → CodeD P val fz (.cond c a b) tm mu n e tm' mu' n' := fun e1 et h =>
        ⟨h.1, fun ρ w act hr ht hf Q hQ => wp_cond_true (by rw [hev _ e1 ρ w act ht, et]) (h.fg.2 ρ w act hr ht hf Q hQ)⟩
      have no : ∀ {t : Bool} {e : AExit} {tm' : TM} {mu' : St} {n' : Nat}, ev tm c' = .one (.bool t) → t = false → CodeD P val fz b (fg kp tm) mu n e tm' mu' n' → CodeD P val fz (.cond c a b) tm mu n e tm' mu' n' := fun e1 et h =>
        ⟨h.1, fun ρ w act hr ht hf Q hQ => wp_cond_false (by rw [hev _ e1 ρ w act ht, et]) (h.fg.2 ρ w act hr ht hf Q hQ)⟩
      have h9 : T (bcode orc z call fz fuel kp (Bool.rec (motive := fun _ => BC) (Option.rec (motive := fun _ => BC) (.iteN c' (flat x .norm) (flat y .norm) nx) (fun id => .test c' id nx) (ACode.testId x y)) (.ite c' (flat x .norm) (flat y .norm)) nx.isNorm) tm mu n k) := h
      cases hn : nx.isNorm with
      | true =>
        have hnx : nx = .norm := by cases nx <;> first | rfl | cases hn
        subst hnx
        simp only [hn] at h9
        obtain ⟨t, e1, h1⟩ := onIf_elim hz h9
        cases t with
        | true =>
          obtain ⟨e, tm1, mu1, n1, h3, h4⟩ := bcode_sound hz hc hk hmx a hx h1
          exact ⟨e, tm1, mu1, n1, h3, yes e1 rfl h4⟩
        | false =>
          obtain ⟨e, tm1, mu1, n1, h3, h4⟩ := bcode_sound hz hc hk hmx b hy h1
          exact ⟨e, tm1, mu1, n1, h3, no e1 rfl h4⟩
      | false =>
        cases hi : ACode.testId x y with
        | some id =>
          simp only [hn, hi] at h9
          obtain ⟨rfl, rfl⟩ := testId_some hi
          obtain ⟨t, e1, h1⟩ := onIf_elim hz h9
          cases t with
          | true =>
            obtain ⟨e, tm1, mu1, n1, h3, h4⟩ := bcode_sound hz hc hk hmx a hx (show T (bcode orc z call fz fuel kp (flat .skip nx) (fg kp tm) mu n k) from h1)
            exact ⟨e, tm1, mu1, n1, h3, yes e1 rfl h4⟩
          | false =>
            obtain ⟨e, tm1, mu1, n1, h3, h4⟩ := bcode_sound hz hc hk hmx b hy (show T (bcode orc z call fz fuel kp (flat (.exit id) nx) (fg kp tm) mu n k) from h1)
            exact ⟨e, tm1, mu1, n1, h3, no e1 rfl h4⟩
        | none =>
          simp only [hn, hi] at h9
          obtain ⟨t, e1, h1⟩ := onIf_elim hz h9
          cases t with
          | true =>
            obtain ⟨e, tm1, mu1, n1, h3, h4⟩ := bcode_sound hz hc hk hmx a hx h1
            exact ⟨e, tm1, mu1, n1, out_onw (out_norm h3), yes e1 rfl h4⟩
          | false =>
            obtain ⟨e, tm1, mu1, n1, h3, h4⟩ := bcode_sound hz hc hk hmx b hy h1
            exact ⟨e, tm1, mu1, n1, out_onw (out_norm h3), no e1 rfl h4⟩
    · cases hp
  | .block id a, ac, nx, tm, mu, n, k, hp, h => by
    simp only [prepCode] at hp
    obtain ⟨x, hx, rfl⟩ := Option.map_eq_some_iff.1 hp
    obtain ⟨e, tm1, mu1, n1, h0, h2⟩ := bcode_sound hz hc hk hmx a hx (show T (bcode orc z call fz fuel kp (flat x .norm) tm mu n (inBN id (bcode orc z call fz fuel kp nx · · · k) k)) from h)
    have h1 := out_norm h0
    cases e with
    | normal => exact ⟨.normal, tm1, mu1, n1, h1, h2.1, fun ρ w a hr ht hf Q hQ => wp_block (h2.2 ρ w a hr ht hf (Exit.inBlock id Q) hQ)⟩
    | ret => exact ⟨.ret, tm1, mu1, n1, h1, h2.1, fun ρ w a hr ht hf Q hQ => wp_block (h2.2 ρ w a hr ht hf (Exit.inBlock id Q) hQ)⟩
    | exit id' =>
      have h1' : T (cond (Nat.beq id' id) (bcode orc z call fz fuel kp nx tm1 mu1 n1 k) (k (.exit id') tm1 mu1 n1)) := h1
      cases hb : Nat.beq id' id with
      | true =>
        rw [hb] at h1'
        have := Nat.eq_of_beq_eq_true hb
        subst this
        refine ⟨.normal, tm1, mu1, n1, h1', h2.1, fun ρ w a hr ht hf Q hQ => wp_block (h2.2 ρ w a hr ht hf _ fun a' w' hp => ?_)⟩
        show Exit.inBlock id' Q (.exit id') a' w'
        simp only [Exit.inBlock, if_true]
        exact hQ a' w' hp
      | false =>
        rw [hb] at h1'
        have := Nat.ne_of_beq_eq_false hb
        refine ⟨.exit id', tm1, mu1, n1, h1', h2.1, fun ρ w a hr ht hf Q hQ => wp_block (h2.2 ρ w a hr ht hf _ fun a' w' hp => ?_)⟩
        show Exit.inBlock id Q (.exit id') a' w'
        simp only [Exit.inBlock, this, if_false]
        exact hQ a' w' hp
  | .loop a, ac, nx, tm, mu, n, k, hp, h => by
    simp only [prepCode] at hp
    obtain ⟨x, hx, rfl⟩ := Option.map_eq_some_iff.1 hp
    obtain ⟨e, tm1, mu1, n1, h1, h2, h3⟩ := loopD_sound (P := P) (val := val) (fz := fz) (a := a) (D := bcode orc z call fz fuel kp (flat x .norm)) hz (fun h => by
      obtain ⟨e, tm', mu', n', g1, g2⟩ := bcode_sound hz hc hk hmx a hx h
      exact ⟨e, tm', mu', n', out_norm g1, g2⟩) fuel (show T (loopD z (bcode orc z call fz fuel kp (flat x .norm)) fuel tm mu n (onw (bcode orc z call fz fuel kp nx · · · k) k)) from h)
    exact ⟨e, tm1, mu1, n1, out_onw h1, h2, fun ρ w act hr ht hf Q hQ => wp_loop_rounds _ (h3 ρ w act hr ht hf Q hQ)⟩
  | .scope a, ac, nx, tm, mu, n, k, hp, h => by
    simp only [prepCode] at hp
    obtain ⟨e, tm1, mu1, n1, h1, h2⟩ := bcode_sound hz hc hk hmx a hp h
    refine ⟨e, tm1, mu1, n1, h1, h2.1, fun ρ w act hr ht hf Q hQ => wp_scope_straight (h2.2 ρ w act hr ht hf _ fun a' w' hp => ?_)⟩
    cases e <;> exact hQ a' w' hp
  | .goto l, ac, nx, tm, mu, n, k, hp, h => by
    simp only [prepCode, Option.some.injEq] at hp; subst hp
    exact (hz h).elim
  | .rangeFunc .., ac, nx, tm, mu, n, k, hp, h => by
    simp only [prepCode, Option.some.injEq] at hp; subst hp
    exact (hz h).elim
  | .refuse _, ac, nx, tm, mu, n, k, hp, h => by
    simp only [prepCode, Option.some.injEq] at hp; subst hp
    exact (hz h).elim
end
end Go.Ev
