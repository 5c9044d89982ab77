/-
  Code with fuel for its loops alone.
-/
import Derived.Test.YtmnkmmfjekcinaaGreatEvTop2
set_option linter.unusedVariables false
set_option linter.unusedSimpArgs false
namespace Go.Ev

section
variable {R : Type}
noncomputable def onw (next : TM → St → Nat → R) (k : AExit → TM → St → Nat → R) : AExit → TM → St → Nat → R := fun e tm mu n => AExit.rec (motive := fun _ => R) (next tm mu n) (fun id => k (.exit id) tm mu n) (k .ret tm mu n) e
noncomputable def inB (id : Nat) (k : AExit → TM → St → Nat → R) : AExit → TM → St → Nat → R := fun e tm mu n => AExit.rec (motive := fun _ => R) (k .normal tm mu n) (fun id' => cond (Nat.beq id' id) (k .normal tm mu n) (k (.exit id') tm mu n)) (k .ret tm mu n) e
noncomputable def loopD (z : R) (a : TM → St → Nat → (AExit → TM → St → Nat → R) → R) (fuel : Nat) : TM → St → Nat → (AExit → TM → St → Nat → R) → R :=
  Nat.rec (motive := fun _ => TM → St → Nat → (AExit → TM → St → Nat → R) → R) (fun _ _ _ _ => z) (fun _ ih tm mu n k => a tm mu n (onw (ih · · · k) k)) fuel

noncomputable def dcode (orc : Orc R) (z : R) (call : CallT R) (fz : Fz) (fuel : Nat) : ACode → TM → St → Nat → (AExit → TM → St → Nat → R) → R
  | .skip, tm, mu, n, k => k .normal tm mu n
  | .reg ops, tm, mu, n, k => runK orc z call fz ops tm mu n (k .normal)
  | .draw ops, tm, mu, n, k => drawK orc z call fz ops tm mu n (k .normal)
  | .seq a b, tm, mu, n, k => dcode orc z call fz fuel a tm mu n (onw (dcode orc z call fz fuel b · · · k) k)
  | .cond x a b, tm, mu, n, k => (ev tm x).onOne z fun s => s.onBool z fun t => cond t (dcode orc z call fz fuel a tm mu n k) (dcode orc z call fz fuel b tm mu n k)
  | .blk id a, tm, mu, n, k => dcode orc z call fz fuel a tm mu n (inB id k)
  | .loop a, tm, mu, n, k => loopD z (dcode orc z call fz fuel a) fuel tm mu n k
  | .exit id, tm, mu, n, k => k (.exit id) tm mu n
  | .ret, tm, mu, n, k => k .ret tm mu n
  | .bad, _, _, _, _ => z
end

section
variable {R : Type} {T : R → Prop} {z : R} {P : Program} {val : Nat → Int} {fz : Fz} {orc : Orc R} {call : CallT R}

def CodeD (P : Program) (val : Nat → Int) (fz : Fz) (c : Code) (tm : TM) (mu : St) (n : Nat) (e : AExit) (tm' : TM) (mu' : St) (n' : Nat) : Prop :=
  n ≤ n' ∧ ∀ ρ w a, Rel val ρ fz mu w → TmR val ρ w tm a → FreshN ρ n n' → ∀ (Q : Exit → Act → World → Prop), (∀ a' w', PostS val ρ fz mu n w a tm' mu' n' a' w' → Q e.toExit a' w') → c.wp P Q a w

theorem codeD_same {c : Code} {tm : TM} {mu : St} {n : Nat} {e : AExit} (h : ∀ (Q : Exit → Act → World → Prop) a w, Q e.toExit a w → c.wp P Q a w) : CodeD P val fz c tm mu n e tm mu n :=
  ⟨Nat.le_refl _, fun _ w a hr ht _ Q hQ => h Q a w (hQ a w (PostS.refl hr ht))⟩

theorem loopD_sound (hz : ¬ T z) {a : Code} {D : TM → St → Nat → (AExit → TM → St → Nat → R) → R}
    (ha : ∀ {tm : TM} {mu : St} {n : Nat} {k : AExit → TM → St → Nat → R}, T (D tm mu n k) → ∃ e tm' mu' n', T (k e tm' mu' n') ∧ CodeD P val fz a tm mu n e tm' mu' n') :
    ∀ (fuel : Nat) {tm : TM} {mu : St} {n : Nat} {k : AExit → TM → St → Nat → R}, T (loopD z D fuel tm mu n k) →
    ∃ e tm' mu' n', T (k e tm' mu' n') ∧ n ≤ n' ∧ ∀ ρ w act, Rel val ρ fz mu w → TmR val ρ w tm act → FreshN ρ n n' → ∀ (Q : Exit → Act → World → Prop), (∀ a' w', PostS val ρ fz mu n w act tm' mu' n' a' w' → Q e.toExit a' w') → Code.rounds P a Q fuel act w
  | 0, tm, mu, n, k, h => (hz h).elim
  | fuel + 1, tm, mu, n, k, h => by
    obtain ⟨e, tm1, mu1, n1, h1, h2⟩ := ha (show T (D tm mu n (onw (loopD z D fuel · · · k) k)) from h)
    cases e with
    | normal =>
      obtain ⟨e2, tm2, mu2, n2, h3, h4, h5⟩ := loopD_sound hz ha fuel (show T (loopD z D fuel tm1 mu1 n1 k) from h1)
      refine ⟨e2, tm2, mu2, n2, h3, Nat.le_trans h2.1 h4, fun ρ w act hr ht hf Q hQ => ?_⟩
      refine h2.2 ρ w act hr ht (hf.sub (Nat.le_refl _) h4) (Exit.then (Code.rounds P a Q fuel) Q) fun a1 w1 hp => ?_
      obtain ⟨d, ρ1, p1, p2, p3, p4, p5, p6⟩ := hp
      refine h5 ρ1 w1 a1 p2 p3 (hf.later p1 h2.1) Q fun a2 w2 hp2 => hQ a2 w2 ?_
      exact PostS.trans d p1 p4 p5 p6 h2.1 h4 hp2
    | exit id => exact ⟨.exit id, tm1, mu1, n1, h1, h2.1, fun ρ w act hr ht hf Q hQ => h2.2 ρ w act hr ht hf (Exit.then (Code.rounds P a Q fuel) Q) hQ⟩
    | ret => exact ⟨.ret, tm1, mu1, n1, h1, h2.1, fun ρ w act hr ht hf Q hQ => h2.2 ρ w act hr ht hf (Exit.then (Code.rounds P a Q fuel) Q) hQ⟩

theorem dcode_sound (hz : ¬ T z) (hc : CallSound T P val call) (hk : OrcOk T val orc) (hmx : P.follows .mixedOrders = true) {m : Muts} {fuel : Nat} : ∀ (c : Code) {ac : ACode} {tm : TM} {mu : St} {n : Nat} {k : AExit → TM → St → Nat → R}, prepCode P m c = some ac → T (dcode orc z call fz fuel ac tm mu n k) →
    ∃ e tm' mu' n', T (k e tm' mu' n') ∧ CodeD P val fz c tm mu n e tm' mu' n'
  | .skip, ac, tm, mu, n, k, hp, h => by
    simp only [prepCode, Option.some.injEq] at hp; subst hp
    exact ⟨.normal, tm, mu, n, h, codeD_same fun Q a w hq => wp_skip hq⟩
  | .label l, ac, tm, mu, n, k, hp, h => by
    simp only [prepCode, Option.some.injEq] at hp; subst hp
    exact ⟨.normal, tm, mu, n, h, codeD_same fun Q a w hq => wp_label hq⟩
  | .exit id, ac, tm, mu, n, k, hp, h => by
    simp only [prepCode, Option.some.injEq] at hp; subst hp
    exact ⟨.exit id, tm, mu, n, h, codeD_same fun Q a w hq => wp_exit hq⟩
  | .ret, ac, tm, mu, n, k, hp, h => by
    simp only [prepCode, Option.some.injEq] at hp; subst hp
    exact ⟨.ret, tm, mu, n, h, codeD_same fun Q a w hq => wp_ret hq⟩
  | .region id ops false, ac, tm, mu, n, k, hp, h => by
    simp only [prepCode] at hp
    split at hp
    · rename_i al h1
      cases hp
      obtain ⟨tm', mu', n', h2, h3, h4⟩ := runK_sound (P := P) (val := val) hz hc hk (prepOpers_R h1) (show T (runK orc z call fz al tm mu n (k .normal)) from h)
      exact ⟨.normal, tm', mu', n', h2, h3, fun ρ w a hr ht hf Q hQ => wp_region_list (h4 ρ w a hr ht hf Q hQ)⟩
    · cases hp; exact (hz h).elim
  | .region id ops true, ac, tm, mu, n, k, hp, h => by
    simp only [prepCode] at hp
    split at hp
    · rename_i l h1
      split at hp
      · rename_i hok
        cases hp
        have hR : All2 (OpR P ops) ops.toList (modes l (ancs ops.toList [])) := by
          have hl := prepOpers_R h1
          have hlen : (modes l (ancs ops.toList [])).length = ops.toList.length := modes_length h1
          refine All2.of_get hlen.symm fun i o ao ho hao => ?_
          obtain ⟨ao', h2, h3⟩ := hl.get ho
          exact h3.same (modes_get h2 hao)
        obtain ⟨tm', mu', n', h2, h3, h4⟩ := draw_sound (P := P) (val := val) (id := id) hz hc hk hmx hok hR (show T (drawK orc z call fz _ tm mu n (k .normal)) from h)
        exact ⟨.normal, tm', mu', n', h2, h3, fun ρ w a hr ht hf Q hQ => h4 ρ w a hr ht hf Q hQ⟩
      · cases hp; exact (hz h).elim
    · cases hp; exact (hz h).elim
  | .seq a b, ac, tm, mu, n, k, hp, h => by
    simp only [prepCode] at hp
    split at hp
    · rename_i x y hx hy
      cases hp
      obtain ⟨e, tm1, mu1, n1, h1, h2⟩ := dcode_sound hz hc hk hmx a hx (show T (dcode orc z call fz fuel x tm mu n (onw (dcode orc z call fz fuel y · · · k) k)) from h)
      cases e with
      | normal =>
        obtain ⟨e2, tm2, mu2, n2, h3, h4⟩ := dcode_sound hz hc hk hmx b hy (show T (dcode orc z call fz fuel y tm1 mu1 n1 k) from h1)
        refine ⟨e2, tm2, mu2, n2, h3, Nat.le_trans h2.1 h4.1, fun ρ w a hr ht hf Q hQ => wp_seq ?_⟩
        refine h2.2 ρ w a hr ht (hf.sub (Nat.le_refl _) h4.1) _ fun a1 w1 hp => ?_
        obtain ⟨d, ρ1, p1, p2, p3, p4, p5, p6⟩ := hp
        refine h4.2 ρ1 w1 a1 p2 p3 (hf.later p1 h2.1) Q fun a2 w2 hp2 => hQ a2 w2 ?_
        exact PostS.trans d p1 p4 p5 p6 h2.1 h4.1 hp2
      | exit id => exact ⟨.exit id, tm1, mu1, n1, h1, h2.1, fun ρ w a hr ht hf Q hQ => wp_seq (h2.2 ρ w a hr ht hf (Exit.then (b.wp P Q) Q) hQ)⟩
      | ret => exact ⟨.ret, tm1, mu1, n1, h1, h2.1, fun ρ w a hr ht hf Q hQ => wp_seq (h2.2 ρ w a hr ht hf (Exit.then (b.wp P Q) Q) hQ)⟩
    · cases hp
  | .cond c a b, ac, tm, mu, n, k, hp, h => by
    simp only [prepCode] at hp
    split at hp
    · rename_i c' x y hcd hx hy
      cases hp
      have h' : T ((ev tm c').onOne z fun s => s.onBool z fun t => cond t (dcode orc z call fz fuel x tm mu n k) (dcode orc z call fz fuel y tm mu n k)) := h
      obtain ⟨s, e1, h1⟩ := onOne_elim hz h'
      obtain ⟨t, rfl, h2⟩ := onBool_elim hz h1
      have hev : ∀ ρ w (act : Act), TmR val ρ w tm act → act.eval c = .bool t := fun ρ w act ht => by
        have := ht.ev hcd
        rw [e1] at this
        exact this
      cases t with
      | true =>
        obtain ⟨e, tm1, mu1, n1, h3, h4⟩ := dcode_sound hz hc hk hmx a hx h2
        exact ⟨e, tm1, mu1, n1, h3, h4.1, fun ρ w act hr ht hf Q hQ => wp_cond_true (hev ρ w act ht) (h4.2 ρ w act hr ht hf Q hQ)⟩
      | false =>
        obtain ⟨e, tm1, mu1, n1, h3, h4⟩ := dcode_sound hz hc hk hmx b hy h2
        exact ⟨e, tm1, mu1, n1, h3, h4.1, fun ρ w act hr ht hf Q hQ => wp_cond_false (hev ρ w act ht) (h4.2 ρ w act hr ht hf Q hQ)⟩
    · cases hp
  | .block id a, ac, tm, mu, n, k, hp, h => by
    simp only [prepCode] at hp
    obtain ⟨x, hx, rfl⟩ := Option.map_eq_some_iff.1 hp
    obtain ⟨e, tm1, mu1, n1, h1, h2⟩ := dcode_sound hz hc hk hmx a hx (show T (dcode orc z call fz fuel x tm mu n (inB id k)) from h)
    cases e with
    | normal => exact ⟨.normal, tm1, mu1, n1, h1, h2.1, fun ρ w a hr ht hf Q hQ => wp_block (h2.2 ρ w a hr ht hf (Exit.inBlock id Q) hQ)⟩
    | ret => exact ⟨.ret, tm1, mu1, n1, h1, h2.1, fun ρ w a hr ht hf Q hQ => wp_block (h2.2 ρ w a hr ht hf (Exit.inBlock id Q) hQ)⟩
    | exit id' =>
      have h1' : T (cond (Nat.beq id' id) (k .normal tm1 mu1 n1) (k (.exit id') tm1 mu1 n1)) := h1
      cases hb : Nat.beq id' id with
      | true =>
        rw [hb] at h1'
        have := Nat.eq_of_beq_eq_true hb
        subst this
        refine ⟨.normal, tm1, mu1, n1, h1', h2.1, fun ρ w a hr ht hf Q hQ => wp_block (h2.2 ρ w a hr ht hf _ fun a' w' hp => ?_)⟩
        show Exit.inBlock id' Q (.exit id') a' w'
        simp only [Exit.inBlock, if_true]
        exact hQ a' w' hp
      | false =>
        rw [hb] at h1'
        have := Nat.ne_of_beq_eq_false hb
        refine ⟨.exit id', tm1, mu1, n1, h1', h2.1, fun ρ w a hr ht hf Q hQ => wp_block (h2.2 ρ w a hr ht hf _ fun a' w' hp => ?_)⟩
        show Exit.inBlock id Q (.exit id') a' w'
        simp only [Exit.inBlock, this, if_false]
        exact hQ a' w' hp
  | .loop a, ac, tm, mu, n, k, hp, h => by
    simp only [prepCode] at hp
    obtain ⟨x, hx, rfl⟩ := Option.map_eq_some_iff.1 hp
    obtain ⟨e, tm1, mu1, n1, h1, h2, h3⟩ := loopD_sound (P := P) (val := val) (fz := fz) (a := a) hz (fun h => dcode_sound hz hc hk hmx a hx h) fuel (show T (loopD z (dcode orc z call fz fuel x) fuel tm mu n k) from h)
    exact ⟨e, tm1, mu1, n1, h1, h2, fun ρ w act hr ht hf Q hQ => wp_loop_rounds _ (h3 ρ w act hr ht hf Q hQ)⟩
  | .scope a, ac, tm, mu, n, k, hp, h => by
    simp only [prepCode] at hp
    obtain ⟨e, tm1, mu1, n1, h1, h2⟩ := dcode_sound hz hc hk hmx a hp h
    refine ⟨e, tm1, mu1, n1, h1, h2.1, fun ρ w act hr ht hf Q hQ => wp_scope_straight (h2.2 ρ w act hr ht hf _ fun a' w' hp => ?_)⟩
    cases e <;> exact hQ a' w' hp
  | .goto l, ac, tm, mu, n, k, hp, h => by
    simp only [prepCode, Option.some.injEq] at hp; subst hp
    exact (hz h).elim
  | .rangeFunc .., ac, tm, mu, n, k, hp, h => by
    simp only [prepCode, Option.some.injEq] at hp; subst hp
    exact (hz h).elim
  | .refuse _, ac, tm, mu, n, k, hp, h => by
    simp only [prepCode, Option.some.injEq] at hp; subst hp
    exact (hz h).elim
end
end Go.Ev
