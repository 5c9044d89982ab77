/-
  Code: all forms.
-/
import Derived.Test.YtmnkmmfjekcinaaGreatEvDraw6
set_option linter.unusedVariables false
set_option linter.unusedSimpArgs false
namespace Go.Ev

def AExit.toExit : AExit → Exit
  | .normal => .normal
  | .exit id => .exit id
  | .ret => .ret

/-- The check's marks leave the operation alone. -/
theorem withAnc_length : ∀ (l : List AOper) (as : List (List Nat)), l.length = as.length → (withAnc l as).length = l.length
  | [], _, _ => by simp [withAnc]
  | _ :: l, [], h => by simp at h
  | _ :: l, _ :: as, h => by simp [withAnc, withAnc_length l as (by simpa using h)]
theorem ancs_length : ∀ (l : List Oper) (acc : List (List Nat)), (ancs l acc).length = acc.length + l.length
  | [], acc => by simp [ancs]
  | o :: l, acc => by simp [ancs, ancs_length l]; omega
theorem withAnc_get : ∀ {l : List AOper} {as : List (List Nat)} {i : Nat} {p q : AOper}, l[i]? = some p → (withAnc l as)[i]? = some q → q.dst = p.dst ∧ q.op = p.op ∧ q.g = p.g
  | [], _, _, _, _, h, _ => by simp at h
  | _ :: _, [], _, _, _, _, h => by simp [withAnc] at h
  | a :: l, b :: as, 0, p, q, h, h' => by simp [withAnc] at h h'; subst h; subst h'; exact ⟨rfl, rfl, rfl⟩
  | a :: l, b :: as, i + 1, p, q, h, h' => by simp [withAnc] at h h'; exact withAnc_get h h'
theorem raise_same (ops : List (AOper × Nat)) (i : Nat) (o : AOper) : (raise ops i o).dst = o.dst ∧ (raise ops i o).op = o.op ∧ (raise ops i o).g = o.g := by
  unfold raise
  split
  · split <;> exact ⟨rfl, rfl, rfl⟩
  · exact ⟨rfl, rfl, rfl⟩
theorem prepOpers_length {P : Program} {m : Muts} {ops : Array Oper} : ∀ {l : List Oper} {al : List AOper}, prepOpers P m ops l = some al → al.length = l.length
  | [], al, h => by simp [prepOpers] at h; subst h; rfl
  | o :: l, al, h => by
    simp only [prepOpers] at h
    split at h
    · rename_i op g r h1 h2 h3
      cases h
      simp [prepOpers_length h3]
    · cases h
theorem modes_length {P : Program} {m : Muts} {ops : Array Oper} {l : List Oper} {al : List AOper} (h : prepOpers P m ops l = some al) : (modes al (ancs l [])).length = l.length := by
  have h1 := prepOpers_length h
  simp [modes, withAnc_length al (ancs l []) (by simp [ancs_length, h1]), h1]
theorem modes_get {al : List AOper} {as : List (List Nat)} {i : Nat} {p q : AOper} (h : al[i]? = some p) (h' : (modes al as)[i]? = some q) : q.dst = p.dst ∧ q.op = p.op ∧ q.g = p.g := by
  unfold modes at h'
  rw [List.getElem?_map] at h'
  obtain ⟨⟨x, j⟩, hx, rfl⟩ := Option.map_eq_some_iff.1 h'
  rw [List.getElem?_zipIdx] at hx
  obtain ⟨y, hy, e⟩ := Option.map_eq_some_iff.1 hx
  simp at e
  obtain ⟨rfl, rfl⟩ := e
  obtain ⟨a1, a2, a3⟩ := raise_same ((withAnc al as).zipIdx) i y
  obtain ⟨b1, b2, b3⟩ := withAnc_get h hy
  exact ⟨a1.trans b1, a2.trans b2, a3.trans b3⟩
theorem OpR.same {P : Program} {ops : Array Oper} {o : Oper} {p q : AOper} (h : OpR P ops o p) (e : q.dst = p.dst ∧ q.op = p.op ∧ q.g = p.g) : OpR P ops o q :=
  ⟨e.1.trans h.1, by rw [e.2.1]; exact h.2.1, by rw [e.2.2]; exact h.2.2⟩

section
variable {R : Type} {T : R → Prop} {z : R} {P : Program} {val : Nat → Int} {fz : Fz} {orc : Orc R} {call : CallT R}

/-- The code runs to the end, a loop within so many rounds. -/
def Goes (P : Program) (fuel : Nat) (c : Code) (Q : Exit → Act → World → Prop) (a : Act) (w : World) : Prop := c.wp P Q a w ∧ ∀ b, c = .loop b → Code.rounds P b Q fuel a w

def CodeS (P : Program) (val : Nat → Int) (fz : Fz) (fuel : Nat) (c : Code) (tm : TM) (mu : St) (n : Nat) (e : AExit) (tm' : TM) (mu' : St) (n' : Nat) : Prop :=
  n ≤ n' ∧ ∀ ρ w a, Rel val ρ fz mu w → TmR val ρ w tm a → FreshN ρ n n' → ∀ (Q : Exit → Act → World → Prop), (∀ a' w', PostS val ρ fz mu n w a tm' mu' n' a' w' → Q e.toExit a' w') → Goes P fuel c Q a w

theorem goes_of {fuel : Nat} {c : Code} {Q : Exit → Act → World → Prop} {a : Act} {w : World} (h : c.wp P Q a w) (hn : ∀ b, c ≠ .loop b) : Goes P fuel c Q a w := ⟨h, fun b e => (hn b e).elim⟩

theorem code_same {fuel : Nat} {c : Code} {tm : TM} {mu : St} {n : Nat} {e : AExit} (hn : ∀ b, c ≠ .loop b) (h : ∀ (Q : Exit → Act → World → Prop) a w, Q e.toExit a w → c.wp P Q a w) : CodeS P val fz fuel c tm mu n e tm mu n :=
  ⟨Nat.le_refl _, fun _ w a hr ht _ Q hQ => goes_of (h Q a w (hQ a w (PostS.refl hr ht))) hn⟩

theorem acode_sound (hz : ¬ T z) (hc : CallSound T P val call) (hk : OrcOk T val orc) (hmx : P.follows .mixedOrders = true) {m : Muts} : ∀ (fuel : Nat) (c : Code) {ac : ACode} {tm : TM} {mu : St} {n : Nat} {k : AExit → TM → St → Nat → R}, prepCode P m c = some ac → T (acode orc z call fz fuel ac tm mu n k) →
    ∃ e tm' mu' n', T (k e tm' mu' n') ∧ CodeS P val fz fuel c tm mu n e tm' mu' n'
  | 0, c, ac, tm, mu, n, k, _, h => (hz h).elim
  | fuel + 1, .skip, ac, tm, mu, n, k, hp, h => by
    simp only [prepCode, Option.some.injEq] at hp; subst hp
    exact ⟨.normal, tm, mu, n, h, code_same (by intro b; simp) fun Q a w hq => wp_skip hq⟩
  | fuel + 1, .label l, ac, tm, mu, n, k, hp, h => by
    simp only [prepCode, Option.some.injEq] at hp; subst hp
    exact ⟨.normal, tm, mu, n, h, code_same (by intro b; simp) fun Q a w hq => wp_label hq⟩
  | fuel + 1, .exit id, ac, tm, mu, n, k, hp, h => by
    simp only [prepCode, Option.some.injEq] at hp; subst hp
    exact ⟨.exit id, tm, mu, n, h, code_same (by intro b; simp) fun Q a w hq => wp_exit hq⟩
  | fuel + 1, .ret, ac, tm, mu, n, k, hp, h => by
    simp only [prepCode, Option.some.injEq] at hp; subst hp
    exact ⟨.ret, tm, mu, n, h, code_same (by intro b; simp) fun Q a w hq => wp_ret hq⟩
  | fuel + 1, .region id ops false, ac, tm, mu, n, k, hp, h => by
    simp only [prepCode] at hp
    split at hp
    · rename_i al h1
      cases hp
      obtain ⟨tm', mu', n', h2, h3, h4⟩ := runK_sound (P := P) (val := val) hz hc hk (prepOpers_R h1) (show T (runK orc z call fz al tm mu n (k .normal)) from h)
      exact ⟨.normal, tm', mu', n', h2, h3, fun ρ w a hr ht hf Q hQ => goes_of (wp_region_list (h4 ρ w a hr ht hf Q hQ)) (by intro b; simp)⟩
    · cases hp; exact (hz h).elim
  | fuel + 1, .region id ops true, ac, tm, mu, n, k, hp, h => by
    simp only [prepCode] at hp
    split at hp
    · rename_i l h1
      split at hp
      · rename_i hok
        cases hp
        have hR : All2 (OpR P ops) ops.toList (modes l (ancs ops.toList [])) := by
          have hl := prepOpers_R h1
          have hlen : (modes l (ancs ops.toList [])).length = ops.toList.length := modes_length h1
          refine All2.of_get hlen.symm fun i o ao ho hao => ?_
          obtain ⟨ao', h2, h3⟩ := hl.get ho
          exact h3.same (modes_get h2 hao)
        obtain ⟨tm', mu', n', h2, h3, h4⟩ := draw_sound (P := P) (val := val) (id := id) hz hc hk hmx hok hR (show T (drawK orc z call fz _ tm mu n (k .normal)) from h)
        exact ⟨.normal, tm', mu', n', h2, h3, fun ρ w a hr ht hf Q hQ => goes_of (h4 ρ w a hr ht hf Q hQ) (by intro b; simp)⟩
      · cases hp; exact (hz h).elim
    · cases hp; exact (hz h).elim
  | fuel + 1, .seq a b, ac, tm, mu, n, k, hp, h => by
    simp only [prepCode] at hp
    split at hp
    · rename_i x y hx hy
      cases hp
      obtain ⟨e, tm1, mu1, n1, h1, h2⟩ := acode_sound hz hc hk hmx fuel a hx (show T (acode orc z call fz fuel x tm mu n fun e tm mu n => AExit.rec (motive := fun _ => R) (acode orc z call fz fuel y tm mu n k) (fun id => k (.exit id) tm mu n) (k .ret tm mu n) e) from h)
      cases e with
      | normal =>
        obtain ⟨e2, tm2, mu2, n2, h3, h4⟩ := acode_sound hz hc hk hmx fuel b hy h1
        refine ⟨e2, tm2, mu2, n2, h3, Nat.le_trans h2.1 h4.1, fun ρ w a hr ht hf Q hQ => goes_of (wp_seq ?_) (by intro b; simp)⟩
        refine (h2.2 ρ w a hr ht (hf.sub (Nat.le_refl _) h4.1) _ fun a1 w1 hp => ?_).1
        obtain ⟨d, ρ1, p1, p2, p3, p4, p5, p6⟩ := hp
        refine (h4.2 ρ1 w1 a1 p2 p3 (hf.later p1 h2.1) Q fun a2 w2 hp2 => hQ a2 w2 ?_).1
        exact PostS.trans d p1 p4 p5 p6 h2.1 h4.1 hp2
      | exit id => exact ⟨.exit id, tm1, mu1, n1, h1, h2.1, fun ρ w a hr ht hf Q hQ => goes_of (wp_seq (h2.2 ρ w a hr ht hf (Exit.then (b.wp P Q) Q) hQ).1) (by intro b; simp)⟩
      | ret => exact ⟨.ret, tm1, mu1, n1, h1, h2.1, fun ρ w a hr ht hf Q hQ => goes_of (wp_seq (h2.2 ρ w a hr ht hf (Exit.then (b.wp P Q) Q) hQ).1) (by intro b; simp)⟩
    · cases hp
  | fuel + 1, .cond c a b, ac, tm, mu, n, k, hp, h => by
    simp only [prepCode] at hp
    split at hp
    · rename_i c' x y hcd hx hy
      cases hp
      have h' : T ((ev tm c').onOne z fun s => s.onBool z fun t => cond t (acode orc z call fz fuel x tm mu n k) (acode orc z call fz fuel y tm mu n k)) := h
      obtain ⟨s, e1, h1⟩ := onOne_elim hz h'
      obtain ⟨t, rfl, h2⟩ := onBool_elim hz h1
      have hev : ∀ ρ w (act : Act), TmR val ρ w tm act → act.eval c = .bool t := fun ρ w act ht => by
        have := ht.ev hcd
        rw [e1] at this
        exact this
      cases t with
      | true =>
        obtain ⟨e, tm1, mu1, n1, h3, h4⟩ := acode_sound hz hc hk hmx fuel a hx h2
        exact ⟨e, tm1, mu1, n1, h3, h4.1, fun ρ w act hr ht hf Q hQ => goes_of (wp_cond_true (hev ρ w act ht) (h4.2 ρ w act hr ht hf Q hQ).1) (by intro b; simp)⟩
      | false =>
        obtain ⟨e, tm1, mu1, n1, h3, h4⟩ := acode_sound hz hc hk hmx fuel b hy h2
        exact ⟨e, tm1, mu1, n1, h3, h4.1, fun ρ w act hr ht hf Q hQ => goes_of (wp_cond_false (hev ρ w act ht) (h4.2 ρ w act hr ht hf Q hQ).1) (by intro b; simp)⟩
    · cases hp
  | fuel + 1, .block id a, ac, tm, mu, n, k, hp, h => by
    simp only [prepCode] at hp
    obtain ⟨x, hx, rfl⟩ := Option.map_eq_some_iff.1 hp
    obtain ⟨e, tm1, mu1, n1, h1, h2⟩ := acode_sound hz hc hk hmx fuel a hx (show T (acode orc z call fz fuel x tm mu n fun e tm mu n => AExit.rec (motive := fun _ => R) (k .normal tm mu n) (fun id' => cond (Nat.beq id' id) (k .normal tm mu n) (k (.exit id') tm mu n)) (k .ret tm mu n) e) from h)
    cases e with
    | normal => exact ⟨.normal, tm1, mu1, n1, h1, h2.1, fun ρ w a hr ht hf Q hQ => goes_of (wp_block (h2.2 ρ w a hr ht hf (Exit.inBlock id Q) hQ).1) (by intro b; simp)⟩
    | ret => exact ⟨.ret, tm1, mu1, n1, h1, h2.1, fun ρ w a hr ht hf Q hQ => goes_of (wp_block (h2.2 ρ w a hr ht hf (Exit.inBlock id Q) hQ).1) (by intro b; simp)⟩
    | exit id' =>
      have h1' : T (cond (Nat.beq id' id) (k .normal tm1 mu1 n1) (k (.exit id') tm1 mu1 n1)) := h1
      cases hb : Nat.beq id' id with
      | true =>
        rw [hb] at h1'
        have := Nat.eq_of_beq_eq_true hb
        subst this
        refine ⟨.normal, tm1, mu1, n1, h1', h2.1, fun ρ w a hr ht hf Q hQ => goes_of (wp_block (h2.2 ρ w a hr ht hf _ fun a' w' hp => ?_).1) (by intro b; simp)⟩
        show Exit.inBlock id' Q (.exit id') a' w'
        simp only [Exit.inBlock, if_true]
        exact hQ a' w' hp
      | false =>
        rw [hb] at h1'
        have := Nat.ne_of_beq_eq_false hb
        refine ⟨.exit id', tm1, mu1, n1, h1', h2.1, fun ρ w a hr ht hf Q hQ => goes_of (wp_block (h2.2 ρ w a hr ht hf _ fun a' w' hp => ?_).1) (by intro b; simp)⟩
        show Exit.inBlock id Q (.exit id') a' w'
        simp only [Exit.inBlock, this, if_false]
        exact hQ a' w' hp
  | fuel + 1, .loop a, ac, tm, mu, n, k, hp, h => by
    have hp0 := hp
    simp only [prepCode] at hp
    obtain ⟨x, hx, rfl⟩ := Option.map_eq_some_iff.1 hp
    obtain ⟨e, tm1, mu1, n1, h1, h2⟩ := acode_sound hz hc hk hmx fuel a hx (show T (acode orc z call fz fuel x tm mu n fun e tm mu n => AExit.rec (motive := fun _ => R) (acode orc z call fz fuel (.loop x) tm mu n k) (fun id => k (.exit id) tm mu n) (k .ret tm mu n) e) from h)
    have lift : ∀ {Q : Exit → Act → World → Prop} {act : Act} {w : World}, Code.rounds P a Q (fuel + 1) act w → Goes P (fuel + 1) (.loop a) Q act w := fun hr => ⟨wp_loop_rounds _ hr, fun b e => by cases e; exact hr⟩
    cases e with
    | normal =>
      obtain ⟨e2, tm2, mu2, n2, h3, h4⟩ := acode_sound hz hc hk hmx fuel (.loop a) hp0 h1
      refine ⟨e2, tm2, mu2, n2, h3, Nat.le_trans h2.1 h4.1, fun ρ w act hr ht hf Q hQ => lift ?_⟩
      refine (h2.2 ρ w act hr ht (hf.sub (Nat.le_refl _) h4.1) (Exit.then (Code.rounds P a Q fuel) Q) fun a1 w1 hp => ?_).1
      obtain ⟨d, ρ1, p1, p2, p3, p4, p5, p6⟩ := hp
      refine (h4.2 ρ1 w1 a1 p2 p3 (hf.later p1 h2.1) Q fun a2 w2 hp2 => hQ a2 w2 ?_).2 a rfl
      exact PostS.trans d p1 p4 p5 p6 h2.1 h4.1 hp2
    | exit id => exact ⟨.exit id, tm1, mu1, n1, h1, h2.1, fun ρ w act hr ht hf Q hQ => lift (h2.2 ρ w act hr ht hf (Exit.then (Code.rounds P a Q fuel) Q) hQ).1⟩
    | ret => exact ⟨.ret, tm1, mu1, n1, h1, h2.1, fun ρ w act hr ht hf Q hQ => lift (h2.2 ρ w act hr ht hf (Exit.then (Code.rounds P a Q fuel) Q) hQ).1⟩
  | fuel + 1, .scope a, ac, tm, mu, n, k, hp, h => by
    simp only [prepCode] at hp
    obtain ⟨e, tm1, mu1, n1, h1, h2⟩ := acode_sound hz hc hk hmx (fuel + 1) a hp h
    refine ⟨e, tm1, mu1, n1, h1, h2.1, fun ρ w act hr ht hf Q hQ => goes_of (wp_scope_straight (h2.2 ρ w act hr ht hf _ fun a' w' hp => ?_).1) (by intro b; simp)⟩
    cases e <;> exact hQ a' w' hp
  | fuel + 1, .goto l, ac, tm, mu, n, k, hp, h => by
    simp only [prepCode, Option.some.injEq] at hp; subst hp
    exact (hz h).elim
  | fuel + 1, .rangeFunc .., ac, tm, mu, n, k, hp, h => by
    simp only [prepCode, Option.some.injEq] at hp; subst hp
    exact (hz h).elim
  | fuel + 1, .refuse _, ac, tm, mu, n, k, hp, h => by
    simp only [prepCode, Option.some.injEq] at hp; subst hp
    exact (hz h).elim
termination_by fuel c => (fuel, SizeOf.sizeOf c)
end
end Go.Ev
