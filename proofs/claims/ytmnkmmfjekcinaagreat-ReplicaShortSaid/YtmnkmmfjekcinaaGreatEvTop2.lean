/-
  Calls: the temporaries at the beginning, the results, the evaluator as a whole.
-/
import Derived.Test.YtmnkmmfjekcinaaGreatEvTop1
set_option linter.unusedVariables false
set_option linter.unusedSimpArgs false
namespace Go.Ev

/-- So many values: the arguments, then nothing. -/
def pad : Nat → List AV → List AV
  | 0, _ => []
  | m + 1, [] => noVal :: pad m []
  | m + 1, a :: t => a :: pad m t
theorem pad_length : ∀ (m : Nat) (l : List AV), (pad m l).length = m
  | 0, _ => rfl
  | m + 1, [] => by simp [pad, pad_length m]
  | m + 1, a :: t => by simp [pad, pad_length m]
theorem pad_get : ∀ {m : Nat} {l : List AV} {t : Nat}, t < m → (pad m l)[t]? = some ((l[t]?).getD noVal)
  | 0, _, _, h => by omega
  | m + 1, [], 0, _ => by simp [pad]
  | m + 1, [], t + 1, h => by
    have := pad_get (m := m) (l := []) (t := t) (by omega)
    simpa [pad] using this
  | m + 1, a :: l, 0, _ => by simp [pad]
  | m + 1, a :: l, t + 1, h => by simpa [pad] using pad_get (m := m) (l := l) (t := t) (by omega)

theorem chunk {last : List AV} (hl : last.length ≤ 16) : ∀ {rows : List (List AV)}, (∀ r ∈ rows, r.length = 16) → ∀ t, get (rows ++ [last]) (t / 16) (t % 16) = ((rows.flatten ++ last)[t]?).getD (.one .un) ∧ (inR (rows ++ [last]) (t / 16) (t % 16) → t < (rows.flatten ++ last).length)
  | [], _, t => by
    simp only [List.nil_append, List.flatten_nil]
    rcases Nat.lt_or_ge t 16 with h | h
    · have e1 : t / 16 = 0 := by omega
      have e2 : t % 16 = t := by omega
      rw [e1, e2]
      refine ⟨?_, fun ⟨row, h1, h2⟩ => ?_⟩
      · unfold get; simp [nth_eq]
      · simp at h1; subst h1; exact h2
    · have e1 : [last][t / 16]? = none := List.getElem?_eq_none (by simp; omega)
      refine ⟨?_, fun ⟨row, h1, h2⟩ => by rw [e1] at h1; cases h1⟩
      unfold get
      rw [nth_eq, nth_eq, e1]
      rw [List.getElem?_eq_none (l := last) (by omega)]
      rfl
  | r :: rows, hr, t => by
    have hr0 := hr r (by simp)
    rcases Nat.lt_or_ge t 16 with h | h
    · have e1 : t / 16 = 0 := by omega
      have e2 : t % 16 = t := by omega
      rw [e1, e2]
      refine ⟨?_, fun _ => by simp; omega⟩
      unfold get
      simp only [nth_eq, List.cons_append, List.getElem?_cons_zero, Option.getD_some, List.flatten_cons, List.append_assoc]
      rw [List.getElem?_append_left (by omega)]
    · obtain ⟨h1, h2⟩ := chunk hl (rows := rows) (fun r h => hr r (by simp [h])) (t - 16)
      have e1 : t / 16 = (t - 16) / 16 + 1 := by omega
      have e2 : t % 16 = (t - 16) % 16 := by omega
      rw [e1, e2]
      refine ⟨?_, fun ⟨row, g1, g2⟩ => ?_⟩
      · have : get (r :: rows ++ [last]) ((t - 16) / 16 + 1) ((t - 16) % 16) = get (rows ++ [last]) ((t - 16) / 16) ((t - 16) % 16) := by
          unfold get; simp [nth_eq]
        rw [this, h1]
        simp only [List.flatten_cons, List.append_assoc]
        rw [List.getElem?_append_right (l₁ := r) (by omega), hr0]
      · have := h2 ⟨row, by simpa using g1, g2⟩
        simp only [List.flatten_cons, List.append_assoc, List.length_append] at *
        omega

theorem rowsK_eq {R : Type} : ∀ {m i : Nat} {args row : List AV} {acc : TM} {k : TM → R}, row.length = i → i ≤ 16 → (∀ r ∈ acc, r.length = 16) →
    ∃ rows last, rowsK m i args row acc k = k (rows ++ [last]) ∧ (∀ r ∈ rows, r.length = 16) ∧ last.length ≤ 16 ∧ rows.flatten ++ last = acc.reverse.flatten ++ row.reverse ++ pad m args
  | 0, i, args, row, acc, k, h1, h2, h3 => ⟨acc.reverse, row.reverse, rfl, by simpa using h3, by simp; omega, by simp [pad]⟩
  | m + 1, i, args, row, acc, k, h1, h2, h3 => by
    by_cases hi : i = 16
    · subst hi
      cases args with
      | nil =>
        obtain ⟨rows, last, g1, g2, g3, g4⟩ := rowsK_eq (m := m) (i := 1) (args := []) (row := [noVal]) (acc := row.reverse :: acc) (k := k) rfl (by omega) (by simp; exact ⟨h1, h3⟩)
        exact ⟨rows, last, g1, g2, g3, by rw [g4]; simp [pad]⟩
      | cons a t =>
        obtain ⟨rows, last, g1, g2, g3, g4⟩ := rowsK_eq (m := m) (i := 1) (args := t) (row := [a]) (acc := row.reverse :: acc) (k := k) rfl (by omega) (by simp; exact ⟨h1, h3⟩)
        exact ⟨rows, last, g1, g2, g3, by rw [g4]; simp [pad]⟩
    · have hb : Nat.beq i 16 = false := by
        cases e : Nat.beq i 16 with
        | false => rfl
        | true => exact (hi (Nat.eq_of_beq_eq_true e)).elim
      cases args with
      | nil =>
        obtain ⟨rows, last, g1, g2, g3, g4⟩ := rowsK_eq (m := m) (i := i + 1) (args := []) (row := noVal :: row) (acc := acc) (k := k) (by simp [h1]) (by omega) h3
        refine ⟨rows, last, ?_, g2, g3, by rw [g4]; simp [pad]⟩
        rw [← g1]
        show cond (Nat.beq i 16) _ _ = _
        rw [hb]; rfl
      | cons a t =>
        obtain ⟨rows, last, g1, g2, g3, g4⟩ := rowsK_eq (m := m) (i := i + 1) (args := t) (row := a :: row) (acc := acc) (k := k) (by simp [h1]) (by omega) h3
        refine ⟨rows, last, ?_, g2, g3, by rw [g4]; simp [pad]⟩
        rw [← g1]
        show cond (Nat.beq i 16) _ _ = _
        rw [hb]; rfl

section
variable {R : Type} {T : R → Prop} {z : R} {P : Program} {val : Nat → Int} {fz : Fz} {orc : Orc R} {call : CallT R}

theorem rows_TmR {m : Nat} {args : List AV} {k : TM → R} (h : T (rowsK m 0 args [] [] k)) : ∃ tm, T (k tm) ∧ ∀ ρ w (xs : List Value), All2 (AVR val ρ w) args xs → TmR val ρ w tm { tmps := xs.toArray ++ Array.replicate (m - xs.toArray.size) undef, defers := [] } := by
  obtain ⟨rows, last, g1, g2, g3, g4⟩ := rowsK_eq (R := R) (m := m) (i := 0) (args := args) (row := []) (acc := []) (k := k) rfl (by omega) (by simp)
  rw [g1] at h
  refine ⟨_, h, fun ρ w xs hx => ?_⟩
  have hL : rows.flatten ++ last = pad m args := by rw [g4]; simp
  have key := chunk g3 g2
  rw [hL] at key
  refine ⟨fun t ht => ?_, fun t => ?_⟩
  · have := (key t).2 ht
    rw [pad_length] at this
    simp; omega
  · rw [(key t).1]
    rcases Nat.lt_or_ge t m with h1 | h1
    · rw [pad_get h1]
      simp only [Option.getD_some, Array.getD_eq_getD_getElem?]
      rcases Nat.lt_or_ge t xs.length with h2 | h2
      · have h3 : t < args.length := by rw [hx.length]; exact h2
        obtain ⟨b, h4, h5⟩ := hx.get (List.getElem?_eq_getElem h3)
        rw [List.getElem?_eq_getElem h3, Option.getD_some, Array.getElem?_append_left (by simpa using h2)]
        simp only [List.getElem?_toArray, h4, Option.getD_some]
        exact h5
      · rw [List.getElem?_eq_none (by rw [hx.length]; exact h2), Array.getElem?_append_right (by simpa using h2)]
        rw [Array.getElem?_replicate]
        split
        · exact ⟨[], rfl, trivial⟩
        · exact ⟨[], rfl, trivial⟩
    · rw [List.getElem?_eq_none (by rw [pad_length]; exact h1)]
      trivial

/-- Results. -/
def resRun (tmps : Array Value) : ResultVar → Sem Value
  | .tmp t => pure (tmps.getD t undef)
  | .cell a t => do loadVar t (← asAddr (tmps.getD a undef))
def ResR (P : Program) : ResultVar → ARes → Prop
  | .tmp t, .tmp q r => q = t / 16 ∧ r = t % 16
  | .cell a t, .cell q r g n => q = a / 16 ∧ r = a % 16 ∧ aggOf P t = some g ∧ szOf P t = some n
  | _, _ => False
theorem prepRes_R : ∀ {l : List ResultVar} {rl : List ARes}, prepRes P l = some rl → All2 (ResR P) l rl
  | [], rl, h => by simp [prepRes] at h; subst h; trivial
  | .tmp t :: l, rl, h => by
    simp only [prepRes] at h
    obtain ⟨r, h1, rfl⟩ := Option.map_eq_some_iff.1 h
    exact ⟨⟨rfl, rfl⟩, prepRes_R h1⟩
  | .cell a t :: l, rl, h => by
    simp only [prepRes] at h
    split at h
    · rename_i g n r h1 h2 h3
      split at h
      · cases h; exact ⟨⟨rfl, rfl, h1, h2⟩, prepRes_R h3⟩
      · cases h
    · cases h

theorem resVal_sound (hz : ¬ T z) {rv : ResultVar} {r : ARes} {tm : TM} {mu : St} {k : AV → R} (hr : ResR P rv r) (h : T (resVal z fz r tm mu k)) : ∃ v, T (k v) ∧ ∀ ρ w a, Rel val ρ fz mu w → TmR val ρ w tm a → ∃ x, (resRun a.tmps rv).run P w = .ok x w ∧ AVR val ρ w v x := by
  cases rv with
  | tmp t => cases r with
    | cell q r g n => exact hr.elim
    | tmp q r =>
      obtain ⟨rfl, rfl⟩ := hr
      exact ⟨_, h, fun ρ w a _ ht => ⟨a.tmps.getD t undef, by simp [resRun], ht.vals t⟩⟩
  | cell a t => cases r with
    | tmp q r => exact hr.elim
    | cell q r g n =>
      obtain ⟨rfl, rfl, ha, hs⟩ := hr
      have h' : T ((get tm (a / 16) (a % 16)).onOne z fun s => s.onPtr z fun id off => lookAll fz mu id z fun cs => subK cs off n z fun c => asRes g c z k) := h
      obtain ⟨s, e1, h1⟩ := onOne_elim hz h'
      obtain ⟨id, off, rfl, h2⟩ := onPtr_elim hz h1
      obtain ⟨cs, h3, h4⟩ := lookAll_elim hz h2
      obtain ⟨h5, h6⟩ := subK_elim hz h4
      obtain ⟨v, h7, h8⟩ := asRes_elim hz h6
      refine ⟨v, h8, fun ρ w act hrel ht => ?_⟩
      have hv := ht.vals a
      rw [e1] at hv
      obtain ⟨p, hp, hx⟩ := hv
      obtain ⟨vs, g1, g2, g3, g4⟩ := (seen hrel h3).read (P := P) hp h5
      obtain ⟨x, g5, g6⟩ := load_run ha hs g1 g2 g3 g4 h7
      exact ⟨x, by simp [resRun, hx, asAddr, g5], g6⟩

theorem toCV_elim (hz : ¬ T z) {v : AV} {k : CV → R} (h : T (toCV z v k)) : ∃ c, T (k c) ∧ ∀ ρ w x, AVR val ρ w v x → CVR val ρ w c x := by
  cases v with
  | one s => exact ⟨.one s, h, fun _ _ _ hx => hx⟩
  | ag l => exact ⟨.ag l, h, fun _ _ _ hx => hx⟩
  | tp l => exact (hz h).elim

theorem resAll_sound (hz : ¬ T z) : ∀ {l : List ResultVar} {rl : List ARes} {tm : TM} {mu : St} {k : List CV → R}, All2 (ResR P) l rl → T (resAll z fz rl tm mu k) →
    ∃ cs, T (k cs) ∧ ∀ ρ w a, Rel val ρ fz mu w → TmR val ρ w tm a → ∃ xs : List Value, (l.mapM (resRun a.tmps)).run P w = .ok xs w ∧ xs.length = l.length ∧ All2 (CVR val ρ w) cs xs
  | [], [], tm, mu, k, _, h => ⟨[], h, fun ρ w a _ _ => ⟨[], by simp, rfl, trivial⟩⟩
  | [], _ :: _, _, _, _, hl, _ => hl.elim
  | _ :: _, [], _, _, _, hl, _ => hl.elim
  | rv :: l, r :: rl, tm, mu, k, hl, h => by
    obtain ⟨v, h1, h2⟩ := resVal_sound (P := P) (val := val) hz hl.1 (show T (resVal z fz r tm mu fun v => toCV z v fun c => resAll z fz rl tm mu fun cs => k (c :: cs)) from h)
    obtain ⟨c, h3, h4⟩ := toCV_elim (val := val) hz h1
    obtain ⟨cs, h5, h6⟩ := resAll_sound hz hl.2 h3
    refine ⟨c :: cs, h5, fun ρ w a hr ht => ?_⟩
    obtain ⟨x, g1, g2⟩ := h2 ρ w a hr ht
    obtain ⟨xs, g3, gl, g4⟩ := h6 ρ w a hr ht
    exact ⟨x :: xs, by simp [List.mapM_cons, g1, g3], by simp [gl], h4 _ _ _ g2, g4⟩

theorem results_run {fn : Func} {tmps : Array Value} {w : World} {xs : List Value} (h : (fn.results.toList.mapM (resRun tmps)).run P w = .ok xs w) :
    (results fn tmps).run P w = .ok (if hx : xs.toArray.size = 1 then xs.toArray[0] else .tuple xs.toArray) w := by
  have e : results fn tmps = (fn.results.mapM (resRun tmps)) >>= fun vs => pure (if h : vs.size = 1 then vs[0] else .tuple vs) := by
    unfold results
    congr 1
  rw [e, Array.mapM_eq_mapM_toList]
  simp [h]

theorem resK_sound (hz : ¬ T z) {fn : Func} {rl : List ARes} {tm : TM} {mu : St} {k : AV → R} (hp : prepRes P fn.results.toList = some rl) (h : T (resK z fz rl tm mu k)) :
    ∃ v, T (k v) ∧ ∀ ρ w a, Rel val ρ fz mu w → TmR val ρ w tm a → ∃ x, (results fn a.tmps).run P w = .ok x w ∧ AVR val ρ w v x := by
  have hR := prepRes_R hp
  generalize hl : fn.results.toList = l at hR
  cases rl with
  | nil => cases l with
    | cons _ _ => exact hR.elim
    | nil =>
      refine ⟨.tp [], h, fun ρ w a _ _ => ⟨_, results_run (xs := []) (by rw [hl]; simp), [], by simp, trivial⟩⟩
  | cons r t => cases l with
    | nil => exact hR.elim
    | cons rv l =>
      cases t with
      | nil => cases l with
        | cons _ _ => exact hR.2.elim
        | nil =>
          obtain ⟨v, h1, h2⟩ := resVal_sound (P := P) (val := val) hz hR.1 (show T (resVal z fz r tm mu k) from h)
          refine ⟨v, h1, fun ρ w a hr ht => ?_⟩
          obtain ⟨x, g1, g2⟩ := h2 ρ w a hr ht
          exact ⟨_, results_run (xs := [x]) (by rw [hl]; simp [g1]), by simpa using g2⟩
      | cons r2 t => cases l with
        | nil => exact hR.2.elim
        | cons rv2 l =>
          obtain ⟨cs, h1, h2⟩ := resAll_sound (P := P) (val := val) hz hR (show T (resAll z fz (r :: r2 :: t) tm mu fun cs => k (.tp cs)) from h)
          refine ⟨_, h1, fun ρ w a hr ht => ?_⟩
          obtain ⟨xs, g1, gl, g2⟩ := h2 ρ w a hr ht
          refine ⟨_, results_run (xs := xs) (by rw [hl]; exact g1), ?_⟩
          have hlen : xs.toArray.size ≠ 1 := by
            simp at gl
            simp [gl]
          simp only [hlen, dite_false]
          exact ⟨xs, rfl, g2⟩

/-- A contract in the place of a run. -/
abbrev Contract (R : Type) := List AV → Fz → St → Nat → (AV → St → Nat → R) → R
def ContractOk (T : R → Prop) (P : Program) (val : Nat → Int) (f : Nat) (c : Contract R) : Prop :=
  ∀ args fz mu n k, T (c args fz mu n k) → ∃ v mu' n', T (k v mu' n') ∧ hasBody P f = true ∧ n ≤ n' ∧ ∀ ρ w (xs : List Value), Rel val ρ fz mu w → All2 (AVR val ρ w) args xs → FreshN ρ n n' →
    Calls P f xs.toArray w fun e w' => ∃ x, e = .returned x ∧ Post val ρ fz mu n w v mu' n' x w'

/-- The functions that the evaluator is given are the program's. -/
def FuncsOk (P : Program) (F : Nat → Option AFunc) : Prop := ∀ f af, F f = some af → hasBody P f = true ∧ ∃ fn m, P.funcs[f]? = some fn ∧ prepFunc P m fn = some af

theorem vcall_sound (hz : ¬ T z) (hk : OrcOk T val orc) (hmx : P.follows .mixedOrders = true) {K : Nat → Option (Contract R)} {F : Nat → Option AFunc} (hK : ∀ f c, K f = some c → ContractOk T P val f c) (hF : FuncsOk P F) (big : Nat) :
    ∀ depth, CallSound T P val (vcall orc z K F big depth)
  | 0 => fun f args fz mu n k h => (hz h).elim
  | depth + 1 => fun f args fz mu n k h => by
    have ih := vcall_sound hz hk hmx hK hF big depth
    cases eK : K f with
    | some c =>
      have h' : T (c args fz mu n k) := by
        unfold vcall at h
        simp only [eK] at h
        exact h
      exact hK f c eK args fz mu n k h'
    | none =>
      cases eF : F f with
      | none =>
        unfold vcall at h
        simp only [eK, eF] at h
        exact (hz h).elim
      | some af =>
        obtain ⟨hb, fn, m, hfn, hp⟩ := hF f af eF
        have h' : T (cond (Nat.beq args.length af.nargs) (rowsK af.ntmps 0 args [] [] fun tm => acode orc z (vcall orc z K F big depth) fz big af.body tm mu n fun e tm mu n =>
            AExit.rec (motive := fun _ => R) (resK z fz af.res tm mu fun v => k v mu n) (fun _ => z) (resK z fz af.res tm mu fun v => k v mu n) e) z) := by
          unfold vcall at h
          simp only [eK, eF] at h
          exact h
        cases hb' : Nat.beq args.length af.nargs with
        | false => rw [hb'] at h'; exact (hz h').elim
        | true =>
          rw [hb'] at h'
          unfold prepFunc at hp
          cases hbody : fn.body with
          | none => rw [hbody] at hp; cases hp
          | some c =>
            rw [hbody] at hp
            simp only at hp
            split at hp
            · rename_i b r hpc hpr
              cases hp
              obtain ⟨tm, h1, h2⟩ := rows_TmR (val := val) (T := T) h'
              obtain ⟨e, tm', mu', n', h3, h4⟩ := acode_sound (P := P) (val := val) hz ih hk hmx big c hpc h1
              have h5 : T (resK z fz r tm' mu' fun v => k v mu' n') ∧ (e = .normal ∨ e = .ret) := by
                cases e with
                | normal => exact ⟨h3, .inl rfl⟩
                | ret => exact ⟨h3, .inr rfl⟩
                | exit id => exact (hz h3).elim
              obtain ⟨h6, h7⟩ := h5
              obtain ⟨v, h8, h9⟩ := resK_sound (P := P) (val := val) hz hpr h6
              refine ⟨v, mu', n', h8, hb, h4.1, fun ρ w xs hr hx hf => ?_⟩
              refine calls_of_wp hfn hbody (h4.2 ρ w _ hr (h2 ρ w xs hx) hf _ fun a' w' hp => ?_).1
              obtain ⟨d, ρ', p1, p2, p3, p4, p5, p6⟩ := hp
              obtain ⟨x, g1, g2⟩ := h9 ρ' w' a' p2 p3
              have : a'.defers = [] ∧ ∃ v_1, (results fn a'.tmps).run P w' = .ok v_1 w' ∧ ∃ x, Ending.returned v_1 = .returned x ∧ Post val ρ fz mu n w v mu' n' x w' :=
                ⟨d, x, g1, x, rfl, ρ', p1, p2, g2, p4, p5, p6⟩
              rcases h7 with rfl | rfl
              · exact this
              · exact this
            · cases hp
end
end Go.Ev
