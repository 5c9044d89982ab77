/-
  Each operation of the evaluator against the model's: slices, append, copy.
-/
import Derived.Test.YtmnkmmfjekcinaaGreatEvOps3
set_option linter.unusedVariables false
set_option linter.unusedSimpArgs false
namespace Go.Ev
section
variable {P : Program} {val : Nat → Int} {fz : Fz} {tm : TM} {mu : St} {n : Nat} {o : Oper}

/-- A bound of a slice expression, in the model. -/
def BoundIs (x : Option Value) (d m : Nat) : Prop := (x = none ∧ m = d) ∨ ∃ k i, x = some (.int k i) ∧ ¬ i < 0 ∧ m = i.toNat

theorem bound_is {ρ : Rho} {w : World} {a : Act} {x : Option Operand} {y : Option Od} {d m : Nat} (hy : odO P x = some y) (hop : ∀ u v, x = some u → od P u = some v → AVR val ρ w (ev tm v) (a.eval u))
    (hm : bound (y.map (ev tm)) d = some m) : BoundIs (x.map a.eval) d m := by
  cases x with
  | none =>
    simp [odO] at hy; subst hy
    simp [bound] at hm
    exact .inl ⟨rfl, hm.symm⟩
  | some u =>
    simp only [odO] at hy
    cases hu : od P u with
    | none => rw [hu] at hy; cases hy
    | some v =>
      rw [hu] at hy
      simp at hy; subst hy
      have g := hop u v rfl hu
      simp only [Option.map_some, bound] at hm
      split at hm
      · rename_i h; cases h
      · rename_i k i h
        have e : ev tm v = .one (.int k i) := Option.some.inj h
        rw [e] at g
        have g' : a.eval u = .int k i := g
        split at hm
        · cases hm
        · rename_i h0
          cases hm
          exact .inr ⟨k, i, by simp [g'], h0, rfl⟩
      · cases hm

theorem sliceBound_run {w : World} {k : IntKind} {i : Int} {y : Nat} (code : BoundsCode) (h0 : ¬ i < 0) (h1 : i.toNat ≤ y) : (Instr.sliceBound (.int k i) y code).run P w = .ok i.toNat w := by
  have : 0 ≤ i ∧ i ≤ (y : Int) := by omega
  simp [Instr.sliceBound, asIntOf, this]

theorem sliceBounds_run {w : World} {b : Bool} {len cap l h m : Nat} {lo hi mx : Option Value} (hm : BoundIs mx cap m) (hh : BoundIs hi len h) (hl : BoundIs lo 0 l) (c1 : m ≤ cap) (c2 : h ≤ m) (c3 : l ≤ h) (hmx : mx.isSome = true → hi.isSome = true) :
    (Instr.sliceBounds b len cap lo hi mx).run P w = .ok (l, h, m) w := by
  rcases hm with ⟨rfl, rfl⟩ | ⟨km, im, rfl, m0, rfl⟩
  · rcases hh with ⟨rfl, rfl⟩ | ⟨kh, ih, rfl, h0, rfl⟩
    · rcases hl with ⟨rfl, rfl⟩ | ⟨kl, il, rfl, l0, rfl⟩
      · simp [Instr.sliceBounds]
      · simp [Instr.sliceBounds, sliceBound_run _ l0 c3]
    · rcases hl with ⟨rfl, rfl⟩ | ⟨kl, il, rfl, l0, rfl⟩
      · simp [Instr.sliceBounds, sliceBound_run _ h0 c2]
      · simp [Instr.sliceBounds, sliceBound_run _ h0 c2, sliceBound_run _ l0 c3]
  · rcases hh with ⟨rfl, rfl⟩ | ⟨kh, ih, rfl, h0, rfl⟩
    · simp at hmx
    · rcases hl with ⟨rfl, rfl⟩ | ⟨kl, il, rfl, l0, rfl⟩
      · simp [Instr.sliceBounds, sliceBound_run _ m0 c1, sliceBound_run _ h0 c2]
      · simp [Instr.sliceBounds, sliceBound_run _ m0 c1, sliceBound_run _ h0 c2, sliceBound_run _ l0 c3]

theorem sound_slc {t : TypeId} {s : Nat} {x : Operand} {lo hi mx : Option Operand} {x' : Od} {lo' hi' mx' : Option Od} {sv r : SV} (ho : o.op = .slice t x lo hi mx)
    (hu : (∃ e, P.underlying t = some (.slice e) ∧ szOf P e = some s ∧ ∀ b, sv ≠ .str b) ∨ P.underlying t = some .string ∧ (∃ b, sv = .str b)) (hmx : mx.isSome = true → hi.isSome = true)
    (hx : od P x = some x') (hlo : odO P lo = some lo') (hhi : odO P hi = some hi') (hmx' : odO P mx = some mx') (ex : ev tm x' = .one sv)
    (hr : sliceOf s sv (lo'.map (ev tm)) (hi'.map (ev tm)) (mx'.map (ev tm)) = some r) : Sound P val fz tm mu n o (.one r) mu n := by
  refine sound_pure fun ρ w a _ hop => ?_
  have g := hop x x' (by simp [ho, Op.operands]) hx
  rw [ex] at g
  have ol : ∀ u v, lo = some u → od P u = some v → AVR val ρ w (ev tm v) (a.eval u) := fun u v hu hv => hop u v (by simp [ho, Op.operands, hu]) hv
  have oh : ∀ u v, hi = some u → od P u = some v → AVR val ρ w (ev tm v) (a.eval u) := fun u v hu hv => hop u v (by simp [ho, Op.operands, hu]) hv
  have om : ∀ u v, mx = some u → od P u = some v → AVR val ρ w (ev tm v) (a.eval u) := fun u v hu hv => hop u v (by simp [ho, Op.operands, hu]) hv
  have bl := fun d m h => bound_is (P := P) (val := val) (ρ := ρ) (w := w) (a := a) (d := d) (m := m) hlo ol h
  have bh := fun d m h => bound_is (P := P) (val := val) (ρ := ρ) (w := w) (a := a) (d := d) (m := m) hhi oh h
  have bm := fun d m h => bound_is (P := P) (val := val) (ρ := ρ) (w := w) (a := a) (d := d) (m := m) hmx' om h
  have mnone : mx'.map (ev tm) = none → mx.map a.eval = none := fun h => by
    cases mx with
    | none => rfl
    | some u =>
      simp only [odO] at hmx'
      cases hu : od P u with
      | none => rw [hu] at hmx'; cases hmx'
      | some v => rw [hu] at hmx'; simp at hmx'; subst hmx'; simp at h
  have hms : (mx.map a.eval).isSome = true → (hi.map a.eval).isSome = true := by simpa using hmx
  have goal : ∀ v, (Instr.slice t (a.eval x) (lo.map a.eval) (hi.map a.eval) (mx.map a.eval)).run P w = .ok v w → (∀ k e, P.underlying t ≠ some (.array k e)) → (execOp a.eval o).run P w = .ok (.value v) w := by
    intro v hv hna
    have : (Instr.sliceAt t (a.eval x) (lo.map a.eval) (hi.map a.eval) (mx.map a.eval)).run P w = .ok v w := by
      unfold Instr.sliceAt
      cases hut : P.underlying t with
      | none => rcases hu with ⟨e, h, _⟩ | ⟨h, _⟩ <;> rw [hut] at h <;> cases h
      | some d =>
        simp only [Sem.run_bind, underlying, run_program, hut, Result.andThen_ok, Sem.run_pure]
        cases d <;> first | exact hv | exact (hna _ _ hut).elim
    simp [execOp, ho, this]
  rcases hu with ⟨e, hu, hs, hns⟩ | ⟨hu, b, rfl⟩
  · have hna : ∀ k e', P.underlying t ≠ some (.array k e') := fun k e' h => by rw [hu] at h; cases h
    have hsz := szOf_run hs w
    cases sv with
    | str b => exact (hns b rfl).elim
    | nsl =>
      simp only [sliceOf] at hr
      split at hr
      · rename_i h1 h2 h3
        cases hr
        have g' : a.eval x = .slice none 0 0 := g
        have hb := sliceBounds_run (P := P) (w := w) (b := true) (bm 0 0 h1) (bh 0 0 h2) (bl 0 0 h3) (Nat.le_refl _) (Nat.le_refl _) (Nat.le_refl _) hms
        exact ⟨.slice none 0 0, goal _ (by simp [Instr.slice, underlying, hu, g', hb, hsz]) hna, rfl⟩
      · cases hr
    | esl =>
      simp only [sliceOf] at hr
      split at hr
      · rename_i h1 h2 h3
        cases hr
        obtain ⟨ad, g'⟩ := g
        have hb := sliceBounds_run (P := P) (w := w) (b := true) (bm 0 0 h1) (bh 0 0 h2) (bl 0 0 h3) (Nat.le_refl _) (Nat.le_refl _) (Nat.le_refl _) hms
        exact ⟨.slice (some ad) 0 0, goal _ (by simp [Instr.slice, underlying, hu, g', hb, hsz]) hna, ad, rfl⟩
      · cases hr
    | osl id off len cap s' =>
      simp only [sliceOf] at hr
      split at hr
      · cases hr
      · rename_i hs'
        have hss : s' = s := by simpa using hs'
        subst hss
        obtain ⟨p, c, hp, g', q1, q2, q3, q4⟩ := g
        split at hr
        · rename_i h l hh hl
          split at hr
          · cases hr
          · rename_i hcap
            have hcap' : h ≤ cap ∧ l ≤ h := by simpa using hcap
            split at hr
            · rename_i hmn
              have hmn' : mx.map a.eval = none := mnone (by assumption)
              have hb := sliceBounds_run (P := P) (w := w) (b := true) (len := len) (cap := c) (m := c) (.inl ⟨hmn', rfl⟩) (bh len h hh) (bl 0 l hl) (Nat.le_refl _) (by omega) hcap'.2 hms
              split at hr
              · rename_i hl0
                cases hr
                have hl0' : l < cap ∨ l = 0 := by
                  rcases Bool.or_eq_true _ _ ▸ hl0 with h | h
                  · exact .inl (by simpa [Nat.blt_eq] using h)
                  · exact .inr (beq_yes h)
                have haddr : (if c = l then (some ⟨p.1, p.2 + off, none⟩ : Option Addr) else (some ⟨p.1, p.2 + off, none⟩ : Option Addr).map (·.add (l * s'))) = some ⟨p.1, p.2 + (off + l * s'), none⟩ := by
                  split
                  · have : l = 0 := by omega
                    subst this; simp
                  · simp [addr_add, Nat.add_assoc]
                refine ⟨.slice (some ⟨p.1, p.2 + (off + l * s'), none⟩) (h - l) (c - l), goal _ ?_ hna, p, c - l, hp, rfl, by omega, by omega, ?_, by omega⟩
                · simp only [Instr.slice, Sem.run_bind, underlying, run_program, hu, Result.andThen_ok, Sem.run_pure, g', hb, hsz, haddr]
                · have : (c - l) * s' + l * s' = c * s' := by rw [← Nat.add_mul]; congr 1; omega
                  omega
              · rename_i hl0
                cases hr
                have hl0' : ¬ (l < cap ∨ l = 0) := by
                  intro hc
                  apply hl0
                  rw [Bool.or_eq_true]
                  rcases hc with h | h
                  · exact .inl (by simpa [Nat.blt_eq] using h)
                  · exact .inr (by subst h; rfl)
                have hhl : h - l = 0 := by omega
                refine ⟨.slice (if c = l then (some ⟨p.1, p.2 + off, none⟩ : Option Addr) else (some ⟨p.1, p.2 + off, none⟩ : Option Addr).map (·.add (l * s'))) 0 (c - l), goal _ ?_ hna, ?_⟩
                · simp only [Instr.slice, Sem.run_bind, underlying, run_program, hu, Result.andThen_ok, Sem.run_pure, g', hb, hsz, hhl]
                · by_cases hcl : c = l
                  · exact ⟨⟨p.1, p.2 + off, none⟩, c - l, by simp [hcl]⟩
                  · exact ⟨(⟨p.1, p.2 + off, none⟩ : Addr).add (l * s'), c - l, by simp [hcl]⟩
            · rename_i mv hmv
              split at hr
              · rename_i m hbm
                split at hr
                · cases hr
                · rename_i hmc
                  have hmc' : m ≤ cap ∧ h ≤ m := by simpa using hmc
                  have hb := sliceBounds_run (P := P) (w := w) (b := true) (len := len) (cap := c) (m := m) (by
                      have := bm 0 m (by rw [hmv]; exact hbm)
                      rcases this with ⟨hn, _⟩ | h
                      · exfalso
                        cases mx with
                        | none => simp [odO] at hmx'; subst hmx'; cases hmv
                        | some u => cases hn
                      · exact .inr h) (bh len h hh) (bl 0 l hl) (by omega) hmc'.2 hcap'.2 hms
                  split at hr
                  · rename_i hml
                    cases hr
                    have hml' : m = l := beq_yes hml
                    have hhl : h - l = 0 := by omega
                    refine ⟨.slice (some ⟨p.1, p.2 + off, none⟩) 0 0, goal _ ?_ hna, _, rfl⟩
                    simp only [Instr.slice, Sem.run_bind, underlying, run_program, hu, Result.andThen_ok, Sem.run_pure, g', hb, hsz, hhl, hml', if_true, Nat.sub_self]
                  · rename_i hml
                    cases hr
                    have hml' : ¬ m = l := fun e => hml (by subst e; exact Nat.beq_refl m)
                    refine ⟨.slice (some ⟨p.1, p.2 + (off + l * s'), none⟩) (h - l) (m - l), goal _ ?_ hna, p, m - l, hp, rfl, by omega, Nat.le_refl _, ?_, by omega⟩
                    · simp only [Instr.slice, Sem.run_bind, underlying, run_program, hu, Result.andThen_ok, Sem.run_pure, g', hb, hsz, hml', if_false, Option.map_some, addr_add, Nat.add_assoc]
                    · have h1 : (m - l) * s' + l * s' = m * s' := by rw [← Nat.add_mul]; congr 1; omega
                      have h2 : m * s' ≤ c * s' := Nat.mul_le_mul_right _ (by omega)
                      omega
              · cases hr
        · cases hr
    | _ => simp [sliceOf] at hr
  · have hna : ∀ k e', P.underlying t ≠ some (.array k e') := fun k e' h => by rw [hu] at h; cases h
    have g' : a.eval x = .string b := g
    simp only [sliceOf] at hr
    split at hr
    · cases hr
    · rename_i hmn
      have hmn' : mx.map a.eval = none := mnone (by assumption)
      split at hr
      · rename_i h l hh hl
        split at hr
        · rename_i hc
          have hc' : h ≤ b.size ∧ l ≤ h := by simpa using hc
          cases hr
          have hb := sliceBounds_run (P := P) (w := w) (b := false) (len := b.size) (cap := b.size) (mx := none) (m := b.size) (.inl ⟨rfl, rfl⟩) (bh b.size h hh) (bl 0 l hl) (Nat.le_refl _) hc'.1 hc'.2 (by simp)
          exact ⟨.string (b.extract l h), goal _ (by rw [hmn']; simp [Instr.slice, underlying, hu, g', hb]) hna, rfl⟩
        · cases hr
      · cases hr

/-- What is read of a slice or a string: so many elements, these cells. -/
def SrcOk (P : Program) (val : Nat → Int) (fz : Fz) (mu : St) (s : Nat) (x : SV) (src : List SV) (cnt : Nat) : Prop :=
  src.length = cnt * s ∧ ∀ (ρ : Rho) (w : World) (v : Value), Rel val ρ fz mu w → VR val ρ w x v → (∀ w1, (Builtin.lenOf v).run P w1 = .ok cnt w1) ∧ ((∃ a l c, v = .slice a l c) ∨ ∃ b, v = .string b) ∧
    ∃ news : List Value, All2 (VR val ρ w) src news ∧ ∀ m, m ≤ cnt → ∀ w1, Like w w1 → (Builtin.firstCells s m v).run P w1 = .ok (news.take (m * s)).toArray w1

theorem srcK_elim {R : Type} {T : R → Prop} {z : R} (hz : ¬ T z) {s : Nat} {x : SV} {k : List SV → Nat → R} (h : T (srcK fz mu s x z k)) : ∃ src cnt, SrcOk P val fz mu s x src cnt ∧ T (k src cnt) := by
  cases x with
  | un => exact (hz h).elim
  | int => exact (hz h).elim
  | bool => exact (hz h).elim
  | npt => exact (hz h).elim
  | nfn => exact (hz h).elim
  | optr => exact (hz h).elim
  | fn => exact (hz h).elim
  | sym => exact (hz h).elim
  | str b =>
    obtain ⟨h1, h2⟩ := cond_elim hz (show T (cond (Nat.beq s 1) (k (b.data.toList.map (fun x => .int .u8 x.toNat)) b.size) z) from h)
    have hs : s = 1 := beq_yes h1
    subst hs
    refine ⟨_, _, ⟨by rw [List.length_map, Array.length_toList, Nat.mul_one]; rfl, fun ρ w v hr hv => ?_⟩, h2⟩
    have hv' : v = .string b := hv
    subst hv'
    refine ⟨fun w1 => by simp [Builtin.lenOf], .inr ⟨b, rfl⟩, b.data.toList.map (fun x => .int .u8 x.toNat), ?_, fun m hm w1 _ => ?_⟩
    · refine All2.of_get (by simp) fun i a c ha hc => ?_
      simp only [List.getElem?_map, Option.map_eq_some_iff] at ha hc
      obtain ⟨u, hu, rfl⟩ := ha
      obtain ⟨u', hu', rfl⟩ := hc
      rw [hu] at hu'; cases hu'
      rfl
    · simp only [Builtin.firstCells, Sem.run_pure, Nat.mul_one]
      congr 1
      apply Array.ext'
      simp [List.map_take]
  | nsl => exact ⟨[], 0, ⟨by simp, fun ρ w v hr hv => by
      have hv' : v = .slice none 0 0 := hv
      subst hv'
      exact ⟨fun w1 => by simp [Builtin.lenOf], .inl ⟨_, _, _, rfl⟩, [], trivial, fun m hm w1 _ => by simp [Builtin.firstCells]⟩⟩, h⟩
  | esl => exact ⟨[], 0, ⟨by simp, fun ρ w v hr hv => by
      obtain ⟨a, rfl⟩ := hv
      refine ⟨fun w1 => by simp [Builtin.lenOf], .inl ⟨_, _, _, rfl⟩, [], trivial, fun m hm w1 _ => ?_⟩
      have : m = 0 := by omega
      subst this
      simp [Builtin.firstCells, loadCells, loadCellsFrom]⟩, h⟩
  | zsl => exact ⟨[], 0, ⟨by simp, fun ρ w v hr hv => by
      obtain ⟨a, c, rfl⟩ := hv
      refine ⟨fun w1 => by simp [Builtin.lenOf], .inl ⟨_, _, _, rfl⟩, [], trivial, fun m hm w1 _ => ?_⟩
      have : m = 0 := by omega
      subst this
      simp [Builtin.firstCells, loadCells, loadCellsFrom]⟩, h⟩
  | osl id off len cap s' =>
    obtain ⟨h1, h2⟩ := cond_elim hz (show T (cond (Nat.beq s' s) (lookAll fz mu id z fun cs => fN (Nat.mul len s) fun m => fN off fun off => subK cs off m z fun r => k r len) z) from h)
    have hs : s' = s := beq_yes h1
    subst hs
    obtain ⟨cs, h3, h4⟩ := lookAll_elim hz h2
    simp only [fN_eq] at h4
    obtain ⟨h5, h6⟩ := subK_elim hz h4
    have h5' : off + len * s' ≤ cs.length := h5
    refine ⟨(cs.drop off).take (len * s'), len, ⟨by simp; omega, fun ρ w v hr hv => ?_⟩, h6⟩
    obtain ⟨p, c, hp, rfl, q1, q2, q3, q4⟩ := hv
    obtain ⟨vs, g1, g2, g3, g4⟩ := (seen hr h3).read (P := P) hp h5'
    refine ⟨fun w1 => by simp [Builtin.lenOf], .inl ⟨_, _, _, rfl⟩, vs, g2, fun m hm w1 hl => ?_⟩
    have hms : m * s' ≤ len * s' := Nat.mul_le_mul_right _ hm
    have hlen : (vs.take (m * s')).length = m * s' := by simp; omega
    have := run_loadCells_list (P := P) w1 ⟨p.1, p.2 + off, none⟩ (vs.take (m * s')) (fun j v hj => by
      rw [addr_add, hl.cell]
      refine g3 j v ?_
      rw [List.getElem?_take] at hj
      split at hj
      · exact hj
      · cases hj)
    rw [hlen] at this
    exact this

theorem cap_bound {need old : Nat} (h : old < need) (hn : True) : Builtin.nextslicecap need old ≤ 2 * need + 1000 := by
  unfold Builtin.nextslicecap
  clear hn
  split
  · omega
  · split
    · omega
    · have key : ∀ (r c : Nat), c < need → Builtin.growBy need r c ≤ 2 * need + 1000 := by
        intro r
        induction r with
        | zero => intro c hc; show c ≤ _; omega
        | succ r ih =>
          intro c hc
          simp only [Builtin.growBy, show ¬ c ≥ need by omega, if_false]
          by_cases h2 : c + (c + 768) / 4 < need
          · exact ih _ h2
          · cases r with
            | zero => simp only [Builtin.growBy]; omega
            | succ r => simp only [Builtin.growBy, show c + (c + 768) / 4 ≥ need by omega, if_true]; omega
      exact key 4 old h

end
end Go.Ev
