/-
  Numbers whose range is one number are that number.
-/
import Derived.Test.YtlmffooffbjdkaaEvMask
set_option linter.unusedVariables false
set_option linter.unusedSimpArgs false
namespace Go.Ev

noncomputable def plainR (s : SV) (k : SV → RR) : RR := s.onSym (k s) fun kd i => cond (Nat.ble 16 i) (onRng (Nat.mod i 16) fun lo hi => cond (Nat.beq lo hi) (fI (Int.add (Int.ofNat lo) (offs i)) fun v => k (.int kd v)) (k s)) (k s)
theorem plainR_elim {raw : Nat → Int} {m : Nat → Nat} {s : SV} {k : SV → RR} (h : TT m (plainR s k)) : ∃ s', (s' = s ∨ ∃ kd i, s = .sym kd i ∧ s' = .int kd (valOf raw m i)) ∧ TT m (k s') := by
  cases s with
  | sym kd i =>
    have h' : TT m (cond (Nat.ble 16 i) (onRng (Nat.mod i 16) fun lo hi => cond (Nat.beq lo hi) (fI (Int.add (Int.ofNat lo) (offs i)) fun v => k (.int kd v)) (k (.sym kd i))) (k (.sym kd i))) := h
    cases e : Nat.ble 16 i with
    | false => rw [e] at h'; exact ⟨_, .inl rfl, h'⟩
    | true =>
      rw [e, cond_true] at h'
      have hi : ¬ i < 16 := by have := Nat.le_of_ble_eq_true e; omega
      obtain ⟨pc, lo, hi', ok, e2, h1, h2, h3⟩ := onRng_elim h'
      cases e3 : Nat.beq lo hi' with
      | false => rw [e3] at h3; exact ⟨_, .inl rfl, pc, ok, h3⟩
      | true =>
        rw [e3] at h3
        have e4 := Nat.eq_of_beq_eq_true e3
        refine ⟨_, .inr ⟨kd, i, rfl, rfl⟩, pc, ok, ?_⟩
        have h4 : fI (Int.add (Int.ofNat lo) (offs i)) (fun v => k (.int kd v)) pc = true := h3
        rw [fI_eq] at h4
        rw [valOf_big hi]
        have e5 : m (i % 16) = lo := by
          have g1 : lo ≤ m (i % 16) := h1
          have g2 : m (i % 16) ≤ hi' := h2
          omega
        rw [e5]
        exact h4
  | _ => exact ⟨_, .inl rfl, h⟩

theorem numOp_plain {op : BinOp} {kd : IntKind} {a b : Int} {s : SV} (h : numOp op kd a b = some s) : ∀ kd' i, s ≠ .sym kd' i := by
  intro kd' i e
  subst e
  unfold numOp at h
  split at h <;> first | (cases h; done) | (split at h <;> cases h)

noncomputable def rngOrc2 (l : List OEnt) (cs : List CEnt) : Orc RR :=
  ⟨fun op kd i b k => (rngOrc l cs).bin op kd i b fun s => plainR s k, (rngOrc l cs).nib, fun kd i k => (rngOrc l cs).conv kd i fun s => plainR s k, (rngOrc l cs).force⟩
theorem rngOrc2_ok {raw : Nat → Int} {m : Nat → Nat} {l : List OEnt} {cs : List CEnt} (hl : ∀ e ∈ l, ∃ s, numOp e.op e.kd (valOf raw m e.i) e.b = some s ∧ SvEq (valOf raw m) e.s s) (hc : ∀ e ∈ cs, SvEq (valOf raw m) e.s (.int e.kd (e.kd.wrap (valOf raw m e.i)))) : OrcOk (TT m) (valOf raw m) (rngOrc2 l cs) := by
  have h0 := rngOrc_ok hl hc
  have turn : ∀ {s s' t : SV}, SvEq (valOf raw m) s s' → (∀ kd i, s' ≠ .sym kd i) → (t = s ∨ ∃ kd i, s = .sym kd i ∧ t = .int kd (valOf raw m i)) → SvEq (valOf raw m) t s' := by
    intro s s' t h1 h2 h3
    rcases h3 with rfl | ⟨kd, i, rfl, rfl⟩
    · exact h1
    · rcases h1 with rfl | ⟨kd', i', e1, rfl⟩
      · exact (h2 kd i rfl).elim
      · cases e1; exact .inl rfl
  refine ⟨fun op kd i b k h => ?_, h0.nib, fun kd i k h => ?_, h0.force⟩
  · obtain ⟨s, s', h1, h2, h3⟩ := h0.bin op kd i b _ h
    obtain ⟨t, h4, h5⟩ := plainR_elim (raw := raw) h3
    exact ⟨t, s', h1, turn h2 (numOp_plain h1) h4, h5⟩
  · obtain ⟨s, h2, h3⟩ := h0.conv kd i _ h
    obtain ⟨t, h4, h5⟩ := plainR_elim (raw := raw) h3
    exact ⟨t, turn h2 (fun _ _ e => by cases e) h4, h5⟩
end Go.Ev
