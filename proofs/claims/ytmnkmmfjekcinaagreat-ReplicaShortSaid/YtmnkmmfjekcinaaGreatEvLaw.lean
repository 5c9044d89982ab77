/-
  Laws: constant contracts, and numbers of which an operation with a number is known.
-/
import Derived.Test.YtmnkmmfjekcinaaGreatEvTop3
set_option linter.unusedVariables false
set_option linter.unusedSimpArgs false
namespace Go.Ev

theorem Rel.grow {val : Nat → Int} {ρ ρ0 : Rho} {fz : Fz} {mu : St} {w w' : World} (hr : Rel val ρ fz mu w) (hf : Fr ρ0 [] w w') : Rel val ρ fz mu w' := by
  have kp : ∀ b, b < w.heap.size → w'.heap[b]? = w.heap[b]? := fun b hb => hf.keep b hb fun id p hl => (by cases hl)
  exact ⟨fun id cs hl => (hr.rf id cs hl).mono (fun _ _ h => h) hf.shape fun p hp => kp _ ((hr.rf id cs hl).lt hp), fun id cs hl => (hr.rm id cs hl).mono (fun _ _ h => h) hf.shape fun p hp => kp _ ((hr.rm id cs hl).lt hp), hr.dm, hr.dj⟩
theorem Fr.any {ρ ρ0 : Rho} {mu : St} {w w' : World} (hf : Fr ρ0 [] w w') : Fr ρ mu w w' :=
  ⟨hf.os, hf.tape, hf.output, hf.size, fun b hb _ => hf.keep b hb fun id p hl => (by cases hl), hf.shape, hf.frozen⟩

section
variable {R : Type} {T : R → Prop} {z : R} {P : Program} {val : Nat → Int}

/-- It returns true, and leaves the elder world alone. -/
def SaysTrue (P : Program) (f : Nat) : Prop := ∀ w, Calls P f #[] w fun e w' => e = .returned (.bool true) ∧ Fr (fun _ => none) [] w w'
noncomputable def trueK (z : R) : Contract R := fun args _ mu n k => List.rec (motive := fun _ => R) (k (.one (.bool true)) mu n) (fun _ _ _ => z) args
theorem trueK_ok (hz : ¬ T z) {f : Nat} (hb : hasBody P f = true) (h : SaysTrue P f) : ContractOk T P val f (trueK z) := by
  intro args fz mu n k ht
  cases args with
  | cons _ _ => exact (hz ht).elim
  | nil =>
    refine ⟨_, _, _, ht, hb, Nat.le_refl _, fun ρ w xs hr hx _ => ?_⟩
    cases xs with
    | cons _ _ => exact hx.elim
    | nil =>
      refine (h w).mono fun e w' ⟨he, hf⟩ => ⟨_, he, ρ, Ext.refl _ _ _, hr.grow hf, rfl, hf.any, fun id p hl hp => .inr ⟨id, p, hl, hp, rfl⟩, NewI.refl⟩
end

/-- Nothing is known. -/
def noOrc {R : Type} (z : R) : Orc R := ⟨fun _ _ _ _ _ => z, fun _ _ _ _ _ => z, fun _ _ _ => z, fun _ _ => z⟩
theorem noOrc_ok {R : Type} {T : R → Prop} {z : R} (hz : ¬ T z) (val : Nat → Int) : OrcOk T val (noOrc z) := ⟨fun _ _ _ _ _ h => (hz h).elim, fun _ _ _ _ _ h => (hz h).elim, fun _ _ _ h => (hz h).elim, fun _ _ h => (hz h).elim⟩

/-- What is known: of an operation with a number; of a conversion. -/
structure OEnt where
  op : BinOp
  kd : IntKind
  i : Nat
  b : Int
  s : SV
structure CEnt where
  kd : IntKind
  i : Nat
  s : SV
noncomputable def lookB (l : List OEnt) (op : BinOp) (kd : IntKind) (i : Nat) (b : Int) : Option SV :=
  List.rec (motive := fun _ => Option SV) none (fun e _ ih => cond (decide (e.op = op) && (IntKind.eqb e.kd kd && (Nat.beq e.i i && eqI e.b b))) (some e.s) ih) l
noncomputable def lookC (l : List CEnt) (kd : IntKind) (i : Nat) : Option SV :=
  List.rec (motive := fun _ => Option SV) none (fun e _ ih => cond (IntKind.eqb e.kd kd && Nat.beq e.i i) (some e.s) ih) l
theorem lookB_ok {val : Nat → Int} {l : List OEnt} (hl : ∀ e ∈ l, ∃ s, numOp e.op e.kd (val e.i) e.b = some s ∧ SvEq val e.s s) {op : BinOp} {kd : IntKind} {i : Nat} {b : Int} {s : SV} (h : lookB l op kd i b = some s) : ∃ s', numOp op kd (val i) b = some s' ∧ SvEq val s s' := by
  induction l with
  | nil => cases h
  | cons e r ih =>
    have h2 : cond (decide (e.op = op) && (IntKind.eqb e.kd kd && (Nat.beq e.i i && eqI e.b b))) (some e.s) (lookB r op kd i b) = some s := h
    cases hc' : (decide (e.op = op) && (IntKind.eqb e.kd kd && (Nat.beq e.i i && eqI e.b b))) with
    | false => rw [hc'] at h2; exact ih (fun e he => hl e (by simp [he])) h2
    | true =>
      rw [hc'] at h2
      simp only [Bool.and_eq_true, decide_eq_true_eq, eqI_eq] at hc'
      obtain ⟨e1, e2, e3, e4⟩ := hc'
      have := hl e (by simp)
      rw [e1, eqb_eq e2, beq_yes e3, e4] at this
      have h3 : e.s = s := by simpa using h2
      rw [← h3]; exact this
theorem lookC_ok {val : Nat → Int} {l : List CEnt} (hl : ∀ e ∈ l, SvEq val e.s (.int e.kd (e.kd.wrap (val e.i)))) {kd : IntKind} {i : Nat} {s : SV} (h : lookC l kd i = some s) : SvEq val s (.int kd (kd.wrap (val i))) := by
  induction l with
  | nil => cases h
  | cons e r ih =>
    have h2 : cond (IntKind.eqb e.kd kd && Nat.beq e.i i) (some e.s) (lookC r kd i) = some s := h
    cases hc' : (IntKind.eqb e.kd kd && Nat.beq e.i i) with
    | false => rw [hc'] at h2; exact ih (fun e he => hl e (by simp [he])) h2
    | true =>
      rw [hc'] at h2
      simp only [Bool.and_eq_true] at hc'
      have := hl e (by simp)
      rw [eqb_eq hc'.1, beq_yes hc'.2] at this
      have h3 : e.s = s := by simpa using h2
      rw [← h3]; exact this

/-- A number behind a mask of ones: one of few. -/
theorem mask_cases (a : Int) (m : Nat) (hm : m < 2 ^ 62) : ∃ k : Nat, k ≤ m ∧ numOp .and .i64 a (m : Int) = some (.int .i64 (k : Int)) := by
  refine ⟨(BitVec.ofInt 64 a &&& BitVec.ofInt 64 (m : Int)).toNat, ?_, ?_⟩
  · rw [BitVec.toNat_and]
    refine Nat.le_trans Nat.and_le_right ?_
    simp [BitVec.toNat_ofInt]
    omega
  · have hle : (BitVec.ofInt 64 a &&& BitVec.ofInt 64 (m : Int)).toNat ≤ m := by
      rw [BitVec.toNat_and]
      refine Nat.le_trans Nat.and_le_right ?_
      simp [BitVec.toNat_ofInt]
      omega
    have e : numOp .and .i64 a (m : Int) = some (.int .i64 (IntKind.i64.wrap ((BitVec.ofInt 64 a &&& BitVec.ofInt 64 (m : Int)).toNat : Int))) := rfl
    rw [e]
    generalize (BitVec.ofInt 64 a &&& BitVec.ofInt 64 (m : Int)).toNat = k at hle
    congr 2
    simp [IntKind.wrap, IntKind.bits, IntKind.signed]
    omega
end Go.Ev
