/-
  Laws over numbers behind a mask or a remainder: the numbers are split where they are compared.
-/
import Derived.Test.YtmnkmmfjekcinaaGreatEvE7
set_option linter.unusedVariables false
set_option linter.unusedSimpArgs false
namespace Go.Ev

/-- The base numbers, one behind the other. -/
def mOf (l : List Nat) (j : Nat) : Nat := (l[j]?).getD 0
def rawOf (l : List Int) (i : Nat) : Int := (l[i]?).getD 0
abbrev SB (j : Nat) : SV := .sym .i64 (16016 + j)

theorem valOf_raw {raw : Nat → Int} {m : Nat → Nat} {i : Nat} (h : i < 16) : valOf raw m i = raw i := by unfold valOf; rw [if_pos h]
theorem valOf_base {raw : Nat → Int} {m : Nat → Nat} {j : Nat} (h : j < 16) : valOf raw m (16016 + j) = m j := by
  unfold valOf
  rw [if_neg (by omega)]
  have e1 : (16016 + j) % 16 = j := by omega
  have e2 : (16016 + j) / 16 = 1001 := by omega
  rw [e1, e2]
  omega
theorem ent_ok {raw : Nat → Int} {m : Nat → Nat} {op : BinOp} {kd : IntKind} {i j : Nat} {b : Int} (hi : i < 16) (hj : j < 16) (h : numOp op kd (raw i) b = some (.int kd (m j))) : ∃ s, numOp op kd (valOf raw m i) b = some s ∧ SvEq (valOf raw m) (.sym kd (16016 + j)) s := by
  rw [valOf_raw hi]
  exact ⟨_, h, .inr ⟨kd, _, rfl, by rw [valOf_base hj]⟩⟩

/-- As a whole number of another kind, and its remainder. -/
theorem rem_cases (a : Int) (k : Nat) (hk : 0 < k) : ∃ r : Nat, r < k ∧ numOp .rem .u64 (IntKind.u64.wrap a) (k : Int) = some (.int .u64 (r : Int)) := by
  have h0 : 0 ≤ IntKind.u64.wrap a := by
    simp only [IntKind.wrap, IntKind.bits, IntKind.signed]
    simp
    omega
  refine ⟨((IntKind.u64.wrap a).tmod k).toNat, ?_, ?_⟩
  · have h1 : (IntKind.u64.wrap a).tmod k < k := Int.tmod_lt_of_pos _ (by omega)
    have h2 : 0 ≤ (IntKind.u64.wrap a).tmod k := Int.tmod_nonneg _ h0
    omega
  · have h2 : 0 ≤ (IntKind.u64.wrap a).tmod k := Int.tmod_nonneg _ h0
    have h3 : ((((IntKind.u64.wrap a).tmod k).toNat : Nat) : Int) = (IntKind.u64.wrap a).tmod k := by omega
    rw [h3]
    show (if (k : Int) = 0 then none else some (SV.int .u64 ((IntKind.u64.wrap a).tmod k))) = _
    rw [if_neg (by omega)]

theorem TT_of {m : Nat → Nat} {pc : PC} {r : RR} (hp : PcOk m pc) (h : r pc = true) : TT m r := ⟨pc, hp, h⟩
/-- Each base number lies in its range. -/
theorem pcOk_of {l : List Nat} : ∀ {pc : PC}, pc.length ≤ l.length → (∀ (j : Nat) (p : Nat × Nat), pc[j]? = some p → ∀ x : Nat, l[j]? = some x → p.1 ≤ x ∧ x ≤ p.2) → PcOk (mOf l) pc := by
  intro pc hl h j p hj
  have h1 : j < pc.length := (List.getElem?_eq_some_iff.1 hj).1
  have h2 : j < l.length := by omega
  have := h j p hj _ (List.getElem?_eq_getElem h2)
  unfold mOf
  rw [List.getElem?_eq_getElem h2, Option.getD_some]
  exact this
theorem pcNil {m : Nat → Nat} : PcOk m [] := fun j p h => by simp at h
theorem pcCons {x a b : Nat} {l : List Nat} {pc : PC} (h1 : a ≤ x) (h2 : x ≤ b) (h : PcOk (mOf l) pc) : PcOk (mOf (x :: l)) ((a, b) :: pc) := by
  intro j p hj
  cases j with
  | zero => simp at hj; subst hj; exact ⟨h1, h2⟩
  | succ j => exact h j p (by simpa using hj)
end Go.Ev
