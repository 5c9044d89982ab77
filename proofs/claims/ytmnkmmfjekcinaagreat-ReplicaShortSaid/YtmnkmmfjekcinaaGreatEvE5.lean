/-
  Code as a term, its temporaries bound or in a frame: it is the evaluator's code. Printed by e5.py.
-/
import Derived.Test.YtmnkmmfjekcinaaGreatEvE3
import Derived.Test.YtmnkmmfjekcinaaGreatEvE4
set_option linter.unusedVariables false
set_option linter.unusedSimpArgs false
namespace Go.Ev

noncomputable def idxOf (l : List Nat) (t : Nat) : Nat → Option Nat := List.rec (motive := fun _ => Nat → Option Nat) (fun _ => none) (fun a _ ih j => Bool.rec (motive := fun _ => Option Nat) (ih (Nat.succ j)) (some j) (Nat.beq a t)) l
noncomputable def gE (q r : S16) : GT := S16.rec (motive := fun _ => S16 → GT)
  (fun r => S16.rec (motive := fun _ => GT) e0_0 e0_1 e0_2 e0_3 e0_4 e0_5 e0_6 e0_7 e0_8 e0_9 e0_10 e0_11 e0_12 e0_13 e0_14 e0_15 r)
  (fun r => S16.rec (motive := fun _ => GT) e1_0 e1_1 e1_2 e1_3 e1_4 e1_5 e1_6 e1_7 e1_8 e1_9 e1_10 e1_11 e1_12 e1_13 e1_14 e1_15 r)
  (fun r => S16.rec (motive := fun _ => GT) e2_0 e2_1 e2_2 e2_3 e2_4 e2_5 e2_6 e2_7 e2_8 e2_9 e2_10 e2_11 e2_12 e2_13 e2_14 e2_15 r)
  (fun r => S16.rec (motive := fun _ => GT) e3_0 e3_1 e3_2 e3_3 e3_4 e3_5 e3_6 e3_7 e3_8 e3_9 e3_10 e3_11 e3_12 e3_13 e3_14 e3_15 r)
  (fun r => S16.rec (motive := fun _ => GT) e4_0 e4_1 e4_2 e4_3 e4_4 e4_5 e4_6 e4_7 e4_8 e4_9 e4_10 e4_11 e4_12 e4_13 e4_14 e4_15 r)
  (fun r => S16.rec (motive := fun _ => GT) e5_0 e5_1 e5_2 e5_3 e5_4 e5_5 e5_6 e5_7 e5_8 e5_9 e5_10 e5_11 e5_12 e5_13 e5_14 e5_15 r)
  (fun r => S16.rec (motive := fun _ => GT) e6_0 e6_1 e6_2 e6_3 e6_4 e6_5 e6_6 e6_7 e6_8 e6_9 e6_10 e6_11 e6_12 e6_13 e6_14 e6_15 r)
  (fun r => S16.rec (motive := fun _ => GT) e7_0 e7_1 e7_2 e7_3 e7_4 e7_5 e7_6 e7_7 e7_8 e7_9 e7_10 e7_11 e7_12 e7_13 e7_14 e7_15 r)
  (fun r => S16.rec (motive := fun _ => GT) e8_0 e8_1 e8_2 e8_3 e8_4 e8_5 e8_6 e8_7 e8_8 e8_9 e8_10 e8_11 e8_12 e8_13 e8_14 e8_15 r)
  (fun r => S16.rec (motive := fun _ => GT) e9_0 e9_1 e9_2 e9_3 e9_4 e9_5 e9_6 e9_7 e9_8 e9_9 e9_10 e9_11 e9_12 e9_13 e9_14 e9_15 r)
  (fun r => S16.rec (motive := fun _ => GT) e10_0 e10_1 e10_2 e10_3 e10_4 e10_5 e10_6 e10_7 e10_8 e10_9 e10_10 e10_11 e10_12 e10_13 e10_14 e10_15 r)
  (fun r => S16.rec (motive := fun _ => GT) e11_0 e11_1 e11_2 e11_3 e11_4 e11_5 e11_6 e11_7 e11_8 e11_9 e11_10 e11_11 e11_12 e11_13 e11_14 e11_15 r)
  (fun r => S16.rec (motive := fun _ => GT) e12_0 e12_1 e12_2 e12_3 e12_4 e12_5 e12_6 e12_7 e12_8 e12_9 e12_10 e12_11 e12_12 e12_13 e12_14 e12_15 r)
  (fun r => S16.rec (motive := fun _ => GT) e13_0 e13_1 e13_2 e13_3 e13_4 e13_5 e13_6 e13_7 e13_8 e13_9 e13_10 e13_11 e13_12 e13_13 e13_14 e13_15 r)
  (fun r => S16.rec (motive := fun _ => GT) e14_0 e14_1 e14_2 e14_3 e14_4 e14_5 e14_6 e14_7 e14_8 e14_9 e14_10 e14_11 e14_12 e14_13 e14_14 e14_15 r)
  (fun r => S16.rec (motive := fun _ => GT) e15_0 e15_1 e15_2 e15_3 e15_4 e15_5 e15_6 e15_7 e15_8 e15_9 e15_10 e15_11 e15_12 e15_13 e15_14 e15_15 r)
  q r
noncomputable def sE (q r : S16) : ST := S16.rec (motive := fun _ => S16 → ST)
  (fun r => S16.rec (motive := fun _ => ST) se0_0 se0_1 se0_2 se0_3 se0_4 se0_5 se0_6 se0_7 se0_8 se0_9 se0_10 se0_11 se0_12 se0_13 se0_14 se0_15 r)
  (fun r => S16.rec (motive := fun _ => ST) se1_0 se1_1 se1_2 se1_3 se1_4 se1_5 se1_6 se1_7 se1_8 se1_9 se1_10 se1_11 se1_12 se1_13 se1_14 se1_15 r)
  (fun r => S16.rec (motive := fun _ => ST) se2_0 se2_1 se2_2 se2_3 se2_4 se2_5 se2_6 se2_7 se2_8 se2_9 se2_10 se2_11 se2_12 se2_13 se2_14 se2_15 r)
  (fun r => S16.rec (motive := fun _ => ST) se3_0 se3_1 se3_2 se3_3 se3_4 se3_5 se3_6 se3_7 se3_8 se3_9 se3_10 se3_11 se3_12 se3_13 se3_14 se3_15 r)
  (fun r => S16.rec (motive := fun _ => ST) se4_0 se4_1 se4_2 se4_3 se4_4 se4_5 se4_6 se4_7 se4_8 se4_9 se4_10 se4_11 se4_12 se4_13 se4_14 se4_15 r)
  (fun r => S16.rec (motive := fun _ => ST) se5_0 se5_1 se5_2 se5_3 se5_4 se5_5 se5_6 se5_7 se5_8 se5_9 se5_10 se5_11 se5_12 se5_13 se5_14 se5_15 r)
  (fun r => S16.rec (motive := fun _ => ST) se6_0 se6_1 se6_2 se6_3 se6_4 se6_5 se6_6 se6_7 se6_8 se6_9 se6_10 se6_11 se6_12 se6_13 se6_14 se6_15 r)
  (fun r => S16.rec (motive := fun _ => ST) se7_0 se7_1 se7_2 se7_3 se7_4 se7_5 se7_6 se7_7 se7_8 se7_9 se7_10 se7_11 se7_12 se7_13 se7_14 se7_15 r)
  (fun r => S16.rec (motive := fun _ => ST) se8_0 se8_1 se8_2 se8_3 se8_4 se8_5 se8_6 se8_7 se8_8 se8_9 se8_10 se8_11 se8_12 se8_13 se8_14 se8_15 r)
  (fun r => S16.rec (motive := fun _ => ST) se9_0 se9_1 se9_2 se9_3 se9_4 se9_5 se9_6 se9_7 se9_8 se9_9 se9_10 se9_11 se9_12 se9_13 se9_14 se9_15 r)
  (fun r => S16.rec (motive := fun _ => ST) se10_0 se10_1 se10_2 se10_3 se10_4 se10_5 se10_6 se10_7 se10_8 se10_9 se10_10 se10_11 se10_12 se10_13 se10_14 se10_15 r)
  (fun r => S16.rec (motive := fun _ => ST) se11_0 se11_1 se11_2 se11_3 se11_4 se11_5 se11_6 se11_7 se11_8 se11_9 se11_10 se11_11 se11_12 se11_13 se11_14 se11_15 r)
  (fun r => S16.rec (motive := fun _ => ST) se12_0 se12_1 se12_2 se12_3 se12_4 se12_5 se12_6 se12_7 se12_8 se12_9 se12_10 se12_11 se12_12 se12_13 se12_14 se12_15 r)
  (fun r => S16.rec (motive := fun _ => ST) se13_0 se13_1 se13_2 se13_3 se13_4 se13_5 se13_6 se13_7 se13_8 se13_9 se13_10 se13_11 se13_12 se13_13 se13_14 se13_15 r)
  (fun r => S16.rec (motive := fun _ => ST) se14_0 se14_1 se14_2 se14_3 se14_4 se14_5 se14_6 se14_7 se14_8 se14_9 se14_10 se14_11 se14_12 se14_13 se14_14 se14_15 r)
  (fun r => S16.rec (motive := fun _ => ST) se15_0 se15_1 se15_2 se15_3 se15_4 se15_5 se15_6 se15_7 se15_8 se15_9 se15_10 se15_11 se15_12 se15_13 se15_14 se15_15 r)
  q r
theorem gE_eq (q r : S16) (a0 a1 a2 a3 a4 a5 a6 a7 : AV) (x : T2) : gE q r (.mk a0 a1 a2 a3 a4 a5 a6 a7 x) = get2 q r x := by cases q <;> cases r <;> rfl
theorem sE_eq (q r : S16) (a0 a1 a2 a3 a4 a5 a6 a7 : AV) (x : T2) (v : AV) (k : Fm → RR) : sE q r (.mk a0 a1 a2 a3 a4 a5 a6 a7 x) v k = set2 q r x v fun x => k (.mk a0 a1 a2 a3 a4 a5 a6 a7 x) := by cases q <;> cases r <;> rfl
noncomputable def gAt : Nat → GT
  | 0 => d0
  | 1 => d1
  | 2 => d2
  | 3 => d3
  | 4 => d4
  | 5 => d5
  | 6 => d6
  | 7 => d7
  | j + 8 => gE (S16.of (j / 16)) (S16.of (j % 16))
noncomputable def sAt : Nat → ST
  | 0 => sd0
  | 1 => sd1
  | 2 => sd2
  | 3 => sd3
  | 4 => sd4
  | 5 => sd5
  | 6 => sd6
  | 7 => sd7
  | j + 8 => sE (S16.of (j / 16)) (S16.of (j % 16))
noncomputable def setP : Nat → Fm → AV → Fm
  | 0, .mk _ a1 a2 a3 a4 a5 a6 a7 x, v => .mk v a1 a2 a3 a4 a5 a6 a7 x
  | 1, .mk a0 _ a2 a3 a4 a5 a6 a7 x, v => .mk a0 v a2 a3 a4 a5 a6 a7 x
  | 2, .mk a0 a1 _ a3 a4 a5 a6 a7 x, v => .mk a0 a1 v a3 a4 a5 a6 a7 x
  | 3, .mk a0 a1 a2 _ a4 a5 a6 a7 x, v => .mk a0 a1 a2 v a4 a5 a6 a7 x
  | 4, .mk a0 a1 a2 a3 _ a5 a6 a7 x, v => .mk a0 a1 a2 a3 v a5 a6 a7 x
  | 5, .mk a0 a1 a2 a3 a4 _ a6 a7 x, v => .mk a0 a1 a2 a3 a4 v a6 a7 x
  | 6, .mk a0 a1 a2 a3 a4 a5 _ a7 x, v => .mk a0 a1 a2 a3 a4 a5 v a7 x
  | 7, .mk a0 a1 a2 a3 a4 a5 a6 _ x, v => .mk a0 a1 a2 a3 a4 a5 a6 v x
  | j + 8, .mk a0 a1 a2 a3 a4 a5 a6 a7 x, v => .mk a0 a1 a2 a3 a4 a5 a6 a7 (set2p (S16.of (j / 16)) (S16.of (j % 16)) x v)
noncomputable def initAt : Nat → IF
  | 0 => init0
  | 1 => init1
  | 2 => init2
  | 3 => init3
  | 4 => init4
  | 5 => init5
  | 6 => init6
  | 7 => init7
  | 8 => init8
  | _ => fun _ _ => zz
noncomputable def frm (l : List AV) : Fm := .mk ((l[0]?).getD (.one .un)) ((l[1]?).getD (.one .un)) ((l[2]?).getD (.one .un)) ((l[3]?).getD (.one .un)) ((l[4]?).getD (.one .un)) ((l[5]?).getD (.one .un)) ((l[6]?).getD (.one .un)) ((l[7]?).getD (.one .un)) t2U

theorem sAt_eq (j : Nat) (t : Fm) (v : AV) (k : Fm → RR) : sAt j t v k = k (setP j t v) := by
  obtain ⟨a0, a1, a2, a3, a4, a5, a6, a7, x⟩ := t
  unfold sAt setP
  split <;> first | rfl | (rw [sE_eq, set2_eq])
theorem get2_same (q r : S16) (x : T2) (v : AV) : get2 q r (set2p q r x v) = v := by
  unfold get2 set2p
  rw [tg_same, rg_same]
theorem get2_ne {q r q' r' : S16} (h : ¬ (q = q' ∧ r = r')) (x : T2) (v : AV) : get2 q r (set2p q' r' x v) = get2 q r x := by
  unfold get2 set2p
  by_cases hq : q = q'
  · subst hq
    rw [tg_same, rg_ne (fun hr => h ⟨rfl, hr⟩)]
  · rw [tg_ne hq]
theorem gAt_setP {i j : Nat} (hi : i < 264) (hj : j < 264) (t : Fm) (v : AV) : gAt i (setP j t v) = if i = j then v else gAt i t := by
  obtain ⟨a0, a1, a2, a3, a4, a5, a6, a7, x⟩ := t
  have big : ∀ {a b : Nat}, a < 256 → b < 256 → a ≠ b → ¬ (S16.of (a / 16) = S16.of (b / 16) ∧ S16.of (a % 16) = S16.of (b % 16)) := by
    intro a b ha hb hne ⟨h1, h2⟩
    have e1 : a / 16 = b / 16 := by
      have := congrArg S16.n h1
      rwa [S16.n_of (by omega), S16.n_of (by omega)] at this
    have e2 : a % 16 = b % 16 := by
      have := congrArg S16.n h2
      rwa [S16.n_of (by omega), S16.n_of (by omega)] at this
    omega
  rcases (show i = 0 ∨ i = 1 ∨ i = 2 ∨ i = 3 ∨ i = 4 ∨ i = 5 ∨ i = 6 ∨ i = 7 ∨ ∃ a, i = a + 8 from by
    rcases Nat.lt_or_ge i 8 with h | h
    · omega
    · have : ∃ a, i = a + 8 := ⟨i - 8, by omega⟩
      simp [this]) with rfl | rfl | rfl | rfl | rfl | rfl | rfl | rfl | ⟨a, rfl⟩ <;>
  rcases (show j = 0 ∨ j = 1 ∨ j = 2 ∨ j = 3 ∨ j = 4 ∨ j = 5 ∨ j = 6 ∨ j = 7 ∨ ∃ b, j = b + 8 from by
    rcases Nat.lt_or_ge j 8 with h | h
    · omega
    · have : ∃ a, j = a + 8 := ⟨j - 8, by omega⟩
      simp [this]) with rfl | rfl | rfl | rfl | rfl | rfl | rfl | rfl | ⟨b, rfl⟩ <;>
  first
  | rfl
  | (rw [if_neg (by omega)]; rfl)
  | (show gE (S16.of (a / 16)) (S16.of (a % 16)) (.mk a0 a1 a2 a3 a4 a5 a6 a7 (set2p (S16.of (b / 16)) (S16.of (b % 16)) x v)) = _
     rw [gE_eq]
     by_cases e : a = b
     · subst e; rw [get2_same]; simp
     · rw [get2_ne (big (by omega) (by omega) e), if_neg (by omega)]; exact (gE_eq _ _ _ _ _ _ _ _ _ _ _).symm)
  | (rw [if_neg (by omega)]; exact (gE_eq _ _ _ _ _ _ _ _ _ _ _).trans (gE_eq _ _ _ _ _ _ _ _ _ _ _).symm)

theorem get2_t2U (q r : S16) : get2 q r t2U = .one .un := by cases q <;> cases r <;> rfl
theorem gAt_frm {j : Nat} {l : List AV} (hl : l.length ≤ 8) : gAt j (frm l) = (l[j]?).getD (.one .un) := by
  rcases (show j = 0 ∨ j = 1 ∨ j = 2 ∨ j = 3 ∨ j = 4 ∨ j = 5 ∨ j = 6 ∨ j = 7 ∨ ∃ a, j = a + 8 from by
    rcases Nat.lt_or_ge j 8 with h | h
    · omega
    · have : ∃ a, j = a + 8 := ⟨j - 8, by omega⟩
      simp [this]) with rfl | rfl | rfl | rfl | rfl | rfl | rfl | rfl | ⟨a, rfl⟩ <;> first
  | rfl
  | (rw [List.getElem?_eq_none (by omega)]; exact (gE_eq _ _ _ _ _ _ _ _ _ _ _).trans (get2_t2U _ _))
theorem initAt_elim {T : RR → Prop} (hz : ¬ T zz) {m : Nat} {l : List AV} {k : Fm → RR} (h : T (initAt m l k)) : l.length = m ∧ m ≤ 8 ∧ T (k (frm l)) := by
  rcases (show m = 0 ∨ m = 1 ∨ m = 2 ∨ m = 3 ∨ m = 4 ∨ m = 5 ∨ m = 6 ∨ m = 7 ∨ m = 8 ∨ 8 < m by omega) with rfl | rfl | rfl | rfl | rfl | rfl | rfl | rfl | rfl | hm
  · match l, h with
    | [], h => exact ⟨rfl, by omega, h⟩
    | _ :: _, h => exact (hz h).elim
  · match l, h with
    | [], h => exact (hz h).elim
    | [_], h => exact ⟨rfl, by omega, h⟩
    | _ :: _ :: _, h => exact (hz h).elim
  · match l, h with
    | [], h => exact (hz h).elim
    | [_], h => exact (hz h).elim
    | [_, _], h => exact ⟨rfl, by omega, h⟩
    | _ :: _ :: _ :: _, h => exact (hz h).elim
  · match l, h with
    | [], h => exact (hz h).elim
    | [_], h => exact (hz h).elim
    | [_, _], h => exact (hz h).elim
    | [_, _, _], h => exact ⟨rfl, by omega, h⟩
    | _ :: _ :: _ :: _ :: _, h => exact (hz h).elim
  · match l, h with
    | [], h => exact (hz h).elim
    | [_], h => exact (hz h).elim
    | [_, _], h => exact (hz h).elim
    | [_, _, _], h => exact (hz h).elim
    | [_, _, _, _], h => exact ⟨rfl, by omega, h⟩
    | _ :: _ :: _ :: _ :: _ :: _, h => exact (hz h).elim
  · match l, h with
    | [], h => exact (hz h).elim
    | [_], h => exact (hz h).elim
    | [_, _], h => exact (hz h).elim
    | [_, _, _], h => exact (hz h).elim
    | [_, _, _, _], h => exact (hz h).elim
    | [_, _, _, _, _], h => exact ⟨rfl, by omega, h⟩
    | _ :: _ :: _ :: _ :: _ :: _ :: _, h => exact (hz h).elim
  · match l, h with
    | [], h => exact (hz h).elim
    | [_], h => exact (hz h).elim
    | [_, _], h => exact (hz h).elim
    | [_, _, _], h => exact (hz h).elim
    | [_, _, _, _], h => exact (hz h).elim
    | [_, _, _, _, _], h => exact (hz h).elim
    | [_, _, _, _, _, _], h => exact ⟨rfl, by omega, h⟩
    | _ :: _ :: _ :: _ :: _ :: _ :: _ :: _, h => exact (hz h).elim
  · match l, h with
    | [], h => exact (hz h).elim
    | [_], h => exact (hz h).elim
    | [_, _], h => exact (hz h).elim
    | [_, _, _], h => exact (hz h).elim
    | [_, _, _, _], h => exact (hz h).elim
    | [_, _, _, _, _], h => exact (hz h).elim
    | [_, _, _, _, _, _], h => exact (hz h).elim
    | [_, _, _, _, _, _, _], h => exact ⟨rfl, by omega, h⟩
    | _ :: _ :: _ :: _ :: _ :: _ :: _ :: _ :: _, h => exact (hz h).elim
  · match l, h with
    | [], h => exact (hz h).elim
    | [_], h => exact (hz h).elim
    | [_, _], h => exact (hz h).elim
    | [_, _, _], h => exact (hz h).elim
    | [_, _, _, _], h => exact (hz h).elim
    | [_, _, _, _, _], h => exact (hz h).elim
    | [_, _, _, _, _, _], h => exact (hz h).elim
    | [_, _, _, _, _, _, _], h => exact (hz h).elim
    | [_, _, _, _, _, _, _, _], h => exact ⟨rfl, by omega, h⟩
    | _ :: _ :: _ :: _ :: _ :: _ :: _ :: _ :: _ :: _, h => exact (hz h).elim
  · exfalso
    apply hz
    have : initAt m l k = zz := by
      unfold initAt
      split <;> first | omega | rfl
    rwa [this] at h

/-- A frame as an environment. -/
noncomputable def env0 (kept : List Nat) (t : Fm) : Env := fun i => Option.rec (motive := fun _ => EV) (.pl (.one .un)) (fun j => .fr (gAt j t)) (idxOf kept i 0)
noncomputable def kpOf (kept : List Nat) : Nat → Bool := fun i => Option.rec (motive := fun _ => Bool) false (fun _ => true) (idxOf kept i 0)
noncomputable def valE (e : Env) (d : Nat) : AV := EV.rec (motive := fun _ => AV) (fun v => v) (fun v => v) (e d)
noncomputable def storK (kept : List Nat) (e : Env) (ds : List Nat) : Fm → (Fm → RR) → RR := (fun (_ : Unit) =>
  List.rec (motive := fun _ => Fm → (Fm → RR) → RR) (fun t k => k t) (fun d _ ih t k => Option.rec (motive := fun _ => RR) (ih t k) (fun j => sAt j t (valE e d) fun t => ih t k) (idxOf kept d 0)) ds) tall
noncomputable def dsO (o : AOper) (ds : List Nat) : List Nat := AOper.rec (motive := fun _ => List Nat) (fun dst _ _ _ _ => Option.rec (motive := fun _ => List Nat) ds (fun p => Prod.rec (motive := fun _ => List Nat) (fun q r => Nat.add (Nat.mul 16 q) r :: ds) p) dst) o
noncomputable def memN (a : Nat) (l : List Nat) : Bool := List.rec (motive := fun _ => Bool) false (fun b _ ih => Bool.rec (motive := fun _ => Bool) ih true (Nat.beq a b)) l
noncomputable def nub (l : List Nat) : List Nat := List.rec (motive := fun _ => List Nat) [] (fun a _ ih => Bool.rec (motive := fun _ => List Nat) (a :: ih) ih (memN a ih)) l

section
variable (kept : List Nat) (orc : Orc RR) (call : CallT RR) (fz : Fz)
noncomputable def stepE (o : AOper) (e : Env) (mu : St) (n : Nat) (k : Env → St → Nat → RR) : RR := (fun (_ : Unit) => AOper.rec (motive := fun _ => RR)
  (fun dst op g mode _ => Option.rec (motive := fun _ => RR) (eop orc call fz (Nat.beq mode 1) op e mu n fun v mu n => k (updD e dst v) mu n)
    (fun p => Prod.rec (motive := fun _ => RR) (fun q p => Prod.rec (motive := fun _ => RR) (fun r w => gd (atV e q r) w (fun J => eop orc call fz (Nat.beq mode 1) op e mu n J) mu n fun v mu n => k (updD e dst v) mu n) p) p) g) o) tall
/-- In their order; each ten the frame is laid anew. -/
noncomputable def runE (ops : List AOper) : Nat → List Nat → Env → Fm → St → Nat → (List Nat → Env → Fm → St → Nat → RR) → RR := (fun (_ : Unit) =>
  List.rec (motive := fun _ => Nat → List Nat → Env → Fm → St → Nat → (List Nat → Env → Fm → St → Nat → RR) → RR) (fun _ ds e t mu n k => k ds e t mu n)
    (fun o _ ih c ds e t mu n k => Nat.rec (motive := fun _ => RR) (storK kept e (nub ds) t fun t => stepE orc call fz o (env0 kept t) mu n fun e mu n => ih 9 (dsO o []) e t mu n k)
      (fun c _ => stepE orc call fz o e mu n fun e mu n => ih c (dsO o ds) e t mu n k) c) ops) tall
noncomputable def ropE (i : Nat) (op : AOp) (mode : Nat) (anc : List Nat) (e : Env) (mu : St) (ad : List St) (n : Nat) (J : AV → St → List St → Nat → RR) : RR := (fun (_ : Unit) => Nat.rec (motive := fun _ => RR)
  (dr0 (fun fz mu n k => eop orc call fz false op e mu n k) n fun v n => J v mu ad n)
  (fun m _ => Nat.rec (motive := fun _ => RR) (dr1 (fun fz mu n k => eop orc call fz true op e mu n k) anc i fz mu ad n fun v ad n => J v mu ad n)
    (fun m _ => Nat.rec (motive := fun _ => RR) (dr2 (fun fz mu n k => eop orc call fz false op e mu n k) anc fz mu ad n fun v mu ad n => J v mu ad n)
      (fun m _ => Nat.rec (motive := fun _ => RR) (dr3 (fun fz mu n k => eop orc call fz false op e mu n k) i ad n fun v ad n => J v mu ad n)
        (fun _ _ => dr4 (fun fz mu n k => eop orc call fz false op e mu n k) anc i ad n fun v ad n => J v mu ad n) m) m) m) mode) tall
noncomputable def rstepE (i : Nat) (o : AOper) (e : Env) (mu : St) (ad : List St) (n : Nat) (k : Env → St → List St → Nat → RR) : RR := (fun (_ : Unit) => AOper.rec (motive := fun _ => RR)
  (fun dst op g mode anc => Option.rec (motive := fun _ => RR) (ropE orc call fz i op mode anc e mu ad n fun v mu ad n => k (updD e dst v) mu ad n)
    (fun p => Prod.rec (motive := fun _ => RR) (fun q p => Prod.rec (motive := fun _ => RR) (fun r w => gdD (atV e q r) w mu ad n (fun J => ropE orc call fz i op mode anc e mu ad n J) fun v mu ad n => k (updD e dst v) mu ad n) p) p) g) o) tall
noncomputable def rrunE (ops : List AOper) : Nat → List Nat → Env → St → List St → Nat → (List Nat → Env → St → List St → Nat → RR) → RR := (fun (_ : Unit) =>
  List.rec (motive := fun _ => Nat → List Nat → Env → St → List St → Nat → (List Nat → Env → St → List St → Nat → RR) → RR) (fun _ ds e mu ad n k => k ds e mu ad n)
    (fun o _ ih i ds e mu ad n k => rstepE orc call fz i o e mu ad n fun e mu ad n => ih (Nat.succ i) (dsO o ds) e mu ad n k) ops) tall
noncomputable def looseOf (o : AOper) : Option Od := AOper.rec (motive := fun _ => Option Od) (fun _ op _ mode _ => Bool.rec (motive := fun _ => Option Od) none op.storeX (Nat.beq mode 4)) o
noncomputable def apartE (ops : List AOper) : Nat → Env → St → List St → (St → List St → RR) → RR := (fun (_ : Unit) =>
  List.rec (motive := fun _ => Nat → Env → St → List St → (St → List St → RR) → RR) (fun _ _ mu ad k => k mu ad)
    (fun o _ ih i e mu ad k => Option.rec (motive := fun _ => RR) (ih (Nat.succ i) e mu ad k) (fun x => apS (evV e x) i mu ad fun mu ad => ih (Nat.succ i) e mu ad k) (looseOf o)) ops) tall
end
noncomputable def gx (kept : List Nat) (x : Od) : GT := (fun (_ : Unit) => Od.rec (motive := fun _ => GT) (fun q r => Option.rec (motive := fun _ => GT) (fun _ => .one .un) (fun j => gAt j) (idxOf kept (Nat.add (Nat.mul 16 q) r) 0)) (fun v => fun _ => v) x) tall
/-- Code alone (none), or behind a region whose values are still at hand. -/
noncomputable def comp (kept : List Nat) (c : BC) : Option Env → HC := (fun (_ : Unit) => BC.rec (motive := fun _ => Option Env → HC)
  (fun _ => cNorm) (fun _ => cRet) (fun _ => cBad) (fun id _ => cExit id)
  (fun ops _ ih _ => fun orc call fz t mu n k => runE kept orc call fz ops 10 [] (env0 kept t) t mu n fun ds e t mu n => storK kept e (nub ds) t fun t => ih (some e) orc call fz t mu n k)
  (fun ops _ ih _ => fun orc call fz t mu n k => (fun ad => apartE ops 0 (env0 kept t) mu ad fun mu ad => rrunE orc call fz ops 0 [] (env0 kept t) mu ad n fun ds e mu ad n => joinAll ad mu fun mu => storK kept e (nub ds) t fun t => ih (some e) orc call fz t mu n k) (ops.map fun _ => []))
  (fun x _ _ iha ihb oe => Option.rec (motive := fun _ => HC) (cIf (gx kept x) (iha none) (ihb none)) (fun e => tIf (evV e x) (iha none) (ihb none)) oe)
  (fun x _ _ _ iha ihb ihn oe => Option.rec (motive := fun _ => HC) (cIfN (gx kept x) (iha none) (ihb none) (ihn none)) (fun e => tIfN (evV e x) (iha none) (ihb none) (ihn none)) oe)
  (fun x id _ ihn oe => Option.rec (motive := fun _ => HC) (cTest (gx kept x) id (ihn none)) (fun e => tTest (evV e x) id (ihn none)) oe)
  (fun id _ _ iha ihn _ => cBlk id (iha none) (ihn none))
  (fun _ _ iha ihn _ => cLoop (iha none) (ihn none)) c) tall
/-- Results. -/
noncomputable def res1 (r : ARes) (e : Env) (fz : Fz) (mu : St) (k : AV → RR) : RR := (fun (_ : Unit) => ARes.rec (motive := fun _ => RR) (fun q r => k (atV e q r)) (fun q r a m => rCell (atV e q r) a m fz mu k) r) tall
noncomputable def resAllE (l : List ARes) (e : Env) (fz : Fz) (mu : St) : (List CV → RR) → RR := (fun (_ : Unit) =>
  List.rec (motive := fun _ => (List CV → RR) → RR) (fun k => k []) (fun r _ ih k => res1 r e fz mu fun v => toCV zz v fun c => ih fun cs => k (c :: cs)) l) tall
noncomputable def resC (kept : List Nat) (l : List ARes) : RF := (fun (_ : Unit) => List.rec (motive := fun _ => RF) (fun _ _ _ k => k (.tp []))
  (fun r rest _ => List.rec (motive := fun _ => RF) (ARes.rec (motive := fun _ => RF) (fun q r => rTmp (gx kept (.t q r))) (fun q r a m => fun fz t mu k => rCell (atV (env0 kept t) q r) a m fz mu k) r)
    (fun _ _ _ => fun fz t mu k => resAllE l (env0 kept t) fz mu fun cs => k (.tp cs)) rest) l) tall
noncomputable def compFunc (kept : List Nat) (af : AFunc) : HFunc := (fun (_ : Unit) => AFunc.rec (motive := fun _ => HFunc) (fun _ nargs res body => .mk (initAt nargs) (resC kept res) (comp kept (flat body .norm) none)) af) tall
/-! checks -/
noncomputable def allL {α : Type} (p : α → Bool) (l : List α) : Bool := List.rec (motive := fun _ => Bool) true (fun a _ ih => Bool.rec (motive := fun _ => Bool) false ih (p a)) l
noncomputable def okDst (nt : Nat) (o : Option (Nat × Nat)) : Bool := Option.rec (motive := fun _ => Bool) true (fun p => okT nt (.t p.1 p.2)) o
noncomputable def okGd (nt : Nat) (o : Option (Nat × Nat × Bool)) : Bool := Option.rec (motive := fun _ => Bool) true (fun p => okT nt (.t p.1 p.2.1)) o
noncomputable def okOper (nt : Nat) (o : AOper) : Bool := okOp nt o.op && (okDst nt o.dst && okGd nt o.g)
noncomputable def okLoose (o : AOper) : Bool := cond (Nat.beq o.mode 4) ((looseOf o).isSome) true
noncomputable def okB (nt : Nat) (c : BC) : Bool := BC.rec (motive := fun _ => Bool) true true true (fun _ => true)
  (fun ops _ ih => allL (okOper nt) ops && ih)
  (fun ops _ ih => allL (fun o => okOper nt o && okLoose o) ops && ih)
  (fun x _ _ iha ihb => okT nt x && (iha && ihb))
  (fun x _ _ _ iha ihb ihn => okT nt x && (iha && (ihb && ihn)))
  (fun x _ _ ihn => okT nt x && ihn)
  (fun _ _ _ iha ihn => iha && ihn)
  (fun _ _ iha ihn => iha && ihn) c
noncomputable def okRes (nt : Nat) (r : ARes) : Bool := ARes.rec (motive := fun _ => Bool) (fun q r => okT nt (.t q r)) (fun q r _ _ => okT nt (.t q r)) r
noncomputable def optIs (o : Option Nat) (i : Nat) : Bool := Option.rec (motive := fun _ => Bool) false (fun j => Nat.beq j i) o
noncomputable def okFunc (kept : List Nat) (af : AFunc) : Bool := Nat.ble kept.length 264 && (Nat.ble af.nargs af.ntmps && (allL (fun i => optIs (idxOf kept i 0) i) (List.range af.nargs) && (allL (okRes af.ntmps) af.res && okB af.ntmps (flat af.body .norm))))
end Go.Ev
