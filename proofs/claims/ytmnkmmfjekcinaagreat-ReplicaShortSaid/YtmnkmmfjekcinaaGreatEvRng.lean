/-
  Numbers of which a range is known: they are split where they are compared.
-/
import Derived.Test.YtmnkmmfjekcinaaGreatEvLaw
set_option linter.unusedVariables false
set_option linter.unusedSimpArgs false
namespace Go.Ev

/-- A range for each base number. -/
abbrev PC := List (Nat × Nat)
abbrev RR := PC → Bool
def zz : RR := fun _ => false

def PcOk (m : Nat → Nat) (pc : PC) : Prop := ∀ (j : Nat) (p : Nat × Nat), pc[j]? = some p → p.1 ≤ m j ∧ m j ≤ p.2
def TT (m : Nat → Nat) (r : RR) : Prop := ∃ pc, PcOk m pc ∧ r pc = true
theorem zz_not {m : Nat → Nat} : ¬ TT m zz := fun ⟨_, _, h⟩ => by cases h

/-- Ids below 16: numbers as they are handed; others: base number i % 16, and i / 16 - 1001 more. -/
def valOf (raw : Nat → Int) (m : Nat → Nat) (i : Nat) : Int := if i < 16 then raw i else (m (i % 16) : Int) + ((i / 16 : Nat) : Int) - 1001
noncomputable def offs (i : Nat) : Int := Int.sub (Int.ofNat (Nat.div i 16)) 1001
theorem valOf_big {raw : Nat → Int} {m : Nat → Nat} {i : Nat} (h : ¬ i < 16) : valOf raw m i = (m (i % 16) : Int) + offs i := by
  unfold valOf offs
  rw [if_neg h]
  show (m (i % 16) : Int) + ((i / 16 : Nat) : Int) - 1001 = (m (i % 16) : Int) + (((i / 16 : Nat) : Int) - 1001)
  omega

noncomputable def onRng (j : Nat) (k : Nat → Nat → RR) : RR := fun pc => nthK pc j false fun p => k p.1 p.2 pc
noncomputable def setR (pc : PC) (j lo hi : Nat) (k : RR) : Bool := fN lo fun lo => fN hi fun hi => setK pc j (lo, hi) k

/-- Is base number j less than t? -/
noncomputable def lessN (j t : Nat) (k : Bool → RR) : RR :=
  onRng j fun lo hi => cond (Nat.ble t lo) (k false) (cond (Nat.ble (Nat.succ hi) t) (k true) fun pc => cond (setR pc j lo (Nat.pred t) (k true)) (setR pc j t hi (k false)) false)
noncomputable def lessK (j : Nat) (t : Int) (k : Bool → RR) : RR := Int.rec (motive := fun _ => RR) (fun t => fN t fun t => lessN j t k) (fun _ => k false) t
noncomputable def eqlN (j t : Nat) (k : Bool → RR) : RR :=
  onRng j fun lo hi => cond (Nat.ble (Nat.succ t) lo) (k false) (cond (Nat.ble (Nat.succ hi) t) (k false) (cond (Nat.beq lo hi) (k true) fun pc =>
    cond (setR pc j t t (k true)) (cond (cond (Nat.ble t lo) true (setR pc j lo (Nat.pred t) (k false))) (cond (Nat.ble hi t) true (setR pc j (Nat.succ t) hi (k false))) false) false))
noncomputable def eqlK (j : Nat) (t : Int) (k : Bool → RR) : RR := Int.rec (motive := fun _ => RR) (fun t => fN t fun t => eqlN j t k) (fun _ => k false) t
noncomputable def allK (cnt : Nat) : Nat → (Nat → Bool) → Bool :=
  Nat.rec (motive := fun _ => Nat → (Nat → Bool) → Bool) (fun _ _ => true) (fun _ ih v f => cond (f v) (fN (Nat.succ v) fun v => ih v f) false) cnt
noncomputable def eachK (j : Nat) (k : Nat → RR) : RR := onRng j fun lo hi pc => allK (Nat.sub (Nat.succ hi) lo) lo fun v => setR pc j v v (k v)

section
variable {m : Nat → Nat}
theorem onRng_elim {j : Nat} {k : Nat → Nat → RR} (h : TT m (onRng j k)) : ∃ pc lo hi, PcOk m pc ∧ pc[j]? = some (lo, hi) ∧ lo ≤ m j ∧ m j ≤ hi ∧ k lo hi pc = true := by
  obtain ⟨pc, ok, h⟩ := h
  have h' : nthK pc j false (fun p => k p.1 p.2 pc) = true := h
  obtain ⟨p, e, h2⟩ := nthK_elim (T := fun b : Bool => b = true) (by decide) h'
  exact ⟨pc, p.1, p.2, ok, e, (ok j p e).1, (ok j p e).2, h2⟩
theorem setR_elim {pc : PC} {j lo hi : Nat} {k : RR} (ok : PcOk m pc) (h1 : lo ≤ m j) (h2 : m j ≤ hi) (h : setR pc j lo hi k = true) : TT m k := by
  unfold setR at h
  rw [fN_eq, fN_eq, setK_eq] at h
  refine ⟨_, fun i p hp => ?_, h⟩
  rw [List.getElem?_set] at hp
  split at hp
  · rename_i e
    subst e
    split at hp
    · cases hp; exact ⟨h1, h2⟩
    · cases hp
  · exact ok i p hp

theorem lessN_elim {j t : Nat} {k : Bool → RR} (h : TT m (lessN j t k)) : TT m (k (decide (m j < t))) := by
  obtain ⟨pc, lo, hi, ok, e, h1, h2, h3⟩ := onRng_elim h
  cases e1 : Nat.ble t lo with
  | true =>
    rw [e1] at h3
    have := Nat.le_of_ble_eq_true e1
    rw [decide_eq_false (by omega)]
    exact ⟨pc, ok, h3⟩
  | false =>
    rw [e1] at h3
    cases e2 : Nat.ble (Nat.succ hi) t with
    | true =>
      rw [e2] at h3
      have := Nat.le_of_ble_eq_true e2
      rw [decide_eq_true (by omega)]
      exact ⟨pc, ok, h3⟩
    | false =>
      rw [e2] at h3
      have h4 : cond (setR pc j lo (Nat.pred t) (k true)) (setR pc j t hi (k false)) false = true := h3
      cases e3 : setR pc j lo (Nat.pred t) (k true) with
      | false => rw [e3] at h4; cases h4
      | true =>
        rw [e3] at h4
        by_cases hlt : m j < t
        · rw [decide_eq_true hlt]
          exact setR_elim ok h1 (by simp only [Nat.pred_eq_sub_one]; omega) e3
        · rw [decide_eq_false hlt]
          exact setR_elim ok (by omega) h2 h4
theorem lessK_elim {j : Nat} {t : Int} {k : Bool → RR} (h : TT m (lessK j t k)) : TT m (k (decide ((m j : Int) < t))) := by
  cases t with
  | ofNat t =>
    have h' : TT m (fN t fun t => lessN j t k) := h
    rw [fN_eq] at h'
    have := lessN_elim h'
    have e : decide ((m j : Int) < Int.ofNat t) = decide (m j < t) := by
      rw [decide_eq_decide]; simp
    rw [e]; exact this
  | negSucc t =>
    have e : decide ((m j : Int) < Int.negSucc t) = false := decide_eq_false (by omega)
    rw [e]; exact h

theorem eqlN_elim {j t : Nat} {k : Bool → RR} (h : TT m (eqlN j t k)) : TT m (k (decide (m j = t))) := by
  obtain ⟨pc, lo, hi, ok, e, h1, h2, h3⟩ := onRng_elim h
  cases e1 : Nat.ble (Nat.succ t) lo with
  | true =>
    rw [e1] at h3
    have := Nat.le_of_ble_eq_true e1
    rw [decide_eq_false (by omega)]
    exact ⟨pc, ok, h3⟩
  | false =>
    rw [e1] at h3
    cases e2 : Nat.ble (Nat.succ hi) t with
    | true =>
      rw [e2] at h3
      have := Nat.le_of_ble_eq_true e2
      rw [decide_eq_false (by omega)]
      exact ⟨pc, ok, h3⟩
    | false =>
      rw [e2] at h3
      have g1 : ¬ Nat.succ t ≤ lo := fun h => by rw [Nat.ble_eq_true_of_le h] at e1; cases e1
      have g2 : ¬ Nat.succ hi ≤ t := fun h => by rw [Nat.ble_eq_true_of_le h] at e2; cases e2
      cases e3 : Nat.beq lo hi with
      | true =>
        rw [e3] at h3
        have := Nat.eq_of_beq_eq_true e3
        rw [decide_eq_true (by omega)]
        exact ⟨pc, ok, h3⟩
      | false =>
        rw [e3] at h3
        have h4 : cond (setR pc j t t (k true)) (cond (cond (Nat.ble t lo) true (setR pc j lo (Nat.pred t) (k false))) (cond (Nat.ble hi t) true (setR pc j (Nat.succ t) hi (k false))) false) false = true := h3
        cases e4 : setR pc j t t (k true) with
        | false => rw [e4] at h4; cases h4
        | true =>
          rw [e4] at h4
          by_cases heq : m j = t
          · rw [decide_eq_true heq]
            exact setR_elim ok (by omega) (by omega) e4
          · rw [decide_eq_false heq]
            have h5 : cond (cond (Nat.ble t lo) true (setR pc j lo (Nat.pred t) (k false))) (cond (Nat.ble hi t) true (setR pc j (Nat.succ t) hi (k false))) false = true := h4
            cases e5 : cond (Nat.ble t lo) true (setR pc j lo (Nat.pred t) (k false)) with
            | false => rw [e5] at h5; cases h5
            | true =>
              rw [e5] at h5
              have h6 : cond (Nat.ble hi t) true (setR pc j (Nat.succ t) hi (k false)) = true := h5
              by_cases hlt : m j < t
              · cases e6 : Nat.ble t lo with
                | true => have := Nat.le_of_ble_eq_true e6; omega
                | false =>
                  rw [e6] at e5
                  exact setR_elim ok h1 (by simp only [Nat.pred_eq_sub_one]; omega) e5
              · cases e6 : Nat.ble hi t with
                | true => have := Nat.le_of_ble_eq_true e6; omega
                | false =>
                  rw [e6] at h6
                  exact setR_elim ok (by omega) h2 h6
theorem eqlK_elim {j : Nat} {t : Int} {k : Bool → RR} (h : TT m (eqlK j t k)) : TT m (k (decide ((m j : Int) = t))) := by
  cases t with
  | ofNat t =>
    have h' : TT m (fN t fun t => eqlN j t k) := h
    rw [fN_eq] at h'
    have := eqlN_elim h'
    have e : decide ((m j : Int) = Int.ofNat t) = decide (m j = t) := by
      rw [decide_eq_decide]; simp; omega
    rw [e]; exact this
  | negSucc t =>
    have e : decide ((m j : Int) = Int.negSucc t) = false := decide_eq_false (by omega)
    rw [e]; exact h

theorem allK_elim {f : Nat → Bool} : ∀ {cnt v : Nat}, allK cnt v f = true → ∀ u, v ≤ u → u < v + cnt → f u = true
  | 0, v, _, u, h1, h2 => by omega
  | cnt + 1, v, h, u, h1, h2 => by
    have h' : cond (f v) (fN (Nat.succ v) fun v => allK cnt v f) false = true := h
    cases e : f v with
    | false => rw [e] at h'; cases h'
    | true =>
      rw [e, fN_eq] at h'
      by_cases hu : u = v
      · rw [hu]; exact e
      · exact allK_elim (v := v + 1) h' u (by omega) (by omega)
theorem eachK_elim {j : Nat} {k : Nat → RR} (h : TT m (eachK j k)) : TT m (k (m j)) := by
  obtain ⟨pc, lo, hi, ok, e, h1, h2, h3⟩ := onRng_elim h
  have h4 : allK (hi + 1 - lo) lo (fun v => setR pc j v v (k v)) = true := h3
  have := allK_elim h4 (m j) h1 (by omega)
  exact setR_elim ok (Nat.le_refl _) (Nat.le_refl _) this
end

/-- v + b, as a number that is not known, if that is plain; else case by case. -/
noncomputable def addK (i : Nat) (kd : IntKind) (b : Int) (no : RR) (k : SV → RR) : RR :=
  cond (IntKind.eqb kd .i64) (onRng (Nat.mod i 16) fun _ hi => fI (Int.add (Int.ofNat (Nat.div i 16)) b) fun e =>
    cond (ltI 0 e && (ltI e 1000000 && Nat.ble hi 1000000)) (fN (Nat.add (Nat.mul 16 e.toNat) (Nat.mod i 16)) fun i => k (.sym .i64 i)) no) no
noncomputable def eachI (i : Nat) (k : Int → RR) : RR := eachK (Nat.mod i 16) fun v => fI (Int.add (Int.ofNat v) (offs i)) k

noncomputable def rngBin (op : BinOp) (kd : IntKind) (i : Nat) (b : Int) (k : SV → RR) : RR :=
  match op with
  | .lss => lessK (Nat.mod i 16) (Int.sub b (offs i)) fun t => k (.bool t)
  | .geq => lessK (Nat.mod i 16) (Int.sub b (offs i)) fun t => k (.bool (not t))
  | .leq => lessK (Nat.mod i 16) (Int.add (Int.sub b (offs i)) 1) fun t => k (.bool t)
  | .gtr => lessK (Nat.mod i 16) (Int.add (Int.sub b (offs i)) 1) fun t => k (.bool (not t))
  | .eql => eqlK (Nat.mod i 16) (Int.sub b (offs i)) fun t => k (.bool t)
  | .neq => eqlK (Nat.mod i 16) (Int.sub b (offs i)) fun t => k (.bool (not t))
  | .add => addK i kd b (eachI i fun a => binI .add kd a b zz k) k
  | .sub => addK i kd (Int.neg b) (eachI i fun a => binI .sub kd a b zz k) k
  | op => eachI i fun a => binI op kd a b zz k
noncomputable def rngNib (op : BinOp) (kd : IntKind) (a : Int) (i : Nat) (k : SV → RR) : RR :=
  match op with
  | .lss => lessK (Nat.mod i 16) (Int.add (Int.sub a (offs i)) 1) fun t => k (.bool (not t))
  | .geq => lessK (Nat.mod i 16) (Int.add (Int.sub a (offs i)) 1) fun t => k (.bool t)
  | .leq => lessK (Nat.mod i 16) (Int.sub a (offs i)) fun t => k (.bool (not t))
  | .gtr => lessK (Nat.mod i 16) (Int.sub a (offs i)) fun t => k (.bool t)
  | .eql => eqlK (Nat.mod i 16) (Int.sub a (offs i)) fun t => k (.bool t)
  | .neq => eqlK (Nat.mod i 16) (Int.sub a (offs i)) fun t => k (.bool (not t))
  | .add => addK i kd a (eachI i fun b => binI .add kd a b zz k) k
  | op => eachI i fun b => binI op kd a b zz k
def wide : IntKind → Bool
  | .i64 => true
  | .u64 => true
  | _ => false
noncomputable def rngConv (kd : IntKind) (i : Nat) (k : SV → RR) : RR :=
  onRng (Nat.mod i 16) fun lo hi => cond (wide kd && (Nat.ble 1001 (Nat.add lo (Nat.div i 16)) && (Nat.ble hi 1000000 && Nat.ble (Nat.div i 16) 1000000))) (k (.sym kd i)) (eachI i fun a => wrapK kd a fun r => k (.int kd r))

noncomputable def rngOrc (l : List OEnt) (cs : List CEnt) : Orc RR :=
  ⟨fun op kd i b k => cond (Nat.ble 16 i) (rngBin op kd i b k) (Option.rec (motive := fun _ => RR) zz k (lookB l op kd i b)),
   fun op kd a i k => cond (Nat.ble 16 i) (rngNib op kd a i k) zz,
   fun kd i k => cond (Nat.ble 16 i) (rngConv kd i k) (Option.rec (motive := fun _ => RR) zz k (lookC cs kd i)),
   fun i k => cond (Nat.ble 16 i) (eachI i k) zz⟩

section
variable {raw : Nat → Int} {m : Nat → Nat}
theorem eachI_elim {i : Nat} (hi : ¬ i < 16) {k : Int → RR} (h : TT m (eachI i k)) : TT m (k (valOf raw m i)) := by
  have := eachK_elim h
  rw [fI_eq] at this
  rw [valOf_big hi]; exact this
theorem addK_elim {i : Nat} (hi : ¬ i < 16) {kd : IntKind} {b : Int} {no : RR} {k : SV → RR} (h : TT m (addK i kd b no k)) :
    TT m no ∨ ∃ s, SvEq (valOf raw m) s (.int kd (kd.wrap (valOf raw m i + b))) ∧ TT m (k s) := by
  unfold addK at h
  cases e1 : IntKind.eqb kd .i64 with
  | false => rw [e1] at h; exact .inl h
  | true =>
    rw [e1] at h
    have := eqb_eq e1
    subst this
    simp only [cond_true] at h
    obtain ⟨pc, lo, hi', ok, e, h1, h2, h3⟩ := onRng_elim h
    rw [fI_eq] at h3
    have hd : Int.add (Int.ofNat (Nat.div i 16)) b = ((i / 16 : Nat) : Int) + b := rfl
    rw [hd] at h3
    cases e2 : (ltI 0 (((i / 16 : Nat) : Int) + b) && (ltI (((i / 16 : Nat) : Int) + b) 1000000 && Nat.ble hi' 1000000)) with
    | false => rw [e2] at h3; exact .inl ⟨pc, ok, h3⟩
    | true =>
      rw [e2] at h3
      simp only [Bool.and_eq_true, ltI_eq, decide_eq_true_eq] at e2
      have e4 := Nat.le_of_ble_eq_true e2.2.2
      have h4 : fN (Nat.add (Nat.mul 16 (((i / 16 : Nat) : Int) + b).toNat) (Nat.mod i 16)) (fun i => k (.sym .i64 i)) pc = true := h3
      rw [fN_eq] at h4
      refine .inr ⟨_, .inr ⟨.i64, _, rfl, ?_⟩, pc, ok, h4⟩
      have hb : ¬ (Nat.add (Nat.mul 16 (((i / 16 : Nat) : Int) + b).toNat) (Nat.mod i 16)) < 16 := by
        show ¬ (16 * (((i / 16 : Nat) : Int) + b).toNat + i % 16) < 16
        omega
      have hm : (Nat.add (Nat.mul 16 (((i / 16 : Nat) : Int) + b).toNat) (Nat.mod i 16)) % 16 = i % 16 := by
        show (16 * (((i / 16 : Nat) : Int) + b).toNat + i % 16) % 16 = i % 16
        omega
      have hq : (Nat.add (Nat.mul 16 (((i / 16 : Nat) : Int) + b).toNat) (Nat.mod i 16)) / 16 = (((i / 16 : Nat) : Int) + b).toNat := by
        show (16 * (((i / 16 : Nat) : Int) + b).toNat + i % 16) / 16 = _
        omega
      have hv : valOf raw m (Nat.add (Nat.mul 16 (((i / 16 : Nat) : Int) + b).toNat) (Nat.mod i 16)) = valOf raw m i + b := by
        unfold valOf
        rw [if_neg hb, if_neg hi, hm, hq]
        omega
      rw [hv]
      congr 1
      have : valOf raw m i = (m (i % 16) : Int) + ((i / 16 : Nat) : Int) - 1001 := by unfold valOf; rw [if_neg hi]
      rw [this]
      have h2' : m (i % 16) ≤ hi' := h2
      simp [IntKind.wrap, IntKind.bits, IntKind.signed]
      omega
theorem rngBin_elim {op : BinOp} {kd : IntKind} {i : Nat} (hi : ¬ i < 16) {b : Int} {k : SV → RR} (h : TT m (rngBin op kd i b k)) : ∃ s s', numOp op kd (valOf raw m i) b = some s' ∧ SvEq (valOf raw m) s s' ∧ TT m (k s) := by
  have each : ∀ op, TT m (eachI i fun a => binI op kd a b zz k) → ∃ s s', numOp op kd (valOf raw m i) b = some s' ∧ SvEq (valOf raw m) s s' ∧ TT m (k s) := by
    intro op h
    obtain ⟨s, h1, h2⟩ := binI_elim zz_not (eachI_elim (raw := raw) hi h)
    exact ⟨s, s, h1, .inl rfl, h2⟩
  have ho : ∀ x y : Int, Int.sub x y = x - y := fun _ _ => rfl
  have ha : ∀ x y : Int, Int.add x y = x + y := fun _ _ => rfl
  have hmd : Nat.mod i 16 = i % 16 := rfl
  have hv := valOf_big (raw := raw) (m := m) hi
  cases op with
  | lss =>
    have := lessK_elim (show TT m (lessK (Nat.mod i 16) (Int.sub b (offs i)) fun t => k (.bool t)) from h)
    refine ⟨_, _, rfl, .inl ?_, this⟩
    rw [hv, ho, hmd]; congr 1; rw [decide_eq_decide]; omega
  | geq =>
    have := lessK_elim (show TT m (lessK (Nat.mod i 16) (Int.sub b (offs i)) fun t => k (.bool (not t))) from h)
    refine ⟨_, _, rfl, .inl ?_, this⟩
    rw [hv, ho, hmd, ← decide_not]; congr 1; rw [decide_eq_decide]; omega
  | leq =>
    have := lessK_elim (show TT m (lessK (Nat.mod i 16) (Int.add (Int.sub b (offs i)) 1) fun t => k (.bool t)) from h)
    refine ⟨_, _, rfl, .inl ?_, this⟩
    rw [hv, ha, ho, hmd]; congr 1; rw [decide_eq_decide]; omega
  | gtr =>
    have := lessK_elim (show TT m (lessK (Nat.mod i 16) (Int.add (Int.sub b (offs i)) 1) fun t => k (.bool (not t))) from h)
    refine ⟨_, _, rfl, .inl ?_, this⟩
    rw [hv, ha, ho, hmd, ← decide_not]; congr 1; rw [decide_eq_decide]; omega
  | eql =>
    have := eqlK_elim (show TT m (eqlK (Nat.mod i 16) (Int.sub b (offs i)) fun t => k (.bool t)) from h)
    refine ⟨_, _, rfl, .inl ?_, this⟩
    rw [hv, ho, hmd]; congr 1; rw [Bool.eq_iff_iff]; simp; omega
  | neq =>
    have := eqlK_elim (show TT m (eqlK (Nat.mod i 16) (Int.sub b (offs i)) fun t => k (.bool (not t))) from h)
    refine ⟨_, _, rfl, .inl ?_, this⟩
    rw [hv, ho, hmd]; congr 1; rw [Bool.eq_iff_iff]; simp; omega
  | add =>
    rcases addK_elim (raw := raw) hi (show TT m (addK i kd b (eachI i fun a => binI .add kd a b zz k) k) from h) with h | ⟨s, h1, h2⟩
    · exact each .add h
    · exact ⟨s, _, rfl, h1, h2⟩
  | sub =>
    rcases addK_elim (raw := raw) hi (show TT m (addK i kd (Int.neg b) (eachI i fun a => binI .sub kd a b zz k) k) from h) with h | ⟨s, h1, h2⟩
    · exact each .sub h
    · exact ⟨s, _, rfl, h1, h2⟩
  | mul => exact each .mul h
  | quo => exact each .quo h
  | rem => exact each .rem h
  | and => exact each .and h
  | or => exact each .or h
  | xor => exact each .xor h
  | shl => exact each .shl h
  | shr => exact each .shr h
  | andNot => exact each .andNot h
theorem rngNib_elim {op : BinOp} {kd : IntKind} {i : Nat} (hi : ¬ i < 16) {a : Int} {k : SV → RR} (h : TT m (rngNib op kd a i k)) : ∃ s s', numOp op kd a (valOf raw m i) = some s' ∧ SvEq (valOf raw m) s s' ∧ TT m (k s) := by
  have each : ∀ op, TT m (eachI i fun b => binI op kd a b zz k) → ∃ s s', numOp op kd a (valOf raw m i) = some s' ∧ SvEq (valOf raw m) s s' ∧ TT m (k s) := by
    intro op h
    obtain ⟨s, h1, h2⟩ := binI_elim zz_not (eachI_elim (raw := raw) hi h)
    exact ⟨s, s, h1, .inl rfl, h2⟩
  have ho : ∀ x y : Int, Int.sub x y = x - y := fun _ _ => rfl
  have ha : ∀ x y : Int, Int.add x y = x + y := fun _ _ => rfl
  have hmd : Nat.mod i 16 = i % 16 := rfl
  have hv := valOf_big (raw := raw) (m := m) hi
  cases op with
  | lss =>
    have := lessK_elim (show TT m (lessK (Nat.mod i 16) (Int.add (Int.sub a (offs i)) 1) fun t => k (.bool (not t))) from h)
    refine ⟨_, _, rfl, .inl ?_, this⟩
    rw [hv, ha, ho, hmd, ← decide_not]; congr 1; rw [decide_eq_decide]; omega
  | geq =>
    have := lessK_elim (show TT m (lessK (Nat.mod i 16) (Int.add (Int.sub a (offs i)) 1) fun t => k (.bool t)) from h)
    refine ⟨_, _, rfl, .inl ?_, this⟩
    rw [hv, ha, ho, hmd]; congr 1; rw [decide_eq_decide]; omega
  | leq =>
    have := lessK_elim (show TT m (lessK (Nat.mod i 16) (Int.sub a (offs i)) fun t => k (.bool (not t))) from h)
    refine ⟨_, _, rfl, .inl ?_, this⟩
    rw [hv, ho, hmd, ← decide_not]; congr 1; rw [decide_eq_decide]; omega
  | gtr =>
    have := lessK_elim (show TT m (lessK (Nat.mod i 16) (Int.sub a (offs i)) fun t => k (.bool t)) from h)
    refine ⟨_, _, rfl, .inl ?_, this⟩
    rw [hv, ho, hmd]; congr 1; rw [decide_eq_decide]; omega
  | eql =>
    have := eqlK_elim (show TT m (eqlK (Nat.mod i 16) (Int.sub a (offs i)) fun t => k (.bool t)) from h)
    refine ⟨_, _, rfl, .inl ?_, this⟩
    rw [hv, ho, hmd]; congr 1; rw [Bool.eq_iff_iff]; simp; omega
  | neq =>
    have := eqlK_elim (show TT m (eqlK (Nat.mod i 16) (Int.sub a (offs i)) fun t => k (.bool (not t))) from h)
    refine ⟨_, _, rfl, .inl ?_, this⟩
    rw [hv, ho, hmd]; congr 1; rw [Bool.eq_iff_iff]; simp; omega
  | add =>
    rcases addK_elim (raw := raw) hi (show TT m (addK i kd a (eachI i fun b => binI .add kd a b zz k) k) from h) with h | ⟨s, h1, h2⟩
    · exact each .add h
    · exact ⟨s, _, rfl, (by rw [Int.add_comm a]; exact h1), h2⟩
  | sub => exact each .sub h
  | mul => exact each .mul h
  | quo => exact each .quo h
  | rem => exact each .rem h
  | and => exact each .and h
  | or => exact each .or h
  | xor => exact each .xor h
  | shl => exact each .shl h
  | shr => exact each .shr h
  | andNot => exact each .andNot h
theorem rngConv_elim {kd : IntKind} {i : Nat} (hi : ¬ i < 16) {k : SV → RR} (h : TT m (rngConv kd i k)) : ∃ s, SvEq (valOf raw m) s (.int kd (kd.wrap (valOf raw m i))) ∧ TT m (k s) := by
  obtain ⟨pc, lo, hi', ok, e, h1, h2, h3⟩ := onRng_elim h
  cases e2 : (wide kd && (Nat.ble 1001 (Nat.add lo (Nat.div i 16)) && (Nat.ble hi' 1000000 && Nat.ble (Nat.div i 16) 1000000))) with
  | false =>
    rw [e2] at h3
    have := eachI_elim (raw := raw) hi (show TT m (eachI i fun a => wrapK kd a fun r => k (.int kd r)) from ⟨pc, ok, h3⟩)
    rw [wrapK_eq] at this
    exact ⟨_, .inl rfl, this⟩
  | true =>
    rw [e2] at h3
    simp only [Bool.and_eq_true] at e2
    have a1 := Nat.le_of_ble_eq_true e2.2.1
    have a2 := Nat.le_of_ble_eq_true e2.2.2.1
    have a3 := Nat.le_of_ble_eq_true e2.2.2.2
    refine ⟨.sym kd i, .inr ⟨kd, i, rfl, ?_⟩, pc, ok, h3⟩
    congr 1
    have a1' : 1001 ≤ lo + i / 16 := a1
    have a3' : i / 16 ≤ 1000000 := a3
    have h1' : lo ≤ m (i % 16) := h1
    have h2' : m (i % 16) ≤ hi' := h2
    unfold valOf
    rw [if_neg hi]
    cases kd <;> first | (cases e2.1; done) | (simp [IntKind.wrap, IntKind.bits, IntKind.signed]; omega)

theorem rngOrc_ok {l : List OEnt} {cs : List CEnt} (hl : ∀ e ∈ l, ∃ s, numOp e.op e.kd (valOf raw m e.i) e.b = some s ∧ SvEq (valOf raw m) e.s s) (hc : ∀ e ∈ cs, SvEq (valOf raw m) e.s (.int e.kd (e.kd.wrap (valOf raw m e.i)))) : OrcOk (TT m) (valOf raw m) (rngOrc l cs) := by
  have big : ∀ {i : Nat}, Nat.ble 16 i = true → ¬ i < 16 := fun h => by have := Nat.le_of_ble_eq_true h; omega
  refine ⟨fun op kd i b k h => ?_, fun op kd a i k h => ?_, fun kd i k h => ?_, fun i k h => ?_⟩
  · have h' : TT m (cond (Nat.ble 16 i) (rngBin op kd i b k) (Option.rec (motive := fun _ => RR) zz k (lookB l op kd i b))) := h
    cases e : Nat.ble 16 i with
    | true => rw [e] at h'; exact rngBin_elim (big e) h'
    | false =>
      rw [e] at h'
      obtain ⟨s, hs, h2⟩ := option_elim zz_not h'
      obtain ⟨s', h3, h4⟩ := lookB_ok hl hs
      exact ⟨s, s', h3, h4, h2⟩
  · have h' : TT m (cond (Nat.ble 16 i) (rngNib op kd a i k) zz) := h
    obtain ⟨e, h2⟩ := cond_elim zz_not h'
    exact rngNib_elim (big e) h2
  · have h' : TT m (cond (Nat.ble 16 i) (rngConv kd i k) (Option.rec (motive := fun _ => RR) zz k (lookC cs kd i))) := h
    cases e : Nat.ble 16 i with
    | true => rw [e] at h'; exact rngConv_elim (big e) h'
    | false =>
      rw [e] at h'
      obtain ⟨s, hs, h2⟩ := option_elim zz_not h'
      exact ⟨s, lookC_ok hc hs, h2⟩
  · have h' : TT m (cond (Nat.ble 16 i) (eachI i k) zz) := h
    obtain ⟨e, h2⟩ := cond_elim zz_not h'
    exact eachI_elim (big e) h2
end

/-- The answer is true. -/
noncomputable def isR (v : AV) (_ : St) (_ : Nat) : RR := v.onOne zz fun s => s.onBool zz fun b _ => b
theorem isR_elim {m : Nat → Nat} (v : AV) (mu : St) (n : Nat) (h : TT m (isR v mu n)) : v = .one (.bool true) := by
  obtain ⟨s, rfl, h1⟩ := onOne_elim zz_not h
  obtain ⟨b, rfl, pc, _, h2⟩ := onBool_elim zz_not h1
  have h3 : b = true := h2
  rw [h3]
end Go.Ev
