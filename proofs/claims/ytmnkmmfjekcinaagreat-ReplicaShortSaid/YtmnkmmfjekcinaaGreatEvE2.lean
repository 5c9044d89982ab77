/-
  The quick operations on values are the evaluator's. Printed by e2.py.
-/
import Derived.Test.YtmnkmmfjekcinaaGreatEvE1
set_option linter.unusedVariables false
set_option linter.unusedSimpArgs false
namespace Go.Ev

theorem fAV_eq (v : AV) (k : AV → RR) : fAV v k = k v := by cases v <;> rfl
theorem keq_eq (a b : IntKind) : keq a b = IntKind.eqb a b := by cases a <;> cases b <;> rfl
theorem ltF_eq (a b : Int) : ltF a b = ltI a b := by cases a <;> cases b <;> rfl
theorem eqF_eq (a b : Int) : eqF a b = eqI a b := by cases a <;> cases b <;> rfl
theorem wrap_lim {kd : IntKind} {n : Nat} (h : n ≤ lim kd) : kd.wrap (n : Int) = n := by
  cases kd <;> simp only [lim] at h <;> simp [IntKind.wrap, IntKind.bits, IntKind.signed] <;> omega
theorem fitN_eq {s : Nat} {kd : IntKind} {k : Int → RR} {no : RR} (h : no = k (kd.wrap (s : Int))) : fitN s kd no k = k (kd.wrap (s : Int)) := by
  cases s with
  | zero =>
    have : kd.wrap ((0 : Nat) : Int) = (0 : Nat) := wrap_lim (Nat.zero_le _)
    rw [this]; rfl
  | succ p =>
    show Bool.rec (motive := fun _ => RR) no (k (Int.ofNat (Nat.succ p))) (Nat.ble (Nat.succ p) (lim kd)) = _
    cases e : Nat.ble (Nat.succ p) (lim kd) with
    | false => exact h
    | true => rw [wrap_lim (Nat.le_of_ble_eq_true e)]; rfl
theorem addF_eq {a b : Int} {kd : IntKind} {k : Int → RR} {no : RR} (h : no = k (kd.wrap (a + b))) : addF a b kd no k = k (kd.wrap (a + b)) := by
  cases a with
  | negSucc m => exact h
  | ofNat m => cases b with
    | negSucc n => exact h
    | ofNat n => exact fitN_eq h
theorem subF_eq {a b : Int} {kd : IntKind} {k : Int → RR} {no : RR} (h : no = k (kd.wrap (a - b))) : subF a b kd no k = k (kd.wrap (a - b)) := by
  cases a with
  | negSucc m => exact h
  | ofNat m => cases b with
    | negSucc n => exact h
    | ofNat n =>
      show Bool.rec (motive := fun _ => RR) no (fitN (Nat.sub m n) kd no k) (Nat.ble n m) = _
      cases e : Nat.ble n m with
      | false => exact h
      | true =>
        have h1 := Nat.le_of_ble_eq_true e
        have h2 : Int.ofNat m - Int.ofNat n = ((m - n : Nat) : Int) := by simp; omega
        rw [h2] at h ⊢
        exact fitN_eq h

theorem p_add_eq (x y : AV) (orc : Orc RR) (mu : St) (n : Nat) (k : KT RR) : (p_add x y orc fun v => k v mu n) = oBin orc zz [] mu n .add (.c x) (.c y) k := by
  cases x with
  | ag l => rfl
  | tp l => rfl
  | one s =>
    cases s with
    | int kd a =>
      cases y with
      | ag l => rfl
      | tp l => rfl
      | one u =>
        cases u with
        | int kd' b =>
          show Bool.rec (motive := fun _ => RR) zz (addF a b kd (binI .add kd a b zz fun r => k (.one r) mu n) fun x => k (.one (.int kd x)) mu n) (keq kd kd') = cond (IntKind.eqb kd kd') (binI .add kd a b zz fun r => k (.one r) mu n) zz
          have e : binI .add kd a b zz (fun r => k (.one r) mu n) = k (.one (.int kd (kd.wrap (a + b)))) mu n := by
            show wrapK kd (Int.add a b) (fun x => k (.one (.int kd x)) mu n) = _
            rw [wrapK_eq]; rfl
          rw [keq_eq, addF_eq (k := fun x => k (.one (.int kd x)) mu n) e, e]
          cases IntKind.eqb kd kd' <;> rfl
        | _ => rfl
    | sym kd i => rfl
    | _ =>
      cases y with
      | ag l => rfl
      | tp l => rfl
      | one u => cases u <;> rfl
theorem p_sub_eq (x y : AV) (orc : Orc RR) (mu : St) (n : Nat) (k : KT RR) : (p_sub x y orc fun v => k v mu n) = oBin orc zz [] mu n .sub (.c x) (.c y) k := by
  cases x with
  | ag l => rfl
  | tp l => rfl
  | one s =>
    cases s with
    | int kd a =>
      cases y with
      | ag l => rfl
      | tp l => rfl
      | one u =>
        cases u with
        | int kd' b =>
          show Bool.rec (motive := fun _ => RR) zz (subF a b kd (binI .sub kd a b zz fun r => k (.one r) mu n) fun x => k (.one (.int kd x)) mu n) (keq kd kd') = cond (IntKind.eqb kd kd') (binI .sub kd a b zz fun r => k (.one r) mu n) zz
          have e : binI .sub kd a b zz (fun r => k (.one r) mu n) = k (.one (.int kd (kd.wrap (a - b)))) mu n := by
            show wrapK kd (Int.sub a b) (fun x => k (.one (.int kd x)) mu n) = _
            rw [wrapK_eq]; rfl
          rw [keq_eq, subF_eq (k := fun x => k (.one (.int kd x)) mu n) e, e]
          cases IntKind.eqb kd kd' <;> rfl
        | _ => rfl
    | sym kd i => rfl
    | _ =>
      cases y with
      | ag l => rfl
      | tp l => rfl
      | one u => cases u <;> rfl
theorem p_mul_eq (x y : AV) (orc : Orc RR) (mu : St) (n : Nat) (k : KT RR) : (p_mul x y orc fun v => k v mu n) = oBin orc zz [] mu n .mul (.c x) (.c y) k := by
  cases x with
  | ag l => rfl
  | tp l => rfl
  | one s =>
    cases s with
    | int kd a =>
      cases y with
      | ag l => rfl
      | tp l => rfl
      | one u =>
        cases u with
        | int kd' b =>
          show Bool.rec (motive := fun _ => RR) zz (binI .mul kd a b zz fun r => k (.one r) mu n) (keq kd kd') = cond (IntKind.eqb kd kd') (binI .mul kd a b zz fun r => k (.one r) mu n) zz
          rw [keq_eq]
          cases IntKind.eqb kd kd' <;> rfl
        | _ => rfl
    | sym kd i => rfl
    | _ =>
      cases y with
      | ag l => rfl
      | tp l => rfl
      | one u => cases u <;> rfl
theorem p_quo_eq (x y : AV) (orc : Orc RR) (mu : St) (n : Nat) (k : KT RR) : (p_quo x y orc fun v => k v mu n) = oBin orc zz [] mu n .quo (.c x) (.c y) k := by
  cases x with
  | ag l => rfl
  | tp l => rfl
  | one s =>
    cases s with
    | int kd a =>
      cases y with
      | ag l => rfl
      | tp l => rfl
      | one u =>
        cases u with
        | int kd' b =>
          show Bool.rec (motive := fun _ => RR) zz (binI .quo kd a b zz fun r => k (.one r) mu n) (keq kd kd') = cond (IntKind.eqb kd kd') (binI .quo kd a b zz fun r => k (.one r) mu n) zz
          rw [keq_eq]
          cases IntKind.eqb kd kd' <;> rfl
        | _ => rfl
    | sym kd i => rfl
    | _ =>
      cases y with
      | ag l => rfl
      | tp l => rfl
      | one u => cases u <;> rfl
theorem p_rem_eq (x y : AV) (orc : Orc RR) (mu : St) (n : Nat) (k : KT RR) : (p_rem x y orc fun v => k v mu n) = oBin orc zz [] mu n .rem (.c x) (.c y) k := by
  cases x with
  | ag l => rfl
  | tp l => rfl
  | one s =>
    cases s with
    | int kd a =>
      cases y with
      | ag l => rfl
      | tp l => rfl
      | one u =>
        cases u with
        | int kd' b =>
          show Bool.rec (motive := fun _ => RR) zz (binI .rem kd a b zz fun r => k (.one r) mu n) (keq kd kd') = cond (IntKind.eqb kd kd') (binI .rem kd a b zz fun r => k (.one r) mu n) zz
          rw [keq_eq]
          cases IntKind.eqb kd kd' <;> rfl
        | _ => rfl
    | sym kd i => rfl
    | _ =>
      cases y with
      | ag l => rfl
      | tp l => rfl
      | one u => cases u <;> rfl
theorem p_and_eq (x y : AV) (orc : Orc RR) (mu : St) (n : Nat) (k : KT RR) : (p_and x y orc fun v => k v mu n) = oBin orc zz [] mu n .and (.c x) (.c y) k := by
  cases x with
  | ag l => rfl
  | tp l => rfl
  | one s =>
    cases s with
    | int kd a =>
      cases y with
      | ag l => rfl
      | tp l => rfl
      | one u =>
        cases u with
        | int kd' b =>
          show Bool.rec (motive := fun _ => RR) zz (binI .and kd a b zz fun r => k (.one r) mu n) (keq kd kd') = cond (IntKind.eqb kd kd') (binI .and kd a b zz fun r => k (.one r) mu n) zz
          rw [keq_eq]
          cases IntKind.eqb kd kd' <;> rfl
        | _ => rfl
    | sym kd i => rfl
    | _ =>
      cases y with
      | ag l => rfl
      | tp l => rfl
      | one u => cases u <;> rfl
theorem p_or_eq (x y : AV) (orc : Orc RR) (mu : St) (n : Nat) (k : KT RR) : (p_or x y orc fun v => k v mu n) = oBin orc zz [] mu n .or (.c x) (.c y) k := by
  cases x with
  | ag l => rfl
  | tp l => rfl
  | one s =>
    cases s with
    | int kd a =>
      cases y with
      | ag l => rfl
      | tp l => rfl
      | one u =>
        cases u with
        | int kd' b =>
          show Bool.rec (motive := fun _ => RR) zz (binI .or kd a b zz fun r => k (.one r) mu n) (keq kd kd') = cond (IntKind.eqb kd kd') (binI .or kd a b zz fun r => k (.one r) mu n) zz
          rw [keq_eq]
          cases IntKind.eqb kd kd' <;> rfl
        | _ => rfl
    | sym kd i => rfl
    | _ =>
      cases y with
      | ag l => rfl
      | tp l => rfl
      | one u => cases u <;> rfl
theorem p_xor_eq (x y : AV) (orc : Orc RR) (mu : St) (n : Nat) (k : KT RR) : (p_xor x y orc fun v => k v mu n) = oBin orc zz [] mu n .xor (.c x) (.c y) k := by
  cases x with
  | ag l => rfl
  | tp l => rfl
  | one s =>
    cases s with
    | int kd a =>
      cases y with
      | ag l => rfl
      | tp l => rfl
      | one u =>
        cases u with
        | int kd' b =>
          show Bool.rec (motive := fun _ => RR) zz (binI .xor kd a b zz fun r => k (.one r) mu n) (keq kd kd') = cond (IntKind.eqb kd kd') (binI .xor kd a b zz fun r => k (.one r) mu n) zz
          rw [keq_eq]
          cases IntKind.eqb kd kd' <;> rfl
        | _ => rfl
    | sym kd i => rfl
    | _ =>
      cases y with
      | ag l => rfl
      | tp l => rfl
      | one u => cases u <;> rfl
theorem p_shl_eq (x y : AV) (orc : Orc RR) (mu : St) (n : Nat) (k : KT RR) : (p_shl x y orc fun v => k v mu n) = oBin orc zz [] mu n .shl (.c x) (.c y) k := by
  cases x with
  | ag l => rfl
  | tp l => rfl
  | one s =>
    cases s with
    | int kd a =>
      cases y with
      | ag l => rfl
      | tp l => rfl
      | one u =>
        cases u with
        | int kd' b =>
          show Bool.rec (motive := fun _ => RR) zz (binI .shl kd a b zz fun r => k (.one r) mu n) (keq kd kd') = cond (IntKind.eqb kd kd') (binI .shl kd a b zz fun r => k (.one r) mu n) zz
          rw [keq_eq]
          cases IntKind.eqb kd kd' <;> rfl
        | _ => rfl
    | sym kd i => rfl
    | _ =>
      cases y with
      | ag l => rfl
      | tp l => rfl
      | one u => cases u <;> rfl
theorem p_shr_eq (x y : AV) (orc : Orc RR) (mu : St) (n : Nat) (k : KT RR) : (p_shr x y orc fun v => k v mu n) = oBin orc zz [] mu n .shr (.c x) (.c y) k := by
  cases x with
  | ag l => rfl
  | tp l => rfl
  | one s =>
    cases s with
    | int kd a =>
      cases y with
      | ag l => rfl
      | tp l => rfl
      | one u =>
        cases u with
        | int kd' b =>
          show Bool.rec (motive := fun _ => RR) zz (binI .shr kd a b zz fun r => k (.one r) mu n) (keq kd kd') = cond (IntKind.eqb kd kd') (binI .shr kd a b zz fun r => k (.one r) mu n) zz
          rw [keq_eq]
          cases IntKind.eqb kd kd' <;> rfl
        | _ => rfl
    | sym kd i => rfl
    | _ =>
      cases y with
      | ag l => rfl
      | tp l => rfl
      | one u => cases u <;> rfl
theorem p_andNot_eq (x y : AV) (orc : Orc RR) (mu : St) (n : Nat) (k : KT RR) : (p_andNot x y orc fun v => k v mu n) = oBin orc zz [] mu n .andNot (.c x) (.c y) k := by
  cases x with
  | ag l => rfl
  | tp l => rfl
  | one s =>
    cases s with
    | int kd a =>
      cases y with
      | ag l => rfl
      | tp l => rfl
      | one u =>
        cases u with
        | int kd' b =>
          show Bool.rec (motive := fun _ => RR) zz (binI .andNot kd a b zz fun r => k (.one r) mu n) (keq kd kd') = cond (IntKind.eqb kd kd') (binI .andNot kd a b zz fun r => k (.one r) mu n) zz
          rw [keq_eq]
          cases IntKind.eqb kd kd' <;> rfl
        | _ => rfl
    | sym kd i => rfl
    | _ =>
      cases y with
      | ag l => rfl
      | tp l => rfl
      | one u => cases u <;> rfl
theorem p_eql_eq (x y : AV) (orc : Orc RR) (mu : St) (n : Nat) (k : KT RR) : (p_eql x y orc fun v => k v mu n) = oBin orc zz [] mu n .eql (.c x) (.c y) k := by
  cases x with
  | ag l => rfl
  | tp l => rfl
  | one s =>
    cases s with
    | int kd a =>
      cases y with
      | ag l => rfl
      | tp l => rfl
      | one u =>
        cases u with
        | int kd' b =>
          show Bool.rec (motive := fun _ => RR) zz (yesF (eqF a b) fun v => k v mu n) (keq kd kd') = cond (IntKind.eqb kd kd') (fB (eqI a b) fun r => k (.one (.bool r)) mu n) zz
          rw [keq_eq, eqF_eq]
          cases IntKind.eqb kd kd' <;> cases eqI a b <;> rfl
        | _ => rfl
    | sym kd i => rfl
    | _ =>
      cases y with
      | ag l => rfl
      | tp l => rfl
      | one u => cases u <;> rfl
theorem p_neq_eq (x y : AV) (orc : Orc RR) (mu : St) (n : Nat) (k : KT RR) : (p_neq x y orc fun v => k v mu n) = oBin orc zz [] mu n .neq (.c x) (.c y) k := by
  cases x with
  | ag l => rfl
  | tp l => rfl
  | one s =>
    cases s with
    | int kd a =>
      cases y with
      | ag l => rfl
      | tp l => rfl
      | one u =>
        cases u with
        | int kd' b =>
          show Bool.rec (motive := fun _ => RR) zz (notF (eqF a b) fun v => k v mu n) (keq kd kd') = cond (IntKind.eqb kd kd') (fB (eqI a b) fun r => k (.one (.bool (not r))) mu n) zz
          rw [keq_eq, eqF_eq]
          cases IntKind.eqb kd kd' <;> cases eqI a b <;> rfl
        | _ => rfl
    | sym kd i => rfl
    | _ =>
      cases y with
      | ag l => rfl
      | tp l => rfl
      | one u => cases u <;> rfl
theorem p_lss_eq (x y : AV) (orc : Orc RR) (mu : St) (n : Nat) (k : KT RR) : (p_lss x y orc fun v => k v mu n) = oBin orc zz [] mu n .lss (.c x) (.c y) k := by
  cases x with
  | ag l => rfl
  | tp l => rfl
  | one s =>
    cases s with
    | int kd a =>
      cases y with
      | ag l => rfl
      | tp l => rfl
      | one u =>
        cases u with
        | int kd' b =>
          show Bool.rec (motive := fun _ => RR) zz (yesF (ltF a b) fun v => k v mu n) (keq kd kd') = cond (IntKind.eqb kd kd') (fB (ltI a b) fun r => k (.one (.bool r)) mu n) zz
          rw [keq_eq, ltF_eq]
          cases IntKind.eqb kd kd' <;> cases ltI a b <;> rfl
        | _ => rfl
    | sym kd i => rfl
    | _ =>
      cases y with
      | ag l => rfl
      | tp l => rfl
      | one u => cases u <;> rfl
theorem p_leq_eq (x y : AV) (orc : Orc RR) (mu : St) (n : Nat) (k : KT RR) : (p_leq x y orc fun v => k v mu n) = oBin orc zz [] mu n .leq (.c x) (.c y) k := by
  cases x with
  | ag l => rfl
  | tp l => rfl
  | one s =>
    cases s with
    | int kd a =>
      cases y with
      | ag l => rfl
      | tp l => rfl
      | one u =>
        cases u with
        | int kd' b =>
          show Bool.rec (motive := fun _ => RR) zz (notF (ltF b a) fun v => k v mu n) (keq kd kd') = cond (IntKind.eqb kd kd') (fB (ltI b a) fun r => k (.one (.bool (not r))) mu n) zz
          rw [keq_eq, ltF_eq]
          cases IntKind.eqb kd kd' <;> cases ltI b a <;> rfl
        | _ => rfl
    | sym kd i => rfl
    | _ =>
      cases y with
      | ag l => rfl
      | tp l => rfl
      | one u => cases u <;> rfl
theorem p_gtr_eq (x y : AV) (orc : Orc RR) (mu : St) (n : Nat) (k : KT RR) : (p_gtr x y orc fun v => k v mu n) = oBin orc zz [] mu n .gtr (.c x) (.c y) k := by
  cases x with
  | ag l => rfl
  | tp l => rfl
  | one s =>
    cases s with
    | int kd a =>
      cases y with
      | ag l => rfl
      | tp l => rfl
      | one u =>
        cases u with
        | int kd' b =>
          show Bool.rec (motive := fun _ => RR) zz (yesF (ltF b a) fun v => k v mu n) (keq kd kd') = cond (IntKind.eqb kd kd') (fB (ltI b a) fun r => k (.one (.bool r)) mu n) zz
          rw [keq_eq, ltF_eq]
          cases IntKind.eqb kd kd' <;> cases ltI b a <;> rfl
        | _ => rfl
    | sym kd i => rfl
    | _ =>
      cases y with
      | ag l => rfl
      | tp l => rfl
      | one u => cases u <;> rfl
theorem p_geq_eq (x y : AV) (orc : Orc RR) (mu : St) (n : Nat) (k : KT RR) : (p_geq x y orc fun v => k v mu n) = oBin orc zz [] mu n .geq (.c x) (.c y) k := by
  cases x with
  | ag l => rfl
  | tp l => rfl
  | one s =>
    cases s with
    | int kd a =>
      cases y with
      | ag l => rfl
      | tp l => rfl
      | one u =>
        cases u with
        | int kd' b =>
          show Bool.rec (motive := fun _ => RR) zz (notF (ltF a b) fun v => k v mu n) (keq kd kd') = cond (IntKind.eqb kd kd') (fB (ltI a b) fun r => k (.one (.bool (not r))) mu n) zz
          rw [keq_eq, ltF_eq]
          cases IntKind.eqb kd kd' <;> cases ltI a b <;> rfl
        | _ => rfl
    | sym kd i => rfl
    | _ =>
      cases y with
      | ag l => rfl
      | tp l => rfl
      | one u => cases u <;> rfl
theorem lookF_eq (mu : St) (fz : Fz) (id : Nat) (k : List SV → RR) : lookF mu fz id k = lookAll fz mu id zz k := by
  induction mu with
  | nil => rfl
  | cons p t ih =>
    obtain ⟨i, cs⟩ := p
    show Bool.rec (motive := fun _ => RR) (lookF t fz id k) (k cs) (Nat.beq i id) = Option.rec (motive := fun _ => RR) (Option.rec (motive := fun _ => RR) zz k (fz id)) k (cond (Nat.beq i id) (some cs) (look t id))
    cases Nat.beq i id with
    | true => rfl
    | false => exact ih
theorem withF_eq (mu : St) (fz : Fz) : withF mu fz = with' mu fz := by
  funext id
  induction mu with
  | nil => rfl
  | cons p t ih =>
    obtain ⟨i, cs⟩ := p
    show Bool.rec (motive := fun _ => Option (List SV)) (withF t fz id) (some cs) (Nat.beq i id) = Option.rec (motive := fun _ => Option (List SV)) (fz id) some (cond (Nat.beq i id) (some cs) (look t id))
    cases Nat.beq i id with
    | true => rfl
    | false => exact ih
theorem nthF_eq (cs : List SV) (off : Nat) (k : AV → RR) : nthF cs off (fun s => k (.one s)) = subK cs off 1 zz fun r => asRes false r zz k := by
  induction cs generalizing off with
  | nil => cases off <;> rfl
  | cons h t ih =>
    cases off with
    | zero => cases t <;> rfl
    | succ o => exact ih o
theorem set1F_eq (cs : List SV) (off : Nat) (s : SV) (k : List SV → RR) : set1F cs off s k = overK cs off [s] zz k := by
  induction cs generalizing off k with
  | nil => cases off <;> rfl
  | cons h t ih =>
    cases off with
    | zero => rfl
    | succ o => exact ih o fun r => k (h :: r)
theorem put1F_eq (mu : St) (id off : Nat) (s : SV) (k : St → RR) : put1F mu id off s k = onLook mu id zz fun cs => overK cs off [s] zz fun cs => putK mu id cs k := by
  induction mu generalizing k with
  | nil => rfl
  | cons p t ih =>
    obtain ⟨i, cs⟩ := p
    show Bool.rec (motive := fun _ => RR) (put1F t id off s fun r => k ((i, cs) :: r)) (set1F cs off s fun cs => k ((i, cs) :: t)) (Nat.beq i id) =
      Option.rec (motive := fun _ => RR) zz (fun c => overK c off [s] zz fun c => cond (Nat.beq i id) (k ((i, c) :: t)) (putK t id c fun r => k ((i, cs) :: r))) (cond (Nat.beq i id) (some cs) (look t id))
    cases Nat.beq i id with
    | true => exact set1F_eq _ _ _ _
    | false => exact ih fun r => k ((i, cs) :: r)



theorem lenF_eq (l : List SV) (m : Nat) : lenF l m = Nat.beq l.length m := by
  induction l generalizing m with
  | nil => cases m <;> rfl
  | cons h t ih => cases m with
    | zero => rfl
    | succ m => exact ih m
theorem takeK_all (l : List SV) (z : RR) (k : List SV → RR) : takeK l l.length z k = k l := by
  induction l generalizing k with
  | nil => rfl
  | cons h t ih => exact ih fun r => k (h :: r)
theorem subK_all (l : List SV) (z : RR) (k : List SV → RR) : subK l 0 l.length z k = k l := by
  cases l with
  | nil => rfl
  | cons h t => exact takeK_all _ _ _
theorem fitF_yes {l : List SV} {m : Nat} {cs : List SV} (h : fitF l m cs = true) : l.length = m ∧ cs.length = m ∧ knownAll l = true := by
  induction l generalizing m cs with
  | nil =>
    cases cs with
    | nil => have := Nat.eq_of_beq_eq_true (show Nat.beq m 0 = true from h); subst this; exact ⟨rfl, rfl, rfl⟩
    | cons _ _ => cases h
  | cons v t ih =>
    cases m with
    | zero => cases h
    | succ m => cases cs with
      | nil => cases h
      | cons c r =>
        have h' : Bool.rec (motive := fun _ => Bool) false (fitF t m r) v.known = true := h
        cases hv : v.known with
        | false => rw [hv] at h'; cases h'
        | true =>
          rw [hv] at h'
          obtain ⟨h1, h2, h3⟩ := ih h'
          refine ⟨by simp [h1], by simp [h2], ?_⟩
          show cond v.known (knownAll t) false = true
          rw [hv]; exact h3
theorem headK_all (l cs : List SV) (z : RR) (k : List SV → RR) (h : l.length = cs.length) : headK l cs z k = k l := by
  induction l generalizing cs k with
  | nil => cases cs with
    | nil => rfl
    | cons _ _ => cases h
  | cons v t ih => cases cs with
    | nil => cases h
    | cons c r => exact ih r (fun x => k (v :: x)) (by simpa using h)
theorem overK_all (l cs : List SV) (z : RR) (k : List SV → RR) (h : l.length = cs.length) : overK cs 0 l z k = k l := by
  cases cs with
  | nil => exact headK_all _ _ _ _ h
  | cons c r => exact headK_all _ _ _ _ h

theorem pPick_eq (c a b : AV) (mu : St) (n : Nat) (k : KT RR) : (pPick c a b fun v => k v mu n) = oPick zz [] mu n (.c c) (.c a) (.c b) k := by
  cases c with
  | ag l => rfl
  | tp l => rfl
  | one s =>
    cases s with
    | bool t =>
      show Bool.rec (motive := fun _ => RR) (fAV b fun v => k v mu n) (fAV a fun v => k v mu n) t = cond t (k a mu n) (k b mu n)
      rw [fAV_eq, fAV_eq]; cases t <;> rfl
    | _ => rfl
theorem pLoad1_eq (x : AV) (fz : Fz) (mu : St) (n : Nat) (k : KT RR) : (pLoad1 x fz mu fun v => k v mu n) = oLoad zz fz [] mu n false 1 (.c x) k := by
  cases x with
  | ag l => rfl
  | tp l => rfl
  | one s =>
    cases s with
    | optr id off =>
      show (lookF mu fz id fun cs => nthF cs off fun s => k (.one s) mu n) = lookAll fz mu id zz fun cs => subK cs off 1 zz fun r => asRes false r zz fun v => k v mu n
      rw [lookF_eq]
      congr 1
      funext cs
      exact nthF_eq cs off fun v => k v mu n
    | _ => rfl
theorem pLoad_eq (agg : Bool) (m : Nat) (x : AV) (fz : Fz) (mu : St) (n : Nat) (k : KT RR) : (pLoad agg m x fz mu fun v => k v mu n) = oLoad zz fz [] mu n agg m (.c x) k := by
  cases x with
  | ag l => rfl
  | tp l => rfl
  | one s =>
    cases s with
    | optr id off => exact lookF_eq _ _ _ _
    | _ => rfl
theorem pLoadA_eq (m : Nat) (x : AV) (fz : Fz) (mu : St) (n : Nat) (k : KT RR) : (pLoadA m x fz mu fun v => k v mu n) = oLoad zz fz [] mu n true m (.c x) k := by
  cases x with
  | ag l => rfl
  | tp l => rfl
  | one s =>
    cases s with
    | optr id off =>
      show (lookF mu fz id fun cs => Nat.rec (motive := fun _ => RR) (Bool.rec (motive := fun _ => RR) (subK cs 0 m zz fun r => k (.ag r) mu n) (k (.ag cs) mu n) (lenF cs m)) (fun o _ => subK cs (Nat.succ o) m zz fun r => k (.ag r) mu n) off) =
        lookAll fz mu id zz fun cs => subK cs off m zz fun r => k (.ag r) mu n
      rw [lookF_eq]
      congr 1
      funext cs
      cases off with
      | succ o => rfl
      | zero =>
        show Bool.rec (motive := fun _ => RR) (subK cs 0 m zz fun r => k (.ag r) mu n) (k (.ag cs) mu n) (lenF cs m) = subK cs 0 m zz fun r => k (.ag r) mu n
        rw [lenF_eq]
        cases e : Nat.beq cs.length m with
        | false => rfl
        | true =>
          have := Nat.eq_of_beq_eq_true e
          subst this
          exact (subK_all cs zz fun r => k (.ag r) mu n).symm
    | _ => rfl
theorem qStore1_eq (x v : AV) (mu : St) (n : Nat) (k : KT RR) : (qStore1 x v mu fun mu => k noVal mu n) = oStore zz [] mu n 1 (.c x) (.c v) k := by
  cases x with
  | ag l => rfl
  | tp l => rfl
  | one s =>
    cases s with
    | optr id off =>
      cases v with
      | ag l => rfl
      | tp l => rfl
      | one s =>
        show Bool.rec (motive := fun _ => RR) zz (put1F mu id off s fun mu => k noVal mu n) s.known = cond (cond s.known true false) (onLook mu id zz fun cs => overK cs off [s] zz fun cs => putK mu id cs fun mu => k noVal mu n) zz
        rw [put1F_eq]
        cases s.known <;> rfl
    | _ => rfl
theorem putF_eq (mu : St) (id m : Nat) (l : List SV) (k : St → RR) (no : RR) (hno : no = lenK l 0 fun c => cond (Nat.beq c m) (cond (knownAll l) (onLook mu id zz fun cs => overK cs 0 l zz fun cs => putK mu id cs k) zz) zz) : putF mu id m l no k = no := by
  have key : ∀ (mu : St) (k : St → RR), putF mu id m l no k = no ∨ (l.length = m ∧ knownAll l = true ∧ putF mu id m l no k = onLook mu id zz fun cs => overK cs 0 l zz fun cs => putK mu id cs k) := by
    intro mu
    induction mu with
    | nil => exact fun k => .inl rfl
    | cons p t ih =>
      intro k
      obtain ⟨i, cs⟩ := p
      have e1 : putF ((i, cs) :: t) id m l no k = Bool.rec (motive := fun _ => RR) (putF t id m l no fun r => k ((i, cs) :: r)) (Bool.rec (motive := fun _ => RR) no (k ((i, l) :: t)) (fitF l m cs)) (Nat.beq i id) := rfl
      have e2 : (onLook ((i, cs) :: t) id zz fun cs => overK cs 0 l zz fun cs => putK ((i, cs) :: t) id cs k) = Option.rec (motive := fun _ => RR) zz (fun c => overK c 0 l zz fun c => putK ((i, c) :: t) id c k) (cond (Nat.beq i id) (some cs) (look t id)) := rfl
      have e3 : (onLook ((i, cs) :: t) id zz fun c => overK c 0 l zz fun c => putK ((i, cs) :: t) id c k) = Option.rec (motive := fun _ => RR) zz (fun c => overK c 0 l zz fun c => cond (Nat.beq i id) (k ((i, c) :: t)) (putK t id c fun r => k ((i, cs) :: r))) (cond (Nat.beq i id) (some cs) (look t id)) := rfl
      rw [e1, e3]
      cases e : Nat.beq i id with
      | false => exact ih fun r => k ((i, cs) :: r)
      | true =>
        cases ef : fitF l m cs with
        | false => exact .inl rfl
        | true =>
          obtain ⟨h1, h2, h3⟩ := fitF_yes ef
          refine .inr ⟨h1, h3, ?_⟩
          show k ((i, l) :: t) = overK cs 0 l zz fun c => k ((i, c) :: t)
          rw [overK_all _ _ _ _ (h1.trans h2.symm)]
  rcases key mu k with h | ⟨h1, h2, h3⟩
  · exact h
  · rw [h3, hno, lenK_eq, Nat.zero_add, h1, h2]
    have : Nat.beq m m = true := Nat.beq_refl m
    rw [this]; rfl
theorem qStore_eq (m : Nat) (x v : AV) (mu : St) (n : Nat) (k : KT RR) : (qStore m x v mu fun mu => k noVal mu n) = oStore zz [] mu n m (.c x) (.c v) k := by
  cases x with
  | ag l => rfl
  | tp l => rfl
  | one s =>
    cases s with
    | optr id off =>
      cases v with
      | one s => rfl
      | tp l => rfl
      | ag l => cases off with
        | succ o => rfl
        | zero => exact putF_eq mu id m l (fun mu => k noVal mu n) _ rfl
    | _ => rfl
theorem pNilc_eq (x : AV) (mu : St) (n : Nat) (k : KT RR) : (pNilc x fun v => k v mu n) = oNilc zz [] mu n (.c x) k := by
  cases x with
  | ag l => rfl
  | tp l => rfl
  | one s => cases s <;> rfl
theorem pNot_eq (x : AV) (mu : St) (n : Nat) (k : KT RR) : (pNot x fun v => k v mu n) = oNot zz [] mu n (.c x) k := by
  cases x with
  | ag l => rfl
  | tp l => rfl
  | one s =>
    cases s with
    | bool b => cases b <;> rfl
    | _ => rfl
theorem pFaddr_eq (off : Nat) (x : AV) (mu : St) (n : Nat) (k : KT RR) : (pFaddr off x fun v => k v mu n) = oFaddr zz [] mu n off (.c x) k := by
  cases x with
  | ag l => rfl
  | tp l => rfl
  | one s => cases s <;> rfl
theorem pLen_eq (x : AV) (mu : St) (n : Nat) (k : KT RR) : (pLen x fun v => k v mu n) = oLen zz [] mu n false (.c x) k := by
  cases x with
  | ag l => rfl
  | tp l => rfl
  | one s => cases s <;> rfl
theorem pLenS_eq (x : AV) (mu : St) (n : Nat) (k : KT RR) : (pLenS x fun v => k v mu n) = oLen zz [] mu n true (.c x) k := by
  cases x with
  | ag l => rfl
  | tp l => rfl
  | one s => cases s <;> rfl
theorem pExtr_eq (x : AV) (i : Nat) (mu : St) (n : Nat) (k : KT RR) : (pExtr x i fun v => k v mu n) = oExtr zz [] mu n (.c x) i k := by cases x <;> rfl

theorem pIaddr_eq (s : Nat) (x i : AV) (mu : St) (n : Nat) (k : KT RR) : (pIaddr s x i fun v => k v mu n) = oIaddr zz [] mu n s (.c x) (.c i) k := by
  cases i with
  | ag l => rfl
  | tp l => rfl
  | one v =>
    cases v with
    | int kd i =>
      cases i with
      | negSucc j =>
        cases x with
        | ag l => rfl
        | tp l => rfl
        | one v =>
          cases v with
          | osl id off len cap s' =>
            show zz = cond (Nat.beq s' s && not (ltI (Int.negSucc j) 0) && Nat.blt (Int.negSucc j).toNat len) _ zz
            have : ltI (Int.negSucc j) 0 = true := rfl
            rw [this]
            cases Nat.beq s' s <;> rfl
          | _ => rfl
      | ofNat j =>
        cases x with
        | ag l => rfl
        | tp l => rfl
        | one v =>
          cases v with
          | osl id off len cap s' =>
            show Bool.rec (motive := fun _ => RR) zz (Bool.rec (motive := fun _ => RR) zz (fN (Nat.add off (Nat.mul j s)) fun o => k (.one (.optr id o)) mu n) (Nat.ble (Nat.succ j) len)) (Nat.beq s' s) =
              cond (Nat.beq s' s && not (ltI (Int.ofNat j) 0) && Nat.blt (Int.ofNat j).toNat len) (fN (Nat.add off (Nat.mul (Int.ofNat j).toNat s)) fun o => k (.one (.optr id o)) mu n) zz
            have h0 : ltI (Int.ofNat j) 0 = false := by rw [ltI_eq]; simp
            have h1 : (Int.ofNat j).toNat = j := rfl
            have h2 : Nat.blt j len = Nat.ble (Nat.succ j) len := rfl
            rw [h0, h1, h2]
            cases Nat.beq s' s <;> cases Nat.ble (Nat.succ j) len <;> rfl
          | _ => rfl
    | _ => rfl


def AOp.mapOd (f : Od → Od) : AOp → AOp
  | .mv x => .mv (f x)
  | .pick c a b => .pick (f c) (f a) (f b)
  | .alloc z => .alloc z
  | .box x => .box (f x)
  | .build z ps => .build z (ps.map fun p => (p.1, p.2.1, f p.2.2))
  | .bslice s l z ps => .bslice s l z (ps.map fun p => (p.1, p.2.1, f p.2.2))
  | .load a n x => .load a n (f x)
  | .store n x v => .store n (f x) (f v)
  | .nilc x => .nilc (f x)
  | .bin o x y => .bin o (f x) (f y)
  | .shift l x y => .shift l (f x) (f y)
  | .sbin o x y => .sbin o (f x) (f y)
  | .eqb o x y => .eqb o (f x) (f y)
  | .eqn s o x y => .eqn s o (f x) (f y)
  | .eqs o x y => .eqs o (f x) (f y)
  | .not x => .not (f x)
  | .neg x => .neg (f x)
  | .conv k x => .conv k (f x)
  | .mkfn g cs => .mkfn g (cs.map f)
  | .mkslice s b z l c => .mkslice s b z (f l) (f c)
  | .slc st s x lo hi mx => .slc st s (f x) (lo.map f) (hi.map f) (mx.map f)
  | .faddr o x => .faddr o (f x)
  | .fld o a n x => .fld o a n (f x)
  | .iaddr s x i => .iaddr s (f x) (f i)
  | .iaddrA s l x i => .iaddrA s l (f x) (f i)
  | .idx x i => .idx (f x) (f i)
  | .extr x i => .extr (f x) i
  | .len s x => .len s (f x)
  | .cap x => .cap (f x)
  | .append s b x y => .append s b (f x) (f y)
  | .copy s x y => .copy s (f x) (f y)
  | .max x xs => .max (f x) (xs.map f)
  | .min x xs => .min (f x) (xs.map f)
  | .call g as => .call (f g) (as.map f)

/-- What is made plain ahead of the operation. -/
noncomputable def AOp.forced (op : AOp) : List Od := AOp.rec (motive := fun _ => List Od)
  (fun _ => []) (fun _ _ _ => []) (fun _ => []) (fun _ => []) (fun _ _ => []) (fun _ _ _ _ => []) (fun _ _ _ => []) (fun _ _ _ => []) (fun _ => []) (fun _ _ _ => [])
  (fun _ x y => [x, y]) (fun _ _ _ => []) (fun _ _ _ => []) (fun _ _ _ _ => []) (fun _ _ _ => []) (fun _ => []) (fun x => [x]) (fun _ _ => []) (fun _ _ => [])
  (fun _ _ _ l c => [l, c]) (fun _ _ _ lo hi mx => lo.toList ++ (hi.toList ++ mx.toList)) (fun _ _ => []) (fun _ _ _ _ => []) (fun _ _ i => [i]) (fun _ _ _ i => [i]) (fun _ i => [i])
  (fun _ _ => []) (fun _ _ => []) (fun _ => []) (fun _ _ _ _ => []) (fun _ _ _ => []) (fun _ _ => []) (fun _ _ => []) (fun _ _ => []) op
/-- Where a store writes. -/
noncomputable def AOp.storeX (op : AOp) : Option Od := AOp.rec (motive := fun _ => Option Od)
  (fun _ => none) (fun _ _ _ => none) (fun _ => none) (fun _ => none) (fun _ _ => none) (fun _ _ _ _ => none) (fun _ _ _ => none) (fun _ x _ => some x) (fun _ => none) (fun _ _ _ => none)
  (fun _ _ _ => none) (fun _ _ _ => none) (fun _ _ _ => none) (fun _ _ _ _ => none) (fun _ _ _ => none) (fun _ => none) (fun _ => none) (fun _ _ => none) (fun _ _ => none)
  (fun _ _ _ _ _ => none) (fun _ _ _ _ _ _ => none) (fun _ _ => none) (fun _ _ _ _ => none) (fun _ _ _ => none) (fun _ _ _ _ => none) (fun _ _ => none)
  (fun _ _ => none) (fun _ _ => none) (fun _ => none) (fun _ _ _ _ => none) (fun _ _ _ => none) (fun _ _ => none) (fun _ _ => none) (fun _ _ => none) op

/-- The operands of those operations that have no own form. -/
def AOp.ods : AOp → Option (List Od)
  | .build _ ps => some (ps.map fun p => p.2.2)
  | .bslice _ _ _ ps => some (ps.map fun p => p.2.2)
  | .shift _ x y => some [x, y]
  | .sbin _ x y => some [x, y]
  | .eqb _ x y => some [x, y]
  | .eqn _ _ x y => some [x, y]
  | .eqs _ x y => some [x, y]
  | .neg x => some [x]
  | .conv _ x => some [x]
  | .mkfn _ cs => some cs
  | .mkslice _ _ _ l c => some [l, c]
  | .slc _ _ x lo hi mx => some (x :: (lo.toList ++ (hi.toList ++ mx.toList)))
  | .fld _ _ _ x => some [x]
  | .iaddrA _ _ x i => some [x, i]
  | .idx x i => some [x, i]
  | .cap x => some [x]
  | .append _ _ x y => some [x, y]
  | .copy _ x y => some [x, y]
  | .max x xs => some (x :: xs)
  | .min x xs => some (x :: xs)
  | .call g as => some (g :: as)
  | _ => none

theorem mapOd_congr {op : AOp} {l : List Od} (h : op.ods = some l) {f g : Od → Od} (hfg : ∀ x ∈ l, f x = g x) : op.mapOd f = op.mapOd g := by
  cases op <;> simp only [AOp.ods, Option.some.injEq] at h <;> (try cases h) <;> simp only [AOp.mapOd]
  case build z ps => congr 1; exact List.map_congr_left fun p hp => by rw [hfg p.2.2 (List.mem_map.2 ⟨p, hp, rfl⟩)]
  case bslice s l z ps => congr 1; exact List.map_congr_left fun p hp => by rw [hfg p.2.2 (List.mem_map.2 ⟨p, hp, rfl⟩)]
  case mkfn g => congr 1; exact List.map_congr_left fun p hp => hfg p hp
  case slc st s x lo hi mx =>
    rw [hfg x (by simp)]
    congr 1
    · cases lo with
      | none => rfl
      | some y => simp [hfg y (by simp)]
    · cases hi with
      | none => rfl
      | some y => simp [hfg y (by simp)]
    · cases mx with
      | none => rfl
      | some y => simp [hfg y (by simp)]
  case max x xs => rw [hfg x (by simp)]; congr 1; exact List.map_congr_left fun p hp => hfg p (by simp [hp])
  case min x xs => rw [hfg x (by simp)]; congr 1; exact List.map_congr_left fun p hp => hfg p (by simp [hp])
  case call x xs => rw [hfg x (by simp)]; congr 1; exact List.map_congr_left fun p hp => hfg p (by simp [hp])
  all_goals first | (rw [hfg _ (List.mem_cons_self ..), hfg _ (List.mem_cons_of_mem _ (List.mem_cons_self ..))]; done) | (rw [hfg _ (List.mem_cons_self ..)]; done)

theorem fill_c (tm : TM) (ps : List (Nat × Nat × Od)) (cs : List SV) (k : List SV → RR) : fill zz [] (ps.map fun p => (p.1, p.2.1, Od.c (ev tm p.2.2))) cs k = fill zz tm ps cs k := by
  induction ps generalizing cs with
  | nil => rfl
  | cons p ps ih =>
    show ((ev tm p.2.2).onCells zz fun vs => lenK vs 0 fun m => cond (Nat.beq m p.2.1) (cond (knownAll vs) (overK cs p.1 vs zz fun cs => fill zz [] (ps.map fun p => (p.1, p.2.1, Od.c (ev tm p.2.2))) cs k) zz) zz) =
      ((ev tm p.2.2).onCells zz fun vs => lenK vs 0 fun m => cond (Nat.beq m p.2.1) (cond (knownAll vs) (overK cs p.1 vs zz fun cs => fill zz tm ps cs k) zz) zz)
    have : (fun cs => fill zz [] (ps.map fun p => (p.1, p.2.1, Od.c (ev tm p.2.2))) cs k) = fun cs => fill zz tm ps cs k := funext fun cs => ih cs
    rw [this]
theorem capsK_c (tm : TM) (l : List Od) (k : List (Nat × Nat) → RR) : capsK zz [] (l.map fun x => Od.c (ev tm x)) k = capsK zz tm l k := by
  induction l generalizing k with
  | nil => rfl
  | cons x l ih =>
    show ((ev tm x).onOne zz fun s => s.onPtr zz fun id off => capsK zz [] (l.map fun x => Od.c (ev tm x)) fun r => k ((id, off) :: r)) = ((ev tm x).onOne zz fun s => s.onPtr zz fun id off => capsK zz tm l fun r => k ((id, off) :: r))
    simp only [ih]
theorem evs_c (tm : TM) (l : List Od) : evs [] (l.map fun x => Od.c (ev tm x)) = evs tm l := by
  unfold evs; rw [List.map_map]; rfl
theorem argsK_c (tm : TM) (l : List Od) (c : List AV) (k : List AV → RR) : argsK [] (l.map fun x => Od.c (ev tm x)) c k = argsK tm l c k := by
  rw [argsK_eq, argsK_eq, List.map_map]; rfl


end Go.Ev
