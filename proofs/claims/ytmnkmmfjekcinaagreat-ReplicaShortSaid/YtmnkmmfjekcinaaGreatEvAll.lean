/-
  All operations together.
-/
import Derived.Test.YtmnkmmfjekcinaaGreatEvAop
set_option linter.unusedVariables false
set_option linter.unusedSimpArgs false
namespace Go.Ev
section
variable {R : Type} {T : R → Prop} {z : R} {P : Program} {val : Nat → Int} {fz : Fz} {tm : TM} {mu : St} {n : Nat} {o : Oper} {orc : Orc R} {call : CallT R}

theorem aop_builtin (hz : ¬ T z) (hk : OrcOk T val orc) {ro : Bool} {c : Call} {b : Builtin} {ys : List Od} {op : AOp} {k : KT R} (ho : o.op = .call c) (hcal : c.callee = .builtin b) (hys : ods P c.args.toList = some ys)
    (hp : prepBuiltin P b c.argTypes.toList ys = some op) (h : T (aop orc z call fz tm mu n ro op k)) : ∃ v mu' n', T (k v mu' n') ∧ Sound P val fz tm mu n o v mu' n' := by
  have arg1 : ∀ y, ys = [y] → ∃ x, c.args = #[x] ∧ od P x = some y := by
    rintro y rfl
    cases hl : c.args.toList with
    | nil => rw [hl] at hys; simp [ods] at hys
    | cons x r =>
      rw [hl] at hys
      simp only [ods] at hys
      split at hys
      · rename_i a l h1 h2
        cases hys
        cases r with
        | nil => exact ⟨x, by apply Array.ext'; simpa using hl, h1⟩
        | cons u v => simp only [ods] at h2; split at h2 <;> cases h2
      · cases hys
  have arg2 : ∀ y y', ys = [y, y'] → ∃ x x', c.args = #[x, x'] ∧ od P x = some y ∧ od P x' = some y' := by
    rintro y y' rfl
    cases hl : c.args.toList with
    | nil => rw [hl] at hys; simp [ods] at hys
    | cons x r =>
      rw [hl] at hys
      simp only [ods] at hys
      split at hys
      · rename_i a l h1 h2
        cases hys
        cases r with
        | nil => simp [ods] at h2
        | cons u v =>
          simp only [ods] at h2
          split at h2
          · rename_i a' l' h3 h4
            cases h2
            cases v with
            | nil => exact ⟨x, u, by apply Array.ext'; simpa using hl, h1, h3⟩
            | cons _ _ => simp only [ods] at h4; split at h4 <;> cases h4
          · cases h2
      · cases hys
  have appCase : ∀ (t u : TypeId) (x y : Od) (e : TypeId) (s bb : Nat) (zs : List SV), c.argTypes.toList = [t, u] → ys = [x, y] → P.underlying t = some (.slice e) → ((∃ e', P.underlying u = some (.slice e')) ∨ P.underlying u = some .string) →
      szOf P e = some s → byOf P e = some bb → zeroOf P e = some zs → s ≠ 0 → b = .append → T (oAppend z fz tm mu n s bb x y k) → ∃ v mu' n', T (k v mu' n') ∧ Sound P val fz tm mu n o v mu' n' := by
    intro t u x y e s bb zs hts hys' hut huu hs hb hzs hs0 hbb h
    obtain ⟨x0, y0, ha, hx0, hy0⟩ := arg2 x y hys'
    obtain ⟨zv, i, i1, i2, i3, i4, i5⟩ := zeroOf_run hzs
    have hsi : i.size = s := by unfold szOf at hs; rw [i1] at hs; simpa using hs
    have hbi : i.bytes = bb := by unfold byOf at hb; rw [i1] at hb; simpa using hb
    have hzl : zv.cells.size = s := by
      have := (toSVs_VR (val := val) (ρ := fun _ => none) (w := default) i3).1.length
      rw [← hsi, ← i4]; simpa using this.symm
    have ht : AppT P c x0 y0 s bb t u e i zv := ⟨by rw [hcal, hbb], by apply Array.ext'; simpa using hts, ha, hut, huu, i1, hsi, hbi, i5, hzl⟩
    obtain ⟨sx, ex, h1⟩ := onOne_elim hz h
    obtain ⟨sy, ey, h2⟩ := onOne_elim hz h1
    obtain ⟨src, cnt, hsrc, h3⟩ := srcK_elim (P := P) (val := val) hz h2
    obtain ⟨hk, h4⟩ := cond_elim hz h3
    have new : (sx = .nsl ∨ sx = .esl) → T (appNew z mu n s bb sx src cnt k) → ∃ v mu' n', T (k v mu' n') ∧ Sound P val fz tm mu n o v mu' n' := by
      intro hsx h
      unfold appNew at h
      cases hc0 : Nat.beq cnt 0 with
      | true =>
        rw [hc0] at h
        have : cnt = 0 := beq_yes hc0
        subst this
        exact ⟨_, _, _, h, sound_appZero ht ho hx0 hy0 ex ey hsrc (hsx.elim .inl fun h => .inr (.inl h))⟩
      | false =>
        rw [hc0] at h
        obtain ⟨hr, h⟩ := cond_elim hz h
        rw [fN_eq] at h
        have hne : cnt ≠ 0 := fun e => by subst e; cases hc0
        exact ⟨_, _, _, h, sound_appNew ht ho hx0 hy0 ex ey hsrc hsx hne (Nat.le_of_ble_eq_true hr)⟩
    cases sx with
    | nsl => exact new (.inl rfl) h4
    | esl => exact new (.inr rfl) h4
    | osl id off len cap s' =>
      have h5 : T (appOwn z mu n s bb (.osl id off len cap s') id off len s' src cnt k) := h4
      unfold appOwn at h5
      cases hc0 : Nat.beq cnt 0 with
      | true =>
        rw [hc0] at h5
        have : cnt = 0 := beq_yes hc0
        subst this
        exact ⟨_, _, _, h5, sound_appZero ht ho hx0 hy0 ex ey hsrc (.inr (.inr ⟨_, _, _, _, _, rfl⟩))⟩
      | false =>
        rw [hc0] at h5
        have hne : cnt ≠ 0 := fun e => by subst e; cases hc0
        obtain ⟨hr, h6⟩ := cond_elim hz h5
        simp only [Bool.and_eq_true] at hr
        have hss : s' = s := beq_yes hr.1
        subst hss
        obtain ⟨known, hl, h7⟩ := onLook_elim hz h6
        rw [fN_eq] at h7
        obtain ⟨h8, h9⟩ := subK_elim hz h7
        rw [lenK_eq] at h9
        obtain ⟨h10, h11⟩ := cond_elim hz h9
        simp only [appK_eq, killK_eq, fN_eq] at h11
        have hkl : known.length = off + len * s' := by have := beq_yes h10; simpa using this
        have hd : (known.drop off).take (Nat.mul len s') = known.drop off := List.take_of_length_le (by simp [hkl])
        rw [hd] at h11
        exact ⟨_, _, _, h11, sound_appOwn ht ho hx0 hy0 ex ey hsrc hk hne (Nat.le_of_ble_eq_true hr.2) hl hkl⟩
    | _ => exact (hz h4).elim
  have tys1 : ∀ t, c.argTypes.toList = [t] → c.argTypes = #[t] := fun t h => by apply Array.ext'; simpa using h
  have tys2 : ∀ t u, c.argTypes.toList = [t, u] → c.argTypes = #[t, u] := fun t u h => by apply Array.ext'; simpa using h
  generalize hts : c.argTypes.toList = ts at hp
  unfold prepBuiltin at hp
  split at hp
  · rename_i t x
    obtain ⟨x0, ha, hx0⟩ := arg1 x rfl
    have hty := tys1 t hts
    split at hp
    · rename_i e hu
      cases hp
      obtain ⟨s, ex, h1⟩ := onOne_elim hz (show T (oLen z tm mu n false x k) from h)
      obtain ⟨hst, h2⟩ := cond_elim hz h1
      have hns : ∀ b, s ≠ .str b := fun b e => by subst e; cases hst
      have fin : ∀ m, lenOf s = some m → T (k (.one (.int .i64 (Int.ofNat m))) mu n) → ∃ v mu' n', T (k v mu' n') ∧ Sound P val fz tm mu n o v mu' n' := fun m hm h => ⟨_, _, _, h, sound_len ho hcal hty ha (.inl ⟨e, hu, hns⟩) hx0 ex hm⟩
      cases s <;> first | exact (hz h2).elim | exact fin _ rfl h2 | exact (hns _ rfl).elim
    · rename_i hu
      cases hp
      obtain ⟨s, ex, h1⟩ := onOne_elim hz (show T (oLen z tm mu n true x k) from h)
      obtain ⟨hst, h2⟩ := cond_elim hz h1
      cases s <;> first | (cases hst; done) | skip
      rename_i b
      have h3 : T (fN b.size fun m => k (.one (.int .i64 (Int.ofNat m))) mu n) := h2
      rw [fN_eq] at h3
      exact ⟨_, _, _, h3, sound_len ho hcal hty ha (.inr ⟨hu, b, rfl⟩) hx0 ex rfl⟩
    · cases hp
  · rename_i t x
    obtain ⟨x0, ha, hx0⟩ := arg1 x rfl
    have hty := tys1 t hts
    split at hp
    · rename_i e hu
      cases hp
      obtain ⟨s, ex, h1⟩ := onOne_elim hz (show T (oCap z tm mu n x k) from h)
      cases s <;> first | exact (hz h1).elim | exact ⟨_, _, _, h1, sound_cap ho hcal hty ha hu hx0 ex (.inl rfl)⟩ | exact ⟨_, _, _, h1, sound_cap ho hcal hty ha hu hx0 ex (.inr rfl)⟩
    · cases hp
  · rename_i t u x y
    split at hp
    · rename_i e e' hut huu
      split at hp
      · rename_i s bb zs hs hb hzs
        split at hp
        · rename_i hs0
          cases hp
          exact appCase t u x y e s bb zs hts rfl hut (.inl ⟨e', huu⟩) hs hb hzs (by simpa using hs0) rfl h
        · cases hp
      · cases hp
    · rename_i e hut huu
      split at hp
      · rename_i s bb zs hs hb hzs
        split at hp
        · rename_i hs0
          cases hp
          exact appCase t u x y e s bb zs hts rfl hut (.inr huu) hs hb hzs (by simpa using hs0) rfl h
        · cases hp
      · cases hp
    · cases hp
  · rename_i t u x y
    obtain ⟨x0, y0, ha, hx0, hy0⟩ := arg2 x y rfl
    have hty := tys2 t u hts
    split at hp
    · rename_i e hu
      split at hp
      · rename_i s hs
        split at hp
        · rename_i hs0
          cases hp
          obtain ⟨sx, ex, h1⟩ := onOne_elim hz (show T (oCopy z fz tm mu n s x y k) from h)
          obtain ⟨id, off, len, cap, s', e2, h2⟩ := onSl_elim hz h1
          subst e2
          obtain ⟨sy, ey, h3⟩ := onOne_elim hz h2
          obtain ⟨hss, h4⟩ := cond_elim hz h3
          have hss' : s' = s := beq_yes hss
          subst hss'
          obtain ⟨src, cnt, hsrc, h5⟩ := srcK_elim (P := P) (val := val) hz h4
          rw [fN_eq] at h5
          obtain ⟨h6, h7⟩ := takeK_elim hz h5
          obtain ⟨hk, h8⟩ := cond_elim hz (show T (cond (knownAll (src.take (Nat.mul (Nat.min cnt len) s'))) (onLook mu id z fun cs => overK cs off (src.take (Nat.mul (Nat.min cnt len) s')) z fun cs => putK mu id cs fun mu => k (.one (.int .i64 (Int.ofNat (Nat.min cnt len)))) mu n) z) from h7)
          obtain ⟨known, hl, h9⟩ := onLook_elim hz h8
          obtain ⟨hb, h10⟩ := overK_elim hz h9
          rw [putK_eq] at h10
          exact ⟨_, _, _, h10, sound_copy ho hcal hty ha hu hs hx0 hy0 ex ey hsrc hk hl hb⟩
        · cases hp
      · cases hp
    · cases hp
  · rename_i t ts' x xs
    split at hp
    · cases hp
      obtain ⟨s, ex, h1⟩ := onOne_elim hz (show T (oMax orc z tm mu n x xs k) from h)
      obtain ⟨r, h3, h4⟩ := sound_max (P := P) (val := val) (fz := fz) (mu := mu) (n := n) hz hk ho hcal hys ex h1
      exact ⟨_, _, _, h3, h4⟩
    · cases hp
  · rename_i t ts' x xs
    split at hp
    · cases hp
      obtain ⟨s, ex, h1⟩ := onOne_elim hz (show T (oMin orc z tm mu n x xs k) from h)
      obtain ⟨r, h3, h4⟩ := sound_min (P := P) (val := val) (fz := fz) (mu := mu) (n := n) hz hk ho hcal hys ex h1
      exact ⟨_, _, _, h3, h4⟩
    · cases hp
  · cases hp

theorem aop_bin (hz : ¬ T z) (hk : OrcOk T val orc) {ro : Bool} {op : BinOp} {t u : TypeId} {x y : Operand} {x' y' : Od} {aopr : AOp} {k : KT R} (ho : o.op = .binOp op t x y u) (hx : od P x = some x') (hy : od P y = some y')
    (hp : prepBin P op t u x' y' = some aopr) (h : T (aop orc z call fz tm mu n ro aopr k)) : ∃ v mu' n', T (k v mu' n') ∧ Sound P val fz tm mu n o v mu' n' := by
  have eqn : ∀ (sl neg : Bool), o.op = .binOp (if neg then .neq else .eql) t x y u → ((sl = true ∧ ∃ e, P.underlying t = some (.slice e)) ∨ (sl = false ∧ ∃ e, P.underlying t = some (.pointer e))) → T (oEqn z tm mu n sl neg x' y' k) →
      ∃ v mu' n', T (k v mu' n') ∧ Sound P val fz tm mu n o v mu' n' := by
    intro sl neg ho hu h
    obtain ⟨s1, e1, h1⟩ := onOne_elim hz h
    obtain ⟨s2, e2, h2⟩ := onOne_elim hz h1
    obtain ⟨a, ha, h3⟩ := option_elim hz h2
    obtain ⟨b, hb, h4⟩ := option_elim hz h3
    obtain ⟨hab, h5⟩ := cond_elim hz h4
    rw [fB_eq] at h5
    exact ⟨_, _, _, h5, sound_eqn ho hu hx hy e1 e2 ha hb hab⟩
  have eqb : ∀ (neg : Bool), o.op = .binOp (if neg then .neq else .eql) t x y u → P.underlying t = some .bool → T (oEqb z tm mu n neg x' y' k) → ∃ v mu' n', T (k v mu' n') ∧ Sound P val fz tm mu n o v mu' n' := by
    intro neg ho hu h
    obtain ⟨s1, e1, h1⟩ := onOne_elim hz h
    obtain ⟨a, e2, h2⟩ := onBool_elim hz h1
    subst e2
    obtain ⟨s2, e3, h3⟩ := onOne_elim hz h2
    obtain ⟨b, e4, h4⟩ := onBool_elim hz h3
    subst e4
    rw [fB_eq] at h4
    exact ⟨_, _, _, h4, sound_eqb ho hu hx hy e1 e3⟩
  have num : T (oBin orc z tm mu n op x' y' k) → ∃ v mu' n', T (k v mu' n') ∧ Sound P val fz tm mu n o v mu' n' := by
    intro h
    obtain ⟨s1, e1, h1⟩ := onOne_elim hz h
    obtain ⟨s2, e2, h2⟩ := onOne_elim hz h1
    cases s2 with
    | int kd' b =>
      cases s1 with
      | int kd a =>
        obtain ⟨hkd, h4⟩ := cond_elim hz (show T (cond (IntKind.eqb kd kd') (binI op kd a b z fun r => k (.one r) mu n) z) from h2)
        have := eqb_eq hkd
        subst this
        obtain ⟨s, hs, h5⟩ := binI_elim hz h4
        exact ⟨_, _, _, h5, sound_bin ho hx hy e1 e2 hs⟩
      | sym kd i =>
        obtain ⟨hkd, h4⟩ := cond_elim hz (show T (cond (IntKind.eqb kd kd') (orc.bin op kd i b fun r => fSV r fun r => k (.one r) mu n) z) from h2)
        have := eqb_eq hkd
        subst this
        obtain ⟨s, s', hs, he, h5⟩ := hk.bin _ _ _ _ _ h4
        rw [fSV_eq] at h5
        exact ⟨_, _, _, h5, sound_binS ho hx hy (.inr ⟨i, e1, rfl⟩) (.inl e2) hs he⟩
      | _ => exact (hz h2).elim
    | sym kd' j =>
      cases s1 with
      | int kd a =>
        obtain ⟨hkd, h4⟩ := cond_elim hz (show T (cond (IntKind.eqb kd kd') (orc.nib op kd a j fun r => fSV r fun r => k (.one r) mu n) z) from h2)
        have := eqb_eq hkd
        subst this
        obtain ⟨s, s', hs, he, h5⟩ := hk.nib _ _ _ _ _ h4
        rw [fSV_eq] at h5
        exact ⟨_, _, _, h5, sound_binS ho hx hy (.inl e1) (.inr ⟨j, e2, rfl⟩) hs he⟩
      | sym kd i =>
        obtain ⟨hkd, h4⟩ := cond_elim hz (show T (cond (IntKind.eqb kd kd') (orc.force j fun v => orc.bin op kd i v fun r => fSV r fun r => k (.one r) mu n) z) from h2)
        have := eqb_eq hkd
        subst this
        obtain ⟨s, s', hs, he, h5⟩ := hk.bin _ _ _ _ _ (hk.force _ _ h4)
        rw [fSV_eq] at h5
        exact ⟨_, _, _, h5, sound_binS ho hx hy (.inr ⟨i, e1, rfl⟩) (.inr ⟨j, e2, rfl⟩) hs he⟩
      | _ => exact (hz h2).elim
    | _ => exact (hz h2).elim
  have shf : ∀ left : Bool, o.op = .binOp (if left then .shl else .shr) t x y u → T (forceK orc tm x' fun tm => forceK orc tm y' fun tm => oShift z tm mu n left x' y' k) → ∃ v mu' n', T (k v mu' n') ∧ Sound P val fz tm mu n o v mu' n' := by
    intro left ho h
    obtain ⟨tm1, h, hf1⟩ := forceK_elim hk h
    obtain ⟨tm2, h, hf2⟩ := forceK_elim hk h
    obtain ⟨s1, e1, h1⟩ := onOne_elim hz h
    obtain ⟨kd, a, e2, h2⟩ := onInt_elim hz h1
    subst e2
    obtain ⟨s2, e3, h3⟩ := onOne_elim hz h2
    obtain ⟨kd', b, e4, h4⟩ := onInt_elim hz h3
    subst e4
    obtain ⟨hb, h5⟩ := cond_elim' hz (show T (cond (ltI b 0) z (cond left (fI (kd.wrap (a * 2 ^ min b.toNat kd.bits)) fun n' => k (.one (.int kd n')) mu n) (fI (a.fdiv (2 ^ min b.toNat kd.bits)) fun n' => k (.one (.int kd n')) mu n))) from h4)
    rw [ltI_eq] at hb
    have hb' : ¬ b < 0 := by simpa using hb
    simp only [fI_eq] at h5
    refine ⟨_, _, _, ?_, sound_fwd (hf1.trans hf2) (sound_shift ho hx hy e1 e3 hb')⟩
    cases left <;> exact h5
  unfold prepBin at hp
  split at hp
  · split at hp
    · cases hp; exact shf true ho h
    · cases hp; exact shf false ho h
    · cases hp
    · cases hp
    · cases hp; exact num h
  · cases hp
    obtain ⟨s1, e1, h1⟩ := onOne_elim hz (show T (oSbin z tm mu n op x' y' k) from h)
    obtain ⟨a, e2, h2⟩ := onStr_elim hz h1
    subst e2
    obtain ⟨s2, e3, h3⟩ := onOne_elim hz h2
    obtain ⟨b, e4, h4⟩ := onStr_elim hz h3
    subst e4
    obtain ⟨s, hs, h5⟩ := option_elim hz h4
    exact ⟨_, _, _, h5, sound_sbin ho hx hy e1 e3 hs⟩
  · rename_i hu
    split at hp
    · cases hp; exact eqb false ho hu h
    · cases hp; exact eqb true ho hu h
    · cases hp
  · rename_i e hu
    split at hp
    · cases hp
    · split at hp
      · cases hp; exact eqn true false ho (.inl ⟨rfl, e, hu⟩) h
      · cases hp; exact eqn true true ho (.inl ⟨rfl, e, hu⟩) h
      · cases hp
  · rename_i e hu
    split at hp
    · cases hp
    · split at hp
      · cases hp; exact eqn false false ho (.inr ⟨rfl, e, hu⟩) h
      · cases hp; exact eqn false true ho (.inr ⟨rfl, e, hu⟩) h
      · cases hp
  · cases hp
end
end Go.Ev
