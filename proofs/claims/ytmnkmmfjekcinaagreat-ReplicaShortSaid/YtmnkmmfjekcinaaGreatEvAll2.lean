/-
  All operations together: the one theorem.
-/
import Derived.Test.YtmnkmmfjekcinaaGreatEvAll
set_option linter.unusedVariables false
set_option linter.unusedSimpArgs false
namespace Go.Ev
section
variable {R : Type} {T : R → Prop} {z : R} {P : Program} {val : Nat → Int} {fz : Fz} {tm : TM} {mu : St} {n : Nat} {o : Oper} {orc : Orc R} {call : CallT R}

theorem aop_sound (hz : ¬ T z) (hc : CallSound T P val call) (hk : OrcOk T val orc) {ro : Bool} {op : AOp} {k : KT R} (hp : prepOp P o.op = some op) (h : T (aop orc z call fz tm mu n ro op k)) :
    ∃ v mu' n', T (k v mu' n') ∧ Sound P val fz tm mu n o v mu' n' := by
  cases ho : o.op with
  | move x =>
    rw [ho] at hp
    obtain ⟨y, hy, rfl⟩ := Option.map_eq_some_iff.1 hp
    exact ⟨_, _, _, h, sound_mv (.inl ho) hy⟩
  | assign x =>
    rw [ho] at hp
    obtain ⟨y, hy, rfl⟩ := Option.map_eq_some_iff.1 hp
    exact ⟨_, _, _, h, sound_mv (.inr ho) hy⟩
  | pick c a b =>
    rw [ho] at hp
    simp only [prepOp] at hp
    split at hp
    · rename_i c' a' b' hc' ha hb
      cases hp
      obtain ⟨s, e1, h1⟩ := onOne_elim hz (show T (oPick z tm mu n c' a' b' k) from h)
      obtain ⟨t, e2, h2⟩ := onBool_elim hz h1
      subst e2
      refine ⟨_, _, _, ?_, sound_pick ho hc' ha hb e1⟩
      cases t <;> exact h2
    · cases hp
  | alloc t =>
    rw [ho] at hp
    obtain ⟨zs, hzs, rfl⟩ := Option.map_eq_some_iff.1 hp
    have h1 : T (fN (Nat.succ n) fun m => k (.one (.optr n 0)) ((n, zs) :: mu) m) := h
    rw [fN_eq] at h1
    exact ⟨_, _, _, h1, sound_alloc ho hzs⟩
  | box t x =>
    rw [ho] at hp
    obtain ⟨y, hy, rfl⟩ := Option.map_eq_some_iff.1 hp
    obtain ⟨l, e1, h1⟩ := onCells_elim hz (show T (oBox z tm mu n y k) from h)
    obtain ⟨hkn, h2⟩ := cond_elim hz h1
    have h3 : T (fN (Nat.succ n) fun m => k (.one (.optr n 0)) ((n, l) :: mu) m) := h2
    rw [fN_eq] at h3
    exact ⟨_, _, _, h3, sound_box ho hy e1 hkn⟩
  | build t parts =>
    rw [ho] at hp
    simp only [prepOp] at hp
    split at hp
    · rename_i fs zs hu hzs
      split at hp
      · rename_i hall
        obtain ⟨qs, hq, rfl⟩ := Option.map_eq_some_iff.1 hp
        obtain ⟨cs, h1, h2⟩ := sound_build (P := P) (val := val) (fz := fz) (mu := mu) (n := n) hz ho hu hzs hall hq (show T (fill z tm qs zs fun cs => k (.ag cs) mu n) from h)
        exact ⟨_, _, _, h1, h2⟩
      · cases hp
    · cases hp
  | buildSlice t len parts =>
    rw [ho] at hp
    simp only [prepOp] at hp
    split at hp
    · rename_i e hu
      split at hp
      · rename_i s zs hs hzs
        split at hp
        · rename_i hc0
          simp only [Bool.and_eq_true] at hc0
          obtain ⟨qs, hq, rfl⟩ := Option.map_eq_some_iff.1 hp
          have h1 : T (copyK (rep zs len) fun cs => fill z tm qs cs fun cs => fN (Nat.succ n) fun m => k (.one (.osl n 0 len len s)) ((n, cs) :: mu) m) := h
          rw [copyK_eq] at h1
          obtain ⟨cs, h2, h3⟩ := sound_bslice (P := P) (val := val) (fz := fz) (mu := mu) (n := n) hz ho hu hs (by simpa using hc0.1) (Nat.le_of_ble_eq_true hc0.2) hzs hq h1
          rw [fN_eq] at h2
          exact ⟨_, _, _, h2, h3⟩
        · cases hp
      · cases hp
    · cases hp
  | load t x =>
    rw [ho] at hp
    simp only [prepOp] at hp
    split at hp
    · rename_i a m y ha hs hy
      split at hp
      · cases hp
        obtain ⟨s, e1, h1⟩ := onOne_elim hz (show T (oLoad z fz tm mu n a m y k) from h)
        obtain ⟨id, off, e2, h2⟩ := onPtr_elim hz h1
        subst e2
        obtain ⟨cs, hl, h3⟩ := lookAll_elim hz h2
        obtain ⟨hb, h4⟩ := subK_elim hz h3
        obtain ⟨v, hv, h5⟩ := asRes_elim hz h4
        exact ⟨_, _, _, h5, sound_load ho ha hs hy e1 hl hb hv⟩
      · cases hp
    · cases hp
  | store t x v =>
    rw [ho] at hp
    simp only [prepOp] at hp
    split at hp
    · rename_i m y u hs hy hu
      cases hp
      obtain ⟨s, e1, h1⟩ := onOne_elim hz (show T (oStore z tm mu n m y u k) from h)
      obtain ⟨id, off, e2, h2⟩ := onPtr_elim hz h1
      subst e2
      obtain ⟨vs, e3, h3⟩ := onCells_elim hz h2
      rw [lenK_eq] at h3
      obtain ⟨hm, h4⟩ := cond_elim hz h3
      obtain ⟨hkn, h5⟩ := cond_elim hz (show T (cond (knownAll vs) (onLook mu id z fun cs => overK cs off vs z fun cs => putK mu id cs fun mu => k noVal mu n) z) from h4)
      obtain ⟨cs, hl, h6⟩ := onLook_elim hz h5
      obtain ⟨hb, h7⟩ := overK_elim hz h6
      rw [putK_eq] at h7
      exact ⟨_, _, _, h7, sound_store ho hs hy hu e1 e3 (by have := beq_yes hm; omega) hkn hl hb⟩
    · cases hp
  | nilCheck x =>
    rw [ho] at hp
    obtain ⟨y, hy, rfl⟩ := Option.map_eq_some_iff.1 hp
    obtain ⟨s, e1, h1⟩ := onOne_elim hz (show T (oNilc z tm mu n y k) from h)
    cases s <;> first | exact (hz h1).elim | exact ⟨_, _, _, h1, sound_nilc ho hy e1 (.inl ⟨_, _, rfl⟩)⟩ | exact ⟨_, _, _, h1, sound_nilc ho hy e1 (.inr ⟨_, _, rfl⟩)⟩
  | binOp op' t x y u =>
    rw [ho] at hp
    simp only [prepOp] at hp
    split at hp
    · rename_i x' y' hx hy
      exact aop_bin hz hk ho hx hy hp h
    · cases hp
  | unOp op' t x =>
    rw [ho] at hp
    simp only [prepOp] at hp
    split at hp
    · rename_i y hy
      cases hp
      obtain ⟨s, e1, h1⟩ := onOne_elim hz (show T (oNot z tm mu n y k) from h)
      obtain ⟨b, e2, h2⟩ := onBool_elim hz h1
      subst e2
      rw [fB_eq] at h2
      exact ⟨_, _, _, h2, sound_not ho hy e1⟩
    · rename_i y hy
      cases hp
      obtain ⟨tm1, h, hf⟩ := forceK_elim hk (show T (forceK orc tm y fun tm => oNeg z tm mu n y k) from h)
      obtain ⟨s, e1, h1⟩ := onOne_elim hz (show T (oNeg z tm1 mu n y k) from h)
      obtain ⟨kd, b, e2, h2⟩ := onInt_elim hz h1
      subst e2
      rw [fI_eq] at h2
      exact ⟨_, _, _, h2, sound_fwd hf (sound_neg ho hy e1)⟩
    · cases hp
  | convert t u x =>
    rw [ho] at hp
    simp only [prepOp] at hp
    split at hp
    · rename_i k' kd y ht hu hy
      cases hp
      obtain ⟨s, e1, h1⟩ := onOne_elim hz (show T (oConv orc z tm mu n kd y k) from h)
      cases s with
      | int ka a =>
        have h2 : T (wrapK kd a fun r => k (.one (.int kd r)) mu n) := h1
        rw [wrapK_eq] at h2
        exact ⟨_, _, _, h2, sound_conv ho ht hu hy e1⟩
      | sym ka i =>
        obtain ⟨s, hs, h2⟩ := hk.conv _ _ _ (show T (orc.conv kd i fun r => fSV r fun r => k (.one r) mu n) from h1)
        rw [fSV_eq] at h2
        exact ⟨_, _, _, h2, sound_convSym ho ht hu hy e1 hs⟩
      | _ => exact (hz h1).elim
    · cases hp
  | makeFunc f first caps =>
    rw [ho] at hp
    cases f with
    | func f =>
      simp only [prepOp] at hp
      split at hp
      · rename_i hc0
        simp only [Bool.and_eq_true] at hc0
        obtain ⟨ys, hy, rfl⟩ := Option.map_eq_some_iff.1 hp
        obtain ⟨cs, h1, h2⟩ := capsK_elim hz (show T (capsK z tm ys fun cs => k (.one (.fn f cs)) mu n) from h)
        exact ⟨_, _, _, h2, sound_mkfn ho hc0.1 hy h1⟩
      · cases hp
    | _ => simp [prepOp] at hp
  | makeSlice t l c =>
    rw [ho] at hp
    simp only [prepOp] at hp
    split at hp
    · rename_i e l' c' hu hl hc'
      split at hp
      · rename_i s b zs hs hb hzs
        split at hp
        · rename_i hs0
          cases hp
          obtain ⟨tm1, h, hf1⟩ := forceK_elim hk (show T (forceK orc tm l' fun tm => forceK orc tm c' fun tm => oMkslice z tm mu n s b zs l' c' k) from h)
          obtain ⟨tm2, h, hf2⟩ := forceK_elim hk h
          obtain ⟨s1, e1, h1⟩ := onOne_elim hz (show T (oMkslice z tm2 mu n s b zs l' c' k) from h)
          obtain ⟨ka, x, e2, h2⟩ := onInt_elim hz h1
          subst e2
          obtain ⟨s2, e3, h3⟩ := onOne_elim hz h2
          obtain ⟨kb, y, e4, h4⟩ := onInt_elim hz h3
          subst e4
          obtain ⟨hcond, h5⟩ := cond_elim hz h4
          simp only [Bool.and_eq_true, ltI_eq, Bool.not_eq_true', decide_eq_false_iff_not] at hcond
          obtain ⟨⟨⟨⟨k1, k2⟩, k3⟩, k4⟩, k5⟩ := hcond
          have hka := eqb_eq k1
          have hkb := eqb_eq k2
          subst hka; subst hkb
          simp only [fN_eq, copyK_eq] at h5
          exact ⟨_, _, _, h5, sound_fwd (hf1.trans hf2) (sound_mkslice ho hu hs (by simpa using hs0) hb hzs hl hc' e1 e3 k3 k4 (Nat.le_of_ble_eq_true k5))⟩
        · cases hp
      · cases hp
    · cases hp
  | slice t x lo hi mx =>
    rw [ho] at hp
    have hsome : ∀ {a : Option Operand} {b : Option Od}, odO P a = some b → a.isSome = b.isSome := by
      intro a b hab
      cases a with
      | none => simp [odO] at hab; subst hab; rfl
      | some u => simp only [odO] at hab; obtain ⟨v, _, rfl⟩ := Option.map_eq_some_iff.1 hab; rfl
    simp only [prepOp] at hp
    split at hp
    · rename_i e x' lo' hi' mx' hu hx hlo hhi hmx
      split at hp
      · rename_i s hs
        split at hp
        · cases hp
        · rename_i hcond
          cases hp
          obtain ⟨tm1, h, hf1⟩ := forceO_elim hk (show T (forceO orc tm lo' fun tm => forceO orc tm hi' fun tm => forceO orc tm mx' fun tm => oSlc z tm mu n false s x' lo' hi' mx' k) from h)
          obtain ⟨tm2, h, hf2⟩ := forceO_elim hk h
          obtain ⟨tm3, h, hf3⟩ := forceO_elim hk h
          obtain ⟨sv, e1, h1⟩ := onOne_elim hz (show T (oSlc z tm3 mu n false s x' lo' hi' mx' k) from h)
          obtain ⟨hst, h2⟩ := cond_elim hz h1
          obtain ⟨r, hr, h3⟩ := option_elim hz h2
          rw [fSV_eq] at h3
          have hns : ∀ b, sv ≠ .str b := fun b e => by subst e; cases hst
          have hmi : mx.isSome = true → hi.isSome = true := fun hm => by
            rw [hsome hmx] at hm
            rw [hsome hhi]
            cases hh : hi' with
            | none => exact (hcond (by simp [hm, hh])).elim
            | some _ => rfl
          exact ⟨_, _, _, h3, sound_fwd ((hf1.trans hf2).trans hf3) (sound_slc ho (.inl ⟨e, hu, hs, hns⟩) hmi hx hlo hhi hmx e1 hr)⟩
      · cases hp
    · rename_i x' lo' hi' mx' hu hx hlo hhi hmx
      split at hp
      · cases hp
      · rename_i hcond
        cases hp
        obtain ⟨tm1, h, hf1⟩ := forceO_elim hk (show T (forceO orc tm lo' fun tm => forceO orc tm hi' fun tm => forceO orc tm mx' fun tm => oSlc z tm mu n true 0 x' lo' hi' mx' k) from h)
        obtain ⟨tm2, h, hf2⟩ := forceO_elim hk h
        obtain ⟨tm3, h, hf3⟩ := forceO_elim hk h
        obtain ⟨sv, e1, h1⟩ := onOne_elim hz (show T (oSlc z tm3 mu n true 0 x' lo' hi' mx' k) from h)
        obtain ⟨hst, h2⟩ := cond_elim hz h1
        obtain ⟨r, hr, h3⟩ := option_elim hz h2
        rw [fSV_eq] at h3
        have hs : ∃ b, sv = .str b := by cases sv <;> first | exact ⟨_, rfl⟩ | cases hst
        have hmi : mx.isSome = true → hi.isSome = true := fun hm => by
          rw [hsome hmx] at hm
          exact (hcond hm).elim
        exact ⟨_, _, _, h3, sound_fwd ((hf1.trans hf2).trans hf3) (sound_slc ho (.inr ⟨hu, hs⟩) hmi hx hlo hhi hmx e1 hr)⟩
    · cases hp
  | fieldAddr t x i =>
    rw [ho] at hp
    simp only [prepOp] at hp
    split at hp
    · rename_i fs y hu hy
      split at hp
      · rename_i f hf
        split at hp
        · rename_i m hs
          split at hp
          · cases hp
          · rename_i hm
            cases hp
            obtain ⟨s, e1, h1⟩ := onOne_elim hz (show T (oFaddr z tm mu n f.offset y k) from h)
            obtain ⟨id, off, e2, h2⟩ := onPtr_elim hz h1
            subst e2
            rw [fN_eq] at h2
            exact ⟨_, _, _, h2, sound_faddr ho hu hf hs (by simpa using hm) hy e1⟩
        · cases hp
      · cases hp
    · cases hp
  | field t x i =>
    rw [ho] at hp
    simp only [prepOp] at hp
    split at hp
    · rename_i fs y hu hy
      split at hp
      · rename_i f hf
        split at hp
        · rename_i a m ha hs
          split at hp
          · rename_i ham
            cases hp
            obtain ⟨cs, e1, h1⟩ := onAg_elim hz (show T (oFld z tm mu n f.offset a m y k) from h)
            obtain ⟨hb, h2⟩ := subK_elim hz h1
            obtain ⟨v, hv, h3⟩ := asRes_elim hz h2
            exact ⟨_, _, _, h3, sound_fld ho hu hf ha hs (fun e => by subst e; simpa using ham) hy e1 hb hv⟩
          · cases hp
        · cases hp
      · cases hp
    · cases hp
  | indexAddr t x i =>
    rw [ho] at hp
    simp only [prepOp] at hp
    split at hp
    · rename_i e x' i' hu hx hi
      obtain ⟨s, hs, rfl⟩ := Option.map_eq_some_iff.1 hp
      obtain ⟨tm1, h, hf⟩ := forceK_elim hk (show T (forceK orc tm i' fun tm => oIaddr z tm mu n s x' i' k) from h)
      obtain ⟨s1, e1, h1⟩ := onOne_elim hz (show T (oIaddr z tm1 mu n s x' i' k) from h)
      obtain ⟨kd, j, e2, h2⟩ := onInt_elim hz h1
      subst e2
      obtain ⟨s2, e3, h3⟩ := onOne_elim hz h2
      obtain ⟨id, off, len, cap, s', e4, h4⟩ := onSl_elim hz h3
      subst e4
      obtain ⟨hcond, h5⟩ := cond_elim hz h4
      simp only [Bool.and_eq_true, ltI_eq, Bool.not_eq_true', decide_eq_false_iff_not, Nat.blt_eq] at hcond
      have hss : s' = s := beq_yes hcond.1.1
      subst hss
      rw [fN_eq] at h5
      exact ⟨_, _, _, h5, sound_fwd hf (sound_iaddr ho hu hs hx hi e3 e1 hcond.1.2 hcond.2)⟩
    · rename_i len e x' i' hu hx hi
      obtain ⟨s, hs, rfl⟩ := Option.map_eq_some_iff.1 hp
      obtain ⟨tm1, h, hf⟩ := forceK_elim hk (show T (forceK orc tm i' fun tm => oIaddrA z tm mu n s len x' i' k) from h)
      obtain ⟨s1, e1, h1⟩ := onOne_elim hz (show T (oIaddrA z tm1 mu n s len x' i' k) from h)
      obtain ⟨kd, j, e2, h2⟩ := onInt_elim hz h1
      subst e2
      obtain ⟨s2, e3, h3⟩ := onOne_elim hz h2
      obtain ⟨id, off, e4, h4⟩ := onPtr_elim hz h3
      subst e4
      obtain ⟨hcond, h5⟩ := cond_elim hz h4
      simp only [Bool.and_eq_true, ltI_eq, Bool.not_eq_true', decide_eq_false_iff_not, Nat.blt_eq] at hcond
      rw [fN_eq] at h5
      exact ⟨_, _, _, h5, sound_fwd hf (sound_iaddrA ho hu hs hx hi e3 e1 hcond.1 hcond.2)⟩
    · cases hp
  | index t x i =>
    rw [ho] at hp
    simp only [prepOp] at hp
    split at hp
    · rename_i x' i' hu hx hi
      cases hp
      obtain ⟨tm1, h, hf⟩ := forceK_elim hk (show T (forceK orc tm i' fun tm => oIdx z tm mu n x' i' k) from h)
      obtain ⟨s1, e1, h1⟩ := onOne_elim hz (show T (oIdx z tm1 mu n x' i' k) from h)
      obtain ⟨kd, j, e2, h2⟩ := onInt_elim hz h1
      subst e2
      obtain ⟨s2, e3, h3⟩ := onOne_elim hz h2
      obtain ⟨b, e4, h4⟩ := onStr_elim hz h3
      subst e4
      obtain ⟨h0, h5⟩ := cond_elim' hz h4
      rw [ltI_eq] at h0
      obtain ⟨c, hc', h6⟩ := option_elim hz h5
      rw [fN_eq] at h6
      exact ⟨_, _, _, h6, sound_fwd hf (sound_idx ho hu hx hi e3 e1 (by simpa using h0) hc')⟩
    · cases hp
  | extract x i =>
    rw [ho] at hp
    obtain ⟨y, hy, rfl⟩ := Option.map_eq_some_iff.1 hp
    obtain ⟨l, e1, h1⟩ := onTp_elim hz (show T (oExtr z tm mu n y i k) from h)
    obtain ⟨c, hl, h2⟩ := nthK_elim hz h1
    refine ⟨cvAV c, mu, n, ?_, sound_extr ho hy e1 hl⟩
    cases c <;> exact h2
  | call c =>
    rw [ho] at hp
    simp only [prepOp] at hp
    split at hp
    · rename_i f args hcal hys
      obtain ⟨f', hf, rfl⟩ := Option.map_eq_some_iff.1 hp
      exact sound_call hz hc ho hcal hf hys h
    · rename_i b args hcal hys
      exact aop_builtin hz hk ho hcal hys hp h
    · cases hp
  | _ => rw [ho] at hp; simp [prepOp] at hp
end
end Go.Ev
