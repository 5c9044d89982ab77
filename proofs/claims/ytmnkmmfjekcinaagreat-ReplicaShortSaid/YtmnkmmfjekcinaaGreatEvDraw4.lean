/-
  Regions whose order is open: what the static check says, and the parts that an operation may look at.
-/
import Derived.Test.YtmnkmmfjekcinaaGreatEvDraw3
set_option linter.unusedVariables false
set_option linter.unusedSimpArgs false
namespace Go.Ev

structure ROK (ops : List Oper) (al : List AOper) : Prop where
  back : ∀ (i : Nat) oc o, ops[i]? = some oc → al[i]? = some o → ∀ e ∈ oc.after.toList, Region.binds .any e = true → e.on < i
  anc : ∀ (i : Nat) oc o, ops[i]? = some oc → al[i]? = some o → ∀ j ∈ o.anc, ∃ e ∈ oc.after.toList, Region.binds .any e = true ∧ (e.on = j ∨ ∃ p, al[e.on]? = some p ∧ j ∈ p.anc)
  mode : ∀ (i : Nat) oc o, ops[i]? = some oc → al[i]? = some o → o.mode ≤ 4
  pair : ∀ (i j : Nat) oc o p, ops[i]? = some oc → al[i]? = some o → al[j]? = some p → i ≠ j →
    (j < i ∧ j ∈ o.anc ∨ i < j ∧ i ∈ p.anc) ∨ ((∀ t, o.dst = some t → p.dst ≠ some t) ∧ (∀ t, p.dst = some t → t ∉ looksC oc o.g) ∧ ∀ c ∈ aff al j p, c ∉ rds al i o ∧ c ∉ aff al i o)

theorem rok_of {ops : List Oper} {al : List AOper} (h : regOk ops al = true) : ROK ops al := by
  have key : ∀ (i : Nat) oc o, ops[i]? = some oc → al[i]? = some o → oneOk al i oc o = true ∧ ∀ (j : Nat) p, al[j]? = some p → pairOk al i oc o j p = true := by
    intro i oc o h1 h2
    unfold regOk at h
    rw [List.all_eq_true] at h
    have hz : (ops.zip al)[i]? = some (oc, o) := by rw [List.getElem?_zip_eq_some]; exact ⟨h1, h2⟩
    have hm : ((oc, o), i) ∈ (ops.zip al).zipIdx := List.mem_zipIdx_iff_getElem?.2 hz
    have := h _ hm
    simp only [Bool.and_eq_true] at this
    refine ⟨this.1, fun j p hp => ?_⟩
    have h3 := this.2
    rw [List.all_eq_true] at h3
    exact h3 (p, j) (List.mem_zipIdx_iff_getElem?.2 hp)
  refine ⟨fun i oc o h1 h2 e he hb => ?_, fun i oc o h1 h2 j hj => ?_, fun i oc o h1 h2 => ?_, fun i j oc o p h1 h2 h3 hne => ?_⟩
  · have := (key i oc o h1 h2).1
    simp only [oneOk, Bool.and_eq_true, List.all_eq_true] at this
    have h4 := this.1.1.2 e he
    rw [hb] at h4
    simpa [Nat.blt_eq] using h4
  · have := (key i oc o h1 h2).1
    simp only [oneOk, Bool.and_eq_true, List.all_eq_true] at this
    have h4 := this.1.2 j hj
    rw [List.any_eq_true] at h4
    obtain ⟨e, he, h5⟩ := h4
    simp only [Bool.and_eq_true, Bool.or_eq_true, beq_iff_eq] at h5
    refine ⟨e, he, h5.1, h5.2.imp id fun h6 => ?_⟩
    split at h6
    · rename_i p hp; exact ⟨p, hp, by simpa using h6⟩
    · cases h6
  · have := (key i oc o h1 h2).1
    simp only [oneOk, Bool.and_eq_true, Nat.ble_eq] at this
    exact this.1.1.1
  · have := (key i oc o h1 h2).2 j p h3
    simp only [pairOk, Bool.or_eq_true, Bool.and_eq_true, beq_iff_eq, hne, false_or, ordered, Nat.blt_eq, List.contains_iff_mem] at this
    rcases this with h4 | ⟨⟨h5, h6⟩, h7⟩
    · exact .inl h4
    · refine .inr ⟨fun t ht hp => ?_, fun t ht hm => ?_, fun c hc => ?_⟩
      · rw [ht, hp] at h5; simp at h5
      · rw [ht] at h6; simp [hm] at h6
      · simp only [Bool.not_eq_true', List.any_eq_false, Bool.or_eq_true, List.contains_iff_mem, not_or] at h7
        exact h7 c hc

theorem ROK.lt {ops : List Oper} {al : List AOper} (h : ROK ops al) (hl : ops.length = al.length) : ∀ (i : Nat) o, al[i]? = some o → ∀ j ∈ o.anc, j < i := by
  intro i
  induction i using Nat.strongRecOn with
  | ind i ih =>
    intro o ho j hj
    have hi := (List.getElem?_eq_some_iff.1 ho).1
    obtain ⟨oc, hoc⟩ : ∃ oc, ops[i]? = some oc := ⟨ops[i], List.getElem?_eq_getElem (by omega)⟩
    obtain ⟨e, he, hb, h1⟩ := h.anc i oc o hoc ho j hj
    have h2 := h.back i oc o hoc ho e he hb
    rcases h1 with rfl | ⟨p, hp, h3⟩
    · exact h2
    · exact Nat.lt_trans (ih e.on h2 p hp j h3) h2

/-- Parts that something may stand in. -/
def live (al : List AOper) (c : Nat) : Prop := c = 0 ∨ ∃ (k : Nat) (p : AOper), c = k + 1 ∧ al[k]? = some p ∧ p.mode ≠ 0 ∧ p.mode ≠ 2

theorem mem_ancMem {al : List AOper} {o : AOper} {k : Nat} {p : AOper} (hk : k ∈ o.anc) (hp : al[k]? = some p) (h0 : p.mode ≠ 0) (h2 : p.mode ≠ 2) : k ∈ ancMem al o := by
  unfold ancMem
  rw [List.mem_filter]
  exact ⟨hk, by simp [hp, h0, h2]⟩
theorem target_live {al : List AOper} {i : Nat} {o : AOper} (ho : al[i]? = some o) (h0 : o.mode ≠ 0) : live al (target o i) := by
  unfold target
  split
  · exact .inl rfl
  · rename_i h2; exact .inr ⟨i, o, rfl, ho, h0, h2⟩
theorem takes_aff {al : List AOper} {i : Nat} {o : AOper} {c : Nat} (hm : o.mode ≤ 4) (hl : live al c) (hc : c ∈ takes o i) : c ∈ aff al i o := by
  have hmode : o.mode = 0 ∨ o.mode = 1 ∨ o.mode = 2 ∨ o.mode = 3 ∨ o.mode = 4 := by omega
  have anc : ∀ c, live al c → c ∈ sucs o.anc → c ∈ (ancMem al o).map (· + 1) := by
    intro c hl hc
    rcases hl with rfl | ⟨k, p, rfl, h1, h2, h3⟩
    · exact (zero_sucs hc).elim
    · exact List.mem_map.2 ⟨k, mem_ancMem (mem_sucs.1 hc) h1 h2 h3, rfl⟩
  rcases hmode with h | h | h | h | h <;> simp [takes, h] at hc
  · rcases hc with hc | hc
    · simp only [aff, h, List.mem_cons]; exact .inr (anc c hl hc)
    · simp [aff, h, hc]
  · rcases hc with hc | hc
    · simp [aff, h, hc]
    · simp only [aff, h, List.mem_cons]; exact .inr (anc c hl hc)
theorem affC_aff {al : List AOper} {i : Nat} {o : AOper} {r : Rec} {c : Nat} (hm : o.mode ≤ 4) (hl : live al c) (h : affC o i r c) : c ∈ aff al i o := by
  obtain ⟨_, h0, h1 | h1⟩ := h
  · have hmode : o.mode = 1 ∨ o.mode = 2 ∨ o.mode = 3 ∨ o.mode = 4 := by omega
    rcases hmode with h | h | h | h <;> simp [target, h] at h1 <;> simp [aff, h, h1]
  · exact takes_aff hm hl h1

/-- What an operation is handed. -/
def reads (o : AOper) (i : Nat) : List Nat := if o.mode = 1 then 0 :: sucs o.anc else takes o i
theorem reads_rds {al : List AOper} {i : Nat} {o : AOper} {c : Nat} (hm : o.mode ≤ 4) (hl : live al c) (hc : c ∈ reads o i) : c ∈ rds al i o := by
  unfold reads at hc
  split at hc
  · rename_i h
    simp only [List.mem_cons] at hc
    simp only [rds, h, List.mem_cons]
    refine hc.imp id fun hc => ?_
    rcases hl with rfl | ⟨k, p, rfl, h1, h2, h3⟩
    · exact (zero_sucs hc).elim
    · exact List.mem_map.2 ⟨k, mem_ancMem (mem_sucs.1 hc) h1 h2 h3, rfl⟩
  · rename_i h
    have := takes_aff hm hl hc
    unfold rds
    split
    · rename_i h'; exact (h h').elim
    · exact this
theorem cat_congr {comp comp' : Nat → St} {l : List Nat} (h : ∀ c ∈ l, comp c = comp' c) : cat comp l = cat comp' l := by
  induction l with
  | nil => rfl
  | cons c r ih => simp only [cat]; rw [h c (by simp), ih fun c hc => h c (by simp [hc])]
theorem muv_congr {o : AOper} {i : Nat} {comp comp' : Nat → St} (h : ∀ c ∈ reads o i, comp c = comp' c) : muv o i comp = muv o i comp' := by
  unfold muv
  by_cases h1 : o.mode = 1
  · simp [takes, h1, cat]
  · exact cat_congr fun c hc => h c (by simp [reads, h1, hc])
theorem fzv_congr {fz : Fz} {o : AOper} {i : Nat} {comp comp' : Nat → St} (h : ∀ c ∈ reads o i, comp c = comp' c) : fzv fz o comp = fzv fz o comp' := by
  unfold fzv
  split
  · rename_i h1
    rw [h 0 (by simp [reads, h1]), cat_congr (comp := comp) (comp' := comp') fun c hc => h c (by simp [reads, h1, hc])]
  · rfl

section
variable {P : Program} {val : Nat → Int} {fz : Fz}
theorem CInv.rel {ρ : Rho} {comp : Nat → St} {w : World} (h : CInv val ρ fz comp w) (o : AOper) (i : Nat) : Rel val ρ (fzv fz o comp) (muv o i comp) w := by
  unfold fzv muv
  split
  · rename_i h1
    have : takes o i = [] := by simp [takes, h1]
    rw [this]
    exact h.ro _ _
  · split
    · exact h.take _
    · exact (h.take _).noFz

theorem GuardF.congr {g : Option (Nat × Nat × Bool)} {tm tm' : TM} {b : Bool} (h : ∀ q r x, g = some (q, r, x) → get tm q r = get tm' q r) (hg : GuardF g tm b) : GuardF g tm' b := by
  cases g with
  | none => exact hg
  | some p =>
    obtain ⟨q, r, want⟩ := p
    have := h q r want rfl
    simp only [GuardF] at *
    rw [← this]; exact hg

theorem OperR.of {ρ : Rho} {w : World} {tm tm' : TM} {a : Act} {oc : Oper} {g : Option (Nat × Nat × Bool)} (ht : TmR val ρ w tm a) (h : ∀ q r, (q, r) ∈ looksC oc g → get tm q r = get tm' q r) : OperR P val ρ w tm' a oc.op := by
  intro x y hx hy
  have h0 := ht.oper (P := P) oc.op x y hx hy
  cases x with
  | tmp t =>
    simp [od] at hy; subst hy
    have e : get tm (t / 16) (t % 16) = get tm' (t / 16) (t % 16) := h _ _ (by
      unfold looksC
      refine List.mem_append_left _ (List.mem_filterMap.2 ⟨.tmp t, by simpa using hx, rfl⟩))
    show AVR val ρ w (get tm' (t / 16) (t % 16)) _
    rw [← e]
    exact h0
  | const v =>
    obtain ⟨v', hv', rfl⟩ := Option.map_eq_some_iff.1 hy
    exact h0
  | global g => cases hy
  | func f =>
    simp only [od] at hy
    split at hy
    · cases hy; exact h0
    · cases hy
end
end Go.Ev
