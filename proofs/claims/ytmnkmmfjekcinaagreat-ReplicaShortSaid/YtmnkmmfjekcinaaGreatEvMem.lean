/-
  New blocks, stores, moved blocks: what they do to the relation.
-/
import Derived.Test.YtmnkmmfjekcinaaGreatEvRel
set_option linter.unusedVariables false
set_option linter.unusedSimpArgs false
namespace Go.Ev
section
variable {val : Nat → Int} {ρ : Rho} {fz : Fz} {mu : St} {w : World} {n n' : Nat}

/-- What stands behind an operation or a call. -/
def Post (val : Nat → Int) (ρ : Rho) (fz : Fz) (mu : St) (n : Nat) (w : World) (v : AV) (mu' : St) (n' : Nat) (x : Value) (w' : World) : Prop :=
  ∃ ρ', Ext ρ ρ' n n' ∧ Rel val ρ' fz mu' w' ∧ AVR val ρ' w' v x ∧ Fr ρ mu w w' ∧ NewB ρ ρ' mu mu' w ∧ NewI mu mu' n n'

theorem NewB.refl : NewB ρ ρ mu mu w := fun id p hl hp => .inr ⟨id, p, hl, hp, rfl⟩
theorem NewI.refl : NewI mu mu n n' := fun _ h => .inl h

theorem post_same {v : AV} {x : Value} (hr : Rel val ρ fz mu w) (h : AVR val ρ w v x) : Post val ρ fz mu n w v mu n x w :=
  ⟨ρ, Ext.refl _ _ _, hr, h, Fr.refl _ _ _, NewB.refl, NewI.refl⟩

/-- A world with the same memory. -/
structure Like (w w1 : World) : Prop where
  heap : w1.heap = w.heap
  os : w1.os = w.os
  tape : w1.tape = w.tape
  output : w1.output = w.output
theorem Like.refl (w : World) : Like w w := ⟨rfl, rfl, rfl, rfl⟩
theorem Like.drew (w : World) : Like w w.drew := ⟨rfl, rfl, rfl, rfl⟩
theorem Like.bsize {w1 : World} (h : Like w w1) (b : Nat) : bsize w1 b = bsize w b := by unfold Ev.bsize; rw [h.heap]
theorem Like.cell {w1 : World} (h : Like w w1) (a : Addr) : w1.cell? a = w.cell? a := by unfold World.cell?; rw [h.heap]

def upd (ρ : Rho) (n : Nat) (p : Nat × Nat) : Rho := fun id => if id = n then some p else ρ id
theorem upd_same (ρ : Rho) (n : Nat) (p : Nat × Nat) : upd ρ n p n = some p := by simp [upd]
theorem upd_old {p : Nat × Nat} (h : ρ n = none) (id : Nat) (q : Nat × Nat) (hq : ρ id = some q) : upd ρ n p id = some q := by
  unfold upd
  split
  · subst_vars; rw [h] at hq; cases hq
  · exact hq
theorem upd_ext {p : Nat × Nat} (h : ρ n = none) : Ext ρ (upd ρ n p) n (n + 1) :=
  ⟨fun id q hq => upd_old h id q hq, fun id q hq => by
    unfold upd at hq
    split at hq
    · subst_vars; exact .inr ⟨Nat.le_refl _, Nat.lt_succ_self _⟩
    · exact .inl hq⟩

/-- A new block. -/
theorem new_block {w1 : World} (hl : Like w w1) (hr : Rel val ρ fz mu w) (hn : ρ n = none) {cs : List SV} {C : Array Value} {ty : TypeId}
    (hc : cs.length ≤ C.size) (hv : ∀ (i : Nat) s, cs[i]? = some s → ∃ v, C[i]? = some v ∧ VR val ρ w s v) :
    Ext ρ (upd ρ n (w.heap.size, 0)) n (n + 1) ∧ Rel val (upd ρ n (w.heap.size, 0)) fz ((n, cs) :: mu) (w1.alloc (.cells C ty)) ∧ Fr ρ mu w (w1.alloc (.cells C ty)) ∧
      NewB ρ (upd ρ n (w.heap.size, 0)) mu ((n, cs) :: mu) w ∧ NewI mu ((n, cs) :: mu) n (n + 1) ∧ bsize (w1.alloc (.cells C ty)) w.heap.size = C.size := by
  have hsz : w1.heap.size = w.heap.size := by rw [hl.heap]
  have hbs : ∀ b, bsize w b ≤ bsize (w1.alloc (.cells C ty)) b := fun b => by rw [← hl.bsize b]; exact bsize_alloc _ _
  have hold : ∀ b, b < w.heap.size → (w1.alloc (.cells C ty)).heap[b]? = w.heap[b]? := fun b hb => by
    rw [alloc_old _ (by omega), hl.heap]
  have hnew : (w1.alloc (.cells C ty)).heap[w.heap.size]? = some (.cells C ty (0, 0)) := by
    have := alloc_new (w := w1) (.cells C ty); rwa [hsz] at this
  have hup := fun id q hq => upd_old (p := (w.heap.size, 0)) hn id q hq
  have keepOwn : ∀ id c, Own val ρ w id c → Own val (upd ρ n (w.heap.size, 0)) (w1.alloc (.cells C ty)) id c := fun id c ho =>
    ho.mono hup hbs fun p hp => hold _ (ho.lt hp)
  have hfn : fz n = none := by
    cases e : fz n with
    | none => rfl
    | some c => obtain ⟨p, C, ty, h1, _⟩ := hr.rf n c e; rw [hn] at h1; cases h1
  have hmn : look mu n = none := by
    cases e : look mu n with
    | none => rfl
    | some c => obtain ⟨p, C, ty, h1, _⟩ := hr.rm n c e; rw [hn] at h1; cases h1
  refine ⟨upd_ext hn, ⟨fun id c h => keepOwn id c (hr.rf id c h), fun id c h => ?_, fun id c h => ?_, fun id id' p p' h h' hp hp' he => ?_⟩,
    ⟨hl.os, hl.tape, hl.output, by show _ ≤ (w1.heap.push _).size; simp [hl.heap], fun b hb _ => hold b hb, hbs, fun b => by rw [frz_alloc]; unfold frz; rw [hl.heap]⟩, fun id p h hp => ?_, fun id h => ?_, ?_⟩
  · rw [look_cons] at h
    split at h
    · rename_i e
      cases h
      subst e
      refine ⟨(w.heap.size, 0), C, ty, upd_same _ _ _, hnew, by simpa using hc, fun i s hi => ?_⟩
      obtain ⟨v, e1, r⟩ := hv i s hi
      exact ⟨v, by simpa using e1, r.mono hup hbs⟩
    · exact keepOwn id c (hr.rm id c h)
  · rw [look_cons] at h
    split at h
    · rename_i e; subst e; exact hfn
    · exact hr.dm id c h
  · have key : ∀ id p, ((look ((n, cs) :: mu) id).isSome ∨ (fz id).isSome) → upd ρ n (w.heap.size, 0) id = some p → id = n ∧ p.1 = w.heap.size ∨ id ≠ n ∧ ρ id = some p ∧ ((look mu id).isSome ∨ (fz id).isSome) ∧ p.1 < w.heap.size := by
      intro id p h hp
      by_cases e : id = n
      · left; subst e; rw [upd_same] at hp; cases hp; exact ⟨rfl, rfl⟩
      · right
        have hp' : ρ id = some p := by simpa [upd, e] using hp
        have hl' : (look mu id).isSome ∨ (fz id).isSome := by
          rcases h with h | h
          · rw [look_cons] at h
            simp only [show ¬ n = id from fun x => e x.symm, if_false] at h
            exact .inl h
          · exact .inr h
        refine ⟨e, hp', hl', ?_⟩
        rcases hl' with h | h
        · obtain ⟨c, hc⟩ := Option.isSome_iff_exists.1 h; exact (hr.rm id c hc).lt hp'
        · obtain ⟨c, hc⟩ := Option.isSome_iff_exists.1 h; exact (hr.rf id c hc).lt hp'
    rcases key id p (.inl h) hp with ⟨e1, e2⟩ | ⟨e1, e2, e3, e4⟩
    · rcases key id' p' h' hp' with ⟨f1, f2⟩ | ⟨f1, f2, f3, f4⟩
      · rw [e1, f1]
      · omega
    · rcases key id' p' h' hp' with ⟨f1, f2⟩ | ⟨f1, f2, f3, f4⟩
      · omega
      · have hm : (look mu id).isSome := by
          rw [look_cons] at h
          simpa [show ¬ n = id from fun x => e1 x.symm] using h
        exact hr.dj id id' p p' hm f3 e2 f2 he
  · rw [look_cons] at h
    by_cases e : id = n
    · subst e; rw [upd_same] at hp; cases hp; exact .inl (Nat.le_refl _)
    · simp only [show ¬ n = id from fun x => e x.symm, if_false] at h
      exact .inr ⟨id, p, h, by simpa [upd, e] using hp, rfl⟩
  · rw [look_cons] at h
    by_cases e : id = n
    · subst e; exact .inr ⟨Nat.le_refl _, Nat.lt_succ_self _⟩
    · simp only [show ¬ n = id from fun x => e x.symm, if_false] at h
      exact .inl h
  · unfold Ev.bsize; rw [hnew]

theorem setRow_bsize {g : Nat} {old C : Array Value} {ty : TypeId} {fr : Nat × Nat} (hg : w.heap[g]? = some (.cells old ty fr)) (hs : C.size = old.size) (b : Nat) : bsize (w.setRow g C) b = bsize w b := by
  unfold Ev.bsize
  by_cases h : b = g
  · subst h; rw [setRow_heap w b old C ty fr hg, hg]; exact hs
  · rw [setRow_other w g b C h]

theorem setRow_frz {g : Nat} {old C : Array Value} {ty : TypeId} {fr : Nat × Nat} (hg : w.heap[g]? = some (.cells old ty fr)) (b : Nat) : frz (w.setRow g C) b = frz w b := by
  unfold frz
  by_cases h : b = g
  · subst h; rw [setRow_heap w b old C ty fr hg, hg]
  · rw [setRow_other w g b C h]

/-- A store into a block of the store. -/
theorem put_block {P : Program} (hr : Rel val ρ fz mu w) {id : Nat} {cs vs : List SV} {off : Nat} (hl : look mu id = some cs) (ho : off + vs.length ≤ cs.length)
    {xs : List Value} (hv : All2 (VR val ρ w) vs xs) (h1 : ∀ x ∈ xs, x.oneCell' = true) :
    ∃ p w', ρ id = some p ∧ (storeCells ⟨p.1, p.2 + off, none⟩ xs).run P w = .ok () w' ∧ Rel val ρ fz (putS mu id (over cs off vs)) w' ∧ Fr ρ mu w w' ∧
      NewB ρ ρ mu (putS mu id (over cs off vs)) w ∧ NewI mu (putS mu id (over cs off vs)) n n' ∧ (∀ b, bsize w' b = bsize w b) := by
  obtain ⟨p, C, ty, hp, hC, hsz, hcs⟩ := hr.rm id cs hl
  have hlen := hv.length
  have hfit : p.2 + off + 0 + xs.length ≤ C.size := by omega
  have hrun := run_storeCells_at P p.1 (p.2 + off) ty xs 0 C w hC hfit h1
  simp only [Nat.add_zero] at hrun
  generalize hD : (C.toList.take (p.2 + off) ++ xs ++ C.toList.drop (p.2 + off + xs.length)).toArray = D at hrun
  have hDs : D.size = C.size := by rw [← hD]; simp; omega
  have hDget : ∀ i : Nat, D[i]? = if i < p.2 + off then C[i]? else if i < p.2 + off + xs.length then xs[i - (p.2 + off)]? else C[i]? := by
    intro i
    rw [← hD]
    simp only [List.getElem?_toArray]
    by_cases a1 : i < p.2 + off
    · rw [List.append_assoc, List.getElem?_append_left (by simp; omega)]
      simp [a1]
    · rw [List.append_assoc, List.getElem?_append_right (by simp; omega)]
      simp only [a1, if_false, List.length_take, Array.length_toList]
      rw [show min (p.2 + off) C.size = p.2 + off by omega]
      by_cases a2 : i < p.2 + off + xs.length
      · rw [List.getElem?_append_left (by omega)]; simp [a2]
      · rw [List.getElem?_append_right (by omega)]
        simp only [a2, if_false, List.getElem?_drop, Array.getElem?_toList]
        congr 1; omega
  have hbs : ∀ b, bsize (w.setRow p.1 D) b = bsize w b := setRow_bsize hC hDs
  have hbs' : ∀ b, bsize w b ≤ bsize (w.setRow p.1 D) b := fun b => Nat.le_of_eq (hbs b).symm
  have hother : ∀ b, b ≠ p.1 → (w.setRow p.1 D).heap[b]? = w.heap[b]? := fun b hb => setRow_other w p.1 b D hb
  have hself : (w.setRow p.1 D).heap[p.1]? = some (.cells D ty (0, 0)) := setRow_heap w p.1 C D ty (0, 0) hC
  have hlk : ∀ id', (look (putS mu id (over cs off vs)) id').isSome = (look mu id').isSome := by
    intro id'
    rw [look_putS]
    split
    · subst_vars; simp [hl]
    · rfl
  have keepOwn : ∀ id' c, id' ≠ id → ((look mu id').isSome ∨ (fz id').isSome) → Own val ρ w id' c → Own val ρ (w.setRow p.1 D) id' c := by
    intro id' c hne hlv hown
    refine hown.mono (fun _ _ h => h) hbs' fun q hq => hother _ fun e => hne ?_
    exact (hr.dj id id' p q (by simp [hl]) hlv hp hq e.symm).symm
  refine ⟨p, w.setRow p.1 D, hp, hrun, ⟨fun id' c h => ?_, fun id' c h => ?_, fun id' c h => ?_, fun a b q q' ha hb hq hq' he => ?_⟩,
    ⟨rfl, rfl, rfl, by simp, fun b _ hb => hother b fun e => hb id p (by simp [hl]) hp e.symm, hbs', setRow_frz hC⟩, fun a q ha hq => .inr ⟨a, q, by rwa [hlk] at ha, hq, rfl⟩, fun a ha => .inl (by rwa [hlk] at ha), hbs⟩
  · refine keepOwn id' c (fun e => ?_) (.inr (by simp [h])) (hr.rf id' c h)
    subst e; have := hr.dm id' cs hl; rw [this] at h; cases h
  · rw [look_putS] at h
    split at h
    · rename_i e; subst e
      simp only [hl, Option.map_some, Option.some.injEq] at h
      subst h
      refine ⟨p, D, ty, hp, hself, by rw [over_length ho, hDs]; exact hsz, fun i s hi => ?_⟩
      rw [over_get ho] at hi
      rw [hDget]
      by_cases a1 : i < off
      · simp only [a1, if_true] at hi
        simp only [show p.2 + i < p.2 + off by omega, if_true]
        obtain ⟨v, e, r⟩ := hcs i s hi
        exact ⟨v, e, r.mono (fun _ _ h => h) hbs'⟩
      · simp only [a1, if_false] at hi
        simp only [show ¬ p.2 + i < p.2 + off by omega, if_false]
        by_cases a2 : i < off + vs.length
        · simp only [a2, if_true] at hi
          simp only [show p.2 + i < p.2 + off + xs.length by omega, if_true]
          obtain ⟨v, e, r⟩ := hv.get hi
          exact ⟨v, by rw [show p.2 + i - (p.2 + off) = i - off by omega]; exact e, r.mono (fun _ _ h => h) hbs'⟩
        · simp only [a2, if_false] at hi
          simp only [show ¬ p.2 + i < p.2 + off + xs.length by omega, if_false]
          obtain ⟨v, e, r⟩ := hcs i s hi
          exact ⟨v, e, r.mono (fun _ _ h => h) hbs'⟩
    · rename_i e
      exact keepOwn id' c (fun x => e x.symm) (.inl (by simp [h])) (hr.rm id' c h)
  · have := hlk id'
    rw [h] at this
    obtain ⟨c', hc'⟩ := Option.isSome_iff_exists.1 this.symm
    exact hr.dm id' c' hc'
  · rw [hlk] at ha hb
    exact hr.dj a b q q' ha hb hq hq' he

theorem Rel.like {w1 : World} (hl : Like w w1) (hr : Rel val ρ fz mu w) : Rel val ρ fz mu w1 :=
  ⟨fun id c h => (hr.rf id c h).mono (fun _ _ h => h) (fun b => Nat.le_of_eq (hl.bsize b).symm) fun p _ => by rw [hl.heap],
   fun id c h => (hr.rm id c h).mono (fun _ _ h => h) (fun b => Nat.le_of_eq (hl.bsize b).symm) fun p _ => by rw [hl.heap], hr.dm, hr.dj⟩
theorem Like.fr {w1 : World} (hl : Like w w1) : Fr ρ mu w w1 := ⟨hl.os, hl.tape, hl.output, by rw [hl.heap]; exact Nat.le_refl _, fun b _ _ => by rw [hl.heap], fun b => Nat.le_of_eq (hl.bsize b).symm, fun b => by unfold frz; rw [hl.heap]⟩

/-- Two frames one behind the other. -/
theorem Fr.trans {ρ' : Rho} {mu1 : St} {w1 w2 : World} (h : Fr ρ mu w w1) (hb : NewB ρ ρ' mu mu1 w) (k : Fr ρ' mu1 w1 w2) : Fr ρ mu w w2 :=
  ⟨k.os.trans h.os, k.tape.trans h.tape, k.output.trans h.output, Nat.le_trans h.size k.size, fun b hlt hn => by
    rw [k.keep b (Nat.lt_of_lt_of_le hlt h.size) fun id p hl hp e => ?_]
    · exact h.keep b hlt hn
    · rcases hb id p hl hp with h1 | ⟨id0, p0, h1, h2, h3⟩
      · omega
      · exact hn id0 p0 h1 h2 (h3.trans e), fun b => Nat.le_trans (h.shape b) (k.shape b), fun b => (k.frozen b).trans (h.frozen b)⟩
theorem Ext.trans {ρ' ρ'' : Rho} {n1 n2 : Nat} (h : Ext ρ ρ' n n1) (k : Ext ρ' ρ'' n1 n2) (h1 : n ≤ n1) (h2 : n1 ≤ n2) : Ext ρ ρ'' n n2 :=
  ⟨fun id p hp => k.old _ _ (h.old _ _ hp), fun id p hp => by
    rcases k.new id p hp with a | a
    · rcases h.new id p a with b | b
      · exact .inl b
      · exact .inr ⟨b.1, by omega⟩
    · exact .inr ⟨by omega, a.2⟩⟩
theorem NewB.trans {ρ' ρ'' : Rho} {mu1 mu2 : St} {w1 : World} (h : NewB ρ ρ' mu mu1 w) (k : NewB ρ' ρ'' mu1 mu2 w1) (hs : w.heap.size ≤ w1.heap.size) : NewB ρ ρ'' mu mu2 w := by
  intro id p hl hp
  rcases k id p hl hp with h1 | ⟨id0, p0, h1, h2, h3⟩
  · exact .inl (by omega)
  · rcases h id0 p0 h1 h2 with h4 | ⟨id1, p1, h4, h5, h6⟩
    · exact .inl (by omega)
    · exact .inr ⟨id1, p1, h4, h5, h6.trans h3⟩
theorem NewI.trans {mu1 mu2 : St} {n1 n2 : Nat} (h : NewI mu mu1 n n1) (k : NewI mu1 mu2 n1 n2) (h1 : n ≤ n1) (h2 : n1 ≤ n2) : NewI mu mu2 n n2 := by
  intro id hl
  rcases k id hl with a | a
  · rcases h id a with b | b
    · exact .inl b
    · exact .inr ⟨b.1, by omega⟩
  · exact .inr ⟨by omega, a.2⟩
/-- Still fresh behind a run. -/
theorem FreshN.later {ρ' : Rho} {n1 n2 : Nat} (hf : FreshN ρ n n2) (he : Ext ρ ρ' n n1) (h1 : n ≤ n1) : FreshN ρ' n1 n2 := by
  intro id h h'
  cases e : ρ' id with
  | none => rfl
  | some p =>
    rcases he.new id p e with a | a
    · rw [hf id (by omega) h'] at a; cases a
    · omega
theorem FreshN.sub {n1 n2 m : Nat} (hf : FreshN ρ n n2) (h1 : n ≤ n1) (h2 : m ≤ n2) : FreshN ρ n1 m := fun id h h' => hf id (by omega) (by omega)

end
end Go.Ev
