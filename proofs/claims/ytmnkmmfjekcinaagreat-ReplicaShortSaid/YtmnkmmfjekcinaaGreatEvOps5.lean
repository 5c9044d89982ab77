/-
  Each operation of the evaluator against the model's: append and copy.
-/
import Derived.Test.YtmnkmmfjekcinaaGreatEvOps4
set_option linter.unusedVariables false
set_option linter.unusedSimpArgs false
namespace Go.Ev
section
variable {P : Program} {val : Nat → Int} {fz : Fz} {tm : TM} {mu : St} {n : Nat} {o : Oper}

/-- append where it grows: the old cells, the new ones, zeros, in a new block. -/
theorem append_grows {w : World} {sT xT e ty : TypeId} {i : TypeInfo} {zv : Value} {base : Option Addr} {sLen sCap cnt : Nat} {x : Value} {old news : List Value}
    (hu : P.underlying sT = some (.slice e)) (hx : (∃ e', P.underlying xT = some (.slice e')) ∨ P.underlying xT = some .string) (hi : P.info? e = some i) (hz : ∀ w, (zeroValue e).run P w = .ok zv w)
    (hlen : (Builtin.lenOf x).run P w = .ok cnt w) (hgrow : sCap < sLen + cnt) (hroom : (sLen + cnt) * (i.bytes + 1) ≤ roomy)
    (hold : (Builtin.firstCells i.size sLen (.slice base sLen sCap)).run P w.drew = .ok old.toArray w.drew) (hnew : (Builtin.firstCells i.size cnt x).run P w.drew = .ok news.toArray w.drew) :
    ∃ newCap rest, (sLen + cnt ≤ newCap ∧ newCap ≤ 9223372036854775807) ∧ rest = Builtin.zeroCells zv.cells (newCap - (sLen + cnt)) ∧
      (Builtin.append_ #[sT, xT] ty #[.slice base sLen sCap, x]).run P w = .ok (.slice (some ⟨w.heap.size, 0, none⟩) (sLen + cnt) newCap) (w.drew.alloc (.cells (old.toArray ++ news.toArray ++ rest) e)) := by
  have hr : roomy = 137438953472 := rfl
  have hneed : sLen + cnt ≤ 137438953472 := by
    have : (sLen + cnt) * 1 ≤ (sLen + cnt) * (i.bytes + 1) := Nat.mul_le_mul_left _ (by omega)
    omega
  have hbytes : (sLen + cnt) * i.bytes ≤ 137438953472 := by
    have : (sLen + cnt) * i.bytes ≤ (sLen + cnt) * (i.bytes + 1) := Nat.mul_le_mul_left _ (by omega)
    omega
  have hbb : i.bytes ≤ 137438953472 := by
    by_cases h0 : sLen + cnt = 0
    · omega
    · have : 1 * (i.bytes + 1) ≤ (sLen + cnt) * (i.bytes + 1) := Nat.mul_le_mul_right _ (by omega)
      omega
  have hcap := cap_bound (need := sLen + cnt) (old := sCap) hgrow trivial
  have hlim : ¬ Builtin.nextslicecap (sLen + cnt) sCap * i.bytes > 2 ^ 48 := by
    have h1 : Builtin.nextslicecap (sLen + cnt) sCap * i.bytes ≤ (2 * (sLen + cnt) + 1000) * i.bytes := Nat.mul_le_mul_right _ hcap
    have h2 : (2 * (sLen + cnt) + 1000) * i.bytes = 2 * ((sLen + cnt) * i.bytes) + 1000 * i.bytes := by rw [Nat.add_mul, Nat.mul_assoc]
    have h3 : (0 : Nat) < 2 ^ 48 := by decide
    by_cases h0 : sLen + cnt = 0
    · omega
    · omega
  generalize hnc : Question.cut (.appendCap (sLen + cnt) sCap e) (w.tape w.drawn (.appendCap (sLen + cnt) sCap e)) = newCap
  have hle : sLen + cnt ≤ newCap := by rw [← hnc]; simp only [Question.cut]; omega
  have hmx : newCap ≤ 9223372036854775807 := by
    rw [← hnc]
    simp only [Question.cut]
    have := Nat.mod_lt (w.tape w.drawn (.appendCap (sLen + cnt) sCap e)) (show 0 < 2 ^ 63 - (sLen + cnt) by omega)
    omega
  refine ⟨newCap, _, ⟨hle, hmx⟩, rfl, ?_⟩
  have hnle : ¬ sLen + cnt ≤ sCap := by omega
  have hmax : ¬ ((9223372036854775807 : Int) < (sLen : Int) + (cnt : Int) ∧ i.bytes = 0) := by omega
  have hz' := hz w.drew
  have hti : ∀ w1, (typeInfo e).run P w1 = .ok i w1 := fun w1 => by simp [typeInfo, hi]
  have hsz : ∀ w1, (sizeOf e).run P w1 = .ok i.size w1 := fun w1 => by simp [sizeOf, hti]
  have hund : ∀ w1, (underlying sT).run P w1 = .ok (.slice e) w1 := fun w1 => by simp [underlying, hu]
  have hch : (choose (.appendCap (sLen + cnt) sCap e)).run P w = .ok newCap w.drew := by
    rw [run_choose]; simp only [Question.forced, Bool.false_eq_true, if_false, hnc]; rfl
  rcases hx with ⟨e', hxd⟩ | hxd
  · have hunx : ∀ w1, (underlying xT).run P w1 = .ok (.slice e') w1 := fun w1 => by simp [underlying, hxd]
    simp only [Builtin.append_, List.getElem?_toArray, List.getElem?_cons_zero, List.getElem?_cons_succ, Sem.run_bind, hund, hunx, hsz, hlen, hnle, hti, hlim, hch, hold, hnew, hz', Result.andThen_ok, Sem.run_pure, Sem.run_ite, if_false, Bool.false_eq_true, run_askRoom, newRow, run_newObj, Bool.not_false, if_true]
    simp [hmax]
    rfl
  · have hunx : ∀ w1, (underlying xT).run P w1 = .ok .string w1 := fun w1 => by simp [underlying, hxd]
    simp only [Builtin.append_, List.getElem?_toArray, List.getElem?_cons_zero, List.getElem?_cons_succ, Sem.run_bind, hund, hunx, hsz, hlen, hnle, hti, hlim, hch, hold, hnew, hz', Result.andThen_ok, Sem.run_pure, Sem.run_ite, if_false, Bool.false_eq_true, run_askRoom, newRow, run_newObj, Bool.not_false, if_true]
    simp [hmax]
    rfl

/-- append where there is room. -/
theorem append_fits {w w' : World} {sT xT e ty : TypeId} {i : TypeInfo} {a : Addr} {sLen sCap cnt : Nat} {x : Value} {news : List Value}
    (hu : P.underlying sT = some (.slice e)) (hx : (∃ e', P.underlying xT = some (.slice e')) ∨ P.underlying xT = some .string) (hi : P.info? e = some i)
    (hlen : (Builtin.lenOf x).run P w = .ok cnt w) (hfit : sLen + cnt ≤ sCap) (hnew : (Builtin.firstCells i.size cnt x).run P w = .ok news.toArray w) (hst : (storeCells (a.add (sLen * i.size)) news).run P w = .ok () w') :
    (Builtin.append_ #[sT, xT] ty #[.slice (some a) sLen sCap, x]).run P w = .ok (.slice (some a) (sLen + cnt) sCap) w' := by
  have hti : ∀ w1, (typeInfo e).run P w1 = .ok i w1 := fun w1 => by simp [typeInfo, hi]
  have hsz : ∀ w1, (sizeOf e).run P w1 = .ok i.size w1 := fun w1 => by simp [sizeOf, hti]
  have hund : ∀ w1, (underlying sT).run P w1 = .ok (.slice e) w1 := fun w1 => by simp [underlying, hu]
  rcases hx with ⟨e', hxd⟩ | hxd
  · have hunx : ∀ w1, (underlying xT).run P w1 = .ok (.slice e') w1 := fun w1 => by simp [underlying, hxd]
    simp only [Builtin.append_, List.getElem?_toArray, List.getElem?_cons_zero, List.getElem?_cons_succ, Sem.run_bind, hund, hunx, hsz, hlen, hfit, hnew, Result.andThen_ok, Sem.run_pure, Sem.run_ite, Bool.false_eq_true, if_false, Bool.not_false, if_true, hst]
  · have hunx : ∀ w1, (underlying xT).run P w1 = .ok .string w1 := fun w1 => by simp [underlying, hxd]
    simp only [Builtin.append_, List.getElem?_toArray, List.getElem?_cons_zero, List.getElem?_cons_succ, Sem.run_bind, hund, hunx, hsz, hlen, hfit, hnew, Result.andThen_ok, Sem.run_pure, Sem.run_ite, Bool.false_eq_true, if_false, Bool.not_false, if_true, hst]
/-- Nothing behind nil. -/
theorem append_nil {w : World} {sT xT e ty : TypeId} {i : TypeInfo} {x : Value}
    (hu : P.underlying sT = some (.slice e)) (hx : (∃ e', P.underlying xT = some (.slice e')) ∨ P.underlying xT = some .string) (hi : P.info? e = some i)
    (hlen : (Builtin.lenOf x).run P w = .ok 0 w) (hnew : (Builtin.firstCells i.size 0 x).run P w = .ok #[] w) :
    (Builtin.append_ #[sT, xT] ty #[.slice none 0 0, x]).run P w = .ok (.slice none 0 0) w := by
  have hti : ∀ w1, (typeInfo e).run P w1 = .ok i w1 := fun w1 => by simp [typeInfo, hi]
  have hsz : ∀ w1, (sizeOf e).run P w1 = .ok i.size w1 := fun w1 => by simp [sizeOf, hti]
  have hund : ∀ w1, (underlying sT).run P w1 = .ok (.slice e) w1 := fun w1 => by simp [underlying, hu]
  rcases hx with ⟨e', hxd⟩ | hxd
  · have hunx : ∀ w1, (underlying xT).run P w1 = .ok (.slice e') w1 := fun w1 => by simp [underlying, hxd]
    simp [Builtin.append_, hund, hunx, hsz, hlen, hnew]
  · have hunx : ∀ w1, (underlying xT).run P w1 = .ok .string w1 := fun w1 => by simp [underlying, hxd]
    simp [Builtin.append_, hund, hunx, hsz, hlen, hnew]

/-- A block that goes over to a new id, with cells stored behind what is known of it. -/
theorem move_block {ρ : Rho} {w : World} (hr : Rel val ρ fz mu w) {id : Nat} {known src : List SV} {off m : Nat} {p : Nat × Nat} {news : List Value} (hl : look mu id = some known) (hn : ρ n = none) (hk : known.length = off + m) (hp : ρ id = some p)
    (hv : All2 (VR val ρ w) src news) (h1 : ∀ x ∈ news, x.oneCell' = true) (hfit : p.2 + off + m + src.length ≤ bsize w p.1) :
    ∃ w', (storeCells ⟨p.1, p.2 + off + m, none⟩ news).run P w = .ok () w' ∧ Ext ρ (upd ρ n (p.1, p.2 + off)) n (n + 1) ∧ Rel val (upd ρ n (p.1, p.2 + off)) fz ((n, known.drop off ++ src) :: killS mu id) w' ∧ Fr ρ mu w w' ∧
      NewB ρ (upd ρ n (p.1, p.2 + off)) mu ((n, known.drop off ++ src) :: killS mu id) w ∧ NewI mu ((n, known.drop off ++ src) :: killS mu id) n (n + 1) ∧ (∀ b, bsize w' b = bsize w b) := by
  obtain ⟨q, C, ty, hq, hC, hsz, hcs⟩ := hr.rm id known hl
  rw [hp] at hq; cases hq
  have hlen := hv.length
  have hbs0 : bsize w p.1 = C.size := by unfold bsize; rw [hC]
  rw [hbs0] at hfit
  have hrun := run_storeCells_at P p.1 (p.2 + off + m) ty news 0 C w hC (by omega) h1
  simp only [Nat.add_zero] at hrun
  generalize hD : (C.toList.take (p.2 + off + m) ++ news ++ C.toList.drop (p.2 + off + m + news.length)).toArray = D at hrun
  have hDs : D.size = C.size := by rw [← hD]; simp; omega
  have hDget : ∀ i : Nat, D[i]? = if i < p.2 + off + m then C[i]? else if i < p.2 + off + m + news.length then news[i - (p.2 + off + m)]? else C[i]? := by
    intro i
    rw [← hD]
    simp only [List.getElem?_toArray]
    by_cases a1 : i < p.2 + off + m
    · rw [List.append_assoc, List.getElem?_append_left (by simp; omega)]
      simp [a1]
    · rw [List.append_assoc, List.getElem?_append_right (by simp; omega)]
      simp only [a1, if_false, List.length_take, Array.length_toList]
      rw [show min (p.2 + off + m) C.size = p.2 + off + m by omega]
      by_cases a2 : i < p.2 + off + m + news.length
      · rw [List.getElem?_append_left (by omega)]; simp [a2]
      · rw [List.getElem?_append_right (by omega)]
        simp only [a2, if_false, List.getElem?_drop, Array.getElem?_toList]
        congr 1; omega
  have hbs : ∀ b, bsize (w.setRow p.1 D) b = bsize w b := setRow_bsize hC hDs
  have hbs' : ∀ b, bsize w b ≤ bsize (w.setRow p.1 D) b := fun b => Nat.le_of_eq (hbs b).symm
  have hother : ∀ b, b ≠ p.1 → (w.setRow p.1 D).heap[b]? = w.heap[b]? := fun b hb => setRow_other w p.1 b D hb
  have hself : (w.setRow p.1 D).heap[p.1]? = some (.cells D ty (0, 0)) := setRow_heap w p.1 C D ty (0, 0) hC
  have hup := fun id q hq => upd_old (p := (p.1, p.2 + off)) hn id q hq
  have hfn : fz n = none := by
    cases e : fz n with
    | none => rfl
    | some c => obtain ⟨p, C, ty, h1, _⟩ := hr.rf n c e; rw [hn] at h1; cases h1
  have keepOwn : ∀ id' c, id' ≠ id → ((look mu id').isSome ∨ (fz id').isSome) → Own val ρ w id' c → Own val (upd ρ n (p.1, p.2 + off)) (w.setRow p.1 D) id' c := by
    intro id' c hne hlv hown
    refine hown.mono hup hbs' fun q hq => hother _ fun e => hne ?_
    exact (hr.dj id id' p q (by simp [hl]) hlv hp hq e.symm).symm
  have hlk : ∀ id' c, look ((n, known.drop off ++ src) :: killS mu id) id' = some c → id' = n ∧ c = known.drop off ++ src ∨ id' ≠ n ∧ id' ≠ id ∧ look mu id' = some c := by
    intro id' c h
    rw [look_cons] at h
    by_cases e : n = id'
    · simp only [e, if_true, Option.some.injEq] at h; exact .inl ⟨e.symm, h.symm⟩
    · simp only [e, if_false, look_killS] at h
      split at h
      · cases h
      · rename_i e2; exact .inr ⟨fun x => e x.symm, fun x => e2 x.symm, h⟩
  refine ⟨w.setRow p.1 D, hrun, upd_ext hn, ⟨fun id' c h => ?_, fun id' c h => ?_, fun id' c h => ?_, fun a b q q' ha hb hq hq' he => ?_⟩,
    ⟨rfl, rfl, rfl, by simp, fun b _ hb => hother b fun e => hb id p (by simp [hl]) hp e.symm, hbs', setRow_frz hC⟩, fun a q ha hq => ?_, fun a ha => ?_, hbs⟩
  · refine keepOwn id' c (fun e => ?_) (.inr (by simp [h])) (hr.rf id' c h)
    subst e; have := hr.dm id' known hl; rw [this] at h; cases h
  · rcases hlk id' c h with ⟨rfl, rfl⟩ | ⟨e1, e2, e3⟩
    · refine ⟨(p.1, p.2 + off), D, ty, upd_same _ _ _, hself, by simp; omega, fun i s hi => ?_⟩
      show ∃ v, D[p.2 + off + i]? = some v ∧ _
      rw [hDget]
      by_cases a1 : i < m
      · simp only [show p.2 + off + i < p.2 + off + m by omega, if_true]
        rw [List.getElem?_append_left (by simp; omega), List.getElem?_drop] at hi
        obtain ⟨v, e, r⟩ := hcs (off + i) s hi
        exact ⟨v, by rw [Nat.add_assoc]; exact e, r.mono hup hbs'⟩
      · simp only [show ¬ p.2 + off + i < p.2 + off + m by omega, if_false]
        rw [List.getElem?_append_right (by simp; omega)] at hi
        simp only [List.length_drop, hk] at hi
        obtain ⟨v, e, r⟩ := hv.get hi
        have hlt := (List.getElem?_eq_some_iff.1 hi).1
        simp only [show p.2 + off + i < p.2 + off + m + news.length by omega, if_true]
        exact ⟨v, by rw [show p.2 + off + i - (p.2 + off + m) = i - (off + m - off) by omega]; exact e, r.mono hup hbs'⟩
    · exact keepOwn id' c e2 (.inl (by simp [e3])) (hr.rm id' c e3)
  · rcases hlk id' c h with ⟨rfl, rfl⟩ | ⟨e1, e2, e3⟩
    · exact hfn
    · exact hr.dm id' c e3
  · have key : ∀ a q, ((look ((n, known.drop off ++ src) :: killS mu id) a).isSome ∨ (fz a).isSome) → upd ρ n (p.1, p.2 + off) a = some q → a = n ∧ q.1 = p.1 ∨ a ≠ n ∧ a ≠ id ∧ ρ a = some q ∧ ((look mu a).isSome ∨ (fz a).isSome) := by
      intro a q h hq
      by_cases e : a = n
      · left; subst e; rw [upd_same] at hq; cases hq; exact ⟨rfl, rfl⟩
      · right
        have hq2 : ρ a = some q := by simpa [upd, e] using hq
        rcases h with h | h
        · obtain ⟨c, hc⟩ := Option.isSome_iff_exists.1 h
          rcases hlk a c hc with ⟨x, _⟩ | ⟨_, x2, x3⟩
          · exact (e x).elim
          · exact ⟨e, x2, hq2, .inl (by simp [x3])⟩
        · refine ⟨e, fun x => ?_, hq2, .inr h⟩
          subst x; have := hr.dm a known hl; rw [this] at h; cases h
    rcases key a q (.inl ha) hq with ⟨x1, x2⟩ | ⟨x1, x2, x3, x4⟩
    · rcases key b q' hb hq' with ⟨y1, y2⟩ | ⟨y1, y2, y3, y4⟩
      · rw [x1, y1]
      · exact (y2 (hr.dj id b p q' (by simp [hl]) y4 hp y3 (by omega)).symm).elim
    · rcases key b q' hb hq' with ⟨y1, y2⟩ | ⟨y1, y2, y3, y4⟩
      · exact (x2 (hr.dj id a p q (by simp [hl]) x4 hp x3 (by omega)).symm).elim
      · have hm : (look mu a).isSome := by
          obtain ⟨c, hc⟩ := Option.isSome_iff_exists.1 ha
          rcases hlk a c hc with ⟨x, _⟩ | ⟨_, _, z3⟩
          · exact (x1 x).elim
          · simp [z3]
        exact hr.dj a b q q' hm y4 x3 y3 he
  · obtain ⟨c, hc⟩ := Option.isSome_iff_exists.1 ha
    rcases hlk a c hc with ⟨rfl, _⟩ | ⟨x1, x2, x3⟩
    · rw [upd_same] at hq; cases hq
      exact .inr ⟨id, p, by simp [hl], hp, rfl⟩
    · exact .inr ⟨a, q, by simp [x3], by simpa [upd, x1] using hq, rfl⟩
  · obtain ⟨c, hc⟩ := Option.isSome_iff_exists.1 ha
    rcases hlk a c hc with ⟨rfl, _⟩ | ⟨x1, x2, x3⟩
    · exact .inr ⟨Nat.le_refl _, Nat.lt_succ_self _⟩
    · exact .inl (by simp [x3])

/-- A block less. -/
theorem Rel.kill {ρ : Rho} {w : World} (hr : Rel val ρ fz mu w) (id : Nat) : Rel val ρ fz (killS mu id) w := by
  have h : ∀ a c, look (killS mu id) a = some c → look mu a = some c := fun a c h => by
    rw [look_killS] at h
    split at h
    · cases h
    · exact h
  have h' : ∀ a, (look (killS mu id) a).isSome → (look mu a).isSome := fun a ha => by
    obtain ⟨c, hc⟩ := Option.isSome_iff_exists.1 ha
    simp [h a c hc]
  exact ⟨hr.rf, fun a c hc => hr.rm a c (h a c hc), fun a c hc => hr.dm a c (h a c hc), fun a b p q ha hb => hr.dj a b p q (h' a ha) (hb.imp (h' b) (fun x => x))⟩
end
end Go.Ev
