/-
  slices.Insert at []int as a contract of the evaluator.
-/
import Derived.Test.YtlmffooffbjdkaaEvIns
set_option linter.unusedVariables false
set_option linter.unusedSimpArgs false
namespace Go.Ev
open Go.Shelf Go.Proofs

section
variable {R : Type} {T : R → Prop} {z : R} {P : Program} {val : Nat → Int}

noncomputable def insAt (z : R) (src : List SV) (m vid : Nat) (x : SV) (i : Int) (mu : St) (n : Nat) (k : AV → St → Nat → R) : R :=
  match x with
  | .nsl => cond (eqI i 0 && Nat.ble m 1000000) (fN (Nat.succ n) fun n' => k (.one (.osl n 0 m m 1)) ((n, src) :: mu) n') z
  | .esl => cond (eqI i 0 && Nat.ble m 1000000) (fN (Nat.succ n) fun n' => k (.one (.osl n 0 m m 1)) ((n, src) :: mu) n') z
  | .osl id off len _ s => cond (Nat.beq s 1 && not (ltI i 0) && Nat.ble i.toNat len && not (Nat.beq id vid) && Nat.ble (Nat.add len m) 1000000)
      (onLook mu id z fun known => cond (Nat.beq known.length (Nat.add off len) && knownAll known)
        (copyK ((known.drop off).take i.toNat ++ src ++ (known.drop off).drop i.toNat) fun cs => killK mu id fun mu => fN (Nat.add len m) fun l => fN (Nat.succ n) fun n' => k (.one (.osl n 0 l l 1)) ((n, cs) :: mu) n') z) z
  | _ => z
noncomputable def insK (z : R) : Contract R := fun args fz mu n k =>
  match args with
  | [.one x, .one (.int .i64 i), .one (.osl vid voff m _ vs)] => cond (Nat.blt 0 m && Nat.beq vs 1) (lookAll fz mu vid z fun vc => subK vc voff m z fun src => cond (knownAll src) (insAt z src m vid x i mu n k) z) z
  | _ => z

theorem knownAll_sub {l : List SV} (h : knownAll l = true) (a b : Nat) : knownAll ((l.drop a).take b) = true := by
  rw [knownAll_iff] at *
  intro s hs
  exact h s (List.mem_of_mem_drop (List.mem_of_mem_take hs))

theorem frozen_at {w : World} {b : Nat} {C : Array Value} {ty : TypeId} (h : w.heap[b]? = some (.cells C ty (0, 0))) (o : Nat) : w.frozen? ⟨b, o, none⟩ = false := by
  simp [World.frozen?, h]
theorem shape_at {w : World} {b : Nat} {C : Array Value} {ty : TypeId} (h : w.heap[b]? = some (.cells C ty (0, 0))) : w.shape? b = some (ty, C.size) := by
  simp [World.shape?, h]
theorem cell_at {w : World} {b : Nat} {C : Array Value} {ty : TypeId} (h : w.heap[b]? = some (.cells C ty (0, 0))) (o : Nat) : w.cell? ⟨b, o, none⟩ = C[o]? := by
  simp [World.cell?, h]

theorem calls_post {f : Nat} {xs : Array Value} {w : World} {S S' : Ending → World → Prop} (h : Calls P f xs w S) (hs : ∀ e w', S e w' → S' e w') : Calls P f xs w S' := h.mono hs

theorem insK_ok (hz : ¬ T z) {ren : Ren} (L : Lays2.n21 P ren) (hb : hasBody P (ren.f 21) = true) : ContractOk T P val (ren.f 21) (insK z) := by
  intro args fz mu n k h
  unfold insK at h
  split at h
  case h_2 => exact (hz h).elim
  case h_1 x i vid voff m vcap vs =>
  obtain ⟨h1, h2⟩ := cond_elim hz h
  simp only [Bool.and_eq_true, Nat.blt_eq] at h1
  obtain ⟨hm, hvs⟩ := h1
  have hvs' := beq_yes hvs
  subst hvs'
  obtain ⟨vc, h3, h4⟩ := lookAll_elim hz h2
  obtain ⟨h5, h6⟩ := subK_elim hz h4
  obtain ⟨hks, h7⟩ := cond_elim hz h6
  generalize hsrc : (vc.drop voff).take m = src at h7 hks
  have hsl : src.length = m := by rw [← hsrc]; simp; omega
  have hfzV : (look mu vid).isSome ∨ (fz vid).isSome := by
    rcases h3 with h | ⟨_, h⟩
    · exact .inl (by simp [h])
    · exact .inr (by simp [h])
  -- the values to be laid in
  have V : ∀ ρ w (xs : Value), Rel val ρ fz mu w → VR val ρ w (.osl vid voff m vcap 1) xs → ∃ q c C ty, ∃ news : List Value, ρ vid = some q ∧ xs = .slice (some ⟨q.1, q.2 + voff, none⟩) m c ∧ w.heap[q.1]? = some (.cells C ty (0, 0)) ∧ news.length = m ∧ All2 (VR val ρ w) src news ∧ (∀ j v, news[j]? = some v → w.cell? ⟨q.1, q.2 + voff + j, none⟩ = some v) := by
    intro ρ w xs hr hv
    obtain ⟨q, c, hq, hx, _⟩ := hv
    have ho := seen hr h3
    obtain ⟨q', C, ty, e1, e2, _⟩ := ho
    rw [hq] at e1; cases e1
    obtain ⟨news, g1, g2, g3, _⟩ := (seen hr h3).read (P := P) hq h5
    rw [hsrc] at g2
    exact ⟨q, c, C, ty, news, hq, hx, e2, g1, g2, g3⟩
  unfold insAt at h7
  -- a new row
  have newRow0 : ∀ (base : Option Addr), T (k (.one (.osl n 0 m m 1)) ((n, src) :: mu) (n + 1)) → i = 0 → m ≤ 1000000 → (∀ ρ w v, VR val ρ w x v → ∃ base : Option Addr, v = .slice base 0 0) →
      ∃ v mu' n', T (k v mu' n') ∧ hasBody P (ren.f 21) = true ∧ n ≤ n' ∧ ∀ ρ w (xs : List Value), Rel val ρ fz mu w → All2 (AVR val ρ w) [.one x, .one (.int .i64 i), .one (.osl vid voff m vcap 1)] xs → FreshN ρ n n' →
        Calls P (ren.f 21) xs.toArray w fun e w' => ∃ x, e = .returned x ∧ Post val ρ fz mu n w v mu' n' x w' := by
    intro _ hT hi hmb hx0
    refine ⟨_, _, _, hT, hb, Nat.le_succ _, fun ρ w xs hr hxs hf => ?_⟩
    obtain ⟨x1, x2, x3, rfl⟩ : ∃ x1 x2 x3, xs = [x1, x2, x3] := by
      match xs, hxs with
      | [a, b, c], _ => exact ⟨a, b, c, rfl⟩
      | [], h => exact h.elim
      | [_], h => exact h.2.elim
      | [_, _], h => exact h.2.2.elim
      | _ :: _ :: _ :: _ :: _, h => exact h.2.2.2.elim
    obtain ⟨hx1, hx2, hx3, _⟩ := hxs
    obtain ⟨base, rfl⟩ := hx0 ρ w x1 hx1
    have hx2' : x2 = .int .i64 i := hx2
    subst hx2' hi
    obtain ⟨q, c, C, ty, news, hq, rfl, hC, hnl, hnv, hnc⟩ := V ρ w x3 hr hx3
    have hn := hf n (Nat.le_refl _) (Nat.lt_succ_self _)
    have := Any2.slices_Insert_int_end_grow L base 0 0 q.1 (q.2 + voff) m c [] news w hm (Nat.le_refl _) (by omega) (by omega) rfl hnl (fun _ => rfl) (fun _ _ j v hj => by simp at hj) hnc (known_all hnv hks)
    refine calls_post this fun e w' ⟨he, hw⟩ => ⟨_, he, ?_⟩
    subst hw
    simp only [Nat.zero_add] at *
    have hge := grownCap_ge w m 0 (ren.t 3)
    have hle := grownCap_le_maxLen w m 0 (ren.t 3) (by unfold maxLen; omega)
    unfold maxLen at hle
    obtain ⟨b1, b2, b3, b4, b5, b6⟩ := new_block (ty := ren.t 3) (Like.drew w) hr hn (cs := src) (C := (([] ++ news : List Value).toArray ++ Builtin.zeroCells (Value.int .i64 0).cells (grownCap w m 0 (ren.t 3) - m))) (by simp [hnl, hsl])
      (fun j s' hj => by
        obtain ⟨v, ev', rv⟩ := hnv.get hj
        refine ⟨v, ?_, rv⟩
        have hlt := (List.getElem?_eq_some_iff.1 ev').1
        rw [Array.getElem?_append_left (by simpa using hlt)]
        simpa using ev')
    refine ⟨_, b1, b2, ⟨(w.heap.size, 0), _, upd_same _ _ _, rfl, Nat.le_refl _, hge, ?_, by omega⟩, b3, b4, b5⟩
    rw [b6]
    simp [Builtin.zeroCells, Value.cells, hnl]
    omega
  split at h7
  · obtain ⟨g1, g2⟩ := cond_elim hz h7
    simp only [Bool.and_eq_true, eqI_eq, decide_eq_true_eq] at g1
    rw [fN_eq] at g2
    exact newRow0 none g2 g1.1 (Nat.le_of_ble_eq_true g1.2) fun ρ w v hv => ⟨none, hv⟩
  · obtain ⟨g1, g2⟩ := cond_elim hz h7
    simp only [Bool.and_eq_true, eqI_eq, decide_eq_true_eq] at g1
    rw [fN_eq] at g2
    exact newRow0 none g2 g1.1 (Nat.le_of_ble_eq_true g1.2) fun ρ w v ⟨a, hv⟩ => ⟨some a, hv⟩
  · rename_i id off len cap s
    obtain ⟨g1, g2⟩ := cond_elim hz h7
    simp only [Bool.and_eq_true, ltI_eq, Bool.not_eq_true', decide_eq_false_iff_not] at g1
    obtain ⟨⟨⟨⟨c1, c2⟩, c3⟩, c4⟩, c5⟩ := g1
    have hs1 := beq_yes c1
    subst hs1
    have hil := Nat.le_of_ble_eq_true c3
    have hlm : len + m ≤ 1000000 := Nat.le_of_ble_eq_true c5
    have hne : id ≠ vid := Nat.ne_of_beq_eq_false c4
    obtain ⟨known, hl, g3⟩ := onLook_elim hz g2
    obtain ⟨g4, g5⟩ := cond_elim hz g3
    simp only [Bool.and_eq_true] at g4
    have hkl : known.length = off + len := beq_yes g4.1
    rw [copyK_eq, killK_eq, fN_eq, fN_eq] at g5
    have hiz : i = (i.toNat : Int) := by omega
    generalize i.toNat = i0 at *
    subst hiz
    refine ⟨_, _, _, g5, hb, Nat.le_succ _, fun ρ w xs hr hxs hf => ?_⟩
    obtain ⟨x1, x2, x3, rfl⟩ : ∃ x1 x2 x3, xs = [x1, x2, x3] := by
      match xs, hxs with
      | [a, b, c], _ => exact ⟨a, b, c, rfl⟩
      | [], h => exact h.elim
      | [_], h => exact h.2.elim
      | [_, _], h => exact h.2.2.elim
      | _ :: _ :: _ :: _ :: _, h => exact h.2.2.2.elim
    obtain ⟨hx1, hx2, hx3, _⟩ := hxs
    have hx2' : x2 = .int .i64 (i0 : Int) := hx2
    subst hx2'
    obtain ⟨q, c, CV, tyV, news, hq, rfl, hCV, hnl, hnv, hnc⟩ := V ρ w x3 hr hx3
    obtain ⟨p, cc, hp, rfl, q1, q2, q3, q4⟩ := hx1
    have hn := hf n (Nat.le_refl _) (Nat.lt_succ_self _)
    obtain ⟨p', C, ty, e1, hC, _, _⟩ := hr.rm id known hl
    rw [hp] at e1; cases e1
    obtain ⟨old, o1, o2, o3, _⟩ := (hr.rm id known hl).read (P := P) hp (off := off) (n := len) (by omega)
    have hkd : (known.drop off).take len = known.drop off := List.take_of_length_le (by simp; omega)
    rw [hkd] at o2
    have hbs : bsize w p.1 = C.size := by unfold bsize; rw [hC]
    rw [hbs] at q3
    have hpq : q.1 ≠ p.1 := fun e => hne (hr.dj id vid p q (by simp [hl]) hfzV hp hq e.symm)
    have hkn : ∀ v ∈ old, v.oneCell' = true := known_all o2 (by have := knownAll_sub g4.2 off len; rwa [hkd] at this)
    have hnn := known_all hnv hks
    have hall : All2 (VR val ρ w) ((known.drop off).take i0 ++ src ++ (known.drop off).drop i0) (old.take i0 ++ news ++ old.drop i0) := ((o2.take i0).append hnv).append (o2.drop i0)
    have hcl : ((known.drop off).take i0 ++ src ++ (known.drop off).drop i0).length = len + m := by simp; omega
    -- a world in which the block, or a new one, holds the new row
    have place : ∀ (w' : World) (D : Array Value), w'.heap[p.1]? = some (.cells D ty (0, 0)) → D.size = C.size → (∀ b, b ≠ p.1 → w'.heap[b]? = w.heap[b]?) → w'.os = w.os → w'.tape = w.tape → w'.output = w.output → w'.heap.size = w.heap.size →
        (∀ j, j < len + m → D[p.2 + off + j]? = (old.take i0 ++ news ++ old.drop i0)[j]?) → len + m ≤ cc →
        Post val ρ fz mu n w (.one (.osl n 0 (Nat.add len m) (Nat.add len m) 1)) ((n, (known.drop off).take i0 ++ src ++ (known.drop off).drop i0) :: killS mu id) (n + 1) (.slice (some ⟨p.1, p.2 + off, none⟩) (len + m) cc) w' := by
      intro w' D hD hDs hoth ho ht hou hhs hDv hroom
      obtain ⟨b1, b2, b3, b4, b5, b6⟩ := turn_block (n := n) (off := off) hr hl hn hp hC hD hDs hoth ho ht hou hhs (cs := (known.drop off).take i0 ++ src ++ (known.drop off).drop i0) (by rw [hcl, hDs]; omega) (fun j s hj => by
        obtain ⟨v, ev', rv⟩ := hall.get hj
        have hlt := (List.getElem?_eq_some_iff.1 hj).1
        rw [hcl] at hlt
        exact ⟨v, by rw [hDv j hlt]; exact ev', rv⟩)
      refine ⟨_, b1, b2, ⟨(p.1, p.2 + off), cc, upd_same _ _ _, rfl, Nat.le_refl _, hroom, ?_, q4⟩, b3, b4, b5⟩
      rw [b6, hbs]; simpa using q3
    have fresh : ∀ (w' : World) (D : Array Value) (G : Nat), w'.heap = w.heap.push (.cells D (ren.t 3) (0, 0)) → w'.os = w.os → w'.tape = w.tape → w'.output = w.output → D.size = G → len + m ≤ G → G ≤ 9223372036854775807 →
        (∀ j, j < len + m → D[j]? = (old.take i0 ++ news ++ old.drop i0)[j]?) →
        Post val ρ fz mu n w (.one (.osl n 0 (Nat.add len m) (Nat.add len m) 1)) ((n, (known.drop off).take i0 ++ src ++ (known.drop off).drop i0) :: killS mu id) (n + 1) (.slice (some ⟨w.heap.size, 0, none⟩) (len + m) G) w' := by
      intro w' D G hh ho ht hou hDs hG hG2 hDv
      have hkmono : ∀ a, (look (killS mu id) a).isSome → (look mu a).isSome := fun a ha => by
        rw [look_killS] at ha
        split at ha
        · cases ha
        · exact ha
      obtain ⟨b1, b2, b3, b4, b5, b6⟩ := new_block (ty := ren.t 3) (Like.refl w) (hr.kill id) hn (cs := (known.drop off).take i0 ++ src ++ (known.drop off).drop i0) (C := D) (by rw [hcl, hDs]; exact hG)
        (fun j s' hj => by
          obtain ⟨v, ev', rv⟩ := hall.get hj
          have hlt := (List.getElem?_eq_some_iff.1 hj).1
          rw [hcl] at hlt
          exact ⟨v, by rw [hDv j hlt]; exact ev', rv⟩)
      have hlike : Like (w.alloc (.cells D (ren.t 3))) w' := ⟨hh, ho, ht, hou⟩
      refine ⟨_, b1, b2.like hlike, ⟨(w.heap.size, 0), G, upd_same _ _ _, rfl, Nat.le_refl _, hG, ?_, hG2⟩, (b3.trans NewB.refl hlike.fr).wider hkmono, b4.wider hkmono, b5.wider hkmono⟩
      rw [hlike.bsize, b6, hDs]; simp
    have hold : ∀ j, j < len → old[j]? = C[p.2 + off + j]? := fun j hj => by
      have h1 : old[j]? = some old[j] := List.getElem?_eq_getElem (by omega)
      have := o3 j _ h1
      rw [cell_at hC] at this
      rw [h1, this]
    have hsp : ∀ j, j < cc → (w.cell? ⟨p.1, p.2 + off + j, none⟩).isSome = true := fun j hj => by
      rw [cell_at hC, Array.getElem?_eq_getElem (by omega)]; rfl
    by_cases hi : i0 < len
    · by_cases hroom : len + m ≤ cc
      · have := Any2.slices_Insert_int_shift L p.1 (p.2 + off) len cc i0 q.1 (q.2 + voff) m c old news w hi hm hroom q4 hpq o1 hnl o3 (fun j hj => hsp j (by omega)) (fun j _ => frozen_at hC _) hnc hkn hnn tyV ty CV.size C.size (shape_at hCV) (shape_at hC) (by omega) (frozen_at hCV _) (frozen_at hCV _)
        refine calls_post this fun e w' ⟨he, hw⟩ => ⟨_, he, ?_⟩
        subst hw
        obtain ⟨D1, d1, d2, d3⟩ := setCells_heap (old.drop i0) (p.2 + off + (i0 + m)) w.drew C hC (by simp; omega)
        obtain ⟨D2, f1, f2, f3⟩ := setCells_heap news (p.2 + off + i0) _ D1 d1 (by omega)
        obtain ⟨r1, r2, r3, r4⟩ := setCells_rest (b := p.1) (old.drop i0) (p.2 + off + (i0 + m)) w.drew
        obtain ⟨s1, s2, s3, s4⟩ := setCells_rest (b := p.1) news (p.2 + off + i0) (w.drew.setCells p.1 (p.2 + off + (i0 + m)) (old.drop i0))
        refine place _ D2 f1 (f2.trans d2) (fun b hb => by rw [setCells_other hb, setCells_other hb]; rfl) (s1.trans r1) (s2.trans r2) (s3.trans r3) (s4.trans r4) (fun j hj => ?_) hroom
        rw [f3, d3]
        by_cases a1 : j < i0
        · rw [if_neg (by omega), if_neg (by omega), ← hold j (by omega), List.append_assoc, List.getElem?_append_left (by simp; omega), List.getElem?_take_of_lt a1]
        · by_cases a2 : j < i0 + m
          · rw [if_pos (by omega), List.append_assoc, List.getElem?_append_right (by simp; omega), List.getElem?_append_left (by simp; omega)]
            congr 1; simp; omega
          · rw [if_neg (by omega), if_pos (by simp; omega), List.getElem?_append_right (by simp; omega)]
            congr 1; simp; omega
      · have := Any2.slices_Insert_int_grow L p.1 (p.2 + off) len cc i0 q.1 (q.2 + voff) m c old news w hi hm (by omega) (by omega) (by omega) o1 hnl o3 hnc hkn hnn
        refine calls_post this fun e w' ⟨he, hw⟩ => ⟨_, he, ?_⟩
        subst hw
        have hge := grownCap_ge w (len + m) cc (ren.t 3)
        have hle := grownCap_le_maxLen w (len + m) cc (ren.t 3) (by unfold maxLen; omega)
        unfold maxLen at hle
        generalize grownCap w (len + m) cc (ren.t 3) = G at *
        generalize hROW : (old.take i0).toArray ++ Builtin.zeroCells (Value.int .i64 0).cells (len + m - i0) ++ Builtin.zeroCells (Value.int .i64 0).cells (G - (len + m)) = ROW
        have hRs : ROW.size = G := by rw [← hROW]; simp [Builtin.zeroCells, Value.cells]; omega
        have hRg : ∀ j, j < i0 → ROW[j]? = old[j]? := fun j hj => by
          rw [← hROW, Array.append_assoc, Array.getElem?_append_left (by simp; omega)]
          simp [List.getElem?_take_of_lt hj]
        have hA : (w.alloc (.cells ROW (ren.t 3))).drew.heap[w.heap.size]? = some (.cells ROW (ren.t 3) (0, 0)) := alloc_new (.cells ROW (ren.t 3))
        obtain ⟨D1, d1, d2, d3⟩ := setCells_heap news i0 _ ROW hA (by omega)
        obtain ⟨D2, f1, f2, f3⟩ := setCells_heap (old.drop i0) (i0 + m) ((w.alloc (.cells ROW (ren.t 3))).drew.setCells w.heap.size i0 news).drew D1 d1 (by simp; omega)
        obtain ⟨r1, r2, r3, r4⟩ := setCells_rest (b := w.heap.size) news i0 (w.alloc (.cells ROW (ren.t 3))).drew
        obtain ⟨s1, s2, s3, s4⟩ := setCells_rest (b := w.heap.size) (old.drop i0) (i0 + m) ((w.alloc (.cells ROW (ren.t 3))).drew.setCells w.heap.size i0 news).drew
        refine fresh _ D2 G ?_ (s1.trans r1) (s2.trans r2) (s3.trans r3) (by rw [f2, d2, hRs]) hge hle (fun j hj => ?_)
        · refine Array.ext_getElem? fun b => ?_
          by_cases e : b = w.heap.size
          · subst e; rw [f1]; simp
          · rw [setCells_other e]
            show ((w.alloc (.cells ROW (ren.t 3))).drew.setCells w.heap.size i0 news).heap[b]? = _
            rw [setCells_other e]
            show (w.heap.push (.cells ROW (ren.t 3)))[b]? = _
            rw [Array.getElem?_push, Array.getElem?_push]
            simp [e]
        · rw [f3, d3]
          by_cases a1 : j < i0
          · rw [if_neg (by omega), if_neg (by omega), hRg j a1, List.append_assoc, List.getElem?_append_left (by simp; omega), List.getElem?_take_of_lt a1]
          · by_cases a2 : j < i0 + m
            · rw [if_neg (by omega), if_pos (by omega), List.append_assoc, List.getElem?_append_right (by simp; omega), List.getElem?_append_left (by simp; omega)]
              congr 1; simp; omega
            · rw [if_pos (by simp; omega), List.getElem?_append_right (by simp; omega)]
              congr 1; simp; omega
    · have hie : i0 = len := by omega
      subst hie
      have htk : old.take i0 = old := List.take_of_length_le (by omega)
      have hdr : old.drop i0 = [] := List.drop_eq_nil_of_le (by omega)
      by_cases hroom : i0 + m ≤ cc
      · have := Any2.slices_Insert_int_end_room L p.1 (p.2 + off) i0 cc q.1 (q.2 + voff) m c news w hm hroom q4 hnl (fun j hj => by rw [Nat.add_assoc]; exact hsp _ (by omega)) (fun j _ => frozen_at hC _) hnc hnn
        refine calls_post this fun e w' ⟨he, hw⟩ => ⟨_, he, ?_⟩
        subst hw
        obtain ⟨D1, d1, d2, d3⟩ := setCells_heap news (p.2 + off + i0) w C hC (by omega)
        obtain ⟨r1, r2, r3, r4⟩ := setCells_rest (b := p.1) news (p.2 + off + i0) w
        refine place _ D1 d1 d2 (fun b hb => setCells_other hb _ _ _) r1 r2 r3 r4 (fun j hj => ?_) hroom
        rw [d3, htk, hdr, List.append_nil]
        by_cases a1 : j < i0
        · rw [if_neg (by omega), ← hold j a1, List.getElem?_append_left (by omega)]
        · rw [if_pos (by omega), List.getElem?_append_right (by omega)]
          congr 1; omega
      · have := Any2.slices_Insert_int_end_grow L (some ⟨p.1, p.2 + off, none⟩) i0 cc q.1 (q.2 + voff) m c old news w hm (by omega) (by omega) (by omega) o1 hnl (fun h => by cases h) (fun a ha j v hj => by cases ha; rw [addr_add]; exact o3 j v hj) hnc hnn
        refine calls_post this fun e w' ⟨he, hw⟩ => ⟨_, he, ?_⟩
        subst hw
        have hge := grownCap_ge w (i0 + m) cc (ren.t 3)
        have hle := grownCap_le_maxLen w (i0 + m) cc (ren.t 3) (by unfold maxLen; omega)
        unfold maxLen at hle
        generalize grownCap w (i0 + m) cc (ren.t 3) = G at *
        refine fresh _ _ G rfl rfl rfl rfl (by simp [Builtin.zeroCells, Value.cells]; omega) hge hle (fun j hj => ?_)
        rw [htk, hdr, List.append_nil, Array.getElem?_append_left (by simp; omega)]
        simp
  · exact (hz h7).elim
end
end Go.Ev
