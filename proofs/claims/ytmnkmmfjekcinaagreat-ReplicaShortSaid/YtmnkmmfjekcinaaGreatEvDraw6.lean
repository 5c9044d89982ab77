/-
  Regions whose order is open: beginning and end.
-/
import Derived.Test.YtmnkmmfjekcinaaGreatEvDraw5
set_option linter.unusedVariables false
set_option linter.unusedSimpArgs false
namespace Go.Ev

section
variable {R : Type} {T : R → Prop} {z : R} {P : Program} {val : Nat → Int} {fz : Fz} {orc : Orc R} {call : CallT R}

/-- A store in parts. -/
structure Split (mu0 : St) (comp : Nat → St) : Prop where
  sub : ∀ c id cs, look (comp c) id = some cs → look mu0 id = some cs
  one : ∀ c c' id, (look (comp c) id).isSome → (look (comp c') id).isSome → c = c'

theorem Split.inv {mu0 : St} {comp : Nat → St} {ρ : Rho} {w : World} (h : Split mu0 comp) (hr : Rel val ρ fz mu0 w) : CInv val ρ fz comp w := by
  have sub' : ∀ c id, (look (comp c) id).isSome → (look mu0 id).isSome := fun c id hs => by
    obtain ⟨cs, hcs⟩ := Option.isSome_iff_exists.1 hs
    simp [h.sub c id cs hcs]
  refine ⟨hr.rf, fun c id cs hl => hr.rm id cs (h.sub c id cs hl), fun c id cs hl => hr.dm id cs (h.sub c id cs hl), fun c c' id id' p p' hl hl' hp hp' e => ?_, fun c id id' p p' hl hl' hp hp' e => ?_⟩
  · have := hr.dj id id' p p' (sub' c id hl) (.inl (sub' c' id' hl')) hp hp' e
    subst this
    exact ⟨h.one c c' id hl hl', rfl⟩
  · have := hr.dj id id' p p' (sub' c id hl) (.inr hl') hp hp' e
    subst this
    obtain ⟨cs, hcs⟩ := Option.isSome_iff_exists.1 hl
    rw [hr.dm id cs (h.sub c id cs hcs)] at hl'
    cases hl'

theorem apart_elim (hz : ¬ T z) {mu0 : St} : ∀ {al : List AOper} {i : Nat} {tm : TM} {mu : St} {ad : List St} {k : St → List St → R}, i + al.length ≤ ad.length → Split mu0 (compOf mu ad) → (∀ j, i ≤ j → (ad[j]?).getD [] = []) → T (apart z al i tm mu ad k) →
    ∃ mu' ad', T (k mu' ad') ∧ ad'.length = ad.length ∧ Split mu0 (compOf mu' ad') ∧ ∀ j, (ad'[j]?).getD [] = (ad[j]?).getD [] ∨ ∃ (m : Nat) (p : AOper), j = i + m ∧ al[m]? = some p ∧ p.mode = 4
  | [], i, tm, mu, ad, k, _, hs, _, h => ⟨mu, ad, h, rfl, hs, fun j => .inl rfl⟩
  | o :: al, i, tm, mu, ad, k, hl, hs, he, h => by
    have go : ∀ mu1 ad1, ad1.length = ad.length → Split mu0 (compOf mu1 ad1) → (∀ j, i + 1 ≤ j → (ad1[j]?).getD [] = []) → (∀ j, (ad1[j]?).getD [] = (ad[j]?).getD [] ∨ (j = i ∧ o.mode = 4)) → T (apart z al (i + 1) tm mu1 ad1 k) →
        ∃ mu' ad', T (k mu' ad') ∧ ad'.length = ad.length ∧ Split mu0 (compOf mu' ad') ∧ ∀ j, (ad'[j]?).getD [] = (ad[j]?).getD [] ∨ ∃ (m : Nat) (p : AOper), j = i + m ∧ (o :: al)[m]? = some p ∧ p.mode = 4 := by
      intro mu1 ad1 h1 h2 h3 h4 h5
      obtain ⟨mu', ad', g1, g2, g3, g4⟩ := apart_elim hz (by simp at hl; omega) h2 h3 h5
      refine ⟨mu', ad', g1, g2.trans h1, g3, fun j => ?_⟩
      rcases g4 j with g | ⟨m, p, e1, e2, e3⟩
      · rcases h4 j with g' | ⟨e1, e2⟩
        · exact .inl (g.trans g')
        · exact .inr ⟨0, o, by omega, by simp, e2⟩
      · exact .inr ⟨m + 1, p, by omega, by simpa using e2, e3⟩
    have skip : T (apart z al (i + 1) tm mu ad k) → ∃ mu' ad', T (k mu' ad') ∧ ad'.length = ad.length ∧ Split mu0 (compOf mu' ad') ∧ ∀ j, (ad'[j]?).getD [] = (ad[j]?).getD [] ∨ ∃ (m : Nat) (p : AOper), j = i + m ∧ (o :: al)[m]? = some p ∧ p.mode = 4 :=
      fun h => go mu ad rfl hs (fun j hj => he j (by omega)) (fun j => .inl rfl) h
    by_cases hm : o.mode = 4
    · obtain ⟨dst, op, g, mode, anc⟩ := o
      simp only at hm
      subst hm
      cases op with
      | store sz x v =>
        have h' : T ((ev tm x).onOne (apart z al (i + 1) tm mu ad k) fun s => s.onPtr (apart z al (i + 1) tm mu ad k) fun id _ =>
          onLook mu id (apart z al (i + 1) tm mu ad k) fun cs => killK mu id fun mu => setK ad i [(id, cs)] fun ad => apart z al (i + 1) tm mu ad k) := h
        cases e1 : ev tm x with
        | ag l => rw [e1] at h'; exact skip h'
        | tp l => rw [e1] at h'; exact skip h'
        | one s =>
          rw [e1] at h'
          cases s with
          | optr id off =>
            have h'' : T (onLook mu id (apart z al (i + 1) tm mu ad k) fun cs => killK mu id fun mu => setK ad i [(id, cs)] fun ad => apart z al (i + 1) tm mu ad k) := h'
            unfold onLook at h''
            cases e2 : look mu id with
            | none => rw [e2] at h''; exact skip h''
            | some cs =>
              rw [e2] at h''
              have h3 : T (killK mu id fun mu => setK ad i [(id, cs)] fun ad => apart z al (i + 1) tm mu ad k) := h''
              rw [killK_eq, setK_eq] at h3
              have hi : i < ad.length := by simp at hl; omega
              have hget : ∀ j, ((ad.set i [(id, cs)])[j]?).getD [] = if j = i then [(id, cs)] else (ad[j]?).getD [] := fun j => by
                rw [List.getElem?_set]
                by_cases e : i = j
                · subst e; simp [hi]
                · have e' : ¬ j = i := fun x => e x.symm
                  simp [e, e']
              have lk1 : ∀ id', look [(id, cs)] id' = if id = id' then some cs else none := fun id' => by rw [look_cons]; simp [look_nil]
              refine go _ _ (by simp) ⟨fun c id' cs' hc => ?_, fun c c' id' hc hc' => ?_⟩ (fun j hj => ?_) (fun j => ?_) h3
              · cases c with
                | zero =>
                  simp only [compOf, look_killS] at hc
                  split at hc
                  · cases hc
                  · exact hs.sub 0 id' cs' hc
                | succ j =>
                  simp only [compOf, hget] at hc
                  split at hc
                  · rw [lk1] at hc
                    split at hc
                    · subst_vars; cases hc; exact hs.sub 0 _ _ e2
                    · cases hc
                  · exact hs.sub (j + 1) id' cs' hc
              · have key : ∀ c, (look (compOf (killS mu id) (ad.set i [(id, cs)]) c) id').isSome → (c = i + 1 ∧ id' = id) ∨ (id' ≠ id ∧ (look (compOf mu ad c) id').isSome) := by
                  intro c hx
                  cases c with
                  | zero =>
                    simp only [compOf, look_killS] at hx
                    split at hx
                    · cases hx
                    · rename_i hne; exact .inr ⟨fun e => hne e.symm, hx⟩
                  | succ j =>
                    simp only [compOf, hget] at hx
                    split at hx
                    · rw [lk1] at hx
                      split at hx
                      · subst_vars; exact .inl ⟨rfl, rfl⟩
                      · cases hx
                    · rename_i hji
                      by_cases e : id' = id
                      · subst e
                        have := hs.one (j + 1) 0 id' hx (by simp [compOf, e2])
                        cases this
                      · exact .inr ⟨e, hx⟩
                rcases key c hc with ⟨h1, h2⟩ | ⟨h1, h2⟩
                · rcases key c' hc' with ⟨h3, h4⟩ | ⟨h3, h4⟩
                  · rw [h1, h3]
                  · exact (h3 h2).elim
                · rcases key c' hc' with ⟨h3, h4⟩ | ⟨h3, h4⟩
                  · exact (h1 h4).elim
                  · exact hs.one c c' id' h2 h4
              · rw [hget]
                have : ¬ j = i := by omega
                simp only [this, if_false]
                exact he j (by omega)
              · rw [hget]
                by_cases e : j = i
                · exact .inr ⟨e, rfl⟩
                · simp [e]
          | _ => exact skip h'
      | _ => first | exact skip h | exact (hz h).elim
    · have hb : Nat.beq o.mode 4 = false := by
        cases e : Nat.beq o.mode 4 with
        | false => rfl
        | true => exact (hm (Nat.eq_of_beq_eq_true e)).elim
      unfold apart at h
      simp only [hb, cond_false] at h
      exact skip h

def joined : List St → St → St
  | [], mu => mu
  | s :: r, mu => joined r (s ++ mu)
theorem joinAll_eq (l : List St) (mu : St) (k : St → R) : joinAll l mu k = k (joined l mu) := by
  induction l generalizing mu with
  | nil => rfl
  | cons s r ih =>
    show joinK s mu (fun mu => joinAll r mu k) = _
    rw [joinK_eq, ih]
    rfl
theorem look_joined {id : Nat} {cs : List SV} : ∀ {l : List St} {mu : St}, look (joined l mu) id = some cs → look mu id = some cs ∨ ∃ j : Nat, look ((l[j]?).getD []) id = some cs
  | [], mu, h => .inl h
  | s :: r, mu, h => by
    rcases look_joined (l := r) h with h1 | ⟨j, h1⟩
    · rw [look_append] at h1
      cases e : look s id with
      | some c => rw [e] at h1; cases h1; exact .inr ⟨0, by simpa using e⟩
      | none => rw [e] at h1; exact .inl h1
    · exact .inr ⟨j + 1, by simpa using h1⟩
theorem look_joined' {id : Nat} {cs : List SV} {ad : List St} {mu : St} (h : look (joined ad mu) id = some cs) : ∃ c, look (compOf mu ad c) id = some cs := by
  rcases look_joined h with h | ⟨j, h⟩
  · exact ⟨0, h⟩
  · exact ⟨j + 1, h⟩

theorem draw_sound (hz : ¬ T z) (hc : CallSound T P val call) (hk : OrcOk T val orc) (hmx : P.follows .mixedOrders = true) {id : Nat} {ops : Array Oper} {al : List AOper} {tm : TM} {mu : St} {n : Nat} {k : TM → St → Nat → R} (hok : regOk ops.toList al = true) (hopr : All2 (OpR P ops) ops.toList al)
    (h : T (drawK orc z call fz al tm mu n k)) :
    ∃ tm' mu' n', T (k tm' mu' n') ∧ n ≤ n' ∧ ∀ ρ w a, Rel val ρ fz mu w → TmR val ρ w tm a → FreshN ρ n n' → ∀ (Q : Exit → Act → World → Prop), (∀ a' w', PostS val ρ fz mu n w a tm' mu' n' a' w' → Q .normal a' w') → (Code.region id ops true).wp P Q a w := by
  have rok := rok_of hok
  have hlen := hopr.length
  have hd0 : ∀ j, (((al.map fun _ => ([] : St)))[j]?).getD [] = [] := fun j => by
    rw [List.getElem?_map]; cases al[j]? <;> rfl
  have hs0 : Split mu (compOf mu (al.map fun _ => [])) := by
    refine ⟨fun c id cs hl => ?_, fun c c' id hl hl' => ?_⟩
    · cases c with
      | zero => exact hl
      | succ j => simp only [compOf, hd0] at hl; cases hl
    · cases c with
      | succ j => simp only [compOf, hd0] at hl; cases hl
      | zero => cases c' with
        | zero => rfl
        | succ j => simp only [compOf, hd0] at hl'; cases hl'
  unfold drawK at h
  obtain ⟨mu1, ad1, h1, h2, h3, h4⟩ := apart_elim hz (by simp) hs0 (fun j _ => hd0 j) h
  obtain ⟨rs, tm', mu2, ad2, n', h5, h6, h7⟩ := rrun_elim (P := P) (val := val) hz hc hk hopr (by simp at h2; omega) (fun j ao hj => by
    have hj' := (List.getElem?_eq_some_iff.1 hj).1
    refine ⟨rok.mode j _ ao (List.getElem?_eq_getElem (by omega)) hj, fun hm => ?_⟩
    have := rok.lt hlen j ao hj (0 + j) hm
    omega) h1
  rw [joinAll_eq] at h5
  obtain ⟨f1, f2, f3, f4⟩ := Chain.final h7
  have hmono := nAt_mono f4
  have hdead : ∀ c, ¬ live al c → compOf mu1 ad1 c = [] := fun c hc => by
    cases c with
    | zero => exact (hc (.inl rfl)).elim
    | succ j =>
      rcases h4 j with e | ⟨m, p, e1, e2, e3⟩
      · simp only [compOf, e, hd0]
      · rw [Nat.zero_add] at e1; subst e1
        exact (hc (.inr ⟨j, p, rfl, e2, by omega, by omega⟩)).elim
  have RG : Reg P val fz ops al rs tm (compOf mu1 ad1) n tm' (compOf mu2 ad2) n' := ⟨rok, hopr, h7, hdead⟩
  have hn : n ≤ n' := by rw [f3]; exact hmono 0 _ (by omega) (Nat.le_refl _)
  refine ⟨tm', joined ad2 mu2, n', h5, hn, fun ρ w a hr ht hf Q hQ => ?_⟩
  have e0 : foldC (fun _ => false) 0 al rs (compOf mu1 ad1) = compOf mu1 ad1 := by funext c; exact foldC_skip fun _ _ _ _ _ _ => rfl
  have t0 : TMeq tm (foldTm (fun _ => false) 0 al rs tm) := ⟨fun q r => (foldTm_skip fun _ _ _ _ => rfl).symm, fun q r => by rw [foldTm_inR]⟩
  have hS : Part val fz al rs tm (compOf mu1 ad1) n n' ρ mu w.drew (fun _ => false) ρ a w.drew := by
    refine ⟨fun _ _ h => (by cases h), Ext.refl _ _ _, ?_, ?_, Fr.refl _ _ _, fun c id p hl hp => ?_, fun c id hl => ?_, fun j hj _ => ?_⟩
    · rw [e0]; exact (h3.inv hr).like (Like.drew w)
    · exact (ht.mono (fun _ _ h => h) (fun b => Nat.le_of_eq ((Like.drew w).bsize b).symm)).congr t0
    · rw [e0] at hl
      obtain ⟨cs, hcs⟩ := Option.isSome_iff_exists.1 hl
      exact .inr ⟨id, p, by simp [h3.sub c id cs hcs], hp, rfl⟩
    · rw [e0] at hl
      obtain ⟨cs, hcs⟩ := Option.isSome_iff_exists.1 hl
      exact .inl (by simp [h3.sub c id cs hcs])
    · refine hf.sub (hmono 0 j (by omega) (by omega)) ?_
      rw [f3]; exact hmono (j + 1) _ (by omega) (Nat.le_refl _)
  refine wp_region_any hmx (Part.any RG (ρ0 := ρ) (mu0 := mu) (w0 := w.drew) (d := a) (fun ρ' a' w' hd S => hQ a' w' ⟨hd, ρ', S.ext, ?_, ?_, ⟨S.fr.os, S.fr.tape, S.fr.output, S.fr.size, S.fr.keep, S.fr.shape, S.fr.frozen⟩, fun id p hl hp => ?_, fun id hl => ?_⟩) _ _ a _ (by simp) (by simp [List.count_le_length]) rfl ⟨ρ, ?_⟩)
  · have := S.inv
    rw [← f2] at this
    refine ⟨this.rf, fun id cs hl => ?_, fun id cs hl => ?_, fun id id' p p' hl hl' hp hp' e => ?_⟩
    · obtain ⟨c, hc⟩ := look_joined' hl; exact this.rm c id cs hc
    · obtain ⟨c, hc⟩ := look_joined' hl; exact this.dm c id cs hc
    · obtain ⟨cs, hcs⟩ := Option.isSome_iff_exists.1 hl
      obtain ⟨c, hc⟩ := look_joined' hcs
      rcases hl' with hl' | hl'
      · obtain ⟨cs', hcs'⟩ := Option.isSome_iff_exists.1 hl'
        obtain ⟨c', hc'⟩ := look_joined' hcs'
        exact (this.dj c c' id id' p p' (by simp [hc]) (by simp [hc']) hp hp' e).2
      · exact (this.df c id id' p p' (by simp [hc]) hl' hp hp' e).elim
  · rw [f1]; exact S.tmr
  · obtain ⟨cs, hcs⟩ := Option.isSome_iff_exists.1 hl
    obtain ⟨c, hc⟩ := look_joined' hcs
    have := S.nb c id p
    rw [← f2] at this
    exact this (by simp [hc]) hp
  · obtain ⟨cs, hcs⟩ := Option.isSome_iff_exists.1 hl
    obtain ⟨c, hc⟩ := look_joined' hcs
    have := S.ni c id
    rw [← f2] at this
    exact this (by simp [hc])
  · have eM : (fun x => (Array.replicate ops.size false).getD x false) = fun _ => false := by
      funext x
      simp only [Array.getD_eq_getD_getElem?, Array.getElem?_replicate]
      split <;> rfl
    rw [eM]
    exact hS
end
end Go.Ev
