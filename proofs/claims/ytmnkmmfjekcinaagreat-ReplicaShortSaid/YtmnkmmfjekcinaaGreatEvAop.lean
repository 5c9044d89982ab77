/-
  Calls, and all operations together.
-/
import Derived.Test.YtmnkmmfjekcinaaGreatEvOps6
set_option linter.unusedVariables false
set_option linter.unusedSimpArgs false
namespace Go.Ev
section
variable {R : Type} {T : R → Prop} {z : R} {P : Program} {val : Nat → Int} {fz : Fz} {tm : TM} {mu : St} {n : Nat} {o : Oper}

/-- What a call that the evaluator carries out says of the model's. -/
def CallSound (T : R → Prop) (P : Program) (val : Nat → Int) (call : CallT R) : Prop :=
  ∀ f args fz mu n k, T (call f args fz mu n k) → ∃ v mu' n', T (k v mu' n') ∧ hasBody P f = true ∧ n ≤ n' ∧ ∀ ρ w (xs : List Value), Rel val ρ fz mu w → All2 (AVR val ρ w) args xs → FreshN ρ n n' →
    Calls P f xs.toArray w fun e w' => ∃ x, e = .returned x ∧ Post val ρ fz mu n w v mu' n' x w'

theorem has_keep {seen : List Nat} : ∀ {s : St} {k : St → R}, T (keepK s seen k) → ∃ s', T (k s') ∧ ∀ id c, look s' id = some c → look s id = some c
  | [], k, h => ⟨[], h, fun id c hc => hc⟩
  | p :: s, k, h => by
    have h' : T (cond (has seen p.1) (keepK s seen fun r => k (p :: r)) (keepK s seen k)) := h
    have key : ∀ s : St, ∀ {k : St → R}, T (keepK s seen k) → ∃ s', T (k s') ∧ ∀ id, look s' id = if has seen id then look s id else none := by
      intro s
      induction s with
      | nil => intro k h; exact ⟨[], h, fun id => by simp [look_nil]⟩
      | cons q t ih =>
        intro k h
        have h' : T (cond (has seen q.1) (keepK t seen fun r => k (q :: r)) (keepK t seen k)) := h
        cases e : has seen q.1 with
        | true =>
          rw [e] at h'
          obtain ⟨s', h1, h2⟩ := ih (k := fun r => k (q :: r)) h'
          refine ⟨q :: s', h1, fun id => ?_⟩
          rw [look_cons, look_cons, h2]
          by_cases he : q.1 = id
          · subst he; simp [e]
          · simp [he]
        | false =>
          rw [e] at h'
          obtain ⟨s', h1, h2⟩ := ih h'
          refine ⟨s', h1, fun id => ?_⟩
          rw [look_cons, h2]
          by_cases he : q.1 = id
          · subst he; simp [e]
          · simp [he]
    obtain ⟨s', h1, h2⟩ := key (p :: s) h
    refine ⟨s', h1, fun id c hc => ?_⟩
    rw [h2] at hc
    split at hc
    · exact hc
    · cases hc
theorem sweepK_elim {v : AV} {s : St} {k : St → R} (h : T (sweepK v s k)) : ∃ s', T (k s') ∧ ∀ id c, look s' id = some c → look s id = some c := by
  unfold sweepK at h
  cases e : v.ids with
  | nil => rw [e] at h; exact ⟨[], h, fun id c hc => (by cases hc)⟩
  | cons i r => rw [e] at h; exact has_keep h

theorem argsK_eq {l : List Od} {c : List AV} {k : List AV → R} : argsK tm l c k = k (l.map (ev tm) ++ c) := by
  induction l generalizing k with
  | nil => rfl
  | cons h t ih => exact ih

theorem caps_vals {ρ : Rho} {w : World} {cs : List (Nat × Nat)} {vs : List Value} (h : All2 (CapR ρ) cs vs) : All2 (AVR val ρ w) (capVals cs) vs := by
  induction cs generalizing vs with
  | nil => cases vs with
    | nil => trivial
    | cons _ _ => exact h.elim
  | cons c cs ih => cases vs with
    | nil => exact h.elim
    | cons v vs =>
      obtain ⟨q, hq, e⟩ := h.1
      exact ⟨⟨q, hq, e⟩, ih h.2⟩

/-- What is read alone, with the store before it. -/
theorem Rel.ro {ρ : Rho} {w : World} (hr : Rel val ρ fz mu w) : Rel val ρ (with' mu fz) [] w := by
  refine ⟨fun id cs h => ?_, fun id cs h => (by cases h), fun id cs h => (by cases h), fun id id' p p' h => (by cases h)⟩
  rw [with_eq] at h
  cases e : look mu id with
  | some c => rw [e] at h; simp only [Option.some.injEq] at h; subst h; exact hr.rm id c e
  | none => rw [e] at h; exact hr.rf id cs h

/-- Back from a run that read the store alone: its new blocks beside it. -/
theorem join_new {ρ ρ' : Rho} {w w' : World} {new new' : St} {n' : Nat} (hr : Rel val ρ fz mu w) (he : Ext ρ ρ' n n') (hr' : Rel val ρ' (with' mu fz) new w') (hf : Fr ρ [] w w') (hb : NewB ρ ρ' [] new w) (hi : NewI [] new n n')
    (hsub : ∀ id c, look new' id = some c → look new id = some c) :
    Rel val ρ' fz (new' ++ mu) w' ∧ Fr ρ mu w w' ∧ NewB ρ ρ' mu (new' ++ mu) w ∧ NewI mu (new' ++ mu) n n' := by
  have hsubI : ∀ id, (look new' id).isSome → (look new id).isSome := fun id h => by
    obtain ⟨c, hc⟩ := Option.isSome_iff_exists.1 h; simp [hsub id c hc]
  have hlk : ∀ id c, look (new' ++ mu) id = some c → look new id = some c ∨ look mu id = some c := fun id c h => by
    rw [look_append] at h
    cases e : look new' id with
    | some d => rw [e] at h; simp only [Option.some.injEq] at h; subst h; exact .inl (hsub id d e)
    | none => rw [e] at h; exact .inr h
  have hlkI : ∀ id, (look (new' ++ mu) id).isSome → (look new id).isSome ∨ (look mu id).isSome := fun id h => by
    obtain ⟨c, hc⟩ := Option.isSome_iff_exists.1 h
    rcases hlk id c hc with h | h
    · exact .inl (by simp [h])
    · exact .inr (by simp [h])
  have hw : ∀ id c, look mu id = some c → with' mu fz id = some c := fun id c h => by rw [with_eq, h]
  have hwf : ∀ id c, fz id = some c → with' mu fz id = some c := fun id c h => by
    rw [with_eq]
    cases e : look mu id with
    | some d => rw [hr.dm id d e] at h; cases h
    | none => exact h
  have hwI : ∀ id, ((look mu id).isSome ∨ (fz id).isSome) → (with' mu fz id).isSome := fun id h => by
    rcases h with h | h
    · obtain ⟨c, hc⟩ := Option.isSome_iff_exists.1 h; simp [hw id c hc]
    · obtain ⟨c, hc⟩ := Option.isSome_iff_exists.1 h; simp [hwf id c hc]
  refine ⟨⟨fun id c h => hr'.rf id c (hwf id c h), fun id c h => ?_, fun id c h => ?_, fun a b p q ha hb' hp hq hpq => ?_⟩, hf.wider (fun id h => (by cases h)), fun id p hl hp => ?_, fun id hl => ?_⟩
  · rcases hlk id c h with h | h
    · exact hr'.rm id c h
    · exact hr'.rf id c (hw id c h)
  · rcases hlk id c h with h | h
    · have := hr'.dm id c h
      rw [with_eq] at this
      cases e : look mu id with
      | some d => rw [e] at this; cases this
      | none => rw [e] at this; exact this
    · exact hr.dm id c h
  · have hb2 : (look new b).isSome ∨ (with' mu fz b).isSome := by
      rcases hb' with h | h
      · rcases hlkI b h with h | h
        · exact .inl h
        · exact .inr (hwI b (.inl h))
      · exact .inr (hwI b (.inr h))
    rcases hlkI a ha with h | h
    · exact hr'.dj a b p q h hb2 hp hq hpq
    · rcases hb2 with h2 | h2
      · exact (hr'.dj b a q p h2 (.inr (hwI a (.inl h))) hq hp hpq.symm).symm
      · have hb3 : (look mu b).isSome ∨ (fz b).isSome := by
          rw [with_eq] at h2
          cases e : look mu b with
          | some d => exact .inl rfl
          | none => rw [e] at h2; exact .inr h2
        have old : ∀ x y, ((look mu x).isSome ∨ (fz x).isSome) → ρ' x = some y → ρ x = some y := by
          intro x y hx hxy
          have : ∃ y', ρ x = some y' := by
            rcases hx with hx | hx
            · obtain ⟨c, hc⟩ := Option.isSome_iff_exists.1 hx
              obtain ⟨p, C, ty, h1, _⟩ := hr.rm x c hc; exact ⟨p, h1⟩
            · obtain ⟨c, hc⟩ := Option.isSome_iff_exists.1 hx
              obtain ⟨p, C, ty, h1, _⟩ := hr.rf x c hc; exact ⟨p, h1⟩
          obtain ⟨y', hy'⟩ := this
          have := he.old x y' hy'
          rw [hxy] at this; cases this; exact hy'
        exact hr.dj a b p q h hb3 (old a p (.inl h) hp) (old b q hb3 hq) hpq
  · rcases hlkI id hl with h | h
    · rcases hb id p h hp with h1 | ⟨_, _, h1, _⟩
      · exact .inl h1
      · cases h1
    · obtain ⟨c, hc⟩ := Option.isSome_iff_exists.1 h
      obtain ⟨q, C, ty, h1, _⟩ := hr.rm id c hc
      have := he.old id q h1
      rw [hp] at this; cases this
      exact .inr ⟨id, p, h, h1, rfl⟩
  · rcases hlkI id hl with h | h
    · rcases hi id h with h1 | h1
      · cases h1
      · exact .inr h1
    · exact .inl h

theorem sound_call {call : CallT R} (hz : ¬ T z) (hc : CallSound T P val call) {ro : Bool} {c : Call} {f : Operand} {f' : Od} {ys : List Od} {k : KT R} (ho : o.op = .call c) (hcal : c.callee = .value f) (hf : od P f = some f') (hys : ods P c.args.toList = some ys)
    (h : T (oCall z call fz tm mu n ro f' ys k)) : ∃ v mu' n', T (k v mu' n') ∧ Sound P val fz tm mu n o v mu' n' := by
  obtain ⟨s, e1, h1⟩ := onOne_elim hz h
  obtain ⟨g, cs, e2, h2⟩ := onFn_elim hz h1
  subst e2
  rw [argsK_eq] at h2
  have exec : ∀ (ρ : Rho) (w : World) (a : Act), OperR P val ρ w tm a o.op → hasBody P g = true → ∃ xs : List Value, All2 (AVR val ρ w) (ys.map (ev tm) ++ capVals cs) xs ∧ (execOp a.eval o).run P w = .ok (.enter g xs.toArray) w := by
    intro ρ w a hop hb
    have gf := hop f f' (by simp [ho, Op.operands, Call.operands, hcal]) hf
    rw [e1] at gf
    obtain ⟨vs, gf', hvs⟩ := gf
    have hR := ods_R (val := val) (tm := tm) (a := a) hys fun x y hx' hy => hop x y (by simp [ho, Op.operands, Call.operands, hcal]; exact .inr (Array.mem_toList_iff.1 hx')) hy
    refine ⟨c.args.toList.map a.eval ++ vs, hR.append (caps_vals hvs), ?_⟩
    unfold hasBody at hb
    cases hg : P.funcs[g]? with
    | none => rw [hg] at hb; cases hb
    | some fn =>
      rw [hg] at hb
      simp only [Bool.and_eq_true, Bool.not_eq_true'] at hb
      have hbn : ¬ fn.body = none := by cases hbd : fn.body <;> simp_all
      have hnm : ¬ fn.name = "runtime.NumGoroutine" := by have := hb.2; simpa using this
      have harr : c.args.map a.eval ++ vs.toArray = (c.args.toList.map a.eval ++ vs).toArray := by
        apply Array.ext'; simp
      simp [execOp, ho, resolve, hcal, gf', Deferred.ofValue, invoke, callFunc, hg, hnm, hbn, harr]
  cases ro with
  | false =>
    obtain ⟨v, mu', n', q1, q2, q3, q4⟩ := hc g _ fz mu n k h2
    refine ⟨v, mu', n', q1, q3, fun ρ w a hr hop hfr K Q hK => ?_⟩
    obtain ⟨xs, x1, x2⟩ := exec ρ w a hop q2
    unfold Oper.wp
    rw [x2]
    refine (q4 ρ w xs hr x1 hfr).mono ?_
    rintro e w' ⟨x, rfl, hp⟩
    exact hK x w' hp
  | true =>
    obtain ⟨v, new, n', q1, q2, q3, q4⟩ := hc g _ (with' mu fz) [] n _ h2
    obtain ⟨new', q5, q6⟩ := sweepK_elim q1
    rw [joinK_eq] at q5
    refine ⟨v, new' ++ mu, n', q5, q3, fun ρ w a hr hop hfr K Q hK => ?_⟩
    obtain ⟨xs, x1, x2⟩ := exec ρ w a hop q2
    unfold Oper.wp
    rw [x2]
    refine (q4 ρ w xs hr.ro x1 hfr).mono ?_
    rintro e w' ⟨x, rfl, ρ', p1, p2, p3, p4, p5, p6⟩
    obtain ⟨r1, r2, r3, r4⟩ := join_new hr p1 p2 p4 p5 p6 q6
    exact hK x w' ⟨ρ', p1, r1, p3, r2, r3, r4⟩

end
end Go.Ev
