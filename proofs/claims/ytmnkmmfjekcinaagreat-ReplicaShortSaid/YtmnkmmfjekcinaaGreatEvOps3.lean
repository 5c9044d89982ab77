/-
  Each operation of the evaluator against the model's: literals, made slices, the greatest and the least.
-/
import Derived.Test.YtmnkmmfjekcinaaGreatEvOps2
set_option linter.unusedVariables false
set_option linter.unusedSimpArgs false
namespace Go.Ev
section
variable {P : Program} {val : Nat → Int} {fz : Fz} {tm : TM} {mu : St} {n : Nat} {o : Oper}

/-- Cells laid one by one over an array. -/
theorem setFold (off : Nat) : ∀ (vs : List Value) (j : Nat) (C : Array Value), off + j + vs.length ≤ C.size →
    ((vs.zipIdx j).foldl (fun cs p => cs.setIfInBounds (off + p.2) p.1) C).toList = C.toList.take (off + j) ++ vs ++ C.toList.drop (off + j + vs.length)
  | [], j, C, _ => by simp
  | v :: r, j, C, h => by
    simp only [List.zipIdx_cons, List.foldl_cons]
    rw [setFold off r (j + 1) (C.setIfInBounds (off + j) v) (by simp at h ⊢; omega)]
    simp only [Array.toList_setIfInBounds, List.length_cons]
    have hlt : off + j < C.toList.length := by simp at h ⊢; omega
    have h1 : (C.toList.set (off + j) v).take (off + (j + 1)) = C.toList.take (off + j) ++ [v] := by
      rw [show off + (j + 1) = off + j + 1 by omega, List.take_add_one, List.take_set_of_le (by omega), List.getElem?_set_self hlt]
      rfl
    have h2 : (C.toList.set (off + j) v).drop (off + (j + 1) + r.length) = C.toList.drop (off + j + (r.length + 1)) := by
      rw [List.drop_set_of_lt (by omega)]
      congr 1; omega
    rw [h1, h2]
    simp

theorem foldArr (off : Nat) (vs : List Value) (C : Array Value) (h : off + vs.length ≤ C.size) :
    (vs.toArray.zipIdx.foldl (fun cs (p : Value × Nat) => cs.setIfInBounds (off + p.2) p.1) C).toList = C.toList.take off ++ (vs ++ C.toList.drop (off + vs.length)) := by
  have := setFold off vs 0 C (by simpa using h)
  simp only [Nat.add_zero] at this
  rw [← List.append_assoc, ← this]
  congr 1
  simp [← Array.foldl_toList]

/-- A part's place, its size, its operand. -/
def PartR (P : Program) (place : Nat → Option (Nat × Nat)) (q : Nat × Nat × Od) (p : Nat × Operand) : Prop := place p.1 = some (q.1, q.2.1) ∧ od P p.2 = some q.2.2

theorem fill_sound {R : Type} {T : R → Prop} {z : R} (hz : ¬ T z) {place : Nat → Option (Nat × Nat)} : ∀ {qs : List (Nat × Nat × Od)} {ps : List (Nat × Operand)} {cs : List SV} {k : List SV → R}, All2 (PartR P place) qs ps → T (fill z tm qs cs k) →
    ∃ cs', T (k cs') ∧ ∀ (ρ : Rho) (w : World) (a : Act) (C : Array Value), All2 (VR val ρ w) cs C.toList → (∀ p ∈ ps, ∀ y, od P p.2 = some y → AVR val ρ w (ev tm y) (a.eval p.2)) →
      ∃ C', Instr.fill place C (ps.map fun p => (p.1, a.eval p.2)) = some C' ∧ All2 (VR val ρ w) cs' C'.toList
  | [], [], cs, k, _, h => ⟨cs, h, fun ρ w a C hC _ => ⟨C, rfl, hC⟩⟩
  | [], _ :: _, _, _, hp, _ => hp.elim
  | _ :: _, [], _, _, hp, _ => hp.elim
  | q :: qs, p :: ps, cs, k, hp, h => by
    obtain ⟨vs, e1, h1⟩ := onCells_elim hz (show T ((ev tm q.2.2).onCells z fun vs => lenK vs 0 fun m => cond (Nat.beq m q.2.1) (cond (knownAll vs) (overK cs q.1 vs z fun cs => fill z tm qs cs k) z) z) from h)
    rw [lenK_eq] at h1
    obtain ⟨h2, h3⟩ := cond_elim hz h1
    obtain ⟨h4, h5⟩ := cond_elim hz h3
    obtain ⟨h6, h7⟩ := overK_elim hz h5
    obtain ⟨cs', h8, h9⟩ := fill_sound hz (ps := ps) hp.2 h7
    refine ⟨cs', h8, fun ρ w a C hC hop => ?_⟩
    have hlen : vs.length = q.2.1 := by have := beq_yes h2; omega
    obtain ⟨xs, x1, x2, x3⟩ := cells_of (hop p (by simp) q.2.2 hp.1.2) e1 h4
    have hxl : xs.length = vs.length := x2.length.symm
    have hCl : cs.length = C.size := by have := hC.length; simpa using this
    have hfold := foldArr q.1 xs C (by omega)
    have hnew : All2 (VR val ρ w) (over cs q.1 vs) (xs.toArray.zipIdx.foldl (fun cs (p : Value × Nat) => cs.setIfInBounds (q.1 + p.2) p.1) C).toList := by
      rw [hfold]
      unfold over
      rw [hxl]
      exact (hC.take _).append (x2.append (hC.drop _))
    obtain ⟨C', g1, g2⟩ := h9 ρ w a _ hnew (fun p' hp' => hop p' (by simp [hp']))
    refine ⟨C', ?_, g2⟩
    simp only [List.map_cons, Instr.fill, hp.1.1, x1]
    have hc : (decide (xs.toArray.size ≠ q.2.1) || decide (q.1 + xs.toArray.size > C.size)) = false := by
      simp; omega
    simp only [hc, Bool.false_eq_true, if_false]
    exact g1

theorem run_mapM {α β : Type} {f : α → Sem β} {g : α → β} {w : World} : ∀ {l : List α}, (∀ x ∈ l, (f x).run P w = .ok (g x) w) → (l.mapM f).run P w = .ok (l.map g) w
  | [], _ => by simp
  | x :: l, h => by
    have := run_mapM (l := l) fun y hy => h y (by simp [hy])
    simp [List.mapM_cons, h x (by simp), this]

theorem partsOf_R {fs : Array Field} (sz : Field → Nat) (hsz : ∀ f ∈ fs.toList, szOf P f.type = some (sz f)) : ∀ {ps : List (Nat × Operand)} {qs : List (Nat × Nat × Od)}, partsOf P fs ps = some qs →
    All2 (PartR P fun i => (fs.map fun f => (f.offset, sz f))[i]?) qs ps
  | [], qs, h => by simp [partsOf] at h; subst h; trivial
  | (i, x) :: r, qs, h => by
    simp only [partsOf] at h
    split at h
    · rename_i f hf
      split at h
      · rename_i m y l h1 h2 h3
        cases h
        have hm : f ∈ fs.toList := by
          rw [Array.mem_toList_iff]; exact Array.mem_of_getElem? hf
        have := hsz f hm
        rw [h1] at this; cases this
        exact ⟨⟨by simp [hf], h2⟩, partsOf_R sz hsz h3⟩
      · cases h
    · cases h

theorem sound_build {R : Type} {T : R → Prop} {z : R} (hz : ¬ T z) {t : TypeId} {fs : Array Field} {parts : Array (Nat × Operand)} {zs : List SV} {qs : List (Nat × Nat × Od)} {k : List SV → R} (ho : o.op = .build t parts)
    (hu : P.underlying t = some (.struct fs)) (hzs : zeroOf P t = some zs) (hall : (fs.toList.all fun f => (szOf P f.type).isSome) = true) (hq : partsOf P fs parts.toList = some qs) (h : T (fill z tm qs zs k)) :
    ∃ cs, T (k cs) ∧ Sound P val fz tm mu n o (.ag cs) mu n := by
  have hsz : ∀ f ∈ fs.toList, szOf P f.type = some (((szOf P f.type)).getD 0) := fun f hf => by
    have := (List.all_eq_true.1 hall) f hf
    obtain ⟨m, hm⟩ := Option.isSome_iff_exists.1 this
    rw [hm]; rfl
  have hR := partsOf_R (fun f => (szOf P f.type).getD 0) hsz hq
  obtain ⟨cs, h1, h2⟩ := fill_sound (val := val) hz hR h
  refine ⟨cs, h1, sound_pure fun ρ w a _ hop => ?_⟩
  obtain ⟨v, i, g1, g2, g3, g4, g5⟩ := zeroOf_run hzs
  obtain ⟨C', e1, e2⟩ := h2 ρ w a v.cells (toSVs_VR g3).1 fun p hp y hy => hop p.2 y (by
    simp only [ho, Op.operands]
    simpa using ⟨p.1, by simpa using hp⟩) hy
  refine ⟨.agg C', ?_, C'.toList, by simp, e2⟩
  have hm : (fs.mapM fun f => do pure (f.offset, ← sizeOf f.type) : Sem (Array (Nat × Nat))).run P w = .ok (fs.map fun f => (f.offset, (szOf P f.type).getD 0)) w := by
    rw [Array.mapM_eq_mapM_toList]
    have := run_mapM (P := P) (w := w) (f := fun f : Field => Prod.mk f.offset <$> sizeOf f.type) (g := fun f => (f.offset, (szOf P f.type).getD 0)) (l := fs.toList) fun f hf => by
      have := szOf_run (hsz f hf) w
      simp [this]
    simp only [bind_pure_comp, Sem.run_map, this, Result.andThen_ok]
    rw [← Array.toList_map]
  have e3 : Instr.fill (fun i => (fs.map fun f => (f.offset, (szOf P f.type).getD 0))[i]?) v.cells (parts.toList.map fun p => (p.1, a.eval p.2)) = some C' := e1
  have e4 : (parts.map fun (x : Nat × Operand) => (x.1, a.eval x.2)).toList = parts.toList.map fun p => (p.1, a.eval p.2) := by simp
  simp only [execOp, ho, Instr.build, Sem.run_bind, g5, Result.andThen_ok, underlying, run_program, hu, Sem.run_pure, hm, e4, e3]

theorem rep_length {z : List SV} (m : Nat) : (rep z m).length = m * z.length := by
  induction m with
  | zero => simp [rep]
  | succ m ih => simp [rep, ih, Nat.succ_mul]; omega
theorem rep_get {z : List SV} (hz : z.length ≠ 0) : ∀ (m i : Nat), i < m * z.length → (rep z m)[i]? = z[i % z.length]?
  | 0, i, h => by simp at h
  | m + 1, i, h => by
    simp only [rep]
    by_cases hi : i < z.length
    · rw [List.getElem?_append_left hi, Nat.mod_eq_of_lt hi]
    · rw [List.getElem?_append_right (by omega), rep_get hz m (i - z.length) (by rw [Nat.succ_mul] at h; omega)]
      rw [Nat.mod_eq_sub_mod (by omega : i ≥ z.length)]
/-- Zero cells again and again, in the model. -/
theorem rep_zero {ρ : Rho} {w : World} {v : Value} {z : List SV} (hz : toSVs v.cells.toList = some z) (h0 : z.length ≠ 0) (m c : Nat) (hc : m ≤ c) :
    ∀ (i : Nat) s, (rep z m)[i]? = some s → ∃ x, ((Array.range (c * z.length)).map (v.cells[· % v.cells.size]!))[i]? = some x ∧ VR val ρ w s x := by
  intro i s hi
  have hv := (toSVs_VR (val := val) (ρ := ρ) (w := w) hz).1
  have hl : z.length = v.cells.size := by have := hv.length; simpa using this
  have hlt : i < m * z.length := by
    have := (List.getElem?_eq_some_iff.1 hi).1
    rwa [rep_length] at this
  have hlt2 : i < c * z.length := Nat.lt_of_lt_of_le hlt (Nat.mul_le_mul_right _ hc)
  rw [rep_get h0 m i hlt] at hi
  obtain ⟨x, e, r⟩ := hv.get hi
  refine ⟨x, ?_, r⟩
  have hb : i % v.cells.size < v.cells.size := Nat.mod_lt _ (by omega)
  rw [hl] at e
  have e' : v.cells[i % v.cells.size] = x := by
    have := List.getElem?_eq_some_iff.1 e
    simpa using this.2
  simp [hlt2, hb, e']

theorem elemsOf_R {s : Nat} : ∀ {ps : List (Nat × Operand)} {qs : List (Nat × Nat × Od)}, elemsOf P s ps = some qs → All2 (PartR P fun i => some (i * s, s)) qs ps
  | [], qs, h => by simp [elemsOf] at h; subst h; trivial
  | (i, x) :: r, qs, h => by
    simp only [elemsOf] at h
    split at h
    · rename_i y l h1 h2
      cases h
      exact ⟨⟨rfl, h1⟩, elemsOf_R h2⟩
    · cases h

theorem sound_bslice {R : Type} {T : R → Prop} {z : R} (hz : ¬ T z) {t e : TypeId} {len s : Nat} {parts : Array (Nat × Operand)} {zs : List SV} {qs : List (Nat × Nat × Od)} {k : List SV → R} (ho : o.op = .buildSlice t len parts)
    (hu : P.underlying t = some (.slice e)) (hs : szOf P e = some s) (hs0 : s ≠ 0) (hsm : len * s ≤ 65536) (hzs : zeroOf P e = some zs) (hq : elemsOf P s parts.toList = some qs) (h : T (fill z tm qs (rep zs len) k)) :
    ∃ cs, T (k cs) ∧ Sound P val fz tm mu n o (.one (.osl n 0 len len s)) ((n, cs) :: mu) (n + 1) := by
  obtain ⟨cs, h1, h2⟩ := fill_sound (val := val) hz (elemsOf_R hq) h
  refine ⟨cs, h1, sound_of_run (Nat.le_succ _) fun ρ w a hr hop hf => ?_⟩
  obtain ⟨v, i, g1, g2, g3, g4, g5⟩ := zeroOf_run hzs
  have hsi : s = i.size := by unfold szOf at hs; rw [g1] at hs; simp at hs; exact hs.symm
  have hzl : zs.length = s := by rw [g4, hsi]
  generalize hC0 : (Array.range (len * s)).map (v.cells[· % v.cells.size]!) = C0
  have hstart : All2 (VR val ρ w) (rep zs len) C0.toList := by
    refine All2.of_get (by rw [← hC0]; simp [rep_length, hzl]) fun j a b ha hb => ?_
    obtain ⟨x, e1, r⟩ := rep_zero (val := val) (ρ := ρ) (w := w) g3 (by omega) len len (Nat.le_refl _) j a ha
    rw [hzl, hC0] at e1
    have : C0.toList[j]? = some x := by simpa using e1
    rw [this] at hb; cases hb; exact r
  obtain ⟨C', e1, e2⟩ := h2 ρ w a C0 hstart fun p hp y hy => hop p.2 y (by
    simp only [ho, Op.operands]
    simpa using ⟨p.1, by simpa using hp⟩) hy
  have hCl : cs.length = C'.size := by have := e2.length; simpa using this
  have hszr := szOf_run hs w
  have hrun : (execOp a.eval o).run P w = .ok (.value (.slice (some ⟨w.heap.size, 0, none⟩) len len)) (w.alloc (.cells C' e)) := by
    have e4 : (parts.map fun (x : Nat × Operand) => (x.1, a.eval x.2)).toList = parts.toList.map fun p => (p.1, a.eval p.2) := by simp
    have hlim : ¬ len * s > 2 ^ 24 := by omega
    by_cases hl0 : len * s = 0
    · have hC00 : C0 = #[] := by rw [← hC0, hl0]; simp [Array.range_zero']
      simp only [execOp, ho, Instr.buildSlice, Sem.run_bind, underlying, run_program, hu, Result.andThen_ok, Sem.run_pure, hszr, hlim, hl0, if_true, Nat.lt_irrefl, gt_iff_lt, e4]
      have e5 : Instr.fill (fun i => some (i * s, s)) #[] (parts.toList.map fun p => (p.1, a.eval p.2)) = some C' := by rw [← e1, hC00]
      simp [Array.range_zero', e5, newRow]
    · simp only [execOp, ho, Instr.buildSlice, Sem.run_bind, underlying, run_program, hu, Result.andThen_ok, Sem.run_pure, hszr, hlim, hl0, if_false, e4, g5, hC0, e1]
      simp [newRow]
  have hn := hf n (Nat.le_refl _) (Nat.lt_succ_self _)
  obtain ⟨b1, b2, b3, b4, b5, b6⟩ := new_block (ty := e) (Like.refl w) hr hn (C := C') (by omega) (fun i s hi => let ⟨x, ex, rx⟩ := e2.get hi; ⟨x, by simpa using ex, rx⟩)
  have hlb : len ≤ 65536 := by
    have : len * 1 ≤ len * s := Nat.mul_le_mul_left _ (by omega)
    omega
  refine ⟨_, _, .inl hrun, _, b1, b2, ⟨(w.heap.size, 0), len, upd_same _ _ _, rfl, Nat.le_refl _, Nat.le_refl _, ?_, by omega⟩, b3, b4, b5⟩
  rw [b6]
  have : C'.size = len * s := by
    have hl : (rep zs len).length = C0.size := by have := hstart.length; simpa using this
    have hfl : ∀ (ps : List (Nat × Value)) (C D : Array Value), Instr.fill (fun i => some (i * s, s)) C ps = some D → D.size = C.size := by
      intro ps
      induction ps with
      | nil => intro C D h; simp [Instr.fill] at h; rw [h]
      | cons p r ih =>
        intro C D h
        simp only [Instr.fill] at h
        split at h
        · cases h
        · rw [ih _ _ h]
          have : ∀ (l : List (Value × Nat)) (C : Array Value), (l.foldl (fun cs p' => cs.setIfInBounds (p.1 * s + p'.2) p'.1) C).size = C.size := by
            intro l
            induction l with
            | nil => simp
            | cons q t ih2 => intro C; simp [ih2]
          simp only [← Array.foldl_toList]
          exact this _ _
    rw [hfl _ _ _ e1, ← hl, rep_length, hzl]
  simp [this]

theorem sound_mkslice {t e : TypeId} {l c : Operand} {l' c' : Od} {s b : Nat} {zs : List SV} {x y : Int} (ho : o.op = .makeSlice t l c) (hu : P.underlying t = some (.slice e)) (hs : szOf P e = some s) (hs0 : s ≠ 0) (hb : byOf P e = some b)
    (hzs : zeroOf P e = some zs) (hl : od P l = some l') (hc : od P c = some c') (el : ev tm l' = .one (.int .i64 x)) (ec : ev tm c' = .one (.int .i64 y)) (h0 : ¬ x < 0) (h1 : ¬ y < x) (h2 : y.toNat * (b + 1) ≤ roomy) :
    Sound P val fz tm mu n o (.one (.osl n 0 x.toNat x.toNat s)) ((n, rep zs x.toNat) :: mu) (n + 1) := by
  refine sound_of_run (Nat.le_succ _) fun ρ w a hr hop hf => ?_
  have gl := hop l l' (by simp [ho, Op.operands]) hl
  have gc := hop c c' (by simp [ho, Op.operands]) hc
  rw [el] at gl; rw [ec] at gc
  have gl' : a.eval l = .int .i64 x := gl
  have gc' : a.eval c = .int .i64 y := gc
  obtain ⟨v, i, g1, g2, g3, g4, g5⟩ := zeroOf_run hzs
  have hsi : s = i.size := by unfold szOf at hs; rw [g1] at hs; simp at hs; exact hs.symm
  have hbi : b = i.bytes := by unfold byOf at hb; rw [g1] at hb; simp at hb; exact hb.symm
  have hzl : zs.length = s := by rw [g4, hsi]
  have hroom : roomy = 137438953472 := rfl
  have hyb : y.toNat ≤ 1099511627776 := by
    have : y.toNat * 1 ≤ y.toNat * (b + 1) := Nat.mul_le_mul_left _ (by omega)
    omega
  have hbb : y.toNat * b ≤ 1099511627776 := by
    have : y.toNat * b ≤ y.toNat * (b + 1) := Nat.mul_le_mul_left _ (by omega)
    omega
  have wx : IntKind.i64.wrap x = x := by simp [IntKind.wrap, IntKind.bits, IntKind.signed]; omega
  have wy : IntKind.i64.wrap y = y := by simp [IntKind.wrap, IntKind.bits, IntKind.signed]; omega
  have hszr := szOf_run hs w
  generalize hC0 : (Array.range (y.toNat * s)).map (v.cells[· % v.cells.size]!) = C0
  have hC0s : C0.size = y.toNat * s := by rw [← hC0]; simp
  have hprod : (b : Int) * y = ((y.toNat * b : Nat) : Int) := by
    have : y = (y.toNat : Int) := by omega
    rw [this]; simp [Int.mul_comm]
  have t1 : (decide (y < 0) || decide ((b : Int) * y > 2 ^ 48)) = false := by
    have h3 : ¬ (b : Int) * y > 2 ^ 48 := by
      rw [hprod]
      have : ((y.toNat * b : Nat) : Int) ≤ ((1099511627776 : Nat) : Int) := Int.ofNat_le.2 hbb
      generalize ((y.toNat * b : Nat) : Int) = q at this
      omega
    have h4 : ¬ y < 0 := by omega
    simp only [h3, h4, decide_false, Bool.or_false]
  have hrun : (execOp a.eval o).run P w = .ok (.value (.slice (some ⟨w.heap.size, 0, none⟩) x.toNat y.toNat)) (w.alloc (.cells C0 e)) := by
    have hcond : ((decide (y < 0) || decide ((b : Int) * y > 2 ^ 48)) || decide (x < 0) || decide (x > y)) = false := by
      rw [t1]; simp; omega
    by_cases hz0 : y.toNat * s = 0
    · have hC00 : C0 = #[] := by rw [← hC0, hz0]; simp [Array.range_zero']
      rw [hC00]
      simp only [execOp, ho, Instr.makeSlice, Sem.run_bind, underlying, run_program, hu, Result.andThen_ok, Sem.run_pure, gl', gc', asInt, asIntOf, typeInfo, g1, ← hbi, wx, wy]
      simp only [hcond, Bool.false_eq_true, if_false, Sem.run_bind, run_askRoom, Result.andThen_ok, hszr, hz0, if_true, Sem.run_pure, Sem.run_pure']
      simp [newRow, Array.range_zero']
    · simp only [execOp, ho, Instr.makeSlice, Sem.run_bind, underlying, run_program, hu, Result.andThen_ok, Sem.run_pure, gl', gc', asInt, asIntOf, typeInfo, g1, ← hbi, wx, wy]
      simp only [hcond, Bool.false_eq_true, if_false, Sem.run_bind, run_askRoom, Result.andThen_ok, hszr, hz0, Sem.run_pure, Sem.run_pure', g5, hC0]
      simp [newRow]
  have hn := hf n (Nat.le_refl _) (Nat.lt_succ_self _)
  have hle : x.toNat ≤ y.toNat := by omega
  obtain ⟨b1, b2, b3, b4, b5, b6⟩ := new_block (ty := e) (Like.refl w) hr hn (cs := rep zs x.toNat) (C := C0) (by rw [rep_length, hzl, hC0s]; exact Nat.mul_le_mul_right _ hle)
    (fun i s' hi => by
      obtain ⟨q, e1, r⟩ := rep_zero (val := val) (ρ := ρ) (w := w) g3 (by omega) x.toNat y.toNat hle i s' hi
      rw [hzl, hC0] at e1
      exact ⟨q, e1, r⟩)
  refine ⟨_, _, .inl hrun, _, b1, b2, ⟨(w.heap.size, 0), y.toNat, upd_same _ _ _, rfl, Nat.le_refl _, hle, ?_, by omega⟩, b3, b4, b5⟩
  rw [b6, hC0s]; simp

theorem maxK_elim {R : Type} {T : R → Prop} {z : R} (hz : ¬ T z) {orc : Orc R} (hk : OrcOk T val orc) : ∀ {l : List AV} {a : SV} {k : SV → R}, T (maxK orc z l a k) →
    ∃ r, T (k r) ∧ ∀ (ρ : Rho) (w : World) (va : Value) (vs : List Value), VR val ρ w a va → All2 (AVR val ρ w) l vs → ∃ vr, (vs.foldlM Builtin.max2 va).run P w = .ok vr w ∧ VR val ρ w r vr
  | [], a, k, h => ⟨a, h, fun ρ w va vs ha hv => by cases vs with | nil => exact ⟨va, rfl, ha⟩ | cons _ _ => exact hv.elim⟩
  | x :: l, a, k, h => by
    obtain ⟨b, e1, h1⟩ := onOne_elim hz (show T (x.onOne z fun b => ltS orc z a b fun t => cond t (maxK orc z l b k) (maxK orc z l a k)) from h)
    obtain ⟨kd, u, v, i1, i2, h2⟩ := ltS_elim hz hk h1
    have h3 : T (maxK orc z l (if u < v then b else a) k) := by
      by_cases hab : u < v
      · simpa [hab] using h2
      · simpa [hab] using h2
    obtain ⟨r, h4, h5⟩ := maxK_elim hz hk h3
    refine ⟨r, h4, fun ρ w va vs ha hv => ?_⟩
    cases vs with
    | nil => exact hv.elim
    | cons vb vs =>
      have hb := hv.1
      rw [e1] at hb
      have g1 := i1.eval (ρ := ρ) (w := w) (show AVR val ρ w (.one a) va from ha)
      have g2 := i2.eval (ρ := ρ) (w := w) (show AVR val ρ w (.one b) vb from hb)
      have hb' : VR val ρ w b vb := hb
      subst g1; subst g2
      simp only [List.foldlM_cons, Sem.run_bind, Builtin.max2, Sem.run_pure, Result.andThen_ok]
      refine h5 ρ w _ vs ?_ hv.2
      by_cases hab : u < v
      · simpa [hab] using hb'
      · simpa [hab] using ha
theorem minK_elim {R : Type} {T : R → Prop} {z : R} (hz : ¬ T z) {orc : Orc R} (hk : OrcOk T val orc) : ∀ {l : List AV} {a : SV} {k : SV → R}, T (minK orc z l a k) →
    ∃ r, T (k r) ∧ ∀ (ρ : Rho) (w : World) (va : Value) (vs : List Value), VR val ρ w a va → All2 (AVR val ρ w) l vs → ∃ vr, (vs.foldlM Builtin.min2 va).run P w = .ok vr w ∧ VR val ρ w r vr
  | [], a, k, h => ⟨a, h, fun ρ w va vs ha hv => by cases vs with | nil => exact ⟨va, rfl, ha⟩ | cons _ _ => exact hv.elim⟩
  | x :: l, a, k, h => by
    obtain ⟨b, e1, h1⟩ := onOne_elim hz (show T (x.onOne z fun b => ltS orc z b a fun t => cond t (minK orc z l b k) (minK orc z l a k)) from h)
    obtain ⟨kd, u, v, i1, i2, h2⟩ := ltS_elim hz hk h1
    have h3 : T (minK orc z l (if u < v then b else a) k) := by
      by_cases hab : u < v
      · simpa [hab] using h2
      · simpa [hab] using h2
    obtain ⟨r, h4, h5⟩ := minK_elim hz hk h3
    refine ⟨r, h4, fun ρ w va vs ha hv => ?_⟩
    cases vs with
    | nil => exact hv.elim
    | cons vb vs =>
      have hb := hv.1
      rw [e1] at hb
      have g1 := i1.eval (ρ := ρ) (w := w) (show AVR val ρ w (.one b) vb from hb)
      have g2 := i2.eval (ρ := ρ) (w := w) (show AVR val ρ w (.one a) va from ha)
      have hb' : VR val ρ w b vb := hb
      subst g1; subst g2
      simp only [List.foldlM_cons, Sem.run_bind, Builtin.min2, Sem.run_pure, Result.andThen_ok]
      refine h5 ρ w _ vs ?_ hv.2
      by_cases hab : u < v
      · simpa [hab] using hb'
      · simpa [hab] using ha

/-- Operands one by one. -/
theorem ods_R {ρ : Rho} {w : World} {a : Act} : ∀ {xs : List Operand} {ys : List Od}, ods P xs = some ys → (∀ x y, x ∈ xs → od P x = some y → AVR val ρ w (ev tm y) (a.eval x)) → All2 (AVR val ρ w) (ys.map (ev tm)) (xs.map a.eval)
  | [], ys, h, _ => by simp [ods] at h; subst h; trivial
  | x :: r, ys, h, hop => by
    simp only [ods] at h
    split at h
    · rename_i y l h1 h2
      cases h
      exact ⟨hop x y (by simp) h1, ods_R h2 fun x y hx hy => hop x y (by simp [hx]) hy⟩
    · cases h

theorem sound_max {R : Type} {T : R → Prop} {z : R} (hz : ¬ T z) {orc : Orc R} (hk : OrcOk T val orc) {c : Call} {y : Od} {ys : List Od} {a : SV} {k : SV → R} (ho : o.op = .call c) (hc : c.callee = .builtin .max) (hx : ods P c.args.toList = some (y :: ys))
    (ex : ev tm y = .one a) (h : T (maxK orc z (ys.map (ev tm)) a k)) : ∃ r, T (k r) ∧ Sound P val fz tm mu n o (.one r) mu n := by
  obtain ⟨r, h1, h2⟩ := maxK_elim (P := P) (val := val) hz hk h
  refine ⟨r, h1, sound_pure fun ρ w act _ hop => ?_⟩
  have hR := ods_R (val := val) (tm := tm) (a := act) hx fun x y hx' hy => hop x y (by simp [ho, Op.operands, Call.operands, hc]; exact Array.mem_toList_iff.1 hx') hy
  have key : ∃ vr, (Builtin.max_ c.argTypes o.type (c.args.map act.eval)).run P w = .ok vr w ∧ VR val ρ w r vr := by
    unfold Builtin.max_
    rw [Array.toList_map]
    generalize c.args.toList.map act.eval = vs at hR ⊢
    cases vs with
    | nil => exact hR.elim
    | cons v vs =>
      have h3 := hR.1
      rw [ex] at h3
      exact h2 ρ w v vs h3 hR.2
  obtain ⟨vr, key, hvr⟩ := key
  exact ⟨vr, by simp [execOp, ho, resolve, hc, invoke, builtin, key], hvr⟩
theorem sound_min {R : Type} {T : R → Prop} {z : R} (hz : ¬ T z) {orc : Orc R} (hk : OrcOk T val orc) {c : Call} {y : Od} {ys : List Od} {a : SV} {k : SV → R} (ho : o.op = .call c) (hc : c.callee = .builtin .min) (hx : ods P c.args.toList = some (y :: ys))
    (ex : ev tm y = .one a) (h : T (minK orc z (ys.map (ev tm)) a k)) : ∃ r, T (k r) ∧ Sound P val fz tm mu n o (.one r) mu n := by
  obtain ⟨r, h1, h2⟩ := minK_elim (P := P) (val := val) hz hk h
  refine ⟨r, h1, sound_pure fun ρ w act _ hop => ?_⟩
  have hR := ods_R (val := val) (tm := tm) (a := act) hx fun x y hx' hy => hop x y (by simp [ho, Op.operands, Call.operands, hc]; exact Array.mem_toList_iff.1 hx') hy
  have key : ∃ vr, (Builtin.min_ c.argTypes o.type (c.args.map act.eval)).run P w = .ok vr w ∧ VR val ρ w r vr := by
    unfold Builtin.min_
    rw [Array.toList_map]
    generalize c.args.toList.map act.eval = vs at hR ⊢
    cases vs with
    | nil => exact hR.elim
    | cons v vs =>
      have h3 := hR.1
      rw [ex] at h3
      exact h2 ρ w v vs h3 hR.2
  obtain ⟨vr, key, hvr⟩ := key
  exact ⟨vr, by simp [execOp, ho, resolve, hc, invoke, builtin, key], hvr⟩

end
end Go.Ev
