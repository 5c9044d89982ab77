/-
  append and copy, as operations.
-/
import Derived.Test.YtmnkmmfjekcinaaGreatEvOps5
set_option linter.unusedVariables false
set_option linter.unusedSimpArgs false
namespace Go.Ev
section
variable {P : Program} {val : Nat → Int} {fz : Fz} {tm : TM} {mu : St} {n : Nat} {o : Oper}

theorem Fr.wider {ρ : Rho} {mu1 : St} {w w' : World} (h : Fr ρ mu1 w w') (hs : ∀ id, (look mu1 id).isSome → (look mu id).isSome) : Fr ρ mu w w' :=
  ⟨h.os, h.tape, h.output, h.size, fun b hb hn => h.keep b hb fun id p hl hp => hn id p (hs id hl) hp, h.shape, h.frozen⟩
theorem NewB.wider {ρ ρ' : Rho} {mu1 mu' : St} {w : World} (h : NewB ρ ρ' mu1 mu' w) (hs : ∀ id, (look mu1 id).isSome → (look mu id).isSome) : NewB ρ ρ' mu mu' w :=
  fun id p hl hp => (h id p hl hp).imp (fun x => x) fun ⟨a, q, h1, h2, h3⟩ => ⟨a, q, hs a h1, h2, h3⟩
theorem NewI.wider {mu1 mu' : St} {n' : Nat} (h : NewI mu1 mu' n n') (hs : ∀ id, (look mu1 id).isSome → (look mu id).isSome) : NewI mu mu' n n' :=
  fun id hl => (h id hl).imp (hs id) (fun x => x)

theorem zeroCells_size (z : Array Value) (m : Nat) : (Builtin.zeroCells z m).size = m * z.size := by simp [Builtin.zeroCells]

/-- What the types say at an append. -/
structure AppT (P : Program) (c : Call) (x y : Operand) (s b : Nat) (sT xT e : TypeId) (i : TypeInfo) (zv : Value) : Prop where
  callee : c.callee = .builtin .append
  types : c.argTypes = #[sT, xT]
  args : c.args = #[x, y]
  under : P.underlying sT = some (.slice e)
  src : (∃ e', P.underlying xT = some (.slice e')) ∨ P.underlying xT = some .string
  info : P.info? e = some i
  size : i.size = s
  bytes : i.bytes = b
  zero : ∀ w, (zeroValue e).run P w = .ok zv w
  zsize : zv.cells.size = s

theorem app_exec {c : Call} {x y : Operand} {s b : Nat} {sT xT e : TypeId} {i : TypeInfo} {zv : Value} (ht : AppT P c x y s b sT xT e i zv) (ho : o.op = .call c) {a : Act} {w w' : World} {v : Value}
    (h : (Builtin.append_ #[sT, xT] o.type #[a.eval x, a.eval y]).run P w = .ok v w') : (execOp a.eval o).run P w = .ok (.value v) w' := by
  simp [execOp, ho, resolve, ht.callee, invoke, builtin, ht.types, ht.args, h]

theorem sound_appZero {c : Call} {x y : Operand} {x' y' : Od} {s b : Nat} {sT xT e : TypeId} {i : TypeInfo} {zv : Value} {sx sy : SV} {src : List SV} (ht : AppT P c x y s b sT xT e i zv) (ho : o.op = .call c)
    (hx : od P x = some x') (hy : od P y = some y') (ex : ev tm x' = .one sx) (ey : ev tm y' = .one sy) (hsrc : SrcOk P val fz mu s sy src 0) (hk : sx = .nsl ∨ sx = .esl ∨ ∃ id off len cap s', sx = .osl id off len cap s') : Sound P val fz tm mu n o (.one sx) mu n := by
  refine sound_pure fun ρ w a hr hop => ?_
  have g1 := hop x x' (by simp [ho, Op.operands, Call.operands, ht.callee, ht.args]) hx
  have g2 := hop y y' (by simp [ho, Op.operands, Call.operands, ht.callee, ht.args]) hy
  rw [ex] at g1; rw [ey] at g2
  obtain ⟨hl, _, news, hv, hf⟩ := hsrc.2 ρ w _ hr g2
  have hf0 := hf 0 (Nat.le_refl _) w (Like.refl w)
  simp only [Nat.zero_mul, List.take_zero] at hf0
  rw [← ht.size] at hf0
  refine ⟨a.eval x, app_exec ht ho ?_, g1⟩
  rcases hk with rfl | rfl | ⟨id, off, len, cap, s', rfl⟩
  · have g1' : a.eval x = .slice none 0 0 := g1
    rw [g1']
    exact append_nil ht.under ht.src ht.info (hl w) hf0
  · obtain ⟨ad, g1'⟩ := g1
    rw [g1']
    exact append_fits ht.under ht.src ht.info (hl w) (Nat.le_refl _) hf0 (by simp [storeCells])
  · obtain ⟨p, c', _, g1', h1, h2, _⟩ := g1
    rw [g1']
    exact append_fits ht.under ht.src ht.info (hl w) (by omega) hf0 (by simp [storeCells])

theorem sound_appNew {c : Call} {x y : Operand} {x' y' : Od} {s b : Nat} {sT xT e : TypeId} {i : TypeInfo} {zv : Value} {sx sy : SV} {src : List SV} {cnt : Nat} (ht : AppT P c x y s b sT xT e i zv) (ho : o.op = .call c)
    (hx : od P x = some x') (hy : od P y = some y') (ex : ev tm x' = .one sx) (ey : ev tm y' = .one sy) (hsrc : SrcOk P val fz mu s sy src cnt) (hk : sx = .nsl ∨ sx = .esl) (h0 : cnt ≠ 0) (hroom : cnt * (b + 1) ≤ roomy) :
    Sound P val fz tm mu n o (.one (.osl n 0 cnt cnt s)) ((n, src) :: mu) (n + 1) := by
  refine sound_of_run (Nat.le_succ _) fun ρ w a hr hop hfr => ?_
  have g1 := hop x x' (by simp [ho, Op.operands, Call.operands, ht.callee, ht.args]) hx
  have g2 := hop y y' (by simp [ho, Op.operands, Call.operands, ht.callee, ht.args]) hy
  rw [ex] at g1; rw [ey] at g2
  obtain ⟨hl, _, news, hv, hf⟩ := hsrc.2 ρ w _ hr g2
  have hnl : news.length = cnt * s := by rw [← hv.length, hsrc.1]
  have hf1 := hf cnt (Nat.le_refl _) w.drew (Like.drew w)
  rw [← hnl, List.take_length, ← ht.size] at hf1
  have hbase : ∃ base : Option Addr, a.eval x = .slice base 0 0 := by
    rcases hk with rfl | rfl
    · exact ⟨none, g1⟩
    · obtain ⟨ad, g⟩ := g1; exact ⟨some ad, g⟩
  obtain ⟨base, hbase⟩ := hbase
  have hold : (Builtin.firstCells i.size 0 (.slice base 0 0)).run P w.drew = .ok ([] : List Value).toArray w.drew := by
    cases base <;> simp [Builtin.firstCells, loadCells, loadCellsFrom]
  obtain ⟨newCap, rest, ⟨c1, c1'⟩, c2, c3⟩ := append_grows (P := P) (w := w) (ty := o.type) (sLen := 0) (sCap := 0) (base := base) ht.under ht.src ht.info ht.zero (hl w) (by omega) (by rw [ht.bytes]; simpa using hroom) hold hf1
  rw [← hbase] at c3
  simp only [Nat.zero_add] at c1 c2 c3
  have hn := hfr n (Nat.le_refl _) (Nat.lt_succ_self _)
  have hsz : (([] : List Value).toArray ++ news.toArray ++ rest).size = newCap * s := by
    rw [c2]
    simp only [Array.size_append, zeroCells_size, ht.zsize, List.size_toArray, List.length_nil, hnl]
    rw [Nat.zero_add, ← Nat.add_mul]; congr 1; omega
  obtain ⟨b1, b2, b3, b4, b5, b6⟩ := new_block (ty := e) (Like.drew w) hr hn (cs := src) (C := ([] : List Value).toArray ++ news.toArray ++ rest) (by rw [hsrc.1, hsz]; exact Nat.mul_le_mul_right _ c1)
    (fun j s' hj => by
      obtain ⟨v, ev', rv⟩ := hv.get hj
      refine ⟨v, ?_, rv⟩
      have hlt := (List.getElem?_eq_some_iff.1 ev').1
      rw [Array.getElem?_append_left (by simpa using hlt)]
      simpa using ev')
  refine ⟨_, _, .inl (app_exec ht ho c3), _, b1, b2, ⟨(w.heap.size, 0), newCap, upd_same _ _ _, rfl, Nat.le_refl _, c1, ?_, c1'⟩, b3, b4, b5⟩
  rw [b6, hsz]; simp

theorem sound_appOwn {c : Call} {x y : Operand} {x' y' : Od} {s b id off len cap : Nat} {sT xT e : TypeId} {i : TypeInfo} {zv : Value} {sy : SV} {src known : List SV} {cnt : Nat} (ht : AppT P c x y s b sT xT e i zv) (ho : o.op = .call c)
    (hx : od P x = some x') (hy : od P y = some y') (ex : ev tm x' = .one (.osl id off len cap s)) (ey : ev tm y' = .one sy) (hsrc : SrcOk P val fz mu s sy src cnt) (hks : knownAll src = true) (h0 : cnt ≠ 0) (hroom : (len + cnt) * (b + 1) ≤ roomy)
    (hl : look mu id = some known) (hkl : known.length = off + len * s) :
    Sound P val fz tm mu n o (.one (.osl n 0 (len + cnt) (len + cnt) s)) ((n, known.drop off ++ src) :: killS mu id) (n + 1) := by
  refine sound_of_run (Nat.le_succ _) fun ρ w a hr hop hfr => ?_
  have g1 := hop x x' (by simp [ho, Op.operands, Call.operands, ht.callee, ht.args]) hx
  have g2 := hop y y' (by simp [ho, Op.operands, Call.operands, ht.callee, ht.args]) hy
  rw [ex] at g1; rw [ey] at g2
  obtain ⟨p, cc, hp, g1', q1, q2, q3, q4⟩ := g1
  obtain ⟨hlen, _, news, hv, hf⟩ := hsrc.2 ρ w _ hr g2
  have hnl : news.length = cnt * s := by rw [← hv.length, hsrc.1]
  have hn := hfr n (Nat.le_refl _) (Nat.lt_succ_self _)
  by_cases hfit : len + cnt ≤ cc
  · have hf1 := hf cnt (Nat.le_refl _) w (Like.refl w)
    rw [← hnl, List.take_length, ← ht.size] at hf1
    have hfits : p.2 + off + len * s + src.length ≤ bsize w p.1 := by
      rw [hsrc.1]
      have h1 : len * s + cnt * s = (len + cnt) * s := by rw [Nat.add_mul]
      have h2 : (len + cnt) * s ≤ cc * s := Nat.mul_le_mul_right _ hfit
      omega
    obtain ⟨w', m1, m2, m3, m4, m5, m6, m7⟩ := move_block (P := P) hr hl hn hkl hp hv (known_all hv hks) hfits
    have hst : (storeCells ((⟨p.1, p.2 + off, none⟩ : Addr).add (len * i.size)) news).run P w = .ok () w' := by rw [addr_add, ht.size]; exact m1
    have hap := append_fits (P := P) (ty := o.type) ht.under ht.src ht.info (hlen w) hfit hf1 hst
    rw [← g1'] at hap
    refine ⟨_, _, .inl (app_exec ht ho hap), _, m2, m3, ⟨(p.1, p.2 + off), cc, upd_same _ _ _, rfl, Nat.le_refl _, hfit, ?_, q4⟩, m4, m5, m6⟩
    rw [m7]; simpa using q3
  · have hf1 := hf cnt (Nat.le_refl _) w.drew (Like.drew w)
    rw [← hnl, List.take_length, ← ht.size] at hf1
    obtain ⟨old, o1, o2, o3, o4⟩ := (hr.rm id known hl).read (P := P) hp (off := off) (n := len * s) (by omega)
    have hold : (Builtin.firstCells i.size len (.slice (some ⟨p.1, p.2 + off, none⟩) len cc)).run P w.drew = .ok old.toArray w.drew := by
      have := run_loadCells_list (P := P) w.drew ⟨p.1, p.2 + off, none⟩ old (fun j v hj => by rw [addr_add]; exact o3 j v hj)
      rw [o1] at this
      simp only [Builtin.firstCells, ht.size]
      exact this
    have o2' : All2 (VR val ρ w) (known.drop off) old := by
      have : (known.drop off).take (len * s) = known.drop off := List.take_of_length_le (by simp; omega)
      rwa [this] at o2
    obtain ⟨newCap, rest, ⟨c1, c1'⟩, c2, c3⟩ := append_grows (P := P) (w := w) (ty := o.type) ht.under ht.src ht.info ht.zero (hlen w) (by omega) (by rw [ht.bytes]; exact hroom) hold hf1
    rw [← g1'] at c3
    have hsz : (old.toArray ++ news.toArray ++ rest).size = newCap * s := by
      rw [c2]
      simp only [Array.size_append, zeroCells_size, ht.zsize, List.size_toArray, hnl, o1]
      rw [← Nat.add_mul, ← Nat.add_mul]; congr 1; omega
    have hall : All2 (VR val ρ w) (known.drop off ++ src) (old ++ news) := o2'.append hv
    have hkmono : ∀ a, (look (killS mu id) a).isSome → (look mu a).isSome := fun a ha => by
      rw [look_killS] at ha
      split at ha
      · cases ha
      · exact ha
    obtain ⟨b1, b2, b3, b4, b5, b6⟩ := new_block (ty := e) (Like.drew w) (hr.kill id) hn (cs := known.drop off ++ src) (C := old.toArray ++ news.toArray ++ rest) (by
        rw [hsz]
        simp only [List.length_append, List.length_drop, hkl, hsrc.1]
        have : off + len * s - off + cnt * s = (len + cnt) * s := by rw [Nat.add_mul]; omega
        rw [this]; exact Nat.mul_le_mul_right _ c1)
      (fun j s' hj => by
        obtain ⟨v, ev', rv⟩ := hall.get hj
        refine ⟨v, ?_, rv⟩
        have hlt := (List.getElem?_eq_some_iff.1 ev').1
        rw [Array.getElem?_append_left (by simpa using hlt)]
        simpa using ev')
    refine ⟨_, _, .inl (app_exec ht ho c3), _, b1, b2, ⟨(w.heap.size, 0), newCap, upd_same _ _ _, rfl, Nat.le_refl _, c1, ?_, c1'⟩, b3.wider hkmono, b4.wider hkmono, b5.wider hkmono⟩
    rw [b6, hsz]; simp

theorem sound_copy {c : Call} {x y : Operand} {x' y' : Od} {s id off len cap : Nat} {sT xT e : TypeId} {sy : SV} {src known : List SV} {cnt : Nat} (ho : o.op = .call c) (hc : c.callee = .builtin .copy) (hty : c.argTypes = #[sT, xT]) (hargs : c.args = #[x, y])
    (hu : P.underlying sT = some (.slice e)) (hs : szOf P e = some s) (hx : od P x = some x') (hy : od P y = some y') (ex : ev tm x' = .one (.osl id off len cap s)) (ey : ev tm y' = .one sy) (hsrc : SrcOk P val fz mu s sy src cnt)
    (hks : knownAll (src.take (Nat.min cnt len * s)) = true) (hl : look mu id = some known) (hb : off + (src.take (Nat.min cnt len * s)).length ≤ known.length) :
    Sound P val fz tm mu n o (.one (.int .i64 (Int.ofNat (Nat.min cnt len)))) (putS mu id (over known off (src.take (Nat.min cnt len * s)))) n := by
  refine sound_of_run (Nat.le_refl _) fun ρ w a hr hop _ => ?_
  have g1 := hop x x' (by simp [ho, Op.operands, Call.operands, hc, hargs]) hx
  have g2 := hop y y' (by simp [ho, Op.operands, Call.operands, hc, hargs]) hy
  rw [ex] at g1; rw [ey] at g2
  obtain ⟨p, cc, hp, g1', q1, q2, q3, q4⟩ := g1
  obtain ⟨hlen, _, news, hv, hf⟩ := hsrc.2 ρ w _ hr g2
  have hf1 := hf (Nat.min cnt len) (Nat.min_le_left _ _) w (Like.refl w)
  have hv' := hv.take (Nat.min cnt len * s)
  obtain ⟨q, w', e1, e2, e3, e4, e5, e6, e7⟩ := put_block (P := P) (n := n) (n' := n) hr hl hb hv' (known_all hv' hks)
  rw [hp] at e1; cases e1
  have hszr := szOf_run hs w
  refine ⟨.int .i64 (Int.ofNat (Nat.min cnt len)), w', .inl ?_, ρ, Ext.refl _ _ _, e3, rfl, e4, e5, e6⟩
  have hund : (underlying sT).run P w = .ok (.slice e) w := by simp [underlying, hu]
  have key : (Builtin.copy_ #[sT, xT] o.type #[.slice (some ⟨p.1, p.2 + off, none⟩) len cc, a.eval y]).run P w = .ok (goInt (Nat.min cnt len)) w' := by
    simp only [Builtin.copy_, List.getElem?_toArray, List.getElem?_cons_zero, List.getElem?_cons_succ, Sem.run_bind, hund, Result.andThen_ok, hlen w, hszr, hf1, e2, Sem.run_pure]
  rw [← g1'] at key
  simp [execOp, ho, resolve, hc, invoke, builtin, hty, hargs, key, goInt]
end
end Go.Ev
