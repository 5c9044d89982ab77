import Derived.Test.YthnicapopojbbaaGreatDoorKnPut
import Derived.Deep.RegionHeld3
import Derived.Deep.AppendLies
namespace Go.Kn
open Go Go.Conc Go.Proofs Go.RowKit
set_option linter.unusedVariables false
set_option linter.unusedSimpArgs false
set_option maxHeartbeats 1000000 in
set_option maxRecDepth 100000 in
theorem lhex_ok (s : ByteArray) (hs : s.size ≤ 1000000) (hs0 : s.size ≠ 0) (w : World) : Calls Tryz.prog 11 #[.string s] w fun e w' => e = .returned (.string (hexOf s)) ∧ Below w.heap.size w w' := by
  have hinfo5 : (Tryz.prog.info? 5).map (fun i => (i.zero, i.size, i.bytes)) = some (some (.int .u8 0), 1, 1) := by kernel_rfl
  obtain ⟨i5, hi5, hz5, hs5, hb5⟩ := info_parts hinfo5
  refine calls_of_wpN Tryz.func11 rfl ?_
  simp only [Tryz.ntmps11, List.size_toArray, List.length_cons, List.length_nil, Nat.reduceAdd, Nat.reduceSub, Array.replicate_succ,
     Array.replicate_zero, List.push_toArray, List.append_toArray, List.nil_append, List.cons_append]
  refine wpN_seq (of_wp ?_)
  go_wp2
  refine wpN_seq (of_wp ?_)
  go_wp2
  refine wpN_seq (of_wp ?_)
  go_wp2
  refine wpN_seq ?_
  refine wpN_seq (of_wp ?_)
  go_wp2
  refine wpN_block (wpN_loop (fun a W => ∃ (i : Nat) (v u1 u6 u7 u8 u9 u10 u11 u12 u13 u14 u15 u16 u17 u18 u19 u20 u21 u22 u23 u24 u25 u26 u27 u28 : Value), i ≤ s.size ∧ Below w.heap.size w W ∧ W.ownsRow w.heap.size 5 1 v (hexT s i).length (Lib.byteCells (hexT s i)) ∧ a = { tmps := #[.string s, u1, .string ⟨#[]⟩, .string ⟨#[48, 49, 50, 51, 52, 53, 54, 55, 56, 57, 97, 98, 99, 100, 101, 102]⟩, v, .int .i64 (i : Nat), u6, u7, u8, u9, u10, u11, u12, u13, u14, u15, u16, u17, u18, u19, u20, u21, u22, u23, u24, u25, u26, u27, u28], defers := [] }) (fun a _ => s.size - at5 a) ?_ ?_)
  · exact ⟨0, _, _, _, _, _, _, _, _, _, _, _, _, _, _, _, _, _, _, _, _, _, _, _, _, _, Nat.zero_le _, Below.refl _ w, World.ownsRow_nil _ _ _ _, rfl⟩
  · rintro a W ⟨i, v, u1, u6, u7, u8, u9, u10, u11, u12, u13, u14, u15, u16, u17, u18, u19, u20, u21, u22, u23, u24, u25, u26, u27, u28, hi, hb, hW, rfl⟩
    have hWs := hb.size
    refine wpN_seq (wpN_seq (of_wp ?_))
    go_wp2
    refine of_wp ?_
    go_wp2
    · rename_i hlt
      have hi' : i < s.size := by omega
      have hll := hexT_length s i
      have hsu := hexT_succ s i hi'
      have hlt256 : s[i].toNat < 256 := s[i].toNat_lt
      refine wpN_seq (wpN_block ?_)
      refine of_wp ?_
      obtain ⟨q1, hq1⟩ : ∃ q : Nat, s[i].toNat / 16 = q := ⟨_, rfl⟩
      obtain ⟨q2, hq2⟩ : ∃ q : Nat, s[i].toNat % 16 = q := ⟨_, rfl⟩
      have hw1 : IntKind.u8.wrap ((s[i].toNat : Int) / 16) = (q1 : Int) := by rw [IntKind.wrap_u8]; omega
      have hw2 : (s[i].toNat : Int) % 16 = (q2 : Int) := by omega
      have hw4 : (s[i].toNat : Int).tmod 16 = (q2 : Int) := by rw [Int.tmod_eq_emod_of_nonneg (by omega)]; omega
      have hw3 : IntKind.u8.wrap ((s[i].toNat : Int) % 16) = (q2 : Int) := by rw [IntKind.wrap_u8]; omega
      have hl1 : (q1 : Int) < 16 := by omega
      have hl2 : (q2 : Int) < 16 := by omega
      rw [hq1, hq2] at hsu
      clear hq1 hq2
      have p1 := hd_eq q1 (by omega)
      have p2 := hd_eq q2 (by omega)
      have p1h : Hid _ := p1
      have p2h : Hid _ := p2
      clear p1 p2
      go_region_held3 (fun w' => True) (trivial)
        ((refine step_append_lies _ (by rfl) _ _ _ (by rfl) w.heap.size 5 i5 (.int .u8 0) 1 1 Tryz.underlying39 hi5 hz5 hs5 hb5 rfl (by decide) _ _ _ (by rfl) ((hW.alloc _).drew)
            ⟨W.heap.size, 0, none⟩ 2 2 [.int .u8 (hd q1).toNat, .int .u8 (hd q2).toNat] (by rfl) (by rfl) (by rw [p1h.out, p2h.out]; exact World.news_of_block (cs := #[_, _]) (t := 5) (fr := (0, 0)) (heap_alloc_new W _)) (by intro u hu; simp at hu; rcases hu with rfl | rfl <;> rfl)
            (by omega) (by unfold maxLen; omega) (by omega) (by simp; omega) (W.heap.size + 1) (by simp) ?_; intro gg cap W4 hown' hgrow hat hlt4))
      all_goals
        have hb5 : Below w.heap.size w W4 := by
          refine ((hb.alloc (by omega) _).drew).grown hgrow (by simp; omega) fun k hk => ?_
          exact (hW.lt k hk).1
        have hown5 : W4.ownsRow w.heap.size 5 1 (.slice (some ⟨gg, 0, none⟩) ((hexT s i).length + 2) cap) (hexT s (i + 1)).length (Lib.byteCells (hexT s (i + 1))) := by
          rw [hsu]
          have h7 : Lib.byteCells (hexT s i ++ [hd q1] ++ [hd q2]) = Lib.byteCells (hexT s i) ++ [.int .u8 (hd q1).toNat, .int .u8 (hd q2).toNat] := by simp [Lib.byteCells]
          rw [h7, List.append_assoc, List.length_append]; exact hown'
        clear hgrow hown' hW hb p1h p2h hsu
        go_wp2
        refine of_wp ?_
        go_wp2
        exact ⟨⟨i + 1, _, _, _, _, _, _, _, _, _, _, _, _, _, _, _, _, _, _, _, _, _, _, _, _, _, by omega, hb5, hown5, rfl⟩, by simp [at5]; omega⟩
    · have hi2 : i = s.size := by omega
      subst hi2
      have hne : hexT s s.size ≠ [] := by
        obtain ⟨m, hm⟩ : ∃ m, s.size = m + 1 := ⟨s.size - 1, by omega⟩
        have h5 := hexT_succ s m (by omega)
        rw [hm, h5]
        simp
      have hcv := own_string hW hne
      refine wpN_seq (of_wp ?_)
      go_wp2
      refine of_wp ?_
      go_wp2
      go_ret
      exact ⟨rfl, hb⟩
end Go.Kn
