import Derived.Test.YthnicapopojbbaaGreatDoorKnLine3
namespace Go.Kn
open Go Go.Conc Go.Proofs Go.RowKit
set_option linter.unusedVariables false
set_option linter.unusedSimpArgs false
def aws : ByteArray := ⟨([104, 97, 115, 104, 32, 97, 10, 35, 32, 120, 10, 110, 117, 109, 32, 45, 49, 10, 102, 114, 111, 98, 10, 112, 114, 105, 109, 97, 114, 121, 32, 53, 32, 51, 10].append [99, 111, 109, 109, 105, 116, 116, 101, 100, 32, 48, 32, 57, 32, 48, 32, 52, 32, 54, 10, 115, 97, 102, 101, 32, 49, 54, 32, 48, 32, 48, 32, 56, 32, 49, 54]).toArray⟩
theorem run_ok2 (script : ByteArray) (w : World) (hs : script.size ≤ 65536) (mx : Int) (hm : w.cell? ⟨0, 0, none⟩ = some (.int .i64 mx)) (ls : List ByteArray) (hls : lns script = ls) (outs : List (Option ByteArray)) (hlo : outs.length = ls.length) (hl : ∀ (i : Nat) (h : i < ls.length), LineIs w ls[i] (outs[i]'(by omega))) (out : ByteArray) (ho : (⟨(jt (outs.filterMap id)).toArray⟩ : ByteArray) = out) (hsz : out.size ≤ 1000000000) : Calls Tryz.prog 13 #[.string script] w fun e w' => e = .returned (.tuple #[.string out, .int .i64 0]) ∧ Below w.heap.size w w' := by
  subst hls
  subst ho
  exact run_ok script w hs mx hm outs hlo hl (by simpa [ByteArray.size] using hsz)
theorem tells_of {w : World} {l : ByteArray} {ws : List ByteArray} {o : ByteArray} (hfl : flds l = ws) (f : ByteArray) (fs : List ByteArray) (hws : ws = f :: fs) (c : UInt8) (hc : f.data[0]? = some c) (hne : c ≠ 35)
    (hcall : ∀ (W : World) (A B : Nat), W.ownsRow B 9 1 (.slice (some ⟨A, 0, none⟩) ws.length ws.length) ws.length (ws.map Value.string) → Calls Tryz.prog 19 #[.slice (some ⟨A, 0, none⟩) ws.length ws.length] W fun e W' => e = .returned (.string o) ∧ Below W.heap.size W W') : LineIs w l (some o) := by
  subst hfl
  exact .tells f fs c o hws hc hne fun W A B _ _ h => hcall W A B h
theorem num_ok (w : World) : Calls Tryz.prog 14 #[.int .i64 0] w fun e w' => e = .returned (.int .i64 0) ∧ w' = w := by
  go_enter Tryz.func14, Tryz.ntmps14
  go_wp2
  go_ret
  exact ⟨rfl, rfl⟩
theorem hash_a : hexS (hashS ⟨#[97]⟩) = ⟨#[97, 102, 54, 51, 100, 99, 52, 99, 56, 54, 48, 49, 101, 99, 56, 99]⟩ := by kernel_rfl
theorem num_m1 : hexOf (putS (-1)) = ⟨#[48, 49]⟩ := by kernel_rfl
def awOut : ByteArray := ⟨#[97, 102, 54, 51, 100, 99, 52, 99, 56, 54, 48, 49, 101, 99, 56, 99, 10, 48, 49, 10, 101, 114, 114, 111, 114, 32, 50, 55, 48, 48, 10, 50, 10, 54, 10, 49, 54, 10]⟩
theorem awake_run (w : World) (mx : Int) (hm : w.cell? ⟨0, 0, none⟩ = some (.int .i64 mx)) : Calls Tryz.prog 13 #[.string aws] w fun e w' => e = .returned (.tuple #[.string awOut, .int .i64 0]) ∧ Below w.heap.size w w' := by
  refine run_ok2 aws w (by decide) mx hm [⟨#[104, 97, 115, 104, 32, 97]⟩, ⟨#[35, 32, 120]⟩, ⟨#[110, 117, 109, 32, 45, 49]⟩, ⟨#[102, 114, 111, 98]⟩, ⟨#[112, 114, 105, 109, 97, 114, 121, 32, 53, 32, 51]⟩, ⟨#[99, 111, 109, 109, 105, 116, 116, 101, 100, 32, 48, 32, 57, 32, 48, 32, 52, 32, 54]⟩, ⟨#[115, 97, 102, 101, 32, 49, 54, 32, 48, 32, 48, 32, 56, 32, 49, 54]⟩] (by kernel_rfl) [some ⟨#[97, 102, 54, 51, 100, 99, 52, 99, 56, 54, 48, 49, 101, 99, 56, 99]⟩, none, some ⟨#[48, 49]⟩, some ⟨#[101, 114, 114, 111, 114, 32, 50, 55, 48, 48]⟩, some ⟨#[50]⟩, some ⟨#[54]⟩, some ⟨#[49, 54]⟩] rfl (fun i h => ?_) awOut (by kernel_rfl) (by decide)
  match i, h with
  | 0, _ => exact tells_of (ws := [⟨#[104, 97, 115, 104]⟩, ⟨#[97]⟩]) (by kernel_rfl) ⟨#[104, 97, 115, 104]⟩ [⟨#[97]⟩] rfl 104 rfl (by decide) fun W A B h => hash_a ▸ line_hash ⟨#[97]⟩ (by decide) W A B h
  | 1, _ => exact .mark ⟨#[35]⟩ [⟨#[120]⟩] (by kernel_rfl) rfl
  | 2, _ => exact tells_of (ws := [⟨#[110, 117, 109]⟩, ⟨#[45, 49]⟩]) (by kernel_rfl) ⟨#[110, 117, 109]⟩ [⟨#[45, 49]⟩] rfl 110 rfl (by decide) fun W A B h => num_m1 ▸ line_num ⟨#[45, 49]⟩ (by decide) (-1) (by decide) (by decide) (by decide) W A B h
  | 3, _ => exact tells_of (ws := [⟨#[102, 114, 111, 98]⟩]) (by kernel_rfl) ⟨#[102, 114, 111, 98]⟩ [] rfl 102 rfl (by decide) fun W A B h => line_frob W A B h
  | 4, _ => exact tells_of (ws := [⟨#[112, 114, 105, 109, 97, 114, 121]⟩, ⟨#[53]⟩, ⟨#[51]⟩]) (by kernel_rfl) ⟨#[112, 114, 105, 109, 97, 114, 121]⟩ [⟨#[53]⟩, ⟨#[51]⟩] rfl 112 rfl (by decide) fun W A B h => line_primary W A B h
  | 5, _ => exact tells_of (ws := [⟨#[99, 111, 109, 109, 105, 116, 116, 101, 100]⟩, ⟨#[48]⟩, ⟨#[57]⟩, ⟨#[48]⟩, ⟨#[52]⟩, ⟨#[54]⟩]) (by kernel_rfl) ⟨#[99, 111, 109, 109, 105, 116, 116, 101, 100]⟩ [⟨#[48]⟩, ⟨#[57]⟩, ⟨#[48]⟩, ⟨#[52]⟩, ⟨#[54]⟩] rfl 99 rfl (by decide) fun W A B h => line_committed W A B h
  | 6, _ => exact tells_of (ws := [⟨#[115, 97, 102, 101]⟩, ⟨#[49, 54]⟩, ⟨#[48]⟩, ⟨#[48]⟩, ⟨#[56]⟩, ⟨#[49, 54]⟩]) (by kernel_rfl) ⟨#[115, 97, 102, 101]⟩ [⟨#[49, 54]⟩, ⟨#[48]⟩, ⟨#[48]⟩, ⟨#[56]⟩, ⟨#[49, 54]⟩] rfl 115 rfl (by decide) fun W A B h => line_safe W A B h
set_option maxHeartbeats 1000000 in
set_option maxRecDepth 100000 in
theorem awake_ok (w : World) (mx : Int) (hm : w.cell? ⟨0, 0, none⟩ = some (.int .i64 mx)) : Calls Tryz.prog 6 #[] w fun e w' => e = .returned (.bool true) ∧ Below w.heap.size w w' := by
  have hr := awake_run w mx hm
  unfold awOut at hr
  go_enter Tryz.func6, Tryz.ntmps6
  go_wp2_with (first | (go_at_call 13; refine hr.mono ?_; rintro e W2 ⟨rfl, hb⟩; clear hr) | (go_at_call 14; refine (num_ok _).mono ?_; rintro e W3 ⟨rfl, hW3⟩; have h9 := hW3.symm; clear hW3; subst h9))

  go_ret
  exact ⟨rfl, hb⟩
end Go.Kn
