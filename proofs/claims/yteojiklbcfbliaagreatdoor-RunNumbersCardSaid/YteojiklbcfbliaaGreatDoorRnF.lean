/-
  run.Print of one act, run.Parse of two lines: walked.
-/
import Derived.Test.YteojiklbcfbliaaGreatDoorRnE
set_option linter.unusedVariables false
set_option linter.unusedSimpArgs false
noncomputable section
namespace Go.Ry
open Go Go.Conc Go.Proofs Go.RowKit Go.Kn Go.Kx
def nodesT : ByteArray:=⟨#[110,111,100,101,115,32,51]⟩
def textT (D : ByteArray) : ByteArray:=⟨#[110,111,100,101,115,32,51,10,116,105,99,107,32]⟩ ++ D
theorem textT_list (D : ByteArray) : (textT D).data.toList = [110,111,100,101,115,32,51] ++ 10 :: (tickT D).data.toList:=by
 unfold textT
 rw [append_list,tickT_list]
 rfl
theorem textT_size (D : ByteArray) : (textT D).size = D.size + 13:=by
 unfold textT
 rw [ByteArray.size_append]
 have : (⟨#[110,111,100,101,115,32,51,10,116,105,99,107,32]⟩ : ByteArray).size = 13:=rfl
 omega
theorem drewN_below {B : Nat} {w : World} : ∀ n,Below B w (w.drewN n):=λn=>below_drewN (Below.refl _ _) n
theorem cut_ok (s sep a b : ByteArray) (t : Bool) (hs : s.size < 1000) (h : Lib.cut s.data.toList sep.data.toList = (a.data.toList,b.data.toList,t)) (w : World) (hg : Gl w) :
 Calls Tryz.prog 10 #[.string s,.string sep] w λe w'=>e = .returned (.tuple #[.string a,.string b,.bool t]) ∧ Below w.heap.size w w':=by
 obtain ⟨mx,hm⟩:=hg.max
 refine (Any.strings_Cut lays145 s sep mx w (by omega) hm).mono λe w' ⟨he,n,hw⟩=>?_
 rw [h] at he
 subst hw
 exact ⟨he,drewN_below n⟩
theorem cut_first (D : ByteArray) (w : World) (hD : D.size ≤ 100) (hg : Gl w) : Calls Tryz.prog 10 #[.string (textT D),.string ⟨#[10]⟩] w λe w'=>e = .returned (.tuple #[.string nodesT,.string (tickT D),.bool true]) ∧ Below w.heap.size w w' :=
 cut_ok _ _ _ _ _ (by rw [textT_size]; omega) (by rw [textT_list]; exact cut_at _ _ _ (by decide)) w hg
theorem cut_nodes (w : World) (hg : Gl w) : Calls Tryz.prog 10 #[.string nodesT,.string ⟨#[32]⟩] w λe w'=>e = .returned (.tuple #[.string ⟨#[110,111,100,101,115]⟩,.string ⟨#[51]⟩,.bool true]) ∧ Below w.heap.size w w' :=
 cut_ok _ _ _ _ _ (by decide) (by decide) w hg
theorem cut_tick (D : ByteArray) (w : World) (hD : D.size ≤ 100) (hn : (10 : UInt8) ∉ D.data.toList) (hg : Gl w) : Calls Tryz.prog 10 #[.string (tickT D),.string ⟨#[10]⟩] w λe w'=>e = .returned (.tuple #[.string (tickT D),.string ⟨#[]⟩,.bool false]) ∧ Below w.heap.size w w' :=
 cut_ok _ _ _ _ _ (by rw [tickT_size]; omega) (by refine cut_no _ _ ?_; rw [tickT_list]; simpa using hn) w hg
theorem number_three (w : World) (ht : Tab w) : Calls Tryz.prog 11 #[.string ⟨#[51]⟩] w λe w'=>e = .returned (.tuple #[.int .i64 3,.bool true]) ∧ Below w.heap.size w w' :=
 number_is ⟨#[51]⟩ 3 (by decide) (by rw [show Lib.itoa 3 = Lib.decDigits 3 from rfl,Lib.decDigits]; rfl) (by decide) (by decide) w ht
end Go.Ry
