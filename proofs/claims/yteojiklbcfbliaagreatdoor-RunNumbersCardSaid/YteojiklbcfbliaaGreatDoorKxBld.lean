/-
  A part of the proof.
-/
import Derived.Test.YteojiklbcfbliaaGreatDoorKxLay
import Derived.Test.YteojiklbcfbliaaGreatDoorEwM9
import Derived.Shelf.Strings.BuilderF
import Derived.Shelf.Strings.Builder1
import Derived.Shelf.Strings.BuilderK
import Derived.Laws.BitsAllLaws
import Derived.Laws.IdiomStrings
import Derived.BigGuardPart
set_option linter.unusedVariables false
set_option linter.unusedSimpArgs false
noncomputable section
namespace Go.Kx
open Go Go.Conc Go.Proofs Go.RowKit Go.Kn Go.Shelf
def jt (os : List ByteArray) : List UInt8:=os.flatMap λo=>o.data.toList ++ [10]
theorem isBuilder_setChan {T e : TypeId} {B b : Nat} {bs : List Value} {w : World} (h : Lib.IsBuilder T e B b bs w) {c : Nat} (hc : c < B) (cap : Nat) (buf : Array Value) (cl : Bool) (s r : Nat) (tm : Bool) : Lib.IsBuilder T e B b bs (w.setChan c cap buf cl s r tm) := by
 have key : ∀ p,Lib.BuilderAt T e B b p bs w → Lib.BuilderAt T e B b p bs (w.setChan c cap buf cl s r tm):=by
  rintro p ⟨hB,v,hb,hown,hne⟩
  refine ⟨hB,v,?_,?_,hne⟩
  ·simp only [World.setChan]
   rw [Array.getElem?_setIfInBounds_ne (by omega)]; exact hb
  ·refine hown.kept (row:=some c) ⟨rfl,rfl,rfl,by simp [World.setChan],λk _ hk=>?_⟩ ?_
   ·simp only [World.setChan]
    rw [Array.getElem?_setIfInBounds_ne (λe=>hk (by rw [e]))]
   ·refine .inr λe=>?_
    have:=(hown.lt c e).1
    omega
 exact h.imp (key _) (key _)
theorem extra166 : Builder.Extra Tryz.prog lays166_ren where
 sizeBuilder:=by kernel_rfl
 liesBuilder:=by kernel_rfl
 t5:=by kernel_rfl
 a5:=λw=>by kernel_rfl
 z5:=λw=>by kernel_rfl
 v5:=λw=>by kernel_rfl
 infoByte:=by kernel_rfl
 cellsByte:=by kernel_rfl
 sizeByte:=by kernel_rfl
 neB5:=by decide
theorem extra169 : Builder.Extra Tryz.prog lays169_ren where
 sizeBuilder:=by kernel_rfl
 liesBuilder:=by kernel_rfl
 t5:=by kernel_rfl
 a5:=λw=>by kernel_rfl
 z5:=λw=>by kernel_rfl
 v5:=λw=>by kernel_rfl
 infoByte:=by kernel_rfl
 cellsByte:=by kernel_rfl
 sizeByte:=by kernel_rfl
 neB5:=by decide
theorem knWrite (B b : Nat) (bs : List Value) (s : ByteArray) (w : World) (h : Lib.IsBuilder 52 5 B b bs w) (hlen : bs.length + s.size ≤ 140737488355328) (hBw : B ≤ w.heap.size) :
 Calls Tryz.prog 13 #[.pointer (some ⟨b,0,none⟩),.string s] w λe w'=>e = .returned (.tuple #[.int .i64 s.size,.nilIface]) ∧ (Lib.BuilderAt 52 5 B b (.pointer (some ⟨b,0,none⟩)) (bs ++ Lib.strCells s) w' ∧ Below B w w'):=Any.Builder_WriteString lays166 extra166 B b bs s w h hlen hBw
theorem knString (B b : Nat) (l : List UInt8) (w : World) (h : Lib.IsBuilder 52 5 B b (Lib.byteCells l) w) (hBw : B ≤ w.heap.size) :
 Calls Tryz.prog 20 #[.pointer (some ⟨b,0,none⟩)] w λe w'=>e = .returned (.string ⟨l.toArray⟩) ∧ Below B w w':=Any.Builder_String_any lays169 extra169 B b l w h hBw
theorem jt_append (a b : List ByteArray) : jt (a ++ b) = jt a ++ jt b:=List.flatMap_append
theorem jt_take (os : List ByteArray) (j : Nat) (h : j < os.length) : jt (os.take (j + 1)) = jt (os.take j) ++ (os[j].data.toList ++ [10]):=by
 rw [List.take_succ_eq_append_getElem h,jt_append]
 exact congrArg _ (List.append_nil _)
theorem jt_le (os : List ByteArray) (j : Nat) : (jt (os.take j)).length ≤ (jt os).length:=by
 have h:=congrArg (λl=>(jt l).length) (List.take_append_drop j os)
 simp only [jt_append,List.length_append] at h
 omega
theorem knPutA (B : Nat) (bs : List UInt8) (o : ByteArray) (c : ByteArray) (hc : c = ⟨#[10]⟩) (hsz : bs.length + o.size ≤ 1000000000) (w : World) (hB : Lib.IsBuilder 52 5 B B (Lib.byteCells bs) w) (hBw : B ≤ w.heap.size) :
 Calls Tryz.prog 13 #[.pointer (some ⟨B,0,none⟩),.string (o ++ c)] w λe w'=>e = .returned (.tuple #[.int .i64 (o ++ c).size,.nilIface]) ∧ (Lib.IsBuilder 52 5 B B (Lib.byteCells (bs ++ (o.data.toList ++ [10]))) w' ∧ Below B w w'):=by
 have h6 : c.size = 1:=by subst hc; rfl
 have h4 : (Lib.byteCells bs).length = bs.length:=by simp [Lib.byteCells]
 have h7 : Lib.byteCells (bs ++ (o.data.toList ++ [10])) = Lib.byteCells bs ++ Lib.strCells (o ++ c):=by
  rw [Lib.strCells_eq]; subst hc; simp [Lib.byteCells]
 have hw:=knWrite B B (Lib.byteCells bs) (o ++ c) w hB (by rw [h4,ByteArray.size_append]; omega) hBw
 refine hw.mono ?_
 rintro e w' ⟨h1,h2,h3⟩
 rw [h7]
 exact ⟨h1,.inr h2,h3⟩
theorem knPut (B : Nat) (os : List ByteArray) (j : Nat) (h : j < os.length) (hsz : (jt os).length ≤ 1000000000) (w : World) (hB : Lib.IsBuilder 52 5 B B (Lib.byteCells (jt (os.take j))) w) (hBw : B ≤ w.heap.size) (c : ByteArray) (hc : c = ⟨#[10]⟩) :
 Calls Tryz.prog 13 #[.pointer (some ⟨B,0,none⟩),.string (os[j] ++ c)] w λe w'=>e = .returned (.tuple #[.int .i64 (os[j] ++ c).size,.nilIface]) ∧ (Lib.IsBuilder 52 5 B B (Lib.byteCells (jt (os.take (j + 1)))) w' ∧ Below B w w'):=by
 have hjt:=jt_take os j h
 have hle:=jt_le os (j + 1)
 rw [hjt] at hle ⊢
 refine knPutA B _ _ c hc ?_ w hB hBw
 simp only [List.length_append,List.length_cons,List.length_nil] at hle
 have h5 : os[j].size = os[j].data.toList.length:=by simp
 omega
theorem isBuilder_lt {T e : TypeId} {B b : Nat} {bs : List Value} {w : World} (h : Lib.IsBuilder T e B b bs w) : b < w.heap.size:=h.elim (·.lt) (·.lt)
theorem extra167 : Builder.Extra Tryz.prog lays167_ren where
 sizeBuilder:=by kernel_rfl
 liesBuilder:=by kernel_rfl
 t5:=by kernel_rfl
 a5:=λw=>by kernel_rfl
 z5:=λw=>by kernel_rfl
 v5:=λw=>by kernel_rfl
 infoByte:=by kernel_rfl
 cellsByte:=by kernel_rfl
 sizeByte:=by kernel_rfl
 neB5:=by decide
theorem knWriteByte (B b : Nat) (bs : List Value) (c : Int) (w : World) (h : Lib.IsBuilder 52 5 B b bs w) (hlen : bs.length + 1 ≤ 140737488355328) (hBw : B ≤ w.heap.size) :
 Calls Tryz.prog 63 #[.pointer (some ⟨b,0,none⟩),.int .u8 c] w λe w'=>e = .returned .nilIface ∧ (Lib.BuilderAt 52 5 B b (.pointer (some ⟨b,0,none⟩)) (bs ++ [.int .u8 c]) w' ∧ Below B w w'):=Any.Builder_WriteByte lays167 extra167 B b bs c w h hlen hBw
def hexDigits : ByteArray:=⟨#[48,49,50,51,52,53,54,55,56,57,97,98,99,100,101,102]⟩
def hd (k : Nat) : UInt8:=hexDigits.data.toList.getD k 0
theorem hd_eq (k : Nat) (h : k < 16) : hd k = (⟨#[48,49,50,51,52,53,54,55,56,57,97,98,99,100,101,102]⟩ : ByteArray)[k]'h:=by
 have hl : k < hexDigits.data.toList.length:=h
 unfold hd
 rw [List.getD_eq_getElem?_getD,List.getElem?_eq_getElem hl]
 rfl
theorem and15 (b : UInt8) : bits BinOp.and IntKind.u8 (b.toNat : Int) 15 = ((b.toNat % 16 : Nat) : Int):=by
 rw [show (15 : Int) = ((15 : Nat) : Int) from rfl,u8_and_nat _ 15 b.toNat_lt (by decide)]
 rw [show (15 : Nat) = 2 ^ 4 - 1 from rfl,Nat.and_two_pow_sub_one_eq_mod]
def hex2 (b : UInt8) : List UInt8:=[hd (b.toNat / 16),hd (b.toNat % 16)]
def hexT (s : ByteArray) (i : Nat) : List UInt8:=(s.data.toList.take i).flatMap hex2
theorem hexT_succ (s : ByteArray) (i : Nat) (h : i < s.size) : hexT s (i + 1) = hexT s i ++ [hd (s[i].toNat / 16)] ++ [hd (s[i].toNat % 16)]:=by
 have hl : i < s.data.toList.length:=by simpa using h
 unfold hexT
 rw [List.take_succ_eq_append_getElem hl,List.flatMap_append]
 simp [hex2]
 exact ⟨rfl,rfl⟩
theorem hexT_length (s : ByteArray) (i : Nat) : (hexT s i).length ≤ 2 * i:=by
 unfold hexT
 have : ∀ l : List UInt8,(l.flatMap hex2).length = 2 * l.length:=by
  intro l
  induction l with
  | nil=>rfl
  | cons b r ih=>rw [List.flatMap_cons,List.length_append,ih]; simp [hex2]; omega
 rw [this,List.length_take]; omega
def hexOf (s : ByteArray) : ByteArray:=⟨(hexT s s.size).toArray⟩
theorem hdPut (B : Nat) (l : List UInt8) (c c' : UInt8) (hcc : c = c') (w : World) (h : Lib.IsBuilder 52 5 B B (Lib.byteCells l) w) (hlen : l.length ≤ 1000000000) (hBw : B ≤ w.heap.size) :
 Calls Tryz.prog 63 #[.pointer (some ⟨B,0,none⟩),.int .u8 c'.toNat] w λe w'=>e = .returned .nilIface ∧ (Lib.IsBuilder 52 5 B B (Lib.byteCells (l ++ [c])) w' ∧ Below B w w'):=by
 subst hcc
 have h4 : (Lib.byteCells l).length = l.length:=by simp [Lib.byteCells]
 refine (knWriteByte B B (Lib.byteCells l) c.toNat w h (by rw [h4]; omega) hBw).mono ?_
 rintro e w' ⟨h1,h2,h3⟩
 have h7 : Lib.byteCells (l ++ [c]) = Lib.byteCells l ++ [.int .u8 c.toNat]:=by simp [Lib.byteCells]
 rw [h7]
 exact ⟨h1,.inr h2,h3⟩
end Go.Kx
