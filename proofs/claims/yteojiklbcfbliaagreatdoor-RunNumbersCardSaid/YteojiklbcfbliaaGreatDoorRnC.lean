/-
  run.words at one number, run.numbers at one word: walked.
-/
import Derived.Test.YteojiklbcfbliaaGreatDoorRnB
set_option linter.unusedVariables false
set_option linter.unusedSimpArgs false
noncomputable section
namespace Go.Ry
open Go Go.Conc Go.Proofs Go.RowKit Go.Kn Go.Kx
theorem cell_two (W : World) (o : Obj) (v : Value) (zs : Array Value) (t : TypeId) : (((W.alloc o).alloc (.cells (#[v] ++ zs) t)).drew).cell? ⟨W.heap.size + 1,0,none⟩ = some v:=by
 have hs : W.heap.size + 1 = (W.alloc o).heap.size:=by
  show W.heap.size + 1 = (W.heap.push o).size
  rw [Array.size_push]
 rw [World.cell?_drew,World.cell?_alloc_at (w:=W.alloc o) (#[v] ++ zs) t (W.heap.size + 1) 0 hs,Array.getElem?_append_left (by simp)]
 rfl
def at9 (a : Act) : Nat:=match a.tmps[9]? with | some (Value.int _ k)=>k.toNat | _=>0
def at11 (a : Act) : Nat:=match a.tmps[11]? with | some (Value.int _ k)=>k.toNat | _=>0
set_option maxHeartbeats 1000000 in
set_option maxRecDepth 100000 in
theorem words_one (u : ByteArray) (x : Int) (hu : u.size ≤ 1000) (h1 : -9223372036854775808 < x) (h2 : x ≤ 9223372036854775807) (hs : (Lib.itoa x).length ≤ 20) (A : Nat) (w : World) (ht : Tab w) (hA : A < w.heap.size) (hc : w.cell? ⟨A,0,none⟩ = some (.int .i64 x)) :
 Calls Tryz.prog 14 #[.string u,.slice (some ⟨A,0,none⟩) 1 1] w λe w'=>e = .returned (.string (u ++ ((⟨#[32]⟩ : ByteArray) ++ ⟨(Lib.itoa x).toArray⟩))) ∧ Below w.heap.size w w':=by
 have hi:=λW (hW : Below w.heap.size w W)=>itoa_ok x (by omega) (by omega) W (ht W hW)
 obtain ⟨t,htt⟩ : ∃ t : ByteArray,(⟨(Lib.itoa x).toArray⟩ : ByteArray) = t:=⟨_,rfl⟩
 have hts : t.size ≤ 20:=by rw [← htt]; simpa [ByteArray.size] using hs
 rw [htt] at hi ⊢
 clear htt hs
 refine calls_of_wpN Tryz.func14 rfl ?_
 simp only [Tryz.ntmps14,List.size_toArray,List.length_cons,List.length_nil,Nat.reduceAdd,Nat.reduceSub,Array.replicate_succ,
  Array.replicate_zero,List.push_toArray,List.append_toArray,List.nil_append,List.cons_append]
 refine wpN_seq (of_wp ?_)
 go_wp2
 refine wpN_seq ?_
 refine wpN_seq (of_wp ?_)
 go_wp2
 refine wpN_block (wpN_loop (λa W=>∃ (i : Nat) (s : ByteArray) (u2 u3 u5 u6 u10 u11 u12 u13 u14 u15 u16 u17 u18 u19 : Value),(i = 0 ∧ s = u ∨ i = 1 ∧ s = u ++ ((⟨#[32]⟩ : ByteArray) ++ t)) ∧ Below w.heap.size w W ∧ a = ⟨#[.string s,.slice (some ⟨A,0,none⟩) 1 1,u2,u3,.string ⟨#[]⟩,u5,u6,.slice (some ⟨A,0,none⟩) 1 1,.int .i64 1,.int .i64 (i : Nat),u10,u11,u12,u13,u14,u15,u16,u17,u18,u19],[]⟩) (λa _=>2 - at9 a) ?_ ?_)
 ·exact ⟨0,u,_,_,_,_,_,_,_,_,_,_,_,_,_,_,.inl ⟨rfl,rfl⟩,Below.refl _ _,rfl⟩
 ·rintro a W ⟨i,s,u2,u3,u5,u6,u10,u11,u12,u13,u14,u15,u16,u17,u18,u19,hi0,hb,rfl⟩
  have hcW : W.cell? ⟨A,0,none⟩ = some (.int .i64 x):=(hb.cell hA).trans hc
  rcases hi0 with ⟨rfl,rfl⟩ | ⟨rfl,rfl⟩
  ·refine wpN_seq (of_wp ?_)
   go_wp2
   refine wpN_seq (of_wp ?_)
   go_wp2
   refine wpN_seq (wpN_block ?_)
   refine wpN_seq (of_wp ?_)
   go_wp2
   refine of_wp ?_
   go_wp2_with (go_at_call 29; refine (hi W hb).mono ?_; rintro e W3 ⟨rfl,hb3⟩)
   refine of_wp ?_
   go_wp2
   exact ⟨⟨1,_,_,_,_,_,_,_,_,_,_,_,_,_,_,_,.inr ⟨rfl,rfl⟩,hb.trans (hb3.mono hb.size),rfl⟩,by simp [at9]⟩
  ·refine wpN_seq (of_wp ?_)
   go_wp2
   refine wpN_seq (of_wp ?_)
   go_wp2
   refine wpN_seq (of_wp ?_)
   go_wp2
   refine of_wp ?_
   go_wp2
   go_ret
   exact ⟨rfl,hb⟩
def Nums1 (w : World) (x : Int) (b : Bool) (e : Ending) (w' : World) : Prop:=Below w.heap.size w w' ∧
 (b = false ∧ e = .returned (.tuple #[.slice none 0 0,.bool false]) ∨ b = true ∧ ∃ g c,e = .returned (.tuple #[.slice (some ⟨g,0,none⟩) 1 c,.bool true]) ∧ w.heap.size ≤ g ∧ g < w'.heap.size ∧ w'.cell? ⟨g,0,none⟩ = some (.int .i64 x))
set_option maxHeartbeats 1000000 in
set_option maxRecDepth 100000 in
theorem numbers_one (s : ByteArray) (x : Int) (b : Bool) (A off cap : Nat) (w : World) (hA : A < w.heap.size) (hc : w.cell? ⟨A, off, none⟩ = some (.string s))
 (hn : ∀ W,Below w.heap.size w W → Calls Tryz.prog 11 #[.string s] W λe w'=>e = .returned (.tuple #[.int .i64 x,.bool b]) ∧ Below W.heap.size W w') :
 Calls Tryz.prog 32 #[.slice (some ⟨A,off,none⟩) 1 cap] w λe w'=>Nums1 w x b e w':=by
 have hinfo3 : (Tryz.prog.info? 3).map (λi=>(i.zero,i.size,i.bytes)) = some (some (.int .i64 0),1,8):=by kernel_rfl
 obtain ⟨i3,hi3,hz3,hs3,hb3⟩:=info_parts hinfo3
 refine calls_of_wpN Tryz.func32 rfl ?_
 simp only [Tryz.ntmps32,List.size_toArray,List.length_cons,List.length_nil,Nat.reduceAdd,Nat.reduceSub,Array.replicate_succ,
  Array.replicate_zero,List.push_toArray,List.append_toArray,List.nil_append,List.cons_append]
 refine wpN_seq (of_wp ?_)
 go_wp2
 refine wpN_seq (of_wp ?_)
 go_wp2
 refine wpN_seq ?_
 refine wpN_seq (of_wp ?_)
 go_wp2
 refine wpN_block (wpN_loop (λa W=>∃ (i : Nat) (v : Value) (u1 u5 u6 u7 u8 u12 u13 u14 u15 u16 u17 u18 u19 u20 u21 u22 u23 u24 u25 u26 u27 : Value),(i = 0 ∧ v = .slice none 0 0 ∧ Below w.heap.size w W ∨ i = 1 ∧ b = true ∧ Below w.heap.size w W ∧ ∃ g c,v = .slice (some ⟨g,0,none⟩) 1 c ∧ w.heap.size ≤ g ∧ g < W.heap.size ∧ W.cell? ⟨g,0,none⟩ = some (.int .i64 x)) ∧ a = ⟨#[.slice (some ⟨A,off,none⟩) 1 cap,u1,.slice none 0 0,.bool false,v,u5,u6,u7,u8,.slice (some ⟨A,off,none⟩) 1 cap,.int .i64 1,.int .i64 (i : Nat),u12,u13,u14,u15,u16,u17,u18,u19,u20,u21,u22,u23,u24,u25,u26,u27],[]⟩) (λa _=>2 - at11 a) ?_ ?_)
 ·exact ⟨0,_,_,_,_,_,_,_,_,_,_,_,_,_,_,_,_,_,_,_,_,_,_,.inl ⟨rfl,rfl,Below.refl _ _⟩,rfl⟩
 ·rintro a W ⟨i,v,u1,u5,u6,u7,u8,u12,u13,u14,u15,u16,u17,u18,u19,u20,u21,u22,u23,u24,u25,u26,u27,hi0,rfl⟩
  rcases hi0 with ⟨rfl,rfl,hb⟩ | ⟨rfl,hbt,hb,g,c,rfl,hg1,hg2,hg3⟩
  ·have hcW : W.cell? ⟨A,off,none⟩ = some (.string s):=(hb.cell hA).trans hc
   refine wpN_seq (of_wp ?_)
   go_wp2
   refine wpN_seq (of_wp ?_)
   go_wp2
   refine wpN_seq (wpN_block ?_)
   refine wpN_seq (of_wp ?_)
   go_wp2
   refine wpN_seq (of_wp ?_)
   go_wp2_with (go_at_call 11; refine (hn W hb).mono ?_; rintro e W3 ⟨rfl,hb3⟩)
   have hb4 : Below w.heap.size w W3:=hb.trans (hb3.mono hb.size)
   clear hcW hn hb3
   refine wpN_seq (wpN_seq (of_wp ?_))
   go_wp2
   cases b with
   | false =>
    refine wpN_cond (t:=true) (by simp [Act.eval]) ?_
    rw [if_pos rfl]
    refine of_wp ?_
    go_wp2
    go_ret2
    exact ⟨hb4,.inl ⟨rfl,rfl⟩⟩
   | true =>
    refine wpN_cond (t:=false) (by simp [Act.eval]) ?_
    rw [if_neg (by simp)]
    refine of_wp ?_
    go_wp2
    refine of_wp ?_
    go_wp2
    refine of_wp ?_
    go_wp2
    have hsz:=hb4.size
    refine ⟨⟨1,_,_,_,_,_,_,_,_,_,_,_,_,_,_,_,_,_,_,_,_,_,_,.inr ⟨rfl,trivial,?_,_,_,rfl,?_,?_,?_⟩,rfl⟩,by simp [at11]⟩
    ·repeat' (first | exact hb4 | refine Below.drew ?_ | refine below_drewN ?_ _ | refine Below.alloc ?_ (by first | omega | (simp; omega)) _)
    ·omega
    ·simp
    ·exact cell_two _ _ _ _ _
  ·refine wpN_seq (of_wp ?_)
   go_wp2
   refine wpN_seq (of_wp ?_)
   go_wp2
   refine wpN_seq (of_wp ?_)
   go_wp2
   refine of_wp ?_
   go_wp2
   go_ret2
   exact ⟨hb,.inr ⟨hbt,g,c,rfl,hg1,hg2,hg3⟩⟩
end Go.Ry
