/-
  cachetref0.Decimal at any int but the least: walked.
-/
import Derived.Test.YteojiklbcfbliaaGreatDoorRnP
import Derived.Shelf.Strconv.Itoa3
import Derived.Laws.AppendOwnNone
import Derived.OwnWalk
set_option linter.unusedVariables false
set_option linter.unusedSimpArgs false
noncomputable section
namespace Go.Ry
open Go Go.Conc Go.Proofs Go.RowKit
open Go.Kn Go.Kx
def dec (k : Int) : ByteArray:=⟨(Lib.itoa k).toArray⟩
def at3 (a : Act) : Nat:=match a.tmps[3]? with | some (Value.int _ k)=>k.toNat | _=>0
theorem wpN_mid {P : Program} {Q : Exit → Act → World → Prop} {a : Act} {w : World} {x y : Code} (M : Act → World → Prop) (h1 : WpN P x (Exit.then M Q) a w) (h2 : ∀ a w,M a w → WpN P y Q a w) : WpN P (Code.seq x y) Q a w :=
 wpN_seq (h1.mono λe a w h=>by
  cases e with
  | normal=>exact h2 _ _ h
  | _=>exact h)
theorem own_cells {w : World} {base : Nat} {v : Value} {l : List UInt8} (h : w.ownsRow base 5 1 v l.length (Lib.byteCells l)) (hl : l ≠ []) : ∃ g cap,v = .slice (some ⟨g,0,none⟩) l.length cap ∧ ∀ j (hj : j < l.length),w.cell? ⟨g,j,none⟩ = some (.int .u8 (l[j].toNat : Int)):=by
 have hk:=h
 rcases h.2 with ⟨hv,h0⟩ | ⟨g,cap,cur,hv,_,hg,_,_,_,ht⟩
 ·exact absurd (List.length_eq_zero_iff.1 h0) hl
 ·refine ⟨g,cap,hv,λj hj=>?_⟩
  subst hv
  have:=hk.cellAt j (by simpa [Lib.byteCells] using hj)
  simpa [Lib.byteCells,List.getElem?_eq_getElem hj] using this
theorem own_string {w : World} {base : Nat} {v : Value} {l : List UInt8} (h : w.ownsRow base 5 1 v l.length (Lib.byteCells l)) (hl : l ≠ []) : (convert 49 9 v).run Tryz.prog w = .ok (.string ⟨l.toArray⟩) w:=by
 obtain ⟨g,cap,rfl,hc⟩:=own_cells h hl
 refine run_convert_bytes_back w 49 9 5 ⟨g,0,none⟩ cap l Tryz.underlying49 Tryz.underlying5 Tryz.underlying9 λj hj=>?_
 have ha : (⟨g,0,none⟩ : Addr).add j = ⟨g,j,none⟩:=by
  unfold Addr.add; split
  ·simp_all
  ·simp
 rw [ha]; exact hc j hj
theorem decLen : ∀ k N,N < 10 ^ (k + 1) → (Lib.decDigits N).length ≤ k + 1
 | 0,N,h=>by
  rw [Lib.decDigits,dif_pos (by omega)]
  simp
 | k + 1, N, h => by
  rw [Lib.decDigits]
  split
  ·simp
  ·rw [List.length_append]
   have:=decLen k (N / 10) (by rw [Nat.pow_succ] at h; omega)
   simp only [List.length_cons,List.length_nil]
   omega
def dd (q : Nat) : List UInt8:=if q = 0 then [] else Lib.decDigits q
def dig (q : Nat) : UInt8:=UInt8.ofNat (48 + q % 10)
theorem dig_eq (q : Nat) : IntKind.u8.wrap (48 + (q : Int) % 10) = ((dig q).toNat : Int):=by
 rw [IntKind.wrap_u8]
 unfold dig
 rw [UInt8.toNat_ofNat']
 omega
theorem dd_step (q : Nat) (h : 0 < q) : dd q = dd (q / 10) ++ [dig q]:=by
 unfold dd dig
 rw [if_neg (by omega)]
 by_cases h2 : q < 10
 ·rw [if_pos (by omega),Lib.decDigits,dif_pos h2,Nat.mod_eq_of_lt h2]; rfl
 ·rw [if_neg (by omega),Lib.decDigits,dif_neg h2]
theorem dd_one (q : Nat) : dd (q / 10) ++ [dig q] = Lib.decDigits q:=by
 rcases Nat.eq_zero_or_pos q with rfl | hp
 ·rw [Lib.decDigits]; rfl
 ·rw [← dd_step q hp]; unfold dd; rw [if_neg (by omega)]
theorem bc_at {W : World} {g : Nat} {l : List UInt8} (hc : ∀ j (hj : j < l.length),W.cell? ⟨g,j,none⟩ = some (.int .u8 (l[j].toNat : Int))) : ∀ k u,(Lib.byteCells l)[k]? = some u → W.cell? ((⟨g,0,none⟩ : Addr).add k) = some u:=by
 intro k u hk
 have hkl : k < l.length:=by
  rcases Nat.lt_or_ge k l.length with h | h
  ·exact h
  ·rw [List.getElem?_eq_none (by simpa [Lib.byteCells] using h)] at hk; cases hk
 have ha : (⟨g,0,none⟩ : Addr).add k = ⟨g,k,none⟩:=by
  unfold Addr.add; split
  ·simp_all
  ·simp
 rw [ha,hc k hkl]
 simp [Lib.byteCells,List.getElem?_eq_getElem hkl] at hk
 rw [hk]
theorem bc_one {l : List UInt8} : ∀ u ∈ Lib.byteCells l,u.oneCell' = true:=by
 intro u hu
 simp [Lib.byteCells] at hu
 obtain ⟨b,_,rfl⟩:=hu
 rfl
theorem bc_len (l : List UInt8) : (Lib.byteCells l).length = l.length:=by simp [Lib.byteCells]
def at34 (a : Act) : Nat:=2 * at3 a + match a.tmps[4]? with | some (Value.slice none _ _)=>1 | _=>0
structure Decs (w : World) (N q : Nat) (v : Value) (W : World) : Prop where
 below : Below w.heap.size w W
 row : ∃ out : List UInt8,(out = [] → v = .slice none 0 0) ∧ (dd q ++ out = Lib.decDigits N ∧ out ≠ [] ∨ out = [] ∧ q = N) ∧ W.ownsRow w.heap.size 5 1 v out.length (Lib.byteCells out)
def DecEnd (w : World) (N : Nat) (v : Value) (W : World) : Prop:=(Lib.decDigits N).length ≤ 20 ∧ W.ownsRow w.heap.size 5 1 v (Lib.decDigits N).length (Lib.byteCells (Lib.decDigits N))
theorem dec_list (k : Int) : (dec k).data.toList = Lib.itoa k:=by simp [dec]
theorem dec_ne (k : Int) : (dec k).data.toList ≠ []:=by
 rw [dec_list]
 unfold Lib.itoa
 split
 ·simp
 ·exact Go.Ev.digits_ne _
set_option maxHeartbeats 1000000 in
set_option maxRecDepth 100000 in
theorem dec_ok (x : Int) (h1 : -9223372036854775807 ≤ x) (h2 : x ≤ 9223372036854775807) (w : World) : Calls Tryz.prog 6 #[.int .i64 x] w fun e w' => e = .returned (.string (dec x)) ∧ Below w.heap.size w w' := by
 have hinfo5 : (Tryz.prog.info? 5).map (λi=>(i.zero,i.size,i.bytes)) = some (some (.int .u8 0),1,1):=by kernel_rfl
 obtain ⟨i5,hi5,hz5,hs5,hb5⟩:=info_parts hinfo5
 refine calls_of_wpN Tryz.func6 rfl ?_
 simp only [Tryz.ntmps6,List.size_toArray,List.length_cons,List.length_nil,Nat.reduceAdd,Nat.reduceSub,Array.replicate_succ,
  Array.replicate_zero,List.push_toArray,List.append_toArray,List.nil_append,List.cons_append]
 refine wpN_seq (of_wp ?_)
 go_wp2
 refine wpN_seq (of_wp ?_)
 go_wp2
 refine wpN_mid (λa W=>∃ (q : Nat) (v u1 u5 u6 u7 u8 u9 u10 u11 u12 u13 u14 u15 u16 u17 u18 u19 u20 u21 u22 u23 u24 u25 u26 u27 u28 u29 u30 u31 u32 u33 u34 u35 u36 : Value),q = x.natAbs ∧ W = w ∧ a = { tmps:=#[.int .i64 x,u1,.string ⟨#[]⟩,.int .u64 (q : Nat),v,u5,u6,u7,u8,u9,u10,u11,u12,u13,u14,u15,u16,u17,u18,u19,u20,u21,u22,u23,u24,u25,u26,u27,u28,u29,u30,u31,u32,u33,u34,u35,u36],defers:=[] }) ?_ ?_
 ·refine wpN_seq (of_wp ?_)
  go_wp2
  refine of_wp ?_
  go_wp2
  ·rename_i hx
   have hw1 : IntKind.u64.wrap (-(x + 1)) = -(x + 1):=by rw [IntKind.wrap_u64]; omega
   obtain ⟨q,hq⟩ : ∃ q : Nat,(q : Int) = -(x + 1) + 1:=⟨(-(x + 1) + 1).toNat,by omega⟩
   exact ⟨q,_,_,_,_,_,_,_,_,_,_,_,_,_,_,_,_,_,_,_,_,_,_,_,_,_,_,_,_,_,_,_,_,_,_,by omega,by trivial,by rw [hq]⟩
  ·rename_i hx
   have hw1 : IntKind.u64.wrap x = x:=by rw [IntKind.wrap_u64]; omega
   obtain ⟨q,hq⟩ : ∃ q : Nat,(q : Int) = x:=⟨x.toNat,by omega⟩
   exact ⟨q,_,_,_,_,_,_,_,_,_,_,_,_,_,_,_,_,_,_,_,_,_,_,_,_,_,_,_,_,_,_,_,_,_,_,by omega,by trivial,by rw [hw1,hq]⟩
 ·rintro a W ⟨q,v,u1,u5,u6,u7,u8,u9,u10,u11,u12,u13,u14,u15,u16,u17,u18,u19,u20,u21,u22,u23,u24,u25,u26,u27,u28,u29,u30,u31,u32,u33,u34,u35,u36,hq,hW,rfl⟩
  have h9:=hW.symm
  clear hW
  subst h9
  subst hq
  refine wpN_seq (of_wp ?_)
  go_wp2
  have h0 : Decs w x.natAbs x.natAbs (.slice none 0 0) w:=⟨Below.refl _ _,[],λ_=>rfl,.inr ⟨rfl,rfl⟩,World.ownsRow_nil _ _ _ _⟩
  refine wpN_mid (λa W=>∃ (v u1 u5 u6 u7 u8 u9 u10 u11 u12 u13 u14 u15 u16 u17 u18 u19 u20 u21 u22 u23 u24 u25 u26 u27 u28 u29 u30 u31 u32 u33 u34 u35 u36 : Value),DecEnd w x.natAbs v W ∧ Below w.heap.size w W ∧ a = { tmps:=#[.int .i64 x,u1,.string ⟨#[]⟩,.int .u64 0,v,u5,u6,u7,u8,u9,u10,u11,u12,u13,u14,u15,u16,u17,u18,u19,u20,u21,u22,u23,u24,u25,u26,u27,u28,u29,u30,u31,u32,u33,u34,u35,u36],defers:=[] }) ?_ ?_
  ·refine wpN_block (wpN_loop (λa W=>∃ (q : Nat) (v u1 u5 u6 u7 u8 u9 u10 u11 u12 u13 u14 u15 u16 u17 u18 u19 u20 u21 u22 u23 u24 u25 u26 u27 u28 u29 u30 u31 u32 u33 u34 u35 u36 : Value),q ≤ 9223372036854775807 ∧ Decs w x.natAbs q v W ∧ a = { tmps:=#[.int .i64 x,u1,.string ⟨#[]⟩,.int .u64 (q : Nat),v,u5,u6,u7,u8,u9,u10,u11,u12,u13,u14,u15,u16,u17,u18,u19,u20,u21,u22,u23,u24,u25,u26,u27,u28,u29,u30,u31,u32,u33,u34,u35,u36],defers:=[] }) (λa _=>at34 a) ?_ ?_)
   ·exact ⟨x.natAbs,_,_,_,_,_,_,_,_,_,_,_,_,_,_,_,_,_,_,_,_,_,_,_,_,_,_,_,_,_,_,_,_,_,_,by omega,h0,rfl⟩
   ·rintro a W ⟨q,v,u1,u5,u6,u7,u8,u9,u10,u11,u12,u13,u14,u15,u16,u17,u18,u19,u20,u21,u22,u23,u24,u25,u26,u27,u28,u29,u30,u31,u32,u33,u34,u35,u36,hq,hS,rfl⟩
    clear h0
    obtain ⟨hb,out,hnone,ho,hown⟩:=hS
    have hol : out.length ≤ 20:=by
     rcases ho with ⟨he,_⟩ | ⟨rfl,_⟩
     ·have h3:=congrArg List.length he
      have h4:=decLen 19 x.natAbs (by omega)
      rw [List.length_append] at h3
      omega
     ·decide
    obtain ⟨ao,c,rfl⟩ : ∃ ao c,v = .slice ao out.length c:=by
     rcases hown.2 with ⟨hv,h0⟩ | ⟨g,cap,cur,hv,_⟩
     ·exact ⟨none,0,by rw [hv,h0]⟩
     ·exact ⟨_,_,hv⟩
    refine wpN_mid (λa V=>∃ (u1 u5 u6 u7 u8 u9 u10 u11 u12 u13 u14 u15 u16 u17 u18 u19 u20 u21 u22 u23 u24 u25 u26 u27 u28 u29 u30 u31 u32 u33 u34 u35 u36 : Value),V = W ∧ (0 < q ∨ out = [] ∧ q = x.natAbs) ∧ a = { tmps:=#[.int .i64 x,u1,.string ⟨#[]⟩,.int .u64 (q : Nat),.slice ao out.length c,u5,u6,u7,u8,u9,u10,u11,u12,u13,u14,u15,u16,u17,u18,u19,u20,u21,u22,u23,u24,u25,u26,u27,u28,u29,u30,u31,u32,u33,u34,u35,u36],defers:=[] }) ?_ ?_
    ·refine wpN_seq (of_wp ?_)
     go_wp2
     ·rename_i hp
      refine of_wp ?_
      go_wp2
      exact ⟨_,_,_,_,_,_,_,_,_,_,_,_,_,_,_,_,_,_,_,_,_,_,_,_,_,_,_,_,_,_,_,_,_,by trivial,.inl (by omega),rfl⟩
     ·rename_i hp
      have hq0 : q = 0:=by omega
      subst hq0
      rcases ho with ⟨he,hne⟩ | ⟨ho,hN⟩
      ·have hlen : 0 < out.length:=List.length_pos_iff.2 hne
       refine wpN_cond (t:=false) (by simp [Act.eval]; try omega) ?_
       rw [if_neg (by simp)]
       refine of_wp ?_
       go_wp2
       have he2 : out = Lib.decDigits x.natAbs:=by rw [← he]; simp [dd]
       exact ⟨_,_,_,_,_,_,_,_,_,_,_,_,_,_,_,_,_,_,_,_,_,_,_,_,_,_,_,_,_,_,_,_,_,_,⟨he2 ▸ hol,he2 ▸ hown⟩,hb,rfl⟩
      ·subst ho
       refine wpN_cond (t:=true) rfl ?_
       rw [if_pos rfl]
       refine of_wp ?_
       go_wp2
    ·rintro a V ⟨u1,u5,u6,u7,u8,u9,u10,u11,u12,u13,u14,u15,u16,u17,u18,u19,u20,u21,u22,u23,u24,u25,u26,u27,u28,u29,u30,u31,u32,u33,u34,u35,u36,hV,hcase,rfl⟩
     have h9:=hV.symm
     clear hV
     subst h9
     have hbs:=hb.size
     refine wpN_block ?_
     refine wpN_seq (of_wp ?_)
     have hdg : Hid ((48 + (q : Int) % 10) = ((dig q).toNat : Int)):=by
      have:=dig_eq q
      rw [IntKind.wrap_u8] at this
      show (48 + (q : Int) % 10) = _
      omega
     have hmade : (W.alloc (.cells #[.int .u8 (48 + (q : Int) % 10)] 5)).ownsRow w.heap.size 5 1 (.slice (some ⟨W.heap.size,0,none⟩) 1 1) 1 [.int .u8 (48 + (q : Int) % 10)] :=
      ⟨rfl,.inr ⟨W.heap.size,1,_,rfl,hbs,heap_alloc_new W _,Nat.le_refl _,by unfold maxLen; decide,rfl,rfl⟩⟩
     have hdq : q / 10 ≤ 9223372036854775807:=by omega
     have hstep : dd (q / 10) ++ (dig q :: out) = Lib.decDigits x.natAbs:=by
      have hsn : dd (q / 10) ++ (dig q :: out) = dd (q / 10) ++ [dig q] ++ out:=by simp
      rw [hsn]
      rcases ho with ⟨he,hne⟩ | ⟨rfl,hN⟩
      ·rcases hcase with hp | ⟨rfl,hN⟩
       ·rw [← he,dd_step q hp]
       ·exact absurd rfl hne
      ·rw [dd_one,hN]; simp
     have h7 : Lib.byteCells (dig q :: out) = [.int .u8 (48 + (q : Int) % 10)] ++ Lib.byteCells out:=by simp [Lib.byteCells]; exact hdg.out.symm
     by_cases hout : out = []
     ·have hv:=hnone hout
      subst hout
      cases hv
      go_wp2_with (at_builtin; go_loud (refine wpList_append_own_none rfl _ _ 49 rfl w.heap.size 5 i5 1 Tryz.underlying49 hi5 _ 1 _ rfl hmade rfl ?_))
      have hb5:=hb.alloc (by omega) (.cells #[.int .u8 (48 + (q : Int) % 10)] 5)
      have hown5 : (W.alloc (.cells #[.int .u8 (48 + (q : Int) % 10)] 5)).ownsRow w.heap.size 5 1 (.slice (some ⟨W.heap.size,0,none⟩) 1 1) (dig q :: []).length (Lib.byteCells (dig q :: [])):=by
       rw [h7]; exact hmade
      clear hmade hown hdg h7
      go_wp2
      refine of_wp ?_
      go_wp2
      exact ⟨⟨q / 10,hdq,_,⟨hb5,dig q :: [],by simp,.inl ⟨hstep,by simp⟩,hown5⟩,_,_,_,_,_,_,_,_,_,_,_,_,_,_,_,_,_,_,_,_,_,_,_,_,_,_,_,_,_,_,_,_,_,rfl⟩,by simp [at34,at3]; omega⟩
     ·obtain ⟨g,cap,hv,hcl⟩:=own_cells (hown.alloc (.cells #[.int .u8 (48 + (q : Int) % 10)] 5)) hout
      cases hv
      go_wp2_with (at_builtin; go_loud (refine wpList_append_own _ rfl _ _ 49 rfl w.heap.size 5 i5 (.int .u8 0) 1 1 Tryz.underlying49 hi5 hz5 hs5 hb5 rfl (by decide) _ 1 _ rfl hmade ⟨g,0,none⟩ out.length _ (Lib.byteCells out) rfl (by rw [bc_len]; omega) (bc_at hcl) bc_one (by unfold maxLen; omega) (by omega) (by simp; omega) ?_))
      intro v' W4 hown' hgrow _
      have hb5 : Below w.heap.size w W4:=by
       refine (hb.alloc (by omega) _).grown hgrow (by simp; omega) λk hk=>?_
       exact (hmade.lt k hk).1
      have hown5 : W4.ownsRow w.heap.size 5 1 v' (dig q :: out).length (Lib.byteCells (dig q :: out)):=by
       rw [List.length_cons,Nat.add_comm,h7]; exact hown'
      obtain ⟨g',cap',rfl,_⟩:=own_cells hown5 (by simp)
      have hqp : 0 < q:=by
       rcases hcase with h | ⟨h,_⟩
       ·exact h
       ·exact absurd h hout
      clear hgrow hown' hown hmade hdg h7 hcl
      go_wp2
      refine of_wp ?_
      go_wp2
      exact ⟨⟨q / 10,_,_,_,_,_,_,_,_,_,_,_,_,_,_,_,_,_,_,_,_,_,_,_,_,_,_,_,_,_,_,_,_,_,_,hdq,⟨hb5,dig q :: out,by simp,.inl ⟨hstep,by simp⟩,hown5⟩,rfl⟩,by simp [at34,at3]; omega⟩
  ·rintro a W ⟨v,u1,u5,u6,u7,u8,u9,u10,u11,u12,u13,u14,u15,u16,u17,u18,u19,u20,u21,u22,u23,u24,u25,u26,u27,u28,u29,u30,u31,u32,u33,u34,u35,u36,hE,hb,rfl⟩
   clear h0
   obtain ⟨hl,hown⟩:=hE
   have hbs:=hb.size
   refine wpN_mid (λa V=>∃ (v u1 u5 u6 u7 u8 u9 u10 u11 u12 u13 u14 u15 u16 u17 u18 u19 u20 u21 u22 u23 u24 u25 u26 u27 u28 u29 u30 u31 u32 u33 u34 u35 u36 : Value),(V.ownsRow w.heap.size 5 1 v (Lib.itoa x).length (Lib.byteCells (Lib.itoa x))) ∧ Below w.heap.size w V ∧ a = { tmps:=#[.int .i64 x,u1,.string ⟨#[]⟩,.int .u64 0,v,u5,u6,u7,u8,u9,u10,u11,u12,u13,u14,u15,u16,u17,u18,u19,u20,u21,u22,u23,u24,u25,u26,u27,u28,u29,u30,u31,u32,u33,u34,u35,u36],defers:=[] }) ?_ ?_
   ·refine wpN_seq (of_wp ?_)
    go_wp2
    refine of_wp ?_
    have hmade : (W.alloc (.cells #[.int .u8 45] 5)).ownsRow w.heap.size 5 1 (.slice (some ⟨W.heap.size,0,none⟩) 1 1) 1 [.int .u8 45] :=
     ⟨rfl,.inr ⟨W.heap.size,1,_,rfl,hbs,heap_alloc_new W _,Nat.le_refl _,by unfold maxLen; decide,rfl,rfl⟩⟩
    obtain ⟨g,cap,hv,hcl⟩:=own_cells (hown.alloc (.cells #[.int .u8 45] 5)) (by rw [Lib.decDigits]; split <;> simp)
    subst hv
    go_wp2_with (at_builtin; go_loud (refine wpList_append_own _ rfl _ _ 49 rfl w.heap.size 5 i5 (.int .u8 0) 1 1 Tryz.underlying49 hi5 hz5 hs5 hb5 rfl (by decide) _ 1 _ rfl hmade ⟨g,0,none⟩ (Lib.decDigits x.natAbs).length _ (Lib.byteCells (Lib.decDigits x.natAbs)) rfl (by rw [bc_len]; omega) (bc_at hcl) bc_one (by unfold maxLen; omega) (by omega) (by simp; omega) ?_))
    ·intro v' W4 hown' hgrow _
     have hb5 : Below w.heap.size w W4:=by
      refine (hb.alloc (by omega) _).grown hgrow (by simp; omega) λk hk=>?_
      exact (hmade.lt k hk).1
     have hown5 : W4.ownsRow w.heap.size 5 1 v' (Lib.itoa x).length (Lib.byteCells (Lib.itoa x)):=by
      have h7 : Lib.byteCells (Lib.itoa x) = [.int .u8 45] ++ Lib.byteCells (Lib.decDigits x.natAbs):=by unfold Lib.itoa; rw [if_pos (by omega)]; simp [Lib.byteCells]
      have h8 : (Lib.itoa x).length = 1 + (Lib.decDigits x.natAbs).length:=by unfold Lib.itoa; rw [if_pos (by omega),List.length_cons,Nat.add_comm]
      rw [h7,h8]; exact hown'
     clear hgrow hown' hown hmade hcl
     go_wp2
     exact ⟨v',_,_,_,_,_,_,_,_,_,_,_,_,_,_,_,_,_,_,_,_,_,_,_,_,_,_,_,_,_,_,_,_,_,hown5,hb5,rfl⟩
    ·rename_i hx
     have hown5 : W.ownsRow w.heap.size 5 1 (.slice (some ⟨g,0,none⟩) (Lib.decDigits x.natAbs).length cap) (Lib.itoa x).length (Lib.byteCells (Lib.itoa x)):=by
      have h7 : Lib.itoa x = Lib.decDigits x.natAbs:=by unfold Lib.itoa; rw [if_neg (by omega)]; congr 1; omega
      rw [h7]; exact hown
     exact ⟨_,_,_,_,_,_,_,_,_,_,_,_,_,_,_,_,_,_,_,_,_,_,_,_,_,_,_,_,_,_,_,_,_,_,hown5,hb,rfl⟩
   ·rintro a V ⟨v,u1,u5,u6,u7,u8,u9,u10,u11,u12,u13,u14,u15,u16,u17,u18,u19,u20,u21,u22,u23,u24,u25,u26,u27,u28,u29,u30,u31,u32,u33,u34,u35,u36,hown,hb,rfl⟩
    have hne : Lib.itoa x ≠ []:=by
     have h5:=dec_ne x
     rw [dec_list] at h5
     exact h5
    have hcv:=own_string hown hne
    refine wpN_seq (of_wp ?_)
    go_wp2
    refine of_wp ?_
    go_wp2
    go_ret
    exact ⟨rfl,hb⟩
end Go.Ry
