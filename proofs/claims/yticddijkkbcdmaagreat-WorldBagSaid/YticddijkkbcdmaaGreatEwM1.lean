/-
  The evaluator: the states, the values, the relation.
-/
import Derived.Orders
import Derived.Lib.ItoaNum
import Derived.Laws.Cells
import Derived.Laws.CopyRow
set_option linter.unusedVariables false
set_option linter.unusedSimpArgs false
noncomputable section
namespace Go.Ev
inductive SV where
 |un
 |int (k:IntKind) (n:Int)
 |bool (b:Bool)
 |str (l n:Nat)
 |nsl
 |npt
 |nfn
 |optr (id off:Nat)
 |osl (id off len cap s:Nat)
 |esl
 |zsl
 |fn (f:Nat) (caps:List (Nat×Nat))
 |sym (k:IntKind) (i:Nat)
 |nmp
 |mp (id:Nat)
 |nif
 |mk (t:Nat)
inductive CV where
 |one (s:SV)
 |ag (l:List SV)
inductive AV where
 |one (s:SV)
 |ag (l:List SV)
 |tp (l:List CV)
abbrev St:=List (Nat×List SV)
abbrev Fz:=Nat→Option (List SV)
abbrev TM:=List (List AV)
section
variable {R:Type}
def AV.onOne (v:AV) (z:R) (k:SV→R):R:=AV.rec (motive:=λ_=>R) k (λ_=>z) (λ_=>z) v
def AV.onAg (v:AV) (z:R) (k:List SV→R):R:=AV.rec (motive:=λ_=>R) (λ_=>z) k (λ_=>z) v
def AV.onTp (v:AV) (z:R) (k:List CV→R):R:=AV.rec (motive:=λ_=>R) (λ_=>z) (λ_=>z) k v
def AV.onCells (v:AV) (z:R) (k:List SV→R):R:=AV.rec (motive:=λ_=>R) (λs=>k [s]) k (λ_=>z) v
def SV.onInt (v:SV) (z:R) (k:IntKind→Int→R):R:=
 SV.rec (motive:=λ_=>R) z k (λ_=>z) (λ_ _=>z) z z z (λ_ _=>z) (λ_ _ _ _ _=>z) z z (λ_ _=>z) (λ_ _=>z) z (λ_=>z) z (λ_=>z) v
def SV.onBool (v:SV) (z:R) (k:Bool→R):R:=
 SV.rec (motive:=λ_=>R) z (λ_ _=>z) k (λ_ _=>z) z z z (λ_ _=>z) (λ_ _ _ _ _=>z) z z (λ_ _=>z) (λ_ _=>z) z (λ_=>z) z (λ_=>z) v
def SV.onStr (v:SV) (z:R) (k:Nat→Nat→R):R:=
 SV.rec (motive:=λ_=>R) z (λ_ _=>z) (λ_=>z) k z z z (λ_ _=>z) (λ_ _ _ _ _=>z) z z (λ_ _=>z) (λ_ _=>z) z (λ_=>z) z (λ_=>z) v
def SV.onPtr (v:SV) (z:R) (k:Nat→Nat→R):R:=
 SV.rec (motive:=λ_=>R) z (λ_ _=>z) (λ_=>z) (λ_ _=>z) z z z k (λ_ _ _ _ _=>z) z z (λ_ _=>z) (λ_ _=>z) z (λ_=>z) z (λ_=>z) v
def SV.onSl (v:SV) (z:R) (k:Nat→Nat→Nat→Nat→Nat→R):R:=
 SV.rec (motive:=λ_=>R) z (λ_ _=>z) (λ_=>z) (λ_ _=>z) z z z (λ_ _=>z) k z z (λ_ _=>z) (λ_ _=>z) z (λ_=>z) z (λ_=>z) v
def SV.onFn (v:SV) (z:R) (k:Nat→List (Nat×Nat)→R):R:=
 SV.rec (motive:=λ_=>R) z (λ_ _=>z) (λ_=>z) (λ_ _=>z) z z z (λ_ _=>z) (λ_ _ _ _ _=>z) z z k (λ_ _=>z) z (λ_=>z) z (λ_=>z) v
def SV.onSym (v:SV) (z:R) (k:IntKind→Nat→R):R:=
 SV.rec (motive:=λ_=>R) z (λ_ _=>z) (λ_=>z) (λ_ _=>z) z z z (λ_ _=>z) (λ_ _ _ _ _=>z) z z (λ_ _=>z) k z (λ_=>z) z (λ_=>z) v
def SV.isStr (v:SV):Bool:=
 SV.rec (motive:=λ_=>Bool) false (λ_ _=>false) (λ_=>false) (λ_ _=>true) false false false (λ_ _=>false) (λ_ _ _ _ _=>false) false false (λ_ _=>false) (λ_ _=>false) false (λ_=>false) false (λ_=>false) v
def SV.known (v:SV):Bool:=
 SV.rec (motive:=λ_=>Bool) false (λ_ _=>true) (λ_=>true) (λ_ _=>true) true true true (λ_ _=>true) (λ_ _ _ _ _=>true) true true (λ_ _=>true) (λ_ _=>true) true (λ_=>true) true (λ_=>false) v
def SV.isMk (v:SV):Bool:=
 SV.rec (motive:=λ_=>Bool) false (λ_ _=>false) (λ_=>false) (λ_ _=>false) false false false (λ_ _=>false) (λ_ _ _ _ _=>false) false false (λ_ _=>false) (λ_ _=>false) false (λ_=>false) false (λ_=>true) v
def mkd (l:List SV):Bool:=List.rec (motive:=λ_=>Bool) false (λh _ _=>h.isMk) l
def SV.onMp (v:SV) (z:R) (k:Nat→R):R:=
 SV.rec (motive:=λ_=>R) z (λ_ _=>z) (λ_=>z) (λ_ _=>z) z z z (λ_ _=>z) (λ_ _ _ _ _=>z) z z (λ_ _=>z) (λ_ _=>z) z k z (λ_=>z) v
def SV.onMk (v:SV) (z:R) (k:Nat→R):R:=
 SV.rec (motive:=λ_=>R) z (λ_ _=>z) (λ_=>z) (λ_ _=>z) z z z (λ_ _=>z) (λ_ _ _ _ _=>z) z z (λ_ _=>z) (λ_ _=>z) z (λ_=>z) z k v
def knownAll (l:List SV):Bool:=List.rec (motive:=λ_=>Bool) true (λh _ ih=>cond h.known ih false) l
def fN (n:Nat) (k:Nat→R):R:=Nat.rec (motive:=λ_=>R) (k 0) (λm _=>k (Nat.succ m)) n
def fI (n:Int) (k:Int→R):R:=Int.rec (motive:=λ_=>R) (λm=>fN m λm=>k (Int.ofNat m)) (λm=>fN m λm=>k (Int.negSucc m)) n
def fB (b:Bool) (k:Bool→R):R:=Bool.rec (motive:=λ_=>R) (k false) (k true) b
def nth {α:Type} (d:α) (l:List α):Nat→α:=
 List.rec (motive:=λ_=>Nat→α) (λ_=>d) (λh _ ih i=>Nat.rec (motive:=λ_=>α) h (λj _=>ih j) i) l
def nthK {α:Type} (l:List α):Nat→R→(α→R)→R:=
 List.rec (motive:=λ_=>Nat→R→(α→R)→R) (λ_ z _=>z) (λh _ ih i z k=>Nat.rec (motive:=λ_=>R) (k h) (λj _=>ih j z k) i) l
def setK {α:Type} (l:List α):Nat→α→(List α→R)→R:=
 List.rec (motive:=λ_=>Nat→α→(List α→R)→R) (λ_ _ k=>k [])
  (λh t ih i v k=>Nat.rec (motive:=λ_=>R) (k (v::t)) (λj _=>ih j v λr=>k (h::r)) i) l
def takeK (l:List SV):Nat→R→(List SV→R)→R:=
 List.rec (motive:=λ_=>Nat→R→(List SV→R)→R) (λn z k=>Nat.rec (motive:=λ_=>R) (k []) (λ_ _=>z) n)
  (λh _ ih n z k=>Nat.rec (motive:=λ_=>R) (k []) (λm _=>ih m z λr=>k (h::r)) n) l
def subK (l:List SV):Nat→Nat→R→(List SV→R)→R:=
 List.rec (motive:=λ_=>Nat→Nat→R→(List SV→R)→R)
  (λoff n z k=>Nat.rec (motive:=λ_=>R) (Nat.rec (motive:=λ_=>R) (k []) (λ_ _=>z) n) (λ_ _=>z) off)
  (λh t ih off n z k=>Nat.rec (motive:=λ_=>R) (takeK (h::t) n z k) (λo _=>ih o n z k) off) l
def headK (vs:List SV):List SV→R→(List SV→R)→R:=
 List.rec (motive:=λ_=>List SV→R→(List SV→R)→R) (λl _ k=>k l)
  (λv _ ih l z k=>List.rec (motive:=λ_=>R) z (λ_ t _=>ih t z λr=>k (v::r)) l) vs
def overK (l:List SV):Nat→List SV→R→(List SV→R)→R:=
 List.rec (motive:=λ_=>Nat→List SV→R→(List SV→R)→R)
  (λoff vs z k=>Nat.rec (motive:=λ_=>R) (headK vs [] z k) (λ_ _=>z) off)
  (λh t ih off vs z k=>Nat.rec (motive:=λ_=>R) (headK vs (h::t) z k) (λo _=>ih o vs z λr=>k (h::r)) off) l
def appK (l:List SV):List SV→(List SV→R)→R:=
 List.rec (motive:=λ_=>List SV→(List SV→R)→R)
  (λm k=>k m) (λh _ ih m k=>ih m λr=>k (h::r)) l
def copyK (l:List SV):(List SV→R)→R:=
 List.rec (motive:=λ_=>(List SV→R)→R) (λk=>k []) (λh _ ih k=>ih λr=>k (h::r)) l
def lenK (l:List SV):Nat→(Nat→R)→R:=
 List.rec (motive:=λ_=>Nat→(Nat→R)→R) (λn k=>k n) (λ_ _ ih n k=>ih (Nat.succ n) k) l
def look (s:St):Nat→Option (List SV):=
 List.rec (motive:=λ_=>Nat→Option (List SV)) (λ_=>none) (λp _ ih id=>cond (Nat.beq p.1 id) (some p.2) (ih id)) s
def plainK (z:R) (k:List SV→R) (cs:List SV):R:=cond (mkd cs) z (k cs)
def onLook (s:St) (id:Nat) (z:R) (k:List SV→R):R:=Option.rec (motive:=λ_=>R) z (plainK z k) (look s id)
def lookAll (fz:Fz) (mu:St) (id:Nat) (z:R) (k:List SV→R):R:=
 Option.rec (motive:=λ_=>R) (Option.rec (motive:=λ_=>R) z (plainK z k) (fz id)) (plainK z k) (look mu id)
def lookAny (fz:Fz) (mu:St) (id:Nat) (z:R) (k:List SV→R):R:=
 Option.rec (motive:=λ_=>R) (Option.rec (motive:=λ_=>R) z k (fz id)) k (look mu id)
def with' (mu:St) (fz:Fz):Fz:=λid=>Option.rec (motive:=λ_=>Option (List SV)) (fz id) some (look mu id)
def putK (s:St):Nat→List SV→(St→R)→R:=
 List.rec (motive:=λ_=>Nat→List SV→(St→R)→R) (λ_ _ k=>k [])
  (λp t ih id c k=>cond (Nat.beq p.1 id) (k ((p.1,c)::t)) (ih id c λr=>k (p::r))) s
def killK (s:St):Nat→(St→R)→R:=
 List.rec (motive:=λ_=>Nat→(St→R)→R) (λ_ k=>k [])
  (λp _ ih id k=>cond (Nat.beq p.1 id) (ih id k) (ih id λr=>k (p::r))) s
def joinK (s:St):St→(St→R)→R:=
 List.rec (motive:=λ_=>St→(St→R)→R) (λm k=>k m) (λp _ ih m k=>ih m λr=>k (p::r)) s
inductive Od where
 |t (q r:Nat)
 |c (v:AV)
def noVal:AV:=.tp []
def get (tm:TM) (q r:Nat):AV:=nth (.one .un) (nth [] tm q) r
def ev (tm:TM) (x:Od):AV:=Od.rec (motive:=λ_=>AV) (λq r=>get tm q r) (λv=>v) x
def evs (tm:TM) (l:List Od):List AV:=l.map (ev tm)
def setTm (tm:TM) (q r:Nat) (v:AV) (k:TM→R):R:=setK (nth [] tm q) r v λc=>setK tm q c k
def ltI (a b:Int):Bool:=
 Int.rec (motive:=λ_=>Bool)
  (λm=>Int.rec (motive:=λ_=>Bool) (λn=>Nat.blt m n) (λ_=>false) b)
  (λm=>Int.rec (motive:=λ_=>Bool) (λ_=>true) (λn=>Nat.blt n m) b) a
def eqI (a b:Int):Bool:=
 Int.rec (motive:=λ_=>Bool)
  (λm=>Int.rec (motive:=λ_=>Bool) (λn=>Nat.beq m n) (λ_=>false) b)
  (λm=>Int.rec (motive:=λ_=>Bool) (λ_=>false) (λn=>Nat.beq m n) b) a
def wrapK (kd:IntKind) (n:Int) (k:Int→R):R:=
 Int.rec (motive:=λ_=>R)
  (λm=>cond (Nat.blt m 128) (fN m λm=>k (Int.ofNat m)) (fI (kd.wrap n) k))
  (λ_=>fI (kd.wrap n) k) n
def IntKind.eqb:IntKind→IntKind→Bool
 |.i64,.i64=>true
 |a,b=>decide (a=b)
def binI (op:BinOp) (kd:IntKind) (a b:Int) (z:R) (k:SV→R):R:=
 BinOp.rec (motive:=λ_=>R)
  (wrapK kd (Int.add a b) λn=>k (.int kd n))
  (wrapK kd (Int.sub a b) λn=>k (.int kd n))
  (wrapK kd (Int.mul a b) λn=>k (.int kd n))
  (cond (eqI b 0) z (fI (kd.wrap (a.tdiv b)) λn=>k (.int kd n)))
  (cond (eqI b 0) z (fI (a.tmod b) λn=>k (.int kd n)))
  (fI (kd.wrap (BitVec.ofInt kd.bits a&&&BitVec.ofInt kd.bits b).toNat) λn=>k (.int kd n))
  (fI (kd.wrap (BitVec.ofInt kd.bits a|||BitVec.ofInt kd.bits b).toNat) λn=>k (.int kd n))
  (fI (kd.wrap (BitVec.ofInt kd.bits a^^^BitVec.ofInt kd.bits b).toNat) λn=>k (.int kd n))
  z z
  (fI (kd.wrap (BitVec.ofInt kd.bits a&&&~~~(BitVec.ofInt kd.bits b)).toNat) λn=>k (.int kd n))
  (fB (eqI a b) λr=>k (.bool r))
  (fB (eqI a b) λr=>k (.bool (not r)))
  (fB (ltI a b) λr=>k (.bool r))
  (fB (ltI b a) λr=>k (.bool (not r)))
  (fB (ltI b a) λr=>k (.bool r))
  (fB (ltI a b) λr=>k (.bool (not r))) op
def shiftI (left:Bool) (kd:IntKind) (a b:Int) (z:R) (k:SV→R):R:=
 cond (ltI b 0) z (cond left (fI (kd.wrap (a*2^min b.toNat kd.bits)) λn=>k (.int kd n)) (fI (a.fdiv (2^min b.toNat kd.bits)) λn=>k (.int kd n)))
def strLt (l n l' n':Nat):Bool:=cond (Nat.blt (Nat.mul n (Nat.pow 256 l')) (Nat.mul n' (Nat.pow 256 l))) true (cond (Nat.beq (Nat.mul n (Nat.pow 256 l')) (Nat.mul n' (Nat.pow 256 l))) (Nat.blt l l') false)
def strEq (l n l' n':Nat):Bool:=cond (Nat.beq l l') (Nat.beq n n') false
def strBinK (op:BinOp) (l n l' n':Nat) (z:R) (k:SV→R):R:=
 BinOp.rec (motive:=λ_=>R)
  (cond (Nat.ble (Nat.add l l') 1099511627776) (fN (Nat.add l l') λm=>fN (Nat.add (Nat.mul n (Nat.pow 256 l')) n') λr=>k (.str m r)) z)
  z z z z z z z z z z
  (fB (strEq l n l' n') λr=>k (.bool r))
  (fB (strEq l n l' n') λr=>k (.bool (not r)))
  (fB (strLt l n l' n') λr=>k (.bool r))
  (fB (strLt l' n' l n) λr=>k (.bool (not r)))
  (fB (strLt l' n' l n) λr=>k (.bool r))
  (fB (strLt l n l' n') λr=>k (.bool (not r))) op
def eqCell:Nat→SV→SV→Option Bool
 |0,.int k a,.int k' b=>cond (IntKind.eqb k k') (some (eqI a b)) none
 |1,.bool a,.bool b=>some (a==b)
 |2,.str l a,.str l' b=>some (strEq l a l' b)
 |_,_,_=>none
def eqCells:List Nat→List SV→List SV→Option Bool
 |[],[],[]=>some true
 |c::cs,a::x,b::y=>match eqCell c a b with
  |some true=>eqCells cs x y
  |some false=>(eqCells cs x y).map λ_=>false
  |none=>none
 |_,_,_=>none
def nilness:Bool→SV→Option Bool
 |true,.nsl=>some true
 |true,.osl ..=>some false
 |true,.esl=>some false
 |true,.zsl=>some false
 |false,.npt=>some true
 |false,.optr ..=>some false
 |_,_=>none
def digK (l:Nat):Nat→List SV→(List SV→R)→R:=
 Nat.rec (motive:=λ_=>Nat→List SV→(List SV→R)→R) (λ_ acc k=>k acc)
  (λ_ ih n acc k=>fN (Nat.mod n 256) λd=>fN (Nat.div n 256) λn=>ih n (.int .u8 (Int.ofNat d)::acc) k) l
def srcK (fz:Fz) (mu:St) (s:Nat) (x:SV) (z:R) (k:List SV→Nat→R):R:=
 SV.rec (motive:=λ_=>R) z (λ_ _=>z) (λ_=>z)
  (λl b=>cond (Nat.beq s 1) (digK l b [] λr=>k r l) z)
  (k [] 0) z z (λ_ _=>z)
  (λid off len _ s'=>cond (Nat.beq s' s) (lookAll fz mu id z λcs=>fN (Nat.mul len s) λm=>fN off λoff=>subK cs off m z λr=>k r len) z)
  (k [] 0) (k [] 0) (λ_ _=>z) (λ_ _=>z) z (λ_=>z) z (λ_=>z) x
def bound (x:Option AV) (d:Nat):Option Nat:=
 match x with
 |none=>some d
 |some (.one (.int _ n))=>if n<0 then none else some n.toNat
 |_=>none
def sliceOf (s:Nat) (x:SV) (lo hi mx:Option AV):Option SV:=
 match x with
 |.str m b=>match mx with
  |some _=>none
  |none=>match bound hi m,bound lo 0 with
   |some h,some l=>if Nat.ble h m&&Nat.ble l h then some (.str (h-l) (b/256^(m-h)%256^(h-l)))else none
   |_,_=>none
 |.nsl=>match bound mx 0,bound hi 0,bound lo 0 with
  |some 0,some 0,some 0=>some .nsl
  |_,_,_=>none
 |.esl=>match bound mx 0,bound hi 0,bound lo 0 with
  |some 0,some 0,some 0=>some .esl
  |_,_,_=>none
 |.osl id off len cap s'=>if !Nat.beq s' s then none else
  match bound hi len,bound lo 0 with
  |some h,some l=>
   if !(Nat.ble h cap&&Nat.ble l h)then none else
   match mx with
   |none=>if Nat.blt l cap||Nat.beq l 0 then some (.osl id (off+l*s) (h-l) (cap-l) s)else some .zsl
   |some m=>match bound (some m) 0 with
    |some m=>if !(Nat.ble m cap&&Nat.ble h m)then none
     else if Nat.beq m l then some .esl else some (.osl id (off+l*s) (h-l) (m-l) s)
    |none=>none
  |_,_=>none
 |_=>none
def fSV (v:SV) (k:SV→R):R:=
 SV.rec (motive:=λ_=>R) (k .un) (λkd n=>fI n λn=>k (.int kd n)) (λb=>fB b λb=>k (.bool b)) (λl b=>fN l λl=>fN b λb=>k (.str l b)) (k .nsl) (k .npt) (k .nfn)
  (λid off=>fN id λid=>fN off λoff=>k (.optr id off))
  (λid off len cap s=>fN id λid=>fN off λoff=>fN len λlen=>fN cap λcap=>fN s λs=>k (.osl id off len cap s))
  (k .esl) (k .zsl) (λf cs=>k (.fn f cs)) (λkd i=>k (.sym kd i)) (k .nmp) (λid=>fN id λid=>k (.mp id)) (k .nif) (λt=>k (.mk t)) v
end
structure Orc (R:Type) where
 bin:BinOp→IntKind→Nat→Int→(SV→R)→R
 nib:BinOp→IntKind→Int→Nat→(SV→R)→R
 conv:IntKind→Nat→(SV→R)→R
 force:Nat→(Int→R)→R
 sw:Bool
def s2bOk:Bool:=false
inductive XOp where
 |b2s
 |s2b
 |mkmap (agg:Bool) (v:Nat)
 |mget (ks:Nat) (ok agg:Bool) (v:Nat) (zero:List SV)
 |mput (ks:Nat) (agg:Bool) (v:Nat)
 |mdel (ks:Nat) (agg:Bool) (v:Nat)
 |mclr (agg:Bool) (v:Nat)
 |mlen (agg:Bool) (v:Nat)
 |clr (s:Nat) (zero:List SV)
 |slcA (s len:Nat)
inductive AOp where
 |mv (x:Od)
 |pick (c a b:Od)
 |alloc (zero:List SV)
 |box (x:Od)
 |build (zero:List SV) (parts:List (Nat×Nat×Od))
 |bslice (s len:Nat) (zero:List SV) (parts:List (Nat×Nat×Od))
 |load (agg:Bool) (n:Nat) (x:Od)
 |store (n:Nat) (x v:Od)
 |nilc (x:Od)
 |bin (op:BinOp) (x y:Od)
 |shift (left:Bool) (x y:Od)
 |sbin (op:BinOp) (x y:Od)
 |eqb (neg:Bool) (x y:Od)
 |eqn (sl neg:Bool) (x y:Od)
 |eqs (ks:List Nat) (neg:Bool) (x y:Od)
 |not (x:Od)
 |neg (x:Od)
 |conv (k:IntKind) (x:Od)
 |mkfn (f:Nat) (caps:List Od)
 |mkslice (s bytes:Nat) (zero:List SV) (len cap:Od)
 |slc (str:Bool) (s:Nat) (x:Od) (lo hi mx:Option Od)
 |faddr (off:Nat) (x:Od)
 |fld (off:Nat) (agg:Bool) (n:Nat) (x:Od)
 |iaddr (s:Nat) (x i:Od)
 |iaddrA (s len:Nat) (x i:Od)
 |idx (x i:Od)
 |extr (x:Od) (i:Nat)
 |len (str:Bool) (x:Od)
 |cap (x:Od)
 |append (s bytes:Nat) (x y:Od)
 |copy (s:Nat) (x y:Od)
 |max (x:Od) (xs:List Od)
 |min (x:Od) (xs:List Od)
 |call (f:Od) (args:List Od)
 |ext (e:XOp) (xs:List Od)
structure AOper where
 dst:Option (Nat×Nat)
 op:AOp
 g:Option (Nat×Nat×Bool)
 mode:Nat:=0
 anc:List Nat:=[]
inductive ACode where
 |skip
 |reg (ops:List AOper)
 |draw (ops:List AOper)
 |seq (a b:ACode)
 |cond (c:Od) (a b:ACode)
 |blk (id:Nat) (a:ACode)
 |loop (a:ACode)
 |exit (id:Nat)
 |ret
 |bad
inductive ARes where
 |tmp (q r:Nat)
 |cell (q r:Nat) (agg:Bool) (n:Nat)
structure AFunc where
 ntmps:Nat
 nargs:Nat
 res:List ARes
 body:ACode
abbrev CallT (R:Type):=Nat→List AV→Fz→St→Nat→(AV→St→Nat→R)→R
section
variable {R:Type} (orc:Orc R) (z:R) (call:CallT R) (fz:Fz) (tm:TM) (mu:St) (n:Nat)
abbrev KT (R:Type):=AV→St→Nat→R
def asRes (agg:Bool) (r:List SV) (z:R) (k:AV→R):R:=
 Bool.rec (motive:=λ_=>R) (List.rec (motive:=λ_=>R) z (λh t _=>List.rec (motive:=λ_=>R) (k (.one h)) (λ_ _ _=>z) t) r) (k (.ag r)) agg
def oPick (c a b:Od) (k:KT R):R:=(ev tm c).onOne z λs=>s.onBool z λt=>cond t (k (ev tm a) mu n) (k (ev tm b) mu n)
def oNew (cs:List SV) (k:KT R):R:=fN (Nat.succ n) λm=>k (.one (.optr n 0)) ((n,cs)::mu) m
def oBox (x:Od) (k:KT R):R:=(ev tm x).onCells z λcs=>cond (knownAll cs) (oNew mu n cs k) z
def fill (parts:List (Nat×Nat×Od)):List SV→(List SV→R)→R:=
 List.rec (motive:=λ_=>List SV→(List SV→R)→R) (λcs k=>k cs)
  (λp _ ih cs k=>(ev tm p.2.2).onCells z λvs=>lenK vs 0 λm=>cond (Nat.beq m p.2.1) (cond (knownAll vs) (overK cs p.1 vs z λcs=>ih cs k) z) z) parts
def oBuild (zero:List SV) (parts:List (Nat×Nat×Od)) (k:KT R):R:=fill z tm parts zero λcs=>k (.ag cs) mu n
def rep (zero:List SV):Nat→List SV
 |0=>[]
 |n+1=>zero++rep zero n
def oBslice (s len:Nat) (zero:List SV) (parts:List (Nat×Nat×Od)) (k:KT R):R:=
 copyK (rep zero len) λcs=>fill z tm parts cs λcs=>fN (Nat.succ n) λm=>k (.one (.osl n 0 len len s)) ((n,cs)::mu) m
def oLoad (agg:Bool) (m:Nat) (x:Od) (k:KT R):R:=
 (ev tm x).onOne z λs=>s.onPtr z λid off=>lookAll fz mu id z λcs=>subK cs off m z λr=>asRes agg r z λv=>k v mu n
def oPut (id off:Nat) (vs:List SV) (k:St→R):R:=
 cond (knownAll vs) (onLook mu id z λcs=>overK cs off vs z λcs=>putK mu id cs k) z
def oStore (m:Nat) (x v:Od) (k:KT R):R:=
 (ev tm x).onOne z λs=>s.onPtr z λid off=>(ev tm v).onCells z λvs=>lenK vs 0 λl=>cond (Nat.beq l m) (oPut z mu id off vs λmu=>k noVal mu n) z
def oNilc (x:Od) (k:KT R):R:=
 (ev tm x).onOne z λs=>SV.rec (motive:=λ_=>R) z (λ_ _=>z) (λ_=>z) (λ_ _=>z) z z z (λ_ _=>k (.one s) mu n) (λ_ _ _ _ _=>z) z z (λ_ _=>k (.one s) mu n) (λ_ _=>z) z (λ_=>z) z (λ_=>z) s
def selfK (op:BinOp) (e n o:R):R:=BinOp.rec (motive:=λ_=>R) o o o o o o o o o o o e n o o o o op
def oBin (op:BinOp) (x y:Od) (k:KT R):R:=
 (ev tm x).onOne z fun s=>(ev tm y).onOne z fun u=>u.onInt
  (u.onSym z λkd' j=>s.onInt
   (s.onSym z λkd i=>cond (IntKind.eqb kd kd') ((λo:R=>cond (Nat.beq i j) (selfK op (k (.one (.bool true)) mu n) (k (.one (.bool false)) mu n) o) o) (orc.force j λv=>orc.bin op kd i v λr=>fSV r λr=>k (.one r) mu n)) z)
   λkd a=>cond (IntKind.eqb kd kd') (orc.nib op kd a j λr=>fSV r λr=>k (.one r) mu n) z)
  λkd' b=>s.onInt
   (s.onSym z λkd i=>cond (IntKind.eqb kd kd') (orc.bin op kd i b λr=>fSV r λr=>k (.one r) mu n) z)
   λkd a=>cond (IntKind.eqb kd kd') (binI op kd a b z λr=>k (.one r) mu n) z
def forceK (x:Od) (k:TM→R):R:=
 Od.rec (motive:=λ_=>R) (λq r=>AV.rec (motive:=λ_=>R) (λs=>s.onSym (k tm) λkd i=>orc.force i λv=>fI v λv=>setTm tm q r (.one (.int kd v)) k) (λ_=>k tm) (λ_=>k tm) (get tm q r)) (λ_=>k tm) x
def forceO (x:Option Od) (k:TM→R):R:=Option.rec (motive:=λ_=>R) (k tm) (λx=>forceK orc tm x k) x
def ltS (a b:SV) (k:Bool→R):R:=
 a.onInt
  (a.onSym z λkd i=>b.onInt
   (b.onSym z λkd' j=>cond (IntKind.eqb kd kd') (orc.force j λv=>orc.bin .lss kd i v λs=>s.onBool z k) z)
   λkd' v=>cond (IntKind.eqb kd kd') (orc.bin .lss kd i v λs=>s.onBool z k) z)
  λkd u=>b.onInt
   (b.onSym z λkd' j=>cond (IntKind.eqb kd kd') (orc.nib .lss kd u j λs=>s.onBool z k) z)
   λkd' v=>cond (IntKind.eqb kd kd') (k (ltI u v)) z
def maxK (l:List AV):SV→(SV→R)→R:=
 List.rec (motive:=λ_=>SV→(SV→R)→R) (λa k=>k a) (λh _ ih a k=>h.onOne z λb=>ltS orc z a b λt=>cond t (ih b k) (ih a k)) l
def minK (l:List AV):SV→(SV→R)→R:=
 List.rec (motive:=λ_=>SV→(SV→R)→R) (λa k=>k a) (λh _ ih a k=>h.onOne z λb=>ltS orc z b a λt=>cond t (ih b k) (ih a k)) l
def oShift (left:Bool) (x y:Od) (k:KT R):R:=
 (ev tm x).onOne z λs=>s.onInt z λkd a=>(ev tm y).onOne z λu=>u.onInt z λ_ b=>shiftI left kd a b z λr=>k (.one r) mu n
def oSbin (op:BinOp) (x y:Od) (k:KT R):R:=
 (ev tm x).onOne z λs=>s.onStr z λl a=>(ev tm y).onOne z λu=>u.onStr z λl' b=>strBinK op l a l' b z λr=>k (.one r) mu n
def oEqb (neg:Bool) (x y:Od) (k:KT R):R:=
 (ev tm x).onOne z λs=>s.onBool z λa=>(ev tm y).onOne z λu=>u.onBool z λb=>fB (neg !=(a==b)) λr=>k (.one (.bool r)) mu n
def oEqn (sl neg:Bool) (x y:Od) (k:KT R):R:=
 (ev tm x).onOne z λs=>(ev tm y).onOne z λu=>Option.rec (motive:=λ_=>R) z
  (λa=>Option.rec (motive:=λ_=>R) z (λb=>cond (a||b) (fB (neg !=(a&&b)) λr=>k (.one (.bool r)) mu n) z) (nilness sl u)) (nilness sl s)
def oEqs (ks:List Nat) (neg:Bool) (x y:Od) (k:KT R):R:=
 (ev tm x).onAg z λa=>(ev tm y).onAg z λb=>Option.rec (motive:=λ_=>R) z (λe=>fB (neg !=e) λr=>k (.one (.bool r)) mu n) (eqCells ks a b)
def oNot (x:Od) (k:KT R):R:=(ev tm x).onOne z λs=>s.onBool z λa=>fB (not a) λr=>k (.one (.bool r)) mu n
def oNeg (x:Od) (k:KT R):R:=(ev tm x).onOne z λs=>s.onInt z λkd a=>fI (kd.wrap (0-a)) λr=>k (.one (.int kd r)) mu n
def oConv (kd:IntKind) (x:Od) (k:KT R):R:=(ev tm x).onOne z λs=>s.onInt (s.onSym z λ_ i=>orc.conv kd i λr=>fSV r λr=>k (.one r) mu n) λ_ a=>wrapK kd a λr=>k (.one (.int kd r)) mu n
def capsK (l:List Od):(List (Nat×Nat)→R)→R:=
 List.rec (motive:=λ_=>(List (Nat×Nat)→R)→R) (λk=>k []) (λh _ ih k=>(ev tm h).onOne z λs=>s.onPtr z λid off=>ih λr=>k ((id,off)::r)) l
def oMkfn (f:Nat) (caps:List Od) (k:KT R):R:=capsK z tm caps λcs=>k (.one (.fn f cs)) mu n
def roomy:Nat:=137438953472
def fits (need bytes:Nat):Bool:=cond (Nat.ble (Nat.mul need (Nat.succ bytes)) roomy) true (cond (Nat.ble (Nat.mul need bytes) 140737488355328) (cond (Nat.ble 1 bytes) (Nat.ble bytes 65536) false) false)
def oMkslice (s bytes:Nat) (zero:List SV) (l c:Od) (k:KT R):R:=
 (ev tm l).onOne z fun a=>a.onInt z fun ka a=>(ev tm c).onOne z fun b=>b.onInt z fun kb b=>
  cond (IntKind.eqb ka .i64&&IntKind.eqb kb .i64&&not (ltI a 0)&&not (ltI b a)&&fits b.toNat bytes)
   (fN a.toNat λm=>copyK (rep zero m) λcs=>fN (Nat.succ n) λn'=>k (.one (.osl n 0 m m s)) ((n,cs)::mu) n') z
def oSlc (str:Bool) (s:Nat) (x:Od) (lo hi mx:Option Od) (k:KT R):R:=
 (ev tm x).onOne z λv=>cond (v.isStr==str) (Option.rec (motive:=λ_=>R) z (λr=>fSV r λr=>k (.one r) mu n) (sliceOf s v (lo.map (ev tm)) (hi.map (ev tm)) (mx.map (ev tm)))) z
def oFaddr (off:Nat) (x:Od) (k:KT R):R:=
 (ev tm x).onOne z λs=>s.onPtr z λid o=>fN (Nat.add o off) λo=>k (.one (.optr id o)) mu n
def oFld (off:Nat) (agg:Bool) (m:Nat) (x:Od) (k:KT R):R:=
 (ev tm x).onAg z λcs=>subK cs off m z λr=>asRes agg r z λv=>k v mu n
def oIaddr (s:Nat) (x i:Od) (k:KT R):R:=
 (ev tm i).onOne z λi=>i.onInt z λ_ i=>(ev tm x).onOne z λv=>v.onSl z λid off len _ s'=>
  cond (Nat.beq s' s&&not (ltI i 0)&&Nat.blt i.toNat len) (fN (Nat.add off (Nat.mul i.toNat s)) λo=>k (.one (.optr id o)) mu n) z
def oIaddrA (s len:Nat) (x i:Od) (k:KT R):R:=
 (ev tm i).onOne z λi=>i.onInt z λ_ i=>(ev tm x).onOne z λv=>v.onPtr z λid off=>
  cond (not (ltI i 0)&&Nat.blt i.toNat len) (fN (Nat.add off (Nat.mul i.toNat s)) λo=>k (.one (.optr id o)) mu n) z
def oIdx (x i:Od) (k:KT R):R:=
 (ev tm i).onOne z λi=>i.onInt z λ_ i=>(ev tm x).onOne z λv=>v.onStr z λl b=>
  cond (ltI i 0) z (cond (Nat.blt i.toNat l) (fN (Nat.mod (Nat.div b (Nat.pow 256 (Nat.sub (Nat.pred l) i.toNat))) 256) λc=>k (.one (.int .u8 (Int.ofNat c))) mu n) z)
def oExtr (x:Od) (i:Nat) (k:KT R):R:=
 (ev tm x).onTp z λps=>nthK ps i z λc=>CV.rec (motive:=λ_=>R) (λs=>k (.one s) mu n) (λl=>k (.ag l) mu n) c
def oLen (str:Bool) (x:Od) (k:KT R):R:=
 (ev tm x).onOne z λs=>cond (s.isStr==str) (SV.rec (motive:=λ_=>R) z (λ_ _=>z) (λ_=>z) (λl _=>k (.one (.int .i64 (Int.ofNat l))) mu n)
  (k (.one (.int .i64 0)) mu n) z z (λ_ _=>z) (λ_ _ len _ _=>k (.one (.int .i64 (Int.ofNat len))) mu n) (k (.one (.int .i64 0)) mu n) (k (.one (.int .i64 0)) mu n) (λ_ _=>z) (λ_ _=>z) z (λ_=>z) z (λ_=>z) s) z
def oCap (x:Od) (k:KT R):R:=
 (ev tm x).onOne z λs=>SV.rec (motive:=λ_=>R) z (λ_ _=>z) (λ_=>z) (λ_ _=>z)
  (k (.one (.int .i64 0)) mu n) z z (λ_ _=>z) (λ_ _ _ _ _=>z) (k (.one (.int .i64 0)) mu n) z (λ_ _=>z) (λ_ _=>z) z (λ_=>z) z (λ_=>z) s
def appNew (s bytes:Nat) (x:SV) (src:List SV) (cnt:Nat) (k:KT R):R:=
 cond (Nat.beq cnt 0) (k (.one x) mu n) (cond (fits cnt bytes) (fN (Nat.succ n) λm=>k (.one (.osl n 0 cnt cnt s)) ((n,src)::mu) m) z)
def appOwn (s bytes:Nat) (x:SV) (id off len cap s':Nat) (src:List SV) (cnt:Nat) (k:KT R):R:=
 cond (Nat.beq cnt 0) (k (.one x) mu n) (cond (Nat.beq s' s&&fits (Nat.add len cnt) bytes)
  (onLook mu id z λknown=>fN (Nat.mul len s) λm=>subK known off m z λold=>lenK known 0 λkl=>cond (Nat.beq kl (Nat.add off m))
   (appK old src λcs=>killK mu id λmu=>fN (Nat.add len cnt) λl=>fN (Nat.succ n) λn'=>k (.one (.osl n 0 l l s)) ((n,cs)::mu) n')
   (cond (Nat.ble (Nat.add len cnt) cap) (fN (Nat.add off m) λo=>overK known o src z λcs=>putK mu id cs λmu=>fN (Nat.add len cnt) λl=>k (.one (.osl id off l cap s)) mu n) z)) z)
def oAppend (s bytes:Nat) (x y:Od) (k:KT R):R:=
 (ev tm x).onOne z fun x=>(ev tm y).onOne z fun y=>srcK fz mu s y z fun src cnt=>cond (knownAll src)
  (SV.rec (motive:=λ_=>R) z (λ_ _=>z) (λ_=>z) (λ_ _=>z) (appNew z mu n s bytes x src cnt k) z z (λ_ _=>z)
   (λid off len cap s'=>appOwn z mu n s bytes x id off len cap s' src cnt k) (appNew z mu n s bytes x src cnt k) z (λ_ _=>z) (λ_ _=>z) z (λ_=>z) z (λ_=>z) x) z
def oCopy (s:Nat) (x y:Od) (k:KT R):R:=
 (ev tm x).onOne z λx=>x.onSl z λid off len _ s'=>(ev tm y).onOne z λy=>cond (Nat.beq s' s) (srcK fz mu s y z λsrc cnt=>
  fN (Nat.min cnt len) λm=>takeK src (Nat.mul m s) z λsrc=>oPut z mu id off src λmu=>k (.one (.int .i64 (Int.ofNat m))) mu n) z
def oMax (x:Od) (xs:List Od) (k:KT R):R:=
 (ev tm x).onOne z λs=>maxK orc z (evs tm xs) s λr=>k (.one r) mu n
def oMin (x:Od) (xs:List Od) (k:KT R):R:=
 (ev tm x).onOne z λs=>minK orc z (evs tm xs) s λr=>k (.one r) mu n
def capVals (cs:List (Nat×Nat)):List AV:=cs.map λp=>.one (.optr p.1 p.2)
def argsK (l:List Od):List AV→(List AV→R)→R:=
 List.rec (motive:=λ_=>List AV→(List AV→R)→R) (λc k=>k c) (λh _ ih c k=>ih c λr=>k (ev tm h::r)) l
def bitK (n0 id m:Nat) (k:Nat→R):R:=cond (Nat.ble n0 id) (fN (Nat.lor m (Nat.shiftLeft 1 (Nat.sub id n0))) k) (k m)
def capsM (n0:Nat) (l:List (Nat×Nat)):Nat→(Nat→R)→R:=List.rec (motive:=λ_=>Nat→(Nat→R)→R) (λm k=>k m) (λp _ ih m k=>bitK n0 p.1 m λm=>ih m k) l
def idsM (n0:Nat) (l:List SV):Nat→(Nat→R)→R:=
 List.rec (motive:=λ_=>Nat→(Nat→R)→R) (λm k=>k m)
  (λv _ ih=>SV.rec (motive:=λ_=>Nat→(Nat→R)→R) ih (λ_ _=>ih) (λ_=>ih) (λ_ _=>ih) ih ih ih (λid _ m k=>bitK n0 id m λm=>ih m k) (λid _ _ _ _ m k=>bitK n0 id m λm=>ih m k) ih ih
   (λ_ cs m k=>capsM n0 cs m λm=>ih m k) (λ_ _=>ih) ih (λid m k=>bitK n0 id m λm=>ih m k) ih (λ_=>ih) v) l
def AV.idsM (n0:Nat) (v:AV) (k:Nat→R):R:=
 AV.rec (motive:=λ_=>R) (λs=>Ev.idsM n0 [s] 0 k) (λl=>Ev.idsM n0 l 0 k)
  (λl=>List.rec (motive:=λ_=>Nat→R) k (λc _ ih m=>CV.rec (motive:=λ_=>R) (λs=>Ev.idsM n0 [s] m ih) (λl=>Ev.idsM n0 l m ih) c) l 0) v
def bitIs (n0 m id:Nat):Bool:=Nat.beq (Nat.land (Nat.shiftRight m (Nat.sub id n0)) 1) 1
def elderM (n0:Nat) (s:St):Nat→(Nat→R)→R:=
 List.rec (motive:=λ_=>Nat→(Nat→R)→R) (λm k=>k m) (λp _ ih m k=>cond (Nat.ble n0 p.1) (ih m k) (idsM n0 p.2 m λm=>ih m k)) s
def passM (n0:Nat) (s:St):Nat→(Nat→R)→R:=
 List.rec (motive:=λ_=>Nat→(Nat→R)→R) (λm k=>k m) (λp _ ih m k=>cond (Nat.ble n0 p.1) (cond (bitIs n0 m p.1) (idsM n0 p.2 m λm=>ih m k) (ih m k)) (ih m k)) s
def fixM (n0:Nat) (s:St) (d:Nat):Nat→(Nat→R)→R:=
 Nat.rec (motive:=λ_=>Nat→(Nat→R)→R) (λm k=>k m) (λ_ ih m k=>passM n0 s m λm'=>cond (Nat.beq m m') (k m) (ih m' k)) d
def keepM (n0 m:Nat) (s:St):(St→R)→R:=
 List.rec (motive:=λ_=>(St→R)→R) (λk=>k [])
  (λp _ ih k=>cond (Nat.ble n0 p.1) (cond (bitIs n0 m p.1) (ih λr=>k (p::r)) (ih k)) (ih λr=>k (p::r))) s
def sweepK (n0:Nat) (v:AV) (s:St) (k:St→R):R:=v.idsM n0 λm=>elderM n0 s m λm=>fixM n0 s 1000 m λm=>keepM n0 m s k
def sweepG (sw:Bool) (n0:Nat) (v:AV) (s:St) (k:St→R):R:=cond sw (sweepK n0 v s k) (k s)
def oCall (ro:Bool) (f:Od) (args:List Od) (k:KT R):R:=
 (ev tm f).onOne z λs=>s.onFn z λg cs=>argsK tm args (capVals cs) λvs=>
  cond ro (call g vs (with' mu fz) [] n λv new n'=>sweepG orc.sw n v new λnew=>joinK new mu λmu=>k v mu n') (call g vs fz mu n k)
def numK (l:List SV):Nat→(Nat→R)→R:=
 List.rec (motive:=λ_=>Nat→(Nat→R)→R) (λa k=>k a)
  (λh _ ih a k=>h.onInt z λkd i=>cond (IntKind.eqb kd .u8) (Int.rec (motive:=λ_=>R) (λm=>cond (Nat.blt m 256) (fN (Nat.add (Nat.mul a 256) m) λa=>ih a k) z) (λ_=>z) i) z) l
def on1 (l:List AV) (k:AV→R):R:=List.rec (motive:=λ_=>R) z (λa t _=>List.rec (motive:=λ_=>R) (k a) (λ_ _ _=>z) t) l
def on2 (l:List AV) (k:AV→AV→R):R:=List.rec (motive:=λ_=>R) z (λa t _=>on1 z t λb=>k a b) l
def on3 (l:List AV) (k:AV→AV→AV→R):R:=List.rec (motive:=λ_=>R) z (λa t _=>on2 z t λb c=>k a b c) l
def digI (i:Int):Nat:=Int.rec (motive:=λ_=>Nat) (λm=>Nat.add (Nat.mul 2 m) 1) (λm=>Nat.add (Nat.mul 2 m) 2) i
def codeK:List SV→(Nat→Nat→R)→R:=
 List.rec (motive:=λ_=>(Nat→Nat→R)→R) (λk=>k 0 0)
  (λh _ ih k=>(λf:Int→R=>h.onInt (h.onSym z λkd i=>cond (IntKind.eqb kd .i64) (orc.force i f) z) λkd i=>cond (IntKind.eqb kd .i64) (f i) z)
   λi=>fI i λi=>ih λc l=>cond (Nat.blt (digI i) 18446744073709551617) (fN (Nat.add (Nat.mul c 18446744073709551617) (digI i)) λc=>k c (Nat.succ l)) z)
def keyK (ks:Nat) (v:AV) (k:SV→R):R:=
 AV.rec (motive:=λ_=>R)
  (λs=>SV.rec (motive:=λ_=>R) z (λkd i=>cond (Nat.beq ks 0) (k (.int kd i)) z) (λ_=>z) (λl b=>cond (Nat.beq ks 1) (k (.str l b)) z) z z z (λ_ _=>z) (λ_ _ _ _ _=>z) z z (λ_ _=>z) (λkd i=>cond (Nat.beq ks 0) (orc.force i λv=>fI v λv=>k (.int kd v)) z) z (λ_=>z) z (λ_=>z) s)
  (λcs=>codeK orc z cs λc l=>cond (Nat.beq ks (Nat.add 2 l)) (cond (Nat.blt l 64) (fN (Nat.add (Nat.mul c 64) l) λc=>k (.mk c)) z) z) (λ_=>z) v
def sameK (a b:SV) (k:Bool→R):R:=
 a.onInt (a.onStr (a.onMk z λm=>b.onMk z λm'=>cond (Nat.beq (Nat.mod m 64) (Nat.mod m' 64)) (fB (Nat.beq m m') k) z) λl n=>b.onStr z λl' n'=>fB (strEq l n l' n') k) λkd i=>b.onInt z λkd' j=>cond (IntKind.eqb kd kd') (fB (eqI i j) k) z
def entsK (v:Nat) (fuel:Nat):List SV→(List (SV×List SV)→R)→R:=
 Nat.rec (motive:=λ_=>List SV→(List (SV×List SV)→R)→R) (λ_ _=>z)
  (λ_ ih l k=>List.rec (motive:=λ_=>R) (k []) (λh t _=>takeK t v z λc=>subK t v (Nat.sub t.length v) z λr=>ih r λes=>k ((h,c)::es)) l) fuel
def flatE (es:List (SV×List SV)):List SV:=List.rec (motive:=λ_=>List SV) [] (λe _ ih=>e.1::(e.2++ih)) es
def flatK (es:List (SV×List SV)) (k:List SV→R):R:=copyK (flatE es) k
def findE (key:SV) (es:List (SV×List SV)):(Option (List SV)→R)→R:=
 List.rec (motive:=λ_=>(Option (List SV)→R)→R) (λk=>k none) (λe _ ih k=>sameK z key e.1 λb=>cond b (k (some e.2)) (ih k)) es
def putE (key:SV) (c:List SV) (es:List (SV×List SV)):(List (SV×List SV)→R)→R:=
 List.rec (motive:=λ_=>(List (SV×List SV)→R)→R) (λk=>k [(key,c)]) (λe t ih k=>sameK z key e.1 λb=>cond b (k ((key,c)::t)) (ih λr=>k (e::r))) es
def delE (key:SV) (es:List (SV×List SV)):(List (SV×List SV)→R)→R:=
 List.rec (motive:=λ_=>(List (SV×List SV)→R)→R) (λk=>k []) (λe t ih k=>sameK z key e.1 λb=>cond b (k t) (ih λr=>k (e::r))) es
def isAg (v:AV) (agg:Bool):Bool:=AV.rec (motive:=λ_=>Bool) (λ_=>not agg) (λ_=>agg) (λ_=>false) v
def mtag (agg:Bool) (v:Nat):Nat:=Nat.add (cond agg 5 4) (Nat.mul 2 v)
def isMap (z:R) (agg:Bool) (v:Nat) (cs:List SV) (k:List SV→R):R:=List.rec (motive:=λ_=>R) z (λh t _=>h.onMk z λm=>cond (Nat.beq m (mtag agg v)) (k t) z) cs
def readM (agg:Bool) (v:Nat) (m:SV) (k:List (SV×List SV)→R):R:=
 SV.rec (motive:=λ_=>R) z (λ_ _=>z) (λ_=>z) (λ_ _=>z) z z z (λ_ _=>z) (λ_ _ _ _ _=>z) z z (λ_ _=>z) (λ_ _=>z)
  (k []) (λid=>lookAny fz mu id z λcs=>isMap z agg v cs λt=>entsK z v 100000 t k) z (λ_=>z) m
def ownM (agg:Bool) (v:Nat) (m:SV) (k:Nat→List (SV×List SV)→R):R:=
 m.onMp z λid=>Option.rec (motive:=λ_=>R) z (λcs=>isMap z agg v cs λt=>entsK z v 100000 t λes=>k id es) (look mu id)
def setM (agg:Bool) (v:Nat) (id:Nat) (es:List (SV×List SV)) (k:St→R):R:=flatK es λl=>fN (mtag agg v) λm=>putK mu id (.mk m::l) k
def mgetK (agg ok:Bool) (c:List SV) (is:Bool) (k:AV→R):R:=
 asRes agg c z λc=>cond ok (AV.rec (motive:=λ_=>R) (λs=>k (.tp [.one s,.one (.bool is)])) (λl=>k (.tp [.ag l,.one (.bool is)])) (λ_=>z) c) (k c)
def xop (e:XOp) (vs:List AV) (k:KT R):R:=
 XOp.rec (motive:=λ_=>R)
  (on1 z vs λx=>x.onOne z λx=>cond x.isStr z (srcK fz mu 1 x z λcs m=>numK z cs 0 λb=>k (.one (.str m b)) mu n))
  (on1 z vs λx=>x.onOne z λx=>x.onStr z λl b=>cond (Nat.ble l 140737488355328) (digK l b [] λcs=>fN (Nat.succ n) λn'=>k (.one (.osl n 0 l l 1)) ((n,cs)::mu) n') z)
  (λagg v=>List.rec (motive:=λ_=>R) (fN (Nat.succ n) λn'=>fN (mtag agg v) λm=>k (.one (.mp n)) ((n,[.mk m])::mu) n') (λ_ _ _=>z) vs)
  (λks ok agg v zero=>on2 z vs λm key=>m.onOne z λm=>keyK orc z ks key λkey=>readM z fz mu agg v m λes=>findE z key es λr=>
   Option.rec (motive:=λ_=>R) (mgetK z agg ok zero false λx=>k x mu n) (λc=>mgetK z agg ok c true λx=>k x mu n) r)
  (λks agg v=>on3 z vs λm key x=>m.onOne z λm=>keyK orc z ks key λkey=>x.onCells z λc=>lenK c 0 λl=>cond (Nat.beq l v) (cond (knownAll c) (cond (isAg x agg) (ownM z mu agg v m λid es=>putE z key c es λes=>setM mu agg v id es λmu=>k noVal mu n) z) z) z)
  (λks agg v=>on2 z vs λm key=>m.onOne z λm=>keyK orc z ks key λkey=>ownM z mu agg v m λid es=>delE z key es λes=>setM mu agg v id es λmu=>k noVal mu n)
  (λagg v=>on1 z vs λm=>m.onOne z λm=>ownM z mu agg v m λid _=>setM mu agg v id [] λmu=>k noVal mu n)
  (λagg v=>on1 z vs λm=>m.onOne z λm=>readM z fz mu agg v m λes=>fN es.length λl=>k (.one (.int .i64 (Int.ofNat l))) mu n)
  (λs zero=>on1 z vs λx=>x.onOne z λx=>SV.rec (motive:=λ_=>R) z (λ_ _=>z) (λ_=>z) (λ_ _=>z) (k noVal mu n) z z (λ_ _=>z)
   (λid off len _ s'=>cond (Nat.beq s' s) (copyK (rep zero len) λcs=>oPut z mu id off cs λmu=>k noVal mu n) z) (k noVal mu n) (k noVal mu n) (λ_ _=>z) (λ_ _=>z) z (λ_=>z) z (λ_=>z) x)
  (λs len=>on1 z vs λx=>x.onOne z λx=>x.onPtr z λid off=>lookAll fz mu id z λcs=>cond (Nat.ble (Nat.add off (Nat.mul len s)) cs.length) (k (.one (.osl id off len len s)) mu n) z) e
def aop (ro:Bool) (op:AOp) (k:KT R):R:=
 AOp.rec (motive:=λ_=>R)
  (λx=>k (ev tm x) mu n)
  (λc a b=>oPick z tm mu n c a b k)
  (λzero=>oNew mu n zero k)
  (λx=>oBox z tm mu n x k)
  (λzero ps=>oBuild z tm mu n zero ps k)
  (λs len zero ps=>oBslice z tm mu n s len zero ps k)
  (λagg m x=>oLoad z fz tm mu n agg m x k)
  (λm x v=>oStore z tm mu n m x v k)
  (λx=>oNilc z tm mu n x k)
  (λop x y=>oBin orc z tm mu n op x y k)
  (λl x y=>forceK orc tm x λtm=>forceK orc tm y λtm=>oShift z tm mu n l x y k)
  (λop x y=>oSbin z tm mu n op x y k)
  (λneg x y=>oEqb z tm mu n neg x y k)
  (λsl neg x y=>oEqn z tm mu n sl neg x y k)
  (λks neg x y=>oEqs z tm mu n ks neg x y k)
  (λx=>oNot z tm mu n x k)
  (λx=>forceK orc tm x λtm=>oNeg z tm mu n x k)
  (λkd x=>oConv orc z tm mu n kd x k)
  (λf cs=>oMkfn z tm mu n f cs k)
  (λs b zero l c=>forceK orc tm l λtm=>forceK orc tm c λtm=>oMkslice z tm mu n s b zero l c k)
  (λstr s x lo hi mx=>forceO orc tm lo λtm=>forceO orc tm hi λtm=>forceO orc tm mx λtm=>oSlc z tm mu n str s x lo hi mx k)
  (λoff x=>oFaddr z tm mu n off x k)
  (λoff agg m x=>oFld z tm mu n off agg m x k)
  (λs x i=>forceK orc tm i λtm=>oIaddr z tm mu n s x i k)
  (λs len x i=>forceK orc tm i λtm=>oIaddrA z tm mu n s len x i k)
  (λx i=>forceK orc tm i λtm=>oIdx z tm mu n x i k)
  (λx i=>oExtr z tm mu n x i k)
  (λstr x=>oLen z tm mu n str x k)
  (λx=>oCap z tm mu n x k)
  (λs b x y=>oAppend z fz tm mu n s b x y k)
  (λs x y=>oCopy z fz tm mu n s x y k)
  (λx xs=>oMax orc z tm mu n x xs k)
  (λx xs=>oMin orc z tm mu n x xs k)
  (λf args=>oCall orc z call fz tm mu n ro f args k)
  (λe xs=>xop orc z fz mu n e (xs.map (ev tm)) k) op
end
section
variable {R:Type} (orc:Orc R) (z:R) (call:CallT R) (fz:Fz)
def setDst (tm:TM) (dst:Option (Nat×Nat)) (v:AV) (k:TM→R):R:=
 Option.rec (motive:=λ_=>R) (k tm) (λp=>setTm tm p.1 p.2 v k) dst
def onWanted (g:Option (Nat×Nat×Bool)) (tm:TM) (yes no:R):R:=
 Option.rec (motive:=λ_=>R) yes (λp=>AV.rec (motive:=λ_=>R) (λs=>s.onBool z λb=>cond (b==p.2.2) yes no) (λ_=>z)
  (λl=>List.rec (motive:=λ_=>R) no (λ_ _ _=>z) l) (get tm p.1 p.2.1)) g
def stepK (o:AOper) (tm:TM) (mu:St) (n:Nat) (k:TM→St→Nat→R):R:=
 onWanted z o.g tm (aop orc z call fz tm mu n (Nat.beq o.mode 1) o.op λv mu n=>setDst tm o.dst v λtm=>k tm mu n) (setDst tm o.dst noVal λtm=>k tm mu n)
def adsOf (ad:List St) (l:List Nat):St:=List.rec (motive:=λ_=>St) [] (λi _ ih=>nth [] ad i++ih) l
def clearK (l:List Nat):List St→(List St→R)→R:=
 List.rec (motive:=λ_=>List St→(List St→R)→R) (λad k=>k ad) (λi _ ih ad k=>setK ad i [] λad=>ih ad k) l
def rstep (i:Nat) (o:AOper) (tm:TM) (mu:St) (ad:List St) (n:Nat) (k:TM→St→List St→Nat→R):R:=
 onWanted z o.g tm
  (cond (Nat.beq o.mode 0) (aop orc z call (λ_=>none) tm [] n false o.op λv new n=>List.rec (motive:=λ_=>R) (setDst tm o.dst v λtm=>k tm mu ad n) (λ_ _ _=>z) new)
  (cond (Nat.beq o.mode 1) (aop orc z call (with' (adsOf ad o.anc) (with' mu fz)) tm [] n true o.op λv new n=>setDst tm o.dst v λtm=>setK ad i new λad=>k tm mu ad n)
  (cond (Nat.beq o.mode 2) (joinK (adsOf ad o.anc) mu λmu=>clearK o.anc ad λad=>aop orc z call fz tm mu n false o.op λv mu n=>setDst tm o.dst v λtm=>k tm mu ad n)
  (cond (Nat.beq o.mode 3) (aop orc z call (λ_=>none) tm [] n false o.op λv new n=>setDst tm o.dst v λtm=>setK ad i new λad=>k tm mu ad n)
   (joinK (nth [] ad i) (adsOf ad o.anc) λown=>aop orc z call fz tm own n false o.op λv new n=>setDst tm o.dst v λtm=>clearK o.anc ad λad=>setK ad i new λad=>k tm mu ad n)))))
  (setDst tm o.dst noVal λtm=>k tm mu ad n)
def rrun (ops:List AOper):Nat→TM→St→List St→Nat→(TM→St→List St→Nat→R)→R:=
 List.rec (motive:=λ_=>Nat→TM→St→List St→Nat→(TM→St→List St→Nat→R)→R) (λ_ tm mu ad n k=>k tm mu ad n)
  (λo _ ih i tm mu ad n k=>rstep orc z call fz i o tm mu ad n λtm mu ad n=>ih (Nat.succ i) tm mu ad n k) ops
def AOp.storeX (op:AOp):Option Od:=AOp.rec (motive:=λ_=>Option Od)
 (λ_=>none) (λ_ _ _=>none) (λ_=>none) (λ_=>none) (λ_ _=>none) (λ_ _ _ _=>none) (λ_ _ _=>none) (λ_ x _=>some x) (λ_=>none) (λ_ _ _=>none)
 (λ_ _ _=>none) (λ_ _ _=>none) (λ_ _ _=>none) (λ_ _ _ _=>none) (λ_ _ _ _=>none) (λ_=>none) (λ_=>none) (λ_ _=>none) (λ_ _=>none)
 (λ_ _ _ _ _=>none) (λ_ _ _ _ _ _=>none) (λ_ _=>none) (λ_ _ _ _=>none) (λ_ _ _=>none) (λ_ _ _ _=>none) (λ_ _=>none)
 (λ_ _=>none) (λ_ _=>none) (λ_=>none) (λ_ _ x _=>some x) (λ_ _ _=>none) (λ_ _=>none) (λ_ _=>none) (λ_ args=>List.rec (motive:=λ_=>Option Od) none (λx _ _=>some x) args) (λ_ _=>none) op
def SV.onBlk (v:SV) (z:R) (k:Nat→R):R:=
 SV.rec (motive:=λ_=>R) z (λ_ _=>z) (λ_=>z) (λ_ _=>z) z z z (λid _=>k id) (λid _ _ _ _=>k id) z z (λ_ _=>z) (λ_ _=>z) z (λ_=>z) z (λ_=>z) v
def moveK (i id:Nat) (mu:St) (ad:List St) (J:St→List St→R):R:=
 Option.rec (motive:=λ_=>R) (J mu ad) (λcs=>killK mu id λmu=>setK ad i ((id,cs)::nth [] ad i) λad=>J mu ad) (look mu id)
def bufK (cs:List SV) (no:R) (k:Nat→R):R:=
 List.rec (motive:=λ_=>R) no (λh _ _=>h.onMk no λm=>cond (Nat.beq m 3) ((nth .un cs 3).onBlk no k) no) cs
def setApart (v:AV) (i:Nat) (mu:St) (ad:List St) (J:St→List St→R):R:=
 v.onOne (J mu ad) λs=>s.onBlk (J mu ad) λid=>Option.rec (motive:=λ_=>R) (J mu ad) (λcs=>moveK i id mu ad λmu ad=>bufK cs (J mu ad) λg=>moveK i g mu ad J) (look mu id)
def apart (ops:List AOper):Nat→TM→St→List St→(St→List St→R)→R:=
 List.rec (motive:=λ_=>Nat→TM→St→List St→(St→List St→R)→R) (λ_ _ mu ad k=>k mu ad)
  (λo _ ih i tm mu ad k=>cond (Nat.beq o.mode 4)
   (Option.rec (motive:=λ_=>R) (ih (Nat.succ i) tm mu ad k) (λx=>setApart (ev tm x) i mu ad λmu ad=>ih (Nat.succ i) tm mu ad k) o.op.storeX)
   (ih (Nat.succ i) tm mu ad k)) ops
def joinAll (l:List St):St→(St→R)→R:=
 List.rec (motive:=λ_=>St→(St→R)→R) (λmu k=>k mu) (λs _ ih mu k=>joinK s mu λmu=>ih mu k) l
def looseC (o:AOper):Option (Nat×Nat):=if Nat.beq o.mode 4 then match o.op with
 |.store _ (.t q r) _=>some (q,r)
 |.append _ _ (.t q r) _=>some (q,r)
 |.call _ (.t q r::_)=>some (q,r)
 |_=>none else none
def preX:AOp→Option (List Od)
 |.mv x=>some [x]
 |.load _ _ x=>some [x]
 |.faddr _ x=>some [x]
 |.nilc x=>some [x]
 |.fld _ _ _ x=>some [x]
 |.extr x _=>some [x]
 |.iaddr _ x i=>some [x,i]
 |_=>none
def odKey:Od→List (Nat×Nat)
 |.t q r=>[(q,r)]
 |.c _=>[]
def preBack:List AOper→List (Nat×Nat)→Option (List AOper)
 |[],_=>some []
 |o::l,need=>match o.dst with
  |none=>preBack l need
  |some d=>if need.contains d then(match preX o.op,o.g with
   |some xs,none=>(preBack l (xs.flatMap odKey++need)).map (o::·)
   |_,_=>none)else preBack l need
def preOf (ops:List AOper):List AOper:=
 ops.zipIdx.flatMap λp=>match looseC p.1 with
  |some d=>((preBack (ops.take p.2).reverse [d]).getD []).reverse
  |none=>[]
def markOf (ops:List AOper):List AOper:=
 ops.zipIdx.map λp=>match looseC p.1 with
  |some d=>match preBack (ops.take p.2).reverse [d]with
   |some _=>p.1
   |none=>{p.1 with mode:=0}
  |none=>p.1
def preK (ops:List AOper):TM→St→Nat→(TM→R)→R:=
 List.rec (motive:=λ_=>TM→St→Nat→(TM→R)→R) (λtm _ _ k=>k tm) (λo _ ih tm mu n k=>stepK orc z call fz o tm mu n λtm _ _=>ih tm mu n k) ops
def drawK (ops:List AOper) (tm:TM) (mu:St) (n:Nat) (k:TM→St→Nat→R):R:=
 preK orc z call fz (preOf ops) tm mu n λtm'=>apart (markOf ops) 0 tm' mu (ops.map λ_=>[]) λmu ad=>rrun orc z call fz ops 0 tm mu ad n λtm mu ad n=>joinAll ad mu λmu=>k tm mu n
inductive AExit where
 |normal
 |exit (id:Nat)
 |ret
def toCV (v:AV) (k:CV→R):R:=AV.rec (motive:=λ_=>R) (λs=>k (.one s)) (λl=>k (.ag l)) (λ_=>z) v
def resVal (r:ARes) (tm:TM) (mu:St) (k:AV→R):R:=
 ARes.rec (motive:=λ_=>R) (λq r=>k (get tm q r))
  (λq r agg m=>(get tm q r).onOne z λs=>s.onPtr z λid off=>lookAll fz mu id z λcs=>subK cs off m z λc=>asRes agg c z k) r
def resAll (l:List ARes):TM→St→(List CV→R)→R:=
 List.rec (motive:=λ_=>TM→St→(List CV→R)→R) (λ_ _ k=>k [])
  (λr _ ih tm mu k=>resVal z fz r tm mu λv=>toCV z v λc=>ih tm mu λcs=>k (c::cs)) l
def resK (l:List ARes) (tm:TM) (mu:St) (k:AV→R):R:=
 List.rec (motive:=λ_=>R) (k (.tp [])) (λr t _=>List.rec (motive:=λ_=>R) (resVal z fz r tm mu k) (λ_ _ _=>resAll z fz l tm mu λcs=>k (.tp cs)) t) l
end
end Go.Ev
namespace Go.Ev
def szOf (P:Program) (t:TypeId):Option Nat:=(P.info? t).map (·.size)
def byOf (P:Program) (t:TypeId):Option Nat:=(P.info? t).map (·.bytes)
def aggOf (P:Program) (t:TypeId):Option Bool:=
 match P.underlying t with
 |some (.struct _)=>some true
 |some (.array _ _)=>some true
 |some _=>some false
 |none=>none
def nOf (l:List UInt8):Nat:=l.foldl (λa b=>a*256+b.toNat) 0
def toSV:Value→Option SV
 |.int k n=>some (.int k n)
 |.bool b=>some (.bool b)
 |.string s=>some (.str s.data.toList.length (nOf s.data.toList))
 |.slice none 0 0=>some .nsl
 |.pointer none=>some .npt
 |.nilFunc=>some .nfn
 |.map none=>some .nmp
 |.nilIface=>some .nif
 |_=>none
def toSVs:List Value→Option (List SV)
 |[]=>some []
 |v::r=>match toSV v,toSVs r with
  |some a,some b=>some (a::b)
  |_,_=>none
def toAV:Value→Option AV
 |.agg cs=>(toSVs cs.toList).map .ag
 |v=>(toSV v).map .one
def zeroOf (P:Program) (t:TypeId):Option (List SV):=
 match P.info? t with
 |some i=>match i.zero with
  |some v=>match toSVs v.cells.toList with
   |some l=>if l.length==i.size then some l else none
   |none=>none
  |none=>none
 |none=>none
def zeroIs (P:Program) (t:TypeId) (agg:Bool):Bool:=
 match P.info? t with
 |some i=>match i.zero with
  |some (.agg _)=>agg
  |some _=>not agg
  |none=>false
 |none=>false
def hasBody (P:Program) (f:Nat):Bool:=
 match P.funcs[f]? with
 |some fn=>fn.body.isSome&&!(fn.name== "runtime.NumGoroutine")
 |none=>false
def od (P:Program):Operand→Option Od
 |.tmp t=>some (.t (t/16) (t%16))
 |.const v=>(toAV v).map .c
 |.func f=>if hasBody P f then some (.c (.one (.fn f [])))else none
 |.global _=>none
def ods (P:Program):List Operand→Option (List Od)
 |[]=>some []
 |x::r=>match od P x,ods P r with
  |some a,some b=>some (a::b)
  |_,_=>none
def odO (P:Program):Option Operand→Option (Option Od)
 |none=>some none
 |some x=>(od P x).map some
def partsOf (P:Program) (fs:Array Field):List (Nat×Operand)→Option (List (Nat×Nat×Od))
 |[]=>some []
 |(i,x)::r=>match fs[i]? with
  |some f=>match szOf P f.type,od P x,partsOf P fs r with
   |some n,some y,some l=>some ((f.offset,n,y)::l)
   |_,_,_=>none
  |none=>none
def elemsOf (P:Program) (s:Nat):List (Nat×Operand)→Option (List (Nat×Nat×Od))
 |[]=>some []
 |(i,x)::r=>match od P x,elemsOf P s r with
  |some y,some l=>some ((i*s,s,y)::l)
  |_,_=>none
def keyFields (P:Program):Nat→List Field→Option Nat
 |i,[]=>some i
 |i,f::r=>match P.underlying f.type with
  |some (.int .i64)=>if f.name != "_" &&f.offset==i then keyFields P (i+1) r else none
  |_=>none
def keyTy (P:Program) (t:TypeId):Option Nat:=
 match P.underlying t with
 |some (.int _)=>some 0
 |some .string=>some 1
 |some (.struct fs)=>if P.stoodInHeld t then none else(keyFields P 0 fs.toList).map (2+·)
 |_=>none
def prepBuiltin (P:Program) (b:Builtin) (ts:List TypeId) (args:List Od):Option AOp:=
 match b,ts,args with
 |.len,[t],[x]=>match P.underlying t with
  |some (.slice _)=>some (.len false x)
  |some .string=>some (.len true x)
  |some (.map _ e)=>match aggOf P e,szOf P e with
   |some a,some n=>some (.ext (.mlen a n) [x])
   |_,_=>none
  |_=>none
 |.clear,[t],[x]=>match P.underlying t with
  |some (.slice e)=>match szOf P e,zeroOf P e with
   |some s,some z=>if s !=0 then some (.ext (.clr s z) [x])else none
   |_,_=>none
  |some (.map _ e)=>match aggOf P e,szOf P e with
   |some a,some n=>some (.ext (.mclr a n) [x])
   |_,_=>none
  |_=>none
 |.delete,[t,_],[x,y]=>match P.underlying t with
  |some (.map k e)=>match keyTy P k,aggOf P e,szOf P e with
   |some ks,some a,some n=>some (.ext (.mdel ks a n) [x,y])
   |_,_,_=>none
  |_=>none
 |.cap,[t],[x]=>match P.underlying t with
  |some (.slice _)=>some (.cap x)
  |_=>none
 |.append,[t,u],[x,y]=>match P.underlying t,P.underlying u with
  |some (.slice e),some (.slice _)=>match szOf P e,byOf P e,zeroOf P e with
   |some s,some b,some _=>if s !=0 then some (.append s b x y)else none
   |_,_,_=>none
  |some (.slice e),some .string=>match szOf P e,byOf P e,zeroOf P e with
   |some s,some b,some _=>if s !=0 then some (.append s b x y)else none
   |_,_,_=>none
  |_,_=>none
 |.copy,[t,_],[x,y]=>match P.underlying t with
  |some (.slice e)=>match szOf P e with
   |some s=>if s !=0 then some (.copy s x y)else none
   |none=>none
  |_=>none
 |.max,t::_,x::xs=>match P.underlying t with
  |some (.int _)=>some (.max x xs)
  |_=>none
 |.min,t::_,x::xs=>match P.underlying t with
  |some (.int _)=>some (.min x xs)
  |_=>none
 |_,_,_=>none
def isNil:Od→Bool
 |.c (.one .nsl)=>true
 |.c (.one .npt)=>true
 |_=>false
def eqKs (P:Program):Nat→List Field→Option (List Nat)
 |_,[]=>some []
 |i,f::fs=>if f.name != "_" &&f.offset==i then match P.underlying f.type,eqKs P (i+1) fs with
  |some (.int _),some ks=>some (0::ks)
  |some .bool,some ks=>some (1::ks)
  |some .string,some ks=>some (2::ks)
  |_,_=>none
  else none
def prepBin (P:Program) (op:BinOp) (t u:TypeId) (x y:Od):Option AOp:=
 match P.underlying t with
 |some (.int _)=>match op,P.underlying u with
  |.shl,some (.int _)=>some (.shift true x y)
  |.shr,some (.int _)=>some (.shift false x y)
  |.shl,_=>none
  |.shr,_=>none
  |op,_=>some (.bin op x y)
 |some .string=>some (.sbin op x y)
 |some .bool=>match op with
  |.eql=>some (.eqb false x y)
  |.neq=>some (.eqb true x y)
  |_=>none
 |some (.slice _)=>if !(isNil x||isNil y)then none else match op with
  |.eql=>some (.eqn true false x y)
  |.neq=>some (.eqn true true x y)
  |_=>none
 |some (.pointer _)=>if !(isNil x||isNil y)then none else match op with
  |.eql=>some (.eqn false false x y)
  |.neq=>some (.eqn false true x y)
  |_=>none
 |some (.struct fs)=>if P.stoodInHeld t||P.eqGuardType P.depth t then none else match eqKs P 0 fs.toList,op with
  |some ks,.eql=>some (.eqs ks false x y)
  |some ks,.neq=>some (.eqs ks true x y)
  |_,_=>none
 |_=>none
def isBld (P:Program) (t:TypeId):Bool:=
 match P.underlying t with
 |some (.struct fs)=>match fs.toList with
  |[f,g]=>(match P.underlying f.type with|some (.pointer e)=>e==t|_=>false)&&(match P.underlying g.type with|some (.slice _)=>true|_=>false)
  |_=>false
 |_=>false
def bldZ (P:Program) (t:TypeId) (z:List SV):List SV:=
 match z with
 |[.npt,.nsl]=>cond (isBld P t) [.mk 3,.mk t,.npt,.nsl] z
 |_=>z
def prepOp (P:Program):Op→Option AOp
 |.move x=>(od P x).map .mv
 |.assign x=>(od P x).map .mv
 |.pick c a b=>match od P c,od P a,od P b with
  |some c,some a,some b=>some (.pick c a b)
  |_,_,_=>none
 |.alloc t=>(zeroOf P t).map λz=>.alloc (bldZ P t z)
 |.box _ x=>(od P x).map .box
 |.build t parts=>match P.underlying t,zeroOf P t with
  |some (.struct fs),some z=>if fs.toList.all λf=>(szOf P f.type).isSome then(partsOf P fs parts.toList).map (.build z ·)else none
  |_,_=>none
 |.buildSlice t len parts=>match P.underlying t with
  |some (.slice e)=>match szOf P e,zeroOf P e with
   |some s,some z=>if s !=0&&Nat.ble (len*s) 65536 then(elemsOf P s parts.toList).map (.bslice s len z ·)else none
   |_,_=>none
  |_=>none
 |.load t x=>match aggOf P t,szOf P t,od P x with
  |some a,some n,some x=>if a||n==1 then some (.load a n x)else none
  |_,_,_=>none
 |.store t x v=>match szOf P t,od P x,od P v with
  |some n,some x,some v=>some (.store n x v)
  |_,_,_=>none
 |.nilCheck x=>(od P x).map .nilc
 |.binOp op t x y u=>match od P x,od P y with
  |some x,some y=>prepBin P op t u x y
  |_,_=>none
 |.unOp op _ x=>match op,od P x with
  |.not,some x=>some (.not x)
  |.neg,some x=>some (.neg x)
  |_,_=>none
 |.convert t u x=>match P.underlying t,P.underlying u,od P x with
  |some (.int _),some (.int k),some x=>some (.conv k x)
  |some (.slice e),some .string,some x=>match P.underlying e with
   |some (.int .u8)=>some (.ext .b2s [x])
   |_=>none
  |some .string,some (.slice e),some x=>match P.underlying e with
   |some (.int .u8)=>cond s2bOk (some (.ext .s2b [x])) none
   |_=>none
  |_,_,_=>none
 |.makeMap t none=>match P.underlying t with
  |some (.map _ e)=>match aggOf P e,szOf P e with
   |some a,some n=>some (.ext (.mkmap a n) [])
   |_,_=>none
  |_=>none
 |.lookup t x i ok=>match P.underlying t,od P x,od P i with
  |some (.map k e),some x,some i=>match keyTy P k,aggOf P e,szOf P e,zeroOf P e with
   |some ks,some a,some n,some z=>if(a||n==1)&&zeroIs P e a then some (.ext (.mget ks ok a n z) [x,i])else none
   |_,_,_,_=>none
  |_,_,_=>none
 |.mapUpdate t m k v=>match P.underlying t,od P m,od P k,od P v with
  |some (.map kt e),some m,some k,some v=>match keyTy P kt,aggOf P e,szOf P e with
   |some ks,some a,some n=>some (.ext (.mput ks a n) [m,k,v])
   |_,_,_=>none
  |_,_,_,_=>none
 |.insert t m k v=>match P.underlying t,od P m,od P k,od P v with
  |some (.map kt e),some m,some k,some v=>match keyTy P kt,aggOf P e,szOf P e with
   |some ks,some a,some n=>some (.ext (.mput ks a n) [m,k,v])
   |_,_,_=>none
  |_,_,_,_=>none
 |.makeFunc (.func f) first caps=>if first.isEmpty&&hasBody P f then(ods P caps.toList).map (.mkfn f)else none
 |.makeSlice t l c=>match P.underlying t,od P l,od P c with
  |some (.slice e),some l,some c=>match szOf P e,byOf P e,zeroOf P e with
   |some s,some b,some z=>if s !=0 then some (.mkslice s b z l c)else none
   |_,_,_=>none
  |_,_,_=>none
 |.slice t x lo hi mx=>match P.underlying t,od P x,odO P lo,odO P hi,odO P mx with
  |some (.slice e),some x,some lo,some hi,some mx=>match szOf P e with
   |some s=>if mx.isSome&&hi.isNone then none else some (.slc false s x lo hi mx)
   |none=>none
  |some .string,some x,some lo,some hi,some mx=>if mx.isSome then none else some (.slc true 0 x lo hi mx)
  |some (.array len e),some x,some none,some none,some none=>match szOf P e with
   |some s=>if s !=0&&Nat.ble len 1000000 then some (.ext (.slcA s len) [x])else none
   |none=>none
  |_,_,_,_,_=>none
 |.fieldAddr t x i=>match P.underlying t,od P x with
  |some (.struct fs),some x=>match fs[i]? with
   |some f=>match szOf P f.type with
    |some n=>if n==0 then none else some (.faddr f.offset x)
    |none=>none
   |none=>none
  |_,_=>none
 |.field t x i=>match P.underlying t,od P x with
  |some (.struct fs),some x=>match fs[i]? with
   |some f=>match aggOf P f.type,szOf P f.type with
    |some a,some n=>if a||n==1 then some (.fld f.offset a n x)else none
    |_,_=>none
   |none=>none
  |_,_=>none
 |.indexAddr t x i=>match P.underlying t,od P x,od P i with
  |some (.slice e),some x,some i=>(szOf P e).map (.iaddr · x i)
  |some (.array len e),some x,some i=>(szOf P e).map (.iaddrA · len x i)
  |_,_,_=>none
 |.index t x i=>match P.underlying t,od P x,od P i with
  |some .string,some x,some i=>some (.idx x i)
  |_,_,_=>none
 |.extract x i=>(od P x).map (.extr · i)
 |.call c=>match c.callee,ods P c.args.toList with
  |.value f,some args=>(od P f).map (.call · args)
  |.builtin b,some args=>prepBuiltin P b c.argTypes.toList args
  |_,_=>none
 |_=>none
def ancOf (acc:List (List Nat)) (es:List Edge):List Nat:=
 (es.flatMap λe=>if Region.binds .any e then e.on::acc.getD e.on []else[]).eraseDups
def ancs:List Oper→List (List Nat)→List (List Nat)
 |[],acc=>acc
 |o::r,acc=>ancs r (acc++[ancOf acc o.after.toList])
structure Muts where
 mt:Nat→Bool
 dy:Bool
def modeOf (m:Muts):AOp→Nat
 |.alloc _=>3
 |.box _=>3
 |.bslice ..=>3
 |.mkslice ..=>3
 |.load ..=>1
 |.store ..=>2
 |.append ..=>2
 |.copy ..=>2
 |.call (.c (.one (.fn f _))) _=>if m.mt f then 2 else 1
 |.call _ _=>if m.dy then 2 else 1
 |.ext .b2s _=>1
 |.ext .s2b _=>3
 |.ext (.mkmap ..) _=>3
 |.ext (.mget ..) _=>1
 |.ext (.mput ..) _=>2
 |.ext (.mdel ..) _=>2
 |.ext (.mclr ..) _=>2
 |.ext (.mlen ..) _=>1
 |.ext (.clr ..) _=>2
 |.ext (.slcA ..) _=>1
 |_=>0
def slot (t:Nat):Nat×Nat:=(t/16,t%16)
def guardOf (ops:Array Oper):Option (Nat×Bool)→Option (Option (Nat×Nat×Bool))
 |none=>some none
 |some (j,want)=>match(ops[j]?).bind (·.dst)with
  |some t=>some (some (t/16,t%16,want))
  |none=>none
def prepOpers (P:Program) (m:Muts) (ops:Array Oper):List Oper→Option (List AOper)
 |[]=>some []
 |o::r=>match prepOp P o.op,guardOf ops o.guard,prepOpers P m ops r with
  |some op,some g,some l=>some (⟨o.dst.map slot,op,g,modeOf m op,[]⟩::l)
  |_,_,_=>none
def withAnc:List AOper→List (List Nat)→List AOper
 |o::r,a::s=>{o with anc:=a}::withAnc r s
 |_,_=>[]
def raise (ops:List (AOper×Nat)) (i:Nat) (o:AOper):AOper:=
 match o.op with
 |.store ..=>if ops.all λ(p,j)=>i==j||p.mode==0||p.mode==3||o.anc.contains j||p.anc.contains i then o else{o with mode:=4}
 |.append ..=>if ops.all λ(p,j)=>i==j||p.mode==0||p.mode==3||o.anc.contains j||p.anc.contains i then o else{o with mode:=4}
 |.call _ (_::_)=>if o.mode !=2||ops.all λ(p,j)=>i==j||p.mode==0||p.mode==3||o.anc.contains j||p.anc.contains i then o else{o with mode:=4}
 |_=>o
def modes (l:List AOper) (as:List (List Nat)):List AOper:=(withAnc l as).zipIdx.map λ(o,i)=>raise (withAnc l as).zipIdx i o
def looksC (o:Oper) (g:Option (Nat×Nat×Bool)):List (Nat×Nat):=
 (o.op.operands.toList.filterMap λx=>match x with|.tmp t=>some (slot t)|_=>none)++(match g with|some (q,r,_)=>[(q,r)]|none=>[])
def ordered (i:Nat) (o:AOper) (j:Nat) (p:AOper):Bool:=(Nat.blt j i&&o.anc.contains j)||(Nat.blt i j&&p.anc.contains i)
def ancMem (al:List AOper) (o:AOper):List Nat:=o.anc.filter λk=>match al[k]? with|some p=>!(p.mode==0||p.mode==2)|none=>false
def aff (al:List AOper) (i:Nat) (o:AOper):List Nat:=
 match o.mode with
 |0=>[]
 |1=>[i+1]
 |2=>0::(ancMem al o).map (· +1)
 |3=>[i+1]
 |_=>(i+1)::(ancMem al o).map (· +1)
def rds (al:List AOper) (i:Nat) (o:AOper):List Nat:=
 match o.mode with
 |1=>0::(ancMem al o).map (· +1)
 |_=>aff al i o
def pairOk (al:List AOper) (i:Nat) (oc:Oper) (o:AOper) (j:Nat) (p:AOper):Bool:=
 i==j||ordered i o j p||
  ((match o.dst,p.dst with|some a,some b=>a !=b|_,_=>true)&&
   (match p.dst with|some t=>!(looksC oc o.g).contains t|none=>true)&&
   !((aff al j p).any λc=>(rds al i o).contains c||(aff al i o).contains c))
def oneOk (al:List AOper) (i:Nat) (oc:Oper) (o:AOper):Bool:=
 Nat.ble o.mode 4&&
 (oc.after.toList.all λe=>!Region.binds .any e||Nat.blt e.on i)&&
 (o.anc.all λj=>oc.after.toList.any λe=>Region.binds .any e&&(e.on==j||(match al[e.on]? with|some p=>p.anc.contains j|none=>false)))&&
 (o.mode !=4||(match o.op with|.store ..=>true|.append ..=>true|.call _ (_::_)=>true|_=>false))
def regOk (ops:List Oper) (al:List AOper):Bool:=
 (ops.zip al).zipIdx.all λ(oo,i)=>oneOk al i oo.1 oo.2&&al.zipIdx.all λ(p,j)=>pairOk al i oo.1 oo.2 j p
def prepCode (P:Program) (m:Muts):Code→Option ACode
 |.skip=>some .skip
 |.region _ ops false=>match prepOpers P m ops ops.toList with
  |some l=>some (.reg l)
  |none=>some .bad
 |.region _ ops true=>match prepOpers P m ops ops.toList with
  |some l=>if regOk ops.toList (modes l (ancs ops.toList []))then some (.draw (modes l (ancs ops.toList [])))else some .bad
  |none=>some .bad
 |.seq a b=>match prepCode P m a,prepCode P m b with
  |some x,some y=>some (.seq x y)
  |_,_=>none
 |.cond c a b=>match od P c,prepCode P m a,prepCode P m b with
  |some c,some x,some y=>some (.cond c x y)
  |_,_,_=>none
 |.block id a=>(prepCode P m a).map (.blk id)
 |.loop a=>(prepCode P m a).map .loop
 |.exit id=>some (.exit id)
 |.ret=>some .ret
 |.label _=>some .skip
 |.scope a=>prepCode P m a
 |_=>some .bad
def prepRes (P:Program):List ResultVar→Option (List ARes)
 |[]=>some []
 |.tmp t::r=>(prepRes P r).map (.tmp (t/16) (t%16)::·)
 |.cell a t::r=>match aggOf P t,szOf P t,prepRes P r with
  |some g,some n,some l=>if g||n==1 then some (.cell (a/16) (a%16) g n::l)else none
  |_,_,_=>none
def prepFunc (P:Program) (m:Muts) (fn:Func):Option AFunc:=
 match fn.body with
 |none=>none
 |some c=>match prepCode P m c,prepRes P fn.results.toList with
  |some b,some r=>some ⟨fn.ntmps,fn.params.size+fn.nfree,r,b⟩
  |_,_=>none
end Go.Ev
namespace Go.Ev
section
variable {R:Type} {T:R→Prop} {z:R}
theorem fN_eq (n:Nat) (k:Nat→R):fN n k=k n:=by cases n<;>rfl
theorem fI_eq (n:Int) (k:Int→R):fI n k=k n:=by cases n<;>simp[fI,fN_eq]
theorem fB_eq (b:Bool) (k:Bool→R):fB b k=k b:=by cases b<;>rfl
theorem fSV_eq (v:SV) (k:SV→R):fSV v k=k v:=by cases v<;>simp[fSV,fN_eq,fI_eq,fB_eq]
theorem onOne_elim (hz:¬T z) {v:AV} {k:SV→R} (h:T (v.onOne z k)):∃s,v=.one s∧T (k s):=by
 cases v with
 |one s=>exact⟨s,rfl,h⟩
 |ag l=>exact(hz h).elim
 |tp l=>exact(hz h).elim
theorem onAg_elim (hz:¬T z) {v:AV} {k:List SV→R} (h:T (v.onAg z k)):∃l,v=.ag l∧T (k l):=by
 cases v with
 |one s=>exact(hz h).elim
 |ag l=>exact⟨l,rfl,h⟩
 |tp l=>exact(hz h).elim
theorem onTp_elim (hz:¬T z) {v:AV} {k:List CV→R} (h:T (v.onTp z k)):∃l,v=.tp l∧T (k l):=by
 cases v with
 |one s=>exact(hz h).elim
 |ag l=>exact(hz h).elim
 |tp l=>exact⟨l,rfl,h⟩
def AV.cells?:AV→Option (List SV)
 |.one s=>some [s]
 |.ag l=>some l
 |.tp _=>none
theorem onCells_elim (hz:¬T z) {v:AV} {k:List SV→R} (h:T (v.onCells z k)):∃l,v.cells?=some l∧T (k l):=by
 cases v with
 |one s=>exact⟨[s],rfl,h⟩
 |ag l=>exact⟨l,rfl,h⟩
 |tp l=>exact(hz h).elim
theorem onInt_elim (hz:¬T z) {v:SV} {k:IntKind→Int→R} (h:T (v.onInt z k)):∃a b,v=.int a b∧T (k a b):=by
 cases v<;>first|exact(hz h).elim|exact⟨_,_,rfl,h⟩
theorem onBool_elim (hz:¬T z) {v:SV} {k:Bool→R} (h:T (v.onBool z k)):∃b,v=.bool b∧T (k b):=by
 cases v<;>first|exact(hz h).elim|exact⟨_,rfl,h⟩
theorem onStr_elim (hz:¬T z) {v:SV} {k:Nat→Nat→R} (h:T (v.onStr z k)):∃l b,v=.str l b∧T (k l b):=by
 cases v<;>first|exact(hz h).elim|exact⟨_,_,rfl,h⟩
theorem onMp_elim (hz:¬T z) {v:SV} {k:Nat→R} (h:T (v.onMp z k)):∃b,v=.mp b∧T (k b):=by
 cases v<;>first|exact(hz h).elim|exact⟨_,rfl,h⟩
theorem onMk_elim (hz:¬T z) {v:SV} {k:Nat→R} (h:T (v.onMk z k)):∃b,v=.mk b∧T (k b):=by
 cases v<;>first|exact(hz h).elim|exact⟨_,rfl,h⟩
theorem onPtr_elim (hz:¬T z) {v:SV} {k:Nat→Nat→R} (h:T (v.onPtr z k)):∃a b,v=.optr a b∧T (k a b):=by
 cases v<;>first|exact(hz h).elim|exact⟨_,_,rfl,h⟩
theorem onSl_elim (hz:¬T z) {v:SV} {k:Nat→Nat→Nat→Nat→Nat→R} (h:T (v.onSl z k)):∃a b c d e,v=.osl a b c d e∧T (k a b c d e):=by
 cases v<;>first|exact(hz h).elim|exact⟨_,_,_,_,_,rfl,h⟩
theorem onFn_elim (hz:¬T z) {v:SV} {k:Nat→List (Nat×Nat)→R} (h:T (v.onFn z k)):∃a b,v=.fn a b∧T (k a b):=by
 cases v<;>first|exact(hz h).elim|exact⟨_,_,rfl,h⟩
theorem cond_elim (hz:¬T z) {b:Bool} {x:R} (h:T (cond b x z)):b=true∧T x:=by
 cases b
 ·exact(hz h).elim
 ·exact⟨rfl,h⟩
theorem cond_elim' (hz:¬T z) {b:Bool} {x:R} (h:T (cond b z x)):b=false∧T x:=by
 cases b
 ·exact⟨rfl,h⟩
 ·exact(hz h).elim
theorem option_elim (hz:¬T z) {α:Type} {o:Option α} {k:α→R} (h:T (Option.rec (motive:=λ_=>R) z k o)):∃a,o=some a∧T (k a):=by
 cases o with
 |none=>exact(hz h).elim
 |some a=>exact⟨a,rfl,h⟩
theorem nth_eq {α:Type} (d:α) (l:List α) (i:Nat):nth d l i=(l[i]?).getD d:=by
 induction l generalizing i with
 |nil=>rfl
 |cons h t ih=>cases i with
  |zero=>rfl
  |succ j=>
   have:nth d (h::t) (j+1)=nth d t j:=rfl
   rw[this,ih];simp
theorem nthK_elim {α:Type} (hz:¬T z) {l:List α} {i:Nat} {k:α→R} (h:T (nthK l i z k)):∃a,l[i]?=some a∧T (k a):=by
 induction l generalizing i with
 |nil=>exact(hz h).elim
 |cons a t ih=>cases i with
  |zero=>exact⟨a,by simp,h⟩
  |succ j=>obtain⟨b,h1,h2⟩:=ih (i:=j) h;exact⟨b,by simpa using h1,h2⟩
theorem setK_eq {α:Type} (l:List α) (i:Nat) (v:α) (k:List α→R):setK l i v k=k (l.set i v):=by
 induction l generalizing i k with
 |nil=>rfl
 |cons h t ih=>cases i with
  |zero=>rfl
  |succ j=>exact ih j _
theorem takeK_elim (hz:¬T z) {l:List SV} {n:Nat} {k:List SV→R} (h:T (takeK l n z k)):n≤l.length∧T (k (l.take n)):=by
 induction l generalizing n k with
 |nil=>cases n with
  |zero=>exact⟨Nat.le_refl _,h⟩
  |succ m=>exact(hz h).elim
 |cons a t ih=>cases n with
  |zero=>exact⟨Nat.zero_le _,h⟩
  |succ m=>
   obtain⟨h1,h2⟩:=ih (n:=m) (k:=λr=>k (a::r)) h
   exact⟨by simpa using h1,by simpa using h2⟩
theorem subK_elim (hz:¬T z) {l:List SV} {off n:Nat} {k:List SV→R} (h:T (subK l off n z k)):off+n≤l.length∧T (k ((l.drop off).take n)):=by
 induction l generalizing off with
 |nil=>cases off with
  |zero=>cases n with
   |zero=>exact⟨Nat.le_refl _,h⟩
   |succ m=>exact(hz h).elim
  |succ o=>exact(hz h).elim
 |cons a t ih=>cases off with
  |zero=>
   have h':T (takeK (a::t) n z k):=h
   obtain⟨h1,h2⟩:=takeK_elim hz h'
   exact⟨by omega,by simpa using h2⟩
  |succ o=>
   obtain⟨h1,h2⟩:=ih (off:=o) h
   exact⟨by simp;omega,by simpa using h2⟩
theorem headK_elim (hz:¬T z) {vs l:List SV} {k:List SV→R} (h:T (headK vs l z k)):vs.length≤l.length∧T (k (vs++l.drop vs.length)):=by
 induction vs generalizing l k with
 |nil=>
  have h':T (k l):=h
  exact⟨Nat.zero_le _,by simpa using h'⟩
 |cons v t ih=>cases l with
  |nil=>exact(hz h).elim
  |cons a r=>
   obtain⟨h1,h2⟩:=ih (l:=r) (k:=λr=>k (v::r)) h
   exact⟨by simpa using h1,by simpa using h2⟩
def over (l:List SV) (off:Nat) (vs:List SV):List SV:=l.take off++(vs++l.drop (off+vs.length))
theorem overK_elim (hz:¬T z) {vs l:List SV} {off:Nat} {k:List SV→R} (h:T (overK l off vs z k)):off+vs.length≤l.length∧T (k (over l off vs)):=by
 induction l generalizing off k with
 |nil=>cases off with
  |zero=>
   have h':T (headK vs [] z k):=h
   obtain⟨h1,h2⟩:=headK_elim hz h'
   exact⟨by simpa using h1,by simpa[over]using h2⟩
  |succ o=>exact(hz h).elim
 |cons a t ih=>cases off with
  |zero=>
   have h':T (headK vs (a::t) z k):=h
   obtain⟨h1,h2⟩:=headK_elim hz h'
   exact⟨by simpa using h1,by simpa[over]using h2⟩
  |succ o=>
   obtain⟨h1,h2⟩:=ih (off:=o) (k:=λr=>k (a::r)) h
   refine⟨by simp;omega,?_⟩
   have e:over (a::t) (o+1) vs=a::over t o vs:=by
    simp only[over,List.take_succ_cons,List.cons_append]
    rw[show o+1+vs.length=(o+vs.length)+1 by omega,List.drop_succ_cons]
   rw[e]
   exact h2
theorem over_length {l:List SV} {off:Nat} {vs:List SV} (h:off+vs.length≤l.length):(over l off vs).length=l.length:=by
 simp[over];omega
theorem over_get {l:List SV} {off:Nat} {vs:List SV} (h:off+vs.length≤l.length) (i:Nat):
 (over l off vs)[i]?=if i<off then l[i]? else if i<off+vs.length then vs[i-off]? else l[i]?:=by
 unfold over
 by_cases h1:i<off
 ·rw[List.getElem?_append_left (by simp;omega)]
  simp[h1]
 ·rw[List.getElem?_append_right (by simp;omega)]
  simp only[h1,if_false,List.length_take]
  rw[show min off l.length=off by omega]
  by_cases h2:i<off+vs.length
  ·rw[List.getElem?_append_left (by omega)]
   simp[h2]
  ·rw[List.getElem?_append_right (by omega)]
   simp only[h2,if_false,List.getElem?_drop]
   congr 1;omega
theorem appK_eq (l m:List SV) (k:List SV→R):appK l m k=k (l++m):=by
 induction l generalizing k with
 |nil=>rfl
 |cons h t ih=>exact ih _
theorem copyK_eq (l:List SV) (k:List SV→R):copyK l k=k l:=by
 induction l generalizing k with
 |nil=>rfl
 |cons h t ih=>exact ih _
theorem lenK_eq (l:List SV) (n:Nat) (k:Nat→R):lenK l n k=k (n+l.length):=by
 induction l generalizing n with
 |nil=>rfl
 |cons h t ih=>
  have:lenK (h::t) n k=lenK t (n+1) k:=rfl
  rw[this,ih]
  congr 1
  simp;omega
theorem beq_no {a b:Nat} (h:¬a=b):Nat.beq a b=false:=by
 rw[Bool.eq_false_iff];intro e;exact h (Nat.eq_of_beq_eq_true e)
theorem beq_yes {a b:Nat} (h:Nat.beq a b=true):a=b:=Nat.eq_of_beq_eq_true h
theorem look_nil (id:Nat):look [] id=none:=rfl
theorem look_cons (p:Nat×List SV) (s:St) (id:Nat):look (p::s) id=if p.1=id then some p.2 else look s id:=by
 show cond (Nat.beq p.1 id) (some p.2) (look s id)=_
 by_cases h:p.1=id
 ·simp[h]
 ·have:Nat.beq p.1 id=false:=beq_no h
  simp[this,h]
theorem look_append (s m:St) (id:Nat):look (s++m) id=match look s id with|some c=>some c|none=>look m id:=by
 induction s with
 |nil=>rfl
 |cons p t ih=>
  rw[List.cons_append,look_cons,look_cons]
  by_cases h:p.1=id
  ·simp[h]
  ·simp[h,ih]
theorem plainK_elim (hz:¬T z) {c:List SV} {k:List SV→R} (h:T (plainK z k c)):mkd c=false∧T (k c):=cond_elim' hz h
theorem onLook_elim (hz:¬T z) {s:St} {id:Nat} {k:List SV→R} (h:T (onLook s id z k)):∃c,look s id=some c∧mkd c=false∧T (k c):=
 let⟨c,h1,h2⟩:=option_elim hz h
 ⟨c,h1,plainK_elim hz h2⟩
theorem lookAll_elim (hz:¬T z) {fz:Fz} {mu:St} {id:Nat} {k:List SV→R} (h:T (lookAll fz mu id z k)):
 ∃c,((look mu id=some c∨look mu id=none∧fz id=some c)∧mkd c=false)∧T (k c):=by
 unfold lookAll at h
 cases e:look mu id with
 |some c=>rw[e]at h;exact⟨c,⟨.inl rfl,(plainK_elim hz h).1⟩,(plainK_elim hz h).2⟩
 |none=>
  rw[e]at h
  obtain⟨c,h1,h2⟩:=option_elim hz h
  exact⟨c,⟨.inr ⟨rfl,h1⟩,(plainK_elim hz h2).1⟩,(plainK_elim hz h2).2⟩
theorem lookAny_elim (hz:¬T z) {fz:Fz} {mu:St} {id:Nat} {k:List SV→R} (h:T (lookAny fz mu id z k)):
 ∃c,(look mu id=some c∨look mu id=none∧fz id=some c)∧T (k c):=by
 unfold lookAny at h
 cases e:look mu id with
 |some c=>rw[e]at h;exact⟨c,.inl rfl,h⟩
 |none=>
  rw[e]at h
  obtain⟨c,h1,h2⟩:=option_elim hz h
  exact⟨c,.inr ⟨rfl,h1⟩,h2⟩
theorem with_eq (mu:St) (fz:Fz) (id:Nat):with' mu fz id=match look mu id with|some c=>some c|none=>fz id:=by
 unfold with'
 cases look mu id<;>rfl
def putS:St→Nat→List SV→St
 |[],_,_=>[]
 |p::t,id,c=>if p.1=id then(p.1,c)::t else p::putS t id c
theorem putK_eq (s:St) (id:Nat) (c:List SV) (k:St→R):putK s id c k=k (putS s id c):=by
 induction s generalizing k with
 |nil=>rfl
 |cons p t ih=>
  show cond (Nat.beq p.1 id) _ (putK t id c λr=>k (p::r))=_
  rw[ih]
  by_cases h:p.1=id
  ·simp[h,putS]
  ·have:Nat.beq p.1 id=false:=beq_no h
   simp[this,h,putS]
theorem look_putS (s:St) (id:Nat) (c:List SV) (id':Nat):look (putS s id c) id'=if id=id' then(look s id).map (λ_=>c)else look s id':=by
 induction s with
 |nil=>simp[putS,look_nil]
 |cons p t ih=>
  unfold putS
  by_cases h:p.1=id
  ·simp only[h,if_true,look_cons]
   by_cases h':id=id'<;>simp[h']
  ·simp only[h,if_false,look_cons,ih]
   by_cases h':id=id'
   ·subst h';simp[h]
   ·simp[h']
def killS:St→Nat→St
 |[],_=>[]
 |p::t,id=>if p.1=id then killS t id else p::killS t id
theorem killK_eq (s:St) (id:Nat) (k:St→R):killK s id k=k (killS s id):=by
 induction s generalizing k with
 |nil=>rfl
 |cons p t ih=>
  show cond (Nat.beq p.1 id) (killK t id k) (killK t id λr=>k (p::r))=_
  rw[ih,ih]
  by_cases h:p.1=id
  ·simp[h,killS]
  ·have:Nat.beq p.1 id=false:=beq_no h
   simp[this,h,killS]
theorem look_killS (s:St) (id id':Nat):look (killS s id) id'=if id=id' then none else look s id':=by
 induction s with
 |nil=>simp[killS,look_nil]
 |cons p t ih=>
  unfold killS
  by_cases h:p.1=id
  ·simp only[h,if_true,look_cons,ih]
   by_cases h':id=id'<;>simp[h']
  ·simp only[h,if_false,look_cons,ih]
   by_cases h':id=id'
   ·subst h';simp[h]
   ·simp[h']
theorem joinK_eq (s m:St) (k:St→R):joinK s m k=k (s++m):=by
 induction s generalizing k with
 |nil=>rfl
 |cons p t ih=>exact ih _
theorem ltI_eq (a b:Int):ltI a b=decide (a<b):=by
 cases a<;>cases b<;>(rw[Bool.eq_iff_iff];simp[ltI,Nat.blt_eq])<;>omega
theorem eqI_eq (a b:Int):eqI a b=decide (a=b):=by
 cases a<;>cases b<;>(rw[Bool.eq_iff_iff];simp[eqI])<;>omega
theorem eqb_eq {a b:IntKind} (h:IntKind.eqb a b=true):a=b:=by
 cases a<;>cases b<;>first|rfl|(revert h;decide)
theorem wrap_small (kd:IntKind) (m:Nat) (h:m<128):kd.wrap (m:Int)=m:=by
 cases kd<;>simp[IntKind.wrap,IntKind.bits,IntKind.signed]<;>omega
theorem wrapK_eq (kd:IntKind) (n:Int) (k:Int→R):wrapK kd n k=k (kd.wrap n):=by
 cases n with
 |ofNat m=>
  show cond (Nat.blt m 128) (fN m λm=>k (Int.ofNat m)) (fI (kd.wrap (Int.ofNat m)) k)=_
  by_cases h:m<128
  ·have e:Nat.blt m 128=true:=by simpa[Nat.blt_eq]using h
   rw[e,fN_eq]
   show k (m:Int)=k (kd.wrap (m:Int))
   rw[wrap_small kd m h]
  ·have e:Nat.blt m 128=false:=by
    rw[Bool.eq_false_iff];simpa[Nat.blt_eq]using h
   rw[e,fI_eq];rfl
 |negSucc m=>exact fI_eq _ _
theorem knownAll_iff (l:List SV):knownAll l=true↔∀s∈l,s.known=true:=by
 induction l with
 |nil=>simp[knownAll]
 |cons h t ih=>
  show cond h.known (knownAll t) false=true↔_
  cases e:h.known<;>simp[e,ih]
end
end Go.Ev
namespace Go.Ev
def sB:Nat→Nat→List UInt8
 |0,_=>[]
 |l+1,n=>sB l (n/256)++[UInt8.ofNat n]
def sOf (l n:Nat):ByteArray:=⟨(sB l n).toArray⟩
theorem sB_length:∀l n,(sB l n).length=l
 |0,_=>rfl
 |l+1,n=>by simp[sB,sB_length l]
theorem sOf_list (l n:Nat):(sOf l n).data.toList=sB l n:=rfl
theorem sOf_size (l n:Nat):(sOf l n).size=l:=by
 show(sB l n).toArray.size=l
 simp[sB_length]
theorem u8_mod (n:Nat):UInt8.ofNat (n%256)=UInt8.ofNat n:=by
 apply UInt8.toNat_inj.1;simp[UInt8.toNat_ofNat']
theorem sB_mod:∀l n,sB l (n%256^l)=sB l n
 |0,_=>rfl
 |l+1,n=>by
  simp only[sB]
  have h1:n%256^(l+1)/256=n/256%256^l:=by
   rw[Nat.pow_succ,Nat.mul_comm,Nat.mod_mul_right_div_self]
  have h2:UInt8.ofNat (n%256^(l+1))=UInt8.ofNat n:=by
   rw[←u8_mod,←u8_mod n]
   congr 1
   rw[Nat.pow_succ,Nat.mul_comm]
   exact Nat.mod_mul_right_mod n 256 (256^l)
  rw[h1,h2,sB_mod l]
theorem sB_append (l1 n1:Nat):∀l2 n2,n2<256^l2→sB (l1+l2) (n1*256^l2+n2)=sB l1 n1++sB l2 n2
 |0,n2,h=>by
  have:n2=0:=by simpa using h
  subst this;simp[sB]
 |l2+1,n2,h=>by
  show sB (l1+l2) ((n1*256^(l2+1)+n2)/256)++[UInt8.ofNat (n1*256^(l2+1)+n2)]=sB l1 n1++(sB l2 (n2/256)++[UInt8.ofNat n2])
  have e1:(n1*256^(l2+1)+n2)/256=n1*256^l2+n2/256:=by
   rw[Nat.pow_succ,←Nat.mul_assoc,Nat.add_comm,Nat.add_mul_div_right _ _ (by decide),Nat.add_comm]
  have e2:UInt8.ofNat (n1*256^(l2+1)+n2)=UInt8.ofNat n2:=by
   rw[←u8_mod,←u8_mod n2]
   congr 1
   rw[Nat.pow_succ,←Nat.mul_assoc,Nat.add_comm,Nat.add_mul_mod_self_right]
  have h3:n2/256<256^l2:=by
   rw[Nat.div_lt_iff_lt_mul (by decide)];rwa [Nat.pow_succ]at h
  rw[e1,e2,sB_append l1 n1 l2 _ h3,List.append_assoc]
theorem sB_split {l k:Nat} (h:k≤l) (n:Nat):sB l n=sB k (n/256^(l-k))++sB (l-k) n:=by
 have h1:n=n/256^(l-k)*256^(l-k)+n%256^(l-k):=(Nat.div_add_mod' n _).symm
 have h2:=sB_append k (n/256^(l-k)) (l-k) (n%256^(l-k)) (Nat.mod_lt _ (Nat.pow_pos (by decide)))
 rw[←h1,sB_mod,show k+(l-k)=l by omega]at h2
 exact h2
theorem sB_drop {l k:Nat} (h:k≤l) (n:Nat):(sB l n).drop k=sB (l-k) n:=by
 rw[sB_split h n,List.drop_append,sB_length]
 simp[List.drop_of_length_le (Nat.le_of_eq (sB_length k _))]
theorem sB_take {l k:Nat} (h:k≤l) (n:Nat):(sB l n).take k=sB k (n/256^(l-k)):=by
 rw[sB_split h n,List.take_append,sB_length]
 simp[List.take_of_length_le (Nat.le_of_eq (sB_length k _))]
theorem sB_get {l i:Nat} (h:i<l) (n:Nat):(sB l n)[i]?=some (UInt8.ofNat (n/256^(l-1-i))):=by
 have h1:=sB_take (show i+1≤l by omega) n
 have h2:((sB l n).take (i+1))[i]?=(sB l n)[i]?:=by rw[List.getElem?_take];simp
 rw[←h2,h1,show l-(i+1)=l-1-i by omega]
 show(sB i _++[_])[i]?=_
 rw[List.getElem?_append_right (by simp[sB_length]),sB_length]
 simp
theorem sB_slice {l lo hi:Nat} (h1:hi≤l) (h2:lo≤hi) (n:Nat):((sB l n).drop lo).take (hi-lo)=sB (hi-lo) (n/256^(l-hi)%256^(hi-lo)):=by
 rw[sB_drop (by omega),sB_take (by omega),sB_mod,show l-lo-(hi-lo)=l-hi by omega]
theorem sB_inj:∀{l n n':Nat},n<256^l→n'<256^l→sB l n=sB l n'→n=n'
 |0,n,n',h,h',_=>by simp at h h';omega
 |l+1,n,n',h,h',e=>by
  simp only[sB]at e
  have e1:=List.append_inj e (by simp[sB_length])
  have h3:n/256<256^l:=by rw[Nat.div_lt_iff_lt_mul (by decide)];rwa [Nat.pow_succ]at h
  have h4:n'/256<256^l:=by rw[Nat.div_lt_iff_lt_mul (by decide)];rwa [Nat.pow_succ]at h'
  have e2:=sB_inj h3 h4 e1.1
  have e3:UInt8.ofNat n=UInt8.ofNat n':=by simpa using e1.2
  have e4:n%256=n'%256:=by
   have:=congrArg UInt8.toNat e3
   simpa[UInt8.toNat_ofNat']using this
  omega
theorem fold_sB:∀l n,(sB l n).foldl (λa (b:UInt8)=>a*256+b.toNat) 0=n%256^l
 |0,n=>by simp[sB,Nat.mod_one]
 |l+1,n=>by
  simp only[sB,List.foldl_append,List.foldl_cons,List.foldl_nil,fold_sB l]
  rw[UInt8.toNat_ofNat',show(256:Nat)^(l+1)=256*256^l by rw[Nat.pow_succ,Nat.mul_comm],Nat.mod_mul]
  show n/256%256^l*256+n%256=_
  omega
theorem fold_lt:∀(bs:List UInt8) (a l:Nat),a<256^l→bs.foldl (λa (b:UInt8)=>a*256+b.toNat) a<256^(l+bs.length)
 |[],a,l,h=>by simpa using h
 |b::bs,a,l,h=>by
  have hb:b.toNat<256:=b.toNat_lt
  have:a*256+b.toNat<256^(l+1):=by rw[Nat.pow_succ];omega
  have:=fold_lt bs _ (l+1) this
  simpa[Nat.add_assoc,Nat.add_comm,Nat.add_left_comm]using this
theorem fold_eq:∀(bs:List UInt8) (a l:Nat),sB (l+bs.length) (bs.foldl (λa (b:UInt8)=>a*256+b.toNat) a)=sB l a++bs
 |[],a,l=>by simp
 |b::bs,a,l=>by
  have h:=fold_eq bs (a*256+b.toNat) (l+1)
  have e:sB (l+1) (a*256+b.toNat)=sB l a++[b]:=by
   have hb:b.toNat<256:=b.toNat_lt
   simp only[sB]
   rw[show(a*256+b.toNat)/256=a by omega]
   congr 2
   rw[←u8_mod,show(a*256+b.toNat)%256=b.toNat by omega]
   simp
  rw[e]at h
  simp only[List.length_cons,List.foldl_cons]
  rw[show l+(bs.length+1)=l+1+bs.length by omega,h]
  simp
theorem nOf_lt (bs:List UInt8):nOf bs<256^bs.length:=by
 have:=fold_lt bs 0 0 (by decide)
 rw[Nat.zero_add]at this
 exact this
theorem nOf_eq (bs:List UInt8):sB bs.length (nOf bs)=bs:=by simpa[sB,nOf]using fold_eq bs 0 0
theorem sOf_nOf (s:ByteArray):sOf s.data.toList.length (nOf s.data.toList)=s:=by
 unfold sOf;rw[nOf_eq]
theorem sOf_eq {l n l' n':Nat} (h:n<256^l) (h':n'<256^l'):(sOf l n=sOf l' n')↔(l=l'∧n=n'):=by
 constructor
 ·intro e
  have e1:sB l n=sB l' n':=by rw[←sOf_list,←sOf_list,e]
  have e2:l=l':=by have:=congrArg List.length e1;rwa [sB_length,sB_length]at this
  subst e2
  exact⟨rfl,sB_inj h h' e1⟩
 ·rintro⟨rfl,rfl⟩;rfl
theorem strEq_iff {l n l' n':Nat}:strEq l n l' n'=true↔(l=l'∧n=n'):=by
 unfold strEq
 cases e:Nat.beq l l' with
 |true=>have:=Nat.eq_of_beq_eq_true e;simp[this]
 |false=>have:=Nat.ne_of_beq_eq_false e;simp[this]
theorem nOf_cons (u:UInt8) (a:List UInt8):nOf (u::a)=u.toNat*256^a.length+nOf a:=by
 have key:∀(a:List UInt8) (p:Nat),a.foldl (λa (b:UInt8)=>a*256+b.toNat) p=p*256^a.length+nOf a:=by
  intro a
  induction a with
  |nil=>intro p;simp[nOf]
  |cons v a ih=>
   intro p
   show a.foldl _ (p*256+v.toNat)=_*256^(a.length+1)+a.foldl _ (0*256+v.toNat)
   rw[ih,ih,Nat.pow_succ,Nat.add_mul,Nat.add_mul,Nat.zero_mul,Nat.mul_comm (256^a.length) 256,←Nat.mul_assoc]
   omega
 show a.foldl _ (0*256+u.toNat)=_
 rw[key];simp
theorem less_iff:∀(a b:List UInt8),Op.bytesLess a b=true↔(nOf a*256^b.length<nOf b*256^a.length∨nOf a*256^b.length=nOf b*256^a.length∧a.length<b.length)
 |[],[]=>by simp[Op.bytesLess,nOf]
 |_::_,[]=>by simp[Op.bytesLess,nOf]
 |[],v::b=>by
  simp only[Op.bytesLess,List.length_nil,Nat.pow_zero,Nat.mul_one,List.length_cons]
  have:nOf []=0:=rfl
  rw[this]
  simp only[Nat.zero_mul,true_iff]
  rcases Nat.eq_zero_or_pos (nOf (v::b))with h|h
  ·exact .inr ⟨h.symm,by omega⟩
  ·exact .inl h
 |u::a,v::b=>by
  have ih:=less_iff a b
  have ha:=nOf_lt a
  have hb:=nOf_lt b
  have hX:nOf a*256^b.length<256^(a.length+b.length):=by
   rw[Nat.pow_add];exact Nat.mul_lt_mul_of_pos_right ha (Nat.pow_pos (by decide))
  have hY:nOf b*256^a.length<256^(a.length+b.length):=by
   rw[Nat.add_comm,Nat.pow_add];exact Nat.mul_lt_mul_of_pos_right hb (Nat.pow_pos (by decide))
  have e1:nOf (u::a)*256^(b.length+1)=256*(u.toNat*256^(a.length+b.length)+nOf a*256^b.length):=by
   rw[nOf_cons,Nat.pow_succ,Nat.pow_add,Nat.add_mul,Nat.mul_add,Nat.mul_comm 256 (u.toNat*_),Nat.mul_comm 256 (nOf a*_)]
   simp only[Nat.mul_assoc]
  have e2:nOf (v::b)*256^(a.length+1)=256*(v.toNat*256^(a.length+b.length)+nOf b*256^a.length):=by
   rw[nOf_cons,Nat.pow_succ,Nat.pow_add,Nat.add_mul,Nat.mul_add,Nat.mul_comm 256 (v.toNat*_),Nat.mul_comm 256 (nOf b*_),Nat.mul_comm (256^a.length) (256^b.length)]
   simp only[Nat.mul_assoc]
  simp only[List.length_cons]
  rw[e1,e2]
  generalize 256^(a.length+b.length)=M at*
  generalize nOf a*256^b.length=X at*
  generalize nOf b*256^a.length=Y at*
  have h1:(u<v)↔u.toNat<v.toNat:=UInt8.lt_iff_toNat_lt
  have h2:(u=v)↔u.toNat=v.toNat:=UInt8.toNat_inj.symm
  simp only[Op.bytesLess,Bool.or_eq_true,decide_eq_true_eq,Bool.and_eq_true,beq_iff_eq,ih,h1,h2]
  generalize u.toNat=p
  generalize v.toNat=q
  rcases Nat.lt_trichotomy p q with h|h|h
  ·have:p*M+M≤q*M:=by rw[←Nat.succ_mul];exact Nat.mul_le_mul_right M h
   constructor
   ·intro _;exact .inl (by omega)
   ·intro _;exact .inl h
  ·subst h
   constructor
   ·rintro(h|⟨_,h|⟨h,h'⟩⟩)
    ·omega
    ·exact .inl (by omega)
    ·exact .inr ⟨by omega,by omega⟩
   ·rintro(h|⟨h,h'⟩)
    ·exact .inr ⟨rfl,.inl (by omega)⟩
    ·exact .inr ⟨rfl,.inr ⟨by omega,by omega⟩⟩
  ·have:q*M+M≤p*M:=by rw[←Nat.succ_mul];exact Nat.mul_le_mul_right M h
   constructor
   ·rintro(h|⟨h,_⟩)<;>omega
   ·rintro(h|⟨h,_⟩)<;>omega
theorem strLt_iff {l n l' n':Nat} (h:n<256^l) (h':n'<256^l'):strLt l n l' n'=Op.bytesLess (sB l n) (sB l' n'):=by
 have e:nOf (sB l n)=n:=by unfold nOf;rw[fold_sB,Nat.mod_eq_of_lt h]
 have e':nOf (sB l' n')=n':=by unfold nOf;rw[fold_sB,Nat.mod_eq_of_lt h']
 have key:=less_iff (sB l n) (sB l' n')
 rw[sB_length,sB_length,e,e']at key
 rw[Bool.eq_iff_iff,key]
 unfold strLt
 cases h1:Nat.blt (Nat.mul n (Nat.pow 256 l')) (Nat.mul n' (Nat.pow 256 l))with
 |true=>simp only[cond_true,true_iff];exact .inl (Nat.le_of_ble_eq_true h1)
 |false=>
  have h2:¬n*256^l'<n'*256^l:=λh=>by
   have:Nat.blt (Nat.mul n (Nat.pow 256 l')) (Nat.mul n' (Nat.pow 256 l))=true:=Nat.ble_eq_true_of_le h
   rw[h1]at this;cases this
  cases h3:Nat.beq (Nat.mul n (Nat.pow 256 l')) (Nat.mul n' (Nat.pow 256 l))with
  |true=>
   have h4:n*256^l'=n'*256^l:=Nat.eq_of_beq_eq_true h3
   simp only[cond_false,cond_true]
   constructor
   ·intro h5;exact .inr ⟨h4,Nat.le_of_ble_eq_true h5⟩
   ·rintro(h5|⟨_,h5⟩)
    ·exact(h2 h5).elim
    ·exact Nat.ble_eq_true_of_le h5
  |false=>
   have h4:¬n*256^l'=n'*256^l:=Nat.ne_of_beq_eq_false h3
   simp only[cond_false]
   constructor
   ·intro h;cases h
   ·rintro(h5|⟨h5,_⟩)
    ·exact(h2 h5).elim
    ·exact(h4 h5).elim
section
variable {R:Type} {T:R→Prop} {z:R}
def bcells (bs:List UInt8):List SV:=bs.map λb=>.int .u8 (Int.ofNat b.toNat)
theorem digK_eq:∀(l n:Nat) (acc:List SV) (k:List SV→R),digK l n acc k=k (bcells (sB l n)++acc)
 |0,n,acc,k=>rfl
 |l+1,n,acc,k=>by
  show(fN (Nat.mod n 256) λd=>fN (Nat.div n 256) λn=>digK l n (.int .u8 (Int.ofNat d)::acc) k)=_
  rw[fN_eq,fN_eq,digK_eq l]
  have:(Nat.mod n 256)=(UInt8.ofNat n).toNat:=by simp[UInt8.toNat_ofNat'];rfl
  rw[this]
  simp only[sB,bcells,List.map_append,List.map_cons,List.map_nil,List.append_assoc,List.cons_append,List.nil_append]
  rfl
theorem numK_elim (hz:¬T z):∀{cs:List SV} {a:Nat} {k:Nat→R},T (numK z cs a k)→∃bs:List UInt8,cs=bcells bs∧T (k (bs.foldl (fun a (b:UInt8)=>a*256+b.toNat) a))
 |[],a,k,h=>⟨[],rfl,h⟩
 |c::cs,a,k,h=>by
  have h:T (c.onInt z λkd i=>cond (IntKind.eqb kd .u8) (Int.rec (motive:=λ_=>R) (λm=>cond (Nat.blt m 256) (fN (Nat.add (Nat.mul a 256) m) λa=>numK z cs a k) z) (λ_=>z) i) z):=h
  obtain⟨kd,i,rfl,h1⟩:=onInt_elim hz h
  obtain⟨h2,h3⟩:=cond_elim hz h1
  cases i with
  |negSucc m=>exact(hz h3).elim
  |ofNat m=>
   obtain⟨h4,h5⟩:=cond_elim hz h3
   rw[fN_eq]at h5
   obtain⟨bs,rfl,h6⟩:=numK_elim hz h5
   have hm:m<256:=Nat.le_of_ble_eq_true h4
   have hk:kd=.u8:=eqb_eq h2
   subst hk
   refine⟨UInt8.ofNat m::bs,?_,?_⟩
   ·simp only[bcells,List.map_cons]
    congr 2
    simp[UInt8.toNat_ofNat',Nat.mod_eq_of_lt hm]
   ·simp only[List.foldl_cons]
    have:(UInt8.ofNat m).toNat=m:=by simp[UInt8.toNat_ofNat',Nat.mod_eq_of_lt hm]
    rw[this];exact h6
end
end Go.Ev
namespace Go.Ev
def All2 {α β:Type} (R:α→β→Prop):List α→List β→Prop
 |[],[]=>True
 |a::x,b::y=>R a b∧All2 R x y
 |_,_=>False
section
variable {α β:Type} {R S:α→β→Prop}
theorem All2.length {x:List α} {y:List β} (h:All2 R x y):x.length=y.length:=by
 induction x generalizing y with
 |nil=>cases y with
  |nil=>rfl
  |cons b y=>exact h.elim
 |cons a x ih=>cases y with
  |nil=>exact h.elim
  |cons b y=>simp[ih h.2]
theorem All2.get {x:List α} {y:List β} (h:All2 R x y) {i:Nat} {a:α} (ha:x[i]?=some a):∃b,y[i]?=some b∧R a b:=by
 induction x generalizing y i with
 |nil=>simp at ha
 |cons a' x ih=>cases y with
  |nil=>exact h.elim
  |cons b y=>cases i with
   |zero=>simp at ha;subst ha;exact⟨b,by simp,h.1⟩
   |succ j=>simpa using ih h.2 (by simpa using ha)
theorem All2.of_get {x:List α} {y:List β} (hl:x.length=y.length) (h:∀(i:Nat) a b,x[i]?=some a→y[i]?=some b→R a b):All2 R x y:=by
 induction x generalizing y with
 |nil=>cases y with
  |nil=>trivial
  |cons b y=>simp at hl
 |cons a x ih=>cases y with
  |nil=>simp at hl
  |cons b y=>exact⟨h 0 a b (by simp) (by simp),ih (by simpa using hl) λi a b ha hb=>h (i+1) a b (by simpa using ha) (by simpa using hb)⟩
theorem All2.imp {x:List α} {y:List β} (h:All2 R x y) (hi:∀a b,R a b→S a b):All2 S x y:=by
 induction x generalizing y with
 |nil=>cases y with
  |nil=>trivial
  |cons b y=>exact h.elim
 |cons a x ih=>cases y with
  |nil=>exact h.elim
  |cons b y=>exact⟨hi _ _ h.1,ih h.2⟩
theorem All2.append {x x':List α} {y y':List β} (h:All2 R x y) (h':All2 R x' y'):All2 R (x++x') (y++y'):=by
 induction x generalizing y with
 |nil=>cases y with
  |nil=>exact h'
  |cons b y=>exact h.elim
 |cons a x ih=>cases y with
  |nil=>exact h.elim
  |cons b y=>exact⟨h.1,ih h.2⟩
theorem All2.take {x:List α} {y:List β} (h:All2 R x y) (n:Nat):All2 R (x.take n) (y.take n):=by
 induction x generalizing y n with
 |nil=>cases y with
  |nil=>simp[All2]
  |cons b y=>exact h.elim
 |cons a x ih=>cases y with
  |nil=>exact h.elim
  |cons b y=>cases n with
   |zero=>simp[All2]
   |succ m=>exact⟨h.1,ih h.2 m⟩
theorem All2.drop {x:List α} {y:List β} (h:All2 R x y) (n:Nat):All2 R (x.drop n) (y.drop n):=by
 induction x generalizing y n with
 |nil=>cases y with
  |nil=>simp[All2]
  |cons b y=>exact h.elim
 |cons a x ih=>cases y with
  |nil=>exact h.elim
  |cons b y=>cases n with
   |zero=>exact h
   |succ m=>exact ih h.2 m
end
abbrev Rho:=Nat→Option (Nat×Nat)
def bsize (w:World) (b:Nat):Nat:=match w.heap[b]? with|some (.cells c _ _)=>c.size|_=>0
def CapR (ρ:Rho) (p:Nat×Nat) (x:Value):Prop:=∃q,ρ p.1=some q∧x=.pointer (some ⟨q.1,q.2+p.2,none⟩)
def VR (val:Nat→Int) (ρ:Rho) (w:World):SV→Value→Prop
 |.un,_=>True
 |.int k n,v=>v=.int k n
 |.bool b,v=>v=.bool b
 |.str l n,v=>n<256^l∧v=.string (sOf l n)
 |.nsl,v=>v=.slice none 0 0
 |.npt,v=>v=.pointer none
 |.nfn,v=>v=.nilFunc
 |.optr id off,v=>∃p,ρ id=some p∧v=.pointer (some ⟨p.1,p.2+off,none⟩)
 |.osl id off len cap s,v=>∃p c,ρ id=some p∧v=.slice (some ⟨p.1,p.2+off,none⟩) len c∧len≤cap∧cap≤c∧p.2+off+c*s≤bsize w p.1∧c≤9223372036854775807
 |.esl,v=>∃a,v=.slice (some a) 0 0
 |.zsl,v=>∃a c,v=.slice (some a) 0 c
 |.fn f caps,v=>∃vs:List Value,v=.func (.func f) #[] vs.toArray∧All2 (CapR ρ) caps vs
 |.sym k i,v=>v=.int k (val i)
 |.nmp,v=>v=.map none
 |.mp id,v=>∃p,ρ id=some p∧p.2=0∧v=.map (some p.1)
 |.nif,v=>v=.nilIface
 |.mk _,_=>False
def CVR (val:Nat→Int) (ρ:Rho) (w:World):CV→Value→Prop
 |.one s,v=>VR val ρ w s v
 |.ag l,v=>∃vs:List Value,v=.agg vs.toArray∧All2 (VR val ρ w) l vs
def AVR (val:Nat→Int) (ρ:Rho) (w:World):AV→Value→Prop
 |.one s,v=>VR val ρ w s v
 |.ag l,v=>∃vs:List Value,v=.agg vs.toArray∧All2 (VR val ρ w) l vs
 |.tp l,v=>∃vs:List Value,v=.tuple vs.toArray∧All2 (CVR val ρ w) l vs
def FrOk (fr:Nat×Nat) (n:Nat):Prop:=fr.2≤fr.1∨s2bOk=true∧n≤fr.1
theorem FrOk.no {fr:Nat×Nat} {n:Nat} (h:FrOk fr n) {x:Nat} (hx:x<n):(decide (fr.1≤x)&&decide (x<fr.2))=false:=by
 rcases h with h|⟨_,h⟩
 ·by_cases h1:fr.1≤x
  ·have:¬x<fr.2:=by omega
   simp[this]
  ·simp[h1]
 ·have:¬fr.1≤x:=by omega
  simp[this]
theorem of_cond_some {α:Type} {b:Bool} {x o:α} (h:cond b (some x) none=some o):b=true∧x=o:=by
 cases b
 ·cases h
 ·cases h;exact⟨rfl,rfl⟩
theorem FrOk.zero (n:Nat):FrOk (0,0) n:=.inl (Nat.le_refl _)
def Own (val:Nat→Int) (ρ:Rho) (w:World) (id:Nat) (cs:List SV):Prop:=
 ∃p C ty fr,ρ id=some p∧w.heap[p.1]?=some (.cells C ty fr)∧FrOk fr C.size∧p.2+cs.length≤C.size∧∀i s,cs[i]?=some s→∃v,C[p.2+i]?=some v∧VR val ρ w s v
def digY:Int→Nat
 |.ofNat m=>2*m+1
 |.negSucc m=>2*m+2
def codeN:List Int→Nat
 |[]=>0
 |i::r=>codeN r*18446744073709551617+digY i
def SmallK (l:List Int):Prop:=∀i∈l,digY i<18446744073709551617
def keyN (l:List Int):Nat:=codeN l*64+l.length
theorem digY_inj {i j:Int} (h:digY i=digY j):i=j:=by
 cases i<;>cases j<;>simp only[digY]at h<;>first|(congr 1;omega)|omega
theorem digY_pos (i:Int):0<digY i:=by cases i<;>simp[digY]
theorem codeN_inj:∀{l l':List Int},SmallK l→SmallK l'→codeN l=codeN l'→l=l'
 |[],[],_,_,_=>rfl
 |[],i::r,_,_,h=>by have:=digY_pos i;simp only[codeN]at h;omega
 |i::r,[],_,_,h=>by have:=digY_pos i;simp only[codeN]at h;omega
 |i::r,i'::r',h1,h2,h=>by
  have a:=h1 i (by simp)
  have b:=h2 i' (by simp)
  simp only[codeN]at h
  have c:codeN r=codeN r'∧digY i=digY i':=by omega
  rw[digY_inj c.2,codeN_inj (λx hx=>h1 x (by simp[hx])) (λx hx=>h2 x (by simp[hx])) c.1]
theorem keyN_mod {l:List Int} (h:l.length<64):keyN l%64=l.length:=by unfold keyN;omega
theorem keyN_inj {l l':List Int} (h1:SmallK l) (h2:SmallK l') (h3:l.length<64) (h4:l'.length<64) (h:keyN l=keyN l'):l=l':=codeN_inj h1 h2 (by unfold keyN at h;omega)
def KyR (val:Nat→Int) (ρ:Rho) (w:World) (s:SV) (v:Value):Prop:=
 match s with
 |.mk m=>∃l:List Int,m=keyN l∧l.length<64∧SmallK l∧v=.agg (l.map (Value.int .i64)).toArray
 |s=>VR val ρ w s v
def EntR (val:Nat→Int) (ρ:Rho) (w:World) (agg:Bool) (e:SV×List SV) (m:MapEntry):Prop:=
 KyR val ρ w e.1 m.key∧(∃vs:List Value,(if agg then m.val=.agg vs.toArray else vs=[m.val])∧All2 (VR val ρ w) e.2 vs)
inductive OwnS (val:Nat→Int) (ρ:Rho) (w:World) (id:Nat):List SV→Prop where
 |map (p:Nat) (agg:Bool) (v:Nat) (es:List (SV×List SV)) (ms:Array MapEntry) (clock:Nat) (hp:ρ id=some (p,0)) (hw:w.heap[p]?=some (.map ms clock)) (hv:∀e∈es,e.2.length=v∧(e.1.known=true∨e.1.isMk=true)∧knownAll e.2=true)
  (he:All2 (EntR val ρ w agg) es ms.toList) (hb:(ms.toList.map (·.born)).Pairwise (· <·)) (hc:∀m∈ms.toList,m.born<clock):OwnS val ρ w id (.mk (mtag agg v)::flatE es)
 |text (g l n:Nat) (C:Array Value) (ty:TypeId) (fr:Nat×Nat) (hp:ρ id=some (g,0)) (hw:w.heap[g]?=some (.cells C ty fr)) (hf:fr.2≤l) (hn:n<256^l) (hl:l≤C.size)
  (hC:∀(i:Nat) (b:UInt8),(sB l n)[i]?=some b→C[i]?=some (.int .u8 (Int.ofNat b.toNat))):OwnS val ρ w id [.mk 2,.str l n,.mk ty]
 |bld (p:Nat) (ty:TypeId) (a s:SV) (va vs:Value) (hp:ρ id=some (p,0)) (hw:w.heap[p]?=some (.cells #[va,vs] ty (0,0))) (ha:a=.npt∧va=.pointer none∨a=.optr id 0∧va=.pointer (some ⟨p,0,none⟩)) (hs:VR val ρ w s vs):OwnS val ρ w id [.mk 3,.mk ty,a,s]
 |box (p:Nat) (ty:TypeId) (fr:Nat×Nat) (s:SV) (v:Value) (hp:ρ id=some (p,0)) (hw:w.heap[p]?=some (.cells #[v] ty fr)) (hs:VR val ρ w s v):OwnS val ρ w id [.mk 1,s]
 |glob (p kd:Nat) (C:Array Value) (ty:TypeId) (fr:Nat×Nat) (v:Value) (hp:ρ id=some (p,0)) (hw:w.heap[p]?=some (.cells C ty fr)) (hv:C[0]?=some v)
  (hg:kd=0∧(∃m,v=.int .i64 m)∨kd=1∧(v=.nilIface∨∃te pe,v=.iface te pe)∨kd=2∧C=(Lib.pow10Tab.map λz=>Value.int .u64 z).toArray):OwnS val ρ w id [.mk 0,.mk p,.mk kd]
def OwnG (val:Nat→Int) (ρ:Rho) (w:World) (id:Nat) (cs:List SV):Prop:=Own val ρ w id cs∨OwnS val ρ w id cs
theorem OwnS.mkd {val:Nat→Int} {ρ:Rho} {w:World} {id:Nat} {cs:List SV} (h:OwnS val ρ w id cs):mkd cs=true:=by
 cases h<;>rfl
theorem OwnG.plain {val:Nat→Int} {ρ:Rho} {w:World} {id:Nat} {cs:List SV} (h:OwnG val ρ w id cs) (hm:Go.Ev.mkd cs=false):Own val ρ w id cs:=by
 rcases h with h|h
 ·exact h
 ·rw[h.mkd]at hm;cases hm
theorem OwnG.other {val:Nat→Int} {ρ:Rho} {w:World} {id:Nat} {cs:List SV} (h:OwnG val ρ w id cs) (hm:Go.Ev.mkd cs=true):OwnS val ρ w id cs:=by
 rcases h with h|h
 ·obtain⟨p,C,ty,fr,h1,h2,hfr,h3,h4⟩:=h
  cases cs with
  |nil=>cases hm
  |cons c cs=>
   obtain⟨v,_,hv⟩:=h4 0 c rfl
   cases c<;>first|exact hv.elim|cases hm
 ·exact h
theorem OwnG.at {val:Nat→Int} {ρ:Rho} {w:World} {id:Nat} {cs:List SV} (h:OwnG val ρ w id cs):∃p o,ρ id=some p∧w.heap[p.1]?=some o:=by
 rcases h with⟨p,C,ty,fr,h1,h2,_⟩|h
 ·exact⟨p,_,h1,h2⟩
 ·cases h with
  |map p agg v es ms clock hp hw=>exact⟨(p,0),_,hp,hw⟩
  |text g l n C ty fr hp hw=>exact⟨(g,0),_,hp,hw⟩
  |bld p ty a s va vs hp hw=>exact⟨(p,0),_,hp,hw⟩
  |box p ty fr s v hp hw=>exact⟨(p,0),_,hp,hw⟩
  |glob p kd C ty fr v hp hw=>exact⟨(p,0),_,hp,hw⟩
def OwnR (val:Nat→Int) (ρ:Rho) (w:World) (id:Nat) (cs:List SV):Prop:=
 ∃p C ty fr,ρ id=some p∧w.heap[p.1]?=some (.cells C ty fr)∧p.2+cs.length≤C.size∧∀i s,cs[i]?=some s→∃v,C[p.2+i]?=some v∧VR val ρ w s v
theorem Own.r {val:Nat→Int} {ρ:Rho} {w:World} {id:Nat} {cs:List SV} (h:Own val ρ w id cs):OwnR val ρ w id cs:=let⟨p,C,ty,fr,h1,h2,_,h3,h4⟩:=h;⟨p,C,ty,fr,h1,h2,h3,h4⟩
def OwnF (val:Nat→Int) (ρ:Rho) (w:World) (id:Nat) (cs:List SV):Prop:=OwnR val ρ w id cs∨OwnS val ρ w id cs
theorem OwnG.f {val:Nat→Int} {ρ:Rho} {w:World} {id:Nat} {cs:List SV} (h:OwnG val ρ w id cs):OwnF val ρ w id cs:=h.imp Own.r (λh=>h)
theorem OwnF.plain {val:Nat→Int} {ρ:Rho} {w:World} {id:Nat} {cs:List SV} (h:OwnF val ρ w id cs) (hm:Go.Ev.mkd cs=false):OwnR val ρ w id cs:=by
 rcases h with h|h
 ·exact h
 ·rw[h.mkd]at hm;cases hm
theorem OwnF.other {val:Nat→Int} {ρ:Rho} {w:World} {id:Nat} {cs:List SV} (h:OwnF val ρ w id cs) (hm:Go.Ev.mkd cs=true):OwnS val ρ w id cs:=by
 rcases h with h|h
 ·obtain⟨p,C,ty,fr,h1,h2,h3,h4⟩:=h
  cases cs with
  |nil=>cases hm
  |cons c cs=>
   obtain⟨v,_,hv⟩:=h4 0 c rfl
   cases c<;>first|exact hv.elim|cases hm
 ·exact h
theorem OwnF.g {val:Nat→Int} {ρ:Rho} {w:World} {id:Nat} {cs:List SV} (h:OwnF val ρ w id cs) (hm:Go.Ev.mkd cs=true):OwnG val ρ w id cs:=.inr (h.other hm)
theorem OwnF.at {val:Nat→Int} {ρ:Rho} {w:World} {id:Nat} {cs:List SV} (h:OwnF val ρ w id cs):∃p o,ρ id=some p∧w.heap[p.1]?=some o:=by
 rcases h with⟨p,C,ty,fr,h1,h2,_⟩|h
 ·exact⟨p,_,h1,h2⟩
 ·exact OwnG.at (.inr h)
structure Rel (val:Nat→Int) (ρ:Rho) (fz:Fz) (mu:St) (w:World):Prop where
 rf:∀id cs,fz id=some cs→OwnF val ρ w id cs
 rm:∀id cs,look mu id=some cs→OwnG val ρ w id cs
 dm:∀id cs,look mu id=some cs→fz id=none
 dj:∀id id' p p',(look mu id).isSome→((look mu id').isSome∨(fz id').isSome)→ρ id=some p→ρ id'=some p'→p.1=p'.1→id=id'
structure Fr (ρ:Rho) (mu:St) (w w':World):Prop where
 os:w'.os=w.os
 tape:w'.tape=w.tape
 output:w'.output=w.output
 size:w.heap.size≤w'.heap.size
 keep:∀b,b<w.heap.size→(∀id p,(look mu id).isSome→ρ id=some p→p.1≠b)→w'.heap[b]?=w.heap[b]?
 shape:∀b,bsize w b≤bsize w' b
structure Ext (ρ ρ':Rho) (n n':Nat):Prop where
 old:∀id p,ρ id=some p→ρ' id=some p
 new:∀id p,ρ' id=some p→ρ id=some p∨n≤id∧id<n'
def FreshN (ρ:Rho) (n n':Nat):Prop:=∀id,n≤id→id<n'→ρ id=none
def NewB (ρ ρ':Rho) (mu mu':St) (w:World):Prop:=
 ∀id p,(look mu' id).isSome→ρ' id=some p→w.heap.size≤p.1∨∃id0 p0,(look mu id0).isSome∧ρ id0=some p0∧p0.1=p.1
def NewI (mu mu':St) (n n':Nat):Prop:=∀id,(look mu' id).isSome→(look mu id).isSome∨n≤id∧id<n'
section
variable {val:Nat→Int} {ρ ρ':Rho} {w w':World}
theorem VR.mono {s:SV} {v:Value} (h:VR val ρ w s v) (ho:∀id p,ρ id=some p→ρ' id=some p) (hs:∀b,bsize w b≤bsize w' b):VR val ρ' w' s v:=by
 cases s with
 |optr id off=>obtain⟨p,h1,h2⟩:=h;exact⟨p,ho _ _ h1,h2⟩
 |osl id off len cap s=>obtain⟨p,c,h1,h2,h3,h4,h5,h6⟩:=h;exact⟨p,c,ho _ _ h1,h2,h3,h4,Nat.le_trans h5 (hs _),h6⟩
 |fn f caps=>obtain⟨vs,h1,h2⟩:=h;exact⟨vs,h1,h2.imp λa b ⟨q,hq,e⟩=>⟨q,ho _ _ hq,e⟩⟩
 |mp id=>obtain⟨p,h1,h2⟩:=h;exact⟨p,ho _ _ h1,h2⟩
 |_=>exact h
theorem VRs.mono {l:List SV} {vs:List Value} (h:All2 (VR val ρ w) l vs) (ho:∀id p,ρ id=some p→ρ' id=some p) (hs:∀b,bsize w b≤bsize w' b):All2 (VR val ρ' w') l vs:=
 h.imp λ_ _ h=>h.mono ho hs
theorem CVR.mono {s:CV} {v:Value} (h:CVR val ρ w s v) (ho:∀id p,ρ id=some p→ρ' id=some p) (hs:∀b,bsize w b≤bsize w' b):CVR val ρ' w' s v:=by
 cases s with
 |one s=>exact VR.mono h ho hs
 |ag l=>obtain⟨vs,e,h⟩:=h;exact⟨vs,e,VRs.mono h ho hs⟩
theorem AVR.mono {s:AV} {v:Value} (h:AVR val ρ w s v) (ho:∀id p,ρ id=some p→ρ' id=some p) (hs:∀b,bsize w b≤bsize w' b):AVR val ρ' w' s v:=by
 cases s with
 |one s=>exact VR.mono h ho hs
 |ag l=>obtain⟨vs,e,h⟩:=h;exact⟨vs,e,VRs.mono h ho hs⟩
 |tp l=>obtain⟨vs,e,h⟩:=h;exact⟨vs,e,h.imp λ_ _ h=>h.mono ho hs⟩
theorem Own.mono {id:Nat} {cs:List SV} (h:Own val ρ w id cs) (ho:∀id p,ρ id=some p→ρ' id=some p) (hs:∀b,bsize w b≤bsize w' b)
 (hk:∀p,ρ id=some p→w'.heap[p.1]?=w.heap[p.1]?):Own val ρ' w' id cs:=by
 obtain⟨p,C,ty,fr,h1,h2,hfr,h3,h4⟩:=h
 exact⟨p,C,ty,fr,ho _ _ h1,(hk p h1).trans h2,hfr,h3,λi s hi=>let⟨v,e,r⟩:=h4 i s hi;⟨v,e,r.mono ho hs⟩⟩
theorem KyR.mono {s:SV} {v:Value} (h:KyR val ρ w s v) (ho:∀id p,ρ id=some p→ρ' id=some p) (hs:∀b,bsize w b≤bsize w' b):KyR val ρ' w' s v:=by
 cases s<;>first|exact h|(simp only[KyR]at h⊢;exact VR.mono h ho hs)
theorem EntR.mono {agg:Bool} {e:SV×List SV} {m:MapEntry} (h:EntR val ρ w agg e m) (ho:∀id p,ρ id=some p→ρ' id=some p) (hs:∀b,bsize w b≤bsize w' b):EntR val ρ' w' agg e m:=
 ⟨h.1.mono ho hs,let⟨vs,h1,h2⟩:=h.2;⟨vs,h1,VRs.mono h2 ho hs⟩⟩
theorem OwnS.mono {id:Nat} {cs:List SV} (h:OwnS val ρ w id cs) (ho:∀id p,ρ id=some p→ρ' id=some p) (hs:∀b,bsize w b≤bsize w' b)
 (hk:∀p,ρ id=some p→w'.heap[p.1]?=w.heap[p.1]?):OwnS val ρ' w' id cs:=by
 cases h with
 |map p agg v es ms clock hp hw hv he hb hc=>exact .map p agg v es ms clock (ho _ _ hp) ((hk _ hp).trans hw) hv (he.imp λ_ _ h=>h.mono ho hs) hb hc
 |text g l n C ty fr hp hw hf hn hl hC=>exact .text g l n C ty fr (ho _ _ hp) ((hk _ hp).trans hw) hf hn hl hC
 |bld p ty a s va vs hp hw ha hv=>exact .bld p ty a s va vs (ho _ _ hp) ((hk _ hp).trans hw) ha (hv.mono ho hs)
 |box p ty fr s v hp hw hv=>exact .box p ty fr s v (ho _ _ hp) ((hk _ hp).trans hw) (hv.mono ho hs)
 |glob p kd C ty fr v hp hw hv hg=>exact .glob p kd C ty fr v (ho _ _ hp) ((hk _ hp).trans hw) hv hg
theorem OwnG.mono {id:Nat} {cs:List SV} (h:OwnG val ρ w id cs) (ho:∀id p,ρ id=some p→ρ' id=some p) (hs:∀b,bsize w b≤bsize w' b)
 (hk:∀p,ρ id=some p→w'.heap[p.1]?=w.heap[p.1]?):OwnG val ρ' w' id cs:=h.imp (λh=>h.mono ho hs hk) (λh=>h.mono ho hs hk)
theorem OwnR.mono {id:Nat} {cs:List SV} (h:OwnR val ρ w id cs) (ho:∀id p,ρ id=some p→ρ' id=some p) (hs:∀b,bsize w b≤bsize w' b)
 (hk:∀p,ρ id=some p→w'.heap[p.1]?=w.heap[p.1]?):OwnR val ρ' w' id cs:=by
 obtain⟨p,C,ty,fr,h1,h2,h3,h4⟩:=h
 exact⟨p,C,ty,fr,ho _ _ h1,(hk p h1).trans h2,h3,λi s hi=>let⟨v,e,r⟩:=h4 i s hi;⟨v,e,r.mono ho hs⟩⟩
theorem OwnF.mono {id:Nat} {cs:List SV} (h:OwnF val ρ w id cs) (ho:∀id p,ρ id=some p→ρ' id=some p) (hs:∀b,bsize w b≤bsize w' b)
 (hk:∀p,ρ id=some p→w'.heap[p.1]?=w.heap[p.1]?):OwnF val ρ' w' id cs:=h.imp (λh=>h.mono ho hs hk) (λh=>h.mono ho hs hk)
theorem OwnF.lt {id:Nat} {cs:List SV} (h:OwnF val ρ w id cs) {p:Nat×Nat} (hp:ρ id=some p):p.1<w.heap.size:=by
 obtain⟨q,o,h1,h2⟩:=h.at
 rw[hp]at h1;cases h1
 rcases Nat.lt_or_ge p.1 w.heap.size with h|h
 ·exact h
 ·simp[Array.getElem?_eq_none h]at h2
theorem OwnG.lt {id:Nat} {cs:List SV} (h:OwnG val ρ w id cs) {p:Nat×Nat} (hp:ρ id=some p):p.1<w.heap.size:=by
 obtain⟨q,o,h1,h2⟩:=h.at
 rw[hp]at h1;cases h1
 rcases Nat.lt_or_ge p.1 w.heap.size with h|h
 ·exact h
 ·simp[Array.getElem?_eq_none h]at h2
theorem known_one {s:SV} {v:Value} (h:VR val ρ w s v) (hk:s.known=true):v.oneCell'=true:=by
 cases s with
 |un=>cases hk
 |optr=>obtain⟨p,_,rfl⟩:=h;rfl
 |osl=>obtain⟨p,c,_,rfl,_⟩:=h;rfl
 |esl=>obtain⟨p,rfl⟩:=h;rfl
 |zsl=>obtain⟨p,c,rfl⟩:=h;rfl
 |fn=>obtain⟨p,rfl,_⟩:=h;rfl
 |str l n=>obtain⟨_,rfl⟩:=h;rfl
 |mp=>obtain⟨p,_,_,rfl⟩:=h;rfl
 |mk=>exact h.elim
 |_=>cases h;rfl
theorem known_all {l:List SV} {vs:List Value} (h:All2 (VR val ρ w) l vs) (hk:knownAll l=true):∀v∈vs,v.oneCell'=true:=by
 rw[knownAll_iff]at hk
 induction l generalizing vs with
 |nil=>cases vs with
  |nil=>simp
  |cons b y=>exact h.elim
 |cons a x ih=>cases vs with
  |nil=>exact h.elim
  |cons b y=>
   intro v hv
   simp only[List.mem_cons]at hv
   rcases hv with rfl|hv
   ·exact known_one h.1 (hk a (by simp))
   ·exact ih h.2 (λs hs=>hk s (by simp[hs])) v hv
theorem cells_of {v:AV} {x:Value} {l:List SV} (h:AVR val ρ w v x) (hl:v.cells?=some l) (hk:knownAll l=true):
 ∃vs:List Value,x.cells=vs.toArray∧All2 (VR val ρ w) l vs∧∀v∈vs,v.oneCell'=true:=by
 cases v with
 |one s=>
  simp[AV.cells?]at hl;subst hl
  have hs:s.known=true:=by rw[knownAll_iff]at hk;exact hk s (by simp)
  have h1:=known_one h hs
  refine⟨[x],?_,⟨h,trivial⟩,by simpa using h1⟩
  cases x<;>first|rfl|cases h1
 |ag l'=>
  simp[AV.cells?]at hl;subst hl
  obtain⟨vs,rfl,h2⟩:=h
  exact⟨vs,rfl,h2,known_all h2 hk⟩
 |tp l'=>simp[AV.cells?]at hl
theorem addr_add (b o n:Nat):Addr.add ⟨b,o,none⟩ n=⟨b,o+n,none⟩:=by
 unfold Addr.add;split
 ·subst_vars;rfl
 ·rfl
theorem run_storeFr (P:Program) (g o:Nat) (t:TypeId) (fr:Nat×Nat):∀(vs:List Value) (i:Nat) (cur:Array Value) (w:World),w.heap[g]?=some (.cells cur t fr)→(∀x,o+i≤x→x<o+i+vs.length→(decide (fr.1≤x)&&decide (x<fr.2))=false)→o+i+vs.length≤cur.size→(∀v∈vs,v.oneCell'=true)→
 (storeCells ⟨g,o,none⟩ vs i).run P w=.ok () (w.setRow g (cur.toList.take (o+i)++vs++cur.toList.drop (o+i+vs.length)).toArray)
 |[],i,cur,w,hg,_,_,_=>by
  simp only[storeCells,List.append_nil,List.length_nil,Nat.add_zero,List.take_append_drop,Array.toArray_toList]
  rw[setRow_self w g cur t fr hg]
  rfl
 |v::rest,i,cur,w,hg,hf,hl,h1=>by
  have hi:o+i<cur.size:=by simp at hl;omega
  have hadd:(⟨g,o,none⟩:Addr).add i=⟨g,o+i,none⟩:=by unfold Addr.add;split<;>simp_all
  have hcell:w.cell? ⟨g,o+i,none⟩=some cur[o+i]:=by simp[World.cell?,hg,hi]
  have hfro:w.frozen? ⟨g,o+i,none⟩=false:=by
   have:=hf (o+i) (Nat.le_refl _) (by simp)
   simp only[World.frozen?,hg]
   exact this
  have hst:(store ((⟨g,o,none⟩:Addr).add i) v).run P w=.ok () (w.setRow g (cur.setIfInBounds (o+i) v)):=by
   rw[hadd,run_store P w _ v _ (h1 v (by simp)),hcell]
   simp[hfro,setCell_eq_setRow w g (o+i) cur t fr v hg]
  have ih:=run_storeFr P g o t fr rest (i+1) (cur.setIfInBounds (o+i) v) (w.setRow g (cur.setIfInBounds (o+i) v)) (setRow_heap w g cur _ t _ hg) (λx h2 h3=>hf x (by omega) (by simp;omega)) (by simp at hl⊢;omega) (λx hx=>h1 x (by simp[hx]))
  simp only[storeCells,Sem.run_bind,hst,Result.andThen_ok,ih,setRow_setRow]
  congr 3
  have e:=list_seg_step cur.toList (o+i) v rest (by simp at hl⊢;omega)
  simpa[Array.toList_setIfInBounds,Nat.add_assoc]using e
theorem OwnR.read {P:Program} {id:Nat} {cs:List SV} (h:OwnR val ρ w id cs) {p:Nat×Nat} (hp:ρ id=some p) {off n:Nat} (hn:off+n≤cs.length):
 ∃vs:List Value,vs.length=n∧All2 (VR val ρ w) ((cs.drop off).take n) vs∧(∀j v,vs[j]?=some v→w.cell? ⟨p.1,p.2+off+j,none⟩=some v)∧
  (loadCells ⟨p.1,p.2+off,none⟩ n).run P w=.ok vs.toArray w:=by
 obtain⟨q,C,ty,fr,h1,h2,h3,h4⟩:=h
 rw[hp]at h1;cases h1
 have hc:∀j v,((C.toList.drop (p.2+off)).take n)[j]?=some v→w.cell? ⟨p.1,p.2+off+j,none⟩=some v:=by
  intro j v hj
  rw[List.getElem?_take]at hj
  split at hj
  ·simp only[List.getElem?_drop]at hj
   simp only[World.cell?,h2]
   simpa using hj
  ·simp at hj
 have hlen:((C.toList.drop (p.2+off)).take n).length=n:=by simp;omega
 refine⟨(C.toList.drop (p.2+off)).take n,hlen,?_,hc,?_⟩
 ·refine All2.of_get (by rw[hlen];simp;omega) λi a b ha hb=>?_
  rw[List.getElem?_take]at ha hb
  by_cases hi:i<n
  ·simp only[hi,if_true,List.getElem?_drop]at ha hb
   obtain⟨v,e,r⟩:=h4 (off+i) a ha
   rw[show p.2+(off+i)=p.2+off+i by omega]at e
   have:C.toList[p.2+off+i]?=some v:=by simpa using e
   rw[this]at hb;cases hb;exact r
  ·simp[hi]at ha
 ·have:=run_loadCells_list (P:=P) w ⟨p.1,p.2+off,none⟩ ((C.toList.drop (p.2+off)).take n) (λj v hj=>by rw[addr_add];exact hc j v hj)
  rwa [hlen]at this
theorem bsize_alloc (o:Obj) (b:Nat):bsize w b≤bsize (w.alloc o) b:=by
 unfold bsize
 by_cases h:b<w.heap.size
 ·have:(w.alloc o).heap[b]?=w.heap[b]?:=by
   show(w.heap.push o)[b]?=_
   rw[Array.getElem?_push,if_neg (by omega)]
  rw[this];exact Nat.le_refl _
 ·have:w.heap[b]?=none:=Array.getElem?_eq_none (by omega)
  rw[this];exact Nat.zero_le _
theorem alloc_old (o:Obj) {b:Nat} (h:b<w.heap.size):(w.alloc o).heap[b]?=w.heap[b]?:=by
 show(w.heap.push o)[b]?=_
 rw[Array.getElem?_push,if_neg (by omega)]
theorem alloc_new (o:Obj):(w.alloc o).heap[w.heap.size]?=some o:=by
 show(w.heap.push o)[w.heap.size]?=_
 simp
theorem Fr.refl (ρ:Rho) (mu:St) (w:World):Fr ρ mu w w:=⟨rfl,rfl,rfl,Nat.le_refl _,λ_ _ _=>rfl,λ_=>Nat.le_refl _⟩
theorem Ext.refl (ρ:Rho) (n n':Nat):Ext ρ ρ n n':=⟨λ_ _ h=>h,λ_ _ h=>.inl h⟩
end
end Go.Ev
namespace Go.Ev
section
variable {val:Nat→Int} {ρ:Rho} {fz:Fz} {mu:St} {w:World} {n n':Nat}
def Post (val:Nat→Int) (ρ:Rho) (fz:Fz) (mu:St) (n:Nat) (w:World) (v:AV) (mu':St) (n':Nat) (x:Value) (w':World):Prop:=
 ∃ρ',Ext ρ ρ' n n'∧Rel val ρ' fz mu' w'∧AVR val ρ' w' v x∧Fr ρ mu w w'∧NewB ρ ρ' mu mu' w∧NewI mu mu' n n'
theorem NewB.refl:NewB ρ ρ mu mu w:=λid p hl hp=>.inr ⟨id,p,hl,hp,rfl⟩
theorem NewI.refl:NewI mu mu n n':=λ_ h=>.inl h
theorem post_same {v:AV} {x:Value} (hr:Rel val ρ fz mu w) (h:AVR val ρ w v x):Post val ρ fz mu n w v mu n x w:=
 ⟨ρ,Ext.refl _ _ _,hr,h,Fr.refl _ _ _,NewB.refl,NewI.refl⟩
structure Like (w w1:World):Prop where
 heap:w1.heap=w.heap
 os:w1.os=w.os
 tape:w1.tape=w.tape
 output:w1.output=w.output
theorem Like.refl (w:World):Like w w:=⟨rfl,rfl,rfl,rfl⟩
theorem Like.drew (w:World):Like w w.drew:=⟨rfl,rfl,rfl,rfl⟩
theorem Like.bsize {w1:World} (h:Like w w1) (b:Nat):bsize w1 b=bsize w b:=by unfold Ev.bsize;rw[h.heap]
theorem Like.cell {w1:World} (h:Like w w1) (a:Addr):w1.cell? a=w.cell? a:=by unfold World.cell?;rw[h.heap]
def upd (ρ:Rho) (n:Nat) (p:Nat×Nat):Rho:=λid=>if id=n then some p else ρ id
theorem upd_same (ρ:Rho) (n:Nat) (p:Nat×Nat):upd ρ n p n=some p:=by simp[upd]
theorem upd_old {p:Nat×Nat} (h:ρ n=none) (id:Nat) (q:Nat×Nat) (hq:ρ id=some q):upd ρ n p id=some q:=by
 unfold upd
 split
 ·subst_vars;rw[h]at hq;cases hq
 ·exact hq
theorem upd_ext {p:Nat×Nat} (h:ρ n=none):Ext ρ (upd ρ n p) n (n+1):=
 ⟨λid q hq=>upd_old h id q hq,λid q hq=>by
  unfold upd at hq
  split at hq
  ·subst_vars;exact .inr ⟨Nat.le_refl _,Nat.lt_succ_self _⟩
  ·exact .inl hq⟩
theorem new_block {w1:World} (hl:Like w w1) (hr:Rel val ρ fz mu w) (hn:ρ n=none) {cs:List SV} {C:Array Value} {ty:TypeId}
 (hc:cs.length≤C.size) (hv:∀(i:Nat) s,cs[i]?=some s→∃v,C[i]?=some v∧VR val ρ w s v):
 Ext ρ (upd ρ n (w.heap.size,0)) n (n+1)∧Rel val (upd ρ n (w.heap.size,0)) fz ((n,cs)::mu) (w1.alloc (.cells C ty))∧Fr ρ mu w (w1.alloc (.cells C ty))∧
  NewB ρ (upd ρ n (w.heap.size,0)) mu ((n,cs)::mu) w∧NewI mu ((n,cs)::mu) n (n+1)∧bsize (w1.alloc (.cells C ty)) w.heap.size=C.size:=by
 have hsz:w1.heap.size=w.heap.size:=by rw[hl.heap]
 have hbs:∀b,bsize w b≤bsize (w1.alloc (.cells C ty)) b:=λb=>by rw[←hl.bsize b];exact bsize_alloc _ _
 have hold:∀b,b<w.heap.size→(w1.alloc (.cells C ty)).heap[b]?=w.heap[b]?:=λb hb=>by
  rw[alloc_old _ (by omega),hl.heap]
 have hnew:(w1.alloc (.cells C ty)).heap[w.heap.size]?=some (.cells C ty (0,0)):=by
  have:=alloc_new (w:=w1) (.cells C ty);rwa [hsz]at this
 have hup:=λid q hq=>upd_old (p:=(w.heap.size,0)) hn id q hq
 have keepOwn:∀id c,OwnG val ρ w id c→OwnG val (upd ρ n (w.heap.size,0)) (w1.alloc (.cells C ty)) id c:=λid c ho=>
  ho.mono hup hbs λp hp=>hold _ (ho.lt hp)
 have keepF:∀id c,OwnF val ρ w id c→OwnF val (upd ρ n (w.heap.size,0)) (w1.alloc (.cells C ty)) id c:=λid c ho=>
  ho.mono hup hbs λp hp=>hold _ (ho.lt hp)
 have hfn:fz n=none:=by
  cases e:fz n with
  |none=>rfl
  |some c=>obtain⟨p,o,h1,_⟩:=(hr.rf n c e).at;rw[hn]at h1;cases h1
 have hmn:look mu n=none:=by
  cases e:look mu n with
  |none=>rfl
  |some c=>obtain⟨p,o,h1,_⟩:=(hr.rm n c e).at;rw[hn]at h1;cases h1
 refine⟨upd_ext hn,⟨λid c h=>keepF id c (hr.rf id c h),λid c h=>?_,λid c h=>?_,λid id' p p' h h' hp hp' he=>?_⟩,
  ⟨hl.os,hl.tape,hl.output,by show _≤(w1.heap.push _).size;simp[hl.heap],λb hb _=>hold b hb,hbs⟩,λid p h hp=>?_,λid h=>?_,?_⟩
 ·rw[look_cons]at h
  split at h
  ·rename_i e
   cases h
   subst e
   refine .inl ⟨(w.heap.size,0),C,ty,(0,0),upd_same _ _ _,hnew,FrOk.zero _,by simpa using hc,λi s hi=>?_⟩
   obtain⟨v,e1,r⟩:=hv i s hi
   exact⟨v,by simpa using e1,r.mono hup hbs⟩
  ·exact keepOwn id c (hr.rm id c h)
 ·rw[look_cons]at h
  split at h
  ·rename_i e;subst e;exact hfn
  ·exact hr.dm id c h
 ·have key:∀id p,((look ((n,cs)::mu) id).isSome∨(fz id).isSome)→upd ρ n (w.heap.size,0) id=some p→id=n∧p.1=w.heap.size∨id≠n∧ρ id=some p∧((look mu id).isSome∨(fz id).isSome)∧p.1<w.heap.size:=by
   intro id p h hp
   by_cases e:id=n
   ·left;subst e;rw[upd_same]at hp;cases hp;exact⟨rfl,rfl⟩
   ·right
    have hp':ρ id=some p:=by simpa[upd,e]using hp
    have hl':(look mu id).isSome∨(fz id).isSome:=by
     rcases h with h|h
     ·rw[look_cons]at h
      simp only[show¬n=id fromλx=>e x.symm,if_false]at h
      exact .inl h
     ·exact .inr h
    refine⟨e,hp',hl',?_⟩
    rcases hl' with h|h
    ·obtain⟨c,hc⟩:=Option.isSome_iff_exists.1 h;exact(hr.rm id c hc).lt hp'
    ·obtain⟨c,hc⟩:=Option.isSome_iff_exists.1 h;exact(hr.rf id c hc).lt hp'
  rcases key id p (.inl h) hp with⟨e1,e2⟩|⟨e1,e2,e3,e4⟩
  ·rcases key id' p' h' hp' with⟨f1,f2⟩|⟨f1,f2,f3,f4⟩
   ·rw[e1,f1]
   ·omega
  ·rcases key id' p' h' hp' with⟨f1,f2⟩|⟨f1,f2,f3,f4⟩
   ·omega
   ·have hm:(look mu id).isSome:=by
     rw[look_cons]at h
     simpa[show¬n=id fromλx=>e1 x.symm]using h
    exact hr.dj id id' p p' hm f3 e2 f2 he
 ·rw[look_cons]at h
  by_cases e:id=n
  ·subst e;rw[upd_same]at hp;cases hp;exact .inl (Nat.le_refl _)
  ·simp only[show¬n=id fromλx=>e x.symm,if_false]at h
   exact .inr ⟨id,p,h,by simpa[upd,e]using hp,rfl⟩
 ·rw[look_cons]at h
  by_cases e:id=n
  ·subst e;exact .inr ⟨Nat.le_refl _,Nat.lt_succ_self _⟩
  ·simp only[show¬n=id fromλx=>e x.symm,if_false]at h
   exact .inl h
 ·unfold Ev.bsize;rw[hnew]
theorem setRow_bsize {g:Nat} {old C:Array Value} {ty:TypeId} {fr:Nat×Nat} (hg:w.heap[g]?=some (.cells old ty fr)) (hs:C.size=old.size) (b:Nat):bsize (w.setRow g C) b=bsize w b:=by
 unfold Ev.bsize
 by_cases h:b=g
 ·subst h;rw[setRow_heap w b old C ty fr hg,hg];exact hs
 ·rw[setRow_other w g b C h]
theorem put_block {P:Program} (hr:Rel val ρ fz mu w) {id:Nat} {cs vs:List SV} {off:Nat} (hl:look mu id=some cs) (hm:mkd cs=false) (ho:off+vs.length≤cs.length)
 {xs:List Value} (hv:All2 (VR val ρ w) vs xs) (h1:∀x∈xs,x.oneCell'=true):
 ∃p w',ρ id=some p∧(storeCells ⟨p.1,p.2+off,none⟩ xs).run P w=.ok () w'∧Rel val ρ fz (putS mu id (over cs off vs)) w'∧Fr ρ mu w w'∧
  NewB ρ ρ mu (putS mu id (over cs off vs)) w∧NewI mu (putS mu id (over cs off vs)) n n'∧(∀b,bsize w' b=bsize w b):=by
 obtain⟨p,C,ty,fr,hp,hC,hfr,hsz,hcs⟩:=(hr.rm id cs hl).plain hm
 have hlen:=hv.length
 have hfit:p.2+off+0+xs.length≤C.size:=by omega
 have hrun:=run_storeFr P p.1 (p.2+off) ty fr xs 0 C w hC (λx _ h2=>hfr.no (by omega)) hfit h1
 simp only[Nat.add_zero]at hrun
 generalize hD:(C.toList.take (p.2+off)++xs++C.toList.drop (p.2+off+xs.length)).toArray=D at hrun
 have hDs:D.size=C.size:=by rw[←hD];simp;omega
 have hDget:∀i:Nat,D[i]?=if i<p.2+off then C[i]? else if i<p.2+off+xs.length then xs[i-(p.2+off)]? else C[i]?:=by
  intro i
  rw[←hD]
  simp only[List.getElem?_toArray]
  by_cases a1:i<p.2+off
  ·rw[List.append_assoc,List.getElem?_append_left (by simp;omega)]
   simp[a1]
  ·rw[List.append_assoc,List.getElem?_append_right (by simp;omega)]
   simp only[a1,if_false,List.length_take,Array.length_toList]
   rw[show min (p.2+off) C.size=p.2+off by omega]
   by_cases a2:i<p.2+off+xs.length
   ·rw[List.getElem?_append_left (by omega)];simp[a2]
   ·rw[List.getElem?_append_right (by omega)]
    simp only[a2,if_false,List.getElem?_drop,Array.getElem?_toList]
    congr 1;omega
 have hbs:∀b,bsize (w.setRow p.1 D) b=bsize w b:=setRow_bsize hC hDs
 have hbs':∀b,bsize w b≤bsize (w.setRow p.1 D) b:=λb=>Nat.le_of_eq (hbs b).symm
 have hother:∀b,b≠p.1→(w.setRow p.1 D).heap[b]?=w.heap[b]?:=λb hb=>setRow_other w p.1 b D hb
 have hself:(w.setRow p.1 D).heap[p.1]?=some (.cells D ty fr):=setRow_heap w p.1 C D ty fr hC
 have hlk:∀id',(look (putS mu id (over cs off vs)) id').isSome=(look mu id').isSome:=by
  intro id'
  rw[look_putS]
  split
  ·subst_vars;simp[hl]
  ·rfl
 have keepOwn:∀id' c,id'≠id→((look mu id').isSome∨(fz id').isSome)→OwnG val ρ w id' c→OwnG val ρ (w.setRow p.1 D) id' c:=by
  intro id' c hne hlv hown
  refine hown.mono (λ_ _ h=>h) hbs' λq hq=>hother _ λe=>hne ?_
  exact(hr.dj id id' p q (by simp[hl]) hlv hp hq e.symm).symm
 have keepF:∀id' c,id'≠id→((look mu id').isSome∨(fz id').isSome)→OwnF val ρ w id' c→OwnF val ρ (w.setRow p.1 D) id' c:=by
  intro id' c hne hlv hown
  refine hown.mono (λ_ _ h=>h) hbs' λq hq=>hother _ λe=>hne ?_
  exact(hr.dj id id' p q (by simp[hl]) hlv hp hq e.symm).symm
 refine⟨p,w.setRow p.1 D,hp,hrun,⟨λid' c h=>?_,λid' c h=>?_,λid' c h=>?_,λa b q q' ha hb hq hq' he=>?_⟩,
  ⟨rfl,rfl,rfl,by simp,λb _ hb=>hother b λe=>hb id p (by simp[hl]) hp e.symm,hbs'⟩,λa q ha hq=>.inr ⟨a,q,by rwa [hlk]at ha,hq,rfl⟩,λa ha=>.inl (by rwa [hlk]at ha),hbs⟩
 ·refine keepF id' c (λe=>?_) (.inr (by simp[h])) (hr.rf id' c h)
  subst e;have:=hr.dm id' cs hl;rw[this]at h;cases h
 ·rw[look_putS]at h
  split at h
  ·rename_i e;subst e
   simp only[hl,Option.map_some,Option.some.injEq]at h
   subst h
   refine .inl ⟨p,D,ty,fr,hp,hself,by rw[hDs];exact hfr,by rw[over_length ho,hDs];exact hsz,λi s hi=>?_⟩
   rw[over_get ho]at hi
   rw[hDget]
   by_cases a1:i<off
   ·simp only[a1,if_true]at hi
    simp only[show p.2+i<p.2+off by omega,if_true]
    obtain⟨v,e,r⟩:=hcs i s hi
    exact⟨v,e,r.mono (λ_ _ h=>h) hbs'⟩
   ·simp only[a1,if_false]at hi
    simp only[show¬p.2+i<p.2+off by omega,if_false]
    by_cases a2:i<off+vs.length
    ·simp only[a2,if_true]at hi
     simp only[show p.2+i<p.2+off+xs.length by omega,if_true]
     obtain⟨v,e,r⟩:=hv.get hi
     exact⟨v,by rw[show p.2+i-(p.2+off)=i-off by omega];exact e,r.mono (λ_ _ h=>h) hbs'⟩
    ·simp only[a2,if_false]at hi
     simp only[show¬p.2+i<p.2+off+xs.length by omega,if_false]
     obtain⟨v,e,r⟩:=hcs i s hi
     exact⟨v,e,r.mono (λ_ _ h=>h) hbs'⟩
  ·rename_i e
   exact keepOwn id' c (λx=>e x.symm) (.inl (by simp[h])) (hr.rm id' c h)
 ·have:=hlk id'
  rw[h]at this
  obtain⟨c',hc'⟩:=Option.isSome_iff_exists.1 this.symm
  exact hr.dm id' c' hc'
 ·rw[hlk]at ha hb
  exact hr.dj a b q q' ha hb hq hq' he
theorem Rel.like {w1:World} (hl:Like w w1) (hr:Rel val ρ fz mu w):Rel val ρ fz mu w1:=
 ⟨fun id c h=>(hr.rf id c h).mono (fun _ _ h=>h) (fun b=>Nat.le_of_eq (hl.bsize b).symm) fun p _=>by rw[hl.heap],
  λid c h=>(hr.rm id c h).mono (λ_ _ h=>h) (λb=>Nat.le_of_eq (hl.bsize b).symm) λp _=>by rw[hl.heap],hr.dm,hr.dj⟩
theorem Like.fr {w1:World} (hl:Like w w1):Fr ρ mu w w1:=⟨hl.os,hl.tape,hl.output,by rw[hl.heap];exact Nat.le_refl _,λb _ _=>by rw[hl.heap],λb=>Nat.le_of_eq (hl.bsize b).symm⟩
theorem Fr.trans {ρ':Rho} {mu1:St} {w1 w2:World} (h:Fr ρ mu w w1) (hb:NewB ρ ρ' mu mu1 w) (k:Fr ρ' mu1 w1 w2):Fr ρ mu w w2:=
 ⟨k.os.trans h.os,k.tape.trans h.tape,k.output.trans h.output,Nat.le_trans h.size k.size,λb hlt hn=>by
  rw[k.keep b (Nat.lt_of_lt_of_le hlt h.size) λid p hl hp e=>?_]
  ·exact h.keep b hlt hn
  ·rcases hb id p hl hp with h1|⟨id0,p0,h1,h2,h3⟩
   ·omega
   ·exact hn id0 p0 h1 h2 (h3.trans e),λb=>Nat.le_trans (h.shape b) (k.shape b)⟩
theorem Ext.trans {ρ' ρ'':Rho} {n1 n2:Nat} (h:Ext ρ ρ' n n1) (k:Ext ρ' ρ'' n1 n2) (h1:n≤n1) (h2:n1≤n2):Ext ρ ρ'' n n2:=
 ⟨λid p hp=>k.old _ _ (h.old _ _ hp),λid p hp=>by
  rcases k.new id p hp with a|a
  ·rcases h.new id p a with b|b
   ·exact .inl b
   ·exact .inr ⟨b.1,by omega⟩
  ·exact .inr ⟨by omega,a.2⟩⟩
theorem NewB.trans {ρ' ρ'':Rho} {mu1 mu2:St} {w1:World} (h:NewB ρ ρ' mu mu1 w) (k:NewB ρ' ρ'' mu1 mu2 w1) (hs:w.heap.size≤w1.heap.size):NewB ρ ρ'' mu mu2 w:=by
 intro id p hl hp
 rcases k id p hl hp with h1|⟨id0,p0,h1,h2,h3⟩
 ·exact .inl (by omega)
 ·rcases h id0 p0 h1 h2 with h4|⟨id1,p1,h4,h5,h6⟩
  ·exact .inl (by omega)
  ·exact .inr ⟨id1,p1,h4,h5,h6.trans h3⟩
theorem NewI.trans {mu1 mu2:St} {n1 n2:Nat} (h:NewI mu mu1 n n1) (k:NewI mu1 mu2 n1 n2) (h1:n≤n1) (h2:n1≤n2):NewI mu mu2 n n2:=by
 intro id hl
 rcases k id hl with a|a
 ·rcases h id a with b|b
  ·exact .inl b
  ·exact .inr ⟨b.1,by omega⟩
 ·exact .inr ⟨by omega,a.2⟩
theorem FreshN.later {ρ':Rho} {n1 n2:Nat} (hf:FreshN ρ n n2) (he:Ext ρ ρ' n n1) (h1:n≤n1):FreshN ρ' n1 n2:=by
 intro id h h'
 cases e:ρ' id with
 |none=>rfl
 |some p=>
  rcases he.new id p e with a|a
  ·rw[hf id (by omega) h']at a;cases a
  ·omega
theorem FreshN.sub {n1 n2 m:Nat} (hf:FreshN ρ n n2) (h1:n≤n1) (h2:m≤n2):FreshN ρ n1 m:=λid h h'=>hf id (by omega) (by omega)
end
end Go.Ev
