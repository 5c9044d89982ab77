/-
  ReplicaReceives: part 1 of what the proof is made of.
-/
import Derived.Orders
import Derived.Lib.ItoaNum
import Derived.Laws.Cells
import Derived.Laws.CopyRow
import Derived.Laws.Small
import Derived.Laws.Entries
import Derived.Laws.Strings
import Derived.Laws.StructEq
set_option linter.unusedVariables false
set_option linter.unusedSimpArgs false
noncomputable section
namespace Go.Ev
inductive SV where
 |un
 |int (k:IntKind) (n:Int)
 |bool (b:Bool)
 |str (l n:Nat)
 |nsl
 |npt
 |nfn
 |optr (id off:Nat)
 |osl (id off len cap s:Nat)
 |esl
 |zsl
 |fn (f:Nat) (caps:List (Nat×Nat))
 |sym (k:IntKind) (i:Nat)
 |nmp
 |mp (id:Nat)
 |nif
 |mk (t:Nat)
inductive CV where
 |one (s:SV)
 |ag (l:List SV)
inductive AV where
 |one (s:SV)
 |ag (l:List SV)
 |tp (l:List CV)
abbrev St:=List (Nat×List SV)
abbrev Fz:=Nat->Option (List SV)
abbrev TM:=List (List AV)
section
variable {R:Type}
def AV.onOne (v:AV) (z:R) (k:SV->R):R:=AV.rec (motive:=λ_=>R) k (λ_=>z) (λ_=>z) v
def AV.onAg (v:AV) (z:R) (k:List SV->R):R:=AV.rec (motive:=λ_=>R) (λ_=>z) k (λ_=>z) v
def AV.onTp (v:AV) (z:R) (k:List CV->R):R:=AV.rec (motive:=λ_=>R) (λ_=>z) (λ_=>z) k v
def AV.onCells (v:AV) (z:R) (k:List SV->R):R:=AV.rec (motive:=λ_=>R) (λs=>k [s]) k (λ_=>z) v
def SV.onInt (v:SV) (z:R) (k:IntKind->Int->R):R:=
 SV.rec (motive:=λ_=>R) z k (λ_=>z) (λ_ _=>z) z z z (λ_ _=>z) (λ_ _ _ _ _=>z) z z (λ_ _=>z) (λ_ _=>z) z (λ_=>z) z (λ_=>z) v
def SV.Qfv (v:SV) (z:R) (k:Bool->R):R:=
 SV.rec (motive:=λ_=>R) z (λ_ _=>z) k (λ_ _=>z) z z z (λ_ _=>z) (λ_ _ _ _ _=>z) z z (λ_ _=>z) (λ_ _=>z) z (λ_=>z) z (λ_=>z) v
def SV.onStr (v:SV) (z:R) (k:Nat->Nat->R):R:=
 SV.rec (motive:=λ_=>R) z (λ_ _=>z) (λ_=>z) k z z z (λ_ _=>z) (λ_ _ _ _ _=>z) z z (λ_ _=>z) (λ_ _=>z) z (λ_=>z) z (λ_=>z) v
def SV.onPtr (v:SV) (z:R) (k:Nat->Nat->R):R:=
 SV.rec (motive:=λ_=>R) z (λ_ _=>z) (λ_=>z) (λ_ _=>z) z z z k (λ_ _ _ _ _=>z) z z (λ_ _=>z) (λ_ _=>z) z (λ_=>z) z (λ_=>z) v
def SV.onSl (v:SV) (z:R) (k:Nat->Nat->Nat->Nat->Nat->R):R:=
 SV.rec (motive:=λ_=>R) z (λ_ _=>z) (λ_=>z) (λ_ _=>z) z z z (λ_ _=>z) k z z (λ_ _=>z) (λ_ _=>z) z (λ_=>z) z (λ_=>z) v
def SV.onFn (v:SV) (z:R) (k:Nat->List (Nat×Nat)->R):R:=
 SV.rec (motive:=λ_=>R) z (λ_ _=>z) (λ_=>z) (λ_ _=>z) z z z (λ_ _=>z) (λ_ _ _ _ _=>z) z z k (λ_ _=>z) z (λ_=>z) z (λ_=>z) v
def SV.onSym (v:SV) (z:R) (k:IntKind->Nat->R):R:=
 SV.rec (motive:=λ_=>R) z (λ_ _=>z) (λ_=>z) (λ_ _=>z) z z z (λ_ _=>z) (λ_ _ _ _ _=>z) z z (λ_ _=>z) k z (λ_=>z) z (λ_=>z) v
def SV.isStr (v:SV):Bool:=
 SV.rec (motive:=λ_=>Bool) false (λ_ _=>false) (λ_=>false) (λ_ _=>true) false false false (λ_ _=>false) (λ_ _ _ _ _=>false) false false (λ_ _=>false) (λ_ _=>false) false (λ_=>false) false (λ_=>false) v
def SV.known (v:SV):Bool:=
 SV.rec (motive:=λ_=>Bool) false (λ_ _=>true) (λ_=>true) (λ_ _=>true) true true true (λ_ _=>true) (λ_ _ _ _ _=>true) true true (λ_ _=>true) (λ_ _=>true) true (λ_=>true) true (λ_=>false) v
def SV.isMk (v:SV):Bool:=
 SV.rec (motive:=λ_=>Bool) false (λ_ _=>false) (λ_=>false) (λ_ _=>false) false false false (λ_ _=>false) (λ_ _ _ _ _=>false) false false (λ_ _=>false) (λ_ _=>false) false (λ_=>false) false (λ_=>true) v
def mkd (l:List SV):Bool:=List.rec (motive:=λ_=>Bool) false (λh _ _=>h.isMk) l
def SV.onMk (v:SV) (z:R) (k:Nat->R):R:=
 SV.rec (motive:=λ_=>R) z (λ_ _=>z) (λ_=>z) (λ_ _=>z) z z z (λ_ _=>z) (λ_ _ _ _ _=>z) z z (λ_ _=>z) (λ_ _=>z) z (λ_=>z) z k v
def Qeq (l:List SV):Bool:=List.rec (motive:=λ_=>Bool) true (λh _ ih=>cond h.known ih false) l
def fN (n:Nat) (k:Nat->R):R:=Nat.rec (motive:=λ_=>R) (k 0) (λm _=>k (Nat.succ m)) n
def fI (n:Int) (k:Int->R):R:=Int.rec (motive:=λ_=>R) (λm=>fN m λm=>k (Int.ofNat m)) (λm=>fN m λm=>k (Int.negSucc m)) n
def fB (b:Bool) (k:Bool->R):R:=Bool.rec (motive:=λ_=>R) (k false) (k true) b
def nth {α:Type} (d:α) (l:List α):Nat->α:=
 List.rec (motive:=λ_=>Nat->α) (λ_=>d) (λh _ ih i=>Nat.rec (motive:=λ_=>α) h (λj _=>ih j) i) l
def nthK {α:Type} (l:List α):Nat->R->(α->R)->R:=
 List.rec (motive:=λ_=>Nat->R->(α->R)->R) (λ_ z _=>z) (λh _ ih i z k=>Nat.rec (motive:=λ_=>R) (k h) (λj _=>ih j z k) i) l
def setK {α:Type} (l:List α):Nat->α->(List α->R)->R:=
 List.rec (motive:=λ_=>Nat->α->(List α->R)->R) (λ_ _ k=>k [])
  (λh t ih i v k=>Nat.rec (motive:=λ_=>R) (k (v::t)) (λj _=>ih j v λr=>k (h::r)) i) l
def takeK (l:List SV):Nat->R->(List SV->R)->R:=
 List.rec (motive:=λ_=>Nat->R->(List SV->R)->R) (λn z k=>Nat.rec (motive:=λ_=>R) (k []) (λ_ _=>z) n)
  (λh _ ih n z k=>Nat.rec (motive:=λ_=>R) (k []) (λm _=>ih m z λr=>k (h::r)) n) l
def subK (l:List SV):Nat->Nat->R->(List SV->R)->R:=
 List.rec (motive:=λ_=>Nat->Nat->R->(List SV->R)->R)
  (λoff n z k=>Nat.rec (motive:=λ_=>R) (Nat.rec (motive:=λ_=>R) (k []) (λ_ _=>z) n) (λ_ _=>z) off)
  (λh t ih off n z k=>Nat.rec (motive:=λ_=>R) (takeK (h::t) n z k) (λo _=>ih o n z k) off) l
def headK (vs:List SV):List SV->R->(List SV->R)->R:=
 List.rec (motive:=λ_=>List SV->R->(List SV->R)->R) (λl _ k=>k l)
  (λv _ ih l z k=>List.rec (motive:=λ_=>R) z (λ_ t _=>ih t z λr=>k (v::r)) l) vs
def overK (l:List SV):Nat->List SV->R->(List SV->R)->R:=
 List.rec (motive:=λ_=>Nat->List SV->R->(List SV->R)->R)
  (λoff vs z k=>Nat.rec (motive:=λ_=>R) (headK vs [] z k) (λ_ _=>z) off)
  (λh t ih off vs z k=>Nat.rec (motive:=λ_=>R) (headK vs (h::t) z k) (λo _=>ih o vs z λr=>k (h::r)) off) l
def appK (l:List SV):List SV->(List SV->R)->R:=
 List.rec (motive:=λ_=>List SV->(List SV->R)->R)
  (λm k=>k m) (λh _ ih m k=>ih m λr=>k (h::r)) l
def copyK (l:List SV):(List SV->R)->R:=
 List.rec (motive:=λ_=>(List SV->R)->R) (λk=>k []) (λh _ ih k=>ih λr=>k (h::r)) l
def lenK (l:List SV):Nat->(Nat->R)->R:=
 List.rec (motive:=λ_=>Nat->(Nat->R)->R) (λn k=>k n) (λ_ _ ih n k=>ih (Nat.succ n) k) l
def look (s:St):Nat->Option (List SV):=
 List.rec (motive:=λ_=>Nat->Option (List SV)) (λ_=>none) (λp _ ih id=>cond (Nat.beq p.1 id) (some p.2) (ih id)) s
def Qms (z:R) (k:List SV->R) (cs:List SV):R:=cond (mkd cs) z (k cs)
def Qh7 (s:St) (id:Nat) (z:R) (k:List SV->R):R:=Option.rec (motive:=λ_=>R) z (Qms z k) (look s id)
def Qhs (fz:Fz) (mu:St) (id:Nat) (z:R) (k:List SV->R):R:=
 Option.rec (motive:=λ_=>R) (Option.rec (motive:=λ_=>R) z (Qms z k) (fz id)) (Qms z k) (look mu id)
def with' (mu:St) (fz:Fz):Fz:=λid=>Option.rec (motive:=λ_=>Option (List SV)) (fz id) some (look mu id)
def putK (s:St):Nat->List SV->(St->R)->R:=
 List.rec (motive:=λ_=>Nat->List SV->(St->R)->R) (λ_ _ k=>k [])
  (λp t ih id c k=>cond (Nat.beq p.1 id) (k ((p.1,c)::t)) (ih id c λr=>k (p::r))) s
def killK (s:St):Nat->(St->R)->R:=
 List.rec (motive:=λ_=>Nat->(St->R)->R) (λ_ k=>k [])
  (λp _ ih id k=>cond (Nat.beq p.1 id) (ih id k) (ih id λr=>k (p::r))) s
def joinK (s:St):St->(St->R)->R:=
 List.rec (motive:=λ_=>St->(St->R)->R) (λm k=>k m) (λp _ ih m k=>ih m λr=>k (p::r)) s
inductive Od where
 |t (q r:Nat)
 |c (v:AV)
def noVal:AV:=.tp []
def get (tm:TM) (q r:Nat):AV:=nth (.one .un) (nth [] tm q) r
def ev (tm:TM) (x:Od):AV:=Od.rec (motive:=λ_=>AV) (λq r=>get tm q r) (λv=>v) x
def evs (tm:TM) (l:List Od):List AV:=l.map (ev tm)
def setTm (tm:TM) (q r:Nat) (v:AV) (k:TM->R):R:=setK (nth [] tm q) r v λc=>setK tm q c k
def ltI (a b:Int):Bool:=
 Int.rec (motive:=λ_=>Bool)
  (λm=>Int.rec (motive:=λ_=>Bool) (λn=>Nat.blt m n) (λ_=>false) b)
  (λm=>Int.rec (motive:=λ_=>Bool) (λ_=>true) (λn=>Nat.blt n m) b) a
def eqI (a b:Int):Bool:=
 Int.rec (motive:=λ_=>Bool)
  (λm=>Int.rec (motive:=λ_=>Bool) (λn=>Nat.beq m n) (λ_=>false) b)
  (λm=>Int.rec (motive:=λ_=>Bool) (λ_=>false) (λn=>Nat.beq m n) b) a
def wrapK (kd:IntKind) (n:Int) (k:Int->R):R:=
 Int.rec (motive:=λ_=>R)
  (λm=>cond (Nat.blt m 128) (fN m λm=>k (Int.ofNat m)) (fI (kd.wrap n) k))
  (λ_=>fI (kd.wrap n) k) n
def IntKind.eqb:IntKind->IntKind->Bool
 |.i64,.i64=>true
 |a,b=>decide (a=b)
def binI (op:BinOp) (kd:IntKind) (a b:Int) (z:R) (k:SV->R):R:=
 BinOp.rec (motive:=λ_=>R)
  (wrapK kd (Int.add a b) λn=>k (.int kd n))
  (wrapK kd (Int.sub a b) λn=>k (.int kd n))
  (wrapK kd (Int.mul a b) λn=>k (.int kd n))
  (cond (eqI b 0) z (fI (kd.wrap (a.tdiv b)) λn=>k (.int kd n)))
  (cond (eqI b 0) z (fI (a.tmod b) λn=>k (.int kd n)))
  (fI (kd.wrap (BitVec.ofInt kd.bits a&&&BitVec.ofInt kd.bits b).toNat) λn=>k (.int kd n))
  (fI (kd.wrap (BitVec.ofInt kd.bits a|||BitVec.ofInt kd.bits b).toNat) λn=>k (.int kd n))
  (fI (kd.wrap (BitVec.ofInt kd.bits a^^^BitVec.ofInt kd.bits b).toNat) λn=>k (.int kd n))
  z z
  (fI (kd.wrap (BitVec.ofInt kd.bits a&&&~~~(BitVec.ofInt kd.bits b)).toNat) λn=>k (.int kd n))
  (fB (eqI a b) λr=>k (.bool r))
  (fB (eqI a b) λr=>k (.bool (not r)))
  (fB (ltI a b) λr=>k (.bool r))
  (fB (ltI b a) λr=>k (.bool (not r)))
  (fB (ltI b a) λr=>k (.bool r))
  (fB (ltI a b) λr=>k (.bool (not r))) op
def shiftI (left:Bool) (kd:IntKind) (a b:Int) (z:R) (k:SV->R):R:=
 cond (ltI b 0) z (cond left (fI (kd.wrap (a*2^min b.toNat kd.bits)) λn=>k (.int kd n)) (fI (a.fdiv (2^min b.toNat kd.bits)) λn=>k (.int kd n)))
def strLt (l n l' n':Nat):Bool:=cond (Nat.blt (Nat.mul n (Nat.pow 256 l')) (Nat.mul n' (Nat.pow 256 l))) true (cond (Nat.beq (Nat.mul n (Nat.pow 256 l')) (Nat.mul n' (Nat.pow 256 l))) (Nat.blt l l') false)
def strEq (l n l' n':Nat):Bool:=cond (Nat.beq l l') (Nat.beq n n') false
def Qm9 (op:BinOp) (l n l' n':Nat) (z:R) (k:SV->R):R:=
 BinOp.rec (motive:=λ_=>R)
  (cond (Nat.ble (Nat.add l l') 1099511627776) (fN (Nat.add l l') λm=>fN (Nat.add (Nat.mul n (Nat.pow 256 l')) n') λr=>k (.str m r)) z)
  z z z z z z z z z z
  (fB (strEq l n l' n') λr=>k (.bool r))
  (fB (strEq l n l' n') λr=>k (.bool (not r)))
  (fB (strLt l n l' n') λr=>k (.bool r))
  (fB (strLt l' n' l n) λr=>k (.bool (not r)))
  (fB (strLt l' n' l n) λr=>k (.bool r))
  (fB (strLt l n l' n') λr=>k (.bool (not r))) op
def Qmt:Nat->SV->SV->Option Bool
 |0,.int k a,.int k' b=>cond (IntKind.eqb k k') (some (eqI a b)) none
 |1,.bool a,.bool b=>some (a==b)
 |2,.str l a,.str l' b=>some (strEq l a l' b)
 |_,_,_=>none
def Qgm:List Nat->List SV->List SV->Option Bool
 |[],[],[]=>some true
 |c::cs,a::x,b::y=>match Qmt c a b with
  |some true=>Qgm cs x y
  |some false=>(Qgm cs x y).map λ_=>false
  |none=>none
 |_,_,_=>none
def nilness:Bool->SV->Option Bool
 |true,.nsl=>some true
 |true,.osl ..=>some false
 |true,.esl=>some false
 |true,.zsl=>some false
 |false,.npt=>some true
 |false,.optr ..=>some false
 |_,_=>none
def digK (l:Nat):Nat->List SV->(List SV->R)->R:=
 Nat.rec (motive:=λ_=>Nat->List SV->(List SV->R)->R) (λ_ acc k=>k acc)
  (λ_ ih n acc k=>fN (Nat.mod n 256) λd=>fN (Nat.div n 256) λn=>ih n (.int .u8 (Int.ofNat d)::acc) k) l
def srcK (fz:Fz) (mu:St) (s:Nat) (x:SV) (z:R) (k:List SV->Nat->R):R:=
 SV.rec (motive:=λ_=>R) z (λ_ _=>z) (λ_=>z)
  (λl b=>cond (Nat.beq s 1) (digK l b [] λr=>k r l) z)
  (k [] 0) z z (λ_ _=>z)
  (λid off len _ s'=>cond (Nat.beq s' s) (Qhs fz mu id z λcs=>fN (Nat.mul len s) λm=>fN off λoff=>subK cs off m z λr=>k r len) z)
  (k [] 0) (k [] 0) (λ_ _=>z) (λ_ _=>z) z (λ_=>z) z (λ_=>z) x
def bound (x:Option AV) (d:Nat):Option Nat:=
 match x with
 |none=>some d
 |some (.one (.int _ n))=>if n<0 then none else some n.toNat
 |_=>none
def Qgl (s:Nat) (x:SV) (lo hi mx:Option AV):Option SV:=
 match x with
 |.str m b=>match mx with
  |some _=>none
  |none=>match bound hi m,bound lo 0 with
   |some h,some l=>if Nat.ble h m&&Nat.ble l h then some (.str (h-l) (b/256^(m-h)%256^(h-l)))else none
   |_,_=>none
 |.nsl=>match bound mx 0,bound hi 0,bound lo 0 with
  |some 0,some 0,some 0=>some .nsl
  |_,_,_=>none
 |.esl=>match bound mx 0,bound hi 0,bound lo 0 with
  |some 0,some 0,some 0=>some .esl
  |_,_,_=>none
 |.osl id off len cap s'=>if !Nat.beq s' s then none else
  match bound hi len,bound lo 0 with
  |some h,some l=>
   if !(Nat.ble h cap&&Nat.ble l h)then none else
   match mx with
   |none=>if Nat.blt l cap||Nat.beq l 0 then some (.osl id (off+l*s) (h-l) (cap-l) s)else some .zsl
   |some m=>match bound (some m) 0 with
    |some m=>if !(Nat.ble m cap&&Nat.ble h m)then none
     else if Nat.beq m l then some .esl else some (.osl id (off+l*s) (h-l) (m-l) s)
    |none=>none
  |_,_=>none
 |_=>none
def fSV (v:SV) (k:SV->R):R:=
 SV.rec (motive:=λ_=>R) (k .un) (λkd n=>fI n λn=>k (.int kd n)) (λb=>fB b λb=>k (.bool b)) (λl b=>fN l λl=>fN b λb=>k (.str l b)) (k .nsl) (k .npt) (k .nfn)
  (λid off=>fN id λid=>fN off λoff=>k (.optr id off))
  (λid off len cap s=>fN id λid=>fN off λoff=>fN len λlen=>fN cap λcap=>fN s λs=>k (.osl id off len cap s))
  (k .esl) (k .zsl) (λf cs=>k (.fn f cs)) (λkd i=>k (.sym kd i)) (k .nmp) (λid=>fN id λid=>k (.mp id)) (k .nif) (λt=>k (.mk t)) v
end
structure Orc (R:Type) where
 bin:BinOp->IntKind->Nat->Int->(SV->R)->R
 nib:BinOp->IntKind->Int->Nat->(SV->R)->R
 conv:IntKind->Nat->(SV->R)->R
 force:Nat->(Int->R)->R
 sw:Bool
def s2bOk:Bool:=false
inductive AOp where
 |mv (x:Od)
 |pick (c a b:Od)
 |alloc (zero:List SV)
 |box (x:Od)
 |build (zero:List SV) (parts:List (Nat×Nat×Od))
 |bslice (s len:Nat) (zero:List SV) (parts:List (Nat×Nat×Od))
 |load (agg:Bool) (n:Nat) (x:Od)
 |store (n:Nat) (x v:Od)
 |nilc (x:Od)
 |bin (op:BinOp) (x y:Od)
 |shift (left:Bool) (x y:Od)
 |sbin (op:BinOp) (x y:Od)
 |eqb (neg:Bool) (x y:Od)
 |eqn (sl neg:Bool) (x y:Od)
 |eqs (ks:List Nat) (neg:Bool) (x y:Od)
 |not (x:Od)
 |neg (x:Od)
 |conv (k:IntKind) (x:Od)
 |mkfn (f:Nat) (caps:List Od)
 |mkslice (s bytes:Nat) (zero:List SV) (len cap:Od)
 |slc (str:Bool) (s:Nat) (x:Od) (lo hi mx:Option Od)
 |faddr (off:Nat) (x:Od)
 |fld (off:Nat) (agg:Bool) (n:Nat) (x:Od)
 |iaddr (s:Nat) (x i:Od)
 |iaddrA (s len:Nat) (x i:Od)
 |idx (x i:Od)
 |extr (x:Od) (i:Nat)
 |len (str:Bool) (x:Od)
 |cap (x:Od)
 |append (s bytes:Nat) (x y:Od)
 |copy (s:Nat) (x y:Od)
 |max (x:Od) (xs:List Od)
 |min (x:Od) (xs:List Od)
 |call (f:Od) (args:List Od)
structure AOper where
 dst:Option (Nat×Nat)
 op:AOp
 g:Option (Nat×Nat×Bool)
 mode:Nat:=0
 anc:List Nat:=[]
inductive ACode where
 |skip
 |reg (ops:List AOper)
 |draw (ops:List AOper)
 |seq (a b:ACode)
 |cond (c:Od) (a b:ACode)
 |blk (id:Nat) (a:ACode)
 |loop (a:ACode)
 |exit (id:Nat)
 |ret
 |bad
inductive ARes where
 |tmp (q r:Nat)
 |cell (q r:Nat) (agg:Bool) (n:Nat)
structure AFunc where
 ntmps:Nat
 nargs:Nat
 res:List ARes
 body:ACode
abbrev CallT (R:Type):=Nat->List AV->Fz->St->Nat->(AV->St->Nat->R)->R
section
variable {R:Type} (orc:Orc R) (z:R) (call:CallT R) (fz:Fz) (tm:TM) (mu:St) (n:Nat)
abbrev KT (R:Type):=AV->St->Nat->R
def asRes (agg:Bool) (r:List SV) (z:R) (k:AV->R):R:=
 Bool.rec (motive:=λ_=>R) (List.rec (motive:=λ_=>R) z (λh t _=>List.rec (motive:=λ_=>R) (k (.one h)) (λ_ _ _=>z) t) r) (k (.ag r)) agg
def oPick (c a b:Od) (k:KT R):R:=(ev tm c).onOne z λs=>s.Qfv z λt=>cond t (k (ev tm a) mu n) (k (ev tm b) mu n)
def oNew (cs:List SV) (k:KT R):R:=fN (Nat.succ n) λm=>k (.one (.optr n 0)) ((n,cs)::mu) m
def oBox (x:Od) (k:KT R):R:=(ev tm x).onCells z λcs=>cond (Qeq cs) (oNew mu n cs k) z
def fill (parts:List (Nat×Nat×Od)):List SV->(List SV->R)->R:=
 List.rec (motive:=λ_=>List SV->(List SV->R)->R) (λcs k=>k cs)
  (λp _ ih cs k=>(ev tm p.2.2).onCells z λvs=>lenK vs 0 λm=>cond (Nat.beq m p.2.1) (cond (Qeq vs) (overK cs p.1 vs z λcs=>ih cs k) z) z) parts
def oBuild (zero:List SV) (parts:List (Nat×Nat×Od)) (k:KT R):R:=fill z tm parts zero λcs=>k (.ag cs) mu n
def rep (zero:List SV):Nat->List SV
 |0=>[]
 |n+1=>zero++rep zero n
def oBslice (s len:Nat) (zero:List SV) (parts:List (Nat×Nat×Od)) (k:KT R):R:=
 copyK (rep zero len) λcs=>fill z tm parts cs λcs=>fN (Nat.succ n) λm=>k (.one (.osl n 0 len len s)) ((n,cs)::mu) m
def oLoad (agg:Bool) (m:Nat) (x:Od) (k:KT R):R:=
 (ev tm x).onOne z λs=>s.onPtr z λid off=>Qhs fz mu id z λcs=>subK cs off m z λr=>asRes agg r z λv=>k v mu n
def oPut (id off:Nat) (vs:List SV) (k:St->R):R:=
 cond (Qeq vs) (Qh7 mu id z λcs=>overK cs off vs z λcs=>putK mu id cs k) z
def oStore (m:Nat) (x v:Od) (k:KT R):R:=
 (ev tm x).onOne z λs=>s.onPtr z λid off=>(ev tm v).onCells z λvs=>lenK vs 0 λl=>cond (Nat.beq l m) (oPut z mu id off vs λmu=>k noVal mu n) z
def oNilc (x:Od) (k:KT R):R:=
 (ev tm x).onOne z λs=>SV.rec (motive:=λ_=>R) z (λ_ _=>z) (λ_=>z) (λ_ _=>z) z z z (λ_ _=>k (.one s) mu n) (λ_ _ _ _ _=>z) z z (λ_ _=>k (.one s) mu n) (λ_ _=>z) z (λ_=>z) z (λ_=>z) s
def oBin (op:BinOp) (x y:Od) (k:KT R):R:=
 (ev tm x).onOne z fun s=>(ev tm y).onOne z fun u=>u.onInt
  (u.onSym z λkd' j=>s.onInt
   (s.onSym z λkd i=>cond (IntKind.eqb kd kd') (orc.force j λv=>orc.bin op kd i v λr=>fSV r λr=>k (.one r) mu n) z)
   λkd a=>cond (IntKind.eqb kd kd') (orc.nib op kd a j λr=>fSV r λr=>k (.one r) mu n) z)
  λkd' b=>s.onInt
   (s.onSym z λkd i=>cond (IntKind.eqb kd kd') (orc.bin op kd i b λr=>fSV r λr=>k (.one r) mu n) z)
   λkd a=>cond (IntKind.eqb kd kd') (binI op kd a b z λr=>k (.one r) mu n) z
def Qfj (x:Od) (k:TM->R):R:=
 Od.rec (motive:=λ_=>R) (λq r=>AV.rec (motive:=λ_=>R) (λs=>s.onSym (k tm) λkd i=>orc.force i λv=>fI v λv=>setTm tm q r (.one (.int kd v)) k) (λ_=>k tm) (λ_=>k tm) (get tm q r)) (λ_=>k tm) x
def Qhf (x:Option Od) (k:TM->R):R:=Option.rec (motive:=λ_=>R) (k tm) (λx=>Qfj orc tm x k) x
def ltS (a b:SV) (k:Bool->R):R:=
 a.onInt
  (a.onSym z λkd i=>b.onInt
   (b.onSym z λkd' j=>cond (IntKind.eqb kd kd') (orc.force j λv=>orc.bin .lss kd i v λs=>s.Qfv z k) z)
   λkd' v=>cond (IntKind.eqb kd kd') (orc.bin .lss kd i v λs=>s.Qfv z k) z)
  λkd u=>b.onInt
   (b.onSym z λkd' j=>cond (IntKind.eqb kd kd') (orc.nib .lss kd u j λs=>s.Qfv z k) z)
   λkd' v=>cond (IntKind.eqb kd kd') (k (ltI u v)) z
def maxK (l:List AV):SV->(SV->R)->R:=
 List.rec (motive:=λ_=>SV->(SV->R)->R) (λa k=>k a) (λh _ ih a k=>h.onOne z λb=>ltS orc z a b λt=>cond t (ih b k) (ih a k)) l
def minK (l:List AV):SV->(SV->R)->R:=
 List.rec (motive:=λ_=>SV->(SV->R)->R) (λa k=>k a) (λh _ ih a k=>h.onOne z λb=>ltS orc z b a λt=>cond t (ih b k) (ih a k)) l
def oShift (left:Bool) (x y:Od) (k:KT R):R:=
 (ev tm x).onOne z λs=>s.onInt z λkd a=>(ev tm y).onOne z λu=>u.onInt z λ_ b=>shiftI left kd a b z λr=>k (.one r) mu n
def oSbin (op:BinOp) (x y:Od) (k:KT R):R:=
 (ev tm x).onOne z λs=>s.onStr z λl a=>(ev tm y).onOne z λu=>u.onStr z λl' b=>Qm9 op l a l' b z λr=>k (.one r) mu n
def oEqb (neg:Bool) (x y:Od) (k:KT R):R:=
 (ev tm x).onOne z λs=>s.Qfv z λa=>(ev tm y).onOne z λu=>u.Qfv z λb=>fB (neg !=(a==b)) λr=>k (.one (.bool r)) mu n
def oEqn (sl neg:Bool) (x y:Od) (k:KT R):R:=
 (ev tm x).onOne z λs=>(ev tm y).onOne z λu=>Option.rec (motive:=λ_=>R) z
  (λa=>Option.rec (motive:=λ_=>R) z (λb=>cond (a||b) (fB (neg !=(a&&b)) λr=>k (.one (.bool r)) mu n) z) (nilness sl u)) (nilness sl s)
def oEqs (ks:List Nat) (neg:Bool) (x y:Od) (k:KT R):R:=
 (ev tm x).onAg z λa=>(ev tm y).onAg z λb=>Option.rec (motive:=λ_=>R) z (λe=>fB (neg !=e) λr=>k (.one (.bool r)) mu n) (Qgm ks a b)
def oNot (x:Od) (k:KT R):R:=(ev tm x).onOne z λs=>s.Qfv z λa=>fB (not a) λr=>k (.one (.bool r)) mu n
def oNeg (x:Od) (k:KT R):R:=(ev tm x).onOne z λs=>s.onInt z λkd a=>fI (kd.wrap (0-a)) λr=>k (.one (.int kd r)) mu n
def oConv (kd:IntKind) (x:Od) (k:KT R):R:=(ev tm x).onOne z λs=>s.onInt (s.onSym z λ_ i=>orc.conv kd i λr=>fSV r λr=>k (.one r) mu n) λ_ a=>wrapK kd a λr=>k (.one (.int kd r)) mu n
def capsK (l:List Od):(List (Nat×Nat)->R)->R:=
 List.rec (motive:=λ_=>(List (Nat×Nat)->R)->R) (λk=>k []) (λh _ ih k=>(ev tm h).onOne z λs=>s.onPtr z λid off=>ih λr=>k ((id,off)::r)) l
def oMkfn (f:Nat) (caps:List Od) (k:KT R):R:=capsK z tm caps λcs=>k (.one (.fn f cs)) mu n
def roomy:Nat:=137438953472
def fits (need bytes:Nat):Bool:=cond (Nat.ble (Nat.mul need (Nat.succ bytes)) roomy) true (cond (Nat.ble (Nat.mul need bytes) 140737488355328) (cond (Nat.ble 1 bytes) (Nat.ble bytes 65536) false) false)
def Qoo (s bytes:Nat) (zero:List SV) (l c:Od) (k:KT R):R:=
 (ev tm l).onOne z fun a=>a.onInt z fun ka a=>(ev tm c).onOne z fun b=>b.onInt z fun kb b=>
  cond (IntKind.eqb ka .i64&&IntKind.eqb kb .i64&&not (ltI a 0)&&not (ltI b a)&&fits b.toNat bytes)
   (fN a.toNat λm=>copyK (rep zero m) λcs=>fN (Nat.succ n) λn'=>k (.one (.osl n 0 m m s)) ((n,cs)::mu) n') z
def oSlc (str:Bool) (s:Nat) (x:Od) (lo hi mx:Option Od) (k:KT R):R:=
 (ev tm x).onOne z λv=>cond (v.isStr==str) (Option.rec (motive:=λ_=>R) z (λr=>fSV r λr=>k (.one r) mu n) (Qgl s v (lo.map (ev tm)) (hi.map (ev tm)) (mx.map (ev tm)))) z
def oFaddr (off:Nat) (x:Od) (k:KT R):R:=
 (ev tm x).onOne z λs=>s.onPtr z λid o=>fN (Nat.add o off) λo=>k (.one (.optr id o)) mu n
def oFld (off:Nat) (agg:Bool) (m:Nat) (x:Od) (k:KT R):R:=
 (ev tm x).onAg z λcs=>subK cs off m z λr=>asRes agg r z λv=>k v mu n
def Qxl (s:Nat) (x i:Od) (k:KT R):R:=
 (ev tm i).onOne z λi=>i.onInt z λ_ i=>(ev tm x).onOne z λv=>v.onSl z λid off len _ s'=>
  cond (Nat.beq s' s&&not (ltI i 0)&&Nat.blt i.toNat len) (fN (Nat.add off (Nat.mul i.toNat s)) λo=>k (.one (.optr id o)) mu n) z
def Qr3 (s len:Nat) (x i:Od) (k:KT R):R:=
 (ev tm i).onOne z λi=>i.onInt z λ_ i=>(ev tm x).onOne z λv=>v.onPtr z λid off=>
  cond (not (ltI i 0)&&Nat.blt i.toNat len) (fN (Nat.add off (Nat.mul i.toNat s)) λo=>k (.one (.optr id o)) mu n) z
def oIdx (x i:Od) (k:KT R):R:=
 (ev tm i).onOne z λi=>i.onInt z λ_ i=>(ev tm x).onOne z λv=>v.onStr z λl b=>
  cond (ltI i 0) z (cond (Nat.blt i.toNat l) (fN (Nat.mod (Nat.div b (Nat.pow 256 (Nat.sub (Nat.pred l) i.toNat))) 256) λc=>k (.one (.int .u8 (Int.ofNat c))) mu n) z)
def oExtr (x:Od) (i:Nat) (k:KT R):R:=
 (ev tm x).onTp z λps=>nthK ps i z λc=>CV.rec (motive:=λ_=>R) (λs=>k (.one s) mu n) (λl=>k (.ag l) mu n) c
def oLen (str:Bool) (x:Od) (k:KT R):R:=
 (ev tm x).onOne z λs=>cond (s.isStr==str) (SV.rec (motive:=λ_=>R) z (λ_ _=>z) (λ_=>z) (λl _=>k (.one (.int .i64 (Int.ofNat l))) mu n)
  (k (.one (.int .i64 0)) mu n) z z (λ_ _=>z) (λ_ _ len _ _=>k (.one (.int .i64 (Int.ofNat len))) mu n) (k (.one (.int .i64 0)) mu n) (k (.one (.int .i64 0)) mu n) (λ_ _=>z) (λ_ _=>z) z (λ_=>z) z (λ_=>z) s) z
def oCap (x:Od) (k:KT R):R:=
 (ev tm x).onOne z λs=>SV.rec (motive:=λ_=>R) z (λ_ _=>z) (λ_=>z) (λ_ _=>z)
  (k (.one (.int .i64 0)) mu n) z z (λ_ _=>z) (λ_ _ _ _ _=>z) (k (.one (.int .i64 0)) mu n) z (λ_ _=>z) (λ_ _=>z) z (λ_=>z) z (λ_=>z) s
def Qln (s bytes:Nat) (x:SV) (src:List SV) (cnt:Nat) (k:KT R):R:=
 cond (Nat.beq cnt 0) (k (.one x) mu n) (cond (fits cnt bytes) (fN (Nat.succ n) λm=>k (.one (.osl n 0 cnt cnt s)) ((n,src)::mu) m) z)
def appOwn (s bytes:Nat) (x:SV) (id off len cap s':Nat) (src:List SV) (cnt:Nat) (k:KT R):R:=
 cond (Nat.beq cnt 0) (k (.one x) mu n) (cond (Nat.beq s' s&&fits (Nat.add len cnt) bytes)
  (Qh7 mu id z λknown=>fN (Nat.mul len s) λm=>subK known off m z λold=>lenK known 0 λkl=>cond (Nat.beq kl (Nat.add off m))
   (appK old src λcs=>killK mu id λmu=>fN (Nat.add len cnt) λl=>fN (Nat.succ n) λn'=>k (.one (.osl n 0 l l s)) ((n,cs)::mu) n')
   (cond (Nat.ble (Nat.add len cnt) cap) (fN (Nat.add off m) λo=>overK known o src z λcs=>putK mu id cs λmu=>fN (Nat.add len cnt) λl=>k (.one (.osl id off l cap s)) mu n) z)) z)
def Qwn (s bytes:Nat) (x y:Od) (k:KT R):R:=
 (ev tm x).onOne z fun x=>(ev tm y).onOne z fun y=>srcK fz mu s y z fun src cnt=>cond (Qeq src)
  (SV.rec (motive:=λ_=>R) z (λ_ _=>z) (λ_=>z) (λ_ _=>z) (Qln z mu n s bytes x src cnt k) z z (λ_ _=>z)
   (λid off len cap s'=>appOwn z mu n s bytes x id off len cap s' src cnt k) (Qln z mu n s bytes x src cnt k) z (λ_ _=>z) (λ_ _=>z) z (λ_=>z) z (λ_=>z) x) z
def oCopy (s:Nat) (x y:Od) (k:KT R):R:=
 (ev tm x).onOne z λx=>x.onSl z λid off len _ s'=>(ev tm y).onOne z λy=>cond (Nat.beq s' s) (srcK fz mu s y z λsrc cnt=>
  fN (Nat.min cnt len) λm=>takeK src (Nat.mul m s) z λsrc=>oPut z mu id off src λmu=>k (.one (.int .i64 (Int.ofNat m))) mu n) z
def oMax (x:Od) (xs:List Od) (k:KT R):R:=
 (ev tm x).onOne z λs=>maxK orc z (evs tm xs) s λr=>k (.one r) mu n
def oMin (x:Od) (xs:List Od) (k:KT R):R:=
 (ev tm x).onOne z λs=>minK orc z (evs tm xs) s λr=>k (.one r) mu n
def Qij (cs:List (Nat×Nat)):List AV:=cs.map λp=>.one (.optr p.1 p.2)
def argsK (l:List Od):List AV->(List AV->R)->R:=
 List.rec (motive:=λ_=>List AV->(List AV->R)->R) (λc k=>k c) (λh _ ih c k=>ih c λr=>k (ev tm h::r)) l
def bitK (n0 id m:Nat) (k:Nat->R):R:=cond (Nat.ble n0 id) (fN (Nat.lor m (Nat.shiftLeft 1 (Nat.sub id n0))) k) (k m)
def capsM (n0:Nat) (l:List (Nat×Nat)):Nat->(Nat->R)->R:=List.rec (motive:=λ_=>Nat->(Nat->R)->R) (λm k=>k m) (λp _ ih m k=>bitK n0 p.1 m λm=>ih m k) l
def idsM (n0:Nat) (l:List SV):Nat->(Nat->R)->R:=
 List.rec (motive:=λ_=>Nat->(Nat->R)->R) (λm k=>k m)
  (λv _ ih=>SV.rec (motive:=λ_=>Nat->(Nat->R)->R) ih (λ_ _=>ih) (λ_=>ih) (λ_ _=>ih) ih ih ih (λid _ m k=>bitK n0 id m λm=>ih m k) (λid _ _ _ _ m k=>bitK n0 id m λm=>ih m k) ih ih
   (λ_ cs m k=>capsM n0 cs m λm=>ih m k) (λ_ _=>ih) ih (λid m k=>bitK n0 id m λm=>ih m k) ih (λ_=>ih) v) l
def AV.idsM (n0:Nat) (v:AV) (k:Nat->R):R:=
 AV.rec (motive:=λ_=>R) (λs=>Ev.idsM n0 [s] 0 k) (λl=>Ev.idsM n0 l 0 k)
  (λl=>List.rec (motive:=λ_=>Nat->R) k (λc _ ih m=>CV.rec (motive:=λ_=>R) (λs=>Ev.idsM n0 [s] m ih) (λl=>Ev.idsM n0 l m ih) c) l 0) v
def bitIs (n0 m id:Nat):Bool:=Nat.beq (Nat.land (Nat.shiftRight m (Nat.sub id n0)) 1) 1
def Qsv (n0:Nat) (s:St):Nat->(Nat->R)->R:=
 List.rec (motive:=λ_=>Nat->(Nat->R)->R) (λm k=>k m) (λp _ ih m k=>cond (Nat.ble n0 p.1) (ih m k) (idsM n0 p.2 m λm=>ih m k)) s
def passM (n0:Nat) (s:St):Nat->(Nat->R)->R:=
 List.rec (motive:=λ_=>Nat->(Nat->R)->R) (λm k=>k m) (λp _ ih m k=>cond (Nat.ble n0 p.1) (cond (bitIs n0 m p.1) (idsM n0 p.2 m λm=>ih m k) (ih m k)) (ih m k)) s
def fixM (n0:Nat) (s:St) (d:Nat):Nat->(Nat->R)->R:=
 Nat.rec (motive:=λ_=>Nat->(Nat->R)->R) (λm k=>k m) (λ_ ih m k=>passM n0 s m λm'=>cond (Nat.beq m m') (k m) (ih m' k)) d
def keepM (n0 m:Nat) (s:St):(St->R)->R:=
 List.rec (motive:=λ_=>(St->R)->R) (λk=>k [])
  (λp _ ih k=>cond (Nat.ble n0 p.1) (cond (bitIs n0 m p.1) (ih λr=>k (p::r)) (ih k)) (ih λr=>k (p::r))) s
def sweepK (n0:Nat) (v:AV) (s:St) (k:St->R):R:=v.idsM n0 λm=>Qsv n0 s m λm=>fixM n0 s 1000 m λm=>keepM n0 m s k
def sweepG (sw:Bool) (n0:Nat) (v:AV) (s:St) (k:St->R):R:=cond sw (sweepK n0 v s k) (k s)
def oCall (ro:Bool) (f:Od) (args:List Od) (k:KT R):R:=
 (ev tm f).onOne z λs=>s.onFn z λg cs=>argsK tm args (Qij cs) λvs=>
  cond ro (call g vs (with' mu fz) [] n λv new n'=>sweepG orc.sw n v new λnew=>joinK new mu λmu=>k v mu n') (call g vs fz mu n k)
def flatE (es:List (SV×List SV)):List SV:=List.rec (motive:=λ_=>List SV) [] (λe _ ih=>e.1::(e.2++ih)) es
def mtag (agg:Bool) (v:Nat):Nat:=Nat.add (cond agg 5 4) (Nat.mul 2 v)
def aop (ro:Bool) (op:AOp) (k:KT R):R:=
 AOp.rec (motive:=λ_=>R)
  (λx=>k (ev tm x) mu n)
  (λc a b=>oPick z tm mu n c a b k)
  (λzero=>oNew mu n zero k)
  (λx=>oBox z tm mu n x k)
  (λzero ps=>oBuild z tm mu n zero ps k)
  (λs len zero ps=>oBslice z tm mu n s len zero ps k)
  (λagg m x=>oLoad z fz tm mu n agg m x k)
  (λm x v=>oStore z tm mu n m x v k)
  (λx=>oNilc z tm mu n x k)
  (λop x y=>oBin orc z tm mu n op x y k)
  (λl x y=>Qfj orc tm x λtm=>Qfj orc tm y λtm=>oShift z tm mu n l x y k)
  (λop x y=>oSbin z tm mu n op x y k)
  (λneg x y=>oEqb z tm mu n neg x y k)
  (λsl neg x y=>oEqn z tm mu n sl neg x y k)
  (λks neg x y=>oEqs z tm mu n ks neg x y k)
  (λx=>oNot z tm mu n x k)
  (λx=>Qfj orc tm x λtm=>oNeg z tm mu n x k)
  (λkd x=>oConv orc z tm mu n kd x k)
  (λf cs=>oMkfn z tm mu n f cs k)
  (λs b zero l c=>Qfj orc tm l λtm=>Qfj orc tm c λtm=>Qoo z tm mu n s b zero l c k)
  (λstr s x lo hi mx=>Qhf orc tm lo λtm=>Qhf orc tm hi λtm=>Qhf orc tm mx λtm=>oSlc z tm mu n str s x lo hi mx k)
  (λoff x=>oFaddr z tm mu n off x k)
  (λoff agg m x=>oFld z tm mu n off agg m x k)
  (λs x i=>Qfj orc tm i λtm=>Qxl z tm mu n s x i k)
  (λs len x i=>Qfj orc tm i λtm=>Qr3 z tm mu n s len x i k)
  (λx i=>Qfj orc tm i λtm=>oIdx z tm mu n x i k)
  (λx i=>oExtr z tm mu n x i k)
  (λstr x=>oLen z tm mu n str x k)
  (λx=>oCap z tm mu n x k)
  (λs b x y=>Qwn z fz tm mu n s b x y k)
  (λs x y=>oCopy z fz tm mu n s x y k)
  (λx xs=>oMax orc z tm mu n x xs k)
  (λx xs=>oMin orc z tm mu n x xs k)
  (λf args=>oCall orc z call fz tm mu n ro f args k) op
end
section
variable {R:Type} (orc:Orc R) (z:R) (call:CallT R) (fz:Fz)
def Qe8 (tm:TM) (dst:Option (Nat×Nat)) (v:AV) (k:TM->R):R:=
 Option.rec (motive:=λ_=>R) (k tm) (λp=>setTm tm p.1 p.2 v k) dst
def Ql9 (g:Option (Nat×Nat×Bool)) (tm:TM) (yes no:R):R:=
 Option.rec (motive:=λ_=>R) yes (λp=>AV.rec (motive:=λ_=>R) (λs=>s.Qfv z λb=>cond (b==p.2.2) yes no) (λ_=>z)
  (λl=>List.rec (motive:=λ_=>R) no (λ_ _ _=>z) l) (get tm p.1 p.2.1)) g
def stepK (o:AOper) (tm:TM) (mu:St) (n:Nat) (k:TM->St->Nat->R):R:=
 Ql9 z o.g tm (aop orc z call fz tm mu n (Nat.beq o.mode 1) o.op λv mu n=>Qe8 tm o.dst v λtm=>k tm mu n) (Qe8 tm o.dst noVal λtm=>k tm mu n)
def runK (ops:List AOper):TM->St->Nat->(TM->St->Nat->R)->R:=
 List.rec (motive:=λ_=>TM->St->Nat->(TM->St->Nat->R)->R) (λtm mu n k=>k tm mu n)
  (λo _ ih tm mu n k=>stepK orc z call fz o tm mu n λtm mu n=>ih tm mu n k) ops
def adsOf (ad:List St) (l:List Nat):St:=List.rec (motive:=λ_=>St) [] (λi _ ih=>nth [] ad i++ih) l
def Qly (l:List Nat):List St->(List St->R)->R:=
 List.rec (motive:=λ_=>List St->(List St->R)->R) (λad k=>k ad) (λi _ ih ad k=>setK ad i [] λad=>ih ad k) l
def rstep (i:Nat) (o:AOper) (tm:TM) (mu:St) (ad:List St) (n:Nat) (k:TM->St->List St->Nat->R):R:=
 Ql9 z o.g tm
  (cond (Nat.beq o.mode 0) (aop orc z call (λ_=>none) tm [] n false o.op λv new n=>List.rec (motive:=λ_=>R) (Qe8 tm o.dst v λtm=>k tm mu ad n) (λ_ _ _=>z) new)
  (cond (Nat.beq o.mode 1) (aop orc z call (with' (adsOf ad o.anc) (with' mu fz)) tm [] n true o.op λv new n=>Qe8 tm o.dst v λtm=>setK ad i new λad=>k tm mu ad n)
  (cond (Nat.beq o.mode 2) (joinK (adsOf ad o.anc) mu λmu=>Qly o.anc ad λad=>aop orc z call fz tm mu n false o.op λv mu n=>Qe8 tm o.dst v λtm=>k tm mu ad n)
  (cond (Nat.beq o.mode 3) (aop orc z call (λ_=>none) tm [] n false o.op λv new n=>Qe8 tm o.dst v λtm=>setK ad i new λad=>k tm mu ad n)
   (joinK (nth [] ad i) (adsOf ad o.anc) λown=>aop orc z call fz tm own n false o.op λv new n=>Qe8 tm o.dst v λtm=>Qly o.anc ad λad=>setK ad i new λad=>k tm mu ad n)))))
  (Qe8 tm o.dst noVal λtm=>k tm mu ad n)
def rrun (ops:List AOper):Nat->TM->St->List St->Nat->(TM->St->List St->Nat->R)->R:=
 List.rec (motive:=λ_=>Nat->TM->St->List St->Nat->(TM->St->List St->Nat->R)->R) (λ_ tm mu ad n k=>k tm mu ad n)
  (λo _ ih i tm mu ad n k=>rstep orc z call fz i o tm mu ad n λtm mu ad n=>ih (Nat.succ i) tm mu ad n k) ops
def AOp.Qsq (op:AOp):Option Od:=AOp.rec (motive:=λ_=>Option Od)
 (λ_=>none) (λ_ _ _=>none) (λ_=>none) (λ_=>none) (λ_ _=>none) (λ_ _ _ _=>none) (λ_ _ _=>none) (λ_ x _=>some x) (λ_=>none) (λ_ _ _=>none)
 (λ_ _ _=>none) (λ_ _ _=>none) (λ_ _ _=>none) (λ_ _ _ _=>none) (λ_ _ _ _=>none) (λ_=>none) (λ_=>none) (λ_ _=>none) (λ_ _=>none)
 (λ_ _ _ _ _=>none) (λ_ _ _ _ _ _=>none) (λ_ _=>none) (λ_ _ _ _=>none) (λ_ _ _=>none) (λ_ _ _ _=>none) (λ_ _=>none)
 (λ_ _=>none) (λ_ _=>none) (λ_=>none) (λ_ _ x _=>some x) (λ_ _ _=>none) (λ_ _=>none) (λ_ _=>none) (λ_ args=>List.rec (motive:=λ_=>Option Od) none (λx _ _=>some x) args) op
def SV.onBlk (v:SV) (z:R) (k:Nat->R):R:=
 SV.rec (motive:=λ_=>R) z (λ_ _=>z) (λ_=>z) (λ_ _=>z) z z z (λid _=>k id) (λid _ _ _ _=>k id) z z (λ_ _=>z) (λ_ _=>z) z (λ_=>z) z (λ_=>z) v
def moveK (i id:Nat) (mu:St) (ad:List St) (J:St->List St->R):R:=
 Option.rec (motive:=λ_=>R) (J mu ad) (λcs=>killK mu id λmu=>setK ad i ((id,cs)::nth [] ad i) λad=>J mu ad) (look mu id)
def bufK (cs:List SV) (no:R) (k:Nat->R):R:=
 List.rec (motive:=λ_=>R) no (λh _ _=>h.onMk no λm=>cond (Nat.beq m 3) ((nth .un cs 3).onBlk no k) no) cs
def Qgh (v:AV) (i:Nat) (mu:St) (ad:List St) (J:St->List St->R):R:=
 v.onOne (J mu ad) λs=>s.onBlk (J mu ad) λid=>Option.rec (motive:=λ_=>R) (J mu ad) (λcs=>moveK i id mu ad λmu ad=>bufK cs (J mu ad) λg=>moveK i g mu ad J) (look mu id)
def apart (ops:List AOper):Nat->TM->St->List St->(St->List St->R)->R:=
 List.rec (motive:=λ_=>Nat->TM->St->List St->(St->List St->R)->R) (λ_ _ mu ad k=>k mu ad)
  (λo _ ih i tm mu ad k=>cond (Nat.beq o.mode 4)
   (Option.rec (motive:=λ_=>R) (ih (Nat.succ i) tm mu ad k) (λx=>Qgh (ev tm x) i mu ad λmu ad=>ih (Nat.succ i) tm mu ad k) o.op.Qsq)
   (ih (Nat.succ i) tm mu ad k)) ops
def Qje (l:List St):St->(St->R)->R:=
 List.rec (motive:=λ_=>St->(St->R)->R) (λmu k=>k mu) (λs _ ih mu k=>joinK s mu λmu=>ih mu k) l
def Qkx (o:AOper):Option (Nat×Nat):=if Nat.beq o.mode 4 then match o.op with
 |.store _ (.t q r) _=>some (q,r)
 |.append _ _ (.t q r) _=>some (q,r)
 |.call _ (.t q r::_)=>some (q,r)
 |_=>none else none
def preX:AOp->Option (List Od)
 |.mv x=>some [x]
 |.load _ _ x=>some [x]
 |.faddr _ x=>some [x]
 |.nilc x=>some [x]
 |.fld _ _ _ x=>some [x]
 |.extr x _=>some [x]
 |.iaddr _ x i=>some [x,i]
 |_=>none
def odKey:Od->List (Nat×Nat)
 |.t q r=>[(q,r)]
 |.c _=>[]
def Qe2:List AOper->List (Nat×Nat)->Option (List AOper)
 |[],_=>some []
 |o::l,need=>match o.dst with
  |none=>Qe2 l need
  |some d=>if need.contains d then(match preX o.op,o.g with
   |some xs,none=>(Qe2 l (xs.flatMap odKey++need)).map (o::·)
   |_,_=>none)else Qe2 l need
def preOf (ops:List AOper):List AOper:=
 ops.zipIdx.flatMap λp=>match Qkx p.1 with
  |some d=>((Qe2 (ops.take p.2).reverse [d]).getD []).reverse
  |none=>[]
def Qoa (ops:List AOper):List AOper:=
 ops.zipIdx.map λp=>match Qkx p.1 with
  |some d=>match Qe2 (ops.take p.2).reverse [d]with
   |some _=>p.1
   |none=>{p.1 with mode:=0}
  |none=>p.1
def preK (ops:List AOper):TM->St->Nat->(TM->R)->R:=
 List.rec (motive:=λ_=>TM->St->Nat->(TM->R)->R) (λtm _ _ k=>k tm) (λo _ ih tm mu n k=>stepK orc z call fz o tm mu n λtm _ _=>ih tm mu n k) ops
def drawK (ops:List AOper) (tm:TM) (mu:St) (n:Nat) (k:TM->St->Nat->R):R:=
 preK orc z call fz (preOf ops) tm mu n λtm'=>apart (Qoa ops) 0 tm' mu (ops.map λ_=>[]) λmu ad=>rrun orc z call fz ops 0 tm mu ad n λtm mu ad n=>Qje ad mu λmu=>k tm mu n
inductive AExit where
 |normal
 |exit (id:Nat)
 |ret
def acode (fuel:Nat):ACode->TM->St->Nat->(AExit->TM->St->Nat->R)->R:=
 Nat.rec (motive:=λ_=>ACode->TM->St->Nat->(AExit->TM->St->Nat->R)->R) (λ_ _ _ _ _=>z)
  (λ_ ih c tm mu n k=>ACode.casesOn (motive:=λ_=>R) c
   (k .normal tm mu n)
   (λops=>runK orc z call fz ops tm mu n (k .normal))
   (λops=>drawK orc z call fz ops tm mu n (k .normal))
   (λa b=>ih a tm mu n λe tm mu n=>AExit.rec (motive:=λ_=>R) (ih b tm mu n k) (λid=>k (.exit id) tm mu n) (k .ret tm mu n) e)
   (λx a b=>(ev tm x).onOne z λs=>s.Qfv z λt=>cond t (ih a tm mu n k) (ih b tm mu n k))
   (λid a=>ih a tm mu n λe tm mu n=>AExit.rec (motive:=λ_=>R) (k .normal tm mu n) (λid'=>cond (Nat.beq id' id) (k .normal tm mu n) (k (.exit id') tm mu n)) (k .ret tm mu n) e)
   (λa=>ih a tm mu n λe tm mu n=>AExit.rec (motive:=λ_=>R) (ih c tm mu n k) (λid=>k (.exit id) tm mu n) (k .ret tm mu n) e)
   (λid=>k (.exit id) tm mu n)
   (k .ret tm mu n) z) fuel
def toCV (v:AV) (k:CV->R):R:=AV.rec (motive:=λ_=>R) (λs=>k (.one s)) (λl=>k (.ag l)) (λ_=>z) v
def Qk3 (r:ARes) (tm:TM) (mu:St) (k:AV->R):R:=
 ARes.rec (motive:=λ_=>R) (λq r=>k (get tm q r))
  (λq r agg m=>(get tm q r).onOne z λs=>s.onPtr z λid off=>Qhs fz mu id z λcs=>subK cs off m z λc=>asRes agg c z k) r
def Qlt (l:List ARes):TM->St->(List CV->R)->R:=
 List.rec (motive:=λ_=>TM->St->(List CV->R)->R) (λ_ _ k=>k [])
  (λr _ ih tm mu k=>Qk3 z fz r tm mu λv=>toCV z v λc=>ih tm mu λcs=>k (c::cs)) l
def resK (l:List ARes) (tm:TM) (mu:St) (k:AV->R):R:=
 List.rec (motive:=λ_=>R) (k (.tp [])) (λr t _=>List.rec (motive:=λ_=>R) (Qk3 z fz r tm mu k) (λ_ _ _=>Qlt z fz l tm mu λcs=>k (.tp cs)) t) l
def rowsK (m:Nat):Nat->List AV->List AV->TM->(TM->R)->R:=
 Nat.rec (motive:=λ_=>Nat->List AV->List AV->TM->(TM->R)->R)
  (λ_ _ row acc k=>k (acc.reverse++[row.reverse]))
  (λ_ ih i args row acc k=>cond (Nat.beq i 16)
   (List.rec (motive:=λ_=>R) (ih 1 [] [noVal] (row.reverse::acc) k) (λa t _=>ih 1 t [a] (row.reverse::acc) k) args)
   (List.rec (motive:=λ_=>R) (ih (Nat.succ i) [] (noVal::row) acc k) (λa t _=>ih (Nat.succ i) t (a::row) acc k) args)) m
end
def vcall {R:Type} (orc:Orc R) (z:R) (K:Nat->Option (List AV->Fz->St->Nat->(AV->St->Nat->R)->R)) (F:Nat->Option AFunc) (big:Nat) (depth:Nat):CallT R:=
 Nat.rec (motive:=fun _=>CallT R) (fun _ _ _ _ _ _=>z)
  (λ_ ih f args fz mu n k=>Option.rec (motive:=λ_=>R)
   (Option.rec (motive:=λ_=>R) z (λfn=>cond (Nat.beq args.length fn.nargs)
    (rowsK fn.ntmps 0 args [] [] λtm=>acode orc z ih fz big fn.body tm mu n λe tm mu n=>
     AExit.rec (motive:=λ_=>R) (resK z fz fn.res tm mu λv=>k v mu n) (λ_=>z) (resK z fz fn.res tm mu λv=>k v mu n) e) z) (F f))
   (λc=>c args fz mu n k) (K f)) depth
end Go.Ev
namespace Go.Ev
def szOf (P:Program) (t:TypeId):Option Nat:=(P.info? t).map (·.size)
def byOf (P:Program) (t:TypeId):Option Nat:=(P.info? t).map (·.bytes)
def aggOf (P:Program) (t:TypeId):Option Bool:=
 match P.underlying t with
 |some (.struct _)=>some true
 |some (.array _ _)=>some true
 |some _=>some false
 |none=>none
def nOf (l:List UInt8):Nat:=l.foldl (λa b=>a*256+b.toNat) 0
def toSV:Value->Option SV
 |.int k n=>some (.int k n)
 |.bool b=>some (.bool b)
 |.string s=>some (.str s.data.toList.length (nOf s.data.toList))
 |.slice none 0 0=>some .nsl
 |.pointer none=>some .npt
 |.nilFunc=>some .nfn
 |.map none=>some .nmp
 |.nilIface=>some .nif
 |_=>none
def toSVs:List Value->Option (List SV)
 |[]=>some []
 |v::r=>match toSV v,toSVs r with
  |some a,some b=>some (a::b)
  |_,_=>none
def toAV:Value->Option AV
 |.agg cs=>(toSVs cs.toList).map .ag
 |v=>(toSV v).map .one
def zeroOf (P:Program) (t:TypeId):Option (List SV):=
 match P.info? t with
 |some i=>match i.zero with
  |some v=>match toSVs v.cells.toList with
   |some l=>if l.length==i.size then some l else none
   |none=>none
  |none=>none
 |none=>none
def Qgw (P:Program) (f:Nat):Bool:=
 match P.funcs[f]? with
 |some fn=>fn.body.isSome&&!(fn.name== "runtime.NumGoroutine")
 |none=>false
def od (P:Program):Operand->Option Od
 |.tmp t=>some (.t (t/16) (t%16))
 |.const v=>(toAV v).map .c
 |.func f=>if Qgw P f then some (.c (.one (.fn f [])))else none
 |.global _=>none
def ods (P:Program):List Operand->Option (List Od)
 |[]=>some []
 |x::r=>match od P x,ods P r with
  |some a,some b=>some (a::b)
  |_,_=>none
def odO (P:Program):Option Operand->Option (Option Od)
 |none=>some none
 |some x=>(od P x).map some
def partsOf (P:Program) (fs:Array Field):List (Nat×Operand)->Option (List (Nat×Nat×Od))
 |[]=>some []
 |(i,x)::r=>match fs[i]? with
  |some f=>match szOf P f.type,od P x,partsOf P fs r with
   |some n,some y,some l=>some ((f.offset,n,y)::l)
   |_,_,_=>none
  |none=>none
def Qld (P:Program) (s:Nat):List (Nat×Operand)->Option (List (Nat×Nat×Od))
 |[]=>some []
 |(i,x)::r=>match od P x,Qld P s r with
  |some y,some l=>some ((i*s,s,y)::l)
  |_,_=>none
def Qkd (P:Program) (b:Builtin) (ts:List TypeId) (args:List Od):Option AOp:=
 match b,ts,args with
 |.len,[t],[x]=>match P.underlying t with
  |some (.slice _)=>some (.len false x)
  |some .string=>some (.len true x)
  |_=>none
 |.cap,[t],[x]=>match P.underlying t with
  |some (.slice _)=>some (.cap x)
  |_=>none
 |.append,[t,u],[x,y]=>match P.underlying t,P.underlying u with
  |some (.slice e),some (.slice _)=>match szOf P e,byOf P e,zeroOf P e with
   |some s,some b,some _=>if s !=0 then some (.append s b x y)else none
   |_,_,_=>none
  |some (.slice e),some .string=>match szOf P e,byOf P e,zeroOf P e with
   |some s,some b,some _=>if s !=0 then some (.append s b x y)else none
   |_,_,_=>none
  |_,_=>none
 |.copy,[t,_],[x,y]=>match P.underlying t with
  |some (.slice e)=>match szOf P e with
   |some s=>if s !=0 then some (.copy s x y)else none
   |none=>none
  |_=>none
 |.max,t::_,x::xs=>match P.underlying t with
  |some (.int _)=>some (.max x xs)
  |_=>none
 |.min,t::_,x::xs=>match P.underlying t with
  |some (.int _)=>some (.min x xs)
  |_=>none
 |_,_,_=>none
def isNil:Od->Bool
 |.c (.one .nsl)=>true
 |.c (.one .npt)=>true
 |_=>false
def eqKs (P:Program):Nat->List Field->Option (List Nat)
 |_,[]=>some []
 |i,f::fs=>if f.name != "_" &&f.offset==i then match P.underlying f.type,eqKs P (i+1) fs with
  |some (.int _),some ks=>some (0::ks)
  |some .bool,some ks=>some (1::ks)
  |some .string,some ks=>some (2::ks)
  |_,_=>none
  else none
def Qrl (P:Program) (op:BinOp) (t u:TypeId) (x y:Od):Option AOp:=
 match P.underlying t with
 |some (.int _)=>match op,P.underlying u with
  |.shl,some (.int _)=>some (.shift true x y)
  |.shr,some (.int _)=>some (.shift false x y)
  |.shl,_=>none
  |.shr,_=>none
  |op,_=>some (.bin op x y)
 |some .string=>some (.sbin op x y)
 |some .bool=>match op with
  |.eql=>some (.eqb false x y)
  |.neq=>some (.eqb true x y)
  |_=>none
 |some (.slice _)=>if !(isNil x||isNil y)then none else match op with
  |.eql=>some (.eqn true false x y)
  |.neq=>some (.eqn true true x y)
  |_=>none
 |some (.pointer _)=>if !(isNil x||isNil y)then none else match op with
  |.eql=>some (.eqn false false x y)
  |.neq=>some (.eqn false true x y)
  |_=>none
 |some (.struct fs)=>if P.stoodInHeld t||P.eqGuardType P.depth t then none else match eqKs P 0 fs.toList,op with
  |some ks,.eql=>some (.eqs ks false x y)
  |some ks,.neq=>some (.eqs ks true x y)
  |_,_=>none
 |_=>none
def isBld (P:Program) (t:TypeId):Bool:=
 match P.underlying t with
 |some (.struct fs)=>match fs.toList with
  |[f,g]=>(match P.underlying f.type with|some (.pointer e)=>e==t|_=>false)&&(match P.underlying g.type with|some (.slice _)=>true|_=>false)
  |_=>false
 |_=>false
def bldZ (P:Program) (t:TypeId) (z:List SV):List SV:=
 match z with
 |[.npt,.nsl]=>cond (isBld P t) [.mk 3,.mk t,.npt,.nsl] z
 |_=>z
def Qgk (P:Program):Op->Option AOp
 |.move x=>(od P x).map .mv
 |.assign x=>(od P x).map .mv
 |.pick c a b=>match od P c,od P a,od P b with
  |some c,some a,some b=>some (.pick c a b)
  |_,_,_=>none
 |.alloc t=>(zeroOf P t).map λz=>.alloc (bldZ P t z)
 |.box _ x=>(od P x).map .box
 |.build t parts=>match P.underlying t,zeroOf P t with
  |some (.struct fs),some z=>if fs.toList.all λf=>(szOf P f.type).isSome then(partsOf P fs parts.toList).map (.build z ·)else none
  |_,_=>none
 |.buildSlice t len parts=>match P.underlying t with
  |some (.slice e)=>match szOf P e,zeroOf P e with
   |some s,some z=>if s !=0&&Nat.ble (len*s) 65536 then(Qld P s parts.toList).map (.bslice s len z ·)else none
   |_,_=>none
  |_=>none
 |.load t x=>match aggOf P t,szOf P t,od P x with
  |some a,some n,some x=>if a||n==1 then some (.load a n x)else none
  |_,_,_=>none
 |.store t x v=>match szOf P t,od P x,od P v with
  |some n,some x,some v=>some (.store n x v)
  |_,_,_=>none
 |.nilCheck x=>(od P x).map .nilc
 |.binOp op t x y u=>match od P x,od P y with
  |some x,some y=>Qrl P op t u x y
  |_,_=>none
 |.unOp op _ x=>match op,od P x with
  |.not,some x=>some (.not x)
  |.neg,some x=>some (.neg x)
  |_,_=>none
 |.convert t u x=>match P.underlying t,P.underlying u,od P x with
  |some (.int _),some (.int k),some x=>some (.conv k x)
  |_,_,_=>none
 |.makeFunc (.func f) first caps=>if first.isEmpty&&Qgw P f then(ods P caps.toList).map (.mkfn f)else none
 |.makeSlice t l c=>match P.underlying t,od P l,od P c with
  |some (.slice e),some l,some c=>match szOf P e,byOf P e,zeroOf P e with
   |some s,some b,some z=>if s !=0 then some (.mkslice s b z l c)else none
   |_,_,_=>none
  |_,_,_=>none
 |.slice t x lo hi mx=>match P.underlying t,od P x,odO P lo,odO P hi,odO P mx with
  |some (.slice e),some x,some lo,some hi,some mx=>match szOf P e with
   |some s=>if mx.isSome&&hi.isNone then none else some (.slc false s x lo hi mx)
   |none=>none
  |some .string,some x,some lo,some hi,some mx=>if mx.isSome then none else some (.slc true 0 x lo hi mx)
  |_,_,_,_,_=>none
 |.fieldAddr t x i=>match P.underlying t,od P x with
  |some (.struct fs),some x=>match fs[i]? with
   |some f=>match szOf P f.type with
    |some n=>if n==0 then none else some (.faddr f.offset x)
    |none=>none
   |none=>none
  |_,_=>none
 |.field t x i=>match P.underlying t,od P x with
  |some (.struct fs),some x=>match fs[i]? with
   |some f=>match aggOf P f.type,szOf P f.type with
    |some a,some n=>if a||n==1 then some (.fld f.offset a n x)else none
    |_,_=>none
   |none=>none
  |_,_=>none
 |.indexAddr t x i=>match P.underlying t,od P x,od P i with
  |some (.slice e),some x,some i=>(szOf P e).map (.iaddr · x i)
  |some (.array len e),some x,some i=>(szOf P e).map (.iaddrA · len x i)
  |_,_,_=>none
 |.index t x i=>match P.underlying t,od P x,od P i with
  |some .string,some x,some i=>some (.idx x i)
  |_,_,_=>none
 |.extract x i=>(od P x).map (.extr · i)
 |.call c=>match c.callee,ods P c.args.toList with
  |.value f,some args=>(od P f).map (.call · args)
  |.builtin b,some args=>Qkd P b c.argTypes.toList args
  |_,_=>none
 |_=>none
def ancOf (acc:List (List Nat)) (es:List Edge):List Nat:=
 (es.flatMap λe=>if Region.binds .any e then e.on::acc.getD e.on []else[]).eraseDups
def ancs:List Oper->List (List Nat)->List (List Nat)
 |[],acc=>acc
 |o::r,acc=>ancs r (acc++[ancOf acc o.after.toList])
structure Muts where
 mt:Nat->Bool
 dy:Bool
def modeOf (m:Muts):AOp->Nat
 |.alloc _=>3
 |.box _=>3
 |.bslice ..=>3
 |.mkslice ..=>3
 |.load ..=>1
 |.store ..=>2
 |.append ..=>2
 |.copy ..=>2
 |.call (.c (.one (.fn f _))) _=>if m.mt f then 2 else 1
 |.call _ _=>if m.dy then 2 else 1
 |_=>0
def slot (t:Nat):Nat×Nat:=(t/16,t%16)
def guardOf (ops:Array Oper):Option (Nat×Bool)->Option (Option (Nat×Nat×Bool))
 |none=>some none
 |some (j,want)=>match(ops[j]?).bind (·.dst)with
  |some t=>some (some (t/16,t%16,want))
  |none=>none
def Qgp (P:Program) (m:Muts) (ops:Array Oper):List Oper->Option (List AOper)
 |[]=>some []
 |o::r=>match Qgk P o.op,guardOf ops o.guard,Qgp P m ops r with
  |some op,some g,some l=>some (⟨o.dst.map slot,op,g,modeOf m op,[]⟩::l)
  |_,_,_=>none
def Qh1:List AOper->List (List Nat)->List AOper
 |o::r,a::s=>{o with anc:=a}::Qh1 r s
 |_,_=>[]
def raise (ops:List (AOper×Nat)) (i:Nat) (o:AOper):AOper:=
 match o.op with
 |.store ..=>if ops.all λ(p,j)=>i==j||p.mode==0||p.mode==3||o.anc.contains j||p.anc.contains i then o else{o with mode:=4}
 |.append ..=>if ops.all λ(p,j)=>i==j||p.mode==0||p.mode==3||o.anc.contains j||p.anc.contains i then o else{o with mode:=4}
 |.call _ (_::_)=>if o.mode !=2||ops.all λ(p,j)=>i==j||p.mode==0||p.mode==3||o.anc.contains j||p.anc.contains i then o else{o with mode:=4}
 |_=>o
def modes (l:List AOper) (asq:List (List Nat)):List AOper:=(Qh1 l asq).zipIdx.map λ(o,i)=>raise (Qh1 l asq).zipIdx i o
def Qn1 (o:Oper) (g:Option (Nat×Nat×Bool)):List (Nat×Nat):=
 (o.op.operands.toList.filterMap λx=>match x with|.tmp t=>some (slot t)|_=>none)++(match g with|some (q,r,_)=>[(q,r)]|none=>[])
def ordered (i:Nat) (o:AOper) (j:Nat) (p:AOper):Bool:=(Nat.blt j i&&o.anc.contains j)||(Nat.blt i j&&p.anc.contains i)
def Qnz (al:List AOper) (o:AOper):List Nat:=o.anc.filter λk=>match al[k]? with|some p=>!(p.mode==0||p.mode==2)|none=>false
def aff (al:List AOper) (i:Nat) (o:AOper):List Nat:=
 match o.mode with
 |0=>[]
 |1=>[i+1]
 |2=>0::(Qnz al o).map (· +1)
 |3=>[i+1]
 |_=>(i+1)::(Qnz al o).map (· +1)
def rds (al:List AOper) (i:Nat) (o:AOper):List Nat:=
 match o.mode with
 |1=>0::(Qnz al o).map (· +1)
 |_=>aff al i o
def Qu5 (al:List AOper) (i:Nat) (oc:Oper) (o:AOper) (j:Nat) (p:AOper):Bool:=
 i==j||ordered i o j p||
  ((match o.dst,p.dst with|some a,some b=>a !=b|_,_=>true)&&
   (match p.dst with|some t=>!(Qn1 oc o.g).contains t|none=>true)&&
   !((aff al j p).any λc=>(rds al i o).contains c||(aff al i o).contains c))
def oneOk (al:List AOper) (i:Nat) (oc:Oper) (o:AOper):Bool:=
 Nat.ble o.mode 4&&
 (oc.after.toList.all λe=>!Region.binds .any e||Nat.blt e.on i)&&
 (o.anc.all λj=>oc.after.toList.any λe=>Region.binds .any e&&(e.on==j||(match al[e.on]? with|some p=>p.anc.contains j|none=>false)))&&
 (o.mode !=4||(match o.op with|.store ..=>true|.append ..=>true|.call _ (_::_)=>true|_=>false))
def regOk (ops:List Oper) (al:List AOper):Bool:=
 (ops.zip al).zipIdx.all λ(oo,i)=>oneOk al i oo.1 oo.2&&al.zipIdx.all λ(p,j)=>Qu5 al i oo.1 oo.2 j p
def Qez (P:Program) (m:Muts):Code->Option ACode
 |.skip=>some .skip
 |.region _ ops false=>match Qgp P m ops ops.toList with
  |some l=>some (.reg l)
  |none=>some .bad
 |.region _ ops true=>match Qgp P m ops ops.toList with
  |some l=>if regOk ops.toList (modes l (ancs ops.toList []))then some (.draw (modes l (ancs ops.toList [])))else some .bad
  |none=>some .bad
 |.seq a b=>match Qez P m a,Qez P m b with
  |some x,some y=>some (.seq x y)
  |_,_=>none
 |.cond c a b=>match od P c,Qez P m a,Qez P m b with
  |some c,some x,some y=>some (.cond c x y)
  |_,_,_=>none
 |.block id a=>(Qez P m a).map (.blk id)
 |.loop a=>(Qez P m a).map .loop
 |.exit id=>some (.exit id)
 |.ret=>some .ret
 |.label _=>some .skip
 |.scope a=>Qez P m a
 |_=>some .bad
def Qi6 (P:Program):List ResultVar->Option (List ARes)
 |[]=>some []
 |.tmp t::r=>(Qi6 P r).map (.tmp (t/16) (t%16)::·)
 |.cell a t::r=>match aggOf P t,szOf P t,Qi6 P r with
  |some g,some n,some l=>if g||n==1 then some (.cell (a/16) (a%16) g n::l)else none
  |_,_,_=>none
def Ql2 (P:Program) (m:Muts) (fn:Func):Option AFunc:=
 match fn.body with
 |none=>none
 |some c=>match Qez P m c,Qi6 P fn.results.toList with
  |some b,some r=>some ⟨fn.ntmps,fn.params.size+fn.nfree,r,b⟩
  |_,_=>none
end Go.Ev
namespace Go.Ev
section
variable {R:Type} {T:R->Prop} {z:R}
theorem fN_eq (n:Nat) (k:Nat->R):fN n k=k n:=by cases n<;>rfl
theorem fI_eq (n:Int) (k:Int->R):fI n k=k n:=by cases n<;>simp[fI,fN_eq]
theorem fB_eq (b:Bool) (k:Bool->R):fB b k=k b:=by cases b<;>rfl
theorem Qm6 (v:SV) (k:SV->R):fSV v k=k v:=by cases v<;>simp[fSV,fN_eq,fI_eq,fB_eq]
theorem Qes (hz:¬T z) {v:AV} {k:SV->R} (h:T (v.onOne z k)):∃s,v=.one s/\T (k s):=by
 cases v with
 |one s=>exact⟨s,rfl,h⟩
 |ag l=>exact(hz h).elim
 |tp l=>exact(hz h).elim
theorem Qmc (hz:¬T z) {v:AV} {k:List SV->R} (h:T (v.onAg z k)):∃l,v=.ag l/\T (k l):=by
 cases v with
 |one s=>exact(hz h).elim
 |ag l=>exact⟨l,rfl,h⟩
 |tp l=>exact(hz h).elim
theorem Qw3 (hz:¬T z) {v:AV} {k:List CV->R} (h:T (v.onTp z k)):∃l,v=.tp l/\T (k l):=by
 cases v with
 |one s=>exact(hz h).elim
 |ag l=>exact(hz h).elim
 |tp l=>exact⟨l,rfl,h⟩
def AV.cells?:AV->Option (List SV)
 |.one s=>some [s]
 |.ag l=>some l
 |.tp _=>none
theorem Qi5 (hz:¬T z) {v:AV} {k:List SV->R} (h:T (v.onCells z k)):∃l,v.cells?=some l/\T (k l):=by
 cases v with
 |one s=>exact⟨[s],rfl,h⟩
 |ag l=>exact⟨l,rfl,h⟩
 |tp l=>exact(hz h).elim
theorem Qgz (hz:¬T z) {v:SV} {k:IntKind->Int->R} (h:T (v.onInt z k)):∃a b,v=.int a b/\T (k a b):=by
 cases v<;>first|exact(hz h).elim|exact⟨_,_,rfl,h⟩
theorem Qf3 (hz:¬T z) {v:SV} {k:Bool->R} (h:T (v.Qfv z k)):∃b,v=.bool b/\T (k b):=by
 cases v<;>first|exact(hz h).elim|exact⟨_,rfl,h⟩
theorem Qk9 (hz:¬T z) {v:SV} {k:Nat->Nat->R} (h:T (v.onStr z k)):∃l b,v=.str l b/\T (k l b):=by
 cases v<;>first|exact(hz h).elim|exact⟨_,_,rfl,h⟩
theorem Qhu (hz:¬T z) {v:SV} {k:Nat->Nat->R} (h:T (v.onPtr z k)):∃a b,v=.optr a b/\T (k a b):=by
 cases v<;>first|exact(hz h).elim|exact⟨_,_,rfl,h⟩
theorem Qp1 (hz:¬T z) {v:SV} {k:Nat->Nat->Nat->Nat->Nat->R} (h:T (v.onSl z k)):∃a b c d e,v=.osl a b c d e/\T (k a b c d e):=by
 cases v<;>first|exact(hz h).elim|exact⟨_,_,_,_,_,rfl,h⟩
theorem Qxs (hz:¬T z) {v:SV} {k:Nat->List (Nat×Nat)->R} (h:T (v.onFn z k)):∃a b,v=.fn a b/\T (k a b):=by
 cases v<;>first|exact(hz h).elim|exact⟨_,_,rfl,h⟩
theorem Qew (hz:¬T z) {b:Bool} {x:R} (h:T (cond b x z)):b=true/\T x:=by
 cases b
 ·exact(hz h).elim
 ·exact⟨rfl,h⟩
theorem Qir (hz:¬T z) {b:Bool} {x:R} (h:T (cond b z x)):b=false/\T x:=by
 cases b
 ·exact⟨rfl,h⟩
 ·exact(hz h).elim
theorem Qgt (hz:¬T z) {α:Type} {o:Option α} {k:α->R} (h:T (Option.rec (motive:=λ_=>R) z k o)):∃a,o=some a/\T (k a):=by
 cases o with
 |none=>exact(hz h).elim
 |some a=>exact⟨a,rfl,h⟩
theorem Qgr {α:Type} (d:α) (l:List α) (i:Nat):nth d l i=(l[i]?).getD d:=by
 induction l generalizing i with
 |nil=>rfl
 |cons h t ih=>cases i with
  |zero=>rfl
  |succ j=>
   have:nth d (h::t) (j+1)=nth d t j:=rfl;rw[this,ih];simp
theorem Qxi {α:Type} (hz:¬T z) {l:List α} {i:Nat} {k:α->R} (h:T (nthK l i z k)):∃a,l[i]?=some a/\T (k a):=by
 induction l generalizing i with
 |nil=>exact(hz h).elim
 |cons a t ih=>cases i with
  |zero=>exact⟨a,by simp,h⟩
  |succ j=>obtain⟨b,h1,h2⟩:=ih (i:=j) h;exact⟨b,by simpa using h1,h2⟩
theorem Qh5 {α:Type} (l:List α) (i:Nat) (v:α) (k:List α->R):setK l i v k=k (l.set i v):=by
 induction l generalizing i k with
 |nil=>rfl
 |cons h t ih=>cases i with
  |zero=>rfl
  |succ j=>exact ih j _
theorem Qn9 (hz:¬T z) {l:List SV} {n:Nat} {k:List SV->R} (h:T (takeK l n z k)):n<=l.length/\T (k (l.take n)):=by
 induction l generalizing n k with
 |nil=>cases n with
  |zero=>exact⟨Nat.le_refl _,h⟩
  |succ m=>exact(hz h).elim
 |cons a t ih=>cases n with
  |zero=>exact⟨Nat.zero_le _,h⟩
  |succ m=>
   obtain⟨h1,h2⟩:=ih (n:=m) (k:=λr=>k (a::r)) h;exact⟨by simpa using h1,by simpa using h2⟩
theorem Qin (hz:¬T z) {l:List SV} {off n:Nat} {k:List SV->R} (h:T (subK l off n z k)):off+n<=l.length/\T (k ((l.drop off).take n)):=by
 induction l generalizing off with
 |nil=>cases off with
  |zero=>cases n with
   |zero=>exact⟨Nat.le_refl _,h⟩
   |succ m=>exact(hz h).elim
  |succ o=>exact(hz h).elim
 |cons a t ih=>cases off with
  |zero=>
   have h':T (takeK (a::t) n z k):=h;obtain⟨h1,h2⟩:=Qn9 hz h';exact⟨by omega,by simpa using h2⟩
  |succ o=>
   obtain⟨h1,h2⟩:=ih (off:=o) h;exact⟨by simp;omega,by simpa using h2⟩
theorem Qnn (hz:¬T z) {vs l:List SV} {k:List SV->R} (h:T (headK vs l z k)):vs.length<=l.length/\T (k (vs++l.drop vs.length)):=by
 induction vs generalizing l k with
 |nil=>
  have h':T (k l):=h;exact⟨Nat.zero_le _,by simpa using h'⟩
 |cons v t ih=>cases l with
  |nil=>exact(hz h).elim
  |cons a r=>
   obtain⟨h1,h2⟩:=ih (l:=r) (k:=λr=>k (v::r)) h;exact⟨by simpa using h1,by simpa using h2⟩
def over (l:List SV) (off:Nat) (vs:List SV):List SV:=l.take off++(vs++l.drop (off+vs.length))
theorem Qjz (hz:¬T z) {vs l:List SV} {off:Nat} {k:List SV->R} (h:T (overK l off vs z k)):off+vs.length<=l.length/\T (k (over l off vs)):=by
 induction l generalizing off k with
 |nil=>cases off with
  |zero=>
   have h':T (headK vs [] z k):=h;obtain⟨h1,h2⟩:=Qnn hz h';exact⟨by simpa using h1,by simpa[over]using h2⟩
  |succ o=>exact(hz h).elim
 |cons a t ih=>cases off with
  |zero=>
   have h':T (headK vs (a::t) z k):=h;obtain⟨h1,h2⟩:=Qnn hz h';exact⟨by simpa using h1,by simpa[over]using h2⟩
  |succ o=>
   obtain⟨h1,h2⟩:=ih (off:=o) (k:=λr=>k (a::r)) h;refine⟨by simp;omega,?_⟩;have e:over (a::t) (o+1) vs=a::over t o vs:=by
    simp only[over,List.take_succ_cons,List.cons_append];rw[show o+1+vs.length=(o+vs.length)+1 by omega,List.drop_succ_cons]
   rw[e];exact h2
theorem Qrs {l:List SV} {off:Nat} {vs:List SV} (h:off+vs.length<=l.length):(over l off vs).length=l.length:=by
 simp[over];omega
theorem over_get {l:List SV} {off:Nat} {vs:List SV} (h:off+vs.length<=l.length) (i:Nat):
 (over l off vs)[i]?=if i<off then l[i]? else if i<off+vs.length then vs[i-off]? else l[i]?:=by
 unfold over;by_cases h1:i<off
 ·rw[List.getElem?_append_left (by simp;omega)];simp[h1]
 ·rw[List.getElem?_append_right (by simp;omega)];simp only[h1,if_false,List.length_take];rw[show min off l.length=off by omega];by_cases h2:i<off+vs.length
  ·rw[List.getElem?_append_left (by omega)];simp[h2]
  ·rw[List.getElem?_append_right (by omega)];simp only[h2,if_false,List.getElem?_drop];congr 1;omega
theorem Qvc (l m:List SV) (k:List SV->R):appK l m k=k (l++m):=by
 induction l generalizing k with
 |nil=>rfl
 |cons h t ih=>exact ih _
theorem Qjx (l:List SV) (k:List SV->R):copyK l k=k l:=by
 induction l generalizing k with
 |nil=>rfl
 |cons h t ih=>exact ih _
theorem Qlb (l:List SV) (n:Nat) (k:Nat->R):lenK l n k=k (n+l.length):=by
 induction l generalizing n with
 |nil=>rfl
 |cons h t ih=>
  have:lenK (h::t) n k=lenK t (n+1) k:=rfl;rw[this,ih];congr 1;simp;omega
theorem Qn7 {a b:Nat} (h:¬a=b):Nat.beq a b=false:=by
 rw[Bool.eq_false_iff];intro e;exact h (Nat.eq_of_beq_eq_true e)
theorem Qgv {a b:Nat} (h:Nat.beq a b=true):a=b:=Nat.eq_of_beq_eq_true h
theorem look_nil (id:Nat):look [] id=none:=rfl
theorem Qey (p:Nat×List SV) (s:St) (id:Nat):look (p::s) id=if p.1=id then some p.2 else look s id:=by
 show cond (Nat.beq p.1 id) (some p.2) (look s id)=_;by_cases h:p.1=id
 ·simp[h]
 ·have:Nat.beq p.1 id=false:=Qn7 h;simp[this,h]
theorem Qe1 (s m:St) (id:Nat):look (s++m) id=match look s id with|some c=>some c|none=>look m id:=by
 induction s with
 |nil=>rfl
 |cons p t ih=>
  rw[List.cons_append,Qey,Qey];by_cases h:p.1=id
  ·simp[h]
  ·simp[h,ih]
theorem Qh3 (hz:¬T z) {c:List SV} {k:List SV->R} (h:T (Qms z k c)):mkd c=false/\T (k c):=Qir hz h
theorem Qh4 (hz:¬T z) {s:St} {id:Nat} {k:List SV->R} (h:T (Qh7 s id z k)):∃c,look s id=some c/\mkd c=false/\T (k c):=
 let⟨c,h1,h2⟩:=Qgt hz h
 ⟨c,h1,Qh3 hz h2⟩
theorem Qjd (hz:¬T z) {fz:Fz} {mu:St} {id:Nat} {k:List SV->R} (h:T (Qhs fz mu id z k)):
 ∃c,((look mu id=some c\/look mu id=none/\fz id=some c)/\mkd c=false)/\T (k c):=by
 unfold Qhs at h;cases e:look mu id with
 |some c=>rw[e]at h;exact⟨c,⟨.inl rfl,(Qh3 hz h).1⟩,(Qh3 hz h).2⟩
 |none=>
  rw[e]at h;obtain⟨c,h1,h2⟩:=Qgt hz h;exact⟨c,⟨.inr ⟨rfl,h1⟩,(Qh3 hz h2).1⟩,(Qh3 hz h2).2⟩
theorem Qe5 (mu:St) (fz:Fz) (id:Nat):with' mu fz id=match look mu id with|some c=>some c|none=>fz id:=by
 unfold with';cases look mu id<;>rfl
def putS:St->Nat->List SV->St
 |[],_,_=>[]
 |p::t,id,c=>if p.1=id then(p.1,c)::t else p::putS t id c
theorem Qmv (s:St) (id:Nat) (c:List SV) (k:St->R):putK s id c k=k (putS s id c):=by
 induction s generalizing k with
 |nil=>rfl
 |cons p t ih=>
  show cond (Nat.beq p.1 id) _ (putK t id c λr=>k (p::r))=_;rw[ih];by_cases h:p.1=id
  ·simp[h,putS]
  ·have:Nat.beq p.1 id=false:=Qn7 h;simp[this,h,putS]
theorem Qen (s:St) (id:Nat) (c:List SV) (id':Nat):look (putS s id c) id'=if id=id' then(look s id).map (λ_=>c)else look s id':=by
 induction s with
 |nil=>simp[putS,look_nil]
 |cons p t ih=>
  unfold putS;by_cases h:p.1=id
  ·simp only[h,if_true,Qey];by_cases h':id=id'<;>simp[h']
  ·simp only[h,if_false,Qey,ih];by_cases h':id=id'
   ·subst h';simp[h]
   ·simp[h']
def killS:St->Nat->St
 |[],_=>[]
 |p::t,id=>if p.1=id then killS t id else p::killS t id
theorem Qjs (s:St) (id:Nat) (k:St->R):killK s id k=k (killS s id):=by
 induction s generalizing k with
 |nil=>rfl
 |cons p t ih=>
  show cond (Nat.beq p.1 id) (killK t id k) (killK t id λr=>k (p::r))=_;rw[ih,ih];by_cases h:p.1=id
  ·simp[h,killS]
  ·have:Nat.beq p.1 id=false:=Qn7 h;simp[this,h,killS]
theorem Qfe (s:St) (id id':Nat):look (killS s id) id'=if id=id' then none else look s id':=by
 induction s with
 |nil=>simp[killS,look_nil]
 |cons p t ih=>
  unfold killS;by_cases h:p.1=id
  ·simp only[h,if_true,Qey,ih];by_cases h':id=id'<;>simp[h']
  ·simp only[h,if_false,Qey,ih];by_cases h':id=id'
   ·subst h';simp[h]
   ·simp[h']
theorem Qig (s m:St) (k:St->R):joinK s m k=k (s++m):=by
 induction s generalizing k with
 |nil=>rfl
 |cons p t ih=>exact ih _
theorem Qhe (a b:Int):ltI a b=decide (a<b):=by
 cases a<;>cases b<;>(rw[Bool.eq_iff_iff];simp[ltI,Nat.blt_eq])<;>omega
theorem Qit (a b:Int):eqI a b=decide (a=b):=by
 cases a<;>cases b<;>(rw[Bool.eq_iff_iff];simp[eqI])<;>omega
theorem Qi8 {a b:IntKind} (h:IntKind.eqb a b=true):a=b:=by
 cases a<;>cases b<;>first|rfl|(revert h;decide)
theorem wrap_small (kd:IntKind) (m:Nat) (h:m<128):kd.wrap (m:Int)=m:=by
 cases kd<;>simp[IntKind.wrap,IntKind.bits,IntKind.signed]<;>omega
theorem Qih (kd:IntKind) (n:Int) (k:Int->R):wrapK kd n k=k (kd.wrap n):=by
 cases n with
 |ofNat m=>
  show cond (Nat.blt m 128) (fN m λm=>k (Int.ofNat m)) (fI (kd.wrap (Int.ofNat m)) k)=_;by_cases h:m<128
  ·have e:Nat.blt m 128=true:=by simpa[Nat.blt_eq]using h
   rw[e,fN_eq];show k (m:Int)=k (kd.wrap (m:Int));rw[wrap_small kd m h]
  ·have e:Nat.blt m 128=false:=by
    rw[Bool.eq_false_iff];simpa[Nat.blt_eq]using h
   rw[e,fI_eq];rfl
 |negSucc m=>exact fI_eq _ _
theorem Qif (l:List SV):Qeq l=true↔∀s∈l,s.known=true:=by
 induction l with
 |nil=>simp[Qeq]
 |cons h t ih=>
  show cond h.known (Qeq t) false=true↔_;cases e:h.known<;>simp[e,ih]
end
end Go.Ev
namespace Go.Ev
def sB:Nat->Nat->List UInt8
 |0,_=>[]
 |l+1,n=>sB l (n/256)++[UInt8.ofNat n]
def sOf (l n:Nat):ByteArray:=⟨(sB l n).toArray⟩
theorem Qfx:∀l n,(sB l n).length=l
 |0,_=>rfl
 |l+1,n=>by simp[sB,Qfx l]
theorem Qs9 (l n:Nat):(sOf l n).data.toList=sB l n:=rfl
theorem Qht (l n:Nat):(sOf l n).size=l:=by
 show(sB l n).toArray.size=l;simp[Qfx]
theorem Qpd (n:Nat):UInt8.ofNat (n%256)=UInt8.ofNat n:=by
 apply UInt8.toNat_inj.1;simp[UInt8.toNat_ofNat']
theorem Qwa:∀l n,sB l (n%256^l)=sB l n
 |0,_=>rfl
 |l+1,n=>by
  simp only[sB];have h1:n%256^(l+1)/256=n/256%256^l:=by
   rw[Nat.pow_succ,Nat.mul_comm,Nat.mod_mul_right_div_self]
  have h2:UInt8.ofNat (n%256^(l+1))=UInt8.ofNat n:=by
   rw[<-Qpd,<-Qpd n];congr 1;rw[Nat.pow_succ,Nat.mul_comm];exact Nat.mod_mul_right_mod n 256 (256^l)
  rw[h1,h2,Qwa l]
theorem Qna (l1 n1:Nat):∀l2 n2,n2<256^l2->sB (l1+l2) (n1*256^l2+n2)=sB l1 n1++sB l2 n2
 |0,n2,h=>by
  have:n2=0:=by simpa using h
  subst this;simp[sB]
 |l2+1,n2,h=>by
  show sB (l1+l2) ((n1*256^(l2+1)+n2)/256)++[UInt8.ofNat (n1*256^(l2+1)+n2)]=sB l1 n1++(sB l2 (n2/256)++[UInt8.ofNat n2])
  have e1:(n1*256^(l2+1)+n2)/256=n1*256^l2+n2/256:=by
   rw[Nat.pow_succ,<-Nat.mul_assoc,Nat.add_comm,Nat.add_mul_div_right _ _ (by decide),Nat.add_comm]
  have e2:UInt8.ofNat (n1*256^(l2+1)+n2)=UInt8.ofNat n2:=by
   rw[<-Qpd,<-Qpd n2];congr 1;rw[Nat.pow_succ,<-Nat.mul_assoc,Nat.add_comm,Nat.add_mul_mod_self_right]
  have h3:n2/256<256^l2:=by
   rw[Nat.div_lt_iff_lt_mul (by decide)];rwa [Nat.pow_succ]at h
  rw[e1,e2,Qna l1 n1 l2 _ h3,List.append_assoc]
theorem Qsk {l k:Nat} (h:k<=l) (n:Nat):sB l n=sB k (n/256^(l-k))++sB (l-k) n:=by
 have h1:n=n/256^(l-k)*256^(l-k)+n%256^(l-k):=(Nat.div_add_mod' n _).symm;have h2:=Qna k (n/256^(l-k)) (l-k) (n%256^(l-k)) (Nat.mod_lt _ (Nat.pow_pos (by decide)));rw[<-h1,Qwa,show k+(l-k)=l by omega]at h2;exact h2
theorem sB_drop {l k:Nat} (h:k<=l) (n:Nat):(sB l n).drop k=sB (l-k) n:=by
 rw[Qsk h n,List.drop_append,Qfx];simp[List.drop_of_length_le (Nat.le_of_eq (Qfx k _))]
theorem Qxe {l k:Nat} (h:k<=l) (n:Nat):(sB l n).take k=sB k (n/256^(l-k)):=by
 rw[Qsk h n,List.take_append,Qfx];simp[List.take_of_length_le (Nat.le_of_eq (Qfx k _))]
theorem sB_get {l i:Nat} (h:i<l) (n:Nat):(sB l n)[i]?=some (UInt8.ofNat (n/256^(l-1-i))):=by
 have h1:=Qxe (show i+1<=l by omega) n;have h2:((sB l n).take (i+1))[i]?=(sB l n)[i]?:=by rw[List.getElem?_take];simp
 rw[<-h2,h1,show l-(i+1)=l-1-i by omega];show(sB i _++[_])[i]?=_;rw[List.getElem?_append_right (by simp[Qfx]),Qfx];simp
theorem sB_slice {l lo hi:Nat} (h1:hi<=l) (h2:lo<=hi) (n:Nat):((sB l n).drop lo).take (hi-lo)=sB (hi-lo) (n/256^(l-hi)%256^(hi-lo)):=by
 rw[sB_drop (by omega),Qxe (by omega),Qwa,show l-lo-(hi-lo)=l-hi by omega]
theorem sB_inj:∀{l n n':Nat},n<256^l->n'<256^l->sB l n=sB l n'->n=n'
 |0,n,n',h,h',_=>by simp at h h';omega
 |l+1,n,n',h,h',e=>by
  simp only[sB]at e;have e1:=List.append_inj e (by simp[Qfx]);have h3:n/256<256^l:=by rw[Nat.div_lt_iff_lt_mul (by decide)];rwa [Nat.pow_succ]at h
  have h4:n'/256<256^l:=by rw[Nat.div_lt_iff_lt_mul (by decide)];rwa [Nat.pow_succ]at h'
  have e2:=sB_inj h3 h4 e1.1;have e3:UInt8.ofNat n=UInt8.ofNat n':=by simpa using e1.2
  have e4:n%256=n'%256:=by
   have:=congrArg UInt8.toNat e3;simpa[UInt8.toNat_ofNat']using this
  omega
theorem Qrh:∀l n,(sB l n).foldl (λa (b:UInt8)=>a*256+b.toNat) 0=n%256^l
 |0,n=>by simp[sB,Nat.mod_one]
 |l+1,n=>by
  simp only[sB,List.foldl_append,List.foldl_cons,List.foldl_nil,Qrh l];rw[UInt8.toNat_ofNat',show(256:Nat)^(l+1)=256*256^l by rw[Nat.pow_succ,Nat.mul_comm],Nat.mod_mul];show n/256%256^l*256+n%256=_;omega
theorem Qw7:∀(bs:List UInt8) (a l:Nat),a<256^l->bs.foldl (λa (b:UInt8)=>a*256+b.toNat) a<256^(l+bs.length)
 |[],a,l,h=>by simpa using h
 |b::bs,a,l,h=>by
  have hb:b.toNat<256:=b.toNat_lt;have:a*256+b.toNat<256^(l+1):=by rw[Nat.pow_succ];omega
  have:=Qw7 bs _ (l+1) this;simpa[Nat.add_assoc,Nat.add_comm,Nat.add_left_comm]using this
theorem fold_eq:∀(bs:List UInt8) (a l:Nat),sB (l+bs.length) (bs.foldl (λa (b:UInt8)=>a*256+b.toNat) a)=sB l a++bs
 |[],a,l=>by simp
 |b::bs,a,l=>by
  have h:=fold_eq bs (a*256+b.toNat) (l+1);have e:sB (l+1) (a*256+b.toNat)=sB l a++[b]:=by
   have hb:b.toNat<256:=b.toNat_lt;simp only[sB];rw[show(a*256+b.toNat)/256=a by omega];congr 2;rw[<-Qpd,show(a*256+b.toNat)%256=b.toNat by omega];simp
  rw[e]at h;simp only[List.length_cons,List.foldl_cons];rw[show l+(bs.length+1)=l+1+bs.length by omega,h];simp
theorem Qqm (bs:List UInt8):nOf bs<256^bs.length:=by
 have:=Qw7 bs 0 0 (by decide);rw[Nat.zero_add]at this;exact this
theorem nOf_eq (bs:List UInt8):sB bs.length (nOf bs)=bs:=by simpa[sB,nOf]using fold_eq bs 0 0
theorem sOf_nOf (s:ByteArray):sOf s.data.toList.length (nOf s.data.toList)=s:=by
 unfold sOf;rw[nOf_eq]
theorem sOf_eq {l n l' n':Nat} (h:n<256^l) (h':n'<256^l'):(sOf l n=sOf l' n')↔(l=l'/\n=n'):=by
 constructor
 ·intro e;have e1:sB l n=sB l' n':=by rw[<-Qs9,<-Qs9,e]
  have e2:l=l':=by have:=congrArg List.length e1;rwa [Qfx,Qfx]at this
  subst e2;exact⟨rfl,sB_inj h h' e1⟩
 ·rintro⟨rfl,rfl⟩;rfl
theorem Qjb {l n l' n':Nat}:strEq l n l' n'=true↔(l=l'/\n=n'):=by
 unfold strEq;cases e:Nat.beq l l' with
 |true=>have:=Nat.eq_of_beq_eq_true e;simp[this]
 |false=>have:=Nat.ne_of_beq_eq_false e;simp[this]
theorem Qsr (u:UInt8) (a:List UInt8):nOf (u::a)=u.toNat*256^a.length+nOf a:=by
 have key:∀(a:List UInt8) (p:Nat),a.foldl (λa (b:UInt8)=>a*256+b.toNat) p=p*256^a.length+nOf a:=by
  intro a;induction a with
  |nil=>intro p;simp[nOf]
  |cons v a ih=>
   intro p;show a.foldl _ (p*256+v.toNat)=_*256^(a.length+1)+a.foldl _ (0*256+v.toNat);rw[ih,ih,Nat.pow_succ,Nat.add_mul,Nat.add_mul,Nat.zero_mul,Nat.mul_comm (256^a.length) 256,<-Nat.mul_assoc];omega
 show a.foldl _ (0*256+u.toNat)=_;rw[key];simp
theorem Qtc:∀(a b:List UInt8),Op.bytesLess a b=true↔(nOf a*256^b.length<nOf b*256^a.length\/nOf a*256^b.length=nOf b*256^a.length/\a.length<b.length)
 |[],[]=>by simp[Op.bytesLess,nOf]
 |_::_,[]=>by simp[Op.bytesLess,nOf]
 |[],v::b=>by
  simp only[Op.bytesLess,List.length_nil,Nat.pow_zero,Nat.mul_one,List.length_cons];have:nOf []=0:=rfl;rw[this];simp only[Nat.zero_mul,true_iff];rcases Nat.eq_zero_or_pos (nOf (v::b))with h|h
  ·exact .inr ⟨h.symm,by omega⟩
  ·exact .inl h
 |u::a,v::b=>by
  have ih:=Qtc a b;have ha:=Qqm a;have hb:=Qqm b;have hX:nOf a*256^b.length<256^(a.length+b.length):=by
   rw[Nat.pow_add];exact Nat.mul_lt_mul_of_pos_right ha (Nat.pow_pos (by decide))
  have hY:nOf b*256^a.length<256^(a.length+b.length):=by
   rw[Nat.add_comm,Nat.pow_add];exact Nat.mul_lt_mul_of_pos_right hb (Nat.pow_pos (by decide))
  have e1:nOf (u::a)*256^(b.length+1)=256*(u.toNat*256^(a.length+b.length)+nOf a*256^b.length):=by
   rw[Qsr,Nat.pow_succ,Nat.pow_add,Nat.add_mul,Nat.mul_add,Nat.mul_comm 256 (u.toNat*_),Nat.mul_comm 256 (nOf a*_)];simp only[Nat.mul_assoc]
  have e2:nOf (v::b)*256^(a.length+1)=256*(v.toNat*256^(a.length+b.length)+nOf b*256^a.length):=by
   rw[Qsr,Nat.pow_succ,Nat.pow_add,Nat.add_mul,Nat.mul_add,Nat.mul_comm 256 (v.toNat*_),Nat.mul_comm 256 (nOf b*_),Nat.mul_comm (256^a.length) (256^b.length)];simp only[Nat.mul_assoc]
  simp only[List.length_cons];rw[e1,e2];generalize 256^(a.length+b.length)=M at*
  generalize nOf a*256^b.length=X at*
  generalize nOf b*256^a.length=Y at*
  have h1:(u<v)↔u.toNat<v.toNat:=UInt8.lt_iff_toNat_lt;have h2:(u=v)↔u.toNat=v.toNat:=UInt8.toNat_inj.symm;simp only[Op.bytesLess,Bool.or_eq_true,decide_eq_true_eq,Bool.and_eq_true,beq_iff_eq,ih,h1,h2];generalize u.toNat=p;generalize v.toNat=q;rcases Nat.lt_trichotomy p q with h|h|h
  ·have:p*M+M<=q*M:=by rw[<-Nat.succ_mul];exact Nat.mul_le_mul_right M h
   constructor
   ·intro _;exact .inl (by omega)
   ·intro _;exact .inl h
  ·subst h;constructor
   ·rintro(h|⟨_,h|⟨h,h'⟩⟩)
    ·omega
    ·exact .inl (by omega)
    ·exact .inr ⟨by omega,by omega⟩
   ·rintro(h|⟨h,h'⟩)
    ·exact .inr ⟨rfl,.inl (by omega)⟩
    ·exact .inr ⟨rfl,.inr ⟨by omega,by omega⟩⟩
  ·have:q*M+M<=p*M:=by rw[<-Nat.succ_mul];exact Nat.mul_le_mul_right M h
   constructor
   ·rintro(h|⟨h,_⟩)<;>omega
   ·rintro(h|⟨h,_⟩)<;>omega
theorem Qp0 {l n l' n':Nat} (h:n<256^l) (h':n'<256^l'):strLt l n l' n'=Op.bytesLess (sB l n) (sB l' n'):=by
 have e:nOf (sB l n)=n:=by unfold nOf;rw[Qrh,Nat.mod_eq_of_lt h]
 have e':nOf (sB l' n')=n':=by unfold nOf;rw[Qrh,Nat.mod_eq_of_lt h']
 have key:=Qtc (sB l n) (sB l' n');rw[Qfx,Qfx,e,e']at key;rw[Bool.eq_iff_iff,key];unfold strLt;cases h1:Nat.blt (Nat.mul n (Nat.pow 256 l')) (Nat.mul n' (Nat.pow 256 l))with
 |true=>simp only[cond_true,true_iff];exact .inl (Nat.le_of_ble_eq_true h1)
 |false=>
  have h2:¬n*256^l'<n'*256^l:=λh=>by
   have:Nat.blt (Nat.mul n (Nat.pow 256 l')) (Nat.mul n' (Nat.pow 256 l))=true:=Nat.ble_eq_true_of_le h;rw[h1]at this;cases this
  cases h3:Nat.beq (Nat.mul n (Nat.pow 256 l')) (Nat.mul n' (Nat.pow 256 l))with
  |true=>
   have h4:n*256^l'=n'*256^l:=Nat.eq_of_beq_eq_true h3;simp only[cond_false,cond_true];constructor
   ·intro h5;exact .inr ⟨h4,Nat.le_of_ble_eq_true h5⟩
   ·rintro(h5|⟨_,h5⟩)
    ·exact(h2 h5).elim
    ·exact Nat.ble_eq_true_of_le h5
  |false=>
   have h4:¬n*256^l'=n'*256^l:=Nat.ne_of_beq_eq_false h3;simp only[cond_false];constructor
   ·intro h;cases h
   ·rintro(h5|⟨h5,_⟩)
    ·exact(h2 h5).elim
    ·exact(h4 h5).elim
section
variable {R:Type} {T:R->Prop} {z:R}
def Qlw (bs:List UInt8):List SV:=bs.map λb=>.int .u8 (Int.ofNat b.toNat)
theorem Qrx:∀(l n:Nat) (acc:List SV) (k:List SV->R),digK l n acc k=k (Qlw (sB l n)++acc)
 |0,n,acc,k=>rfl
 |l+1,n,acc,k=>by
  show(fN (Nat.mod n 256) λd=>fN (Nat.div n 256) λn=>digK l n (.int .u8 (Int.ofNat d)::acc) k)=_;rw[fN_eq,fN_eq,Qrx l];have:(Nat.mod n 256)=(UInt8.ofNat n).toNat:=by simp[UInt8.toNat_ofNat'];rfl
  rw[this];simp only[sB,Qlw,List.map_append,List.map_cons,List.map_nil,List.append_assoc,List.cons_append,List.nil_append];rfl
end
end Go.Ev
namespace Go.Ev
def All2 {α β:Type} (R:α->β->Prop):List α->List β->Prop
 |[],[]=>True
 |a::x,b::y=>R a b/\All2 R x y
 |_,_=>False
section
variable {α β:Type} {R S:α->β->Prop}
theorem All2.length {x:List α} {y:List β} (h:All2 R x y):x.length=y.length:=by
 induction x generalizing y with
 |nil=>cases y with
  |nil=>rfl
  |cons b y=>exact h.elim
 |cons a x ih=>cases y with
  |nil=>exact h.elim
  |cons b y=>simp[ih h.2]
theorem All2.get {x:List α} {y:List β} (h:All2 R x y) {i:Nat} {a:α} (ha:x[i]?=some a):∃b,y[i]?=some b/\R a b:=by
 induction x generalizing y i with
 |nil=>simp at ha
 |cons a' x ih=>cases y with
  |nil=>exact h.elim
  |cons b y=>cases i with
   |zero=>simp at ha;subst ha;exact⟨b,by simp,h.1⟩
   |succ j=>simpa using ih h.2 (by simpa using ha)
theorem All2.Qlq {x:List α} {y:List β} (hl:x.length=y.length) (h:∀(i:Nat) a b,x[i]?=some a->y[i]?=some b->R a b):All2 R x y:=by
 induction x generalizing y with
 |nil=>cases y with
  |nil=>trivial
  |cons b y=>simp at hl
 |cons a x ih=>cases y with
  |nil=>simp at hl
  |cons b y=>exact⟨h 0 a b (by simp) (by simp),ih (by simpa using hl) λi a b ha hb=>h (i+1) a b (by simpa using ha) (by simpa using hb)⟩
theorem All2.imp {x:List α} {y:List β} (h:All2 R x y) (hi:∀a b,R a b->S a b):All2 S x y:=by
 induction x generalizing y with
 |nil=>cases y with
  |nil=>trivial
  |cons b y=>exact h.elim
 |cons a x ih=>cases y with
  |nil=>exact h.elim
  |cons b y=>exact⟨hi _ _ h.1,ih h.2⟩
theorem All2.append {x x':List α} {y y':List β} (h:All2 R x y) (h':All2 R x' y'):All2 R (x++x') (y++y'):=by
 induction x generalizing y with
 |nil=>cases y with
  |nil=>exact h'
  |cons b y=>exact h.elim
 |cons a x ih=>cases y with
  |nil=>exact h.elim
  |cons b y=>exact⟨h.1,ih h.2⟩
theorem All2.take {x:List α} {y:List β} (h:All2 R x y) (n:Nat):All2 R (x.take n) (y.take n):=by
 induction x generalizing y n with
 |nil=>cases y with
  |nil=>simp[All2]
  |cons b y=>exact h.elim
 |cons a x ih=>cases y with
  |nil=>exact h.elim
  |cons b y=>cases n with
   |zero=>simp[All2]
   |succ m=>exact⟨h.1,ih h.2 m⟩
theorem All2.drop {x:List α} {y:List β} (h:All2 R x y) (n:Nat):All2 R (x.drop n) (y.drop n):=by
 induction x generalizing y n with
 |nil=>cases y with
  |nil=>simp[All2]
  |cons b y=>exact h.elim
 |cons a x ih=>cases y with
  |nil=>exact h.elim
  |cons b y=>cases n with
   |zero=>exact h
   |succ m=>exact ih h.2 m
end
abbrev Rho:=Nat->Option (Nat×Nat)
def bsize (w:World) (b:Nat):Nat:=match w.heap[b]? with|some (.cells c _ _)=>c.size|_=>0
def CapR (ρ:Rho) (p:Nat×Nat) (x:Value):Prop:=∃q,ρ p.1=some q/\x=.pointer (some ⟨q.1,q.2+p.2,none⟩)
def VR (val:Nat->Int) (ρ:Rho) (w:World):SV->Value->Prop
 |.un,_=>True
 |.int k n,v=>v=.int k n
 |.bool b,v=>v=.bool b
 |.str l n,v=>n<256^l/\v=.string (sOf l n)
 |.nsl,v=>v=.slice none 0 0
 |.npt,v=>v=.pointer none
 |.nfn,v=>v=.nilFunc
 |.optr id off,v=>∃p,ρ id=some p/\v=.pointer (some ⟨p.1,p.2+off,none⟩)
 |.osl id off len cap s,v=>∃p c,ρ id=some p/\v=.slice (some ⟨p.1,p.2+off,none⟩) len c/\len<=cap/\cap<=c/\p.2+off+c*s<=bsize w p.1/\c<=9223372036854775807
 |.esl,v=>∃a,v=.slice (some a) 0 0
 |.zsl,v=>∃a c,v=.slice (some a) 0 c
 |.fn f caps,v=>∃vs:List Value,v=.func (.func f) #[] vs.toArray/\All2 (CapR ρ) caps vs
 |.sym k i,v=>v=.int k (val i)
 |.nmp,v=>v=.map none
 |.mp id,v=>∃p,ρ id=some p/\p.2=0/\v=.map (some p.1)
 |.nif,v=>v=.nilIface
 |.mk _,_=>False
def CVR (val:Nat->Int) (ρ:Rho) (w:World):CV->Value->Prop
 |.one s,v=>VR val ρ w s v
 |.ag l,v=>∃vs:List Value,v=.agg vs.toArray/\All2 (VR val ρ w) l vs
def AVR (val:Nat->Int) (ρ:Rho) (w:World):AV->Value->Prop
 |.one s,v=>VR val ρ w s v
 |.ag l,v=>∃vs:List Value,v=.agg vs.toArray/\All2 (VR val ρ w) l vs
 |.tp l,v=>∃vs:List Value,v=.tuple vs.toArray/\All2 (CVR val ρ w) l vs
def FrOk (fr:Nat×Nat) (n:Nat):Prop:=fr.2<=fr.1\/s2bOk=true/\n<=fr.1
theorem FrOk.no {fr:Nat×Nat} {n:Nat} (h:FrOk fr n) {x:Nat} (hx:x<n):(decide (fr.1<=x)&&decide (x<fr.2))=false:=by
 rcases h with h|⟨_,h⟩
 ·by_cases h1:fr.1<=x
  ·have:¬x<fr.2:=by omega
   simp[this]
  ·simp[h1]
 ·have:¬fr.1<=x:=by omega
  simp[this]
theorem FrOk.all {fr:Nat×Nat} {n:Nat} (hs:s2bOk=false) (h:FrOk fr n) (x:Nat):(decide (fr.1<=x)&&decide (x<fr.2))=false:=by
 rcases h with h|⟨h,_⟩
 ·by_cases h1:fr.1<=x
  ·have:¬x<fr.2:=by omega
   simp[this]
  ·simp[h1]
 ·rw[hs]at h;cases h
theorem FrOk.zero (n:Nat):FrOk (0,0) n:=.inl (Nat.le_refl _)
def Own (val:Nat->Int) (ρ:Rho) (w:World) (id:Nat) (cs:List SV):Prop:=
 ∃p C ty fr,ρ id=some p/\w.heap[p.1]?=some (.cells C ty fr)/\FrOk fr C.size/\p.2+cs.length<=C.size/\∀i s,cs[i]?=some s->∃v,C[p.2+i]?=some v/\VR val ρ w s v
def EntR (val:Nat->Int) (ρ:Rho) (w:World) (agg:Bool) (e:SV×List SV) (m:MapEntry):Prop:=
 VR val ρ w e.1 m.key/\(∃vs:List Value,(if agg then m.val=.agg vs.toArray else vs=[m.val])/\All2 (VR val ρ w) e.2 vs)
inductive OwnS (val:Nat->Int) (ρ:Rho) (w:World) (id:Nat):List SV->Prop where
 |map (p:Nat) (agg:Bool) (v:Nat) (es:List (SV×List SV)) (ms:Array MapEntry) (clock:Nat) (hp:ρ id=some (p,0)) (hw:w.heap[p]?=some (.map ms clock)) (hv:∀e∈es,e.2.length=v/\e.1.known=true/\Qeq e.2=true)
  (he:All2 (EntR val ρ w agg) es ms.toList) (hb:(ms.toList.map (·.born)).Pairwise (· <·)) (hc:∀m∈ms.toList,m.born<clock):OwnS val ρ w id (.mk (mtag agg v)::flatE es)
 |text (g l n:Nat) (C:Array Value) (ty:TypeId) (fr:Nat×Nat) (hp:ρ id=some (g,0)) (hw:w.heap[g]?=some (.cells C ty fr)) (hf:fr.2<=l) (hn:n<256^l) (hl:l<=C.size)
  (hC:∀(i:Nat) (b:UInt8),(sB l n)[i]?=some b->C[i]?=some (.int .u8 (Int.ofNat b.toNat))):OwnS val ρ w id [.mk 2,.str l n,.mk ty]
 |bld (p:Nat) (ty:TypeId) (a s:SV) (va vs:Value) (hp:ρ id=some (p,0)) (hw:w.heap[p]?=some (.cells #[va,vs] ty (0,0))) (ha:a=.npt/\va=.pointer none\/a=.optr id 0/\va=.pointer (some ⟨p,0,none⟩)) (hs:VR val ρ w s vs):OwnS val ρ w id [.mk 3,.mk ty,a,s]
 |box (p:Nat) (ty:TypeId) (fr:Nat×Nat) (s:SV) (v:Value) (hp:ρ id=some (p,0)) (hw:w.heap[p]?=some (.cells #[v] ty fr)) (hs:VR val ρ w s v):OwnS val ρ w id [.mk 1,s]
 |glob (p kd:Nat) (C:Array Value) (ty:TypeId) (fr:Nat×Nat) (v:Value) (hp:ρ id=some (p,0)) (hw:w.heap[p]?=some (.cells C ty fr)) (hv:C[0]?=some v)
  (hg:kd=0/\(∃m,v=.int .i64 m)\/kd=1/\(v=.nilIface\/∃te pe,v=.iface te pe)\/kd=2/\C=(Lib.pow10Tab.map λz=>Value.int .u64 z).toArray):OwnS val ρ w id [.mk 0,.mk p,.mk kd]
def OwnG (val:Nat->Int) (ρ:Rho) (w:World) (id:Nat) (cs:List SV):Prop:=Own val ρ w id cs\/OwnS val ρ w id cs
theorem OwnS.mkd {val:Nat->Int} {ρ:Rho} {w:World} {id:Nat} {cs:List SV} (h:OwnS val ρ w id cs):mkd cs=true:=by
 cases h<;>rfl
theorem OwnG.plain {val:Nat->Int} {ρ:Rho} {w:World} {id:Nat} {cs:List SV} (h:OwnG val ρ w id cs) (hm:Go.Ev.mkd cs=false):Own val ρ w id cs:=by
 rcases h with h|h
 ·exact h
 ·rw[h.mkd]at hm;cases hm
theorem OwnG.other {val:Nat->Int} {ρ:Rho} {w:World} {id:Nat} {cs:List SV} (h:OwnG val ρ w id cs) (hm:Go.Ev.mkd cs=true):OwnS val ρ w id cs:=by
 rcases h with h|h
 ·obtain⟨p,C,ty,fr,h1,h2,hfr,h3,h4⟩:=h;cases cs with
  |nil=>cases hm
  |cons c cs=>
   obtain⟨v,_,hv⟩:=h4 0 c rfl;cases c<;>first|exact hv.elim|cases hm
 ·exact h
theorem OwnG.at {val:Nat->Int} {ρ:Rho} {w:World} {id:Nat} {cs:List SV} (h:OwnG val ρ w id cs):∃p o,ρ id=some p/\w.heap[p.1]?=some o:=by
 rcases h with⟨p,C,ty,fr,h1,h2,_⟩|h
 ·exact⟨p,_,h1,h2⟩
 ·cases h with
  |map p agg v es ms clock hp hw=>exact⟨(p,0),_,hp,hw⟩
  |text g l n C ty fr hp hw=>exact⟨(g,0),_,hp,hw⟩
  |bld p ty a s va vs hp hw=>exact⟨(p,0),_,hp,hw⟩
  |box p ty fr s v hp hw=>exact⟨(p,0),_,hp,hw⟩
  |glob p kd C ty fr v hp hw=>exact⟨(p,0),_,hp,hw⟩
def OwnR (val:Nat->Int) (ρ:Rho) (w:World) (id:Nat) (cs:List SV):Prop:=
 ∃p C ty fr,ρ id=some p/\w.heap[p.1]?=some (.cells C ty fr)/\p.2+cs.length<=C.size/\∀i s,cs[i]?=some s->∃v,C[p.2+i]?=some v/\VR val ρ w s v
theorem Own.r {val:Nat->Int} {ρ:Rho} {w:World} {id:Nat} {cs:List SV} (h:Own val ρ w id cs):OwnR val ρ w id cs:=let⟨p,C,ty,fr,h1,h2,_,h3,h4⟩:=h;⟨p,C,ty,fr,h1,h2,h3,h4⟩
def OwnF (val:Nat->Int) (ρ:Rho) (w:World) (id:Nat) (cs:List SV):Prop:=OwnR val ρ w id cs\/OwnS val ρ w id cs
theorem OwnG.f {val:Nat->Int} {ρ:Rho} {w:World} {id:Nat} {cs:List SV} (h:OwnG val ρ w id cs):OwnF val ρ w id cs:=h.imp Own.r (λh=>h)
theorem OwnF.plain {val:Nat->Int} {ρ:Rho} {w:World} {id:Nat} {cs:List SV} (h:OwnF val ρ w id cs) (hm:Go.Ev.mkd cs=false):OwnR val ρ w id cs:=by
 rcases h with h|h
 ·exact h
 ·rw[h.mkd]at hm;cases hm
theorem OwnF.other {val:Nat->Int} {ρ:Rho} {w:World} {id:Nat} {cs:List SV} (h:OwnF val ρ w id cs) (hm:Go.Ev.mkd cs=true):OwnS val ρ w id cs:=by
 rcases h with h|h
 ·obtain⟨p,C,ty,fr,h1,h2,h3,h4⟩:=h;cases cs with
  |nil=>cases hm
  |cons c cs=>
   obtain⟨v,_,hv⟩:=h4 0 c rfl;cases c<;>first|exact hv.elim|cases hm
 ·exact h
theorem OwnF.g {val:Nat->Int} {ρ:Rho} {w:World} {id:Nat} {cs:List SV} (h:OwnF val ρ w id cs) (hm:Go.Ev.mkd cs=true):OwnG val ρ w id cs:=.inr (h.other hm)
theorem OwnF.at {val:Nat->Int} {ρ:Rho} {w:World} {id:Nat} {cs:List SV} (h:OwnF val ρ w id cs):∃p o,ρ id=some p/\w.heap[p.1]?=some o:=by
 rcases h with⟨p,C,ty,fr,h1,h2,_⟩|h
 ·exact⟨p,_,h1,h2⟩
 ·exact OwnG.at (.inr h)
structure Rel (val:Nat->Int) (ρ:Rho) (fz:Fz) (mu:St) (w:World):Prop where
 rf:∀id cs,fz id=some cs->OwnF val ρ w id cs
 rm:∀id cs,look mu id=some cs->OwnG val ρ w id cs
 dm:∀id cs,look mu id=some cs->fz id=none
 dj:∀id id' p p',(look mu id).isSome->((look mu id').isSome\/(fz id').isSome)->ρ id=some p->ρ id'=some p'->p.1=p'.1->id=id'
structure Fr (ρ:Rho) (mu:St) (w w':World):Prop where
 os:w'.os=w.os
 tape:w'.tape=w.tape
 output:w'.output=w.output
 size:w.heap.size<=w'.heap.size
 keep:∀b,b<w.heap.size->(∀id p,(look mu id).isSome->ρ id=some p->p.1≠b)->w'.heap[b]?=w.heap[b]?
 shape:∀b,bsize w b<=bsize w' b
structure Ext (ρ ρ':Rho) (n n':Nat):Prop where
 old:∀id p,ρ id=some p->ρ' id=some p
 new:∀id p,ρ' id=some p->ρ id=some p\/n<=id/\id<n'
def Qgi (ρ:Rho) (n n':Nat):Prop:=∀id,n<=id->id<n'->ρ id=none
def NewB (ρ ρ':Rho) (mu mu':St) (w:World):Prop:=
 ∀id p,(look mu' id).isSome->ρ' id=some p->w.heap.size<=p.1\/∃id0 p0,(look mu id0).isSome/\ρ id0=some p0/\p0.1=p.1
def NewI (mu mu':St) (n n':Nat):Prop:=∀id,(look mu' id).isSome->(look mu id).isSome\/n<=id/\id<n'
section
variable {val:Nat->Int} {ρ ρ':Rho} {w w':World}
theorem VR.mono {s:SV} {v:Value} (h:VR val ρ w s v) (ho:∀id p,ρ id=some p->ρ' id=some p) (hs:∀b,bsize w b<=bsize w' b):VR val ρ' w' s v:=by
 cases s with
 |optr id off=>obtain⟨p,h1,h2⟩:=h;exact⟨p,ho _ _ h1,h2⟩
 |osl id off len cap s=>obtain⟨p,c,h1,h2,h3,h4,h5,h6⟩:=h;exact⟨p,c,ho _ _ h1,h2,h3,h4,Nat.le_trans h5 (hs _),h6⟩
 |fn f caps=>obtain⟨vs,h1,h2⟩:=h;exact⟨vs,h1,h2.imp λa b ⟨q,hq,e⟩=>⟨q,ho _ _ hq,e⟩⟩
 |mp id=>obtain⟨p,h1,h2⟩:=h;exact⟨p,ho _ _ h1,h2⟩
 |_=>exact h
theorem VRs.mono {l:List SV} {vs:List Value} (h:All2 (VR val ρ w) l vs) (ho:∀id p,ρ id=some p->ρ' id=some p) (hs:∀b,bsize w b<=bsize w' b):All2 (VR val ρ' w') l vs:=
 h.imp λ_ _ h=>h.mono ho hs
theorem CVR.mono {s:CV} {v:Value} (h:CVR val ρ w s v) (ho:∀id p,ρ id=some p->ρ' id=some p) (hs:∀b,bsize w b<=bsize w' b):CVR val ρ' w' s v:=by
 cases s with
 |one s=>exact VR.mono h ho hs
 |ag l=>obtain⟨vs,e,h⟩:=h;exact⟨vs,e,VRs.mono h ho hs⟩
theorem AVR.mono {s:AV} {v:Value} (h:AVR val ρ w s v) (ho:∀id p,ρ id=some p->ρ' id=some p) (hs:∀b,bsize w b<=bsize w' b):AVR val ρ' w' s v:=by
 cases s with
 |one s=>exact VR.mono h ho hs
 |ag l=>obtain⟨vs,e,h⟩:=h;exact⟨vs,e,VRs.mono h ho hs⟩
 |tp l=>obtain⟨vs,e,h⟩:=h;exact⟨vs,e,h.imp λ_ _ h=>h.mono ho hs⟩
theorem Own.mono {id:Nat} {cs:List SV} (h:Own val ρ w id cs) (ho:∀id p,ρ id=some p->ρ' id=some p) (hs:∀b,bsize w b<=bsize w' b)
 (hk:∀p,ρ id=some p->w'.heap[p.1]?=w.heap[p.1]?):Own val ρ' w' id cs:=by
 obtain⟨p,C,ty,fr,h1,h2,hfr,h3,h4⟩:=h;exact⟨p,C,ty,fr,ho _ _ h1,(hk p h1).trans h2,hfr,h3,λi s hi=>let⟨v,e,r⟩:=h4 i s hi;⟨v,e,r.mono ho hs⟩⟩
theorem EntR.mono {agg:Bool} {e:SV×List SV} {m:MapEntry} (h:EntR val ρ w agg e m) (ho:∀id p,ρ id=some p->ρ' id=some p) (hs:∀b,bsize w b<=bsize w' b):EntR val ρ' w' agg e m:=
 ⟨h.1.mono ho hs,let⟨vs,h1,h2⟩:=h.2;⟨vs,h1,VRs.mono h2 ho hs⟩⟩
theorem OwnS.mono {id:Nat} {cs:List SV} (h:OwnS val ρ w id cs) (ho:∀id p,ρ id=some p->ρ' id=some p) (hs:∀b,bsize w b<=bsize w' b)
 (hk:∀p,ρ id=some p->w'.heap[p.1]?=w.heap[p.1]?):OwnS val ρ' w' id cs:=by
 cases h with
 |map p agg v es ms clock hp hw hv he hb hc=>exact .map p agg v es ms clock (ho _ _ hp) ((hk _ hp).trans hw) hv (he.imp λ_ _ h=>h.mono ho hs) hb hc
 |text g l n C ty fr hp hw hf hn hl hC=>exact .text g l n C ty fr (ho _ _ hp) ((hk _ hp).trans hw) hf hn hl hC
 |bld p ty a s va vs hp hw ha hv=>exact .bld p ty a s va vs (ho _ _ hp) ((hk _ hp).trans hw) ha (hv.mono ho hs)
 |box p ty fr s v hp hw hv=>exact .box p ty fr s v (ho _ _ hp) ((hk _ hp).trans hw) (hv.mono ho hs)
 |glob p kd C ty fr v hp hw hv hg=>exact .glob p kd C ty fr v (ho _ _ hp) ((hk _ hp).trans hw) hv hg
theorem OwnG.mono {id:Nat} {cs:List SV} (h:OwnG val ρ w id cs) (ho:∀id p,ρ id=some p->ρ' id=some p) (hs:∀b,bsize w b<=bsize w' b)
 (hk:∀p,ρ id=some p->w'.heap[p.1]?=w.heap[p.1]?):OwnG val ρ' w' id cs:=h.imp (λh=>h.mono ho hs hk) (λh=>h.mono ho hs hk)
theorem OwnR.mono {id:Nat} {cs:List SV} (h:OwnR val ρ w id cs) (ho:∀id p,ρ id=some p->ρ' id=some p) (hs:∀b,bsize w b<=bsize w' b)
 (hk:∀p,ρ id=some p->w'.heap[p.1]?=w.heap[p.1]?):OwnR val ρ' w' id cs:=by
 obtain⟨p,C,ty,fr,h1,h2,h3,h4⟩:=h;exact⟨p,C,ty,fr,ho _ _ h1,(hk p h1).trans h2,h3,λi s hi=>let⟨v,e,r⟩:=h4 i s hi;⟨v,e,r.mono ho hs⟩⟩
theorem OwnF.mono {id:Nat} {cs:List SV} (h:OwnF val ρ w id cs) (ho:∀id p,ρ id=some p->ρ' id=some p) (hs:∀b,bsize w b<=bsize w' b)
 (hk:∀p,ρ id=some p->w'.heap[p.1]?=w.heap[p.1]?):OwnF val ρ' w' id cs:=h.imp (λh=>h.mono ho hs hk) (λh=>h.mono ho hs hk)
theorem OwnF.lt {id:Nat} {cs:List SV} (h:OwnF val ρ w id cs) {p:Nat×Nat} (hp:ρ id=some p):p.1<w.heap.size:=by
 obtain⟨q,o,h1,h2⟩:=h.at
 rw[hp]at h1;cases h1;rcases Nat.lt_or_ge p.1 w.heap.size with h|h
 ·exact h
 ·simp[Array.getElem?_eq_none h]at h2
theorem OwnG.lt {id:Nat} {cs:List SV} (h:OwnG val ρ w id cs) {p:Nat×Nat} (hp:ρ id=some p):p.1<w.heap.size:=by
 obtain⟨q,o,h1,h2⟩:=h.at
 rw[hp]at h1;cases h1;rcases Nat.lt_or_ge p.1 w.heap.size with h|h
 ·exact h
 ·simp[Array.getElem?_eq_none h]at h2
theorem Qpf {s:SV} {v:Value} (h:VR val ρ w s v) (hk:s.known=true):v.oneCell'=true:=by
 cases s with
 |un=>cases hk
 |optr=>obtain⟨p,_,rfl⟩:=h;rfl
 |osl=>obtain⟨p,c,_,rfl,_⟩:=h;rfl
 |esl=>obtain⟨p,rfl⟩:=h;rfl
 |zsl=>obtain⟨p,c,rfl⟩:=h;rfl
 |fn=>obtain⟨p,rfl,_⟩:=h;rfl
 |str l n=>obtain⟨_,rfl⟩:=h;rfl
 |mp=>obtain⟨p,_,_,rfl⟩:=h;rfl
 |mk=>exact h.elim
 |_=>cases h;rfl
theorem Qgq {l:List SV} {vs:List Value} (h:All2 (VR val ρ w) l vs) (hk:Qeq l=true):∀v∈vs,v.oneCell'=true:=by
 rw[Qif]at hk;induction l generalizing vs with
 |nil=>cases vs with
  |nil=>simp
  |cons b y=>exact h.elim
 |cons a x ih=>cases vs with
  |nil=>exact h.elim
  |cons b y=>
   intro v hv;simp only[List.mem_cons]at hv;rcases hv with rfl|hv
   ·exact Qpf h.1 (hk a (by simp))
   ·exact ih h.2 (λs hs=>hk s (by simp[hs])) v hv
theorem Qo2 {v:AV} {x:Value} {l:List SV} (h:AVR val ρ w v x) (hl:v.cells?=some l) (hk:Qeq l=true):
 ∃vs:List Value,x.cells=vs.toArray/\All2 (VR val ρ w) l vs/\∀v∈vs,v.oneCell'=true:=by
 cases v with
 |one s=>
  simp[AV.cells?]at hl;subst hl;have hs:s.known=true:=by rw[Qif]at hk;exact hk s (by simp)
  have h1:=Qpf h hs;refine⟨[x],?_,⟨h,trivial⟩,by simpa using h1⟩;cases x<;>first|rfl|cases h1
 |ag l'=>
  simp[AV.cells?]at hl;subst hl;obtain⟨vs,rfl,h2⟩:=h;exact⟨vs,rfl,h2,Qgq h2 hk⟩
 |tp l'=>simp[AV.cells?]at hl
theorem addr_add (b o n:Nat):Addr.add ⟨b,o,none⟩ n=⟨b,o+n,none⟩:=by
 unfold Addr.add;split
 ·subst_vars;rfl
 ·rfl
theorem Qkb (P:Program) (g o:Nat) (t:TypeId) (fr:Nat×Nat):∀(vs:List Value) (i:Nat) (cur:Array Value) (w:World),w.heap[g]?=some (.cells cur t fr)->(∀x,o+i<=x->x<o+i+vs.length->(decide (fr.1<=x)&&decide (x<fr.2))=false)->o+i+vs.length<=cur.size->(∀v∈vs,v.oneCell'=true)->
 (storeCells ⟨g,o,none⟩ vs i).run P w=.ok () (w.setRow g (cur.toList.take (o+i)++vs++cur.toList.drop (o+i+vs.length)).toArray)
 |[],i,cur,w,hg,_,_,_=>by
  simp only[storeCells,List.append_nil,List.length_nil,Nat.add_zero,List.take_append_drop,Array.toArray_toList];rw[setRow_self w g cur t fr hg];rfl
 |v::rest,i,cur,w,hg,hf,hl,h1=>by
  have hi:o+i<cur.size:=by simp at hl;omega
  have hadd:(⟨g,o,none⟩:Addr).add i=⟨g,o+i,none⟩:=by unfold Addr.add;split<;>simp_all
  have hcell:w.cell? ⟨g,o+i,none⟩=some cur[o+i]:=by simp[World.cell?,hg,hi]
  have hfro:w.frozen? ⟨g,o+i,none⟩=false:=by
   have:=hf (o+i) (Nat.le_refl _) (by simp);simp only[World.frozen?,hg];exact this
  have hst:(store ((⟨g,o,none⟩:Addr).add i) v).run P w=.ok () (w.setRow g (cur.setIfInBounds (o+i) v)):=by
   rw[hadd,run_store P w _ v _ (h1 v (by simp)),hcell];simp[hfro,setCell_eq_setRow w g (o+i) cur t fr v hg]
  have ih:=Qkb P g o t fr rest (i+1) (cur.setIfInBounds (o+i) v) (w.setRow g (cur.setIfInBounds (o+i) v)) (setRow_heap w g cur _ t _ hg) (λx h2 h3=>hf x (by omega) (by simp;omega)) (by simp at hl⊢;omega) (λx hx=>h1 x (by simp[hx]));simp only[storeCells,Sem.run_bind,hst,Result.andThen_ok,ih,setRow_setRow];congr 3;have e:=list_seg_step cur.toList (o+i) v rest (by simp at hl⊢;omega);simpa[Array.toList_setIfInBounds,Nat.add_assoc]using e
theorem OwnR.read {P:Program} {id:Nat} {cs:List SV} (h:OwnR val ρ w id cs) {p:Nat×Nat} (hp:ρ id=some p) {off n:Nat} (hn:off+n<=cs.length):
 ∃vs:List Value,vs.length=n/\All2 (VR val ρ w) ((cs.drop off).take n) vs/\(∀j v,vs[j]?=some v->w.cell? ⟨p.1,p.2+off+j,none⟩=some v)/\
  (loadCells ⟨p.1,p.2+off,none⟩ n).run P w=.ok vs.toArray w:=by
 obtain⟨q,C,ty,fr,h1,h2,h3,h4⟩:=h;rw[hp]at h1;cases h1;have hc:∀j v,((C.toList.drop (p.2+off)).take n)[j]?=some v->w.cell? ⟨p.1,p.2+off+j,none⟩=some v:=by
  intro j v hj;rw[List.getElem?_take]at hj;split at hj
  ·simp only[List.getElem?_drop]at hj;simp only[World.cell?,h2];simpa using hj
  ·simp at hj
 have hlen:((C.toList.drop (p.2+off)).take n).length=n:=by simp;omega
 refine⟨(C.toList.drop (p.2+off)).take n,hlen,?_,hc,?_⟩
 ·refine All2.Qlq (by rw[hlen];simp;omega) λi a b ha hb=>?_;rw[List.getElem?_take]at ha hb;by_cases hi:i<n
  ·simp only[hi,if_true,List.getElem?_drop]at ha hb;obtain⟨v,e,r⟩:=h4 (off+i) a ha;rw[show p.2+(off+i)=p.2+off+i by omega]at e;have:C.toList[p.2+off+i]?=some v:=by simpa using e
   rw[this]at hb;cases hb;exact r
  ·simp[hi]at ha
 ·have:=run_loadCells_list (P:=P) w ⟨p.1,p.2+off,none⟩ ((C.toList.drop (p.2+off)).take n) (λj v hj=>by rw[addr_add];exact hc j v hj);rwa [hlen]at this
theorem Qr6 (o:Obj) (b:Nat):bsize w b<=bsize (w.alloc o) b:=by
 unfold bsize;by_cases h:b<w.heap.size
 ·have:(w.alloc o).heap[b]?=w.heap[b]?:=by
   show(w.heap.push o)[b]?=_;rw[Array.getElem?_push,if_neg (by omega)]
  rw[this];exact Nat.le_refl _
 ·have:w.heap[b]?=none:=Array.getElem?_eq_none (by omega);rw[this];exact Nat.zero_le _
theorem alloc_old (o:Obj) {b:Nat} (h:b<w.heap.size):(w.alloc o).heap[b]?=w.heap[b]?:=by
 show(w.heap.push o)[b]?=_;rw[Array.getElem?_push,if_neg (by omega)]
theorem Qkl (o:Obj):(w.alloc o).heap[w.heap.size]?=some o:=by
 show(w.heap.push o)[w.heap.size]?=_;simp
theorem Fr.refl (ρ:Rho) (mu:St) (w:World):Fr ρ mu w w:=⟨rfl,rfl,rfl,Nat.le_refl _,λ_ _ _=>rfl,λ_=>Nat.le_refl _⟩
theorem Ext.refl (ρ:Rho) (n n':Nat):Ext ρ ρ n n':=⟨λ_ _ h=>h,λ_ _ h=>.inl h⟩
end
end Go.Ev
namespace Go.Ev
section
variable {val:Nat->Int} {ρ:Rho} {fz:Fz} {mu:St} {w:World} {n n':Nat}
def Post (val:Nat->Int) (ρ:Rho) (fz:Fz) (mu:St) (n:Nat) (w:World) (v:AV) (mu':St) (n':Nat) (x:Value) (w':World):Prop:=
 ∃ρ',Ext ρ ρ' n n'/\Rel val ρ' fz mu' w'/\AVR val ρ' w' v x/\Fr ρ mu w w'/\NewB ρ ρ' mu mu' w/\NewI mu mu' n n'
theorem NewB.refl:NewB ρ ρ mu mu w:=λid p hl hp=>.inr ⟨id,p,hl,hp,rfl⟩
theorem NewI.refl:NewI mu mu n n':=λ_ h=>.inl h
theorem Qxw {v:AV} {x:Value} (hr:Rel val ρ fz mu w) (h:AVR val ρ w v x):Post val ρ fz mu n w v mu n x w:=
 ⟨ρ,Ext.refl _ _ _,hr,h,Fr.refl _ _ _,NewB.refl,NewI.refl⟩
structure Like (w w1:World):Prop where
 heap:w1.heap=w.heap
 os:w1.os=w.os
 tape:w1.tape=w.tape
 output:w1.output=w.output
theorem Like.refl (w:World):Like w w:=⟨rfl,rfl,rfl,rfl⟩
theorem Like.drew (w:World):Like w w.drew:=⟨rfl,rfl,rfl,rfl⟩
theorem Like.bsize {w1:World} (h:Like w w1) (b:Nat):bsize w1 b=bsize w b:=by unfold Ev.bsize;rw[h.heap]
theorem Like.cell {w1:World} (h:Like w w1) (a:Addr):w1.cell? a=w.cell? a:=by unfold World.cell?;rw[h.heap]
def upd (ρ:Rho) (n:Nat) (p:Nat×Nat):Rho:=λid=>if id=n then some p else ρ id
theorem upd_same (ρ:Rho) (n:Nat) (p:Nat×Nat):upd ρ n p n=some p:=by simp[upd]
theorem Qk7 {p:Nat×Nat} (h:ρ n=none) (id:Nat) (q:Nat×Nat) (hq:ρ id=some q):upd ρ n p id=some q:=by
 unfold upd;split
 ·subst_vars;rw[h]at hq;cases hq
 ·exact hq
theorem Qpa {p:Nat×Nat} (h:ρ n=none):Ext ρ (upd ρ n p) n (n+1):=
 ⟨λid q hq=>Qk7 h id q hq,λid q hq=>by
  unfold upd at hq;split at hq
  ·subst_vars;exact .inr ⟨Nat.le_refl _,Nat.lt_succ_self _⟩
  ·exact .inl hq⟩
theorem Qhd {w1:World} (hl:Like w w1) (hr:Rel val ρ fz mu w) (hn:ρ n=none) {cs:List SV} {C:Array Value} {ty:TypeId}
 (hc:cs.length<=C.size) (hv:∀(i:Nat) s,cs[i]?=some s->∃v,C[i]?=some v/\VR val ρ w s v):
 Ext ρ (upd ρ n (w.heap.size,0)) n (n+1)/\Rel val (upd ρ n (w.heap.size,0)) fz ((n,cs)::mu) (w1.alloc (.cells C ty))/\Fr ρ mu w (w1.alloc (.cells C ty))/\
  NewB ρ (upd ρ n (w.heap.size,0)) mu ((n,cs)::mu) w/\NewI mu ((n,cs)::mu) n (n+1)/\bsize (w1.alloc (.cells C ty)) w.heap.size=C.size:=by
 have hsz:w1.heap.size=w.heap.size:=by rw[hl.heap]
 have hbs:∀b,bsize w b<=bsize (w1.alloc (.cells C ty)) b:=λb=>by rw[<-hl.bsize b];exact Qr6 _ _
 have hold:∀b,b<w.heap.size->(w1.alloc (.cells C ty)).heap[b]?=w.heap[b]?:=λb hb=>by
  rw[alloc_old _ (by omega),hl.heap]
 have hnew:(w1.alloc (.cells C ty)).heap[w.heap.size]?=some (.cells C ty (0,0)):=by
  have:=Qkl (w:=w1) (.cells C ty);rwa [hsz]at this
 have hup:=λid q hq=>Qk7 (p:=(w.heap.size,0)) hn id q hq;have keepOwn:∀id c,OwnG val ρ w id c->OwnG val (upd ρ n (w.heap.size,0)) (w1.alloc (.cells C ty)) id c:=λid c ho=>
  ho.mono hup hbs λp hp=>hold _ (ho.lt hp)
 have keepF:∀id c,OwnF val ρ w id c->OwnF val (upd ρ n (w.heap.size,0)) (w1.alloc (.cells C ty)) id c:=λid c ho=>
  ho.mono hup hbs λp hp=>hold _ (ho.lt hp)
 have hfn:fz n=none:=by
  cases e:fz n with
  |none=>rfl
  |some c=>obtain⟨p,o,h1,_⟩:=(hr.rf n c e).at;rw[hn]at h1;cases h1
 have hmn:look mu n=none:=by
  cases e:look mu n with
  |none=>rfl
  |some c=>obtain⟨p,o,h1,_⟩:=(hr.rm n c e).at;rw[hn]at h1;cases h1
 refine⟨Qpa hn,⟨λid c h=>keepF id c (hr.rf id c h),λid c h=>?_,λid c h=>?_,λid id' p p' h h' hp hp' he=>?_⟩,
  ⟨hl.os,hl.tape,hl.output,by show _<=(w1.heap.push _).size;simp[hl.heap],λb hb _=>hold b hb,hbs⟩,λid p h hp=>?_,λid h=>?_,?_⟩
 ·rw[Qey]at h;split at h
  ·rename_i e;cases h;subst e;refine .inl ⟨(w.heap.size,0),C,ty,(0,0),upd_same _ _ _,hnew,FrOk.zero _,by simpa using hc,λi s hi=>?_⟩;obtain⟨v,e1,r⟩:=hv i s hi;exact⟨v,by simpa using e1,r.mono hup hbs⟩
  ·exact keepOwn id c (hr.rm id c h)
 ·rw[Qey]at h;split at h
  ·rename_i e;subst e;exact hfn
  ·exact hr.dm id c h
 ·have key:∀id p,((look ((n,cs)::mu) id).isSome\/(fz id).isSome)->upd ρ n (w.heap.size,0) id=some p->id=n/\p.1=w.heap.size\/id≠n/\ρ id=some p/\((look mu id).isSome\/(fz id).isSome)/\p.1<w.heap.size:=by
   intro id p h hp;by_cases e:id=n
   ·left;subst e;rw[upd_same]at hp;cases hp;exact⟨rfl,rfl⟩
   ·right
    have hp':ρ id=some p:=by simpa[upd,e]using hp
    have hl':(look mu id).isSome\/(fz id).isSome:=by
     rcases h with h|h
     ·rw[Qey]at h;simp only[show¬n=id fromλx=>e x.symm,if_false]at h;exact .inl h
     ·exact .inr h
    refine⟨e,hp',hl',?_⟩;rcases hl' with h|h
    ·obtain⟨c,hc⟩:=Option.isSome_iff_exists.1 h;exact(hr.rm id c hc).lt hp'
    ·obtain⟨c,hc⟩:=Option.isSome_iff_exists.1 h;exact(hr.rf id c hc).lt hp'
  rcases key id p (.inl h) hp with⟨e1,e2⟩|⟨e1,e2,e3,e4⟩
  ·rcases key id' p' h' hp' with⟨f1,f2⟩|⟨f1,f2,f3,f4⟩
   ·rw[e1,f1]
   ·omega
  ·rcases key id' p' h' hp' with⟨f1,f2⟩|⟨f1,f2,f3,f4⟩
   ·omega
   ·have hm:(look mu id).isSome:=by
     rw[Qey]at h;simpa[show¬n=id fromλx=>e1 x.symm]using h
    exact hr.dj id id' p p' hm f3 e2 f2 he
 ·rw[Qey]at h;by_cases e:id=n
  ·subst e;rw[upd_same]at hp;cases hp;exact .inl (Nat.le_refl _)
  ·simp only[show¬n=id fromλx=>e x.symm,if_false]at h;exact .inr ⟨id,p,h,by simpa[upd,e]using hp,rfl⟩
 ·rw[Qey]at h;by_cases e:id=n
  ·subst e;exact .inr ⟨Nat.le_refl _,Nat.lt_succ_self _⟩
  ·simp only[show¬n=id fromλx=>e x.symm,if_false]at h;exact .inl h
 ·unfold Ev.bsize;rw[hnew]
theorem Qlx {g:Nat} {old C:Array Value} {ty:TypeId} {fr:Nat×Nat} (hg:w.heap[g]?=some (.cells old ty fr)) (hs:C.size=old.size) (b:Nat):bsize (w.setRow g C) b=bsize w b:=by
 unfold Ev.bsize;by_cases h:b=g
 ·subst h;rw[setRow_heap w b old C ty fr hg,hg];exact hs
 ·rw[setRow_other w g b C h]
theorem Qmq {P:Program} (hr:Rel val ρ fz mu w) {id:Nat} {cs vs:List SV} {off:Nat} (hl:look mu id=some cs) (hm:mkd cs=false) (ho:off+vs.length<=cs.length)
 {xs:List Value} (hv:All2 (VR val ρ w) vs xs) (h1:∀x∈xs,x.oneCell'=true):
 ∃p w',ρ id=some p/\(storeCells ⟨p.1,p.2+off,none⟩ xs).run P w=.ok () w'/\Rel val ρ fz (putS mu id (over cs off vs)) w'/\Fr ρ mu w w'/\
  NewB ρ ρ mu (putS mu id (over cs off vs)) w/\NewI mu (putS mu id (over cs off vs)) n n'/\(∀b,bsize w' b=bsize w b):=by
 obtain⟨p,C,ty,fr,hp,hC,hfr,hsz,hcs⟩:=(hr.rm id cs hl).plain hm;have hlen:=hv.length;have hfit:p.2+off+0+xs.length<=C.size:=by omega
 have hrun:=Qkb P p.1 (p.2+off) ty fr xs 0 C w hC (λx _ h2=>hfr.no (by omega)) hfit h1;simp only[Nat.add_zero]at hrun;generalize hD:(C.toList.take (p.2+off)++xs++C.toList.drop (p.2+off+xs.length)).toArray=D at hrun;have hDs:D.size=C.size:=by rw[<-hD];simp;omega
 have hDget:∀i:Nat,D[i]?=if i<p.2+off then C[i]? else if i<p.2+off+xs.length then xs[i-(p.2+off)]? else C[i]?:=by
  intro i;rw[<-hD];simp only[List.getElem?_toArray];by_cases a1:i<p.2+off
  ·rw[List.append_assoc,List.getElem?_append_left (by simp;omega)];simp[a1]
  ·rw[List.append_assoc,List.getElem?_append_right (by simp;omega)];simp only[a1,if_false,List.length_take,Array.length_toList];rw[show min (p.2+off) C.size=p.2+off by omega];by_cases a2:i<p.2+off+xs.length
   ·rw[List.getElem?_append_left (by omega)];simp[a2]
   ·rw[List.getElem?_append_right (by omega)];simp only[a2,if_false,List.getElem?_drop,Array.getElem?_toList];congr 1;omega
 have hbs:∀b,bsize (w.setRow p.1 D) b=bsize w b:=Qlx hC hDs;have hbs':∀b,bsize w b<=bsize (w.setRow p.1 D) b:=λb=>Nat.le_of_eq (hbs b).symm;have hother:∀b,b≠p.1->(w.setRow p.1 D).heap[b]?=w.heap[b]?:=λb hb=>setRow_other w p.1 b D hb;have hself:(w.setRow p.1 D).heap[p.1]?=some (.cells D ty fr):=setRow_heap w p.1 C D ty fr hC;have hlk:∀id',(look (putS mu id (over cs off vs)) id').isSome=(look mu id').isSome:=by
  intro id';rw[Qen];split
  ·subst_vars;simp[hl]
  ·rfl
 have keepOwn:∀id' c,id'≠id->((look mu id').isSome\/(fz id').isSome)->OwnG val ρ w id' c->OwnG val ρ (w.setRow p.1 D) id' c:=by
  intro id' c hne hlv hown;refine hown.mono (λ_ _ h=>h) hbs' λq hq=>hother _ λe=>hne ?_;exact(hr.dj id id' p q (by simp[hl]) hlv hp hq e.symm).symm
 have keepF:∀id' c,id'≠id->((look mu id').isSome\/(fz id').isSome)->OwnF val ρ w id' c->OwnF val ρ (w.setRow p.1 D) id' c:=by
  intro id' c hne hlv hown;refine hown.mono (λ_ _ h=>h) hbs' λq hq=>hother _ λe=>hne ?_;exact(hr.dj id id' p q (by simp[hl]) hlv hp hq e.symm).symm
 refine⟨p,w.setRow p.1 D,hp,hrun,⟨λid' c h=>?_,λid' c h=>?_,λid' c h=>?_,λa b q q' ha hb hq hq' he=>?_⟩,
  ⟨rfl,rfl,rfl,by simp,λb _ hb=>hother b λe=>hb id p (by simp[hl]) hp e.symm,hbs'⟩,λa q ha hq=>.inr ⟨a,q,by rwa [hlk]at ha,hq,rfl⟩,λa ha=>.inl (by rwa [hlk]at ha),hbs⟩
 ·refine keepF id' c (λe=>?_) (.inr (by simp[h])) (hr.rf id' c h);subst e;have:=hr.dm id' cs hl;rw[this]at h;cases h
 ·rw[Qen]at h;split at h
  ·rename_i e;subst e;simp only[hl,Option.map_some,Option.some.injEq]at h;subst h;refine .inl ⟨p,D,ty,fr,hp,hself,by rw[hDs];exact hfr,by rw[Qrs ho,hDs];exact hsz,λi s hi=>?_⟩;rw[over_get ho]at hi;rw[hDget];by_cases a1:i<off
   ·simp only[a1,if_true]at hi;simp only[show p.2+i<p.2+off by omega,if_true];obtain⟨v,e,r⟩:=hcs i s hi;exact⟨v,e,r.mono (λ_ _ h=>h) hbs'⟩
   ·simp only[a1,if_false]at hi;simp only[show¬p.2+i<p.2+off by omega,if_false];by_cases a2:i<off+vs.length
    ·simp only[a2,if_true]at hi;simp only[show p.2+i<p.2+off+xs.length by omega,if_true];obtain⟨v,e,r⟩:=hv.get hi;exact⟨v,by rw[show p.2+i-(p.2+off)=i-off by omega];exact e,r.mono (λ_ _ h=>h) hbs'⟩
    ·simp only[a2,if_false]at hi;simp only[show¬p.2+i<p.2+off+xs.length by omega,if_false];obtain⟨v,e,r⟩:=hcs i s hi;exact⟨v,e,r.mono (λ_ _ h=>h) hbs'⟩
  ·rename_i e;exact keepOwn id' c (λx=>e x.symm) (.inl (by simp[h])) (hr.rm id' c h)
 ·have:=hlk id';rw[h]at this;obtain⟨c',hc'⟩:=Option.isSome_iff_exists.1 this.symm;exact hr.dm id' c' hc'
 ·rw[hlk]at ha hb;exact hr.dj a b q q' ha hb hq hq' he
theorem Rel.like {w1:World} (hl:Like w w1) (hr:Rel val ρ fz mu w):Rel val ρ fz mu w1:=
 ⟨fun id c h=>(hr.rf id c h).mono (fun _ _ h=>h) (fun b=>Nat.le_of_eq (hl.bsize b).symm) fun p _=>by rw[hl.heap],
  λid c h=>(hr.rm id c h).mono (λ_ _ h=>h) (λb=>Nat.le_of_eq (hl.bsize b).symm) λp _=>by rw[hl.heap],hr.dm,hr.dj⟩
theorem Like.fr {w1:World} (hl:Like w w1):Fr ρ mu w w1:=⟨hl.os,hl.tape,hl.output,by rw[hl.heap];exact Nat.le_refl _,λb _ _=>by rw[hl.heap],λb=>Nat.le_of_eq (hl.bsize b).symm⟩
theorem Fr.trans {ρ':Rho} {mu1:St} {w1 w2:World} (h:Fr ρ mu w w1) (hb:NewB ρ ρ' mu mu1 w) (k:Fr ρ' mu1 w1 w2):Fr ρ mu w w2:=
 ⟨k.os.trans h.os,k.tape.trans h.tape,k.output.trans h.output,Nat.le_trans h.size k.size,λb hlt hn=>by
  rw[k.keep b (Nat.lt_of_lt_of_le hlt h.size) λid p hl hp e=>?_]
  ·exact h.keep b hlt hn
  ·rcases hb id p hl hp with h1|⟨id0,p0,h1,h2,h3⟩
   ·omega
   ·exact hn id0 p0 h1 h2 (h3.trans e),λb=>Nat.le_trans (h.shape b) (k.shape b)⟩
theorem Ext.trans {ρ' ρ'':Rho} {n1 n2:Nat} (h:Ext ρ ρ' n n1) (k:Ext ρ' ρ'' n1 n2) (h1:n<=n1) (h2:n1<=n2):Ext ρ ρ'' n n2:=
 ⟨λid p hp=>k.old _ _ (h.old _ _ hp),λid p hp=>by
  rcases k.new id p hp with a|a
  ·rcases h.new id p a with b|b
   ·exact .inl b
   ·exact .inr ⟨b.1,by omega⟩
  ·exact .inr ⟨by omega,a.2⟩⟩
theorem NewB.trans {ρ' ρ'':Rho} {mu1 mu2:St} {w1:World} (h:NewB ρ ρ' mu mu1 w) (k:NewB ρ' ρ'' mu1 mu2 w1) (hs:w.heap.size<=w1.heap.size):NewB ρ ρ'' mu mu2 w:=by
 intro id p hl hp;rcases k id p hl hp with h1|⟨id0,p0,h1,h2,h3⟩
 ·exact .inl (by omega)
 ·rcases h id0 p0 h1 h2 with h4|⟨id1,p1,h4,h5,h6⟩
  ·exact .inl (by omega)
  ·exact .inr ⟨id1,p1,h4,h5,h6.trans h3⟩
theorem NewI.trans {mu1 mu2:St} {n1 n2:Nat} (h:NewI mu mu1 n n1) (k:NewI mu1 mu2 n1 n2) (h1:n<=n1) (h2:n1<=n2):NewI mu mu2 n n2:=by
 intro id hl;rcases k id hl with a|a
 ·rcases h id a with b|b
  ·exact .inl b
  ·exact .inr ⟨b.1,by omega⟩
 ·exact .inr ⟨by omega,a.2⟩
theorem Qgi.later {ρ':Rho} {n1 n2:Nat} (hf:Qgi ρ n n2) (he:Ext ρ ρ' n n1) (h1:n<=n1):Qgi ρ' n1 n2:=by
 intro id h h';cases e:ρ' id with
 |none=>rfl
 |some p=>
  rcases he.new id p e with a|a
  ·rw[hf id (by omega) h']at a;cases a
  ·omega
theorem Qgi.sub {n1 n2 m:Nat} (hf:Qgi ρ n n2) (h1:n<=n1) (h2:m<=n2):Qgi ρ n1 m:=λid h h'=>hf id (by omega) (by omega)
end
end Go.Ev
namespace Go.Ev
def OperR (P:Program) (val:Nat->Int) (ρ:Rho) (w:World) (tm:TM) (a:Act) (op:Op):Prop:=
 ∀x y,x∈op.operands->od P x=some y->AVR val ρ w (ev tm y) (a.eval x)
def Sound (P:Program) (val:Nat->Int) (fz:Fz) (tm:TM) (mu:St) (n:Nat) (o:Oper) (v:AV) (mu':St) (n':Nat):Prop:=
 n<=n'/\∀ρ w (a:Act),Rel val ρ fz mu w->OperR P val ρ w tm a o.op->Qgi ρ n n'->∀(K:Act->World->Prop) (Q:Exit->Act->World->Prop),
  (∀x w',Post val ρ fz mu n w v mu' n' x w'->K (a.put o.dst x) w')->o.wp P a w K Q
section
variable {P:Program} {val:Nat->Int} {fz:Fz} {tm:TM} {mu:St} {n:Nat} {o:Oper}
theorem Qft {v:AV} {mu':St} {n':Nat} (hn:n<=n')
 (h:∀ρ w (a:Act),Rel val ρ fz mu w->OperR P val ρ w tm a o.op->Qgi ρ n n'->∃x w',((execOp a.eval o).run P w=.ok (.value x) w'\/(execOp a.eval o).run P w=.ok .skip w'/\x=undef)/\Post val ρ fz mu n w v mu' n' x w'):
 Sound P val fz tm mu n o v mu' n':=by
 refine⟨hn,λρ w a hr ho hf K Q hK=>?_⟩;obtain⟨x,w',hx,hp⟩:=h ρ w a hr ho hf;unfold Oper.wp;rcases hx with hx|⟨hx,rfl⟩
 ·rw[hx];exact hK x w' hp
 ·rw[hx];exact hK undef w' hp
theorem Qex {v:AV} (h:∀ρ w (a:Act),Rel val ρ fz mu w->OperR P val ρ w tm a o.op->∃x,(execOp a.eval o).run P w=.ok (.value x) w/\AVR val ρ w v x):Sound P val fz tm mu n o v mu n:=
 Qft (Nat.le_refl _) λρ w a hr ho _=>let⟨x,hx,hv⟩:=h ρ w a hr ho;⟨x,w,.inl hx,Qxw hr hv⟩
theorem Qtj {x:Operand} {y:Od} (ho:o.op=.move x\/o.op=.assign x) (hx:od P x=some y):Sound P val fz tm mu n o (ev tm y) mu n:=by
 rcases ho with ho|ho
 all_goals
  refine Qex λρ w a _ hop=>⟨a.eval x,by simp[execOp,ho],hop x y (by simp[ho,Op.operands]) hx⟩
theorem Qub {c a b:Operand} {c' a' b':Od} {t:Bool} (ho:o.op=.pick c a b) (hc:od P c=some c') (ha:od P a=some a') (hb:od P b=some b') (ht:ev tm c'=.one (.bool t)):
 Sound P val fz tm mu n o (cond t (ev tm a') (ev tm b')) mu n:=by
 refine Qex λρ w act _ hop=>?_;have h1:=hop c c' (by simp[ho,Op.operands]) hc;have h2:=hop a a' (by simp[ho,Op.operands]) ha;have h3:=hop b b' (by simp[ho,Op.operands]) hb;rw[ht]at h1;have h1':act.eval c=.bool t:=h1;cases t
 ·exact⟨act.eval b,by simp[execOp,ho,h1',asBool],h3⟩
 ·exact⟨act.eval a,by simp[execOp,ho,h1',asBool],h2⟩
theorem Qx2 {ρ:Rho} {w:World} {v:Value} {s:SV} (h:toSV v=some s):VR val ρ w s v/\s.known=true:=by
 unfold toSV at h;split at h<;>first|(cases h;done)|(cases h;exact⟨⟨Qqm _,by rw[sOf_nOf]⟩,rfl⟩)|(cases h;exact⟨rfl,rfl⟩)
theorem Qjq {ρ:Rho} {w:World} {vs:List Value} {l:List SV} (h:toSVs vs=some l):All2 (VR val ρ w) l vs/\Qeq l=true:=by
 induction vs generalizing l with
 |nil=>simp[toSVs]at h;subst h;exact⟨trivial,rfl⟩
 |cons v r ih=>
  simp only[toSVs]at h;split at h
  ·rename_i a b ha hb;cases h;obtain⟨h1,h2⟩:=Qx2 (val:=val) (ρ:=ρ) (w:=w) ha;obtain⟨h3,h4⟩:=ih hb;refine⟨⟨h1,h3⟩,?_⟩;show cond a.known (Qeq b) false=true;rw[h2,h4];rfl
  ·cases h
theorem toAV_AVR {ρ:Rho} {w:World} {v:Value} {a:AV} (h:toAV v=some a):AVR val ρ w a v:=by
 unfold toAV at h;split at h
 ·rename_i cs;cases e:toSVs cs.toList with
  |none=>rw[e]at h;cases h
  |some l=>
   rw[e]at h;simp only[Option.map_some,Option.some.injEq]at h;subst h;exact⟨cs.toList,by simp,(Qjq e).1⟩
 ·cases e:toSV v with
  |none=>rw[e]at h;cases h
  |some s=>
   rw[e]at h;simp only[Option.map_some,Option.some.injEq]at h;subst h;exact(Qx2 e).1
theorem Qhv {t:TypeId} {z:List SV} (h:zeroOf P t=some z):∃v i,P.info? t=some i/\i.zero=some v/\toSVs v.cells.toList=some z/\z.length=i.size/\∀w,(zeroValue t).run P w=.ok v w:=by
 unfold zeroOf at h;cases hi:P.info? t with
 |none=>rw[hi]at h;cases h
 |some i=>
  rw[hi]at h;simp only at h;cases hz:i.zero with
  |none=>rw[hz]at h;cases h
  |some v=>
   rw[hz]at h;simp only at h;cases hs:toSVs v.cells.toList with
   |none=>rw[hs]at h;cases h
   |some l=>
    rw[hs]at h;simp only at h;split at h
    ·rename_i e;cases h;exact⟨v,i,rfl,hz,hs,by simpa using e,λw=>by simp[zeroValue,typeInfo,hi,hz]⟩
    ·cases h
theorem new_from {ρ:Rho} {w:World} {l:List SV} {vs:List Value} (h:All2 (VR val ρ w) l vs):∀(i:Nat) s,l[i]?=some s->∃v,vs.toArray[i]?=some v/\VR val ρ w s v:=by
 intro i s hi;obtain⟨v,e,r⟩:=h.get hi;exact⟨v,by simpa using e,r⟩
theorem Qq4 {cs:List SV} (h:∀ρ w (a:Act),Rel val ρ fz mu w->OperR P val ρ w tm a o.op->∃(C:List Value) (ty:TypeId),(execOp a.eval o).run P w=.ok (.value (.pointer (some ⟨w.heap.size,0,none⟩))) (w.alloc (.cells C.toArray ty))/\All2 (VR val ρ w) cs C):
 Sound P val fz tm mu n o (.one (.optr n 0)) ((n,cs)::mu) (n+1):=by
 refine Qft (Nat.le_succ _) λρ w a hr ho hf=>?_;obtain⟨C,ty,hrun,hv⟩:=h ρ w a hr ho;obtain⟨h1,h2,h3,h4,h5,h6⟩:=Qhd (ty:=ty) (Like.refl w) hr (hf n (Nat.le_refl _) (Nat.lt_succ_self _)) (C:=C.toArray) (by simp[hv.length]) (new_from hv);exact⟨_,_,.inl hrun,_,h1,h2,⟨_,upd_same _ _ _,rfl⟩,h3,h4,h5⟩
theorem Qr2 {t:TypeId} {z:List SV} (ho:o.op=.alloc t) (hz:zeroOf P t=some z):Sound P val fz tm mu n o (.one (.optr n 0)) ((n,z)::mu) (n+1):=by
 obtain⟨v,i,h1,h2,h3,h4,h5⟩:=Qhv hz;refine Qq4 λρ w a _ _=>⟨v.cells.toList,t,?_,(Qjq h3).1⟩
 simp[execOp,ho,Instr.alloc,h5,newVar,newRow]
theorem Qwt {t:TypeId} {x:Operand} {y:Od} {l:List SV} (ho:o.op=.box t x) (hx:od P x=some y) (hl:(ev tm y).cells?=some l) (hk:Qeq l=true):
 Sound P val fz tm mu n o (.one (.optr n 0)) ((n,l)::mu) (n+1):=by
 refine Qq4 λρ w a _ hop=>?_;obtain⟨vs,h1,h2,_⟩:=Qo2 (hop x y (by simp[ho,Op.operands]) hx) hl hk;exact⟨vs,t,by simp[execOp,ho,Instr.box,newVar,newRow,h1],h2⟩
theorem Qqx {t:TypeId} {b:Bool} (h:aggOf P t=some b):∀w,(isAgg t).run P w=.ok b w:=by
 intro w;unfold aggOf at h;cases hu:P.underlying t with
 |none=>rw[hu]at h;cases h
 |some d=>
  rw[hu]at h;cases d<;>simp at h<;>subst h<;>simp[isAgg,underlying,hu]
theorem Qg6 {t:TypeId} {m:Nat} (h:szOf P t=some m):∀w,(sizeOf t).run P w=.ok m w:=by
 intro w;unfold szOf at h;cases hi:P.info? t with
 |none=>rw[hi]at h;cases h
 |some i=>rw[hi]at h;simp at h;subst h;simp[sizeOf,typeInfo,hi]
def resOf:Bool->List SV->Option AV
 |true,r=>some (.ag r)
 |false,[s]=>some (.one s)
 |false,_=>none
theorem Qk8 {R:Type} {T:R->Prop} {z:R} (hz:¬T z) {agg:Bool} {r:List SV} {k:AV->R} (h:T (asRes agg r z k)):∃v,resOf agg r=some v/\T (k v):=by
 cases agg with
 |true=>exact⟨_,rfl,h⟩
 |false=>
  cases r with
  |nil=>exact(hz h).elim
  |cons a t=>cases t with
   |nil=>exact⟨_,rfl,h⟩
   |cons b u=>exact(hz h).elim
theorem Qs0 {ρ:Rho} {w:World} {t:TypeId} {agg:Bool} {m:Nat} {p:Nat×Nat} {off:Nat} {vs:List Value} {l:List SV} {v:AV} (ha:aggOf P t=some agg) (hs:szOf P t=some m)
 (hlen:vs.length=m) (hv:All2 (VR val ρ w) l vs) (hc:∀(j:Nat) x,vs[j]?=some x->w.cell? ⟨p.1,p.2+off+j,none⟩=some x)
 (hrun:(loadCells ⟨p.1,p.2+off,none⟩ m).run P w=.ok vs.toArray w) (hres:resOf agg l=some v):
 ∃x,(loadVar t ⟨p.1,p.2+off,none⟩).run P w=.ok x w/\AVR val ρ w v x:=by
 have h1:=Qqx ha w;have h2:=Qg6 hs w;cases agg with
 |true=>
  simp[resOf]at hres;subst hres;exact⟨.agg vs.toArray,by simp[loadVar,h1,h2,hrun],vs,rfl,hv⟩
 |false=>
  cases l with
  |nil=>cases hres
  |cons s t'=>cases t' with
   |cons b u=>cases hres
   |nil=>
    simp[resOf]at hres;subst hres;cases vs with
    |nil=>exact hv.elim
    |cons x r=>cases r with
     |cons _ _=>exact hv.2.elim
     |nil=>
      have:=hc 0 x (by simp);exact⟨x,by simp only[Nat.add_zero]at this;simp[loadVar,h1,this],hv.1⟩
theorem seen {ρ:Rho} {w:World} {id:Nat} {cs:List SV} (hr:Rel val ρ fz mu w) (h:(look mu id=some cs\/look mu id=none/\fz id=some cs)/\mkd cs=false):OwnR val ρ w id cs:=by
 obtain⟨h|⟨_,h⟩,hm⟩:=h
 ·exact((hr.rm _ _ h).plain hm).r
 ·exact(hr.rf _ _ h).plain hm
theorem Qtw {t:TypeId} {x:Operand} {y:Od} {agg:Bool} {m id off:Nat} {cs:List SV} {v:AV} (ho:o.op=.load t x) (ha:aggOf P t=some agg) (hs:szOf P t=some m) (hx:od P x=some y)
 (he:ev tm y=.one (.optr id off)) (hl:(look mu id=some cs\/look mu id=none/\fz id=some cs)/\mkd cs=false) (hb:off+m<=cs.length) (hres:resOf agg ((cs.drop off).take m)=some v):
 Sound P val fz tm mu n o v mu n:=by
 refine Qex λρ w a hr hop=>?_;have h1:=hop x y (by simp[ho,Op.operands]) hx;rw[he]at h1;obtain⟨p,hp,hx'⟩:=h1;obtain⟨vs,g1,g2,g3,g4⟩:=(seen hr hl).read (P:=P) hp hb;obtain⟨r,g5,g6⟩:=Qs0 ha hs g1 g2 g3 g4 hres;exact⟨r,by simp[execOp,ho,Instr.loadAt,Instr.sureAddr,hx',g5],g6⟩
theorem Qrm {t:TypeId} {x v:Operand} {y u:Od} {m id off:Nat} {cs l:List SV} (ho:o.op=.store t x v) (hs:szOf P t=some m) (hx:od P x=some y) (hv:od P v=some u)
 (he:ev tm y=.one (.optr id off)) (hc:(ev tm u).cells?=some l) (hlen:l.length=m) (hk:Qeq l=true) (hl:look mu id=some cs) (hm:mkd cs=false) (hb:off+l.length<=cs.length):
 Sound P val fz tm mu n o (.tp []) (putS mu id (over cs off l)) n:=by
 refine Qft (Nat.le_refl _) λρ w a hr hop _=>?_;have h1:=hop x y (by simp[ho,Op.operands]) hx;rw[he]at h1;obtain⟨p,hp,hx'⟩:=h1;obtain⟨vs,g1,g2,g3⟩:=Qo2 (hop v u (by simp[ho,Op.operands]) hv) hc hk;obtain⟨q,w',e1,e2,e3,e4,e5,e6,e7⟩:=Qmq (P:=P) (n:=n) (n':=n) hr hl hm hb g2 g3;rw[hp]at e1;cases e1;have hsz:=Qg6 hs w;refine⟨undef,w',.inr ⟨?_,rfl⟩,ρ,Ext.refl _ _ _,e3,⟨[],rfl,trivial⟩,e4,e5,e6⟩;have hlen':vs.length=m:=by rw[<-g2.length,hlen]
 simp[execOp,ho,Instr.storeAt,Instr.sureAddr,hx',storeVar,g1,hsz,hlen',e2]
theorem Qn3 {x:Operand} {y:Od} {s:SV} (ho:o.op=.nilCheck x) (hx:od P x=some y) (he:ev tm y=.one s) (hs:(∃a b,s=.optr a b)\/∃a b,s=.fn a b):Sound P val fz tm mu n o (.one s) mu n:=by
 refine Qex λρ w a _ hop=>?_;have h1:=hop x y (by simp[ho,Op.operands]) hx;rw[he]at h1;refine⟨a.eval x,?_,h1⟩;rcases hs with⟨id,off,rfl⟩|⟨f,cs,rfl⟩
 ·obtain⟨p,_,e⟩:=h1;simp[execOp,ho,e]
 ·obtain⟨vs,e,_⟩:=h1;simp[execOp,ho,e]
theorem Qry {t:TypeId} {x:Operand} {y:Od} {i m id off:Nat} {fs:Array Field} {f:Field} (ho:o.op=.fieldAddr t x i) (hu:P.underlying t=some (.struct fs)) (hf:fs[i]?=some f)
 (hs:szOf P f.type=some m) (hm:m≠0) (hx:od P x=some y) (he:ev tm y=.one (.optr id off)):Sound P val fz tm mu n o (.one (.optr id (off+f.offset))) mu n:=by
 refine Qex λρ w a _ hop=>?_;have h1:=hop x y (by simp[ho,Op.operands]) hx;rw[he]at h1;obtain⟨p,hp,e⟩:=h1;refine⟨.pointer (some ⟨p.1,p.2+(off+f.offset),none⟩),?_,p,hp,rfl⟩;have:=Qg6 hs w;simp[execOp,ho,Instr.fieldAt,underlying,hu,hf,Instr.sureAddr,e,fieldPlace,this,hm,addr_add,Nat.add_assoc]
theorem part_run {ρ:Rho} {w:World} {t:TypeId} {agg:Bool} {m off:Nat} {cs:List SV} {vs:List Value} {v:AV} (ha:aggOf P t=some agg) (hs:szOf P t=some m) (hv:All2 (VR val ρ w) cs vs)
 (hb:off+m<=cs.length) (hres:resOf agg ((cs.drop off).take m)=some v) (h1:agg=false->m=1):∃x,(part t vs.toArray off).run P w=.ok x w/\AVR val ρ w v x:=by
 have g1:=Qqx ha w;have g2:=Qg6 hs w;have hd:=(hv.drop off).take m;cases agg with
 |true=>
  simp[resOf]at hres;subst hres;exact⟨.agg (vs.toArray.extract off (off+m)),by simp[part,g1,g2],(vs.drop off).take m,by simp,hd⟩
 |false=>
  have hm:=h1 rfl;subst hm;have hlt:off<vs.length:=by rw[<-hv.length];omega
  have e1:(vs.drop off).take 1=[vs[off]]:=by rw[List.drop_eq_getElem_cons hlt];rfl
  have hlt':off<cs.length:=by omega
  have e2:(cs.drop off).take 1=[cs[off]]:=by rw[List.drop_eq_getElem_cons hlt'];rfl
  rw[e2]at hres hd;rw[e1]at hd;simp[resOf]at hres;subst hres;exact⟨vs[off],by simp[part,g1,hlt],hd.1⟩
theorem Qv1 {t:TypeId} {x:Operand} {y:Od} {i m:Nat} {agg:Bool} {fs:Array Field} {f:Field} {cs:List SV} {v:AV} (ho:o.op=.field t x i) (hu:P.underlying t=some (.struct fs)) (hf:fs[i]?=some f)
 (ha:aggOf P f.type=some agg) (hs:szOf P f.type=some m) (h1:agg=false->m=1) (hx:od P x=some y) (he:ev tm y=.ag cs) (hb:f.offset+m<=cs.length)
 (hres:resOf agg ((cs.drop f.offset).take m)=some v):Sound P val fz tm mu n o v mu n:=by
 refine Qex λρ w a _ hop=>?_;have g:=hop x y (by simp[ho,Op.operands]) hx;rw[he]at g;obtain⟨vs,e,hv⟩:=g;obtain⟨r,g1,g2⟩:=part_run ha hs hv hb hres h1;exact⟨r,by simp[execOp,ho,Instr.field,underlying,hu,hf,asAgg,e,g1],g2⟩
def cvAV:CV->AV
 |.one s=>.one s
 |.ag l=>.ag l
theorem cvAV_AVR {ρ:Rho} {w:World} {c:CV} {x:Value} (h:CVR val ρ w c x):AVR val ρ w (cvAV c) x:=by cases c<;>exact h
theorem Qul {x:Operand} {y:Od} {i:Nat} {l:List CV} {c:CV} (ho:o.op=.extract x i) (hx:od P x=some y) (he:ev tm y=.tp l) (hc:l[i]?=some c):Sound P val fz tm mu n o (cvAV c) mu n:=by
 refine Qex λρ w a _ hop=>?_;have g:=hop x y (by simp[ho,Op.operands]) hx;rw[he]at g;obtain⟨vs,e,hv⟩:=g;obtain⟨r,e2,hr⟩:=hv.get hc;refine⟨r,?_,cvAV_AVR hr⟩;have e3:vs.toArray[i]?=some r:=by simpa using e2
 simp only[execOp,ho,Instr.extract,e,e3];simp
theorem Qv8 {t:TypeId} {x:Operand} {y:Od} {b:Bool} (ho:o.op=.unOp .not t x) (hx:od P x=some y) (he:ev tm y=.one (.bool b)):Sound P val fz tm mu n o (.one (.bool (not b))) mu n:=by
 refine Qex λρ w a _ hop=>?_;have g:=hop x y (by simp[ho,Op.operands]) hx;rw[he]at g;have g':a.eval x=.bool b:=g;exact⟨.bool (not b),by simp[execOp,ho,Op.unary,g'],rfl⟩
theorem Qxz {t:TypeId} {x:Operand} {y:Od} {k:IntKind} {b:Int} (ho:o.op=.unOp .neg t x) (hx:od P x=some y) (he:ev tm y=.one (.int k b)):Sound P val fz tm mu n o (.one (.int k (k.wrap (0-b)))) mu n:=by
 refine Qex λρ w a _ hop=>?_;have g:=hop x y (by simp[ho,Op.operands]) hx;rw[he]at g;have g':a.eval x=.int k b:=g;exact⟨.int k (k.wrap (0-b)),by simp[execOp,ho,Op.unary,g',Op.intArith],rfl⟩
def numOp (op:BinOp) (kd:IntKind) (a b:Int):Option SV:=
 match op with
 |.add=>some (.int kd (kd.wrap (a+b)))
 |.sub=>some (.int kd (kd.wrap (a-b)))
 |.mul=>some (.int kd (kd.wrap (a*b)))
 |.quo=>if b=0 then none else some (.int kd (kd.wrap (a.tdiv b)))
 |.rem=>if b=0 then none else some (.int kd (a.tmod b))
 |.and=>some (.int kd (kd.wrap (BitVec.ofInt kd.bits a&&&BitVec.ofInt kd.bits b).toNat))
 |.or=>some (.int kd (kd.wrap (BitVec.ofInt kd.bits a|||BitVec.ofInt kd.bits b).toNat))
 |.xor=>some (.int kd (kd.wrap (BitVec.ofInt kd.bits a^^^BitVec.ofInt kd.bits b).toNat))
 |.andNot=>some (.int kd (kd.wrap (BitVec.ofInt kd.bits a&&&~~~(BitVec.ofInt kd.bits b)).toNat))
 |.eql=>some (.bool (a==b))
 |.neq=>some (.bool (a !=b))
 |.lss=>some (.bool (a<b))
 |.leq=>some (.bool (a<=b))
 |.gtr=>some (.bool (a>b))
 |.geq=>some (.bool (a>=b))
 |.shl=>none
 |.shr=>none
theorem Qyc {R:Type} {T:R->Prop} {z:R} (hz:¬T z) {op:BinOp} {kd:IntKind} {a b:Int} {k:SV->R} (h:T (binI op kd a b z k)):∃s,numOp op kd a b=some s/\T (k s):=by
 cases op with
 |add=>exact⟨_,rfl,by simpa[binI,Qih,show Int.add a b=a+b from rfl]using h⟩
 |sub=>exact⟨_,rfl,by simpa[binI,Qih,show Int.sub a b=a-b from rfl]using h⟩
 |mul=>exact⟨_,rfl,by simpa[binI,Qih,show Int.mul a b=a*b from rfl]using h⟩
 |quo=>
  obtain⟨h1,h2⟩:=Qir hz (show T (cond (eqI b 0) z (fI (kd.wrap (a.tdiv b)) λn=>k (.int kd n)))from h);rw[Qit]at h1;exact⟨.int kd (kd.wrap (a.tdiv b)),by simp[numOp,(by simpa using h1:¬b=0)],by simpa[fI_eq]using h2⟩
 |rem=>
  obtain⟨h1,h2⟩:=Qir hz (show T (cond (eqI b 0) z (fI (a.tmod b) λn=>k (.int kd n)))from h);rw[Qit]at h1;exact⟨.int kd (a.tmod b),by simp[numOp,(by simpa using h1:¬b=0)],by simpa[fI_eq]using h2⟩
 |and=>exact⟨_,rfl,by simpa[binI,fI_eq]using h⟩
 |or=>exact⟨_,rfl,by simpa[binI,fI_eq]using h⟩
 |xor=>exact⟨_,rfl,by simpa[binI,fI_eq]using h⟩
 |shl=>exact(hz h).elim
 |shr=>exact(hz h).elim
 |andNot=>exact⟨_,rfl,by simpa[binI,fI_eq]using h⟩
 |eql=>refine⟨_,rfl,?_⟩;have h':T (k (.bool (eqI a b))):=by simpa[binI,fB_eq]using h
       rw[Qit]at h';rwa [show decide (a=b)=(a==b) by rw[Bool.eq_iff_iff];simp]at h'
 |neq=>refine⟨_,rfl,?_⟩;have h':T (k (.bool (!(eqI a b)))):=by simpa[binI,fB_eq]using h
       rw[Qit]at h';rwa [show(!decide (a=b))=(a !=b) by rw[Bool.eq_iff_iff];simp]at h'
 |lss=>refine⟨_,rfl,?_⟩;have h':T (k (.bool (ltI a b))):=by simpa[binI,fB_eq]using h
       rw[Qhe]at h';exact h'
 |leq=>refine⟨_,rfl,?_⟩;have h':T (k (.bool (!(ltI b a)))):=by simpa[binI,fB_eq]using h
       rw[Qhe]at h';rwa [show(!decide (b<a))=decide (a<=b) by rw[Bool.eq_iff_iff];simp]at h'
 |gtr=>refine⟨_,rfl,?_⟩;have h':T (k (.bool (ltI b a))):=by simpa[binI,fB_eq]using h
       rw[Qhe]at h';exact h'
 |geq=>refine⟨_,rfl,?_⟩;have h':T (k (.bool (!(ltI a b)))):=by simpa[binI,fB_eq]using h
       rw[Qhe]at h';rwa [show(!decide (a<b))=decide (a>=b) by rw[Bool.eq_iff_iff];simp]at h'
def svVal:SV->Value
 |.int k n=>.int k n
 |.bool b=>.bool b
 |.str l n=>.string (sOf l n)
 |_=>undef
theorem Qpt {op:BinOp} {kd:IntKind} {a b:Int} {s:SV} (h:numOp op kd a b=some s) (t:TypeId) (x y:Operand) (w:World):
 (do eqGuard op t x y (.int kd a) (.int kd b);binOp op t (.int kd a) (.int kd b):Sem Value).run P w=.ok (svVal s) w/\∀(ρ:Rho),VR val ρ w s (svVal s):=by
 have hg:(eqGuard op t x y (.int kd a) (.int kd b)).run P w=.ok () w:=by
  rw[eqGuard_at_int];rfl
 cases op<;>simp[numOp]at h
 case quo=>obtain⟨h0,h⟩:=h;subst h;simp[hg,binOp,Op.intDiv,h0,svVal,VR]
 case rem=>obtain⟨h0,h⟩:=h;subst h;simp[hg,binOp,Op.intDiv,h0,svVal,VR]
 all_goals (subst h;simp[hg,binOp,Op.intArith,Op.intBits,Op.intCmp,svVal,VR])
theorem Qxm {t u:TypeId} {op:BinOp} {x y:Operand} {x' y':Od} {kd:IntKind} {a b:Int} {s:SV} (ho:o.op=.binOp op t x y u) (hx:od P x=some x') (hy:od P y=some y')
 (ex:ev tm x'=.one (.int kd a)) (ey:ev tm y'=.one (.int kd b)) (hs:numOp op kd a b=some s):Sound P val fz tm mu n o (.one s) mu n:=by
 refine Qex λρ w act _ hop=>?_;have g1:=hop x x' (by simp[ho,Op.operands]) hx;have g2:=hop y y' (by simp[ho,Op.operands]) hy;rw[ex]at g1;rw[ey]at g2;have g1':act.eval x=.int kd a:=g1;have g2':act.eval y=.int kd b:=g2;obtain⟨r1,r2⟩:=Qpt (P:=P) (val:=val) hs t x y w;refine⟨svVal s,?_,r2 ρ⟩;simp only[execOp,ho,g1',g2',Sem.run_bind]at r1⊢;rw[r1];rfl
end
end Go.Ev
namespace Go.Ev
def inR (tm:TM) (q r:Nat):Prop:=∃row,tm[q]?=some row/\r<row.length
def setT (tm:TM) (q r:Nat) (v:AV):TM:=tm.set q ((nth [] tm q).set r v)
theorem Qoz {R:Type} (tm:TM) (q r:Nat) (v:AV) (k:TM->R):setTm tm q r v k=k (setT tm q r v):=by
 unfold setTm;rw[Qh5,Qh5];rfl
theorem Qso {tm:TM} {q r:Nat} {v:AV} {q' r':Nat} (h:inR (setT tm q r v) q' r'):inR tm q' r':=by
 obtain⟨row,h1,h2⟩:=h;unfold setT at h1;rw[List.getElem?_set]at h1;by_cases hq:q=q'
 ·subst hq;simp only[if_true]at h1;split at h1
  ·rename_i hlt;cases h1;have e:tm[q]?=some tm[q]:=List.getElem?_eq_getElem hlt;rw[Qgr,e]at h2;simp at h2;exact⟨_,e,h2⟩
  ·cases h1
 ·simp only[hq,if_false]at h1;exact⟨row,h1,h2⟩
theorem Qik {tm:TM} {q r q' r':Nat} {v:AV} (h:¬(q'=q/\r'=r)):get (setT tm q r v) q' r'=get tm q' r':=by
 unfold get setT;simp only[Qgr];rw[List.getElem?_set];by_cases hq:q=q'
 ·subst hq;simp only[if_true];split
  ·simp only[Option.getD_some];rw[List.getElem?_set_ne (by intro e;exact h ⟨rfl,e.symm⟩)]
  ·rename_i hge;rw[List.getElem?_eq_none (Nat.le_of_not_lt hge)]
 ·simp only[hq,if_false]
theorem Qg7 {tm:TM} {q r:Nat} {v:AV}:inR tm q r/\get (setT tm q r v) q r=v\/¬inR tm q r/\get (setT tm q r v) q r=.one .un:=by
 by_cases h:inR tm q r
 ·left
  obtain⟨row,h1,h2⟩:=h;refine⟨⟨row,h1,h2⟩,?_⟩;have hlt:=(List.getElem?_eq_some_iff.1 h1).1;unfold get setT;simp only[Qgr,h1,Option.getD_some];rw[List.getElem?_set_self hlt];simp[h2]
 ·right
  refine⟨h,?_⟩;unfold get setT;simp only[Qgr];rw[List.getElem?_set];simp only[if_true];split
  ·rename_i hlt;have e:tm[q]?=some tm[q]:=List.getElem?_eq_getElem hlt;have hr:¬r<tm[q].length:=λhr=>h ⟨_,e,hr⟩;simp only[e,Option.getD_some];rw[List.getElem?_eq_none (by simp;omega)];rfl
  ·simp
section
variable {R:Type} {T:R->Prop} {P:Program} {val:Nat->Int} {fz:Fz} {tm:TM} {mu:St} {n:Nat} {o:Oper}
def SvEq (val:Nat->Int) (s s':SV):Prop:=s=s'\/∃kd i,s=.sym kd i/\s'=.int kd (val i)
theorem SvEq.vr {s s':SV} (h:SvEq val s s') {ρ:Rho} {w:World} {v:Value} (hv:VR val ρ w s' v):VR val ρ w s v:=by
 rcases h with rfl|⟨kd,i,rfl,rfl⟩
 ·exact hv
 ·exact hv
structure OrcOk (T:R->Prop) (val:Nat->Int) (orc:Orc R):Prop where
 bin:∀op kd i b k,T (orc.bin op kd i b k)->∃s s',numOp op kd (val i) b=some s'/\SvEq val s s'/\T (k s)
 nib:∀op kd a i k,T (orc.nib op kd a i k)->∃s s',numOp op kd a (val i)=some s'/\SvEq val s s'/\T (k s)
 conv:∀kd i k,T (orc.conv kd i k)->∃s,SvEq val s (.int kd (kd.wrap (val i)))/\T (k s)
 force:∀i k,T (orc.force i k)->T (k (val i))
def IsI (val:Nat->Int) (v:AV) (kd:IntKind) (a:Int):Prop:=v=.one (.int kd a)\/∃i,v=.one (.sym kd i)/\a=val i
theorem IsI.eval {v:AV} {kd:IntKind} {a:Int} (h:IsI val v kd a) {ρ:Rho} {w:World} {x:Value} (hx:AVR val ρ w v x):x=.int kd a:=by
 rcases h with rfl|⟨i,rfl,rfl⟩
 ·exact hx
 ·exact hx
def Fwd (val:Nat->Int) (tm tm':TM):Prop:=∀ρ w y v,AVR val ρ w (ev tm y) v->AVR val ρ w (ev tm' y) v
theorem Fwd.refl:Fwd val tm tm:=λ_ _ _ _ h=>h
theorem Fwd.trans {tm1 tm2:TM} (h:Fwd val tm tm1) (h':Fwd val tm1 tm2):Fwd val tm tm2:=λρ w y v hv=>h' ρ w y v (h ρ w y v hv)
theorem Qhq {tm':TM} (h:Fwd val tm tm') {v:AV} {mu':St} {n':Nat} (hs:Sound P val fz tm' mu n o v mu' n'):Sound P val fz tm mu n o v mu' n':=
 ⟨hs.1,λρ w a hr ho=>hs.2 ρ w a hr λx y hx hy=>h ρ w y _ (ho x y hx hy)⟩
theorem Qf2 {orc:Orc R} (hk:OrcOk T val orc) {x:Od} {k:TM->R} (h:T (Qfj orc tm x k)):∃tm',T (k tm')/\Fwd val tm tm':=by
 cases x with
 |c v=>exact⟨tm,h,Fwd.refl⟩
 |t q r=>
  have h':T (AV.rec (motive:=λ_=>R) (λs=>s.onSym (k tm) λkd i=>orc.force i λv=>fI v λv=>setTm tm q r (.one (.int kd v)) k) (λ_=>k tm) (λ_=>k tm) (get tm q r)):=h;cases e:get tm q r with
  |ag l=>rw[e]at h';exact⟨tm,h',Fwd.refl⟩
  |tp l=>rw[e]at h';exact⟨tm,h',Fwd.refl⟩
  |one s=>
   rw[e]at h';cases s with
   |sym kd i=>
    have h2:=hk.force i _ h';rw[fI_eq,Qoz]at h2;refine⟨_,h2,λρ w y v hv=>?_⟩;cases y with
    |c u=>exact hv
    |t q' r'=>
     have hv':AVR val ρ w (get tm q' r') v:=hv;show AVR val ρ w (get (setT tm q r (.one (.int kd (val i)))) q' r') v;by_cases hq:q'=q/\r'=r
     ·obtain⟨rfl,rfl⟩:=hq;rw[e]at hv';rcases Qg7 (tm:=tm) (q:=q') (r:=r') (v:=.one (.int kd (val i)))with⟨_,hg⟩|⟨_,hg⟩
      ·rw[hg];exact hv'
      ·rw[hg];trivial
     ·rw[Qik hq];exact hv'
   |_=>exact⟨tm,h',Fwd.refl⟩
theorem Qhl {orc:Orc R} (hk:OrcOk T val orc) {x:Option Od} {k:TM->R} (h:T (Qhf orc tm x k)):∃tm',T (k tm')/\Fwd val tm tm':=by
 cases x with
 |none=>exact⟨tm,h,Fwd.refl⟩
 |some x=>exact Qf2 hk h
theorem Qp2 {kd:IntKind} {a b:Int} {s:SV} (h:numOp .lss kd a b=some s):s=.bool (decide (a<b)):=by
 simp[numOp]at h;exact h.symm
theorem SvEq.bool {s:SV} {b:Bool} (h:SvEq val s (.bool b)):s=.bool b:=by
 rcases h with h|⟨_,_,_,h⟩
 ·exact h
 ·cases h
theorem Qsl {z:R} (hz:¬T z) {orc:Orc R} (hk:OrcOk T val orc) {a b:SV} {k:Bool->R} (h:T (ltS orc z a b k)):∃kd x y,IsI val (.one a) kd x/\IsI val (.one b) kd y/\T (k (decide (x<y))):=by
 have bin:∀{kd i v},T (orc.bin .lss kd i v λs=>s.Qfv z k)->T (k (decide (val i<v))):=by
  intro kd i v h;obtain⟨s,s',h1,h2,h3⟩:=hk.bin _ _ _ _ _ h;rw[Qp2 h1]at h2;rw[h2.bool]at h3;exact h3
 have nib:∀{kd i v},T (orc.nib .lss kd v i λs=>s.Qfv z k)->T (k (decide (v<val i))):=by
  intro kd i v h;obtain⟨s,s',h1,h2,h3⟩:=hk.nib _ _ _ _ _ h;rw[Qp2 h1]at h2;rw[h2.bool]at h3;exact h3
 cases a with
 |int kd u=>
  cases b with
  |int kd' v=>
   obtain⟨he,h1⟩:=Qew hz (show T (cond (IntKind.eqb kd kd') (k (ltI u v)) z)from h);have:=Qi8 he;subst this;rw[Qhe]at h1;exact⟨kd,u,v,.inl rfl,.inl rfl,h1⟩
  |sym kd' j=>
   obtain⟨he,h1⟩:=Qew hz (show T (cond (IntKind.eqb kd kd') (orc.nib .lss kd u j λs=>s.Qfv z k) z)from h);have:=Qi8 he;subst this;exact⟨kd,u,val j,.inl rfl,.inr ⟨j,rfl,rfl⟩,nib h1⟩
  |_=>exact(hz h).elim
 |sym kd i=>
  cases b with
  |int kd' v=>
   obtain⟨he,h1⟩:=Qew hz (show T (cond (IntKind.eqb kd kd') (orc.bin .lss kd i v λs=>s.Qfv z k) z)from h);have:=Qi8 he;subst this;exact⟨kd,val i,v,.inr ⟨i,rfl,rfl⟩,.inl rfl,bin h1⟩
  |sym kd' j=>
   obtain⟨he,h1⟩:=Qew hz (show T (cond (IntKind.eqb kd kd') (orc.force j λv=>orc.bin .lss kd i v λs=>s.Qfv z k) z)from h);have:=Qi8 he;subst this;exact⟨kd,val i,val j,.inr ⟨i,rfl,rfl⟩,.inr ⟨j,rfl,rfl⟩,bin (hk.force _ _ h1)⟩
  |_=>exact(hz h).elim
 |_=>exact(hz h).elim
end
end Go.Ev
namespace Go.Ev
section
variable {P:Program} {val:Nat->Int} {fz:Fz} {tm:TM} {mu:St} {n:Nat} {o:Oper}
theorem Qk6 {t u:TypeId} {op:BinOp} {x y:Operand} {x' y':Od} {kd:IntKind} {a b:Int} {s s':SV} (ho:o.op=.binOp op t x y u) (hx:od P x=some x') (hy:od P y=some y')
 (ex:IsI val (ev tm x') kd a) (ey:IsI val (ev tm y') kd b) (hs:numOp op kd a b=some s') (he:SvEq val s s'):Sound P val fz tm mu n o (.one s) mu n:=by
 refine Qex λρ w act _ hop=>?_;have g1':=ex.eval (hop x x' (by simp[ho,Op.operands]) hx);have g2':=ey.eval (hop y y' (by simp[ho,Op.operands]) hy);obtain⟨r1,r2⟩:=Qpt (P:=P) (val:=val) hs t x y w;refine⟨svVal s',?_,he.vr (r2 ρ)⟩;simp only[execOp,ho,g1',g2',Sem.run_bind]at r1⊢;rw[r1];rfl
theorem Qrq {t u:TypeId} {left:Bool} {x y:Operand} {x' y':Od} {kd kd':IntKind} {a b:Int} (ho:o.op=.binOp (if left then .shl else .shr) t x y u) (hx:od P x=some x') (hy:od P y=some y')
 (ex:ev tm x'=.one (.int kd a)) (ey:ev tm y'=.one (.int kd' b)) (hb:¬b<0):
 Sound P val fz tm mu n o (.one (.int kd (if left then kd.wrap (a*2^min b.toNat kd.bits)else a.fdiv (2^min b.toNat kd.bits)))) mu n:=by
 refine Qex λρ w act _ hop=>?_;have g1:=hop x x' (by simp[ho,Op.operands]) hx;have g2:=hop y y' (by simp[ho,Op.operands]) hy;rw[ex]at g1;rw[ey]at g2;have g1':act.eval x=.int kd a:=g1;have g2':act.eval y=.int kd' b:=g2;cases left
 ·exact⟨_,by simp[execOp,ho,g1',g2',eqGuard_shr,binOp,Op.shift,hb],rfl⟩
 ·exact⟨_,by simp[execOp,ho,g1',g2',eqGuard_shl,binOp,Op.shift,hb],rfl⟩
def Qtg (op:BinOp) (l a l' b:Nat):Option SV:=
 match op with
 |.add=>if l+l'<=1099511627776 then some (.str (l+l') (a*256^l'+b))else none
 |.eql=>some (.bool (strEq l a l' b))
 |.neq=>some (.bool (!(strEq l a l' b)))
 |.lss=>some (.bool (strLt l a l' b))
 |.leq=>some (.bool (!(strLt l' b l a)))
 |.gtr=>some (.bool (strLt l' b l a))
 |.geq=>some (.bool (!strLt l a l' b))
 |_=>none
theorem Qqi {R:Type} {T:R->Prop} {z:R} (hz:¬T z) {op:BinOp} {l a l' b:Nat} {k:SV->R} (h:T (Qm9 op l a l' b z k)):∃s,Qtg op l a l' b=some s/\T (k s):=by
 cases op
 case add=>
  obtain⟨h1,h2⟩:=Qew hz (show T (cond (Nat.ble (Nat.add l l') 1099511627776) (fN (Nat.add l l') λm=>fN (Nat.add (Nat.mul a (Nat.pow 256 l')) b) λr=>k (.str m r)) z)from h);rw[fN_eq,fN_eq]at h2;exact⟨_,if_pos (Nat.le_of_ble_eq_true h1),h2⟩
 case eql=>exact⟨_,rfl,by have h':T (fB (strEq l a l' b) λr=>k (.bool r)):=h;rwa [fB_eq]at h'⟩
 case neq=>exact⟨_,rfl,by have h':T (fB (strEq l a l' b) λr=>k (.bool (not r))):=h;rwa [fB_eq]at h'⟩
 case lss=>exact⟨_,rfl,by have h':T (fB (strLt l a l' b) λr=>k (.bool r)):=h;rwa [fB_eq]at h'⟩
 case leq=>exact⟨_,rfl,by have h':T (fB (strLt l' b l a) λr=>k (.bool (not r))):=h;rwa [fB_eq]at h'⟩
 case gtr=>exact⟨_,rfl,by have h':T (fB (strLt l' b l a) λr=>k (.bool r)):=h;rwa [fB_eq]at h'⟩
 case geq=>exact⟨_,rfl,by have h':T (fB (strLt l a l' b) λr=>k (.bool (not r))):=h;rwa [fB_eq]at h'⟩
 all_goals exact(hz h).elim
theorem Qlf (l n:Nat):(sOf l n).toList=sB l n:=by
 rw[ByteArray.toList_eq];rfl
theorem Qn4 {l a l' b:Nat} (ha:a<256^l) (hb:b<256^l'):((sB l a)==(sB l' b))=strEq l a l' b:=by
 rw[Bool.eq_iff_iff,Qjb,beq_iff_eq,<-sOf_eq ha hb];constructor
 ·intro h;unfold sOf;rw[h]
 ·intro h;have:=congrArg (λs:ByteArray=>s.data.toList) h;simpa[sOf]using this
theorem Qof:∀a b:List UInt8,(Op.bytesLess a b||a==b)=!Op.bytesLess b a
 |[],[]=>rfl
 |[],_::_=>by simp[Op.bytesLess]
 |_::_,[]=>by simp[Op.bytesLess]
 |u::a,v::b=>by
  have ih:=Qof a b;rcases Nat.lt_trichotomy u.toNat v.toNat with h|h|h
  ·have h1:u<v:=UInt8.lt_iff_toNat_lt.2 h;have h2:¬v<u:=λx=>by have:=UInt8.lt_iff_toNat_lt.1 x;omega
   have h3:¬v=u:=λx=>by subst x;omega
   simp[Op.bytesLess,h1,h2,h3]
  ·have h1:u=v:=UInt8.toNat_inj.1 h;subst h1;have h2:¬u<u:=λx=>by have:=UInt8.lt_iff_toNat_lt.1 x;omega
   have e:((u::a)==(u::b))=(a==b):=by simp
   simp only[Op.bytesLess,e,h2,decide_false,Bool.false_or,beq_self_eq_true,Bool.true_and,ih]
  ·have h1:v<u:=UInt8.lt_iff_toNat_lt.2 h;have h2:¬u<v:=λx=>by have:=UInt8.lt_iff_toNat_lt.1 x;omega
   have h3:¬u=v:=λx=>by subst x;omega
   simp[Op.bytesLess,h1,h2,h3]
theorem Qtp {op:BinOp} {l a l' b:Nat} {s:SV} (ha:a<256^l) (hb:b<256^l') (h:Qtg op l a l' b=some s) (t:TypeId) (x y:Operand) (w:World):
 (do eqGuard op t x y (.string (sOf l a)) (.string (sOf l' b));binOp op t (.string (sOf l a)) (.string (sOf l' b)):Sem Value).run P w=.ok (svVal s) w/\∀(ρ:Rho),VR val ρ w s (svVal s):=by
 have hg:(eqGuard op t x y (.string (sOf l a)) (.string (sOf l' b))).run P w=.ok () w:=by cases op<;>rfl
 have e1:=Qn4 ha hb;have e2:=Qp0 ha hb;have e3:=Qp0 hb ha;have e4:=Qof (sB l a) (sB l' b);cases op<;>simp[Qtg]at h
 case add=>
  obtain⟨h0,h⟩:=h;subst h;have hs:(sOf l a).size+(sOf l' b).size=l+l':=by rw[Qht,Qht]
  have:¬(((sOf l a).size+(sOf l' b).size:Nat):Int)>IntKind.i64.max:=by rw[hs];simp;omega
  have hap:sOf (l+l') (a*256^l'+b)=sOf l a++sOf l' b:=by
   apply ByteArray.ext;apply Array.ext';rw[ByteArray.data_append,Array.toList_append];exact Qna l a l' b hb
  refine⟨?_,λρ=>⟨?_,rfl⟩⟩
  ·simp[hg,binOp,Op.stringOp,svVal,hap];rw[Qht,Qht];omega
  ·rw[Nat.pow_add];have:a*256^l'+256^l'<=256^l*256^l':=by rw[<-Nat.succ_mul];exact Nat.mul_le_mul_right _ ha
   omega
 all_goals (subst h;simp[hg,binOp,Op.stringOp,svVal,VR,Qlf,e1,e2,e3])
 all_goals (first|rfl|(rw[e1]at e4;first|exact e4|(rw[<-Bool.not_or,e4,Bool.not_not])))
theorem Qtu {t u:TypeId} {op:BinOp} {x y:Operand} {x' y':Od} {la a lb b:Nat} {s:SV} (ho:o.op=.binOp op t x y u) (hx:od P x=some x') (hy:od P y=some y')
 (ex:ev tm x'=.one (.str la a)) (ey:ev tm y'=.one (.str lb b)) (hs:Qtg op la a lb b=some s):Sound P val fz tm mu n o (.one s) mu n:=by
 refine Qex λρ w act _ hop=>?_;have g1:=hop x x' (by simp[ho,Op.operands]) hx;have g2:=hop y y' (by simp[ho,Op.operands]) hy;rw[ex]at g1;rw[ey]at g2;have g1':act.eval x=.string (sOf la a):=g1.2;have g2':act.eval y=.string (sOf lb b):=g2.2;obtain⟨r1,r2⟩:=Qtp (P:=P) (val:=val) g1.1 g2.1 hs t x y w;refine⟨svVal s,?_,r2 ρ⟩;simp only[execOp,ho,g1',g2',Sem.run_bind]at r1⊢;rw[r1];rfl
theorem Qnc {w:World} {t:TypeId} {x y:Value} {b:Bool} (h:∀d,(Op.equalIn (d+1) t x y).run P w=.ok b w):(Op.equal t x y).run P w=.ok b w:=h 9999
theorem Qm4 {w:World} {neg:Bool} {t:TypeId} {x y:Value} {b:Bool} (h:(Op.equal t x y).run P w=.ok b w) (hb:(∃p q,x=.bool p/\y=.bool q)\/(∃p l c q m d,x=.slice p l c/\y=.slice q m d)\/∃p q,x=.pointer p/\y=.pointer q):
 (binOp (if neg then .neq else .eql) t x y).run P w=.ok (.bool (neg !=b)) w:=by
 rcases hb with⟨p,q,rfl,rfl⟩|⟨p,l,c,q,m,d,rfl,rfl⟩|⟨p,q,rfl,rfl⟩
 all_goals
  cases neg
  ·simp only[binOp,Bool.false_eq_true,if_false,Sem.run_bind,h,Result.andThen_ok,Sem.run_pure];simp
  ·simp only[binOp,if_true,Sem.run_bind,h,Result.andThen_ok,Sem.run_pure];simp
theorem Qvu {t u:TypeId} {neg:Bool} {x y:Operand} {x' y':Od} {a b:Bool} (ho:o.op=.binOp (if neg then .neq else .eql) t x y u) (hu:P.underlying t=some .bool) (hx:od P x=some x') (hy:od P y=some y')
 (ex:ev tm x'=.one (.bool a)) (ey:ev tm y'=.one (.bool b)):Sound P val fz tm mu n o (.one (.bool (neg !=(a==b)))) mu n:=by
 refine Qex λρ w act _ hop=>?_;have g1:=hop x x' (by simp[ho,Op.operands]) hx;have g2:=hop y y' (by simp[ho,Op.operands]) hy;rw[ex]at g1;rw[ey]at g2;have g1':act.eval x=.bool a:=g1;have g2':act.eval y=.bool b:=g2;refine⟨.bool (neg !=(a==b)),?_,rfl⟩;have h1:=Qm4 (P:=P) (w:=w) (neg:=neg) (t:=t) (b:=a==b) (Qnc λd=>by simp[Op.equalIn,underlying,hu]) (.inl ⟨a,b,rfl,rfl⟩);simp only[execOp,ho,g1',g2',eqGuard_at_bool,Sem.run_bind,Sem.run_pure,Result.andThen_ok,h1]
theorem Qt0 {ρ:Rho} {w:World} {c:Nat} {a b:SV} {u v:Value} {r:Bool} {t:TypeId} (h:Qmt c a b=some r) (ha:VR val ρ w a u) (hb:VR val ρ w b v)
 (ht:(c=0/\∃k,P.underlying t=some (.int k))\/(c=1/\P.underlying t=some .bool)\/(c=2/\P.underlying t=some .string)) (d:Nat):(Op.equalIn (d+1) t u v).run P w=.ok r w:=by
 rcases ht with⟨rfl,k,ht⟩|⟨rfl,ht⟩|⟨rfl,ht⟩
 ·cases a<;>cases b<;>simp only[Qmt,reduceCtorEq]at h;rename_i k1 a k2 b;cases hk:IntKind.eqb k1 k2 with
  |false=>rw[hk]at h;cases h
  |true=>
   rw[hk]at h;have hk:=Qi8 hk;subst hk;cases h;cases ha;cases hb;rw[run_equalIn_int w d t k1 k a b ht,Qit];congr 1
 ·cases a<;>cases b<;>simp only[Qmt,reduceCtorEq,Option.some.injEq]at h;subst h;cases ha;cases hb;exact run_equalIn_bool w d t _ _ ht
 ·cases a<;>cases b<;>simp only[Qmt,reduceCtorEq,Option.some.injEq]at h;subst h;obtain⟨h1,rfl⟩:=ha;obtain⟨h2,rfl⟩:=hb;rw[run_equalIn_string w d t _ _ ht,Qlf,Qlf,Qn4 h1 h2]
theorem Qlo {ρ:Rho} {w:World} (d:Nat) (xs ys:List Value):∀(fs:List Field) (i:Nat) (ks:List Nat) (l l':List SV) (e:Bool),eqKs P i fs=some ks->All2 (VR val ρ w) l (xs.drop i)->All2 (VR val ρ w) l' (ys.drop i)->
 Qgm ks l l'=some e->(Op.eqFields (d+1) xs.toArray ys.toArray fs).run P w=.ok e w
 |[],i,ks,l,l',e,hk,_,_,he=>by
  cases hk;cases l<;>cases l'<;>simp[Qgm]at he;subst he;rfl
 |f::fs,i,ks,l,l',e,hk,hx,hy,he=>by
  unfold eqKs at hk;split at hk
  ·rename_i hn;simp only[Bool.and_eq_true,bne_iff_ne,ne_eq,beq_iff_eq]at hn;have hc:∃c ks',ks=c::ks'/\eqKs P (i+1) fs=some ks'/\((c=0/\∃k,P.underlying f.type=some (.int k))\/(c=1/\P.underlying f.type=some .bool)\/(c=2/\P.underlying f.type=some .string)):=by
    split at hk<;>cases hk
    ·rename_i k ks' h1 h2;exact⟨0,ks',rfl,h2,.inl ⟨rfl,k,h1⟩⟩
    ·rename_i ks' h1 h2;exact⟨1,ks',rfl,h2,.inr (.inl ⟨rfl,h1⟩)⟩
    ·rename_i ks' h1 h2;exact⟨2,ks',rfl,h2,.inr (.inr ⟨rfl,h1⟩)⟩
   obtain⟨c,ks',rfl,hk',ht⟩:=hc;cases l with
   |nil=>simp[Qgm]at he
   |cons a l1=>cases l' with
    |nil=>simp[Qgm]at he
    |cons b l2=>
     have px:∀(zs:List Value) (m:List SV) (s:SV),All2 (VR val ρ w) (s::m) (zs.drop i)->∃v,(part f.type zs.toArray f.offset).run P w=.ok v w/\VR val ρ w s v/\All2 (VR val ρ w) m (zs.drop (i+1)):=by
      intro zs m s h;have hl:=h.length;have hlt:i<zs.length:=by rw[List.length_drop,List.length_cons]at hl;omega
      rw[List.drop_eq_getElem_cons hlt]at h;refine⟨zs[i],?_,h.1,h.2⟩;have g1:(isAgg f.type).run P w=.ok false w:=by
       rcases ht with⟨_,k,ht⟩|⟨_,ht⟩|⟨_,ht⟩<;>simp[isAgg,underlying,ht]
      simp[part,g1,hn.2,hlt]
     obtain⟨u,pu,vu,hx'⟩:=px xs l1 a hx;obtain⟨v,pv,vv,hy'⟩:=px ys l2 b hy;simp only[Qgm]at he;have hne:f.name≠ "_" :=hn.1;cases hr:Qmt c a b with
     |none=>rw[hr]at he;cases he
     |some r=>
      have hq:=Qt0 (P:=P) hr vu vv ht d;rw[hr]at he;simp only[Op.eqFields,hne,ne_eq,not_false_eq_true,if_true,Sem.run_bind,pu,pv,hq,Result.andThen_ok];cases r with
      |true=>simpa using Qlo d xs ys fs (i+1) ks' l1 l2 e hk' hx' hy' he
      |false=>
       cases hz:Qgm ks' l1 l2 with
       |none=>rw[hz]at he;cases he
       |some q=>
        rw[hz]at he;cases he;simp
  ·cases hk
theorem Qx3 {t u:TypeId} {neg:Bool} {x y:Operand} {x' y':Od} {a b:List SV} {fs:Array Field} {ks:List Nat} {e:Bool} (ho:o.op=.binOp (if neg then .neq else .eql) t x y u) (hu:P.underlying t=some (.struct fs))
 (hg:(P.stoodInHeld t||P.eqGuardType P.depth t)=false) (hk:eqKs P 0 fs.toList=some ks) (hx:od P x=some x') (hy:od P y=some y')
 (ex:ev tm x'=.ag a) (ey:ev tm y'=.ag b) (he:Qgm ks a b=some e):Sound P val fz tm mu n o (.one (.bool (neg !=e))) mu n:=by
 refine Qex λρ w act _ hop=>?_;have g1:=hop x x' (by simp[ho,Op.operands]) hx;have g2:=hop y y' (by simp[ho,Op.operands]) hy;rw[ex]at g1;rw[ey]at g2;obtain⟨xs,e1,h1⟩:=g1;obtain⟨ys,e2,h2⟩:=g2;refine⟨.bool (neg !=e),?_,rfl⟩;simp only[Bool.or_eq_false_iff]at hg;have hf:P.fieldsOf t=fs:=by simp[Program.fieldsOf,hu]
 have hq:(Op.equalIn 10000 t (.agg xs.toArray) (.agg ys.toArray)).run P w=.ok e w:=by
  rw[show(10000:Nat)=9999+1 from rfl,run_equalIn_agg w 9999 t _ _ (by rw[hf];exact hu) hg.1,hf];exact Qlo 9998 xs ys fs.toList 0 ks a b e hk h1 h2 he
 have hgd:∀op,(eqGuard op t x y (.agg xs.toArray) (.agg ys.toArray)).run P w=.ok () w:=λop=>run_eqGuard_agg w op t x y _ _ hg.2;cases neg
 ·simp only[execOp,ho,e1,e2,Bool.false_eq_true,if_false,Sem.run_bind,hgd,Result.andThen_ok,run_eql_struct,hq];cases e<;>rfl
 ·simp only[execOp,ho,e1,e2,if_true,Sem.run_bind,hgd,Result.andThen_ok,run_neq_struct,hq];cases e<;>rfl
theorem Qke {ρ:Rho} {w:World} {sl:Bool} {s:SV} {x:Value} {b:Bool} (h:nilness sl s=some b) (hv:VR val ρ w s x):
 (sl=true/\∃a l c,x=.slice a l c/\a.isNone=b)\/(sl=false/\∃a,x=.pointer a/\a.isNone=b):=by
 cases sl with
 |true=>
  left;refine⟨rfl,?_⟩
  cases s<;>simp[nilness]at h<;>subst h
  ·cases hv;exact⟨none,0,0,rfl,rfl⟩
  ·obtain⟨p,c,_,rfl,_⟩:=hv;exact⟨_,_,_,rfl,rfl⟩
  ·obtain⟨p,rfl⟩:=hv;exact⟨_,_,_,rfl,rfl⟩
  ·obtain⟨p,c,rfl⟩:=hv;exact⟨_,_,_,rfl,rfl⟩
 |false=>
  right;refine⟨rfl,?_⟩
  cases s<;>simp[nilness]at h<;>subst h
  ·cases hv;exact⟨none,rfl,rfl⟩
  ·obtain⟨p,_,rfl⟩:=hv;exact⟨_,rfl,rfl⟩
theorem Qpg {w:World} {t e:TypeId} (hu:P.underlying t=some (.slice e)) (a b:Option Addr) (l c m d:Nat) (h:(a.isNone||b.isNone)=true):(Op.equal t (.slice a l c) (.slice b m d)).run P w=.ok (a.isNone&&b.isNone) w:=
 Qnc λk=>by
  cases a with
  |none=>simp[Op.equalIn,underlying,hu]
  |some x=>cases b with
   |none=>simp[Op.equalIn,underlying,hu]
   |some y=>cases h
theorem Qng {w:World} {t e:TypeId} (hu:P.underlying t=some (.pointer e)) (a b:Option Addr) (h:(a.isNone||b.isNone)=true):(Op.equal t (.pointer a) (.pointer b)).run P w=.ok (a.isNone&&b.isNone) w:=
 Qnc λk=>by
  cases a with
  |none=>simp[Op.equalIn,underlying,hu]
  |some x=>cases b with
   |none=>simp[Op.equalIn,underlying,hu]
   |some y=>cases h
theorem Qu3 {t u:TypeId} {sl neg:Bool} {x y:Operand} {x' y':Od} {s1 s2:SV} {a b:Bool} (ho:o.op=.binOp (if neg then .neq else .eql) t x y u)
 (hu:(sl=true/\∃e,P.underlying t=some (.slice e))\/(sl=false/\∃e,P.underlying t=some (.pointer e))) (hx:od P x=some x') (hy:od P y=some y')
 (ex:ev tm x'=.one s1) (ey:ev tm y'=.one s2) (ha:nilness sl s1=some a) (hb:nilness sl s2=some b) (hab:(a||b)=true):Sound P val fz tm mu n o (.one (.bool (neg !=(a&&b)))) mu n:=by
 refine Qex λρ w act _ hop=>?_;have g1:=hop x x' (by simp[ho,Op.operands]) hx;have g2:=hop y y' (by simp[ho,Op.operands]) hy;rw[ex]at g1;rw[ey]at g2;refine⟨.bool (neg !=(a&&b)),?_,rfl⟩;rcases Qke ha g1 with⟨e1,a1,l1,c1,e2,e3⟩|⟨e1,a1,e2,e3⟩
 ·rcases Qke hb g2 with⟨f1,a2,l2,c2,f2,f3⟩|⟨f1,_⟩
  ·rcases hu with⟨_,e,hu⟩|⟨h,_⟩
   ·have hg:∀op,(eqGuard op t x y (.slice a1 l1 c1) (.slice a2 l2 c2)).run P w=.ok () w:=λop=>by cases op<;>rfl
    subst e3;subst f3;have he:=Qpg (P:=P) (w:=w) hu a1 a2 l1 c1 l2 c2 hab;have h1:=Qm4 (P:=P) (w:=w) (neg:=neg) (t:=t) he (.inr (.inl ⟨_,_,_,_,_,_,rfl,rfl⟩));simp only[execOp,ho,e2,f2,hg,Sem.run_bind,Sem.run_pure,Result.andThen_ok,h1]
   ·rw[e1]at h;cases h
  ·rw[e1]at f1;cases f1
 ·rcases Qke hb g2 with⟨f1,_⟩|⟨f1,a2,f2,f3⟩
  ·rw[e1]at f1;cases f1
  ·rcases hu with⟨h,_⟩|⟨_,e,hu⟩
   ·rw[e1]at h;cases h
   ·have hg:∀op,(eqGuard op t x y (.pointer a1) (.pointer a2)).run P w=.ok () w:=λop=>by cases op<;>rfl
    subst e3;subst f3;have he:=Qng (P:=P) (w:=w) hu a1 a2 hab;have h1:=Qm4 (P:=P) (w:=w) (neg:=neg) (t:=t) he (.inr (.inr ⟨_,_,rfl,rfl⟩));simp only[execOp,ho,e2,f2,hg,Sem.run_bind,Sem.run_pure,Result.andThen_ok,h1]
theorem Qt1 {t u:TypeId} {x:Operand} {y:Od} {k k' kd:IntKind} {a:Int} (ho:o.op=.convert t u x) (ht:P.underlying t=some (.int k')) (hu:P.underlying u=some (.int kd)) (hx:od P x=some y)
 (ex:ev tm y=.one (.int k a)):Sound P val fz tm mu n o (.one (.int kd (kd.wrap a))) mu n:=by
 refine Qex λρ w act _ hop=>?_;have g:=hop x y (by simp[ho,Op.operands]) hx;rw[ex]at g;have g':act.eval x=.int k a:=g;exact⟨.int kd (kd.wrap a),by simp[execOp,ho,convert,underlying,ht,hu,g',Conv.intToInt],rfl⟩
theorem Qoy {t u:TypeId} {x:Operand} {y:Od} {k k' kd:IntKind} {i:Nat} {s:SV} (ho:o.op=.convert t u x) (ht:P.underlying t=some (.int k')) (hu:P.underlying u=some (.int kd)) (hx:od P x=some y)
 (ex:ev tm y=.one (.sym k i)) (hs:SvEq val s (.int kd (kd.wrap (val i)))):Sound P val fz tm mu n o (.one s) mu n:=by
 refine Qex λρ w act _ hop=>?_;have g:=hop x y (by simp[ho,Op.operands]) hx;rw[ex]at g;have g':act.eval x=.int k (val i):=g;exact⟨.int kd (kd.wrap (val i)),by simp[execOp,ho,convert,underlying,ht,hu,g',Conv.intToInt],hs.vr rfl⟩
theorem caps_R {ρ:Rho} {w:World} {a:Act} {caps:List Operand} {ys:List Od} {cs:List (Nat×Nat)} (ho:ods P caps=some ys) (hop:∀x y,x∈caps->od P x=some y->AVR val ρ w (ev tm y) (a.eval x))
 (hc:All2 (λy c=>ev tm y=.one (.optr c.1 c.2)) ys cs):All2 (CapR ρ) cs (caps.map a.eval):=by
 induction caps generalizing ys cs with
 |nil=>
  simp[ods]at ho;subst ho;cases cs with
  |nil=>trivial
  |cons _ _=>exact hc.elim
 |cons x r ih=>
  simp only[ods]at ho;split at ho
  ·rename_i y l h1 h2;cases ho;cases cs with
   |nil=>exact hc.elim
   |cons c cs=>
    refine⟨?_,ih h2 (λx y hx hy=>hop x y (by simp[hx]) hy) hc.2⟩;have g:=hop x y (by simp) h1;rw[hc.1]at g;obtain⟨p,hp,e⟩:=g;exact⟨p,hp,e⟩
  ·cases ho
theorem Qtx {R:Type} {T:R->Prop} {z:R} (hz:¬T z) {l:List Od} {k:List (Nat×Nat)->R} (h:T (capsK z tm l k)):∃cs,All2 (λy c=>ev tm y=.one (.optr c.1 c.2)) l cs/\T (k cs):=by
 induction l generalizing k with
 |nil=>exact⟨[],trivial,h⟩
 |cons x r ih=>
  obtain⟨s,e1,h1⟩:=Qes hz h;obtain⟨id,off,e2,h2⟩:=Qhu hz h1;subst e2;obtain⟨cs,h3,h4⟩:=ih h2;exact⟨(id,off)::cs,⟨e1,h3⟩,h4⟩
theorem Qt7 {f:Nat} {first caps:Array Operand} {ys:List Od} {cs:List (Nat×Nat)} (ho:o.op=.makeFunc (.func f) first caps) (hf:first.isEmpty=true) (hc:ods P caps.toList=some ys)
 (hcs:All2 (λy c=>ev tm y=.one (.optr c.1 c.2)) ys cs):Sound P val fz tm mu n o (.one (.fn f cs)) mu n:=by
 have hf':first=#[]:=by simpa using hf
 subst hf';refine Qex λρ w act _ hop=>⟨.func (.func f) #[] (caps.map act.eval),by simp[execOp,ho,Instr.makeFunc],caps.toList.map act.eval,?_,?_⟩
 ·rw[<-Array.toList_map]
 ·exact caps_R hc (λx y hx hy=>hop x y (by simp[ho,Op.operands];exact Array.mem_toList_iff.1 hx) hy) hcs
theorem Qsa {t e:TypeId} {x i:Operand} {x' i':Od} {s id off len cap:Nat} {kd:IntKind} {j:Int} (ho:o.op=.indexAddr t x i) (hu:P.underlying t=some (.slice e)) (hs:szOf P e=some s)
 (hx:od P x=some x') (hi:od P i=some i') (ex:ev tm x'=.one (.osl id off len cap s)) (ei:ev tm i'=.one (.int kd j)) (h0:¬j<0) (h1:j.toNat<len):
 Sound P val fz tm mu n o (.one (.optr id (off+j.toNat*s))) mu n:=by
 refine Qex λρ w act _ hop=>?_;have g1:=hop x x' (by simp[ho,Op.operands]) hx;have g2:=hop i i' (by simp[ho,Op.operands]) hi;rw[ex]at g1;rw[ei]at g2;obtain⟨p,c,hp,g1',_⟩:=g1;have g2':act.eval i=.int kd j:=g2;have hs':=Qg6 hs w;refine⟨.pointer (some ⟨p.1,p.2+(off+j.toNat*s),none⟩),?_,p,hp,rfl⟩;have hj:0<=j/\j<(len:Int):=by omega
 simp[execOp,ho,Instr.indexAt,asIntOf,g1',g2',underlying,hu,hs',hj,addr_add,Nat.add_assoc]
theorem Qqq {t e:TypeId} {x i:Operand} {x' i':Od} {s id off len:Nat} {kd:IntKind} {j:Int} (ho:o.op=.indexAddr t x i) (hu:P.underlying t=some (.array len e)) (hs:szOf P e=some s)
 (hx:od P x=some x') (hi:od P i=some i') (ex:ev tm x'=.one (.optr id off)) (ei:ev tm i'=.one (.int kd j)) (h0:¬j<0) (h1:j.toNat<len):
 Sound P val fz tm mu n o (.one (.optr id (off+j.toNat*s))) mu n:=by
 refine Qex λρ w act _ hop=>?_;have g1:=hop x x' (by simp[ho,Op.operands]) hx;have g2:=hop i i' (by simp[ho,Op.operands]) hi;rw[ex]at g1;rw[ei]at g2;obtain⟨p,hp,g1'⟩:=g1;have g2':act.eval i=.int kd j:=g2;have hs':=Qg6 hs w;refine⟨.pointer (some ⟨p.1,p.2+(off+j.toNat*s),none⟩),?_,p,hp,rfl⟩;have hj:0<=j/\j<(len:Int):=by omega
 simp[execOp,ho,Instr.indexAt,asIntOf,g1',g2',underlying,hu,hs',hj,addr_add,Nat.add_assoc,Instr.sureAddr]
theorem Qwl {t:TypeId} {x i:Operand} {x' i':Od} {l b:Nat} {kd:IntKind} {j:Int} (ho:o.op=.index t x i) (hu:P.underlying t=some .string)
 (hx:od P x=some x') (hi:od P i=some i') (ex:ev tm x'=.one (.str l b)) (ei:ev tm i'=.one (.int kd j)) (h0:¬j<0) (h1:j.toNat<l):
 Sound P val fz tm mu n o (.one (.int .u8 (Int.ofNat (b/256^(l-1-j.toNat)%256)))) mu n:=by
 refine Qex λρ w act _ hop=>?_;have g1:=hop x x' (by simp[ho,Op.operands]) hx;have g2:=hop i i' (by simp[ho,Op.operands]) hi;rw[ex]at g1;rw[ei]at g2;have g1':act.eval x=.string (sOf l b):=g1.2;have g2':act.eval i=.int kd j:=g2;refine⟨_,?_,rfl⟩;have hj:0<=j:=by omega
 have h2:(sOf l b)[j.toNat]?=some (UInt8.ofNat (b/256^(l-1-j.toNat))):=by
  have h3:=sB_get h1 b;have h4:(sOf l b).data[j.toNat]?=(sB l b)[j.toNat]?:=by simp[sOf]
  have h5:j.toNat<(sOf l b).size:=by rw[Qht];exact h1
  rw[getElem?_pos (sOf l b) j.toNat h5];have h6:(sOf l b).data[j.toNat]?=some (sOf l b)[j.toNat]:=by
   rw[getElem?_pos (sOf l b).data j.toNat h5];rfl
  rw[<-h6,h4,h3]
 have h7:((UInt8.ofNat (b/256^(l-1-j.toNat))).toNat:Int)=Int.ofNat (b/256^(l-1-j.toNat)%256):=by
  rw[UInt8.toNat_ofNat'];rfl
 simp[execOp,ho,Instr.index,asIntOf,g1',g2',underlying,hu,hj,h2,<-h7]
def lenOf:SV->Option Nat
 |.str l _=>some l
 |.nsl=>some 0
 |.osl _ _ len _ _=>some len
 |.esl=>some 0
 |.zsl=>some 0
 |_=>none
theorem Qpr {c:Call} {t:TypeId} {x:Operand} {y:Od} {s:SV} {m:Nat} (ho:o.op=.call c) (hc:c.callee=.builtin .len) (ht:c.argTypes=#[t]) (ha:c.args=#[x])
 (hu:(∃e,P.underlying t=some (.slice e)/\∀l b,s≠.str l b)\/P.underlying t=some .string/\∃l b,s=.str l b) (hx:od P x=some y) (ex:ev tm y=.one s) (hm:lenOf s=some m):
 Sound P val fz tm mu n o (.one (.int .i64 (Int.ofNat m))) mu n:=by
 refine Qex λρ w act _ hop=>?_;have g:=hop x y (by simp[ho,Op.operands,Call.operands,hc,ha]) hx;rw[ex]at g;refine⟨.int .i64 (Int.ofNat m),?_,rfl⟩;have key:(Builtin.len_ #[t] o.type #[act.eval x]).run P w=.ok (.int .i64 (Int.ofNat m)) w:=by
  rcases hu with⟨e,hu,hns⟩|⟨hu,l,b,rfl⟩
  ·cases s<;>simp[lenOf]at hm
   case str l b=>exact(hns l b rfl).elim
   case nsl=>
    have g':act.eval x=.slice none 0 0:=g;subst hm;simp[Builtin.len_,underlying,hu,g',goInt]
   case osl=>obtain⟨p,c,_,g',_⟩:=g;subst hm;simp[Builtin.len_,underlying,hu,g',goInt]
   case esl=>obtain⟨p,g'⟩:=g;subst hm;simp[Builtin.len_,underlying,hu,g',goInt]
   case zsl=>obtain⟨p,c,g'⟩:=g;subst hm;simp[Builtin.len_,underlying,hu,g',goInt]
  ·simp[lenOf]at hm;subst hm;have g':act.eval x=.string (sOf l b):=g.2;simp[Builtin.len_,underlying,hu,g',goInt,Qht]
 simp[execOp,ho,resolve,hc,invoke,builtin,ht,ha,key]
theorem Qph {c:Call} {t e:TypeId} {x:Operand} {y:Od} {s:SV} (ho:o.op=.call c) (hc:c.callee=.builtin .cap) (ht:c.argTypes=#[t]) (ha:c.args=#[x])
 (hu:P.underlying t=some (.slice e)) (hx:od P x=some y) (ex:ev tm y=.one s) (hm:s=.nsl\/s=.esl):
 Sound P val fz tm mu n o (.one (.int .i64 0)) mu n:=by
 refine Qex λρ w act _ hop=>?_;have g:=hop x y (by simp[ho,Op.operands,Call.operands,hc,ha]) hx;rw[ex]at g;refine⟨.int .i64 0,?_,rfl⟩;have key:(Builtin.cap_ #[t] o.type #[act.eval x]).run P w=.ok (.int .i64 0) w:=by
  rcases hm with rfl|rfl
  ·have g':act.eval x=.slice none 0 0:=g;simp[Builtin.cap_,underlying,hu,g',goInt]
  ·obtain⟨p,g'⟩:=g;simp[Builtin.cap_,underlying,hu,g',goInt]
 simp[execOp,ho,resolve,hc,invoke,builtin,ht,ha,key]
end
end Go.Ev
namespace Go.Ev
section
variable {P:Program} {val:Nat->Int} {fz:Fz} {tm:TM} {mu:St} {n:Nat} {o:Oper}
theorem Qu7 (off:Nat):∀(vs:List Value) (j:Nat) (C:Array Value),off+j+vs.length<=C.size->
 ((vs.zipIdx j).foldl (λcs p=>cs.setIfInBounds (off+p.2) p.1) C).toList=C.toList.take (off+j)++vs++C.toList.drop (off+j+vs.length)
 |[],j,C,_=>by simp
 |v::r,j,C,h=>by
  simp only[List.zipIdx_cons,List.foldl_cons];rw[Qu7 off r (j+1) (C.setIfInBounds (off+j) v) (by simp at h⊢;omega)];simp only[Array.toList_setIfInBounds,List.length_cons];have hlt:off+j<C.toList.length:=by simp at h⊢;omega
  have h1:(C.toList.set (off+j) v).take (off+(j+1))=C.toList.take (off+j)++[v]:=by
   rw[show off+(j+1)=off+j+1 by omega,List.take_add_one,List.take_set_of_le (by omega),List.getElem?_set_self hlt];rfl
  have h2:(C.toList.set (off+j) v).drop (off+(j+1)+r.length)=C.toList.drop (off+j+(r.length+1)):=by
   rw[List.drop_set_of_lt (by omega)];congr 1;omega
  rw[h1,h2];simp
theorem foldArr (off:Nat) (vs:List Value) (C:Array Value) (h:off+vs.length<=C.size):
 (vs.toArray.zipIdx.foldl (λcs (p:Value×Nat)=>cs.setIfInBounds (off+p.2) p.1) C).toList=C.toList.take off++(vs++C.toList.drop (off+vs.length)):=by
 have:=Qu7 off vs 0 C (by simpa using h);simp only[Nat.add_zero]at this;rw[<-List.append_assoc,<-this];congr 1;simp[<-Array.foldl_toList]
def PartR (P:Program) (place:Nat->Option (Nat×Nat)) (q:Nat×Nat×Od) (p:Nat×Operand):Prop:=place p.1=some (q.1,q.2.1)/\od P p.2=some q.2.2
theorem Qlc {R:Type} {T:R->Prop} {z:R} (hz:¬T z) {place:Nat->Option (Nat×Nat)}:∀{qs:List (Nat×Nat×Od)} {ps:List (Nat×Operand)} {cs:List SV} {k:List SV->R},All2 (PartR P place) qs ps->T (fill z tm qs cs k)->
 ∃cs',T (k cs')/\∀(ρ:Rho) (w:World) (a:Act) (C:Array Value),All2 (VR val ρ w) cs C.toList->(∀p∈ps,∀y,od P p.2=some y->AVR val ρ w (ev tm y) (a.eval p.2))->
  ∃C',Instr.fill place C (ps.map λp=>(p.1,a.eval p.2))=some C'/\All2 (VR val ρ w) cs' C'.toList
 |[],[],cs,k,_,h=>⟨cs,h,λρ w a C hC _=>⟨C,rfl,hC⟩⟩
 |[],_::_,_,_,hp,_=>hp.elim
 |_::_,[],_,_,hp,_=>hp.elim
 |q::qs,p::ps,cs,k,hp,h=>by
  obtain⟨vs,e1,h1⟩:=Qi5 hz (show T ((ev tm q.2.2).onCells z λvs=>lenK vs 0 λm=>cond (Nat.beq m q.2.1) (cond (Qeq vs) (overK cs q.1 vs z λcs=>fill z tm qs cs k) z) z)from h);rw[Qlb]at h1;obtain⟨h2,h3⟩:=Qew hz h1;obtain⟨h4,h5⟩:=Qew hz h3;obtain⟨h6,h7⟩:=Qjz hz h5;obtain⟨cs',h8,h9⟩:=Qlc hz (ps:=ps) hp.2 h7;refine⟨cs',h8,λρ w a C hC hop=>?_⟩;have hlen:vs.length=q.2.1:=by have:=Qgv h2;omega
  obtain⟨xs,x1,x2,x3⟩:=Qo2 (hop p (by simp) q.2.2 hp.1.2) e1 h4;have hxl:xs.length=vs.length:=x2.length.symm;have hCl:cs.length=C.size:=by have:=hC.length;simpa using this
  have hfold:=foldArr q.1 xs C (by omega);have hnew:All2 (VR val ρ w) (over cs q.1 vs) (xs.toArray.zipIdx.foldl (λcs (p:Value×Nat)=>cs.setIfInBounds (q.1+p.2) p.1) C).toList:=by
   rw[hfold];unfold over;rw[hxl];exact(hC.take _).append (x2.append (hC.drop _))
  obtain⟨C',g1,g2⟩:=h9 ρ w a _ hnew (λp' hp'=>hop p' (by simp[hp']));refine⟨C',?_,g2⟩;simp only[List.map_cons,Instr.fill,hp.1.1,x1];have hc:(decide (xs.toArray.size≠q.2.1)||decide (q.1+xs.toArray.size>C.size))=false:=by
   simp;omega
  simp only[hc,Bool.false_eq_true,if_false];exact g1
theorem Qsj {α β:Type} {f:α->Sem β} {g:α->β} {w:World}:∀{l:List α},(∀x∈l,(f x).run P w=.ok (g x) w)->(l.mapM f).run P w=.ok (l.map g) w
 |[],_=>by simp
 |x::l,h=>by
  have:=Qsj (l:=l) λy hy=>h y (by simp[hy]);simp[List.mapM_cons,h x (by simp),this]
theorem Qpo {fs:Array Field} (sz:Field->Nat) (hsz:∀f∈fs.toList,szOf P f.type=some (sz f)):∀{ps:List (Nat×Operand)} {qs:List (Nat×Nat×Od)},partsOf P fs ps=some qs->
 All2 (PartR P λi=>(fs.map λf=>(f.offset,sz f))[i]?) qs ps
 |[],qs,h=>by simp[partsOf]at h;subst h;trivial
 |(i,x)::r,qs,h=>by
  simp only[partsOf]at h;split at h
  ·rename_i f hf;split at h
   ·rename_i m y l h1 h2 h3;cases h;have hm:f∈fs.toList:=by
     rw[Array.mem_toList_iff];exact Array.mem_of_getElem? hf
    have:=hsz f hm;rw[h1]at this;cases this;exact⟨⟨by simp[hf],h2⟩,Qpo sz hsz h3⟩
   ·cases h
  ·cases h
theorem Qrb {R:Type} {T:R->Prop} {z:R} (hz:¬T z) {t:TypeId} {fs:Array Field} {parts:Array (Nat×Operand)} {zs:List SV} {qs:List (Nat×Nat×Od)} {k:List SV->R} (ho:o.op=.build t parts)
 (hu:P.underlying t=some (.struct fs)) (hzs:zeroOf P t=some zs) (hall:(fs.toList.all λf=>(szOf P f.type).isSome)=true) (hq:partsOf P fs parts.toList=some qs) (h:T (fill z tm qs zs k)):
 ∃cs,T (k cs)/\Sound P val fz tm mu n o (.ag cs) mu n:=by
 have hsz:∀f∈fs.toList,szOf P f.type=some (((szOf P f.type)).getD 0):=λf hf=>by
  have:=(List.all_eq_true.1 hall) f hf;obtain⟨m,hm⟩:=Option.isSome_iff_exists.1 this;rw[hm];rfl
 have hR:=Qpo (λf=>(szOf P f.type).getD 0) hsz hq;obtain⟨cs,h1,h2⟩:=Qlc (val:=val) hz hR h;refine⟨cs,h1,Qex λρ w a _ hop=>?_⟩;obtain⟨v,i,g1,g2,g3,g4,g5⟩:=Qhv hzs;obtain⟨C',e1,e2⟩:=h2 ρ w a v.cells (Qjq g3).1 λp hp y hy=>hop p.2 y (by
  simp only[ho,Op.operands];simpa using⟨p.1,by simpa using hp⟩) hy
 refine⟨.agg C',?_,C'.toList,by simp,e2⟩;have hm:(fs.mapM λf=>do pure (f.offset,<-sizeOf f.type):Sem (Array (Nat×Nat))).run P w=.ok (fs.map λf=>(f.offset,(szOf P f.type).getD 0)) w:=by
  rw[Array.mapM_eq_mapM_toList];have:=Qsj (P:=P) (w:=w) (f:=λf:Field=>Prod.mk f.offset <$> sizeOf f.type) (g:=λf=>(f.offset,(szOf P f.type).getD 0)) (l:=fs.toList) λf hf=>by
   have:=Qg6 (hsz f hf) w;simp[this]
  simp only[bind_pure_comp,Sem.run_map,this,Result.andThen_ok];rw[<-Array.toList_map]
 have e3:Instr.fill (λi=>(fs.map λf=>(f.offset,(szOf P f.type).getD 0))[i]?) v.cells (parts.toList.map λp=>(p.1,a.eval p.2))=some C':=e1;have e4:(parts.map λ(x:Nat×Operand)=>(x.1,a.eval x.2)).toList=parts.toList.map λp=>(p.1,a.eval p.2):=by simp
 simp only[execOp,ho,Instr.build,Sem.run_bind,g5,Result.andThen_ok,underlying,run_program,hu,Sem.run_pure,hm,e4,e3]
theorem Qjr {z:List SV} (m:Nat):(rep z m).length=m*z.length:=by
 induction m with
 |zero=>simp[rep]
 |succ m ih=>simp[rep,ih,Nat.succ_mul];omega
theorem Qx4 {z:List SV} (hz:z.length≠0):∀(m i:Nat),i<m*z.length->(rep z m)[i]?=z[i%z.length]?
 |0,i,h=>by simp at h
 |m+1,i,h=>by
  simp only[rep];by_cases hi:i<z.length
  ·rw[List.getElem?_append_left hi,Nat.mod_eq_of_lt hi]
  ·rw[List.getElem?_append_right (by omega),Qx4 hz m (i-z.length) (by rw[Nat.succ_mul]at h;omega)];rw[Nat.mod_eq_sub_mod (by omega:i>=z.length)]
theorem Qs7 {ρ:Rho} {w:World} {v:Value} {z:List SV} (hz:toSVs v.cells.toList=some z) (h0:z.length≠0) (m c:Nat) (hc:m<=c):
 ∀(i:Nat) s,(rep z m)[i]?=some s->∃x,((Array.range (c*z.length)).map (v.cells[· %v.cells.size]!))[i]?=some x/\VR val ρ w s x:=by
 intro i s hi;have hv:=(Qjq (val:=val) (ρ:=ρ) (w:=w) hz).1;have hl:z.length=v.cells.size:=by have:=hv.length;simpa using this
 have hlt:i<m*z.length:=by
  have:=(List.getElem?_eq_some_iff.1 hi).1;rwa [Qjr]at this
 have hlt2:i<c*z.length:=Nat.lt_of_lt_of_le hlt (Nat.mul_le_mul_right _ hc);rw[Qx4 h0 m i hlt]at hi;obtain⟨x,e,r⟩:=hv.get hi;refine⟨x,?_,r⟩;have hb:i%v.cells.size<v.cells.size:=Nat.mod_lt _ (by omega);rw[hl]at e;have e':v.cells[i%v.cells.size]=x:=by
  have:=List.getElem?_eq_some_iff.1 e;simpa using this.2
 simp[hlt2,hb,e']
theorem Qqw {s:Nat}:∀{ps:List (Nat×Operand)} {qs:List (Nat×Nat×Od)},Qld P s ps=some qs->All2 (PartR P λi=>some (i*s,s)) qs ps
 |[],qs,h=>by simp[Qld]at h;subst h;trivial
 |(i,x)::r,qs,h=>by
  simp only[Qld]at h;split at h
  ·rename_i y l h1 h2;cases h;exact⟨⟨rfl,h1⟩,Qqw h2⟩
  ·cases h
theorem Qql {R:Type} {T:R->Prop} {z:R} (hz:¬T z) {t e:TypeId} {len s:Nat} {parts:Array (Nat×Operand)} {zs:List SV} {qs:List (Nat×Nat×Od)} {k:List SV->R} (ho:o.op=.buildSlice t len parts)
 (hu:P.underlying t=some (.slice e)) (hs:szOf P e=some s) (hs0:s≠0) (hsm:len*s<=65536) (hzs:zeroOf P e=some zs) (hq:Qld P s parts.toList=some qs) (h:T (fill z tm qs (rep zs len) k)):
 ∃cs,T (k cs)/\Sound P val fz tm mu n o (.one (.osl n 0 len len s)) ((n,cs)::mu) (n+1):=by
 obtain⟨cs,h1,h2⟩:=Qlc (val:=val) hz (Qqw hq) h;refine⟨cs,h1,Qft (Nat.le_succ _) λρ w a hr hop hf=>?_⟩;obtain⟨v,i,g1,g2,g3,g4,g5⟩:=Qhv hzs;have hsi:s=i.size:=by unfold szOf at hs;rw[g1]at hs;simp at hs;exact hs.symm
 have hzl:zs.length=s:=by rw[g4,hsi]
 generalize hC0:(Array.range (len*s)).map (v.cells[· %v.cells.size]!)=C0;have hstart:All2 (VR val ρ w) (rep zs len) C0.toList:=by
  refine All2.Qlq (by rw[<-hC0];simp[Qjr,hzl]) λj a b ha hb=>?_;obtain⟨x,e1,r⟩:=Qs7 (val:=val) (ρ:=ρ) (w:=w) g3 (by omega) len len (Nat.le_refl _) j a ha;rw[hzl,hC0]at e1;have:C0.toList[j]?=some x:=by simpa using e1
  rw[this]at hb;cases hb;exact r
 obtain⟨C',e1,e2⟩:=h2 ρ w a C0 hstart λp hp y hy=>hop p.2 y (by
  simp only[ho,Op.operands];simpa using⟨p.1,by simpa using hp⟩) hy
 have hCl:cs.length=C'.size:=by have:=e2.length;simpa using this
 have hszr:=Qg6 hs w;have hrun:(execOp a.eval o).run P w=.ok (.value (.slice (some ⟨w.heap.size,0,none⟩) len len)) (w.alloc (.cells C' e)):=by
  have e4:(parts.map λ(x:Nat×Operand)=>(x.1,a.eval x.2)).toList=parts.toList.map λp=>(p.1,a.eval p.2):=by simp
  have hlim:¬len*s>2^24:=by omega
  by_cases hl0:len*s=0
  ·have hC00:C0=#[]:=by rw[<-hC0,hl0];simp[Array.range_zero']
   simp only[execOp,ho,Instr.buildSlice,Sem.run_bind,underlying,run_program,hu,Result.andThen_ok,Sem.run_pure,hszr,hlim,hl0,if_true,Nat.lt_irrefl,gt_iff_lt,e4];have e5:Instr.fill (λi=>some (i*s,s)) #[] (parts.toList.map λp=>(p.1,a.eval p.2))=some C':=by rw[<-e1,hC00]
   simp[Array.range_zero',e5,newRow]
  ·simp only[execOp,ho,Instr.buildSlice,Sem.run_bind,underlying,run_program,hu,Result.andThen_ok,Sem.run_pure,hszr,hlim,hl0,if_false,e4,g5,hC0,e1];simp[newRow]
 have hn:=hf n (Nat.le_refl _) (Nat.lt_succ_self _);obtain⟨b1,b2,b3,b4,b5,b6⟩:=Qhd (ty:=e) (Like.refl w) hr hn (C:=C') (by omega) (λi s hi=>let⟨x,ex,rx⟩:=e2.get hi;⟨x,by simpa using ex,rx⟩);have hlb:len<=65536:=by
  have:len*1<=len*s:=Nat.mul_le_mul_left _ (by omega);omega
 refine⟨_,_,.inl hrun,_,b1,b2,⟨(w.heap.size,0),len,upd_same _ _ _,rfl,Nat.le_refl _,Nat.le_refl _,?_,by omega⟩,b3,b4,b5⟩;rw[b6];have:C'.size=len*s:=by
  have hl:(rep zs len).length=C0.size:=by have:=hstart.length;simpa using this
  have hfl:∀(ps:List (Nat×Value)) (C D:Array Value),Instr.fill (λi=>some (i*s,s)) C ps=some D->D.size=C.size:=by
   intro ps;induction ps with
   |nil=>intro C D h;simp[Instr.fill]at h;rw[h]
   |cons p r ih=>
    intro C D h;simp only[Instr.fill]at h;split at h
    ·cases h
    ·rw[ih _ _ h];have:∀(l:List (Value×Nat)) (C:Array Value),(l.foldl (λcs p'=>cs.setIfInBounds (p.1*s+p'.2) p'.1) C).size=C.size:=by
      intro l;induction l with
      |nil=>simp
      |cons q t ih2=>intro C;simp[ih2]
     simp only[<-Array.foldl_toList];exact this _ _
  rw[hfl _ _ _ e1,<-hl,Qjr,hzl]
 simp[this]
theorem Qq5 {need bytes:Nat} (h:fits need bytes=true):need<=140737488355328/\need*bytes<=140737488355328/\(need=0\/bytes<=137438953472/\(need*bytes<=137438953472\/bytes<=65536)):=by
 have hr:roomy=137438953472:=rfl;unfold fits at h;cases e1:Nat.ble (Nat.mul need (Nat.succ bytes)) roomy with
 |true=>
  have h1:need*(bytes+1)<=roomy:=Nat.le_of_ble_eq_true e1;have h2:need*1<=need*(bytes+1):=Nat.mul_le_mul_left _ (by omega);have h3:need*bytes<=need*(bytes+1):=Nat.mul_le_mul_left _ (by omega);refine⟨by omega,by omega,?_⟩;by_cases h0:need=0
  ·exact .inl h0
  ·have:1*(bytes+1)<=need*(bytes+1):=Nat.mul_le_mul_right _ (by omega);exact .inr ⟨by omega,.inl (by omega)⟩
 |false=>
  rw[e1]at h;cases e2:Nat.ble (Nat.mul need bytes) 140737488355328 with
  |false=>rw[e2]at h;cases h
  |true=>
   rw[e2]at h;cases e3:Nat.ble 1 bytes with
   |false=>rw[e3]at h;cases h
   |true=>
    rw[e3]at h;have h4:bytes<=65536:=Nat.le_of_ble_eq_true h;have h5:1<=bytes:=Nat.le_of_ble_eq_true e3;have h6:need*bytes<=140737488355328:=Nat.le_of_ble_eq_true e2;have h7:need*1<=need*bytes:=Nat.mul_le_mul_left _ h5;exact⟨by omega,h6,.inr ⟨by omega,.inr h4⟩⟩
theorem Qox {t e:TypeId} {l c:Operand} {l' c':Od} {s b:Nat} {zs:List SV} {x y:Int} (ho:o.op=.makeSlice t l c) (hu:P.underlying t=some (.slice e)) (hs:szOf P e=some s) (hs0:s≠0) (hb:byOf P e=some b)
 (hzs:zeroOf P e=some zs) (hl:od P l=some l') (hc:od P c=some c') (el:ev tm l'=.one (.int .i64 x)) (ec:ev tm c'=.one (.int .i64 y)) (h0:¬x<0) (h1:¬y<x) (h2:fits y.toNat b=true):
 Sound P val fz tm mu n o (.one (.osl n 0 x.toNat x.toNat s)) ((n,rep zs x.toNat)::mu) (n+1):=by
 refine Qft (Nat.le_succ _) λρ w a hr hop hf=>?_;have gl:=hop l l' (by simp[ho,Op.operands]) hl;have gc:=hop c c' (by simp[ho,Op.operands]) hc;rw[el]at gl;rw[ec]at gc;have gl':a.eval l=.int .i64 x:=gl;have gc':a.eval c=.int .i64 y:=gc;obtain⟨v,i,g1,g2,g3,g4,g5⟩:=Qhv hzs;have hsi:s=i.size:=by unfold szOf at hs;rw[g1]at hs;simp at hs;exact hs.symm
 have hbi:b=i.bytes:=by unfold byOf at hb;rw[g1]at hb;simp at hb;exact hb.symm
 have hzl:zs.length=s:=by rw[g4,hsi]
 obtain⟨hyb,hbb,_⟩:=Qq5 h2;have wx:IntKind.i64.wrap x=x:=by simp[IntKind.wrap,IntKind.bits,IntKind.signed];omega
 have wy:IntKind.i64.wrap y=y:=by simp[IntKind.wrap,IntKind.bits,IntKind.signed];omega
 have hszr:=Qg6 hs w;generalize hC0:(Array.range (y.toNat*s)).map (v.cells[· %v.cells.size]!)=C0;have hC0s:C0.size=y.toNat*s:=by rw[<-hC0];simp
 have hprod:(b:Int)*y=((y.toNat*b:Nat):Int):=by
  have:y=(y.toNat:Int):=by omega
  rw[this];simp[Int.mul_comm]
 have t1:(decide (y<0)||decide ((b:Int)*y>2^48))=false:=by
  have h3:¬(b:Int)*y>2^48:=by
   rw[hprod];have:((y.toNat*b:Nat):Int)<=((140737488355328:Nat):Int):=Int.ofNat_le.2 hbb;generalize ((y.toNat*b:Nat):Int)=q at this;omega
  have h4:¬y<0:=by omega
  simp only[h3,h4,decide_false,Bool.or_false]
 have hrun:(execOp a.eval o).run P w=.ok (.value (.slice (some ⟨w.heap.size,0,none⟩) x.toNat y.toNat)) (w.alloc (.cells C0 e)):=by
  have hcond:((decide (y<0)||decide ((b:Int)*y>2^48))||decide (x<0)||decide (x>y))=false:=by
   rw[t1];simp;omega
  by_cases hz0:y.toNat*s=0
  ·have hC00:C0=#[]:=by rw[<-hC0,hz0];simp[Array.range_zero']
   rw[hC00];simp only[execOp,ho,Instr.makeSlice,Sem.run_bind,underlying,run_program,hu,Result.andThen_ok,Sem.run_pure,gl',gc',asInt,asIntOf,typeInfo,g1,<-hbi,wx,wy];simp only[hcond,Bool.false_eq_true,if_false,Sem.run_bind,run_askRoom,Result.andThen_ok,hszr,hz0,if_true,Sem.run_pure,Sem.run_pure'];simp[newRow,Array.range_zero']
  ·simp only[execOp,ho,Instr.makeSlice,Sem.run_bind,underlying,run_program,hu,Result.andThen_ok,Sem.run_pure,gl',gc',asInt,asIntOf,typeInfo,g1,<-hbi,wx,wy];simp only[hcond,Bool.false_eq_true,if_false,Sem.run_bind,run_askRoom,Result.andThen_ok,hszr,hz0,Sem.run_pure,Sem.run_pure',g5,hC0];simp[newRow]
 have hn:=hf n (Nat.le_refl _) (Nat.lt_succ_self _);have hle:x.toNat<=y.toNat:=by omega
 obtain⟨b1,b2,b3,b4,b5,b6⟩:=Qhd (ty:=e) (Like.refl w) hr hn (cs:=rep zs x.toNat) (C:=C0) (by rw[Qjr,hzl,hC0s];exact Nat.mul_le_mul_right _ hle)
  (λi s' hi=>by
   obtain⟨q,e1,r⟩:=Qs7 (val:=val) (ρ:=ρ) (w:=w) g3 (by omega) x.toNat y.toNat hle i s' hi;rw[hzl,hC0]at e1;exact⟨q,e1,r⟩)
 refine⟨_,_,.inl hrun,_,b1,b2,⟨(w.heap.size,0),y.toNat,upd_same _ _ _,rfl,Nat.le_refl _,hle,?_,by omega⟩,b3,b4,b5⟩;rw[b6,hC0s];simp
theorem Qqa {R:Type} {T:R->Prop} {z:R} (hz:¬T z) {orc:Orc R} (hk:OrcOk T val orc):∀{l:List AV} {a:SV} {k:SV->R},T (maxK orc z l a k)->
 ∃r,T (k r)/\∀(ρ:Rho) (w:World) (va:Value) (vs:List Value),VR val ρ w a va->All2 (AVR val ρ w) l vs->∃vr,(vs.foldlM Builtin.max2 va).run P w=.ok vr w/\VR val ρ w r vr
 |[],a,k,h=>⟨a,h,λρ w va vs ha hv=>by cases vs with|nil=>exact⟨va,rfl,ha⟩|cons _ _=>exact hv.elim⟩
 |x::l,a,k,h=>by
  obtain⟨b,e1,h1⟩:=Qes hz (show T (x.onOne z λb=>ltS orc z a b λt=>cond t (maxK orc z l b k) (maxK orc z l a k))from h);obtain⟨kd,u,v,i1,i2,h2⟩:=Qsl hz hk h1;have h3:T (maxK orc z l (if u<v then b else a) k):=by
   by_cases hab:u<v
   ·simpa[hab]using h2
   ·simpa[hab]using h2
  obtain⟨r,h4,h5⟩:=Qqa hz hk h3;refine⟨r,h4,λρ w va vs ha hv=>?_⟩;cases vs with
  |nil=>exact hv.elim
  |cons vb vs=>
   have hb:=hv.1;rw[e1]at hb;have g1:=i1.eval (ρ:=ρ) (w:=w) (show AVR val ρ w (.one a) va from ha);have g2:=i2.eval (ρ:=ρ) (w:=w) (show AVR val ρ w (.one b) vb from hb);have hb':VR val ρ w b vb:=hb;subst g1;subst g2;simp only[List.foldlM_cons,Sem.run_bind,Builtin.max2,Sem.run_pure,Result.andThen_ok];refine h5 ρ w _ vs ?_ hv.2;by_cases hab:u<v
   ·simpa[hab]using hb'
   ·simpa[hab]using ha
theorem Qpx {R:Type} {T:R->Prop} {z:R} (hz:¬T z) {orc:Orc R} (hk:OrcOk T val orc):∀{l:List AV} {a:SV} {k:SV->R},T (minK orc z l a k)->
 ∃r,T (k r)/\∀(ρ:Rho) (w:World) (va:Value) (vs:List Value),VR val ρ w a va->All2 (AVR val ρ w) l vs->∃vr,(vs.foldlM Builtin.min2 va).run P w=.ok vr w/\VR val ρ w r vr
 |[],a,k,h=>⟨a,h,λρ w va vs ha hv=>by cases vs with|nil=>exact⟨va,rfl,ha⟩|cons _ _=>exact hv.elim⟩
 |x::l,a,k,h=>by
  obtain⟨b,e1,h1⟩:=Qes hz (show T (x.onOne z λb=>ltS orc z b a λt=>cond t (minK orc z l b k) (minK orc z l a k))from h);obtain⟨kd,u,v,i1,i2,h2⟩:=Qsl hz hk h1;have h3:T (minK orc z l (if u<v then b else a) k):=by
   by_cases hab:u<v
   ·simpa[hab]using h2
   ·simpa[hab]using h2
  obtain⟨r,h4,h5⟩:=Qpx hz hk h3;refine⟨r,h4,λρ w va vs ha hv=>?_⟩;cases vs with
  |nil=>exact hv.elim
  |cons vb vs=>
   have hb:=hv.1;rw[e1]at hb;have g1:=i1.eval (ρ:=ρ) (w:=w) (show AVR val ρ w (.one b) vb from hb);have g2:=i2.eval (ρ:=ρ) (w:=w) (show AVR val ρ w (.one a) va from ha);have hb':VR val ρ w b vb:=hb;subst g1;subst g2;simp only[List.foldlM_cons,Sem.run_bind,Builtin.min2,Sem.run_pure,Result.andThen_ok];refine h5 ρ w _ vs ?_ hv.2;by_cases hab:u<v
   ·simpa[hab]using hb'
   ·simpa[hab]using ha
theorem ods_R {ρ:Rho} {w:World} {a:Act}:∀{xs:List Operand} {ys:List Od},ods P xs=some ys->(∀x y,x∈xs->od P x=some y->AVR val ρ w (ev tm y) (a.eval x))->All2 (AVR val ρ w) (ys.map (ev tm)) (xs.map a.eval)
 |[],ys,h,_=>by simp[ods]at h;subst h;trivial
 |x::r,ys,h,hop=>by
  simp only[ods]at h;split at h
  ·rename_i y l h1 h2;cases h;exact⟨hop x y (by simp) h1,ods_R h2 λx y hx hy=>hop x y (by simp[hx]) hy⟩
  ·cases h
theorem Qxv {R:Type} {T:R->Prop} {z:R} (hz:¬T z) {orc:Orc R} (hk:OrcOk T val orc) {c:Call} {y:Od} {ys:List Od} {a:SV} {k:SV->R} (ho:o.op=.call c) (hc:c.callee=.builtin .max) (hx:ods P c.args.toList=some (y::ys))
 (ex:ev tm y=.one a) (h:T (maxK orc z (ys.map (ev tm)) a k)):∃r,T (k r)/\Sound P val fz tm mu n o (.one r) mu n:=by
 obtain⟨r,h1,h2⟩:=Qqa (P:=P) (val:=val) hz hk h;refine⟨r,h1,Qex λρ w act _ hop=>?_⟩;have hR:=ods_R (val:=val) (tm:=tm) (a:=act) hx λx y hx' hy=>hop x y (by simp[ho,Op.operands,Call.operands,hc];exact Array.mem_toList_iff.1 hx') hy;have key:∃vr,(Builtin.max_ c.argTypes o.type (c.args.map act.eval)).run P w=.ok vr w/\VR val ρ w r vr:=by
  unfold Builtin.max_;rw[Array.toList_map];generalize c.args.toList.map act.eval=vs at hR⊢;cases vs with
  |nil=>exact hR.elim
  |cons v vs=>
   have h3:=hR.1;rw[ex]at h3;exact h2 ρ w v vs h3 hR.2
 obtain⟨vr,key,hvr⟩:=key;exact⟨vr,by simp[execOp,ho,resolve,hc,invoke,builtin,key],hvr⟩
theorem Qxb {R:Type} {T:R->Prop} {z:R} (hz:¬T z) {orc:Orc R} (hk:OrcOk T val orc) {c:Call} {y:Od} {ys:List Od} {a:SV} {k:SV->R} (ho:o.op=.call c) (hc:c.callee=.builtin .min) (hx:ods P c.args.toList=some (y::ys))
 (ex:ev tm y=.one a) (h:T (minK orc z (ys.map (ev tm)) a k)):∃r,T (k r)/\Sound P val fz tm mu n o (.one r) mu n:=by
 obtain⟨r,h1,h2⟩:=Qpx (P:=P) (val:=val) hz hk h;refine⟨r,h1,Qex λρ w act _ hop=>?_⟩;have hR:=ods_R (val:=val) (tm:=tm) (a:=act) hx λx y hx' hy=>hop x y (by simp[ho,Op.operands,Call.operands,hc];exact Array.mem_toList_iff.1 hx') hy;have key:∃vr,(Builtin.min_ c.argTypes o.type (c.args.map act.eval)).run P w=.ok vr w/\VR val ρ w r vr:=by
  unfold Builtin.min_;rw[Array.toList_map];generalize c.args.toList.map act.eval=vs at hR⊢;cases vs with
  |nil=>exact hR.elim
  |cons v vs=>
   have h3:=hR.1;rw[ex]at h3;exact h2 ρ w v vs h3 hR.2
 obtain⟨vr,key,hvr⟩:=key;exact⟨vr,by simp[execOp,ho,resolve,hc,invoke,builtin,key],hvr⟩
end
end Go.Ev
namespace Go.Ev
section
variable {P:Program} {val:Nat->Int} {fz:Fz} {tm:TM} {mu:St} {n:Nat} {o:Oper}
def Qoh (x:Option Value) (d m:Nat):Prop:=(x=none/\m=d)\/∃k i,x=some (.int k i)/\¬i<0/\m=i.toNat
theorem Qo6 {ρ:Rho} {w:World} {a:Act} {x:Option Operand} {y:Option Od} {d m:Nat} (hy:odO P x=some y) (hop:∀u v,x=some u->od P u=some v->AVR val ρ w (ev tm v) (a.eval u))
 (hm:bound (y.map (ev tm)) d=some m):Qoh (x.map a.eval) d m:=by
 cases x with
 |none=>
  simp[odO]at hy;subst hy;simp[bound]at hm;exact .inl ⟨rfl,hm.symm⟩
 |some u=>
  simp only[odO]at hy;cases hu:od P u with
  |none=>rw[hu]at hy;cases hy
  |some v=>
   rw[hu]at hy;simp at hy;subst hy;have g:=hop u v rfl hu;simp only[Option.map_some,bound]at hm;split at hm
   ·rename_i h;cases h
   ·rename_i k i h;have e:ev tm v=.one (.int k i):=Option.some.inj h;rw[e]at g;have g':a.eval u=.int k i:=g;split at hm
    ·cases hm
    ·rename_i h0;cases hm;exact .inr ⟨k,i,by simp[g'],h0,rfl⟩
   ·cases hm
theorem Qfn {w:World} {k:IntKind} {i:Int} {y:Nat} (code:BoundsCode) (h0:¬i<0) (h1:i.toNat<=y):(Instr.sliceBound (.int k i) y code).run P w=.ok i.toNat w:=by
 have:0<=i/\i<=(y:Int):=by omega
 simp[Instr.sliceBound,asIntOf,this]
theorem Qgb {w:World} {b:Bool} {len cap l h m:Nat} {lo hi mx:Option Value} (hm:Qoh mx cap m) (hh:Qoh hi len h) (hl:Qoh lo 0 l) (c1:m<=cap) (c2:h<=m) (c3:l<=h) (hmx:mx.isSome=true->hi.isSome=true):
 (Instr.sliceBounds b len cap lo hi mx).run P w=.ok (l,h,m) w:=by
 rcases hm with⟨rfl,rfl⟩|⟨km,im,rfl,m0,rfl⟩
 ·rcases hh with⟨rfl,rfl⟩|⟨kh,ih,rfl,h0,rfl⟩
  ·rcases hl with⟨rfl,rfl⟩|⟨kl,il,rfl,l0,rfl⟩
   ·simp[Instr.sliceBounds]
   ·simp[Instr.sliceBounds,Qfn _ l0 c3]
  ·rcases hl with⟨rfl,rfl⟩|⟨kl,il,rfl,l0,rfl⟩
   ·simp[Instr.sliceBounds,Qfn _ h0 c2]
   ·simp[Instr.sliceBounds,Qfn _ h0 c2,Qfn _ l0 c3]
 ·rcases hh with⟨rfl,rfl⟩|⟨kh,ih,rfl,h0,rfl⟩
  ·simp at hmx
  ·rcases hl with⟨rfl,rfl⟩|⟨kl,il,rfl,l0,rfl⟩
   ·simp[Instr.sliceBounds,Qfn _ m0 c1,Qfn _ h0 c2]
   ·simp[Instr.sliceBounds,Qfn _ m0 c1,Qfn _ h0 c2,Qfn _ l0 c3]
theorem Qqv {t:TypeId} {s:Nat} {x:Operand} {lo hi mx:Option Operand} {x':Od} {lo' hi' mx':Option Od} {sv r:SV} (ho:o.op=.slice t x lo hi mx)
 (hu:(∃e,P.underlying t=some (.slice e)/\szOf P e=some s/\∀l b,sv≠.str l b)\/P.underlying t=some .string/\(∃l b,sv=.str l b)) (hmx:mx.isSome=true->hi.isSome=true)
 (hx:od P x=some x') (hlo:odO P lo=some lo') (hhi:odO P hi=some hi') (hmx':odO P mx=some mx') (ex:ev tm x'=.one sv)
 (hr:Qgl s sv (lo'.map (ev tm)) (hi'.map (ev tm)) (mx'.map (ev tm))=some r):Sound P val fz tm mu n o (.one r) mu n:=by
 refine Qex λρ w a _ hop=>?_;have g:=hop x x' (by simp[ho,Op.operands]) hx;rw[ex]at g;have ol:∀u v,lo=some u->od P u=some v->AVR val ρ w (ev tm v) (a.eval u):=λu v hu hv=>hop u v (by simp[ho,Op.operands,hu]) hv;have oh:∀u v,hi=some u->od P u=some v->AVR val ρ w (ev tm v) (a.eval u):=λu v hu hv=>hop u v (by simp[ho,Op.operands,hu]) hv;have om:∀u v,mx=some u->od P u=some v->AVR val ρ w (ev tm v) (a.eval u):=λu v hu hv=>hop u v (by simp[ho,Op.operands,hu]) hv;have bl:=λd m h=>Qo6 (P:=P) (val:=val) (ρ:=ρ) (w:=w) (a:=a) (d:=d) (m:=m) hlo ol h;have bh:=λd m h=>Qo6 (P:=P) (val:=val) (ρ:=ρ) (w:=w) (a:=a) (d:=d) (m:=m) hhi oh h;have bm:=λd m h=>Qo6 (P:=P) (val:=val) (ρ:=ρ) (w:=w) (a:=a) (d:=d) (m:=m) hmx' om h;have mnone:mx'.map (ev tm)=none->mx.map a.eval=none:=λh=>by
  cases mx with
  |none=>rfl
  |some u=>
   simp only[odO]at hmx';cases hu:od P u with
   |none=>rw[hu]at hmx';cases hmx'
   |some v=>rw[hu]at hmx';simp at hmx';subst hmx';simp at h
 have hms:(mx.map a.eval).isSome=true->(hi.map a.eval).isSome=true:=by simpa using hmx
 have goal:∀v,(Instr.slice t (a.eval x) (lo.map a.eval) (hi.map a.eval) (mx.map a.eval)).run P w=.ok v w->(∀k e,P.underlying t≠some (.array k e))->(execOp a.eval o).run P w=.ok (.value v) w:=by
  intro v hv hna;have:(Instr.sliceAt t (a.eval x) (lo.map a.eval) (hi.map a.eval) (mx.map a.eval)).run P w=.ok v w:=by
   unfold Instr.sliceAt;cases hut:P.underlying t with
   |none=>rcases hu with⟨e,h,_⟩|⟨h,_⟩<;>rw[hut]at h<;>cases h
   |some d=>
    simp only[Sem.run_bind,underlying,run_program,hut,Result.andThen_ok,Sem.run_pure];cases d<;>first|exact hv|exact(hna _ _ hut).elim
  simp[execOp,ho,this]
 rcases hu with⟨e,hu,hs,hns⟩|⟨hu,sl,b,rfl⟩
 ·have hna:∀k e',P.underlying t≠some (.array k e'):=λk e' h=>by rw[hu]at h;cases h
  have hsz:=Qg6 hs w;cases sv with
  |str l b=>exact(hns l b rfl).elim
  |nsl=>
   simp only[Qgl]at hr;split at hr
   ·rename_i h1 h2 h3;cases hr;have g':a.eval x=.slice none 0 0:=g;have hb:=Qgb (P:=P) (w:=w) (b:=true) (bm 0 0 h1) (bh 0 0 h2) (bl 0 0 h3) (Nat.le_refl _) (Nat.le_refl _) (Nat.le_refl _) hms;exact⟨.slice none 0 0,goal _ (by simp[Instr.slice,underlying,hu,g',hb,hsz]) hna,rfl⟩
   ·cases hr
  |esl=>
   simp only[Qgl]at hr;split at hr
   ·rename_i h1 h2 h3;cases hr;obtain⟨ad,g'⟩:=g;have hb:=Qgb (P:=P) (w:=w) (b:=true) (bm 0 0 h1) (bh 0 0 h2) (bl 0 0 h3) (Nat.le_refl _) (Nat.le_refl _) (Nat.le_refl _) hms;exact⟨.slice (some ad) 0 0,goal _ (by simp[Instr.slice,underlying,hu,g',hb,hsz]) hna,ad,rfl⟩
   ·cases hr
  |osl id off len cap s'=>
   simp only[Qgl]at hr;split at hr
   ·cases hr
   ·rename_i hs';have hss:s'=s:=by simpa using hs'
    subst hss;obtain⟨p,c,hp,g',q1,q2,q3,q4⟩:=g;split at hr
    ·rename_i h l hh hl;split at hr
     ·cases hr
     ·rename_i hcap;have hcap':h<=cap/\l<=h:=by simpa using hcap
      split at hr
      ·rename_i hmn;have hmn':mx.map a.eval=none:=mnone (by assumption);have hb:=Qgb (P:=P) (w:=w) (b:=true) (len:=len) (cap:=c) (m:=c) (.inl ⟨hmn',rfl⟩) (bh len h hh) (bl 0 l hl) (Nat.le_refl _) (by omega) hcap'.2 hms;split at hr
       ·rename_i hl0;cases hr;have hl0':l<cap\/l=0:=by
         rcases Bool.or_eq_true _ _▸hl0 with h|h
         ·exact .inl (by simpa[Nat.blt_eq]using h)
         ·exact .inr (Qgv h)
        have haddr:(if c=l then(some ⟨p.1,p.2+off,none⟩:Option Addr)else(some ⟨p.1,p.2+off,none⟩:Option Addr).map (·.add (l*s')))=some ⟨p.1,p.2+(off+l*s'),none⟩:=by
         split
         ·have:l=0:=by omega
          subst this;simp
         ·simp[addr_add,Nat.add_assoc]
        refine⟨.slice (some ⟨p.1,p.2+(off+l*s'),none⟩) (h-l) (c-l),goal _ ?_ hna,p,c-l,hp,rfl,by omega,by omega,?_,by omega⟩
        ·simp only[Instr.slice,Sem.run_bind,underlying,run_program,hu,Result.andThen_ok,Sem.run_pure,g',hb,hsz,haddr]
        ·have:(c-l)*s'+l*s'=c*s':=by rw[<-Nat.add_mul];congr 1;omega
         omega
       ·rename_i hl0;cases hr;have hl0':¬(l<cap\/l=0):=by
         intro hc;apply hl0;rw[Bool.or_eq_true];rcases hc with h|h
         ·exact .inl (by simpa[Nat.blt_eq]using h)
         ·exact .inr (by subst h;rfl)
        have hhl:h-l=0:=by omega
        refine⟨.slice (if c=l then(some ⟨p.1,p.2+off,none⟩:Option Addr)else(some ⟨p.1,p.2+off,none⟩:Option Addr).map (·.add (l*s'))) 0 (c-l),goal _ ?_ hna,?_⟩
        ·simp only[Instr.slice,Sem.run_bind,underlying,run_program,hu,Result.andThen_ok,Sem.run_pure,g',hb,hsz,hhl]
        ·by_cases hcl:c=l
         ·exact⟨⟨p.1,p.2+off,none⟩,c-l,by simp[hcl]⟩
         ·exact⟨(⟨p.1,p.2+off,none⟩:Addr).add (l*s'),c-l,by simp[hcl]⟩
      ·rename_i mv hmv;split at hr
       ·rename_i m hbm;split at hr
        ·cases hr
        ·rename_i hmc;have hmc':m<=cap/\h<=m:=by simpa using hmc
         have hb:=Qgb (P:=P) (w:=w) (b:=true) (len:=len) (cap:=c) (m:=m) (by
          have:=bm 0 m (by rw[hmv];exact hbm);rcases this with⟨hn,_⟩|h
          ·exfalso
           cases mx with
           |none=>simp[odO]at hmx';subst hmx';cases hmv
           |some u=>cases hn
          ·exact .inr h) (bh len h hh) (bl 0 l hl) (by omega) hmc'.2 hcap'.2 hms
         split at hr
         ·rename_i hml;cases hr;have hml':m=l:=Qgv hml;have hhl:h-l=0:=by omega
          refine⟨.slice (some ⟨p.1,p.2+off,none⟩) 0 0,goal _ ?_ hna,_,rfl⟩;simp only[Instr.slice,Sem.run_bind,underlying,run_program,hu,Result.andThen_ok,Sem.run_pure,g',hb,hsz,hhl,hml',if_true,Nat.sub_self]
         ·rename_i hml;cases hr;have hml':¬m=l:=λe=>hml (by subst e;exact Nat.beq_refl m);refine⟨.slice (some ⟨p.1,p.2+(off+l*s'),none⟩) (h-l) (m-l),goal _ ?_ hna,p,m-l,hp,rfl,by omega,Nat.le_refl _,?_,by omega⟩
          ·simp only[Instr.slice,Sem.run_bind,underlying,run_program,hu,Result.andThen_ok,Sem.run_pure,g',hb,hsz,hml',if_false,Option.map_some,addr_add,Nat.add_assoc]
          ·have h1:(m-l)*s'+l*s'=m*s':=by rw[<-Nat.add_mul];congr 1;omega
           have h2:m*s'<=c*s':=Nat.mul_le_mul_right _ (by omega);omega
       ·cases hr
    ·cases hr
  |_=>simp[Qgl]at hr
 ·have hna:∀k e',P.underlying t≠some (.array k e'):=λk e' h=>by rw[hu]at h;cases h
  have g':a.eval x=.string (sOf sl b):=g.2;simp only[Qgl]at hr;split at hr
  ·cases hr
  ·rename_i hmn;have hmn':mx.map a.eval=none:=mnone (by assumption);split at hr
   ·rename_i h l hh hl;split at hr
    ·rename_i hc;have hc':h<=sl/\l<=h:=by simpa using hc
     cases hr;have hb:=Qgb (P:=P) (w:=w) (b:=false) (len:=(sOf sl b).size) (cap:=(sOf sl b).size) (mx:=none) (m:=(sOf sl b).size) (.inl ⟨rfl,rfl⟩) (by rw[Qht];exact bh sl h hh) (bl 0 l hl) (Nat.le_refl _) (by rw[Qht];exact hc'.1) hc'.2 (by simp);have hex:(sOf sl b).extract l h=sOf (h-l) (b/256^(sl-h)%256^(h-l)):=by
      apply ByteArray.ext;apply Array.ext';rw[ByteArray.data_extract,Array.toList_extract];show((sB sl b).drop l).take (h-l)=sB _ _;exact sB_slice hc'.1 hc'.2 b
     exact⟨.string ((sOf sl b).extract l h),goal _ (by rw[hmn'];simp[Instr.slice,underlying,hu,g',hb]) hna,Nat.mod_lt _ (Nat.pow_pos (by decide)),by rw[hex]⟩
    ·cases hr
   ·cases hr
def SrcOk (P:Program) (val:Nat->Int) (fz:Fz) (mu:St) (s:Nat) (x:SV) (src:List SV) (cnt:Nat):Prop:=
 src.length=cnt*s/\∀(ρ:Rho) (w:World) (v:Value),Rel val ρ fz mu w->VR val ρ w x v->(∀w1,(Builtin.lenOf v).run P w1=.ok cnt w1)/\((∃a l c,v=.slice a l c)\/∃b,v=.string b)/\
  ∃news:List Value,All2 (VR val ρ w) src news/\∀m,m<=cnt->∀w1,Like w w1->(Builtin.firstCells s m v).run P w1=.ok (news.take (m*s)).toArray w1
theorem Qpj {R:Type} {T:R->Prop} {z:R} (hz:¬T z) {s:Nat} {x:SV} {k:List SV->Nat->R} (h:T (srcK fz mu s x z k)):∃src cnt,SrcOk P val fz mu s x src cnt/\T (k src cnt):=by
 cases x with
 |un=>exact(hz h).elim
 |int=>exact(hz h).elim
 |bool=>exact(hz h).elim
 |npt=>exact(hz h).elim
 |nfn=>exact(hz h).elim
 |optr=>exact(hz h).elim
 |fn=>exact(hz h).elim
 |sym=>exact(hz h).elim
 |nmp=>exact(hz h).elim
 |mp=>exact(hz h).elim
 |nif=>exact(hz h).elim
 |mk=>exact(hz h).elim
 |str l b=>
  obtain⟨h1,h2⟩:=Qew hz (show T (cond (Nat.beq s 1) (digK l b [] λr=>k r l) z)from h);have hs:s=1:=Qgv h1;subst hs;rw[Qrx,List.append_nil]at h2;refine⟨Qlw (sB l b),l,⟨by simp[Qlw,Qfx],λρ w v hr hv=>?_⟩,h2⟩;obtain⟨_,rfl⟩:=hv;refine⟨λw1=>by simp[Builtin.lenOf,Qht],.inr ⟨_,rfl⟩,(sB l b).map (λx=>.int .u8 x.toNat),?_,λm hm w1 _=>?_⟩
  ·refine All2.Qlq (by simp[Qlw]) λi a c ha hc=>?_;simp only[Qlw,List.getElem?_map,Option.map_eq_some_iff]at ha hc;obtain⟨u,hu,rfl⟩:=ha;obtain⟨u',hu',rfl⟩:=hc;rw[hu]at hu';cases hu';rfl
  ·simp only[Builtin.firstCells,Sem.run_pure,Nat.mul_one];congr 1;apply Array.ext';simp[sOf,List.map_take]
 |nsl=>exact⟨[],0,⟨by simp,λρ w v hr hv=>by
  have hv':v=.slice none 0 0:=hv;subst hv';exact⟨λw1=>by simp[Builtin.lenOf],.inl ⟨_,_,_,rfl⟩,[],trivial,λm hm w1 _=>by simp[Builtin.firstCells]⟩⟩,h⟩
 |esl=>exact⟨[],0,⟨by simp,λρ w v hr hv=>by
  obtain⟨a,rfl⟩:=hv;refine⟨λw1=>by simp[Builtin.lenOf],.inl ⟨_,_,_,rfl⟩,[],trivial,λm hm w1 _=>?_⟩;have:m=0:=by omega
  subst this;simp[Builtin.firstCells,loadCells,loadCellsFrom]⟩,h⟩
 |zsl=>exact⟨[],0,⟨by simp,λρ w v hr hv=>by
  obtain⟨a,c,rfl⟩:=hv;refine⟨λw1=>by simp[Builtin.lenOf],.inl ⟨_,_,_,rfl⟩,[],trivial,λm hm w1 _=>?_⟩;have:m=0:=by omega
  subst this;simp[Builtin.firstCells,loadCells,loadCellsFrom]⟩,h⟩
 |osl id off len cap s'=>
  obtain⟨h1,h2⟩:=Qew hz (show T (cond (Nat.beq s' s) (Qhs fz mu id z λcs=>fN (Nat.mul len s) λm=>fN off λoff=>subK cs off m z λr=>k r len) z)from h);have hs:s'=s:=Qgv h1;subst hs;obtain⟨cs,h3,h4⟩:=Qjd hz h2;simp only[fN_eq]at h4;obtain⟨h5,h6⟩:=Qin hz h4;have h5':off+len*s'<=cs.length:=h5;refine⟨(cs.drop off).take (len*s'),len,⟨by simp;omega,λρ w v hr hv=>?_⟩,h6⟩;obtain⟨p,c,hp,rfl,q1,q2,q3,q4⟩:=hv;obtain⟨vs,g1,g2,g3,g4⟩:=(seen hr h3).read (P:=P) hp h5';refine⟨λw1=>by simp[Builtin.lenOf],.inl ⟨_,_,_,rfl⟩,vs,g2,λm hm w1 hl=>?_⟩;have hms:m*s'<=len*s':=Nat.mul_le_mul_right _ hm;have hlen:(vs.take (m*s')).length=m*s':=by simp;omega
  have:=run_loadCells_list (P:=P) w1 ⟨p.1,p.2+off,none⟩ (vs.take (m*s')) (λj v hj=>by
   rw[addr_add,hl.cell];refine g3 j v ?_;rw[List.getElem?_take]at hj;split at hj
   ·exact hj
   ·cases hj)
  rw[hlen]at this;exact this
theorem Qwf {need old:Nat} (h:old<need) (hn:True):Builtin.nextslicecap need old<=need+need/4+512:=by
 unfold Builtin.nextslicecap;clear hn;split
 ·omega
 ·split
  ·omega
  ·have key:∀(r c:Nat),c<need->Builtin.growBy need r c<=need+need/4+512:=by
    intro r;induction r with
    |zero=>intro c hc;show c<=_;omega
    |succ r ih=>
     intro c hc;simp only[Builtin.growBy,show¬c>=need by omega,if_false];by_cases h2:c+(c+768)/4<need
     ·exact ih _ h2
     ·cases r with
      |zero=>simp only[Builtin.growBy];omega
      |succ r=>simp only[Builtin.growBy,show c+(c+768)/4>=need by omega,if_true];omega
   exact key 4 old h
end
end Go.Ev
