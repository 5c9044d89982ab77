/-
  A small evaluator for code of the Go model, written for Lean's kernel: memory of the run's own has ids; what is read alone is a function from ids. Definitions alone.
-/
import Derived.Orders
set_option linter.unusedVariables false
set_option linter.unusedSimpArgs false
namespace Go.Ev

/-- What one cell holds. optr: an address in an own block; osl: a slice over one (offset in cells, length, a bound below its capacity, cells an element); esl: empty, not nil, of capacity 0; zsl: empty, not nil; fn: a function and the addresses that it captured. -/
inductive SV where
  | un
  | int (k : IntKind) (n : Int)
  | bool (b : Bool)
  | str (s : ByteArray)
  | nsl
  | npt
  | nfn
  | optr (id off : Nat)
  | osl (id off len cap s : Nat)
  | esl
  | zsl
  | fn (f : Nat) (caps : List (Nat × Nat))
  | sym (k : IntKind) (i : Nat)

/-- One value or a struct's cells. -/
inductive CV where
  | one (s : SV)
  | ag (l : List SV)

inductive AV where
  | one (s : SV)
  | ag (l : List SV)
  | tp (l : List CV)

abbrev St := List (Nat × List SV)
abbrev Fz := Nat → Option (List SV)
/-- The temporaries, sixteen a row. -/
abbrev TM := List (List AV)

section
variable {R : Type}

noncomputable def AV.onOne (v : AV) (z : R) (k : SV → R) : R := AV.rec (motive := fun _ => R) k (fun _ => z) (fun _ => z) v
noncomputable def AV.onAg (v : AV) (z : R) (k : List SV → R) : R := AV.rec (motive := fun _ => R) (fun _ => z) k (fun _ => z) v
noncomputable def AV.onTp (v : AV) (z : R) (k : List CV → R) : R := AV.rec (motive := fun _ => R) (fun _ => z) (fun _ => z) k v
/-- A value's cells. -/
noncomputable def AV.onCells (v : AV) (z : R) (k : List SV → R) : R := AV.rec (motive := fun _ => R) (fun s => k [s]) k (fun _ => z) v
noncomputable def SV.onInt (v : SV) (z : R) (k : IntKind → Int → R) : R :=
  SV.rec (motive := fun _ => R) z k (fun _ => z) (fun _ => z) z z z (fun _ _ => z) (fun _ _ _ _ _ => z) z z (fun _ _ => z) (fun _ _ => z) v
noncomputable def SV.onBool (v : SV) (z : R) (k : Bool → R) : R :=
  SV.rec (motive := fun _ => R) z (fun _ _ => z) k (fun _ => z) z z z (fun _ _ => z) (fun _ _ _ _ _ => z) z z (fun _ _ => z) (fun _ _ => z) v
noncomputable def SV.onStr (v : SV) (z : R) (k : ByteArray → R) : R :=
  SV.rec (motive := fun _ => R) z (fun _ _ => z) (fun _ => z) k z z z (fun _ _ => z) (fun _ _ _ _ _ => z) z z (fun _ _ => z) (fun _ _ => z) v
noncomputable def SV.onPtr (v : SV) (z : R) (k : Nat → Nat → R) : R :=
  SV.rec (motive := fun _ => R) z (fun _ _ => z) (fun _ => z) (fun _ => z) z z z k (fun _ _ _ _ _ => z) z z (fun _ _ => z) (fun _ _ => z) v
noncomputable def SV.onSl (v : SV) (z : R) (k : Nat → Nat → Nat → Nat → Nat → R) : R :=
  SV.rec (motive := fun _ => R) z (fun _ _ => z) (fun _ => z) (fun _ => z) z z z (fun _ _ => z) k z z (fun _ _ => z) (fun _ _ => z) v
noncomputable def SV.onFn (v : SV) (z : R) (k : Nat → List (Nat × Nat) → R) : R :=
  SV.rec (motive := fun _ => R) z (fun _ _ => z) (fun _ => z) (fun _ => z) z z z (fun _ _ => z) (fun _ _ _ _ _ => z) z z k (fun _ _ => z) v
noncomputable def SV.onSym (v : SV) (z : R) (k : IntKind → Nat → R) : R :=
  SV.rec (motive := fun _ => R) z (fun _ _ => z) (fun _ => z) (fun _ => z) z z z (fun _ _ => z) (fun _ _ _ _ _ => z) z z (fun _ _ => z) k v

/-- Is it a string? -/
noncomputable def SV.isStr (v : SV) : Bool :=
  SV.rec (motive := fun _ => Bool) false (fun _ _ => false) (fun _ => false) (fun _ => true) false false false (fun _ _ => false) (fun _ _ _ _ _ => false) false false (fun _ _ => false) (fun _ _ => false) v
/-- May it be stored: all but what is not known. -/
noncomputable def SV.known (v : SV) : Bool :=
  SV.rec (motive := fun _ => Bool) false (fun _ _ => true) (fun _ => true) (fun _ => true) true true true (fun _ _ => true) (fun _ _ _ _ _ => true) true true (fun _ _ => true) (fun _ _ => true) v
noncomputable def knownAll (l : List SV) : Bool := List.rec (motive := fun _ => Bool) true (fun h _ ih => cond h.known ih false) l

/-- Numbers made plain before one goes on. -/
noncomputable def fN (n : Nat) (k : Nat → R) : R := Nat.rec (motive := fun _ => R) (k 0) (fun m _ => k (Nat.succ m)) n
noncomputable def fI (n : Int) (k : Int → R) : R := Int.rec (motive := fun _ => R) (fun m => fN m fun m => k (Int.ofNat m)) (fun m => fN m fun m => k (Int.negSucc m)) n
noncomputable def fB (b : Bool) (k : Bool → R) : R := Bool.rec (motive := fun _ => R) (k false) (k true) b

/-- Lists. -/
noncomputable def nth {α : Type} (d : α) (l : List α) : Nat → α :=
  List.rec (motive := fun _ => Nat → α) (fun _ => d) (fun h _ ih i => Nat.rec (motive := fun _ => α) h (fun j _ => ih j) i) l
noncomputable def nthK {α : Type} (l : List α) : Nat → R → (α → R) → R :=
  List.rec (motive := fun _ => Nat → R → (α → R) → R) (fun _ z _ => z) (fun h _ ih i z k => Nat.rec (motive := fun _ => R) (k h) (fun j _ => ih j z k) i) l
noncomputable def setK {α : Type} (l : List α) : Nat → α → (List α → R) → R :=
  List.rec (motive := fun _ => Nat → α → (List α → R) → R) (fun _ _ k => k [])
    (fun h t ih i v k => Nat.rec (motive := fun _ => R) (k (v :: t)) (fun j _ => ih j v fun r => k (h :: r)) i) l
noncomputable def takeK (l : List SV) : Nat → R → (List SV → R) → R :=
  List.rec (motive := fun _ => Nat → R → (List SV → R) → R) (fun n z k => Nat.rec (motive := fun _ => R) (k []) (fun _ _ => z) n)
    (fun h _ ih n z k => Nat.rec (motive := fun _ => R) (k []) (fun m _ => ih m z fun r => k (h :: r)) n) l
noncomputable def subK (l : List SV) : Nat → Nat → R → (List SV → R) → R :=
  List.rec (motive := fun _ => Nat → Nat → R → (List SV → R) → R)
    (fun off n z k => Nat.rec (motive := fun _ => R) (Nat.rec (motive := fun _ => R) (k []) (fun _ _ => z) n) (fun _ _ => z) off)
    (fun h t ih off n z k => Nat.rec (motive := fun _ => R) (takeK (h :: t) n z k) (fun o _ => ih o n z k) off) l
/-- vs over the list's head. -/
noncomputable def headK (vs : List SV) : List SV → R → (List SV → R) → R :=
  List.rec (motive := fun _ => List SV → R → (List SV → R) → R) (fun l _ k => k l)
    (fun v _ ih l z k => List.rec (motive := fun _ => R) z (fun _ t _ => ih t z fun r => k (v :: r)) l) vs
/-- vs over the list, from a place on. -/
noncomputable def overK (l : List SV) : Nat → List SV → R → (List SV → R) → R :=
  List.rec (motive := fun _ => Nat → List SV → R → (List SV → R) → R)
    (fun off vs z k => Nat.rec (motive := fun _ => R) (headK vs [] z k) (fun _ _ => z) off)
    (fun h t ih off vs z k => Nat.rec (motive := fun _ => R) (headK vs (h :: t) z k) (fun o _ => ih o vs z fun r => k (h :: r)) off) l
/-- A list's spine made plain, with another behind it. -/
noncomputable def appK (l : List SV) : List SV → (List SV → R) → R :=
  List.rec (motive := fun _ => List SV → (List SV → R) → R)
    (fun m k => k m) (fun h _ ih m k => ih m fun r => k (h :: r)) l
noncomputable def copyK (l : List SV) : (List SV → R) → R :=
  List.rec (motive := fun _ => (List SV → R) → R) (fun k => k []) (fun h _ ih k => ih fun r => k (h :: r)) l
noncomputable def lenK (l : List SV) : Nat → (Nat → R) → R :=
  List.rec (motive := fun _ => Nat → (Nat → R) → R) (fun n k => k n) (fun _ _ ih n k => ih (Nat.succ n) k) l

noncomputable def look (s : St) : Nat → Option (List SV) :=
  List.rec (motive := fun _ => Nat → Option (List SV)) (fun _ => none) (fun p _ ih id => cond (Nat.beq p.1 id) (some p.2) (ih id)) s
noncomputable def onLook (s : St) (id : Nat) (z : R) (k : List SV → R) : R := Option.rec (motive := fun _ => R) z k (look s id)
/-- In the own store first, then in what is read alone. -/
noncomputable def lookAll (fz : Fz) (mu : St) (id : Nat) (z : R) (k : List SV → R) : R :=
  Option.rec (motive := fun _ => R) (Option.rec (motive := fun _ => R) z k (fz id)) k (look mu id)
noncomputable def with' (mu : St) (fz : Fz) : Fz := fun id => Option.rec (motive := fun _ => Option (List SV)) (fz id) some (look mu id)
noncomputable def putK (s : St) : Nat → List SV → (St → R) → R :=
  List.rec (motive := fun _ => Nat → List SV → (St → R) → R) (fun _ _ k => k [])
    (fun p t ih id c k => cond (Nat.beq p.1 id) (k ((p.1, c) :: t)) (ih id c fun r => k (p :: r))) s
noncomputable def killK (s : St) : Nat → (St → R) → R :=
  List.rec (motive := fun _ => Nat → (St → R) → R) (fun _ k => k [])
    (fun p _ ih id k => cond (Nat.beq p.1 id) (ih id k) (ih id fun r => k (p :: r))) s
noncomputable def joinK (s : St) : St → (St → R) → R :=
  List.rec (motive := fun _ => St → (St → R) → R) (fun m k => k m) (fun p _ ih m k => ih m fun r => k (p :: r)) s

/-- Operands. -/
inductive Od where
  | t (q r : Nat)
  | c (v : AV)

def noVal : AV := .tp []
noncomputable def get (tm : TM) (q r : Nat) : AV := nth (.one .un) (nth [] tm q) r
noncomputable def ev (tm : TM) (x : Od) : AV := Od.rec (motive := fun _ => AV) (fun q r => get tm q r) (fun v => v) x
noncomputable def evs (tm : TM) (l : List Od) : List AV := l.map (ev tm)
noncomputable def setTm (tm : TM) (q r : Nat) (v : AV) (k : TM → R) : R := setK (nth [] tm q) r v fun c => setK tm q c k

/-- Whole numbers. -/
noncomputable def ltI (a b : Int) : Bool :=
  Int.rec (motive := fun _ => Bool)
    (fun m => Int.rec (motive := fun _ => Bool) (fun n => Nat.blt m n) (fun _ => false) b)
    (fun m => Int.rec (motive := fun _ => Bool) (fun _ => true) (fun n => Nat.blt n m) b) a
noncomputable def eqI (a b : Int) : Bool :=
  Int.rec (motive := fun _ => Bool)
    (fun m => Int.rec (motive := fun _ => Bool) (fun n => Nat.beq m n) (fun _ => false) b)
    (fun m => Int.rec (motive := fun _ => Bool) (fun _ => false) (fun n => Nat.beq m n) b) a
noncomputable def wrapK (kd : IntKind) (n : Int) (k : Int → R) : R :=
  Int.rec (motive := fun _ => R)
    (fun m => cond (Nat.blt m 128) (fN m fun m => k (Int.ofNat m)) (fI (kd.wrap n) k))
    (fun _ => fI (kd.wrap n) k) n

def IntKind.eqb : IntKind → IntKind → Bool
  | .i64, .i64 => true
  | a, b => decide (a = b)

noncomputable def binI (op : BinOp) (kd : IntKind) (a b : Int) (z : R) (k : SV → R) : R :=
  BinOp.rec (motive := fun _ => R)
    (wrapK kd (Int.add a b) fun n => k (.int kd n))
    (wrapK kd (Int.sub a b) fun n => k (.int kd n))
    (wrapK kd (Int.mul a b) fun n => k (.int kd n))
    (cond (eqI b 0) z (fI (kd.wrap (a.tdiv b)) fun n => k (.int kd n)))
    (cond (eqI b 0) z (fI (a.tmod b) fun n => k (.int kd n)))
    (fI (kd.wrap (BitVec.ofInt kd.bits a &&& BitVec.ofInt kd.bits b).toNat) fun n => k (.int kd n))
    (fI (kd.wrap (BitVec.ofInt kd.bits a ||| BitVec.ofInt kd.bits b).toNat) fun n => k (.int kd n))
    (fI (kd.wrap (BitVec.ofInt kd.bits a ^^^ BitVec.ofInt kd.bits b).toNat) fun n => k (.int kd n))
    z z
    (fI (kd.wrap (BitVec.ofInt kd.bits a &&& ~~~(BitVec.ofInt kd.bits b)).toNat) fun n => k (.int kd n))
    (fB (eqI a b) fun r => k (.bool r))
    (fB (eqI a b) fun r => k (.bool (not r)))
    (fB (ltI a b) fun r => k (.bool r))
    (fB (ltI b a) fun r => k (.bool (not r)))
    (fB (ltI b a) fun r => k (.bool r))
    (fB (ltI a b) fun r => k (.bool (not r))) op

noncomputable def shiftI (left : Bool) (kd : IntKind) (a b : Int) (z : R) (k : SV → R) : R :=
  cond (ltI b 0) z (cond left (fI (kd.wrap (a * 2 ^ min b.toNat kd.bits)) fun n => k (.int kd n)) (fI (a.fdiv (2 ^ min b.toNat kd.bits)) fun n => k (.int kd n)))

def strBin (op : BinOp) (x y : ByteArray) : Option SV :=
  match op with
  | .add => if x.size + y.size ≤ 1099511627776 then some (.str (x ++ y)) else none
  | .eql => some (.bool (x.toList == y.toList))
  | .neq => some (.bool (!(x.toList == y.toList)))
  | .lss => some (.bool (Op.bytesLess x.toList y.toList))
  | .leq => some (.bool (Op.bytesLess x.toList y.toList || x.toList == y.toList))
  | .gtr => some (.bool (!(Op.bytesLess x.toList y.toList || x.toList == y.toList)))
  | .geq => some (.bool (!Op.bytesLess x.toList y.toList))
  | _ => none

def eqCell : SV → SV → Option Bool
  | .int k a, .int k' b => if k = k' then some (a == b) else none
  | .bool a, .bool b => some (a == b)
  | .str a, .str b => some (a == b)
  | _, _ => none

def eqCells : List SV → List SV → Option Bool
  | [], [] => some true
  | a :: x, b :: y => match eqCell a b with
    | some true => eqCells x y
    | some false => (eqCells x y).map fun _ => false
    | none => none
  | _, _ => none

/-- nil or not, of a slice (sl) or of a pointer. -/
def nilness : Bool → SV → Option Bool
  | true, .nsl => some true
  | true, .osl .. => some false
  | true, .esl => some false
  | true, .zsl => some false
  | false, .npt => some true
  | false, .optr .. => some false
  | _, _ => none

/-- The cells of a slice or string that is read, and how many elements. -/
noncomputable def srcK (fz : Fz) (mu : St) (s : Nat) (x : SV) (z : R) (k : List SV → Nat → R) : R :=
  SV.rec (motive := fun _ => R) z (fun _ _ => z) (fun _ => z)
    (fun b => cond (Nat.beq s 1) (k (b.data.toList.map (fun x => .int .u8 x.toNat)) b.size) z)
    (k [] 0) z z (fun _ _ => z)
    (fun id off len _ s' => cond (Nat.beq s' s) (lookAll fz mu id z fun cs => fN (Nat.mul len s) fun m => fN off fun off => subK cs off m z fun r => k r len) z)
    (k [] 0) (k [] 0) (fun _ _ => z) (fun _ _ => z) x

def bound (x : Option AV) (d : Nat) : Option Nat :=
  match x with
  | none => some d
  | some (.one (.int _ n)) => if n < 0 then none else some n.toNat
  | _ => none

/-- x[lo:hi:mx]. -/
def sliceOf (s : Nat) (x : SV) (lo hi mx : Option AV) : Option SV :=
  match x with
  | .str b => match mx with
    | some _ => none
    | none => match bound hi b.size, bound lo 0 with
      | some h, some l => if Nat.ble h b.size && Nat.ble l h then some (.str (b.extract l h)) else none
      | _, _ => none
  | .nsl => match bound mx 0, bound hi 0, bound lo 0 with
    | some 0, some 0, some 0 => some .nsl
    | _, _, _ => none
  | .esl => match bound mx 0, bound hi 0, bound lo 0 with
    | some 0, some 0, some 0 => some .esl
    | _, _, _ => none
  | .osl id off len cap s' => if !Nat.beq s' s then none else
    match bound hi len, bound lo 0 with
    | some h, some l =>
      if !(Nat.ble h cap && Nat.ble l h) then none else
      match mx with
      | none => if Nat.blt l cap || Nat.beq l 0 then some (.osl id (off + l * s) (h - l) (cap - l) s) else some .zsl
      | some m => match bound (some m) 0 with
        | some m => if !(Nat.ble m cap && Nat.ble h m) then none
          else if Nat.beq m l then some .esl else some (.osl id (off + l * s) (h - l) (m - l) s)
        | none => none
    | _, _ => none
  | _ => none

/-- A slot that is made plain. -/
noncomputable def fSV (v : SV) (k : SV → R) : R :=
  SV.rec (motive := fun _ => R) (k .un) (fun kd n => fI n fun n => k (.int kd n)) (fun b => fB b fun b => k (.bool b)) (fun s => k (.str s)) (k .nsl) (k .npt) (k .nfn)
    (fun id off => fN id fun id => fN off fun off => k (.optr id off))
    (fun id off len cap s => fN id fun id => fN off fun off => fN len fun len => fN cap fun cap => fN s fun s => k (.osl id off len cap s))
    (k .esl) (k .zsl) (fun f cs => k (.fn f cs)) (fun kd i => k (.sym kd i)) v
end

/-- What is known of numbers that are not: of sym i, at an operation with a number (bin: it stands left, nib: right); turned into another kind; made plain. -/
structure Orc (R : Type) where
  bin : BinOp → IntKind → Nat → Int → (SV → R) → R
  nib : BinOp → IntKind → Int → Nat → (SV → R) → R
  conv : IntKind → Nat → (SV → R) → R
  force : Nat → (Int → R) → R

/-- An operation, its types resolved. -/
inductive AOp where
  | mv (x : Od)
  | pick (c a b : Od)
  | alloc (zero : List SV)
  | box (x : Od)
  | build (zero : List SV) (parts : List (Nat × Nat × Od))
  | bslice (s len : Nat) (zero : List SV) (parts : List (Nat × Nat × Od))
  | load (agg : Bool) (n : Nat) (x : Od)
  | store (n : Nat) (x v : Od)
  | nilc (x : Od)
  | bin (op : BinOp) (x y : Od)
  | shift (left : Bool) (x y : Od)
  | sbin (op : BinOp) (x y : Od)
  | eqb (neg : Bool) (x y : Od)
  | eqn (sl neg : Bool) (x y : Od)
  | eqs (neg : Bool) (x y : Od)
  | not (x : Od)
  | neg (x : Od)
  | conv (k : IntKind) (x : Od)
  | mkfn (f : Nat) (caps : List Od)
  | mkslice (s bytes : Nat) (zero : List SV) (len cap : Od)
  | slc (str : Bool) (s : Nat) (x : Od) (lo hi mx : Option Od)
  | faddr (off : Nat) (x : Od)
  | fld (off : Nat) (agg : Bool) (n : Nat) (x : Od)
  | iaddr (s : Nat) (x i : Od)
  | iaddrA (s len : Nat) (x i : Od)
  | idx (x i : Od)
  | extr (x : Od) (i : Nat)
  | len (str : Bool) (x : Od)
  | cap (x : Od)
  | append (s bytes : Nat) (x y : Od)
  | copy (s : Nat) (x y : Od)
  | max (x : Od) (xs : List Od)
  | min (x : Od) (xs : List Od)
  | call (f : Od) (args : List Od)

/-- mode, at a call: 1: what it is handed it reads alone. In a region whose order is open: 0: no memory; 1: it reads, and may make blocks; 2: it may change memory; 3: it makes a block alone; 4: a store into a block that nothing else of the region touches that is not ordered against it. -/
structure AOper where
  dst : Option (Nat × Nat)
  op : AOp
  g : Option (Nat × Nat × Bool)
  mode : Nat := 0
  anc : List Nat := []

inductive ACode where
  | skip
  | reg (ops : List AOper)
  | draw (ops : List AOper)
  | seq (a b : ACode)
  | cond (c : Od) (a b : ACode)
  | blk (id : Nat) (a : ACode)
  | loop (a : ACode)
  | exit (id : Nat)
  | ret
  | bad

inductive ARes where
  | tmp (q r : Nat)
  | cell (q r : Nat) (agg : Bool) (n : Nat)

structure AFunc where
  ntmps : Nat
  nargs : Nat
  res : List ARes
  body : ACode

/-- A call: its function, arguments, what is read alone, the store, the next id, and how one goes on. -/
abbrev CallT (R : Type) := Nat → List AV → Fz → St → Nat → (AV → St → Nat → R) → R

section
variable {R : Type} (orc : Orc R) (z : R) (call : CallT R) (fz : Fz) (tm : TM) (mu : St) (n : Nat)
abbrev KT (R : Type) := AV → St → Nat → R

noncomputable def asRes (agg : Bool) (r : List SV) (z : R) (k : AV → R) : R :=
  Bool.rec (motive := fun _ => R) (List.rec (motive := fun _ => R) z (fun h t _ => List.rec (motive := fun _ => R) (k (.one h)) (fun _ _ _ => z) t) r) (k (.ag r)) agg

noncomputable def oPick (c a b : Od) (k : KT R) : R := (ev tm c).onOne z fun s => s.onBool z fun t => cond t (k (ev tm a) mu n) (k (ev tm b) mu n)
noncomputable def oNew (cs : List SV) (k : KT R) : R := fN (Nat.succ n) fun m => k (.one (.optr n 0)) ((n, cs) :: mu) m
noncomputable def oBox (x : Od) (k : KT R) : R := (ev tm x).onCells z fun cs => cond (knownAll cs) (oNew mu n cs k) z
/-- Parts laid over cells. -/
noncomputable def fill (parts : List (Nat × Nat × Od)) : List SV → (List SV → R) → R :=
  List.rec (motive := fun _ => List SV → (List SV → R) → R) (fun cs k => k cs)
    (fun p _ ih cs k => (ev tm p.2.2).onCells z fun vs => lenK vs 0 fun m => cond (Nat.beq m p.2.1) (cond (knownAll vs) (overK cs p.1 vs z fun cs => ih cs k) z) z) parts
noncomputable def oBuild (zero : List SV) (parts : List (Nat × Nat × Od)) (k : KT R) : R := fill z tm parts zero fun cs => k (.ag cs) mu n
def rep (zero : List SV) : Nat → List SV
  | 0 => []
  | n + 1 => zero ++ rep zero n
noncomputable def oBslice (s len : Nat) (zero : List SV) (parts : List (Nat × Nat × Od)) (k : KT R) : R :=
  copyK (rep zero len) fun cs => fill z tm parts cs fun cs => fN (Nat.succ n) fun m => k (.one (.osl n 0 len len s)) ((n, cs) :: mu) m
noncomputable def oLoad (agg : Bool) (m : Nat) (x : Od) (k : KT R) : R :=
  (ev tm x).onOne z fun s => s.onPtr z fun id off => lookAll fz mu id z fun cs => subK cs off m z fun r => asRes agg r z fun v => k v mu n
noncomputable def oPut (id off : Nat) (vs : List SV) (k : St → R) : R :=
  cond (knownAll vs) (onLook mu id z fun cs => overK cs off vs z fun cs => putK mu id cs k) z
noncomputable def oStore (m : Nat) (x v : Od) (k : KT R) : R :=
  (ev tm x).onOne z fun s => s.onPtr z fun id off => (ev tm v).onCells z fun vs => lenK vs 0 fun l => cond (Nat.beq l m) (oPut z mu id off vs fun mu => k noVal mu n) z
noncomputable def oNilc (x : Od) (k : KT R) : R :=
  (ev tm x).onOne z fun s => SV.rec (motive := fun _ => R) z (fun _ _ => z) (fun _ => z) (fun _ => z) z z z (fun _ _ => k (.one s) mu n) (fun _ _ _ _ _ => z) z z (fun _ _ => k (.one s) mu n) (fun _ _ => z) s
noncomputable def oBin (op : BinOp) (x y : Od) (k : KT R) : R :=
  (ev tm x).onOne z fun s => (ev tm y).onOne z fun u => u.onInt
    (u.onSym z fun kd' j => s.onInt
      (s.onSym z fun kd i => cond (IntKind.eqb kd kd') (orc.force j fun v => orc.bin op kd i v fun r => fSV r fun r => k (.one r) mu n) z)
      fun kd a => cond (IntKind.eqb kd kd') (orc.nib op kd a j fun r => fSV r fun r => k (.one r) mu n) z)
    fun kd' b => s.onInt
      (s.onSym z fun kd i => cond (IntKind.eqb kd kd') (orc.bin op kd i b fun r => fSV r fun r => k (.one r) mu n) z)
      fun kd a => cond (IntKind.eqb kd kd') (binI op kd a b z fun r => k (.one r) mu n) z
/-- A temporary that is made plain, if it is a number that is not known. -/
noncomputable def forceK (x : Od) (k : TM → R) : R :=
  Od.rec (motive := fun _ => R) (fun q r => AV.rec (motive := fun _ => R) (fun s => s.onSym (k tm) fun kd i => orc.force i fun v => fI v fun v => setTm tm q r (.one (.int kd v)) k) (fun _ => k tm) (fun _ => k tm) (get tm q r)) (fun _ => k tm) x
noncomputable def forceO (x : Option Od) (k : TM → R) : R := Option.rec (motive := fun _ => R) (k tm) (fun x => forceK orc tm x k) x
/-- Is a number less than another one? -/
noncomputable def ltS (a b : SV) (k : Bool → R) : R :=
  a.onInt
    (a.onSym z fun kd i => b.onInt
      (b.onSym z fun kd' j => cond (IntKind.eqb kd kd') (orc.force j fun v => orc.bin .lss kd i v fun s => s.onBool z k) z)
      fun kd' v => cond (IntKind.eqb kd kd') (orc.bin .lss kd i v fun s => s.onBool z k) z)
    fun kd u => b.onInt
      (b.onSym z fun kd' j => cond (IntKind.eqb kd kd') (orc.nib .lss kd u j fun s => s.onBool z k) z)
      fun kd' v => cond (IntKind.eqb kd kd') (k (ltI u v)) z
noncomputable def maxK (l : List AV) : SV → (SV → R) → R :=
  List.rec (motive := fun _ => SV → (SV → R) → R) (fun a k => k a) (fun h _ ih a k => h.onOne z fun b => ltS orc z a b fun t => cond t (ih b k) (ih a k)) l
noncomputable def minK (l : List AV) : SV → (SV → R) → R :=
  List.rec (motive := fun _ => SV → (SV → R) → R) (fun a k => k a) (fun h _ ih a k => h.onOne z fun b => ltS orc z b a fun t => cond t (ih b k) (ih a k)) l
noncomputable def oShift (left : Bool) (x y : Od) (k : KT R) : R :=
  (ev tm x).onOne z fun s => s.onInt z fun kd a => (ev tm y).onOne z fun u => u.onInt z fun _ b => shiftI left kd a b z fun r => k (.one r) mu n
noncomputable def oSbin (op : BinOp) (x y : Od) (k : KT R) : R :=
  (ev tm x).onOne z fun s => s.onStr z fun a => (ev tm y).onOne z fun u => u.onStr z fun b => Option.rec (motive := fun _ => R) z (fun r => k (.one r) mu n) (strBin op a b)
noncomputable def oEqb (neg : Bool) (x y : Od) (k : KT R) : R :=
  (ev tm x).onOne z fun s => s.onBool z fun a => (ev tm y).onOne z fun u => u.onBool z fun b => fB (neg != (a == b)) fun r => k (.one (.bool r)) mu n
noncomputable def oEqn (sl neg : Bool) (x y : Od) (k : KT R) : R :=
  (ev tm x).onOne z fun s => (ev tm y).onOne z fun u => Option.rec (motive := fun _ => R) z
    (fun a => Option.rec (motive := fun _ => R) z (fun b => cond (a || b) (fB (neg != (a && b)) fun r => k (.one (.bool r)) mu n) z) (nilness sl u)) (nilness sl s)
noncomputable def oEqs (neg : Bool) (x y : Od) (k : KT R) : R :=
  (ev tm x).onAg z fun a => (ev tm y).onAg z fun b => Option.rec (motive := fun _ => R) z (fun e => fB (neg != e) fun r => k (.one (.bool r)) mu n) (eqCells a b)
noncomputable def oNot (x : Od) (k : KT R) : R := (ev tm x).onOne z fun s => s.onBool z fun a => fB (not a) fun r => k (.one (.bool r)) mu n
noncomputable def oNeg (x : Od) (k : KT R) : R := (ev tm x).onOne z fun s => s.onInt z fun kd a => fI (kd.wrap (0 - a)) fun r => k (.one (.int kd r)) mu n
noncomputable def oConv (kd : IntKind) (x : Od) (k : KT R) : R := (ev tm x).onOne z fun s => s.onInt (s.onSym z fun _ i => orc.conv kd i fun r => fSV r fun r => k (.one r) mu n) fun _ a => wrapK kd a fun r => k (.one (.int kd r)) mu n
noncomputable def capsK (l : List Od) : (List (Nat × Nat) → R) → R :=
  List.rec (motive := fun _ => (List (Nat × Nat) → R) → R) (fun k => k []) (fun h _ ih k => (ev tm h).onOne z fun s => s.onPtr z fun id off => ih fun r => k ((id, off) :: r)) l
noncomputable def oMkfn (f : Nat) (caps : List Od) (k : KT R) : R := capsK z tm caps fun cs => k (.one (.fn f cs)) mu n
def roomy : Nat := 137438953472
noncomputable def oMkslice (s bytes : Nat) (zero : List SV) (l c : Od) (k : KT R) : R :=
  (ev tm l).onOne z fun a => a.onInt z fun ka a => (ev tm c).onOne z fun b => b.onInt z fun kb b =>
    cond (IntKind.eqb ka .i64 && IntKind.eqb kb .i64 && not (ltI a 0) && not (ltI b a) && Nat.ble (b.toNat * (bytes + 1)) roomy)
      (fN a.toNat fun m => copyK (rep zero m) fun cs => fN (Nat.succ n) fun n' => k (.one (.osl n 0 m m s)) ((n, cs) :: mu) n') z
noncomputable def oSlc (str : Bool) (s : Nat) (x : Od) (lo hi mx : Option Od) (k : KT R) : R :=
  (ev tm x).onOne z fun v => cond (v.isStr == str) (Option.rec (motive := fun _ => R) z (fun r => fSV r fun r => k (.one r) mu n) (sliceOf s v (lo.map (ev tm)) (hi.map (ev tm)) (mx.map (ev tm)))) z
noncomputable def oFaddr (off : Nat) (x : Od) (k : KT R) : R :=
  (ev tm x).onOne z fun s => s.onPtr z fun id o => fN (Nat.add o off) fun o => k (.one (.optr id o)) mu n
noncomputable def oFld (off : Nat) (agg : Bool) (m : Nat) (x : Od) (k : KT R) : R :=
  (ev tm x).onAg z fun cs => subK cs off m z fun r => asRes agg r z fun v => k v mu n
noncomputable def oIaddr (s : Nat) (x i : Od) (k : KT R) : R :=
  (ev tm i).onOne z fun i => i.onInt z fun _ i => (ev tm x).onOne z fun v => v.onSl z fun id off len _ s' =>
    cond (Nat.beq s' s && not (ltI i 0) && Nat.blt i.toNat len) (fN (Nat.add off (Nat.mul i.toNat s)) fun o => k (.one (.optr id o)) mu n) z
noncomputable def oIaddrA (s len : Nat) (x i : Od) (k : KT R) : R :=
  (ev tm i).onOne z fun i => i.onInt z fun _ i => (ev tm x).onOne z fun v => v.onPtr z fun id off =>
    cond (not (ltI i 0) && Nat.blt i.toNat len) (fN (Nat.add off (Nat.mul i.toNat s)) fun o => k (.one (.optr id o)) mu n) z
noncomputable def oIdx (x i : Od) (k : KT R) : R :=
  (ev tm i).onOne z fun i => i.onInt z fun _ i => (ev tm x).onOne z fun v => v.onStr z fun b =>
    cond (ltI i 0) z (Option.rec (motive := fun _ => R) z (fun c => fN c.toNat fun c => k (.one (.int .u8 (Int.ofNat c))) mu n) b[i.toNat]?)
noncomputable def oExtr (x : Od) (i : Nat) (k : KT R) : R :=
  (ev tm x).onTp z fun ps => nthK ps i z fun c => CV.rec (motive := fun _ => R) (fun s => k (.one s) mu n) (fun l => k (.ag l) mu n) c
noncomputable def oLen (str : Bool) (x : Od) (k : KT R) : R :=
  (ev tm x).onOne z fun s => cond (s.isStr == str) (SV.rec (motive := fun _ => R) z (fun _ _ => z) (fun _ => z) (fun b => fN b.size fun m => k (.one (.int .i64 (Int.ofNat m))) mu n)
    (k (.one (.int .i64 0)) mu n) z z (fun _ _ => z) (fun _ _ len _ _ => k (.one (.int .i64 (Int.ofNat len))) mu n) (k (.one (.int .i64 0)) mu n) (k (.one (.int .i64 0)) mu n) (fun _ _ => z) (fun _ _ => z) s) z
noncomputable def oCap (x : Od) (k : KT R) : R :=
  (ev tm x).onOne z fun s => SV.rec (motive := fun _ => R) z (fun _ _ => z) (fun _ => z) (fun _ => z)
    (k (.one (.int .i64 0)) mu n) z z (fun _ _ => z) (fun _ _ _ _ _ => z) (k (.one (.int .i64 0)) mu n) z (fun _ _ => z) (fun _ _ => z) s
/-- Behind nil or nothing: a new block. -/
noncomputable def appNew (s bytes : Nat) (x : SV) (src : List SV) (cnt : Nat) (k : KT R) : R :=
  cond (Nat.beq cnt 0) (k (.one x) mu n) (cond (Nat.ble (Nat.mul cnt (Nat.succ bytes)) roomy) (fN (Nat.succ n) fun m => k (.one (.osl n 0 cnt cnt s)) ((n, src) :: mu) m) z)
noncomputable def appOwn (s bytes : Nat) (x : SV) (id off len s' : Nat) (src : List SV) (cnt : Nat) (k : KT R) : R :=
  cond (Nat.beq cnt 0) (k (.one x) mu n) (cond (Nat.beq s' s && Nat.ble (Nat.mul (Nat.add len cnt) (Nat.succ bytes)) roomy)
    (onLook mu id z fun known => fN (Nat.mul len s) fun m => subK known off m z fun old => lenK known 0 fun kl => cond (Nat.beq kl (Nat.add off m))
      (appK old src fun cs => killK mu id fun mu => fN (Nat.add len cnt) fun l => fN (Nat.succ n) fun n' => k (.one (.osl n 0 l l s)) ((n, cs) :: mu) n') z) z)
noncomputable def oAppend (s bytes : Nat) (x y : Od) (k : KT R) : R :=
  (ev tm x).onOne z fun x => (ev tm y).onOne z fun y => srcK fz mu s y z fun src cnt => cond (knownAll src)
    (SV.rec (motive := fun _ => R) z (fun _ _ => z) (fun _ => z) (fun _ => z) (appNew z mu n s bytes x src cnt k) z z (fun _ _ => z)
      (fun id off len _ s' => appOwn z mu n s bytes x id off len s' src cnt k) (appNew z mu n s bytes x src cnt k) z (fun _ _ => z) (fun _ _ => z) x) z
noncomputable def oCopy (s : Nat) (x y : Od) (k : KT R) : R :=
  (ev tm x).onOne z fun x => x.onSl z fun id off len _ s' => (ev tm y).onOne z fun y => cond (Nat.beq s' s) (srcK fz mu s y z fun src cnt =>
    fN (Nat.min cnt len) fun m => takeK src (Nat.mul m s) z fun src => oPut z mu id off src fun mu => k (.one (.int .i64 (Int.ofNat m))) mu n) z
noncomputable def oMax (x : Od) (xs : List Od) (k : KT R) : R :=
  (ev tm x).onOne z fun s => maxK orc z (evs tm xs) s fun r => k (.one r) mu n
noncomputable def oMin (x : Od) (xs : List Od) (k : KT R) : R :=
  (ev tm x).onOne z fun s => minK orc z (evs tm xs) s fun r => k (.one r) mu n

noncomputable def capVals (cs : List (Nat × Nat)) : List AV := cs.map fun p => .one (.optr p.1 p.2)
/-- The arguments, made plain; behind them what was captured. -/
noncomputable def argsK (l : List Od) : List AV → (List AV → R) → R :=
  List.rec (motive := fun _ => List AV → (List AV → R) → R) (fun c k => k c) (fun h _ ih c k => ih c fun r => k (ev tm h :: r)) l

/-- Which ids values name. -/
noncomputable def idsOf (l : List SV) : List Nat → List Nat :=
  List.rec (motive := fun _ => List Nat → List Nat) (fun a => a)
    (fun v _ ih a => SV.rec (motive := fun _ => List Nat) (ih a) (fun _ _ => ih a) (fun _ => ih a) (fun _ => ih a) (ih a) (ih a) (ih a) (fun id _ => id :: ih a) (fun id _ _ _ _ => id :: ih a) (ih a) (ih a) (fun _ cs => cs.map Prod.fst ++ ih a) (fun _ _ => ih a) v) l
noncomputable def AV.ids (v : AV) : List Nat :=
  AV.rec (motive := fun _ => List Nat) (fun s => idsOf [s] []) (fun l => idsOf l []) (fun l => List.rec (motive := fun _ => List Nat) [] (fun c _ ih => CV.rec (motive := fun _ => List Nat) (fun s => idsOf [s] ih) (fun m => idsOf m ih) c) l) v
noncomputable def has (l : List Nat) (i : Nat) : Bool := List.rec (motive := fun _ => Bool) false (fun h _ ih => cond (Nat.beq h i) true ih) l
/-- The ids that are reached from some, within a store. -/
noncomputable def reach (s : St) (d : Nat) : List Nat → List Nat → List Nat :=
  Nat.rec (motive := fun _ => List Nat → List Nat → List Nat) (fun _ seen => seen)
    (fun _ ih todo seen => List.rec (motive := fun _ => List Nat) seen
      (fun i r _ => cond (has seen i) (ih r seen) (Option.rec (motive := fun _ => List Nat) (ih r seen) (fun cs => ih (idsOf cs r) (i :: seen)) (look s i))) todo) d
noncomputable def keepK (s : St) : List Nat → (St → R) → R :=
  List.rec (motive := fun _ => List Nat → (St → R) → R) (fun _ k => k [])
    (fun p _ ih seen k => cond (has seen p.1) (ih seen fun r => k (p :: r)) (ih seen k)) s
/-- Of new blocks those stay that a value reaches. -/
noncomputable def sweepK (v : AV) (s : St) (k : St → R) : R :=
  List.rec (motive := fun _ => R) (k []) (fun i r _ => keepK s (reach s 100000 (i :: r) []) k) v.ids

noncomputable def oCall (ro : Bool) (f : Od) (args : List Od) (k : KT R) : R :=
  (ev tm f).onOne z fun s => s.onFn z fun g cs => argsK tm args (capVals cs) fun vs =>
    cond ro (call g vs (with' mu fz) [] n fun v new n' => sweepK v new fun new => joinK new mu fun mu => k v mu n') (call g vs fz mu n k)

noncomputable def aop (ro : Bool) (op : AOp) (k : KT R) : R :=
  AOp.rec (motive := fun _ => R)
    (fun x => k (ev tm x) mu n)
    (fun c a b => oPick z tm mu n c a b k)
    (fun zero => oNew mu n zero k)
    (fun x => oBox z tm mu n x k)
    (fun zero ps => oBuild z tm mu n zero ps k)
    (fun s len zero ps => oBslice z tm mu n s len zero ps k)
    (fun agg m x => oLoad z fz tm mu n agg m x k)
    (fun m x v => oStore z tm mu n m x v k)
    (fun x => oNilc z tm mu n x k)
    (fun op x y => oBin orc z tm mu n op x y k)
    (fun l x y => forceK orc tm x fun tm => forceK orc tm y fun tm => oShift z tm mu n l x y k)
    (fun op x y => oSbin z tm mu n op x y k)
    (fun neg x y => oEqb z tm mu n neg x y k)
    (fun sl neg x y => oEqn z tm mu n sl neg x y k)
    (fun neg x y => oEqs z tm mu n neg x y k)
    (fun x => oNot z tm mu n x k)
    (fun x => forceK orc tm x fun tm => oNeg z tm mu n x k)
    (fun kd x => oConv orc z tm mu n kd x k)
    (fun f cs => oMkfn z tm mu n f cs k)
    (fun s b zero l c => forceK orc tm l fun tm => forceK orc tm c fun tm => oMkslice z tm mu n s b zero l c k)
    (fun str s x lo hi mx => forceO orc tm lo fun tm => forceO orc tm hi fun tm => forceO orc tm mx fun tm => oSlc z tm mu n str s x lo hi mx k)
    (fun off x => oFaddr z tm mu n off x k)
    (fun off agg m x => oFld z tm mu n off agg m x k)
    (fun s x i => forceK orc tm i fun tm => oIaddr z tm mu n s x i k)
    (fun s len x i => forceK orc tm i fun tm => oIaddrA z tm mu n s len x i k)
    (fun x i => forceK orc tm i fun tm => oIdx z tm mu n x i k)
    (fun x i => oExtr z tm mu n x i k)
    (fun str x => oLen z tm mu n str x k)
    (fun x => oCap z tm mu n x k)
    (fun s b x y => oAppend z fz tm mu n s b x y k)
    (fun s x y => oCopy z fz tm mu n s x y k)
    (fun x xs => oMax orc z tm mu n x xs k)
    (fun x xs => oMin orc z tm mu n x xs k)
    (fun f args => oCall z call fz tm mu n ro f args k) op

end

structure FS where
  tm : TM
  mu : St
  n : Nat

section
variable {R : Type} (orc : Orc R) (z : R) (call : CallT R) (fz : Fz)

noncomputable def setDst (tm : TM) (dst : Option (Nat × Nat)) (v : AV) (k : TM → R) : R :=
  Option.rec (motive := fun _ => R) (k tm) (fun p => setTm tm p.1 p.2 v k) dst
/-- Is an operation wanted, by its guard? -/
noncomputable def onWanted (g : Option (Nat × Nat × Bool)) (tm : TM) (yes no : R) : R :=
  Option.rec (motive := fun _ => R) yes (fun p => AV.rec (motive := fun _ => R) (fun s => s.onBool z fun b => cond (b == p.2.2) yes no) (fun _ => z)
    (fun l => List.rec (motive := fun _ => R) no (fun _ _ _ => z) l) (get tm p.1 p.2.1)) g

noncomputable def stepK (o : AOper) (tm : TM) (mu : St) (n : Nat) (k : TM → St → Nat → R) : R :=
  onWanted z o.g tm (aop orc z call fz tm mu n (Nat.beq o.mode 1) o.op fun v mu n => setDst tm o.dst v fun tm => k tm mu n) (setDst tm o.dst noVal fun tm => k tm mu n)

noncomputable def runK (ops : List AOper) : TM → St → Nat → (TM → St → Nat → R) → R :=
  List.rec (motive := fun _ => TM → St → Nat → (TM → St → Nat → R) → R) (fun tm mu n k => k tm mu n)
    (fun o _ ih tm mu n k => stepK orc z call fz o tm mu n fun tm mu n => ih tm mu n k) ops

/-- What operations have made (ad: by their places). -/
noncomputable def adsOf (ad : List St) (l : List Nat) : St := List.rec (motive := fun _ => St) [] (fun i _ ih => nth [] ad i ++ ih) l
noncomputable def clearK (l : List Nat) : List St → (List St → R) → R :=
  List.rec (motive := fun _ => List St → (List St → R) → R) (fun ad k => k ad) (fun i _ ih ad k => setK ad i [] fun ad => ih ad k) l

/-- An operation of a region whose order is open. -/
noncomputable def rstep (i : Nat) (o : AOper) (tm : TM) (mu : St) (ad : List St) (n : Nat) (k : TM → St → List St → Nat → R) : R :=
  onWanted z o.g tm
    (cond (Nat.beq o.mode 0) (aop orc z call (fun _ => none) tm [] n false o.op fun v new n => List.rec (motive := fun _ => R) (setDst tm o.dst v fun tm => k tm mu ad n) (fun _ _ _ => z) new)
    (cond (Nat.beq o.mode 1) (aop orc z call (with' (adsOf ad o.anc) (with' mu fz)) tm [] n true o.op fun v new n => setDst tm o.dst v fun tm => setK ad i new fun ad => k tm mu ad n)
    (cond (Nat.beq o.mode 2) (joinK (adsOf ad o.anc) mu fun mu => clearK o.anc ad fun ad => aop orc z call fz tm mu n false o.op fun v mu n => setDst tm o.dst v fun tm => k tm mu ad n)
    (cond (Nat.beq o.mode 3) (aop orc z call (fun _ => none) tm [] n false o.op fun v new n => setDst tm o.dst v fun tm => setK ad i new fun ad => k tm mu ad n)
      (joinK (nth [] ad i) (adsOf ad o.anc) fun own => aop orc z call (fun _ => none) tm own n false o.op fun v new n => setDst tm o.dst v fun tm => clearK o.anc ad fun ad => setK ad i new fun ad => k tm mu ad n)))))
    (setDst tm o.dst noVal fun tm => k tm mu ad n)

noncomputable def rrun (ops : List AOper) : Nat → TM → St → List St → Nat → (TM → St → List St → Nat → R) → R :=
  List.rec (motive := fun _ => Nat → TM → St → List St → Nat → (TM → St → List St → Nat → R) → R) (fun _ tm mu ad n k => k tm mu ad n)
    (fun o _ ih i tm mu ad n k => rstep orc z call fz i o tm mu ad n fun tm mu ad n => ih (Nat.succ i) tm mu ad n k) ops

/-- The block that a loose store (mode 4) writes is set apart first. -/
noncomputable def apart (ops : List AOper) : Nat → TM → St → List St → (St → List St → R) → R :=
  List.rec (motive := fun _ => Nat → TM → St → List St → (St → List St → R) → R) (fun _ _ mu ad k => k mu ad)
    (fun o _ ih i tm mu ad k => cond (Nat.beq o.mode 4)
      (AOp.casesOn (motive := fun _ => R) o.op (fun _ => ih (Nat.succ i) tm mu ad k) (fun _ _ _ => ih (Nat.succ i) tm mu ad k) (fun _ => ih (Nat.succ i) tm mu ad k) (fun _ => ih (Nat.succ i) tm mu ad k)
        (fun _ _ => ih (Nat.succ i) tm mu ad k) (fun _ _ _ _ => ih (Nat.succ i) tm mu ad k) (fun _ _ _ => ih (Nat.succ i) tm mu ad k)
        (fun _ x _ => (ev tm x).onOne (ih (Nat.succ i) tm mu ad k) fun s => s.onPtr (ih (Nat.succ i) tm mu ad k) fun id _ =>
          onLook mu id (ih (Nat.succ i) tm mu ad k) fun cs => killK mu id fun mu => setK ad i [(id, cs)] fun ad => ih (Nat.succ i) tm mu ad k)
        (fun _ => z) (fun _ _ _ => z) (fun _ _ _ => z) (fun _ _ _ => z) (fun _ _ _ => z) (fun _ _ _ _ => z) (fun _ _ _ => z) (fun _ => z) (fun _ => z) (fun _ _ => z) (fun _ _ => z) (fun _ _ _ _ _ => z) (fun _ _ _ _ _ _ => z)
        (fun _ _ => z) (fun _ _ _ _ => z) (fun _ _ _ => z) (fun _ _ _ _ => z) (fun _ _ => z) (fun _ _ => z) (fun _ _ => z) (fun _ => z) (fun _ _ _ _ => z) (fun _ _ _ => z) (fun _ _ => z) (fun _ _ => z) (fun _ _ => z))
      (ih (Nat.succ i) tm mu ad k)) ops

noncomputable def joinAll (l : List St) : St → (St → R) → R :=
  List.rec (motive := fun _ => St → (St → R) → R) (fun mu k => k mu) (fun s _ ih mu k => joinK s mu fun mu => ih mu k) l

noncomputable def drawK (ops : List AOper) (tm : TM) (mu : St) (n : Nat) (k : TM → St → Nat → R) : R :=
  apart z ops 0 tm mu (ops.map fun _ => []) fun mu ad => rrun orc z call fz ops 0 tm mu ad n fun tm mu ad n => joinAll ad mu fun mu => k tm mu n

inductive AExit where
  | normal
  | exit (id : Nat)
  | ret

noncomputable def acode (fuel : Nat) : ACode → TM → St → Nat → (AExit → TM → St → Nat → R) → R :=
  Nat.rec (motive := fun _ => ACode → TM → St → Nat → (AExit → TM → St → Nat → R) → R) (fun _ _ _ _ _ => z)
    (fun _ ih c tm mu n k => ACode.casesOn (motive := fun _ => R) c
      (k .normal tm mu n)
      (fun ops => runK orc z call fz ops tm mu n (k .normal))
      (fun ops => drawK orc z call fz ops tm mu n (k .normal))
      (fun a b => ih a tm mu n fun e tm mu n => AExit.rec (motive := fun _ => R) (ih b tm mu n k) (fun id => k (.exit id) tm mu n) (k .ret tm mu n) e)
      (fun x a b => (ev tm x).onOne z fun s => s.onBool z fun t => cond t (ih a tm mu n k) (ih b tm mu n k))
      (fun id a => ih a tm mu n fun e tm mu n => AExit.rec (motive := fun _ => R) (k .normal tm mu n) (fun id' => cond (Nat.beq id' id) (k .normal tm mu n) (k (.exit id') tm mu n)) (k .ret tm mu n) e)
      (fun a => ih a tm mu n fun e tm mu n => AExit.rec (motive := fun _ => R) (ih c tm mu n k) (fun id => k (.exit id) tm mu n) (k .ret tm mu n) e)
      (fun id => k (.exit id) tm mu n)
      (k .ret tm mu n) z) fuel

noncomputable def toCV (v : AV) (k : CV → R) : R := AV.rec (motive := fun _ => R) (fun s => k (.one s)) (fun l => k (.ag l)) (fun _ => z) v
noncomputable def resVal (r : ARes) (tm : TM) (mu : St) (k : AV → R) : R :=
  ARes.rec (motive := fun _ => R) (fun q r => k (get tm q r))
    (fun q r agg m => (get tm q r).onOne z fun s => s.onPtr z fun id off => lookAll fz mu id z fun cs => subK cs off m z fun c => asRes agg c z k) r
noncomputable def resAll (l : List ARes) : TM → St → (List CV → R) → R :=
  List.rec (motive := fun _ => TM → St → (List CV → R) → R) (fun _ _ k => k [])
    (fun r _ ih tm mu k => resVal z fz r tm mu fun v => toCV z v fun c => ih tm mu fun cs => k (c :: cs)) l
noncomputable def resK (l : List ARes) (tm : TM) (mu : St) (k : AV → R) : R :=
  List.rec (motive := fun _ => R) (k (.tp [])) (fun r t _ => List.rec (motive := fun _ => R) (resVal z fz r tm mu k) (fun _ _ _ => resAll z fz l tm mu fun cs => k (.tp cs)) t) l

/-- The temporaries at a call's beginning: the arguments, then nothing, in rows of sixteen. -/
noncomputable def rowsK (m : Nat) : Nat → List AV → List AV → TM → (TM → R) → R :=
  Nat.rec (motive := fun _ => Nat → List AV → List AV → TM → (TM → R) → R)
    (fun _ _ row acc k => k (acc.reverse ++ [row.reverse]))
    (fun _ ih i args row acc k => cond (Nat.beq i 16)
      (List.rec (motive := fun _ => R) (ih 1 [] [noVal] (row.reverse :: acc) k) (fun a t _ => ih 1 t [a] (row.reverse :: acc) k) args)
      (List.rec (motive := fun _ => R) (ih (Nat.succ i) [] (noVal :: row) acc k) (fun a t _ => ih (Nat.succ i) t (a :: row) acc k) args)) m
end

noncomputable def vcall {R : Type} (orc : Orc R) (z : R) (K : Nat → Option (List AV → Fz → St → Nat → (AV → St → Nat → R) → R)) (F : Nat → Option AFunc) (big : Nat) (depth : Nat) : CallT R :=
  Nat.rec (motive := fun _ => CallT R) (fun _ _ _ _ _ _ => z)
    (fun _ ih f args fz mu n k => Option.rec (motive := fun _ => R)
      (Option.rec (motive := fun _ => R) z (fun fn => cond (Nat.beq args.length fn.nargs)
        (rowsK fn.ntmps 0 args [] [] fun tm => acode orc z ih fz big fn.body tm mu n fun e tm mu n =>
          AExit.rec (motive := fun _ => R) (resK z fz fn.res tm mu fun v => k v mu n) (fun _ => z) (resK z fz fn.res tm mu fun v => k v mu n) e) z) (F f))
      (fun c => c args fz mu n k) (K f)) depth

end Go.Ev
