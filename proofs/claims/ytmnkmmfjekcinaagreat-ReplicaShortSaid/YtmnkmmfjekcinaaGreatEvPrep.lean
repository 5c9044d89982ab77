/-
  From the model's code to the evaluator's: the types resolved. Definitions alone.
-/
import Derived.Test.YtmnkmmfjekcinaaGreatEvCore
set_option linter.unusedVariables false
set_option linter.unusedSimpArgs false
namespace Go.Ev

def szOf (P : Program) (t : TypeId) : Option Nat := (P.info? t).map (·.size)
def byOf (P : Program) (t : TypeId) : Option Nat := (P.info? t).map (·.bytes)

def aggOf (P : Program) (t : TypeId) : Option Bool :=
  match P.underlying t with
  | some (.struct _) => some true
  | some (.array _ _) => some true
  | some _ => some false
  | none => none

def toSV : Value → Option SV
  | .int k n => some (.int k n)
  | .bool b => some (.bool b)
  | .string s => some (.str s)
  | .slice none 0 0 => some .nsl
  | .pointer none => some .npt
  | .nilFunc => some .nfn
  | _ => none

def toSVs : List Value → Option (List SV)
  | [] => some []
  | v :: r => match toSV v, toSVs r with
    | some a, some b => some (a :: b)
    | _, _ => none

def toAV : Value → Option AV
  | .agg cs => (toSVs cs.toList).map .ag
  | v => (toSV v).map .one

/-- A type's zero cells, as many as its size. -/
def zeroOf (P : Program) (t : TypeId) : Option (List SV) :=
  match P.info? t with
  | some i => match i.zero with
    | some v => match toSVs v.cells.toList with
      | some l => if l.length == i.size then some l else none
      | none => none
    | none => none
  | none => none

def hasBody (P : Program) (f : Nat) : Bool :=
  match P.funcs[f]? with
  | some fn => fn.body.isSome && !(fn.name == "runtime.NumGoroutine")
  | none => false

def od (P : Program) : Operand → Option Od
  | .tmp t => some (.t (t / 16) (t % 16))
  | .const v => (toAV v).map .c
  | .func f => if hasBody P f then some (.c (.one (.fn f []))) else none
  | .global _ => none

def ods (P : Program) : List Operand → Option (List Od)
  | [] => some []
  | x :: r => match od P x, ods P r with
    | some a, some b => some (a :: b)
    | _, _ => none

def odO (P : Program) : Option Operand → Option (Option Od)
  | none => some none
  | some x => (od P x).map some

def partsOf (P : Program) (fs : Array Field) : List (Nat × Operand) → Option (List (Nat × Nat × Od))
  | [] => some []
  | (i, x) :: r => match fs[i]? with
    | some f => match szOf P f.type, od P x, partsOf P fs r with
      | some n, some y, some l => some ((f.offset, n, y) :: l)
      | _, _, _ => none
    | none => none

def elemsOf (P : Program) (s : Nat) : List (Nat × Operand) → Option (List (Nat × Nat × Od))
  | [] => some []
  | (i, x) :: r => match od P x, elemsOf P s r with
    | some y, some l => some ((i * s, s, y) :: l)
    | _, _ => none

def prepBuiltin (P : Program) (b : Builtin) (ts : List TypeId) (args : List Od) : Option AOp :=
  match b, ts, args with
  | .len, [t], [x] => match P.underlying t with
    | some (.slice _) => some (.len false x)
    | some .string => some (.len true x)
    | _ => none
  | .cap, [t], [x] => match P.underlying t with
    | some (.slice _) => some (.cap x)
    | _ => none
  | .append, [t, u], [x, y] => match P.underlying t, P.underlying u with
    | some (.slice e), some (.slice _) => match szOf P e, byOf P e, zeroOf P e with
      | some s, some b, some _ => if s != 0 then some (.append s b x y) else none
      | _, _, _ => none
    | some (.slice e), some .string => match szOf P e, byOf P e, zeroOf P e with
      | some s, some b, some _ => if s != 0 then some (.append s b x y) else none
      | _, _, _ => none
    | _, _ => none
  | .copy, [t, _], [x, y] => match P.underlying t with
    | some (.slice e) => match szOf P e with
      | some s => if s != 0 then some (.copy s x y) else none
      | none => none
    | _ => none
  | .max, t :: _, x :: xs => match P.underlying t with
    | some (.int _) => some (.max x xs)
    | _ => none
  | .min, t :: _, x :: xs => match P.underlying t with
    | some (.int _) => some (.min x xs)
    | _ => none
  | _, _, _ => none

def isNil : Od → Bool
  | .c (.one .nsl) => true
  | .c (.one .npt) => true
  | _ => false

def prepBin (P : Program) (op : BinOp) (t u : TypeId) (x y : Od) : Option AOp :=
  match P.underlying t with
  | some (.int _) => match op, P.underlying u with
    | .shl, some (.int _) => some (.shift true x y)
    | .shr, some (.int _) => some (.shift false x y)
    | .shl, _ => none
    | .shr, _ => none
    | op, _ => some (.bin op x y)
  | some .string => some (.sbin op x y)
  | some .bool => match op with
    | .eql => some (.eqb false x y)
    | .neq => some (.eqb true x y)
    | _ => none
  | some (.slice _) => if !(isNil x || isNil y) then none else match op with
    | .eql => some (.eqn true false x y)
    | .neq => some (.eqn true true x y)
    | _ => none
  | some (.pointer _) => if !(isNil x || isNil y) then none else match op with
    | .eql => some (.eqn false false x y)
    | .neq => some (.eqn false true x y)
    | _ => none
  | _ => none

def prepOp (P : Program) : Op → Option AOp
  | .move x => (od P x).map .mv
  | .assign x => (od P x).map .mv
  | .pick c a b => match od P c, od P a, od P b with
    | some c, some a, some b => some (.pick c a b)
    | _, _, _ => none
  | .alloc t => (zeroOf P t).map .alloc
  | .box _ x => (od P x).map .box
  | .build t parts => match P.underlying t, zeroOf P t with
    | some (.struct fs), some z => if fs.toList.all fun f => (szOf P f.type).isSome then (partsOf P fs parts.toList).map (.build z ·) else none
    | _, _ => none
  | .buildSlice t len parts => match P.underlying t with
    | some (.slice e) => match szOf P e, zeroOf P e with
      | some s, some z => if s != 0 && Nat.ble (len * s) 65536 then (elemsOf P s parts.toList).map (.bslice s len z ·) else none
      | _, _ => none
    | _ => none
  | .load t x => match aggOf P t, szOf P t, od P x with
    | some a, some n, some x => if a || n == 1 then some (.load a n x) else none
    | _, _, _ => none
  | .store t x v => match szOf P t, od P x, od P v with
    | some n, some x, some v => some (.store n x v)
    | _, _, _ => none
  | .nilCheck x => (od P x).map .nilc
  | .binOp op t x y u => match od P x, od P y with
    | some x, some y => prepBin P op t u x y
    | _, _ => none
  | .unOp op _ x => match op, od P x with
    | .not, some x => some (.not x)
    | .neg, some x => some (.neg x)
    | _, _ => none
  | .convert t u x => match P.underlying t, P.underlying u, od P x with
    | some (.int _), some (.int k), some x => some (.conv k x)
    | _, _, _ => none
  | .makeFunc (.func f) first caps => if first.isEmpty && hasBody P f then (ods P caps.toList).map (.mkfn f) else none
  | .makeSlice t l c => match P.underlying t, od P l, od P c with
    | some (.slice e), some l, some c => match szOf P e, byOf P e, zeroOf P e with
      | some s, some b, some z => if s != 0 then some (.mkslice s b z l c) else none
      | _, _, _ => none
    | _, _, _ => none
  | .slice t x lo hi mx => match P.underlying t, od P x, odO P lo, odO P hi, odO P mx with
    | some (.slice e), some x, some lo, some hi, some mx => match szOf P e with
      | some s => if mx.isSome && hi.isNone then none else some (.slc false s x lo hi mx)
      | none => none
    | some .string, some x, some lo, some hi, some mx => if mx.isSome then none else some (.slc true 0 x lo hi mx)
    | _, _, _, _, _ => none
  | .fieldAddr t x i => match P.underlying t, od P x with
    | some (.struct fs), some x => match fs[i]? with
      | some f => match szOf P f.type with
        | some n => if n == 0 then none else some (.faddr f.offset x)
        | none => none
      | none => none
    | _, _ => none
  | .field t x i => match P.underlying t, od P x with
    | some (.struct fs), some x => match fs[i]? with
      | some f => match aggOf P f.type, szOf P f.type with
        | some a, some n => if a || n == 1 then some (.fld f.offset a n x) else none
        | _, _ => none
      | none => none
    | _, _ => none
  | .indexAddr t x i => match P.underlying t, od P x, od P i with
    | some (.slice e), some x, some i => (szOf P e).map (.iaddr · x i)
    | some (.array len e), some x, some i => (szOf P e).map (.iaddrA · len x i)
    | _, _, _ => none
  | .index t x i => match P.underlying t, od P x, od P i with
    | some .string, some x, some i => some (.idx x i)
    | _, _, _ => none
  | .extract x i => (od P x).map (.extr · i)
  | .call c => match c.callee, ods P c.args.toList with
    | .value f, some args => (od P f).map (.call · args)
    | .builtin b, some args => prepBuiltin P b c.argTypes.toList args
    | _, _ => none
  | _ => none

/-- The places that an operation waits for, with all that those wait for. -/
def ancOf (acc : List (List Nat)) (es : List Edge) : List Nat :=
  (es.flatMap fun e => if Region.binds .any e then e.on :: acc.getD e.on [] else []).eraseDups

def ancs : List Oper → List (List Nat) → List (List Nat)
  | [], acc => acc
  | o :: r, acc => ancs r (acc ++ [ancOf acc o.after.toList])

/-- Which calls may change what they are handed: mt: of a function; dy: of whatever is called by value. -/
structure Muts where
  mt : Nat → Bool
  dy : Bool

def modeOf (m : Muts) : AOp → Nat
  | .alloc _ => 3
  | .box _ => 3
  | .bslice .. => 3
  | .mkslice .. => 3
  | .load .. => 1
  | .store .. => 2
  | .append .. => 2
  | .copy .. => 2
  | .call (.c (.one (.fn f _))) _ => if m.mt f then 2 else 1
  | .call _ _ => if m.dy then 2 else 1
  | _ => 0

def slot (t : Nat) : Nat × Nat := (t / 16, t % 16)

def guardOf (ops : Array Oper) : Option (Nat × Bool) → Option (Option (Nat × Nat × Bool))
  | none => some none
  | some (j, want) => match (ops[j]?).bind (·.dst) with
    | some t => some (some (t / 16, t % 16, want))
    | none => none

def prepOpers (P : Program) (m : Muts) (ops : Array Oper) : List Oper → Option (List AOper)
  | [] => some []
  | o :: r => match prepOp P o.op, guardOf ops o.guard, prepOpers P m ops r with
    | some op, some g, some l => some (⟨o.dst.map slot, op, g, modeOf m op, []⟩ :: l)
    | _, _, _ => none

def withAnc : List AOper → List (List Nat) → List AOper
  | o :: r, a :: s => { o with anc := a } :: withAnc r s
  | _, _ => []

/-- A store that is not ordered against every other operation that touches memory is a loose one. -/
def raise (ops : List (AOper × Nat)) (i : Nat) (o : AOper) : AOper :=
  match o.op with
  | .store .. => if ops.all fun (p, j) => i == j || p.mode == 0 || p.mode == 3 || o.anc.contains j || p.anc.contains i then o else { o with mode := 4 }
  | _ => o

def modes (l : List AOper) (as : List (List Nat)) : List AOper := (withAnc l as).zipIdx.map fun (o, i) => raise (withAnc l as).zipIdx i o

/-- Which temporaries an operation looks at. -/
def looksC (o : Oper) (g : Option (Nat × Nat × Bool)) : List (Nat × Nat) :=
  (o.op.operands.toList.filterMap fun x => match x with | .tmp t => some (slot t) | _ => none) ++ (match g with | some (q, r, _) => [(q, r)] | none => [])

def ordered (i : Nat) (o : AOper) (j : Nat) (p : AOper) : Bool := (Nat.blt j i && o.anc.contains j) || (Nat.blt i j && p.anc.contains i)

/-- Of what it waits for that which may have made blocks. -/
def ancMem (al : List AOper) (o : AOper) : List Nat := o.anc.filter fun k => match al[k]? with | some p => !(p.mode == 0 || p.mode == 2) | none => false

/-- The parts of memory that it changes: 0: the store; k + 1: what operation k made. -/
def aff (al : List AOper) (i : Nat) (o : AOper) : List Nat :=
  match o.mode with
  | 0 => []
  | 1 => [i + 1]
  | 2 => 0 :: (ancMem al o).map (· + 1)
  | 3 => [i + 1]
  | _ => (i + 1) :: (ancMem al o).map (· + 1)
def rds (al : List AOper) (i : Nat) (o : AOper) : List Nat :=
  match o.mode with
  | 1 => 0 :: (ancMem al o).map (· + 1)
  | _ => aff al i o

def pairOk (al : List AOper) (i : Nat) (oc : Oper) (o : AOper) (j : Nat) (p : AOper) : Bool :=
  i == j || ordered i o j p ||
    ((match o.dst, p.dst with | some a, some b => a != b | _, _ => true) &&
     (match p.dst with | some t => !(looksC oc o.g).contains t | none => true) &&
     !((aff al j p).any fun c => (rds al i o).contains c || (aff al i o).contains c))

def oneOk (al : List AOper) (i : Nat) (oc : Oper) (o : AOper) : Bool :=
  Nat.ble o.mode 4 &&
  (oc.after.toList.all fun e => !Region.binds .any e || Nat.blt e.on i) &&
  (o.anc.all fun j => oc.after.toList.any fun e => Region.binds .any e && (e.on == j || (match al[e.on]? with | some p => p.anc.contains j | none => false))) &&
  (o.mode != 4 || (match o.op with | .store .. => true | _ => false))

def regOk (ops : List Oper) (al : List AOper) : Bool :=
  (ops.zip al).zipIdx.all fun (oo, i) => oneOk al i oo.1 oo.2 && al.zipIdx.all fun (p, j) => pairOk al i oo.1 oo.2 j p

def prepCode (P : Program) (m : Muts) : Code → Option ACode
  | .skip => some .skip
  | .region _ ops false => match prepOpers P m ops ops.toList with
    | some l => some (.reg l)
    | none => some .bad
  | .region _ ops true => match prepOpers P m ops ops.toList with
    | some l => if regOk ops.toList (modes l (ancs ops.toList [])) then some (.draw (modes l (ancs ops.toList []))) else some .bad
    | none => some .bad
  | .seq a b => match prepCode P m a, prepCode P m b with
    | some x, some y => some (.seq x y)
    | _, _ => none
  | .cond c a b => match od P c, prepCode P m a, prepCode P m b with
    | some c, some x, some y => some (.cond c x y)
    | _, _, _ => none
  | .block id a => (prepCode P m a).map (.blk id)
  | .loop a => (prepCode P m a).map .loop
  | .exit id => some (.exit id)
  | .ret => some .ret
  | .label _ => some .skip
  | .scope a => prepCode P m a
  | _ => some .bad

def prepRes (P : Program) : List ResultVar → Option (List ARes)
  | [] => some []
  | .tmp t :: r => (prepRes P r).map (.tmp (t / 16) (t % 16) :: ·)
  | .cell a t :: r => match aggOf P t, szOf P t, prepRes P r with
    | some g, some n, some l => if g || n == 1 then some (.cell (a / 16) (a % 16) g n :: l) else none
    | _, _, _ => none

def prepFunc (P : Program) (m : Muts) (fn : Func) : Option AFunc :=
  match fn.body with
  | none => none
  | some c => match prepCode P m c, prepRes P fn.results.toList with
    | some b, some r => some ⟨fn.ntmps, fn.params.size + fn.nfree, r, b⟩
    | _, _ => none

end Go.Ev
