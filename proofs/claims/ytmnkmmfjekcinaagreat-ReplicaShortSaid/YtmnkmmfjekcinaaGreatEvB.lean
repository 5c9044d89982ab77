/-
  Code in a flat form: each piece with what follows it. Definitions alone.
-/
import Derived.Test.YtmnkmmfjekcinaaGreatEvDcode
set_option linter.unusedVariables false
set_option linter.unusedSimpArgs false
namespace Go.Ev

inductive BC where
  | norm
  | ret
  | bad
  | exit (id : Nat)
  | reg (ops : List AOper) (next : BC)
  | draw (ops : List AOper) (next : BC)
  | ite (x : Od) (a b : BC)
  | iteN (x : Od) (a b next : BC)
  | test (x : Od) (id : Nat) (next : BC)
  | blk (id : Nat) (a next : BC)
  | loop (a next : BC)

def BC.isNorm : BC → Bool
  | .norm => true
  | _ => false
/-- The same, to be run by a tool. -/
def flatC : ACode → BC → BC
  | .skip, nx => nx
  | .reg ops, nx => .reg ops nx
  | .draw ops, nx => .draw ops nx
  | .seq a b, nx => flatC a (flatC b nx)
  | .cond x a b, nx => match nx.isNorm, a, b with
    | true, _, _ => .ite x (flatC a .norm) (flatC b .norm)
    | false, .skip, .exit id => .test x id nx
    | false, _, _ => .iteN x (flatC a .norm) (flatC b .norm) nx
  | .blk id a, nx => .blk id (flatC a .norm) nx
  | .loop a, nx => .loop (flatC a .norm) nx
  | .exit id, _ => .exit id
  | .ret, _ => .ret
  | .bad, _ => .bad
def ACode.testId : ACode → ACode → Option Nat
  | .skip, .exit id => some id
  | _, _ => none

noncomputable def flat (c : ACode) : BC → BC := ACode.rec (motive := fun _ => BC → BC)
  (fun nx => nx)
  (fun ops nx => .reg ops nx)
  (fun ops nx => .draw ops nx)
  (fun _ _ iha ihb nx => iha (ihb nx))
  (fun x a b iha ihb nx => Bool.rec (motive := fun _ => BC) (Option.rec (motive := fun _ => BC) (.iteN x (iha .norm) (ihb .norm) nx) (fun id => .test x id nx) (ACode.testId a b)) (.ite x (iha .norm) (ihb .norm)) nx.isNorm)
  (fun id _ iha nx => .blk id (iha .norm) nx)
  (fun _ iha nx => .loop (iha .norm) nx)
  (fun id _ => .exit id)
  (fun _ => .ret)
  (fun _ => .bad) c
end Go.Ev
