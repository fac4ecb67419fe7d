import Derived.Test.YtcipgkpcaecjdaaCuts
/- The innermost loop that holds a region, taken out of the code. No program in sight. -/
namespace Go.Proofs.Ytcipgkpcaecjdaa
open Go.RowKit
set_option linter.unusedVariables false
/-- the innermost loop that holds region r -/
def findLoopIn (r : Nat) : Code → Option Code
  | .loop c => match findLoopIn r c with
    | some o => some o
    | none => if (regOps r c).isSome then some (.loop c) else none
  | .seq a b => match findLoopIn r a with
    | some o => some o
    | none => findLoopIn r b
  | .cond _ a b => match findLoopIn r a with
    | some o => some o
    | none => findLoopIn r b
  | .block _ c => findLoopIn r c
  | .scope c => findLoopIn r c
  | .rangeFunc _ _ a b => match findLoopIn r a with
    | some o => some o
    | none => findLoopIn r b
  | _ => none
noncomputable def loopIn (f : Func) (r : Nat) : Code := (f.body.bind (findLoopIn r)).getD .skip
end Go.Proofs.Ytcipgkpcaecjdaa
