import Derived.Test.YtljbfnabnkkfeaaBase
/- A region's operations, taken out of the code. No program in sight. -/
namespace Go.Proofs.Ytljbfnabnkkfeaa
open Go.RowKit
set_option linter.unusedVariables false

def regOps (k : Nat) : Code → Option (Array Oper)
  | .region id ops _ => if id == k then some ops else none
  | .seq a b => match regOps k a with
    | some o => some o
    | none => regOps k b
  | .cond _ a b => match regOps k a with
    | some o => some o
    | none => regOps k b
  | .block _ c => regOps k c
  | .loop c => regOps k c
  | .scope c => regOps k c
  | .rangeFunc _ _ a b => match regOps k a with
    | some o => some o
    | none => regOps k b
  | _ => none
noncomputable def opsAt (f : Func) (k : Nat) : Array Oper := (f.body.bind (regOps k)).getD #[]
theorem nameW' {K : Act → World → Prop} {a : Act} {W : World} (h : ∀ W', W' = W → K a W') : K a W := h W rfl
end Go.Proofs.Ytljbfnabnkkfeaa
