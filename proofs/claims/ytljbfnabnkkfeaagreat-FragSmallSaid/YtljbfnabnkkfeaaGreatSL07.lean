import Derived.Test.YtljbfnabnkkfeaaGreatSL06
set_option linter.unusedVariables false
set_option linter.unusedSimpArgs false
/- Joined by program: Cuts. -/
namespace Go.Proofs.YtljbfnabnkkfeaaGreat
open Go.RowKit
def findLoop (r : Nat) : Code->Option Code
 | .loop c=>if (regOps r c).isSome then some (.loop c) else none
 | .seq a b=>match findLoop r a with
   | some o=>some o
   | none=>findLoop r b
 | .cond _ a b=>match findLoop r a with
   | some o=>some o
   | none=>findLoop r b
 | .block _ c=>findLoop r c
 | .scope c=>findLoop r c
 | .rangeFunc _ _ a b=>match findLoop r a with
   | some o=>some o
   | none=>findLoop r b
 | _=>none
noncomputable def loopAt (f : Func) (r : Nat) : Code:=(f.body.bind (findLoop r)).getD .skip
def findCond (t : Nat) : Code->Option Code
 | .cond (.tmp u) a b=>if u == t then some (.cond (.tmp u) a b) else match findCond t a with
   | some o=>some o
   | none=>findCond t b
 | .cond _ a b=>match findCond t a with
   | some o=>some o
   | none=>findCond t b
 | .seq a b=>match findCond t a with
   | some o=>some o
   | none=>findCond t b
 | .block _ c=>findCond t c
 | .loop c=>findCond t c
 | .scope c=>findCond t c
 | .rangeFunc _ _ a b=>match findCond t a with
   | some o=>some o
   | none=>findCond t b
 | _=>none
noncomputable def condAt (f : Func) (t : Nat) : Code:=(f.body.bind (findCond t)).getD .skip
def findReg (r : Nat) : Code->Option Code
 | .region id ops d=>if id == r then some (.region id ops d) else none
 | .seq a b=>match findReg r a with
   | some o=>some o
   | none=>findReg r b
 | .cond _ a b=>match findReg r a with
   | some o=>some o
   | none=>findReg r b
 | .block _ c=>findReg r c
 | .loop c=>findReg r c
 | .scope c=>findReg r c
 | .rangeFunc _ _ a b=>match findReg r a with
   | some o=>some o
   | none=>findReg r b
 | _=>none
noncomputable def regAt (f : Func) (r : Nat) : Code:=(f.body.bind (findReg r)).getD .skip
end Go.Proofs.YtljbfnabnkkfeaaGreat
