/- slices.Clone and csum.Fix. -/
import Derived.Test.YtnocbpagdoihmaaWCsum
import Derived.Test.YtnocbpagdoihmaaOwn
import Derived.WalkSpells
namespace Go.Proofs.Ytnocbpagdoihmaa
open Go.RowKit
set_option linter.unusedVariables false

theorem infoU8 : (Try.prog.info? 5).map (fun i => (i.zero, i.size, i.bytes)) = some (some (.int .u8 0), 1, 1) := by kernel_rfl

/-- what Clone leaves -/
def Fresh (w : World) (zs : List Int) (e : Ending) (w' : World) : Prop :=
  ∃ A n c, e = .returned (.slice A n c) ∧ OWN .u8 5 w' w.heap.size A n c zs ∧ Below w.heap.size w w'

/-- what Fix leaves -/
def Fixed (w : World) (zs : List Int) (e : Ending) (w' : World) : Prop :=
  ∃ A n c, e = .returned (.tuple #[.slice A n c, .int .i64 0]) ∧ OWN .u8 5 w' w.heap.size A n c zs ∧ Below w.heap.size w w'

theorem set_getD (zs : List Int) (i j : Nat) (x : Int) (h : i ≠ j) : (zs.set i x)[j]?.getD 0 = zs[j]?.getD 0 := by rw [List.getElem?_set_ne h]

end Go.Proofs.Ytnocbpagdoihmaa
