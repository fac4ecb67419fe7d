/- The reference of chapter 10: types, messages, answers. (Printed by gen_ref10.py.) -/
import Derived.Test.YtdepibljeopcgaaDoorWIc6
import Derived.Test.YtdepibljeopcgaaDoorWBase
import Derived.Test.YtdepibljeopcgaaDoorWTells2
import Derived.Test.YtdepibljeopcgaaDoorBase
namespace Go.Proofs.YtdepibljeopcgaaDoor
open Go.RowKit
set_option linter.unusedVariables false
attribute [local go_sem ↓] Go.wp_at_zero Go.wp_at_succ

theorem sKind_not3 (t : Nat) (h8 : t ≠ 8) (h13 : t ≠ 13) (h17 : t ≠ 17) : sKind t ≠ 3 := by
  rcases Nat.lt_or_ge t 19 with h | h
  · have : ∀ t, t < 19 → t ≠ 8 → t ≠ 13 → t ≠ 17 → sKind t ≠ 3 := by decide
    exact this t h h8 h13 h17
  · rw [sKind_big h]; decide

end Go.Proofs.YtdepibljeopcgaaDoor
