/- The walk of IcmpBack. -/
import Derived.Test.YtdepibljeopcgaaDoorLIcP
import Derived.Test.YtdepibljeopcgaaDoorWMadeU
import Derived.Test.YtdepibljeopcgaaDoorWAwake10
import Derived.Test.YtdepibljeopcgaaDoorBase
namespace Go.Proofs.YtdepibljeopcgaaDoor
open Go.RowKit
set_option linter.unusedVariables false
attribute [local go_sem ↓] Go.wp_at_zero Go.wp_at_succ

theorem flip_bd10 {zs : List Int} (h : BD 255 zs) {k j : Nat} (hj : j < 8) : BD 255 (zs.set k (flipB (zs[k]?.getD 0) j)) := fun y hm => by
  have hb := h.get (by omega) k
  rcases List.mem_or_eq_of_mem_set hm with hm | rfl
  · exact h y hm
  · exact flipB_bd hb.1 hb.2 hj

end Go.Proofs.YtdepibljeopcgaaDoor
