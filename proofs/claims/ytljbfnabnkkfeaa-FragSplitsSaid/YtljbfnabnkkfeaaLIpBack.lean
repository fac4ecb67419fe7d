/- The walk of IpBack. (Printed by gen_ipback.py.) -/
import Derived.Test.YtljbfnabnkkfeaaBase
import Derived.Test.YtljbfnabnkkfeaaLIpBk
import Derived.Test.YtljbfnabnkkfeaaWMade5
import Derived.Test.YtljbfnabnkkfeaaWAwake5
import Derived.Test.YtljbfnabnkkfeaaWFull
namespace Go.Proofs.Ytljbfnabnkkfeaa
open Go.RowKit
set_option linter.unusedVariables false

/-- what the packet reads as, whatever follows -/
theorem read_pkt {H : HD} {opts data more : List Int} {on n5 dn : Nat} (hwf : H.WF) (bo : BD 255 opts) (hr : Rightly H.off H.mf opts.length data.length) (h1 : opts.length = on) (h2 : data.length = dn) (h3 : 20 + on + dn = n5) :
    ipE (pktB H opts data ++ more) = 0 ∧ hdR (pktB H opts data ++ more) = H ∧ fromR (pktB H opts data ++ more) = 20 + on ∧ toR (pktB H opts data ++ more) = n5 ∧ optsR (pktB H opts data ++ more) = opts := by
  have hP : PARSED H opts data (pktB H opts data ++ more) := parse_pkt hwf bo hr
  refine ⟨ipE_eq hP.fault, ?_, ?_, ?_, ?_⟩
  · unfold hdR; rw [if_pos hP.fault]; exact hP.hdE
  · unfold fromR; rw [if_pos hP.fault, hP.size, h1]
  · unfold toR; rw [if_pos hP.fault, hP.total, h1, h2]; exact h3
  · unfold optsR; rw [if_pos hP.fault]; exact hP.opE

theorem hcells_one (H : HD) (A : Option Addr) (n c : Nat) : (H.cells (.slice A n c)).all (·.oneCell') = true := by
  unfold HD.cells
  simp [Value.oneCell']

end Go.Proofs.Ytljbfnabnkkfeaa
