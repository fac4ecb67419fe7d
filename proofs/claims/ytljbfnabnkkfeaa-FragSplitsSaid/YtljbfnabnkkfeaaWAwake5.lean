/- The examples of the chapter on headers of IPv4: awake returns true. -/
import Derived.Test.YtljbfnabnkkfeaaWSame5
import Derived.Test.YtljbfnabnkkfeaaWIpTurn
import Derived.Test.YtljbfnabnkkfeaaBase
namespace Go.Proofs.Ytljbfnabnkkfeaa
open Go.RowKit
set_option linter.unusedVariables false

def EX5 : List Int := [69, 0, 0, 22, 0, 1, 0, 0, 64, 17, 102, 212, 10, 0, 0, 1, 10, 0, 0, 2, 7, 8]
def EX5b : List Int := [69, 0, 0, 22, 0, 1, 0, 0, 64, 17, 102, 211, 10, 0, 0, 1, 10, 0, 0, 2, 7, 8]
def EX5h : List Int := [69, 0, 0, 22, 0, 1, 0, 0, 63, 17, 103, 212, 10, 0, 0, 1, 10, 0, 0, 2, 7, 8]
def HD5 : HD := ⟨0, 1, false, false, 0, 64, 17, 167772161, 167772162⟩
def HD5m : HD := ⟨0, 1, false, true, 0, 64, 17, 167772161, 167772162⟩
def HD5f : HD := ⟨0, 1, false, false, 65528, 64, 17, 167772161, 167772162⟩
theorem HD5_wf : HD5.WF := ⟨by decide, by decide, by decide, by decide, by decide, by decide, by decide⟩
theorem EX5_fault : faultR EX5 = 7 := by decide
theorem EX5b_fault : faultR EX5b = 4 := by decide
theorem EX5_pkt : pktB HD5 [] [7, 8] = EX5 := by decide
theorem EX5_hop : hopB EX5 = EX5h := by decide
theorem EX5_hd : hdR EX5 = HD5 := by unfold hdR; rw [if_pos EX5_fault]; rfl
theorem EX5_opts : optsR EX5 = [] := by decide
theorem EX5_from : fromR EX5 = 20 := by decide
theorem EX5_to : toR EX5 = 22 := by decide
theorem EX5_e : ipE EX5 = 0 := by decide
theorem EX5b_e : ipE EX5b = 54 := by decide
theorem EX5_hopE : hopE EX5 = 0 := by decide
theorem EX5_bd : BD 255 EX5 := bd_all (by decide)
theorem EX5b_bd : BD 255 EX5b := bd_all (by decide)
theorem EX5_wB : wrB HD5 [] [7, 8] = EX5 := by decide
theorem EX5_wE : wrE HD5 0 2 = 0 := by decide
theorem EX5_wEm : wrE HD5m 0 2 = 2 := by decide
theorem EX5_wEf : wrE HD5f 0 2 = 2 := by decide
theorem HD5m_wf : HD5m.WF := ⟨by decide, by decide, by decide, by decide, by decide, by decide, by decide⟩
theorem HD5f_wf : HD5f.WF := ⟨by decide, by decide, by decide, by decide, by decide, by decide, by decide⟩
theorem EX5_set : EX5.set 11 211 = EX5b := by decide
theorem EX5b_hd : hdR EX5b = HD.zero := by unfold hdR; rw [if_neg (by rw [EX5b_fault]; decide)]

end Go.Proofs.Ytljbfnabnkkfeaa
