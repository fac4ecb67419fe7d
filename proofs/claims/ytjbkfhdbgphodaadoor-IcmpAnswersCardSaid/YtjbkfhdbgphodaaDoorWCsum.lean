/- csum: Of, Right, Over, Never, Update, Update32, Pseudo, each for any input. -/
import Derived.Test.YtjbkfhdbgphodaaDoorWSum
namespace Go.Proofs.YtjbkfhdbgphodaaDoor
open Go.RowKit

set_option maxHeartbeats 400000 in
theorem of_any (A : Option Addr) (n c : Nat) (zs : List Int) (w : World) (h : RD .u8 w w.heap.size A n zs) (hz : BD 255 zs) (hn : n ≤ 140737488355328) :
    Calls Tryd.prog 66 #[.slice A n c] w fun e w' => e = .returned (.int .u16 (65535 - sumOf zs)) ∧ Below w.heap.size w w' := by
  obtain ⟨hs1, hs2⟩ := sumOf_bd zs hz
  have e1 := u16_not _ hs1 hs2
  have e2 := u16_signed
  go_enter Tryd.func66, Tryd.ntmps66
  go_wp2_with (go_at_call 84; refine (sum_any _ _ _ zs _ h hz hn).mono ?_; rintro e w' ⟨rfl, hb⟩)
  go_ret
  exact ⟨rfl, hb⟩

set_option maxHeartbeats 400000 in
theorem right_any (A : Option Addr) (n c : Nat) (zs : List Int) (w : World) (h : RD .u8 w w.heap.size A n zs) (hz : BD 255 zs) (hn : n ≤ 140737488355328) :
    Calls Tryd.prog 41 #[.slice A n c] w fun e w' => e = .returned (.bool (sumOf zs == 65535)) ∧ Below w.heap.size w w' := by
  obtain ⟨hs1, hs2⟩ := sumOf_bd zs hz
  have e1 : (65535 - sumOf zs == 0) = (sumOf zs == 65535) := by rw [Bool.eq_iff_iff]; simp; omega
  go_enter Tryd.func41, Tryd.ntmps41
  go_wp2_with (go_at_call 66; refine (of_any _ _ _ zs _ h hz hn).mono ?_; rintro e w' ⟨rfl, hb⟩)
  go_ret
  exact ⟨rfl, hb⟩

end Go.Proofs.YtjbkfhdbgphodaaDoor
