import Derived.Test.YthdpcblmmjocmaaProg
import Derived.Test.YthdpcblmmjocmaaBase
import Derived.Deep.QuietTactic
/- bafflekit.Pick. -/
namespace Go.Proofs.Ythdpcblmmjocmaa
open Go.RowKit
set_option linter.unusedVariables false

set_option maxHeartbeats 1000000 in
/-- Pick -/
theorem pick_any (q m : Int) (w : World) (hm : 0 < m ∧ m ≤ 65536) (hq : -9223372036854775808 ≤ q ∧ q ≤ 9223372036854775807) :
    Calls Try.prog 30 #[.int .i64 q, .int .i64 m] w fun e w' => (∃ k : Nat, (k : Int) < m ∧ e = .returned (.int .i64 (k : Int))) ∧ w = w' := by
  obtain ⟨m0, m1⟩ := hm
  have h1 : q.tmod m < m := Int.tmod_lt_of_pos q m0
  have h2 : -m < q.tmod m := Int.lt_tmod_of_pos q m0
  obtain ⟨r, hr⟩ : ∃ r, q.tmod m = r := ⟨_, rfl⟩
  rw [hr] at h1 h2
  have hne : (m == 0) = false := by simp; omega
  have hw : IntKind.i64.wrap r = r := IntWalk.i64_in _ (by omega)
  have t1 : ¬ m < 1 := by omega
  by_cases hr0 : r < 0
  · go_enter Try.func30, Try.ntmps30
    go_wp2_with fail
    go_ret
    refine ⟨⟨(r + m).toNat, by omega, ?_⟩, rfl⟩
    rw [show (((r + m).toNat : Nat) : Int) = r + m by omega]; rfl
  · go_enter Try.func30, Try.ntmps30
    go_wp2_with fail
    go_ret
    refine ⟨⟨r.toNat, by omega, ?_⟩, rfl⟩
    rw [show ((r.toNat : Nat) : Int) = r by omega]; rfl

end Go.Proofs.Ythdpcblmmjocmaa
