/- csum: Of, Right, Over, Never, Update, Update32, Pseudo, each for any input. -/
import Derived.Test.YtpfmecdldoehoaaWSum
namespace Go.Proofs.Ytpfmecdldoehoaa
open Go.RowKit

set_option maxHeartbeats 400000 in
theorem of_any (A : Option Addr) (n c : Nat) (zs : List Int) (w : World) (h : RD .u8 w w.heap.size A n zs) (hz : BD 255 zs) (hn : n ≤ 140737488355328) :
    Calls Try.prog 45 #[.slice A n c] w fun e w' => e = .returned (.int .u16 (65535 - sumOf zs)) ∧ Below w.heap.size w w' := by
  obtain ⟨hs1, hs2⟩ := sumOf_bd zs hz
  have e1 := u16_not _ hs1 hs2
  have e2 := u16_signed
  go_enter Try.func45, Try.ntmps45
  go_wp2_with (go_at_call 57; refine (sum_any _ _ _ zs _ h hz hn).mono ?_; rintro e w' ⟨rfl, hb⟩)
  go_ret
  exact ⟨rfl, hb⟩

set_option maxHeartbeats 400000 in
theorem right_any (A : Option Addr) (n c : Nat) (zs : List Int) (w : World) (h : RD .u8 w w.heap.size A n zs) (hz : BD 255 zs) (hn : n ≤ 140737488355328) :
    Calls Try.prog 19 #[.slice A n c] w fun e w' => e = .returned (.bool (sumOf zs == 65535)) ∧ Below w.heap.size w w' := by
  obtain ⟨hs1, hs2⟩ := sumOf_bd zs hz
  have e1 : (65535 - sumOf zs == 0) = (sumOf zs == 65535) := by rw [Bool.eq_iff_iff]; simp; omega
  go_enter Try.func19, Try.ntmps19
  go_wp2_with (go_at_call 45; refine (of_any _ _ _ zs _ h hz hn).mono ?_; rintro e w' ⟨rfl, hb⟩)
  go_ret
  exact ⟨rfl, hb⟩

set_option maxHeartbeats 400000 in
theorem update_any (a b c : Int) (w : World) (ha : 0 ≤ a) (ha' : a ≤ 65535) (hb : 0 ≤ b) (hb' : b ≤ 65535) (hc : 0 ≤ c) (hc' : c ≤ 65535) :
    Calls Try.prog 22 #[.int .u16 a, .int .u16 b, .int .u16 c] w fun e w' => e = .returned (.int .u16 (upd a b c)) ∧ Below w.heap.size w w' := by
  have e1 := u16_not _ ha ha'
  have e2 := u16_not _ hb hb'
  have e3 := u16_signed
  have hB : BD 65535 [65535 - a, 65535 - b, c] := fun y hy => by simp at hy; omega
  obtain ⟨hj1, hj2⟩ := foldJ_bd [65535 - a, 65535 - b, c] (s := 0) (by omega) (by omega) hB
  have e4 := u16_not _ hj1 hj2
  go_enter Try.func22, Try.ntmps22
  go_wp2_with fail
  refine (join_any _ 3 _ [65535 - a, 65535 - b, c] _ (RD.new w .u16 26 _) hB (by omega)).mono ?_
  rintro e w1 ⟨rfl, rfl⟩
  go_wp2_with fail
  go_ret
  exact ⟨rfl, (Below.refl _ _).alloc (Nat.le_refl _) _⟩

end Go.Proofs.Ytpfmecdldoehoaa
