/- csum: Of, Right, Over, Never, Update, Update32, Pseudo, each for any input. -/
import Derived.Test.YtnocbpagdoihmaaWSum
namespace Go.Proofs.Ytnocbpagdoihmaa
open Go.RowKit

set_option maxHeartbeats 400000 in
theorem over_any (p : Int) (hp0 : 0 ≤ p) (hp1 : p ≤ 65535) (A : Option Addr) (n c : Nat) (zs : List Int) (w : World) (h : RD .u8 w w.heap.size A n zs) (hz : BD 255 zs) (hn : n ≤ 140737488355328) :
    Calls Try.prog 30 #[.int .u16 p, .slice A n c] w fun e w' => e = .returned (.int .u16 (65535 - stepJ p (sumOf zs))) ∧ Below w.heap.size w w' := by
  obtain ⟨hs1, hs2⟩ := sumOf_bd zs hz
  obtain ⟨hj1, hj2⟩ := stepJ_bd hp0 hp1 hs1 hs2
  have e1 := u16_not _ hj1 hj2
  have e2 := u16_signed
  have HJ := Lib.hid (foldJ_two p (sumOf zs) hp0 hp1)
  go_enter Try.func30, Try.ntmps30
  go_wp2_with (go_at_call 43; refine (sum_any _ _ _ zs _ h hz hn).mono ?_; rintro e w' ⟨rfl, hb⟩)
  refine (join_any _ 2 _ [p, sumOf zs] _ (RD.new w' .u16 26 [p, sumOf zs]) (fun y hy => by simp at hy; omega) (by omega)).mono ?_
  rintro e w1 ⟨rfl, rfl⟩
  rw [HJ.out]
  go_wp2_with fail
  go_ret
  exact ⟨rfl, hb.alloc hb.size _⟩

set_option maxHeartbeats 400000 in
theorem never_any (x : Int) (w : World) :
    Calls Try.prog 29 #[.int .u16 x] w fun e w' => e = .returned (.int .u16 (if x = 0 then 65535 else x)) ∧ w = w' := by
  by_cases h : x = 0
  · subst h
    go_enter Try.func29, Try.ntmps29
    go_wp2
    go_ret
    exact ⟨rfl, rfl⟩
  · have h' : (x == 0) = false := by simp [h]
    go_enter Try.func29, Try.ntmps29
    go_wp2
    go_ret
    exact ⟨rfl, rfl⟩

set_option maxHeartbeats 400000 in
theorem pseudo_any (a b c d : Int) (w : World) (ha : 0 ≤ a) (ha' : a ≤ 4294967295) (hb : 0 ≤ b) (hb' : b ≤ 4294967295) (hc : 0 ≤ c) (hc' : c ≤ 255) (hd : 0 ≤ d) (hd' : d ≤ 65535) :
    Calls Try.prog 28 #[.int .u32 a, .int .u32 b, .int .u8 c, .int .i64 d] w fun e w' => e = .returned (.tuple #[.int .u16 (foldJ 0 [a / 65536, a % 65536, b / 65536, b % 65536, c, d]), .int .i64 0]) ∧ Below w.heap.size w w' := by
  have e1 := u16_mod a
  have e2 := u16_mod b
  have hB : BD 65535 [a / 65536, a % 65536, b / 65536, b % 65536, c, d] := fun y hy => by simp at hy; omega
  go_enter Try.func28, Try.ntmps28
  go_wp2_with fail
  refine (join_any _ 6 _ [a / 65536, a % 65536, b / 65536, b % 65536, c, d] _ (RD.new w .u16 26 _) hB (by omega)).mono ?_
  rintro e w1 ⟨rfl, rfl⟩
  go_wp2_with fail
  go_ret2
  exact ⟨rfl, (Below.refl _ _).alloc (Nat.le_refl _) _⟩

set_option maxHeartbeats 400000 in
theorem pseudo_no (a b c d : Int) (w : World) (hd : d < 0 ∨ 65535 < d) :
    Calls Try.prog 28 #[.int .u32 a, .int .u32 b, .int .u8 c, .int .i64 d] w fun e w' => e = .returned (.tuple #[.int .u16 0, .int .i64 2]) ∧ w = w' := by
  go_enter Try.func28, Try.ntmps28
  go_wp2_with fail
  all_goals (go_ret2; exact ⟨rfl, rfl⟩)

end Go.Proofs.Ytnocbpagdoihmaa
