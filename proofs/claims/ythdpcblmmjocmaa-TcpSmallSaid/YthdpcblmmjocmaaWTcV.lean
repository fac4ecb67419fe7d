import Derived.Test.YthdpcblmmjocmaaWTc1
import Derived.Test.YthdpcblmmjocmaaTcH
/- package tcp: Verify, Extent. -/
namespace Go.Proofs.Ythdpcblmmjocmaa
open Go.RowKit
set_option linter.unusedVariables false
attribute [local go_sem ↓] Go.wp_at_zero Go.wp_at_succ

set_option maxHeartbeats 2000000 in
set_option maxRecDepth 100000 in
theorem tcverify_any (A : Option Addr) (n c : Nat) (zs : List Int) (s d : Int) (w : World) (h : RD .u8 w w.heap.size A n zs) (hz : BD 255 zs) (hn : n ≤ 140737488355328) (hs : 0 ≤ s ∧ s ≤ 4294967295) (hd : 0 ≤ d ∧ d ≤ 4294967295) :
    Calls Try.prog 18 #[.slice A n c, .int .u32 s, .int .u32 d] w fun e w' => e = .returned (.bool (tV zs s d)) ∧ Below w.heap.size w w' := by
  obtain ⟨s0, s1⟩ := hs
  obtain ⟨d0, d1⟩ := hd
  have hl := h.len
  by_cases hb : 65535 < n
  · have HV := Lib.hid (show tV zs s d = false by unfold tV; rw [hl]; simp; omega)
    have t1 : (65535 : Int) < (n : Int) := by omega
    clear hl h
    go_enter Try.func18, Try.ntmps18
    go_wp2_with fail
    refine (pseudo_no s d 6 (n : Int) w (.inr t1)).mono ?_
    rintro e w1 ⟨rfl, rfl⟩
    go_wp2_with fail
    go_ret
    exact ⟨by rw [HV.out]; rfl, Below.refl _ _⟩
  have hps := tPs_bd (L := (n : Int)) ⟨s0, s1⟩ ⟨d0, d1⟩ (by omega)
  obtain ⟨p, hp⟩ : ∃ p, tPs s d (n : Int) = p := ⟨_, rfl⟩
  have HP := Lib.hid (show foldJ 0 [s / 65536, s % 65536, d / 65536, d % 65536, 6, (n : Int)] = p from hp)
  rw [hp] at hps
  obtain ⟨p0, p1⟩ := hps
  have R := Lib.hid h
  by_cases h20 : n < 20
  · have HV := Lib.hid (show tV zs s d = false by unfold tV; rw [hl]; simp; omega)
    have t1 : ¬ (20 : Int) ≤ (n : Int) := by omega
    clear hl h hp
    go_enter Try.func18, Try.ntmps18
    go_wp2_with fail
    refine (pseudo_any s d 6 (n : Int) w s0 s1 d0 d1 (by omega) (by omega) (by omega) (by omega)).mono ?_
    rintro e w1 ⟨rfl, hb1⟩
    rw [HP.out]
    go_wp2_with fail
    go_ret
    exact ⟨by rw [HV.out]; rfl, hb1⟩
  · have HV := Lib.hid (show tV zs s d = (65535 - stepJ p (sumOf zs) == 0) by
      unfold tV; rw [hl, hp]
      rw [show decide (n ≤ 65535) = true by simp; omega, show decide (20 ≤ n) = true by simp; omega]; rfl)
    have t1 : (20 : Int) ≤ (n : Int) := by omega
    clear hl h hp
    go_enter Try.func18, Try.ntmps18
    go_wp2_with fail
    refine (pseudo_any s d 6 (n : Int) w s0 s1 d0 d1 (by omega) (by omega) (by omega) (by omega)).mono ?_
    rintro e w1 ⟨rfl, hb1⟩
    rw [HP.out]
    go_wp2_with fail
    refine (over_any p p0 p1 A n c zs _ (R.out.later hb1) hz hn).mono ?_
    rintro e w2 ⟨rfl, hb2⟩
    go_wp2_with fail
    go_ret
    exact ⟨by rw [HV.out]; rfl, hb1.trans (hb2.mono hb1.size)⟩

theorem and2q : ∀ n : Nat, n < 256 → bits .and .u8 (n : Int) 2 = (n : Int) / 2 % 2 * 2 := by decide +kernel
theorem and1 : ∀ n : Nat, n < 256 → bits .and .u8 (n : Int) 1 = (n : Int) % 2 := by decide +kernel

set_option maxHeartbeats 2000000 in
set_option maxRecDepth 100000 in
theorem extent_any (f n : Int) (w : World) (hf : 0 ≤ f ∧ f ≤ 255) : Calls Try.prog 31 #[.int .u8 f, .int .i64 n] w fun e w' => e = .returned (.int .i64 (extN f n)) ∧ w = w' := by
  by_cases h0 : n < 0
  · have HX := Lib.hid (show extN f n = 0 by unfold extN; rw [if_pos (.inl h0)])
    go_enter Try.func31, Try.ntmps31
    go_wp2_with fail
    go_ret
    exact ⟨by rw [HX.out]; rfl, rfl⟩
  by_cases h1 : 65535 < n
  · have HX := Lib.hid (show extN f n = 0 by unfold extN; rw [if_pos (.inr h1)])
    go_enter Try.func31, Try.ntmps31
    go_wp2_with fail
    go_ret
    exact ⟨by rw [HX.out]; rfl, rfl⟩
  have HX := Lib.hid (show extN f n = n + f / 2 % 2 + f % 2 by unfold extN; rw [if_neg (by omega)])
  obtain ⟨k, rfl⟩ := Int.eq_ofNat_of_zero_le hf.1
  have e2 := and2q k (by omega)
  have e1 := and1 k (by omega)
  obtain ⟨a, ha⟩ : ∃ a : Int, (k : Int) / 2 % 2 = a := ⟨_, rfl⟩
  obtain ⟨b, hb⟩ : ∃ b : Int, (k : Int) % 2 = b := ⟨_, rfl⟩
  have ha2 : 0 ≤ a ∧ a < 2 := by omega
  have hb2 : 0 ≤ b ∧ b < 2 := by omega
  rw [ha] at e2 HX
  rw [hb] at e1 HX
  clear ha hb
  obtain ⟨a0, a1⟩ := ha2
  obtain ⟨b0, b1⟩ := hb2
  have e3 : IntKind.u8.wrap (a * 2 / 2) = a := by rw [u8_in _ (by omega) (by omega)]; omega
  have e5 : a * 2 / 2 = a := by omega
  have e4 : IntKind.i64.wrap a = a := IntWalk.i64_in _ (by omega)
  have e6 : IntKind.i64.wrap b = b := IntWalk.i64_in _ (by omega)
  have e7 : IntKind.i64.wrap (n + a) = n + a := IntWalk.i64_in _ (by omega)
  have e8 : IntKind.i64.wrap (n + a + b) = n + a + b := IntWalk.i64_in _ (by omega)
  go_enter Try.func31, Try.ntmps31
  go_wp2_with fail
  go_ret
  exact ⟨by rw [HX.out]; rfl, rfl⟩
end Go.Proofs.Ythdpcblmmjocmaa
