import Derived.Test.YthdpcblmmjocmaaWAwake8
import Derived.Test.YthdpcblmmjocmaaWPick
/- The walk of TcpFlags. -/
namespace Go.Proofs.Ythdpcblmmjocmaa
open Go.RowKit
set_option linter.unusedVariables false
attribute [local go_sem ↓] Go.wp_at_zero Go.wp_at_succ

theorem and232 : ∀ b : Nat, b < 256 → bits .and .u8 (b : Int) 232 = ((b &&& 232 : Nat) : Int) := by decide +kernel
theorem or16 : ∀ b : Nat, b < 256 → bits .or .u8 (b : Int) 16 = ((b ||| 16 : Nat) : Int) := by decide +kernel
theorem or3s : ∀ b : Nat, b < 256 → ∀ k : Nat, k < 3 → bits .or .u8 (b : Int) ([6, 3, 5][k]?.getD 0) = ((b ||| ([6, 3, 5][k]?.getD 0) : Nat) : Int) := by decide +kernel
theorem sane_xor : ∀ a : Nat, a < 256 → ∀ m : Nat, m < 32 → saneB ((a ^^^ (m / 16 * 128 + m / 8 % 2 * 64 + m / 4 % 2 * 32 + m / 2 % 2 * 8) : Nat) : Int) = saneB (a : Int) := by decide +kernel
theorem and_form : ∀ b : Nat, b < 256 → ∃ m : Nat, m < 32 ∧ b &&& 232 = m / 16 * 128 + m / 8 % 2 * 64 + m / 4 % 2 * 32 + m / 2 % 2 * 8 := by decide +kernel
theorem sane_or : ∀ a : Nat, a < 256 → saneB (a : Int) = true → saneB ((a ||| 16 : Nat) : Int) = true := by decide +kernel
theorem sane_two : ∀ a : Nat, a < 256 → ∀ k : Nat, k < 3 → saneB ((a ||| ([6, 3, 5][k]?.getD 0) : Nat) : Int) = false := by decide +kernel
theorem or_lt : ∀ a : Nat, a < 256 → ∀ k : Nat, k < 3 → (a ||| ([6, 3, 5][k]?.getD 0)) < 256 := by decide +kernel
theorem or16_lt : ∀ a : Nat, a < 256 → (a ||| 16) < 256 := by decide +kernel

set_option maxHeartbeats 4000000 in
set_option maxRecDepth 100000 in
theorem tcpFlags_walk (f o n : Int) (w : World) (hf : 0 ≤ f ∧ f ≤ 255) (ho : 0 ≤ o ∧ o ≤ 255) (hn : -9223372036854775808 ≤ n ∧ n ≤ 9223372036854775807) :
    Calls Try.prog 11 #[.int .u8 f, .int .u8 o, .int .i64 n] w fun e w' => e = .returned (.bool true) ∧ Below w.heap.size w w' := by
  obtain ⟨a, rfl⟩ := Int.eq_ofNat_of_zero_le hf.1
  obtain ⟨b, rfl⟩ := Int.eq_ofNat_of_zero_le ho.1
  have ha : a < 256 := by omega
  obtain ⟨m, hm, hmf⟩ := and_form b (by omega)
  have e1 := and232 b (by omega)
  have hlt : a ^^^ (b &&& 232) < 256 := Nat.xor_lt_two_pow (n := 8) (by omega) (by rw [hmf]; omega)
  have hx := sane_xor a ha m hm
  rw [← hmf] at hx
  have e2 : bits .xor .u8 (a : Int) ((b &&& 232 : Nat) : Int) = ((a ^^^ (b &&& 232) : Nat) : Int) := u8_xor_nat a (b &&& 232) (by omega) (by rw [hmf]; omega)
  have e3 := or16 a ha
  have l16 := or16_lt a ha
  have a2 := and2q a ha
  have a1 := and1 a ha
  have HE2 := Lib.hid (extent_any (a : Int))
  have T3 := Lib.hid (fun k (hk : k < 3) => And.intro (or3s a ha k hk) (And.intro (sane_two a ha k hk) (or_lt a ha k hk)))
  have HO := Lib.hid (sane_or a ha)
  have HX := Lib.hid hx
  generalize b &&& 232 = c at *
  generalize a ^^^ c = x at *
  generalize a ||| 16 = y at *
  clear hmf hx
  cases hs : saneB (a : Int)
  all_goals
    have HS := Lib.hid hs
    clear hs
    go_enter Try.func11, Try.ntmps11
    go_wp2_with fail
    refine (awake8_any _).mono ?_
    rintro e w1 ⟨rfl, hb1⟩
    have HB := Lib.hid hb1
    clear hb1
    go_wp2_with fail
    refine (sane_any (a : Int) _ (by omega)).mono ?_
    rintro e w2 ⟨rfl, rfl⟩
    rw [HS.out]
    go_wp2_with fail
    refine (sane_any (x : Int) _ (by omega)).mono ?_
    rintro e w2 ⟨rfl, rfl⟩
    rw [HX.out, HS.out]
    go_wp2_with (go_at_call 20; refine (sane_any (y : Int) _ (by omega)).mono ?_; rintro e w2 ⟨rfl, rfl⟩; rw [HO.out HS.out])
    have X := Lib.hid ((SP.start w1).allocI .u8 5 [6, 3, 5] (by decide))
    change Code.wp _ _ _ _ (w1.alloc (.cells (([6, 3, 5] : List Int).map (Value.int .u8)).toArray 5))
    generalize w1.alloc (.cells (([6, 3, 5] : List Int).map (Value.int .u8)).toArray 5) = w3 at X ⊢
    obtain ⟨G, hG⟩ : ∃ G, G = w1.heap.size := ⟨_, rfl⟩
    rw [← hG] at X ⊢
    have HB3 := Lib.hid (HB.out.trans (X.out.bel.mono HB.out.size))
    clear hG HB
    go_loop [34] (fun i => ∃ k : Nat, k ≤ 3 ∧ i = .int .i64 k) (fun i => 3 - (intOf i).toNat)
    case atStart => exact ⟨0, by omega, rfl⟩
    case round =>
      obtain ⟨k, hk, rfl⟩ := hrel
      by_cases hlt : k < 3
      · have x0 : w3.cell? ⟨G, k, none⟩ = some (.int .u8 ([6, 3, 5][k]?.getD 0)) := (X.out.own 0 rfl).cell (i := k) hlt
        obtain ⟨q1, q2, q3⟩ := T3.out k hlt
        generalize ([6, 3, 5] : List Int)[k]?.getD 0 = v at x0 q1
        generalize a ||| ([6, 3, 5] : List Nat)[k]?.getD 0 = z at q1 q2 q3
        have HQ := Lib.hid q2
        have i1 : (k : Int) < 3 := by omega
        clear q2
        go_wp2_with fail
        refine (sane_any (z : Int) _ (by omega)).mono ?_
        rintro e w2 ⟨rfl, rfl⟩
        rw [HQ.out]
        go_wp2_with fail
        go_round
        case rel => exact ⟨k + 1, by omega, by go_num⟩
        case measure => simp [intOf]; omega
      · obtain rfl : k = 3 := by omega
        go_wp2_with fail
        refine (pick_any n 65536 _ ⟨by omega, by omega⟩ hn).mono ?_
        rintro e w2 ⟨⟨p, hp, rfl⟩, rfl⟩
        have hp' : (p : Int) ≤ 65535 := by omega
        obtain ⟨mn, hmn⟩ : ∃ mn : Int, (if -1 < n then (-1 : Int) else n) = mn := ⟨_, rfl⟩
        obtain ⟨mx, hmx⟩ : ∃ mx : Int, (if n < (65536 : Int) then (65536 : Int) else n) = mx := ⟨_, rfl⟩
        obtain ⟨u, hu⟩ : ∃ u : Int, (a : Int) / 2 % 2 = u := ⟨_, rfl⟩
        obtain ⟨v, hv⟩ : ∃ v : Int, (a : Int) % 2 = v := ⟨_, rfl⟩
        have hu2 : u = 0 ∨ u = 1 := by omega
        have hv2 : v = 0 ∨ v = 1 := by omega
        have HEp := Lib.hid (show extN (a : Int) (p : Int) = p + (u + v) by unfold extN; rw [if_neg (by omega), hu, hv]; omega)
        have HEn := Lib.hid (show extN (a : Int) mn = 0 by unfold extN; rw [if_pos (.inl (by split at hmn <;> omega))])
        have HEx := Lib.hid (show extN (a : Int) mx = 0 by unfold extN; rw [if_pos (.inr (by split at hmx <;> omega))])
        rw [hu] at a2
        rw [hv] at a1
        clear hu hv T3 HO HX e1 e2 e3
        rcases hu2 with rfl | rfl <;> rcases hv2 with rfl | rfl
        all_goals
          go_wp2_with fail
          refine (HE2.out (p : Int) _ (by omega)).mono ?_
          rintro e w2 ⟨rfl, rfl⟩
          rw [HEp.out]
          simp only [Int.reduceAdd, Int.add_zero]
          have t0 : ((p : Int) == (p : Int)) = true := by simp
          have t1 : ((p : Int) + 1 == (p : Int) + 1) = true := by simp
          have t2 : ((p : Int) + 2 == (p : Int) + 2) = true := by simp
          go_wp2_with fail
          refine (HE2.out mn _ (by omega)).mono ?_
          rintro e w2 ⟨rfl, rfl⟩
          rw [HEn.out]
          go_wp2_with fail
          refine (HE2.out mx _ (by omega)).mono ?_
          rintro e w2 ⟨rfl, rfl⟩
          rw [HEx.out]
          go_wp2_with fail
          go_ret
          exact ⟨rfl, HB3.out⟩
end Go.Proofs.Ythdpcblmmjocmaa
