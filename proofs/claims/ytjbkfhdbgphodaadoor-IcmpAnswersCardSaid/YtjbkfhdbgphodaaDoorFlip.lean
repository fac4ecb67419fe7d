/- One bit changed: of a byte, of a word, of bytes that are summed up. No program in sight. -/
import Derived.Test.YtjbkfhdbgphodaaDoorLaw2
import Derived.Test.YtjbkfhdbgphodaaDoorMem
import Derived.Test.YtjbkfhdbgphodaaDoorBits
namespace Go.Proofs.YtjbkfhdbgphodaaDoor
open Go.RowKit

def flipB (x : Int) (j : Nat) : Int := if x / 2 ^ j % 2 = 0 then x + 2 ^ j else x - 2 ^ j
theorem xor_flip : ∀ a : Nat, a < 256 → ∀ j : Nat, j < 8 → ((a ^^^ 2 ^ j : Nat) : Int) = flipB (a : Int) j := by decide +kernel
theorem u8_xor_bit (x : Int) (h0 : 0 ≤ x) (h1 : x ≤ 255) (j : Nat) (hj : j < 8) : bits .xor .u8 x (2 ^ j) = flipB x j := by
  obtain ⟨a, rfl⟩ := Int.eq_ofNat_of_zero_le h0
  have hp : (2 : Nat) ^ j < 256 := Nat.pow_lt_pow_right (m := 2) (n := j) (a := 2) |> fun _ => by
    have : (2 : Nat) ^ j ≤ 2 ^ 7 := Nat.pow_le_pow_right (by omega) (by omega)
    omega
  have := u8_xor_nat a (2 ^ j) (by omega) hp
  rw [show ((2 : Int) ^ j) = ((2 ^ j : Nat) : Int) by simp, this]
  exact xor_flip a (by omega) j hj
theorem flipB_bd {x : Int} (h0 : 0 ≤ x) (h1 : x ≤ 255) {j : Nat} (hj : j < 8) : 0 ≤ flipB x j ∧ flipB x j ≤ 255 := by
  unfold flipB
  rcases (show j = 0 ∨ j = 1 ∨ j = 2 ∨ j = 3 ∨ j = 4 ∨ j = 5 ∨ j = 6 ∨ j = 7 by omega) with rfl | rfl | rfl | rfl | rfl | rfl | rfl | rfl
  all_goals (split <;> omega)
theorem flipB_far (x : Int) {j : Nat} (hj : j < 8) : (flipB x j - x = 2 ^ j ∨ flipB x j - x = - 2 ^ j) ∧ 1 ≤ (2 : Int) ^ j ∧ (2 : Int) ^ j ≤ 128 := by
  unfold flipB
  rcases (show j = 0 ∨ j = 1 ∨ j = 2 ∨ j = 3 ∨ j = 4 ∨ j = 5 ∨ j = 6 ∨ j = 7 by omega) with rfl | rfl | rfl | rfl | rfl | rfl | rfl | rfl
  all_goals (split <;> omega)

theorem wsum_set : ∀ (ys : List Int) (k : Nat) (x : Int), k < ys.length → wsum (ys.set k x) = wsum ys + (x - ys[k]?.getD 0) * (if k % 2 = 0 then 256 else 1)
  | [], k, x, h => by simp at h
  | [a], k, x, h => by
    obtain rfl : k = 0 := by simp at h; omega
    simp [wsum, wordsOf, isum]; omega
  | a :: b :: l, 0, x, h => by
    simp only [List.set_cons_zero, wsum_cons2, List.getElem?_cons_zero, Option.getD_some, Nat.zero_mod, if_true]
    omega
  | a :: b :: l, 1, x, h => by
    simp only [List.set_cons_succ, List.set_cons_zero, wsum_cons2, List.getElem?_cons_succ, List.getElem?_cons_zero, Option.getD_some]
    rw [if_neg (by omega)]
    omega
  | a :: b :: l, k + 2, x, h => by
    simp only [List.set_cons_succ, wsum_cons2, List.getElem?_cons_succ]
    rw [wsum_set l k x (by simp at h; omega), show (k + 2) % 2 = k % 2 by omega]
    omega

/-- one bit of right bytes changed: they are right no longer -/
theorem flip_wrong {ys : List Int} (hy : BD 255 ys) (hr : sumOf ys = 65535) {k j : Nat} (hk : k < ys.length) (hj : j < 8) : sumOf (ys.set k (flipB (ys[k]?.getD 0) j)) ≠ 65535 := by
  have hb := hy.get (by omega) k
  have hf := flipB_bd hb.1 hb.2 hj
  have hy' : BD 255 (ys.set k (flipB (ys[k]?.getD 0) j)) := fun y hm => by
    rcases List.mem_or_eq_of_mem_set hm with hm | rfl
    · exact hy y hm
    · exact hf
  have hn := wsum_nonneg hy
  have hn' := wsum_nonneg hy'
  rw [sumOf_eq hy, foldR_all hn] at hr
  rw [sumOf_eq hy']
  intro h
  rw [foldR_all hn', wsum_set ys k _ hk] at h
  obtain ⟨f1, f2, f3⟩ := flipB_far (ys[k]?.getD 0) hj
  generalize flipB (ys[k]?.getD 0) j - ys[k]?.getD 0 = d at h f1
  generalize (2 : Int) ^ j = q at f1 f2 f3
  split at h <;> omega

theorem xor_mod2 (a b : Nat) : (a ^^^ b) % 2 = (a + b) % 2 := by
  have h := Nat.xor_mod_two_pow (a := a) (b := b) (n := 1)
  simp only [Nat.pow_one] at h
  rw [h]
  rcases Nat.mod_two_eq_zero_or_one a with ha | ha <;> rcases Nat.mod_two_eq_zero_or_one b with hb | hb <;> rw [ha, hb, Nat.add_mod, ha, hb] <;> rfl
theorem xor_div2 (a b : Nat) : (a ^^^ b) / 2 = a / 2 ^^^ b / 2 := by
  have h := Nat.xor_div_two_pow (a := a) (b := b) (n := 1)
  simpa only [Nat.pow_one] using h
theorem nat_flip : ∀ (r a : Nat), (a ^^^ 2 ^ r) = if a / 2 ^ r % 2 = 0 then a + 2 ^ r else a - 2 ^ r
  | 0, a => by
    have h1 := xor_div2 a 1
    have h2 := xor_mod2 a 1
    simp at h1
    simp only [Nat.pow_zero, Nat.div_one]
    split <;> omega
  | r + 1, a => by
    have h1 := xor_div2 a (2 ^ (r + 1))
    have h2 := xor_mod2 a (2 ^ (r + 1))
    have e : 2 ^ (r + 1) = 2 * 2 ^ r := by rw [Nat.pow_succ]; omega
    rw [e, Nat.mul_div_cancel_left _ (by omega), nat_flip r (a / 2)] at h1
    rw [e] at h2 ⊢
    rw [← Nat.div_div_eq_div_mul]
    have hq : 0 < 2 ^ r := Nat.two_pow_pos r
    generalize 2 ^ r = q at *
    have hle : a / 2 / q % 2 ≠ 0 → q ≤ a / 2 := fun h => by
      rcases Nat.lt_or_ge (a / 2) q with hlt | hge
      · rw [Nat.div_eq_of_lt hlt] at h; exact absurd rfl h
      · exact hge
    split
    · next h => rw [if_pos h] at h1; omega
    · next h => rw [if_neg h] at h1; have := hle h; omega

/-- a word of 32 bits with one bit changed: how its two halves differ -/
theorem flip32 (s : Int) (h0 : 0 ≤ s) (h1 : s ≤ 4294967295) (r : Nat) (hr : r < 32) :
    ∃ s' d : Int, bits .xor .u32 s (2 ^ r) = s' ∧ 0 ≤ s' ∧ s' ≤ 4294967295 ∧ s' / 65536 + s' % 65536 = s / 65536 + s % 65536 + d ∧ (d = 2 ^ (r % 16) ∨ d = - 2 ^ (r % 16)) ∧ 1 ≤ (2 : Int) ^ (r % 16) ∧ (2 : Int) ^ (r % 16) ≤ 32768 := by
  obtain ⟨a, rfl⟩ := Int.eq_ofNat_of_zero_le h0
  have hp : (2 : Nat) ^ r ≤ 2 ^ 31 := Nat.pow_le_pow_right (by omega) (by omega)
  have hx := u32_xor_nat a (2 ^ r) (by omega) (by omega)
  rw [show ((2 : Int) ^ r) = ((2 ^ r : Nat) : Int) by simp, hx, nat_flip r a]
  obtain ⟨b, hb⟩ : ∃ b, b = if a / 2 ^ r % 2 = 0 then a + 2 ^ r else a - 2 ^ r := ⟨_, rfl⟩
  rw [← hb]
  refine ⟨(b : Int), (b : Int) / 65536 + (b : Int) % 65536 - ((a : Int) / 65536 + (a : Int) % 65536), rfl, by omega, ?_⟩
  clear hx hp
  rcases (show r = 0 ∨ r = 1 ∨ r = 2 ∨ r = 3 ∨ r = 4 ∨ r = 5 ∨ r = 6 ∨ r = 7 ∨ r = 8 ∨ r = 9 ∨ r = 10 ∨ r = 11 ∨ r = 12 ∨ r = 13 ∨ r = 14 ∨ r = 15 ∨ r = 16 ∨ r = 17 ∨ r = 18 ∨ r = 19 ∨ r = 20 ∨ r = 21 ∨ r = 22 ∨ r = 23 ∨ r = 24 ∨ r = 25 ∨ r = 26 ∨ r = 27 ∨ r = 28 ∨ r = 29 ∨ r = 30 ∨ r = 31 by omega) with rfl | rfl | rfl | rfl | rfl | rfl | rfl | rfl | rfl | rfl | rfl | rfl | rfl | rfl | rfl | rfl | rfl | rfl | rfl | rfl | rfl | rfl | rfl | rfl | rfl | rfl | rfl | rfl | rfl | rfl | rfl | rfl
  all_goals
    simp only [Nat.reducePow, Nat.reduceMod, Int.reducePow] at hb ⊢
    split at hb <;> omega
end Go.Proofs.YtjbkfhdbgphodaaDoor
