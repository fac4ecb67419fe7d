/- Bits on small numbers: masks and joined bytes, as remainders and sums. No program in sight. -/
import Derived.WalkKit
namespace Go.Proofs.YtjbkfhdbgphodaaDoor
open Go.RowKit

theorem u16_in (a : Int) (h0 : 0 ≤ a) (h1 : a ≤ 65535) : IntKind.u16.wrap a = a := by simp [IntKind.wrap, IntKind.signed, IntKind.bits]; omega
theorem u8_in (a : Int) (h0 : 0 ≤ a) (h1 : a ≤ 255) : IntKind.u8.wrap a = a := by simp [IntKind.wrap, IntKind.signed, IntKind.bits]; omega
theorem u32_in (a : Int) (h0 : 0 ≤ a) (h1 : a ≤ 4294967295) : IntKind.u32.wrap a = a := by simp [IntKind.wrap, IntKind.signed, IntKind.bits]; omega
theorem u16_mod (a : Int) : IntKind.u16.wrap a = a % 65536 := by simp [IntKind.wrap, IntKind.signed, IntKind.bits]
theorem u8_mod (a : Int) : IntKind.u8.wrap a = a % 256 := by simp [IntKind.wrap, IntKind.signed, IntKind.bits]

theorem u32_and_ffff (a : Int) (h0 : 0 ≤ a) (h1 : a < 4294967296) : bits .and .u32 a 65535 = a % 65536 := by
  rw [u32_and a 65535 h0 h1 (by omega) (by omega)]
  obtain ⟨n, rfl⟩ := Int.eq_ofNat_of_zero_le h0
  have := Nat.and_two_pow_sub_one_eq_mod n 16
  simp at this
  simp [this]

theorem u16_not (x : Int) (h0 : 0 ≤ x) (h1 : x ≤ 65535) : bits .xor .u16 IntKind.u16.max x = 65535 - x := by
  obtain ⟨n, rfl⟩ := Int.eq_ofNat_of_zero_le h0
  have hn : n < 65536 := by omega
  rw [show IntKind.u16.max = ((65535 : Nat) : Int) from rfl, u16_xor_nat 65535 n (by omega) hn]
  have e : (65535 ^^^ n) = 65535 - n := by
    have h := BitVec.toNat_not (x := BitVec.ofNat 16 n)
    have h2 : (~~~ (BitVec.ofNat 16 n)) = (BitVec.ofNat 16 65535) ^^^ (BitVec.ofNat 16 n) := by
      rw [show (BitVec.ofNat 16 65535) = BitVec.allOnes 16 from rfl, BitVec.allOnes_xor]
    rw [h2, BitVec.toNat_xor] at h
    simp only [BitVec.toNat_ofNat] at h
    rw [Nat.mod_eq_of_lt (show n < 2 ^ 16 by omega)] at h
    simpa using h
  rw [e]; omega
theorem u16_signed : IntKind.u16.signed = false := rfl

theorem i64_or_one (a : Int) : bits .or .i64 a 1 % 2 = 1 ∧ -9223372036854775808 ≤ bits .or .i64 a 1 ∧ bits .or .i64 a 1 ≤ 9223372036854775807 := by
  have h1 : ((BitVec.ofInt 64 a ||| BitVec.ofInt 64 1).toNat) % 2 = 1 := by
    rw [BitVec.toNat_or]
    have := Nat.or_mod_two_pow (a := (BitVec.ofInt 64 a).toNat) (b := (BitVec.ofInt 64 1).toNat) (n := 1)
    simp only [Nat.pow_one] at this
    rw [this, show (BitVec.ofInt 64 1).toNat = 1 from rfl]
    rcases Nat.mod_two_eq_zero_or_one (BitVec.ofInt 64 a).toNat with h | h <;> rw [h] <;> rfl
  have h2 := (BitVec.ofInt 64 a ||| BitVec.ofInt 64 1).isLt
  show IntKind.i64.wrap ((BitVec.ofInt 64 a ||| BitVec.ofInt 64 1).toNat : Int) % 2 = 1 ∧ _ ≤ IntKind.i64.wrap ((BitVec.ofInt 64 a ||| BitVec.ofInt 64 1).toNat : Int) ∧ IntKind.i64.wrap ((BitVec.ofInt 64 a ||| BitVec.ofInt 64 1).toNat : Int) ≤ _
  rw [IntKind.wrap_i64]
  generalize (BitVec.ofInt 64 a ||| BitVec.ofInt 64 1).toNat = m at h1 h2
  omega

theorem nat_or_low (x y m : Nat) (h : y < 2 ^ m) : (x * 2 ^ m) ||| y = x * 2 ^ m + y := by
  rw [Nat.mul_comm]; exact (Nat.two_pow_add_eq_or_of_lt h x).symm

theorem u16_or_low (x y : Int) (hx0 : 0 ≤ x) (hx : x ≤ 255) (hy0 : 0 ≤ y) (hy : y ≤ 255) : bits .or .u16 (x * 256) y = x * 256 + y := by
  rw [u16_or (x * 256) y (by omega) (by omega) (by omega) (by omega)]
  obtain ⟨a, rfl⟩ := Int.eq_ofNat_of_zero_le hx0
  obtain ⟨b, rfl⟩ := Int.eq_ofNat_of_zero_le hy0
  have := nat_or_low a b 8 (by omega)
  have e : ((a : Int) * 256).toNat = a * 256 := by omega
  simp at this
  rw [e]; simp [this]
end Go.Proofs.YtjbkfhdbgphodaaDoor
