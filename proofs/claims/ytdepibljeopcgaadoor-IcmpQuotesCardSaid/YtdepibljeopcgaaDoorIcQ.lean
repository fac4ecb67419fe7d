/- Plain law of ICMP: quotes. No program in sight. -/
import Derived.Test.YtdepibljeopcgaaDoorIcP
import Derived.Test.YtdepibljeopcgaaDoorBase
namespace Go.Proofs.YtdepibljeopcgaaDoor
open Go.RowKit
set_option linter.unusedVariables false

/-- what is wrong with the header of a quote -/
def qH (zs : List Int) : Nat := (4 * ((zs[0]?.getD 0 : Int) % 16)).toNat
def qF1 (zs : List Int) : Bool := decide (zs.length < 20 ∨ zs[0]?.getD 0 / 16 ≠ 4)
def qF2 (zs : List Int) : Bool := decide (qH zs < 20 ∨ zs.length < qH zs + 8)
def qF3 (zs : List Int) : Bool := decide (sumOf (zs.take (qH zs)) ≠ 65535 ∨ wordAt zs 2 < (qH zs : Int) + 8)
def qF4 (zs : List Int) : Bool := decide (32768 ≤ wordAt zs 6 ∨ wordAt zs 6 % 8192 ≠ 0)
def qBad (zs : List Int) : Bool := qF1 zs || (qF2 zs || (qF3 zs || qF4 zs))
/-- what is quoted -/
def qP (zs : List Int) : Int := zs[9]?.getD 0
def qS (zs : List Int) : Int := wordAt zs 12 * 65536 + wordAt zs 14
def qD (zs : List Int) : Int := wordAt zs 16 * 65536 + wordAt zs 18
def qT (zs : List Int) : Nat := (zs[qH zs]?.getD 0).toNat
def qC (zs : List Int) : Int := zs[qH zs + 1]?.getD 0
def qsp (zs : List Int) : Int := if qP zs = 6 ∨ qP zs = 17 then wordAt zs (qH zs) else if qP zs = 1 then wordAt zs (qH zs + 4) else 0
def qdp (zs : List Int) : Int := if qP zs = 6 ∨ qP zs = 17 then wordAt zs (qH zs + 2) else if qP zs = 1 then wordAt zs (qH zs + 4) else 0
def qKd (zs : List Int) : Int := if qP zs = 6 ∨ qP zs = 17 then (if qsp zs = 0 ∨ qdp zs = 0 then 0 else if qP zs = 6 then 1 else 2) else if qP zs = 1 then kK (qT zs) (qC zs) else 0
def qE (zs : List Int) : Int := if qBad zs = true then 103 else if qKd zs = 0 then 103 else if qKd zs = 5 then 104 else 0
def qK (zs : List Int) : Int := if qE zs = 0 then qKd zs else 0
def key5 (p s d sp dp : Int) : Array Value := #[.int .u8 p, .int .u32 s, .int .u32 d, .int .u16 sp, .int .u16 dp]
def key0 : Array Value := key5 0 0 0 0 0
def qKey (zs : List Int) : Array Value := if qE zs = 0 then key5 (qP zs) (qS zs) (qD zs) (qsp zs) (qdp zs) else key0

theorem u16_andNot (x : Int) (h0 : 0 ≤ x) (h1 : x ≤ 65535) : (bits .andNot .u16 x 24576 != 0) = decide (32768 ≤ x ∨ x % 8192 ≠ 0) := by
  obtain ⟨n, rfl⟩ := Int.eq_ofNat_of_zero_le h0
  have hn : n < 65536 := by omega
  have e1 : bits .andNot .u16 (n : Int) 24576 = ((n &&& 40959 : Nat) : Int) := by
    show IntKind.u16.wrap (((BitVec.ofInt 16 (n : Int)) &&& ~~~ (BitVec.ofInt 16 24576)).toNat : Int) = _
    rw [show ~~~ (BitVec.ofInt 16 24576) = BitVec.ofNat 16 40959 from rfl, BitVec.toNat_and]
    have a1 : (BitVec.ofInt 16 (n : Int)).toNat = n := by
      rw [BitVec.toNat_ofInt]; simp; omega
    rw [a1, show (BitVec.ofNat 16 40959).toNat = 40959 from rfl]
    have : n &&& 40959 ≤ 40959 := Nat.and_le_right
    exact u16_in _ (by omega) (by omega)
  rw [e1]
  have m1 : (n &&& 40959) % 8192 = n % 8192 := by
    have := Nat.and_mod_two_pow (a := n) (b := 40959) (n := 13)
    rw [show (2 : Nat) ^ 13 = 8192 from rfl, show (40959 : Nat) % 8192 = 2 ^ 13 - 1 from rfl, Nat.and_two_pow_sub_one_eq_mod] at this
    rw [this]; simp
  have m2 : (n &&& 40959) / 8192 = (n / 8192) &&& 4 := by
    have := Nat.and_div_two_pow (a := n) (b := 40959) (n := 13)
    rw [show (2 : Nat) ^ 13 = 8192 from rfl] at this
    rw [this]
  have m3 : (n / 8192) &&& 4 = n / 32768 * 4 := by
    have hq : n / 8192 < 8 := by omega
    have : n / 32768 = n / 8192 / 4 := by omega
    rw [this]
    generalize n / 8192 = q at hq
    revert q; decide
  generalize (n &&& 40959) = m at m1 m2
  rw [Bool.eq_iff_iff]
  simp
  omega
end Go.Proofs.YtdepibljeopcgaaDoor
