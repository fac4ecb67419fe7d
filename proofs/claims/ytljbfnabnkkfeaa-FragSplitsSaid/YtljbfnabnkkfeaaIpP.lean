/- Plain law of headers of IPv4: what is right, what is read. No program in sight. -/
import Derived.Test.YtljbfnabnkkfeaaBase
import Derived.Laws.BitsLemmas
import Derived.Laws.BitsAllLaws
namespace Go.Proofs.Ytljbfnabnkkfeaa
open Go.RowKit

/-- a header, without its options -/
structure HD where
  tos : Int
  id : Int
  df : Bool
  mf : Bool
  off : Int
  ttl : Int
  proto : Int
  src : Int
  dst : Int
def HD.zero : HD := ⟨0, 0, false, false, 0, 0, 0, 0, 0⟩
def HD.cells (h : HD) (o : Value) : Array Value := #[.int .u8 h.tos, .int .u16 h.id, .bool h.df, .bool h.mf, .int .i64 h.off, .int .u8 h.ttl, .int .u8 h.proto, .int .u32 h.src, .int .u32 h.dst, o]
def HD.val (h : HD) (o : Value) : Value := .agg (h.cells o)
structure HD.WF (h : HD) : Prop where
  tos : 0 ≤ h.tos ∧ h.tos ≤ 255
  id : 0 ≤ h.id ∧ h.id ≤ 65535
  off : -9223372036854775808 ≤ h.off ∧ h.off ≤ 9223372036854775807
  ttl : 0 ≤ h.ttl ∧ h.ttl ≤ 255
  proto : 0 ≤ h.proto ∧ h.proto ≤ 255
  src : 0 ≤ h.src ∧ h.src ≤ 4294967295
  dst : 0 ≤ h.dst ∧ h.dst ≤ 4294967295
theorem HD.WF.zero : HD.WF HD.zero := ⟨by simp [HD.zero], by simp [HD.zero], by simp [HD.zero], by simp [HD.zero], by simp [HD.zero], by simp [HD.zero], by simp [HD.zero]⟩

def Rightly (off : Int) (mf : Bool) (ol : Nat) (n : Int) : Prop := off % 8 = 0 ∧ 0 ≤ off ∧ off ≤ 65528 ∧ ol ≤ 40 ∧ ol % 4 = 0 ∧ 0 ≤ n ∧ 20 + (ol : Int) + n ≤ 65535 ∧ off + n ≤ 65515 ∧ (mf = true → 0 < n ∧ n % 8 = 0)
instance (off : Int) (mf : Bool) (ol : Nat) (n : Int) : Decidable (Rightly off mf ol n) := by unfold Rightly; infer_instance
def rightB (off : Int) (mf : Bool) (ol : Nat) (n : Int) : Bool := decide (Rightly off mf ol n)
theorem rightB_yes {off : Int} {mf : Bool} {ol : Nat} {n : Int} (h : Rightly off mf ol n) : rightB off mf ol n = true := decide_eq_true h
theorem rightB_no {off : Int} {mf : Bool} {ol : Nat} {n : Int} (h : ¬ Rightly off mf ol n) : rightB off mf ol n = false := decide_eq_false h
theorem rightB_iff {off : Int} {mf : Bool} {ol : Nat} {n : Int} : rightB off mf ol n = true ↔ Rightly off mf ol n := decide_eq_true_iff

def byteAt (zs : List Int) (i : Nat) : Int := zs[i]?.getD 0
def longAt (zs : List Int) (i : Nat) : Int := wordAt zs i * 65536 + wordAt zs (i + 2)
theorem longAt_bd {zs : List Int} (h : BD 255 zs) (i : Nat) : 0 ≤ longAt zs i ∧ longAt zs i ≤ 4294967295 := by
  have h1 := wordAt_bd h i
  have h2 := wordAt_bd h (i + 2)
  unfold longAt; omega
def sizeR (zs : List Int) : Nat := 4 * (byteAt zs 0 % 16).toNat
def totalR (zs : List Int) : Nat := (wordAt zs 2).toNat
def hdOf (zs : List Int) : HD where
  tos := byteAt zs 1
  id := wordAt zs 4
  df := decide (wordAt zs 6 / 16384 % 2 = 1)
  mf := decide (wordAt zs 6 / 8192 % 2 = 1)
  off := 8 * (wordAt zs 6 % 8192)
  ttl := byteAt zs 8
  proto := byteAt zs 9
  src := longAt zs 12
  dst := longAt zs 16
def optsOf (zs : List Int) : List Int := (zs.drop 20).take (sizeR zs - 20)
theorem hdOf_wf {zs : List Int} (h : BD 255 zs) : (hdOf zs).WF := by
  have b1 := h.get (by omega) 1
  have b2 := h.get (by omega) 8
  have b3 := h.get (by omega) 9
  have b4 := wordAt_bd h 4
  have b5 := longAt_bd h 12
  have b6 := longAt_bd h 16
  have b7 := wordAt_bd h 6
  exact ⟨b1, b4, by simp only [hdOf]; omega, b2, b3, b5, b6⟩

/-- which of the seven faults is the first one; 7 if there is none -/
def faultR (zs : List Int) : Nat :=
  if zs.length < 20 then 0
  else if byteAt zs 0 / 16 ≠ 4 then 1
  else if sizeR zs < 20 ∨ zs.length < sizeR zs then 2
  else if totalR zs < sizeR zs ∨ zs.length < totalR zs then 3
  else if sumOf (zs.take (sizeR zs)) ≠ 65535 then 4
  else if 32768 ≤ wordAt zs 6 then 5
  else if rightB (hdOf zs).off (hdOf zs).mf (sizeR zs - 20) ((totalR zs : Int) - sizeR zs) = false then 6
  else 7
def ipE (zs : List Int) : Int := if faultR zs = 7 then 0 else 50 + faultR zs
def hdR (zs : List Int) : HD := if faultR zs = 7 then hdOf zs else HD.zero
def optsR (zs : List Int) : List Int := if faultR zs = 7 then optsOf zs else []
def fromR (zs : List Int) : Nat := if faultR zs = 7 then sizeR zs else 0
def toR (zs : List Int) : Nat := if faultR zs = 7 then totalR zs else 0
theorem faultR_le (zs : List Int) : faultR zs ≤ 7 := by
  unfold faultR
  repeat' split
  all_goals omega

theorem nat_and_pow (n i : Nat) : n &&& 2 ^ i = n / 2 ^ i % 2 * 2 ^ i := by
  have hb : n.testBit i = decide (n / 2 ^ i % 2 = 1) := Nat.testBit_eq_decide_div_mod_eq
  rcases Nat.mod_two_eq_zero_or_one (n / 2 ^ i) with h | h
  · rw [h] at hb ⊢
    apply Nat.eq_of_testBit_eq
    intro j
    rw [Nat.testBit_and, Nat.testBit_two_pow]
    by_cases e : i = j
    · subst e; simp [hb]
    · simp [e]
  · rw [h] at hb ⊢
    apply Nat.eq_of_testBit_eq
    intro j
    rw [Nat.testBit_and, Nat.one_mul, Nat.testBit_two_pow]
    by_cases e : i = j
    · subst e; simp [hb]
    · simp [e]
theorem i64_and_one (a : Int) (h0 : 0 ≤ a) (h1 : a < 65536) (i : Nat) (hi : i < 16) : bits .and .i64 a (2 ^ i) = a / 2 ^ i % 2 * 2 ^ i := by
  obtain ⟨n, rfl⟩ := Int.eq_ofNat_of_zero_le h0
  have hw : ∀ n : Int, 0 ≤ n → n < 2 ^ 16 → IntKind.i64.wrap n = n := fun n h0 h1 => by rw [IntKind.wrap_i64]; omega
  have hp : (2 : Nat) ^ i < 2 ^ 16 := Nat.pow_lt_pow_right (by omega) hi
  have := (bits_nat .i64 16 (by decide) hw n (2 ^ i) (by omega) hp).1
  rw [show ((2 : Int) ^ i) = ((2 ^ i : Nat) : Int) by simp, this]
  rw [nat_and_pow]
  simp
theorem i64_and_low (a : Int) (h0 : 0 ≤ a) (h1 : a < 65536) (i : Nat) (hi : i ≤ 16) : bits .and .i64 a (2 ^ i - 1) = a % 2 ^ i :=
  bits_mask .i64 16 (by decide) (fun n h0 h1 => by rw [IntKind.wrap_i64]; omega) i hi a h0 (by omega)
theorem i64_or_byte (x y : Int) (hx0 : 0 ≤ x) (hx : x ≤ 255) (hy0 : 0 ≤ y) (hy : y ≤ 255) : bits .or .i64 (x * 256) y = x * 256 + y :=
  bits_join .i64 16 (by decide) (fun n h0 h1 => by rw [IntKind.wrap_i64]; omega) 8 (x * 256) y (by omega) (by omega) (by omega) (by omega) (by omega) (by omega)
theorem u32_or_word (x y : Int) (hx0 : 0 ≤ x) (hx : x ≤ 65535) (hy0 : 0 ≤ y) (hy : y ≤ 65535) : bits .or .u32 (x * 65536) y = x * 65536 + y :=
  bits_join .u32 32 (by decide) (fun n h0 h1 => by rw [IntKind.wrap_u32]; omega) 16 (x * 65536) y (by omega) (by omega) (by omega) (by omega) (by omega) (by omega)
end Go.Proofs.Ytljbfnabnkkfeaa
