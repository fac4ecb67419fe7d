import Derived.Test.YtcipgkpcaecjdaaWBuild
import Derived.Shelf.Small.Strs
import Derived.Shelf.Strings.Search1
import Derived.WalkLawsBesides
import Derived.Laws.Strings
/- wire.digit: the number of a digit, or a panic. -/
namespace Go.Proofs.Ytcipgkpcaecjdaa
open Go.RowKit
set_option linter.unusedVariables false

def ren137 : Go.Shelf.Ren := ⟨fun | 137 => 73 | 217 => 82 | 266 => 97 | n => n, fun | 9 => 9 | 5 => 5 | 3 => 3 | n => n, fun | n => n⟩
theorem lays137 : Go.Proofs.Lays.n137 Try.prog ren137 := {
  mixed := by kernel_rfl
  f137 := Try.func73.trans (congrArg some (by kernel_rfl))
  f217 := Try.func82.trans (congrArg some (by kernel_rfl))
  f266 := Try.func97.trans (congrArg some (by kernel_rfl))
  t3 := Try.underlying3
  a3 := Try.isAgg3
  z3 := Try.sizeOf3
  v3 := Try.zeroValue3
  t5 := Try.underlying5
  a5 := Try.isAgg5
  z5 := Try.sizeOf5
  v5 := Try.zeroValue5
  t9 := Try.underlying9
  a9 := Try.isAgg9
  z9 := Try.sizeOf9
  v9 := Try.zeroValue9 }
theorem indexByte_any (s : ByteArray) (c : Int) (w : World) :
    Calls Try.prog 73 #[.string s, .int .u8 c] w fun e w' => e = .returned (.int .i64 (Lib.indexByte s.data.toList c.toNat.toUInt8)) ∧ w' = w := Any.strings_IndexByte lays137 s c w
theorem dg_index : ∀ n : Nat, n < 256 → Lib.indexByte [48, 49, 50, 51, 52, 53, 54, 55, 56, 57, 97, 98, 99, 100, 101, 102] ((n : Int)).toNat.toUInt8 = dg (n : Int) := by decide +kernel

/-- the panic of a bad digit -/
def badDigit : List PanicEntry := [{ v := .iface 26 (.int .i64 10), recovered := false }]

set_option maxHeartbeats 1000000 in
set_option maxRecDepth 100000 in
theorem digit_good (x : Int) (w : World) (hx : 0 ≤ x ∧ x ≤ 255) (hd : 0 ≤ dg x) :
    Calls Try.prog 48 #[.int .u8 x] w fun e w' => e = .returned (.int .u8 (dg x)) ∧ w' = w := by
  obtain ⟨n, rfl⟩ := Int.eq_ofNat_of_zero_le hx.1
  have hi := dg_index n (by omega)
  have hb := dg_bd (n : Int)
  obtain ⟨d, hdd⟩ : ∃ d, dg (n : Int) = d := ⟨_, rfl⟩
  rw [hdd] at hi hd hb ⊢
  have e1 : IntKind.u8.wrap d = d := u8_in _ (by omega) (by omega)
  have t1 : ¬ d < 0 := by omega
  have HI := Lib.hid hi
  clear hi hdd
  go_enter Try.func48, Try.ntmps48
  go_wp2_with fail
  refine (indexByte_any _ _ _).mono ?_
  rintro e w1 ⟨rfl, rfl⟩
  rw [HI.out]
  go_wp2_with fail
  go_ret
  exact ⟨rfl, rfl⟩

set_option maxHeartbeats 1000000 in
set_option maxRecDepth 100000 in
theorem digit_bad (x : Int) (w : World) (hx : 0 ≤ x ∧ x ≤ 255) (hd : dg x < 0) :
    Calls Try.prog 48 #[.int .u8 x] w fun e w' => e = .panicked badDigit ∧ w' = w := by
  obtain ⟨n, rfl⟩ := Int.eq_ofNat_of_zero_le hx.1
  have hi := dg_index n (by omega)
  obtain ⟨d, hdd⟩ : ∃ d, dg (n : Int) = d := ⟨_, rfl⟩
  rw [hdd] at hi hd
  have HI := Lib.hid hi
  clear hi hdd
  go_enter Try.func48, Try.ntmps48
  go_wp2_with fail
  refine (indexByte_any _ _ _).mono ?_
  rintro e w1 ⟨rfl, rfl⟩
  rw [HI.out]
  go_wp2_with fail
  exact ⟨rfl, rfl, rfl⟩
theorem str_idx (s : ByteArray) (i : Nat) (hi : i < s.size) (W : World) : (Instr.index 9 (.string s) (.int .i64 (i : Int))).run Try.prog W = .ok (.int .u8 ((SB s)[i]?.getD 0)) W := by
  rw [run_index_string _ _ _ _ _ Try.underlying9]
  have h1 : (SB s)[i]?.getD 0 = (s[i].toNat : Int) := by
    unfold SB
    rw [List.getElem?_map, List.getElem?_eq_getElem (by simpa using hi)]
    simp [ByteArray.getElem_eq_getElem_data]
  simp [hi, h1]
end Go.Proofs.Ytcipgkpcaecjdaa
