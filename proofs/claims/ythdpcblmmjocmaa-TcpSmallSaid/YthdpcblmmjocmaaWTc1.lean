import Derived.Test.YthdpcblmmjocmaaTcH
import Derived.Test.YthdpcblmmjocmaaIpP
import Derived.Test.YthdpcblmmjocmaaWBags
import Derived.Deep.QuietTactic
import Derived.BigQuiet
import Derived.Deep.RegionHeld3
import Derived.Outline
/- package tcp: Sane, word, long, Extent. -/
namespace Go.Proofs.Ythdpcblmmjocmaa
open Go.RowKit
set_option linter.unusedVariables false

theorem many8 (i : Int) (W : World) (v : Int) (h : (i = 0 ∧ v = 0) ∨ (i = 1 ∧ v = 1) ∨ (i = 2 ∧ v = 1) ∨ (i = 3 ∧ v = 2) ∨ (i = 4 ∧ v = 1) ∨ (i = 5 ∧ v = 2) ∨ (i = 6 ∧ v = 2) ∨ (i = 7 ∧ v = 3)) :
    (Instr.index 89 (.agg #[.int .i64 0, .int .i64 1, .int .i64 1, .int .i64 2, .int .i64 1, .int .i64 2, .int .i64 2, .int .i64 3]) (.int .u8 i)).run Try.prog W = .ok (.int .i64 v) W := by
  rcases h with ⟨rfl, rfl⟩ | ⟨rfl, rfl⟩ | ⟨rfl, rfl⟩ | ⟨rfl, rfl⟩ | ⟨rfl, rfl⟩ | ⟨rfl, rfl⟩ | ⟨rfl, rfl⟩ | ⟨rfl, rfl⟩ <;> kernel_rfl
theorem and7 : ∀ n : Nat, n < 256 → bits .and .u8 (n : Int) 7 = (n : Int) % 8 := by decide +kernel
theorem and22 : ∀ n : Nat, n < 256 → (bits .and .u8 (n : Int) 22 != 0) = ((n : Int) / 2 % 2 == 1 || (n : Int) / 4 % 2 == 1 || (n : Int) / 16 % 2 == 1) := by decide +kernel

set_option maxHeartbeats 1000000 in
set_option maxRecDepth 100000 in
theorem sane_any (f : Int) (w : World) (hf : 0 ≤ f ∧ f ≤ 255) : Calls Try.prog 20 #[.int .u8 f] w fun e w' => e = .returned (.bool (saneB f)) ∧ w = w' := by
  obtain ⟨n, rfl⟩ := Int.eq_ofNat_of_zero_le hf.1
  have h7 := and7 n (by omega)
  obtain ⟨v, hv⟩ : ∃ v, bits .and .u8 (n : Int) 22 = v := ⟨_, rfl⟩
  obtain ⟨i, hi⟩ : ∃ i : Int, (n : Int) % 8 = i := ⟨_, rfl⟩
  have hi8 : 0 ≤ i ∧ i < 8 := by omega
  have HB := Lib.hid (show saneB (n : Int) = ((i == 0 || i == 1 || i == 2 || i == 4) && v != 0) by
    unfold saneB
    rw [← and22 n (by omega), hv, hi])
  rw [hi] at h7
  clear hi
  have h : i = 0 ∨ i = 1 ∨ i = 2 ∨ i = 3 ∨ i = 4 ∨ i = 5 ∨ i = 6 ∨ i = 7 := by omega
  rw [HB.out]
  clear HB hi8
  obtain ⟨y, hy⟩ : ∃ y : Int, (i = 0 ∧ y = 0) ∨ (i = 1 ∧ y = 1) ∨ (i = 2 ∧ y = 1) ∨ (i = 3 ∧ y = 2) ∨ (i = 4 ∧ y = 1) ∨ (i = 5 ∧ y = 2) ∨ (i = 6 ∧ y = 2) ∨ (i = 7 ∧ y = 3) := by
    rcases h with rfl | rfl | rfl | rfl | rfl | rfl | rfl | rfl <;> first | exact ⟨0, by omega⟩ | exact ⟨1, by omega⟩ | exact ⟨2, by omega⟩ | exact ⟨3, by omega⟩
  have ix := fun W => many8 i W y hy
  rcases hy with ⟨rfl, rfl⟩ | ⟨rfl, rfl⟩ | ⟨rfl, rfl⟩ | ⟨rfl, rfl⟩ | ⟨rfl, rfl⟩ | ⟨rfl, rfl⟩ | ⟨rfl, rfl⟩ | ⟨rfl, rfl⟩ <;>
    (go_enter Try.func20, Try.ntmps20
     go_wp2_with fail
     go_ret
     exact ⟨by simp, rfl⟩)

set_option maxHeartbeats 1000000 in
set_option maxRecDepth 100000 in
theorem tcword_any (A : Option Addr) (n c : Nat) (zs : List Int) (w : World) (h : RD .u8 w w.heap.size A n zs) (hz : BD 255 zs) (h2 : 2 ≤ n) :
    Calls Try.prog 49 #[.slice A n c] w fun e w' => e = .returned (.int .u16 (wordAt zs 0)) ∧ ∃ m, w' = w.drewN m := by
  obtain ⟨b, off, rfl, hb, hc⟩ := h.2 (by omega)
  have x1 : w.cell? ⟨b, off, none⟩ = some (.int .u8 (zs[0]?.getD 0)) := hc 0 (by omega)
  have x2 := hc 1 (by omega)
  obtain ⟨z1, z1'⟩ := hz.get (by omega) 0
  obtain ⟨z2, z2'⟩ := hz.get (by omega) 1
  have hw : wordAt zs 0 = zs[0]?.getD 0 * 256 + zs[1]?.getD 0 := rfl
  rw [hw]
  generalize zs[0]?.getD 0 = u at *
  generalize zs[1]?.getD 0 = v at *
  clear hc hw
  have i1 : (0 : Int) < (n : Int) := by omega
  have i2 : (1 : Int) < (n : Int) := by omega
  have i3 : 0 < n := by omega
  have e1 : IntKind.u16.wrap u = u := u16_in _ (by omega) (by omega)
  have e2 : IntKind.u16.wrap (u * 256) = u * 256 := u16_in _ (by omega) (by omega)
  have e3 : IntKind.u16.wrap v = v := u16_in _ (by omega) (by omega)
  have e4 : bits .or .u16 (u * 256) v = u * 256 + v := u16_or_low _ _ (by omega) (by omega) (by omega) (by omega)
  go_enter Try.func49, Try.ntmps49
  go_wp2_with fail
  go_quiet (fail)
  go_wp2_with fail
  go_ret
  exact ⟨rfl, _, rfl⟩

theorem wordAt_drop (zs : List Int) (i j : Nat) : wordAt (zs.drop i) j = wordAt zs (i + j) := by
  unfold wordAt; simp [List.getElem?_drop, Nat.add_assoc]
theorem lng_drop (zs : List Int) (i j : Nat) : lng (zs.drop i) j = lng zs (i + j) := by unfold lng; rw [wordAt_drop, wordAt_drop, Nat.add_assoc]
theorem lng_bd {zs : List Int} (h : BD 255 zs) (i : Nat) : 0 ≤ lng zs i ∧ lng zs i ≤ 4294967295 := by
  have h1 := wordAt_bd h i
  have h2 := wordAt_bd h (i + 2)
  unfold lng; omega
theorem quiet_of_drewN {P : Program} {f : FuncId} {args : Array Value} {w : World} {a n : Nat} {v : Value}
    (h : Calls P f args (w.drewN (a + n)) fun e w' => e = .returned v ∧ ∃ m, w' = (w.drewN (a + n)).drewN m) : Calls P f args (w.drewN (a + n)) fun e w'' => e = .returned v ∧ ∃ m, w'' = w.drewN (a + m) :=
  h.mono fun _ _ ⟨he, m, hm⟩ => ⟨he, n + m, by rw [hm, World.drewN_drewN, Nat.add_assoc]⟩
theorem quiet_of_drewN0 {P : Program} {f : FuncId} {args : Array Value} {w : World} {n : Nat} {v : Value}
    (h : Calls P f args (w.drewN n) fun e w' => e = .returned v ∧ ∃ m, w' = (w.drewN n).drewN m) : Calls P f args (w.drewN n) fun e w'' => e = .returned v ∧ ∃ m, w'' = w.drewN m :=
  h.mono fun _ _ ⟨he, m, hm⟩ => ⟨he, n + m, by rw [hm, World.drewN_drewN]⟩

set_option maxHeartbeats 1000000 in
set_option maxRecDepth 100000 in
theorem tclong_any (A : Option Addr) (n c : Nat) (zs : List Int) (w : World) (h : RD .u8 w w.heap.size A n zs) (hz : BD 255 zs) (h2 : 4 ≤ n) (hc : n ≤ c) :
    Calls Try.prog 50 #[.slice A n c] w fun e w' => e = .returned (.int .u32 (lng zs 0)) ∧ ∃ m, w' = w.drewN m := by
  obtain ⟨i0, hi, hz0, hz1, hz2⟩ := info_parts infoU8
  have s2 := fun W => run_slice_lo (P := Try.prog) W Try.underlying22 hi hz1 A n c 2 2 rfl (by omega)
  have HW1 := Lib.hid (fun m => tcword_any A n c zs (w.drewN m) (h.drewN m) hz (by omega))
  have HW2 := Lib.hid (fun m => tcword_any (cutA A c 2) (n - 2) (c - 2) (zs.drop 2) (w.drewN m) ((h.drewN m).cutA (lo := 2) (c := c) (by omega) hc) (hz.drop _) (by omega))
  have hl : lng zs 0 = wordAt zs 0 * 65536 + wordAt (zs.drop 2) 0 := by rw [wordAt_drop]; rfl
  have u1 := wordAt_bd hz 0
  have v1 := wordAt_bd (hz.drop 2) 0
  rw [hl]
  generalize wordAt zs 0 = u at *
  generalize wordAt (zs.drop 2) 0 = v at *
  generalize cutA A c 2 = A2 at *
  generalize n - 2 = n2 at *
  generalize c - 2 = c2 at *
  obtain ⟨u1, u2⟩ := u1
  obtain ⟨v1, v2⟩ := v1
  have e2 : IntKind.u32.wrap u = u := u32_in _ (by omega) (by omega)
  have e3 : IntKind.u32.wrap v = v := u32_in _ (by omega) (by omega)
  have e4 : IntKind.u32.wrap (u * 65536) = u * 65536 := u32_in _ (by omega) (by omega)
  have e5 : bits .or .u32 (u * 65536) v = u * 65536 + v := u32_or_word _ _ u1 u2 v1 v2
  clear h hz hl
  go_enter Try.func50, Try.ntmps50
  go_wp2_with fail
  go_quiet (first
    | (go_at_call 49; with_reducible exact quiet_of_drewN0 (HW1.out _))
    | (go_at_call 49; with_reducible exact quiet_of_drewN0 (HW2.out _)))
  go_wp2_with fail
  go_ret
  exact ⟨rfl, _, rfl⟩
end Go.Proofs.Ythdpcblmmjocmaa
