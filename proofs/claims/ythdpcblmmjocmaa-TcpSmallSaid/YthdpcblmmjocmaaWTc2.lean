import Derived.Test.YthdpcblmmjocmaaTcF
import Derived.Test.YthdpcblmmjocmaaWTc1
/- package tcp: words and longs, the bytes of numbers. -/
namespace Go.Proofs.Ythdpcblmmjocmaa
open Go.RowKit
set_option linter.unusedVariables false

theorem w2s_take {zs : List Int} {k : Nat} (h : k < zs.length) : w2s (zs.take (k + 1)) = w2s (zs.take k) ++ [zs[k]?.getD 0 / 256, zs[k]?.getD 0 % 256] := by
  rw [List.take_add_one, w2s_append, List.getElem?_eq_getElem h]
  simp [w2s, w2]
theorem w4s_take {zs : List Int} {k : Nat} (h : k < zs.length) : w4s (zs.take (k + 1)) = w4s (zs.take k) ++ w2s [zs[k]?.getD 0 / 65536, zs[k]?.getD 0 % 65536] := by
  rw [List.take_add_one, w4s_append, List.getElem?_eq_getElem h]
  simp [w4s, w4, w2s]
/-- bytes that a call gives, its own -/
def Gave (zs : List Int) (w : World) (e : Ending) (w' : World) : Prop :=
  ∃ A c, e = .returned (.slice A zs.length c) ∧ OWN .u8 5 w' w.heap.size A zs.length c zs ∧ Below w.heap.size w w'

set_option maxHeartbeats 1000000 in
set_option maxRecDepth 100000 in
theorem tcwords_any (A : Option Addr) (n c : Nat) (zs : List Int) (w : World) (R : RD .u16 w w.heap.size A n zs) (hz : BD 65535 zs) (hn : n ≤ 100) :
    Calls Try.prog 44 #[.slice A n c] w (Gave (w2s zs) w) := by
  obtain ⟨i0, hi, hz0, hz1, hz2⟩ := info_parts infoU8
  have hl := Lib.hid R.len
  go_enter Try.func44, Try.ntmps44
  go_wp2_with fail
  go_loopw [3, 8] (fun s i wr => ∃ (k : Nat) (A' : Option Addr) (c' : Nat), k ≤ n ∧ i = .int .i64 k ∧ s = .slice A' (2 * k) c' ∧ SP w wr [.own .u8 5 A' (2 * k) c' (w2s (zs.take k))]) (fun _ i _ => n - (intOf i).toNat)
  case atStart => exact ⟨0, none, 0, by omega, rfl, rfl, by simpa [w2s] using (SP.start w).pushOwn (k := .u8) (e := 5) (Below.refl _ _) OWN.nil⟩
  case round =>
    obtain ⟨k, A', c', hk, rfl, rfl, hX⟩ := hrel
    have X := Lib.hid hX
    clear hX
    by_cases hlt : k < n
    · obtain ⟨b, off, rfl, hB, hc⟩ := (R.below X.out.bel).2 (by omega)
      have hcell := hc k hlt
      obtain ⟨z0, z1⟩ := hz.get (by omega) k
      have HT := Lib.hid (w2s_take (zs := zs) (k := k) (by rw [hl.out]; exact hlt))
      obtain ⟨z, hzk⟩ : ∃ z, zs[k]?.getD 0 = z := ⟨_, rfl⟩
      rw [hzk] at hcell z0 z1 HT
      have e1 : IntKind.u8.wrap (z / 256) = z / 256 := u8_in _ (by omega) (by omega)
      have e2 := u8_mod z
      have X2 := Lib.hid (X.out.allocI' .u8 5 [z / 256, z % 256] (by simp [maxLen]) rfl)
      clear hc hzk
      go_wp2_with (at_builtin; refine wpList_append_rd _ rfl _ _ _ rfl .u8 w.heap.size 5 i0 1 Try.underlying22 hi hz0 hz1 hz2 A' (2 * k) c' (w2s (zs.take k)) rfl (X2.out.own 0 rfl) _ (some ⟨wr.heap.size, 0, none⟩) 2 2 [z / 256, z % 256] rfl (X2.out.rd 1 rfl) (by simp only [maxLen]; omega) (by omega) X2.out.size ?_; intro A9 c9 w9 happ; have Y := Lib.hid (X2.out.app 0 rfl happ); clear happ)
      go_roundw
      case rel => exact ⟨k + 1, A9, c9, by omega, by go_num, rfl, by rw [HT.out]; exact Y.out.pick [0] (by decide) rfl⟩
      case measure => simp [intOf]; omega
    · have hkn : k = n := by omega
      subst hkn
      have HT := Lib.hid (show zs.take k = zs from List.take_of_length_le (by rw [hl.out]; omega))
      go_wp2_with fail
      go_ret
      have o := X.out.own 0 rfl
      rw [HT.out] at o
      have hL := o.len
      rw [← hL] at o ⊢
      exact ⟨A', c', rfl, o, X.out.bel⟩

set_option maxHeartbeats 1000000 in
set_option maxRecDepth 100000 in
theorem tclongs_any (A : Option Addr) (n c : Nat) (zs : List Int) (w : World) (R : RD .u32 w w.heap.size A n zs) (hz : BD 4294967295 zs) (hn : n ≤ 100) :
    Calls Try.prog 45 #[.slice A n c] w (Gave (w4s zs) w) := by
  obtain ⟨i0, hi, hz0, hz1, hz2⟩ := info_parts infoU8
  have hl := Lib.hid R.len
  go_enter Try.func45, Try.ntmps45
  go_wp2_with fail
  go_loopw [3, 8] (fun s i wr => ∃ (k : Nat) (A' : Option Addr) (c' : Nat), k ≤ n ∧ i = .int .i64 k ∧ s = .slice A' (4 * k) c' ∧ SP w wr [.own .u8 5 A' (4 * k) c' (w4s (zs.take k))]) (fun _ i _ => n - (intOf i).toNat)
  case atStart => exact ⟨0, none, 0, by omega, rfl, rfl, by simpa [w4s] using (SP.start w).pushOwn (k := .u8) (e := 5) (Below.refl _ _) OWN.nil⟩
  case round =>
    obtain ⟨k, A', c', hk, rfl, rfl, hX⟩ := hrel
    have X := Lib.hid hX
    clear hX
    by_cases hlt : k < n
    · obtain ⟨b, off, rfl, hB, hc⟩ := (R.below X.out.bel).2 (by omega)
      have hcell := hc k hlt
      obtain ⟨z0, z1⟩ := hz.get (by omega) k
      have HT := Lib.hid (w4s_take (zs := zs) (k := k) (by rw [hl.out]; exact hlt))
      obtain ⟨z, hzk⟩ : ∃ z, zs[k]?.getD 0 = z := ⟨_, rfl⟩
      rw [hzk] at hcell z0 z1 HT
      have e1 : IntKind.u16.wrap (z / 65536) = z / 65536 := u16_in _ (by omega) (by omega)
      have e2 := u16_mod z
      have HB := Lib.hid (show BD 65535 [z / 65536, z % 65536] by intro y hy; simp at hy; omega)
      have X2 := Lib.hid (X.out.allocI' .u16 26 [z / 65536, z % 65536] (by simp [maxLen]) rfl)
      clear hc hzk
      go_wp2_with (first
        | (go_at_call 44
           refine (tcwords_any _ 2 2 [z / 65536, z % 65536] _ (X2.out.rd 1 rfl) HB.out (by decide)).mono ?_
           rintro e w3 ⟨A3, c3, rfl, own3, hb3⟩
           have X3 := Lib.hid (X2.out.pushOwn hb3 own3)
           clear own3 hb3)
        | (at_builtin; refine wpList_append_rd _ rfl _ _ _ rfl .u8 w.heap.size 5 i0 1 Try.underlying22 hi hz0 hz1 hz2 A' (4 * k) c' (w4s (zs.take k)) rfl (X3.out.own 0 rfl) _ A3 4 c3 (w2s [z / 65536, z % 65536]) rfl (X3.out.rd 2 rfl) (by simp only [maxLen]; omega) (by omega) X3.out.size ?_; intro A9 c9 w9 happ; have Y := Lib.hid (X3.out.app 0 rfl happ); clear happ))
      go_roundw
      case rel => exact ⟨k + 1, A9, c9, by omega, by go_num, rfl, by rw [HT.out]; exact Y.out.pick [0] (by decide) rfl⟩
      case measure => simp [intOf]; omega
    · have hkn : k = n := by omega
      subst hkn
      have HT := Lib.hid (show zs.take k = zs from List.take_of_length_le (by rw [hl.out]; omega))
      go_wp2_with fail
      go_ret
      have o := X.out.own 0 rfl
      rw [HT.out] at o
      have hL := o.len
      rw [← hL] at o ⊢
      exact ⟨A', c', rfl, o, X.out.bel⟩
end Go.Proofs.Ythdpcblmmjocmaa
