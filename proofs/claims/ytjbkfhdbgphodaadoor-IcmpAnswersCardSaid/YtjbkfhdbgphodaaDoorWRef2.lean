/- The reference of the chapter on checksums: it returns what the program returns. -/
import Derived.Test.YtjbkfhdbgphodaaDoorProg
import Derived.Test.YtjbkfhdbgphodaaDoorOwn
import Derived.Test.YtjbkfhdbgphodaaDoorLaw2
import Derived.Test.YtjbkfhdbgphodaaDoorBits
namespace Go.Proofs.YtjbkfhdbgphodaaDoor
open Go.RowKit
set_option linter.unusedVariables false

set_option maxHeartbeats 400000 in
theorem rFold_any (s : Int) (w : World) (h0 : 0 ≤ s) (h1 : s ≤ 9223372036854775807) :
    Calls Tryd.prog 70 #[.int .i64 s] w fun e w' => e = .returned (.int .i64 (foldR s)) ∧ w = w' := by
  by_cases hs : s = 0
  · subst hs
    go_enter Tryd.func70, Tryd.ntmps70
    go_wp2
    go_ret
    exact ⟨rfl, rfl⟩
  · have hb : (s == 0) = false := by simp [hs]
    have HF := Lib.hid (show foldR s = 1 + (s - 1) % 65535 by unfold foldR; rw [if_neg hs])
    have h2 : 1 ≤ s := by omega
    clear hs
    go_enter Tryd.func70, Tryd.ntmps70
    go_wp2
    go_ret
    exact ⟨by rw [HF.out]; rfl, rfl⟩

/-- the bytes added up one by one -/
def bsum (zs : List Int) : Nat → Int
  | 0 => 0
  | i + 1 => bsum zs i + (if i % 2 = 0 then 256 * zs[i]?.getD 0 else zs[i]?.getD 0)
theorem bsum_bd {zs : List Int} (h : BD 255 zs) : ∀ i, 0 ≤ bsum zs i ∧ bsum zs i ≤ 65280 * i
  | 0 => by simp [bsum]
  | i + 1 => by
    have ih := bsum_bd h i
    have hg := h.get (by omega) i
    simp only [bsum]
    split <;> omega
theorem wsum_take (zs : List Int) (k : Nat) (h : 2 * k < zs.length) : wsum (zs.take (2 * k + 2)) = wsum (zs.take (2 * k)) + wordAt zs (2 * k) := by
  unfold wsum
  rw [wordsOf_take_succ zs k h, isum_append]
  simp [isum]
theorem bsum_even (zs : List Int) : ∀ k, 2 * k ≤ zs.length + 1 → bsum zs (2 * k) = wsum (zs.take (2 * k))
  | 0, _ => rfl
  | k + 1, h => by
    rw [show 2 * (k + 1) = 2 * k + 1 + 1 from by omega]
    simp only [bsum]
    rw [bsum_even zs k (by omega), if_pos (by omega), if_neg (by omega), wsum_take zs k (by omega)]
    unfold wordAt
    omega
theorem bsum_all (zs : List Int) : bsum zs zs.length = wsum zs := by
  rcases Nat.mod_two_eq_zero_or_one zs.length with h | h
  · have := bsum_even zs (zs.length / 2) (by omega)
    rw [show 2 * (zs.length / 2) = zs.length from by omega, List.take_length] at this
    exact this
  · have := bsum_even zs (zs.length / 2 + 1) (by omega)
    rw [show 2 * (zs.length / 2 + 1) = zs.length + 1 from by omega] at this
    simp only [bsum] at this
    rw [List.take_of_length_le (by omega)] at this
    rw [← this, if_neg (by omega), List.getElem?_eq_none (by omega)]
    simp

set_option maxHeartbeats 800000 in
theorem rSum_any (A : Option Addr) (n c : Nat) (zs : List Int) (w : World) (h : RD .u8 w w.heap.size A n zs) (hz : BD 255 zs) (hn : n ≤ 140737488355328) :
    Calls Tryd.prog 62 #[.slice A n c] w fun e w' => e = .returned (.int .i64 (sumOf zs)) ∧ w = w' := by
  have HL := Lib.hid h.1
  go_enter Tryd.func62, Tryd.ntmps62
  go_wp2
  go_loop [3, 4] (fun s i => ∃ k : Nat, k ≤ n ∧ i = .int .i64 k ∧ s = .int .i64 (bsum zs k)) (fun _ i => n - (intOf i).toNat)
  case atStart => exact ⟨0, Nat.zero_le _, rfl, rfl⟩
  case round =>
    obtain ⟨k, hk, rfl, rfl⟩ := hrel
    obtain ⟨hs1, hs2⟩ := bsum_bd hz k
    by_cases hlt : k < n
    · obtain ⟨b, off, rfl, hB, hc⟩ := h.2 (by omega)
      have hcell := hc k hlt
      obtain ⟨hz1, hz2⟩ := hz.get (by omega) k
      clear hc
      rcases Nat.mod_two_eq_zero_or_one k with hm | hm
      · have hm' : ((k : Int) % 2 == 0) = true := by simp; omega
        have HS := Lib.hid (show bsum zs (k + 1) = bsum zs k + 256 * zs[k]?.getD 0 by simp only [bsum]; rw [if_pos hm])
        clear hm
        go_wp2_with fail
        go_round
        case rel => exact ⟨k + 1, by omega, by go_num, by rw [HS.out]⟩
        case measure => simp [intOf]; omega
      · have hm' : ((k : Int) % 2 == 0) = false := by simp; omega
        have HS := Lib.hid (show bsum zs (k + 1) = bsum zs k + zs[k]?.getD 0 by simp only [bsum]; rw [if_neg (by omega)])
        clear hm
        go_wp2_with fail
        go_round
        case rel => exact ⟨k + 1, by omega, by go_num, by rw [HS.out]⟩
        case measure => simp [intOf]; omega
    · have HK := Lib.hid (show bsum zs k = wsum zs by rw [← bsum_all, HL.out, show k = n by omega])
      go_wp2_with fail
      refine (rFold_any _ w hs1 (by omega)).mono ?_
      rintro e w' ⟨rfl, rfl⟩
      rw [HK.out, ← sumOf_eq hz]
      go_wp2_with fail
      go_ret
      exact ⟨rfl, rfl⟩

set_option maxHeartbeats 400000 in
theorem rOf_any (A : Option Addr) (n c : Nat) (zs : List Int) (w : World) (h : RD .u8 w w.heap.size A n zs) (hz : BD 255 zs) (hn : n ≤ 140737488355328) :
    Calls Tryd.prog 65 #[.slice A n c] w fun e w' => e = .returned (.int .i64 (65535 - sumOf zs)) ∧ w = w' := by
  obtain ⟨hs1, hs2⟩ := sumOf_bd zs hz
  go_enter Tryd.func65, Tryd.ntmps65
  go_wp2_with (go_at_call 62; refine (rSum_any _ _ _ zs _ h hz hn).mono ?_; rintro e w' ⟨rfl, rfl⟩)
  go_ret
  exact ⟨rfl, rfl⟩

theorem upd_eq {a b c : Int} (ha : 0 ≤ a) (ha' : a ≤ 65535) (hb : 0 ≤ b) (hb' : b ≤ 65535) (hc : 0 ≤ c) (hc' : c ≤ 65535) : upd a b c = 65535 - foldR (65535 - a + 65535 - b + c) := by
  unfold upd
  rw [foldJ0_eq _ (fun y hy => by simp at hy; omega)]
  simp only [isum]
  congr 2; omega

theorem pseudo_eq {a b c d : Int} (ha : 0 ≤ a) (ha' : a ≤ 4294967295) (hb : 0 ≤ b) (hb' : b ≤ 4294967295) (hc : 0 ≤ c) (hc' : c ≤ 255) (hd : 0 ≤ d) (hd' : d ≤ 65535) :
    foldJ 0 [a / 65536, a % 65536, b / 65536, b % 65536, c, d] = foldR (a / 65536 + a % 65536 + b / 65536 + b % 65536 + c + d) := by
  rw [foldJ0_eq _ (fun y hy => by simp at hy; omega)]
  simp only [isum]
  congr 1; omega

theorem isum_take_bd {zs : List Int} (h : BD 65535 zs) (k : Nat) : 0 ≤ isum (zs.take k) ∧ isum (zs.take k) ≤ 65535 * k := by
  induction k with
  | zero => simp [isum]
  | succ k ih =>
    rcases Nat.lt_or_ge k zs.length with hk | hk
    · rw [List.take_succ_eq_append_getElem hk, isum_append]
      have := h zs[k] (List.getElem_mem hk)
      simp only [isum]; omega
    · rw [List.take_of_length_le (by omega)]
      rw [List.take_of_length_le (by omega)] at ih
      omega
theorem isum_take_succ (zs : List Int) (k : Nat) (hk : k < zs.length) : isum (zs.take (k + 1)) = isum (zs.take k) + zs[k]?.getD 0 := by
  rw [List.take_succ_eq_append_getElem hk, isum_append]; simp [isum, hk]

end Go.Proofs.YtjbkfhdbgphodaaDoor
