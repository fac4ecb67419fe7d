import Derived.Test.YthdpcblmmjocmaaWTcV
import Derived.Test.YthdpcblmmjocmaaWTc2
import Derived.Test.YthdpcblmmjocmaaWCopy
import Derived.Test.YthdpcblmmjocmaaWAwake8
/- The reference of chapter 08: number, bytes, Sane, Extent, Verify. -/
namespace Go.Proofs.Ythdpcblmmjocmaa
open Go.RowKit
set_option linter.unusedVariables false
attribute [local go_sem ↓] Go.wp_at_zero Go.wp_at_succ

theorem ret_num {k : IntKind} {a b : Int} (h : a = b) : Ending.returned (.int k a) = .returned (.int k b) := by rw [h]
/-- the number of some bytes -/
def numZ (zs : List Int) : Int := zs.foldl (fun n x => 256 * n + x) 0
theorem numZ_take {zs : List Int} {k : Nat} (h : k < zs.length) : numZ (zs.take (k + 1)) = 256 * numZ (zs.take k) + zs[k]?.getD 0 := by
  unfold numZ
  rw [List.take_add_one, List.foldl_append, List.getElem?_eq_getElem h]
  simp
theorem numZ_bd : ∀ (zs : List Int) (k : Nat), BD 255 zs → k ≤ zs.length → 0 ≤ numZ (zs.take k) ∧ numZ (zs.take k) < 256 ^ k
  | zs, 0, _, _ => by simp [numZ]
  | zs, k + 1, h, hk => by
    have ih := numZ_bd zs k h (by omega)
    have hb := h.get (by omega) k
    rw [numZ_take (by omega)]
    rw [Int.pow_succ]
    omega
theorem numZ2 {zs : List Int} (h : zs.length = 2) : numZ zs = wordAt zs 0 := by
  match zs, h with
  | [a, b], _ => simp [numZ, wordAt]; omega
theorem numZ4 {zs : List Int} (h : zs.length = 4) : numZ zs = lng zs 0 := by
  match zs, h with
  | [a, b, c, d], _ => simp [numZ, lng, wordAt]; omega
theorem numZ1 {zs : List Int} (h : zs.length = 1) : numZ zs = zs[0]?.getD 0 := by
  match zs, h with
  | [a], _ => simp [numZ]

set_option maxHeartbeats 1000000 in
set_option maxRecDepth 100000 in
theorem r8number_any (A : Option Addr) (n c : Nat) (zs : List Int) (w : World) (R : RD .u8 w w.heap.size A n zs) (hz : BD 255 zs) (hn : n ≤ 4) :
    Calls Try.prog 60 #[.slice A n c] w fun e w' => e = .returned (.int .i64 (numZ zs)) ∧ w = w' := by
  have HL := Lib.hid R.len
  go_enter Try.func60, Try.ntmps60
  go_wp2_with fail
  go_loop [3, 4] (fun s i => ∃ k : Nat, k ≤ n ∧ i = .int .i64 k ∧ s = .int .i64 (numZ (zs.take k))) (fun _ i => n - (intOf i).toNat)
  case atStart => exact ⟨0, by omega, rfl, by simp [numZ]⟩
  case round =>
    obtain ⟨k, hk, rfl, rfl⟩ := hrel
    have hb := numZ_bd zs k hz (by rw [HL.out]; exact hk)
    by_cases hlt : k < n
    · obtain ⟨b, off, rfl, hB, hc⟩ := R.2 (by omega)
      have hcell := hc k hlt
      obtain ⟨z0, z1⟩ := hz.get (by omega) k
      have HT := Lib.hid (numZ_take (zs := zs) (k := k) (by rw [HL.out]; exact hlt))
      have hb3 : numZ (zs.take k) < 16777216 := by
        have hp : (256 : Int) ^ k ≤ 256 ^ 3 := by
          rcases (show k = 0 ∨ k = 1 ∨ k = 2 ∨ k = 3 by omega) with rfl | rfl | rfl | rfl <;> decide
        have : (256 : Int) ^ 3 = 16777216 := by decide
        omega
      obtain ⟨s0, _⟩ := hb
      obtain ⟨s, hs⟩ : ∃ s, numZ (zs.take k) = s := ⟨_, rfl⟩
      obtain ⟨z, hzk⟩ : ∃ z, zs[k]?.getD 0 = z := ⟨_, rfl⟩
      rw [hs] at s0 hb3 HT ⊢
      rw [hzk] at hcell z0 z1 HT
      clear hs hzk hc
      go_wp2_with fail
      go_round
      case rel => exact ⟨k + 1, by omega, by go_num, by rw [HT.out]⟩
      case measure => simp [intOf]; omega
    · obtain rfl : k = n := by omega
      have HT := Lib.hid (show zs.take k = zs from List.take_of_length_le (by rw [HL.out]; omega))
      rw [HT.out] at hb ⊢
      obtain ⟨s, hs⟩ : ∃ s, numZ zs = s := ⟨_, rfl⟩
      rw [hs]
      have HS := Lib.hid hs
      clear hb hs
      go_wp2_with fail
      go_ret
      exact ⟨by rw [HS.out]; rfl, rfl⟩

/-- the low bytes of a number -/
def low : Nat → Int → List Int
  | 0, _ => []
  | k + 1, x => x / 256 ^ k % 256 :: low k x
theorem low_len : ∀ k x, (low k x).length = k
  | 0, _ => rfl
  | k + 1, x => by simp [low, low_len k x]
theorem low2 {x : Int} (h : 0 ≤ x ∧ x ≤ 65535) : low 2 x = w2 x := by simp [low, w2]; omega
theorem low4 {x : Int} (h : 0 ≤ x ∧ x ≤ 4294967295) : low 4 x = w4 x := by simp [low, w4, w2]; omega
theorem low_set (n k : Nat) (x v : Int) (h : k < n) : (List.replicate (n - k) 0 ++ low k x).set (n - 1 - k) v = List.replicate (n - (k + 1)) 0 ++ v :: low k x := by
  obtain ⟨m, hm⟩ : ∃ m, n - k = m + 1 := ⟨n - k - 1, by omega⟩
  rw [hm, show n - 1 - k = m by omega, show n - (k + 1) = m by omega, List.replicate_succ', List.append_assoc]
  rw [List.set_append_right _ _ (by simp)]
  simp

set_option maxHeartbeats 2000000 in
set_option maxRecDepth 100000 in
theorem r8bytes_any (x q : Int) (n : Nat) (w : World) (hx : 0 ≤ x ∧ x ≤ 4294967295) (hq : q = n) (hn : n ≤ 4) :
    Calls Try.prog 65 #[.int .i64 x, .int .i64 q] w (fun e w' => ∃ A c, e = .returned (.slice A n c) ∧ OWN .u8 5 w' w.heap.size A n c (low n x) ∧ Below w.heap.size w w') := by
  subst hq
  obtain ⟨i0, hi, hz0, hz1, hz2⟩ := info_parts infoU8
  obtain ⟨w2, hmk, own2, hb2, hs2⟩ := run_make_cap (P := Try.prog) (k := .u8) w 22 i0 Try.underlying22 hi hz0 hz1 (by omega) (n : Int) (n : Int) n n rfl rfl (Nat.le_refl _) (by omega)
  have X2 := Lib.hid ((SP.start w).pushOwn hb2 own2)
  clear hb2 own2
  obtain ⟨G, hG⟩ : ∃ G, G = w.heap.size := ⟨_, rfl⟩
  rw [← hG] at hmk X2
  have HG := Lib.hid hG
  clear hG
  go_enter Try.func65, Try.ntmps65
  go_wp2_with fail
  clear hmk
  go_loopw [0, 6] (fun s i wr => ∃ k : Nat, k ≤ n ∧ s = .int .i64 (x / 256 ^ k) ∧ i = .int .i64 ((n : Int) - 1 - (k : Int)) ∧ SP w wr [.own .u8 5 (some ⟨G, 0, none⟩) n n (List.replicate (n - k) 0 ++ low k x)]) (fun _ i _ => (intOf i + 1).toNat)
  case atStart => exact ⟨0, by omega, by simp, by simp, by simpa [low] using X2.out⟩
  case round =>
    obtain ⟨k, hk, rfl, rfl, hX⟩ := hrel
    have X := Lib.hid hX
    clear hX X2
    have hv0 : 0 ≤ x / 256 ^ k ∧ x / 256 ^ k ≤ x := ⟨Int.ediv_nonneg hx.1 (Int.pow_nonneg (by decide)), Int.ediv_le_self _ hx.1⟩
    have HV := Lib.hid (show x / 256 ^ (k + 1) = x / 256 ^ k / 256 by rw [Int.pow_succ, Int.ediv_ediv, if_neg (fun h => absurd h.1 (Int.not_lt.mpr (Int.pow_nonneg (by decide)))), Int.sub_zero])
    have HL := Lib.hid (show low (k + 1) x = x / 256 ^ k % 256 :: low k x from rfl)
    obtain ⟨v, hv⟩ : ∃ v, x / 256 ^ k = v := ⟨_, rfl⟩
    rw [hv] at hv0 HV HL ⊢
    obtain ⟨v0, v1⟩ := hv0
    clear hv
    by_cases hlt : k < n
    · obtain ⟨j, hj⟩ : ∃ j : Nat, n - 1 - k = j := ⟨_, rfl⟩
      have hj' : ((n : Int) - 1 - (k : Int)) = (j : Int) := by omega
      rw [hj']
      have hjn : j < n := by omega
      have HS := Lib.hid (show (List.replicate (n - k) 0 ++ low k x).set j (v % 256) = List.replicate (n - (k + 1)) 0 ++ v % 256 :: low k x by rw [← hj]; exact low_set n k x _ hlt)
      have x0 := (X.out.own 0 rfl).cell (i := j) hjn
      have f0 := (X.out.own 0 rfl).frozen j
      have e1 : IntKind.u8.wrap (v % 256) = v % 256 := u8_in _ (by omega) (by omega)
      have Y := Lib.hid (X.out.setO 0 rfl j (v % 256))
      have HJ := Lib.hid hj'
      have i0' : (0 : Int) ≤ (j : Int) := by omega
      have i1 : (j : Int) < (n : Int) := by omega
      clear hj hj'
      go_wp2_with fail
      go_roundw
      case rel =>
        refine ⟨k + 1, by omega, by rw [HV.out], ?_, ?_⟩
        · have := HJ.out
          rw [show ((j : Int) - 1) = (n : Int) - 1 - ((k + 1 : Nat) : Int) by omega]
        · have := Y.out
          simp only [List.set_cons_zero] at this
          rw [HS.out] at this
          rw [HL.out]; exact this
      case measure => simp [intOf]
    · obtain rfl : k = n := by omega
      have HT := Lib.hid (show List.replicate (k - k) 0 ++ low k x = low k x by simp)
      rw [show ((k : Int) - 1 - (k : Int)) = -1 by omega]
      go_wp2_with fail
      go_ret
      have o := X.out.own 0 rfl
      rw [HT.out] at o
      exact ⟨some ⟨G, 0, none⟩, k, rfl, o, X.out.bel⟩

theorem rem2 : ∀ n : Nat, n < 256 → IntKind.u8.wrap ((n : Int) / 2) = (n : Int) / 2 := by decide +kernel

set_option maxHeartbeats 4000000 in
set_option maxRecDepth 100000 in
theorem r8Sane_any (f : Int) (w : World) (hf : 0 ≤ f ∧ f ≤ 255) : Calls Try.prog 35 #[.int .u8 f] w fun e w' => e = .returned (.bool (saneB f)) ∧ w = w' := by
  obtain ⟨f0, f1⟩ := hf
  obtain ⟨a, ha⟩ : ∃ a : Int, f % 2 = a := ⟨_, rfl⟩
  obtain ⟨b, hb⟩ : ∃ b : Int, f / 2 % 2 = b := ⟨_, rfl⟩
  obtain ⟨c, hc⟩ : ∃ c : Int, f / 4 % 2 = c := ⟨_, rfl⟩
  obtain ⟨d, hd⟩ : ∃ d : Int, f / 16 % 2 = d := ⟨_, rfl⟩
  have HS := Lib.hid (show saneB f = ((a + 2 * b + 4 * c == 0 || a + 2 * b + 4 * c == 1 || a + 2 * b + 4 * c == 2 || a + 2 * b + 4 * c == 4) && (b == 1 || c == 1 || d == 1)) by
    unfold saneB; rw [show f % 8 = a + 2 * b + 4 * c by omega, hb, hc, hd])
  have ha' : a = 0 ∨ a = 1 := by omega
  have hb' : b = 0 ∨ b = 1 := by omega
  have hc' : c = 0 ∨ c = 1 := by omega
  have hd' : d = 0 ∨ d = 1 := by omega
  rw [HS.out]
  clear HS
  rcases ha' with rfl | rfl <;> rcases hb' with rfl | rfl <;> rcases hc' with rfl | rfl <;> rcases hd' with rfl | rfl
  all_goals
    go_enter Try.func35, Try.ntmps35
    go_wp2_with fail
    go_ret
    exact ⟨rfl, rfl⟩

set_option maxHeartbeats 2000000 in
set_option maxRecDepth 100000 in
theorem r8Extent_any (f n : Int) (w : World) (hf : 0 ≤ f ∧ f ≤ 255) : Calls Try.prog 36 #[.int .u8 f, .int .i64 n] w fun e w' => e = .returned (.int .i64 (extN f n)) ∧ w = w' := by
  by_cases h0 : n < 0
  · have HX := Lib.hid (show extN f n = 0 by unfold extN; rw [if_pos (.inl h0)])
    go_enter Try.func36, Try.ntmps36
    go_wp2_with fail
    go_ret
    exact ⟨by rw [HX.out]; rfl, rfl⟩
  by_cases h1 : 65535 < n
  · have HX := Lib.hid (show extN f n = 0 by unfold extN; rw [if_pos (.inr h1)])
    go_enter Try.func36, Try.ntmps36
    go_wp2_with fail
    go_ret
    exact ⟨by rw [HX.out]; rfl, rfl⟩
  obtain ⟨f0, f1⟩ := hf
  obtain ⟨a, ha⟩ : ∃ a : Int, f % 2 = a := ⟨_, rfl⟩
  obtain ⟨b, hb⟩ : ∃ b : Int, f / 2 % 2 = b := ⟨_, rfl⟩
  have HX := Lib.hid (show extN f n = n + b + a by unfold extN; rw [if_neg (by omega), hb, ha])
  have ha' : a = 0 ∨ a = 1 := by omega
  have hb' : b = 0 ∨ b = 1 := by omega
  rcases ha' with rfl | rfl <;> rcases hb' with rfl | rfl
  all_goals
    go_enter Try.func36, Try.ntmps36
    go_wp2_with fail
    go_ret
    exact ⟨ret_num (by first | (rw [HX.out]; done) | (rw [HX.out]; omega)), rfl⟩

set_option maxHeartbeats 2000000 in
set_option maxRecDepth 100000 in
theorem r8Verify_any (A : Option Addr) (n c : Nat) (zs : List Int) (s d : Int) (w : World) (h : RD .u8 w w.heap.size A n zs) (hz : BD 255 zs) (hn : n ≤ 140737488355328) (hs : 0 ≤ s ∧ s ≤ 4294967295) (hd : 0 ≤ d ∧ d ≤ 4294967295) :
    Calls Try.prog 34 #[.slice A n c, .int .u32 s, .int .u32 d] w fun e w' => e = .returned (.bool (tV zs s d)) ∧ Below w.heap.size w w' := by
  obtain ⟨s0, s1⟩ := hs
  obtain ⟨d0, d1⟩ := hd
  have hl := h.len
  by_cases h20 : n < 20
  · have HV := Lib.hid (show tV zs s d = false by unfold tV; rw [hl]; simp; omega)
    have t1 : (n : Int) < 20 := by omega
    clear hl h
    go_enter Try.func34, Try.ntmps34
    go_wp2_with fail
    go_ret
    exact ⟨by rw [HV.out]; rfl, Below.refl _ _⟩
  by_cases hb : 65535 < n
  · have HV := Lib.hid (show tV zs s d = false by unfold tV; rw [hl]; simp; omega)
    have t1 : ¬ (n : Int) < 20 := by omega
    have t2 : (65535 : Int) < (n : Int) := by omega
    clear hl h
    go_enter Try.func34, Try.ntmps34
    go_wp2_with fail
    go_ret
    exact ⟨by rw [HV.out]; rfl, Below.refl _ _⟩
  have hps := tPs_bd (L := (n : Int)) ⟨s0, s1⟩ ⟨d0, d1⟩ (by omega)
  obtain ⟨p, hp⟩ : ∃ p, tPs s d (n : Int) = p := ⟨_, rfl⟩
  have HP := Lib.hid (show foldJ 0 [s / 65536, s % 65536, d / 65536, d % 65536, 6, (n : Int)] = p from hp)
  rw [hp] at hps
  obtain ⟨p0, p1⟩ := hps
  have R := Lib.hid h
  have HV := Lib.hid (show tV zs s d = (65535 - stepJ p (sumOf zs) == 0) by
      unfold tV; rw [hl, hp]
      rw [show decide (n ≤ 65535) = true by simp; omega, show decide (20 ≤ n) = true by simp; omega]; rfl)
  have t1 : ¬ (n : Int) < 20 := by omega
  have t2 : ¬ (65535 : Int) < (n : Int) := by omega
  have e1 : IntKind.i64.wrap s = s := IntWalk.i64_in _ (by omega)
  have e2 : IntKind.i64.wrap d = d := IntWalk.i64_in _ (by omega)
  clear hl h hp
  go_enter Try.func34, Try.ntmps34
  go_wp2_with fail
  refine (rPseudo_any s d 6 (n : Int) w s0 s1 d0 d1 (by omega) (by omega) (by omega) (by omega)).mono ?_
  rintro e w1 ⟨rfl, rfl⟩
  rw [HP.out]
  go_wp2_with fail
  refine (rOver_any p p0 p1 A n c zs _ R.out hz hn).mono ?_
  rintro e w2 ⟨rfl, rfl⟩
  go_wp2_with fail
  go_ret
  exact ⟨by rw [HV.out]; rfl, Below.refl _ _⟩
end Go.Proofs.Ythdpcblmmjocmaa
