import Derived.Test.YtcipgkpcaecjdaaWHex
import Derived.Test.YtcipgkpcaecjdaaWDigit
import Derived.Laws.IdiomStrings
import Derived.Lib.BufferRead
import Derived.Deep.RegionHeld3
import Derived.Deep.DeepCutAuto
/- baffleref01: digit, Hex, Unhex. (Printed by gen_ref1.py.) -/
namespace Go.Proofs.Ytcipgkpcaecjdaa
open Go.RowKit
set_option linter.unusedVariables false
set_option linter.unusedSimpArgs false

theorem nameR {K : Act → World → Prop} {a : Act} {W : World} (h : ∀ W', W' = W → K a W') : K a W := h W rfl
set_option maxHeartbeats 1000000 in
theorem r1digit_any (x : Int) (w : World) (hx : 0 ≤ x ∧ x ≤ 255) : Calls Try.prog 71 #[.int .u8 x] w fun e w' => e = .returned (.int .i64 (dg x)) ∧ w' = w := by
  obtain ⟨d, hd⟩ : ∃ d, dg x = d := ⟨_, rfl⟩
  rw [hd]
  unfold dg at hd
  obtain ⟨x0, x1⟩ := hx
  by_cases h1 : 48 ≤ x
  · by_cases h2 : x ≤ 57
    · rw [if_pos ⟨h1, h2⟩] at hd
      have e1 : IntKind.i64.wrap (x - 48) = d := by rw [hd]; exact IntWalk.i64_in _ (by omega)
      have e2 : IntKind.i64.wrap x = x := IntWalk.i64_in _ (by omega)
      have HD := Lib.hid hd
      clear hd
      go_enter Try.func71, Try.ntmps71
      go_wp2_with fail
      go_ret
      exact ⟨rfl, rfl⟩
    · rw [if_neg (fun h => h2 h.2)] at hd
      by_cases h3 : 97 ≤ x
      · by_cases h4 : x ≤ 102
        · rw [if_pos ⟨h3, h4⟩] at hd
          have e1 : IntKind.i64.wrap (x - 97) = x - 97 := IntWalk.i64_in _ (by omega)
          have e3 : IntKind.i64.wrap (x - 97 + 10) = d := by rw [← hd, show x - 97 + 10 = x - 87 by omega]; exact IntWalk.i64_in _ (by omega)
          have e2 : IntKind.i64.wrap x = x := IntWalk.i64_in _ (by omega)
          have HD := Lib.hid hd
          clear hd
          go_enter Try.func71, Try.ntmps71
          go_wp2_with fail
          go_ret
          exact ⟨rfl, rfl⟩
        · rw [if_neg (fun h => h4 h.2)] at hd
          subst hd
          go_enter Try.func71, Try.ntmps71
          go_wp2_with fail
          go_ret
          exact ⟨rfl, rfl⟩
      · rw [if_neg (fun h => h3 h.1)] at hd
        subst hd
        go_enter Try.func71, Try.ntmps71
        go_wp2_with fail
        go_ret
        exact ⟨rfl, rfl⟩
  · have h3 : ¬ 97 ≤ x := by omega
    rw [if_neg (fun h => h1 h.1), if_neg (fun h => h3 h.1)] at hd
    subst hd
    go_enter Try.func71, Try.ntmps71
    go_wp2_with fail
    go_ret
    exact ⟨rfl, rfl⟩

/-- bytes that the call owns, as a string -/
theorem str_of_own {w : World} {base : Nat} {A : Option Addr} {n c : Nat} {l : List UInt8} (h : OWN .u8 5 w base A n c (UB l)) :
    (convert 22 9 (.slice A n c)).run Try.prog w = .ok (.string ⟨l.toArray⟩) w := by
  have hn : n = l.length := by rw [← h.len, UB_len]
  rcases h.cases with ⟨rfl, h0, rfl, hl⟩ | ⟨g, rfl, _, _, _, _⟩
  · have : l = [] := by cases l with
      | nil => rfl
      | cons a r => simp [UB] at hl
    subst this
    subst h0
    exact Lib.run_convert_nil_bytes w _ _ 5 0 Try.underlying22 Try.underlying5 Try.underlying9
  · subst hn
    refine run_convert_bytes_back w 22 9 5 ⟨g, 0, none⟩ c l Try.underlying22 Try.underlying5 Try.underlying9 ?_
    intro j hj
    have hc := h.cell (i := j) hj
    have h2 : (UB l)[j]?.getD 0 = (l[j].toNat : Int) := by simp [UB, hj]
    rw [h2] at hc
    rw [show (⟨g, 0, none⟩ : Addr).add j = ⟨g, 0 + j, none⟩ by unfold Addr.add; split <;> simp_all]
    rw [Nat.zero_add]
    exact hc

theorem hxv (q : Nat) (hq : q < 16) : (q < 10 → IntKind.u8.wrap (48 + (q : Int)) = ((hxN q).toNat : Int)) ∧ (¬ q < 10 → IntKind.u8.wrap (97 + (q : Int)) = 97 + (q : Int) ∧ IntKind.u8.wrap (97 + (q : Int) - 10) = ((hxN q).toNat : Int)) := by
  rcases (show q = 0 ∨ q = 1 ∨ q = 2 ∨ q = 3 ∨ q = 4 ∨ q = 5 ∨ q = 6 ∨ q = 7 ∨ q = 8 ∨ q = 9 ∨ q = 10 ∨ q = 11 ∨ q = 12 ∨ q = 13 ∨ q = 14 ∨ q = 15 by omega) with rfl | rfl | rfl | rfl | rfl | rfl | rfl | rfl | rfl | rfl | rfl | rfl | rfl | rfl | rfl | rfl <;> refine ⟨?_, ?_⟩ <;> intro _ <;> first | omega | decide

set_option maxHeartbeats 4000000 in
set_option maxRecDepth 100000 in
theorem r1Hex_any (A : Option Addr) (n c : Nat) (zs : List Int) (w : World) (h : RD .u8 w w.heap.size A n zs) (hz : BD 255 zs) (hn : n ≤ c) (hc : n ≤ 9223372036854775807) :
    Calls Try.prog 41 #[.slice A n c] w fun e w' => e = .returned (.tuple #[.string (HEXs zs), .int .i64 (HEXe zs)]) ∧ Below w.heap.size w w' := by
  obtain ⟨i0, hi, hz0, hz1, hz2⟩ := info_parts infoU8
  have hl := h.len
  by_cases hbig : 131072 < n
  · have t1 : (131072 : Int) < (n : Int) := by omega
    have HE := Lib.hid (show HEXs zs = ⟨#[]⟩ ∧ HEXe zs = 3 from ⟨by unfold HEXs; rw [if_pos (by omega)], by unfold HEXe; rw [if_pos (by omega)]⟩)
    rw [HE.out.1, HE.out.2]
    clear hbig h hz hl
    go_enter Try.func41, Try.ntmps41
    go_wp2_with fail
    go_ret2
    exact ⟨rfl, Below.refl _ w⟩
  have t1 : ¬ (131072 : Int) < (n : Int) := by omega
  have HE := Lib.hid (show HEXs zs = hexS zs ∧ HEXe zs = 0 from ⟨by unfold HEXs; rw [if_neg (by omega)], by unfold HEXe; rw [if_neg (by omega)]⟩)
  rw [HE.out.1, HE.out.2]
  clear HE
  have R := Lib.hid (fun (W : World) (hb : Below w.heap.size w W) => (show RD .u8 W W.heap.size A n zs from (h.below hb).more hb.size))
  have X0 := Lib.hid ((SP.start w).pushOwn (k := .u8) (e := 5) (Below.refl _ _) OWN.nil)
  have HL := Lib.hid hl
  clear h hl
  go_enter Try.func41, Try.ntmps41
  go_upto_region 5 with fail
  go_loopw [5, 4] (fun s5 s4 wr => ∃ (k : Nat) (A1 : Option Addr) (c1 : Nat), k ≤ n ∧ s5 = .int .i64 (k : Int) ∧ s4 = .slice A1 (2 * k) c1 ∧ SP w wr [.own .u8 5 A1 (2 * k) c1 (UB (hexL (zs.take k)))]) (fun s5 _ _ => n - (intOf s5).toNat)
  case atStart => exact ⟨0, none, 0, by omega, rfl, rfl, X0.out⟩
  case round =>
    obtain ⟨k, A1, c1, hk, rfl, rfl, Y0⟩ := hrel
    obtain ⟨wo, rfl⟩ : ∃ wo : World, wo = wr := ⟨_, rfl⟩
    have Y := Lib.hid Y0
    clear Y0 X0
    by_cases hlt : k < n
    case neg =>
      have t2 : ¬ (k : Int) < (n : Int) := by omega
      obtain rfl : k = n := by omega
      have HT := Lib.hid (show zs.take k = zs from List.take_of_length_le (by rw [HL.out]; omega))
      rw [HT.out] at Y
      have hcv := str_of_own (Y.out.own 0 rfl)
      go_wp2_with fail
      go_ret2
      exact ⟨rfl, Y.out.bel⟩
    have t2 : (k : Int) < (n : Int) := by omega
    have t3 : (0 : Int) ≤ (k : Int) := by omega
    obtain ⟨z1, z2⟩ := hz.get (by omega) k
    have HK := Lib.hid (hexL_take_succ (zs := zs) (k := k) (by rw [HL.out]; omega))
    obtain ⟨x, hx⟩ : ∃ x : Nat, zs[k]?.getD 0 = (x : Int) := ⟨(zs[k]?.getD 0).toNat, by omega⟩
    have hx255 : x ≤ 255 := by omega
    obtain ⟨a, off, rfl, hcell⟩ : ∃ a off, A = some ⟨a, off, none⟩ ∧ Hid (∀ W, Below w.heap.size w W → W.cell? ⟨a, off + k, none⟩ = some (.int .u8 (x : Int))) := by
      obtain ⟨a, off, hA, _, hce⟩ := (R.out _ (Below.refl _ w)).2 (by omega)
      refine ⟨a, off, hA, Lib.hid fun W hb => ?_⟩
      subst hA
      obtain ⟨a', off', hA', _, hce'⟩ := (R.out _ hb).2 (by omega)
      simp only [Option.some.injEq, Addr.mk.injEq, and_true] at hA'
      obtain ⟨rfl, rfl⟩ := hA'
      have := hce' k hlt
      rw [hx] at this
      exact this
    rw [hx] at HK
    clear hx z1 z2
    obtain ⟨q, hq⟩ : ∃ q : Nat, x / 16 = q := ⟨_, rfl⟩
    obtain ⟨r, hr⟩ : ∃ r : Nat, x % 16 = r := ⟨_, rfl⟩
    have hq16 : q < 16 := by omega
    have hr16 : r < 16 := by omega
    have e1 : (x : Int).tdiv 16 = (q : Int) := by rw [Int.tdiv_eq_ediv_of_nonneg (by omega)]; omega
    have e1' : (x : Int) / 16 = (q : Int) := by omega
    have e2 : (x : Int).tmod 16 = (r : Int) := by rw [Int.tmod_eq_emod_of_nonneg (by omega)]; omega
    have e3 : IntKind.u8.wrap (q : Int) = (q : Int) := u8_in _ (by omega) (by omega)
    have e4 : IntKind.u8.wrap (r : Int) = (r : Int) := u8_in _ (by omega) (by omega)
    have HB := Lib.hid (show hxB (x : Int) = [hxN q] ++ [hxN r] by unfold hxB; rw [show ((x : Int)).toNat = x by omega, hq, hr]; rfl)
    rw [HB.out] at HK
    clear hq hr HB
    have hv1 := hxv q hq16
    have hv2 := hxv r hr16
    have HQ1 := Lib.hid hv1
    have HR1 := Lib.hid hv2
    clear hv1 hv2
    go_upto_region 8 with fail
    go_loopw [6, 4] (fun s6 s4 wr => ∃ (m : Nat) (A2 : Option Addr) (c2 : Nat), m ≤ 2 ∧ s6 = .int .i64 (m : Int) ∧ s4 = .slice A2 (2 * k + m) c2 ∧ SP w wr [.own .u8 5 A2 (2 * k + m) c2 (UB (hexL (zs.take k) ++ [hxN q, hxN r].take m))]) (fun s6 _ _ => 2 - (intOf s6).toNat)
    case atStart => exact ⟨0, A1, c1, by omega, rfl, rfl, by simpa using Y.out⟩
    case round =>
      obtain ⟨m, A2, c2, hm, rfl, rfl, Z0⟩ := hrel
      obtain ⟨wp, rfl⟩ : ∃ wp : World, wp = wr := ⟨_, rfl⟩
      have Z := Lib.hid Z0
      clear Z0 Y
      have x1 := hcell.out _ Z.out.bel
      rcases (show m = 0 ∨ m = 1 ∨ m = 2 by omega) with rfl | rfl | rfl
      · have HA := Lib.hid (Z.out.own 0 rfl)
        by_cases h10 : q < 10
        · have t5 : (q : Int) < 10 := by omega
          have e5 := HQ1.out.1 h10
          have X2 := Lib.hid (Z.out.allocI' .u8 5 [((hxN q).toNat : Int)] (by simp [maxLen]) (N := wp.heap.size) rfl)
          clear h10
          go_wp2_with (at_builtin; refine wpList_append_rd _ rfl _ _ _ rfl .u8 w.heap.size 5 i0 1 Try.underlying22 hi hz0 hz1 hz2 A2 (2 * k + 0) c2 (UB (hexL (zs.take k) ++ [hxN q, hxN r].take 0)) rfl (X2.out.own 0 rfl) _ (some ⟨wp.heap.size, 0, none⟩) 1 1 [((hxN q).toNat : Int)] rfl (X2.out.rd 1 rfl) (by simp only [maxLen]; omega) (by omega) X2.out.size ?_; intro A9 c9 w9 happ; have X9 := Lib.hid (X2.out.app 0 rfl happ); clear happ X2)
          go_roundw
          case rel =>
            refine ⟨1, A9, c9, by omega, by go_num, rfl, ?_⟩
            have hh := X9.out.pick [0] (by decide) (L' := [.own .u8 5 A9 (2 * k + 0 + 1) c9 (UB (hexL (zs.take k) ++ [hxN q, hxN r].take 0) ++ [((hxN q).toNat : Int)])]) rfl
            rw [show UB (hexL (zs.take k) ++ [hxN q, hxN r].take 1) = UB (hexL (zs.take k) ++ [hxN q, hxN r].take 0) ++ [((hxN q).toNat : Int)] by simp [UB]]
            exact hh
          case measure => simp [intOf]
        · have t5 : ¬ (q : Int) < 10 := by omega
          obtain ⟨e5, e6⟩ := HQ1.out.2 h10
          have X2 := Lib.hid (Z.out.allocI' .u8 5 [((hxN q).toNat : Int)] (by simp [maxLen]) (N := wp.heap.size) rfl)
          clear h10
          go_wp2_with (at_builtin; refine wpList_append_rd _ rfl _ _ _ rfl .u8 w.heap.size 5 i0 1 Try.underlying22 hi hz0 hz1 hz2 A2 (2 * k + 0) c2 (UB (hexL (zs.take k) ++ [hxN q, hxN r].take 0)) rfl (X2.out.own 0 rfl) _ (some ⟨wp.heap.size, 0, none⟩) 1 1 [((hxN q).toNat : Int)] rfl (X2.out.rd 1 rfl) (by simp only [maxLen]; omega) (by omega) X2.out.size ?_; intro A9 c9 w9 happ; have X9 := Lib.hid (X2.out.app 0 rfl happ); clear happ X2)
          go_roundw
          case rel =>
            refine ⟨1, A9, c9, by omega, by go_num, rfl, ?_⟩
            have hh := X9.out.pick [0] (by decide) (L' := [.own .u8 5 A9 (2 * k + 0 + 1) c9 (UB (hexL (zs.take k) ++ [hxN q, hxN r].take 0) ++ [((hxN q).toNat : Int)])]) rfl
            rw [show UB (hexL (zs.take k) ++ [hxN q, hxN r].take 1) = UB (hexL (zs.take k) ++ [hxN q, hxN r].take 0) ++ [((hxN q).toNat : Int)] by simp [UB]]
            exact hh
          case measure => simp [intOf]
      · have HA := Lib.hid (Z.out.own 0 rfl)
        by_cases h10 : r < 10
        · have t5 : (r : Int) < 10 := by omega
          have e5 := HR1.out.1 h10
          have X2 := Lib.hid (Z.out.allocI' .u8 5 [((hxN r).toNat : Int)] (by simp [maxLen]) (N := wp.heap.size) rfl)
          clear h10
          go_wp2_with (at_builtin; refine wpList_append_rd _ rfl _ _ _ rfl .u8 w.heap.size 5 i0 1 Try.underlying22 hi hz0 hz1 hz2 A2 (2 * k + 1) c2 (UB (hexL (zs.take k) ++ [hxN q, hxN r].take 1)) rfl (X2.out.own 0 rfl) _ (some ⟨wp.heap.size, 0, none⟩) 1 1 [((hxN r).toNat : Int)] rfl (X2.out.rd 1 rfl) (by simp only [maxLen]; omega) (by omega) X2.out.size ?_; intro A9 c9 w9 happ; have X9 := Lib.hid (X2.out.app 0 rfl happ); clear happ X2)
          go_roundw
          case rel =>
            refine ⟨2, A9, c9, by omega, by go_num, rfl, ?_⟩
            have hh := X9.out.pick [0] (by decide) (L' := [.own .u8 5 A9 (2 * k + 1 + 1) c9 (UB (hexL (zs.take k) ++ [hxN q, hxN r].take 1) ++ [((hxN r).toNat : Int)])]) rfl
            rw [show UB (hexL (zs.take k) ++ [hxN q, hxN r].take 2) = UB (hexL (zs.take k) ++ [hxN q, hxN r].take 1) ++ [((hxN r).toNat : Int)] by simp [UB]]
            exact hh
          case measure => simp [intOf]
        · have t5 : ¬ (r : Int) < 10 := by omega
          obtain ⟨e5, e6⟩ := HR1.out.2 h10
          have X2 := Lib.hid (Z.out.allocI' .u8 5 [((hxN r).toNat : Int)] (by simp [maxLen]) (N := wp.heap.size) rfl)
          clear h10
          go_wp2_with (at_builtin; refine wpList_append_rd _ rfl _ _ _ rfl .u8 w.heap.size 5 i0 1 Try.underlying22 hi hz0 hz1 hz2 A2 (2 * k + 1) c2 (UB (hexL (zs.take k) ++ [hxN q, hxN r].take 1)) rfl (X2.out.own 0 rfl) _ (some ⟨wp.heap.size, 0, none⟩) 1 1 [((hxN r).toNat : Int)] rfl (X2.out.rd 1 rfl) (by simp only [maxLen]; omega) (by omega) X2.out.size ?_; intro A9 c9 w9 happ; have X9 := Lib.hid (X2.out.app 0 rfl happ); clear happ X2)
          go_roundw
          case rel =>
            refine ⟨2, A9, c9, by omega, by go_num, rfl, ?_⟩
            have hh := X9.out.pick [0] (by decide) (L' := [.own .u8 5 A9 (2 * k + 1 + 1) c9 (UB (hexL (zs.take k) ++ [hxN q, hxN r].take 1) ++ [((hxN r).toNat : Int)])]) rfl
            rw [show UB (hexL (zs.take k) ++ [hxN q, hxN r].take 2) = UB (hexL (zs.take k) ++ [hxN q, hxN r].take 1) ++ [((hxN r).toNat : Int)] by simp [UB]]
            exact hh
          case measure => simp [intOf]
      · have Z3 := Lib.hid (show SP w wp [.own .u8 5 A2 (2 * (k + 1)) c2 (UB (hexL (zs.take (k + 1))))] by
          rw [HK.out, show 2 * (k + 1) = 2 * k + 2 by omega]
          exact Z.out)
        go_wp2_with fail
        go_roundw
        case rel => exact ⟨k + 1, A2, c2, by omega, by go_num, by rw [show 2 * (k + 1) = 2 * k + 2 by omega], Z3.out⟩
        case measure => simp [intOf]; omega

/-- two bytes more of a text -/
theorem uh_parts (s : ByteArray) (j : Nat) (hj : j + 1 < s.size) : ∃ r, SB s = (SB s).take j ++ (SB s)[j]?.getD 0 :: (SB s)[j + 1]?.getD 0 :: r := by
  refine ⟨(SB s).drop (j + 2), ?_⟩
  have l1 : j < (SB s).length := by rw [SB_len]; omega
  have l2 : j + 1 < (SB s).length := by rw [SB_len]; omega
  rw [List.getElem?_eq_getElem l1, List.getElem?_eq_getElem l2]
  simp only [Option.getD_some]
  rw [← List.drop_eq_getElem_cons l2, ← List.drop_eq_getElem_cons l1, List.take_append_drop]
theorem uh_bad {s : ByteArray} {j : Nat} {acc : List Int} (hj : j + 1 < s.size) (h : unL ((SB s).take j) = some acc) (hab : dg ((SB s)[j]?.getD 0) < 0 ∨ dg ((SB s)[j + 1]?.getD 0) < 0) : unL (SB s) = none := by
  obtain ⟨r, hr⟩ := uh_parts s j hj
  have := unL_bad acc ((SB s).take j) r _ _ _ (Nat.le_refl _) h hab
  rw [← hr] at this
  exact this
theorem uh_more {s : ByteArray} {j : Nat} {acc : List Int} (hj : j + 1 < s.size) (h : unL ((SB s).take j) = some acc) (h1 : 0 ≤ dg ((SB s)[j]?.getD 0)) (h2 : 0 ≤ dg ((SB s)[j + 1]?.getD 0)) :
    unL ((SB s).take (j + 2)) = some (acc ++ [16 * dg ((SB s)[j]?.getD 0) + dg ((SB s)[j + 1]?.getD 0)]) := by
  obtain ⟨r, hr⟩ := uh_parts s j hj
  have := unL_more acc ((SB s).take j) _ _ _ (Nat.le_refl _) h h1 h2
  have lj : ((SB s).take j).length = j := by rw [List.length_take, SB_len]; omega
  have h3 : (SB s).take (j + 2) = (SB s).take j ++ [(SB s)[j]?.getD 0, (SB s)[j + 1]?.getD 0] := by
    conv => lhs; rw [hr]
    rw [List.take_append, lj, show j + 2 - j = 2 by omega, List.take_of_length_le (l := (SB s).take j) (by omega)]
    rfl
  rw [h3]; exact this

set_option maxHeartbeats 4000000 in
set_option maxRecDepth 100000 in
theorem r1Unhex_any (s : ByteArray) (w : World) (hs : s.size ≤ 9223372036854775807) : Calls Try.prog 42 #[.string s] w fun e w' => ∃ A n c, e = .returned (.tuple #[.slice A n c, .int .i64 (UNH s).2]) ∧ OWN .u8 5 w' w.heap.size A n c (UNH s).1 ∧ Below w.heap.size w w' := by
  obtain ⟨i0, hi, hz0, hz1, hz2⟩ := info_parts infoU8
  by_cases hbig : 262144 < s.size
  · have t1 : (262144 : Int) < (s.size : Int) := by omega
    have HU := Lib.hid (show UNH s = ([], 3) by unfold UNH; rw [if_pos hbig])
    rw [HU.out]
    clear HU hbig
    go_enter Try.func42, Try.ntmps42
    go_wp2_with fail
    go_ret2
    exact ⟨none, 0, 0, rfl, OWN.nil, Below.refl _ _⟩
  have t1 : ¬ (262144 : Int) < (s.size : Int) := by omega
  have HBG := Lib.hid hbig
  clear hbig
  go_enter Try.func42, Try.ntmps42
  go_upto_region 5 with fail
  go_loopw [5, 4] (fun s5 s4 wr => ∃ (k j : Nat) (A : Option Addr) (c : Nat) (acc : List Int), j = 2 * k ∧ j ≤ s.size + 1 ∧ s5 = .int .i64 (j : Int) ∧ s4 = .slice A k c ∧ Hid ((j ≤ s.size ∧ unL ((SB s).take j) = some acc) ∧ SP w wr [.own .u8 5 A k c acc])) (fun s5 _ _ => s.size + 2 - (intOf s5).toNat)
  case atStart => exact ⟨0, 0, none, 0, [], rfl, by omega, rfl, rfl, Lib.hid ⟨⟨by omega, rfl⟩, (SP.start w).pushOwn (Below.refl _ _) OWN.nil⟩⟩
  case round =>
    obtain ⟨k, j, A, c, acc, hj, hk, rfl, rfl, HX⟩ := hrel
    obtain ⟨wo, rfl⟩ : ∃ wo : World, wo = wr := ⟨_, rfl⟩
    have HJ := Lib.hid hj
    have hkb : k ≤ 131073 := by have := HBG.out; omega
    have hj2 : j % 2 = 0 := by omega
    have HJ2 := Lib.hid hj2
    clear hj hj2
    by_cases hlt : j < s.size
    case neg =>
      have t3 : ¬ (j : Int) < (s.size : Int) := by omega
      have HU := Lib.hid (show UNH s = (acc, 0) by
        have h1 := HX.out.1.2
        rw [List.take_of_length_le (by rw [SB_len]; omega)] at h1
        unfold UNH
        rw [if_neg HBG.out, h1])
      clear hlt
      go_wp2_with fail
      go_ret2
      exact ⟨A, k, c, by rw [HU.out]; rfl, by rw [HU.out]; exact HX.out.2.own 0 rfl, HX.out.2.bel⟩
    have t3 : (j : Int) < (s.size : Int) := by omega
    have e0 : IntKind.i64.wrap ((j : Int) + 1) = (j : Int) + 1 := IntWalk.i64_in _ (by have := HBG.out; omega)
    have e9 : IntKind.i64.wrap ((j : Int) + 2) = (j : Int) + 2 := IntWalk.i64_in _ (by have := HBG.out; omega)
    by_cases hodd : j + 1 = s.size
    case pos =>
      have t4 : ((j : Int) + 1 == (s.size : Int)) = true := by rw [show (s.size : Int) = (j : Int) + 1 by omega]; simp
      have HU := Lib.hid (show UNH s = ([], 10) by
        unfold UNH
        rw [if_neg HBG.out, unL_odd _ _ (Nat.le_refl _) (by rw [SB_len]; have := HJ2.out; omega)])
      clear hodd hlt
      go_wp2_with fail
      go_ret2
      exact ⟨none, 0, 0, by rw [HU.out]; rfl, by rw [HU.out]; exact OWN.nil, HX.out.2.bel⟩
    have hlt2 : j + 1 < s.size := by omega
    have t4 : ((j : Int) + 1 == (s.size : Int)) = false := by rw [beq_eq_false_iff_ne]; omega
    have i1 := str_idx s j (by omega)
    have i2 : ∀ W : World, (Instr.index 9 (.string s) (.int .i64 ((j : Int) + 1))).run Try.prog W = .ok (.int .u8 ((SB s)[j + 1]?.getD 0)) W := str_idx s (j + 1) (by omega)
    have hsb : BD 255 (SB s) := UB_bd s.data.toList
    have ha := hsb.get (by omega) j
    have hb := hsb.get (by omega) (j + 1)
    have HBAD := Lib.hid (uh_bad (s := s) (j := j) (acc := acc) hlt2 HX.out.1.2)
    have HMORE := Lib.hid (uh_more (s := s) (j := j) (acc := acc) hlt2 HX.out.1.2)
    obtain ⟨a, hae⟩ : ∃ a, (SB s)[j]?.getD 0 = a := ⟨_, rfl⟩
    obtain ⟨b, hbe⟩ : ∃ b, (SB s)[j + 1]?.getD 0 = b := ⟨_, rfl⟩
    rw [hae, hbe] at HBAD HMORE
    rw [hae] at i1 ha
    rw [hbe] at i2 hb
    have X := Lib.hid HX.out.2
    clear HX hae hbe hsb hodd
    have HDA := Lib.hid (fun W => r1digit_any a W ha)
    have HDB := Lib.hid (fun W => r1digit_any b W hb)
    obtain ⟨da, hda2⟩ : ∃ da, dg a = da := ⟨_, rfl⟩
    obtain ⟨db, hdb2⟩ : ∃ db, dg b = db := ⟨_, rfl⟩
    have b1 := dg_bd a
    have b2 := dg_bd b
    rw [hda2, hdb2] at HBAD HMORE
    rw [hda2] at b1 HDA
    rw [hdb2] at b2 HDB
    clear hda2 hdb2 ha hb
    obtain ⟨b11, b12⟩ := b1
    obtain ⟨b21, b22⟩ := b2
    by_cases hbad : da < 0 ∨ db < 0
    case pos =>
      have HU := Lib.hid (show UNH s = ([], 10) by
        unfold UNH
        rw [if_neg HBG.out, HBAD.out hbad])
      clear HBAD HMORE
      by_cases hda : da < 0
      · clear hbad
        go_wp2_with (first
          | (go_at_call 71; refine (HDA.out _).mono ?_; rintro e wo ⟨rfl, rfl⟩))
        go_ret2
        exact ⟨none, 0, 0, by rw [HU.out]; rfl, by rw [HU.out]; exact OWN.nil, X.out.bel⟩
      · have hdb : db < 0 := by omega
        clear hbad
        go_wp2_with (first
          | (go_at_call 71; with_reducible refine (HDB.out _).mono ?_; rintro e wo ⟨rfl, rfl⟩)
          | (go_at_call 71; with_reducible refine (HDA.out _).mono ?_; rintro e wo ⟨rfl, rfl⟩))
        go_ret2
        exact ⟨none, 0, 0, by rw [HU.out]; rfl, by rw [HU.out]; exact OWN.nil, X.out.bel⟩
    have hda : ¬ da < 0 := by omega
    have hdb : ¬ db < 0 := by omega
    have HY := Lib.hid (HMORE.out (by omega) (by omega))
    clear hbad HBAD HMORE
    obtain ⟨y, hy⟩ : ∃ y, 16 * da + db = y := ⟨_, rfl⟩
    rw [hy] at HY
    have e1 : IntKind.i64.wrap (16 * da) = 16 * da := IntWalk.i64_in _ (by omega)
    have e2 : IntKind.i64.wrap (16 * da + db) = y := by rw [hy]; exact IntWalk.i64_in _ (by omega)
    have e3 : IntKind.u8.wrap y = y := u8_in _ (by omega) (by omega)
    clear hy
    go_upto_region 9 with (first
      | (go_at_call 71; with_reducible refine (HDB.out _).mono ?_; rintro e wo ⟨rfl, rfl⟩)
      | (go_at_call 71; with_reducible refine (HDA.out _).mono ?_; rintro e wo ⟨rfl, rfl⟩))
    have HWO := Lib.hid (show SP w _ [.own .u8 5 A k c acc] from X.out.drew)
    clear X
    refine wp_region_noPanic ?_
    refine wp_region_held_drew (S := fun _ => True) (by kernel_rfl) (by trivial) (fun hHeld => ?_)
    generalize wo.drew = v0 at HWO ⊢
    refine' take_lit (i := 0) (v := _) rfl (by kernel_rfl) (by kernel_rfl) (by kernel_rfl) (fun _ _ _ h => h) (Or.inl ⟨by rfl, ?yy1⟩) (by assumption) ?rr1
    case yy1 => intro w' hSw; (try dsimp only at hSw); go_simp; try (with_reducible rfl)
    (try simp only [Act.put]); (try simp only [List.setIfInBounds_toArray, List.set_cons_zero, List.set_cons_succ])
    refine' take_lit (i := 1) (v := _) rfl (by kernel_rfl) (by kernel_rfl) (by kernel_rfl) (fun _ _ _ h => h) (Or.inl ⟨by rfl, ?yy2⟩) (by assumption) ?rr2
    case yy2 => intro w' hSw; (try dsimp only at hSw); go_simp; try (with_reducible rfl)
    (try simp only [Act.put]); (try simp only [List.setIfInBounds_toArray, List.set_cons_zero, List.set_cons_succ])
    refine' take_lit (i := 2) (v := _) rfl (by kernel_rfl) (by kernel_rfl) (by kernel_rfl) (fun _ _ _ h => h) (Or.inl ⟨by rfl, ?yy3⟩) (by assumption) ?rr3
    case yy3 => intro w' hSw; (try dsimp only at hSw); go_simp; try (with_reducible rfl)
    (try simp only [Act.put]); (try simp only [List.setIfInBounds_toArray, List.set_cons_zero, List.set_cons_succ])
    refine' take_lit (i := 3) (v := _) rfl (by kernel_rfl) (by kernel_rfl) (by kernel_rfl) (fun _ _ _ h => h) (Or.inl ⟨by rfl, ?yy4⟩) (by assumption) ?rr4
    case yy4 => intro w' hSw; (try dsimp only at hSw); go_simp; try (with_reducible rfl)
    (try simp only [Act.put]); (try simp only [List.setIfInBounds_toArray, List.set_cons_zero, List.set_cons_succ])
    refine' take_lit (i := 6) (v := _) rfl (by kernel_rfl) (by kernel_rfl) (by kernel_rfl) (fun _ _ _ h => h) (Or.inl ⟨by rfl, ?yy5⟩) (by assumption) ?rr5
    case yy5 => intro w' hSw; (try dsimp only at hSw); go_simp; try (with_reducible rfl)
    (try simp only [Act.put]); (try simp only [List.setIfInBounds_toArray, List.set_cons_zero, List.set_cons_succ])
    refine' take_lit (i := 7) (v := _) rfl (by kernel_rfl) (by kernel_rfl) (by kernel_rfl) (fun _ _ _ h => h) (Or.inl ⟨by rfl, ?yy6⟩) (by assumption) ?rr6
    case yy6 => intro w' hSw; (try dsimp only at hSw); go_simp; try (with_reducible rfl)
    (try simp only [Act.put]); (try simp only [List.setIfInBounds_toArray, List.set_cons_zero, List.set_cons_succ])
    refine' take_lit (i := 8) (v := _) rfl (by kernel_rfl) (by kernel_rfl) (by kernel_rfl) (fun _ _ _ h => h) (Or.inl ⟨by rfl, ?yy7⟩) (by assumption) ?rr7
    case yy7 => intro w' hSw; (try dsimp only at hSw); go_simp; try (with_reducible rfl)
    (try simp only [Act.put]); (try simp only [List.setIfInBounds_toArray, List.set_cons_zero, List.set_cons_succ])
    refine' take_lit (i := 9) (v := _) rfl (by kernel_rfl) (by kernel_rfl) (by kernel_rfl) (fun _ _ _ h => h) (Or.inl ⟨by rfl, ?yy8⟩) (by assumption) ?rr8
    case yy8 => intro w' hSw; (try dsimp only at hSw); go_simp; try (with_reducible rfl)
    (try simp only [Act.put]); (try simp only [List.setIfInBounds_toArray, List.set_cons_zero, List.set_cons_succ])
    refine wpAnyH_ready (rs := [4]) (by kernel_rfl) (by simp) ?_
    refine cons_lit rfl (fun K hK => ?ss4x9) AllReadyH.nil
    case ss4x9 =>
      go_simp
      refine (HDA.out _).mono ?_
      rintro e v0 ⟨rfl, rfl⟩
      refine hK.out _ _ (by trivial) (fun hHeld => ?_)
      clear hK K
      (try simp only [Act.put]); (try simp only [List.setIfInBounds_toArray, List.set_cons_zero, List.set_cons_succ])
      refine' take_lit (i := 5) (v := _) rfl (by kernel_rfl) (by kernel_rfl) (by kernel_rfl) (fun _ _ _ h => h) (Or.inl ⟨by rfl, ?yy10⟩) (by assumption) ?rr10
      case yy10 => intro w' hSw; (try dsimp only at hSw); go_simp; try (with_reducible rfl)
      (try simp only [Act.put]); (try simp only [List.setIfInBounds_toArray, List.set_cons_zero, List.set_cons_succ])
      refine wpAnyH_ready (rs := [10]) (by kernel_rfl) (by simp) ?_
      refine cons_lit rfl (fun K hK => ?ss10x11) AllReadyH.nil
      case ss10x11 =>
        go_simp
        refine (HDB.out _).mono ?_
        rintro e v0 ⟨rfl, rfl⟩
        refine hK.out _ _ (by trivial) (fun hHeld => ?_)
        clear hK K
        (try simp only [Act.put]); (try simp only [List.setIfInBounds_toArray, List.set_cons_zero, List.set_cons_succ])
        refine' take_lit (i := 11) (v := _) rfl (by kernel_rfl) (by kernel_rfl) (by kernel_rfl) (fun _ _ _ h => h) (Or.inl ⟨by rfl, ?yy12⟩) (by assumption) ?rr12
        case yy12 => intro w' hSw; (try dsimp only at hSw); go_simp; try (with_reducible rfl)
        (try simp only [Act.put]); (try simp only [List.setIfInBounds_toArray, List.set_cons_zero, List.set_cons_succ])
        refine' take_lit (i := 12) (v := _) rfl (by kernel_rfl) (by kernel_rfl) (by kernel_rfl) (fun _ _ _ h => h) (Or.inl ⟨by rfl, ?yy13⟩) (by assumption) ?rr13
        case yy13 => intro w' hSw; (try dsimp only at hSw); go_simp; try (with_reducible rfl)
        (try simp only [Act.put]); (try simp only [List.setIfInBounds_toArray, List.set_cons_zero, List.set_cons_succ])
        refine wpAnyH_ready (rs := [13]) (by kernel_rfl) (by simp) ?_
        refine cons_lit rfl (fun K hK => ?ss13x14) AllReadyH.nil
        case ss13x14 =>
          go_simp
          obtain ⟨gl, hgl⟩ : ∃ g, g = v0.heap.size := ⟨_, rfl⟩
          rw [← hgl]
          refine nameR (fun v1 hv1 => ?_)
          have X1 := Lib.hid (show SP w v1 [.own .u8 5 A k c acc, .own .u8 5 (some ⟨gl, 0, none⟩) 1 1 [y]] by rw [hv1, hgl]; exact HWO.out.allocI .u8 5 [y] (by simp [maxLen]))
          clear hv1 hgl
          refine hK.out _ _ (by trivial) (fun hHeld => ?_)
          clear hK K
          (try simp only [Act.put]); (try simp only [List.setIfInBounds_toArray, List.set_cons_zero, List.set_cons_succ])
          refine wpAnyH_ready (rs := [14]) (by kernel_rfl) (by simp) ?_
          refine cons_lit rfl (fun K hK => ?ss14x15) AllReadyH.nil
          case ss14x15 =>
            refine step_append_rd _ (by rfl) _ _ 22 (by rfl) .u8 w.heap.size 5 i0 1 Try.underlying22 hi hz0 hz1 hz2 A k c acc (by rfl) (by exact X1.out.own 0 rfl) _ (some ⟨gl, 0, none⟩) 1 1 [y] (by rfl) (by exact X1.out.rd 1 rfl) (by simp only [maxLen]; omega) (by omega) (by exact X1.out.size) ?_
            intro A2 c2 v2 happ
            have X2 := Lib.hid ((X1.out.app 0 rfl happ).pick [0] (by decide) (L' := [.own .u8 5 A2 (k + 1) c2 (acc ++ [y])]) rfl)
            clear happ X1
            refine hK.out _ _ (by trivial) (fun hHeld => ?_)
            clear hK K
            (try simp only [Act.put]); (try simp only [List.setIfInBounds_toArray, List.set_cons_zero, List.set_cons_succ])
            refine' take_lit (i := 15) (v := _) rfl (by kernel_rfl) (by kernel_rfl) (by kernel_rfl) (fun _ _ _ h => h) (Or.inl ⟨by rfl, ?yy16⟩) (by assumption) ?rr16
            case yy16 => intro w' hSw; (try dsimp only at hSw); go_simp; try (with_reducible rfl)
            (try simp only [Act.put]); (try simp only [List.setIfInBounds_toArray, List.set_cons_zero, List.set_cons_succ])
            refine wpAnyH_done (by kernel_rfl) ?_ _
            refine NoPanic.normal ?_
            have HW := Lib.hid (And.intro HJ.out HY.out)
            go_wp2_with fail
            go_roundw
            case rel => exact ⟨k + 1, j + 2, A2, c2, acc ++ [y], by have := HJ.out; omega, by omega, by go_num, rfl, Lib.hid ⟨⟨by omega, HY.out⟩, X2.out⟩⟩
            case measure => simp [intOf]; omega
end Go.Proofs.Ytcipgkpcaecjdaa
