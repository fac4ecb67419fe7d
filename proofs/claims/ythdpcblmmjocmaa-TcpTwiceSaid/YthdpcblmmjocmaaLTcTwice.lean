import Derived.Test.YthdpcblmmjocmaaTcO
import Derived.Test.YthdpcblmmjocmaaWAwake8
/- bafflelaw08.TcpTwice. -/
namespace Go.Proofs.Ythdpcblmmjocmaa
open Go.RowKit
set_option linter.unusedVariables false

/-- one option of each known kind -/
def ONE (k : Nat) : List Int := [[2, 4, 5, 180], [3, 3, 7], [4, 2], [8, 10, 0, 0, 0, 1, 0, 0, 0, 2], [5, 10, 0, 0, 0, 1, 0, 0, 0, 2]][k]?.getD []
theorem ONE_len : ∀ k : Nat, k < 5 → 2 ≤ (ONE k).length ∧ (ONE k).length ≤ 10 := by decide
theorem ONE_bd : ∀ k : Nat, k < 5 → ∀ y ∈ ONE k, 0 ≤ y ∧ y ≤ 255 := by decide
theorem ONE_two : ∀ k : Nat, k < 5 → parseE (ONE k ++ ONE k) = 84 := by decide
theorem ONE_long : ∀ k : Nat, k < 5 → parseE ((ONE k ++ [1]).set 1 ((ONE k ++ [1])[1]?.getD 0 + 1)) = 84 := by decide
theorem ONE_short : ∀ k : Nat, k < 5 → parseE ((ONE k).take ((ONE k).length - 1)) = 84 := by decide
theorem ONE_second : ∀ k : Nat, k < 5 → (2 : Int) ≤ (ONE k)[1]?.getD 0 ∧ ((ONE k)[1]?.getD 0 : Int) ≤ 10 ∧ ((ONE k ++ [1])[1]?.getD 0 : Int) = (ONE k)[1]?.getD 0 := by decide
/-- a known kind is there -/
def thereB (k : Nat) (K : KN) : Bool := [decide (0 < K.mss), decide (0 ≤ K.sc), K.sel, K.st, decide (0 < K.bl.length)][k]?.getD false
theorem one_more {b : List Int} {K : KN} (h : OPTS b kn0 K) (hl : b.length ≤ 30) (k : Nat) (hk : k < 5) : (thereB k K = true → parseE (b ++ ONE k) = 84 ∧ parseK (b ++ ONE k) = knZ) ∧ (thereB k K = false → parseE (b ++ ONE k) = 0) := by
  have hl2 := (ONE_len k hk).2
  have hn : ¬ 40 < (b ++ ONE k).length := by rw [List.length_append]; omega
  have hp := h.parse (ONE k)
  have key : (thereB k K = true → parse (ONE k) K = none) ∧ (thereB k K = false → (parse (ONE k) K).isSome = true) := by
    have go : ∀ (kind : Int) (c : List Int), ONE k = [kind, 2 + (c.length : Int)] ++ c ++ [] → kind ≠ 0 → kind ≠ 1 → (thereB k K = true → take1 kind c K = none) → (thereB k K = false → (take1 kind c K).isSome = true) → (thereB k K = true → parse (ONE k) K = none) ∧ (thereB k K = false → (parse (ONE k) K).isSome = true) := by
      intro kind c e h0 h1 ht hf
      rw [e, parse_opt _ _ _ h0 h1]
      constructor
      · intro h; rw [ht h]; rfl
      · intro h
        obtain ⟨k', hk'⟩ := Option.isSome_iff_exists.1 (hf h)
        rw [hk']
        show (parse [] k').isSome = true
        rw [parse_nil]; rfl
    rcases (show k = 0 ∨ k = 1 ∨ k = 2 ∨ k = 3 ∨ k = 4 by omega) with rfl | rfl | rfl | rfl | rfl
    · refine go 2 [5, 180] rfl (by decide) (by decide) (fun h => ?_) (fun h => ?_) <;> simp [thereB] at h <;> simp [take1, h, wordAt]
    · refine go 3 [7] rfl (by decide) (by decide) (fun h => ?_) (fun h => ?_) <;> simp [thereB] at h <;> simp [take1, h]
    · refine go 4 [] rfl (by decide) (by decide) (fun h => ?_) (fun h => ?_) <;> simp [thereB] at h <;> simp [take1, h]
    · refine go 8 [0, 0, 0, 1, 0, 0, 0, 2] rfl (by decide) (by decide) (fun h => ?_) (fun h => ?_) <;> simp [thereB] at h <;> simp [take1, h]
    · refine go 5 [0, 0, 0, 1, 0, 0, 0, 2] rfl (by decide) (by decide) (fun h => ?_) (fun h => ?_) <;> simp [thereB] at h <;> simp [take1, h]
      intro h2; rw [h2] at h; simp at h
  constructor
  · intro ht
    unfold parseE parseK
    rw [if_neg hn, if_neg hn, hp, key.1 ht]
    exact ⟨rfl, rfl⟩
  · intro ht
    obtain ⟨k', hk'⟩ := Option.isSome_iff_exists.1 (key.2 ht)
    unfold parseE
    rw [if_neg hn, hp, hk']
theorem andNot8 : ∀ a : Nat, a < 256 → hb (bits .andNot .u8 (a : Int) 8) 8 = false ∧ 0 ≤ bits .andNot .u8 (a : Int) 8 ∧ bits .andNot .u8 (a : Int) 8 ≤ 255 := by decide +kernel

set_option maxHeartbeats 4000000 in
set_option maxRecDepth 100000 in
theorem tcpTwice_walk (x0 x1 x2 x3 x4 x5 x6 x7 kd : Int) (w : World) (h0 : 0 ≤ x0 ∧ x0 ≤ 255) (h1 : 0 ≤ x1 ∧ x1 ≤ 65535) (h2 : 0 ≤ x2 ∧ x2 ≤ 255) (h3 : 0 ≤ x3 ∧ x3 ≤ 4294967295) (h4 : 0 ≤ x4 ∧ x4 ≤ 4294967295) (h5 : 0 ≤ x5 ∧ x5 ≤ 255) (hkd : 0 ≤ kd ∧ kd ≤ 255) :
    Calls Try.prog 10 #[.agg #[.int .u8 x0, .int .u16 x1, .int .u8 x2, .int .u32 x3, .int .u32 x4, .int .u8 x5, .int .u8 x6, .int .u8 x7], .int .u8 kd] w fun e w' => e = .returned (.bool true) ∧ Below w.heap.size w w' := by
  obtain ⟨i0, hi, hz0, hz1, hz2⟩ := info_parts infoU8
  obtain ⟨k, hk5⟩ : ∃ k : Nat, kd % 5 = (k : Int) := ⟨(kd % 5).toNat, by omega⟩
  have hk : k < 5 := by omega
  have HK5 := Lib.hid hk5
  obtain ⟨y0, hy0, hy8, hyb⟩ : ∃ y0, bits .andNot .u8 x0 8 = y0 ∧ hb y0 8 = false ∧ 0 ≤ y0 ∧ y0 ≤ 255 := by
    have := andNot8 x0.toNat (by omega)
    rw [show (x0.toNat : Int) = x0 by omega] at this
    exact ⟨_, rfl, this⟩
  obtain ⟨y5, hy5, hy5b⟩ : ∃ y5, x5 % 2 = y5 ∧ 0 ≤ y5 ∧ y5 ≤ 1 := ⟨_, rfl, by omega, by omega⟩
  have HOF := Lib.hid (fun W => of8_any y0 x1 x2 x3 x4 y5 x6 x7 W hyb h1 h2 h3 h4 (by omega))
  have HWF := Lib.hid (ofK_wf (x0 := y0) (x5 := y5) h1 h2 h3 h4)
  have HLN : (fmt5 (ofK y0 x1 x2 x3 x4 y5)).length ≤ 24 := by
    rw [fmt5_len]
    have hn : (ofK y0 x1 x2 x3 x4 y5).bl.length ≤ 1 := by
      show (blkK x3 x4 (manyK y0 y5)).length ≤ 1
      rw [blkK_len]; unfold manyK; omega
    have hst : (ofK y0 x1 x2 x3 x4 y5).st = false := hy8
    rw [hst]
    have c1 := cost_le (decide (0 < (ofK y0 x1 x2 x3 x4 y5).mss)) 4
    have c2 := cost_le (decide (0 ≤ (ofK y0 x1 x2 x3 x4 y5).sc)) 4
    have c3 := cost_le (ofK y0 x1 x2 x3 x4 y5).sel 4
    have c5 := cost_le (decide ((ofK y0 x1 x2 x3 x4 y5).bl ≠ [])) (4 + 8 * (ofK y0 x1 x2 x3 x4 y5).bl.length)
    have c4 : cost false 12 = 0 := rfl
    omega
  unfold OFP at HOF
  generalize ofK y0 x1 x2 x3 x4 y5 = K at HOF HWF HLN
  clear hy8
  obtain ⟨m, sc, sel, st, ts, ec, bl⟩ := K
  have S0 := (SP.start w).alloc 54 #[.int .u8 x0, .int .u16 x1, .int .u8 x2, .int .u32 x3, .int .u32 x4, .int .u8 x5, .int .u8 x6, .int .u8 x7]
  have H0 := Lib.hid S0
  clear S0
  go_enter Try.func10, Try.ntmps10
  go_wp2_with fail
  obtain ⟨N, hN⟩ : ∃ N, N = w.heap.size := ⟨_, rfl⟩
  rw [← hN] at H0 ⊢
  clear hN
  refine (awake8_any _).mono ?_
  rintro e w1 ⟨rfl, hb1⟩
  have X1 := Lib.hid (show SP w w1 [.blk N 54 #[.int .u8 x0, .int .u16 x1, .int .u8 x2, .int .u32 x3, .int .u32 x4, .int .u8 x5, .int .u8 x6, .int .u8 x7]] from H0.out.next hb1)
  clear hb1 H0
  go_upto_region 3 with fail
  obtain ⟨L, hL⟩ : ∃ L, (ONE k).length = L := ⟨_, rfl⟩
  go_cut [5] (fun s5 wx => ∃ B : Nat, s5 = .slice (some ⟨B, 0, none⟩) L L ∧ SP w wx [.own .u8 5 (some ⟨B, 0, none⟩) L L (ONE k), .blk N 54 #[.int .u8 x0, .int .u16 x1, .int .u8 x2, .int .u32 x3, .int .u32 x4, .int .u8 x5, .int .u8 x6, .int .u8 x7]])
  case first =>
    obtain ⟨B0, hB0⟩ : ∃ N, N = w1.heap.size := ⟨_, rfl⟩
    have X2 := Lib.hid ((((((X1.out.allocI' .u8 5 (ONE 0) (by decide) hB0.symm).allocI' .u8 5 (ONE 1) (by decide) (N := B0 + 1) (by simp [hB0])).allocI' .u8 5 (ONE 2) (by decide) (N := B0 + 1 + 1) (by simp [hB0])).allocI' .u8 5 (ONE 3) (by decide) (N := B0 + 1 + 1 + 1) (by simp [hB0])).allocI' .u8 5 (ONE 4) (by decide) (N := B0 + 1 + 1 + 1 + 1) (by simp [hB0])).alloc' 22 #[.slice (some ⟨B0, 0, none⟩) 4 4, .slice (some ⟨B0 + 1, 0, none⟩) 3 3, .slice (some ⟨B0 + 1 + 1, 0, none⟩) 2 2, .slice (some ⟨B0 + 1 + 1 + 1, 0, none⟩) 10 10, .slice (some ⟨B0 + 1 + 1 + 1 + 1, 0, none⟩) 10 10] (N := B0 + 1 + 1 + 1 + 1 + 1) (by simp [hB0]))
    rcases (show k = 0 ∨ k = 1 ∨ k = 2 ∨ k = 3 ∨ k = 4 by omega) with rfl | rfl | rfl | rfl | rfl
    · obtain rfl : L = 4 := hL.symm
      clear hL X1
      go_wp2_with fail
      rw [← hB0]
      go_meet
      exact ⟨B0, rfl, X2.out.pick [1, 0] (by decide) rfl⟩
    · obtain rfl : L = 3 := hL.symm
      clear hL X1
      go_wp2_with fail
      rw [← hB0]
      go_meet
      exact ⟨B0 + 1, rfl, X2.out.pick [2, 0] (by decide) rfl⟩
    · obtain rfl : L = 2 := hL.symm
      clear hL X1
      go_wp2_with fail
      rw [← hB0]
      go_meet
      exact ⟨B0 + 1 + 1, rfl, X2.out.pick [3, 0] (by decide) rfl⟩
    · obtain rfl : L = 10 := hL.symm
      clear hL X1
      go_wp2_with fail
      rw [← hB0]
      go_meet
      exact ⟨B0 + 1 + 1 + 1, rfl, X2.out.pick [4, 0] (by decide) rfl⟩
    · obtain rfl : L = 10 := hL.symm
      clear hL X1
      go_wp2_with fail
      rw [← hB0]
      go_meet
      exact ⟨B0 + 1 + 1 + 1 + 1, rfl, X2.out.pick [5, 0] (by decide) rfl⟩
  case rest =>
  obtain ⟨B, rfl, hX⟩ := hcut
  have X := Lib.hid hX
  clear hX X1 hk5
  have c0 : wc.cell? ⟨N, 0, none⟩ = some (.int .u8 x0) := X.out.cell 1 rfl 0 rfl
  have c5 : wc.cell? ⟨N, 5, none⟩ = some (.int .u8 x5) := X.out.cell 1 rfl 5 rfl
  have f0 := X.out.free 1 rfl 0
  have f5 := X.out.free 1 rfl 5
  go_upto_region 6 with fail
  have X2 := Lib.hid (show SP w _ [.own .u8 5 (some ⟨B, 0, none⟩) L L (ONE k), .blk N 54 #[.int .u8 y0, .int .u16 x1, .int .u8 x2, .int .u32 x3, .int .u32 x4, .int .u8 y5, .int .u8 x6, .int .u8 x7]] from (X.out.setB 1 rfl 0 (.int .u8 y0)).setB 1 rfl 5 (.int .u8 y5))
  clear c0 c5 f0 f5 X hy0 hy5
  generalize (wc.setCell _ _).setCell _ _ = w2 at X2 ⊢
  go_wp2_with (refine wpList_load_row rfl 54 _ rfl N rfl 54 #[.int .u8 y0, .int .u16 x1, .int .u8 x2, .int .u32 x3, .int .u32 x4, .int .u8 y5, .int .u8 x6, .int .u8 x7] _ _ (X2.out.blk 1 rfl) Try.underlying54 rfl (by kernel_rfl) ?_)
  refine (HOF.out _).mono ?_
  rintro e w3 ⟨A3, n3, c3, hn3, rfl, Xp⟩
  have X3 := Lib.hid (show SP w w3 [.own .u8 5 (some ⟨B, 0, none⟩) L L (ONE k), .blk N 54 #[.int .u8 y0, .int .u16 x1, .int .u8 x2, .int .u32 x3, .int .u32 x4, .int .u8 y5, .int .u8 x6, .int .u8 x7], .row 93 2 A3 n3 c3 (prs bl)] from X2.out.push Xp.bel (Xp.all 0 _ rfl))
  clear Xp X2
  have HN3 := Lib.hid hn3
  clear hn3
  go_wp2_with fail
  refine (tcformat_any ⟨m, sc, sel, st, ts, ec, bl⟩ A3 n3 c3 _ HN3.out (row_rd (X3.out.row 2 rfl)) (flatP_bd HWF.out.bb) HWF.out.ts HWF.out.ec).mono ?_
  rintro e w4 ⟨A4, n4, c4, rfl, own4, hb4⟩
  obtain ⟨ef1, ef2⟩ := fmt_ok HWF.out (by omega)
  rw [ef1] at own4
  rw [ef2]
  have hl4 := own4.len
  have hn4 : (n4 : Int) ≤ 24 := by omega
  have hn4' : ¬ (24 : Int) < (n4 : Int) := by omega
  have HL4 := Lib.hid hl4
  have X4 := Lib.hid (show SP w w4 [.own .u8 5 (some ⟨B, 0, none⟩) L L (ONE k), .blk N 54 #[.int .u8 y0, .int .u16 x1, .int .u8 x2, .int .u32 x3, .int .u32 x4, .int .u8 y5, .int .u8 x6, .int .u8 x7], .own .u8 5 A4 n4 c4 (fmt5 ⟨m, sc, sel, st, ts, ec, bl⟩)] from (X3.out.pushOwn hb4 own4).pick [0, 1, 3] (by decide) rfl)
  clear own4 hb4 X3 ef1 ef2 hl4
  go_wp2_with (refine wpList_load_row rfl 54 _ rfl N rfl 54 #[.int .u8 y0, .int .u16 x1, .int .u8 x2, .int .u32 x3, .int .u32 x4, .int .u8 y5, .int .u8 x6, .int .u8 x7] _ _ (X4.out.blk 1 rfl) Try.underlying54 rfl (by kernel_rfl) ?_)
  refine (HOF.out _).mono ?_
  rintro e w5 ⟨A5, n5, c5, hn5, rfl, Xp⟩
  obtain ⟨M, hM⟩ : ∃ N, N = w5.heap.size := ⟨_, rfl⟩
  have X5 := Lib.hid (show SP w _ [.own .u8 5 (some ⟨B, 0, none⟩) L L (ONE k), .own .u8 5 A4 n4 c4 (fmt5 ⟨m, sc, sel, st, ts, ec, bl⟩), .blk M 32 (KNC ⟨m, sc, sel, st, ts, ec, bl⟩ A5 n5 c5)] from ((X4.out.next Xp.bel).alloc' 32 (KNC ⟨m, sc, sel, st, ts, ec, bl⟩ A5 n5 c5) hM.symm).pick [0, 2, 3] (by decide) rfl)
  have HN5 := Lib.hid hn5
  clear Xp X4 hn5
  unfold KNC
  go_upto_region 10 with fail
  rw [← hM]
  change Code.wp _ _ _ _ (w5.alloc (.cells (KNC ⟨m, sc, sel, st, ts, ec, bl⟩ A5 n5 c5) 32))
  generalize w5.alloc (.cells (KNC ⟨m, sc, sel, st, ts, ec, bl⟩ A5 n5 c5) 32) = w6 at X5 ⊢
  clear hM
  have d0 : w6.cell? ⟨M, 0, none⟩ = some (.int .i64 m) := X5.out.cell 2 rfl 0 rfl
  have d1 : w6.cell? ⟨M, 1, none⟩ = some (.int .i64 sc) := X5.out.cell 2 rfl 1 rfl
  have d2 : w6.cell? ⟨M, 2, none⟩ = some (.bool sel) := X5.out.cell 2 rfl 2 rfl
  have d3 : w6.cell? ⟨M, 3, none⟩ = some (.bool st) := X5.out.cell 2 rfl 3 rfl
  have d6 : w6.cell? ⟨M, 6, none⟩ = some (.slice A5 n5 c5) := X5.out.cell 2 rfl 6 rfl
  go_cut [9] (fun s9 wx => s9 = .bool (thereB k ⟨m, sc, sel, st, ts, ec, bl⟩) ∧ SP w wx [.own .u8 5 (some ⟨B, 0, none⟩) L L (ONE k), .own .u8 5 A4 n4 c4 (fmt5 ⟨m, sc, sel, st, ts, ec, bl⟩)])
  case first =>
    have X6 := Lib.hid (show SP w (w6.alloc (.cells #[.bool (decide (0 < m)), .bool (decide (0 ≤ sc)), .bool sel, .bool st, .bool (decide (0 < n5))] 4)) [.own .u8 5 (some ⟨B, 0, none⟩) L L (ONE k), .own .u8 5 A4 n4 c4 (fmt5 ⟨m, sc, sel, st, ts, ec, bl⟩)] from ((X5.out.alloc _ _).pick [0, 1] (by decide) rfl))
    have hk5 := HK5.out
    rcases (show k = 0 ∨ k = 1 ∨ k = 2 ∨ k = 3 ∨ k = 4 by omega) with rfl | rfl | rfl | rfl | rfl
    all_goals
      go_wp2_with fail
      go_meet
      exact ⟨by first | rfl | exact congrArg (fun q => Value.bool (decide (0 < q))) HN5.out, X6.out⟩
  case rest =>
  obtain ⟨rfl, hX⟩ := hcut
  have X6 := Lib.hid hX
  clear hX X5 d0 d1 d2 d3 d6
  have X7 := Lib.hid (X6.out.allocI' .u8 5 [] (Nat.zero_le _) (N := wc.heap.size) rfl)
  have hLN := (ONE_len k hk)
  rw [hL] at hLN
  have hL2 : L ≤ 10 := hLN.2
  have hL1 : 2 ≤ L := hLN.1
  have hn4n : n4 ≤ 24 := by omega
  clear hLN
  have HOM := Lib.hid (one_more (opts_fmt HWF.out) (by omega) k hk)
  have HB5 := Lib.hid (fmt5_bd HWF.out)
  have HB1 := Lib.hid (show BD 255 (ONE k) from ONE_bd k hk)
  have H84 := Lib.hid (And.intro (ONE_two k hk) (And.intro (ONE_long k hk) (And.intro (ONE_short k hk) (ONE_second k hk))))
  have HLK := Lib.hid hL
  clear hL
  generalize hfm : fmt5 ⟨m, sc, sel, st, ts, ec, bl⟩ = fm at HOM HB5 X6 X7 HL4 HLN
  generalize thereB k ⟨m, sc, sel, st, ts, ec, bl⟩ = tb at HOM ⊢
  have HOO := HOM.out
  go_wp2_with (first
    | (refine wpList_append_rd _ rfl _ _ _ rfl .u8 w.heap.size 5 i0 1 Try.underlying22 hi hz0 hz1 hz2 A8 n4 c8 fm rfl (X8.out.own 2 rfl) _ (some ⟨B, 0, none⟩) L L (ONE k) rfl (X8.out.rd 0 rfl) (by simp only [maxLen]; omega) (by omega) X8.out.size ?_
       intro A9 c9 w9 happ
       have X9 := Lib.hid (show SP w w9 [.own .u8 5 (some ⟨B, 0, none⟩) L L (ONE k), .own .u8 5 A4 n4 c4 fm, .own .u8 5 A9 (n4 + L) c9 (fm ++ ONE k)] from X8.out.app 2 rfl happ)
       clear happ)
    | (refine wpList_append_rd _ rfl _ _ _ rfl .u8 w.heap.size 5 i0 1 Try.underlying22 hi hz0 hz1 hz2 (some ⟨wc.heap.size, 0, none⟩) 0 0 [] rfl (X7.out.own 2 rfl) _ A4 n4 c4 fm rfl (X7.out.rd 1 rfl) (by simp only [maxLen]; omega) (by omega) X7.out.size ?_
       intro A8 c8 w8 happ
       have h8 := X7.out.app 2 rfl happ
       rw [Nat.zero_add] at h8 ⊢
       have X8 := Lib.hid (show SP w w8 [.own .u8 5 (some ⟨B, 0, none⟩) L L (ONE k), .own .u8 5 A4 n4 c4 fm, .own .u8 5 A8 n4 c8 fm] from h8)
       clear happ h8))
  clear X6 X7 X8
  refine (tcparse_any A9 (n4 + L) c9 (fm ++ ONE k) _ (X9.out.rd 2 rfl) (HB5.out.append HB1.out) (X9.out.own 2 rfl).le.1 (X9.out.own 2 rfl).le.2).mono ?_
  rintro e w10 ⟨A10, n10, c10, hn10, rfl, Xp⟩
  obtain ⟨M, hM⟩ : ∃ N, N = w10.heap.size := ⟨_, rfl⟩
  cases tb
  focus
    have e1 := HOM.out.2 rfl
    rw [e1]
    generalize parseK (fm ++ ONE k) = K2 at hn10 Xp ⊢
    have X10 := Lib.hid (show SP w w10 [.own .u8 5 (some ⟨B, 0, none⟩) L L (ONE k)] from (X9.out.next Xp.bel).pick [0] (by decide) rfl)
    have XW := Lib.hid (X10.out.next ((Below.refl _ w10).alloc (Nat.le_refl _) (.cells (KNC K2 A10 n10 c10) 32)))
    clear Xp X9 hn10 e1 HOO
    unfold KNC
    go_upto_region 14 with fail
    change Code.wp _ _ _ _ (w10.alloc (.cells (KNC K2 A10 n10 c10) 32))
    generalize w10.alloc (.cells (KNC K2 A10 n10 c10) 32) = wz at XW ⊢
    clear X10
  rotate_left
  focus
    obtain ⟨e1, e2⟩ := HOM.out.1 rfl
    rw [e1, e2]
    rw [e2] at hn10 Xp
    have h10 : n10 = 0 := hn10
    subst h10
    have X10 := Lib.hid (show SP w _ [.own .u8 5 (some ⟨B, 0, none⟩) L L (ONE k), .blk M 32 (KNC knZ A10 0 c10)] from ((X9.out.next Xp.bel).alloc' 32 (KNC knZ A10 0 c10) hM.symm).pick [0, 3] (by decide) rfl)
    clear Xp X9 hn10 e1 e2 HOO
    unfold KNC
    go_upto_region 12 with fail
    rw [← hM]
    change Code.wp _ _ _ _ (w10.alloc (.cells (KNC knZ A10 0 c10) 32))
    generalize w10.alloc (.cells (KNC knZ A10 0 c10) 32) = w11 at X10 ⊢
    have BK := Lib.hid (X10.out.blk 1 rfl)
    go_wp2_with (refine wpList_load_row_w 32 _ rfl (by rfl) M rfl 32 (KNC knZ A10 0 c10) (0, 0) _ BK.out Try.underlying32 rfl (by kernel_rfl) ?_)
    refine (equal8_any knZ A10 none 0 c10 0 0 _ rfl rfl RD.nil RD.nil (by omega)).mono ?_
    rintro e wz ⟨rfl, hb12⟩
    have XW := Lib.hid (show SP w wz [.own .u8 5 (some ⟨B, 0, none⟩) L L (ONE k)] from (X10.out.next hb12).pick [0] (by decide) rfl)
    clear hb12 X10 BK
    go_upto_region 14 with fail
  all_goals
    clear HOM hM
    have X7 := Lib.hid (XW.out.allocI' .u8 5 [] (Nat.zero_le _) (N := wz.heap.size) rfl)
    go_wp2_with (first
      | (refine wpList_append_rd _ rfl _ _ _ rfl .u8 w.heap.size 5 i0 1 Try.underlying22 hi hz0 hz1 hz2 A8 L c8 (ONE k) rfl (X8.out.own 1 rfl) _ (some ⟨B, 0, none⟩) L L (ONE k) rfl (X8.out.rd 0 rfl) (by simp only [maxLen]; omega) (by omega) X8.out.size ?_
         intro A9 c9 w9 happ
         have X9 := Lib.hid (show SP w w9 [.own .u8 5 (some ⟨B, 0, none⟩) L L (ONE k), .own .u8 5 A9 (L + L) c9 (ONE k ++ ONE k)] from X8.out.app 1 rfl happ)
         clear happ)
      | (refine wpList_append_rd _ rfl _ _ _ rfl .u8 w.heap.size 5 i0 1 Try.underlying22 hi hz0 hz1 hz2 (some ⟨wz.heap.size, 0, none⟩) 0 0 [] rfl (X7.out.own 1 rfl) _ (some ⟨B, 0, none⟩) L L (ONE k) rfl (X7.out.rd 0 rfl) (by simp only [maxLen]; omega) (by omega) X7.out.size ?_
         intro A8 c8 w8 happ
         have h8 := X7.out.app 1 rfl happ
         rw [Nat.zero_add] at h8 ⊢
         have X8 := Lib.hid (show SP w w8 [.own .u8 5 (some ⟨B, 0, none⟩) L L (ONE k), .own .u8 5 A8 L c8 (ONE k)] from h8)
         clear happ h8))
    clear X7 X8 XW
    refine (tcparse_any A9 (L + L) c9 (ONE k ++ ONE k) _ (X9.out.rd 1 rfl) (HB1.out.append HB1.out) (X9.out.own 1 rfl).le.1 (X9.out.own 1 rfl).le.2).mono ?_
    rintro e wy ⟨Ay, ny, cy, hny, rfl, Xp⟩
    rw [H84.out.1]
    have XY := Lib.hid (show SP w wy [.own .u8 5 (some ⟨B, 0, none⟩) L L (ONE k)] from (X9.out.next Xp.bel).pick [0] (by decide) rfl)
    clear Xp X9 hny
    generalize parseK (ONE k ++ ONE k) = K3
    unfold KNC
    have X7 := Lib.hid (XY.out.allocI' .u8 5 [] (Nat.zero_le _) (N := wy.heap.size) rfl)
    go_upto_region 15 with fail
    go_wp2_with (first
      | (refine wpList_append_rd _ rfl _ _ _ rfl .u8 w.heap.size 5 i0 1 Try.underlying22 hi hz0 hz1 hz2 A8 L c8 (ONE k) rfl (X8.out.own 1 rfl) _ (some ⟨w8.heap.size, 0, none⟩) 1 1 [1] rfl (X8.out.rd 2 rfl) (by simp only [maxLen]; omega) (by omega) X8.out.size ?_
         intro A9 c9 w9 happ
         have X9 := Lib.hid (show SP w w9 [.own .u8 5 (some ⟨B, 0, none⟩) L L (ONE k), .own .u8 5 A9 (L + 1) c9 (ONE k ++ [1])] from (X8.out.app 1 rfl happ).pick [0, 1] (by decide) rfl)
         clear happ
         obtain ⟨g, rfl, _, _, _, _⟩ := (X9.out.own 1 rfl).form (by omega)
         obtain ⟨v, hv⟩ : ∃ v : Int, (ONE k ++ [1])[1]?.getD 0 = v := ⟨_, rfl⟩
         have v2 : 2 ≤ v ∧ v ≤ 10 := by
           obtain ⟨a1, a2, a3⟩ := H84.out.2.2.2
           rw [hv] at a3
           omega
         have q1 : w9.cell? ⟨g, 1, none⟩ = some (.int .u8 v) := by rw [← hv]; exact (X9.out.own 1 rfl).cell (by omega)
         have q2 := (X9.out.own 1 rfl).frozen 1
         have HV := Lib.hid hv
         clear hv)
      | (refine wpList_append_rd _ rfl _ _ _ rfl .u8 w.heap.size 5 i0 1 Try.underlying22 hi hz0 hz1 hz2 (some ⟨wy.heap.size, 0, none⟩) 0 0 [] rfl (X7.out.own 1 rfl) _ (some ⟨B, 0, none⟩) L L (ONE k) rfl (X7.out.rd 0 rfl) (by simp only [maxLen]; omega) (by omega) X7.out.size ?_
         intro A8 c8 w8 happ
         have h8 := X7.out.app 1 rfl happ
         rw [Nat.zero_add] at h8 ⊢
         have X8 := Lib.hid (show SP w (w8.alloc (.cells ([1].map (Value.int .u8)).toArray 5)) [.own .u8 5 (some ⟨B, 0, none⟩) L L (ONE k), .own .u8 5 A8 L c8 (ONE k), .own .u8 5 (some ⟨w8.heap.size, 0, none⟩) 1 1 [1]] from (show SP w w8 [.own .u8 5 (some ⟨B, 0, none⟩) L L (ONE k), .own .u8 5 A8 L c8 (ONE k)] from h8).allocI' .u8 5 [1] (by decide) (N := w8.heap.size) rfl)
         clear happ h8))
    clear X7 X8 XY
    have XS := Lib.hid (show SP w _ [.own .u8 5 (some ⟨B, 0, none⟩) L L (ONE k), .own .u8 5 (some ⟨g, 0, none⟩) (L + 1) c9 ((ONE k ++ [1]).set 1 (v + 1))] from X9.out.setO 1 rfl 1 (v + 1))
    have HBS := Lib.hid (show BD 255 ((ONE k ++ [1]).set 1 (v + 1)) from fun y hy => by
      rcases List.mem_or_eq_of_mem_set hy with hy | rfl
      · exact (HB1.out.append (bd_all (by decide))) y hy
      · omega)
    have HLE := Lib.hid (X9.out.own 1 rfl).le
    clear q1 q2 X9
    refine (tcparse_any (some ⟨g, 0, none⟩) (L + 1) c9 ((ONE k ++ [1]).set 1 (v + 1)) _ (XS.out.rd 1 rfl) HBS.out HLE.out.1 HLE.out.2).mono ?_
    rintro e wx ⟨Ax, nx, cx, hnx, rfl, Xp⟩
    have e84 : parseE ((ONE k ++ [1]).set 1 (v + 1)) = 84 := by rw [← HV.out]; exact H84.out.2.1
    rw [e84]
    have XX := Lib.hid (show SP w wx [.own .u8 5 (some ⟨B, 0, none⟩) L L (ONE k)] from (XS.out.next Xp.bel).pick [0] (by decide) rfl)
    clear Xp XS hnx e84
    generalize parseK ((ONE k ++ [1]).set 1 (v + 1)) = K4
    have XU := Lib.hid (XX.out.next ((Below.refl _ wx).alloc (Nat.le_refl _) (.cells (KNC K4 Ax nx cx) 32)))
    unfold KNC
    go_upto_region 18 with fail
    change Code.wp _ _ _ _ (wx.alloc (.cells (KNC K4 Ax nx cx) 32))
    generalize wx.alloc (.cells (KNC K4 Ax nx cx) 32) = wu at XU ⊢
    clear XX
    obtain ⟨q, hq⟩ : ∃ q : Nat, (L : Int) - 1 = (q : Int) := ⟨L - 1, by omega⟩
    have hqL : q ≤ L := by omega
    have i1 : (0 : Int) ≤ (q : Int) := by omega
    have i2 : (q : Int) ≤ (L : Int) := by omega
    have e84 : parseE ((ONE k).take q) = 84 := by
      have := H84.out.2.2.1
      rwa [HLK.out, show L - 1 = q by omega] at this
    have HE := Lib.hid e84
    clear e84
    go_wp2_with fail
    refine (tcparse_any (some ⟨B, 0, none⟩) q L ((ONE k).take q) _ ((XU.out.rd 0 rfl).take hqL) (HB1.out.take q) hqL (by simp only [maxLen]; omega)).mono ?_
    rintro e wv ⟨Av, nv, cv, hnv, rfl, Xp⟩
    rw [HE.out]
    have HBE := Lib.hid (XU.out.next Xp.bel).bel
    clear Xp XU hnv
    generalize parseK ((ONE k).take q) = K5
    have HBF := Lib.hid (HBE.out.trans (((Below.refl wv.heap.size wv).alloc (Nat.le_refl _) (.cells (KNC K5 Av nv cv) 32)).mono HBE.out.size))
    unfold KNC
    go_wp2_with fail
    go_ret
    exact ⟨rfl, HBF.out⟩
end Go.Proofs.Ythdpcblmmjocmaa
