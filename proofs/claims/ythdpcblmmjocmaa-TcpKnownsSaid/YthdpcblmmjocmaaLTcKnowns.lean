import Derived.Test.YthdpcblmmjocmaaWStarts
import Derived.Test.YthdpcblmmjocmaaWAwake8
/- bafflelaw08.TcpKnowns. -/
namespace Go.Proofs.Ythdpcblmmjocmaa
open Go.RowKit
set_option linter.unusedVariables false

/-- an option starts at a place -/
def GOOD (fm : List Int) (K : KN) (a : Nat) : Prop := ∃ k1, OPTS (fm.take a) kn0 k1 ∧ OPTS (fm.drop a) k1 K
theorem good_zero {fm : List Int} {K : KN} (h : OPTS fm kn0 K) : GOOD fm K 0 := ⟨kn0, .nil _, h⟩
theorem good_end {fm : List Int} {K : KN} (h : OPTS fm kn0 K) : GOOD fm K fm.length := ⟨K, by rw [List.take_length]; exact h, by rw [List.drop_length]; exact .nil _⟩
def ODD (k : Nat) : Int := [6, 7, 9, 30, 253][k]?.getD 0
theorem odd_bd : ∀ k : Nat, k < 5 → 6 ≤ ODD k ∧ ODD k ≤ 253 := by decide
theorem odd_opts (x : Int) (K : KN) (k : Nat) (hk : k < 5) : OPTS [ODD k, 3, x, 1] K K := by
  have h : take1 (ODD k) [x] K = some K := by
    rcases (show k = 0 ∨ k = 1 ∨ k = 2 ∨ k = 3 ∨ k = 4 by omega) with rfl | rfl | rfl | rfl | rfl <;> simp [take1, ODD]
  have := odd_bd k hk
  exact .opt (kind := ODD k) (c := [x]) (by omega) (by omega) h (.one (.nil K))
theorem parse_ok {zs : List Int} {K : KN} (h : parse zs kn0 = some K) (hl : zs.length ≤ 40) : parseE zs = 0 ∧ parseK zs = K := by
  unfold parseE parseK
  rw [if_neg (by omega), if_neg (by omega), h]
  exact ⟨rfl, rfl⟩
theorem more_law {fm : List Int} {K : KN} {a : Nat} (h : GOOD fm K a) (x : Int) (k : Nat) (hk : k < 5) (hl : (fm.take a ++ [ODD k, 3, x, 1] ++ fm.drop a).length ≤ 40) : parseE (fm.take a ++ [ODD k, 3, x, 1] ++ fm.drop a) = 0 ∧ parseK (fm.take a ++ [ODD k, 3, x, 1] ++ fm.drop a) = K := by
  obtain ⟨k1, h1, h2⟩ := h
  exact parse_ok ((h1.append (odd_opts x k1 k hk)).append h2).whole hl
theorem end_law {fm : List Int} {K : KN} (h : OPTS fm kn0 K) (q : Nat) (h1 : fm.length ≤ q) (h2 : q ≤ 40) : parseE ((fm ++ [0, 2, 4, 0]).take q) = 0 ∧ parseK ((fm ++ [0, 2, 4, 0]).take q) = K := by
  refine parse_ok ?_ (by rw [List.length_take]; omega)
  rw [List.take_append, List.take_of_length_le h1, h.parse]
  refine parse_end (atEnd_iff.2 ?_)
  rcases (show q - fm.length = 0 ∨ ∃ m, q - fm.length = m + 1 by cases h : q - fm.length with | zero => exact .inl rfl | succ m => exact .inr ⟨m, rfl⟩) with h | ⟨m, h⟩
  · rw [h]; exact .inl rfl
  · rw [h]; exact .inr rfl

set_option maxHeartbeats 4000000 in
set_option maxRecDepth 100000 in
theorem tcpKnowns_walk (x0 x1 x2 x3 x4 x5 x6 x7 : Int) (w : World) (h0 : 0 ≤ x0 ∧ x0 ≤ 255) (h1 : 0 ≤ x1 ∧ x1 ≤ 65535) (h2 : 0 ≤ x2 ∧ x2 ≤ 255) (h3 : 0 ≤ x3 ∧ x3 ≤ 4294967295) (h4 : 0 ≤ x4 ∧ x4 ≤ 4294967295) (h5 : 0 ≤ x5 ∧ x5 ≤ 255) (h6 : 0 ≤ x6 ∧ x6 ≤ 255) (h7 : 0 ≤ x7 ∧ x7 ≤ 255) :
    Calls Try.prog 9 #[.agg #[.int .u8 x0, .int .u16 x1, .int .u8 x2, .int .u32 x3, .int .u32 x4, .int .u8 x5, .int .u8 x6, .int .u8 x7]] w fun e w' => e = .returned (.bool true) ∧ Below w.heap.size w w' := by
  obtain ⟨i0, hi, hz0, hz1, hz2⟩ := info_parts infoU8
  obtain ⟨k, hk5⟩ : ∃ k : Nat, x7 % 5 = (k : Int) := ⟨(x7 % 5).toNat, by omega⟩
  have hk : k < 5 := by omega
  have HK5 := Lib.hid hk5
  clear hk5
  have HOF := Lib.hid (fun W => of8_any x0 x1 x2 x3 x4 x5 x6 x7 W h0 h1 h2 h3 h4 h5)
  have HWF := Lib.hid (ofK_wf (x0 := x0) (x5 := x5) h1 h2 h3 h4)
  have HLN : (fmt5 (ofK x0 x1 x2 x3 x4 x5)).length ≤ 40 := ofK_len h1.1 h2
  unfold OFP at HOF
  generalize ofK x0 x1 x2 x3 x4 x5 = K at HOF HWF HLN
  have S0 := (SP.start w).alloc 54 #[.int .u8 x0, .int .u16 x1, .int .u8 x2, .int .u32 x3, .int .u32 x4, .int .u8 x5, .int .u8 x6, .int .u8 x7]
  have H0 := Lib.hid S0
  clear S0
  go_enter Try.func9, Try.ntmps9
  go_wp2_with fail
  obtain ⟨N, hN⟩ : ∃ N, N = w.heap.size := ⟨_, rfl⟩
  rw [← hN] at H0 ⊢
  clear hN
  refine (awake8_any _).mono ?_
  rintro e w1 ⟨rfl, hb1⟩
  have X1 := Lib.hid (show SP w w1 [.blk N 54 #[.int .u8 x0, .int .u16 x1, .int .u8 x2, .int .u32 x3, .int .u32 x4, .int .u8 x5, .int .u8 x6, .int .u8 x7]] from H0.out.next hb1)
  clear hb1 H0
  go_wp2_with (refine wpList_load_row rfl 54 _ rfl N rfl 54 #[.int .u8 x0, .int .u16 x1, .int .u8 x2, .int .u32 x3, .int .u32 x4, .int .u8 x5, .int .u8 x6, .int .u8 x7] _ _ (X1.out.blk 0 rfl) Try.underlying54 rfl (by kernel_rfl) ?_)
  refine (HOF.out _).mono ?_
  rintro e w2 ⟨A2, n2, c2, hn2, rfl, Xp⟩
  obtain ⟨M, hM⟩ : ∃ N, N = w2.heap.size := ⟨_, rfl⟩
  have X2 := Lib.hid (show SP w _ [.blk N 54 #[.int .u8 x0, .int .u16 x1, .int .u8 x2, .int .u32 x3, .int .u32 x4, .int .u8 x5, .int .u8 x6, .int .u8 x7], .row 93 2 A2 n2 c2 (prs K.bl), .blk M 32 (KNC K A2 n2 c2)] from (X1.out.push Xp.bel (Xp.all 0 _ rfl)).alloc' 32 (KNC K A2 n2 c2) hM.symm)
  have HN2 := Lib.hid hn2
  clear Xp X1 hn2
  unfold KNC
  go_upto_region 4 with fail
  rw [← hM]
  change Code.wp _ _ _ _ (w2.alloc (.cells (KNC K A2 n2 c2) 32))
  generalize w2.alloc (.cells (KNC K A2 n2 c2) 32) = w3 at X2 ⊢
  clear hM
  have B2 := Lib.hid (X2.out.blk 2 rfl)
  go_wp2_with (refine wpList_load_row rfl 32 _ rfl M rfl 32 (KNC K A2 n2 c2) _ _ B2.out Try.underlying32 rfl (by kernel_rfl) ?_)
  refine (tcformat_any K A2 n2 c2 _ HN2.out (row_rd (X2.out.row 1 rfl)) (flatP_bd HWF.out.bb) HWF.out.ts HWF.out.ec).mono ?_
  rintro e w4 ⟨A4, n4, c4, rfl, own4, hb4⟩
  obtain ⟨ef1, ef2⟩ := fmt_ok HWF.out HLN
  obtain ⟨pf1, pf2⟩ := parse_fmt HWF.out HLN
  have HOP := Lib.hid (opts_fmt HWF.out)
  have HB5 := Lib.hid (fmt5_bd HWF.out)
  have hf4 := fmt5_four K
  have HRT := Lib.hid HWF.out.right
  rw [ef1] at own4
  rw [ef2]
  generalize fmt5 K = fm at own4 pf1 pf2 HOP HB5 hf4 HLN
  have hl4 := own4.len
  have HL4 := Lib.hid hl4
  have X4 := Lib.hid (show SP w w4 [.blk N 54 #[.int .u8 x0, .int .u16 x1, .int .u8 x2, .int .u32 x3, .int .u32 x4, .int .u8 x5, .int .u8 x6, .int .u8 x7], .row 93 2 A2 n2 c2 (prs K.bl), .blk M 32 (KNC K A2 n2 c2), .own .u8 5 A4 n4 c4 fm] from X2.out.pushOwn hb4 own4)
  obtain ⟨q4, hq4⟩ : ∃ q, n4 = 4 * q := ⟨n4 / 4, by omega⟩
  have hq10 : q4 ≤ 10 := by omega
  have hn40 : n4 ≤ 40 := by omega
  clear own4 hb4 X2 ef1 ef2 hl4 hf4 HLN B2
  have HQ4 := Lib.hid hq4
  clear hq4
  have PF := Lib.hid (And.intro pf1 pf2)
  clear pf1 pf2
  go_wp2_with fail
  refine (tcparse_any A4 n4 c4 fm _ (X4.out.rd 3 rfl) HB5.out (X4.out.own 3 rfl).le.1 (X4.out.own 3 rfl).le.2).mono ?_
  rintro e w5 ⟨A5, n5, c5, hn5, rfl, Xp⟩
  rw [PF.out.1, PF.out.2]
  rw [PF.out.1] at hn5 Xp
  obtain ⟨M2, hM2⟩ : ∃ N, N = w5.heap.size := ⟨_, rfl⟩
  have X5 := Lib.hid (show SP w _ [.blk N 54 #[.int .u8 x0, .int .u16 x1, .int .u8 x2, .int .u32 x3, .int .u32 x4, .int .u8 x5, .int .u8 x6, .int .u8 x7], .row 93 2 A2 n2 c2 (prs K.bl), .blk M 32 (KNC K A2 n2 c2), .own .u8 5 A4 n4 c4 fm, .row 93 2 A5 n5 c5 (prs K.bl), .blk M2 32 (KNC K A5 n5 c5)] from (X4.out.push Xp.bel (Xp.all 0 _ rfl)).alloc' 32 (KNC K A5 n5 c5) hM2.symm)
  have HN5 := Lib.hid hn5
  clear Xp X4 hn5
  unfold KNC
  go_upto_region 6 with fail
  rw [← hM2]
  change Code.wp _ _ _ _ (w5.alloc (.cells (KNC K A5 n5 c5) 32))
  generalize w5.alloc (.cells (KNC K A5 n5 c5) 32) = w6 at X5 ⊢
  clear hM2
  have B2 := Lib.hid (X5.out.blk 2 rfl)
  go_wp2_with (refine wpList_load_row_w 32 _ rfl (by rfl) M rfl 32 (KNC K A2 n2 c2) (0, 0) _ B2.out Try.underlying32 rfl (by kernel_rfl) ?_)
  refine (tcright_any K A2 n2 c2 _ HN2.out).mono ?_
  rintro e w7 ⟨rfl, hb7⟩
  rw [HRT.out]
  have X7 := Lib.hid (X5.out.next hb7)
  clear hb7 X5 B2
  have B2 := Lib.hid (X7.out.blk 2 rfl)
  have B5 := Lib.hid (X7.out.blk 5 rfl)
  have e4 : (n4 : Int) % 4 = 0 := by have := HQ4.out; omega
  have e40 : ¬ (40 : Int) < (n4 : Int) := by omega
  go_wp2_with (first
    | (refine wpList_load_row_w 32 _ rfl (by rfl) M2 rfl 32 (KNC K A5 n5 c5) (0, 0) _ B5.out Try.underlying32 rfl (by kernel_rfl) ?_)
    | (refine wpList_load_row_w 32 _ rfl (by rfl) M rfl 32 (KNC K A2 n2 c2) (0, 0) _ B2.out Try.underlying32 rfl (by kernel_rfl) ?_))
  refine (equal8_any K A5 A2 n5 c5 n2 c2 _ HN5.out HN2.out (row_rd (X7.out.row 4 rfl)) (row_rd (X7.out.row 1 rfl)) (by have := HN5.out; have := HWF.out.bl; omega)).mono ?_
  rintro e w8 ⟨rfl, hb8⟩
  have X8 := Lib.hid (show SP w w8 [.blk N 54 #[.int .u8 x0, .int .u16 x1, .int .u8 x2, .int .u32 x3, .int .u32 x4, .int .u8 x5, .int .u8 x6, .int .u8 x7], .row 93 2 A2 n2 c2 (prs K.bl), .blk M 32 (KNC K A2 n2 c2), .own .u8 5 A4 n4 c4 fm] from (X7.out.next hb8).pick [0, 1, 2, 3] (by decide) rfl)
  clear hb8 X7 B2 B5
  have c6 : w8.cell? ⟨N, 6, none⟩ = some (.int .u8 x6) := X8.out.cell 0 rfl 6 rfl
  obtain ⟨r, hr⟩ : ∃ r : Nat, x6 % ((q4 : Int) + 1) = (r : Int) := ⟨(x6 % ((q4 : Int) + 1)).toNat, by have := Int.emod_nonneg x6 (show (q4 : Int) + 1 ≠ 0 by omega); omega⟩
  have hr2 : r ≤ q4 := by have := Int.emod_lt_of_pos x6 (show 0 < (q4 : Int) + 1 by omega); omega
  have ht : x6.tmod ((q4 : Int) + 1) = (r : Int) := by rw [Int.tmod_eq_emod_of_nonneg h6.1, hr]
  have hd : (n4 : Int) / 4 = (q4 : Int) := by have := HQ4.out; omega
  have hne : ¬ (q4 : Int) + 1 = 0 := by omega
  obtain ⟨a0, ha0, ha4⟩ : ∃ a0 : Nat, (r : Int) * 4 = (a0 : Int) ∧ a0 = 4 * r := ⟨4 * r, by omega, rfl⟩
  have ha0n : a0 ≤ n4 := by have := HQ4.out; omega
  clear ha4
  go_upto_region 9 with fail
  clear c6 hr ht hd hne ha0 e4 e40
  go_cut [77] (fun s77 wx => ∃ b : Bool, s77 = .bool b ∧ (b = false → GOOD fm K a0) ∧ wx = w8)
  case first =>
    have HG0 := Lib.hid (good_zero HOP.out)
    have HGE := Lib.hid (good_end HOP.out)
    by_cases hr0 : a0 = 0
    · have HA := Lib.hid hr0
      have i1 : ¬ (0 : Int) < (a0 : Int) := by omega
      clear hr0
      go_wp2_with fail
      go_meet
      exact ⟨false, rfl, fun _ => by rw [HA.out]; exact HG0.out, rfl⟩
    · have i1 : (0 : Int) < (a0 : Int) := by omega
      by_cases hrn : a0 = n4
      · have HA := Lib.hid hrn
        have i2 : ¬ (a0 : Int) < (n4 : Int) := by omega
        clear hrn
        go_wp2_with fail
        go_meet
        exact ⟨false, rfl, fun _ => by rw [HA.out, ← HL4.out]; exact HGE.out, rfl⟩
      · have i2 : (a0 : Int) < (n4 : Int) := by omega
        go_wp2_with fail
        refine (starts_any A4 n4 c4 fm K a0 _ (X8.out.rd 3 rfl) HB5.out HOP.out ha0n (by omega)).mono ?_
        rintro e w9 ⟨b, rfl, hw, hb⟩
        rw [hw]
        have HB := Lib.hid hb
        clear hw hb
        cases b
        · go_wp2_with fail
          go_meet
          refine ⟨true, rfl, ?_, rfl⟩
          intro h; cases h
        · go_wp2_with fail
          go_meet
          exact ⟨false, rfl, fun _ => HB.out (by first | trivial | rfl), rfl⟩
  case rest =>
  obtain ⟨b, rfl, hb, hwd⟩ := hcut
  subst hwd
  have HB := Lib.hid hb
  clear hb
  go_upto_if 77 with fail
  go_cut [8] (fun s8 wx => ∃ a : Nat, s8 = .int .i64 (a : Int) ∧ a ≤ n4 ∧ GOOD fm K a ∧ wx = wc)
  case first =>
    cases b
    · go_wp2_with fail
      go_meet
      exact ⟨a0, rfl, ha0n, HB.out (by first | trivial | rfl), rfl⟩
    · go_wp2_with fail
      go_meet
      exact ⟨0, rfl, Nat.zero_le _, good_zero HOP.out, rfl⟩
  case rest =>
  obtain ⟨a, rfl, han, hg, hwd⟩ := hcut
  subst hwd
  have HG := Lib.hid hg
  clear hg HB ha0n hr2
  have LX := Lib.hid (show SP w wc [.blk N 54 #[.int .u8 x0, .int .u16 x1, .int .u8 x2, .int .u32 x3, .int .u32 x4, .int .u8 x5, .int .u8 x6, .int .u8 x7], .row 93 2 A2 n2 c2 (prs K.bl), .blk M 32 (KNC K A2 n2 c2), .own .u8 5 A4 n4 c4 fm] from X8.out)
  go_upto_region 11 with fail
  go_cut [9] (fun s9 wx => ∃ B : Nat, s9 = .slice (some ⟨B, 0, none⟩) 4 4 ∧ SP w wx [.own .u8 5 A4 n4 c4 fm, .row 93 2 A2 n2 c2 (prs K.bl), .blk M 32 (KNC K A2 n2 c2), .own .u8 5 (some ⟨B, 0, none⟩) 4 4 [ODD k, 3, x7, 1]])
  case first =>
    have c7 : wc.cell? ⟨N, 7, none⟩ = some (.int .u8 x7) := X8.out.cell 0 rfl 7 rfl
    have hNl : N < wc.heap.size := (X8.out.blk 0 rfl).lt
    have X9 := Lib.hid (((X8.out.alloc 5 #[.int .u8 6, .int .u8 7, .int .u8 9, .int .u8 30, .int .u8 253]).allocI' .u8 5 [ODD k, 3, x7, 1] (by simp [maxLen]) (N := wc.heap.size + 1) (by simp)).drew)
    have hk5 := HK5.out
    have ht5 : x7.tmod 5 = (k : Int) := by rw [Int.tmod_eq_emod_of_nonneg h7.1, hk5]
    have hk4 : k ≤ 4 := by omega
    clear hk5
    rcases (show k = 0 ∨ k = 1 ∨ k = 2 ∨ k = 3 ∨ k = 4 by omega) with rfl | rfl | rfl | rfl | rfl
    all_goals
      go_region
      all_goals
        go_wp2_with fail
        go_meet
        exact ⟨wc.heap.size + 1, rfl, X9.out.pick [3, 1, 2, 5] (by decide) rfl⟩
  case rest =>
  obtain ⟨B, rfl, hX⟩ := hcut
  have X := Lib.hid hX
  clear hX X8 LX
  have hle := (X.out.own 0 rfl).le
  have i1 : (0 : Int) ≤ (a : Int) := by omega
  have i2 : (a : Int) ≤ (c4 : Int) := by omega
  have i3 : (a : Int) ≤ (n4 : Int) := by omega
  have s9 := fun W => run_slice_lo (P := Try.prog) W Try.underlying22 hi hz1 A4 n4 c4 (a : Int) a rfl han
  generalize hOD : [ODD k, 3, x7, 1] = od at X
  have HOD := Lib.hid hOD
  clear hOD
  go_upto_region 12 with fail
  go_cut [10] (fun s10 wx => ∃ (A10 : Option Addr) (nn c10 : Nat), s10 = .slice A10 nn c10 ∧ nn = n4 + 4 ∧ SP w wx [.own .u8 5 A4 n4 c4 fm, .row 93 2 A2 n2 c2 (prs K.bl), .blk M 32 (KNC K A2 n2 c2), .own .u8 5 A10 nn c10 (fm.take a ++ od ++ fm.drop a)])
  case first =>
    have X7 := Lib.hid (X.out.drew.allocI' .u8 5 [] (Nat.zero_le _) (N := wc.heap.size) rfl)
    go_region_law (first
      | (refine step_append_rd _ (by rfl) _ _ 22 (by rfl) .u8 w.heap.size 5 i0 1 Try.underlying22 hi hz0 hz1 hz2 Ay (a + 4) cy (fm.take a ++ od) (by rfl) (by exact XB.out.own 4 rfl) _ (cutA A4 c4 a) (n4 - a) (c4 - a) (fm.drop a) (by rfl) (by exact (XB.out.rd 0 rfl).cutA han hle.1) (by simp only [maxLen]; omega) (by omega) (by exact XB.out.size) ?_
         intro Az cz wZ happ
         have XC := Lib.hid (XB.out.app 4 rfl happ)
         clear happ)
      | (refine step_append_rd _ (by rfl) _ _ 22 (by rfl) .u8 w.heap.size 5 i0 1 Try.underlying22 hi hz0 hz1 hz2 Ax a cx (fm.take a) (by rfl) (by exact XA.out.own 4 rfl) _ (some ⟨B, 0, none⟩) 4 4 od (by rfl) (by exact XA.out.rd 3 rfl) (by simp only [maxLen]; omega) (by omega) (by exact XA.out.size) ?_
         intro Ay cy wY happ
         have XB := Lib.hid (XA.out.app 4 rfl happ)
         clear happ)
      | (refine step_append_rd _ (by rfl) _ _ 22 (by rfl) .u8 w.heap.size 5 i0 1 Try.underlying22 hi hz0 hz1 hz2 (some ⟨wc.heap.size, 0, none⟩) 0 0 [] (by rfl) (by exact X7.out.own 4 rfl) _ A4 a c4 (fm.take a) (by rfl) (by exact (X7.out.rd 0 rfl).take han) (by simp only [maxLen]; omega) (by omega) (by exact X7.out.size) ?_
         intro Ax cx wX happ
         have hA := X7.out.app 4 rfl happ
         rw [Nat.zero_add] at hA ⊢
         have XA := Lib.hid (show SP w wX [.own .u8 5 A4 n4 c4 fm, .row 93 2 A2 n2 c2 (prs K.bl), .blk M 32 (KNC K A2 n2 c2), .own .u8 5 (some ⟨B, 0, none⟩) 4 4 od, .own .u8 5 Ax a cx (fm.take a)] from hA)
         clear happ hA))
    all_goals
      go_wp2_with fail
      go_meet
      exact ⟨Az, a + 4 + (n4 - a), cz, rfl, by omega, XC.out.pick [0, 1, 2, 4] (by decide) rfl⟩
  case rest =>
  obtain ⟨A10, nn, c10, rfl, hnn, hX⟩ := hcut
  have X := Lib.hid hX
  have HNN := Lib.hid hnn
  clear hX hnn s9 i1 i2 i3 hle
  by_cases h44 : nn ≤ 40
  case neg =>
    have i1 : (40 : Int) < (nn : Int) := by omega
    go_wp2_with fail
    go_ret
    exact ⟨rfl, X.out.bel⟩
  have i1 : ¬ (40 : Int) < (nn : Int) := by omega
  have hlz := (X.out.own 3 rfl).len
  have HM := Lib.hid (show parseE (fm.take a ++ od ++ fm.drop a) = 0 ∧ parseK (fm.take a ++ od ++ fm.drop a) = K by
    have := more_law HG.out x7 k hk
    rw [HOD.out] at this
    exact this (by rw [hlz]; exact h44))
  have HBO := Lib.hid (show BD 255 (fm.take a ++ od ++ fm.drop a) by
    have h := odd_bd k hk
    refine ((HB5.out.take a).append ?_).append (HB5.out.drop a)
    rw [← HOD.out]
    intro y hy
    simp at hy
    rcases hy with rfl | rfl | rfl | rfl <;> omega)
  generalize fm.take a ++ od ++ fm.drop a = mz at X HM HBO
  clear hlz
  go_wp2_with fail
  refine (tcparse_any A10 nn c10 mz _ (X.out.rd 3 rfl) HBO.out (X.out.own 3 rfl).le.1 (X.out.own 3 rfl).le.2).mono ?_
  rintro e w11 ⟨A11, n11, c11, hn11, rfl, Xp⟩
  rw [HM.out.1, HM.out.2]
  rw [HM.out.2] at hn11 Xp
  obtain ⟨M3, hM3⟩ : ∃ N, N = w11.heap.size := ⟨_, rfl⟩
  have X11 := Lib.hid (show SP w _ [.own .u8 5 A4 n4 c4 fm, .row 93 2 A2 n2 c2 (prs K.bl), .blk M 32 (KNC K A2 n2 c2), .row 93 2 A11 n11 c11 (prs K.bl), .blk M3 32 (KNC K A11 n11 c11)] from ((X.out.push Xp.bel (Xp.all 0 _ rfl)).alloc' 32 (KNC K A11 n11 c11) hM3.symm).pick [0, 1, 2, 4, 5] (by decide) rfl)
  have HN11 := Lib.hid hn11
  clear Xp X hn11
  unfold KNC
  go_upto_region 16 with fail
  rw [← hM3]
  change Code.wp _ _ _ _ (w11.alloc (.cells (KNC K A11 n11 c11) 32))
  generalize w11.alloc (.cells (KNC K A11 n11 c11) 32) = w12 at X11 ⊢
  clear hM3
  obtain ⟨q, hq, hq2⟩ : ∃ q : Nat, (if (40 : Int) < (n4 : Int) + 4 then (40 : Int) else (n4 : Int) + 4) = (q : Int) ∧ (n4 ≤ q ∧ q ≤ 40 ∧ q ≤ n4 + 4) := by
    by_cases h : n4 ≤ 36
    · exact ⟨n4 + 4, by rw [if_neg (by omega)]; omega, by omega, by omega, by omega⟩
    · exact ⟨40, by rw [if_pos (by omega)]; rfl, by omega, by omega, by omega⟩
  have HE := Lib.hid (end_law HOP.out q (by have := HL4.out; omega) hq2.2.1)
  have HQ := Lib.hid hq2
  clear hq2
  have X7 := Lib.hid (X11.out.allocI' .u8 5 [] (Nat.zero_le _) (N := w12.heap.size) rfl)
  go_wp2_with (first
    | (refine wpList_append_rd _ rfl _ _ _ rfl .u8 w.heap.size 5 i0 1 Try.underlying22 hi hz0 hz1 hz2 A8 n4 c8 fm rfl (X8.out.own 5 rfl) _ (some ⟨w8'.heap.size, 0, none⟩) 4 4 [0, 2, 4, 0] rfl (X8.out.rd 6 rfl) (by simp only [maxLen]; omega) (by omega) X8.out.size ?_
       intro A9 c9 w9 happ
       have X9 := Lib.hid (show SP w w9 [.own .u8 5 A4 n4 c4 fm, .row 93 2 A2 n2 c2 (prs K.bl), .blk M 32 (KNC K A2 n2 c2), .row 93 2 A11 n11 c11 (prs K.bl), .blk M3 32 (KNC K A11 n11 c11), .own .u8 5 A9 (n4 + 4) c9 (fm ++ [0, 2, 4, 0])] from (X8.out.app 5 rfl happ).pick [0, 1, 2, 3, 4, 5] (by decide) rfl)
       clear happ
       have HLE := Lib.hid (X9.out.own 5 rfl).le
       have j1 : (0 : Int) ≤ (q : Int) := by omega
       have j2 : (q : Int) ≤ (c9 : Int) := by have := HLE.out.1; have := HQ.out; omega)
    | (refine wpList_append_rd _ rfl _ _ _ rfl .u8 w.heap.size 5 i0 1 Try.underlying22 hi hz0 hz1 hz2 (some ⟨w12.heap.size, 0, none⟩) 0 0 [] rfl (X7.out.own 5 rfl) _ A4 n4 c4 fm rfl (X7.out.rd 0 rfl) (by simp only [maxLen]; omega) (by omega) X7.out.size ?_
       intro A8 c8 w8' happ
       have h8 := X7.out.app 5 rfl happ
       rw [Nat.zero_add] at h8 ⊢
       have X8 := Lib.hid (show SP w (w8'.alloc (.cells ([0, 2, 4, 0].map (Value.int .u8)).toArray 5)) [.own .u8 5 A4 n4 c4 fm, .row 93 2 A2 n2 c2 (prs K.bl), .blk M 32 (KNC K A2 n2 c2), .row 93 2 A11 n11 c11 (prs K.bl), .blk M3 32 (KNC K A11 n11 c11), .own .u8 5 A8 n4 c8 fm, .own .u8 5 (some ⟨w8'.heap.size, 0, none⟩) 4 4 [0, 2, 4, 0]] from (show SP w w8' [.own .u8 5 A4 n4 c4 fm, .row 93 2 A2 n2 c2 (prs K.bl), .blk M 32 (KNC K A2 n2 c2), .row 93 2 A11 n11 c11 (prs K.bl), .blk M3 32 (KNC K A11 n11 c11), .own .u8 5 A8 n4 c8 fm] from h8).allocI' .u8 5 [0, 2, 4, 0] (by decide) (N := w8'.heap.size) rfl)
       clear happ h8))
  clear X7 X8 X11
  refine (tcparse_any A9 q c9 ((fm ++ [0, 2, 4, 0]).take q) _ ((X9.out.rd 5 rfl).take HQ.out.2.2) ((HB5.out.append (bd_all (by decide))).take q) (by have := HLE.out.1; have := HQ.out; omega) HLE.out.2).mono ?_
  rintro e w13 ⟨A13, n13, c13, hn13, rfl, Xp⟩
  rw [HE.out.1, HE.out.2]
  rw [HE.out.2] at hn13 Xp
  obtain ⟨M4, hM4⟩ : ∃ N, N = w13.heap.size := ⟨_, rfl⟩
  have X13 := Lib.hid (show SP w _ [.row 93 2 A2 n2 c2 (prs K.bl), .blk M 32 (KNC K A2 n2 c2), .row 93 2 A11 n11 c11 (prs K.bl), .blk M3 32 (KNC K A11 n11 c11), .row 93 2 A13 n13 c13 (prs K.bl), .blk M4 32 (KNC K A13 n13 c13)] from ((X9.out.push Xp.bel (Xp.all 0 _ rfl)).alloc' 32 (KNC K A13 n13 c13) hM4.symm).pick [1, 2, 3, 4, 6, 7] (by decide) rfl)
  have HN13 := Lib.hid hn13
  clear Xp X9 hn13
  unfold KNC
  go_upto_region 17 with fail
  rw [← hM4]
  change Code.wp _ _ _ _ (w13.alloc (.cells (KNC K A13 n13 c13) 32))
  generalize w13.alloc (.cells (KNC K A13 n13 c13) 32) = w14 at X13 ⊢
  clear hM4
  have B0 := Lib.hid (X13.out.blk 1 rfl)
  have B1 := Lib.hid (X13.out.blk 3 rfl)
  go_wp2_with (first
    | (refine wpList_load_row_w 32 _ rfl (by rfl) M3 rfl 32 (KNC K A11 n11 c11) (0, 0) _ B1.out Try.underlying32 rfl (by kernel_rfl) ?_)
    | (refine wpList_load_row_w 32 _ rfl (by rfl) M rfl 32 (KNC K A2 n2 c2) (0, 0) _ B0.out Try.underlying32 rfl (by kernel_rfl) ?_))
  refine (equal8_any K A11 A2 n11 c11 n2 c2 _ HN11.out HN2.out (row_rd (X13.out.row 2 rfl)) (row_rd (X13.out.row 0 rfl)) (by have := HN11.out; have := HWF.out.bl; omega)).mono ?_
  rintro e w15 ⟨rfl, hb15⟩
  have X15 := Lib.hid (X13.out.next hb15)
  clear hb15 X13 B0 B1
  have B0 := Lib.hid (X15.out.blk 1 rfl)
  have B1 := Lib.hid (X15.out.blk 5 rfl)
  go_wp2_with (first
    | (refine wpList_load_row_w 32 _ rfl (by rfl) M4 rfl 32 (KNC K A13 n13 c13) (0, 0) _ B1.out Try.underlying32 rfl (by kernel_rfl) ?_)
    | (refine wpList_load_row_w 32 _ rfl (by rfl) M rfl 32 (KNC K A2 n2 c2) (0, 0) _ B0.out Try.underlying32 rfl (by kernel_rfl) ?_))
  refine (equal8_any K A13 A2 n13 c13 n2 c2 _ HN13.out HN2.out (row_rd (X15.out.row 4 rfl)) (row_rd (X15.out.row 0 rfl)) (by have := HN13.out; have := HWF.out.bl; omega)).mono ?_
  rintro e w16 ⟨rfl, hb16⟩
  have HBE := Lib.hid (X15.out.next hb16).bel
  clear hb16 X15
  go_wp2_with fail
  go_ret
  exact ⟨rfl, HBE.out⟩
end Go.Proofs.Ythdpcblmmjocmaa
