import Derived.Test.YthdpcblmmjocmaaWRef8
import Derived.Test.YthdpcblmmjocmaaWTcF
/- package baffleref08: Right and Format. (Printed by gen_r8p.py.) -/
namespace Go.Proofs.Ythdpcblmmjocmaa
open Go.RowKit
set_option linter.unusedVariables false

theorem w2_len (x : Int) : (w2 x).length = 2 := rfl
theorem w4_len (x : Int) : (w4 x).length = 4 := rfl

set_option maxHeartbeats 2000000 in
set_option maxRecDepth 100000 in
theorem r8Right_any (k : KN) (A : Option Addr) (n c : Nat) (w : World) (hn : n = k.bl.length) :
    Calls Try.prog 42 #[.agg (KNC k A n c)] w fun e w' => e = .returned (.bool (rightK k)) ∧ Below w.heap.size w w' := by
  obtain ⟨m, sc, sel, st, ts, ec, bl⟩ := k
  have hN := Lib.hid (show n = bl.length from hn)
  clear hn
  have X := (SP.start w).alloc 76 (KNC ⟨m, sc, sel, st, ts, ec, bl⟩ A n c)
  go_enter Try.func42, Try.ntmps42
  go_upto_region 1 with fail
  change Code.wp _ _ _ _ (w.alloc (.cells (KNC ⟨m, sc, sel, st, ts, ec, bl⟩ A n c) 76))
  generalize w.alloc (.cells (KNC ⟨m, sc, sel, st, ts, ec, bl⟩ A n c) 76) = w1 at X ⊢
  have HB := Lib.hid X.bel
  have c0 : w1.cell? ⟨w.heap.size, 0, none⟩ = some (.int .i64 m) := X.cell 0 rfl 0 rfl
  have c1 : w1.cell? ⟨w.heap.size, 1, none⟩ = some (.int .i64 sc) := X.cell 0 rfl 1 rfl
  have c3 : w1.cell? ⟨w.heap.size, 3, none⟩ = some (.bool st) := X.cell 0 rfl 3 rfl
  have c4 : w1.cell? ⟨w.heap.size, 4, none⟩ = some (.int .u32 ts) := X.cell 0 rfl 4 rfl
  have c5 : w1.cell? ⟨w.heap.size, 5, none⟩ = some (.int .u32 ec) := X.cell 0 rfl 5 rfl
  have c6 : w1.cell? ⟨w.heap.size, 6, none⟩ = some (.slice A n c) := X.cell 0 rfl 6 rfl
  clear X
  by_cases h0 : 0 ≤ m
  case neg =>
    have HR := Lib.hid (rightK_no (k := ⟨m, sc, sel, st, ts, ec, bl⟩) (fun h => h0 h.1))
    have q : m < 0 := by omega
    go_wp2_with fail
    go_ret
    exact ⟨by rw [HR.out]; rfl, HB.out⟩
  have q0 : ¬ m < 0 := by omega
  by_cases h1 : m ≤ 65535
  case neg =>
    have HR := Lib.hid (rightK_no (k := ⟨m, sc, sel, st, ts, ec, bl⟩) (fun h => h1 h.2.1))
    have q : 65535 < m := by omega
    go_wp2_with fail
    go_ret
    exact ⟨by rw [HR.out]; rfl, HB.out⟩
  have q1 : ¬ 65535 < m := by omega
  by_cases h2 : -1 ≤ sc
  case neg =>
    have HR := Lib.hid (rightK_no (k := ⟨m, sc, sel, st, ts, ec, bl⟩) (fun h => h2 h.2.2.1))
    have q : sc < -1 := by omega
    go_wp2_with fail
    go_ret
    exact ⟨by rw [HR.out]; rfl, HB.out⟩
  have q2 : ¬ sc < -1 := by omega
  by_cases h3 : sc ≤ 14
  case neg =>
    have HR := Lib.hid (rightK_no (k := ⟨m, sc, sel, st, ts, ec, bl⟩) (fun h => h3 h.2.2.2.1))
    have q : 14 < sc := by omega
    go_wp2_with fail
    go_ret
    exact ⟨by rw [HR.out]; rfl, HB.out⟩
  have q3 : ¬ 14 < sc := by omega
  by_cases h4 : n ≤ 4
  case neg =>
    have HR := Lib.hid (rightK_no (k := ⟨m, sc, sel, st, ts, ec, bl⟩) (fun h => h4 (hN.out ▸ h.2.2.2.2.2)))
    have q : (4 : Int) < (n : Int) := by omega
    go_wp2_with fail
    go_ret
    exact ⟨by rw [HR.out]; rfl, HB.out⟩
  have q4 : ¬ (4 : Int) < (n : Int) := by omega
  cases st with
  | true =>
    have HR := Lib.hid (rightK_yes (k := ⟨m, sc, sel, true, ts, ec, bl⟩) ⟨h0, h1, h2, h3, .inl rfl, hN.out ▸ h4⟩)
    go_wp2_with fail
    go_ret
    exact ⟨by rw [HR.out]; rfl, HB.out⟩
  | false =>
    by_cases h5 : ts = 0
    case neg =>
      have HR := Lib.hid (rightK_no (k := ⟨m, sc, sel, false, ts, ec, bl⟩) (fun h => by rcases h.2.2.2.2.1 with h | h; cases h; exact h5 h.1))
      have t4 : (ts == 0) = false := by simp [h5]
      go_wp2_with fail
      go_ret
      exact ⟨by rw [HR.out]; rfl, HB.out⟩
    subst h5
    by_cases h6 : ec = 0
    case neg =>
      have HR := Lib.hid (rightK_no (k := ⟨m, sc, sel, false, 0, ec, bl⟩) (fun h => by rcases h.2.2.2.2.1 with h | h; cases h; exact h6 h.2))
      have t5 : (ec == 0) = false := by simp [h6]
      go_wp2_with fail
      go_ret
      exact ⟨by rw [HR.out]; rfl, HB.out⟩
    subst h6
    have HR := Lib.hid (rightK_yes (k := ⟨m, sc, sel, false, 0, 0, bl⟩) ⟨h0, h1, h2, h3, .inr ⟨rfl, rfl⟩, hN.out ▸ h4⟩)
    go_wp2_with fail
    go_ret
    exact ⟨by rw [HR.out]; rfl, HB.out⟩

set_option maxHeartbeats 8000000 in
set_option maxRecDepth 100000 in
theorem r8Format_any (k : KN) (Ab : Option Addr) (nb cb : Nat) (w : World) (hn : nb = k.bl.length) (R : RD .u32 w w.heap.size Ab (2 * nb) (flatP k.bl)) (hB : BD 4294967295 (flatP k.bl)) (hts : 0 ≤ k.ts ∧ k.ts ≤ 4294967295) (hec : 0 ≤ k.ec ∧ k.ec ≤ 4294967295) :
    Calls Try.prog 41 #[.agg (KNC k Ab nb cb)] w (FMT w k) := by
  obtain ⟨m, sc, sel, st, ts, ec, bl⟩ := k
  obtain ⟨i0, hi, hz0, hz1, hz2⟩ := info_parts infoU8
  have HR := Lib.hid (fun (W : World) (hb : Below w.heap.size w W) => (show RD .u32 W W.heap.size Ab (2 * nb) (flatP bl) from (R.below hb).more hb.size))
  have X0 := (SP.start w).alloc 76 (KNC (KN.mk m sc sel st ts ec bl) Ab nb cb)
  have HNB := Lib.hid (show nb = bl.length from hn)
  have hB' : BD 4294967295 (flatP bl) := hB
  have hts' : 0 ≤ ts ∧ ts ≤ 4294967295 := hts
  have hec' : 0 ≤ ec ∧ ec ≤ 4294967295 := hec
  clear R hn hB hts hec
  go_enter Try.func41, Try.ntmps41
  go_upto_region 1 with fail
  change Code.wp _ _ _ _ (w.alloc (.cells (KNC (KN.mk m sc sel st ts ec bl) Ab nb cb) 76))
  generalize w.alloc (.cells (KNC (KN.mk m sc sel st ts ec bl) Ab nb cb) 76) = w1 at X0 ⊢
  obtain ⟨N, hN⟩ : ∃ N, N = w.heap.size := ⟨_, rfl⟩
  rw [← hN] at X0 ⊢
  have HN := Lib.hid hN
  have X1 := Lib.hid X0
  clear hN X0
  go_wp2_with (refine wpList_load_row rfl 76 _ rfl N rfl 76 (KNC (KN.mk m sc sel st ts ec bl) Ab nb cb) (0, 0) _ (X1.out.blk 0 rfl) Try.underlying76 rfl (by kernel_rfl) ?_)
  refine (r8Right_any (KN.mk m sc sel st ts ec bl) Ab nb cb _ HNB.out).mono ?_
  rintro e wa ⟨rfl, hb2⟩
  have X2 := Lib.hid (X1.out.next hb2)
  clear hb2 X1
  cases hr : rightK (KN.mk m sc sel st ts ec bl) with
  | false =>
    have HE := Lib.hid (And.intro (show fmtE (KN.mk m sc sel st ts ec bl) = 2 by unfold fmtE; rw [if_neg (by rw [hr]; decide)]) (show fmtB (KN.mk m sc sel st ts ec bl) = [] by unfold fmtB; rw [if_neg (by rw [hr]; simp)]))
    clear hr
    go_wp2_with fail
    go_ret2
    exact ⟨none, 0, 0, by rw [HE.out.1]; rfl, by rw [HE.out.2]; exact OWN.nil, X2.out.bel⟩
  | true =>
    have HRK := Lib.hid hr
    have hr2 := hr
    simp only [rightK, decide_eq_true_eq] at hr2
    obtain ⟨m0, m1, s0, s1, _, hbl⟩ := hr2
    clear hr
    have hnb4 : nb ≤ 4 := by rw [HNB.out]; exact hbl
    clear hbl
    have X := Lib.hid (show SP w wa [.own .u8 5 none 0 0 ([]), .blk N 76 (KNC (KN.mk m sc sel st ts ec bl) Ab nb cb)] from (X2.out.pushOwn (Below.refl _ _) OWN.nil).pick [1, 0] (by decide) rfl)
    clear X2
    have hl : (0 : Nat) ≤ 0 := by omega
    have HNN := Lib.hid (show (0 : Nat) = ([] : List Int).length from rfl)
    go_upto_region 4 with fail
    generalize Value.agg (KNC (KN.mk m sc sel st ts ec bl) Ab nb cb) = a0
    have y0 : wa.cell? ⟨N, 0, none⟩ = some (.int .i64 m) := X.out.cell 1 rfl 0 rfl
    go_upto_if 11 with fail
    go_cut [4] (fun s4 wx => ∃ (A : Option Addr) (n c : Nat), s4 = .slice A n c ∧ n = (fmt1 (KN.mk m sc sel st ts ec bl)).length ∧ SP w wx [.own .u8 5 A n c (fmt1 (KN.mk m sc sel st ts ec bl)), .blk N 76 (KNC (KN.mk m sc sel st ts ec bl) Ab nb cb)])
    case first =>
      by_cases h : 0 < m
      · have HF := Lib.hid (show fmt1 (KN.mk m sc sel st ts ec bl) = [] ++ [2, 4] ++ w2 m by unfold fmt1; rw [if_pos h]; unfold optB; simp [padN, w2])
        have HL2 := Lib.hid (low2 (x := m) (by omega))
        clear y0
        have X4 := Lib.hid (X.out.allocI .u8 5 [2, 4] (by simp [maxLen]))
        generalize hG : wa.heap.size = G at X4
        simp only [List.length_cons, List.length_nil, Nat.zero_add] at X4
        go_upto_region 6 with (at_builtin; refine wpList_append_rd _ rfl _ _ _ rfl .u8 w.heap.size 5 i0 1 Try.underlying22 hi hz0 hz1 hz2 none (0) 0 ([]) rfl (X4.out.own 0 rfl) _ (some ⟨G, 0, none⟩) 2 2 ([2, 4]) rfl (X4.out.rd 2 rfl) (by simp only [maxLen]; omega) (by omega) X4.out.size ?_; intro A11 c11 w11 happ; have X11 := Lib.hid ((X4.out.app 0 rfl happ).pick [0, 1] (by decide) (L' := [.own .u8 5 A11 (0 + 2) c11 ([] ++ [2, 4]), .blk N 76 (KNC (KN.mk m sc sel st ts ec bl) Ab nb cb)]) rfl); clear happ)
        clear X4 hG
        have y0 : w11.cell? ⟨N, 0, none⟩ = some (.int .i64 m) := X11.out.cell 1 rfl 0 rfl
        go_wp2_with fail
        refine (r8bytes_any m 2 2 _ (by omega) rfl (by decide)).mono ?_
        rintro e wq ⟨Aq, cq, rfl, ownq, hbq⟩
        rw [HL2.out] at ownq
        have XQ := Lib.hid (X11.out.pushOwn hbq ownq)
        clear ownq hbq
        clear y0
        go_wp2_with (at_builtin; refine wpList_append_rd _ rfl _ _ _ rfl .u8 w.heap.size 5 i0 1 Try.underlying22 hi hz0 hz1 hz2 A11 (0 + 2) c11 ([] ++ [2, 4]) rfl (XQ.out.own 0 rfl) _ Aq 2 cq (w2 m) rfl (XQ.out.rd 2 rfl) (by simp only [maxLen]; omega) (by omega) XQ.out.size ?_; intro A12 c12 w12 happ; have X12 := Lib.hid ((XQ.out.app 0 rfl happ).pick [0, 1] (by decide) (L' := [.own .u8 5 A12 (0 + 2 + 2) c12 ([] ++ [2, 4] ++ w2 m), .blk N 76 (KNC (KN.mk m sc sel st ts ec bl) Ab nb cb)]) rfl); clear happ)
        clear XQ
        go_meet
        exact ⟨A12, _, c12, rfl, by rw [HF.out]; simp only [List.length_append, List.length_cons, List.length_nil, w2_len], by rw [HF.out]; exact X12.out⟩
      · have HF := Lib.hid (show fmt1 (KN.mk m sc sel st ts ec bl) = [] by unfold fmt1; rw [if_neg h])
        go_wp2_with fail
        go_meet
        exact ⟨none, 0, 0, rfl, by simp [HF.out], by rw [HF.out]; exact X.out⟩
    case rest =>
    obtain ⟨A0, n0, c0, rfl, hn0, hX0⟩ := hcut
    have X := Lib.hid hX0
    have hl : n0 ≤ 8 := by have := fmt1_len (KN.mk m sc sel st ts ec bl); omega
    have HNN := Lib.hid hn0
    clear hn0 hX0
    have y0 : wc.cell? ⟨N, 1, none⟩ = some (.int .i64 sc) := X.out.cell 1 rfl 1 rfl
    go_upto_if 22 with fail
    go_cut [4] (fun s4 wx => ∃ (A : Option Addr) (n c : Nat), s4 = .slice A n c ∧ n = (fmt2 (KN.mk m sc sel st ts ec bl)).length ∧ SP w wx [.own .u8 5 A n c (fmt2 (KN.mk m sc sel st ts ec bl)), .blk N 76 (KNC (KN.mk m sc sel st ts ec bl) Ab nb cb)])
    case first =>
      by_cases h : 0 ≤ sc
      · have HF := Lib.hid (show fmt2 (KN.mk m sc sel st ts ec bl) = fmt1 (KN.mk m sc sel st ts ec bl) ++ [1, 3, 3, sc] by unfold fmt2; rw [if_pos h]; unfold optB; simp [padN])
        have e1 : IntKind.u8.wrap sc = sc := u8_in _ (by omega) (by omega)
        have X4 := Lib.hid (X.out.allocI .u8 5 [1, 3, 3, sc] (by simp [maxLen]))
        generalize hG : wc.heap.size = G at X4
        simp only [List.length_cons, List.length_nil, Nat.zero_add] at X4
        go_wp2_with (at_builtin; refine wpList_append_rd _ rfl _ _ _ rfl .u8 w.heap.size 5 i0 1 Try.underlying22 hi hz0 hz1 hz2 A0 (n0) c0 (fmt1 (KN.mk m sc sel st ts ec bl)) rfl (X4.out.own 0 rfl) _ (some ⟨G, 0, none⟩) 4 4 ([1, 3, 3, sc]) rfl (X4.out.rd 2 rfl) (by simp only [maxLen]; omega) (by omega) X4.out.size ?_; intro A13 c13 w13 happ; have X13 := Lib.hid ((X4.out.app 0 rfl happ).pick [0, 1] (by decide) (L' := [.own .u8 5 A13 (n0 + 4) c13 (fmt1 (KN.mk m sc sel st ts ec bl) ++ [1, 3, 3, sc]), .blk N 76 (KNC (KN.mk m sc sel st ts ec bl) Ab nb cb)]) rfl); clear happ)
        clear X4 hG
        go_meet
        exact ⟨A13, _, c13, rfl, by have h1 := HNN.out; rw [HF.out]; simp only [List.length_append, List.length_cons, List.length_nil]; omega, by rw [HF.out]; exact X13.out⟩
      · have HF := Lib.hid (show fmt2 (KN.mk m sc sel st ts ec bl) = fmt1 (KN.mk m sc sel st ts ec bl) by unfold fmt2; rw [if_neg h])
        go_wp2_with fail
        go_meet
        exact ⟨A0, n0, c0, rfl, by rw [HF.out]; exact HNN.out, by rw [HF.out]; exact X.out⟩
    case rest =>
    obtain ⟨A0, n0, c0, rfl, hn0, hX0⟩ := hcut
    have X := Lib.hid hX0
    have hl : n0 ≤ 16 := by have := fmt2_len (KN.mk m sc sel st ts ec bl); omega
    have HNN := Lib.hid hn0
    clear hn0 hX0
    have y0 : wc.cell? ⟨N, 2, none⟩ = some (.bool sel) := X.out.cell 1 rfl 2 rfl
    go_upto_if 30 with fail
    go_cut [4] (fun s4 wx => ∃ (A : Option Addr) (n c : Nat), s4 = .slice A n c ∧ n = (fmt3 (KN.mk m sc sel st ts ec bl)).length ∧ SP w wx [.own .u8 5 A n c (fmt3 (KN.mk m sc sel st ts ec bl)), .blk N 76 (KNC (KN.mk m sc sel st ts ec bl) Ab nb cb)])
    case first =>
      have HF := Lib.hid (show (sel = true → fmt3 (KN.mk m sc sel st ts ec bl) = fmt2 (KN.mk m sc sel st ts ec bl) ++ [1, 1, 4, 2]) ∧ (sel = false → fmt3 (KN.mk m sc sel st ts ec bl) = fmt2 (KN.mk m sc sel st ts ec bl)) from ⟨fun h => by unfold fmt3; rw [if_pos h]; unfold optB; simp [padN], fun h => by unfold fmt3; rw [if_neg (by simp [h])]⟩)
      have X4 := Lib.hid (X.out.allocI .u8 5 [1, 1, 4, 2] (by simp [maxLen]))
      generalize hG : wc.heap.size = G at X4
      simp only [List.length_cons, List.length_nil, Nat.zero_add] at X4
      go_wp2_with (at_builtin; refine wpList_append_rd _ rfl _ _ _ rfl .u8 w.heap.size 5 i0 1 Try.underlying22 hi hz0 hz1 hz2 A0 (n0) c0 (fmt2 (KN.mk m sc sel st ts ec bl)) rfl (X4.out.own 0 rfl) _ (some ⟨G, 0, none⟩) 4 4 ([1, 1, 4, 2]) rfl (X4.out.rd 2 rfl) (by simp only [maxLen]; omega) (by omega) X4.out.size ?_; intro A14 c14 w14 happ; have X14 := Lib.hid ((X4.out.app 0 rfl happ).pick [0, 1] (by decide) (L' := [.own .u8 5 A14 (n0 + 4) c14 (fmt2 (KN.mk m sc sel st ts ec bl) ++ [1, 1, 4, 2]), .blk N 76 (KNC (KN.mk m sc sel st ts ec bl) Ab nb cb)]) rfl); clear happ)
      · have hb : sel = true := by assumption
        go_meet
        exact ⟨A14, _, c14, rfl, by have h1 := HNN.out; rw [HF.out.1 hb]; simp only [List.length_append, List.length_cons, List.length_nil]; omega, by rw [HF.out.1 hb]; exact X14.out⟩
      · have hb : sel = false := by first | assumption | simp_all
        go_meet
        exact ⟨A0, n0, c0, rfl, by rw [HF.out.2 hb]; exact HNN.out, by rw [HF.out.2 hb]; exact X.out⟩
    case rest =>
    obtain ⟨A0, n0, c0, rfl, hn0, hX0⟩ := hcut
    have X := Lib.hid hX0
    have hl : n0 ≤ 24 := by have := fmt3_len (KN.mk m sc sel st ts ec bl); omega
    have HNN := Lib.hid hn0
    clear hn0 hX0
    have y0 : wc.cell? ⟨N, 3, none⟩ = some (.bool st) := X.out.cell 1 rfl 3 rfl
    have HST := Lib.hid hts'
    have HEC := Lib.hid hec'
    go_upto_if 35 with fail
    go_cut [4] (fun s4 wx => ∃ (A : Option Addr) (n c : Nat), s4 = .slice A n c ∧ n = (fmt4 (KN.mk m sc sel st ts ec bl)).length ∧ SP w wx [.own .u8 5 A n c (fmt4 (KN.mk m sc sel st ts ec bl)), .blk N 76 (KNC (KN.mk m sc sel st ts ec bl) Ab nb cb)])
    case first =>
      have HF := Lib.hid (show (st = true → fmt4 (KN.mk m sc sel st ts ec bl) = fmt3 (KN.mk m sc sel st ts ec bl) ++ [1, 1, 8, 10] ++ w4 ts ++ w4 ec) ∧ (st = false → fmt4 (KN.mk m sc sel st ts ec bl) = fmt3 (KN.mk m sc sel st ts ec bl)) from ⟨fun h => by unfold fmt4; rw [if_pos h]; unfold optB; simp [padN, w4s, w4, w2], fun h => by unfold fmt4; rw [if_neg (by simp [h])]⟩)
      have HL4 := Lib.hid (low4 (x := ts) (by omega))
      have HL5 := Lib.hid (low4 (x := ec) (by omega))
      have X4 := Lib.hid (X.out.allocI .u8 5 [1, 1, 8, 10] (by simp [maxLen]))
      generalize hG : wc.heap.size = G at X4
      simp only [List.length_cons, List.length_nil, Nat.zero_add] at X4
      go_wp2_with (at_builtin; refine wpList_append_rd _ rfl _ _ _ rfl .u8 w.heap.size 5 i0 1 Try.underlying22 hi hz0 hz1 hz2 A0 n0 c0 (fmt3 (KN.mk m sc sel st ts ec bl)) rfl (X4.out.own 0 rfl) _ (some ⟨G, 0, none⟩) 4 4 ([1, 1, 8, 10]) rfl (X4.out.rd 2 rfl) (by simp only [maxLen]; omega) (by omega) X4.out.size ?_; intro A15 c15 w15 happ; have X15 := Lib.hid ((X4.out.app 0 rfl happ).pick [0, 1] (by decide) (L' := [.own .u8 5 A15 (n0 + 4) c15 (fmt3 (KN.mk m sc sel st ts ec bl) ++ [1, 1, 8, 10]), .blk N 76 (KNC (KN.mk m sc sel st ts ec bl) Ab nb cb)]) rfl); clear happ; have y4 : w15.cell? ⟨N, 4, none⟩ = some (.int .u32 ts) := X15.out.cell 1 rfl 4 rfl; have e4 : IntKind.i64.wrap ts = ts := IntWalk.i64_in _ (by omega))
      · have hb : st = true := by assumption
        clear X4 hG
        refine (r8bytes_any ts 4 4 _ (by omega) rfl (by decide)).mono ?_
        rintro e wq ⟨Aq, cq, rfl, ownq, hbq⟩
        rw [HL4.out] at ownq
        have XQ := Lib.hid (X15.out.pushOwn hbq ownq)
        clear ownq hbq y4 e4
        go_upto_region 14 with (at_builtin; refine wpList_append_rd _ rfl _ _ _ rfl .u8 w.heap.size 5 i0 1 Try.underlying22 hi hz0 hz1 hz2 A15 (n0 + 4) c15 (fmt3 (KN.mk m sc sel st ts ec bl) ++ [1, 1, 8, 10]) rfl (XQ.out.own 0 rfl) _ Aq 4 cq (w4 ts) rfl (XQ.out.rd 2 rfl) (by simp only [maxLen]; omega) (by omega) XQ.out.size ?_; intro A16 c16 w16 happ; have X16 := Lib.hid ((XQ.out.app 0 rfl happ).pick [0, 1] (by decide) (L' := [.own .u8 5 A16 (n0 + 4 + 4) c16 (fmt3 (KN.mk m sc sel st ts ec bl) ++ [1, 1, 8, 10] ++ w4 ts), .blk N 76 (KNC (KN.mk m sc sel st ts ec bl) Ab nb cb)]) rfl); clear happ)
        clear XQ
        have y5 : w16.cell? ⟨N, 5, none⟩ = some (.int .u32 ec) := X16.out.cell 1 rfl 5 rfl
        have e5 : IntKind.i64.wrap ec = ec := IntWalk.i64_in _ (by omega)
        go_wp2_with fail
        refine (r8bytes_any ec 4 4 _ (by omega) rfl (by decide)).mono ?_
        rintro e wq ⟨Aq, cq, rfl, ownq, hbq⟩
        rw [HL5.out] at ownq
        have XQ := Lib.hid (X16.out.pushOwn hbq ownq)
        clear ownq hbq y5 e5
        go_wp2_with (at_builtin; refine wpList_append_rd _ rfl _ _ _ rfl .u8 w.heap.size 5 i0 1 Try.underlying22 hi hz0 hz1 hz2 A16 (n0 + 4 + 4) c16 (fmt3 (KN.mk m sc sel st ts ec bl) ++ [1, 1, 8, 10] ++ w4 ts) rfl (XQ.out.own 0 rfl) _ Aq 4 cq (w4 ec) rfl (XQ.out.rd 2 rfl) (by simp only [maxLen]; omega) (by omega) XQ.out.size ?_; intro A17 c17 w17 happ; have X17 := Lib.hid ((XQ.out.app 0 rfl happ).pick [0, 1] (by decide) (L' := [.own .u8 5 A17 (n0 + 4 + 4 + 4) c17 (fmt3 (KN.mk m sc sel st ts ec bl) ++ [1, 1, 8, 10] ++ w4 ts ++ w4 ec), .blk N 76 (KNC (KN.mk m sc sel st ts ec bl) Ab nb cb)]) rfl); clear happ)
        go_meet
        exact ⟨A17, _, c17, rfl, by have h1 := HNN.out; rw [HF.out.1 hb]; simp only [List.length_append, List.length_cons, List.length_nil, w4_len]; omega, by rw [HF.out.1 hb]; exact X17.out⟩
      · have hb : st = false := by first | assumption | simp_all
        go_meet
        exact ⟨A0, n0, c0, rfl, by rw [HF.out.2 hb]; exact HNN.out, by rw [HF.out.2 hb]; exact X.out⟩
    case rest =>
    obtain ⟨A0, n0, c0, rfl, hn0, hX0⟩ := hcut
    have X := Lib.hid hX0
    have hl : n0 ≤ 40 := by have := fmt4_len (KN.mk m sc sel st ts ec bl); omega
    have HNN := Lib.hid hn0
    clear hn0 hX0
    have y0 : wc.cell? ⟨N, 6, none⟩ = some (.slice Ab nb cb) := X.out.cell 1 rfl 6 rfl
    go_upto_if 54 with fail
    go_cut [4] (fun s4 wx => ∃ (A : Option Addr) (n c : Nat), s4 = .slice A n c ∧ n = (fmt5 (KN.mk m sc sel st ts ec bl)).length ∧ SP w wx [.own .u8 5 A n c (fmt5 (KN.mk m sc sel st ts ec bl)), .blk N 76 (KNC (KN.mk m sc sel st ts ec bl) Ab nb cb)])
    case first =>
      by_cases h : 0 < nb
      · have h' : bl ≠ [] := by intro h0; have := HNB.out; rw [h0] at this; simp at this; omega
        have HF := Lib.hid (show fmt5 (KN.mk m sc sel st ts ec bl) = fmt4 (KN.mk m sc sel st ts ec bl) ++ [1, 1, 5, 2 + 8 * (nb : Int)] ++ pairB bl by
          unfold fmt5; rw [if_pos h']; unfold optB
          have hp : padN (pairB bl).length = 2 := by rw [pairB_len]; unfold padN; omega
          rw [hp, pairB_len, HNB.out]; simp)
        have h2 : (0 : Int) < (nb : Int) := by omega
        obtain ⟨b, off, hAb, hBb, _⟩ := (HR.out _ X.out.bel).2 (by omega)
        subst hAb
        have HC := Lib.hid (fun (W : World) (hb : Below w.heap.size w W) (i : Nat) (hi : i < 2 * nb) => (show W.cell? ⟨b, off + i, none⟩ = some (.int .u32 ((flatP bl)[i]?.getD 0)) by
          obtain ⟨b', off', e1, _, h1⟩ := (HR.out _ hb).2 (by omega)
          cases e1
          exact h1 i hi))
        clear h'
        have e1 : IntKind.i64.wrap (8 * (nb : Int)) = 8 * (nb : Int) := IntWalk.i64_in _ (by omega)
        have e2 : IntKind.i64.wrap (2 + 8 * (nb : Int)) = 2 + 8 * (nb : Int) := IntWalk.i64_in _ (by omega)
        have e3 : IntKind.u8.wrap (2 + 8 * (nb : Int)) = 2 + 8 * (nb : Int) := u8_in _ (by omega) (by omega)
        have X4 := Lib.hid (X.out.allocI .u8 5 [1, 1, 5, 2 + 8 * (nb : Int)] (by simp [maxLen]))
        generalize hG : wc.heap.size = G at X4
        simp only [List.length_cons, List.length_nil, Nat.zero_add] at X4
        go_wp2_with (at_builtin; refine wpList_append_rd _ rfl _ _ _ rfl .u8 w.heap.size 5 i0 1 Try.underlying22 hi hz0 hz1 hz2 A0 (n0) c0 (fmt4 (KN.mk m sc sel st ts ec bl)) rfl (X4.out.own 0 rfl) _ (some ⟨G, 0, none⟩) 4 4 ([1, 1, 5, 2 + 8 * (nb : Int)]) rfl (X4.out.rd 2 rfl) (by simp only [maxLen]; omega) (by omega) X4.out.size ?_; intro A18 c18 w18 happ; have X18 := Lib.hid ((X4.out.app 0 rfl happ).pick [0, 1] (by decide) (L' := [.own .u8 5 A18 (n0 + 4) c18 (fmt4 (KN.mk m sc sel st ts ec bl) ++ [1, 1, 5, 2 + 8 * (nb : Int)]), .blk N 76 (KNC (KN.mk m sc sel st ts ec bl) (some ⟨b, off, none⟩) nb cb)]) rfl); clear happ)
        clear X4 hG e1 e2 e3
        go_loopw [4, 5] (fun s i wr => ∃ (k : Nat) (A' : Option Addr) (c' : Nat), k ≤ nb ∧ i = .int .i64 k ∧ s = .slice A' (n0 + 4 + 8 * k) c' ∧ SP w wr [.own .u8 5 A' (n0 + 4 + 8 * k) c' (fmt4 (KN.mk m sc sel st ts ec bl) ++ [1, 1, 5, 2 + 8 * (nb : Int)] ++ pairB (bl.take k)), .blk N 76 (KNC (KN.mk m sc sel st ts ec bl) (some ⟨b, off, none⟩) nb cb)]) (fun _ i _ => nb - (intOf i).toNat)
        case atStart => exact ⟨0, A18, c18, by omega, rfl, rfl, by rw [List.take_zero, show pairB [] = [] from rfl, List.append_nil]; exact X18.out⟩
        case round =>
          obtain ⟨k, A', c', hk, rfl, rfl, hX⟩ := hrel
          have Y := Lib.hid hX
          clear hX
          by_cases hlt : k < nb
          · have x0 : wr.cell? ⟨b, off + k * 2, none⟩ = some (.int .u32 ((flatP bl)[2 * k]?.getD 0)) := by rw [Nat.mul_comm k 2]; exact HC.out wr Y.out.bel (2 * k) (by omega)
            rw [(flatP_get bl k).1] at x0
            have b0 := hB'.get (by omega) (2 * k)
            have b1 := hB'.get (by omega) (2 * k + 1)
            rw [(flatP_get bl k).1] at b0
            rw [(flatP_get bl k).2] at b1
            have HT := Lib.hid (pairB_take (l := bl) (k := k) (by rw [← HNB.out]; exact hlt))
            have HG := Lib.hid (flatP_get bl k)
            obtain ⟨p1, hp1⟩ : ∃ p, (bl[k]?.getD (0, 0)).1 = p := ⟨_, rfl⟩
            obtain ⟨p2, hp2⟩ : ∃ p, (bl[k]?.getD (0, 0)).2 = p := ⟨_, rfl⟩
            rw [hp1] at x0 b0 HT HG
            rw [hp2] at b1 HT HG
            have HL4 := Lib.hid (low4 (x := p1) b0)
            have HL5 := Lib.hid (low4 (x := p2) b1)
            clear hp1 hp2
            have hlt' : (k : Int) < (nb : Int) := by omega
            have y6 : wr.cell? ⟨N, 6, none⟩ = some (.slice (some ⟨b, off, none⟩) nb cb) := Y.out.cell 1 rfl 6 rfl
            have e1 : IntKind.i64.wrap p1 = p1 := IntWalk.i64_in _ (by omega)
            have e2 : IntKind.i64.wrap p2 = p2 := IntWalk.i64_in _ (by omega)
            have k0 : (0 : Int) ≤ (k : Int) := by omega
            go_wp2_with fail
            refine (r8bytes_any p1 4 4 _ (by omega) rfl (by decide)).mono ?_
            rintro e wq ⟨Aq, cq, rfl, ownq, hbq⟩
            rw [HL4.out] at ownq
            have XQ := Lib.hid (Y.out.pushOwn hbq ownq)
            clear ownq hbq y6 x0
            go_upto_region 21 with (at_builtin; refine wpList_append_rd _ rfl _ _ _ rfl .u8 w.heap.size 5 i0 1 Try.underlying22 hi hz0 hz1 hz2 A' (n0 + 4 + 8 * k) c' (fmt4 (KN.mk m sc sel st ts ec bl) ++ [1, 1, 5, 2 + 8 * (nb : Int)] ++ pairB (bl.take k)) rfl (XQ.out.own 0 rfl) _ Aq 4 cq (w4 p1) rfl (XQ.out.rd 2 rfl) (by simp only [maxLen]; omega) (by omega) XQ.out.size ?_; intro Ae ce we happ; have XE := Lib.hid ((XQ.out.app 0 rfl happ).pick [0, 1] (by decide) (L' := [.own .u8 5 Ae (n0 + 4 + 8 * k + 4) ce (fmt4 (KN.mk m sc sel st ts ec bl) ++ [1, 1, 5, 2 + 8 * (nb : Int)] ++ pairB (bl.take k) ++ w4 p1), .blk N 76 (KNC (KN.mk m sc sel st ts ec bl) (some ⟨b, off, none⟩) nb cb)]) rfl); clear happ)
            clear XQ
            have x1 : we.cell? ⟨b, off + k * 2 + 1, none⟩ = some (.int .u32 p2) := by
              have := HC.out we XE.out.bel (2 * k + 1) (by omega)
              rw [HG.out.2] at this
              rw [Nat.add_assoc, Nat.mul_comm k 2]; exact this
            have y6 : we.cell? ⟨N, 6, none⟩ = some (.slice (some ⟨b, off, none⟩) nb cb) := XE.out.cell 1 rfl 6 rfl
            go_wp2_with fail
            refine (r8bytes_any p2 4 4 _ (by omega) rfl (by decide)).mono ?_
            rintro e wq ⟨Aq, cq, rfl, ownq, hbq⟩
            rw [HL5.out] at ownq
            have XQ := Lib.hid (XE.out.pushOwn hbq ownq)
            clear ownq hbq y6 x1
            go_wp2_with (at_builtin; refine wpList_append_rd _ rfl _ _ _ rfl .u8 w.heap.size 5 i0 1 Try.underlying22 hi hz0 hz1 hz2 Ae (n0 + 4 + 8 * k + 4) ce (fmt4 (KN.mk m sc sel st ts ec bl) ++ [1, 1, 5, 2 + 8 * (nb : Int)] ++ pairB (bl.take k) ++ w4 p1) rfl (XQ.out.own 0 rfl) _ Aq 4 cq (w4 p2) rfl (XQ.out.rd 2 rfl) (by simp only [maxLen]; omega) (by omega) XQ.out.size ?_; intro Af cf wf happ; have XF := Lib.hid ((XQ.out.app 0 rfl happ).pick [0, 1] (by decide) (L' := [.own .u8 5 Af (n0 + 4 + 8 * k + 4 + 4) cf (fmt4 (KN.mk m sc sel st ts ec bl) ++ [1, 1, 5, 2 + 8 * (nb : Int)] ++ pairB (bl.take k) ++ w4 p1 ++ w4 p2), .blk N 76 (KNC (KN.mk m sc sel st ts ec bl) (some ⟨b, off, none⟩) nb cb)]) rfl); clear happ)
            go_roundw
            case rel =>
              refine ⟨k + 1, Af, cf, by omega, by go_num, by rw [show n0 + 4 + 8 * (k + 1) = n0 + 4 + 8 * k + 4 + 4 by omega], ?_⟩
              rw [HT.out, show n0 + 4 + 8 * (k + 1) = n0 + 4 + 8 * k + 4 + 4 by omega]
              have := XF.out
              rw [List.append_assoc, List.append_assoc] at this
              rw [show w4s [p1, p2] = w4 p1 ++ w4 p2 from by simp [w4s]]
              simpa only [List.append_assoc] using this
            case measure => simp [intOf]; omega
          · have hkn : k = nb := by omega
            subst hkn
            have HT := Lib.hid (show bl.take k = bl from List.take_of_length_le (by rw [← HNB.out]; omega))
            have y6 : wr.cell? ⟨N, 6, none⟩ = some (.slice (some ⟨b, off, none⟩) k cb) := Y.out.cell 1 rfl 6 rfl
            go_wp2_with fail
            go_meet
            exact ⟨A', _, c', rfl, by have h1 := HNN.out; rw [HF.out]; simp only [List.length_append, List.length_cons, List.length_nil, pairB_len]; have := HNB.out; omega, by have := Y.out; rw [HT.out] at this; rw [HF.out]; exact this⟩
      · have HF := Lib.hid (show fmt5 (KN.mk m sc sel st ts ec bl) = fmt4 (KN.mk m sc sel st ts ec bl) by unfold fmt5; rw [if_neg (by have := HNB.out; intro h0; apply h0; exact List.length_eq_zero_iff.1 (show bl.length = 0 by omega))])
        have h2 : ¬ (0 : Int) < (nb : Int) := by omega
        go_wp2_with fail
        go_meet
        exact ⟨A0, n0, c0, rfl, by rw [HF.out]; exact HNN.out, by rw [HF.out]; exact X.out⟩
    case rest =>
    obtain ⟨A0, n0, c0, rfl, hn0, hX0⟩ := hcut
    have X := Lib.hid hX0
    have HNN := Lib.hid hn0
    clear hn0 hX0
    by_cases h : n0 ≤ 40
    · have HE := Lib.hid (And.intro (show fmtE (KN.mk m sc sel st ts ec bl) = 0 by unfold fmtE; rw [if_pos HRK.out, if_pos (by rw [← HNN.out]; exact h)]) (show fmtB (KN.mk m sc sel st ts ec bl) = fmt5 (KN.mk m sc sel st ts ec bl) by unfold fmtB; rw [if_pos ⟨HRK.out, by rw [← HNN.out]; exact h⟩]))
      have h2 : ¬ (40 : Int) < (n0 : Int) := by omega
      go_wp2_with fail
      go_ret2
      exact ⟨A0, n0, c0, by rw [HE.out.1]; rfl, by rw [HE.out.2]; exact X.out.own 0 rfl, X.out.bel⟩
    · have HE := Lib.hid (And.intro (show fmtE (KN.mk m sc sel st ts ec bl) = 3 by unfold fmtE; rw [if_pos HRK.out, if_neg (by rw [← HNN.out]; exact h)]) (show fmtB (KN.mk m sc sel st ts ec bl) = [] by unfold fmtB; rw [if_neg (fun x => h (by rw [HNN.out]; exact x.2))]))
      have h2 : (40 : Int) < (n0 : Int) := by omega
      go_wp2_with fail
      go_ret2
      exact ⟨none, 0, 0, by rw [HE.out.1]; rfl, by rw [HE.out.2]; exact OWN.nil, X.out.bel⟩
end Go.Proofs.Ythdpcblmmjocmaa
