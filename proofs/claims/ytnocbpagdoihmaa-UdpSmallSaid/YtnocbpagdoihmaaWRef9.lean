/- The reference of chapter 09. -/
import Derived.Test.YtnocbpagdoihmaaWUdpW
import Derived.Test.YtnocbpagdoihmaaWRef2
import Derived.Deep.QuietTactic
import Derived.BigQuiet
namespace Go.Proofs.Ytnocbpagdoihmaa
open Go.RowKit
set_option linter.unusedVariables false
attribute [local go_sem ↓] Go.wp_at_zero Go.wp_at_succ

theorem head_len' (sp dp L c : Int) : (uHead sp dp L c).length = 8 := rfl

set_option maxHeartbeats 1000000 in
set_option maxRecDepth 100000 in
theorem r9at_any (A : Option Addr) (n c : Nat) (zs : List Int) (q : Int) (p : Nat) (w : World) (h : RD .u8 w w.heap.size A n zs) (hz : BD 255 zs) (hn : n ≤ 140737488355328) (hq : q = p) (hp : p + 2 ≤ n) :
    Calls Try.prog 37 #[.slice A n c, .int .i64 q] w fun e w' => e = .returned (.int .i64 (wordAt zs p)) ∧ ∃ m, w' = w.drewN m := by
  subst hq
  obtain ⟨b, off, rfl, hb, hc⟩ := h.2 (by omega)
  have x1 := hc p (by omega)
  have x2 := hc (p + 1) (by omega)
  obtain ⟨z1, z1'⟩ := hz.get (by omega) p
  obtain ⟨z2, z2'⟩ := hz.get (by omega) (p + 1)
  have hw : wordAt zs p = zs[p]?.getD 0 * 256 + zs[p + 1]?.getD 0 := rfl
  rw [hw]
  generalize zs[p]?.getD 0 = u at *
  generalize zs[p + 1]?.getD 0 = v at *
  clear hc hw
  have i1 : (0 : Int) ≤ (p : Int) := by omega
  have i2 : (p : Int) < (n : Int) := by omega
  have i3 : (0 : Int) ≤ (p : Int) + 1 := by omega
  have i4 : (p : Int) + 1 < (n : Int) := by omega
  have e1 : IntKind.i64.wrap ((p : Int) + 1) = (p : Int) + 1 := IntWalk.i64_in _ (by omega)
  have e1' : ((p : Int) + 1).toNat = p + 1 := by omega
  have e2 : IntKind.i64.wrap (u * 256) = u * 256 := IntWalk.i64_in _ (by omega)
  have e3 : IntKind.i64.wrap u = u := IntWalk.i64_in _ (by omega)
  have e4 : IntKind.i64.wrap v = v := IntWalk.i64_in _ (by omega)
  have e5 : IntKind.i64.wrap (u * 256 + v) = u * 256 + v := IntWalk.i64_in _ (by omega)
  go_enter Try.func37, Try.ntmps37
  go_wp2_with fail
  go_quiet (fail)
  go_wp2_with fail
  go_ret
  exact ⟨rfl, _, rfl⟩

set_option maxHeartbeats 4000000 in
set_option maxRecDepth 100000 in
theorem r9Read_any (A : Option Addr) (n c : Nat) (zs : List Int) (w : World) (h : RD .u8 w w.heap.size A n zs) (hz : BD 255 zs) (hn : n ≤ 140737488355328) :
    Calls Try.prog 22 #[.slice A n c] w fun e w' => e = .returned (.tuple #[.agg (uhd zs), .int .i64 (udpTo zs), .int .i64 (udpE zs)]) ∧ Below w.heap.size w w' := by
  have hl := h.len
  have R := Lib.hid h
  have S := (SP.start w).alloc 50 uhd0
  have HL := Lib.hid hl
  clear h hl
  by_cases h8 : n < 8
  · have hE : udpE zs = 90 := by unfold udpE; rw [if_pos (by rw [HL.out]; exact h8)]
    have hu : uhd zs = uhd0 := by unfold uhd; rw [if_neg (by rw [hE]; decide)]
    have ht : udpTo zs = 0 := by unfold udpTo; rw [if_neg (by rw [hE]; decide)]
    rw [hE, hu, ht]
    have i8 : (n : Int) < 8 := by omega
    clear hE hu ht
    go_enter Try.func22, Try.ntmps22
    go_wp2_with fail
    refine bodyPost_ret (results_cell_tmp2 rfl _ _ w.heap.size 50 _ _ _ rfl (S.blk 0 rfl) Try.underlying50 rfl (by kernel_rfl)) rfl ⟨rfl, S.bel⟩
  · have i8 : ¬ (n : Int) < 8 := by omega
    obtain ⟨a1, a2⟩ := wordAt_bd9 hz 4
    go_enter Try.func22, Try.ntmps22
    unfold uhd0 at S
    go_upto_region 3 with fail
    generalize hw1 : w.alloc (.cells #[.int .u16 0, .int .u16 0, .bool false] 50) = w1 at S ⊢
    clear hw1
    have H1 := Lib.hid S
    clear S
    go_wp2_with fail
    refine (r9at_any A n c zs 4 4 _ ((R.out.below H1.out.bel).more H1.out.size) hz hn rfl (by omega)).mono ?_
    rintro e w2 ⟨rfl, m2, h2⟩
    have H2 := Lib.hid (h2 ▸ H1.out.drewN m2)
    clear h2 H1
    have x0 : w2.cell? ⟨w.heap.size, 0, none⟩ = some (.int .u16 0) := H2.out.cell 0 rfl 0 rfl
    have x1 : w2.cell? ⟨w.heap.size, 1, none⟩ = some (.int .u16 0) := H2.out.cell 0 rfl 1 rfl
    have x2 : w2.cell? ⟨w.heap.size, 2, none⟩ = some (.bool false) := H2.out.cell 0 rfl 2 rfl
    have z0 := H2.out.free 0 rfl 0
    have z1 := H2.out.free 0 rfl 1
    have z2 := H2.out.free 0 rfl 2
    have T := Lib.hid (((H2.out.setB 0 rfl 0 (.int .u16 0)).setB 0 rfl 1 (.int .u16 0)).setB 0 rfl 2 (.bool false))
    by_cases h1 : wordAt zs 4 < 8
    · have hE : udpE zs = 91 := by unfold udpE; rw [if_neg (by rw [HL.out]; exact h8), if_pos (.inl h1)]
      have hu : uhd zs = uhd0 := by unfold uhd; rw [if_neg (by rw [hE]; decide)]
      have ht : udpTo zs = 0 := by unfold udpTo; rw [if_neg (by rw [hE]; decide)]
      have HE := Lib.hid (And.intro hE (And.intro hu ht))
      clear hE hu ht h8
      go_wp2_with fail
      refine bodyPost_ret (results_cell_tmp2 rfl _ _ w.heap.size 50 _ _ _ rfl (T.out.blk 0 rfl) Try.underlying50 rfl (by kernel_rfl)) rfl ⟨?_, T.out.bel⟩
      rw [HE.out.1, HE.out.2.1, HE.out.2.2]; rfl
    · by_cases h2 : (n : Int) < wordAt zs 4
      · have hE : udpE zs = 91 := by unfold udpE; rw [if_neg (by rw [HL.out]; exact h8), if_pos (.inr (by rw [HL.out]; exact h2))]
        have hu : uhd zs = uhd0 := by unfold uhd; rw [if_neg (by rw [hE]; decide)]
        have ht : udpTo zs = 0 := by unfold udpTo; rw [if_neg (by rw [hE]; decide)]
        have HE := Lib.hid (And.intro hE (And.intro hu ht))
        clear hE hu ht h8
        go_wp2_with fail
        refine bodyPost_ret (results_cell_tmp2 rfl _ _ w.heap.size 50 _ _ _ rfl (T.out.blk 0 rfl) Try.underlying50 rfl (by kernel_rfl)) rfl ⟨?_, T.out.bel⟩
        rw [HE.out.1, HE.out.2.1, HE.out.2.2]; rfl
      · clear T x0 x1 x2 z0 z1 z2
        have HN := Lib.hid (show udpE zs = if wordAt zs 2 = 0 then 92 else 0 by unfold udpE; rw [HL.out, if_neg h8, if_neg (by omega)])
        go_wp2_with fail
        refine (r9at_any A n c zs 2 2 _ ((R.out.below H2.out.bel).more H2.out.size) hz hn rfl (by omega)).mono ?_
        rintro e w3 ⟨rfl, m3, h3⟩
        have H3 := Lib.hid (h3 ▸ H2.out.drewN m3)
        clear h3 H2
        by_cases h3 : wordAt zs 2 = 0
        · have t3 : (wordAt zs 2 == 0) = true := by rw [h3]; rfl
          have hE : udpE zs = 92 := by rw [HN.out, if_pos h3]
          have hu : uhd zs = uhd0 := by unfold uhd; rw [if_neg (by rw [hE]; decide)]
          have ht : udpTo zs = 0 := by unfold udpTo; rw [if_neg (by rw [hE]; decide)]
          have HE := Lib.hid (And.intro hE (And.intro hu ht))
          clear hE hu ht h8 h3
          have x0 : w3.cell? ⟨w.heap.size, 0, none⟩ = some (.int .u16 0) := H3.out.cell 0 rfl 0 rfl
          have x1 : w3.cell? ⟨w.heap.size, 1, none⟩ = some (.int .u16 0) := H3.out.cell 0 rfl 1 rfl
          have x2 : w3.cell? ⟨w.heap.size, 2, none⟩ = some (.bool false) := H3.out.cell 0 rfl 2 rfl
          have z0 := H3.out.free 0 rfl 0
          have z1 := H3.out.free 0 rfl 1
          have z2 := H3.out.free 0 rfl 2
          have T := Lib.hid (((H3.out.setB 0 rfl 0 (.int .u16 0)).setB 0 rfl 1 (.int .u16 0)).setB 0 rfl 2 (.bool false))
          go_wp2_with fail
          refine bodyPost_ret (results_cell_tmp2 rfl _ _ w.heap.size 50 _ _ _ rfl (T.out.blk 0 rfl) Try.underlying50 rfl (by kernel_rfl)) rfl ⟨?_, T.out.bel⟩
          rw [HE.out.1, HE.out.2.1, HE.out.2.2]; rfl
        · have t3 : (wordAt zs 2 == 0) = false := by simp [h3]
          have hE : udpE zs = 0 := by rw [HN.out, if_neg h3]
          have hu : uhd zs = uhd1 zs := by unfold uhd; rw [if_pos hE]
          have ht : udpTo zs = wordAt zs 4 := by unfold udpTo; rw [if_pos hE]
          have HE := Lib.hid (And.intro hE (And.intro hu ht))
          obtain ⟨b1, b2⟩ := wordAt_bd9 hz 0
          obtain ⟨c1, c2⟩ := wordAt_bd9 hz 2
          obtain ⟨d1, d2⟩ := wordAt_bd9 hz 6
          have e1 : IntKind.u16.wrap (wordAt zs 0) = wordAt zs 0 := u16_in _ b1 b2
          have e2 : IntKind.u16.wrap (wordAt zs 2) = wordAt zs 2 := u16_in _ c1 c2
          have e3 : decide (0 < wordAt zs 6) = (wordAt zs 6 != 0) := by rw [Bool.eq_iff_iff]; simp; omega
          clear hE hu ht h8 h3
          go_wp2_with fail
          refine (r9at_any A n c zs 0 0 _ ((R.out.below H3.out.bel).more H3.out.size) hz hn rfl (by omega)).mono ?_
          rintro e w4 ⟨rfl, m4, h4⟩
          have H4 := Lib.hid (h4 ▸ H3.out.drewN m4)
          clear h4 H3
          go_wp2_with fail
          refine (r9at_any A n c zs 2 2 _ ((R.out.below H4.out.bel).more H4.out.size) hz hn rfl (by omega)).mono ?_
          rintro e w5 ⟨rfl, m5, h5⟩
          have H5 := Lib.hid (h5 ▸ H4.out.drewN m5)
          clear h5 H4
          go_wp2_with fail
          refine (r9at_any A n c zs 6 6 _ ((R.out.below H5.out.bel).more H5.out.size) hz hn rfl (by omega)).mono ?_
          rintro e w6 ⟨rfl, m6, h6⟩
          have H6 := Lib.hid (h6 ▸ H5.out.drewN m6)
          clear h6 H5
          have x0 : w6.cell? ⟨w.heap.size, 0, none⟩ = some (.int .u16 0) := H6.out.cell 0 rfl 0 rfl
          have x1 : w6.cell? ⟨w.heap.size, 1, none⟩ = some (.int .u16 0) := H6.out.cell 0 rfl 1 rfl
          have x2 : w6.cell? ⟨w.heap.size, 2, none⟩ = some (.bool false) := H6.out.cell 0 rfl 2 rfl
          have z0 := H6.out.free 0 rfl 0
          have z1 := H6.out.free 0 rfl 1
          have z2 := H6.out.free 0 rfl 2
          have T := Lib.hid (((H6.out.setB 0 rfl 0 (.int .u16 (wordAt zs 0))).setB 0 rfl 1 (.int .u16 (wordAt zs 2))).setB 0 rfl 2 (.bool (wordAt zs 6 != 0)))
          clear H6
          go_wp2_with fail
          refine bodyPost_ret (results_cell_tmp2 rfl _ _ w.heap.size 50 _ _ _ rfl (T.out.blk 0 rfl) Try.underlying50 rfl (by kernel_rfl)) rfl ⟨?_, T.out.bel⟩
          rw [HE.out.1, HE.out.2.1, HE.out.2.2]; rfl

set_option maxHeartbeats 4000000 in
set_option maxRecDepth 100000 in
theorem r9Verify_any (A : Option Addr) (n c : Nat) (zs : List Int) (s d : Int) (w : World) (h : RD .u8 w w.heap.size A n zs) (hz : BD 255 zs) (hn : n ≤ 140737488355328) (hc : n ≤ c) (hs : 0 ≤ s) (hs' : s ≤ 4294967295) (hd : 0 ≤ d) (hd' : d ≤ 4294967295) :
    Calls Try.prog 23 #[.slice A n c, .int .u32 s, .int .u32 d] w fun e w' => e = .returned (.tuple #[.bool (udpV zs s d), .int .i64 (udpE zs)]) ∧ Below w.heap.size w w' := by
  have hl := h.len
  have R := Lib.hid h
  have S0 := SP.start w
  clear h
  by_cases hE : udpE zs = 0
  · obtain ⟨q1, q2, q3, q4, q5, q6, q7⟩ := udpE_ok hE
    rw [hl] at q1 q3 q7
    have hu : uhd zs = uhd1 zs := by unfold uhd; rw [if_pos hE]
    have ht : udpTo zs = (udpN zs : Int) := by unfold udpTo; rw [if_pos hE]; exact q5.symm
    have hV : udpV zs s d = udpRight zs s d := by unfold udpV; rw [hE]; rfl
    have HH := Lib.hid (And.intro hu (And.intro ht (And.intro hV hE)))
    have H5 := Lib.hid q5
    have hN : (udpN zs : Int) ≤ 65535 := by have := (wordAt_bd9 hz 4).2; omega
    have e1 : IntKind.i64.wrap s = s := IntWalk.i64_in _ (by omega)
    have e2 : IntKind.i64.wrap d = d := IntWalk.i64_in _ (by omega)
    clear hu ht hV hE q2 q3 q4 q5 hl
    go_enter Try.func23, Try.ntmps23
    go_wp2_with fail
    refine (r9Read_any A n c zs _ R.out hz hn).mono ?_
    rintro e w2 ⟨rfl, hb2⟩
    rw [HH.out.1, HH.out.2.1, HH.out.2.2.2]
    have H2 := Lib.hid (S0.next hb2)
    clear hb2 S0
    unfold uhd1
    go_wp2_with fail
    have H3 := Lib.hid (H2.out.next ((Below.refl _ w2).alloc (Nat.le_refl _) (.cells #[.int .u16 (wordAt zs 0), .int .u16 (wordAt zs 2), .bool (wordAt zs 6 != 0)] 50)))
    generalize hw3 : w2.alloc (.cells #[.int .u16 (wordAt zs 0), .int .u16 (wordAt zs 2), .bool (wordAt zs 6 != 0)] 50) = w3 at H3 ⊢
    clear hw3 H2
    refine (r9at_any A n c zs 6 6 _ ((R.out.below H3.out.bel).more H3.out.size) hz hn rfl (by omega)).mono ?_
    rintro e w4 ⟨rfl, m4, h4⟩
    have H4 := Lib.hid (h4 ▸ H3.out.drewN m4)
    clear h4 H3
    by_cases h6 : wordAt zs 6 = 0
    · have t6 : (wordAt zs 6 == 0) = true := by rw [h6]; rfl
      have hR : Hid (udpRight zs s d = true) := Lib.hid (by unfold udpRight; rw [t6]; rfl)
      clear h6
      go_wp2_with fail
      go_ret2
      exact ⟨by rw [HH.out.2.2.1, HH.out.2.2.2, hR.out]; rfl, H4.out.bel⟩
    · have t6 : (wordAt zs 6 == 0) = false := by simp [h6]
      have hR : Hid (udpRight zs s d = (65535 - stepJ (udpPs zs s d) (sumOf (zs.take (udpN zs))) == 0)) := Lib.hid (by unfold udpRight; rw [t6]; rfl)
      clear h6
      have hps : 0 ≤ udpPs zs s d ∧ udpPs zs s d ≤ 65535 := foldJ_bd _ (by omega) (by omega) (fun y hy => by have := wordAt_bd9 hz 4; simp at hy; omega)
      obtain ⟨p1, p2⟩ := hps
      go_wp2_with fail
      refine (rPseudo_any s d 17 (udpN zs) _ hs hs' hd hd' (by omega) (by omega) (by omega) hN).mono ?_
      rintro e w5 ⟨rfl, rfl⟩
      rw [show foldJ 0 [s / 65536, s % 65536, d / 65536, d % 65536, 17, (udpN zs : Int)] = udpPs zs s d by unfold udpPs; rw [H5.out]]
      have i1 : (0 : Int) ≤ (udpN zs : Int) := by omega
      have i2 : (udpN zs : Int) ≤ (c : Int) := by omega
      go_wp2_with fail
      refine (rOver_any (udpPs zs s d) p1 p2 A (udpN zs) c (zs.take (udpN zs)) _ (((R.out.below H4.out.bel).more H4.out.size).take q7) (hz.take _) (by omega)).mono ?_
      rintro e w6 ⟨rfl, rfl⟩
      go_wp2_with fail
      go_ret2
      exact ⟨by rw [HH.out.2.2.1, HH.out.2.2.2, hR.out]; rfl, H4.out.bel⟩
  · have hu : uhd zs = uhd0 := by unfold uhd; rw [if_neg hE]
    have ht : udpTo zs = 0 := by unfold udpTo; rw [if_neg hE]
    have hV : udpV zs s d = false := by unfold udpV; simp [hE]
    have t1 : (udpE zs != 0) = true := by simp [hE]
    have HH := Lib.hid (And.intro hu (And.intro ht hV))
    clear hu ht hV hE hl
    go_enter Try.func23, Try.ntmps23
    go_wp2_with fail
    refine (r9Read_any A n c zs _ R.out hz hn).mono ?_
    rintro e w2 ⟨rfl, hb2⟩
    rw [HH.out.1, HH.out.2.1]
    have H2 := Lib.hid ((S0.next hb2).next ((Below.refl _ w2).alloc (Nat.le_refl _) (.cells uhd0 50)))
    clear hb2 S0
    unfold uhd0
    go_wp2_with fail
    go_ret2
    exact ⟨by rw [HH.out.2.2]; rfl, H2.out.bel⟩

set_option maxHeartbeats 4000000 in
set_option maxRecDepth 100000 in
theorem r9Turn_any (A : Option Addr) (n c : Nat) (zs : List Int) (w : World) (h : RD .u8 w w.heap.size A n zs) (hz : BD 255 zs) (hn : n ≤ 140737488355328) (hc : n ≤ c) :
    Calls Try.prog 24 #[.slice A n c] w fun e w' => ∃ A' n' c', e = .returned (.tuple #[.slice A' n' c', .int .i64 (udpTE zs)]) ∧ OWN .u8 5 w' w.heap.size A' n' c' (udpTB zs) ∧ Below w.heap.size w w' := by
  obtain ⟨i0, hi, hz0, hz1, hz2⟩ := info_parts infoU8
  have hl := h.len
  have R := Lib.hid h
  have S0 := SP.start w
  clear h
  by_cases hE : udpE zs = 0
  · obtain ⟨q1, q2, q3, q4, q5, q6, q7⟩ := udpE_ok hE
    rw [hl] at q1 q3 q7
    have hu : uhd zs = uhd1 zs := by unfold uhd; rw [if_pos hE]
    have ht : udpTo zs = (udpN zs : Int) := by unfold udpTo; rw [if_pos hE]; exact q5.symm
    have HH := Lib.hid (And.intro hu (And.intro ht hE))
    have hN : (udpN zs : Int) ≤ 65535 := by have := (wordAt_bd9 hz 4).2; omega
    have hw0 := wordAt_bd9 hz 0
    clear hu ht hE q2 q3 q4 q5 hl
    go_enter Try.func24, Try.ntmps24
    go_wp2_with fail
    refine (r9Read_any A n c zs _ R.out hz hn).mono ?_
    rintro e w2 ⟨rfl, hb2⟩
    rw [HH.out.1, HH.out.2.1, HH.out.2.2]
    have H3 := Lib.hid ((S0.next hb2).alloc 50 (uhd1 zs))
    clear hb2 S0
    unfold uhd1
    go_upto_region 2 with fail
    rw [show w2.alloc (.cells #[.int .u16 (wordAt zs 0), .int .u16 (wordAt zs 2), .bool (wordAt zs 6 != 0)] 50) = w2.alloc (.cells (uhd1 zs) 50) from rfl]
    generalize hw3 : w2.alloc (.cells (uhd1 zs) 50) = w3 at H3 ⊢
    clear hw3
    have x0 : w3.cell? ⟨w2.heap.size, 0, none⟩ = some (.int .u16 (wordAt zs 0)) := H3.out.cell 0 rfl 0 rfl
    by_cases h0 : 0 < wordAt zs 0
    · have t0 : (wordAt zs 0 == 0) = false := by simp; omega
      have HT := Lib.hid (show udpTE zs = 0 ∧ udpTB zs = turnU zs from ⟨by unfold udpTE; rw [if_pos HH.out.2.2, if_pos h0], by unfold udpTB; rw [if_pos ⟨HH.out.2.2, h0⟩]⟩)
      have R3 := (R.out.below H3.out.bel).more H3.out.size
      have R3H := Lib.hid R3
      obtain ⟨b, off, rfl, hb, hcell⟩ := R3.2 (by omega)
      have y0 : w3.cell? ⟨b, off, none⟩ = some (.int .u8 (zs[0]?.getD 0)) := hcell 0 (by omega)
      have y1 : w3.cell? ⟨b, off + 1, none⟩ = some (.int .u8 (zs[1]?.getD 0)) := hcell 1 (by omega)
      have y2 : w3.cell? ⟨b, off + 2, none⟩ = some (.int .u8 (zs[2]?.getD 0)) := hcell 2 (by omega)
      have y3 : w3.cell? ⟨b, off + 3, none⟩ = some (.int .u8 (zs[3]?.getD 0)) := hcell 3 (by omega)
      have i0' : 0 < n := by omega
      have i1 : (1 : Int) < (n : Int) := by omega
      have i2 : (2 : Int) < (n : Int) := by omega
      have i3 : (3 : Int) < (n : Int) := by omega
      clear hcell R3 h0 hw0
      go_wp2_with fail
      go_region_held3 (fun W' => W'.cell? ⟨b, off, none⟩ = some (.int .u8 (zs[0]?.getD 0)) ∧ W'.cell? ⟨b, off + 1, none⟩ = some (.int .u8 (zs[1]?.getD 0)) ∧ W'.cell? ⟨b, off + 2, none⟩ = some (.int .u8 (zs[2]?.getD 0)) ∧ W'.cell? ⟨b, off + 3, none⟩ = some (.int .u8 (zs[3]?.getD 0))) (go_keep) (fail)
      have H4 := Lib.hid (H3.out.drew.allocI' .u8 5 [zs[2]?.getD 0, zs[3]?.getD 0, zs[0]?.getD 0, zs[1]?.getD 0] (by simp only [List.length_cons, List.length_nil, maxLen]; omega) (N := w3.heap.size) rfl)
      have sl := fun W => run_slice_lohi (P := Try.prog) W Try.underlying22 hi hz1 (some ⟨b, off, none⟩) n c 4 (udpN zs) 4 (udpN zs) rfl rfl (by omega) (by omega)
      have rm := R3H.out.mid (c := c) (lo := 4) (hi := udpN zs) (by omega) q7 hc
      have rm' := (R3H.out.later ((((Below.refl _ w3).drew).alloc (Nat.le_refl _) (.cells #[.int .u8 (zs[2]?.getD 0), .int .u8 (zs[3]?.getD 0), .int .u8 (zs[0]?.getD 0), .int .u8 (zs[1]?.getD 0)] 5)))).mid (c := c) (lo := 4) (hi := udpN zs) (by omega) q7 hc
      clear x0 y0 y1 y2 y3 i0' i1 i2 i3 rm
      have HRM := Lib.hid rm'
      clear rm'
      go_wp2_with (at_builtin; refine wpList_append_rd _ rfl _ _ _ rfl .u8 w.heap.size 5 i0 1 Try.underlying22 hi hz0 hz1 hz2 (some ⟨w3.heap.size, 0, none⟩) 4 4 [zs[2]?.getD 0, zs[3]?.getD 0, zs[0]?.getD 0, zs[1]?.getD 0] rfl (H4.out.own 1 rfl) _ (cutA (some ⟨b, off, none⟩) c 4) (udpN zs - 4) (c - 4) ((zs.drop 4).take (udpN zs - 4)) rfl HRM.out (by simp only [maxLen]; omega) (by omega) H4.out.size ?_; intro A5 c5 w5 happ; have H5 := Lib.hid (H4.out.app 1 rfl happ); clear happ)
      go_ret2
      refine ⟨A5, _, c5, by rw [HT.out.1]; rfl, ?_, H5.out.bel⟩
      rw [HT.out.2]
      have := H5.out.own 1 rfl
      have e : [zs[2]?.getD 0, zs[3]?.getD 0, zs[0]?.getD 0, zs[1]?.getD 0] ++ (zs.drop 4).take (udpN zs - 4) = turnU zs := by
        have hl := R.out.len
        unfold turnU
        match zs, hl with
        | a :: b :: c :: d :: l, _ =>
          have e2 : udpN (a :: b :: c :: d :: l) = (udpN (a :: b :: c :: d :: l) - 4) + 1 + 1 + 1 + 1 := by omega
          rw [e2]
          simp
        | [], hl => simp at hl; omega
        | [_], hl => simp at hl; omega
        | [_, _], hl => simp at hl; omega
        | [_, _, _], hl => simp at hl; omega
      rwa [e] at this
    · have h0' : wordAt zs 0 = 0 := by omega
      have t0 : (wordAt zs 0 == 0) = true := by rw [h0']; rfl
      have HT := Lib.hid (show udpTE zs = 92 ∧ udpTB zs = [] from ⟨by unfold udpTE; rw [if_pos HH.out.2.2, if_neg h0], by unfold udpTB; rw [if_neg (fun hh => h0 hh.2)]⟩)
      clear h0 h0' hw0
      go_wp2_with fail
      go_ret2
      exact ⟨none, 0, 0, by rw [HT.out.1]; rfl, by rw [HT.out.2]; exact OWN.nil, H3.out.bel⟩
  · have hu : uhd zs = uhd0 := by unfold uhd; rw [if_neg hE]
    have ht : udpTo zs = 0 := by unfold udpTo; rw [if_neg hE]
    have t1 : (udpE zs != 0) = true := by simp [hE]
    have HT := Lib.hid (show udpTE zs = udpE zs ∧ udpTB zs = [] from ⟨by unfold udpTE; rw [if_neg hE], by unfold udpTB; rw [if_neg (fun hh => hE hh.1)]⟩)
    have HH := Lib.hid (And.intro hu ht)
    clear hu ht hE hl
    go_enter Try.func24, Try.ntmps24
    go_wp2_with fail
    refine (r9Read_any A n c zs _ R.out hz hn).mono ?_
    rintro e w2 ⟨rfl, hb2⟩
    rw [HH.out.1, HH.out.2]
    have H2 := Lib.hid ((S0.next hb2).next ((Below.refl _ w2).alloc (Nat.le_refl _) (.cells uhd0 50)))
    clear hb2 S0
    unfold uhd0
    go_wp2_with fail
    go_ret2
    exact ⟨none, 0, 0, by rw [HT.out.1]; rfl, by rw [HT.out.2]; exact OWN.nil, H2.out.bel⟩

set_option maxHeartbeats 4000000 in
set_option maxRecDepth 100000 in
theorem r9Write_any (sp dp : Int) (ck : Bool) (s d : Int) (Ad : Option Addr) (dn dc : Nat) (data : List Int) (w : World) (h1 : 0 ≤ sp ∧ sp ≤ 65535) (h2 : 0 ≤ dp ∧ dp ≤ 65535) (hs : 0 ≤ s ∧ s ≤ 4294967295) (hd : 0 ≤ d ∧ d ≤ 4294967295)
    (rd : RD .u8 w w.heap.size Ad dn data) (bd : BD 255 data) (hdn : dn ≤ 140737488351232) :
    Calls Try.prog 27 #[.agg #[.int .u16 sp, .int .u16 dp, .bool ck], .int .u32 s, .int .u32 d, .slice Ad dn dc] w (UWroteP w (uwB sp dp ck s d data) (uwE dp dn)) := by
  have hl := rd.len
  by_cases hw : UWrong dp dn
  · have hB : uwB sp dp ck s d data = [] := by rw [uwB, hl, if_pos hw]
    have hE : uwE dp dn = 2 := by rw [uwE, if_pos hw]
    rw [hB, hE]
    by_cases h0 : dp = 0
    · have t0 : (dp == 0) = true := by simp [h0]
      clear hw h0 hl hB hE
      go_enter Try.func27, Try.ntmps27
      go_wp2_with fail
      go_ret2
      exact ⟨none, 0, 0, rfl, OWN.nil, (Below.refl _ _).alloc (Nat.le_refl _) _⟩
    · have t0 : (dp == 0) = false := by simp [h0]
      have t1 : (65515 : Int) < 8 + (dn : Int) := by rcases hw with h | h <;> omega
      clear hw h0 hl hB hE
      go_enter Try.func27, Try.ntmps27
      go_wp2_with fail
      go_ret2
      exact ⟨none, 0, 0, rfl, OWN.nil, (Below.refl _ _).alloc (Nat.le_refl _) _⟩
  · have hB : uwB sp dp ck s d data = uPkt sp dp ck s d data := by rw [uwB, hl, if_neg hw]
    have hE : uwE dp dn = 0 := by rw [uwE, if_neg hw]
    rw [hB, hE]
    obtain ⟨i0, hi, hz0, hz1, hz2⟩ := info_parts infoU8
    have DL := Lib.hid hl
    have t0 : (dp == 0) = false := by simp only [beq_eq_false_iff_ne, ne_eq]; intro h; exact hw (.inl h)
    have hdn' : dn ≤ 65507 := by rcases Nat.lt_or_ge 65507 dn with h | h; exact absurd (.inr h) hw; exact h
    have S := (SP.start w).alloc 50 #[.int .u16 sp, .int .u16 dp, .bool ck]
    have R := Lib.hid rd
    obtain ⟨sp0, sp1⟩ := h1
    obtain ⟨dp0, dp1⟩ := h2
    obtain ⟨s0, s1⟩ := hs
    obtain ⟨d0, d1⟩ := hd
    clear rd hw hl hB hE
    have t1 : ¬ (65515 : Int) < 8 + (dn : Int) := by omega
    have k1 : sp.tdiv 256 = sp / 256 := Int.tdiv_eq_ediv_of_nonneg sp0
    have k2 : IntKind.u16.wrap (sp / 256) = sp / 256 := u16_in _ (by omega) (by omega)
    have k3 : sp / 256 % 256 = sp / 256 := by omega
    have k4 : dp.tdiv 256 = dp / 256 := Int.tdiv_eq_ediv_of_nonneg dp0
    have k5 : IntKind.u16.wrap (dp / 256) = dp / 256 := u16_in _ (by omega) (by omega)
    have k6 : dp / 256 % 256 = dp / 256 := by omega
    have c1 : IntKind.u8.wrap (sp / 256) = sp / 256 := u8_in _ (by omega) (by omega)
    have c2 : IntKind.u8.wrap (sp % 256) = sp % 256 := u8_in _ (by omega) (by omega)
    have c3 : IntKind.u8.wrap (dp / 256) = dp / 256 := u8_in _ (by omega) (by omega)
    have c4 : IntKind.u8.wrap (dp % 256) = dp % 256 := u8_in _ (by omega) (by omega)
    have c5 : IntKind.u8.wrap ((8 + (dn : Int)) / 256) = (8 + (dn : Int)) / 256 := u8_in _ (by omega) (by omega)
    have c6 : IntKind.u8.wrap ((8 + (dn : Int)) % 256) = (8 + (dn : Int)) % 256 := u8_in _ (by omega) (by omega)
    go_enter Try.func27, Try.ntmps27
    go_upto_region 1 with fail
    generalize hW1 : w.alloc (.cells #[.int .u16 sp, .int .u16 dp, .bool ck] 50) = W1 at S ⊢
    clear hW1
    have f0 : W1.cell? ⟨w.heap.size, 0, none⟩ = some (.int .u16 sp) := S.cell 0 rfl 0 rfl
    have f1 : W1.cell? ⟨w.heap.size, 1, none⟩ = some (.int .u16 dp) := S.cell 0 rfl 1 rfl
    have H2 := Lib.hid (S.allocI' .u8 5 (uHead sp dp (8 + (dn : Int)) 0) (by simp only [head_len', maxLen]; omega) (N := W1.heap.size) rfl)
    clear S
    go_upto_region 5 with fail
    rw [show W1.alloc (.cells #[.int .u8 (sp / 256), .int .u8 (sp % 256), .int .u8 (dp / 256), .int .u8 (dp % 256), .int .u8 ((8 + (dn : Int)) / 256), .int .u8 ((8 + (dn : Int)) % 256), .int .u8 0, .int .u8 0] 5) = W1.alloc (.cells ((uHead sp dp (8 + (dn : Int)) 0).map (Value.int .u8)).toArray 5) from rfl]
    generalize hW2 : W1.alloc (.cells ((uHead sp dp (8 + (dn : Int)) 0).map (Value.int .u8)).toArray 5) = W2 at H2 ⊢
    clear hW2 f0 f1 c1 c2 c3 c4 c5 c6 k1 k2 k3 k4 k5 k6
    have own1 := H2.out.own 1 rfl
    have r' := (R.out.below H2.out.bel).more H2.out.size
    go_upto_region 6 with (at_builtin; refine wpList_append_rd _ rfl _ _ _ rfl .u8 w.heap.size 5 i0 1 Try.underlying22 hi hz0 hz1 hz2 (some ⟨W1.heap.size, 0, none⟩) 8 8 (uHead sp dp (8 + (dn : Int)) 0) rfl own1 _ Ad dn dc data rfl r' (by simp only [maxLen]; omega) (by omega) H2.out.size ?_; intro A2 c2 w3 happ; have S3 := H2.out.app 1 rfl happ; have x2 : w3.cell? ⟨w.heap.size, 2, none⟩ = some (.bool ck) := S3.cell 0 rfl 2 rfl; clear happ own1 r')
    have own3 := S3.own 1 rfl
    obtain ⟨g, rfl, hg1, hg2, hnc, hcm⟩ := own3.form (by omega)
    have HS3 := Lib.hid S3
    clear S3 H2 own3
    cases ck
    · go_wp2_with fail
      go_ret2
      exact ⟨_, _, c2, rfl, by unfold uPkt; rw [DL.out]; exact HS3.out.own 1 rfl, HS3.out.bel⟩
    · have hbd : BD 255 (uHead sp dp (8 + (dn : Int)) 0 ++ data) := (uHead_bd ⟨sp0, sp1⟩ ⟨dp0, dp1⟩ (by omega) (by omega)).append bd
      have hps : 0 ≤ wrPs s d (8 + (dn : Int)) ∧ wrPs s d (8 + (dn : Int)) ≤ 65535 := foldJ_bd _ (by omega) (by omega) (fun y hy => by simp at hy; omega)
      obtain ⟨p1, p2⟩ := hps
      have e1 : IntKind.i64.wrap s = s := IntWalk.i64_in _ (by omega)
      have e2 : IntKind.i64.wrap d = d := IntWalk.i64_in _ (by omega)
      go_wp2_with fail
      refine (rPseudo_any s d 17 (8 + (dn : Int)) _ s0 s1 d0 d1 (by omega) (by omega) (by omega) (by omega)).mono ?_
      rintro e w4 ⟨rfl, rfl⟩
      rw [show foldJ 0 [s / 65536, s % 65536, d / 65536, d % 65536, 17, 8 + (dn : Int)] = wrPs s d (8 + (dn : Int)) from rfl]
      clear x2 e1 e2
      go_wp2_with fail
      refine (rOver_any (wrPs s d (8 + (dn : Int))) p1 p2 _ (8 + dn) c2 (uHead sp dp (8 + (dn : Int)) 0 ++ data) _ (HS3.out.rd 1 rfl) hbd (by omega)).mono ?_
      rintro e w5 ⟨rfl, rfl⟩
      have hc := wrC_bd (data := data) ⟨sp0, sp1⟩ ⟨dp0, dp1⟩ (by rw [DL.out]; exact hdn') ⟨s0, s1⟩ ⟨d0, d1⟩ bd
      have hcE : neverZ (65535 - stepJ (wrPs s d (8 + (dn : Int))) (sumOf (uHead sp dp (8 + (dn : Int)) 0 ++ data))) = wrC sp dp s d data := by
        unfold wrC; rw [DL.out]
      obtain ⟨c, hcc⟩ : ∃ c, c = wrC sp dp s d data := ⟨_, rfl⟩
      rw [← hcc] at hc hcE
      have HC := Lib.hid hcc
      obtain ⟨q1, q2⟩ := hc
      clear hcc
      generalize 65535 - stepJ (wrPs s d (8 + (dn : Int))) (sumOf (uHead sp dp (8 + (dn : Int)) 0 ++ data)) = v at hcE ⊢
      have x0 := (HS3.out.own 1 rfl).cell (i := 6) (by omega)
      have x1 := (HS3.out.own 1 rfl).cell (i := 7) (by omega)
      have z0 := (HS3.out.own 1 rfl).frozen 6
      have z1 := (HS3.out.own 1 rfl).frozen 7
      have T := (HS3.out.setO 1 rfl 6 (c / 256)).setO 1 rfl 7 (c % 256)
      have e1 : IntKind.u8.wrap (c / 256) = c / 256 := u8_in _ (by omega) (by omega)
      have e2 : IntKind.u8.wrap (c % 256) = c % 256 := u8_in _ (by omega) (by omega)
      have i1 : (6 : Int) < 8 + (dn : Int) := by omega
      have i2 : (7 : Int) < 8 + (dn : Int) := by omega
      have HT := Lib.hid T
      clear T
      by_cases hv : v = 0
      · have tv : (v == 0) = true := by simp [hv]
        have hc5 : c = 65535 := by rw [← hcE]; unfold neverZ; rw [if_pos hv]
        subst hc5
        clear hv hcE
        go_wp2_with fail
        go_ret2
        refine ⟨_, _, c2, rfl, ?_, HT.out.bel⟩
        have := HT.out.own 1 rfl
        unfold uPkt
        rw [if_pos rfl, DL.out, ← HC.out]
        exact this
      · have tv : (v == 0) = false := by simp [hv]
        have hc5 : c = v := by rw [← hcE]; unfold neverZ; rw [if_neg hv]
        subst hc5
        clear hv hcE
        go_wp2_with fail
        go_ret2
        refine ⟨_, _, c2, rfl, ?_, HT.out.bel⟩
        have := HT.out.own 1 rfl
        unfold uPkt
        rw [if_pos rfl, DL.out, ← HC.out]
        exact this
end Go.Proofs.Ytnocbpagdoihmaa
