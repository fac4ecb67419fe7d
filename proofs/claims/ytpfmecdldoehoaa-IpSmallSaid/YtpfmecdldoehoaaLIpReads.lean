/- bafflelaw05.reads; the walk of IpReads. (Printed by gen_ipreads.py.) -/
import Derived.Test.YtpfmecdldoehoaaWRef5H
import Derived.Test.YtpfmecdldoehoaaWAwake5
import Derived.Test.YtpfmecdldoehoaaWSpA
import Derived.Test.YtpfmecdldoehoaaRow
namespace Go.Proofs.Ytpfmecdldoehoaa
open Go.RowKit
set_option linter.unusedVariables false
attribute [local go_sem ↓] Go.wp_at_zero Go.wp_at_succ

set_option maxHeartbeats 2000000 in
set_option maxRecDepth 100000 in
theorem reads5_any (A : Option Addr) (n c : Nat) (zs : List Int) (w : World) (h : RD .u8 w w.heap.size A n zs) (hz : BD 255 zs) (hn : n ≤ c) :
    Calls Try.prog 23 #[.slice A n c] w fun e w' => e = .returned (.bool true) ∧ Below w.heap.size w w' := by
  have HL := Lib.hid h.len
  have R := Lib.hid h
  have S0 := SP.start w
  clear h
  by_cases hbig : 400 < n
  · have t1 : (400 : Int) < (n : Int) := by omega
    go_enter Try.func23, Try.ntmps23
    go_wp2_with fail
    go_ret
    exact ⟨rfl, Below.refl _ _⟩
  · have t1 : ¬ (400 : Int) < (n : Int) := by omega
    have hc : n ≤ 140737488351232 := by omega
    have HWF := Lib.hid (hdR_wf hz)
    have HOL := Lib.hid (optsR_len (zs := zs))
    have HHL := Lib.hid (show (hopB zs).length ≤ n from by have := hopB_len (zs := zs); rw [HL.out] at this; exact this)
    have HTL := Lib.hid (show (turnB zs).length ≤ n from by have := turnB_len (zs := zs); rw [HL.out] at this; exact this)
    go_enter Try.func23, Try.ntmps23
    go_wp2_with fail
    refine (lent_any A n c zs w R.out hc).mono ?_
    rintro e w1 ⟨A1, n1, rfl, hn1, own1, hb1⟩
    obtain rfl : n = n1 := by rw [hn1, HL.out]
    clear hn1
    have own1' := own1.cut (m := n) (by omega)
    rw [List.take_left' HL.out] at own1'
    have H1 := Lib.hid (S0.pushOwn hb1 own1)
    have HC1 := Lib.hid own1'
    clear hb1 own1 own1' S0
    go_wp2_with fail
    refine (read_any A1 n (n + 12) zs _ HC1.out.rd hz (by omega) (by omega)).mono ?_
    rintro e w2 ⟨A2, n2, c2, rfl, own2, hb2⟩
    have hn2 := own2.len
    have hn2' : n2 ≤ 40 := by rw [← hn2]; exact HOL.out
    clear hn2
    have H2 := Lib.hid ((H1.out.pushOwn hb2 own2).alloc 30 ((hdR zs).cells (.slice A2 n2 c2)))
    have HC2 := Lib.hid ((HC1.out.below hb2).alloc (.cells ((hdR zs).cells (.slice A2 n2 c2)) 30))
    have hle2 := own2.le
    clear hb2 own2 H1 HC1
    unfold HD.val HD.cells
    go_upto_region 5 with fail
    rw [show w2.alloc (.cells #[.int .u8 (hdR zs).tos, .int .u16 (hdR zs).id, .bool (hdR zs).df, .bool (hdR zs).mf, .int .i64 (hdR zs).off, .int .u8 (hdR zs).ttl, .int .u8 (hdR zs).proto, .int .u32 (hdR zs).src, .int .u32 (hdR zs).dst, .slice A2 n2 c2] 30) = w2.alloc (.cells ((hdR zs).cells (.slice A2 n2 c2)) 30) from rfl]
    generalize hw3 : w2.alloc (.cells ((hdR zs).cells (.slice A2 n2 c2)) 30) = w3 at H2 HC2 ⊢
    clear hw3
    generalize w2.heap.size = N2 at H2 ⊢
    go_wp2_with fail
    refine (r5Read_any A n c zs _ ((R.out.below H2.out.bel).more H2.out.size) hz hn hc).mono ?_
    rintro e w4 ⟨A4, n4, c4, rfl, own4, hb4⟩
    have hn4 := own4.len
    have hn4' : n4 ≤ 40 := by rw [← hn4]; exact HOL.out
    clear hn4
    have H4 := Lib.hid ((H2.out.pushOwn hb4 own4).alloc 64 ((hdR zs).cells (.slice A4 n4 c4)))
    have HC4 := Lib.hid ((HC2.out.below hb4).alloc (.cells ((hdR zs).cells (.slice A4 n4 c4)) 64))
    clear hb4 own4 H2 HC2
    unfold HD.val HD.cells
    go_upto_region 6 with fail
    rw [show w4.alloc (.cells #[.int .u8 (hdR zs).tos, .int .u16 (hdR zs).id, .bool (hdR zs).df, .bool (hdR zs).mf, .int .i64 (hdR zs).off, .int .u8 (hdR zs).ttl, .int .u8 (hdR zs).proto, .int .u32 (hdR zs).src, .int .u32 (hdR zs).dst, .slice A4 n4 c4] 64) = w4.alloc (.cells ((hdR zs).cells (.slice A4 n4 c4)) 64) from rfl]
    generalize hw5 : w4.alloc (.cells ((hdR zs).cells (.slice A4 n4 c4)) 64) = w5 at H4 HC4 ⊢
    clear hw5
    generalize w4.heap.size = N4 at H4 ⊢
    go_wp2_with fail
    refine (hop_any A1 n (n + 12) zs _ HC4.out.rd hz (by omega) hc).mono ?_
    rintro e w6 ⟨A6, n6, c6, rfl, own6, hb6⟩
    have hn6 := own6.len
    have hn6' : n6 ≤ n := by rw [← hn6]; exact HHL.out
    clear hn6
    have hle6 := own6.le
    have H6 := Lib.hid (H4.out.pushOwn hb6 own6)
    have HC6 := Lib.hid (HC4.out.below hb6)
    clear hb6 own6 H4 HC4
    go_wp2_with fail
    refine (r5Hop_any A n c zs _ ((R.out.below H6.out.bel).more H6.out.size) hz hn hc).mono ?_
    rintro e w7 ⟨A7, n7, c7, rfl, own7, hb7⟩
    have hn7 := own7.len
    have hn7' : n7 ≤ n := by rw [← hn7]; exact HHL.out
    clear hn7
    have H7 := Lib.hid (H6.out.pushOwn hb7 own7)
    have HC7 := Lib.hid (HC6.out.below hb7)
    clear hb7 own7 H6 HC6
    go_wp2_with fail
    refine (turn_any A1 n (n + 12) zs _ HC7.out.rd hz (by omega) hc).mono ?_
    rintro e w8 ⟨A8, n8, c8, rfl, own8, hb8⟩
    have hn8 := own8.len
    have hn8' : n8 ≤ n := by rw [← hn8]; exact HTL.out
    clear hn8
    have hle8 := own8.le
    have H8 := Lib.hid (H7.out.pushOwn hb8 own8)
    clear hb8 own8 H7 HC7
    go_wp2_with fail
    refine (r5Turn_any A n c zs _ ((R.out.below H8.out.bel).more H8.out.size) hz hn hc).mono ?_
    rintro e w9 ⟨A9, n9, c9, rfl, own9, hb9⟩
    have hn9 := own9.len
    have hn9' : n9 ≤ n := by rw [← hn9]; exact HTL.out
    clear hn9
    have H9 := Lib.hid (H8.out.pushOwn hb9 own9)
    clear hb9 own9 H8
    obtain ⟨te, hte⟩ : ∃ x, x = ipE zs := ⟨_, rfl⟩
    obtain ⟨tf, htf⟩ : ∃ x, x = fromR zs := ⟨_, rfl⟩
    obtain ⟨tt, htt⟩ : ∃ x, x = toR zs := ⟨_, rfl⟩
    obtain ⟨th, hth⟩ : ∃ x, x = hopE zs := ⟨_, rfl⟩
    obtain ⟨HH, hHH⟩ : ∃ x, x = hdR zs := ⟨_, rfl⟩
    rw [← hHH] at H9
    rw [← hte, ← htf, ← htt, ← hth]
    clear hte htf htt hth hHH
    go_wp2_with (first | (refine wpList_load_row rfl 64 _ rfl N4 rfl 64 (HH.cells (.slice A4 n4 c4)) (0, 0) _ (H9.out.blk 4 rfl) Try.underlying64 rfl (by kernel_rfl) ?_) | (refine wpList_load_row rfl 30 _ rfl N2 rfl 30 (HH.cells (.slice A2 n2 c2)) (0, 0) _ (H9.out.blk 2 rfl) Try.underlying30 rfl (by kernel_rfl) ?_))
    refine (same5_yes HH A2 A4 n2 c2 n4 c4 (optsR zs) _ (H9.out.rd 1 rfl) (H9.out.rd 3 rfl) (by omega) (by omega)).mono ?_
    rintro e wa ⟨rfl, ha⟩
    have HA := Lib.hid (H9.out.next ha)
    clear ha H9
    go_wp2_with fail
    refine (same_any A6 A7 n6 c6 n7 c7 _ _ _ (HA.out.rd 5 rfl) (HA.out.rd 6 rfl) (by omega) (by omega)).mono ?_
    rintro e wb ⟨rfl, mb, hb⟩
    rw [show (hopB zs == hopB zs) = true by simp]
    have HB := Lib.hid (hb ▸ HA.out.drewN mb)
    clear hb HA
    go_wp2_with fail
    refine (same_any A8 A9 n8 c8 n9 c9 _ _ _ (HB.out.rd 7 rfl) (HB.out.rd 8 rfl) (by omega) (by omega)).mono ?_
    rintro e wc ⟨rfl, mc, hcc⟩
    rw [show (turnB zs == turnB zs) = true by simp]
    have HC := Lib.hid (hcc ▸ HB.out.drewN mc)
    clear hcc HB
    go_wp2_with fail
    refine (kept_any A1 n zs A c _ ((R.out.below HC.out.bel).more HC.out.size) (HC.out.rd 0 rfl) hc).mono ?_
    rintro e wd ⟨rfl, md, hd⟩
    have HD := Lib.hid (hd ▸ HC.out.drewN md)
    clear hd HC
    have f9 : wd.cell? ⟨N2, 9, none⟩ = some (.slice A2 n2 c2) := HD.out.cell 2 rfl 9 rfl
    go_wp2_with fail
    refine (sp_apart HD.out [0, 1, 5, 7] [⟨A1, n, n + 12⟩, ⟨A2, n2, c2⟩, ⟨A6, n6, c6⟩, ⟨A8, n8, c8⟩] (SPD.cons rfl (by omega) (by omega) (SPD.cons rfl (Nat.le_refl _) (by omega) (SPD.cons rfl (Nat.le_refl _) (by omega) (SPD.cons rfl (Nat.le_refl _) (by omega) SPD.nil)))) (by decide) (by simp) (by simp) 4 4 rfl).mono ?_
    rintro e we ⟨rfl, hbe⟩
    go_wp2_with fail
    go_ret
    exact ⟨rfl, HD.out.bel.trans hbe⟩

set_option maxHeartbeats 2000000 in
set_option maxRecDepth 100000 in
theorem ipReads_walk (A : Option Addr) (n c : Nat) (zs : List Int) (w : World) (h : ROW .u8 255 w A n c zs) :
    Calls Try.prog 8 #[.slice A n c] w fun e w' => e = .returned (.bool true) ∧ Below w.heap.size w w' := by
  go_enter Try.func8, Try.ntmps8
  go_wp2_with fail
  refine (reads5_any A n c zs w h.rd h.bd h.le).mono ?_
  rintro e w1 ⟨rfl, hb1⟩
  go_wp2_with fail
  refine (awake5_any _).mono ?_
  rintro e w2 ⟨rfl, hb2⟩
  go_wp2_with fail
  go_ret
  exact ⟨rfl, hb1.trans (hb2.mono hb1.size)⟩
end Go.Proofs.Ytpfmecdldoehoaa
