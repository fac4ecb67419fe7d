/- The walk of UdpTurned. (Printed by gen_udpturned.py.) -/
import Derived.Test.YtnocbpagdoihmaaWMade9
import Derived.Test.YtnocbpagdoihmaaWZeros
namespace Go.Proofs.Ytnocbpagdoihmaa
open Go.RowKit
set_option linter.unusedVariables false
attribute [local go_sem ↓] Go.wp_at_zero Go.wp_at_succ

set_option maxHeartbeats 8000000 in
set_option maxRecDepth 100000 in
theorem udpTurned_walk (fr tp : Int) (ck : Bool) (s d : Int) (A : Option Addr) (n c : Nat) (zs : List Int) (bh : Int) (w : World) (h : ROW .u8 255 w A n c zs) (hf : 0 ≤ fr ∧ fr ≤ 65535) (ht : 0 ≤ tp ∧ tp ≤ 65535) (hs : 0 ≤ s ∧ s ≤ 4294967295) (hd : 0 ≤ d ∧ d ≤ 4294967295) (hbh : 0 ≤ bh ∧ bh ≤ 255) :
    Calls Try.prog 8 #[.agg (sm6 fr tp ck s d (.slice A n c)), .int .u8 bh] w fun e w' => e = .returned (.bool true) ∧ Below w.heap.size w w' := by
  obtain ⟨i0, hi, hz0, hz1, hz2⟩ := info_parts infoU8
  have hz := h.bd
  have hnc := h.le
  have hcm := h.cap
  have hrd := h.rd
  have S0 := (SP.start w).alloc 37 (sm6 fr tp ck s d (.slice A n c))
  clear h
  go_enter Try.func8, Try.ntmps8
  unfold sm6
  go_upto_region 1 with fail
  rw [show w.alloc (.cells #[.int .u16 fr, .int .u16 tp, .bool ck, .int .u32 s, .int .u32 d, .slice A n c] 37) = w.alloc (.cells (sm6 fr tp ck s d (.slice A n c)) 37) from rfl]
  generalize hw1 : w.alloc (.cells (sm6 fr tp ck s d (.slice A n c)) 37) = w1 at S0 ⊢
  clear hw1
  go_wp2_with fail
  refine (awake9_any _).mono ?_
  rintro e w2 ⟨rfl, hb2⟩
  have H2 := Lib.hid (S0.next hb2)
  clear S0 hb2
  have b0 : w2.cell? ⟨w.heap.size, 0, none⟩ = some (.int .u16 fr) := H2.out.cell 0 rfl 0 rfl
  have b1 : w2.cell? ⟨w.heap.size, 1, none⟩ = some (.int .u16 tp) := H2.out.cell 0 rfl 1 rfl
  have b2 : w2.cell? ⟨w.heap.size, 2, none⟩ = some (.bool ck) := H2.out.cell 0 rfl 2 rfl
  have b3 : w2.cell? ⟨w.heap.size, 3, none⟩ = some (.int .u32 s) := H2.out.cell 0 rfl 3 rfl
  have b4 : w2.cell? ⟨w.heap.size, 4, none⟩ = some (.int .u32 d) := H2.out.cell 0 rfl 4 rfl
  have b5 : w2.cell? ⟨w.heap.size, 5, none⟩ = some (.slice A n c) := H2.out.cell 0 rfl 5 rfl
  go_wp2_with fail
  refine (made9_any fr tp ck s d A n c zs _ ((hrd.below H2.out.bel).more H2.out.size) hz hnc hcm ht).mono ?_
  rintro e w3 ⟨Ad, dn, dc, data, rfl, ownD, bd, hdn, hb3⟩
  clear b0 b1 b2 b3 b4 b5
  have hmt := max1_bd ht
  obtain ⟨mt, hmt'⟩ : ∃ mt, mt = max1 tp := ⟨_, rfl⟩
  rw [← hmt'] at hmt ⊢
  clear hmt' ht
  have hdl := ownD.len
  have hdc := ownD.le
  have rdd := ownD.rd
  have ok : UOK fr mt s d data := ⟨hf, by omega, by omega, hs, hd, bd⟩
  have H3 := Lib.hid (H2.out.next hb3)
  have OK := Lib.hid ok
  have hBox := Lib.hid (H3.out.blk 0 rfl)
  have hbw := H3.out.bel
  have HDL := Lib.hid hdl
  have hwr : ¬ UWrong mt dn := by unfold UWrong; omega
  have hm0 : mt ≠ 0 := by omega
  have S := (SP.start w3).alloc 28 (uh3 fr mt ck)
  clear H2 H3 hb3 ownD hdl ok hf hrd hz hnc hcm
  unfold uh3
  go_upto_region 4 with fail
  rw [show w3.alloc (.cells #[.int .u16 fr, .int .u16 mt, .bool ck] 28) = w3.alloc (.cells (uh3 fr mt ck) 28) from rfl]
  generalize hw4 : w3.alloc (.cells (uh3 fr mt ck) 28) = w4 at S ⊢
  clear hw4
  have H4 := Lib.hid S
  clear S
  have f0 : w4.cell? ⟨w3.heap.size, 0, none⟩ = some (.int .u16 fr) := H4.out.cell 0 rfl 0 rfl
  have f1 : w4.cell? ⟨w3.heap.size, 1, none⟩ = some (.int .u16 mt) := H4.out.cell 0 rfl 1 rfl
  have f2 : w4.cell? ⟨w3.heap.size, 2, none⟩ = some (.bool ck) := H4.out.cell 0 rfl 2 rfl
  have HB4 := Lib.hid (hBox.out.below H4.out.bel hBox.out.lt)
  have b3 : w4.cell? ⟨w.heap.size, 3, none⟩ = some (.int .u32 s) := HB4.out.cell 3
  have b4 : w4.cell? ⟨w.heap.size, 4, none⟩ = some (.int .u32 d) := HB4.out.cell 4
  have hEE := Lib.hid (show uwE mt dn = 0 by unfold uwE; rw [if_neg hwr])
  have hBB := Lib.hid (show uwB fr mt ck s d data = uPkt fr mt ck s d data by unfold uwB; rw [if_neg (by rw [HDL.out]; exact hwr)])
  go_wp2_with fail
  refine (uwrite_any fr mt ck s d Ad dn dc data _ OK.out.sp OK.out.dp hs hd ((rdd.below H4.out.bel).more H4.out.size) bd (by omega)).mono ?_
  rintro e w5 ⟨A5, n5, c5, rfl, own5, hb5⟩
  rw [hEE.out]
  rw [hBB.out] at own5
  have hn5 := own5.len
  rw [uPkt_len, HDL.out] at hn5
  subst hn5
  have hle5 := own5.le
  obtain ⟨g5, rfl, hg5, _⟩ := own5.form (by omega)
  have H5 := Lib.hid (H4.out.pushOwn hb5 own5)
  clear own5 hb5 f0 f1 f2 b3 b4 H4 HB4 hEE hBB hwr
  obtain ⟨m, hm⟩ : ∃ m : Nat, bh % 9 = (m : Int) := ⟨(bh % 9).toNat, by omega⟩
  have hm9 : m ≤ 8 := by omega
  have p1 : (0 : Int) ≤ 8 + (dn : Int) := by omega
  have p2 : 8 + (dn : Int) ≤ (c5 : Int) := by omega
  have f0 : w5.cell? ⟨w3.heap.size, 0, none⟩ = some (.int .u16 fr) := H5.out.cell 0 rfl 0 rfl
  have r5 := H5.out.rd 1 rfl
  obtain ⟨hb0, hb1⟩ := hbh
  go_wp2_with (at_builtin; refine wpList_append_zeros_any _ rfl _ _ _ _ rfl 5 i0 .u8 Try.underlying22 Try.underlying5 hi hz0 hz1 hz2 ⟨g5, 0, none⟩ (8 + dn) m _ hm _ rfl rfl r5 (by omega) ?_; intro A6 c6 w6 rd6 hc6 hc6' hb6; have H6 := Lib.hid (H5.out.next hb6); clear f0 r5 H5 hb6)
  have hbd6 : BD 255 (uPkt fr mt ck s d data ++ List.replicate m 0) := (uPkt_bd OK.out).append (fun x hx => by have := List.eq_of_mem_replicate hx; omega)
  have hdE : (data.length : Int) = (dn : Int) := by rw [HDL.out]
  have HDE := Lib.hid hdE
  obtain ⟨s0, s1⟩ := hs
  obtain ⟨d0, d1⟩ := hd
  clear hdE hm hb0 hb1
  by_cases hf0 : fr = 0
  · obtain ⟨tE, tB⟩ := turned_none (ck := ck) OK.out hf0 hm0 (List.replicate m 0)
    have HT := Lib.hid (And.intro tE tB)
    have tf : (fr == 0) = true := by simp [hf0]
    clear tE tB hf0
    refine (uturn_any A6 _ c6 _ _ rd6 hbd6 (by omega) hc6).mono ?_
    rintro e w7 ⟨A7, n7, c7, rfl, own7, hb7⟩
    rw [HT.out.1]
    rw [HT.out.2] at own7
    have hn7 : 0 = n7 := own7.len
    subst hn7
    have H7 := Lib.hid (H6.out.pushOwn hb7 own7)
    have f0 : w7.cell? ⟨w3.heap.size, 0, none⟩ = some (.int .u16 fr) := H7.out.cell 0 rfl 0 rfl
    clear own7 hb7 rd6
    go_wp2_with fail
    go_ret
    exact ⟨rfl, hbw.trans (H7.out.bel.mono hbw.size)⟩
  · obtain ⟨tE, T⟩ := turned_pkt (ck := ck) OK.out hf0 hm0 (List.replicate m 0)
    have tf : (fr == 0) = false := by simp [hf0]
    obtain ⟨t, ht⟩ : ∃ t, t = udpTB (uPkt fr mt ck s d data ++ List.replicate m 0) := ⟨_, rfl⟩
    rw [← ht] at T
    have HT := Lib.hid ht
    have HE := Lib.hid tE
    have TT := Lib.hid T
    clear ht tE T hf0
    refine (uturn_any A6 _ c6 _ _ rd6 hbd6 (by omega) hc6).mono ?_
    rintro e w7 ⟨A7, n7, c7, rfl, own7, hb7⟩
    rw [HE.out]
    rw [← HT.out] at own7
    have hn7 := own7.len
    rw [TT.out.len, HDL.out] at hn7
    subst hn7
    obtain ⟨g7, rfl, hg7, _⟩ := own7.form (by omega)
    have hle7 := own7.le
    have H7 := Lib.hid (H6.out.pushOwn hb7 own7)
    have f0 : w7.cell? ⟨w3.heap.size, 0, none⟩ = some (.int .u16 fr) := H7.out.cell 0 rfl 0 rfl
    clear own7 hb7 rd6 H6 hbd6
    go_wp2_with fail
    refine (uread_any _ _ c7 t _ (H7.out.rd 2 rfl) TT.out.bd (by omega) hle7.1).mono ?_
    rintro e w8 ⟨rfl, hb8⟩
    rw [TT.out.hd, TT.out.tt, TT.out.E, HDE.out]
    have H8 := Lib.hid ((H7.out.next hb8).alloc 28 (uh3 mt fr ck))
    clear hb8 H7 f0
    go_upto_region 11 with fail
    rw [show w8.alloc (.cells #[.int .u16 mt, .int .u16 fr, .bool ck] 28) = w8.alloc (.cells (uh3 mt fr ck) 28) from rfl]
    generalize hw9 : w8.alloc (.cells (uh3 mt fr ck) 28) = w9 at H8 ⊢
    clear hw9
    go_wp2_with fail
    refine (uturn_any _ _ c7 t _ (H8.out.rd 2 rfl) TT.out.bd (by omega) hle7.1).mono ?_
    rintro e wa ⟨Aa, na, ca, rfl, owna, hba⟩
    rw [TT.out.againE]
    rw [TT.out.again] at owna
    have hna := owna.len
    rw [uPkt_len, HDL.out] at hna
    subst hna
    have hlea := owna.le
    have HA := Lib.hid (H8.out.pushOwn hba owna)
    clear owna hba H8
    have sl1 := fun W => run_slice_lo (P := Try.prog) W Try.underlying22 hi hz1 (some ⟨g7, 0, none⟩) (8 + dn) c7 4 4 rfl (by omega)
    have sl2 := fun W => run_slice_lo (P := Try.prog) W Try.underlying22 hi hz1 (some ⟨g5, 0, none⟩) (8 + dn) c5 4 4 rfl (by omega)
    go_wp2_with fail
    go_region_held3 (fun _ => True) (trivial) (first
      | (go_at_call 17; refine (same_any _ _ _ _ _ _ _ _ _ ((HBs.out.rd 2 rfl).cutA (c := c7) (lo := 4) (by omega) hle7.1) ((HBs.out.rd 1 rfl).cutA (c := c5) (lo := 4) (by omega) hle5.1) (by omega) (by omega)).mono ?_
         rintro e wc ⟨rfl, mc, hc⟩
         rw [show (t.drop 4 == (uPkt fr mt ck s d data).drop 4) = true by rw [TT.out.rest]; simp]
         have HC := Lib.hid (hc ▸ HBs.out.drewN mc)
         clear hc)
      | (go_at_call 17; refine (same_any Aa (some ⟨g5, 0, none⟩) (8 + dn) ca (8 + dn) c5 _ _ _ (HA.out.drew.rd 4 rfl) (HA.out.drew.rd 1 rfl) (by omega) (by omega)).mono ?_
         rintro e wb ⟨rfl, mb, hb⟩
         rw [show (uPkt fr mt ck s d data == uPkt fr mt ck s d data) = true by simp]
         have HBs := Lib.hid (hb ▸ HA.out.drew.drewN mb)
         clear hb))
    clear sl1 sl2 HA HBs
    have f0 : wc.cell? ⟨w3.heap.size, 0, none⟩ = some (.int .u16 fr) := HC.out.cell 0 rfl 0 rfl
    have f1 : wc.cell? ⟨w3.heap.size, 1, none⟩ = some (.int .u16 mt) := HC.out.cell 0 rfl 1 rfl
    have f2 : wc.cell? ⟨w3.heap.size, 2, none⟩ = some (.bool ck) := HC.out.cell 0 rfl 2 rfl
    have k0 : wc.cell? ⟨w8.heap.size, 0, none⟩ = some (.int .u16 mt) := HC.out.cell 3 rfl 0 rfl
    have k1 : wc.cell? ⟨w8.heap.size, 1, none⟩ = some (.int .u16 fr) := HC.out.cell 3 rfl 1 rfl
    have k2 : wc.cell? ⟨w8.heap.size, 2, none⟩ = some (.bool ck) := HC.out.cell 3 rfl 2 rfl
    have HBox := Lib.hid (hBox.out.below HC.out.bel hBox.out.lt)
    have b3 : wc.cell? ⟨w.heap.size, 3, none⟩ = some (.int .u32 s) := HBox.out.cell 3
    have b4 : wc.cell? ⟨w.heap.size, 4, none⟩ = some (.int .u32 d) := HBox.out.cell 4
    go_wp2_with fail
    refine (verified_any _ _ c7 t s d _ (HC.out.rd 2 rfl) TT.out.bd (by omega) hle7.1 s0 s1 d0 d1).mono ?_
    rintro e wd ⟨rfl, hbd⟩
    rw [TT.out.V]
    have HD := Lib.hid (HC.out.next hbd)
    have HBox2 := Lib.hid (HBox.out.below hbd HBox.out.lt)
    clear f0 f1 f2 k0 k1 k2 b3 b4 hbd HC HBox
    have b3 : wd.cell? ⟨w.heap.size, 3, none⟩ = some (.int .u32 s) := HBox2.out.cell 3
    have b4 : wd.cell? ⟨w.heap.size, 4, none⟩ = some (.int .u32 d) := HBox2.out.cell 4
    go_wp2_with fail
    refine (verified_any _ _ c7 t d s _ (HD.out.rd 2 rfl) TT.out.bd (by omega) hle7.1 d0 d1 s0 s1).mono ?_
    rintro e we ⟨rfl, hbe⟩
    rw [TT.out.V']
    have HEN := Lib.hid (HD.out.next hbe)
    clear b3 b4 hbe HD
    go_wp2_with fail
    go_ret
    exact ⟨rfl, hbw.trans (HEN.out.bel.mono hbw.size)⟩
end Go.Proofs.Ytnocbpagdoihmaa
