/- baffleref05.Read. (Printed by gen_ref5read.py.) -/
import Derived.Test.YtljbfnabnkkfeaaWRef5R
import Derived.Test.YtljbfnabnkkfeaaWRef5
import Derived.Test.YtljbfnabnkkfeaaBase
import Derived.Deep.DrawnRows
import Derived.Deep.RegionHeld3
import Derived.Deep.RegionLaw
import Derived.Deep.DeepCutAuto
import Derived.Test.YtljbfnabnkkfeaaWBase
import Derived.Test.YtljbfnabnkkfeaaLIpWr
namespace Go.Proofs.Ytljbfnabnkkfeaa
open Go.RowKit
set_option linter.unusedVariables false
attribute [local go_sem ↓] Go.wp_at_zero Go.wp_at_succ

theorem zcells_one : (HD.zero.cells (.slice none 0 0)).all (·.oneCell') = true := by
  unfold HD.cells
  simp [Value.oneCell']
theorem hdcells_one (H : HD) (A : Option Addr) (n c : Nat) : (H.cells (.slice A n c)).all (·.oneCell') = true := by
  unfold HD.cells
  simp [Value.oneCell']
theorem bad_sum {zs : List Int} (h : 20 ≤ zs.length) (h1 : byteAt zs 0 / 16 = 4) (h2 : 20 ≤ sizeR zs ∧ sizeR zs ≤ zs.length) (h3 : sizeR zs ≤ totalR zs ∧ totalR zs ≤ zs.length) (h4 : sumOf (zs.take (sizeR zs)) ≠ 65535) : faultR zs = 4 := by
  unfold faultR; rw [if_neg (by omega), if_neg (by omega), if_neg (by omega), if_neg (by omega), if_pos h4]
theorem bad_flags {zs : List Int} (h : 20 ≤ zs.length) (h1 : byteAt zs 0 / 16 = 4) (h2 : 20 ≤ sizeR zs ∧ sizeR zs ≤ zs.length) (h3 : sizeR zs ≤ totalR zs ∧ totalR zs ≤ zs.length) (h4 : sumOf (zs.take (sizeR zs)) = 65535) (h5 : 32768 ≤ wordAt zs 6) : faultR zs = 5 := by
  unfold faultR; rw [if_neg (by omega), if_neg (by omega), if_neg (by omega), if_neg (by omega), if_neg (by omega), if_pos h5]
theorem last_fault {zs : List Int} (h : 20 ≤ zs.length) (h1 : byteAt zs 0 / 16 = 4) (h2 : 20 ≤ sizeR zs ∧ sizeR zs ≤ zs.length) (h3 : sizeR zs ≤ totalR zs ∧ totalR zs ≤ zs.length) (h4 : sumOf (zs.take (sizeR zs)) = 65535) (h5 : ¬ 32768 ≤ wordAt zs 6) :
    faultR zs = if rightB (hdOf zs).off (hdOf zs).mf (sizeR zs - 20) ((totalR zs : Int) - sizeR zs) = false then 6 else 7 := by
  unfold faultR; rw [if_neg (by omega), if_neg (by omega), if_neg (by omega), if_neg (by omega), if_neg (by omega), if_neg h5]

set_option maxHeartbeats 2000000 in
set_option maxRecDepth 100000 in
theorem r5Read_any (A : Option Addr) (n c : Nat) (zs : List Int) (w : World) (h : RD .u8 w w.heap.size A n zs) (hz : BD 255 zs) (hn : n ≤ c) (hc : n ≤ 140737488351232) :
    Calls Try.prog 76 #[.slice A n c] w (ReadP w zs) := by
  obtain ⟨i0, hi, hz0, hz1, hz2⟩ := info_parts infoU8
  have HL := Lib.hid h.len
  have R := Lib.hid h
  have S := Lib.hid (((SP.start w).alloc 129 (HD.zero.cells (.slice none 0 0))).alloc' 129 (HD.zero.cells (.slice none 0 0)) (N := w.heap.size + 1) (by simp))
  clear h
  go_enter Try.func76, Try.ntmps76
  go_upto_region 2 with fail
  rw [show (w.alloc (.cells #[.int .u8 0, .int .u16 0, .bool false, .bool false, .int .i64 0, .int .u8 0, .int .u8 0, .int .u32 0, .int .u32 0, .slice none 0 0] 129)).alloc (.cells #[.int .u8 0, .int .u16 0, .bool false, .bool false, .int .i64 0, .int .u8 0, .int .u8 0, .int .u32 0, .int .u32 0, .slice none 0 0] 129) = (w.alloc (.cells (HD.zero.cells (.slice none 0 0)) 129)).alloc (.cells (HD.zero.cells (.slice none 0 0)) 129) from rfl]
  generalize hw1 : (w.alloc (.cells (HD.zero.cells (.slice none 0 0)) 129)).alloc (.cells (HD.zero.cells (.slice none 0 0)) 129) = w1 at S ⊢
  clear hw1
  by_cases h20 : n < 20
  · have i20 : (n : Int) < 20 := by omega
    have hf : faultR zs = 0 := bad_short (by rw [HL.out]; exact h20)
    have HF := Lib.hid hf
    clear hf
    have T := Lib.hid (S.out.setR 0 rfl (HD.zero.cells (.slice none 0 0)))
    go_wp2_with (first | (refine wpList_load_row rfl 129 _ rfl (w.heap.size + 1) rfl 129 (HD.zero.cells (.slice none 0 0)) (0, 0) _ (S.out.blk 1 rfl) Try.underlying129 rfl (by kernel_rfl) ?_) | (refine wpList_store_row rfl 129 _ _ rfl w.heap.size (HD.zero.cells (.slice none 0 0)) rfl rfl 129 (HD.zero.cells (.slice none 0 0)) (S.out.blk 0 rfl) (by kernel_rfl) rfl (zcells_one) ?_))
    refine bodyPost_ret (results_cell_tmp3 rfl _ _ w.heap.size 129 (HD.zero.cells (.slice none 0 0)) _ _ rfl (T.out.blk 0 rfl) Try.underlying129 rfl (by kernel_rfl)) rfl ?_
    exact read_fail rfl (by rw [HF.out]; decide) T.out.bel _ (by rw [HF.out]; rfl)
  · have i20 : ¬ (n : Int) < 20 := by omega
    obtain ⟨b, off, rfl, hb, hcell⟩ := R.out.2 (by omega)
    have RW := Lib.hid (fun (W : World) (hb : Below w.heap.size w W) => (show RD .u8 W W.heap.size (some ⟨b, off, none⟩) n zs from (R.out.below hb).more hb.size))
    have HC := Lib.hid (fun (W : World) (hb' : Below w.heap.size w W) (i : Nat) (hi : i < n) => (show W.cell? ⟨b, off + i, none⟩ = some (.int .u8 (byteAt zs i)) from (hb'.cell (p := ⟨b, off + i, none⟩) hb).trans (hcell i hi)))
    have i1 : (0 : Int) < (n : Int) := by omega
    have x0 : w1.cell? ⟨b, off, none⟩ = some (.int .u8 (byteAt zs 0)) := HC.out w1 S.out.bel 0 (by omega)
    obtain ⟨c0, c1⟩ : 0 ≤ byteAt zs 0 ∧ byteAt zs 0 ≤ 255 := hz.get (by omega) 0
    have j0 : (0 : Nat) < n := by omega
    clear hcell R
    by_cases h16 : byteAt zs 0 / 16 = 4
    · have i16 : (byteAt zs 0 / 16 != 4) = false := by simp [h16]
      have H16 := Lib.hid h16
      have hsz : byteAt zs 0 % 16 * 4 = (sizeR zs : Int) := by unfold sizeR; omega
      have hss : sizeR zs ≤ 60 := by omega
      clear h16
      by_cases hs20 : sizeR zs < 20
      · have is : (sizeR zs : Int) < 20 := by omega
        have hf : faultR zs = 2 := bad_header (by rw [HL.out]; omega) H16.out (.inl hs20)
        have HF := Lib.hid hf
        clear hf
        have T := Lib.hid (S.out.setR 0 rfl (HD.zero.cells (.slice none 0 0)))
        go_wp2_with (first | (refine wpList_load_row rfl 129 _ rfl (w.heap.size + 1) rfl 129 (HD.zero.cells (.slice none 0 0)) (0, 0) _ (S.out.blk 1 rfl) Try.underlying129 rfl (by kernel_rfl) ?_) | (refine wpList_store_row rfl 129 _ _ rfl w.heap.size (HD.zero.cells (.slice none 0 0)) rfl rfl 129 (HD.zero.cells (.slice none 0 0)) (S.out.blk 0 rfl) (by kernel_rfl) rfl (zcells_one) ?_))
        refine bodyPost_ret (results_cell_tmp3 rfl _ _ w.heap.size 129 (HD.zero.cells (.slice none 0 0)) _ _ rfl (T.out.blk 0 rfl) Try.underlying129 rfl (by kernel_rfl)) rfl ?_
        exact read_fail rfl (by rw [HF.out]; decide) T.out.bel _ (by rw [HF.out]; rfl)
      · have is : ¬ (sizeR zs : Int) < 20 := by omega
        by_cases hsn : n < sizeR zs
        · have is2 : (n : Int) < (sizeR zs : Int) := by omega
          have hf : faultR zs = 2 := bad_header (by rw [HL.out]; omega) H16.out (.inr (by rw [HL.out]; exact hsn))
          have HF := Lib.hid hf
          clear hf
          have T := Lib.hid (S.out.setR 0 rfl (HD.zero.cells (.slice none 0 0)))
          go_wp2_with (first | (refine wpList_load_row rfl 129 _ rfl (w.heap.size + 1) rfl 129 (HD.zero.cells (.slice none 0 0)) (0, 0) _ (S.out.blk 1 rfl) Try.underlying129 rfl (by kernel_rfl) ?_) | (refine wpList_store_row rfl 129 _ _ rfl w.heap.size (HD.zero.cells (.slice none 0 0)) rfl rfl 129 (HD.zero.cells (.slice none 0 0)) (S.out.blk 0 rfl) (by kernel_rfl) rfl (zcells_one) ?_))
          refine bodyPost_ret (results_cell_tmp3 rfl _ _ w.heap.size 129 (HD.zero.cells (.slice none 0 0)) _ _ rfl (T.out.blk 0 rfl) Try.underlying129 rfl (by kernel_rfl)) rfl ?_
          exact read_fail rfl (by rw [HF.out]; decide) T.out.bel _ (by rw [HF.out]; rfl)
        · have is2 : ¬ (n : Int) < (sizeR zs : Int) := by omega
          have s1 := fun W => run_slice_lohi (P := Try.prog) W Try.underlying23 hi hz1 (some ⟨b, off, none⟩) n c 2 4 2 4 rfl rfl (by omega) (by omega)
          have s2 := fun W => run_slice_lohi (P := Try.prog) W Try.underlying23 hi hz1 (some ⟨b, off, none⟩) n c 6 8 6 8 rfl rfl (by omega) (by omega)
          have EN := Lib.hid (fun (p : Nat) (hp : p + 2 ≤ n) => (show numB ((zs.drop p).take 2) = wordAt zs p from numB_word p (by rw [HL.out]; exact hp)))
          obtain ⟨tb0, tb1⟩ := wordAt_bd hz 2
          obtain ⟨fb0, fb1⟩ := wordAt_bd hz 6
          have htot : wordAt zs 2 = (totalR zs : Int) := by unfold totalR; omega
          have HTT := Lib.hid htot
          have htt : totalR zs ≤ 65535 := by omega
          clear htot tb0 tb1
          go_wp2_with fail
          refine (r5number_any _ 2 _ _ _ ((RW.out _ S.out.bel).mid (c := c) (lo := 2) (hi := 4) (by omega) (by omega) hn) ((hz.drop _).take _) (by omega)).mono ?_
          rintro e w2 ⟨rfl, rfl⟩
          rw [show ((4 : Nat) - 2) = 2 from rfl, EN.out 2 (by omega), HTT.out]
          by_cases ht1 : totalR zs < sizeR zs
          · have it1 : (totalR zs : Int) < (sizeR zs : Int) := by omega
            have hf : faultR zs = 3 := bad_total (by rw [HL.out]; omega) H16.out ⟨by omega, by rw [HL.out]; omega⟩ (.inl ht1)
            have HF := Lib.hid hf
            clear hf
            have T := Lib.hid (S.out.setR 0 rfl (HD.zero.cells (.slice none 0 0)))
            go_wp2_with (first | (refine wpList_load_row rfl 129 _ rfl (w.heap.size + 1) rfl 129 (HD.zero.cells (.slice none 0 0)) (0, 0) _ (S.out.blk 1 rfl) Try.underlying129 rfl (by kernel_rfl) ?_) | (refine wpList_store_row rfl 129 _ _ rfl w.heap.size (HD.zero.cells (.slice none 0 0)) rfl rfl 129 (HD.zero.cells (.slice none 0 0)) (S.out.blk 0 rfl) (by kernel_rfl) rfl (zcells_one) ?_))
            refine bodyPost_ret (results_cell_tmp3 rfl _ _ w.heap.size 129 (HD.zero.cells (.slice none 0 0)) _ _ rfl (T.out.blk 0 rfl) Try.underlying129 rfl (by kernel_rfl)) rfl ?_
            exact read_fail rfl (by rw [HF.out]; decide) T.out.bel _ (by rw [HF.out]; rfl)
          · have it1 : ¬ (totalR zs : Int) < (sizeR zs : Int) := by omega
            by_cases ht2 : n < totalR zs
            · have it2 : (n : Int) < (totalR zs : Int) := by omega
              have hf : faultR zs = 3 := bad_total (by rw [HL.out]; omega) H16.out ⟨by omega, by rw [HL.out]; omega⟩ (.inr (by rw [HL.out]; exact ht2))
              have HF := Lib.hid hf
              clear hf
              have T := Lib.hid (S.out.setR 0 rfl (HD.zero.cells (.slice none 0 0)))
              go_wp2_with (first | (refine wpList_load_row rfl 129 _ rfl (w.heap.size + 1) rfl 129 (HD.zero.cells (.slice none 0 0)) (0, 0) _ (S.out.blk 1 rfl) Try.underlying129 rfl (by kernel_rfl) ?_) | (refine wpList_store_row rfl 129 _ _ rfl w.heap.size (HD.zero.cells (.slice none 0 0)) rfl rfl 129 (HD.zero.cells (.slice none 0 0)) (S.out.blk 0 rfl) (by kernel_rfl) rfl (zcells_one) ?_))
              refine bodyPost_ret (results_cell_tmp3 rfl _ _ w.heap.size 129 (HD.zero.cells (.slice none 0 0)) _ _ rfl (T.out.blk 0 rfl) Try.underlying129 rfl (by kernel_rfl)) rfl ?_
              exact read_fail rfl (by rw [HF.out]; decide) T.out.bel _ (by rw [HF.out]; rfl)
            · have it2 : ¬ (n : Int) < (totalR zs : Int) := by omega
              have s3 : (sizeR zs : Int) ≤ (c : Int) := by omega
              have s4 : (0 : Int) ≤ (sizeR zs : Int) := by omega
              go_wp2_with fail
              refine (rSum_any _ (sizeR zs) _ _ _ ((RW.out _ S.out.bel).take (by omega)) (hz.take _) (by omega)).mono ?_
              rintro e w2 ⟨rfl, rfl⟩
              by_cases hsum : sumOf (zs.take (sizeR zs)) = 65535
              · have HSM := Lib.hid hsum
                have isum : (sumOf (zs.take (sizeR zs)) != 65535) = false := by simp [hsum]
                clear hsum
                go_wp2_with fail
                refine (r5number_any _ 2 _ _ _ ((RW.out _ S.out.bel).mid (c := c) (lo := 6) (hi := 8) (by omega) (by omega) hn) ((hz.drop _).take _) (by omega)).mono ?_
                rintro e w2 ⟨rfl, rfl⟩
                rw [show ((8 : Nat) - 6) = 2 from rfl, EN.out 6 (by omega)]
                by_cases hfl : 32768 ≤ wordAt zs 6
                · have ifl : (wordAt zs 6 / 32768 == 1) = true := by simp; omega
                  have hf : faultR zs = 5 := bad_flags (by rw [HL.out]; omega) H16.out ⟨by omega, by rw [HL.out]; omega⟩ ⟨by omega, by rw [HL.out]; omega⟩ HSM.out hfl
                  have HF := Lib.hid hf
                  clear hf
                  have T := Lib.hid (S.out.setR 0 rfl (HD.zero.cells (.slice none 0 0)))
                  go_wp2_with (first | (refine wpList_load_row rfl 129 _ rfl (w.heap.size + 1) rfl 129 (HD.zero.cells (.slice none 0 0)) (0, 0) _ (S.out.blk 1 rfl) Try.underlying129 rfl (by kernel_rfl) ?_) | (refine wpList_store_row rfl 129 _ _ rfl w.heap.size (HD.zero.cells (.slice none 0 0)) rfl rfl 129 (HD.zero.cells (.slice none 0 0)) (S.out.blk 0 rfl) (by kernel_rfl) rfl (zcells_one) ?_))
                  refine bodyPost_ret (results_cell_tmp3 rfl _ _ w.heap.size 129 (HD.zero.cells (.slice none 0 0)) _ _ rfl (T.out.blk 0 rfl) Try.underlying129 rfl (by kernel_rfl)) rfl ?_
                  exact read_fail rfl (by rw [HF.out]; decide) T.out.bel _ (by rw [HF.out]; rfl)
                · have ifl : (wordAt zs 6 / 32768 == 1) = false := by simp; omega
                  have HLF := Lib.hid (last_fault (by rw [HL.out]; omega) H16.out ⟨by omega, by rw [HL.out]; omega⟩ ⟨by omega, by rw [HL.out]; omega⟩ HSM.out hfl)
                  clear isum s2 hfl it1 it2 s3 s4 is is2 hsz i16 x0 c0 c1
                  go_wp2_with fail
                  have N6 : w.heap.size + 1 < w1.heap.size := (S.out.blk 1 rfl).lt
                  have y1 : w1.cell? ⟨b, off + 1, none⟩ = some (.int .u8 (byteAt zs 1)) := HC.out w1 S.out.bel 1 (by omega)
                  have x0' : w1.cell? ⟨w.heap.size + 1, 0, none⟩ = some (.int .u8 0) := S.out.cell 1 rfl 0 rfl
                  have z0' := S.out.free 1 rfl 0
                  have x1' : w1.cell? ⟨w.heap.size + 1, 1, none⟩ = some (.int .u16 0) := S.out.cell 1 rfl 1 rfl
                  have z1' := S.out.free 1 rfl 1
                  have x2' : w1.cell? ⟨w.heap.size + 1, 2, none⟩ = some (.bool false) := S.out.cell 1 rfl 2 rfl
                  have z2' := S.out.free 1 rfl 2
                  have x3' : w1.cell? ⟨w.heap.size + 1, 3, none⟩ = some (.bool false) := S.out.cell 1 rfl 3 rfl
                  have z3' := S.out.free 1 rfl 3
                  have x4' : w1.cell? ⟨w.heap.size + 1, 4, none⟩ = some (.int .i64 0) := S.out.cell 1 rfl 4 rfl
                  have z4' := S.out.free 1 rfl 4
                  have s45 := fun W => run_slice_lohi (P := Try.prog) W Try.underlying23 hi hz1 (some ⟨b, off, none⟩) n c 4 6 4 6 rfl rfl (by omega) (by omega)
                  obtain ⟨g0, g1⟩ := wordAt_bd hz 4
                  have u4 : IntKind.u16.wrap (wordAt zs 4) = wordAt zs 4 := u16_in _ g0 g1
                  obtain ⟨q1, hq1⟩ : ∃ x, x = wordAt zs 6 / 16384 := ⟨_, rfl⟩
                  obtain ⟨q2, hq2⟩ : ∃ x, x = wordAt zs 6 / 8192 := ⟨_, rfl⟩
                  obtain ⟨r1, hr1⟩ : ∃ x, x = q1 % 2 := ⟨_, rfl⟩
                  obtain ⟨r2, hr2⟩ : ∃ x, x = q2 % 2 := ⟨_, rfl⟩
                  obtain ⟨r3, hr3⟩ : ∃ x, x = wordAt zs 6 % 8192 := ⟨_, rfl⟩
                  obtain ⟨O, hO⟩ : ∃ x, x = r3 * 8 := ⟨_, rfl⟩
                  have v1 : (wordAt zs 6).tdiv 16384 = q1 := by rw [Int.tdiv_eq_ediv_of_nonneg fb0]; exact hq1.symm
                  have v2 : (wordAt zs 6).tdiv 8192 = q2 := by rw [Int.tdiv_eq_ediv_of_nonneg fb0]; exact hq2.symm
                  have v3 : (wordAt zs 6).tmod 8192 = r3 := by rw [Int.tmod_eq_emod_of_nonneg fb0]; exact hr3.symm
                  have v4 : IntKind.i64.wrap q1 = q1 := IntWalk.i64_in _ (by omega)
                  have v5 : IntKind.i64.wrap q2 = q2 := IntWalk.i64_in _ (by omega)
                  have v6 : q1.tmod 2 = r1 := by rw [Int.tmod_eq_emod_of_nonneg (by omega)]; exact hr1.symm
                  have v7 : q2.tmod 2 = r2 := by rw [Int.tmod_eq_emod_of_nonneg (by omega)]; exact hr2.symm
                  have v8 : IntKind.i64.wrap (r3 * 8) = O := by rw [hO]; exact IntWalk.i64_in _ (by omega)
                  have HQ := Lib.hid (show (r1 == 1) = (hdOf zs).df ∧ (r2 == 1) = (hdOf zs).mf ∧ O = (hdOf zs).off from ⟨by rw [hr1, hq1]; rfl, by rw [hr2, hq2]; rfl, by rw [hO, hr3]; show wordAt zs 6 % 8192 * 8 = 8 * (wordAt zs 6 % 8192); omega⟩)
                  clear hq1 hq2 hr1 hr2 hr3 hO
                  have i2 : (1 : Int) < (n : Int) := by omega
                  have KK := Lib.hid (fun (W : World) (hb' : Below (w.heap.size + 1) w1 W) => (show Below (w.heap.size + 1) w1 W ∧ W.cell? ⟨b, off + 1, none⟩ = some (.int .u8 (byteAt zs 1)) from ⟨hb', HC.out W (S.out.bel.trans (hb'.mono (by omega))) 1 (by omega)⟩))
                  go_region_held3 (fun W' => Below (w.heap.size + 1) w1 W' ∧ W'.cell? ⟨b, off + 1, none⟩ = some (.int .u8 (byteAt zs 1))) ((with_reducible refine KK.out _ ?_; (repeat' (first | (with_reducible exact Below.refl _ _) | (with_reducible refine Below.drew ?_) | (with_reducible refine Below.setCell ?_ (by simp) _)))))
                    ((go_at_call 88; refine (r5number_any _ 2 _ _ _ ((RW.out _ S.out.bel.drew).mid (c := c) (lo := 4) (hi := 6) (by omega) (by omega) hn) ((hz.drop _).take _) (by omega)).mono ?_; rintro e w2 ⟨rfl, rfl⟩; rw [show ((6 : Nat) - 4) = 2 from rfl, EN.out 4 (by omega)]))
                  have T := Lib.hid (((((S.out.setB 1 rfl 0 (.int .u8 (byteAt zs 1))).setB 1 rfl 1 (.int .u16 (wordAt zs 4))).setB 1 rfl 2 (.bool (r1 == 1))).setB 1 rfl 3 (.bool (r2 == 1))).setB 1 rfl 4 (.int .i64 O)).drew
                  have i0' : (0 : Int) ≤ (n : Int) := by omega
                  generalize hw3 : (((((w1.setCell ⟨w.heap.size + 1, 0, none⟩ (.int .u8 (byteAt zs 1))).setCell ⟨w.heap.size + 1, 1, none⟩ (.int .u16 (wordAt zs 4))).setCell ⟨w.heap.size + 1, 2, none⟩ (.bool (r1 == 1))).setCell ⟨w.heap.size + 1, 3, none⟩ (.bool (r2 == 1))).setCell ⟨w.heap.size + 1, 4, none⟩ (.int .i64 O)).drew = w3 at T ⊢
                  clear hw3 y1 KK i2 u4 v1 v2 v3 v4 v5 v6 v7 v8 g0 g1 s45 x0' x1' x2' x3' x4' z0' z1' z2' z3' z4' N6
                  have T' : SP w w3 [.blk w.heap.size 129 (HD.zero.cells (.slice none 0 0)), .blk (w.heap.size + 1) 129 #[.int .u8 (byteAt zs 1), .int .u16 (wordAt zs 4), .bool (r1 == 1), .bool (r2 == 1), .int .i64 O, .int .u8 0, .int .u8 0, .int .u32 0, .int .u32 0, .slice none 0 0]] := T.out
                  have T3 := Lib.hid T'
                  clear T T' S
                  go_upto_region 18 with fail
                  have N6 : w.heap.size + 1 < w3.heap.size := (T3.out.blk 1 rfl).lt
                  have y8 : w3.cell? ⟨b, off + 8, none⟩ = some (.int .u8 (byteAt zs 8)) := HC.out w3 T3.out.bel 8 (by omega)
                  have y9 : w3.cell? ⟨b, off + 9, none⟩ = some (.int .u8 (byteAt zs 9)) := HC.out w3 T3.out.bel 9 (by omega)
                  have x5' : w3.cell? ⟨w.heap.size + 1, 5, none⟩ = some (.int .u8 0) := T3.out.cell 1 rfl 5 rfl
                  have z5' := T3.out.free 1 rfl 5
                  have x6' : w3.cell? ⟨w.heap.size + 1, 6, none⟩ = some (.int .u8 0) := T3.out.cell 1 rfl 6 rfl
                  have z6' := T3.out.free 1 rfl 6
                  have x7' : w3.cell? ⟨w.heap.size + 1, 7, none⟩ = some (.int .u32 0) := T3.out.cell 1 rfl 7 rfl
                  have z7' := T3.out.free 1 rfl 7
                  have x8' : w3.cell? ⟨w.heap.size + 1, 8, none⟩ = some (.int .u32 0) := T3.out.cell 1 rfl 8 rfl
                  have z8' := T3.out.free 1 rfl 8
                  have s1216 := fun W => run_slice_lohi (P := Try.prog) W Try.underlying23 hi hz1 (some ⟨b, off, none⟩) n c 12 16 12 16 rfl rfl (by omega) (by omega)
                  have s1620 := fun W => run_slice_lohi (P := Try.prog) W Try.underlying23 hi hz1 (some ⟨b, off, none⟩) n c 16 20 16 20 rfl rfl (by omega) (by omega)
                  obtain ⟨l0, l1⟩ := longAt_bd hz 12
                  obtain ⟨m0, m1⟩ := longAt_bd hz 16
                  have u12 : IntKind.u32.wrap (longAt zs 12) = longAt zs 12 := u32_in _ l0 l1
                  have u16' : IntKind.u32.wrap (longAt zs 16) = longAt zs 16 := u32_in _ m0 m1
                  have EL := Lib.hid (fun (p : Nat) (hp : p + 4 ≤ n) => (show numB ((zs.drop p).take 4) = longAt zs p from numB_long p (by rw [HL.out]; exact hp)))
                  have i8 : (8 : Int) < (n : Int) := by omega
                  have i9 : (9 : Int) < (n : Int) := by omega
                  have KK := Lib.hid (fun (W : World) (hb' : Below (w.heap.size + 1) w3 W) => (show Below (w.heap.size + 1) w3 W ∧ W.cell? ⟨b, off + 8, none⟩ = some (.int .u8 (byteAt zs 8)) ∧ W.cell? ⟨b, off + 9, none⟩ = some (.int .u8 (byteAt zs 9)) from ⟨hb', HC.out W (T3.out.bel.trans (hb'.mono (by omega))) 8 (by omega), HC.out W (T3.out.bel.trans (hb'.mono (by omega))) 9 (by omega)⟩))
                  go_cut [7] (fun s7 wx => s7 = .int .i64 (sizeR zs : Int) ∧ SP w wx [.blk w.heap.size 129 (HD.zero.cells (.slice none 0 0)), .blk (w.heap.size + 1) 129 #[.int .u8 (byteAt zs 1), .int .u16 (wordAt zs 4), .bool (r1 == 1), .bool (r2 == 1), .int .i64 O, .int .u8 (byteAt zs 8), .int .u8 (byteAt zs 9), .int .u32 (longAt zs 12), .int .u32 (longAt zs 16), .slice none 0 0]])
                  case first =>
                    go_region_held3 (fun W' => Below (w.heap.size + 1) w3 W' ∧ W'.cell? ⟨b, off + 8, none⟩ = some (.int .u8 (byteAt zs 8)) ∧ W'.cell? ⟨b, off + 9, none⟩ = some (.int .u8 (byteAt zs 9))) ((with_reducible refine KK.out _ ?_; (repeat' (first | (with_reducible exact Below.refl _ _) | (with_reducible refine Below.drew ?_) | (with_reducible refine Below.setCell ?_ (by simp) _)))))
                      (first
                        | (go_at_call 88; (with_reducible refine (r5number_any (cutA (some ⟨b, off, none⟩) c 12) (16 - 12) _ ((zs.drop 12).take 4) _ ((RW.out _ T3.out.bel.drew).mid (c := c) (lo := 12) (hi := 16) (by omega) (by omega) hn) ((hz.drop _).take _) (by omega)).mono ?_); rintro e w2 ⟨rfl, rfl⟩; rw [EL.out 12 (by omega)])
                        | (go_at_call 88; (with_reducible refine (r5number_any (cutA (some ⟨b, off, none⟩) c 16) (20 - 16) _ ((zs.drop 16).take 4) _ ((RW.out _ T3.out.bel.drew).mid (c := c) (lo := 16) (hi := 20) (by omega) (by omega) hn) ((hz.drop _).take _) (by omega)).mono ?_); rintro e w2 ⟨rfl, rfl⟩; rw [EL.out 16 (by omega)]))
                    all_goals (go_wp2_with fail; go_meet; exact ⟨rfl, ((((T3.out.setB 1 rfl 5 (.int .u8 (byteAt zs 8))).setB 1 rfl 6 (.int .u8 (byteAt zs 9))).setB 1 rfl 7 (.int .u32 (longAt zs 12))).setB 1 rfl 8 (.int .u32 (longAt zs 16))).drew⟩)
                  case rest =>
                    obtain ⟨rfl, T4'⟩ := hcut
                    have T4 := Lib.hid T4'
                    clear T4' T3 KK y8 y9 x5' x6' x7' x8' z5' z6' z7' z8' s1216 s1620 N6 i8 i9 EL
                    have y9 : wc.cell? ⟨w.heap.size + 1, 9, none⟩ = some (.slice none 0 0) := T4.out.cell 1 rfl 9 rfl
                    have z9 := T4.out.free 1 rfl 9
                    have N6 : w.heap.size + 1 < wc.heap.size := (T4.out.blk 1 rfl).lt
                    have s20 := fun W => run_slice_lohi (P := Try.prog) W Try.underlying23 hi hz1 (some ⟨b, off, none⟩) n c 20 (sizeR zs : Int) 20 (sizeR zs) rfl rfl (by omega) (by omega)
                    have RDO : ∀ W, Below w.heap.size w W → RD .u8 W W.heap.size (cutA (some ⟨b, off, none⟩) c 20) (sizeR zs - 20) (optsOf zs) := fun W hb' => (RW.out W hb').mid (c := c) (lo := 20) (hi := sizeR zs) (by omega) (by omega) hn
                    have RO := Lib.hid RDO
                    clear RDO
                    go_upto_region 19 with fail
                    go_cut [7] (fun s7 wx => ∃ A5 c5, s7 = .int .i64 (sizeR zs : Int) ∧ SP w wx [.blk w.heap.size 129 (HD.zero.cells (.slice none 0 0)), .blk (w.heap.size + 1) 129 #[.int .u8 (byteAt zs 1), .int .u16 (wordAt zs 4), .bool (r1 == 1), .bool (r2 == 1), .int .i64 O, .int .u8 (byteAt zs 8), .int .u8 (byteAt zs 9), .int .u32 (longAt zs 12), .int .u32 (longAt zs 16), .slice A5 (sizeR zs - 20) c5], .own .u8 5 A5 (sizeR zs - 20) c5 (optsOf zs)])
                    case first =>
                      go_region_law ((refine step_append_rd _ (by rfl) _ _ _ (by rfl) .u8 wc.heap.size 5 i0 1 Try.underlying23 hi hz0 hz1 hz2 none 0 0 [] (by rfl) OWN.nil _ (cutA (some ⟨b, off, none⟩) c 20) (sizeR zs - 20) (c - 20) (optsOf zs) (by rfl) (RO.out _ T4.out.bel.drew) (by simp only [maxLen]; omega) (by omega) (Nat.le_refl _) ?_; intro A5 c5 w5 happ; have hb5 : Below wc.heap.size wc w5 := (Below.refl _ _).drew.trans (happ.keepBelow (fun g hg => by cases hg) (Nat.le_refl _)); have ho := happ.own; rw [Nat.zero_add, List.nil_append] at ho; have T5 := Lib.hid (T4.out.pushOwn hb5 ho); clear ho; have y9' : w5.cell? ⟨w.heap.size + 1, 9, none⟩ = some (.slice none 0 0) := T5.out.cell 1 rfl 9 rfl; have z9' := T5.out.free 1 rfl 9; clear happ))
                      all_goals (go_wp2_with fail; go_meet; exact ⟨A5, c5, rfl, T5.out.setB 1 rfl 9 (.slice A5 (sizeR zs - 20) c5)⟩)
                    case rest =>
                      obtain ⟨A5, c5, rfl, T6'⟩ := hcut
                      rw [HQ.out.1, HQ.out.2.1, HQ.out.2.2] at T6'
                      have T6 : SP w wc [.blk w.heap.size 129 (HD.zero.cells (.slice none 0 0)), .blk (w.heap.size + 1) 129 ((hdOf zs).cells (.slice A5 (sizeR zs - 20) c5)), .own .u8 5 A5 (sizeR zs - 20) c5 (optsOf zs)] := T6'
                      have T7 := Lib.hid T6
                      clear T6 T6' T4 y9 z9 N6 s20
                      have hsub : IntKind.i64.wrap ((totalR zs : Int) - (sizeR zs : Int)) = (totalR zs : Int) - sizeR zs := IntWalk.i64_in _ (by omega)
                      go_wp2_with (refine wpList_load_row rfl 129 _ rfl (w.heap.size + 1) rfl 129 ((hdOf zs).cells (.slice A5 (sizeR zs - 20) c5)) (0, 0) _ (T7.out.blk 1 rfl) Try.underlying129 rfl (by kernel_rfl) ?_)
                      refine (r5right_any (hdOf zs) A5 (sizeR zs - 20) c5 ((totalR zs : Int) - sizeR zs) _ (hdOf_wf hz).off (by omega) (by omega)).mono ?_
                      rintro e w8 ⟨rfl, hb8⟩
                      have T8 := Lib.hid (T7.out.next hb8)
                      clear hb8 T7
                      cases hRB : rightB (hdOf zs).off (hdOf zs).mf (sizeR zs - 20) ((totalR zs : Int) - sizeR zs)
                      · have hf : faultR zs = 6 := by rw [HLF.out, hRB]; rfl
                        have HF := Lib.hid hf
                        clear hf hRB
                        have T := Lib.hid (T8.out.setR 0 rfl (HD.zero.cells (.slice none 0 0)))
                        go_wp2_with (refine wpList_store_row rfl 129 _ _ rfl w.heap.size (HD.zero.cells (.slice none 0 0)) rfl rfl 129 (HD.zero.cells (.slice none 0 0)) (T8.out.blk 0 rfl) (by kernel_rfl) rfl (zcells_one) ?_)
                        refine bodyPost_ret (results_cell_tmp3 rfl _ _ w.heap.size 129 (HD.zero.cells (.slice none 0 0)) _ _ rfl (T.out.blk 0 rfl) Try.underlying129 rfl (by kernel_rfl)) rfl ?_
                        exact read_fail rfl (by rw [HF.out]; decide) T.out.bel _ (by rw [HF.out]; rfl)
                      · have hf : faultR zs = 7 := by rw [HLF.out, hRB]; rfl
                        have HF := Lib.hid hf
                        clear hf hRB
                        have T := Lib.hid (T8.out.setR 0 rfl ((hdOf zs).cells (.slice A5 (sizeR zs - 20) c5)))
                        go_wp2_with (first | (refine wpList_load_row rfl 129 _ rfl (w.heap.size + 1) rfl 129 ((hdOf zs).cells (.slice A5 (sizeR zs - 20) c5)) (0, 0) _ (T8.out.blk 1 rfl) Try.underlying129 rfl (by kernel_rfl) ?_) | (refine wpList_store_row rfl 129 _ _ rfl w.heap.size ((hdOf zs).cells (.slice A5 (sizeR zs - 20) c5)) rfl rfl 129 (HD.zero.cells (.slice none 0 0)) (T8.out.blk 0 rfl) (by kernel_rfl) rfl (hdcells_one _ _ _ _) ?_))
                        refine bodyPost_ret (results_cell_tmp3 rfl _ _ w.heap.size 129 ((hdOf zs).cells (.slice A5 (sizeR zs - 20) c5)) _ _ rfl (T.out.blk 0 rfl) Try.underlying129 rfl (by kernel_rfl)) rfl ?_
                        exact ⟨A5, sizeR zs - 20, c5, (by unfold hdR fromR toR ipE; rw [if_pos HF.out, if_pos HF.out, if_pos HF.out, if_pos HF.out]; rfl), (by unfold optsR; rw [if_pos HF.out]; exact T.out.own 2 rfl), T.out.bel⟩
              · have isum : (sumOf (zs.take (sizeR zs)) != 65535) = true := by simp [hsum]
                have hf : faultR zs = 4 := bad_sum (by rw [HL.out]; omega) H16.out ⟨by omega, by rw [HL.out]; omega⟩ ⟨by omega, by rw [HL.out]; omega⟩ hsum
                have HF := Lib.hid hf
                clear hf
                have T := Lib.hid (S.out.setR 0 rfl (HD.zero.cells (.slice none 0 0)))
                go_wp2_with (first | (refine wpList_load_row rfl 129 _ rfl (w.heap.size + 1) rfl 129 (HD.zero.cells (.slice none 0 0)) (0, 0) _ (S.out.blk 1 rfl) Try.underlying129 rfl (by kernel_rfl) ?_) | (refine wpList_store_row rfl 129 _ _ rfl w.heap.size (HD.zero.cells (.slice none 0 0)) rfl rfl 129 (HD.zero.cells (.slice none 0 0)) (S.out.blk 0 rfl) (by kernel_rfl) rfl (zcells_one) ?_))
                refine bodyPost_ret (results_cell_tmp3 rfl _ _ w.heap.size 129 (HD.zero.cells (.slice none 0 0)) _ _ rfl (T.out.blk 0 rfl) Try.underlying129 rfl (by kernel_rfl)) rfl ?_
                exact read_fail rfl (by rw [HF.out]; decide) T.out.bel _ (by rw [HF.out]; rfl)
    · have i16 : (byteAt zs 0 / 16 != 4) = true := by simp [h16]
      have hf : faultR zs = 1 := bad_version (by rw [HL.out]; omega) h16
      have HF := Lib.hid hf
      clear hf
      have T := Lib.hid (S.out.setR 0 rfl (HD.zero.cells (.slice none 0 0)))
      go_wp2_with (first | (refine wpList_load_row rfl 129 _ rfl (w.heap.size + 1) rfl 129 (HD.zero.cells (.slice none 0 0)) (0, 0) _ (S.out.blk 1 rfl) Try.underlying129 rfl (by kernel_rfl) ?_) | (refine wpList_store_row rfl 129 _ _ rfl w.heap.size (HD.zero.cells (.slice none 0 0)) rfl rfl 129 (HD.zero.cells (.slice none 0 0)) (S.out.blk 0 rfl) (by kernel_rfl) rfl (zcells_one) ?_))
      refine bodyPost_ret (results_cell_tmp3 rfl _ _ w.heap.size 129 (HD.zero.cells (.slice none 0 0)) _ _ rfl (T.out.blk 0 rfl) Try.underlying129 rfl (by kernel_rfl)) rfl ?_
      exact read_fail rfl (by rw [HF.out]; decide) T.out.bel _ (by rw [HF.out]; rfl)
end Go.Proofs.Ytljbfnabnkkfeaa
