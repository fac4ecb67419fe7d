/- The walk of IpWrong. (Printed by gen_ipwrong.py.) -/
import Derived.Test.YtpfmecdldoehoaaSep2
import Derived.Test.YtpfmecdldoehoaaLIpWr
import Derived.Test.YtpfmecdldoehoaaLIpBack
import Derived.Test.YtpfmecdldoehoaaWMade5
import Derived.Test.YtpfmecdldoehoaaWAwake5
import Derived.Test.YtpfmecdldoehoaaWOwnZ
import Derived.Test.YtpfmecdldoehoaaRow
import Derived.Test.YtpfmecdldoehoaaReg
import Derived.Test.YtpfmecdldoehoaaRegW
import Derived.Deep.DrawnRows
import Derived.Deep.DeepCutAuto
import Derived.Deep.RegionLaw
namespace Go.Proofs.Ytpfmecdldoehoaa
open Go.RowKit
set_option linter.unusedVariables false
attribute [local go_sem ↓] Go.wp_at_zero Go.wp_at_succ

theorem u8_or_64 (x : Int) (h0 : 0 ≤ x) (h1 : x ≤ 7) : bits .or .u8 64 x = 64 + x :=
  bits_join .u8 8 (by decide) (fun n h0 h1 => by rw [u8_mod]; omega) 3 64 x (by omega) (by omega) (by omega) (by omega) (by omega) (by omega)

set_option maxHeartbeats 1000000 in
/-- Pick -/
theorem pick_any (q m : Int) (w : World) (hm : 0 < m ∧ m ≤ 65536) (hq : -9223372036854775808 ≤ q ∧ q ≤ 9223372036854775807) :
    Calls Try.prog 27 #[.int .i64 q, .int .i64 m] w fun e w' => (∃ k : Nat, (k : Int) < m ∧ e = .returned (.int .i64 (k : Int))) ∧ w = w' := by
  obtain ⟨m0, m1⟩ := hm
  have h1 : q.tmod m < m := Int.tmod_lt_of_pos q m0
  have h2 : -m < q.tmod m := Int.lt_tmod_of_pos q m0
  obtain ⟨r, hr⟩ : ∃ r, q.tmod m = r := ⟨_, rfl⟩
  rw [hr] at h1 h2
  have hne : (m == 0) = false := by simp; omega
  have hw : IntKind.i64.wrap r = r := IntWalk.i64_in _ (by omega)
  have t1 : ¬ m < 1 := by omega
  by_cases hr0 : r < 0
  · go_enter Try.func27, Try.ntmps27
    go_wp2_with fail
    go_ret
    refine ⟨⟨(r + m).toNat, by omega, ?_⟩, rfl⟩
    rw [show (((r + m).toNat : Nat) : Int) = r + m by omega]; rfl
  · go_enter Try.func27, Try.ntmps27
    go_wp2_with fail
    go_ret
    refine ⟨⟨r.toNat, by omega, ?_⟩, rfl⟩
    rw [show ((r.toNat : Nat) : Int) = r by omega]; rfl

theorem not_neg {off : Int} {mf : Bool} {ol : Nat} {n : Int} (h : n < 0) : ¬ Rightly off mf ol n := fun hr => by have := hr.2.2.2.2.2.1; omega
theorem not_big {off : Int} {mf : Bool} {ol : Nat} {n : Int} (h : 65515 < n) : ¬ Rightly off mf ol n := fun hr => by have h1 := hr.2.2.2.2.2.2.2.1; have h2 := hr.2.1; omega

set_option maxHeartbeats 4000000 in
set_option maxRecDepth 100000 in
theorem ipWrongA (h0 h1 h2 h3 h4 h5 h6 h7 h8 h9 h10 h11 words far many : Int) (df mf : Bool) (A : Option Addr) (n c : Nat) (zs : List Int) (way q : Int) (w : World) (hb : BD 255 [h0, h1, h2, h3, h4, h5, h6, h7, h8, h9, h10, h11]) (hw : 0 ≤ words ∧ words ≤ 255) (hf : 0 ≤ far ∧ far ≤ 255) (hm : 0 ≤ many ∧ many ≤ 255) (h : ROW .u8 255 w A n c zs) (hway : 0 ≤ way ∧ way ≤ 255) (hq : -9223372036854775808 ≤ q ∧ q ≤ 9223372036854775807) (hv6 : way % 12 < 6) :
    Calls Try.prog 11 #[.agg (sm18 h0 h1 h2 h3 h4 h5 h6 h7 h8 h9 h10 h11 words far many df mf (.slice A n c)), .int .u8 way, .int .i64 q] w fun e w' => e = .returned (.bool true) ∧ Below w.heap.size w w' := by
  obtain ⟨i0, hi, hz0, hz1, hz2⟩ := info_parts infoU8
  have H0 := (SP.start w).alloc 25 (sm18 h0 h1 h2 h3 h4 h5 h6 h7 h8 h9 h10 h11 words far many df mf (.slice A n c))
  unfold sm18
  go_enter Try.func11, Try.ntmps11
  go_wp2_with fail
  rw [show w.alloc (.cells #[.int .u8 h0, .int .u8 h1, .int .u8 h2, .int .u8 h3, .int .u8 h4, .int .u8 h5, .int .u8 h6, .int .u8 h7, .int .u8 h8, .int .u8 h9, .int .u8 h10, .int .u8 h11, .int .u8 words, .int .u8 far, .int .u8 many, .bool df, .bool mf, .slice A n c] 25) = w.alloc (.cells (sm18 h0 h1 h2 h3 h4 h5 h6 h7 h8 h9 h10 h11 words far many df mf (.slice A n c)) 25) from rfl]
  generalize w.alloc (.cells (sm18 h0 h1 h2 h3 h4 h5 h6 h7 h8 h9 h10 h11 words far many df mf (.slice A n c)) 25) = w1 at H0 ⊢
  refine (awake5_any _).mono ?_
  rintro e w2 ⟨rfl, hb2⟩
  replace H0 := H0.next hb2
  clear hb2
  have HK := Lib.hid (H0.blk 0 rfl)
  have HI := H0
  clear H0
  have H0 := Lib.hid HI
  clear HI
  go_wp2_with (refine wpList_load_row rfl 25 _ rfl w.heap.size rfl 25 (sm18 h0 h1 h2 h3 h4 h5 h6 h7 h8 h9 h10 h11 words far many df mf (.slice A n c)) (0, 0) _ HK.out Try.underlying25 rfl (by kernel_rfl) ?_)
  refine (made5_any h0 h1 h2 h3 h4 h5 h6 h7 h8 h9 h10 h11 words far many df mf A n c zs _ hb hw hf hm (h.rd.later H0.out.bel) h.bd h.le h.cap).mono ?_
  rintro e w3 ⟨H, Ao, on, oc, opts, Ad, dn, dc, data, rfl, hwf, hr, ownO, bo, ownD, bd, hdn, hb3⟩
  have hbw : Below w.heap.size w w3 := H0.out.bel.trans (hb3.mono H0.out.size)
  clear H0 HK hb3 h hb hw hf hm
  have ro := ownO.rd
  have rdd := ownD.rd
  have hoc := ownO.le
  have hdc := ownD.le
  have hon := ownO.len
  have hdl := ownD.len
  have HR := Lib.hid (show Rightly H.off H.mf opts.length data.length by rw [hon, hdl]; exact hr)
  have HON := Lib.hid hon
  have HDL := Lib.hid hdl
  have hon40 : on ≤ 40 := hr.2.2.2.1
  have HRR := Lib.hid hr
  have S := SP.start w3
  clear ownO ownD hon hdl hr
  unfold HD.val HD.cells
  go_wp2_with fail
  replace S := S.alloc 30 (H.cells (.slice Ao on oc))
  rw [show w3.alloc (.cells #[.int .u8 H.tos, .int .u16 H.id, .bool H.df, .bool H.mf, .int .i64 H.off, .int .u8 H.ttl, .int .u8 H.proto, .int .u32 H.src, .int .u32 H.dst, .slice Ao on oc] 30) = w3.alloc (.cells (H.cells (.slice Ao on oc)) 30) from rfl]
  generalize w3.alloc (.cells (H.cells (.slice Ao on oc)) 30) = w4 at S ⊢
  refine (write_yes H Ao on oc opts Ad dn dc data _ hwf ((ro.below S.bel).more S.size) bo ((rdd.below S.bel).more S.size) HRR.out).mono ?_
  rintro e w5 ⟨A5, n5, c5, rfl, own5, hb5⟩
  have hn5 := own5.len
  rw [pkt_len, HON.out, HDL.out] at hn5
  have HN5 := Lib.hid hn5
  have hn5a : 20 ≤ n5 := by omega
  have hn5b : n5 ≤ 140 := by omega
  have hle5 := own5.le
  have hpb : BD 255 (pktB H opts data) := pkt_bd hwf bo (by rw [HON.out]; exact hon40) bd
  replace S := S.pushOwn hb5 own5
  clear hb5 own5 hn5
  have f0 : w5.cell? ⟨w3.heap.size, 0, none⟩ = some (.int .u8 H.tos) := S.cell 0 rfl 0 rfl
  have f1 : w5.cell? ⟨w3.heap.size, 1, none⟩ = some (.int .u16 H.id) := S.cell 0 rfl 1 rfl
  have f2 : w5.cell? ⟨w3.heap.size, 2, none⟩ = some (.bool H.df) := S.cell 0 rfl 2 rfl
  have f3 : w5.cell? ⟨w3.heap.size, 3, none⟩ = some (.bool H.mf) := S.cell 0 rfl 3 rfl
  have f4 : w5.cell? ⟨w3.heap.size, 4, none⟩ = some (.int .i64 H.off) := S.cell 0 rfl 4 rfl
  have f5 : w5.cell? ⟨w3.heap.size, 5, none⟩ = some (.int .u8 H.ttl) := S.cell 0 rfl 5 rfl
  have f6 : w5.cell? ⟨w3.heap.size, 6, none⟩ = some (.int .u8 H.proto) := S.cell 0 rfl 6 rfl
  have f7 : w5.cell? ⟨w3.heap.size, 7, none⟩ = some (.int .u32 H.src) := S.cell 0 rfl 7 rfl
  have f8 : w5.cell? ⟨w3.heap.size, 8, none⟩ = some (.int .u32 H.dst) := S.cell 0 rfl 8 rfl
  have f9 : w5.cell? ⟨w3.heap.size, 9, none⟩ = some (.slice Ao on oc) := S.cell 0 rfl 9 rfl
  obtain ⟨y0, y1⟩ := hway
  have q0 := hq.1
  have q1 := hq.2
  obtain ⟨v, hv⟩ : ∃ v, v = way % 12 := ⟨_, rfl⟩
  have hv' : way % 12 = v := hv.symm
  have hv2 : way.tmod 12 = v := by rw [Int.tmod_eq_emod_of_nonneg (by omega)]; exact hv'
  have hv12 : v = 0 ∨ v = 1 ∨ v = 2 ∨ v = 3 ∨ v = 4 ∨ v = 5 := by omega
  clear hv hv6
  obtain ⟨g5, rfl, hg5, _⟩ := (S.own 1 rfl).form (by omega)
  have H5 := Lib.hid S
  clear S
  obtain ⟨m1, hm1, hm1'⟩ : ∃ m, (if (-1 : Int) < q then (-1 : Int) else q) = m ∧ m ≤ -1 := ⟨_, rfl, by split <;> omega⟩
  obtain ⟨m2, hm2, hm2'⟩ : ∃ m, (if q < (65516 : Int) then (65516 : Int) else q) = m ∧ 65516 ≤ m := ⟨_, rfl, by split <;> omega⟩
  have b1 : -9223372036854775808 ≤ m1 := by rw [← hm1]; split <;> omega
  have b2 : m2 ≤ 9223372036854775807 := by rw [← hm2]; split <;> omega
  rcases hv12 with rfl | rfl | rfl | rfl | rfl | rfl
  · go_upto_region 10 with fail
    clear f0 f1 f2 f3 f4 f5 f6 f7 f8 f9
    have S1 := Lib.hid (H5.out.alloc 30 (H.cells (.slice Ao on oc)))
    rw [show w5.alloc (.cells #[.int .u8 H.tos, .int .u16 H.id, .bool H.df, .bool H.mf, .int .i64 H.off, .int .u8 H.ttl, .int .u8 H.proto, .int .u32 H.src, .int .u32 H.dst, .slice Ao on oc] 30) = w5.alloc (.cells (H.cells (.slice Ao on oc)) 30) from rfl]
    generalize hw6 : w5.alloc (.cells (H.cells (.slice Ao on oc)) 30) = w6 at S1 ⊢
    clear hw6
    generalize w5.heap.size = N at S1 ⊢
    have k4 : w6.cell? ⟨N, 4, none⟩ = some (.int .i64 H.off) := S1.out.cell 2 rfl 4 rfl
    have z4 := S1.out.free 2 rfl 4
    go_upto_region 22 with fail
    have T0 : SP w3 (w6.setCell ⟨N, 4, none⟩ (.int .i64 m1)) [.blk w3.heap.size 30 (H.cells (.slice Ao on oc)), .own .u8 5 (some ⟨g5, 0, none⟩) n5 c5 (pktB H opts data), .blk N 30 (({ H with off := m1 } : HD).cells (.slice Ao on oc))] := S1.out.setB 2 rfl 4 (.int .i64 m1)
    generalize hw7 : w6.setCell ⟨N, 4, none⟩ (.int .i64 m1) = w7 at T0 ⊢
    have T := Lib.hid T0
    clear T0 hw7 k4 z4 S1
    have HNOT := Lib.hid (show ¬ Rightly (({ H with off := m1 } : HD)).off (({ H with off := m1 } : HD)).mf on ((dn : Nat) : Int) from fun hr => by have h1 : 0 ≤ m1 := hr.2.1; omega)
    have HOFF := Lib.hid (show -9223372036854775808 ≤ (({ H with off := m1 } : HD)).off ∧ (({ H with off := m1 } : HD)).off ≤ 9223372036854775807 from ⟨by show -9223372036854775808 ≤ m1; omega, by show m1 ≤ 9223372036854775807; omega⟩)
    go_wp2_with (refine wpList_load_row rfl 30 _ rfl N rfl 30 ((({ H with off := m1 } : HD)).cells (.slice Ao on oc)) (0, 0) _ (T.out.blk 2 rfl) Try.underlying30 rfl (by kernel_rfl) ?_)
    refine (write_no (({ H with off := m1 } : HD)) Ao on oc Ad (dn) dc _ HOFF.out (by omega) (by omega) HNOT.out).mono ?_
    rintro e wy ⟨rfl, hby⟩
    have TY := Lib.hid (T.out.next hby)
    clear hby T
    go_wp2_with (refine wpList_load_row_w 30 _ rfl (by rfl) N rfl 30 ((({ H with off := m1 } : HD)).cells (.slice Ao on oc)) (0, 0) _ (TY.out.blk 2 rfl) Try.underlying30 rfl (by kernel_rfl) ?_)
    refine (ipRight_any (({ H with off := m1 } : HD)) Ao on oc ((dn : Nat) : Int) _ HOFF.out (by omega) (by omega)).mono ?_
    rintro e wz ⟨rfl, hbz⟩
    rw [rightB_no HNOT.out]
    have TZ := Lib.hid (TY.out.next hbz)
    clear hbz TY
    go_wp2_with (refine wpList_load_row_w 30 _ rfl (by rfl) w3.heap.size rfl 30 (H.cells (.slice Ao on oc)) (0, 0) _ (TZ.out.blk 0 rfl) Try.underlying30 rfl (by kernel_rfl) ?_)
    refine (ipRight_any H Ao on oc m1 _ hwf.off (by omega) (by omega)).mono ?_
    rintro e wu ⟨rfl, hbu⟩
    rw [rightB_no (not_neg (by omega))]
    have TU := Lib.hid (TZ.out.next hbu)
    clear hbu TZ
    go_wp2_with (refine wpList_load_row_w 30 _ rfl (by rfl) w3.heap.size rfl 30 (H.cells (.slice Ao on oc)) (0, 0) _ (TU.out.blk 0 rfl) Try.underlying30 rfl (by kernel_rfl) ?_)
    refine (ipRight_any H Ao on oc m2 _ hwf.off (by omega) (by omega)).mono ?_
    rintro e wt ⟨rfl, hbt⟩
    rw [rightB_no (not_big (by omega))]
    have TT := Lib.hid (TU.out.next hbt)
    clear hbt TU
    go_wp2_with fail
    go_ret
    exact ⟨rfl, hbw.trans (TT.out.bel.mono hbw.size)⟩
  · go_upto_region 10 with fail
    clear f0 f1 f2 f3 f4 f5 f6 f7 f8 f9
    have S1 := Lib.hid (H5.out.alloc 30 (H.cells (.slice Ao on oc)))
    rw [show w5.alloc (.cells #[.int .u8 H.tos, .int .u16 H.id, .bool H.df, .bool H.mf, .int .i64 H.off, .int .u8 H.ttl, .int .u8 H.proto, .int .u32 H.src, .int .u32 H.dst, .slice Ao on oc] 30) = w5.alloc (.cells (H.cells (.slice Ao on oc)) 30) from rfl]
    generalize hw6 : w5.alloc (.cells (H.cells (.slice Ao on oc)) 30) = w6 at S1 ⊢
    clear hw6
    generalize w5.heap.size = N at S1 ⊢
    have k4 : w6.cell? ⟨N, 4, none⟩ = some (.int .i64 H.off) := S1.out.cell 2 rfl 4 rfl
    have z4 := S1.out.free 2 rfl 4
    go_upto_region 22 with fail
    have T0 : SP w3 (w6.setCell ⟨N, 4, none⟩ (.int .i64 m2)) [.blk w3.heap.size 30 (H.cells (.slice Ao on oc)), .own .u8 5 (some ⟨g5, 0, none⟩) n5 c5 (pktB H opts data), .blk N 30 (({ H with off := m2 } : HD).cells (.slice Ao on oc))] := S1.out.setB 2 rfl 4 (.int .i64 m2)
    generalize hw7 : w6.setCell ⟨N, 4, none⟩ (.int .i64 m2) = w7 at T0 ⊢
    have T := Lib.hid T0
    clear T0 hw7 k4 z4 S1
    have HNOT := Lib.hid (show ¬ Rightly (({ H with off := m2 } : HD)).off (({ H with off := m2 } : HD)).mf on ((dn : Nat) : Int) from fun hr => by have h1 : m2 + ((dn : Nat) : Int) ≤ 65515 := hr.2.2.2.2.2.2.2.1; omega)
    have HOFF := Lib.hid (show -9223372036854775808 ≤ (({ H with off := m2 } : HD)).off ∧ (({ H with off := m2 } : HD)).off ≤ 9223372036854775807 from ⟨by show -9223372036854775808 ≤ m2; omega, by show m2 ≤ 9223372036854775807; omega⟩)
    go_wp2_with (refine wpList_load_row rfl 30 _ rfl N rfl 30 ((({ H with off := m2 } : HD)).cells (.slice Ao on oc)) (0, 0) _ (T.out.blk 2 rfl) Try.underlying30 rfl (by kernel_rfl) ?_)
    refine (write_no (({ H with off := m2 } : HD)) Ao on oc Ad (dn) dc _ HOFF.out (by omega) (by omega) HNOT.out).mono ?_
    rintro e wy ⟨rfl, hby⟩
    have TY := Lib.hid (T.out.next hby)
    clear hby T
    go_wp2_with (refine wpList_load_row_w 30 _ rfl (by rfl) N rfl 30 ((({ H with off := m2 } : HD)).cells (.slice Ao on oc)) (0, 0) _ (TY.out.blk 2 rfl) Try.underlying30 rfl (by kernel_rfl) ?_)
    refine (ipRight_any (({ H with off := m2 } : HD)) Ao on oc ((dn : Nat) : Int) _ HOFF.out (by omega) (by omega)).mono ?_
    rintro e wz ⟨rfl, hbz⟩
    rw [rightB_no HNOT.out]
    have TZ := Lib.hid (TY.out.next hbz)
    clear hbz TY
    go_wp2_with (refine wpList_load_row_w 30 _ rfl (by rfl) w3.heap.size rfl 30 (H.cells (.slice Ao on oc)) (0, 0) _ (TZ.out.blk 0 rfl) Try.underlying30 rfl (by kernel_rfl) ?_)
    refine (ipRight_any H Ao on oc m1 _ hwf.off (by omega) (by omega)).mono ?_
    rintro e wu ⟨rfl, hbu⟩
    rw [rightB_no (not_neg (by omega))]
    have TU := Lib.hid (TZ.out.next hbu)
    clear hbu TZ
    go_wp2_with (refine wpList_load_row_w 30 _ rfl (by rfl) w3.heap.size rfl 30 (H.cells (.slice Ao on oc)) (0, 0) _ (TU.out.blk 0 rfl) Try.underlying30 rfl (by kernel_rfl) ?_)
    refine (ipRight_any H Ao on oc m2 _ hwf.off (by omega) (by omega)).mono ?_
    rintro e wt ⟨rfl, hbt⟩
    rw [rightB_no (not_big (by omega))]
    have TT := Lib.hid (TU.out.next hbt)
    clear hbt TU
    go_wp2_with fail
    go_ret
    exact ⟨rfl, hbw.trans (TT.out.bel.mono hbw.size)⟩
  · go_upto_region 10 with fail
    clear f0 f1 f2 f3 f4 f5 f6 f7 f8 f9
    have S1 := Lib.hid (H5.out.alloc 30 (H.cells (.slice Ao on oc)))
    rw [show w5.alloc (.cells #[.int .u8 H.tos, .int .u16 H.id, .bool H.df, .bool H.mf, .int .i64 H.off, .int .u8 H.ttl, .int .u8 H.proto, .int .u32 H.src, .int .u32 H.dst, .slice Ao on oc] 30) = w5.alloc (.cells (H.cells (.slice Ao on oc)) 30) from rfl]
    generalize hw6 : w5.alloc (.cells (H.cells (.slice Ao on oc)) 30) = w6 at S1 ⊢
    clear hw6
    generalize w5.heap.size = N at S1 ⊢
    obtain ⟨y, hy⟩ : ∃ y, bits .and .i64 q 6 = y := ⟨_, rfl⟩
    obtain ⟨yy0, yy1, yy2⟩ := and_six q
    rw [hy] at yy0 yy1 yy2
    obtain ⟨z, hz⟩ : ∃ z, bits .or .i64 H.off (1 + y) = z := ⟨_, rfl⟩
    obtain ⟨z0, z1', z2'⟩ := or_odd (a := H.off) (b := 1 + y) (by omega)
    rw [hz] at z0 z1' z2'
    have k4 : w6.cell? ⟨N, 4, none⟩ = some (.int .i64 H.off) := S1.out.cell 2 rfl 4 rfl
    have z4 := S1.out.free 2 rfl 4
    go_upto_region 22 with fail
    have T0 : SP w3 (w6.setCell ⟨N, 4, none⟩ (.int .i64 z)) [.blk w3.heap.size 30 (H.cells (.slice Ao on oc)), .own .u8 5 (some ⟨g5, 0, none⟩) n5 c5 (pktB H opts data), .blk N 30 (({ H with off := z } : HD).cells (.slice Ao on oc))] := S1.out.setB 2 rfl 4 (.int .i64 z)
    generalize hw7 : w6.setCell ⟨N, 4, none⟩ (.int .i64 z) = w7 at T0 ⊢
    have T := Lib.hid T0
    clear T0 hw7 k4 z4 S1
    have HNOT := Lib.hid (show ¬ Rightly (({ H with off := z } : HD)).off (({ H with off := z } : HD)).mf on ((dn : Nat) : Int) from fun hr => by have h1 : z % 8 = 0 := hr.1; omega)
    have HOFF := Lib.hid (show -9223372036854775808 ≤ (({ H with off := z } : HD)).off ∧ (({ H with off := z } : HD)).off ≤ 9223372036854775807 from ⟨by show -9223372036854775808 ≤ z; omega, by show z ≤ 9223372036854775807; omega⟩)
    go_wp2_with (refine wpList_load_row rfl 30 _ rfl N rfl 30 ((({ H with off := z } : HD)).cells (.slice Ao on oc)) (0, 0) _ (T.out.blk 2 rfl) Try.underlying30 rfl (by kernel_rfl) ?_)
    refine (write_no (({ H with off := z } : HD)) Ao on oc Ad (dn) dc _ HOFF.out (by omega) (by omega) HNOT.out).mono ?_
    rintro e wy ⟨rfl, hby⟩
    have TY := Lib.hid (T.out.next hby)
    clear hby T
    go_wp2_with (refine wpList_load_row_w 30 _ rfl (by rfl) N rfl 30 ((({ H with off := z } : HD)).cells (.slice Ao on oc)) (0, 0) _ (TY.out.blk 2 rfl) Try.underlying30 rfl (by kernel_rfl) ?_)
    refine (ipRight_any (({ H with off := z } : HD)) Ao on oc ((dn : Nat) : Int) _ HOFF.out (by omega) (by omega)).mono ?_
    rintro e wz ⟨rfl, hbz⟩
    rw [rightB_no HNOT.out]
    have TZ := Lib.hid (TY.out.next hbz)
    clear hbz TY
    go_wp2_with (refine wpList_load_row_w 30 _ rfl (by rfl) w3.heap.size rfl 30 (H.cells (.slice Ao on oc)) (0, 0) _ (TZ.out.blk 0 rfl) Try.underlying30 rfl (by kernel_rfl) ?_)
    refine (ipRight_any H Ao on oc m1 _ hwf.off (by omega) (by omega)).mono ?_
    rintro e wu ⟨rfl, hbu⟩
    rw [rightB_no (not_neg (by omega))]
    have TU := Lib.hid (TZ.out.next hbu)
    clear hbu TZ
    go_wp2_with (refine wpList_load_row_w 30 _ rfl (by rfl) w3.heap.size rfl 30 (H.cells (.slice Ao on oc)) (0, 0) _ (TU.out.blk 0 rfl) Try.underlying30 rfl (by kernel_rfl) ?_)
    refine (ipRight_any H Ao on oc m2 _ hwf.off (by omega) (by omega)).mono ?_
    rintro e wt ⟨rfl, hbt⟩
    rw [rightB_no (not_big (by omega))]
    have TT := Lib.hid (TU.out.next hbt)
    clear hbt TU
    go_wp2_with fail
    go_ret
    exact ⟨rfl, hbw.trans (TT.out.bel.mono hbw.size)⟩
  · go_upto_region 10 with fail
    clear f0 f1 f2 f3 f4 f5 f6 f7 f8 f9
    have S1 := Lib.hid (H5.out.alloc 30 (H.cells (.slice Ao on oc)))
    rw [show w5.alloc (.cells #[.int .u8 H.tos, .int .u16 H.id, .bool H.df, .bool H.mf, .int .i64 H.off, .int .u8 H.ttl, .int .u8 H.proto, .int .u32 H.src, .int .u32 H.dst, .slice Ao on oc] 30) = w5.alloc (.cells (H.cells (.slice Ao on oc)) 30) from rfl]
    generalize hw6 : w5.alloc (.cells (H.cells (.slice Ao on oc)) 30) = w6 at S1 ⊢
    clear hw6
    generalize w5.heap.size = N at S1 ⊢
    obtain ⟨y, hy⟩ : ∃ y, bits .and .i64 q 12 = y := ⟨_, rfl⟩
    obtain ⟨yy0, yy1, _⟩ := and_small q 12 (by decide)
    rw [show ((12 : Nat) : Int) = 12 from rfl, hy] at yy0 yy1
    obtain ⟨xn, hxn⟩ : ∃ xn : Nat, 44 + y = (xn : Int) := ⟨(44 + y).toNat, by omega⟩
    have hx44 : 44 ≤ xn := by omega
    have hx56 : xn ≤ 56 := by omega
    obtain ⟨w7, hrun, own7, hb7, hs7⟩ := run_make_cap (P := Try.prog) (k := .u8) w6 23 i0 Try.underlying23 hi hz0 hz1 (by omega) (xn : Int) (xn : Int) xn xn rfl rfl (Nat.le_refl _) (by omega)
    have S2 := Lib.hid (S1.out.next hb7)
    have k9 : w7.cell? ⟨N, 9, none⟩ = some (.slice Ao on oc) := S2.out.cell 2 rfl 9 rfl
    have z9 := S2.out.free 2 rfl 9
    clear own7 hb7 hs7
    go_upto_region 22 with fail
    clear k9 z9 hrun hxn hy
    have T0 : SP w3 (w7.setCell ⟨N, 9, none⟩ (.slice (some ⟨w6.heap.size, 0, none⟩) xn xn)) [.blk w3.heap.size 30 (H.cells (.slice Ao on oc)), .own .u8 5 (some ⟨g5, 0, none⟩) n5 c5 (pktB H opts data), .blk N 30 (H.cells (.slice (some ⟨w6.heap.size, 0, none⟩) xn xn))] := S2.out.setB 2 rfl 9 (.slice (some ⟨w6.heap.size, 0, none⟩) xn xn)
    generalize hw8 : w7.setCell ⟨N, 9, none⟩ (.slice (some ⟨w6.heap.size, 0, none⟩) xn xn) = w8 at T0 ⊢
    have T := Lib.hid T0
    clear T0 hw8 S2
    have HNOT := Lib.hid (show ¬ Rightly (H).off (H).mf xn ((dn : Nat) : Int) from fun hr => by have h1 : xn ≤ 40 := hr.2.2.2.1; omega)
    have HOFF := Lib.hid (show -9223372036854775808 ≤ (H).off ∧ (H).off ≤ 9223372036854775807 from hwf.off)
    go_wp2_with (refine wpList_load_row rfl 30 _ rfl N rfl 30 ((H).cells (.slice (some ⟨w6.heap.size, 0, none⟩) xn xn)) (0, 0) _ (T.out.blk 2 rfl) Try.underlying30 rfl (by kernel_rfl) ?_)
    refine (write_no (H) (some ⟨w6.heap.size, 0, none⟩) xn xn Ad (dn) dc _ HOFF.out (by omega) (by omega) HNOT.out).mono ?_
    rintro e wy ⟨rfl, hby⟩
    have TY := Lib.hid (T.out.next hby)
    clear hby T
    go_wp2_with (refine wpList_load_row_w 30 _ rfl (by rfl) N rfl 30 ((H).cells (.slice (some ⟨w6.heap.size, 0, none⟩) xn xn)) (0, 0) _ (TY.out.blk 2 rfl) Try.underlying30 rfl (by kernel_rfl) ?_)
    refine (ipRight_any (H) (some ⟨w6.heap.size, 0, none⟩) xn xn ((dn : Nat) : Int) _ HOFF.out (by omega) (by omega)).mono ?_
    rintro e wz ⟨rfl, hbz⟩
    rw [rightB_no HNOT.out]
    have TZ := Lib.hid (TY.out.next hbz)
    clear hbz TY
    go_wp2_with (refine wpList_load_row_w 30 _ rfl (by rfl) w3.heap.size rfl 30 (H.cells (.slice Ao on oc)) (0, 0) _ (TZ.out.blk 0 rfl) Try.underlying30 rfl (by kernel_rfl) ?_)
    refine (ipRight_any H Ao on oc m1 _ hwf.off (by omega) (by omega)).mono ?_
    rintro e wu ⟨rfl, hbu⟩
    rw [rightB_no (not_neg (by omega))]
    have TU := Lib.hid (TZ.out.next hbu)
    clear hbu TZ
    go_wp2_with (refine wpList_load_row_w 30 _ rfl (by rfl) w3.heap.size rfl 30 (H.cells (.slice Ao on oc)) (0, 0) _ (TU.out.blk 0 rfl) Try.underlying30 rfl (by kernel_rfl) ?_)
    refine (ipRight_any H Ao on oc m2 _ hwf.off (by omega) (by omega)).mono ?_
    rintro e wt ⟨rfl, hbt⟩
    rw [rightB_no (not_big (by omega))]
    have TT := Lib.hid (TU.out.next hbt)
    clear hbt TU
    go_wp2_with fail
    go_ret
    exact ⟨rfl, hbw.trans (TT.out.bel.mono hbw.size)⟩
  · go_upto_region 10 with fail
    clear f0 f1 f2 f3 f4 f5 f6 f7 f8 f9
    have S1 := Lib.hid (H5.out.alloc 30 (H.cells (.slice Ao on oc)))
    rw [show w5.alloc (.cells #[.int .u8 H.tos, .int .u16 H.id, .bool H.df, .bool H.mf, .int .i64 H.off, .int .u8 H.ttl, .int .u8 H.proto, .int .u32 H.src, .int .u32 H.dst, .slice Ao on oc] 30) = w5.alloc (.cells (H.cells (.slice Ao on oc)) 30) from rfl]
    generalize hw6 : w5.alloc (.cells (H.cells (.slice Ao on oc)) 30) = w6 at S1 ⊢
    clear hw6
    generalize w5.heap.size = N at S1 ⊢
    obtain ⟨y, hy⟩ : ∃ y, bits .and .i64 q 1 = y := ⟨_, rfl⟩
    obtain ⟨yy0, yy1, _⟩ := and_small q 1 (by decide)
    rw [show ((1 : Nat) : Int) = 1 from rfl, hy] at yy0 yy1
    obtain ⟨xn, hxn⟩ : ∃ xn : Nat, 1 + y = (xn : Int) := ⟨(1 + y).toNat, by omega⟩
    have hx1 : 1 ≤ xn := by omega
    have hx2 : xn ≤ 2 := by omega
    have k9 : w6.cell? ⟨N, 9, none⟩ = some (.slice Ao on oc) := S1.out.cell 2 rfl 9 rfl
    have i1 : (0 : Int) ≤ (on : Int) := by omega
    have i2 : (on : Int) ≤ (oc : Int) := by omega
    have hon4 : on % 4 = 0 := HRR.out.2.2.2.2.1
    go_upto_region 22 with (at_builtin; refine wpList_append_zeros_opt _ rfl _ _ _ _ rfl 5 i0 .i64 Try.underlying23 Try.underlying3 hi hz0 hz1 hz2 Ao on xn _ (by first | exact hxn | rfl) (by omega) opts rfl rfl ((ro.below S1.out.bel).more S1.out.size) (by omega) ?_; intro A7 c7 w7 hc7 hc7' hb7; have S2 := Lib.hid (S1.out.next hb7); have k9' : w7.cell? ⟨N, 9, none⟩ = some (.slice Ao on oc) := S2.out.cell 2 rfl 9 rfl; have z9' := S2.out.free 2 rfl 9; clear hb7 S1)
    clear k9 k9' z9' hxn hy i1 i2
    have T0 : SP w3 (w7.setCell ⟨N, 9, none⟩ (.slice A7 (on + xn) c7)) [.blk w3.heap.size 30 (H.cells (.slice Ao on oc)), .own .u8 5 (some ⟨g5, 0, none⟩) n5 c5 (pktB H opts data), .blk N 30 (H.cells (.slice A7 (on + xn) c7))] := S2.out.setB 2 rfl 9 (.slice A7 (on + xn) c7)
    generalize hw8 : w7.setCell ⟨N, 9, none⟩ (.slice A7 (on + xn) c7) = w8 at T0 ⊢
    have T := Lib.hid T0
    clear T0 hw8 S2
    have HNOT := Lib.hid (show ¬ Rightly (H).off (H).mf (on + xn) ((dn : Nat) : Int) from fun hr => by have h1 : (on + xn) % 4 = 0 := hr.2.2.2.2.1; omega)
    have HOFF := Lib.hid (show -9223372036854775808 ≤ (H).off ∧ (H).off ≤ 9223372036854775807 from hwf.off)
    go_wp2_with (refine wpList_load_row rfl 30 _ rfl N rfl 30 ((H).cells (.slice A7 (on + xn) c7)) (0, 0) _ (T.out.blk 2 rfl) Try.underlying30 rfl (by kernel_rfl) ?_)
    refine (write_no (H) A7 (on + xn) c7 Ad (dn) dc _ HOFF.out (by omega) (by omega) HNOT.out).mono ?_
    rintro e wy ⟨rfl, hby⟩
    have TY := Lib.hid (T.out.next hby)
    clear hby T
    go_wp2_with (refine wpList_load_row_w 30 _ rfl (by rfl) N rfl 30 ((H).cells (.slice A7 (on + xn) c7)) (0, 0) _ (TY.out.blk 2 rfl) Try.underlying30 rfl (by kernel_rfl) ?_)
    refine (ipRight_any (H) A7 (on + xn) c7 ((dn : Nat) : Int) _ HOFF.out (by omega) (by omega)).mono ?_
    rintro e wz ⟨rfl, hbz⟩
    rw [rightB_no HNOT.out]
    have TZ := Lib.hid (TY.out.next hbz)
    clear hbz TY
    go_wp2_with (refine wpList_load_row_w 30 _ rfl (by rfl) w3.heap.size rfl 30 (H.cells (.slice Ao on oc)) (0, 0) _ (TZ.out.blk 0 rfl) Try.underlying30 rfl (by kernel_rfl) ?_)
    refine (ipRight_any H Ao on oc m1 _ hwf.off (by omega) (by omega)).mono ?_
    rintro e wu ⟨rfl, hbu⟩
    rw [rightB_no (not_neg (by omega))]
    have TU := Lib.hid (TZ.out.next hbu)
    clear hbu TZ
    go_wp2_with (refine wpList_load_row_w 30 _ rfl (by rfl) w3.heap.size rfl 30 (H.cells (.slice Ao on oc)) (0, 0) _ (TU.out.blk 0 rfl) Try.underlying30 rfl (by kernel_rfl) ?_)
    refine (ipRight_any H Ao on oc m2 _ hwf.off (by omega) (by omega)).mono ?_
    rintro e wt ⟨rfl, hbt⟩
    rw [rightB_no (not_big (by omega))]
    have TT := Lib.hid (TU.out.next hbt)
    clear hbt TU
    go_wp2_with fail
    go_ret
    exact ⟨rfl, hbw.trans (TT.out.bel.mono hbw.size)⟩
  · go_upto_region 10 with fail
    clear f0 f1 f2 f3 f4 f5 f6 f7 f8 f9
    have S1 := Lib.hid (H5.out.alloc 30 (H.cells (.slice Ao on oc)))
    rw [show w5.alloc (.cells #[.int .u8 H.tos, .int .u16 H.id, .bool H.df, .bool H.mf, .int .i64 H.off, .int .u8 H.ttl, .int .u8 H.proto, .int .u32 H.src, .int .u32 H.dst, .slice Ao on oc] 30) = w5.alloc (.cells (H.cells (.slice Ao on oc)) 30) from rfl]
    generalize hw6 : w5.alloc (.cells (H.cells (.slice Ao on oc)) 30) = w6 at S1 ⊢
    clear hw6
    generalize w5.heap.size = N at S1 ⊢
    obtain ⟨m8, hm8⟩ : ∃ m8 : Nat, (dn : Int) / 8 * 8 = (m8 : Int) := ⟨dn / 8 * 8, by omega⟩
    have h88 : m8 % 8 = 0 := by omega
    have h8d : m8 ≤ dn := by omega
    have i1 : (0 : Int) ≤ (m8 : Int) := by omega
    have i2 : (m8 : Int) ≤ (dc : Int) := by omega
    have SL := Lib.hid (S1.out.allocI .u8 5 [1, 2, 3] (by simp [maxLen]))
    have k3 : w6.cell? ⟨N, 3, none⟩ = some (.bool H.mf) := S1.out.cell 2 rfl 3 rfl
    go_upto_region 22 with (at_builtin; refine wpList_append_full _ rfl _ _ _ rfl .u8 5 i0 1 Try.underlying23 hi hz0 hz1 hz2 Ad m8 (data.take m8) rfl _ (((rdd.below SL.out.bel).more SL.out.size).take h8d) _ (some ⟨w6.heap.size, 0, none⟩) 3 3 [1, 2, 3] rfl (SL.out.rd 3 rfl) (by simp only [maxLen]; omega) (by omega) (Nat.le_refl _) ?_; intro A7 c7 w7 rd7 hc7 hc7' hb7; have S2 := Lib.hid (SL.out.next hb7); have k3' : w7.cell? ⟨N, 3, none⟩ = some (.bool H.mf) := S2.out.cell 2 rfl 3 rfl; have z3' := S2.out.free 2 rfl 3; clear hb7 rd7)
    clear k3 k3' z3' hm8 i1 i2 S1 SL
    have T0 : SP w3 (w7.setCell ⟨N, 3, none⟩ (.bool true)) [.blk w3.heap.size 30 (H.cells (.slice Ao on oc)), .own .u8 5 (some ⟨g5, 0, none⟩) n5 c5 (pktB H opts data), .blk N 30 (({ H with mf := true } : HD).cells (.slice Ao on oc))] := (S2.out.setB 2 rfl 3 (.bool true)).pick [0, 1, 2] (by decide) rfl
    generalize hw8 : w7.setCell ⟨N, 3, none⟩ (.bool true) = w8 at T0 ⊢
    have T := Lib.hid T0
    clear T0 hw8 S2
    have HNOT := Lib.hid (show ¬ Rightly (({ H with mf := true } : HD)).off (({ H with mf := true } : HD)).mf on ((m8 + 3 : Nat) : Int) from fun hr => by have h1 := (hr.2.2.2.2.2.2.2.2 rfl).2; omega)
    have HOFF := Lib.hid (show -9223372036854775808 ≤ (({ H with mf := true } : HD)).off ∧ (({ H with mf := true } : HD)).off ≤ 9223372036854775807 from hwf.off)
    go_wp2_with (refine wpList_load_row rfl 30 _ rfl N rfl 30 ((({ H with mf := true } : HD)).cells (.slice Ao on oc)) (0, 0) _ (T.out.blk 2 rfl) Try.underlying30 rfl (by kernel_rfl) ?_)
    refine (write_no (({ H with mf := true } : HD)) Ao on oc A7 (m8 + 3) c7 _ HOFF.out (by omega) (by omega) HNOT.out).mono ?_
    rintro e wy ⟨rfl, hby⟩
    have TY := Lib.hid (T.out.next hby)
    clear hby T
    go_wp2_with (refine wpList_load_row_w 30 _ rfl (by rfl) N rfl 30 ((({ H with mf := true } : HD)).cells (.slice Ao on oc)) (0, 0) _ (TY.out.blk 2 rfl) Try.underlying30 rfl (by kernel_rfl) ?_)
    refine (ipRight_any (({ H with mf := true } : HD)) Ao on oc ((m8 + 3 : Nat) : Int) _ HOFF.out (by omega) (by omega)).mono ?_
    rintro e wz ⟨rfl, hbz⟩
    rw [rightB_no HNOT.out]
    have TZ := Lib.hid (TY.out.next hbz)
    clear hbz TY
    go_wp2_with (refine wpList_load_row_w 30 _ rfl (by rfl) w3.heap.size rfl 30 (H.cells (.slice Ao on oc)) (0, 0) _ (TZ.out.blk 0 rfl) Try.underlying30 rfl (by kernel_rfl) ?_)
    refine (ipRight_any H Ao on oc m1 _ hwf.off (by omega) (by omega)).mono ?_
    rintro e wu ⟨rfl, hbu⟩
    rw [rightB_no (not_neg (by omega))]
    have TU := Lib.hid (TZ.out.next hbu)
    clear hbu TZ
    go_wp2_with (refine wpList_load_row_w 30 _ rfl (by rfl) w3.heap.size rfl 30 (H.cells (.slice Ao on oc)) (0, 0) _ (TU.out.blk 0 rfl) Try.underlying30 rfl (by kernel_rfl) ?_)
    refine (ipRight_any H Ao on oc m2 _ hwf.off (by omega) (by omega)).mono ?_
    rintro e wt ⟨rfl, hbt⟩
    rw [rightB_no (not_big (by omega))]
    have TT := Lib.hid (TU.out.next hbt)
    clear hbt TU
    go_wp2_with fail
    go_ret
    exact ⟨rfl, hbw.trans (TT.out.bel.mono hbw.size)⟩
set_option maxHeartbeats 4000000 in
set_option maxRecDepth 100000 in
theorem ipWrongB (h0 h1 h2 h3 h4 h5 h6 h7 h8 h9 h10 h11 words far many : Int) (df mf : Bool) (A : Option Addr) (n c : Nat) (zs : List Int) (way q : Int) (w : World) (hb : BD 255 [h0, h1, h2, h3, h4, h5, h6, h7, h8, h9, h10, h11]) (hw : 0 ≤ words ∧ words ≤ 255) (hf : 0 ≤ far ∧ far ≤ 255) (hm : 0 ≤ many ∧ many ≤ 255) (h : ROW .u8 255 w A n c zs) (hway : 0 ≤ way ∧ way ≤ 255) (hq : -9223372036854775808 ≤ q ∧ q ≤ 9223372036854775807) (hv6 : ¬ way % 12 < 6) :
    Calls Try.prog 11 #[.agg (sm18 h0 h1 h2 h3 h4 h5 h6 h7 h8 h9 h10 h11 words far many df mf (.slice A n c)), .int .u8 way, .int .i64 q] w fun e w' => e = .returned (.bool true) ∧ Below w.heap.size w w' := by
  obtain ⟨i0, hi, hz0, hz1, hz2⟩ := info_parts infoU8
  have H0 := (SP.start w).alloc 25 (sm18 h0 h1 h2 h3 h4 h5 h6 h7 h8 h9 h10 h11 words far many df mf (.slice A n c))
  unfold sm18
  go_enter Try.func11, Try.ntmps11
  go_wp2_with fail
  rw [show w.alloc (.cells #[.int .u8 h0, .int .u8 h1, .int .u8 h2, .int .u8 h3, .int .u8 h4, .int .u8 h5, .int .u8 h6, .int .u8 h7, .int .u8 h8, .int .u8 h9, .int .u8 h10, .int .u8 h11, .int .u8 words, .int .u8 far, .int .u8 many, .bool df, .bool mf, .slice A n c] 25) = w.alloc (.cells (sm18 h0 h1 h2 h3 h4 h5 h6 h7 h8 h9 h10 h11 words far many df mf (.slice A n c)) 25) from rfl]
  generalize w.alloc (.cells (sm18 h0 h1 h2 h3 h4 h5 h6 h7 h8 h9 h10 h11 words far many df mf (.slice A n c)) 25) = w1 at H0 ⊢
  refine (awake5_any _).mono ?_
  rintro e w2 ⟨rfl, hb2⟩
  replace H0 := H0.next hb2
  clear hb2
  have HK := Lib.hid (H0.blk 0 rfl)
  have HI := H0
  clear H0
  have H0 := Lib.hid HI
  clear HI
  go_wp2_with (refine wpList_load_row rfl 25 _ rfl w.heap.size rfl 25 (sm18 h0 h1 h2 h3 h4 h5 h6 h7 h8 h9 h10 h11 words far many df mf (.slice A n c)) (0, 0) _ HK.out Try.underlying25 rfl (by kernel_rfl) ?_)
  refine (made5_any h0 h1 h2 h3 h4 h5 h6 h7 h8 h9 h10 h11 words far many df mf A n c zs _ hb hw hf hm (h.rd.later H0.out.bel) h.bd h.le h.cap).mono ?_
  rintro e w3 ⟨H, Ao, on, oc, opts, Ad, dn, dc, data, rfl, hwf, hr, ownO, bo, ownD, bd, hdn, hb3⟩
  have hbw : Below w.heap.size w w3 := H0.out.bel.trans (hb3.mono H0.out.size)
  clear H0 HK hb3 h hb hw hf hm
  have ro := ownO.rd
  have rdd := ownD.rd
  have hoc := ownO.le
  have hdc := ownD.le
  have hon := ownO.len
  have hdl := ownD.len
  have HR := Lib.hid (show Rightly H.off H.mf opts.length data.length by rw [hon, hdl]; exact hr)
  have HON := Lib.hid hon
  have HDL := Lib.hid hdl
  have hon40 : on ≤ 40 := hr.2.2.2.1
  have HRR := Lib.hid hr
  have S := SP.start w3
  clear ownO ownD hon hdl hr
  unfold HD.val HD.cells
  go_wp2_with fail
  replace S := S.alloc 30 (H.cells (.slice Ao on oc))
  rw [show w3.alloc (.cells #[.int .u8 H.tos, .int .u16 H.id, .bool H.df, .bool H.mf, .int .i64 H.off, .int .u8 H.ttl, .int .u8 H.proto, .int .u32 H.src, .int .u32 H.dst, .slice Ao on oc] 30) = w3.alloc (.cells (H.cells (.slice Ao on oc)) 30) from rfl]
  generalize w3.alloc (.cells (H.cells (.slice Ao on oc)) 30) = w4 at S ⊢
  refine (write_yes H Ao on oc opts Ad dn dc data _ hwf ((ro.below S.bel).more S.size) bo ((rdd.below S.bel).more S.size) HRR.out).mono ?_
  rintro e w5 ⟨A5, n5, c5, rfl, own5, hb5⟩
  have hn5 := own5.len
  rw [pkt_len, HON.out, HDL.out] at hn5
  have HN5 := Lib.hid hn5
  have hn5a : 20 ≤ n5 := by omega
  have hn5b : n5 ≤ 140 := by omega
  have hle5 := own5.le
  have hpb : BD 255 (pktB H opts data) := pkt_bd hwf bo (by rw [HON.out]; exact hon40) bd
  replace S := S.pushOwn hb5 own5
  clear hb5 own5 hn5
  have f0 : w5.cell? ⟨w3.heap.size, 0, none⟩ = some (.int .u8 H.tos) := S.cell 0 rfl 0 rfl
  have f1 : w5.cell? ⟨w3.heap.size, 1, none⟩ = some (.int .u16 H.id) := S.cell 0 rfl 1 rfl
  have f2 : w5.cell? ⟨w3.heap.size, 2, none⟩ = some (.bool H.df) := S.cell 0 rfl 2 rfl
  have f3 : w5.cell? ⟨w3.heap.size, 3, none⟩ = some (.bool H.mf) := S.cell 0 rfl 3 rfl
  have f4 : w5.cell? ⟨w3.heap.size, 4, none⟩ = some (.int .i64 H.off) := S.cell 0 rfl 4 rfl
  have f5 : w5.cell? ⟨w3.heap.size, 5, none⟩ = some (.int .u8 H.ttl) := S.cell 0 rfl 5 rfl
  have f6 : w5.cell? ⟨w3.heap.size, 6, none⟩ = some (.int .u8 H.proto) := S.cell 0 rfl 6 rfl
  have f7 : w5.cell? ⟨w3.heap.size, 7, none⟩ = some (.int .u32 H.src) := S.cell 0 rfl 7 rfl
  have f8 : w5.cell? ⟨w3.heap.size, 8, none⟩ = some (.int .u32 H.dst) := S.cell 0 rfl 8 rfl
  have f9 : w5.cell? ⟨w3.heap.size, 9, none⟩ = some (.slice Ao on oc) := S.cell 0 rfl 9 rfl
  obtain ⟨y0, y1⟩ := hway
  have q0 := hq.1
  have q1 := hq.2
  obtain ⟨v, hv⟩ : ∃ v, v = way % 12 := ⟨_, rfl⟩
  have hv' : way % 12 = v := hv.symm
  have hv2 : way.tmod 12 = v := by rw [Int.tmod_eq_emod_of_nonneg (by omega)]; exact hv'
  have hv12 : v = 6 ∨ v = 7 ∨ v = 8 ∨ v = 9 ∨ v = 10 ∨ v = 11 := by omega
  clear hv hv6
  obtain ⟨g5, rfl, hg5, _⟩ := (S.own 1 rfl).form (by omega)
  have H5 := Lib.hid S
  clear S
  have h40 : on % 4 = 0 := HRR.out.2.2.2.2.1
  have hpl := Lib.hid (show (pktB H opts data).length = n5 by rw [pkt_len, HON.out, HDL.out]; exact HN5.out)
  have hlen5 : 20 + on + dn = n5 := HN5.out
  have HL5 := Lib.hid hlen5
  have hn520 : 20 + on ≤ n5 := by omega
  have hdn5 : n5 = 20 + on + dn := by omega
  have HDN := Lib.hid hdn5
  clear hlen5 hdn5
  rcases hv12 with rfl | rfl | rfl | rfl | rfl | rfl
  · go_upto_region 28 with fail
    clear f0 f1 f2 f3 f4 f5 f6 f7 f8 f9
    go_wp2_with fail
    refine (pick_any q (20) _ ⟨by omega, by omega⟩ hq).mono ?_
    rintro e wp ⟨⟨k, hk, rfl⟩, rfl⟩
    have i1 : (0 : Int) ≤ (k : Int) := by omega
    have i2 : (k : Int) ≤ (c5 : Int) := by omega
    have T0 := H5.out.cutO 1 rfl (m := k) (by omega)
    go_upto_region 41 with fail
    have T := Lib.hid T0
    clear T0 i1 i2
    have BR := Lib.hid (bad_read (zs := (pktB H opts data).take k) (k := 0) (bad_short (by rw [List.length_take]; omega)) (by omega))
    have HZB := Lib.hid (show BD 255 ((pktB H opts data).take k) from hpb.take k)
    have hn140 : k ≤ 140 := by omega
    have hnc5 : k ≤ c5 := by omega
    go_wp2_with fail
    refine (read_any _ (k) c5 ((pktB H opts data).take k) _ (T.out.rd 1 rfl) HZB.out hnc5 (by omega)).mono ?_
    rintro e wy ⟨Ay, ny, cy, rfl, owny, hby⟩
    rw [BR.out.1, BR.out.2.1, BR.out.2.2.1, BR.out.2.2.2.1]
    rw [BR.out.2.2.2.2.1] at owny
    have hny : ny = 0 := owny.len.symm
    subst hny
    have TY := Lib.hid ((T.out.pushOwn hby owny).alloc 30 (HD.zero.cells (.slice Ay 0 cy)))
    clear owny hby T
    unfold HD.val HD.cells
    go_upto_region 42 with fail
    rw [show wy.alloc (.cells #[.int .u8 HD.zero.tos, .int .u16 HD.zero.id, .bool HD.zero.df, .bool HD.zero.mf, .int .i64 HD.zero.off, .int .u8 HD.zero.ttl, .int .u8 HD.zero.proto, .int .u32 HD.zero.src, .int .u32 HD.zero.dst, .slice Ay 0 cy] 30) = wy.alloc (.cells (HD.zero.cells (.slice Ay 0 cy)) 30) from rfl]
    generalize hwz : wy.alloc (.cells (HD.zero.cells (.slice Ay 0 cy)) 30) = wz at TY ⊢
    clear hwz
    generalize wy.heap.size = NY at TY ⊢
    go_wp2_with fail
    refine (hop_any _ (k) c5 ((pktB H opts data).take k) _ (TY.out.rd 1 rfl) HZB.out hnc5 (by omega)).mono ?_
    rintro e wh ⟨Ah, nh, ch, rfl, ownh, hbh⟩
    rw [BR.out.2.2.2.2.2]
    have TH := Lib.hid (TY.out.next hbh)
    clear ownh hbh TY
    go_wp2_with fail
    refine (turn_any _ (k) c5 ((pktB H opts data).take k) _ (TH.out.rd 1 rfl) HZB.out hnc5 (by omega)).mono ?_
    rintro e wt ⟨At, nt, ct, rfl, ownt, hbt⟩
    rw [BR.out.1]
    have TT := Lib.hid (TH.out.next hbt)
    clear ownt hbt TH
    go_wp2_with (refine wpList_load_row_w 30 _ rfl (by rfl) NY rfl 30 (HD.zero.cells (.slice Ay 0 cy)) (0, 0) _ (TT.out.blk 3 rfl) Try.underlying30 rfl (by kernel_rfl) ?_)
    refine (same5_yes HD.zero Ay none 0 cy 0 0 [] _ (TT.out.rd 2 rfl) RD.nil (by omega) (by omega)).mono ?_
    rintro e ws ⟨rfl, hbs⟩
    have TS := Lib.hid (TT.out.next hbs)
    clear hbs TT
    go_wp2_with fail
    go_ret
    exact ⟨rfl, hbw.trans (TS.out.bel.mono hbw.size)⟩
  · go_upto_region 30 with fail
    clear f0 f1 f2 f3 f4 f5 f6 f7 f8 f9
    obtain ⟨e1, e2, e3⟩ := pk_first (H := H) (data := data) HON.out h40 hon40
    obtain ⟨b0, hb0⟩ : ∃ x, x = (pktB H opts data)[0]?.getD 0 := ⟨_, rfl⟩
    have hb0' : b0 = 64 + (20 + (on : Int)) / 4 := by rw [hb0]; exact e1
    have c0 : 69 ≤ b0 := by omega
    have c1 : b0 ≤ 79 := by omega
    have x0 : w5.cell? ⟨g5, 0, none⟩ = some (.int .u8 b0) := by rw [hb0]; exact (H5.out.own 1 rfl).cell (i := 0) (by omega)
    have z0 := (H5.out.own 1 rfl).frozen 0
    have i1 : (0 : Int) < (n5 : Int) := by omega
    have i2 : 0 < n5 := by omega
    have T0 := Lib.hid (fun x => H5.out.setO 1 rfl 0 x)
    clear e1 e2 e3 hb0 hb0'
    go_region_with ((go_at_call 27; refine (pick_any q 4 _ ⟨by omega, by omega⟩ hq).mono ?_; rintro e wp ⟨⟨k, hk, rfl⟩, rfl⟩))
    all_goals
      obtain ⟨x, hx⟩ : ∃ x, x = bits .xor .u8 b0 (IntKind.u8.wrap (16 * 2 ^ k)) := ⟨_, rfl⟩
      have hk4 : k < 4 := by omega
      have hxx : x / 16 ≠ 4 ∧ 0 ≤ x ∧ x ≤ 255 := by
        rw [hx, show IntKind.u8.wrap (16 * 2 ^ k) = 16 * 2 ^ k by rcases (show k = 0 ∨ k = 1 ∨ k = 2 ∨ k = 3 by omega) with rfl | rfl | rfl | rfl <;> rfl]
        exact flip_version c0 c1 hk4
      rw [← hx]
      have T1 := (T0.out x).drew
      clear hx x0 z0 i1 i2 hk hk4
      generalize (w5.setCell ⟨g5, 0, none⟩ (.int .u8 x)).drew = w7 at T1 ⊢
      have T := Lib.hid T1
      clear T1 T0
      have BR := Lib.hid (bad_read (zs := (pktB H opts data).set 0 x) (k := 1) (wr_version (by rw [hpl.out]; omega) hxx.1) (by omega))
      have HZB := Lib.hid (show BD 255 ((pktB H opts data).set 0 x) from set_bd 0 hpb ⟨hxx.2.1, hxx.2.2⟩)
      have hn140 : n5 ≤ 140 := hn5b
      have hnc5 : n5 ≤ c5 := hle5.1
      go_wp2_with fail
      refine (read_any _ (n5) c5 ((pktB H opts data).set 0 x) _ (T.out.rd 1 rfl) HZB.out hnc5 (by omega)).mono ?_
      rintro e wy ⟨Ay, ny, cy, rfl, owny, hby⟩
      rw [BR.out.1, BR.out.2.1, BR.out.2.2.1, BR.out.2.2.2.1]
      rw [BR.out.2.2.2.2.1] at owny
      have hny : ny = 0 := owny.len.symm
      subst hny
      have TY := Lib.hid ((T.out.pushOwn hby owny).alloc 30 (HD.zero.cells (.slice Ay 0 cy)))
      clear owny hby T
      unfold HD.val HD.cells
      go_upto_region 42 with fail
      rw [show wy.alloc (.cells #[.int .u8 HD.zero.tos, .int .u16 HD.zero.id, .bool HD.zero.df, .bool HD.zero.mf, .int .i64 HD.zero.off, .int .u8 HD.zero.ttl, .int .u8 HD.zero.proto, .int .u32 HD.zero.src, .int .u32 HD.zero.dst, .slice Ay 0 cy] 30) = wy.alloc (.cells (HD.zero.cells (.slice Ay 0 cy)) 30) from rfl]
      generalize hwz : wy.alloc (.cells (HD.zero.cells (.slice Ay 0 cy)) 30) = wz at TY ⊢
      clear hwz
      generalize wy.heap.size = NY at TY ⊢
      go_wp2_with fail
      refine (hop_any _ (n5) c5 ((pktB H opts data).set 0 x) _ (TY.out.rd 1 rfl) HZB.out hnc5 (by omega)).mono ?_
      rintro e wh ⟨Ah, nh, ch, rfl, ownh, hbh⟩
      rw [BR.out.2.2.2.2.2]
      have TH := Lib.hid (TY.out.next hbh)
      clear ownh hbh TY
      go_wp2_with fail
      refine (turn_any _ (n5) c5 ((pktB H opts data).set 0 x) _ (TH.out.rd 1 rfl) HZB.out hnc5 (by omega)).mono ?_
      rintro e wt ⟨At, nt, ct, rfl, ownt, hbt⟩
      rw [BR.out.1]
      have TT := Lib.hid (TH.out.next hbt)
      clear ownt hbt TH
      go_wp2_with (refine wpList_load_row_w 30 _ rfl (by rfl) NY rfl 30 (HD.zero.cells (.slice Ay 0 cy)) (0, 0) _ (TT.out.blk 3 rfl) Try.underlying30 rfl (by kernel_rfl) ?_)
      refine (same5_yes HD.zero Ay none 0 cy 0 0 [] _ (TT.out.rd 2 rfl) RD.nil (by omega) (by omega)).mono ?_
      rintro e ws ⟨rfl, hbs⟩
      have TS := Lib.hid (TT.out.next hbs)
      clear hbs TT
      go_wp2_with fail
      go_ret
      exact ⟨rfl, hbw.trans (TS.out.bel.mono hbw.size)⟩
  · go_upto_region 32 with fail
    clear f0 f1 f2 f3 f4 f5 f6 f7 f8 f9
    go_wp2_with fail
    refine (pick_any q (5) _ ⟨by omega, by omega⟩ hq).mono ?_
    rintro e wp ⟨⟨k, hk, rfl⟩, rfl⟩
    have u1 : IntKind.u8.wrap (k : Int) = (k : Int) := u8_in _ (by omega) (by omega)
    have u2 : bits .or .u8 64 (k : Int) = 64 + (k : Int) := u8_or_64 _ (by omega) (by omega)
    have x0 := (H5.out.own 1 rfl).cell (i := 0) (by omega)
    have z0 := (H5.out.own 1 rfl).frozen 0
    have i1 : (0 : Int) < (n5 : Int) := by omega
    have i2 : 0 < n5 := by omega
    have T0 := H5.out.setO 1 rfl 0 (64 + (k : Int))
    go_upto_region 41 with fail
    clear x0 z0 i1 i2 u1 u2
    generalize hw7 : w5.setCell ⟨g5, 0, none⟩ (.int .u8 (64 + (k : Int))) = w7 at T0 ⊢
    clear hw7
    have T := Lib.hid T0
    clear T0
    have BR := Lib.hid (bad_read (zs := (pktB H opts data).set 0 (64 + (k : Int))) (k := 2) (wr_header (by rw [hpl.out]; omega) (by omega) (by omega)) (by omega))
    have HZB := Lib.hid (show BD 255 ((pktB H opts data).set 0 (64 + (k : Int))) from set_bd 0 hpb (by omega))
    have hn140 : n5 ≤ 140 := hn5b
    have hnc5 : n5 ≤ c5 := hle5.1
    go_wp2_with fail
    refine (read_any _ (n5) c5 ((pktB H opts data).set 0 (64 + (k : Int))) _ (T.out.rd 1 rfl) HZB.out hnc5 (by omega)).mono ?_
    rintro e wy ⟨Ay, ny, cy, rfl, owny, hby⟩
    rw [BR.out.1, BR.out.2.1, BR.out.2.2.1, BR.out.2.2.2.1]
    rw [BR.out.2.2.2.2.1] at owny
    have hny : ny = 0 := owny.len.symm
    subst hny
    have TY := Lib.hid ((T.out.pushOwn hby owny).alloc 30 (HD.zero.cells (.slice Ay 0 cy)))
    clear owny hby T
    unfold HD.val HD.cells
    go_upto_region 42 with fail
    rw [show wy.alloc (.cells #[.int .u8 HD.zero.tos, .int .u16 HD.zero.id, .bool HD.zero.df, .bool HD.zero.mf, .int .i64 HD.zero.off, .int .u8 HD.zero.ttl, .int .u8 HD.zero.proto, .int .u32 HD.zero.src, .int .u32 HD.zero.dst, .slice Ay 0 cy] 30) = wy.alloc (.cells (HD.zero.cells (.slice Ay 0 cy)) 30) from rfl]
    generalize hwz : wy.alloc (.cells (HD.zero.cells (.slice Ay 0 cy)) 30) = wz at TY ⊢
    clear hwz
    generalize wy.heap.size = NY at TY ⊢
    go_wp2_with fail
    refine (hop_any _ (n5) c5 ((pktB H opts data).set 0 (64 + (k : Int))) _ (TY.out.rd 1 rfl) HZB.out hnc5 (by omega)).mono ?_
    rintro e wh ⟨Ah, nh, ch, rfl, ownh, hbh⟩
    rw [BR.out.2.2.2.2.2]
    have TH := Lib.hid (TY.out.next hbh)
    clear ownh hbh TY
    go_wp2_with fail
    refine (turn_any _ (n5) c5 ((pktB H opts data).set 0 (64 + (k : Int))) _ (TH.out.rd 1 rfl) HZB.out hnc5 (by omega)).mono ?_
    rintro e wt ⟨At, nt, ct, rfl, ownt, hbt⟩
    rw [BR.out.1]
    have TT := Lib.hid (TH.out.next hbt)
    clear ownt hbt TH
    go_wp2_with (refine wpList_load_row_w 30 _ rfl (by rfl) NY rfl 30 (HD.zero.cells (.slice Ay 0 cy)) (0, 0) _ (TT.out.blk 3 rfl) Try.underlying30 rfl (by kernel_rfl) ?_)
    refine (same5_yes HD.zero Ay none 0 cy 0 0 [] _ (TT.out.rd 2 rfl) RD.nil (by omega) (by omega)).mono ?_
    rintro e ws ⟨rfl, hbs⟩
    have TS := Lib.hid (TT.out.next hbs)
    clear hbs TT
    go_wp2_with fail
    go_ret
    exact ⟨rfl, hbw.trans (TS.out.bel.mono hbw.size)⟩
  · go_upto_region 34 with fail
    clear f0 f1 f2 f3 f4 f5 f6 f7 f8 f9
    go_wp2_with fail
    refine (pick_any q (20 + (on : Int) - 19) _ ⟨by omega, by omega⟩ hq).mono ?_
    rintro e wp ⟨⟨k, hk, rfl⟩, rfl⟩
    have i1 : (0 : Int) ≤ 20 + (k : Int) := by omega
    have i2 : 20 + (k : Int) ≤ (c5 : Int) := by omega
    have hkn : 20 + k ≤ n5 := by omega
    have e1 : (20 + (k : Int)).toNat = 20 + k := by omega
    by_cases hkk : k < on
    · have i3 : 20 + (k : Int) < 20 + (on : Int) := by omega
      have i4 : (k : Int) < (on : Int) := by omega
      have T0 := H5.out.cutO 1 rfl (m := 20 + k) hkn
      go_upto_region 41 with fail
      have T := Lib.hid T0
      clear T0 i1 i2 i3 i4 e1
      have BR := Lib.hid (bad_read (zs := (pktB H opts data).take (20 + k)) (k := 2) (wr_cut HON.out h40 hon40 (by omega) (by omega) (by rw [hpl.out]; omega)) (by omega))
      have HZB := Lib.hid (show BD 255 ((pktB H opts data).take (20 + k)) from hpb.take _)
      have hn140 : 20 + k ≤ 140 := by omega
      have hnc5 : 20 + k ≤ c5 := by omega
      go_wp2_with fail
      refine (read_any _ (20 + k) c5 ((pktB H opts data).take (20 + k)) _ (T.out.rd 1 rfl) HZB.out hnc5 (by omega)).mono ?_
      rintro e wy ⟨Ay, ny, cy, rfl, owny, hby⟩
      rw [BR.out.1, BR.out.2.1, BR.out.2.2.1, BR.out.2.2.2.1]
      rw [BR.out.2.2.2.2.1] at owny
      have hny : ny = 0 := owny.len.symm
      subst hny
      have TY := Lib.hid ((T.out.pushOwn hby owny).alloc 30 (HD.zero.cells (.slice Ay 0 cy)))
      clear owny hby T
      unfold HD.val HD.cells
      go_upto_region 42 with fail
      rw [show wy.alloc (.cells #[.int .u8 HD.zero.tos, .int .u16 HD.zero.id, .bool HD.zero.df, .bool HD.zero.mf, .int .i64 HD.zero.off, .int .u8 HD.zero.ttl, .int .u8 HD.zero.proto, .int .u32 HD.zero.src, .int .u32 HD.zero.dst, .slice Ay 0 cy] 30) = wy.alloc (.cells (HD.zero.cells (.slice Ay 0 cy)) 30) from rfl]
      generalize hwz : wy.alloc (.cells (HD.zero.cells (.slice Ay 0 cy)) 30) = wz at TY ⊢
      clear hwz
      generalize wy.heap.size = NY at TY ⊢
      go_wp2_with fail
      refine (hop_any _ (20 + k) c5 ((pktB H opts data).take (20 + k)) _ (TY.out.rd 1 rfl) HZB.out hnc5 (by omega)).mono ?_
      rintro e wh ⟨Ah, nh, ch, rfl, ownh, hbh⟩
      rw [BR.out.2.2.2.2.2]
      have TH := Lib.hid (TY.out.next hbh)
      clear ownh hbh TY
      go_wp2_with fail
      refine (turn_any _ (20 + k) c5 ((pktB H opts data).take (20 + k)) _ (TH.out.rd 1 rfl) HZB.out hnc5 (by omega)).mono ?_
      rintro e wt ⟨At, nt, ct, rfl, ownt, hbt⟩
      rw [BR.out.1]
      have TT := Lib.hid (TH.out.next hbt)
      clear ownt hbt TH
      go_wp2_with (refine wpList_load_row_w 30 _ rfl (by rfl) NY rfl 30 (HD.zero.cells (.slice Ay 0 cy)) (0, 0) _ (TT.out.blk 3 rfl) Try.underlying30 rfl (by kernel_rfl) ?_)
      refine (same5_yes HD.zero Ay none 0 cy 0 0 [] _ (TT.out.rd 2 rfl) RD.nil (by omega) (by omega)).mono ?_
      rintro e ws ⟨rfl, hbs⟩
      have TS := Lib.hid (TT.out.next hbs)
      clear hbs TT
      go_wp2_with fail
      go_ret
      exact ⟨rfl, hbw.trans (TS.out.bel.mono hbw.size)⟩
    · obtain rfl : k = on := by omega
      have i3 : ¬ 20 + (k : Int) < 20 + (k : Int) := by omega
      by_cases hd0 : dn = 0
      · have i4 : ((dn : Int) == 0) = true := by simp; omega
        have HD0 := Lib.hid hd0
        clear hd0
        go_wp2_with fail
        go_ret
        exact ⟨rfl, hbw.trans (H5.out.bel.mono hbw.size)⟩
      · have i4 : ((dn : Int) == 0) = false := by simp; omega
        have T0 := H5.out.cutO 1 rfl (m := 20 + k) hkn
        go_upto_region 41 with fail
        have T := Lib.hid T0
        clear T0 i1 i2 i3 i4 e1
        have BR := Lib.hid (bad_read (zs := (pktB H opts data).take (20 + k)) (k := 3) (wr_bare HON.out HDL.out h40 hon40 (by omega) (by omega)) (by omega))
        have HZB := Lib.hid (show BD 255 ((pktB H opts data).take (20 + k)) from hpb.take _)
        have hn140 : 20 + k ≤ 140 := by omega
        have hnc5 : 20 + k ≤ c5 := by omega
        go_wp2_with fail
        refine (read_any _ (20 + k) c5 ((pktB H opts data).take (20 + k)) _ (T.out.rd 1 rfl) HZB.out hnc5 (by omega)).mono ?_
        rintro e wy ⟨Ay, ny, cy, rfl, owny, hby⟩
        rw [BR.out.1, BR.out.2.1, BR.out.2.2.1, BR.out.2.2.2.1]
        rw [BR.out.2.2.2.2.1] at owny
        have hny : ny = 0 := owny.len.symm
        subst hny
        have TY := Lib.hid ((T.out.pushOwn hby owny).alloc 30 (HD.zero.cells (.slice Ay 0 cy)))
        clear owny hby T
        unfold HD.val HD.cells
        go_upto_region 42 with fail
        rw [show wy.alloc (.cells #[.int .u8 HD.zero.tos, .int .u16 HD.zero.id, .bool HD.zero.df, .bool HD.zero.mf, .int .i64 HD.zero.off, .int .u8 HD.zero.ttl, .int .u8 HD.zero.proto, .int .u32 HD.zero.src, .int .u32 HD.zero.dst, .slice Ay 0 cy] 30) = wy.alloc (.cells (HD.zero.cells (.slice Ay 0 cy)) 30) from rfl]
        generalize hwz : wy.alloc (.cells (HD.zero.cells (.slice Ay 0 cy)) 30) = wz at TY ⊢
        clear hwz
        generalize wy.heap.size = NY at TY ⊢
        go_wp2_with fail
        refine (hop_any _ (20 + k) c5 ((pktB H opts data).take (20 + k)) _ (TY.out.rd 1 rfl) HZB.out hnc5 (by omega)).mono ?_
        rintro e wh ⟨Ah, nh, ch, rfl, ownh, hbh⟩
        rw [BR.out.2.2.2.2.2]
        have TH := Lib.hid (TY.out.next hbh)
        clear ownh hbh TY
        go_wp2_with fail
        refine (turn_any _ (20 + k) c5 ((pktB H opts data).take (20 + k)) _ (TH.out.rd 1 rfl) HZB.out hnc5 (by omega)).mono ?_
        rintro e wt ⟨At, nt, ct, rfl, ownt, hbt⟩
        rw [BR.out.1]
        have TT := Lib.hid (TH.out.next hbt)
        clear ownt hbt TH
        go_wp2_with (refine wpList_load_row_w 30 _ rfl (by rfl) NY rfl 30 (HD.zero.cells (.slice Ay 0 cy)) (0, 0) _ (TT.out.blk 3 rfl) Try.underlying30 rfl (by kernel_rfl) ?_)
        refine (same5_yes HD.zero Ay none 0 cy 0 0 [] _ (TT.out.rd 2 rfl) RD.nil (by omega) (by omega)).mono ?_
        rintro e ws ⟨rfl, hbs⟩
        have TS := Lib.hid (TT.out.next hbs)
        clear hbs TT
        go_wp2_with fail
        go_ret
        exact ⟨rfl, hbw.trans (TS.out.bel.mono hbw.size)⟩
  · go_upto_region 40 with fail
    clear f0 f1 f2 f3 f4 f5 f6 f7 f8 f9
    go_wp2_with fail
    refine (pick_any q (20 + (on : Int)) _ ⟨by omega, by omega⟩ hq).mono ?_
    rintro e wp ⟨⟨k, hk, rfl⟩, rfl⟩
    have u1 : IntKind.u8.wrap (k : Int) = (k : Int) := u8_in _ (by omega) (by omega)
    have x2 := (H5.out.own 1 rfl).cell (i := 2) (by omega)
    have z2 := (H5.out.own 1 rfl).frozen 2
    have x3 := (H5.out.own 1 rfl).cell (i := 3) (by omega)
    have z3 := (H5.out.own 1 rfl).frozen 3
    have i1 : (2 : Int) < (n5 : Int) := by omega
    have i2 : (3 : Int) < (n5 : Int) := by omega
    have T0 := (H5.out.setO 1 rfl 2 0).setO 1 rfl 3 (k : Int)
    go_upto_region 41 with fail
    clear x2 z2 x3 z3 i1 i2 u1
    generalize hw7 : (w5.setCell ⟨g5, 2, none⟩ (.int .u8 0)).setCell ⟨g5, 3, none⟩ (.int .u8 (k : Int)) = w7 at T0 ⊢
    clear hw7
    have T := Lib.hid T0
    clear T0
    have BR := Lib.hid (bad_read (zs := ((pktB H opts data).set 2 0).set 3 (k : Int)) (k := 3) (wr_total HON.out HDL.out h40 hon40 (by omega) (.inl (by omega))) (by omega))
    have HZB := Lib.hid (show BD 255 (((pktB H opts data).set 2 0).set 3 (k : Int)) from set_bd 3 (set_bd 2 hpb (by omega)) (by omega))
    have hn140 : n5 ≤ 140 := hn5b
    have hnc5 : n5 ≤ c5 := hle5.1
    go_wp2_with fail
    refine (read_any _ (n5) c5 (((pktB H opts data).set 2 0).set 3 (k : Int)) _ (T.out.rd 1 rfl) HZB.out hnc5 (by omega)).mono ?_
    rintro e wy ⟨Ay, ny, cy, rfl, owny, hby⟩
    rw [BR.out.1, BR.out.2.1, BR.out.2.2.1, BR.out.2.2.2.1]
    rw [BR.out.2.2.2.2.1] at owny
    have hny : ny = 0 := owny.len.symm
    subst hny
    have TY := Lib.hid ((T.out.pushOwn hby owny).alloc 30 (HD.zero.cells (.slice Ay 0 cy)))
    clear owny hby T
    unfold HD.val HD.cells
    go_upto_region 42 with fail
    rw [show wy.alloc (.cells #[.int .u8 HD.zero.tos, .int .u16 HD.zero.id, .bool HD.zero.df, .bool HD.zero.mf, .int .i64 HD.zero.off, .int .u8 HD.zero.ttl, .int .u8 HD.zero.proto, .int .u32 HD.zero.src, .int .u32 HD.zero.dst, .slice Ay 0 cy] 30) = wy.alloc (.cells (HD.zero.cells (.slice Ay 0 cy)) 30) from rfl]
    generalize hwz : wy.alloc (.cells (HD.zero.cells (.slice Ay 0 cy)) 30) = wz at TY ⊢
    clear hwz
    generalize wy.heap.size = NY at TY ⊢
    go_wp2_with fail
    refine (hop_any _ (n5) c5 (((pktB H opts data).set 2 0).set 3 (k : Int)) _ (TY.out.rd 1 rfl) HZB.out hnc5 (by omega)).mono ?_
    rintro e wh ⟨Ah, nh, ch, rfl, ownh, hbh⟩
    rw [BR.out.2.2.2.2.2]
    have TH := Lib.hid (TY.out.next hbh)
    clear ownh hbh TY
    go_wp2_with fail
    refine (turn_any _ (n5) c5 (((pktB H opts data).set 2 0).set 3 (k : Int)) _ (TH.out.rd 1 rfl) HZB.out hnc5 (by omega)).mono ?_
    rintro e wt ⟨At, nt, ct, rfl, ownt, hbt⟩
    rw [BR.out.1]
    have TT := Lib.hid (TH.out.next hbt)
    clear ownt hbt TH
    go_wp2_with (refine wpList_load_row_w 30 _ rfl (by rfl) NY rfl 30 (HD.zero.cells (.slice Ay 0 cy)) (0, 0) _ (TT.out.blk 3 rfl) Try.underlying30 rfl (by kernel_rfl) ?_)
    refine (same5_yes HD.zero Ay none 0 cy 0 0 [] _ (TT.out.rd 2 rfl) RD.nil (by omega) (by omega)).mono ?_
    rintro e ws ⟨rfl, hbs⟩
    have TS := Lib.hid (TT.out.next hbs)
    clear hbs TT
    go_wp2_with fail
    go_ret
    exact ⟨rfl, hbw.trans (TS.out.bel.mono hbw.size)⟩
  · have x2 := (H5.out.own 1 rfl).cell (i := 2) (by omega)
    have z2 := (H5.out.own 1 rfl).frozen 2
    have x3 := (H5.out.own 1 rfl).cell (i := 3) (by omega)
    have z3 := (H5.out.own 1 rfl).frozen 3
    have i1 : (2 : Int) < (n5 : Int) := by omega
    have i2 : (3 : Int) < (n5 : Int) := by omega
    have T0 := (H5.out.setO 1 rfl 2 255).setO 1 rfl 3 255
    go_upto_region 41 with fail
    clear x2 z2 x3 z3 i1 i2 f0 f1 f2 f3 f4 f5 f6 f7 f8 f9
    generalize hw7 : (w5.setCell ⟨g5, 2, none⟩ (.int .u8 255)).setCell ⟨g5, 3, none⟩ (.int .u8 255) = w7 at T0 ⊢
    clear hw7
    have T := Lib.hid T0
    clear T0
    have BR := Lib.hid (bad_read (zs := ((pktB H opts data).set 2 255).set 3 255) (k := 3) (wr_total HON.out HDL.out h40 hon40 (by omega) (.inr (by omega))) (by omega))
    have HZB := Lib.hid (show BD 255 (((pktB H opts data).set 2 255).set 3 255) from set_bd 3 (set_bd 2 hpb (by omega)) (by omega))
    have hn140 : n5 ≤ 140 := hn5b
    have hnc5 : n5 ≤ c5 := hle5.1
    go_wp2_with fail
    refine (read_any _ (n5) c5 (((pktB H opts data).set 2 255).set 3 255) _ (T.out.rd 1 rfl) HZB.out hnc5 (by omega)).mono ?_
    rintro e wy ⟨Ay, ny, cy, rfl, owny, hby⟩
    rw [BR.out.1, BR.out.2.1, BR.out.2.2.1, BR.out.2.2.2.1]
    rw [BR.out.2.2.2.2.1] at owny
    have hny : ny = 0 := owny.len.symm
    subst hny
    have TY := Lib.hid ((T.out.pushOwn hby owny).alloc 30 (HD.zero.cells (.slice Ay 0 cy)))
    clear owny hby T
    unfold HD.val HD.cells
    go_upto_region 42 with fail
    rw [show wy.alloc (.cells #[.int .u8 HD.zero.tos, .int .u16 HD.zero.id, .bool HD.zero.df, .bool HD.zero.mf, .int .i64 HD.zero.off, .int .u8 HD.zero.ttl, .int .u8 HD.zero.proto, .int .u32 HD.zero.src, .int .u32 HD.zero.dst, .slice Ay 0 cy] 30) = wy.alloc (.cells (HD.zero.cells (.slice Ay 0 cy)) 30) from rfl]
    generalize hwz : wy.alloc (.cells (HD.zero.cells (.slice Ay 0 cy)) 30) = wz at TY ⊢
    clear hwz
    generalize wy.heap.size = NY at TY ⊢
    go_wp2_with fail
    refine (hop_any _ (n5) c5 (((pktB H opts data).set 2 255).set 3 255) _ (TY.out.rd 1 rfl) HZB.out hnc5 (by omega)).mono ?_
    rintro e wh ⟨Ah, nh, ch, rfl, ownh, hbh⟩
    rw [BR.out.2.2.2.2.2]
    have TH := Lib.hid (TY.out.next hbh)
    clear ownh hbh TY
    go_wp2_with fail
    refine (turn_any _ (n5) c5 (((pktB H opts data).set 2 255).set 3 255) _ (TH.out.rd 1 rfl) HZB.out hnc5 (by omega)).mono ?_
    rintro e wt ⟨At, nt, ct, rfl, ownt, hbt⟩
    rw [BR.out.1]
    have TT := Lib.hid (TH.out.next hbt)
    clear ownt hbt TH
    go_wp2_with (refine wpList_load_row_w 30 _ rfl (by rfl) NY rfl 30 (HD.zero.cells (.slice Ay 0 cy)) (0, 0) _ (TT.out.blk 3 rfl) Try.underlying30 rfl (by kernel_rfl) ?_)
    refine (same5_yes HD.zero Ay none 0 cy 0 0 [] _ (TT.out.rd 2 rfl) RD.nil (by omega) (by omega)).mono ?_
    rintro e ws ⟨rfl, hbs⟩
    have TS := Lib.hid (TT.out.next hbs)
    clear hbs TT
    go_wp2_with fail
    go_ret
    exact ⟨rfl, hbw.trans (TS.out.bel.mono hbw.size)⟩

theorem ipWrong_walk (h0 h1 h2 h3 h4 h5 h6 h7 h8 h9 h10 h11 words far many : Int) (df mf : Bool) (A : Option Addr) (n c : Nat) (zs : List Int) (way q : Int) (w : World) (hb : BD 255 [h0, h1, h2, h3, h4, h5, h6, h7, h8, h9, h10, h11]) (hw : 0 ≤ words ∧ words ≤ 255) (hf : 0 ≤ far ∧ far ≤ 255) (hm : 0 ≤ many ∧ many ≤ 255) (h : ROW .u8 255 w A n c zs) (hway : 0 ≤ way ∧ way ≤ 255) (hq : -9223372036854775808 ≤ q ∧ q ≤ 9223372036854775807) :
    Calls Try.prog 11 #[.agg (sm18 h0 h1 h2 h3 h4 h5 h6 h7 h8 h9 h10 h11 words far many df mf (.slice A n c)), .int .u8 way, .int .i64 q] w fun e w' => e = .returned (.bool true) ∧ Below w.heap.size w w' := by
  by_cases hw6 : way % 12 < 6
  · exact ipWrongA h0 h1 h2 h3 h4 h5 h6 h7 h8 h9 h10 h11 words far many df mf A n c zs way q w hb hw hf hm h hway hq hw6
  · exact ipWrongB h0 h1 h2 h3 h4 h5 h6 h7 h8 h9 h10 h11 words far many df mf A n c zs way q w hb hw hf hm h hway hq hw6
end Go.Proofs.Ytpfmecdldoehoaa
