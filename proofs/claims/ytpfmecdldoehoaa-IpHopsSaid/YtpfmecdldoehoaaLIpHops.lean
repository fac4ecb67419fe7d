/- The walk of IpHops. (Printed by gen_iphops.py.) -/
import Derived.Test.YtpfmecdldoehoaaSep
import Derived.Test.YtpfmecdldoehoaaLIpHp
import Derived.Test.YtpfmecdldoehoaaWMade5
import Derived.Test.YtpfmecdldoehoaaWAwake5
import Derived.Test.YtpfmecdldoehoaaWOwnZ
import Derived.Test.YtpfmecdldoehoaaLIpBack
import Derived.Test.YtpfmecdldoehoaaRow
import Derived.Test.YtpfmecdldoehoaaReg
import Derived.Deep.QuietTactic
import Derived.BigQuiet
namespace Go.Proofs.Ytpfmecdldoehoaa
open Go.RowKit
set_option linter.unusedVariables false

theorem at_cells (h : HD) (t : Int) (v : Value) : (h.cells v).setIfInBounds 5 (.int .u8 t) = (h.at t).cells v := rfl

set_option maxHeartbeats 2000000 in
set_option maxRecDepth 100000 in
theorem ipHops_walk (h0 h1 h2 h3 h4 h5 h6 h7 h8 h9 h10 h11 words far many : Int) (df mf : Bool) (A : Option Addr) (n c : Nat) (zs : List Int) (bh : Int) (w : World) (hb : BD 255 [h0, h1, h2, h3, h4, h5, h6, h7, h8, h9, h10, h11]) (hw : 0 ≤ words ∧ words ≤ 255) (hf : 0 ≤ far ∧ far ≤ 255) (hm : 0 ≤ many ∧ many ≤ 255) (h : ROW .u8 255 w A n c zs) (hbh : 0 ≤ bh ∧ bh ≤ 255) :
    Calls Try.prog 7 #[.agg (sm18 h0 h1 h2 h3 h4 h5 h6 h7 h8 h9 h10 h11 words far many df mf (.slice A n c)), .int .u8 bh] w fun e w' => e = .returned (.bool true) ∧ Below w.heap.size w w' := by
  obtain ⟨i0, hi, hz0, hz1, hz2⟩ := info_parts infoU8
  have H0 := (SP.start w).alloc 25 (sm18 h0 h1 h2 h3 h4 h5 h6 h7 h8 h9 h10 h11 words far many df mf (.slice A n c))
  unfold sm18
  go_enter Try.func7, Try.ntmps7
  go_wp2_with fail
  rw [show w.alloc (.cells #[.int .u8 h0, .int .u8 h1, .int .u8 h2, .int .u8 h3, .int .u8 h4, .int .u8 h5, .int .u8 h6, .int .u8 h7, .int .u8 h8, .int .u8 h9, .int .u8 h10, .int .u8 h11, .int .u8 words, .int .u8 far, .int .u8 many, .bool df, .bool mf, .slice A n c] 25) = w.alloc (.cells (sm18 h0 h1 h2 h3 h4 h5 h6 h7 h8 h9 h10 h11 words far many df mf (.slice A n c)) 25) from rfl]
  generalize w.alloc (.cells (sm18 h0 h1 h2 h3 h4 h5 h6 h7 h8 h9 h10 h11 words far many df mf (.slice A n c)) 25) = w1 at H0 ⊢
  refine (awake5_any _).mono ?_
  rintro e w2 ⟨rfl, hb2⟩
  replace H0 := H0.next hb2
  clear hb2
  have HK := Lib.hid (H0.blk 0 rfl)
  have HI := H0
  clear H0
  have H0 := Lib.hid HI
  clear HI
  go_wp2_with (refine wpList_load_row rfl 25 _ rfl w.heap.size rfl 25 (sm18 h0 h1 h2 h3 h4 h5 h6 h7 h8 h9 h10 h11 words far many df mf (.slice A n c)) (0, 0) _ HK.out Try.underlying25 rfl (by kernel_rfl) ?_)
  refine (made5_any h0 h1 h2 h3 h4 h5 h6 h7 h8 h9 h10 h11 words far many df mf A n c zs _ hb hw hf hm (h.rd.later H0.out.bel) h.bd h.le h.cap).mono ?_
  rintro e w3 ⟨H, Ao, on, oc, opts, Ad, dn, dc, data, rfl, hwf, hr, ownO, bo, ownD, bd, hdn, hb3⟩
  have hbw : Below w.heap.size w w3 := H0.out.bel.trans (hb3.mono H0.out.size)
  clear H0 HK hb3 h hb hw hf hm
  have ro := ownO.rd
  have rdd := ownD.rd
  have hoc := ownO.le
  have hdc := ownD.le
  have hon := ownO.len
  have hdl := ownD.len
  have HR := Lib.hid (show Rightly H.off H.mf opts.length data.length by rw [hon, hdl]; exact hr)
  have HON := Lib.hid hon
  have HDL := Lib.hid hdl
  have hon40 : on ≤ 40 := hr.2.2.2.1
  have HRR := Lib.hid hr
  have S := SP.start w3
  clear ownO ownD hon hdl hr
  unfold HD.val HD.cells
  obtain ⟨tt0, tt1⟩ := hwf.ttl
  go_upto_region 4 with fail
  replace S := S.alloc 30 (H.cells (.slice Ao on oc))
  rw [show w3.alloc (.cells #[.int .u8 H.tos, .int .u16 H.id, .bool H.df, .bool H.mf, .int .i64 H.off, .int .u8 H.ttl, .int .u8 H.proto, .int .u32 H.src, .int .u32 H.dst, .slice Ao on oc] 30) = w3.alloc (.cells (H.cells (.slice Ao on oc)) 30) from rfl]
  generalize w3.alloc (.cells (H.cells (.slice Ao on oc)) 30) = w4 at S ⊢
  have f5 : w4.cell? ⟨w3.heap.size, 5, none⟩ = some (.int .u8 H.ttl) := S.cell 0 rfl 5 rfl
  have z5 := S.free 0 rfl 5
  have S4 := Lib.hid S
  clear S
  go_upto_region 5 with fail
  have S := S4.out.setB 0 rfl 5 (.int .u8 (H.ttl % 21))
  clear f5 z5 S4
  generalize w4.setCell ⟨w3.heap.size, 5, none⟩ (.int .u8 (H.ttl % 21)) = w4 at S ⊢
  replace S : SP w3 w4 [.blk w3.heap.size 30 ((H.at (H.ttl % 21)).cells (.slice Ao on oc))] := S
  obtain ⟨G, hG⟩ : ∃ G, G = H.at (H.ttl % 21) := ⟨_, rfl⟩
  have hGw : G.WF := by rw [hG]; exact HD.at_wf hwf (by omega)
  have hGr : Rightly G.off G.mf on dn := by rw [hG]; exact HRR.out
  have hGt : 0 ≤ G.ttl ∧ G.ttl ≤ 20 := by rw [hG]; show 0 ≤ H.ttl % 21 ∧ H.ttl % 21 ≤ 20; omega
  rw [← hG] at S
  clear hG hwf HR HRR tt0 tt1
  have f0 : w4.cell? ⟨w3.heap.size, 0, none⟩ = some (.int .u8 G.tos) := S.cell 0 rfl 0 rfl
  have f1 : w4.cell? ⟨w3.heap.size, 1, none⟩ = some (.int .u16 G.id) := S.cell 0 rfl 1 rfl
  have f2 : w4.cell? ⟨w3.heap.size, 2, none⟩ = some (.bool G.df) := S.cell 0 rfl 2 rfl
  have f3 : w4.cell? ⟨w3.heap.size, 3, none⟩ = some (.bool G.mf) := S.cell 0 rfl 3 rfl
  have f4 : w4.cell? ⟨w3.heap.size, 4, none⟩ = some (.int .i64 G.off) := S.cell 0 rfl 4 rfl
  have f5 : w4.cell? ⟨w3.heap.size, 5, none⟩ = some (.int .u8 G.ttl) := S.cell 0 rfl 5 rfl
  have f6 : w4.cell? ⟨w3.heap.size, 6, none⟩ = some (.int .u8 G.proto) := S.cell 0 rfl 6 rfl
  have f7 : w4.cell? ⟨w3.heap.size, 7, none⟩ = some (.int .u32 G.src) := S.cell 0 rfl 7 rfl
  have f8 : w4.cell? ⟨w3.heap.size, 8, none⟩ = some (.int .u32 G.dst) := S.cell 0 rfl 8 rfl
  have f9 : w4.cell? ⟨w3.heap.size, 9, none⟩ = some (.slice Ao on oc) := S.cell 0 rfl 9 rfl
  have S4 := Lib.hid S
  have HGW := Lib.hid hGw
  have HGR := Lib.hid hGr
  clear S
  go_wp2_with fail
  rw [show .agg #[.int .u8 G.tos, .int .u16 G.id, .bool G.df, .bool G.mf, .int .i64 G.off, .int .u8 G.ttl, .int .u8 G.proto, .int .u32 G.src, .int .u32 G.dst, .slice Ao on oc] = G.val (.slice Ao on oc) from rfl]
  refine (write_yes G Ao on oc opts Ad dn dc data _ HGW.out ((ro.below S4.out.bel).more S4.out.size) bo ((rdd.below S4.out.bel).more S4.out.size) HGR.out).mono ?_
  rintro e w5 ⟨A5, n5, c5, rfl, own5, hb5⟩
  have hn5 := own5.len
  rw [pkt_len, HON.out, HDL.out] at hn5
  have HN5 := Lib.hid hn5
  have hn5a : 20 ≤ n5 := by omega
  have hn5b : n5 ≤ 140 := by omega
  have hle5 := own5.le
  obtain ⟨g5, rfl, hg5, _⟩ := own5.form (by omega)
  have S5 := Lib.hid (S4.out.pushOwn hb5 own5)
  clear hb5 own5 hn5 S4 f0 f1 f2 f3 f4 f5 f6 f7 f8 f9
  obtain ⟨m, hm⟩ : ∃ m : Nat, bh % 9 = (m : Int) := ⟨(bh % 9).toNat, by omega⟩
  have hm9 : m ≤ 8 := by omega
  obtain ⟨hb0, hb1⟩ := hbh
  go_wp2_with (at_builtin; refine wpList_append_zeros_own _ rfl _ _ _ _ rfl 5 i0 .u8 Try.underlying23 Try.underlying5 hi hz0 hz1 hz2 w3.heap.size g5 n5 c5 m _ hm _ rfl rfl (S5.out.own 1 rfl) S5.out.size (by omega) ?_; intro A6 c6 w6 happ; have S6 := Lib.hid (S5.out.app 1 rfl happ); clear happ S5)
  have hmore : BD 255 (List.replicate m (0 : Int)) := fun x hx => by have := List.eq_of_mem_replicate hx; omega
  have HML := Lib.hid (show (List.replicate m (0 : Int)).length = m by simp)
  have hm0 : (bh % 9) = (m : Int) := hm
  clear hm
  go_loopw [7] (fun s7 wr => ∃ (t : Int) (A : Option Addr) (n c : Nat) (more : List Int), s7 = .slice A n c ∧ 0 ≤ t ∧ t ≤ 20 ∧ BD 255 more ∧ more.length ≤ 8 ∧ n = n5 + more.length ∧ SP w3 wr [.blk w3.heap.size 30 ((G.at t).cells (.slice Ao on oc)), .own .u8 5 A n c (pktB (G.at t) opts data ++ more)])
    (fun _ wr => (intOf ((wr.cell? ⟨w3.heap.size, 5, none⟩).getD undef)).toNat)
  case atStart => exact ⟨G.ttl, A6, n5 + m, c6, List.replicate m 0, rfl, hGt.1, hGt.2, hmore, by rw [HML.out]; exact hm9, by rw [HML.out], S6.out⟩
  case round =>
    obtain ⟨t, A, n, c, more, rfl, ht0, ht1, hmb, hml, hn, SR⟩ := hrel
    obtain ⟨wo, rfl⟩ : ∃ wo : World, wo = wr := ⟨_, rfl⟩
    have hnc := (SR.own 1 rfl).le
    obtain ⟨gb, rfl, hgb, _⟩ := (SR.own 1 rfl).form (by omega)
    have hn0 : 20 ≤ n := by omega
    have hn1 : n ≤ 148 := by omega
    have hwfT : (G.at t).WF := HD.at_wf HGW.out (by omega)
    have hzb : BD 255 (pktB (G.at t) opts data ++ more) := (pkt_bd hwfT bo (by rw [HON.out]; exact hon40) bd).append hmb
    have hP : PARSED (G.at t) opts data (pktB (G.at t) opts data ++ more) := parse_pkt hwfT bo (by rw [HON.out, HDL.out]; exact HGR.out)
    have HM := Lib.hid hml
    have HNN := Lib.hid hn
    clear S6 hmore hml hn
    have H0 := Lib.hid SR
    clear SR
    by_cases htl : 1 < t
    · obtain ⟨s, rfl⟩ : ∃ s, t = s + 1 := ⟨t - 1, by omega⟩
      obtain ⟨hB, hE⟩ := hop_yes hP (by show 2 ≤ s + 1; omega)
      have hat : (G.at (s + 1)).at ((G.at (s + 1)).ttl - 1) = G.at s := by
        show G.at (s + 1 - 1) = G.at s
        rw [show s + 1 - 1 = s by omega]
      rw [hat] at hB
      have hwfS : (G.at s).WF := HD.at_wf HGW.out (by omega)
      have HU := Lib.hid (fun more' => show upd (wordAt (pktB (G.at (s + 1)) opts data ++ more) 10) ((s + 1) * 256 + G.proto) (s * 256 + G.proto) = wordAt (pktB (G.at s) opts data ++ more') 10 by
        have := hop_upd (h := G.at (s + 1)) (opts := opts) (data := data) (more := more) (more' := more') (headB_bd hwfT bo (by rw [HON.out]; exact hon40)) (by rw [hat]; exact headB_bd hwfS bo (by rw [HON.out]; exact hon40)) ⟨by show 1 ≤ s + 1; omega, by show s + 1 ≤ 255; omega⟩ hwfS.proto
        rw [hat] at this
        rw [← this]
        show upd _ _ _ = upd _ ((s + 1) * 256 + G.proto) ((s + 1 - 1) * 256 + G.proto)
        rw [show s + 1 - 1 = s by omega])
      have hPS : PARSED (G.at s) opts data (pktB (G.at s) opts data ++ []) := parse_pkt hwfS bo (by rw [HON.out, HDL.out]; exact HGR.out)
      rw [List.append_nil] at hPS
      obtain ⟨z1, z2, z3, z4, z5⟩ := read_pkt (more := []) hwfS bo (by rw [HON.out, HDL.out]; exact HGR.out) HON.out HDL.out HN5.out
      rw [List.append_nil] at z1 z2 z3 z4 z5
      have Z := Lib.hid (And.intro z1 (And.intro z2 (And.intro z3 (And.intro z4 z5))))
      have HB := Lib.hid (And.intro hB hE)
      have hbS : BD 255 (pktB (G.at s) opts data) := pkt_bd hwfS bo (by rw [HON.out]; exact hon40) bd
      obtain ⟨gp0, gp1⟩ : 0 ≤ G.proto ∧ G.proto ≤ 255 := hwfS.proto
      have ET := Lib.hid hwfT
      have ES := Lib.hid hwfS
      clear z1 z2 z3 z4 z5 hP hPS hat hB hE hwfT hwfS
      have f5 : wo.cell? ⟨w3.heap.size, 5, none⟩ = some (.int .u8 (s + 1)) := H0.out.cell 0 rfl 5 rfl
      have HOLD := Lib.hid f5
      have u1 : IntKind.u8.wrap (s + 1 - 1) = s := by rw [show s + 1 - 1 = s by omega]; exact u8_in _ (by omega) (by omega)
      have u2 : IntKind.u8.wrap s = s := u8_in _ (by omega) (by omega)
      go_wp2_with fail
      refine (hop_any _ n c _ _ (H0.out.rd 1 rfl) hzb hnc.1 (by omega)).mono ?_
      rintro e w7 ⟨A7, n7, c7, rfl, own7, hb7⟩
      rw [HB.out.2]
      rw [HB.out.1] at own7
      have hn7 := own7.len
      rw [pkt_len, HON.out, HDL.out, HN5.out] at hn7
      subst hn7
      have hle7 := own7.le
      obtain ⟨g7, rfl, hg7, _⟩ := own7.form (by omega)
      have H7 := Lib.hid (H0.out.pushOwn hb7 own7)
      clear own7 hb7 f5 H0
      have f5 : w7.cell? ⟨w3.heap.size, 5, none⟩ = some (.int .u8 (s + 1)) := H7.out.cell 0 rfl 5 rfl
      have zz5 := H7.out.free 0 rfl 5
      go_upto_region 12 with fail
      have H8 := Lib.hid (H7.out.setB 0 rfl 5 (.int .u8 s))
      clear f5 zz5 H7 u1 u2
      generalize hw8 : w7.setCell ⟨w3.heap.size, 5, none⟩ (.int .u8 s) = w8 at H8 ⊢
      clear hw8
      have H8' : SP w3 w8 [.blk w3.heap.size 30 ((G.at s).cells (.slice Ao on oc)), .own .u8 5 (some ⟨gb, 0, none⟩) n c (pktB (G.at (s + 1)) opts data ++ more), .own .u8 5 (some ⟨g7, 0, none⟩) n5 c7 (pktB (G.at s) opts data)] := H8.out
      have H9 := Lib.hid H8'
      clear H8 H8'
      go_wp2_with fail
      refine (read_any _ n5 c7 _ _ (H9.out.rd 2 rfl) hbS hle7.1 (by omega)).mono ?_
      rintro e wa ⟨Aa, na, ca, rfl, owna, hba⟩
      rw [Z.out.1, Z.out.2.1, Z.out.2.2.1, Z.out.2.2.2.1]
      rw [Z.out.2.2.2.2] at owna
      have hna := owna.len
      rw [HON.out] at hna
      subst hna
      have HA := Lib.hid ((H9.out.pushOwn hba owna).alloc 30 ((G.at s).cells (.slice Aa on ca)))
      clear owna hba H9
      unfold HD.val HD.cells
      go_upto_region 13 with fail
      rw [show wa.alloc (.cells #[.int .u8 (G.at s).tos, .int .u16 (G.at s).id, .bool (G.at s).df, .bool (G.at s).mf, .int .i64 (G.at s).off, .int .u8 (G.at s).ttl, .int .u8 (G.at s).proto, .int .u32 (G.at s).src, .int .u32 (G.at s).dst, .slice Aa on ca] 30) = wa.alloc (.cells ((G.at s).cells (.slice Aa on ca)) 30) from rfl]
      generalize hwb : wa.alloc (.cells ((G.at s).cells (.slice Aa on ca)) 30) = wb at HA ⊢
      clear hwb
      have f0 : wb.cell? ⟨w3.heap.size, 0, none⟩ = some (.int .u8 G.tos) := HA.out.cell 0 rfl 0 rfl
      have f1 : wb.cell? ⟨w3.heap.size, 1, none⟩ = some (.int .u16 G.id) := HA.out.cell 0 rfl 1 rfl
      have f2 : wb.cell? ⟨w3.heap.size, 2, none⟩ = some (.bool G.df) := HA.out.cell 0 rfl 2 rfl
      have f3 : wb.cell? ⟨w3.heap.size, 3, none⟩ = some (.bool G.mf) := HA.out.cell 0 rfl 3 rfl
      have f4 : wb.cell? ⟨w3.heap.size, 4, none⟩ = some (.int .i64 G.off) := HA.out.cell 0 rfl 4 rfl
      have f5 : wb.cell? ⟨w3.heap.size, 5, none⟩ = some (.int .u8 s) := HA.out.cell 0 rfl 5 rfl
      have f6 : wb.cell? ⟨w3.heap.size, 6, none⟩ = some (.int .u8 G.proto) := HA.out.cell 0 rfl 6 rfl
      have f7 : wb.cell? ⟨w3.heap.size, 7, none⟩ = some (.int .u32 G.src) := HA.out.cell 0 rfl 7 rfl
      have f8 : wb.cell? ⟨w3.heap.size, 8, none⟩ = some (.int .u32 G.dst) := HA.out.cell 0 rfl 8 rfl
      have f9 : wb.cell? ⟨w3.heap.size, 9, none⟩ = some (.slice Ao on oc) := HA.out.cell 0 rfl 9 rfl
      have k0 : wb.cell? ⟨wa.heap.size, 0, none⟩ = some (.int .u8 G.tos) := HA.out.cell 4 rfl 0 rfl
      have k1 : wb.cell? ⟨wa.heap.size, 1, none⟩ = some (.int .u16 G.id) := HA.out.cell 4 rfl 1 rfl
      have k2 : wb.cell? ⟨wa.heap.size, 2, none⟩ = some (.bool G.df) := HA.out.cell 4 rfl 2 rfl
      have k3 : wb.cell? ⟨wa.heap.size, 3, none⟩ = some (.bool G.mf) := HA.out.cell 4 rfl 3 rfl
      have k4 : wb.cell? ⟨wa.heap.size, 4, none⟩ = some (.int .i64 G.off) := HA.out.cell 4 rfl 4 rfl
      have k5 : wb.cell? ⟨wa.heap.size, 5, none⟩ = some (.int .u8 s) := HA.out.cell 4 rfl 5 rfl
      have k6 : wb.cell? ⟨wa.heap.size, 6, none⟩ = some (.int .u8 G.proto) := HA.out.cell 4 rfl 6 rfl
      have k7 : wb.cell? ⟨wa.heap.size, 7, none⟩ = some (.int .u32 G.src) := HA.out.cell 4 rfl 7 rfl
      have k8 : wb.cell? ⟨wa.heap.size, 8, none⟩ = some (.int .u32 G.dst) := HA.out.cell 4 rfl 8 rfl
      have k9 : wb.cell? ⟨wa.heap.size, 9, none⟩ = some (.slice Aa on ca) := HA.out.cell 4 rfl 9 rfl
      have hN8 : wa.heap.size < wb.heap.size := (HA.out.blk 4 rfl).lt
      have hN3 : w3.heap.size < wb.heap.size := (HA.out.blk 0 rfl).lt
      have hon5 : 20 + on ≤ n5 := by have := HN5.out; omega
      have sl := fun W => run_slice_lo (P := Try.prog) W Try.underlying23 hi hz1 (some ⟨g7, 0, none⟩) n5 c7 (20 + (on : Int)) (20 + on) (by omega) hon5
      go_wp2_with fail
      refine (same5_yes (G.at s) Aa Ao on ca on oc opts _ (HA.out.rd 3 rfl) ((ro.below HA.out.bel).more HA.out.size) (by omega) (by omega)).mono ?_
      rintro e wc ⟨rfl, hbc⟩
      have HC := Lib.hid (HA.out.next hbc)
      clear f0 f1 f2 f3 f4 f5 f6 f7 f8 f9 k0 k1 k2 k3 k4 k5 k6 k7 k8 k9 hbc HA hN8 hN3
      go_wp2_with fail
      refine (same_any _ Ad _ _ dn dc _ data _ ((HC.out.rd 2 rfl).cutA (lo := 20 + on) hon5 hle7.1) ((rdd.below HC.out.bel).more HC.out.size) (by omega) (by omega)).mono ?_
      rintro e wd ⟨rfl, md, hd⟩
      rw [show ((pktB (G.at s) opts data).drop (20 + on) == data) = true by rw [pkt_drop HON.out]; simp]
      have HD := Lib.hid (hd ▸ HC.out.drewN md)
      clear hd HC sl
      obtain ⟨wv, hwv⟩ : ∃ x, x = s * 256 + G.proto := ⟨_, rfl⟩
      obtain ⟨v10, hv10⟩ : ∃ x, x = (pktB (G.at (s + 1)) opts data ++ more)[10]?.getD 0 := ⟨_, rfl⟩
      obtain ⟨v11, hv11⟩ : ∃ x, x = (pktB (G.at (s + 1)) opts data ++ more)[11]?.getD 0 := ⟨_, rfl⟩
      obtain ⟨n10, hn10⟩ : ∃ x, x = (pktB (G.at s) opts data)[10]?.getD 0 := ⟨_, rfl⟩
      obtain ⟨n11, hn11⟩ : ∃ x, x = (pktB (G.at s) opts data)[11]?.getD 0 := ⟨_, rfl⟩
      obtain ⟨cv, hcv⟩ : ∃ x, x = v10 * 256 + v11 := ⟨_, rfl⟩
      obtain ⟨cn, hcn⟩ : ∃ x, x = n10 * 256 + n11 := ⟨_, rfl⟩
      have hU : upd cv (wv + 256) wv = cn := by
        have h1 := HU.out []
        rw [List.append_nil] at h1
        rw [hcv, hcn, hwv, hv10, hv11, hn10, hn11]
        rw [show s * 256 + G.proto + 256 = (s + 1) * 256 + G.proto by omega]
        exact h1
      have HUU := Lib.hid hU
      obtain ⟨a10, b10⟩ : 0 ≤ v10 ∧ v10 ≤ 255 := by rw [hv10]; exact hzb.get (by omega) 10
      obtain ⟨a11, b11⟩ : 0 ≤ v11 ∧ v11 ≤ 255 := by rw [hv11]; exact hzb.get (by omega) 11
      obtain ⟨c10, d10⟩ : 0 ≤ n10 ∧ n10 ≤ 255 := by rw [hn10]; exact hbS.get (by omega) 10
      obtain ⟨c11, d11⟩ : 0 ≤ n11 ∧ n11 ≤ 255 := by rw [hn11]; exact hbS.get (by omega) 11
      have KS := Lib.hid (fun (W : World) (hb : Below wd.heap.size wd W) => (show W.cell? ⟨gb, 10, none⟩ = some (.int .u8 v10) ∧ W.cell? ⟨gb, 11, none⟩ = some (.int .u8 v11) from by
        have HW := HD.out.next hb
        exact ⟨by rw [hv10]; exact (HW.own 1 rfl).cell (by omega), by rw [hv11]; exact (HW.own 1 rfl).cell (by omega)⟩))
      have KN := Lib.hid (fun (W : World) (hb : Below wd.heap.size wd W) => (show W.cell? ⟨g7, 10, none⟩ = some (.int .u8 n10) ∧ W.cell? ⟨g7, 11, none⟩ = some (.int .u8 n11) from by
        have HW := HD.out.next hb
        exact ⟨by rw [hn10]; exact (HW.own 2 rfl).cell (by omega), by rw [hn11]; exact (HW.own 2 rfl).cell (by omega)⟩))
      have q1 : IntKind.u16.wrap s = s := u16_in _ (by omega) (by omega)
      have q2 : IntKind.u16.wrap (s * 256) = s * 256 := u16_in _ (by omega) (by omega)
      have q3 : IntKind.u16.wrap G.proto = G.proto := u16_in _ (by omega) (by omega)
      have q4 : bits .or .u16 (s * 256) G.proto = wv := by rw [hwv]; exact u16_or_low _ _ (by omega) (by omega) (by omega) (by omega)
      have q5 : IntKind.u16.wrap v10 = v10 := u16_in _ (by omega) (by omega)
      have q6 : IntKind.u16.wrap (v10 * 256) = v10 * 256 := u16_in _ (by omega) (by omega)
      have q7 : IntKind.u16.wrap v11 = v11 := u16_in _ (by omega) (by omega)
      have q8 : bits .or .u16 (v10 * 256) v11 = cv := by rw [hcv]; exact u16_or_low _ _ (by omega) (by omega) (by omega) (by omega)
      have r5 : IntKind.u16.wrap n10 = n10 := u16_in _ (by omega) (by omega)
      have r6 : IntKind.u16.wrap (n10 * 256) = n10 * 256 := u16_in _ (by omega) (by omega)
      have r7 : IntKind.u16.wrap n11 = n11 := u16_in _ (by omega) (by omega)
      have r8 : bits .or .u16 (n10 * 256) n11 = cn := by rw [hcn]; exact u16_or_low _ _ (by omega) (by omega) (by omega) (by omega)
      have q9 : IntKind.u16.wrap (wv + 256) = wv + 256 := u16_in _ (by omega) (by omega)
      have w0 : 0 ≤ wv ∧ wv + 256 ≤ 65535 := by omega
      have cv0 : 0 ≤ cv ∧ cv ≤ 65535 := by omega
      have cn0 : 0 ≤ cn ∧ cn ≤ 65535 := by omega
      have r9 : bits .xor .u16 IntKind.u16.max cn = 65535 - cn := u16_not cn cn0.1 cn0.2
      have ra : (cn == 65535 - cn) = false := by simp; omega
      clear hwv hv10 hv11 hn10 hn11 hcv hcn hU HU
      have f5 : wd.cell? ⟨w3.heap.size, 5, none⟩ = some (.int .u8 s) := HD.out.cell 0 rfl 5 rfl
      have f6 : wd.cell? ⟨w3.heap.size, 6, none⟩ = some (.int .u8 G.proto) := HD.out.cell 0 rfl 6 rfl
      have i1 : (10 : Int) < (n : Int) := by omega
      have i2 : (11 : Int) < (n : Int) := by omega
      have i3 : (10 : Int) < (n5 : Int) := by omega
      have i4 : (11 : Int) < (n5 : Int) := by omega
      go_wp2_with fail
      clear f5 f6
      go_region_held3 (fun W' => W'.cell? ⟨gb, 10, none⟩ = some (.int .u8 v10) ∧ W'.cell? ⟨gb, 11, none⟩ = some (.int .u8 v11)) (first | exact KS.out _ hbe | exact KS.out _ (Below.refl _ _).drew)
        ((go_at_call 22; refine (update_any cv (wv + 256) wv _ cv0.1 cv0.2 (by omega) w0.2 w0.1 (by omega)).mono ?_; rintro e we ⟨rfl, hbe0⟩; rw [HUU.out]; have hbe : Below wd.heap.size wd we := (Below.refl _ _).drew.trans hbe0; clear hbe0))
      go_wp2_with fail
      obtain ⟨x10, x11⟩ := KN.out _ hbe
      have HEE := Lib.hid (HD.out.next hbe)
      clear KS KN HD hbe
      go_quiet (fail)
      go_wp2_with fail
      go_roundw
      case rel => first | exact ⟨s, some ⟨g7, 0, none⟩, n5, c7, [], rfl, by omega, by omega, (fun x hx => by cases hx), by simp, by simp, (by rw [List.append_nil]; exact (HEE.out.drewN _).pick [0, 2] (by decide) rfl)⟩ | ((repeat apply Exists.intro); exact ⟨⟨s, some ⟨g7, 0, none⟩, n5, c7, [], rfl, by omega, by omega, (fun x hx => by cases hx), by simp, by simp, (by rw [List.append_nil]; exact (HEE.out.drewN _).pick [0, 2] (by decide) rfl)⟩, rfl⟩)
      case measure =>
        rw [HOLD.out, ((HEE.out.drewN _).cell 0 rfl 5 rfl : _ = some (.int .u8 s))]
        simp [intOf]; omega
    · obtain ⟨hB, hE⟩ := hop_no hP (by show t < 2; omega)
      have HB := Lib.hid (And.intro hB hE)
      have f5 : wo.cell? ⟨w3.heap.size, 5, none⟩ = some (.int .u8 t) := H0.out.cell 0 rfl 5 rfl
      clear hB hE hP hwfT
      go_wp2_with fail
      refine (hop_any _ n c _ _ (H0.out.rd 1 rfl) hzb hnc.1 (by omega)).mono ?_
      rintro e w7 ⟨A7, n7, c7, rfl, own7, hb7⟩
      rw [HB.out.2]
      rw [HB.out.1] at own7
      have hn7 : n7 = 0 := own7.len.symm
      subst hn7
      go_wp2_with fail
      go_ret
      exact ⟨rfl, hbw.trans ((H0.out.next hb7).bel.mono hbw.size)⟩
end Go.Proofs.Ytpfmecdldoehoaa
