import Derived.Test.YtljbfnabnkkfeaaFgZ
import Derived.Test.YtljbfnabnkkfeaaWSame5
/- bafflelaw07.FragBack returns true. (Printed by gen_fglaws.py.) -/
namespace Go.Proofs.Ytljbfnabnkkfeaa
open Go.RowKit
set_option linter.unusedVariables false
set_option linter.unusedSimpArgs false

set_option maxHeartbeats 8000000 in
set_option maxRecDepth 100000 in
theorem fragBack_walk (h0 h1 h2 h3 h4 h5 h6 h7 h8 h9 h10 h11 words far many : Int) (df mf : Bool) (A : Option Addr) (n c : Nat) (zs : List Int) (q : Int) (Bh : Option Addr) (bn bc : Nat) (ys : List Int) (w : World) (hb : BD 255 [h0, h1, h2, h3, h4, h5, h6, h7, h8, h9, h10, h11]) (hw : 0 ≤ words ∧ words ≤ 255) (hf : 0 ≤ far ∧ far ≤ 255) (hm : 0 ≤ many ∧ many ≤ 255) (h : ROW .u8 255 w A n c zs) (hq : 0 ≤ q ∧ q ≤ 255) (hB : ROW .u8 255 w Bh bn bc ys) :
    Calls Try.prog 5 #[.agg (sm18 h0 h1 h2 h3 h4 h5 h6 h7 h8 h9 h10 h11 words far many df mf (.slice A n c)), .int .u8 q, .slice Bh bn bc] w fun e w' => e = .returned (.bool true) ∧ Below w.heap.size w w' := by
  obtain ⟨i0, hi, hz0, hz1, hz2⟩ := info_parts infoU8
  obtain ⟨SB, hSB⟩ : ∃ b, b = w.heap.size := ⟨_, rfl⟩
  have X1 := Lib.hid ((SP.start w).alloc' (N := SB) 25 (sm18 h0 h1 h2 h3 h4 h5 h6 h7 h8 h9 h10 h11 words far many df mf (.slice A n c)) hSB.symm)
  have HM := Lib.hid (fun W (hW : Below w.heap.size w W) => made7_any h0 h1 h2 h3 h4 h5 h6 h7 h8 h9 h10 h11 words far many df mf A n c zs W hb hw hf hm (h.rd.later hW) h.bd h.le h.cap)
  have HBY := Lib.hid (fun W (hW : Below w.heap.size w W) => (hB.rd.below hW).more hW.size)
  have HBB := Lib.hid (And.intro hB.bd (And.intro hB.le hB.cap))
  clear hb hw hf hm h hB
  unfold sm18 at X1 HM ⊢
  generalize hHH : HDM h0 h1 h2 h3 h4 h5 h6 h7 h8 h9 h10 false false 0 = h at HM
  go_enter Try.func5, Try.ntmps5
  go_wp2_with fail
  rw [← hSB]
  generalize hw1 : w.alloc (.cells #[.int .u8 h0, .int .u8 h1, .int .u8 h2, .int .u8 h3, .int .u8 h4, .int .u8 h5, .int .u8 h6, .int .u8 h7, .int .u8 h8, .int .u8 h9, .int .u8 h10, .int .u8 h11, .int .u8 words, .int .u8 far, .int .u8 many, .bool df, .bool mf, .slice A n c] 25) = w1 at X1 ⊢
  clear hw1 hSB
  refine (awake7_any _).mono ?_
  rintro e w2 ⟨rfl, hb2⟩
  have X2 := Lib.hid (X1.out.next hb2)
  clear hb2 X1
  have HK := Lib.hid (X2.out.blk 0 rfl)
  go_wp2_with (refine wpList_load_row rfl 25 _ rfl SB rfl 25 #[.int .u8 h0, .int .u8 h1, .int .u8 h2, .int .u8 h3, .int .u8 h4, .int .u8 h5, .int .u8 h6, .int .u8 h7, .int .u8 h8, .int .u8 h9, .int .u8 h10, .int .u8 h11, .int .u8 words, .int .u8 far, .int .u8 many, .bool df, .bool mf, .slice A n c] (0, 0) _ HK.out Try.underlying25 rfl (by kernel_rfl) ?_)
  refine (HM.out _ X2.out.bel).mono ?_
  rintro e w3 ⟨o, d, Ab, nb, cb, rfl, hp, ho, hbl⟩
  have X3 := Lib.hid (show SP w w3 [.blk SB 25 #[.int .u8 h0, .int .u8 h1, .int .u8 h2, .int .u8 h3, .int .u8 h4, .int .u8 h5, .int .u8 h6, .int .u8 h7, .int .u8 h8, .int .u8 h9, .int .u8 h10, .int .u8 h11, .int .u8 words, .int .u8 far, .int .u8 many, .bool df, .bool mf, .slice A n c], .own .u8 5 Ab nb cb (pktB h o d)] from X2.out.pushOwn hbl ho)
  have HP := Lib.hid hp
  obtain ⟨kb1, kb2⟩ := ho.le
  have HNB := Lib.hid ho.len
  have hnb : nb ≤ 156 := by
    have h1 := ho.len
    have h2 := hp.len
    have h3 := hp.right.2.2.2.1
    rw [pkt_len] at h1; omega
  have hdl : 16 ≤ d.length ∧ d.length ≤ 96 := hp.len
  clear hp ho hbl X2 HM HK
  obtain ⟨s, hs, hs8, hs0, hs32⟩ := size_nat q hq
  clear hHH
  obtain ⟨vt, vi, vd, vm, vo, vl, vp, vs, vx⟩ := h
  obtain rfl : vm = false := HP.out.mf
  obtain rfl : vd = false := HP.out.df
  obtain rfl : vo = 0 := HP.out.off
  have ZB := Lib.hid (read_of HP.out.whole.parse)
  go_wp2_with fail
  refine (read_any Ab nb cb (pktB (⟨vt, vi, false, false, 0, vl, vp, vs, vx⟩ : HD) o d) _ (X3.out.rd 1 rfl) HP.out.whole.bds kb1 (by omega)).mono ?_
  rintro e w4 ⟨Ao, on, oc, rfl, owno, hbo⟩
  rw [ZB.out.1, ZB.out.2.1, ZB.out.2.2.1, ZB.out.2.2.2.1]
  rw [ZB.out.2.2.2.2] at owno
  have X4 := Lib.hid (X3.out.pushOwn hbo owno)
  have HON := Lib.hid owno.len
  have ko := owno.le
  clear hbo owno X3
  unfold HD.val HD.cells
  obtain ⟨HN, hHN⟩ : ∃ b, w4.heap.size = b := ⟨_, rfl⟩
  have X5 := Lib.hid (show SP w (w4.alloc (.cells #[.int .u8 vt, .int .u16 vi, .bool false, .bool false, .int .i64 0, .int .u8 vl, .int .u8 vp, .int .u32 vs, .int .u32 vx, .slice Ao on oc] 49)) [.blk SB 25 #[.int .u8 h0, .int .u8 h1, .int .u8 h2, .int .u8 h3, .int .u8 h4, .int .u8 h5, .int .u8 h6, .int .u8 h7, .int .u8 h8, .int .u8 h9, .int .u8 h10, .int .u8 h11, .int .u8 words, .int .u8 far, .int .u8 many, .bool df, .bool mf, .slice A n c], .own .u8 5 Ab nb cb (pktB (⟨vt, vi, false, false, 0, vl, vp, vs, vx⟩ : HD) o d), .own .u8 5 Ao on oc o, .blk HN 49 #[.int .u8 vt, .int .u16 vi, .bool false, .bool false, .int .i64 0, .int .u8 vl, .int .u8 vp, .int .u32 vs, .int .u32 vx, .slice Ao on oc]] from X4.out.alloc' 49 #[.int .u8 vt, .int .u16 vi, .bool false, .bool false, .int .i64 0, .int .u8 vl, .int .u8 vp, .int .u32 vs, .int .u32 vx, .slice Ao on oc] hHN)
  obtain ⟨fr, hfr⟩ : ∃ fr, 20 + o.length = fr := ⟨_, rfl⟩
  have hnb2 : fr + d.length = nb := by rw [← HNB.out, pkt_len, hfr]
  rw [hfr, hnb2]
  have HFR := Lib.hid (And.intro hfr hnb2)
  have hfr60 : 20 ≤ fr ∧ fr ≤ 60 := by have := HP.out.right.2.2.2.1; omega
  clear hfr hnb2
  go_upto_region 5 with fail
  try rw [hHN]
  generalize hw5 : w4.alloc (.cells #[.int .u8 vt, .int .u16 vi, .bool false, .bool false, .int .i64 0, .int .u8 vl, .int .u8 vp, .int .u32 vs, .int .u32 vx, .slice Ao on oc] 49) = w5 at X5 ⊢
  clear hw5 hHN X4
  go_wp2_with fail
  refine (size7s q hq hs _).mono ?_
  rintro e w6 ⟨rfl, hw6⟩
  obtain rfl := hw6
  go_wp2_with fail
  refine (split7 HP.out hs8 hs0 hs32 Ab nb cb X5.out (fun W hS => hS.rd 1 rfl) kb1 (by omega)).mono ?_
  rintro e w7 ⟨lg, nl, cl, G, rfl, hGl, hnl, hPI, hS⟩
  have X4 := Lib.hid hS
  have PI := Lib.hid hPI
  have hc12 := hPI.cnt_le
  have HNL := Lib.hid (And.intro hGl hnl)
  have hnl12 : 1 ≤ nl ∧ nl ≤ 12 := by omega
  have HDIV := Lib.hid (show ((nb : Int) - (fr : Int) + (s : Int) - 1).tdiv (s : Int) = (nl : Int) by
    have h2 := HFR.out.2
    rw [show (nb : Int) - (fr : Int) + (s : Int) - 1 = ((d.length + s - 1 : Nat) : Int) by omega, hnl]
    unfold cnt
    rfl)
  clear hS hPI hGl hnl X5
  have RF := Lib.hid (fun (W : World) (hs : SP w W (.row 23 1 (some ⟨lg, 0, none⟩) nl cl (G.map gV) :: (G.map gIT ++ [.blk SB 25 #[.int .u8 h0, .int .u8 h1, .int .u8 h2, .int .u8 h3, .int .u8 h4, .int .u8 h5, .int .u8 h6, .int .u8 h7, .int .u8 h8, .int .u8 h9, .int .u8 h10, .int .u8 h11, .int .u8 words, .int .u8 far, .int .u8 many, .bool df, .bool mf, .slice A n c], .own .u8 5 Ab nb cb (pktB (⟨vt, vi, false, false, 0, vl, vp, vs, vx⟩ : HD) o d), .own .u8 5 Ao on oc o, .blk HN 49 #[.int .u8 vt, .int .u16 vi, .bool false, .bool false, .int .i64 0, .int .u8 vl, .int .u8 vp, .int .u32 vs, .int .u32 vx, .slice Ao on oc]]))) => (show PKS W (some ⟨lg, 0, none⟩) G ∧ RD .u8 W W.heap.size Ab nb (pktB (⟨vt, vi, false, false, 0, vl, vp, vs, vx⟩ : HD) o d) ∧ RD .u8 W W.heap.size Ao on o ∧ BLOCK W HN 49 #[.int .u8 vt, .int .u16 vi, .bool false, .bool false, .int .i64 0, .int .u8 vl, .int .u8 vp, .int .u32 vs, .int .u32 vx, .slice Ao on oc] from ⟨pks_split PI.out hs, hs.tail.right.rd 1 rfl, hs.tail.right.rd 2 rfl, hs.tail.right.blk 3 rfl⟩))
  generalize hR0 : (.row 23 1 (some ⟨lg, 0, none⟩) nl cl (G.map gV) :: (G.map gIT ++ [.blk SB 25 #[.int .u8 h0, .int .u8 h1, .int .u8 h2, .int .u8 h3, .int .u8 h4, .int .u8 h5, .int .u8 h6, .int .u8 h7, .int .u8 h8, .int .u8 h9, .int .u8 h10, .int .u8 h11, .int .u8 words, .int .u8 far, .int .u8 many, .bool df, .bool mf, .slice A n c], .own .u8 5 Ab nb cb (pktB (⟨vt, vi, false, false, 0, vl, vp, vs, vx⟩ : HD) o d), .own .u8 5 Ao on oc o, .blk HN 49 #[.int .u8 vt, .int .u16 vi, .bool false, .bool false, .int .i64 0, .int .u8 vl, .int .u8 vp, .int .u32 vs, .int .u32 vx, .slice Ao on oc]]) : List IT) = R0 at X4 RF
  clear hR0
  clear hc12
  go_wp2_with fail
  refine (tnew 1 1 X4.out ⟨by omega, by omega⟩ ⟨by omega, by omega⟩).mono ?_
  rintro e w8 ⟨TB, rfl, hT⟩
  have X8 := Lib.hid hT
  clear hT X4
  have d1 := HDIV.out
  have d2 : IntKind.i64.wrap ((nb : Int) - (fr : Int)) = (nb : Int) - (fr : Int) := IntWalk.i64_in _ (by omega)
  have d3 : IntKind.i64.wrap ((nb : Int) - (fr : Int) + (s : Int)) = (nb : Int) - (fr : Int) + (s : Int) := IntWalk.i64_in _ (by omega)
  have d4 : IntKind.i64.wrap ((nb : Int) - (fr : Int) + (s : Int) - 1) = (nb : Int) - (fr : Int) + (s : Int) - 1 := IntWalk.i64_in _ (by omega)
  have d5 : IntKind.i64.wrap (nl : Int) = (nl : Int) := IntWalk.i64_in _ (by omega)
  have d6 : (s : Int) ≠ 0 := by omega
  go_wp2_with fail
  refine (size7s q hq hs _).mono ?_
  rintro e w9 ⟨rfl, hw9⟩
  obtain rfl := hw9
  go_wp2_with fail
  refine (size7s q hq hs _).mono ?_
  rintro e w9 ⟨rfl, hw9⟩
  obtain rfl := hw9
  go_upto_region 10 with fail
  clear d1 d2 d3 d4 d5
  go_loopw [16, 17, 18, 19, 20, 21, 69] (fun _ _ _ _ _ _ s69 wr => ∃ (k : Nat), k ≤ nl ∧ s69 = .int .i64 (k : Int) ∧ TAB w wr TB ⟨1, 1, 0, []⟩ R0) (fun _ _ _ _ _ _ s69 _ => nl - (intOf s69).toNat)
  case atStart => exact ⟨0, by omega, rfl, X8.out⟩
  case round =>
    obtain ⟨k, hk, rfl, Y0⟩ := hrel
    have Y := Lib.hid Y0
    clear Y0 X8
    have e6 : IntKind.i64.wrap ((k : Int) + 1) = (k : Int) + 1 := IntWalk.i64_in _ (by omega)
    by_cases hlt : k < nl
    · have i1 : (0 : Int) ≤ (k : Int) := by omega
      have i2 : (k : Int) < (nl : Int) := by omega
      obtain ⟨sd, hg⟩ := PI.out.at_ (j := k) (by have := HNL.out.2; omega)
      obtain ⟨⟨lb, lof, hlg, x1⟩, p2, p3, p4, p5⟩ := (RF.out wr Y.out.right).1 k _ hg
      cases hlg
      obtain ⟨gA, gn, gc⟩ := sd
      have x2 : wr.cell? ⟨lg, k, none⟩ = some (.slice gA gn gc) := by rw [Nat.zero_add] at x1; exact x1
      have HPR := Lib.hid (fun (W : World) (hS : SP w W R0) => (show RD .u8 W W.heap.size gA gn (bytesF (pieceF ⟨(⟨vt, vi, false, false, 0, vl, vp, vs, vx⟩ : HD), o, d⟩ s k)) from ((RF.out W hS).1 k _ hg).2.1))
      have hfg := PI.out.frg (j := k) (by have := HNL.out.2; omega)
      have HFG := Lib.hid hfg
      have hsk : s * k < d.length := (lt_cnt (n := d.length) (k := k) (size := s) (by omega)).1 (by have := HNL.out.2; omega)
      have HZR := Lib.hid (read_frg hfg)
      have hpl := pieceF_len ⟨(⟨vt, vi, false, false, 0, vl, vp, vs, vx⟩ : HD), o, d⟩ s k
      obtain ⟨pl, hpl0⟩ : ∃ pl, (pieceF ⟨(⟨vt, vi, false, false, 0, vl, vp, vs, vx⟩ : HD), o, d⟩ s k).d.length = pl := ⟨_, rfl⟩
      have hgn : gn = fr + pl := by
        have h1 := p2.len
        have h2 := frg_len hfg
        have h3 := HFR.out.1
        simp only at h1 h2
        rw [hpl0] at h2
        omega
      have hpb : pl = min s (d.length - s * k) := by rw [← hpl0]; exact hpl
      have HPD := Lib.hid (show (bytesF (pieceF ⟨(⟨vt, vi, false, false, 0, vl, vp, vs, vx⟩ : HD), o, d⟩ s k)).drop fr = ((pktB (⟨vt, vi, false, false, 0, vl, vp, vs, vx⟩ : HD) o d).drop (fr + s * k)).take pl by
        have h1 : (bytesF (pieceF ⟨(⟨vt, vi, false, false, 0, vl, vp, vs, vx⟩ : HD), o, d⟩ s k)).drop fr = (pieceF ⟨(⟨vt, vi, false, false, 0, vl, vp, vs, vx⟩ : HD), o, d⟩ s k).d := by
          rw [← HFR.out.1]
          show (pktB _ _ _).drop _ = _
          unfold pktB
          rw [List.drop_left' (by rw [fixOf_len, headB_len]; rfl)]
        have h2 : (pktB (⟨vt, vi, false, false, 0, vl, vp, vs, vx⟩ : HD) o d).drop fr = d := by
          rw [← HFR.out.1]
          unfold pktB
          rw [List.drop_left' (by rw [fixOf_len, headB_len])]
        rw [h1, ← List.drop_drop, h2]
        show (d.drop (s * k)).take s = _
        rw [hpb, ← List.length_drop, List.take_eq_take_iff]
        omega)
      obtain ⟨M, hM⟩ : ∃ M : Bool, decide (k + 1 < nl) = M := ⟨_, rfl⟩
      have HHD := Lib.hid (show (pieceF ⟨(⟨vt, vi, false, false, 0, vl, vp, vs, vx⟩ : HD), o, d⟩ s k).h = (⟨vt, vi, false, M, ((s * k : Nat) : Int), vl, vp, vs, vx⟩ : HD) by
        unfold pieceF
        simp only
        have h1 : decide (s * (k + 1) < d.length) = M := by
          rw [← hM, HNL.out.2]
          congr 1
          exact propext (lt_cnt (by omega)).symm
        rw [Bool.false_or, h1, Int.zero_add])
      have HL2 := Lib.hid (show M = true → pl = s by
        intro h1
        subst h1
        have h2 : k + 1 < nl := by simpa using hM
        rw [HNL.out.2, lt_cnt (by omega)] at h2
        rw [hpb]
        rw [Nat.mul_add, Nat.mul_one] at h2
        omega)
      have HGN := Lib.hid hgn
      have RP := Lib.hid (read_any gA gn gc (bytesF (pieceF ⟨(⟨vt, vi, false, false, 0, vl, vp, vs, vx⟩ : HD), o, d⟩ s k)) wr p2 p3 p4 p5)
      have hlo : fr + s * k + pl ≤ nb := by have := HFR.out.2; omega
      obtain ⟨lo, hlo0⟩ : ∃ lo, fr + s * k = lo := ⟨_, rfl⟩
      rw [hlo0] at HPD hlo
      have HLO := Lib.hid hlo0
      have hsk96 : s * k ≤ 96 := by omega
      have hpl32 : pl ≤ 32 := by omega
      obtain ⟨sk, hsk0⟩ : ∃ sk, s * k = sk := ⟨_, rfl⟩
      rw [hsk0] at HHD hsk96
      have m1 : IntKind.i64.wrap ((k : Int) * (s : Int)) = (sk : Int) := by
        rw [IntWalk.i64_in _ (by rw [Int.mul_comm, ← Int.natCast_mul, hsk0]; omega), Int.mul_comm, ← Int.natCast_mul, hsk0]
      have m2 : IntKind.i64.wrap ((nl : Int) - 1) = (nl : Int) - 1 := IntWalk.i64_in _ (by omega)
      obtain ⟨L2, hL2⟩ : ∃ x, lo + gn = x := ⟨_, rfl⟩
      obtain ⟨H2, hH2⟩ : ∃ x, lo + pl = x := ⟨_, rfl⟩
      have HH2 := Lib.hid (And.intro hL2 hH2)
      have hH3 : lo ≤ H2 ∧ H2 ≤ nb := by omega
      have hgn3 : fr ≤ gn ∧ gn ≤ 100 := by omega
      have m3 : IntKind.i64.wrap ((gn : Int) - (fr : Int)) = (pl : Int) := by rw [IntWalk.i64_in _ (by omega)]; omega
      have m4 : IntKind.i64.wrap ((fr : Int) + (sk : Int)) = (lo : Int) := by rw [IntWalk.i64_in _ (by omega)]; omega
      have m5 : IntKind.i64.wrap ((lo : Int) + (gn : Int)) = (L2 : Int) := by rw [IntWalk.i64_in _ (by omega)]; omega
      have m6 : IntKind.i64.wrap ((L2 : Int) - (fr : Int)) = (H2 : Int) := by rw [IntWalk.i64_in _ (by omega)]; omega
      have s1 := fun W => run_slice_lo (P := Try.prog) W Try.underlying23 hi hz1 gA gn gc (fr : Int) fr rfl (by omega)
      have s2 := fun W => run_slice_lohi (P := Try.prog) W Try.underlying23 hi hz1 Ab nb cb (lo : Int) (H2 : Int) lo H2 rfl rfl (by omega) (by omega)
      have SB2 := Lib.hid (fun (W : World) (hS : SP w W R0) => (show Calls Try.prog 17 #[.slice (cutA gA gc fr) (gn - fr) (gc - fr), .slice (cutA Ab cb lo) (H2 - lo) (cb - lo)] W (fun e w' => e = .returned (.bool true) ∧ ∃ m, w' = W.drewN m) by
        have h5 := same_any (cutA gA gc fr) (cutA Ab cb lo) (gn - fr) (gc - fr) (H2 - lo) (cb - lo) _ _ W ((HPR.out W hS).cutA (lo := fr) (by omega) p4) ((RF.out W hS).2.1.mid (lo := lo) (hi := H2) (by omega) (by omega) kb1) (by omega) (by omega)
        rw [show ((bytesF (pieceF ⟨(⟨vt, vi, false, false, 0, vl, vp, vs, vx⟩ : HD), o, d⟩ s k)).drop fr == ((pktB (⟨vt, vi, false, false, 0, vl, vp, vs, vx⟩ : HD) o d).drop lo).take (H2 - lo)) = true by rw [HPD.out, show H2 - lo = pl by have := HH2.out.2; omega]; simp] at h5
        exact h5))
      clear p2 p3 p5 hg hfg x1 hpl hpl0 hpb hlo0 hsk hsk0 hsk96 hgn hL2 hH2
      go_wp2_with fail
      refine RP.out.mono ?_
      rintro e w6 ⟨Ap, pn, pc, rfl, hop, hbp⟩
      rw [HZR.out.1, HZR.out.2.1, HZR.out.2.2.1, HZR.out.2.2.2.1, HHD.out]
      rw [HZR.out.2.2.2.2] at hop
      rw [show (20 + o.length) = fr from HFR.out.1, show (bytesF (pieceF ⟨(⟨vt, vi, false, false, 0, vl, vp, vs, vx⟩ : HD), o, d⟩ s k)).length = gn by rw [(HPR.out _ Y.out.right).len]]
      have Z := Lib.hid (Y.out.push hbp hop)
      clear hop hbp RP HZR HHD x2
      unfold HD.val HD.cells
      obtain ⟨KN, hKN⟩ : ∃ b, w6.heap.size = b := ⟨_, rfl⟩
      have Z2 := Lib.hid (Z.out.alloc 49 #[.int .u8 vt, .int .u16 vi, .bool false, .bool M, .int .i64 (sk : Int), .int .u8 vl, .int .u8 vp, .int .u32 vs, .int .u32 vx, .slice Ap pn pc] hKN)
      go_upto_region 13 with fail
      try rw [hKN]
      generalize hw7 : w6.alloc (.cells #[.int .u8 vt, .int .u16 vi, .bool false, .bool M, .int .i64 (sk : Int), .int .u8 vl, .int .u8 vp, .int .u32 vs, .int .u32 vx, .slice Ap pn pc] 49) = w7 at Z2 ⊢
      clear hw7 hKN Z
      have f3 : w7.cell? ⟨KN, 3, none⟩ = some (.bool M) := Z2.out.right.cell 0 rfl 3 rfl
      have f4 : w7.cell? ⟨KN, 4, none⟩ = some (.int .i64 (sk : Int)) := Z2.out.right.cell 0 rfl 4 rfl
      have HSZ := Lib.hid (fun j : Nat => size7s q hq hs (w7.drewN j))
      have HSB := Lib.hid (fun j : Nat => SB2.out (w7.drewN j) (Z2.out.drewN j).right.tail.tail)
      clear SB2
      have hMM : (M = true ∧ k + 1 < nl) ∨ (M = false ∧ ¬ k + 1 < nl) := by
        rw [← hM]
        by_cases hc : k + 1 < nl
        · exact .inl ⟨decide_eq_true hc, hc⟩
        · exact .inr ⟨decide_eq_false hc, hc⟩
      clear hM
      rcases hMM with ⟨rfl, hlast⟩ | ⟨rfl, hlast⟩
      · have t7 : (k : Int) < (nl : Int) - 1 := by omega
        have u1 : ((pl : Int) != (s : Int)) = false := by have := HL2.out rfl; simp; omega
        go_quiet (first | (go_at_call 24; with_reducible exact quiet_eq0 (HSZ.out _)) | (go_at_call 17; with_reducible exact quiet_dN0 (HSB.out _)))
        have Z3 := Lib.hid (Z2.out.drewN nq)
        have q3 := Z3.out.right.free 0 rfl 3
        have q4 := Z3.out.right.free 0 rfl 4
        replace f3 := Z3.out.right.cell 0 rfl 3 (v := .bool true) rfl
        replace f4 := Z3.out.right.cell 0 rfl 4 (v := .int .i64 (sk : Int)) rfl
        generalize hwa : w7.drewN nq = wa at Z3 q3 q4 f3 f4 ⊢
        clear hwa Z2 HSB s1 s2 m1 m2 m3 m4 m5 m6
        have Z4 := Lib.hid (Z3.out.lift (fun B hS => SP.backOf (((SP.frontOf hS).setB 0 rfl 4 (.int .i64 0)).setB 0 rfl 3 (.bool false))))
        go_upto_region 16 with fail
        generalize hwb : (wa.setCell ⟨KN, 4, none⟩ (.int .i64 0)).setCell ⟨KN, 3, none⟩ (.bool false) = wb at Z4 ⊢
        clear hwb Z3 q3 q4 f3 f4
        have HK1 := Lib.hid (show BLOCK wb KN 49 #[.int .u8 vt, .int .u16 vi, .bool false, .bool false, .int .i64 0, .int .u8 vl, .int .u8 vp, .int .u32 vs, .int .u32 vx, .slice Ap pn pc] from Z4.out.right.blk 0 rfl)
        have HK2 := Lib.hid (RF.out _ Z4.out.right.tail.tail).2.2.2
        go_wp2_with (first
          | (refine wpList_load_row rfl 49 _ rfl KN rfl 49 #[.int .u8 vt, .int .u16 vi, .bool false, .bool false, .int .i64 0, .int .u8 vl, .int .u8 vp, .int .u32 vs, .int .u32 vx, .slice Ap pn pc] (0, 0) _ HK1.out Try.underlying49 rfl (by kernel_rfl) ?_)
          | (refine wpList_load_row rfl 49 _ rfl HN rfl 49 #[.int .u8 vt, .int .u16 vi, .bool false, .bool false, .int .i64 0, .int .u8 vl, .int .u8 vp, .int .u32 vs, .int .u32 vx, .slice Ao on oc] (0, 0) _ HK2.out Try.underlying49 rfl (by kernel_rfl) ?_))
        refine (same5_yes (⟨vt, vi, false, false, 0, vl, vp, vs, vx⟩ : HD) Ap Ao pn pc on oc o wb (Z4.out.right.rd 1 rfl) (RF.out _ Z4.out.right.tail.tail).2.2.1 (by have := Z4.out.right.own 1 rfl |>.len; have := HON.out; have := HP.out.right.2.2.2.1; omega) (by have := HON.out; have := HP.out.right.2.2.2.1; omega)).mono ?_
        rintro e wc ⟨rfl, hbc⟩
        have Z5 := Lib.hid (Z4.out.next hbc).tail.tail
        clear hbc HK1 HK2 Z4
        go_wp2_with fail
        go_roundw
        case rel => exact ⟨k + 1, by omega, by go_num, Z5.out⟩
        case measure => simp [intOf]; omega
      · have t7 : ¬ (k : Int) < (nl : Int) - 1 := by omega

        go_quiet (first | (go_at_call 24; with_reducible exact quiet_eq0 (HSZ.out _)) | (go_at_call 17; with_reducible exact quiet_dN0 (HSB.out _)))
        have Z3 := Lib.hid (Z2.out.drewN nq)
        have q3 := Z3.out.right.free 0 rfl 3
        have q4 := Z3.out.right.free 0 rfl 4
        replace f3 := Z3.out.right.cell 0 rfl 3 (v := .bool false) rfl
        replace f4 := Z3.out.right.cell 0 rfl 4 (v := .int .i64 (sk : Int)) rfl
        generalize hwa : w7.drewN nq = wa at Z3 q3 q4 f3 f4 ⊢
        clear hwa Z2 HSB s1 s2 m1 m2 m3 m4 m5 m6
        have Z4 := Lib.hid (Z3.out.lift (fun B hS => SP.backOf (((SP.frontOf hS).setB 0 rfl 4 (.int .i64 0)).setB 0 rfl 3 (.bool false))))
        go_upto_region 16 with fail
        generalize hwb : (wa.setCell ⟨KN, 4, none⟩ (.int .i64 0)).setCell ⟨KN, 3, none⟩ (.bool false) = wb at Z4 ⊢
        clear hwb Z3 q3 q4 f3 f4
        have HK1 := Lib.hid (show BLOCK wb KN 49 #[.int .u8 vt, .int .u16 vi, .bool false, .bool false, .int .i64 0, .int .u8 vl, .int .u8 vp, .int .u32 vs, .int .u32 vx, .slice Ap pn pc] from Z4.out.right.blk 0 rfl)
        have HK2 := Lib.hid (RF.out _ Z4.out.right.tail.tail).2.2.2
        go_wp2_with (first
          | (refine wpList_load_row rfl 49 _ rfl KN rfl 49 #[.int .u8 vt, .int .u16 vi, .bool false, .bool false, .int .i64 0, .int .u8 vl, .int .u8 vp, .int .u32 vs, .int .u32 vx, .slice Ap pn pc] (0, 0) _ HK1.out Try.underlying49 rfl (by kernel_rfl) ?_)
          | (refine wpList_load_row rfl 49 _ rfl HN rfl 49 #[.int .u8 vt, .int .u16 vi, .bool false, .bool false, .int .i64 0, .int .u8 vl, .int .u8 vp, .int .u32 vs, .int .u32 vx, .slice Ao on oc] (0, 0) _ HK2.out Try.underlying49 rfl (by kernel_rfl) ?_))
        refine (same5_yes (⟨vt, vi, false, false, 0, vl, vp, vs, vx⟩ : HD) Ap Ao pn pc on oc o wb (Z4.out.right.rd 1 rfl) (RF.out _ Z4.out.right.tail.tail).2.2.1 (by have := Z4.out.right.own 1 rfl |>.len; have := HON.out; have := HP.out.right.2.2.2.1; omega) (by have := HON.out; have := HP.out.right.2.2.2.1; omega)).mono ?_
        rintro e wc ⟨rfl, hbc⟩
        have Z5 := Lib.hid (Z4.out.next hbc).tail.tail
        clear hbc HK1 HK2 Z4
        go_wp2_with fail
        go_roundw
        case rel => exact ⟨k + 1, by omega, by go_num, Z5.out⟩
        case measure => simp [intOf]; omega
    · have t1 : ¬ (k : Int) < (nl : Int) := by omega
      obtain rfl : k = nl := by omega
      go_wp2_with fail
      refine (shuf_any k (by omega) Bh bn bc ys wr (HBY.out _ Y.out.bel) HBB.out.1 (by have := HBB.out.2; simp only [maxLen] at this; omega)).mono ?_
      rintro e w7 ⟨OA, oc2, σ, rfl, hσ, ho, hbo⟩
      have X7 := Lib.hid (Y.out.push hbo ho)
      have HSG := Lib.hid hσ
      clear hσ ho hbo Y
      go_wp2_with fail
      refine (tputs X7.out 7 (some ⟨lg, 0, none⟩) k cl G OA k oc2 σ HNL.out.1.symm (by omega) (fun W hS => (RF.out W hS.tail).1) (fun W hS => hS.rd 0 rfl) (fun i hi => by have := HSG.out.mem_iff.1 hi; have := HNL.out.1; simp at *; omega) (by omega)).mono ?_
      rintro e w8 ⟨A8, n8, c8, rfl, hn8, hT⟩
      obtain ⟨T9, hp1, hp2, _⟩ := puts_all (T := ⟨1, 1, 0, []⟩) (now := 7) HP.out.whole hs8 hs0 (σ := σ) (by rw [← HNL.out.2]; exact HSG.out) (by show (0 : Int) ≤ 7; omega) (by omega) (by show (0 : Int) < 1; omega) rfl (by show (0 : Int) < 1; omega)
      rw [PI.out.map (σ := σ) (fun i hi => by have := HSG.out.mem_iff.1 hi; have := HNL.out.2; simp at *; omega), hp1] at hT hn8 ⊢
      have hn8' : n8 = nb := by have := HNB.out; simp only at hn8; omega
      subst hn8'
      have X8 := Lib.hid hT
      clear hT hn8 X7 hp1
      go_wp2_with fail
      refine (same_any A8 Ab n8 c8 n8 cb (pktB (⟨vt, vi, false, false, 0, vl, vp, vs, vx⟩ : HD) o d) (pktB (⟨vt, vi, false, false, 0, vl, vp, vs, vx⟩ : HD) o d) _ (X8.out.right.rd 0 rfl) (RF.out _ X8.out.right.tail.tail).2.1 (by omega) (by omega)).mono ?_
      rintro e wa ⟨rfl, qa, rfl⟩
      rw [show (pktB (⟨vt, vi, false, false, 0, vl, vp, vs, vx⟩ : HD) o d == pktB (⟨vt, vi, false, false, 0, vl, vp, vs, vx⟩ : HD) o d) = true by simp]
      have X9 := Lib.hid (X8.out.drewN qa)
      clear X8
      go_wp2_with fail
      refine (tgroups X9.out).mono ?_
      rintro e wb ⟨GA, gc, rfl, hT⟩
      rw [hp2] at hT ⊢
      have XA := Lib.hid hT.bel
      clear hT X9 hp2
      go_wp2_with fail
      go_ret
      exact ⟨rfl, XA.out⟩
end Go.Proofs.Ytljbfnabnkkfeaa
