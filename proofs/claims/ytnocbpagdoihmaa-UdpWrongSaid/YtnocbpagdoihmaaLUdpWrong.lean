/- The walk of UdpWrong. (Printed by gen_udpwrong.py.) -/
import Derived.Test.YtnocbpagdoihmaaWMade9
import Derived.Deep.DeepCutAuto
namespace Go.Proofs.Ytnocbpagdoihmaa
open Go.RowKit
set_option linter.unusedVariables false
attribute [local go_sem ↓] Go.wp_at_zero Go.wp_at_succ

theorem byte_set {zs : List Int} {x : Int} (i : Nat) (h : BD 255 zs) (hx : 0 ≤ x ∧ x ≤ 255) : BD 255 (zs.set i x) := fun y hy => by
  rcases List.mem_or_eq_of_mem_set hy with hy | rfl
  · exact h y hy
  · exact hx
theorem wrong_len {zs : List Int} {L : Int} (h : 8 ≤ zs.length) (hb : BD 255 zs) (hL : 0 ≤ L ∧ L ≤ 65535) (hx : L < 8 ∨ (zs.length : Int) < L) : udpE ((zs.set 4 (L / 256)).set 5 (L % 256)) = 91 := by
  have e : wordAt ((zs.set 4 (L / 256)).set 5 (L % 256)) 4 = L := by
    unfold wordAt
    rw [List.getElem?_set_ne (by omega), List.getElem?_set_self (by omega), List.getElem?_set_self (by simp; omega)]
    simp; omega
  unfold udpE
  rw [e, if_neg (by simp; omega), if_pos (by simp; exact hx)]
theorem wrong_port {zs : List Int} (h : 8 ≤ zs.length) (h4 : ¬ (wordAt zs 4 < 8 ∨ (zs.length : Int) < wordAt zs 4)) : udpE ((zs.set 2 0).set 3 0) = 92 := by
  have e : wordAt ((zs.set 2 0).set 3 0) 2 = 0 := by
    unfold wordAt
    rw [List.getElem?_set_ne (by omega), List.getElem?_set_self (by omega), List.getElem?_set_self (by simp; omega)]
    rfl
  have e4 : wordAt ((zs.set 2 0).set 3 0) 4 = wordAt zs 4 := by
    unfold wordAt
    rw [List.getElem?_set_ne (by omega), List.getElem?_set_ne (by omega), List.getElem?_set_ne (by omega), List.getElem?_set_ne (by omega)]
  unfold udpE
  rw [e, e4, if_neg (by simp; omega), if_neg (by simp; simpa using h4), if_pos rfl]

set_option maxHeartbeats 8000000 in
set_option maxRecDepth 100000 in
theorem udpWrong_walk (fr tp : Int) (ck : Bool) (s d : Int) (A : Option Addr) (n c : Nat) (zs : List Int) (way q : Int) (w : World) (h : ROW .u8 255 w A n c zs) (hf : 0 ≤ fr ∧ fr ≤ 65535) (ht : 0 ≤ tp ∧ tp ≤ 65535) (hs : 0 ≤ s ∧ s ≤ 4294967295) (hd : 0 ≤ d ∧ d ≤ 4294967295) (hway : 0 ≤ way ∧ way ≤ 255) (hq : 0 ≤ q ∧ q ≤ 65535) :
    Calls Try.prog 9 #[.agg (sm6 fr tp ck s d (.slice A n c)), .int .u8 way, .int .u16 q] w fun e w' => e = .returned (.bool true) ∧ Below w.heap.size w w' := by
  obtain ⟨i0, hi, hz0, hz1, hz2⟩ := info_parts infoU8
  have hz := h.bd
  have hnc := h.le
  have hcm := h.cap
  have hrd := h.rd
  have S0 := (SP.start w).alloc 37 (sm6 fr tp ck s d (.slice A n c))
  clear h
  go_enter Try.func9, Try.ntmps9
  unfold sm6
  go_upto_region 1 with fail
  rw [show w.alloc (.cells #[.int .u16 fr, .int .u16 tp, .bool ck, .int .u32 s, .int .u32 d, .slice A n c] 37) = w.alloc (.cells (sm6 fr tp ck s d (.slice A n c)) 37) from rfl]
  generalize hw1 : w.alloc (.cells (sm6 fr tp ck s d (.slice A n c)) 37) = w1 at S0 ⊢
  clear hw1
  go_wp2_with fail
  refine (awake9_any _).mono ?_
  rintro e w2 ⟨rfl, hb2⟩
  have H2 := Lib.hid (S0.next hb2)
  clear S0 hb2
  have b0 : w2.cell? ⟨w.heap.size, 0, none⟩ = some (.int .u16 fr) := H2.out.cell 0 rfl 0 rfl
  have b1 : w2.cell? ⟨w.heap.size, 1, none⟩ = some (.int .u16 tp) := H2.out.cell 0 rfl 1 rfl
  have b2 : w2.cell? ⟨w.heap.size, 2, none⟩ = some (.bool ck) := H2.out.cell 0 rfl 2 rfl
  have b3 : w2.cell? ⟨w.heap.size, 3, none⟩ = some (.int .u32 s) := H2.out.cell 0 rfl 3 rfl
  have b4 : w2.cell? ⟨w.heap.size, 4, none⟩ = some (.int .u32 d) := H2.out.cell 0 rfl 4 rfl
  have b5 : w2.cell? ⟨w.heap.size, 5, none⟩ = some (.slice A n c) := H2.out.cell 0 rfl 5 rfl
  go_wp2_with fail
  refine (made9_any fr tp ck s d A n c zs _ ((hrd.below H2.out.bel).more H2.out.size) hz hnc hcm ht).mono ?_
  rintro e w3 ⟨Ad, dn, dc, data, rfl, ownD, bd, hdn, hb3⟩
  clear b0 b1 b2 b3 b4 b5
  have hmt := max1_bd ht
  obtain ⟨mt, hmt'⟩ : ∃ mt, mt = max1 tp := ⟨_, rfl⟩
  rw [← hmt'] at hmt ⊢
  clear hmt' ht
  have hdl := ownD.len
  have hdc := ownD.le
  have rdd := ownD.rd
  have ok : UOK fr mt s d data := ⟨hf, by omega, by omega, hs, hd, bd⟩
  have H3 := Lib.hid (H2.out.next hb3)
  have OK := Lib.hid ok
  have hBox := Lib.hid (H3.out.blk 0 rfl)
  have hbw := H3.out.bel
  have HDL := Lib.hid hdl
  have hwr : ¬ UWrong mt dn := by unfold UWrong; omega
  have hm0 : mt ≠ 0 := by omega
  have S := (SP.start w3).alloc 28 (uh3 fr mt ck)
  clear H2 H3 hb3 ownD hdl ok hf hrd hz hnc hcm
  unfold uh3
  go_upto_region 4 with fail
  rw [show w3.alloc (.cells #[.int .u16 fr, .int .u16 mt, .bool ck] 28) = w3.alloc (.cells (uh3 fr mt ck) 28) from rfl]
  generalize hw4 : w3.alloc (.cells (uh3 fr mt ck) 28) = w4 at S ⊢
  clear hw4
  have H4 := Lib.hid S
  clear S
  have f0 : w4.cell? ⟨w3.heap.size, 0, none⟩ = some (.int .u16 fr) := H4.out.cell 0 rfl 0 rfl
  have f1 : w4.cell? ⟨w3.heap.size, 1, none⟩ = some (.int .u16 mt) := H4.out.cell 0 rfl 1 rfl
  have f2 : w4.cell? ⟨w3.heap.size, 2, none⟩ = some (.bool ck) := H4.out.cell 0 rfl 2 rfl
  have HB4 := Lib.hid (hBox.out.below H4.out.bel hBox.out.lt)
  have b3 : w4.cell? ⟨w.heap.size, 3, none⟩ = some (.int .u32 s) := HB4.out.cell 3
  have b4 : w4.cell? ⟨w.heap.size, 4, none⟩ = some (.int .u32 d) := HB4.out.cell 4
  have hEE := Lib.hid (show uwE mt dn = 0 by unfold uwE; rw [if_neg hwr])
  have hBB := Lib.hid (show uwB fr mt ck s d data = uPkt fr mt ck s d data by unfold uwB; rw [if_neg (by rw [HDL.out]; exact hwr)])
  go_wp2_with fail
  refine (uwrite_any fr mt ck s d Ad dn dc data _ OK.out.sp OK.out.dp hs hd ((rdd.below H4.out.bel).more H4.out.size) bd (by omega)).mono ?_
  rintro e w5 ⟨A5, n5, c5, rfl, own5, hb5⟩
  rw [hEE.out]
  rw [hBB.out] at own5
  have hn5 := own5.len
  rw [uPkt_len, HDL.out] at hn5
  subst hn5
  have hle5 := own5.le
  obtain ⟨g5, rfl, hg5, _⟩ := own5.form (by omega)
  have H5 := Lib.hid (H4.out.pushOwn hb5 own5)
  clear own5 hb5 f0 f1 f2 b3 b4 H4 HB4 hEE hBB hwr
  have hpl := Lib.hid (show (uPkt fr mt ck s d data).length = 8 + dn by rw [uPkt_len, HDL.out])
  have hpb := Lib.hid (uPkt_bd (ck := ck) OK.out)
  obtain ⟨q0, q1⟩ := hq
  obtain ⟨y0, y1⟩ := hway
  obtain ⟨v, hv⟩ : ∃ v, v = way % 4 := ⟨_, rfl⟩
  have hv4 : v = 0 ∨ v = 1 ∨ v = 2 ∨ v = 3 := by omega
  have hv' : way % 4 = v := hv.symm
  have hv2 : way.tmod 4 = v := by rw [Int.tmod_eq_emod_of_nonneg (by omega)]; exact hv'
  clear hv
  rcases hv4 with rfl | rfl | rfl | rfl
  · obtain ⟨m, hm⟩ : ∃ m : Nat, q % 8 = (m : Int) := ⟨(q % 8).toNat, by omega⟩
    have hm8 : m ≤ 7 := by omega
    have hm2 : q.tmod 8 = m := by rw [Int.tmod_eq_emod_of_nonneg (by omega)]; exact hm
    have i1 : (0 : Int) ≤ (m : Int) := by omega
    have i2 : (m : Int) ≤ (c5 : Int) := by omega
    have T := Lib.hid (H5.out.cutO 1 rfl (m := m) (by omega))
    have HE := Lib.hid (show udpE ((uPkt fr mt ck s d data).take m) = 90 by unfold udpE; rw [if_pos (by rw [List.length_take, hpl.out]; omega)])
    have HB := Lib.hid (hpb.out.take m)
    go_upto_region 18 with fail
    generalize hw6 : w5 = w6 at T ⊢
    clear hw6 
    have HU := Lib.hid (show uhd ((uPkt fr mt ck s d data).take m) = uhd0 ∧ udpTo ((uPkt fr mt ck s d data).take m) = 0 ∧ udpV ((uPkt fr mt ck s d data).take m) s d = false ∧ udpTE ((uPkt fr mt ck s d data).take m) = 90 ∧ udpTB ((uPkt fr mt ck s d data).take m) = [] from by
      have hne : udpE ((uPkt fr mt ck s d data).take m) ≠ 0 := by rw [HE.out]; decide
      exact ⟨by unfold uhd; rw [if_neg hne], by unfold udpTo; rw [if_neg hne], by unfold udpV; simp [hne], by unfold udpTE; rw [if_neg hne, HE.out], by unfold udpTB; rw [if_neg (fun hh => hne hh.1)]⟩)
    have hnl : m ≤ c5 := by omega
    go_wp2_with fail
    refine (uread_any _ m c5 ((uPkt fr mt ck s d data).take m) _ (T.out.rd 1 rfl) HB.out (by omega) hnl).mono ?_
    rintro e w7 ⟨rfl, hb7⟩
    rw [HU.out.1, HU.out.2.1, HE.out]
    have H7 := Lib.hid ((T.out.next hb7).alloc 28 uhd0)
    clear hb7
    unfold uhd0
    go_upto_region 19 with fail
    rw [show w7.alloc (.cells #[.int .u16 0, .int .u16 0, .bool false] 28) = w7.alloc (.cells uhd0 28) from rfl]
    generalize hw8 : w7.alloc (.cells uhd0 28) = w8 at H7 ⊢
    clear hw8 T
    have HBox := Lib.hid (hBox.out.below H7.out.bel hBox.out.lt)
    have b3 : w8.cell? ⟨w.heap.size, 3, none⟩ = some (.int .u32 s) := HBox.out.cell 3
    have b4 : w8.cell? ⟨w.heap.size, 4, none⟩ = some (.int .u32 d) := HBox.out.cell 4
    go_wp2_with fail
    refine (uverify_any _ m c5 ((uPkt fr mt ck s d data).take m) s d _ (H7.out.rd 1 rfl) HB.out (by omega) hnl hs.1 hs.2 hd.1 hd.2).mono ?_
    rintro e w9 ⟨rfl, hb9⟩
    rw [HU.out.2.2.1, HE.out]
    have H9 := Lib.hid (H7.out.next hb9)
    clear hb9 b3 b4 HBox H7
    go_wp2_with fail
    refine (uturn_any _ m c5 ((uPkt fr mt ck s d data).take m) _ (H9.out.rd 1 rfl) HB.out (by omega) hnl).mono ?_
    rintro e wa ⟨Aa, na, ca, rfl, owna, hba⟩
    rw [HU.out.2.2.2.1]
    rw [HU.out.2.2.2.2] at owna
    have hna : 0 = na := owna.len
    subst hna
    have HA := Lib.hid (H9.out.next hba)
    clear hba owna H9
    have f1 : wa.cell? ⟨w3.heap.size, 1, none⟩ = some (.int .u16 mt) := HA.out.cell 0 rfl 1 rfl
    have z1 := HA.out.free 0 rfl 1
    have HS := Lib.hid (HA.out.setB 0 rfl 1 (.int .u16 0))
    go_upto_region 22 with fail
    generalize hwb : wa.setCell ⟨w3.heap.size, 1, none⟩ (.int .u16 0) = wb at HS ⊢
    clear hwb f1 z1 HA
    have f0 : wb.cell? ⟨w3.heap.size, 0, none⟩ = some (.int .u16 fr) := HS.out.cell 0 rfl 0 rfl
    have f1 : wb.cell? ⟨w3.heap.size, 1, none⟩ = some (.int .u16 0) := HS.out.cell 0 rfl 1 rfl
    have f2 : wb.cell? ⟨w3.heap.size, 2, none⟩ = some (.bool ck) := HS.out.cell 0 rfl 2 rfl
    have HBox := Lib.hid (hBox.out.below HS.out.bel hBox.out.lt)
    have b3 : wb.cell? ⟨w.heap.size, 3, none⟩ = some (.int .u32 s) := HBox.out.cell 3
    have b4 : wb.cell? ⟨w.heap.size, 4, none⟩ = some (.int .u32 d) := HBox.out.cell 4
    go_wp2_with fail
    refine (uwrite_no fr 0 ck s d Ad dn dc _ (by omega) (by omega) (.inl rfl)).mono ?_
    rintro e wc ⟨rfl, hbc⟩
    have HC := Lib.hid (HS.out.next hbc)
    clear hbc b3 b4 f0 f1 f2 HBox
    have g0 : wc.cell? ⟨w7.heap.size, 0, none⟩ = some (.int .u16 0) := HC.out.cell 2 rfl 0 rfl
    have g1 : wc.cell? ⟨w7.heap.size, 1, none⟩ = some (.int .u16 0) := HC.out.cell 2 rfl 1 rfl
    have g2 : wc.cell? ⟨w7.heap.size, 2, none⟩ = some (.bool false) := HC.out.cell 2 rfl 2 rfl
    go_wp2_with fail
    go_ret
    exact ⟨rfl, hbw.trans (HC.out.bel.mono hbw.size)⟩
  · obtain ⟨m, hm⟩ : ∃ m : Int, q % 8 = m := ⟨_, rfl⟩
    have hm0 : 0 ≤ m := by omega
    have hm8 : m ≤ 7 := by omega
    have hm2 : q.tmod 8 = m := by rw [Int.tmod_eq_emod_of_nonneg (by omega)]; exact hm
    have x2 := (H5.out.own 1 rfl).cell (i := 2) (by omega)
    have x3 := (H5.out.own 1 rfl).cell (i := 3) (by omega)
    have x4 := (H5.out.own 1 rfl).cell (i := 4) (by omega)
    have x5 := (H5.out.own 1 rfl).cell (i := 5) (by omega)
    have z2 := (H5.out.own 1 rfl).frozen 2
    have z3 := (H5.out.own 1 rfl).frozen 3
    have z4 := (H5.out.own 1 rfl).frozen 4
    have z5 := (H5.out.own 1 rfl).frozen 5
    have i2 : (2 : Int) < 8 + (dn : Int) := by omega
    have i3 : (3 : Int) < 8 + (dn : Int) := by omega
    have i4 : (4 : Int) < 8 + (dn : Int) := by omega
    have i5 : (5 : Int) < 8 + (dn : Int) := by omega
    have e1 : IntKind.u8.wrap m = m := u8_in _ hm0 (by omega)
    have T := Lib.hid ((((H5.out.setO 1 rfl 4 0).setO 1 rfl 5 m).setO 1 rfl 2 0).setO 1 rfl 3 0)
    have hE : udpE (((((uPkt fr mt ck s d data).set 4 0).set 5 m).set 2 0).set 3 0) = 91 := by
      have e0 : (((((uPkt fr mt ck s d data).set 4 0).set 5 m).set 2 0).set 3 0) = ((((uPkt fr mt ck s d data).set 2 0).set 3 0).set 4 (m / 256)).set 5 (m % 256) := by
        rw [show m / 256 = 0 by omega, show m % 256 = m by omega]
        rw [List.set_comm (i := 5) (j := 2) _ _ (by omega), List.set_comm (i := 4) (j := 2) _ _ (by omega), List.set_comm (i := 5) (j := 3) _ _ (by omega), List.set_comm (i := 4) (j := 3) _ _ (by omega)]
      rw [e0]
      exact wrong_len (by simp only [List.length_set, hpl.out]; omega) (byte_set 3 (byte_set 2 hpb.out (by omega)) (by omega)) (by omega) (.inl (by omega))
    have HE := Lib.hid hE
    have HB := Lib.hid (byte_set 3 (byte_set 2 (byte_set 5 (byte_set 4 hpb.out (by omega : (0:Int) ≤ 0 ∧ (0:Int) ≤ 255)) (by omega : 0 ≤ m ∧ m ≤ 255)) (by omega : (0:Int) ≤ 0 ∧ (0:Int) ≤ 255)) (by omega : (0:Int) ≤ 0 ∧ (0:Int) ≤ 255))
    clear hE
    go_upto_region 18 with fail
    generalize hw6 : (((w5.setCell ⟨g5, 4, none⟩ (.int .u8 0)).setCell ⟨g5, 5, none⟩ (.int .u8 m)).setCell ⟨g5, 2, none⟩ (.int .u8 0)).setCell ⟨g5, 3, none⟩ (.int .u8 0) = w6 at T ⊢
    clear hw6 x2 x3 x4 x5 z2 z3 z4 z5 i2 i3 i4 i5 e1
    have HU := Lib.hid (show uhd (((((uPkt fr mt ck s d data).set 4 0).set 5 m).set 2 0).set 3 0) = uhd0 ∧ udpTo (((((uPkt fr mt ck s d data).set 4 0).set 5 m).set 2 0).set 3 0) = 0 ∧ udpV (((((uPkt fr mt ck s d data).set 4 0).set 5 m).set 2 0).set 3 0) s d = false ∧ udpTE (((((uPkt fr mt ck s d data).set 4 0).set 5 m).set 2 0).set 3 0) = 91 ∧ udpTB (((((uPkt fr mt ck s d data).set 4 0).set 5 m).set 2 0).set 3 0) = [] from by
      have hne : udpE (((((uPkt fr mt ck s d data).set 4 0).set 5 m).set 2 0).set 3 0) ≠ 0 := by rw [HE.out]; decide
      exact ⟨by unfold uhd; rw [if_neg hne], by unfold udpTo; rw [if_neg hne], by unfold udpV; simp [hne], by unfold udpTE; rw [if_neg hne, HE.out], by unfold udpTB; rw [if_neg (fun hh => hne hh.1)]⟩)
    have hnl : (8 + dn) ≤ c5 := by omega
    go_wp2_with fail
    refine (uread_any _ (8 + dn) c5 (((((uPkt fr mt ck s d data).set 4 0).set 5 m).set 2 0).set 3 0) _ (T.out.rd 1 rfl) HB.out (by omega) hnl).mono ?_
    rintro e w7 ⟨rfl, hb7⟩
    rw [HU.out.1, HU.out.2.1, HE.out]
    have H7 := Lib.hid ((T.out.next hb7).alloc 28 uhd0)
    clear hb7
    unfold uhd0
    go_upto_region 19 with fail
    rw [show w7.alloc (.cells #[.int .u16 0, .int .u16 0, .bool false] 28) = w7.alloc (.cells uhd0 28) from rfl]
    generalize hw8 : w7.alloc (.cells uhd0 28) = w8 at H7 ⊢
    clear hw8 T
    have HBox := Lib.hid (hBox.out.below H7.out.bel hBox.out.lt)
    have b3 : w8.cell? ⟨w.heap.size, 3, none⟩ = some (.int .u32 s) := HBox.out.cell 3
    have b4 : w8.cell? ⟨w.heap.size, 4, none⟩ = some (.int .u32 d) := HBox.out.cell 4
    go_wp2_with fail
    refine (uverify_any _ (8 + dn) c5 (((((uPkt fr mt ck s d data).set 4 0).set 5 m).set 2 0).set 3 0) s d _ (H7.out.rd 1 rfl) HB.out (by omega) hnl hs.1 hs.2 hd.1 hd.2).mono ?_
    rintro e w9 ⟨rfl, hb9⟩
    rw [HU.out.2.2.1, HE.out]
    have H9 := Lib.hid (H7.out.next hb9)
    clear hb9 b3 b4 HBox H7
    go_wp2_with fail
    refine (uturn_any _ (8 + dn) c5 (((((uPkt fr mt ck s d data).set 4 0).set 5 m).set 2 0).set 3 0) _ (H9.out.rd 1 rfl) HB.out (by omega) hnl).mono ?_
    rintro e wa ⟨Aa, na, ca, rfl, owna, hba⟩
    rw [HU.out.2.2.2.1]
    rw [HU.out.2.2.2.2] at owna
    have hna : 0 = na := owna.len
    subst hna
    have HA := Lib.hid (H9.out.next hba)
    clear hba owna H9
    have f1 : wa.cell? ⟨w3.heap.size, 1, none⟩ = some (.int .u16 mt) := HA.out.cell 0 rfl 1 rfl
    have z1 := HA.out.free 0 rfl 1
    have HS := Lib.hid (HA.out.setB 0 rfl 1 (.int .u16 0))
    go_upto_region 22 with fail
    generalize hwb : wa.setCell ⟨w3.heap.size, 1, none⟩ (.int .u16 0) = wb at HS ⊢
    clear hwb f1 z1 HA
    have f0 : wb.cell? ⟨w3.heap.size, 0, none⟩ = some (.int .u16 fr) := HS.out.cell 0 rfl 0 rfl
    have f1 : wb.cell? ⟨w3.heap.size, 1, none⟩ = some (.int .u16 0) := HS.out.cell 0 rfl 1 rfl
    have f2 : wb.cell? ⟨w3.heap.size, 2, none⟩ = some (.bool ck) := HS.out.cell 0 rfl 2 rfl
    have HBox := Lib.hid (hBox.out.below HS.out.bel hBox.out.lt)
    have b3 : wb.cell? ⟨w.heap.size, 3, none⟩ = some (.int .u32 s) := HBox.out.cell 3
    have b4 : wb.cell? ⟨w.heap.size, 4, none⟩ = some (.int .u32 d) := HBox.out.cell 4
    go_wp2_with fail
    refine (uwrite_no fr 0 ck s d Ad dn dc _ (by omega) (by omega) (.inl rfl)).mono ?_
    rintro e wc ⟨rfl, hbc⟩
    have HC := Lib.hid (HS.out.next hbc)
    clear hbc b3 b4 f0 f1 f2 HBox
    have g0 : wc.cell? ⟨w7.heap.size, 0, none⟩ = some (.int .u16 0) := HC.out.cell 2 rfl 0 rfl
    have g1 : wc.cell? ⟨w7.heap.size, 1, none⟩ = some (.int .u16 0) := HC.out.cell 2 rfl 1 rfl
    have g2 : wc.cell? ⟨w7.heap.size, 2, none⟩ = some (.bool false) := HC.out.cell 2 rfl 2 rfl
    go_wp2_with fail
    go_ret
    exact ⟨rfl, hbw.trans (HC.out.bel.mono hbw.size)⟩
  · obtain ⟨L, hL⟩ : ∃ L, L = if q < 8 + (dn : Int) + 1 then 8 + (dn : Int) + 1 else q := ⟨_, rfl⟩
    have hL' : (if q < 8 + (dn : Int) + 1 then 8 + (dn : Int) + 1 else q) = L := hL.symm
    have hL0 : 8 + (dn : Int) < L ∧ L ≤ 65535 := by rw [hL]; split <;> omega
    obtain ⟨l0, l1⟩ := hL0
    have x4 := (H5.out.own 1 rfl).cell (i := 4) (by omega)
    have x5 := (H5.out.own 1 rfl).cell (i := 5) (by omega)
    have z4 := (H5.out.own 1 rfl).frozen 4
    have z5 := (H5.out.own 1 rfl).frozen 5
    have i4 : (4 : Int) < 8 + (dn : Int) := by omega
    have i5 : (5 : Int) < 8 + (dn : Int) := by omega
    have e0 : IntKind.u16.wrap (8 + (dn : Int) + 1) = 8 + (dn : Int) + 1 := u16_in _ (by omega) (by omega)
    have e1 : IntKind.u8.wrap (L / 256) = L / 256 := u8_in _ (by omega) (by omega)
    have e2 := u8_mod L
    have T := Lib.hid ((H5.out.setO 1 rfl 4 (L / 256)).setO 1 rfl 5 (L % 256))
    have HE := Lib.hid (wrong_len (zs := uPkt fr mt ck s d data) (L := L) (by rw [hpl.out]; omega) hpb.out (by omega) (.inr (by rw [hpl.out]; omega)))
    have HB := Lib.hid (byte_set 5 (byte_set 4 hpb.out (by omega : 0 ≤ L / 256 ∧ L / 256 ≤ 255)) (by omega : 0 ≤ L % 256 ∧ L % 256 ≤ 255))
    clear hL
    go_upto_region 18 with fail
    generalize hw6 : (w5.setCell ⟨g5, 4, none⟩ (.int .u8 (L / 256))).setCell ⟨g5, 5, none⟩ (.int .u8 (L % 256)) = w6 at T ⊢
    clear hw6 x4 x5 z4 z5 i4 i5 e0 e1 e2 hL'
    have HU := Lib.hid (show uhd (((uPkt fr mt ck s d data).set 4 (L / 256)).set 5 (L % 256)) = uhd0 ∧ udpTo (((uPkt fr mt ck s d data).set 4 (L / 256)).set 5 (L % 256)) = 0 ∧ udpV (((uPkt fr mt ck s d data).set 4 (L / 256)).set 5 (L % 256)) s d = false ∧ udpTE (((uPkt fr mt ck s d data).set 4 (L / 256)).set 5 (L % 256)) = 91 ∧ udpTB (((uPkt fr mt ck s d data).set 4 (L / 256)).set 5 (L % 256)) = [] from by
      have hne : udpE (((uPkt fr mt ck s d data).set 4 (L / 256)).set 5 (L % 256)) ≠ 0 := by rw [HE.out]; decide
      exact ⟨by unfold uhd; rw [if_neg hne], by unfold udpTo; rw [if_neg hne], by unfold udpV; simp [hne], by unfold udpTE; rw [if_neg hne, HE.out], by unfold udpTB; rw [if_neg (fun hh => hne hh.1)]⟩)
    have hnl : (8 + dn) ≤ c5 := by omega
    go_wp2_with fail
    refine (uread_any _ (8 + dn) c5 (((uPkt fr mt ck s d data).set 4 (L / 256)).set 5 (L % 256)) _ (T.out.rd 1 rfl) HB.out (by omega) hnl).mono ?_
    rintro e w7 ⟨rfl, hb7⟩
    rw [HU.out.1, HU.out.2.1, HE.out]
    have H7 := Lib.hid ((T.out.next hb7).alloc 28 uhd0)
    clear hb7
    unfold uhd0
    go_upto_region 19 with fail
    rw [show w7.alloc (.cells #[.int .u16 0, .int .u16 0, .bool false] 28) = w7.alloc (.cells uhd0 28) from rfl]
    generalize hw8 : w7.alloc (.cells uhd0 28) = w8 at H7 ⊢
    clear hw8 T
    have HBox := Lib.hid (hBox.out.below H7.out.bel hBox.out.lt)
    have b3 : w8.cell? ⟨w.heap.size, 3, none⟩ = some (.int .u32 s) := HBox.out.cell 3
    have b4 : w8.cell? ⟨w.heap.size, 4, none⟩ = some (.int .u32 d) := HBox.out.cell 4
    go_wp2_with fail
    refine (uverify_any _ (8 + dn) c5 (((uPkt fr mt ck s d data).set 4 (L / 256)).set 5 (L % 256)) s d _ (H7.out.rd 1 rfl) HB.out (by omega) hnl hs.1 hs.2 hd.1 hd.2).mono ?_
    rintro e w9 ⟨rfl, hb9⟩
    rw [HU.out.2.2.1, HE.out]
    have H9 := Lib.hid (H7.out.next hb9)
    clear hb9 b3 b4 HBox H7
    go_wp2_with fail
    refine (uturn_any _ (8 + dn) c5 (((uPkt fr mt ck s d data).set 4 (L / 256)).set 5 (L % 256)) _ (H9.out.rd 1 rfl) HB.out (by omega) hnl).mono ?_
    rintro e wa ⟨Aa, na, ca, rfl, owna, hba⟩
    rw [HU.out.2.2.2.1]
    rw [HU.out.2.2.2.2] at owna
    have hna : 0 = na := owna.len
    subst hna
    have HA := Lib.hid (H9.out.next hba)
    clear hba owna H9
    have f1 : wa.cell? ⟨w3.heap.size, 1, none⟩ = some (.int .u16 mt) := HA.out.cell 0 rfl 1 rfl
    have z1 := HA.out.free 0 rfl 1
    have HS := Lib.hid (HA.out.setB 0 rfl 1 (.int .u16 0))
    go_upto_region 22 with fail
    generalize hwb : wa.setCell ⟨w3.heap.size, 1, none⟩ (.int .u16 0) = wb at HS ⊢
    clear hwb f1 z1 HA
    have f0 : wb.cell? ⟨w3.heap.size, 0, none⟩ = some (.int .u16 fr) := HS.out.cell 0 rfl 0 rfl
    have f1 : wb.cell? ⟨w3.heap.size, 1, none⟩ = some (.int .u16 0) := HS.out.cell 0 rfl 1 rfl
    have f2 : wb.cell? ⟨w3.heap.size, 2, none⟩ = some (.bool ck) := HS.out.cell 0 rfl 2 rfl
    have HBox := Lib.hid (hBox.out.below HS.out.bel hBox.out.lt)
    have b3 : wb.cell? ⟨w.heap.size, 3, none⟩ = some (.int .u32 s) := HBox.out.cell 3
    have b4 : wb.cell? ⟨w.heap.size, 4, none⟩ = some (.int .u32 d) := HBox.out.cell 4
    go_wp2_with fail
    refine (uwrite_no fr 0 ck s d Ad dn dc _ (by omega) (by omega) (.inl rfl)).mono ?_
    rintro e wc ⟨rfl, hbc⟩
    have HC := Lib.hid (HS.out.next hbc)
    clear hbc b3 b4 f0 f1 f2 HBox
    have g0 : wc.cell? ⟨w7.heap.size, 0, none⟩ = some (.int .u16 0) := HC.out.cell 2 rfl 0 rfl
    have g1 : wc.cell? ⟨w7.heap.size, 1, none⟩ = some (.int .u16 0) := HC.out.cell 2 rfl 1 rfl
    have g2 : wc.cell? ⟨w7.heap.size, 2, none⟩ = some (.bool false) := HC.out.cell 2 rfl 2 rfl
    go_wp2_with fail
    go_ret
    exact ⟨rfl, hbw.trans (HC.out.bel.mono hbw.size)⟩
  · have x2 := (H5.out.own 1 rfl).cell (i := 2) (by omega)
    have x3 := (H5.out.own 1 rfl).cell (i := 3) (by omega)
    have z2 := (H5.out.own 1 rfl).frozen 2
    have z3 := (H5.out.own 1 rfl).frozen 3
    have i2 : (2 : Int) < 8 + (dn : Int) := by omega
    have i3 : (3 : Int) < 8 + (dn : Int) := by omega
    have T := Lib.hid ((H5.out.setO 1 rfl 2 0).setO 1 rfl 3 0)
    have HE := Lib.hid (wrong_port (zs := uPkt fr mt ck s d data) (by rw [hpl.out]; omega) (by
      have e4 : wordAt (uPkt fr mt ck s d data) 4 = 8 + (data.length : Int) := head_word4 _ _ _ _ _
      rw [e4, hpl.out, HDL.out]; omega))
    have HB := Lib.hid (byte_set 3 (byte_set 2 hpb.out (by omega : (0:Int) ≤ 0 ∧ (0:Int) ≤ 255)) (by omega : (0:Int) ≤ 0 ∧ (0:Int) ≤ 255))
    go_upto_region 18 with fail
    generalize hw6 : (w5.setCell ⟨g5, 2, none⟩ (.int .u8 0)).setCell ⟨g5, 3, none⟩ (.int .u8 0) = w6 at T ⊢
    clear hw6 x2 x3 z2 z3 i2 i3
    have HU := Lib.hid (show uhd (((uPkt fr mt ck s d data).set 2 0).set 3 0) = uhd0 ∧ udpTo (((uPkt fr mt ck s d data).set 2 0).set 3 0) = 0 ∧ udpV (((uPkt fr mt ck s d data).set 2 0).set 3 0) s d = false ∧ udpTE (((uPkt fr mt ck s d data).set 2 0).set 3 0) = 92 ∧ udpTB (((uPkt fr mt ck s d data).set 2 0).set 3 0) = [] from by
      have hne : udpE (((uPkt fr mt ck s d data).set 2 0).set 3 0) ≠ 0 := by rw [HE.out]; decide
      exact ⟨by unfold uhd; rw [if_neg hne], by unfold udpTo; rw [if_neg hne], by unfold udpV; simp [hne], by unfold udpTE; rw [if_neg hne, HE.out], by unfold udpTB; rw [if_neg (fun hh => hne hh.1)]⟩)
    have hnl : (8 + dn) ≤ c5 := by omega
    go_wp2_with fail
    refine (uread_any _ (8 + dn) c5 (((uPkt fr mt ck s d data).set 2 0).set 3 0) _ (T.out.rd 1 rfl) HB.out (by omega) hnl).mono ?_
    rintro e w7 ⟨rfl, hb7⟩
    rw [HU.out.1, HU.out.2.1, HE.out]
    have H7 := Lib.hid ((T.out.next hb7).alloc 28 uhd0)
    clear hb7
    unfold uhd0
    go_upto_region 19 with fail
    rw [show w7.alloc (.cells #[.int .u16 0, .int .u16 0, .bool false] 28) = w7.alloc (.cells uhd0 28) from rfl]
    generalize hw8 : w7.alloc (.cells uhd0 28) = w8 at H7 ⊢
    clear hw8 T
    have HBox := Lib.hid (hBox.out.below H7.out.bel hBox.out.lt)
    have b3 : w8.cell? ⟨w.heap.size, 3, none⟩ = some (.int .u32 s) := HBox.out.cell 3
    have b4 : w8.cell? ⟨w.heap.size, 4, none⟩ = some (.int .u32 d) := HBox.out.cell 4
    go_wp2_with fail
    refine (uverify_any _ (8 + dn) c5 (((uPkt fr mt ck s d data).set 2 0).set 3 0) s d _ (H7.out.rd 1 rfl) HB.out (by omega) hnl hs.1 hs.2 hd.1 hd.2).mono ?_
    rintro e w9 ⟨rfl, hb9⟩
    rw [HU.out.2.2.1, HE.out]
    have H9 := Lib.hid (H7.out.next hb9)
    clear hb9 b3 b4 HBox H7
    go_wp2_with fail
    refine (uturn_any _ (8 + dn) c5 (((uPkt fr mt ck s d data).set 2 0).set 3 0) _ (H9.out.rd 1 rfl) HB.out (by omega) hnl).mono ?_
    rintro e wa ⟨Aa, na, ca, rfl, owna, hba⟩
    rw [HU.out.2.2.2.1]
    rw [HU.out.2.2.2.2] at owna
    have hna : 0 = na := owna.len
    subst hna
    have HA := Lib.hid (H9.out.next hba)
    clear hba owna H9
    have f1 : wa.cell? ⟨w3.heap.size, 1, none⟩ = some (.int .u16 mt) := HA.out.cell 0 rfl 1 rfl
    have z1 := HA.out.free 0 rfl 1
    have HS := Lib.hid (HA.out.setB 0 rfl 1 (.int .u16 0))
    go_upto_region 22 with fail
    generalize hwb : wa.setCell ⟨w3.heap.size, 1, none⟩ (.int .u16 0) = wb at HS ⊢
    clear hwb f1 z1 HA
    have f0 : wb.cell? ⟨w3.heap.size, 0, none⟩ = some (.int .u16 fr) := HS.out.cell 0 rfl 0 rfl
    have f1 : wb.cell? ⟨w3.heap.size, 1, none⟩ = some (.int .u16 0) := HS.out.cell 0 rfl 1 rfl
    have f2 : wb.cell? ⟨w3.heap.size, 2, none⟩ = some (.bool ck) := HS.out.cell 0 rfl 2 rfl
    have HBox := Lib.hid (hBox.out.below HS.out.bel hBox.out.lt)
    have b3 : wb.cell? ⟨w.heap.size, 3, none⟩ = some (.int .u32 s) := HBox.out.cell 3
    have b4 : wb.cell? ⟨w.heap.size, 4, none⟩ = some (.int .u32 d) := HBox.out.cell 4
    go_wp2_with fail
    refine (uwrite_no fr 0 ck s d Ad dn dc _ (by omega) (by omega) (.inl rfl)).mono ?_
    rintro e wc ⟨rfl, hbc⟩
    have HC := Lib.hid (HS.out.next hbc)
    clear hbc b3 b4 f0 f1 f2 HBox
    have g0 : wc.cell? ⟨w7.heap.size, 0, none⟩ = some (.int .u16 0) := HC.out.cell 2 rfl 0 rfl
    have g1 : wc.cell? ⟨w7.heap.size, 1, none⟩ = some (.int .u16 0) := HC.out.cell 2 rfl 1 rfl
    have g2 : wc.cell? ⟨w7.heap.size, 2, none⟩ = some (.bool false) := HC.out.cell 2 rfl 2 rfl
    go_wp2_with fail
    go_ret
    exact ⟨rfl, hbw.trans (HC.out.bel.mono hbw.size)⟩
end Go.Proofs.Ytnocbpagdoihmaa
