/- baffleref05: Hop, Turn. (Printed by gen_ref5h.py.) -/
import Derived.Test.YtpfmecdldoehoaaWRef5W
import Derived.Test.YtpfmecdldoehoaaLRef5
namespace Go.Proofs.Ytpfmecdldoehoaa
open Go.RowKit
set_option linter.unusedVariables false
attribute [local go_sem ↓] Go.wp_at_zero Go.wp_at_succ

set_option maxHeartbeats 2000000 in
set_option maxRecDepth 100000 in
theorem r5Hop_any (A : Option Addr) (n c : Nat) (zs : List Int) (w : World) (h : RD .u8 w w.heap.size A n zs) (hz : BD 255 zs) (hn : n ≤ c) (hc : n ≤ 140737488351232) :
    Calls Try.prog 48 #[.slice A n c] w (WroteP w (hopB zs) (hopE zs)) := by
  obtain ⟨i0, hi, hz0, hz1, hz2⟩ := info_parts infoU8
  have HL := Lib.hid h.len
  have R := Lib.hid h
  clear h
  go_enter Try.func48, Try.ntmps48
  go_wp2_with fail
  refine (r5Read_any A n c zs w R.out hz hn hc).mono ?_
  rintro e w1 ⟨A1, n1, c1, rfl, own1, hb1⟩
  clear own1
  by_cases hf : faultR zs = 7
  · obtain ⟨k1, k2, k3, k4, k5, k6, k7, k8⟩ := ok_facts hf
    have k3' : totalR zs ≤ n := by have := HL.out; omega
    have e1 : ipE zs = 0 := ipE_eq hf
    have e2 : hdR zs = hdOf zs := by unfold hdR; rw [if_pos hf]
    have e3 : fromR zs = sizeR zs := by unfold fromR; rw [if_pos hf]
    have e4 : toR zs = totalR zs := by unfold toR; rw [if_pos hf]
    have HF := Lib.hid hf
    rw [e1, e2, e3, e4]
    clear e1 e2 e3 e4 k3 k4 k5 k6 k7 k8 hf
    have S := ((SP.start w).next hb1).alloc 64 ((hdOf zs).cells (.slice A1 n1 c1))
    unfold HD.val HD.cells
    go_upto_region 2 with fail
    rw [show w1.alloc (.cells #[.int .u8 (hdOf zs).tos, .int .u16 (hdOf zs).id, .bool (hdOf zs).df, .bool (hdOf zs).mf, .int .i64 (hdOf zs).off, .int .u8 (hdOf zs).ttl, .int .u8 (hdOf zs).proto, .int .u32 (hdOf zs).src, .int .u32 (hdOf zs).dst, .slice A1 n1 c1] 64) = w1.alloc (.cells ((hdOf zs).cells (.slice A1 n1 c1)) 64) from rfl]
    generalize hw2 : w1.alloc (.cells ((hdOf zs).cells (.slice A1 n1 c1)) 64) = w2 at S ⊢
    clear hw2 hb1
    have H2 := Lib.hid S
    clear S
    obtain ⟨b0, b1⟩ : 0 ≤ byteAt zs 8 ∧ byteAt zs 8 ≤ 255 := hz.get (by omega) 8
    have f5 : w2.cell? ⟨w1.heap.size, 5, none⟩ = some (.int .u8 (byteAt zs 8)) := H2.out.cell 0 rfl 5 rfl
    by_cases ht : byteAt zs 8 < 2
    · have HB := Lib.hid (show hopB zs = [] by unfold hopB; rw [if_neg (fun hh => hh.2 ht)])
      have HE := Lib.hid (show hopE zs = 57 by unfold hopE; rw [if_pos HF.out, if_pos ht])
      go_wp2_with fail
      go_ret2
      exact ⟨none, 0, 0, by rw [HE.out]; rfl, by rw [HB.out]; exact OWN.nil, H2.out.bel⟩
    · have HB := Lib.hid (show hopB zs = pktB (hopH zs) (optsOf zs) (dataR zs) by unfold hopB; rw [if_pos ⟨HF.out, ht⟩])
      have HE := Lib.hid (show hopE zs = 0 by unfold hopE; rw [if_pos HF.out, if_neg ht])
      have HT := Lib.hid (H2.out.allocI .u8 5 [] (by simp [maxLen]))
      have q1 : (0 : Int) ≤ (totalR zs : Int) := by omega
      have q2 : (totalR zs : Int) ≤ (c : Int) := by omega
      go_upto_region 7 with (at_builtin; refine wpList_append_rd _ rfl _ _ _ rfl .u8 w.heap.size 5 i0 1 Try.underlying23 hi hz0 hz1 hz2 (some ⟨w2.heap.size, 0, none⟩) 0 0 [] rfl (HT.out.own 1 rfl) _ A (totalR zs) c (zs.take (totalR zs)) rfl (((R.out.below HT.out.bel).more HT.out.size).take k3') (by simp only [maxLen]; omega) (by omega) HT.out.size ?_; intro A3 c3 w3 happ; have ho : SP w w3 [.blk w1.heap.size 64 ((hdOf zs).cells (.slice A1 n1 c1)), .own .u8 5 A3 (totalR zs) c3 (zs.take (totalR zs))] := (by have q := HT.out.app 1 rfl happ; rw [Nat.zero_add] at q; exact q); have H3 := Lib.hid ho; clear happ ho)
      have hle3 := (H3.out.own 1 rfl).le
      obtain ⟨g3, rfl, hg3, _⟩ := (H3.out.own 1 rfl).form (by omega)
      have x8 : w3.cell? ⟨g3, 8, none⟩ = some (.int .u8 (byteAt zs 8)) := by
        have h8 := (H3.out.own 1 rfl).cell (i := 8) (by omega)
        rw [h8, List.getElem?_take_of_lt (by omega)]; rfl
      have z8 := (H3.out.own 1 rfl).frozen 8
      have i1 : (8 : Int) < ((totalR zs : Nat) : Int) := by omega
      have i1' : (8 : Int) < 0 + (totalR zs : Int) := by omega
      have i1'' : (8 : Int) < (totalR zs : Int) := by omega
      have u1 : IntKind.u8.wrap (byteAt zs 8 - 1) = byteAt zs 8 - 1 := u8_in _ (by omega) (by omega)
      have H4 := Lib.hid (H3.out.setO 1 rfl 8 (byteAt zs 8 - 1))
      clear HT f5
      go_upto_region 8 with fail
      generalize hw4 : w3.setCell ⟨g3, 8, none⟩ (.int .u8 (byteAt zs 8 - 1)) = w4 at H4 ⊢
      clear hw4 x8 z8 H3 u1
      have q3 : (sizeR zs : Int) ≤ (c3 : Int) := by omega
      have q4 : (0 : Int) ≤ (sizeR zs : Int) := by omega
      have hbd : BD 255 ((zs.take (totalR zs)).set 8 (byteAt zs 8 - 1)) := set_bd 8 (hz.take _) (by omega)
      have hsz : sizeR zs ≤ totalR zs := by omega
      go_wp2_with fail
      refine (rFix_any _ (sizeR zs) c3 _ 10 10 _ ((H4.out.rd 1 rfl).take hsz) (hbd.take _) (by omega) rfl (by omega) (by omega)).mono ?_
      rintro e w5 ⟨A5, n5, c5, rfl, own5, hb5⟩
      have hn5 := own5.len
      rw [fixOf_len, List.length_take, List.length_set, List.length_take, HL.out] at hn5
      have hn5' : n5 = sizeR zs := by omega
      subst hn5'
      have H5 := Lib.hid (H4.out.pushOwn hb5 own5)
      clear own5 hb5 H4 hn5
      have s1 := fun W => run_slice_lo (P := Try.prog) W Try.underlying23 hi hz1 (some ⟨g3, 0, none⟩) (totalR zs) c3 (sizeR zs : Int) (sizeR zs) rfl hsz
      go_wp2_with (at_builtin; refine wpList_append_rd _ rfl _ _ _ rfl .u8 w.heap.size 5 i0 1 Try.underlying23 hi hz0 hz1 hz2 A5 (sizeR zs) c5 _ rfl (H5.out.own 2 rfl) _ _ (totalR zs - sizeR zs) (c3 - sizeR zs) _ rfl ((H5.out.rd 1 rfl).cutA (lo := sizeR zs) hsz hle3.1) (by simp only [maxLen]; omega) (by omega) H5.out.size ?_; intro A6 c6 w6 happ; have H6 := Lib.hid (H5.out.app 2 rfl happ); clear happ)
      go_ret2
      refine ⟨A6, totalR zs, c6, ?_, ?_, H6.out.bel⟩
      · rw [HE.out]; rfl
      rw [HB.out, ← hop_ref hz HF.out]
      have q := H6.out.own 2 rfl
      rw [show sizeR zs + (totalR zs - sizeR zs) = totalR zs by omega] at q
      exact q
  · have e1 := ipE_ne hf
    have e6 : hopE zs = ipE zs := by unfold hopE; first | rw [if_neg hf] | rfl
    have hB : hopB zs = [] := by unfold hopB; first | rw [if_neg hf] | rw [if_neg (fun hh => hf hh.1)]
    have HB := Lib.hid hB
    have HE := Lib.hid e6
    unfold HD.val HD.cells
    have hb2 : ∀ o, Below w.heap.size w (w1.alloc o) := fun o => hb1.alloc hb1.size o
    have HB2 := Lib.hid hb2
    clear e6 hB hf hb1 hb2
    go_wp2_with fail
    go_ret2
    exact ⟨none, 0, 0, by first | rfl | (rw [HE.out]; rfl), by rw [HB.out]; exact OWN.nil, HB2.out _⟩

set_option maxHeartbeats 2000000 in
set_option maxRecDepth 100000 in
theorem r5Turn_any (A : Option Addr) (n c : Nat) (zs : List Int) (w : World) (h : RD .u8 w w.heap.size A n zs) (hz : BD 255 zs) (hn : n ≤ c) (hc : n ≤ 140737488351232) :
    Calls Try.prog 49 #[.slice A n c] w (WroteP w (turnB zs) (ipE zs)) := by
  obtain ⟨i0, hi, hz0, hz1, hz2⟩ := info_parts infoU8
  have HL := Lib.hid h.len
  have R := Lib.hid h
  clear h
  go_enter Try.func49, Try.ntmps49
  go_wp2_with fail
  refine (r5Read_any A n c zs w R.out hz hn hc).mono ?_
  rintro e w1 ⟨A1, n1, c1, rfl, own1, hb1⟩
  clear own1
  by_cases hf : faultR zs = 7
  · obtain ⟨k1, k2, k3, k4, k5, k6, k7, k8⟩ := ok_facts hf
    have k3' : totalR zs ≤ n := by have := HL.out; omega
    have e1 : ipE zs = 0 := ipE_eq hf
    have e2 : hdR zs = hdOf zs := by unfold hdR; rw [if_pos hf]
    have e3 : fromR zs = sizeR zs := by unfold fromR; rw [if_pos hf]
    have e4 : toR zs = totalR zs := by unfold toR; rw [if_pos hf]
    have HF := Lib.hid hf
    rw [e1, e2, e3, e4]
    clear e1 e2 e3 e4 k3 k4 k5 k6 k7 k8 hf
    have S := ((SP.start w).next hb1).alloc 64 ((hdOf zs).cells (.slice A1 n1 c1))
    unfold HD.val HD.cells
    go_upto_region 2 with fail
    rw [show w1.alloc (.cells #[.int .u8 (hdOf zs).tos, .int .u16 (hdOf zs).id, .bool (hdOf zs).df, .bool (hdOf zs).mf, .int .i64 (hdOf zs).off, .int .u8 (hdOf zs).ttl, .int .u8 (hdOf zs).proto, .int .u32 (hdOf zs).src, .int .u32 (hdOf zs).dst, .slice A1 n1 c1] 64) = w1.alloc (.cells ((hdOf zs).cells (.slice A1 n1 c1)) 64) from rfl]
    generalize hw2 : w1.alloc (.cells ((hdOf zs).cells (.slice A1 n1 c1)) 64) = w2 at S ⊢
    clear hw2 hb1
    have H2 := Lib.hid S
    clear S
    have H2L := Lib.hid (show SP w w2 [.blk w1.heap.size 64 ((hdOf zs).cells (.slice A1 n1 c1)), .own .u8 5 none 0 0 []] from H2.out.push (Below.refl _ _) OWN.nil)
    have HE := Lib.hid (show ipE zs = 0 from ipE_eq HF.out)
    have k4 : 20 ≤ totalR zs := by omega
    have RR := Lib.hid (fun (W : World) (hb : Below w.heap.size w W) => (show RD .u8 W W.heap.size A n zs from (R.out.below hb).more hb.size))
    have s1 := fun W => run_slice_lohi (P := Try.prog) W Try.underlying23 hi hz1 A n c 16 20 16 20 rfl rfl (by omega) (by omega)
    have s2 := fun W => run_slice_lohi (P := Try.prog) W Try.underlying23 hi hz1 A n c 12 16 12 16 rfl rfl (by omega) (by omega)
    have s3 := fun W => run_slice_lohi (P := Try.prog) W Try.underlying23 hi hz1 A n c 20 (totalR zs : Int) 20 (totalR zs) rfl rfl (by omega) (by omega)
    have q1 : (12 : Int) ≤ (c : Int) := by omega
    clear H2
    go_upto_region 6 with (at_builtin; refine wpList_append_rd _ rfl _ _ _ rfl .u8 w.heap.size 5 i0 1 Try.underlying23 hi hz0 hz1 hz2 none 0 0 ([]) rfl (H2L.out.own 1 rfl) _ A 12 c (zs.take 12) rfl ((RR.out _ H2L.out.bel).take (m := 12) (by omega)) (by simp only [maxLen]; omega) (by omega) H2L.out.size ?_; intro B0 d0 v0 happ; have J0 := Lib.hid (H2L.out.app 1 rfl happ); clear happ)
    go_upto_region 7 with (at_builtin; refine wpList_append_rd _ rfl _ _ _ rfl .u8 w.heap.size 5 i0 1 Try.underlying23 hi hz0 hz1 hz2 B0 (0 + 12) d0 ([] ++ zs.take 12) rfl (J0.out.own 1 rfl) _ (cutA A c 16) (20 - 16) (c - 16) ((zs.drop 16).take 4) rfl ((RR.out _ J0.out.bel).mid (c := c) (lo := 16) (hi := 20) (by omega) (by omega) hn) (by simp only [maxLen]; omega) (by omega) J0.out.size ?_; intro B1 d1 v1 happ; have J1 := Lib.hid (J0.out.app 1 rfl happ); clear happ)
    go_upto_region 8 with (at_builtin; refine wpList_append_rd _ rfl _ _ _ rfl .u8 w.heap.size 5 i0 1 Try.underlying23 hi hz0 hz1 hz2 B1 ((0 + 12) + (20 - 16)) d1 ([] ++ zs.take 12 ++ (zs.drop 16).take 4) rfl (J1.out.own 1 rfl) _ (cutA A c 12) (16 - 12) (c - 12) ((zs.drop 12).take 4) rfl ((RR.out _ J1.out.bel).mid (c := c) (lo := 12) (hi := 16) (by omega) (by omega) hn) (by simp only [maxLen]; omega) (by omega) J1.out.size ?_; intro B2 d2 v2 happ; have J2 := Lib.hid (J1.out.app 1 rfl happ); clear happ)
    go_wp2_with (at_builtin; refine wpList_append_rd _ rfl _ _ _ rfl .u8 w.heap.size 5 i0 1 Try.underlying23 hi hz0 hz1 hz2 B2 (((0 + 12) + (20 - 16)) + (16 - 12)) d2 ([] ++ zs.take 12 ++ (zs.drop 16).take 4 ++ (zs.drop 12).take 4) rfl (J2.out.own 1 rfl) _ (cutA A c 20) (totalR zs - 20) (c - 20) ((zs.drop 20).take (totalR zs - 20)) rfl ((RR.out _ J2.out.bel).mid (c := c) (lo := 20) (hi := totalR zs) (by omega) (by omega) hn) (by simp only [maxLen]; omega) (by omega) J2.out.size ?_; intro B3 d3 v3 happ; have J3 := Lib.hid (J2.out.app 1 rfl happ); clear happ)
    go_ret2
    refine ⟨B3, totalR zs, d3, ?_, ?_, J3.out.bel⟩
    · rw [HE.out]; rfl
    rw [← turn_ref hz HF.out]
    have q := J3.out.own 1 rfl
    rw [show ((((0 + 12) + (20 - 16)) + (16 - 12)) + (totalR zs - 20)) = totalR zs by omega] at q
    exact q
  · have e1 := ipE_ne hf
    have e6 : ipE zs = ipE zs := by unfold ipE; first | rw [if_neg hf] | rfl
    have hB : turnB zs = [] := by unfold turnB; first | rw [if_neg hf] | rw [if_neg (fun hh => hf hh.1)]
    have HB := Lib.hid hB
    have HE := Lib.hid e6
    unfold HD.val HD.cells
    have hb2 : ∀ o, Below w.heap.size w (w1.alloc o) := fun o => hb1.alloc hb1.size o
    have HB2 := Lib.hid hb2
    clear e6 hB hf hb1 hb2
    go_wp2_with fail
    go_ret2
    exact ⟨none, 0, 0, by first | rfl | (rw [HE.out]; rfl), by rw [HB.out]; exact OWN.nil, HB2.out _⟩
end Go.Proofs.Ytpfmecdldoehoaa
