/- The walk of UdpBack. (Printed by gen_udpback.py.) -/
import Derived.Test.YtnocbpagdoihmaaWMade9
import Derived.Test.YtnocbpagdoihmaaWZeros
import Derived.Test.YtnocbpagdoihmaaUdpB
namespace Go.Proofs.Ytnocbpagdoihmaa
open Go.RowKit
set_option linter.unusedVariables false
attribute [local go_sem ↓] Go.wp_at_zero Go.wp_at_succ

theorem pkt_V {sp dp s d : Int} {ck : Bool} {data : List Int} (h : UOK sp dp s d data) (h1 : dp ≠ 0) (more : List Int) : udpV (uPkt sp dp ck s d data ++ more) s d = true ∧ udpV (uPkt sp dp ck s d data ++ more) d s = true := by
  have hc := ckC_bd (ck := ck) h
  obtain ⟨p1, p2, p3, p4, p5⟩ := parts_read h h1 hc more
  have hp : uPkt sp dp ck s d data = uHead sp dp (8 + data.length) (ckC sp dp ck s d data) ++ data := rfl
  rw [hp]
  have r1 := p5 s d h
  have r2 := p5 d s h.swap
  rw [kSum_swap] at r2
  rw [ckC_ok h] at r1 r2
  exact ⟨by unfold udpV; rw [p1, r1]; rfl, by unfold udpV; rw [p1, r2]; rfl⟩

set_option maxHeartbeats 8000000 in
set_option maxRecDepth 100000 in
theorem udpBack_walk (fr tp : Int) (ck : Bool) (s d : Int) (A : Option Addr) (n c : Nat) (zs : List Int) (bh q : Int) (w : World) (h : ROW .u8 255 w A n c zs) (hf : 0 ≤ fr ∧ fr ≤ 65535) (ht : 0 ≤ tp ∧ tp ≤ 65535) (hs : 0 ≤ s ∧ s ≤ 4294967295) (hd : 0 ≤ d ∧ d ≤ 4294967295) (hbh : 0 ≤ bh ∧ bh ≤ 255) (hq : 0 ≤ q ∧ q ≤ 65535) :
    Calls Try.prog 6 #[.agg (sm6 fr tp ck s d (.slice A n c)), .int .u8 bh, .int .u16 q] w fun e w' => e = .returned (.bool true) ∧ Below w.heap.size w w' := by
  obtain ⟨i0, hi, hz0, hz1, hz2⟩ := info_parts infoU8
  have hz := h.bd
  have hnc := h.le
  have hcm := h.cap
  have hrd := h.rd
  have S0 := (SP.start w).alloc 37 (sm6 fr tp ck s d (.slice A n c))
  clear h
  go_enter Try.func6, Try.ntmps6
  unfold sm6
  go_upto_region 1 with fail
  rw [show w.alloc (.cells #[.int .u16 fr, .int .u16 tp, .bool ck, .int .u32 s, .int .u32 d, .slice A n c] 37) = w.alloc (.cells (sm6 fr tp ck s d (.slice A n c)) 37) from rfl]
  generalize hw1 : w.alloc (.cells (sm6 fr tp ck s d (.slice A n c)) 37) = w1 at S0 ⊢
  clear hw1
  go_wp2_with fail
  refine (awake9_any _).mono ?_
  rintro e w2 ⟨rfl, hb2⟩
  have H2 := Lib.hid (S0.next hb2)
  clear S0 hb2
  have b0 : w2.cell? ⟨w.heap.size, 0, none⟩ = some (.int .u16 fr) := H2.out.cell 0 rfl 0 rfl
  have b1 : w2.cell? ⟨w.heap.size, 1, none⟩ = some (.int .u16 tp) := H2.out.cell 0 rfl 1 rfl
  have b2 : w2.cell? ⟨w.heap.size, 2, none⟩ = some (.bool ck) := H2.out.cell 0 rfl 2 rfl
  have b3 : w2.cell? ⟨w.heap.size, 3, none⟩ = some (.int .u32 s) := H2.out.cell 0 rfl 3 rfl
  have b4 : w2.cell? ⟨w.heap.size, 4, none⟩ = some (.int .u32 d) := H2.out.cell 0 rfl 4 rfl
  have b5 : w2.cell? ⟨w.heap.size, 5, none⟩ = some (.slice A n c) := H2.out.cell 0 rfl 5 rfl
  go_wp2_with fail
  refine (made9_any fr tp ck s d A n c zs _ ((hrd.below H2.out.bel).more H2.out.size) hz hnc hcm ht).mono ?_
  rintro e w3 ⟨Ad, dn, dc, data, rfl, ownD, bd, hdn, hb3⟩
  clear b0 b1 b2 b3 b4 b5
  have hmt := max1_bd ht
  obtain ⟨mt, hmt'⟩ : ∃ mt, mt = max1 tp := ⟨_, rfl⟩
  rw [← hmt'] at hmt ⊢
  clear hmt' ht
  have hdl := ownD.len
  have hdc := ownD.le
  have rdd := ownD.rd
  have ok : UOK fr mt s d data := ⟨hf, by omega, by omega, hs, hd, bd⟩
  have H3 := Lib.hid (H2.out.next hb3)
  have OK := Lib.hid ok
  have hBox := Lib.hid (H3.out.blk 0 rfl)
  have hbw := H3.out.bel
  have HDL := Lib.hid hdl
  have hwr : ¬ UWrong mt dn := by unfold UWrong; omega
  have hm0 : mt ≠ 0 := by omega
  have S := (SP.start w3).alloc 28 (uh3 fr mt ck)
  clear H2 H3 hb3 ownD hdl ok hf hrd hz hnc hcm
  unfold uh3
  go_upto_region 4 with fail
  rw [show w3.alloc (.cells #[.int .u16 fr, .int .u16 mt, .bool ck] 28) = w3.alloc (.cells (uh3 fr mt ck) 28) from rfl]
  generalize hw4 : w3.alloc (.cells (uh3 fr mt ck) 28) = w4 at S ⊢
  clear hw4
  have H4 := Lib.hid S
  clear S
  have f0 : w4.cell? ⟨w3.heap.size, 0, none⟩ = some (.int .u16 fr) := H4.out.cell 0 rfl 0 rfl
  have f1 : w4.cell? ⟨w3.heap.size, 1, none⟩ = some (.int .u16 mt) := H4.out.cell 0 rfl 1 rfl
  have f2 : w4.cell? ⟨w3.heap.size, 2, none⟩ = some (.bool ck) := H4.out.cell 0 rfl 2 rfl
  have HB4 := Lib.hid (hBox.out.below H4.out.bel hBox.out.lt)
  have b3 : w4.cell? ⟨w.heap.size, 3, none⟩ = some (.int .u32 s) := HB4.out.cell 3
  have b4 : w4.cell? ⟨w.heap.size, 4, none⟩ = some (.int .u32 d) := HB4.out.cell 4
  have hEE := Lib.hid (show uwE mt dn = 0 by unfold uwE; rw [if_neg hwr])
  have hBB := Lib.hid (show uwB fr mt ck s d data = uPkt fr mt ck s d data by unfold uwB; rw [if_neg (by rw [HDL.out]; exact hwr)])
  go_wp2_with fail
  refine (uwrite_any fr mt ck s d Ad dn dc data _ OK.out.sp OK.out.dp hs hd ((rdd.below H4.out.bel).more H4.out.size) bd (by omega)).mono ?_
  rintro e w5 ⟨A5, n5, c5, rfl, own5, hb5⟩
  rw [hEE.out]
  rw [hBB.out] at own5
  have hn5 := own5.len
  rw [uPkt_len, HDL.out] at hn5
  subst hn5
  have hle5 := own5.le
  obtain ⟨g5, rfl, hg5, _⟩ := own5.form (by omega)
  have H5 := Lib.hid (H4.out.pushOwn hb5 own5)
  clear own5 hb5 f0 f1 f2 b3 b4 H4 HB4 hEE hBB hwr
  obtain ⟨m, hm⟩ : ∃ m : Nat, bh % 9 = (m : Int) := ⟨(bh % 9).toNat, by omega⟩
  have hm9 : m ≤ 8 := by omega
  obtain ⟨hb0, hb1⟩ := hbh
  obtain ⟨q0, q1⟩ := hq
  obtain ⟨s0, s1⟩ := hs
  obtain ⟨d0, d1⟩ := hd
  have hdE : (data.length : Int) = (dn : Int) := by rw [HDL.out]
  have HDE := Lib.hid hdE
  have HPB := Lib.hid (uPkt_bd (ck := ck) OK.out)
  have HDR := Lib.hid (show (uPkt fr mt ck s d data).drop 8 = data from rfl)
  obtain ⟨v1, v2⟩ := pkt_V (ck := ck) OK.out hm0 (List.replicate m 0)
  obtain ⟨z1, z2, z3, z4, z5⟩ := pkt_read (ck := ck) OK.out hm0 (List.replicate m 0)
  have Z := Lib.hid (And.intro z1 (And.intro z2 (And.intro z3 (And.intro v1 v2))))
  have hbd6 : BD 255 (uPkt fr mt ck s d data ++ List.replicate m 0) := HPB.out.append (fun x hx => by have := List.eq_of_mem_replicate hx; omega)
  clear z1 z2 z3 z4 z5 v1 v2 hdE
  have hm0' : bh % 9 = (m : Int) := hm
  have HM := Lib.hid hm
  clear hm hm0'
  have p1 : (0 : Int) ≤ 8 + (dn : Int) := by omega
  have p2 : 8 + (dn : Int) ≤ (c5 : Int) := by omega
  have sl8 := fun W => run_slice_lo (P := Try.prog) W Try.underlying22 hi hz1 (some ⟨g5, 0, none⟩) (8 + dn) c5 8 8 rfl (by omega)
  have RC := Lib.hid (show RD .u8 w5 w5.heap.size (cutA (some ⟨g5, 0, none⟩) c5 8) dn data from by
    have := (H5.out.rd 1 rfl).cutA (c := c5) (lo := 8) (by omega) hle5.1
    rwa [HDR.out, show 8 + dn - 8 = dn by omega] at this)
  go_wp2_with fail
  refine (same_any (cutA (some ⟨g5, 0, none⟩) c5 8) Ad dn (c5 - 8) dn dc data data _ RC.out ((rdd.below H5.out.bel).more H5.out.size) (by omega) (by omega)).mono ?_
  rintro e wx ⟨rfl, mx, hx⟩
  rw [show (data == data) = true by simp]
  have HX := Lib.hid (hx ▸ H5.out.drewN mx)
  clear hx H5 sl8
  have r5 := HX.out.rd 1 rfl
  go_upto_region 8 with (at_builtin; refine wpList_append_zeros_any _ rfl _ _ _ _ rfl 5 i0 .u8 Try.underlying22 Try.underlying5 hi hz0 hz1 hz2 ⟨g5, 0, none⟩ (8 + dn) m _ HM.out _ rfl rfl r5 (by omega) ?_; intro A6 c6 w6 rd6 hc6 hc6' hb6; have H6 := Lib.hid (HX.out.next hb6); clear r5 HX hb6)
  have RD6 := Lib.hid rd6
  clear rd6
  go_wp2_with fail
  refine (uread_any A6 _ c6 _ _ RD6.out hbd6 (by omega) hc6).mono ?_
  rintro e w7 ⟨rfl, hb7⟩
  rw [Z.out.1, Z.out.2.1, Z.out.2.2.1, HDE.out]
  have H7 := Lib.hid ((H6.out.next hb7).alloc 28 (uh3 fr mt ck))
  have RD7 := Lib.hid ((RD6.out.later hb7).later ((Below.refl _ w7).alloc (Nat.le_refl _) (.cells (uh3 fr mt ck) 28)))
  clear hb7 H6 RD6
  go_upto_region 9 with fail
  rw [show w7.alloc (.cells #[.int .u16 fr, .int .u16 mt, .bool ck] 28) = w7.alloc (.cells (uh3 fr mt ck) 28) from rfl]
  generalize hw8 : w7.alloc (.cells (uh3 fr mt ck) 28) = w8 at H7 RD7 ⊢
  clear hw8
  have f0 : w8.cell? ⟨w3.heap.size, 0, none⟩ = some (.int .u16 fr) := H7.out.cell 0 rfl 0 rfl
  have f1 : w8.cell? ⟨w3.heap.size, 1, none⟩ = some (.int .u16 mt) := H7.out.cell 0 rfl 1 rfl
  have f2 : w8.cell? ⟨w3.heap.size, 2, none⟩ = some (.bool ck) := H7.out.cell 0 rfl 2 rfl
  have k0 : w8.cell? ⟨w7.heap.size, 0, none⟩ = some (.int .u16 fr) := H7.out.cell 2 rfl 0 rfl
  have k1 : w8.cell? ⟨w7.heap.size, 1, none⟩ = some (.int .u16 mt) := H7.out.cell 2 rfl 1 rfl
  have k2 : w8.cell? ⟨w7.heap.size, 2, none⟩ = some (.bool ck) := H7.out.cell 2 rfl 2 rfl
  have HB8 := Lib.hid (hBox.out.below H7.out.bel hBox.out.lt)
  have b2 : w8.cell? ⟨w.heap.size, 2, none⟩ = some (.bool ck) := HB8.out.cell 2
  have b3 : w8.cell? ⟨w.heap.size, 3, none⟩ = some (.int .u32 s) := HB8.out.cell 3
  have b4 : w8.cell? ⟨w.heap.size, 4, none⟩ = some (.int .u32 d) := HB8.out.cell 4
  go_wp2_with fail
  refine (verified_any A6 _ c6 _ s d _ RD7.out hbd6 (by omega) hc6 s0 s1 d0 d1).mono ?_
  rintro e w9 ⟨rfl, hb9⟩
  rw [Z.out.2.2.2.1]
  have H9 := Lib.hid (H7.out.next hb9)
  have RD9 := Lib.hid (RD7.out.later hb9)
  clear f0 f1 f2 k0 k1 k2 b2 b3 b4 HB8 hb9 H7 RD7
  have HB9 := Lib.hid (hBox.out.below H9.out.bel hBox.out.lt)
  have b2 : w9.cell? ⟨w.heap.size, 2, none⟩ = some (.bool ck) := HB9.out.cell 2
  have b3 : w9.cell? ⟨w.heap.size, 3, none⟩ = some (.int .u32 s) := HB9.out.cell 3
  have b4 : w9.cell? ⟨w.heap.size, 4, none⟩ = some (.int .u32 d) := HB9.out.cell 4
  go_wp2_with fail
  refine (verified_any A6 _ c6 _ d s _ RD9.out hbd6 (by omega) hc6 d0 d1 s0 s1).mono ?_
  rintro e wa ⟨rfl, hba⟩
  rw [Z.out.2.2.2.2]
  have HA := Lib.hid (H9.out.next hba)
  have RDA := Lib.hid (RD9.out.later hba)
  clear b2 b3 b4 HB9 hba H9 RD9
  have HBA := Lib.hid (hBox.out.below HA.out.bel hBox.out.lt)
  have b2 : wa.cell? ⟨w.heap.size, 2, none⟩ = some (.bool ck) := HBA.out.cell 2
  have b3 : wa.cell? ⟨w.heap.size, 3, none⟩ = some (.int .u32 s) := HBA.out.cell 3
  have b4 : wa.cell? ⟨w.heap.size, 4, none⟩ = some (.int .u32 d) := HBA.out.cell 4
  obtain ⟨r, hr⟩ : ∃ r : Nat, q % 32 = (r : Int) := ⟨(q % 32).toNat, by omega⟩
  have hr' : q.tmod 32 = (r : Int) := by rw [Int.tmod_eq_emod_of_nonneg (by omega)]; exact hr
  have hr32 : r < 32 := by omega
  obtain ⟨s', es, s0', s1', vs⟩ := flip_src (ck := ck) OK.out hm0 r hr32 (List.replicate m 0)
  obtain ⟨d', ed, d0', d1', vd⟩ := flip_dst (ck := ck) OK.out hm0 r hr32 (List.replicate m 0)
  have VS := Lib.hid vs
  have VD := Lib.hid vd
  have i1 : (0 : Int) ≤ (r : Int) := by omega
  have i2 : (r : Int) ≤ 32 := by omega
  have i3 : (r : Int) < 32 := by omega
  have e2 : IntKind.u32.wrap ((2 : Int) ^ r) = 2 ^ r := by
    have hp : (2 : Nat) ^ r ≤ 2 ^ 31 := Nat.pow_le_pow_right (by omega) (by omega)
    have hc : ((2 : Int) ^ r) = ((2 ^ r : Nat) : Int) := by simp
    rw [hc]
    have h31 : (2 : Nat) ^ 31 = 2147483648 := rfl
    rw [h31] at hp
    generalize (2 : Nat) ^ r = x at hp ⊢
    exact u32_in _ (by omega) (by omega)
  have tb : ((!ck) == ck) = false := by cases ck <;> rfl
  clear vs vd hr32
  have KS := Lib.hid (fun (W : World) (hb : Below wa.heap.size wa W) => (show W.cell? ⟨w.heap.size, 3, none⟩ = some (.int .u32 s) ∧ W.cell? ⟨w.heap.size, 4, none⟩ = some (.int .u32 d) ∧ W.cell? ⟨w.heap.size, 2, none⟩ = some (.bool ck) from by
    have hB := HBA.out.below hb HBA.out.lt
    exact ⟨hB.cell 3, hB.cell 4, hB.cell 2⟩))
  go_upto_region 11 with fail
  go_region_held3 (fun W => W.cell? ⟨w.heap.size, 3, none⟩ = some (.int .u32 s) ∧ W.cell? ⟨w.heap.size, 4, none⟩ = some (.int .u32 d) ∧ W.cell? ⟨w.heap.size, 2, none⟩ = some (.bool ck))
    (first | exact KS.out _ hbb2 | exact KS.out _ hbb1 | exact KS.out _ (Below.refl _ _).drew) (first
    | (go_at_call 15; refine (verified_any A6 _ c6 _ s d' _ RDB.out hbd6 (by omega) hc6 s0 s1 d0' d1').mono ?_
       rintro e wc ⟨rfl, hbc⟩
       rw [VD.out]
       have hbb2 : Below wa.heap.size wa wc := hbb1.trans (hbc.mono hbb1.size)
       clear hbc)
    | (go_at_call 15; refine (verified_any A6 _ c6 _ s' d _ (RDA.out.later (Below.refl _ _).drew) hbd6 (by omega) hc6 s0' s1' d0 d1).mono ?_
       rintro e wb ⟨rfl, hbb⟩
       rw [VS.out]
       have hbb1 : Below wa.heap.size wa wb := ((Below.refl _ wa).drew).trans hbb
       have RDB := Lib.hid (RDA.out.later hbb1)
       clear hbb))
  have HC := Lib.hid (HA.out.next hbb2)
  clear b2 b3 b4 HBA RDA RDB KS HA VS VD es ed tb e2 i1 i2 i3 hr hr' hbb1 hbb2 s0' s1' d0' d1' hbd6
  have HPL := Lib.hid (show (uPkt fr mt ck s d data).length = 8 + dn by rw [uPkt_len, HDL.out])
  obtain ⟨n5, hn5⟩ : ∃ n5 : Nat, n5 = 8 + dn := ⟨_, rfl⟩
  have HN5 := Lib.hid hn5
  have own5 := HC.out.own 1 rfl
  rw [← hn5] at own5
  rw [← hn5]
  have hn5a : 8 ≤ n5 := by omega
  have hn5b : n5 ≤ 108 := by omega
  have hm8 : 0 ≤ q % (8 * (n5 : Int)) ∧ q % (8 * (n5 : Int)) < 8 * (n5 : Int) := ⟨Int.emod_nonneg _ (by omega), Int.emod_lt_of_pos _ (by omega)⟩
  obtain ⟨p, hp⟩ : ∃ p : Nat, q % (8 * (n5 : Int)) = (p : Int) := ⟨(q % (8 * (n5 : Int))).toNat, by omega⟩
  rw [hp] at hm8
  obtain ⟨hm8a, hm8b⟩ := hm8
  obtain ⟨k, hk⟩ : ∃ k, k = p / 8 := ⟨_, rfl⟩
  obtain ⟨j, hj⟩ : ∃ j, j = p % 8 := ⟨_, rfl⟩
  have hk5 : k < n5 := by omega
  have hj8 : j < 8 := by omega
  have x1 := own5.cell (i := k) (by omega)
  have x2 := own5.frozen k
  obtain ⟨v1, v2⟩ := HPB.out.get (by omega) k
  obtain ⟨v, hv⟩ : ∃ v, v = (uPkt fr mt ck s d data)[k]?.getD 0 := ⟨_, rfl⟩
  rw [← hv] at x1 v1 v2
  have HV := Lib.hid hv
  have hfb := flipB_bd v1 v2 hj8
  have m1 : (p : Int).tdiv 8 = (k : Int) := by rw [Int.tdiv_eq_ediv_of_nonneg (by omega)]; omega
  have m2 : (p : Int).tmod 8 = (j : Int) := by rw [Int.tmod_eq_emod_of_nonneg (by omega)]; omega
  have m3 : IntKind.i64.wrap (k : Int) = (k : Int) := IntWalk.i64_in _ (by omega)
  have i1 : (0 : Int) ≤ (k : Int) := by omega
  have i2 : (k : Int) < (n5 : Int) := by omega
  have i3 : (0 : Int) ≤ (j : Int) := by omega
  have i4 : (j : Int) ≤ 8 := by omega
  have e1 : IntKind.u8.wrap ((2 : Int) ^ j) = 2 ^ j := by
    have := (flipB_far v hj8).2
    exact u8_in _ (by omega) (by omega)
  have e2 : bits .xor .u8 v (2 ^ j) = flipB v j := u8_xor_bit v v1 v2 j hj8
  have HK := Lib.hid hk
  have HJ := Lib.hid hj
  have HT := Lib.hid ((HC.out.setO 1 rfl k (flipB v j)).drew)
  clear hv hfb hk hj own5 hn5
  go_wp2_with fail
  go_region
  generalize hwd : (wc.setCell ⟨g5, k, none⟩ (.int .u8 (flipB v j))).drew = wd at HT ⊢
  clear hwd x1 x2 m2 m3 i3 i4 e1 e2 HC
  obtain ⟨zs', hzs⟩ : ∃ zs', zs' = (uPkt fr mt ck s d data).set k (flipB ((uPkt fr mt ck s d data)[k]?.getD 0) j) := ⟨_, rfl⟩
  have HZB := Lib.hid (show BD 255 zs' by rw [hzs]; exact flip_bd9 HPB.out hj8)
  have own6 := HT.out.own 1 rfl
  rw [HV.out, ← hzs, ← HN5.out] at own6
  have OWN6 := Lib.hid own6
  have HZS := Lib.hid hzs
  clear own6 hzs
  have hnc5 : n5 ≤ c5 := by have := HN5.out; omega
  by_cases hE : udpE zs' = 0
  · have hu : uhd zs' = uhd1 zs' := by unfold uhd; rw [if_pos hE]
    have HE := Lib.hid hE
    obtain ⟨tt, htt⟩ : ∃ x, x = udpTo zs' := ⟨_, rfl⟩
    have HU := Lib.hid (And.intro hu htt)
    clear hu htt hE
    go_wp2_with fail
    refine (uread_any _ n5 c5 zs' _ OWN6.out.rd HZB.out (by omega) hnc5).mono ?_
    rintro e we ⟨rfl, hbe⟩
    rw [HU.out.1, ← HU.out.2, HE.out]
    have HF := Lib.hid ((HT.out.next hbe).alloc 28 (uhd1 zs'))
    have OWN7 := Lib.hid ((OWN6.out.below hbe).alloc (.cells (uhd1 zs') 28))
    clear hbe HT OWN6
    unfold uhd1
    go_upto_region 16 with fail
    rw [show we.alloc (.cells #[.int .u16 (wordAt zs' 0), .int .u16 (wordAt zs' 2), .bool (wordAt zs' 6 != 0)] 28) = we.alloc (.cells (uhd1 zs') 28) from rfl]
    generalize hwf : we.alloc (.cells (uhd1 zs') 28) = wf at HF OWN7 ⊢
    clear hwf
    have HBF := Lib.hid (hBox.out.below HF.out.bel hBox.out.lt)
    have b2 : wf.cell? ⟨w.heap.size, 2, none⟩ = some (.bool ck) := HBF.out.cell 2
    have b3 : wf.cell? ⟨w.heap.size, 3, none⟩ = some (.int .u32 s) := HBF.out.cell 3
    have b4 : wf.cell? ⟨w.heap.size, 4, none⟩ = some (.int .u32 d) := HBF.out.cell 4
    go_wp2_with fail
    refine (uverify_any _ n5 c5 zs' s d _ OWN7.out.rd HZB.out (by omega) hnc5 s0 s1 d0 d1).mono ?_
    rintro e wg ⟨rfl, hbg⟩
    rw [HE.out]
    have HG := Lib.hid (HF.out.next hbg)
    clear b2 b3 b4 HBF hbg HF OWN7
    have HBG := Lib.hid (hBox.out.below HG.out.bel hBox.out.lt)
    have b2 : wg.cell? ⟨w.heap.size, 2, none⟩ = some (.bool ck) := HBG.out.cell 2
    have b3 : wg.cell? ⟨w.heap.size, 3, none⟩ = some (.int .u32 s) := HBG.out.cell 3
    have b4 : wg.cell? ⟨w.heap.size, 4, none⟩ = some (.int .u32 d) := HBG.out.cell 4
    have h2 : wg.cell? ⟨we.heap.size, 2, none⟩ = some (.bool (wordAt zs' 6 != 0)) := HG.out.cell 3 rfl 2 rfl
    have fin := hbw.trans (HG.out.bel.mono hbw.size)
    have FIN := Lib.hid fin
    clear fin
    obtain ⟨vv, hvv⟩ : ∃ x, x = udpV zs' s d := ⟨_, rfl⟩
    rw [← hvv]
    have HVV := Lib.hid hvv
    clear hvv
    cases hck : ck
    · subst hck
      go_wp2_with fail
      go_ret
      exact ⟨rfl, FIN.out⟩
    · subst hck
      by_cases h4 : k = 4
      · have c4 : ((k : Int) == 4) = true := by simp; omega
        clear h4
        go_wp2_with fail
        go_ret
        exact ⟨rfl, FIN.out⟩
      · by_cases h5 : k = 5
        · have c4 : ((k : Int) == 4) = false := by simp; omega
          have c5' : ((k : Int) == 5) = true := by simp; omega
          clear h4 h5
          go_wp2_with fail
          go_ret
          exact ⟨rfl, FIN.out⟩
        · by_cases h6 : wordAt zs' 6 = 0
          · have c4 : ((k : Int) == 4) = false := by simp; omega
            have c5' : ((k : Int) == 5) = false := by simp; omega
            have c6 : (wordAt zs' 6 != 0) = false := by simp [h6]
            clear h4 h5 h6
            go_wp2_with fail
            go_ret
            exact ⟨rfl, FIN.out⟩
          · have hvf : vv = false := by
              rw [HVV.out, HZS.out]
              refine flip_pkt OK.out hm0 (by rw [HDL.out]; have := HN5.out; omega) hj8 h4 h5 ?_ ?_
              · rw [← HZS.out]; exact HE.out
              · rw [← HZS.out]; exact h6
            subst hvf
            have c4 : ((k : Int) == 4) = false := by simp; omega
            have c5' : ((k : Int) == 5) = false := by simp; omega
            have c6 : (wordAt zs' 6 != 0) = true := by simp [h6]
            clear h4 h5 h6
            go_wp2_with fail
            go_ret
            exact ⟨rfl, FIN.out⟩
  · have hu : uhd zs' = uhd0 := by unfold uhd; rw [if_neg hE]
    have hto : udpTo zs' = 0 := by unfold udpTo; rw [if_neg hE]
    have hV : udpV zs' s d = false := by unfold udpV; simp [hE]
    have t2 : (udpE zs' != 0) = true := by simp [hE]
    have HU := Lib.hid (And.intro hu (And.intro hto hV))
    clear hu hto hV hE
    go_wp2_with fail
    refine (uread_any _ n5 c5 zs' _ OWN6.out.rd HZB.out (by omega) hnc5).mono ?_
    rintro e we ⟨rfl, hbe⟩
    rw [HU.out.1, HU.out.2.1]
    have HF := Lib.hid ((HT.out.next hbe).alloc 28 uhd0)
    have OWN7 := Lib.hid ((OWN6.out.below hbe).alloc (.cells uhd0 28))
    clear hbe HT OWN6
    unfold uhd0
    go_upto_region 16 with fail
    rw [show we.alloc (.cells #[.int .u16 0, .int .u16 0, .bool false] 28) = we.alloc (.cells uhd0 28) from rfl]
    generalize hwf : we.alloc (.cells uhd0 28) = wf at HF OWN7 ⊢
    clear hwf
    have HBF := Lib.hid (hBox.out.below HF.out.bel hBox.out.lt)
    have b2 : wf.cell? ⟨w.heap.size, 2, none⟩ = some (.bool ck) := HBF.out.cell 2
    have b3 : wf.cell? ⟨w.heap.size, 3, none⟩ = some (.int .u32 s) := HBF.out.cell 3
    have b4 : wf.cell? ⟨w.heap.size, 4, none⟩ = some (.int .u32 d) := HBF.out.cell 4
    go_wp2_with fail
    refine (uverify_any _ n5 c5 zs' s d _ OWN7.out.rd HZB.out (by omega) hnc5 s0 s1 d0 d1).mono ?_
    rintro e wg ⟨rfl, hbg⟩
    rw [HU.out.2.2]
    have HG := Lib.hid (HF.out.next hbg)
    clear b2 b3 b4 HBF hbg HF OWN7
    have HBG := Lib.hid (hBox.out.below HG.out.bel hBox.out.lt)
    have b2 : wg.cell? ⟨w.heap.size, 2, none⟩ = some (.bool ck) := HBG.out.cell 2
    have b3 : wg.cell? ⟨w.heap.size, 3, none⟩ = some (.int .u32 s) := HBG.out.cell 3
    have b4 : wg.cell? ⟨w.heap.size, 4, none⟩ = some (.int .u32 d) := HBG.out.cell 4
    go_wp2_with fail
    go_ret
    exact ⟨rfl, hbw.trans (HG.out.bel.mono hbw.size)⟩
end Go.Proofs.Ytnocbpagdoihmaa
