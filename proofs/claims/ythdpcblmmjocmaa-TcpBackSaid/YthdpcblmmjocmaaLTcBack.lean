/- bafflelaw08.TcpBack. (Printed by gen_tcback.py.) -/
import Derived.Test.YthdpcblmmjocmaaWMade8
import Derived.Test.YthdpcblmmjocmaaWAwake8
namespace Go.Proofs.Ythdpcblmmjocmaa
open Go.RowKit
set_option linter.unusedVariables false

set_option maxHeartbeats 8000000 in
set_option maxRecDepth 100000 in
theorem tcpBack_walk (h0 h1 h2 h3 h4 h5 h6 h7 h8 h9 h10 h11 h12 h13 h14 h15 fg mo wo sr ds : Int) (A : Option Addr) (n c : Nat) (zs : List Int) (bt : Int) (w : World) (hb : BD 255 [h0, h1, h2, h3, h4, h5, h6, h7, h8, h9, h10, h11, h12, h13, h14, h15]) (hfg : 0 ≤ fg ∧ fg ≤ 255) (hmo : 0 ≤ mo ∧ mo ≤ 255) (hwo : 0 ≤ wo ∧ wo ≤ 255) (hsr : 0 ≤ sr ∧ sr ≤ 4294967295) (hds : 0 ≤ ds ∧ ds ≤ 4294967295)
    (H : ROW .u8 255 w A n c zs) (hbt : 0 ≤ bt ∧ bt ≤ 65535) :
    Calls Try.prog 7 #[.agg #[.int .u8 h0, .int .u8 h1, .int .u8 h2, .int .u8 h3, .int .u8 h4, .int .u8 h5, .int .u8 h6, .int .u8 h7, .int .u8 h8, .int .u8 h9, .int .u8 h10, .int .u8 h11, .int .u8 h12, .int .u8 h13, .int .u8 h14, .int .u8 h15, .int .u8 fg, .int .u8 mo, .int .u8 wo, .int .u32 sr, .int .u32 ds, .slice A n c], .int .u16 bt] w fun e w' => e = .returned (.bool true) ∧ Below w.heap.size w w' := by
  obtain ⟨i0, hi, hz0, hz1, hz2⟩ := info_parts infoU8
  have S0 := (SP.start w).alloc 44 #[.int .u8 h0, .int .u8 h1, .int .u8 h2, .int .u8 h3, .int .u8 h4, .int .u8 h5, .int .u8 h6, .int .u8 h7, .int .u8 h8, .int .u8 h9, .int .u8 h10, .int .u8 h11, .int .u8 h12, .int .u8 h13, .int .u8 h14, .int .u8 h15, .int .u8 fg, .int .u8 mo, .int .u8 wo, .int .u32 sr, .int .u32 ds, .slice A n c]
  have H0 := Lib.hid S0
  clear S0
  have HR := Lib.hid H
  have HBD := Lib.hid hb
  clear H hb
  go_enter Try.func7, Try.ntmps7
  go_wp2_with fail
  obtain ⟨N, hN⟩ : ∃ N, N = w.heap.size := ⟨_, rfl⟩
  rw [← hN] at H0 ⊢
  clear hN
  refine (awake8_any _).mono ?_
  rintro e w1 ⟨rfl, hb1⟩
  have X1 := Lib.hid (show SP w w1 [.blk N 44 #[.int .u8 h0, .int .u8 h1, .int .u8 h2, .int .u8 h3, .int .u8 h4, .int .u8 h5, .int .u8 h6, .int .u8 h7, .int .u8 h8, .int .u8 h9, .int .u8 h10, .int .u8 h11, .int .u8 h12, .int .u8 h13, .int .u8 h14, .int .u8 h15, .int .u8 fg, .int .u8 mo, .int .u8 wo, .int .u32 sr, .int .u32 ds, .slice A n c]] from H0.out.next hb1)
  clear hb1 H0
  have B1 := Lib.hid (X1.out.blk 0 rfl)
  go_wp2_with (refine wpList_load_row rfl 44 _ rfl N rfl 44 #[.int .u8 h0, .int .u8 h1, .int .u8 h2, .int .u8 h3, .int .u8 h4, .int .u8 h5, .int .u8 h6, .int .u8 h7, .int .u8 h8, .int .u8 h9, .int .u8 h10, .int .u8 h11, .int .u8 h12, .int .u8 h13, .int .u8 h14, .int .u8 h15, .int .u8 fg, .int .u8 mo, .int .u8 wo, .int .u32 sr, .int .u32 ds, .slice A n c] _ _ B1.out Try.underlying44 rfl (by kernel_rfl) ?_)
  refine (made8_any h0 h1 h2 h3 h4 h5 h6 h7 h8 h9 h10 h11 h12 h13 h14 h15 fg mo wo sr ds A n c zs _ HBD.out hfg hmo hwo ((HR.out.rd.below X1.out.bel).more X1.out.size) HR.out.bd HR.out.le HR.out.cap).mono ?_
  rintro e w2 ⟨h, Ao, on, oc, os, Ad, dn, dc, data, rfl, wf, hsp, hdp, hsane, hon, ho4, hbo, hbd, hdn, Xp⟩
  have RO := Lib.hid (fun (W : World) (hb : Below w2.heap.size w2 W) => (show RD .u8 W W.heap.size Ao on os from ((Xp.rd 0 rfl).below hb).more hb.size))
  have RT := Lib.hid (fun (W : World) (hb : Below w2.heap.size w2 W) => (show RD .u8 W W.heap.size Ad dn data from ((Xp.rd 1 rfl).below hb).more hb.size))
  have hol : os.length = on := (Xp.own 0 rfl).len
  have hdl : data.length = dn := (Xp.own 1 rfl).len
  have B2 : BLOCK w2 N 44 #[.int .u8 h0, .int .u8 h1, .int .u8 h2, .int .u8 h3, .int .u8 h4, .int .u8 h5, .int .u8 h6, .int .u8 h7, .int .u8 h8, .int .u8 h9, .int .u8 h10, .int .u8 h11, .int .u8 h12, .int .u8 h13, .int .u8 h14, .int .u8 h15, .int .u8 fg, .int .u8 mo, .int .u8 wo, .int .u32 sr, .int .u32 ds, .slice A n c] := B1.out.next Xp.bel
  have HN := Lib.hid (fun (W : World) (hb : Below w2.heap.size w2 W) => (show W.cell? ⟨N, 19, none⟩ = some (.int .u32 sr) ∧ W.cell? ⟨N, 20, none⟩ = some (.int .u32 ds) from ⟨(B2.below hb B2.lt).cell 19, (B2.below hb B2.lt).cell 20⟩))
  have HBE := Lib.hid (X1.out.bel.trans (Xp.bel.mono X1.out.size))
  have OK := Lib.hid (show TOK h os data sr ds from ⟨wf, hsp, hdp, hsane, by rw [hol]; exact hon, by rw [hol]; exact ho4, hbo, hbd, by rw [hdl]; omega, hsr, hds⟩)
  have HLL := Lib.hid (And.intro hol hdl)
  clear Xp X1 B1 B2 wf hsp hdp hsane ho4 hbo hbd hol hdl
  obtain ⟨M, hM⟩ : ∃ N, N = w2.heap.size := ⟨_, rfl⟩
  have X2 := Lib.hid ((SP.start w2).alloc' 28 (h.cells (.slice Ao on oc)) hM.symm)
  unfold TH.cells
  go_upto_region 4 with fail
  rw [← hM]
  change Code.wp _ _ _ _ (w2.alloc (.cells (h.cells (.slice Ao on oc)) 28))
  generalize w2.alloc (.cells (h.cells (.slice Ao on oc)) 28) = w3 at X2 ⊢
  clear hM
  have BM := Lib.hid (X2.out.blk 0 rfl)
  obtain ⟨q19, q20⟩ := HN.out _ X2.out.bel
  go_wp2_with (refine wpList_load_row rfl 28 _ rfl M rfl 28 (h.cells (.slice Ao on oc)) _ _ BM.out Try.underlying28 rfl (by kernel_rfl) ?_)
  refine (tcwrite_any h OK.out.wf Ao on oc os sr ds Ad dn dc data _ (RO.out _ X2.out.bel) OK.out.ob (by omega) hsr hds (RT.out _ X2.out.bel) OK.out.db (by omega)).mono ?_
  rintro e w4 ⟨A5, n5, c5, rfl, own5, hb5⟩
  have hE0 : tE h on dn = 0 := by have := OK.out.bytes.2; rwa [HLL.out.1, HLL.out.2] at this
  rw [OK.out.bytes.1] at own5
  rw [hE0]
  obtain ⟨zp, hzp⟩ : ∃ zp, zp = tPkt h os sr ds data := ⟨_, rfl⟩
  rw [← hzp] at own5
  have hn5 : n5 = 20 + on + dn := by have h1 := own5.len; rw [hzp, tPkt_len, HLL.out.1, HLL.out.2] at h1; exact h1.symm
  have HZ := Lib.hid hzp
  subst hn5
  have X4 := Lib.hid (show SP w2 w4 [.blk M 28 (h.cells (.slice Ao on oc)), .own .u8 5 A5 (20 + on + dn) c5 zp] from X2.out.pushOwn hb5 own5)
  clear own5 hb5 X2 BM q19 q20 hE0 hzp
  have z7 : w4.cell? ⟨M, 7, none⟩ = some (.slice Ao on oc) := X4.out.cell 0 rfl 7 rfl
  have z4 : w4.cell? ⟨M, 4, none⟩ = some (.int .u8 h.fl) := X4.out.cell 0 rfl 4 rfl
  go_wp2_with fail
  refine (sane_any h.fl _ OK.out.wf.fl).mono ?_
  rintro e w5 ⟨rfl, rfl⟩
  rw [OK.out.fl]
  clear z7 z4
  go_wp2_with fail
  have HBB := Lib.hid (show BD 255 zp by rw [HZ.out]; exact OK.out.bd)
  refine (tcread_any A5 (20 + on + dn) c5 zp _ (X4.out.rd 1 rfl) HBB.out (X4.out.own 1 rfl).le.1 (by omega)).mono ?_
  rintro e w6 ⟨A6, n6, c6, rfl, own6, hb6⟩
  obtain ⟨b1, b2, b3, b4, b5⟩ := OK.out.back
  rw [← HZ.out] at b1 b2 b3 b4 b5
  rw [b4] at own6
  rw [b1, b2, b3]
  rw [HLL.out.1] at b3 b5 ⊢
  have hn6 : n6 = on := own6.len.symm.trans HLL.out.1
  subst hn6
  have HD := Lib.hid b5
  clear b1 b2 b3 b4 b5
  obtain ⟨M6, hM6⟩ : ∃ N, N = w6.heap.size := ⟨_, rfl⟩
  have X6 := Lib.hid (show SP w2 _ [.blk M 28 (h.cells (.slice Ao n6 oc)), .own .u8 5 A5 (20 + n6 + dn) c5 zp, .own .u8 5 A6 n6 c6 os, .blk M6 28 (h.cells (.slice A6 n6 c6))] from (X4.out.pushOwn hb6 own6).alloc' 28 (h.cells (.slice A6 n6 c6)) hM6.symm)
  clear own6 hb6 X4
  unfold TH.cells
  go_upto_region 9 with fail
  rw [← hM6]
  change Code.wp _ _ _ _ (w6.alloc (.cells (h.cells (.slice A6 n6 c6)) 28))
  generalize w6.alloc (.cells (h.cells (.slice A6 n6 c6)) 28) = w7 at X6 ⊢
  clear hM6
  have B0 := Lib.hid (X6.out.blk 0 rfl)
  have B3 := Lib.hid (X6.out.blk 3 rfl)
  go_wp2_with (first
    | (refine wpList_load_row_w 28 _ rfl (by rfl) M6 rfl 28 (h.cells (.slice A6 n6 c6)) (0, 0) _ B3.out Try.underlying28 rfl (by kernel_rfl) ?_)
    | (refine wpList_load_row_w 28 _ rfl (by rfl) M rfl 28 (h.cells (.slice Ao n6 oc)) (0, 0) _ B0.out Try.underlying28 rfl (by kernel_rfl) ?_))
  refine (same8_any h A6 Ao n6 c6 n6 oc os _ (X6.out.rd 2 rfl) (RO.out _ X6.out.bel) (by omega)).mono ?_
  rintro e w8 ⟨rfl, hb8⟩
  have X8 := Lib.hid (show SP w2 w8 [.blk M 28 (h.cells (.slice Ao n6 oc)), .own .u8 5 A5 (20 + n6 + dn) c5 zp] from (X6.out.next hb8).pick [0, 1] (by decide) rfl)
  clear hb8 X6 B0 B3
  have hle := (X8.out.own 1 rfl).le
  have sl := fun W => run_slice_lo (P := Try.prog) W Try.underlying22 hi hz1 A5 (20 + n6 + dn) c5 (20 + (n6 : Int)) (20 + n6) (by omega) (by omega)
  have RC := Lib.hid (show RD .u8 w8 w8.heap.size (cutA A5 c5 (20 + n6)) dn data by
    have h1 := (X8.out.rd 1 rfl).cutA (lo := 20 + n6) (by omega) hle.1
    rw [HD.out, show 20 + n6 + dn - (20 + n6) = dn by omega] at h1
    exact h1)
  clear hle
  go_wp2_with fail
  refine (same_any (cutA A5 c5 (20 + n6)) Ad dn (c5 - (20 + n6)) dn dc data data w8 RC.out (RT.out _ X8.out.bel) (by omega) (by omega)).mono ?_
  rintro e w9 ⟨rfl, m9, h9⟩
  rw [show (data == data) = true by simp]
  have X9 := Lib.hid (h9 ▸ X8.out.drewN m9)
  clear h9 X8 RC sl
  obtain ⟨q19, q20⟩ := HN.out _ X9.out.bel
  go_wp2_with fail
  obtain ⟨v1, v2⟩ := OK.out.verified
  rw [← HZ.out] at v1 v2
  have HVV := Lib.hid (And.intro v1 v2)
  clear v1 v2
  refine (tcverify_any A5 (20 + n6 + dn) c5 zp sr ds _ (X9.out.rd 1 rfl) HBB.out (by omega) hsr hds).mono ?_
  rintro e wa ⟨rfl, hba⟩
  rw [HVV.out.1]
  have XA := Lib.hid (X9.out.next hba)
  clear q19 q20 hba X9
  obtain ⟨q19, q20⟩ := HN.out _ XA.out.bel
  go_wp2_with fail
  refine (tcverify_any A5 (20 + n6 + dn) c5 zp ds sr _ (XA.out.rd 1 rfl) HBB.out (by omega) hds hsr).mono ?_
  rintro e wb ⟨rfl, hbb⟩
  rw [HVV.out.2]
  have XB := Lib.hid (XA.out.next hbb)
  clear q19 q20 hbb XA
  obtain ⟨q19, q20⟩ := HN.out _ XB.out.bel
  obtain ⟨r, hr⟩ : ∃ r : Nat, bt % 32 = (r : Int) := ⟨(bt % 32).toNat, by omega⟩
  have hr32 : r < 32 := by omega
  obtain ⟨s', es, s0', s1', vs⟩ := OK.out.src r hr32
  obtain ⟨d', ed, d0', d1', vd⟩ := OK.out.dst r hr32
  rw [← HZ.out] at vs vd
  have VS := Lib.hid vs
  have VD := Lib.hid vd
  have i1 : (0 : Int) ≤ (r : Int) := by omega
  have i2 : (r : Int) ≤ 32 := by omega
  have i3 : (r : Int) < 32 := by omega
  have e2 : IntKind.u32.wrap ((2 : Int) ^ r) = 2 ^ r := by
    have hp : (2 : Nat) ^ r ≤ 2 ^ 31 := Nat.pow_le_pow_right (by omega) (by omega)
    have hc : ((2 : Int) ^ r) = ((2 ^ r : Nat) : Int) := by simp
    rw [hc]
    have h31 : (2 : Nat) ^ 31 = 2147483648 := rfl
    rw [h31] at hp
    generalize (2 : Nat) ^ r = x at hp ⊢
    exact u32_in _ (by omega) (by omega)
  clear vs vd hr32
  go_wp2_with fail
  refine (tcverify_any A5 (20 + n6 + dn) c5 zp s' ds _ (XB.out.rd 1 rfl) HBB.out (by omega) ⟨s0', s1'⟩ hds).mono ?_
  rintro e wc ⟨rfl, hbc⟩
  rw [VS.out]
  have XC := Lib.hid (XB.out.next hbc)
  clear q19 q20 hbc XB
  obtain ⟨q19, q20⟩ := HN.out _ XC.out.bel
  go_wp2_with fail
  refine (tcverify_any A5 (20 + n6 + dn) c5 zp sr d' _ (XC.out.rd 1 rfl) HBB.out (by omega) hsr ⟨d0', d1'⟩).mono ?_
  rintro e wd ⟨rfl, hbd'⟩
  rw [VD.out]
  have XD := Lib.hid (XC.out.next hbd')
  clear q19 q20 hbd' XC es ed e2 i1 i2 i3 hr s0' s1' d0' d1' VS VD
  obtain ⟨n5, hn5⟩ : ∃ n5 : Nat, n5 = 20 + n6 + dn := ⟨_, rfl⟩
  have hn5a : 20 ≤ n5 := by omega
  have hn5b : n5 ≤ 160 := by omega
  have hzl : zp.length = n5 := by rw [HZ.out, tPkt_len, HLL.out.1, HLL.out.2]; omega
  have HZL := Lib.hid hzl
  rw [← hn5] at XD ⊢
  have HN5 := Lib.hid hn5
  have hm8 : 0 ≤ bt % (8 * (n5 : Int)) ∧ bt % (8 * (n5 : Int)) < 8 * (n5 : Int) := ⟨Int.emod_nonneg _ (by omega), Int.emod_lt_of_pos _ (by omega)⟩
  obtain ⟨p, hp⟩ : ∃ p : Nat, bt % (8 * (n5 : Int)) = (p : Int) := ⟨(bt % (8 * (n5 : Int))).toNat, by omega⟩
  rw [hp] at hm8
  obtain ⟨hm8a, hm8b⟩ := hm8
  obtain ⟨k, hk⟩ : ∃ k, k = p / 8 := ⟨_, rfl⟩
  obtain ⟨j, hj⟩ : ∃ j, j = p % 8 := ⟨_, rfl⟩
  have hk5 : k < n5 := by omega
  have hj8 : j < 8 := by omega
  obtain ⟨g5, rfl, _⟩ := (XD.out.own 1 rfl).form (by omega)
  have own5 := XD.out.own 1 rfl
  have x1 := own5.cell (i := k) (by omega)
  have x2 := own5.frozen k
  obtain ⟨v1, v2⟩ := HBB.out.get (by omega) k
  obtain ⟨v, hv⟩ : ∃ v, v = zp[k]?.getD 0 := ⟨_, rfl⟩
  rw [← hv] at x1 v1 v2
  have m1 : (p : Int).tdiv 8 = (k : Int) := by rw [Int.tdiv_eq_ediv_of_nonneg (by omega)]; omega
  have m2 : (p : Int).tmod 8 = (j : Int) := by rw [Int.tmod_eq_emod_of_nonneg (by omega)]; omega
  have m3 : IntKind.i64.wrap (k : Int) = (k : Int) := IntWalk.i64_in _ (by omega)
  have i1 : (0 : Int) ≤ (k : Int) := by omega
  have i2 : (k : Int) < (n5 : Int) := by omega
  have i3 : (0 : Int) ≤ (j : Int) := by omega
  have i4 : (j : Int) ≤ 8 := by omega
  have e1 : IntKind.u8.wrap ((2 : Int) ^ j) = 2 ^ j := by
    have := (flipB_far v hj8).2
    exact u8_in _ (by omega) (by omega)
  have e2 : bits .xor .u8 v (2 ^ j) = flipB v j := u8_xor_bit v v1 v2 j hj8
  obtain ⟨bb, bv⟩ : BD 255 (zp.set k (flipB v j)) ∧ tV (zp.set k (flipB v j)) sr ds = false := by
    have hkl : k < (tPkt h os sr ds data).length := by rw [← HZ.out, hzl]; exact hk5
    have := OK.out.bit hkl hj8
    rwa [← HZ.out, ← hv] at this
  have HBT := Lib.hid (And.intro bb bv)
  have HT := Lib.hid ((XD.out.setO 1 rfl k (flipB v j)).drew)
  clear hv hk hj own5 hn5 bb bv hzl
  obtain ⟨q19, q20⟩ := HN.out _ HT.out.bel
  clear q19 q20
  go_wp2_with fail
  go_region
  generalize hwd : (wd.setCell ⟨g5, k, none⟩ (.int .u8 (flipB v j))).drew = wf at HT ⊢
  clear hwd x1 x2 m2 m3 i3 i4 e1 e2 XD
  obtain ⟨q19, q20⟩ := HN.out _ HT.out.bel
  go_wp2_with fail
  refine (tcverify_any (some ⟨g5, 0, none⟩) n5 c5 (zp.set k (flipB v j)) sr ds _ (HT.out.rd 1 rfl) HBT.out.1 (by omega) hsr hds).mono ?_
  rintro e we ⟨rfl, hbe⟩
  rw [HBT.out.2]
  have fin := Lib.hid (HBE.out.trans ((HT.out.next hbe).bel.mono HBE.out.size))
  clear hbe HT q19 q20
  go_wp2_with fail
  go_ret
  exact ⟨rfl, fin.out⟩
end Go.Proofs.Ythdpcblmmjocmaa
