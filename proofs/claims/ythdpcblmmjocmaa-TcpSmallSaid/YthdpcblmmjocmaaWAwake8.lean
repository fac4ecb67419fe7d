import Derived.Test.YthdpcblmmjocmaaWPairs
/- The examples of the chapter on tcp: awake returns true. -/
namespace Go.Proofs.Ythdpcblmmjocmaa
open Go.RowKit
set_option linter.unusedVariables false
attribute [local go_sem ↓] Go.wp_at_zero Go.wp_at_succ

def hEX8 : TH := ⟨1024, 80, 1, 0, 2, 512, 0⟩
theorem hEX8_wf : hEX8.WF := by constructor <;> simp [hEX8]
theorem EX8_bd : BD 255 EX8 := bd_all (by decide)
theorem EX8_E : tcE EX8 = 0 := by decide
theorem EX8_hd : tcHd EX8 = hEX8 := by decide
theorem EX8_to : tcTo EX8 = 20 := by decide
theorem EX8_op : tcOp EX8 = [] := by decide
theorem EX8_w : tB hEX8 [] 167772161 167772162 [] = EX8 := by decide
theorem EX8_wE : tE hEX8 0 0 = 0 := by decide
theorem EX8_V : tV EX8 167772161 167772162 = true := by decide
theorem EX8_x : extN 2 0 = 1 := by decide
def FL8 : List Int := [0, 1, 8, 3, 6, 21]
theorem FL8_no : ∀ k, k < 6 → saneB (FL8[k]?.getD 0) = false := by decide
def TX8 : List Int := [2, 4, 5, 180, 1, 3, 3, 7]
def k8 : KN := ⟨1460, 7, false, false, 0, 0, []⟩
theorem TX8_bd : BD 255 TX8 := bd_all (by decide)
theorem TX8_k : parseK TX8 = k8 := by decide
theorem TX8_E : parseE TX8 = 0 := by decide
theorem k8_B : fmtB k8 = TX8 := by decide
theorem k8_E : fmtE k8 = 0 := by decide
def NX8 : List Int := [0, 2, 4]
theorem NX8_bd : BD 255 NX8 := bd_all (by decide)
theorem NX8_k : parseK NX8 = kn0 := by decide
theorem NX8_E : parseE NX8 = 0 := by decide
def k4x : KN := ⟨0, -1, false, true, 0, 0, [(0, 0), (0, 0), (0, 0), (0, 0)]⟩
theorem k4x_E : fmtE k4x = 3 := by decide
def BX8 (k : Nat) : List Int := if k = 0 then [3, 3, 15] else if k = 1 then [2, 4, 0, 0] else [4, 2, 4, 2]
theorem BX8_E : ∀ k, k < 3 → parseE (BX8 k) = 84 := by decide
theorem BX8_bd (k : Nat) : BD 255 (BX8 k) := by unfold BX8; split; exact bd_all (by decide); split <;> exact bd_all (by decide)

set_option maxHeartbeats 8000000 in
set_option maxRecDepth 100000 in
theorem awake8_any (w : World) : Calls Try.prog 13 #[] w fun e w' => e = .returned (.bool true) ∧ Below w.heap.size w w' := by
  obtain ⟨i0, hi, hz0, hz1, hz2⟩ := info_parts infoU8
  have bd0 : BD 255 ([] : List Int) := fun x hx => by cases hx
  have S := SP.start w
  go_enter Try.func13, Try.ntmps13
  go_wp2_with fail
  refine (example8_any _).mono ?_
  rintro e w1 ⟨rfl, rfl⟩
  obtain ⟨E, hE⟩ : ∃ E, E = w.heap.size := ⟨_, rfl⟩
  rw [← hE]
  have S1 := S.allocI' .u8 5 EX8 (by decide) hE.symm
  generalize hw1 : w.alloc (.cells (EX8.map (Value.int .u8)).toArray 5) = w1 at S1 ⊢
  clear hw1 S hE
  obtain ⟨N, hN⟩ : ∃ N, N = w1.heap.size := ⟨_, rfl⟩
  have S2 := S1.alloc' 28 (hEX8.cells (.slice none 0 0)) hN.symm
  go_upto_region 3 with fail
  rw [← hN]
  change Code.wp _ _ _ _ (w1.alloc (.cells (hEX8.cells (.slice none 0 0)) 28))
  generalize w1.alloc (.cells (hEX8.cells (.slice none 0 0)) 28) = w2 at S2 ⊢
  have X2 := Lib.hid S2
  clear S1 S2 hN
  go_wp2_with (refine wpList_load_row rfl 28 _ rfl N rfl 28 (hEX8.cells (.slice none 0 0)) (0, 0) _ (X2.out.blk 1 rfl) Try.underlying28 rfl (by kernel_rfl) ?_)
  refine (tcwrite_any hEX8 hEX8_wf none 0 0 [] 167772161 167772162 none 0 0 [] _ RD.nil bd0 (by omega) (by omega) (by omega) RD.nil bd0 (by omega)).mono ?_
  rintro e w3 ⟨A3, n3, c3, rfl, own3, hb3⟩
  rw [EX8_w] at own3
  rw [EX8_wE]
  have hn3 : 20 = n3 := own3.len
  subst hn3
  have X3 := Lib.hid (X2.out.pushOwn hb3 own3)
  clear own3 hb3 X2
  go_wp2_with fail
  refine (tcread_any (some ⟨E, 0, none⟩) 20 20 EX8 _ (X3.out.rd 0 rfl) EX8_bd (by omega) (by omega)).mono ?_
  rintro e w4 ⟨A4, n4, c4, rfl, own4, hb4⟩
  rw [EX8_op] at own4
  rw [EX8_hd, EX8_to, EX8_E]
  have hn4 : 0 = n4 := own4.len
  subst hn4
  obtain ⟨N4, hN4⟩ : ∃ N, N = w4.heap.size := ⟨_, rfl⟩
  have X4 := Lib.hid ((X3.out.pushOwn hb4 own4).alloc' 28 (hEX8.cells (.slice A4 0 c4)) hN4.symm)
  clear own4 hb4 X3
  unfold TH.cells
  go_upto_region 5 with fail
  rw [← hN4]
  change Code.wp _ _ _ _ (w4.alloc (.cells (hEX8.cells (.slice A4 0 c4)) 28))
  generalize w4.alloc (.cells (hEX8.cells (.slice A4 0 c4)) 28) = w5 at X4 ⊢
  clear hN4
  go_wp2_with fail
  refine (same_any A3 _ 20 c3 20 20 EX8 EX8 _ (X4.out.rd 2 rfl) (X4.out.rd 0 rfl) (by omega) (by omega)).mono ?_
  rintro e w6 ⟨rfl, m6, h6⟩
  rw [show (EX8 == EX8) = true by decide]
  have X6 := Lib.hid (h6 ▸ X4.out.drewN m6)
  clear h6 X4
  go_wp2_with (first
    | (refine wpList_load_row_w 28 _ rfl (by rfl) N4 rfl 28 (hEX8.cells (.slice A4 0 c4)) (0, 0) _ (X6.out.blk 4 rfl) Try.underlying28 rfl (by kernel_rfl) ?_)
    | (refine wpList_load_row_w 28 _ rfl (by rfl) N rfl 28 (hEX8.cells (.slice none 0 0)) (0, 0) _ (X6.out.blk 1 rfl) Try.underlying28 rfl (by kernel_rfl) ?_))
  refine (same8_any hEX8 A4 none 0 c4 0 0 [] _ (X6.out.rd 3 rfl) RD.nil (by omega)).mono ?_
  rintro e w7 ⟨rfl, hb7⟩
  have X7 := Lib.hid (X6.out.next hb7)
  clear hb7 X6
  go_wp2_with fail
  refine (tcverify_any (some ⟨E, 0, none⟩) 20 20 EX8 167772161 167772162 _ (X7.out.rd 0 rfl) EX8_bd (by omega) (by omega) (by omega)).mono ?_
  rintro e w8 ⟨rfl, hb8⟩
  rw [EX8_V]
  have X8 := Lib.hid (X7.out.next hb8)
  clear hb8 X7
  have f4 : w8.cell? ⟨N, 4, none⟩ = some (.int .u8 2) := X8.out.cell 1 rfl 4 rfl
  go_wp2_with fail
  refine (extent_any 2 0 _ (by omega)).mono ?_
  rintro e w9 ⟨rfl, rfl⟩
  rw [EX8_x]
  obtain ⟨G, hG⟩ : ∃ N, N = w8.heap.size := ⟨_, rfl⟩
  have X9 := Lib.hid (X8.out.allocI' .u8 5 FL8 (by decide) hG.symm)
  clear f4 X8
  go_wp2_with fail
  rw [← hG]
  change Code.wp _ _ _ _ (w8.alloc (.cells (FL8.map (Value.int .u8)).toArray 5))
  generalize w8.alloc (.cells (FL8.map (Value.int .u8)).toArray 5) = w9 at X9 ⊢
  clear hG
  go_loop [79] (fun i => ∃ k : Nat, k ≤ 6 ∧ i = .int .i64 k) (fun i => 6 - (intOf i).toNat)
  case atStart => exact ⟨0, by omega, rfl⟩
  case round =>
    obtain ⟨k, hk, rfl⟩ := hrel
    by_cases hlt : k < 6
    · have x0 : w9.cell? ⟨G, k, none⟩ = some (.int .u8 (FL8[k]?.getD 0)) := (X9.out.own 5 rfl).cell (i := k) hlt
      have hb := (show BD 255 FL8 from bd_all (by decide)).get (by omega) k
      have hs := FL8_no k hlt
      generalize FL8[k]?.getD 0 = f at x0 hb hs
      have HS := Lib.hid hs
      have i1 : (k : Int) < 6 := by omega
      clear hs
      go_wp2_with fail
      refine (sane_any f _ hb).mono ?_
      rintro e w2 ⟨rfl, rfl⟩
      rw [HS.out]
      go_wp2_with fail
      go_round
      case rel => exact ⟨k + 1, by omega, by go_num⟩
      case measure => simp [intOf]; omega
    · obtain rfl : k = 6 := by omega
      obtain ⟨T, hT⟩ : ∃ N, N = w9.heap.size := ⟨_, rfl⟩
      have Xa := Lib.hid (X9.out.allocI' .u8 5 TX8 (by decide) hT.symm)
      clear X9
      go_wp2_with fail
      rw [← hT]
      change Calls _ _ _ (w9.alloc (.cells (TX8.map (Value.int .u8)).toArray 5)) _
      generalize w9.alloc (.cells (TX8.map (Value.int .u8)).toArray 5) = wa at Xa ⊢
      clear hT
      refine (tcparse_any (some ⟨T, 0, none⟩) 8 8 TX8 _ (Xa.out.rd 6 rfl) TX8_bd (by omega) (by simp [maxLen])).mono ?_
      rintro e wb ⟨Ab, nb, cb, hnb, rfl, Xp⟩
      rw [TX8_k] at hnb Xp ⊢
      rw [TX8_E]
      have hnb' : nb = 0 := hnb
      subst hnb'
      obtain ⟨K1, hK1⟩ : ∃ N, N = wb.heap.size := ⟨_, rfl⟩
      have Xb := Lib.hid ((Xa.out.push Xp.bel (it := .row 93 2 Ab 0 cb (prs k8.bl)) (Xp.row 0 rfl)).alloc' 32 (KNC k8 Ab 0 cb) hK1.symm)
      clear hnb Xp Xa
      unfold KNC
      go_upto_region 15 with fail
      rw [← hK1]
      change Code.wp _ _ _ _ (wb.alloc (.cells (KNC k8 Ab 0 cb) 32))
      generalize wb.alloc (.cells (KNC k8 Ab 0 cb) 32) = wc at Xb ⊢
      clear hK1
      go_wp2_with (refine wpList_load_row rfl 32 _ rfl K1 rfl 32 (KNC k8 Ab 0 cb) (0, 0) _ (Xb.out.blk 8 rfl) Try.underlying32 rfl (by kernel_rfl) ?_)
      refine (tcformat_any k8 Ab 0 cb _ rfl (row_rd (l := k8.bl) (Xb.out.row 7 rfl)) (fun x hx => by cases hx) (by simp [k8]) (by simp [k8])).mono ?_
      rintro e wd ⟨Ad, nd, cd, rfl, ownd, hbd⟩
      rw [k8_B] at ownd
      rw [k8_E]
      have hnd : 8 = nd := ownd.len
      subst hnd
      have Xd := Lib.hid (Xb.out.pushOwn hbd ownd)
      clear ownd hbd Xb
      obtain ⟨T2, hT2⟩ : ∃ N, N = wd.heap.size := ⟨_, rfl⟩
      have Xe := Lib.hid (Xd.out.allocI' .u8 5 NX8 (by decide) hT2.symm)
      clear Xd
      go_wp2_with fail
      rw [← hT2]
      change Calls _ _ _ (wd.alloc (.cells (NX8.map (Value.int .u8)).toArray 5)) _
      generalize wd.alloc (.cells (NX8.map (Value.int .u8)).toArray 5) = we at Xe ⊢
      clear hT2
      refine (tcparse_any (some ⟨T2, 0, none⟩) 3 3 NX8 _ (Xe.out.rd 10 rfl) NX8_bd (by omega) (by simp [maxLen])).mono ?_
      rintro e wf ⟨Af, nf, cf, hnf, rfl, Xp⟩
      rw [NX8_k] at hnf Xp ⊢
      rw [NX8_E]
      have hnf' : nf = 0 := hnf
      subst hnf'
      obtain ⟨K2, hK2⟩ : ∃ N, N = wf.heap.size := ⟨_, rfl⟩
      have Xf := Lib.hid ((Xe.out.push Xp.bel (it := .row 93 2 Af 0 cf (prs kn0.bl)) (Xp.row 0 rfl)).alloc' 32 (KNC kn0 Af 0 cf) hK2.symm)
      clear hnf Xp Xe
      unfold KNC
      go_upto_region 17 with fail
      rw [← hK2]
      change Code.wp _ _ _ _ (wf.alloc (.cells (KNC kn0 Af 0 cf) 32))
      generalize wf.alloc (.cells (KNC kn0 Af 0 cf) 32) = wg at Xf ⊢
      clear hK2
      obtain ⟨wh, hmk, hrow, hbm⟩ := run_make_pairs wg 4 4 4 4 rfl rfl (by omega) (by omega)
      obtain ⟨M4, hM4⟩ : ∃ N, N = wg.heap.size := ⟨_, rfl⟩
      rw [← hM4] at hmk
      have Xh := Lib.hid (show SP w wh (_ ++ [.row 93 2 (some ⟨M4, 0, none⟩) 4 4 (prs (List.replicate 4 (0, 0)))]) from Xf.out.push hbm (by rw [hM4]; exact hrow))
      clear hrow hbm Xf hM4
      go_wp2_with fail
      clear hmk
      refine (tcformat_any k4x (some ⟨M4, 0, none⟩) 4 4 _ rfl (row_rd (l := k4x.bl) (Xh.out.row 13 rfl)) (bd_all (by decide)) (by simp [k4x]) (by simp [k4x])).mono ?_
      rintro e wi ⟨Ai, ni, ci, rfl, owni, hbi⟩
      rw [k4x_E]
      have Xi := Lib.hid (Xh.out.pushOwn hbi owni)
      clear owni hbi Xh
      have hB1 : BLOCK wi K1 32 (KNC k8 Ab 0 cb) := Xi.out.blk 8 rfl
      go_wp2_with (refine wpList_load_row_w 32 _ rfl (by rfl) K1 rfl 32 (KNC k8 Ab 0 cb) (0, 0) _ hB1 Try.underlying32 rfl (by kernel_rfl) ?_)
      clear hB1
      refine (equal8_any k8 Ab none 0 cb 0 0 _ rfl rfl (row_rd (l := k8.bl) (Xi.out.row 7 rfl)) RD.nil (by omega)).mono ?_
      rintro e wj ⟨rfl, hbj⟩
      have Xj := Lib.hid (Xi.out.next hbj)
      clear hbj Xi
      go_wp2_with fail
      refine (same_any Ad _ 8 cd 8 8 TX8 TX8 _ (Xj.out.rd 9 rfl) (Xj.out.rd 6 rfl) (by omega) (by omega)).mono ?_
      rintro e wk ⟨rfl, mk, hk⟩
      rw [show (TX8 == TX8) = true by decide]
      have Xk := Lib.hid (hk ▸ Xj.out.drewN mk)
      clear hk Xj
      have hB2 : BLOCK wk K2 32 (KNC kn0 Af 0 cf) := Xk.out.blk 12 rfl
      go_wp2_with (refine wpList_load_row_w 32 _ rfl (by rfl) K2 rfl 32 (KNC kn0 Af 0 cf) (0, 0) _ hB2 Try.underlying32 rfl (by kernel_rfl) ?_)
      clear hB2
      refine (equal8_any kn0 Af none 0 cf 0 0 _ rfl rfl (row_rd (l := kn0.bl) (Xk.out.row 11 rfl)) RD.nil (by omega)).mono ?_
      rintro e wl ⟨rfl, hbl⟩
      have Xl := Lib.hid ((Xk.out.next hbl).pick [] (by decide) (L' := []) rfl)
      clear hbl Xk
      obtain ⟨B0, hB0⟩ : ∃ N, N = wl.heap.size := ⟨_, rfl⟩
      have Xm := Lib.hid ((((Xl.out.allocI' .u8 5 (BX8 0) (by decide) hB0.symm).allocI' .u8 5 (BX8 1) (by decide) (N := B0 + 1) (by rw [World.size_alloc, hB0])).allocI' .u8 5 (BX8 2) (by decide) (N := B0 + 1 + 1) (by rw [World.size_alloc, World.size_alloc, hB0])).alloc' 22 #[.slice (some ⟨B0, 0, none⟩) 3 3, .slice (some ⟨B0 + 1, 0, none⟩) 4 4, .slice (some ⟨B0 + 1 + 1, 0, none⟩) 4 4] (N := B0 + 1 + 1 + 1) (by rw [World.size_alloc, World.size_alloc, World.size_alloc, hB0]))
      go_wp2_with fail
      rw [← hB0]
      change Code.wp _ _ _ _ ((((wl.alloc (.cells ((BX8 0).map (Value.int .u8)).toArray 5)).alloc (.cells ((BX8 1).map (Value.int .u8)).toArray 5)).alloc (.cells ((BX8 2).map (Value.int .u8)).toArray 5)).alloc (.cells #[.slice (some ⟨B0, 0, none⟩) 3 3, .slice (some ⟨B0 + 1, 0, none⟩) 4 4, .slice (some ⟨B0 + 1 + 1, 0, none⟩) 4 4] 22))
      have Xn := Lib.hid (show SP w ((((wl.alloc (.cells ((BX8 0).map (Value.int .u8)).toArray 5)).alloc (.cells ((BX8 1).map (Value.int .u8)).toArray 5)).alloc (.cells ((BX8 2).map (Value.int .u8)).toArray 5)).alloc (.cells #[.slice (some ⟨B0, 0, none⟩) 3 3, .slice (some ⟨B0 + 1, 0, none⟩) 4 4, .slice (some ⟨B0 + 1 + 1, 0, none⟩) 4 4] 22)) [.own .u8 5 (some ⟨B0, 0, none⟩) 3 3 (BX8 0), .own .u8 5 (some ⟨B0 + 1, 0, none⟩) 4 4 (BX8 1), .own .u8 5 (some ⟨B0 + 1 + 1, 0, none⟩) 4 4 (BX8 2), .blk (B0 + 1 + 1 + 1) 22 #[.slice (some ⟨B0, 0, none⟩) 3 3, .slice (some ⟨B0 + 1, 0, none⟩) 4 4, .slice (some ⟨B0 + 1 + 1, 0, none⟩) 4 4]] from Xm.out)
      generalize (((wl.alloc (.cells ((BX8 0).map (Value.int .u8)).toArray 5)).alloc (.cells ((BX8 1).map (Value.int .u8)).toArray 5)).alloc (.cells ((BX8 2).map (Value.int .u8)).toArray 5)).alloc (.cells #[.slice (some ⟨B0, 0, none⟩) 3 3, .slice (some ⟨B0 + 1, 0, none⟩) 4 4, .slice (some ⟨B0 + 1 + 1, 0, none⟩) 4 4] 22) = wm at Xn ⊢
      clear Xm Xl hB0
      unfold KNC
      go_loopw [141] (fun i wr => ∃ k : Nat, k ≤ 3 ∧ i = .int .i64 k ∧ SP w wr [.own .u8 5 (some ⟨B0, 0, none⟩) 3 3 (BX8 0), .own .u8 5 (some ⟨B0 + 1, 0, none⟩) 4 4 (BX8 1), .own .u8 5 (some ⟨B0 + 1 + 1, 0, none⟩) 4 4 (BX8 2), .blk (B0 + 1 + 1 + 1) 22 #[.slice (some ⟨B0, 0, none⟩) 3 3, .slice (some ⟨B0 + 1, 0, none⟩) 4 4, .slice (some ⟨B0 + 1 + 1, 0, none⟩) 4 4]]) (fun i _ => 3 - (intOf i).toNat)
      case atStart => exact ⟨0, by omega, rfl, Xn.out⟩
      case round =>
        obtain ⟨k, hk, rfl, hY⟩ := hrel
        have Y := Lib.hid hY
        clear hY Xn
        rcases (show k = 0 ∨ k = 1 ∨ k = 2 ∨ k = 3 by omega) with rfl | rfl | rfl | rfl
        · have x0 : wr.cell? ⟨B0 + 1 + 1 + 1, 0, none⟩ = some (.slice (some ⟨B0, 0, none⟩) 3 3) := Y.out.cell 3 rfl 0 rfl
          go_wp2_with fail
          refine (tcparse_any (some ⟨B0, 0, none⟩) 3 3 (BX8 0) _ (Y.out.rd 0 rfl) (BX8_bd 0) (by omega) (by simp [maxLen])).mono ?_
          rintro e wx ⟨Ax, nx, cx, hnx, rfl, Xp⟩
          have hE := BX8_E 0 (by omega)
          have hK : parseK (BX8 0) = knZ := by decide
          rw [hK] at hnx Xp ⊢
          rw [hE]
          have HX := Lib.hid (((Y.out.next Xp.bel).alloc 32 (KNC knZ Ax nx cx)).pick [0, 1, 2, 3] (by decide) (L' := [.own .u8 5 (some ⟨B0, 0, none⟩) 3 3 (BX8 0), .own .u8 5 (some ⟨B0 + 1, 0, none⟩) 4 4 (BX8 1), .own .u8 5 (some ⟨B0 + 1 + 1, 0, none⟩) 4 4 (BX8 2), .blk (B0 + 1 + 1 + 1) 22 #[.slice (some ⟨B0, 0, none⟩) 3 3, .slice (some ⟨B0 + 1, 0, none⟩) 4 4, .slice (some ⟨B0 + 1 + 1, 0, none⟩) 4 4]]) rfl)
          clear hnx Xp Y hE hK
          unfold KNC
          go_wp2_with fail
          go_roundw
          case rel => exact ⟨0 + 1, by omega, by go_num, HX.out⟩
          case measure => simp [intOf]
        · have x0 : wr.cell? ⟨B0 + 1 + 1 + 1, 1, none⟩ = some (.slice (some ⟨B0 + 1, 0, none⟩) 4 4) := Y.out.cell 3 rfl 1 rfl
          go_wp2_with fail
          refine (tcparse_any (some ⟨B0 + 1, 0, none⟩) 4 4 (BX8 1) _ (Y.out.rd 1 rfl) (BX8_bd 1) (by omega) (by simp [maxLen])).mono ?_
          rintro e wx ⟨Ax, nx, cx, hnx, rfl, Xp⟩
          have hE := BX8_E 1 (by omega)
          have hK : parseK (BX8 1) = knZ := by decide
          rw [hK] at hnx Xp ⊢
          rw [hE]
          have HX := Lib.hid (((Y.out.next Xp.bel).alloc 32 (KNC knZ Ax nx cx)).pick [0, 1, 2, 3] (by decide) (L' := [.own .u8 5 (some ⟨B0, 0, none⟩) 3 3 (BX8 0), .own .u8 5 (some ⟨B0 + 1, 0, none⟩) 4 4 (BX8 1), .own .u8 5 (some ⟨B0 + 1 + 1, 0, none⟩) 4 4 (BX8 2), .blk (B0 + 1 + 1 + 1) 22 #[.slice (some ⟨B0, 0, none⟩) 3 3, .slice (some ⟨B0 + 1, 0, none⟩) 4 4, .slice (some ⟨B0 + 1 + 1, 0, none⟩) 4 4]]) rfl)
          clear hnx Xp Y hE hK
          unfold KNC
          go_wp2_with fail
          go_roundw
          case rel => exact ⟨1 + 1, by omega, by go_num, HX.out⟩
          case measure => simp [intOf]
        · have x0 : wr.cell? ⟨B0 + 1 + 1 + 1, 2, none⟩ = some (.slice (some ⟨B0 + 1 + 1, 0, none⟩) 4 4) := Y.out.cell 3 rfl 2 rfl
          go_wp2_with fail
          refine (tcparse_any (some ⟨B0 + 1 + 1, 0, none⟩) 4 4 (BX8 2) _ (Y.out.rd 2 rfl) (BX8_bd 2) (by omega) (by simp [maxLen])).mono ?_
          rintro e wx ⟨Ax, nx, cx, hnx, rfl, Xp⟩
          have hE := BX8_E 2 (by omega)
          have hK : parseK (BX8 2) = knZ := by decide
          rw [hK] at hnx Xp ⊢
          rw [hE]
          have HX := Lib.hid (((Y.out.next Xp.bel).alloc 32 (KNC knZ Ax nx cx)).pick [0, 1, 2, 3] (by decide) (L' := [.own .u8 5 (some ⟨B0, 0, none⟩) 3 3 (BX8 0), .own .u8 5 (some ⟨B0 + 1, 0, none⟩) 4 4 (BX8 1), .own .u8 5 (some ⟨B0 + 1 + 1, 0, none⟩) 4 4 (BX8 2), .blk (B0 + 1 + 1 + 1) 22 #[.slice (some ⟨B0, 0, none⟩) 3 3, .slice (some ⟨B0 + 1, 0, none⟩) 4 4, .slice (some ⟨B0 + 1 + 1, 0, none⟩) 4 4]]) rfl)
          clear hnx Xp Y hE hK
          unfold KNC
          go_wp2_with fail
          go_roundw
          case rel => exact ⟨2 + 1, by omega, by go_num, HX.out⟩
          case measure => simp [intOf]
        · go_wp2_with fail
          go_ret
          exact ⟨rfl, Y.out.bel⟩
end Go.Proofs.Ythdpcblmmjocmaa
