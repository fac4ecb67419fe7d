import Derived.Test.YthdpcblmmjocmaaTcA
import Derived.Test.YthdpcblmmjocmaaWAwake8
/- The walk of TcpAgain. (Printed by gen_tcagain.py.) -/
namespace Go.Proofs.Ythdpcblmmjocmaa
open Go.RowKit
set_option linter.unusedVariables false
attribute [local go_sem ↓] Go.wp_at_zero Go.wp_at_succ

theorem put2_other (zs : List Int) (a i : Nat) (x y : Int) (h : i ≠ a) (h' : i ≠ a + 1) : (put2 zs a x y)[i]?.getD 0 = zs[i]?.getD 0 := by
  unfold put2
  rw [List.getElem?_set_ne (fun e => h' e.symm), List.getElem?_set_ne (fun e => h e.symm)]

set_option maxHeartbeats 8000000 in
set_option maxRecDepth 100000 in
theorem tcpAgain_walk (A : Option Addr) (n c : Nat) (zs : List Int) (s d : Int) (w : World) (h : ROW .u8 255 w A n c zs) (hs : 0 ≤ s ∧ s ≤ 4294967295) (hd : 0 ≤ d ∧ d ≤ 4294967295) :
    Calls Try.prog 8 #[.slice A n c, .int .u32 s, .int .u32 d] w fun e w' => e = .returned (.bool true) ∧ Below w.heap.size w w' := by
  obtain ⟨i0, hi, hz0, hz1, hz2⟩ := info_parts infoU8
  have HL := Lib.hid h.rd.len
  have hz := h.bd
  have hnc := h.le
  have R := Lib.hid (fun (W : World) (hb : Below w.heap.size w W) => (show RD .u8 W W.heap.size A n zs from (h.rd.below hb).more hb.size))
  clear h
  go_enter Try.func8, Try.ntmps8
  go_wp2_with fail
  refine (awake8_any _).mono ?_
  rintro e w1 ⟨rfl, hb1⟩
  have X1 := Lib.hid ((SP.start w).next hb1)
  clear hb1
  by_cases hbig : 300 < n
  · have t1 : (300 : Int) < (n : Int) := by omega
    go_wp2_with fail
    go_ret
    exact ⟨rfl, X1.out.bel⟩
  have t1 : ¬ (300 : Int) < (n : Int) := by omega
  go_wp2_with fail
  refine (tcread_any A n c zs _ (R.out _ X1.out.bel) hz hnc (by omega)).mono ?_
  rintro e w2 ⟨A2, n2, c2, rfl, own2, hb2⟩
  obtain ⟨M, hM⟩ : ∃ N, N = w2.heap.size := ⟨_, rfl⟩
  have X2 := Lib.hid ((X1.out.pushOwn hb2 own2).alloc' 28 ((tcHd zs).cells (.slice A2 n2 c2)) hM.symm)
  have hl2 := own2.len
  clear own2 hb2 X1
  unfold TH.cells
  go_upto_region 6 with fail
  rw [← hM]
  change Code.wp _ _ _ _ (w2.alloc (.cells ((tcHd zs).cells (.slice A2 n2 c2)) 28))
  generalize w2.alloc (.cells ((tcHd zs).cells (.slice A2 n2 c2)) 28) = w3 at X2 ⊢
  clear hM
  by_cases hE : tcE zs = 0
  case neg =>
    have te : (tcE zs != 0) = true := by simpa using hE
    have h1 : tcHd zs = th0 := by unfold tcHd; rw [if_neg hE]
    have h2 : tcTo zs = 0 := by unfold tcTo; rw [if_neg hE]
    have h3 : tcOp zs = [] := by unfold tcOp; rw [if_neg hE]
    rw [h1, h3] at X2
    rw [h2]
    rw [h1]
    rw [h3] at hl2
    have hn2 : n2 = 0 := by simpa using hl2.symm
    subst hn2
    have BM : BLOCK w3 M 28 (th0.cells (.slice A2 0 c2)) := X2.out.blk 1 rfl
    generalize tcE zs = er at te ⊢
    clear hE h1 h2 h3 hl2
    go_wp2_with (refine wpList_load_row_w 28 _ rfl (by rfl) M rfl 28 (th0.cells (.slice A2 0 c2)) (0, 0) _ BM Try.underlying28 rfl (by kernel_rfl) ?_)
    refine (same8_any th0 A2 none 0 c2 0 0 [] _ (X2.out.rd 0 rfl) RD.nil (by omega)).mono ?_
    rintro e w4 ⟨rfl, hb4⟩
    go_wp2_with fail
    go_ret
    exact ⟨rfl, (X2.out.next hb4).bel⟩
  have HH := Lib.hid (show tcHd zs = thOf zs by unfold tcHd; rw [if_pos hE])
  have HT := Lib.hid (show tcTo zs = tcN zs by unfold tcTo; rw [if_pos hE])
  obtain ⟨g1, g2, g3, _⟩ := tcE_ok hE
  rw [HL.out] at g1 g3
  have hN60 := tcN_le hz
  obtain ⟨hnw, cs, hcs, cs0, cs1, hpk, hv, hrv⟩ := again_law hz hE (by rw [HL.out]; omega) hs hd
  have hol : (tcOp zs).length = tcN zs - 20 := by unfold tcOp; rw [if_pos hE]; simp; have := HL.out; omega
  have hdl : (zs.drop (tcN zs)).length = n - tcN zs := by rw [List.length_drop, HL.out]
  have HTB := Lib.hid (show tB (thOf zs) (tcOp zs) s d (zs.drop (tcN zs)) = put2 zs 16 (cs / 256) (cs % 256) by unfold tB; rw [if_neg hnw, hpk])
  have HTE := Lib.hid (show tE (thOf zs) n2 (n - tcN zs) = 0 by unfold tE; rw [hol] at hnw; rw [hdl] at hnw; rw [← hl2, hol, if_neg hnw])
  have HV := Lib.hid hv
  have HRV := Lib.hid hrv
  have hwf : (thOf zs).WF := by have := tcHd_wf hz; rwa [HH.out] at this
  have HWF := Lib.hid hwf
  have HBO := Lib.hid (show BD 255 (tcOp zs) by unfold tcOp; rw [if_pos hE]; exact (hz.drop _).take _)
  have HE := Lib.hid hE
  have hn2 : n2 ≤ 40 := by omega
  rw [HH.out] at X2
  rw [HH.out, HT.out, HE.out]
  obtain ⟨hp0, hp1, hp2, hp3, hp4, hp5, hp6⟩ : True ∧ True ∧ True ∧ True ∧ True ∧ True ∧ True := ⟨trivial, trivial, trivial, trivial, trivial, trivial, trivial⟩
  obtain ⟨N, hN⟩ : ∃ N, tcN zs = N := ⟨_, rfl⟩
  rw [hN] at g2 g3 hN60 HTB HTE ⊢
  obtain ⟨hh, hhh⟩ : ∃ x, thOf zs = x := ⟨_, rfl⟩
  rw [hhh] at X2 HTB HTE HWF ⊢
  clear hE hnw hcs hpk hv hrv hol hdl hwf hl2 hN hhh
  have i1 : (N : Int) ≤ (n : Int) := by omega
  have sl := fun W => run_slice_lo (P := Try.prog) W Try.underlying22 hi hz1 A n c (N : Int) N rfl g3
  have RC := Lib.hid (fun (W : World) (hb : Below w.heap.size w W) => (R.out W hb).cutA (lo := N) (c := c) g3 hnc)
  have hdn : n - N ≤ 300 := by omega
  go_upto_region 8 with fail
  have X3 := Lib.hid X2.out.drew
  refine wp_region_noPanic ?_
  refine wp_region_held_drew (S := fun W => W.heap[M]? = some (.cells (hh.cells (.slice A2 n2 c2)) 28 (0, 0))) (by kernel_rfl) (by exact X3.out.blk 1 rfl) (fun hHeld => ?_)
  generalize w3.drew = v0 at X3 hHeld ⊢
  refine' take_lit (i := 0) (v := .agg ((hh.cells (.slice A2 n2 c2)))) rfl (by kernel_rfl) (by kernel_rfl) (by kernel_rfl) (fun _ _ _ h => h) (Or.inl ⟨by rfl, ?yy1⟩) (by assumption) ?rr1
  case yy1 => intro w' hSw; exact exec_load_row 28 _ rfl M rfl 28 ((hh.cells (.slice A2 n2 c2))) (0, 0) _ (hSw) Try.underlying28 rfl (by kernel_rfl)
  (try simp only [Act.put]); (try simp only [List.setIfInBounds_toArray, List.set_cons_zero, List.set_cons_succ])
  refine' take_lit (i := 1) (v := _) rfl (by kernel_rfl) (by kernel_rfl) (by kernel_rfl) (fun _ _ _ h => h) (Or.inl ⟨by rfl, ?yy2⟩) (by assumption) ?rr2
  case yy2 => intro w' hSw; (try dsimp only at hSw); go_simp; try (with_reducible rfl)
  (try simp only [Act.put]); (try simp only [List.setIfInBounds_toArray, List.set_cons_zero, List.set_cons_succ])
  refine' take_lit (i := 2) (v := _) rfl (by kernel_rfl) (by kernel_rfl) (by kernel_rfl) (fun _ _ _ h => h) (Or.inl ⟨by rfl, ?yy3⟩) (by assumption) ?rr3
  case yy3 => intro w' hSw; (try dsimp only at hSw); go_simp; try (with_reducible rfl)
  (try simp only [Act.put]); (try simp only [List.setIfInBounds_toArray, List.set_cons_zero, List.set_cons_succ])
  refine' take_lit (i := 3) (v := _) rfl (by kernel_rfl) (by kernel_rfl) (by kernel_rfl) (fun _ _ _ h => h) (Or.inl ⟨by rfl, ?yy4⟩) (by assumption) ?rr4
  case yy4 => intro w' hSw; (try dsimp only at hSw); go_simp; try (with_reducible rfl)
  (try simp only [Act.put]); (try simp only [List.setIfInBounds_toArray, List.set_cons_zero, List.set_cons_succ])
  refine' take_lit (i := 4) (v := _) rfl (by kernel_rfl) (by kernel_rfl) (by kernel_rfl) (fun _ _ _ h => h) (Or.inl ⟨by rfl, ?yy5⟩) (by assumption) ?rr5
  case yy5 => intro w' hSw; (try dsimp only at hSw); go_simp; try (with_reducible rfl)
  (try simp only [Act.put]); (try simp only [List.setIfInBounds_toArray, List.set_cons_zero, List.set_cons_succ])
  refine' take_lit (i := 5) (v := _) rfl (by kernel_rfl) (by kernel_rfl) (by kernel_rfl) (fun _ _ _ h => h) (Or.inl ⟨by rfl, ?yy6⟩) (by assumption) ?rr6
  case yy6 => intro w' hSw; (try dsimp only at hSw); go_simp; try (with_reducible rfl)
  (try simp only [Act.put]); (try simp only [List.setIfInBounds_toArray, List.set_cons_zero, List.set_cons_succ])
  refine wpAnyH_ready (rs := [6]) (by kernel_rfl) (by simp) ?_
  refine cons_lit rfl (fun K hK => ?ss6x7) AllReadyH.nil
  case ss6x7 =>
    go_simp
    refine (tcwrite_any hh HWF.out A2 n2 c2 (tcOp zs) s d (cutA A c N) (n - N) (c - N) (zs.drop N) _ (X3.out.rd 0 rfl) HBO.out (by omega) hs hd (RC.out _ X3.out.bel) (hz.drop _) (by omega)).mono ?_
    rintro e v1 ⟨A5, n5, c5, rfl, own5, hb5⟩
    rw [HTB.out] at own5
    rw [HTE.out]
    have hn5 : n = n5 := by have := own5.len; rw [put2_len, HL.out] at this; exact this
    subst hn5
    have X5 := Lib.hid (X3.out.pushOwn hb5 own5)
    clear own5 hb5
    refine hK.out _ _ (by exact X5.out.blk 1 rfl) (fun hHeld => ?_)
    clear hK K
    (try simp only [Act.put]); (try simp only [List.setIfInBounds_toArray, List.set_cons_zero, List.set_cons_succ])
    refine' take_lit (i := 7) (v := _) rfl (by kernel_rfl) (by kernel_rfl) (by kernel_rfl) (fun _ _ _ h => h) (Or.inl ⟨by rfl, ?yy8⟩) (by assumption) ?rr8
    case yy8 => intro w' hSw; (try dsimp only at hSw); go_simp; try (with_reducible rfl)
    (try simp only [Act.put]); (try simp only [List.setIfInBounds_toArray, List.set_cons_zero, List.set_cons_succ])
    refine' take_lit (i := 8) (v := _) rfl (by kernel_rfl) (by kernel_rfl) (by kernel_rfl) (fun _ _ _ h => h) (Or.inl ⟨by rfl, ?yy9⟩) (by assumption) ?rr9
    case yy9 => intro w' hSw; (try dsimp only at hSw); go_simp; try (with_reducible rfl)
    (try simp only [Act.put]); (try simp only [List.setIfInBounds_toArray, List.set_cons_zero, List.set_cons_succ])
    refine' take_lit (i := 9) (v := _) rfl (by kernel_rfl) (by kernel_rfl) (by kernel_rfl) (fun _ _ _ h => h) (Or.inl ⟨by rfl, ?yy10⟩) (by assumption) ?rr10
    case yy10 => intro w' hSw; (try dsimp only at hSw); go_simp; try (with_reducible rfl)
    (try simp only [Act.put]); (try simp only [List.setIfInBounds_toArray, List.set_cons_zero, List.set_cons_succ])
    refine' take_lit (i := 10) (v := _) rfl (by kernel_rfl) (by kernel_rfl) (by kernel_rfl) (fun _ _ _ h => h) (Or.inl ⟨by rfl, ?yy11⟩) (by assumption) ?rr11
    case yy11 => intro w' hSw; (try dsimp only at hSw); go_simp; try (with_reducible rfl)
    (try simp only [Act.put]); (try simp only [List.setIfInBounds_toArray, List.set_cons_zero, List.set_cons_succ])
    refine' take_lit (i := 11) (v := _) rfl (by kernel_rfl) (by kernel_rfl) (by kernel_rfl) (fun _ _ _ h => h) (Or.inl ⟨by rfl, ?yy12⟩) (by assumption) ?rr12
    case yy12 => intro w' hSw; (try dsimp only at hSw); go_simp; try (with_reducible rfl)
    (try simp only [Act.put]); (try simp only [List.setIfInBounds_toArray, List.set_cons_zero, List.set_cons_succ])
    refine wpAnyH_done (by kernel_rfl) ?_ _
    refine NoPanic.normal ?_
    clear X3 sl RC
    have hle5 := (X5.out.own 2 rfl).le
    obtain ⟨g, rfl, _⟩ := (X5.out.own 2 rfl).form (by omega)
    have HBP := Lib.hid (show BD 255 (put2 zs 16 (cs / 256) (cs % 256)) from put2_bd hz (by omega) (by omega))
    have tn : ((n : Int) != (n : Int)) = false := by simp
    go_wp2_with fail
    refine (tcverify_any (some ⟨g, 0, none⟩) n c5 _ s d _ (X5.out.rd 2 rfl) HBP.out (by omega) hs hd).mono ?_
    rintro e v2 ⟨rfl, hb2⟩
    rw [HV.out]
    have X6 := Lib.hid (X5.out.next hb2)
    clear hb2 X5
    go_wp2_with fail
    refine (tcverify_any A n c zs s d _ (R.out _ X6.out.bel) hz (by omega) hs hd).mono ?_
    rintro e v3 ⟨rfl, hb3⟩
    have X7 := Lib.hid (X6.out.next hb3)
    clear hb3 X6
    obtain ⟨rv, hrv⟩ : ∃ x, x = tV zs s d := ⟨_, rfl⟩
    rw [← hrv] at HRV ⊢
    clear hrv
    go_wp2_with fail
    obtain ⟨b, off, rfl, _⟩ := (R.out _ X7.out.bel).2 (by omega)
    have RX := Lib.hid (fun (W : World) (hb : Below w.heap.size w W) (i : Nat) (hi : i < n) => (show W.cell? ⟨b, off + i, none⟩ = some (.int .u8 (zs[i]?.getD 0)) by
      obtain ⟨b', off', e1, _, h1⟩ := (R.out W hb).2 (by omega)
      cases e1
      exact h1 i hi))
    go_loopw [67] (fun i wr => ∃ k : Nat, k ≤ n ∧ i = .int .i64 k ∧ SP w wr [.own .u8 5 (some ⟨g, 0, none⟩) n c5 (put2 zs 16 (cs / 256) (cs % 256))]) (fun i _ => n - (intOf i).toNat)
    case atStart => exact ⟨0, by omega, rfl, X7.out.pick [2] (by decide) rfl⟩
    case round =>
      obtain ⟨k, hk, rfl, hY⟩ := hrel
      have Y := Lib.hid hY
      clear hY X7
      by_cases hlt : k < n
      · have i2 : (k : Int) < (n : Int) := by omega
        have i3 : (0 : Int) ≤ (k : Int) := by omega
        by_cases h16 : k = 16
        · have q16 : ((k : Int) != 16) = false := by simp; omega
          clear h16
          go_wp2_with fail
          go_quiet (fail)
          go_wp2_with fail
          go_roundw
          case rel => exact ⟨k + 1, by omega, by go_num, Y.out.drewN nq⟩
          case measure => simp [intOf]; omega
        · by_cases h17 : k = 17
          · have q16 : ((k : Int) != 16) = true := by simp; omega
            have q17 : ((k : Int) != 17) = false := by simp; omega
            clear h16 h17
            go_wp2_with fail
            go_quiet (fail)
            go_wp2_with fail
            go_roundw
            case rel => exact ⟨k + 1, by omega, by go_num, Y.out.drewN nq⟩
            case measure => simp [intOf]; omega
          · have q16 : ((k : Int) != 16) = true := by simp; omega
            have q17 : ((k : Int) != 17) = true := by simp; omega
            have x1 := (Y.out.own 0 rfl).cell (i := k) hlt
            rw [put2_other zs 16 k _ _ h16 h17] at x1
            have x2 := RX.out _ Y.out.bel k hlt
            obtain ⟨z, hzk⟩ : ∃ z, zs[k]?.getD 0 = z := ⟨_, rfl⟩
            rw [hzk] at x1 x2
            have qz : (z != z) = false := by simp
            clear h16 h17 hzk
            go_wp2_with fail
            go_quiet (fail)
            go_wp2_with fail
            go_roundw
            case rel => exact ⟨k + 1, by omega, by go_num, Y.out.drewN nq⟩
            case measure => simp [intOf]; omega
      · have hkn : k = n := by omega
        subst hkn
        have i2 : ¬ (k : Int) < (k : Int) := by omega
        have o16 := (Y.out.own 0 rfl).cell (i := 16) (by omega)
        have o17 := (Y.out.own 0 rfl).cell (i := 17) (by omega)
        have e16 : (put2 zs 16 (cs / 256) (cs % 256))[16]?.getD 0 = cs / 256 := by
          unfold put2; rw [List.getElem?_set_ne (by omega), List.getElem?_set_self (by rw [HL.out]; omega)]; rfl
        have e17 : (put2 zs 16 (cs / 256) (cs % 256))[17]?.getD 0 = cs % 256 := by
          unfold put2; rw [List.getElem?_set_self (by rw [List.length_set, HL.out]; omega)]; rfl
        rw [e16] at o16
        rw [e17] at o17
        have y16 := RX.out _ Y.out.bel 16 (by omega)
        have y17 := RX.out _ Y.out.bel 17 (by omega)
        have FIN := Lib.hid (fun q => (Y.out.drewN q).bel)
        have hrr := HRV.out
        generalize zs[16]?.getD 0 = b16 at y16 hrr
        generalize zs[17]?.getD 0 = b17 at y17 hrr
        generalize cs / 256 = a16 at o16 hrr
        generalize cs % 256 = a17 at o17 hrr
        clear e16 e17 hlt hk Y RX HRV HBP HTB HV
        have HRR := Lib.hid hrr
        clear hrr
        have j16 : (16 : Int) < (k : Int) := by omega
        have j17 : (17 : Int) < (k : Int) := by omega
        by_cases h1 : a16 = b16
        · by_cases h2 : a17 = b17
          · by_cases k1 : a16 = 0
            · by_cases k2 : a17 = 0
              · by_cases k3 : b16 = 255
                · by_cases k4 : b17 = 255
                  · have p16 : (a16 == b16) = true := by simp [h1]
                    have p17 : (a17 == b17) = true := by simp [h2]
                    have r1 : (a16 == 0) = true := by simp [k1]
                    have r2 : (a17 == 0) = true := by simp [k2]
                    have r3 : (b16 == 255) = true := by simp [k3]
                    have r4 : (b17 == 255) = true := by simp [k4]
                    have HF := Lib.hid (show (rv == ((a16 == b16 && a17 == b17) || (a16 == 0 && a17 == 0 && b16 == 255 && b17 == 255))) = true by rw [HRR.out]; simp)
                    rw [p16, p17, r1, r2, r3, r4] at HF
                    clear h1 h2 k1 k2 k3 k4
                    go_wp2_with fail
                    go_quiet (fail)
                    go_wp2_with fail
                    go_ret
                    exact ⟨by rw [← HF.out]; simp, FIN.out nq⟩
                  · have p16 : (a16 == b16) = true := by simp [h1]
                    have p17 : (a17 == b17) = true := by simp [h2]
                    have r1 : (a16 == 0) = true := by simp [k1]
                    have r2 : (a17 == 0) = true := by simp [k2]
                    have r3 : (b16 == 255) = true := by simp [k3]
                    have r4 : (b17 == 255) = false := by simp [k4]
                    have HF := Lib.hid (show (rv == ((a16 == b16 && a17 == b17) || (a16 == 0 && a17 == 0 && b16 == 255 && b17 == 255))) = true by rw [HRR.out]; simp)
                    rw [p16, p17, r1, r2, r3, r4] at HF
                    clear h1 h2 k1 k2 k3 k4
                    go_wp2_with fail
                    go_quiet (fail)
                    go_wp2_with fail
                    go_ret
                    exact ⟨by rw [← HF.out]; simp, FIN.out nq⟩
                · have p16 : (a16 == b16) = true := by simp [h1]
                  have p17 : (a17 == b17) = true := by simp [h2]
                  have r1 : (a16 == 0) = true := by simp [k1]
                  have r2 : (a17 == 0) = true := by simp [k2]
                  have r3 : (b16 == 255) = false := by simp [k3]
                  have HF := Lib.hid (show (rv == ((a16 == b16 && a17 == b17) || (a16 == 0 && a17 == 0 && b16 == 255 && b17 == 255))) = true by rw [HRR.out]; simp)
                  rw [p16, p17, r1, r2, r3] at HF
                  clear h1 h2 k1 k2 k3
                  go_wp2_with fail
                  go_quiet (fail)
                  go_wp2_with fail
                  go_ret
                  exact ⟨by rw [← HF.out]; simp, FIN.out nq⟩
              · have p16 : (a16 == b16) = true := by simp [h1]
                have p17 : (a17 == b17) = true := by simp [h2]
                have r1 : (a16 == 0) = true := by simp [k1]
                have r2 : (a17 == 0) = false := by simp [k2]
                have HF := Lib.hid (show (rv == ((a16 == b16 && a17 == b17) || (a16 == 0 && a17 == 0 && b16 == 255 && b17 == 255))) = true by rw [HRR.out]; simp)
                rw [p16, p17, r1, r2] at HF
                clear h1 h2 k1 k2
                go_wp2_with fail
                go_quiet (fail)
                go_wp2_with fail
                go_ret
                exact ⟨by rw [← HF.out]; simp, FIN.out nq⟩
            · have p16 : (a16 == b16) = true := by simp [h1]
              have p17 : (a17 == b17) = true := by simp [h2]
              have r1 : (a16 == 0) = false := by simp [k1]
              have HF := Lib.hid (show (rv == ((a16 == b16 && a17 == b17) || (a16 == 0 && a17 == 0 && b16 == 255 && b17 == 255))) = true by rw [HRR.out]; simp)
              rw [p16, p17, r1] at HF
              clear h1 h2 k1
              go_wp2_with fail
              go_quiet (fail)
              go_wp2_with fail
              go_ret
              exact ⟨by rw [← HF.out]; simp, FIN.out nq⟩
          · by_cases k1 : a16 = 0
            · by_cases k2 : a17 = 0
              · by_cases k3 : b16 = 255
                · by_cases k4 : b17 = 255
                  · have p16 : (a16 == b16) = true := by simp [h1]
                    have p17 : (a17 == b17) = false := by simp [h2]
                    have r1 : (a16 == 0) = true := by simp [k1]
                    have r2 : (a17 == 0) = true := by simp [k2]
                    have r3 : (b16 == 255) = true := by simp [k3]
                    have r4 : (b17 == 255) = true := by simp [k4]
                    have HF := Lib.hid (show (rv == ((a16 == b16 && a17 == b17) || (a16 == 0 && a17 == 0 && b16 == 255 && b17 == 255))) = true by rw [HRR.out]; simp)
                    rw [p16, p17, r1, r2, r3, r4] at HF
                    clear h1 h2 k1 k2 k3 k4
                    go_wp2_with fail
                    go_quiet (fail)
                    go_wp2_with fail
                    go_ret
                    exact ⟨by rw [← HF.out]; simp, FIN.out nq⟩
                  · have p16 : (a16 == b16) = true := by simp [h1]
                    have p17 : (a17 == b17) = false := by simp [h2]
                    have r1 : (a16 == 0) = true := by simp [k1]
                    have r2 : (a17 == 0) = true := by simp [k2]
                    have r3 : (b16 == 255) = true := by simp [k3]
                    have r4 : (b17 == 255) = false := by simp [k4]
                    have HF := Lib.hid (show (rv == ((a16 == b16 && a17 == b17) || (a16 == 0 && a17 == 0 && b16 == 255 && b17 == 255))) = true by rw [HRR.out]; simp)
                    rw [p16, p17, r1, r2, r3, r4] at HF
                    clear h1 h2 k1 k2 k3 k4
                    go_wp2_with fail
                    go_quiet (fail)
                    go_wp2_with fail
                    go_ret
                    exact ⟨by rw [← HF.out]; simp, FIN.out nq⟩
                · have p16 : (a16 == b16) = true := by simp [h1]
                  have p17 : (a17 == b17) = false := by simp [h2]
                  have r1 : (a16 == 0) = true := by simp [k1]
                  have r2 : (a17 == 0) = true := by simp [k2]
                  have r3 : (b16 == 255) = false := by simp [k3]
                  have HF := Lib.hid (show (rv == ((a16 == b16 && a17 == b17) || (a16 == 0 && a17 == 0 && b16 == 255 && b17 == 255))) = true by rw [HRR.out]; simp)
                  rw [p16, p17, r1, r2, r3] at HF
                  clear h1 h2 k1 k2 k3
                  go_wp2_with fail
                  go_quiet (fail)
                  go_wp2_with fail
                  go_ret
                  exact ⟨by rw [← HF.out]; simp, FIN.out nq⟩
              · have p16 : (a16 == b16) = true := by simp [h1]
                have p17 : (a17 == b17) = false := by simp [h2]
                have r1 : (a16 == 0) = true := by simp [k1]
                have r2 : (a17 == 0) = false := by simp [k2]
                have HF := Lib.hid (show (rv == ((a16 == b16 && a17 == b17) || (a16 == 0 && a17 == 0 && b16 == 255 && b17 == 255))) = true by rw [HRR.out]; simp)
                rw [p16, p17, r1, r2] at HF
                clear h1 h2 k1 k2
                go_wp2_with fail
                go_quiet (fail)
                go_wp2_with fail
                go_ret
                exact ⟨by rw [← HF.out]; simp, FIN.out nq⟩
            · have p16 : (a16 == b16) = true := by simp [h1]
              have p17 : (a17 == b17) = false := by simp [h2]
              have r1 : (a16 == 0) = false := by simp [k1]
              have HF := Lib.hid (show (rv == ((a16 == b16 && a17 == b17) || (a16 == 0 && a17 == 0 && b16 == 255 && b17 == 255))) = true by rw [HRR.out]; simp)
              rw [p16, p17, r1] at HF
              clear h1 h2 k1
              go_wp2_with fail
              go_quiet (fail)
              go_wp2_with fail
              go_ret
              exact ⟨by rw [← HF.out]; simp, FIN.out nq⟩
        · by_cases k1 : a16 = 0
          · by_cases k2 : a17 = 0
            · by_cases k3 : b16 = 255
              · by_cases k4 : b17 = 255
                · have p16 : (a16 == b16) = false := by simp [h1]
                  have r1 : (a16 == 0) = true := by simp [k1]
                  have r2 : (a17 == 0) = true := by simp [k2]
                  have r3 : (b16 == 255) = true := by simp [k3]
                  have r4 : (b17 == 255) = true := by simp [k4]
                  have HF := Lib.hid (show (rv == ((a16 == b16 && a17 == b17) || (a16 == 0 && a17 == 0 && b16 == 255 && b17 == 255))) = true by rw [HRR.out]; simp)
                  rw [p16, r1, r2, r3, r4] at HF
                  clear h1 k1 k2 k3 k4
                  go_wp2_with fail
                  go_quiet (fail)
                  go_wp2_with fail
                  go_ret
                  exact ⟨by rw [← HF.out]; simp, FIN.out nq⟩
                · have p16 : (a16 == b16) = false := by simp [h1]
                  have r1 : (a16 == 0) = true := by simp [k1]
                  have r2 : (a17 == 0) = true := by simp [k2]
                  have r3 : (b16 == 255) = true := by simp [k3]
                  have r4 : (b17 == 255) = false := by simp [k4]
                  have HF := Lib.hid (show (rv == ((a16 == b16 && a17 == b17) || (a16 == 0 && a17 == 0 && b16 == 255 && b17 == 255))) = true by rw [HRR.out]; simp)
                  rw [p16, r1, r2, r3, r4] at HF
                  clear h1 k1 k2 k3 k4
                  go_wp2_with fail
                  go_quiet (fail)
                  go_wp2_with fail
                  go_ret
                  exact ⟨by rw [← HF.out]; simp, FIN.out nq⟩
              · have p16 : (a16 == b16) = false := by simp [h1]
                have r1 : (a16 == 0) = true := by simp [k1]
                have r2 : (a17 == 0) = true := by simp [k2]
                have r3 : (b16 == 255) = false := by simp [k3]
                have HF := Lib.hid (show (rv == ((a16 == b16 && a17 == b17) || (a16 == 0 && a17 == 0 && b16 == 255 && b17 == 255))) = true by rw [HRR.out]; simp)
                rw [p16, r1, r2, r3] at HF
                clear h1 k1 k2 k3
                go_wp2_with fail
                go_quiet (fail)
                go_wp2_with fail
                go_ret
                exact ⟨by rw [← HF.out]; simp, FIN.out nq⟩
            · have p16 : (a16 == b16) = false := by simp [h1]
              have r1 : (a16 == 0) = true := by simp [k1]
              have r2 : (a17 == 0) = false := by simp [k2]
              have HF := Lib.hid (show (rv == ((a16 == b16 && a17 == b17) || (a16 == 0 && a17 == 0 && b16 == 255 && b17 == 255))) = true by rw [HRR.out]; simp)
              rw [p16, r1, r2] at HF
              clear h1 k1 k2
              go_wp2_with fail
              go_quiet (fail)
              go_wp2_with fail
              go_ret
              exact ⟨by rw [← HF.out]; simp, FIN.out nq⟩
          · have p16 : (a16 == b16) = false := by simp [h1]
            have r1 : (a16 == 0) = false := by simp [k1]
            have HF := Lib.hid (show (rv == ((a16 == b16 && a17 == b17) || (a16 == 0 && a17 == 0 && b16 == 255 && b17 == 255))) = true by rw [HRR.out]; simp)
            rw [p16, r1] at HF
            clear h1 k1
            go_wp2_with fail
            go_quiet (fail)
            go_wp2_with fail
            go_ret
            exact ⟨by rw [← HF.out]; simp, FIN.out nq⟩
end Go.Proofs.Ythdpcblmmjocmaa
