/- The reference of chapter 10: Quote. (Printed by gen_ref10q.py.) -/
import Derived.Test.YtjbkfhdbgphodaaDoorWRef10
namespace Go.Proofs.YtjbkfhdbgphodaaDoor
open Go.RowKit
set_option linter.unusedVariables false
attribute [local go_sem ↓] Go.wp_at_zero Go.wp_at_succ

theorem q_short {zs : List Int} (h : zs.length < 28) : qBad zs = true := by
  unfold qBad
  rcases h1 : qF1 zs with _ | _
  · have : qF2 zs = true := by
      unfold qF2
      simp; omega
    rw [this]; rfl
  · rfl
theorem q_ver {zs : List Int} (h : zs[0]?.getD 0 / 16 ≠ 4) : qBad zs = true := by
  unfold qBad qF1
  rw [decide_eq_true (.inr h)]; rfl
theorem q_size {zs : List Int} (h : qH zs < 20 ∨ zs.length < qH zs + 8) : qBad zs = true := by
  unfold qBad qF2
  rw [decide_eq_true h]; simp
theorem q_sum {zs : List Int} (h : sumOf (zs.take (qH zs)) ≠ 65535 ∨ wordAt zs 2 < (qH zs : Int) + 8) : qBad zs = true := by
  unfold qBad qF3
  rw [decide_eq_true h]; simp
theorem q_flags {zs : List Int} (h : 32768 ≤ wordAt zs 6 ∨ wordAt zs 6 % 8192 ≠ 0) : qBad zs = true := by
  unfold qBad qF4
  rw [decide_eq_true h]; simp
theorem q_good {zs : List Int} (h1 : 20 ≤ zs.length) (h2 : zs[0]?.getD 0 / 16 = 4) (h3 : 20 ≤ qH zs ∧ qH zs + 8 ≤ zs.length) (h4 : sumOf (zs.take (qH zs)) = 65535 ∧ (qH zs : Int) + 8 ≤ wordAt zs 2) (h5 : wordAt zs 6 < 32768 ∧ wordAt zs 6 % 8192 = 0) : qBad zs = false := by
  unfold qBad qF1 qF2 qF3 qF4
  rw [decide_eq_false (by omega), decide_eq_false (by omega), decide_eq_false (by omega), decide_eq_false (by omega)]; rfl

set_option maxHeartbeats 16000000 in
set_option maxRecDepth 100000 in
theorem r10Quote_any (A : Option Addr) (n c : Nat) (zs : List Int) (w : World) (h : RD .u8 w w.heap.size A n zs) (hz : BD 255 zs) (hn : n ≤ c) (hc : n ≤ 140737488351232) :
    Calls Tryd.prog 37 #[.slice A n c] w (QRes zs w) := by
  have HL := Lib.hid h.len
  have R := Lib.hid (fun (W : World) (hb : Below w.heap.size w W) => (show RD .u8 W W.heap.size A n zs from (h.below hb).more hb.size))
  have X0 := Lib.hid ((SP.start w).alloc 55 key0)
  clear h
  go_enter Tryd.func37, Tryd.ntmps37
  go_upto_region 1 with fail
  rw [show w.alloc (.cells #[.int .u8 0, .int .u32 0, .int .u32 0, .int .u16 0, .int .u16 0] 55) = w.alloc (.cells key0 55) from rfl]
  generalize w.alloc (.cells key0 55) = w1 at X0 ⊢
  obtain ⟨N, hN⟩ : ∃ N, N = w.heap.size := ⟨_, rfl⟩
  rw [← hN] at X0 ⊢
  have HN := Lib.hid hN
  clear hN
  by_cases h28 : n < 28
  · have i28 : (n : Int) < 28 := by omega
    have HB := Lib.hid (q_bad (q_short (zs := zs) (by rw [HL.out]; exact h28)))
    have T := Lib.hid (X0.out.setR 0 rfl key0)
    go_wp2_with (refine wpList_store_row rfl 55 _ _ rfl N key0 rfl rfl 55 key0 (X0.out.blk 0 rfl) (by kernel_rfl) rfl (key5_one 0 0 0 0 0) ?_)
    refine bodyPost_ret (results_cell_tmp2' rfl _ _ N 55 key0 _ _ rfl (T.out.blk 0 rfl) Tryd.underlying55 rfl (by kernel_rfl)) rfl ?_
    exact QRes.mk HB.out T.out.bel
  · have i28 : ¬ (n : Int) < 28 := by omega
    obtain ⟨b, off, rfl, hb, hcell⟩ := (R.out w (Below.refl _ _)).2 (by omega)
    have HX := Lib.hid (fun (i : Nat) (hi : i < n) (W : World) (hb' : Below w.heap.size w W) => (show W.cell? ⟨b, off + i, none⟩ = some (.int .u8 (zs[i]?.getD 0)) from (hb'.cell (p := ⟨b, off + i, none⟩) hb).trans (hcell i hi)))
    clear hcell
    have y0 : w1.cell? ⟨b, off, none⟩ = some (.int .u8 (zs[0]?.getD 0)) := HX.out 0 (by omega) _ X0.out.bel
    obtain ⟨a0, a1⟩ := hz.get (by omega) 0
    obtain ⟨u, hu⟩ : ∃ u, u = zs[0]?.getD 0 := ⟨_, rfl⟩
    have HU := Lib.hid hu
    rw [← hu] at y0 a0 a1
    clear hu
    have i0 : (0 : Int) < (n : Int) := by omega
    have k1 : u.tdiv 16 = u / 16 := Int.tdiv_eq_ediv_of_nonneg a0
    by_cases hv : u / 16 = 4
    · have t1 : (u / 16 != 4) = false := by rw [hv]; rfl
      have HV := Lib.hid hv
      have hq : (qH zs : Int) = 4 * (u % 16) := by unfold qH; rw [← HU.out]; omega
      have hq' : (u % 16) * 4 = (qH zs : Int) := by omega
      have e2 : IntKind.i64.wrap (u % 16) = u % 16 := IntWalk.i64_in _ (by omega)
      have e3 : IntKind.i64.wrap ((u % 16) * 4) = (qH zs : Int) := by rw [hq']; exact IntWalk.i64_in _ (by omega)
      have hle : qH zs ≤ 60 := by omega
      obtain ⟨q, hqq⟩ : ∃ q, q = qH zs := ⟨_, rfl⟩
      have HQ := Lib.hid hqq
      rw [← hqq] at hle e3
      clear hq hq' hv hqq
      go_upto_region 4 with fail
      clear y0 e2 e3 t1 k1
      by_cases hs : q < 20
      · have t1 : decide ((q : Int) < 20) = true := by simp; omega
        have HB := Lib.hid (q_bad (q_size (zs := zs) (.inl (by rw [← HQ.out]; exact hs))))
        clear hs
        have T := Lib.hid (X0.out.setR 0 rfl key0)
        go_wp2_with (refine wpList_store_row rfl 55 _ _ rfl N key0 rfl rfl 55 key0 (X0.out.blk 0 rfl) (by kernel_rfl) rfl (key5_one 0 0 0 0 0) ?_)
        refine bodyPost_ret (results_cell_tmp2' rfl _ _ N 55 key0 _ _ rfl (T.out.blk 0 rfl) Tryd.underlying55 rfl (by kernel_rfl)) rfl ?_
        exact QRes.mk HB.out T.out.bel
      · have t1 : decide ((q : Int) < 20) = false := by simp; omega
        have e4 : IntKind.i64.wrap ((q : Int) + 8) = (q : Int) + 8 := IntWalk.i64_in _ (by omega)
        by_cases hs2 : n < q + 8
        · have t2 : decide ((n : Int) < (q : Int) + 8) = true := by simp; omega
          have HB := Lib.hid (q_bad (q_size (zs := zs) (.inr (by rw [← HQ.out, HL.out]; exact hs2))))
          clear hs hs2
          have T := Lib.hid (X0.out.setR 0 rfl key0)
          go_wp2_with (refine wpList_store_row rfl 55 _ _ rfl N key0 rfl rfl 55 key0 (X0.out.blk 0 rfl) (by kernel_rfl) rfl (key5_one 0 0 0 0 0) ?_)
          refine bodyPost_ret (results_cell_tmp2' rfl _ _ N 55 key0 _ _ rfl (T.out.blk 0 rfl) Tryd.underlying55 rfl (by kernel_rfl)) rfl ?_
          exact QRes.mk HB.out T.out.bel
        · have t2 : decide ((n : Int) < (q : Int) + 8) = false := by simp; omega
          have i1 : (0 : Int) ≤ (q : Int) := by omega
          have i2 : (q : Int) ≤ (c : Int) := by omega
          go_wp2_with fail
          refine (rSum_any (some ⟨b, off, none⟩) q c (zs.take q) _ ((R.out _ X0.out.bel).take (by omega)) (hz.take _) (by omega)).mono ?_
          rintro e w2 ⟨rfl, rfl⟩
          obtain ⟨sm, hsm⟩ : ∃ sm, sm = sumOf (zs.take q) := ⟨_, rfl⟩
          rw [← hsm]
          have HSM := Lib.hid hsm
          clear hsm
          by_cases h5 : sm = 65535
          · have t3 : (sm != 65535) = false := by simp [h5]
            have H5 := Lib.hid h5
            clear h5
            go_wp2_with fail
            refine (r10at_any (some ⟨b, off, none⟩) n c zs 2 2 _ (R.out _ X0.out.bel) hz (by omega) rfl (by omega)).mono ?_
            rintro e w3 ⟨rfl, mw3, hw3⟩
            have X1 := Lib.hid (hw3 ▸ X0.out.drewN mw3)
            clear hw3
            obtain ⟨c1, c2⟩ := wordAt_bd hz 2
            obtain ⟨tot, htot⟩ : ∃ tot, tot = wordAt zs 2 := ⟨_, rfl⟩
            have HT := Lib.hid htot
            rw [← htot] at c1 c2 ⊢
            clear htot t1 t2
            by_cases h6 : tot < (q : Int) + 8
            · have HB := Lib.hid (q_bad (q_sum (zs := zs) (.inr (by rw [← HQ.out, ← HT.out]; exact h6))))
              have T := Lib.hid (X1.out.setR 0 rfl key0)
              go_wp2_with (refine wpList_store_row rfl 55 _ _ rfl N key0 rfl rfl 55 key0 (X1.out.blk 0 rfl) (by kernel_rfl) rfl (key5_one 0 0 0 0 0) ?_)
              refine bodyPost_ret (results_cell_tmp2' rfl _ _ N 55 key0 _ _ rfl (T.out.blk 0 rfl) Tryd.underlying55 rfl (by kernel_rfl)) rfl ?_
              exact QRes.mk HB.out T.out.bel
            · go_wp2_with fail
              refine (r10at_any (some ⟨b, off, none⟩) n c zs 6 6 _ (R.out _ X1.out.bel) hz (by omega) rfl (by omega)).mono ?_
              rintro e w4 ⟨rfl, mw4, hw4⟩
              have X2 := Lib.hid (hw4 ▸ X1.out.drewN mw4)
              clear hw4
              obtain ⟨d1, d2⟩ := wordAt_bd hz 6
              obtain ⟨fl, hfl⟩ : ∃ fl, fl = wordAt zs 6 := ⟨_, rfl⟩
              have HF := Lib.hid hfl
              rw [← hfl] at d1 d2 ⊢
              clear hfl X0 X1
              have H6 := Lib.hid h6
              clear h6 e4 t3
              by_cases h7 : 32768 ≤ fl
              · have t4 : decide ((32768 : Int) ≤ fl) = true := by simp; omega
                have HB := Lib.hid (q_bad (q_flags (zs := zs) (.inl (by rw [← HF.out]; exact h7))))
                clear h7
                have T := Lib.hid (X2.out.setR 0 rfl key0)
                go_wp2_with (refine wpList_store_row rfl 55 _ _ rfl N key0 rfl rfl 55 key0 (X2.out.blk 0 rfl) (by kernel_rfl) rfl (key5_one 0 0 0 0 0) ?_)
                refine bodyPost_ret (results_cell_tmp2' rfl _ _ N 55 key0 _ _ rfl (T.out.blk 0 rfl) Tryd.underlying55 rfl (by kernel_rfl)) rfl ?_
                exact QRes.mk HB.out T.out.bel
              · have t4 : decide ((32768 : Int) ≤ fl) = false := by simp; omega
                by_cases h8 : fl % 8192 = 0
                · have t5 : (fl % 8192 != 0) = false := by simp [h8]
                  have HG := Lib.hid (q_good (zs := zs) (by rw [HL.out]; omega) (by rw [← HU.out]; exact HV.out) (by rw [← HQ.out, HL.out]; omega) (by rw [← HQ.out, ← HT.out, ← HSM.out]; exact ⟨H5.out, by have := H6.out; omega⟩) (by rw [← HF.out]; omega))
                  clear h7 h8
                  obtain ⟨p0, p1⟩ : 0 ≤ qP zs ∧ qP zs ≤ 255 := hz.get (by omega) 9
                  have i9 : (9 : Int) < (n : Int) := by omega
                  have j9 : 9 < n := by omega
                  go_upto_region 9 with fail
                  clear t4 t5
                  obtain ⟨a12, b12⟩ := wordAt_bd hz 12
                  obtain ⟨a14, b14⟩ := wordAt_bd hz 14
                  obtain ⟨a16, b16⟩ := wordAt_bd hz 16
                  obtain ⟨a18, b18⟩ := wordAt_bd hz 18
                  have e12 : IntKind.i64.wrap (wordAt zs 12 * 65536) = wordAt zs 12 * 65536 := IntWalk.i64_in _ (by omega)
                  have f12 : IntKind.i64.wrap (wordAt zs 12 * 65536 + wordAt zs 14) = wordAt zs 12 * 65536 + wordAt zs 14 := IntWalk.i64_in _ (by omega)
                  have g12 : IntKind.u32.wrap (wordAt zs 12 * 65536 + wordAt zs 14) = wordAt zs 12 * 65536 + wordAt zs 14 := u32_in _ (by omega) (by omega)
                  have e16 : IntKind.i64.wrap (wordAt zs 16 * 65536) = wordAt zs 16 * 65536 := IntWalk.i64_in _ (by omega)
                  have f16 : IntKind.i64.wrap (wordAt zs 16 * 65536 + wordAt zs 18) = wordAt zs 16 * 65536 + wordAt zs 18 := IntWalk.i64_in _ (by omega)
                  have g16 : IntKind.u32.wrap (wordAt zs 16 * 65536 + wordAt zs 18) = wordAt zs 16 * 65536 + wordAt zs 18 := u32_in _ (by omega) (by omega)
                  go_cut [7] (fun s7 wx => ∃ M : Nat, s7 = .pointer (some ⟨M, 0, none⟩) ∧ SP w wx [.blk N 55 key0, .blk M 55 (key5 (qP zs) (qS zs) (qD zs) 0 0)])
                  case first =>
                    have Y0 := Lib.hid X2.out.drew
                    refine wp_region_noPanic ?_
                    refine wp_region_held_drew (S := fun W => W.cell? ⟨b, off + 9, none⟩ = some (.int .u8 (qP zs))) (by kernel_rfl) (by exact HX.out 9 (by omega) _ Y0.out.bel) (fun hHeld => ?_)
                    refine' take_lit (i := 0) (v := _) rfl (by kernel_rfl) (by kernel_rfl) (by kernel_rfl) (fun _ _ _ h => h) (Or.inl ⟨by rfl, ?yy1⟩) (by assumption) ?rr1
                    case yy1 => intro w' hSw; (try dsimp only at hSw); go_simp; try (with_reducible rfl)
                    (try simp only [Act.put]); (try simp only [List.setIfInBounds_toArray, List.set_cons_zero, List.set_cons_succ])
                    refine' take_lit (i := 1) (v := _) rfl (by kernel_rfl) (by kernel_rfl) (by kernel_rfl) (fun _ _ _ h => h) (Or.inl ⟨by rfl, ?yy2⟩) (by assumption) ?rr2
                    case yy2 => intro w' hSw; (try dsimp only at hSw); go_simp; try (with_reducible rfl)
                    (try simp only [Act.put]); (try simp only [List.setIfInBounds_toArray, List.set_cons_zero, List.set_cons_succ])
                    refine' take_lit (i := 2) (v := _) rfl (by kernel_rfl) (by kernel_rfl) (by kernel_rfl) (fun _ _ _ h => h) (Or.inl ⟨by rfl, ?yy3⟩) (by assumption) ?rr3
                    case yy3 => intro w' hSw; (try dsimp only at hSw); go_simp; try (with_reducible rfl)
                    (try simp only [Act.put]); (try simp only [List.setIfInBounds_toArray, List.set_cons_zero, List.set_cons_succ])
                    refine' take_lit (i := 3) (v := _) rfl (by kernel_rfl) (by kernel_rfl) (by kernel_rfl) (fun _ _ _ h => h) (Or.inl ⟨by rfl, ?yy4⟩) (by assumption) ?rr4
                    case yy4 => intro w' hSw; (try dsimp only at hSw); go_simp; try (with_reducible rfl)
                    (try simp only [Act.put]); (try simp only [List.setIfInBounds_toArray, List.set_cons_zero, List.set_cons_succ])
                    refine' take_lit (i := 6) (v := _) rfl (by kernel_rfl) (by kernel_rfl) (by kernel_rfl) (fun _ _ _ h => h) (Or.inl ⟨by rfl, ?yy5⟩) (by assumption) ?rr5
                    case yy5 => intro w' hSw; (try dsimp only at hSw); go_simp; try (with_reducible rfl)
                    (try simp only [Act.put]); (try simp only [List.setIfInBounds_toArray, List.set_cons_zero, List.set_cons_succ])
                    refine' take_lit (i := 10) (v := _) rfl (by kernel_rfl) (by kernel_rfl) (by kernel_rfl) (fun _ _ _ h => h) (Or.inl ⟨by rfl, ?yy6⟩) (by assumption) ?rr6
                    case yy6 => intro w' hSw; (try dsimp only at hSw); go_simp; try (with_reducible rfl)
                    (try simp only [Act.put]); (try simp only [List.setIfInBounds_toArray, List.set_cons_zero, List.set_cons_succ])
                    refine' take_lit (i := 13) (v := _) rfl (by kernel_rfl) (by kernel_rfl) (by kernel_rfl) (fun _ _ _ h => h) (Or.inl ⟨by rfl, ?yy7⟩) (by assumption) ?rr7
                    case yy7 => intro w' hSw; (try dsimp only at hSw); go_simp; try (with_reducible rfl)
                    (try simp only [Act.put]); (try simp only [List.setIfInBounds_toArray, List.set_cons_zero, List.set_cons_succ])
                    refine wpAnyH_ready (rs := [4, 18]) (by kernel_rfl) (by simp) ?_
                    refine cons_lit rfl (fun K hK => ?ss4x8) (cons_lit rfl (fun K hK => ?ss18x8) AllReadyH.nil)
                    case ss4x8 =>
                      go_simp
                      refine (r10at_any (some ⟨b, off, none⟩) n c zs 12 12 _ (R.out _ Y0.out.bel) hz (by omega) rfl (by omega)).mono ?_
                      rintro e v2 ⟨rfl, mv2, hv2⟩
                      have X1x := Lib.hid (hv2 ▸ Y0.out.drewN mv2)
                      clear hv2
                      refine hK.out _ _ (by exact HX.out 9 (by omega) _ X1x.out.bel) (fun hHeld => ?_)
                      clear hK K
                      (try simp only [Act.put]); (try simp only [List.setIfInBounds_toArray, List.set_cons_zero, List.set_cons_succ])
                      refine' take_lit (i := 5) (v := _) rfl (by kernel_rfl) (by kernel_rfl) (by kernel_rfl) (fun _ _ _ h => h) (Or.inl ⟨by rfl, ?yy9⟩) (by assumption) ?rr9
                      case yy9 => intro w' hSw; (try dsimp only at hSw); go_simp; try (with_reducible rfl)
                      (try simp only [Act.put]); (try simp only [List.setIfInBounds_toArray, List.set_cons_zero, List.set_cons_succ])
                      refine wpAnyH_ready (rs := [7, 18]) (by kernel_rfl) (by simp) ?_
                      refine cons_lit rfl (fun K hK => ?ss7x10) (cons_lit rfl (fun K hK => ?ss18x10) AllReadyH.nil)
                      case ss7x10 =>
                        go_simp
                        refine (r10at_any (some ⟨b, off, none⟩) n c zs 14 14 _ (R.out _ X1x.out.bel) hz (by omega) rfl (by omega)).mono ?_
                        rintro e v4 ⟨rfl, mv4, hv4⟩
                        have X3x := Lib.hid (hv4 ▸ X1x.out.drewN mv4)
                        clear hv4
                        refine hK.out _ _ (by exact HX.out 9 (by omega) _ X3x.out.bel) (fun hHeld => ?_)
                        clear hK K
                        (try simp only [Act.put]); (try simp only [List.setIfInBounds_toArray, List.set_cons_zero, List.set_cons_succ])
                        refine' take_lit (i := 8) (v := _) rfl (by kernel_rfl) (by kernel_rfl) (by kernel_rfl) (fun _ _ _ h => h) (Or.inl ⟨by rfl, ?yy11⟩) (by assumption) ?rr11
                        case yy11 => intro w' hSw; (try dsimp only at hSw); go_simp; try (with_reducible rfl)
                        (try simp only [Act.put]); (try simp only [List.setIfInBounds_toArray, List.set_cons_zero, List.set_cons_succ])
                        refine' take_lit (i := 9) (v := _) rfl (by kernel_rfl) (by kernel_rfl) (by kernel_rfl) (fun _ _ _ h => h) (Or.inl ⟨by rfl, ?yy12⟩) (by assumption) ?rr12
                        case yy12 => intro w' hSw; (try dsimp only at hSw); go_simp; try (with_reducible rfl)
                        (try simp only [Act.put]); (try simp only [List.setIfInBounds_toArray, List.set_cons_zero, List.set_cons_succ])
                        refine wpAnyH_ready (rs := [11, 18]) (by kernel_rfl) (by simp) ?_
                        refine cons_lit rfl (fun K hK => ?ss11x13) (cons_lit rfl (fun K hK => ?ss18x13) AllReadyH.nil)
                        case ss11x13 =>
                          go_simp
                          refine (r10at_any (some ⟨b, off, none⟩) n c zs 16 16 _ (R.out _ X3x.out.bel) hz (by omega) rfl (by omega)).mono ?_
                          rintro e v6 ⟨rfl, mv6, hv6⟩
                          have X5x := Lib.hid (hv6 ▸ X3x.out.drewN mv6)
                          clear hv6
                          refine hK.out _ _ (by exact HX.out 9 (by omega) _ X5x.out.bel) (fun hHeld => ?_)
                          clear hK K
                          (try simp only [Act.put]); (try simp only [List.setIfInBounds_toArray, List.set_cons_zero, List.set_cons_succ])
                          refine' take_lit (i := 12) (v := _) rfl (by kernel_rfl) (by kernel_rfl) (by kernel_rfl) (fun _ _ _ h => h) (Or.inl ⟨by rfl, ?yy14⟩) (by assumption) ?rr14
                          case yy14 => intro w' hSw; (try dsimp only at hSw); go_simp; try (with_reducible rfl)
                          (try simp only [Act.put]); (try simp only [List.setIfInBounds_toArray, List.set_cons_zero, List.set_cons_succ])
                          refine wpAnyH_ready (rs := [14, 18]) (by kernel_rfl) (by simp) ?_
                          refine cons_lit rfl (fun K hK => ?ss14x15) (cons_lit rfl (fun K hK => ?ss18x15) AllReadyH.nil)
                          case ss14x15 =>
                            go_simp
                            refine (r10at_any (some ⟨b, off, none⟩) n c zs 18 18 _ (R.out _ X5x.out.bel) hz (by omega) rfl (by omega)).mono ?_
                            rintro e v8 ⟨rfl, mv8, hv8⟩
                            have X7x := Lib.hid (hv8 ▸ X5x.out.drewN mv8)
                            clear hv8
                            refine hK.out _ _ (by exact HX.out 9 (by omega) _ X7x.out.bel) (fun hHeld => ?_)
                            clear hK K
                            (try simp only [Act.put]); (try simp only [List.setIfInBounds_toArray, List.set_cons_zero, List.set_cons_succ])
                            refine' take_lit (i := 15) (v := _) rfl (by kernel_rfl) (by kernel_rfl) (by kernel_rfl) (fun _ _ _ h => h) (Or.inl ⟨by rfl, ?yy16⟩) (by assumption) ?rr16
                            case yy16 => intro w' hSw; (try dsimp only at hSw); go_simp; try (with_reducible rfl)
                            (try simp only [Act.put]); (try simp only [List.setIfInBounds_toArray, List.set_cons_zero, List.set_cons_succ])
                            refine' take_lit (i := 16) (v := _) rfl (by kernel_rfl) (by kernel_rfl) (by kernel_rfl) (fun _ _ _ h => h) (Or.inl ⟨by rfl, ?yy17⟩) (by assumption) ?rr17
                            case yy17 => intro w' hSw; (try dsimp only at hSw); go_simp; try (with_reducible rfl)
                            (try simp only [Act.put]); (try simp only [List.setIfInBounds_toArray, List.set_cons_zero, List.set_cons_succ])
                            refine' take_lit (i := 17) (v := _) rfl (by kernel_rfl) (by kernel_rfl) (by kernel_rfl) (fun _ _ _ h => h) (Or.inl ⟨by rfl, ?yy18⟩) (by assumption) ?rr18
                            case yy18 => intro w' hSw; (try dsimp only at hSw); go_simp; try (with_reducible rfl)
                            (try simp only [Act.put]); (try simp only [List.setIfInBounds_toArray, List.set_cons_zero, List.set_cons_succ])
                            refine wpAnyH_ready (rs := [18]) (by kernel_rfl) (by simp) ?_
                            refine cons_lit rfl (fun K hK => ?ss18x19) AllReadyH.nil
                            case ss18x19 =>
                              go_simp
                              have X9xa := Lib.hid (X7x.out.alloc 55 key0)
                              refine hK.out _ _ (by exact HX.out 9 (by omega) _ X9xa.out.bel) (fun hHeld => ?_)
                              clear hK K
                              (try simp only [Act.put]); (try simp only [List.setIfInBounds_toArray, List.set_cons_zero, List.set_cons_succ])
                              refine wpAnyH_ready (rs := [19]) (by kernel_rfl) (by simp) ?_
                              refine cons_lit rfl (fun K hK => ?ss19x20) AllReadyH.nil
                              case ss19x20 =>
                                refine step_store_row (by rfl) 55 _ _ (by rfl) _ (key5 (qP zs) (qS zs) (qD zs) 0 0) (by rfl) (by rfl) 55 key0 (X9xa.out.blk 1 rfl) (by kernel_rfl) rfl (key5_one _ _ _ _ _) ?_
                                have X10x := Lib.hid (X9xa.out.setR 1 rfl (key5 (qP zs) (qS zs) (qD zs) 0 0))
                                refine hK.out _ _ (by exact HX.out 9 (by omega) _ X10x.out.bel) (fun hHeld => ?_)
                                clear hK K
                                (try simp only [Act.put]); (try simp only [List.setIfInBounds_toArray, List.set_cons_zero, List.set_cons_succ])
                                refine wpAnyH_done (by kernel_rfl) ?_ _
                                refine NoPanic.normal ?_
                                go_wp2_with fail
                                go_meet
                                exact ⟨_, rfl, X10x.out⟩
                          case ss18x15 =>
                            go_simp
                            have X7xa := Lib.hid (X5x.out.alloc 55 key0)
                            refine hK.out _ _ (by exact HX.out 9 (by omega) _ X7xa.out.bel) (fun hHeld => ?_)
                            clear hK K
                            (try simp only [Act.put]); (try simp only [List.setIfInBounds_toArray, List.set_cons_zero, List.set_cons_succ])
                            refine wpAnyH_ready (rs := [14]) (by kernel_rfl) (by simp) ?_
                            refine cons_lit rfl (fun K hK => ?ss14x21) AllReadyH.nil
                            case ss14x21 =>
                              go_simp
                              refine (r10at_any (some ⟨b, off, none⟩) n c zs 18 18 _ (R.out _ X7xa.out.bel) hz (by omega) rfl (by omega)).mono ?_
                              rintro e v12 ⟨rfl, mv12, hv12⟩
                              have X11x := Lib.hid (hv12 ▸ X7xa.out.drewN mv12)
                              clear hv12
                              refine hK.out _ _ (by exact HX.out 9 (by omega) _ X11x.out.bel) (fun hHeld => ?_)
                              clear hK K
                              (try simp only [Act.put]); (try simp only [List.setIfInBounds_toArray, List.set_cons_zero, List.set_cons_succ])
                              refine' take_lit (i := 15) (v := _) rfl (by kernel_rfl) (by kernel_rfl) (by kernel_rfl) (fun _ _ _ h => h) (Or.inl ⟨by rfl, ?yy22⟩) (by assumption) ?rr22
                              case yy22 => intro w' hSw; (try dsimp only at hSw); go_simp; try (with_reducible rfl)
                              (try simp only [Act.put]); (try simp only [List.setIfInBounds_toArray, List.set_cons_zero, List.set_cons_succ])
                              refine' take_lit (i := 16) (v := _) rfl (by kernel_rfl) (by kernel_rfl) (by kernel_rfl) (fun _ _ _ h => h) (Or.inl ⟨by rfl, ?yy23⟩) (by assumption) ?rr23
                              case yy23 => intro w' hSw; (try dsimp only at hSw); go_simp; try (with_reducible rfl)
                              (try simp only [Act.put]); (try simp only [List.setIfInBounds_toArray, List.set_cons_zero, List.set_cons_succ])
                              refine' take_lit (i := 17) (v := _) rfl (by kernel_rfl) (by kernel_rfl) (by kernel_rfl) (fun _ _ _ h => h) (Or.inl ⟨by rfl, ?yy24⟩) (by assumption) ?rr24
                              case yy24 => intro w' hSw; (try dsimp only at hSw); go_simp; try (with_reducible rfl)
                              (try simp only [Act.put]); (try simp only [List.setIfInBounds_toArray, List.set_cons_zero, List.set_cons_succ])
                              refine wpAnyH_ready (rs := [19]) (by kernel_rfl) (by simp) ?_
                              refine cons_lit rfl (fun K hK => ?ss19x25) AllReadyH.nil
                              case ss19x25 =>
                                refine step_store_row (by rfl) 55 _ _ (by rfl) _ (key5 (qP zs) (qS zs) (qD zs) 0 0) (by rfl) (by rfl) 55 key0 (X11x.out.blk 1 rfl) (by kernel_rfl) rfl (key5_one _ _ _ _ _) ?_
                                have X13x := Lib.hid (X11x.out.setR 1 rfl (key5 (qP zs) (qS zs) (qD zs) 0 0))
                                refine hK.out _ _ (by exact HX.out 9 (by omega) _ X13x.out.bel) (fun hHeld => ?_)
                                clear hK K
                                (try simp only [Act.put]); (try simp only [List.setIfInBounds_toArray, List.set_cons_zero, List.set_cons_succ])
                                refine wpAnyH_done (by kernel_rfl) ?_ _
                                refine NoPanic.normal ?_
                                go_wp2_with fail
                                go_meet
                                exact ⟨_, rfl, X13x.out⟩
                        case ss18x13 =>
                          go_simp
                          have X5xa := Lib.hid (X3x.out.alloc 55 key0)
                          refine hK.out _ _ (by exact HX.out 9 (by omega) _ X5xa.out.bel) (fun hHeld => ?_)
                          clear hK K
                          (try simp only [Act.put]); (try simp only [List.setIfInBounds_toArray, List.set_cons_zero, List.set_cons_succ])
                          refine wpAnyH_ready (rs := [11]) (by kernel_rfl) (by simp) ?_
                          refine cons_lit rfl (fun K hK => ?ss11x26) AllReadyH.nil
                          case ss11x26 =>
                            go_simp
                            refine (r10at_any (some ⟨b, off, none⟩) n c zs 16 16 _ (R.out _ X5xa.out.bel) hz (by omega) rfl (by omega)).mono ?_
                            rintro e v15 ⟨rfl, mv15, hv15⟩
                            have X14x := Lib.hid (hv15 ▸ X5xa.out.drewN mv15)
                            clear hv15
                            refine hK.out _ _ (by exact HX.out 9 (by omega) _ X14x.out.bel) (fun hHeld => ?_)
                            clear hK K
                            (try simp only [Act.put]); (try simp only [List.setIfInBounds_toArray, List.set_cons_zero, List.set_cons_succ])
                            refine' take_lit (i := 12) (v := _) rfl (by kernel_rfl) (by kernel_rfl) (by kernel_rfl) (fun _ _ _ h => h) (Or.inl ⟨by rfl, ?yy27⟩) (by assumption) ?rr27
                            case yy27 => intro w' hSw; (try dsimp only at hSw); go_simp; try (with_reducible rfl)
                            (try simp only [Act.put]); (try simp only [List.setIfInBounds_toArray, List.set_cons_zero, List.set_cons_succ])
                            refine wpAnyH_ready (rs := [14]) (by kernel_rfl) (by simp) ?_
                            refine cons_lit rfl (fun K hK => ?ss14x28) AllReadyH.nil
                            case ss14x28 =>
                              go_simp
                              refine (r10at_any (some ⟨b, off, none⟩) n c zs 18 18 _ (R.out _ X14x.out.bel) hz (by omega) rfl (by omega)).mono ?_
                              rintro e v17 ⟨rfl, mv17, hv17⟩
                              have X16x := Lib.hid (hv17 ▸ X14x.out.drewN mv17)
                              clear hv17
                              refine hK.out _ _ (by exact HX.out 9 (by omega) _ X16x.out.bel) (fun hHeld => ?_)
                              clear hK K
                              (try simp only [Act.put]); (try simp only [List.setIfInBounds_toArray, List.set_cons_zero, List.set_cons_succ])
                              refine' take_lit (i := 15) (v := _) rfl (by kernel_rfl) (by kernel_rfl) (by kernel_rfl) (fun _ _ _ h => h) (Or.inl ⟨by rfl, ?yy29⟩) (by assumption) ?rr29
                              case yy29 => intro w' hSw; (try dsimp only at hSw); go_simp; try (with_reducible rfl)
                              (try simp only [Act.put]); (try simp only [List.setIfInBounds_toArray, List.set_cons_zero, List.set_cons_succ])
                              refine' take_lit (i := 16) (v := _) rfl (by kernel_rfl) (by kernel_rfl) (by kernel_rfl) (fun _ _ _ h => h) (Or.inl ⟨by rfl, ?yy30⟩) (by assumption) ?rr30
                              case yy30 => intro w' hSw; (try dsimp only at hSw); go_simp; try (with_reducible rfl)
                              (try simp only [Act.put]); (try simp only [List.setIfInBounds_toArray, List.set_cons_zero, List.set_cons_succ])
                              refine' take_lit (i := 17) (v := _) rfl (by kernel_rfl) (by kernel_rfl) (by kernel_rfl) (fun _ _ _ h => h) (Or.inl ⟨by rfl, ?yy31⟩) (by assumption) ?rr31
                              case yy31 => intro w' hSw; (try dsimp only at hSw); go_simp; try (with_reducible rfl)
                              (try simp only [Act.put]); (try simp only [List.setIfInBounds_toArray, List.set_cons_zero, List.set_cons_succ])
                              refine wpAnyH_ready (rs := [19]) (by kernel_rfl) (by simp) ?_
                              refine cons_lit rfl (fun K hK => ?ss19x32) AllReadyH.nil
                              case ss19x32 =>
                                refine step_store_row (by rfl) 55 _ _ (by rfl) _ (key5 (qP zs) (qS zs) (qD zs) 0 0) (by rfl) (by rfl) 55 key0 (X16x.out.blk 1 rfl) (by kernel_rfl) rfl (key5_one _ _ _ _ _) ?_
                                have X18x := Lib.hid (X16x.out.setR 1 rfl (key5 (qP zs) (qS zs) (qD zs) 0 0))
                                refine hK.out _ _ (by exact HX.out 9 (by omega) _ X18x.out.bel) (fun hHeld => ?_)
                                clear hK K
                                (try simp only [Act.put]); (try simp only [List.setIfInBounds_toArray, List.set_cons_zero, List.set_cons_succ])
                                refine wpAnyH_done (by kernel_rfl) ?_ _
                                refine NoPanic.normal ?_
                                go_wp2_with fail
                                go_meet
                                exact ⟨_, rfl, X18x.out⟩
                      case ss18x10 =>
                        go_simp
                        have X3xa := Lib.hid (X1x.out.alloc 55 key0)
                        refine hK.out _ _ (by exact HX.out 9 (by omega) _ X3xa.out.bel) (fun hHeld => ?_)
                        clear hK K
                        (try simp only [Act.put]); (try simp only [List.setIfInBounds_toArray, List.set_cons_zero, List.set_cons_succ])
                        refine wpAnyH_ready (rs := [7]) (by kernel_rfl) (by simp) ?_
                        refine cons_lit rfl (fun K hK => ?ss7x33) AllReadyH.nil
                        case ss7x33 =>
                          go_simp
                          refine (r10at_any (some ⟨b, off, none⟩) n c zs 14 14 _ (R.out _ X3xa.out.bel) hz (by omega) rfl (by omega)).mono ?_
                          rintro e v20 ⟨rfl, mv20, hv20⟩
                          have X19x := Lib.hid (hv20 ▸ X3xa.out.drewN mv20)
                          clear hv20
                          refine hK.out _ _ (by exact HX.out 9 (by omega) _ X19x.out.bel) (fun hHeld => ?_)
                          clear hK K
                          (try simp only [Act.put]); (try simp only [List.setIfInBounds_toArray, List.set_cons_zero, List.set_cons_succ])
                          refine' take_lit (i := 8) (v := _) rfl (by kernel_rfl) (by kernel_rfl) (by kernel_rfl) (fun _ _ _ h => h) (Or.inl ⟨by rfl, ?yy34⟩) (by assumption) ?rr34
                          case yy34 => intro w' hSw; (try dsimp only at hSw); go_simp; try (with_reducible rfl)
                          (try simp only [Act.put]); (try simp only [List.setIfInBounds_toArray, List.set_cons_zero, List.set_cons_succ])
                          refine' take_lit (i := 9) (v := _) rfl (by kernel_rfl) (by kernel_rfl) (by kernel_rfl) (fun _ _ _ h => h) (Or.inl ⟨by rfl, ?yy35⟩) (by assumption) ?rr35
                          case yy35 => intro w' hSw; (try dsimp only at hSw); go_simp; try (with_reducible rfl)
                          (try simp only [Act.put]); (try simp only [List.setIfInBounds_toArray, List.set_cons_zero, List.set_cons_succ])
                          refine wpAnyH_ready (rs := [11]) (by kernel_rfl) (by simp) ?_
                          refine cons_lit rfl (fun K hK => ?ss11x36) AllReadyH.nil
                          case ss11x36 =>
                            go_simp
                            refine (r10at_any (some ⟨b, off, none⟩) n c zs 16 16 _ (R.out _ X19x.out.bel) hz (by omega) rfl (by omega)).mono ?_
                            rintro e v22 ⟨rfl, mv22, hv22⟩
                            have X21x := Lib.hid (hv22 ▸ X19x.out.drewN mv22)
                            clear hv22
                            refine hK.out _ _ (by exact HX.out 9 (by omega) _ X21x.out.bel) (fun hHeld => ?_)
                            clear hK K
                            (try simp only [Act.put]); (try simp only [List.setIfInBounds_toArray, List.set_cons_zero, List.set_cons_succ])
                            refine' take_lit (i := 12) (v := _) rfl (by kernel_rfl) (by kernel_rfl) (by kernel_rfl) (fun _ _ _ h => h) (Or.inl ⟨by rfl, ?yy37⟩) (by assumption) ?rr37
                            case yy37 => intro w' hSw; (try dsimp only at hSw); go_simp; try (with_reducible rfl)
                            (try simp only [Act.put]); (try simp only [List.setIfInBounds_toArray, List.set_cons_zero, List.set_cons_succ])
                            refine wpAnyH_ready (rs := [14]) (by kernel_rfl) (by simp) ?_
                            refine cons_lit rfl (fun K hK => ?ss14x38) AllReadyH.nil
                            case ss14x38 =>
                              go_simp
                              refine (r10at_any (some ⟨b, off, none⟩) n c zs 18 18 _ (R.out _ X21x.out.bel) hz (by omega) rfl (by omega)).mono ?_
                              rintro e v24 ⟨rfl, mv24, hv24⟩
                              have X23x := Lib.hid (hv24 ▸ X21x.out.drewN mv24)
                              clear hv24
                              refine hK.out _ _ (by exact HX.out 9 (by omega) _ X23x.out.bel) (fun hHeld => ?_)
                              clear hK K
                              (try simp only [Act.put]); (try simp only [List.setIfInBounds_toArray, List.set_cons_zero, List.set_cons_succ])
                              refine' take_lit (i := 15) (v := _) rfl (by kernel_rfl) (by kernel_rfl) (by kernel_rfl) (fun _ _ _ h => h) (Or.inl ⟨by rfl, ?yy39⟩) (by assumption) ?rr39
                              case yy39 => intro w' hSw; (try dsimp only at hSw); go_simp; try (with_reducible rfl)
                              (try simp only [Act.put]); (try simp only [List.setIfInBounds_toArray, List.set_cons_zero, List.set_cons_succ])
                              refine' take_lit (i := 16) (v := _) rfl (by kernel_rfl) (by kernel_rfl) (by kernel_rfl) (fun _ _ _ h => h) (Or.inl ⟨by rfl, ?yy40⟩) (by assumption) ?rr40
                              case yy40 => intro w' hSw; (try dsimp only at hSw); go_simp; try (with_reducible rfl)
                              (try simp only [Act.put]); (try simp only [List.setIfInBounds_toArray, List.set_cons_zero, List.set_cons_succ])
                              refine' take_lit (i := 17) (v := _) rfl (by kernel_rfl) (by kernel_rfl) (by kernel_rfl) (fun _ _ _ h => h) (Or.inl ⟨by rfl, ?yy41⟩) (by assumption) ?rr41
                              case yy41 => intro w' hSw; (try dsimp only at hSw); go_simp; try (with_reducible rfl)
                              (try simp only [Act.put]); (try simp only [List.setIfInBounds_toArray, List.set_cons_zero, List.set_cons_succ])
                              refine wpAnyH_ready (rs := [19]) (by kernel_rfl) (by simp) ?_
                              refine cons_lit rfl (fun K hK => ?ss19x42) AllReadyH.nil
                              case ss19x42 =>
                                refine step_store_row (by rfl) 55 _ _ (by rfl) _ (key5 (qP zs) (qS zs) (qD zs) 0 0) (by rfl) (by rfl) 55 key0 (X23x.out.blk 1 rfl) (by kernel_rfl) rfl (key5_one _ _ _ _ _) ?_
                                have X25x := Lib.hid (X23x.out.setR 1 rfl (key5 (qP zs) (qS zs) (qD zs) 0 0))
                                refine hK.out _ _ (by exact HX.out 9 (by omega) _ X25x.out.bel) (fun hHeld => ?_)
                                clear hK K
                                (try simp only [Act.put]); (try simp only [List.setIfInBounds_toArray, List.set_cons_zero, List.set_cons_succ])
                                refine wpAnyH_done (by kernel_rfl) ?_ _
                                refine NoPanic.normal ?_
                                go_wp2_with fail
                                go_meet
                                exact ⟨_, rfl, X25x.out⟩
                    case ss18x8 =>
                      go_simp
                      have X1xa := Lib.hid (Y0.out.alloc 55 key0)
                      refine hK.out _ _ (by exact HX.out 9 (by omega) _ X1xa.out.bel) (fun hHeld => ?_)
                      clear hK K
                      (try simp only [Act.put]); (try simp only [List.setIfInBounds_toArray, List.set_cons_zero, List.set_cons_succ])
                      refine wpAnyH_ready (rs := [4]) (by kernel_rfl) (by simp) ?_
                      refine cons_lit rfl (fun K hK => ?ss4x43) AllReadyH.nil
                      case ss4x43 =>
                        go_simp
                        refine (r10at_any (some ⟨b, off, none⟩) n c zs 12 12 _ (R.out _ X1xa.out.bel) hz (by omega) rfl (by omega)).mono ?_
                        rintro e v27 ⟨rfl, mv27, hv27⟩
                        have X26x := Lib.hid (hv27 ▸ X1xa.out.drewN mv27)
                        clear hv27
                        refine hK.out _ _ (by exact HX.out 9 (by omega) _ X26x.out.bel) (fun hHeld => ?_)
                        clear hK K
                        (try simp only [Act.put]); (try simp only [List.setIfInBounds_toArray, List.set_cons_zero, List.set_cons_succ])
                        refine' take_lit (i := 5) (v := _) rfl (by kernel_rfl) (by kernel_rfl) (by kernel_rfl) (fun _ _ _ h => h) (Or.inl ⟨by rfl, ?yy44⟩) (by assumption) ?rr44
                        case yy44 => intro w' hSw; (try dsimp only at hSw); go_simp; try (with_reducible rfl)
                        (try simp only [Act.put]); (try simp only [List.setIfInBounds_toArray, List.set_cons_zero, List.set_cons_succ])
                        refine wpAnyH_ready (rs := [7]) (by kernel_rfl) (by simp) ?_
                        refine cons_lit rfl (fun K hK => ?ss7x45) AllReadyH.nil
                        case ss7x45 =>
                          go_simp
                          refine (r10at_any (some ⟨b, off, none⟩) n c zs 14 14 _ (R.out _ X26x.out.bel) hz (by omega) rfl (by omega)).mono ?_
                          rintro e v29 ⟨rfl, mv29, hv29⟩
                          have X28x := Lib.hid (hv29 ▸ X26x.out.drewN mv29)
                          clear hv29
                          refine hK.out _ _ (by exact HX.out 9 (by omega) _ X28x.out.bel) (fun hHeld => ?_)
                          clear hK K
                          (try simp only [Act.put]); (try simp only [List.setIfInBounds_toArray, List.set_cons_zero, List.set_cons_succ])
                          refine' take_lit (i := 8) (v := _) rfl (by kernel_rfl) (by kernel_rfl) (by kernel_rfl) (fun _ _ _ h => h) (Or.inl ⟨by rfl, ?yy46⟩) (by assumption) ?rr46
                          case yy46 => intro w' hSw; (try dsimp only at hSw); go_simp; try (with_reducible rfl)
                          (try simp only [Act.put]); (try simp only [List.setIfInBounds_toArray, List.set_cons_zero, List.set_cons_succ])
                          refine' take_lit (i := 9) (v := _) rfl (by kernel_rfl) (by kernel_rfl) (by kernel_rfl) (fun _ _ _ h => h) (Or.inl ⟨by rfl, ?yy47⟩) (by assumption) ?rr47
                          case yy47 => intro w' hSw; (try dsimp only at hSw); go_simp; try (with_reducible rfl)
                          (try simp only [Act.put]); (try simp only [List.setIfInBounds_toArray, List.set_cons_zero, List.set_cons_succ])
                          refine wpAnyH_ready (rs := [11]) (by kernel_rfl) (by simp) ?_
                          refine cons_lit rfl (fun K hK => ?ss11x48) AllReadyH.nil
                          case ss11x48 =>
                            go_simp
                            refine (r10at_any (some ⟨b, off, none⟩) n c zs 16 16 _ (R.out _ X28x.out.bel) hz (by omega) rfl (by omega)).mono ?_
                            rintro e v31 ⟨rfl, mv31, hv31⟩
                            have X30x := Lib.hid (hv31 ▸ X28x.out.drewN mv31)
                            clear hv31
                            refine hK.out _ _ (by exact HX.out 9 (by omega) _ X30x.out.bel) (fun hHeld => ?_)
                            clear hK K
                            (try simp only [Act.put]); (try simp only [List.setIfInBounds_toArray, List.set_cons_zero, List.set_cons_succ])
                            refine' take_lit (i := 12) (v := _) rfl (by kernel_rfl) (by kernel_rfl) (by kernel_rfl) (fun _ _ _ h => h) (Or.inl ⟨by rfl, ?yy49⟩) (by assumption) ?rr49
                            case yy49 => intro w' hSw; (try dsimp only at hSw); go_simp; try (with_reducible rfl)
                            (try simp only [Act.put]); (try simp only [List.setIfInBounds_toArray, List.set_cons_zero, List.set_cons_succ])
                            refine wpAnyH_ready (rs := [14]) (by kernel_rfl) (by simp) ?_
                            refine cons_lit rfl (fun K hK => ?ss14x50) AllReadyH.nil
                            case ss14x50 =>
                              go_simp
                              refine (r10at_any (some ⟨b, off, none⟩) n c zs 18 18 _ (R.out _ X30x.out.bel) hz (by omega) rfl (by omega)).mono ?_
                              rintro e v33 ⟨rfl, mv33, hv33⟩
                              have X32x := Lib.hid (hv33 ▸ X30x.out.drewN mv33)
                              clear hv33
                              refine hK.out _ _ (by exact HX.out 9 (by omega) _ X32x.out.bel) (fun hHeld => ?_)
                              clear hK K
                              (try simp only [Act.put]); (try simp only [List.setIfInBounds_toArray, List.set_cons_zero, List.set_cons_succ])
                              refine' take_lit (i := 15) (v := _) rfl (by kernel_rfl) (by kernel_rfl) (by kernel_rfl) (fun _ _ _ h => h) (Or.inl ⟨by rfl, ?yy51⟩) (by assumption) ?rr51
                              case yy51 => intro w' hSw; (try dsimp only at hSw); go_simp; try (with_reducible rfl)
                              (try simp only [Act.put]); (try simp only [List.setIfInBounds_toArray, List.set_cons_zero, List.set_cons_succ])
                              refine' take_lit (i := 16) (v := _) rfl (by kernel_rfl) (by kernel_rfl) (by kernel_rfl) (fun _ _ _ h => h) (Or.inl ⟨by rfl, ?yy52⟩) (by assumption) ?rr52
                              case yy52 => intro w' hSw; (try dsimp only at hSw); go_simp; try (with_reducible rfl)
                              (try simp only [Act.put]); (try simp only [List.setIfInBounds_toArray, List.set_cons_zero, List.set_cons_succ])
                              refine' take_lit (i := 17) (v := _) rfl (by kernel_rfl) (by kernel_rfl) (by kernel_rfl) (fun _ _ _ h => h) (Or.inl ⟨by rfl, ?yy53⟩) (by assumption) ?rr53
                              case yy53 => intro w' hSw; (try dsimp only at hSw); go_simp; try (with_reducible rfl)
                              (try simp only [Act.put]); (try simp only [List.setIfInBounds_toArray, List.set_cons_zero, List.set_cons_succ])
                              refine wpAnyH_ready (rs := [19]) (by kernel_rfl) (by simp) ?_
                              refine cons_lit rfl (fun K hK => ?ss19x54) AllReadyH.nil
                              case ss19x54 =>
                                refine step_store_row (by rfl) 55 _ _ (by rfl) _ (key5 (qP zs) (qS zs) (qD zs) 0 0) (by rfl) (by rfl) 55 key0 (X32x.out.blk 1 rfl) (by kernel_rfl) rfl (key5_one _ _ _ _ _) ?_
                                have X34x := Lib.hid (X32x.out.setR 1 rfl (key5 (qP zs) (qS zs) (qD zs) 0 0))
                                refine hK.out _ _ (by exact HX.out 9 (by omega) _ X34x.out.bel) (fun hHeld => ?_)
                                clear hK K
                                (try simp only [Act.put]); (try simp only [List.setIfInBounds_toArray, List.set_cons_zero, List.set_cons_succ])
                                refine wpAnyH_done (by kernel_rfl) ?_ _
                                refine NoPanic.normal ?_
                                go_wp2_with fail
                                go_meet
                                exact ⟨_, rfl, X34x.out⟩
                  case rest =>
                    obtain ⟨M, rfl, hZ⟩ := hcut
                    have Z := Lib.hid hZ
                    clear hZ e12 f12 g12 e16 f16 g16 i9 j9 X2
                    have k0 : wc.cell? ⟨M, 0, none⟩ = some (.int .u8 (qP zs)) := Z.out.cell 1 rfl 0 rfl
                    rcases (show qP zs = 6 ∨ qP zs = 17 ∨ qP zs = 1 ∨ (qP zs ≠ 6 ∧ qP zs ≠ 17 ∧ qP zs ≠ 1) by omega) with hp | hp | hp | hp
                    · have HP := Lib.hid hp
                      have HSD := Lib.hid (q_spdp (zs := zs) (.inl hp))
                      rw [hp] at k0
                      have X0 := Lib.hid (show SP w wc [.blk N 55 key0, .blk M 55 (key5 6 (qS zs) (qD zs) 0 0)] by rw [← hp]; exact Z.out)
                      clear Z hp p0 p1
                      have e5 : IntKind.i64.wrap ((q : Int) + 2) = (q : Int) + 2 := IntWalk.i64_in _ (by omega)
                      obtain ⟨u1, v1⟩ := wordAt_bd hz q
                      obtain ⟨u2, v2⟩ := wordAt_bd hz (q + 2)
                      have g1 : IntKind.u16.wrap (wordAt zs q) = wordAt zs q := u16_in _ u1 v1
                      have g2 : IntKind.u16.wrap (wordAt zs (q + 2)) = wordAt zs (q + 2) := u16_in _ u2 v2
                      go_wp2_with fail
                      refine (r10at_any (some ⟨b, off, none⟩) n c zs q q _ (R.out _ X0.out.bel) hz (by omega) rfl (by omega)).mono ?_
                      rintro e x1 ⟨rfl, mx1, hx1⟩
                      have X1 := Lib.hid (hx1 ▸ X0.out.drewN mx1)
                      clear hx1
                      go_wp2_with fail
                      refine (r10at_any (some ⟨b, off, none⟩) n c zs (q + 2) (q + 2) _ (R.out _ X1.out.bel) hz (by omega) (by omega) (by omega)).mono ?_
                      rintro e x2 ⟨rfl, mx2, hx2⟩
                      have X2 := Lib.hid (hx2 ▸ X1.out.drewN mx2)
                      clear hx2
                      have c0 : x2.cell? ⟨M, 0, none⟩ = some (.int .u8 6) := X2.out.cell 1 rfl 0 rfl
                      have c3 : x2.cell? ⟨M, 3, none⟩ = some (.int .u16 0) := X2.out.cell 1 rfl 3 rfl
                      have c4 : x2.cell? ⟨M, 4, none⟩ = some (.int .u16 0) := X2.out.cell 1 rfl 4 rfl
                      have d3 := X2.out.free 1 rfl 3
                      have d4 := X2.out.free 1 rfl 4
                      have X4 := Lib.hid (show SP w _ [.blk N 55 key0, .blk M 55 (key5 6 (qS zs) (qD zs) (wordAt zs q) (wordAt zs (q + 2)))] from (X2.out.setB 1 rfl 3 (.int .u16 (wordAt zs q))).setB 1 rfl 4 (.int .u16 (wordAt zs (q + 2))))
                      clear k0 X0 X1 X2
                      go_upto_region 12 with fail
                      generalize (x2.setCell ⟨M, 3, none⟩ (.int .u16 (wordAt zs q))).setCell ⟨M, 4, none⟩ (.int .u16 (wordAt zs (q + 2))) = v5 at X4 ⊢
                      clear c0 c3 c4 d3 d4 g1 g2 e5
                      obtain ⟨sp, hsp⟩ : ∃ sp, sp = wordAt zs q := ⟨_, rfl⟩
                      obtain ⟨dp, hdp⟩ : ∃ dp, dp = wordAt zs (q + 2) := ⟨_, rfl⟩
                      rw [← hsp] at X4 u1 v1
                      rw [← hdp] at X4 u2 v2
                      have HSP := Lib.hid hsp
                      have HDP := Lib.hid hdp
                      clear hsp hdp
                      have c0 : v5.cell? ⟨M, 0, none⟩ = some (.int .u8 6) := X4.out.cell 1 rfl 0 rfl
                      have c3 : v5.cell? ⟨M, 3, none⟩ = some (.int .u16 sp) := X4.out.cell 1 rfl 3 rfl
                      have c4 : v5.cell? ⟨M, 4, none⟩ = some (.int .u16 dp) := X4.out.cell 1 rfl 4 rfl
                      by_cases h3 : sp = 0
                      · have t3 : (sp == 0) = true := by simp [h3]
                        have HZ := Lib.hid (q_kd0 (zs := zs) HG.out (by unfold qKd; rw [if_pos (.inl HP.out), if_pos (.inl (by rw [HSD.out.1, ← HQ.out, ← HSP.out]; exact h3))]))
                        clear h3
                        have T := Lib.hid (X4.out.setR 0 rfl key0)
                        go_wp2_with (refine wpList_store_row rfl 55 _ _ rfl N key0 rfl rfl 55 key0 (X4.out.blk 0 rfl) (by kernel_rfl) rfl (key5_one 0 0 0 0 0) ?_)
                        refine bodyPost_ret (results_cell_tmp2' rfl _ _ N 55 key0 _ _ rfl (T.out.blk 0 rfl) Tryd.underlying55 rfl (by kernel_rfl)) rfl ?_
                        exact QRes.mk HZ.out T.out.bel
                      · have t3 : (sp == 0) = false := by simp [h3]
                        by_cases h4 : dp = 0
                        · have t4 : (dp == 0) = true := by simp [h4]
                          have HZ := Lib.hid (q_kd0 (zs := zs) HG.out (by unfold qKd; rw [if_pos (.inl HP.out), if_pos (.inr (by rw [HSD.out.2, ← HQ.out, ← HDP.out]; exact h4))]))
                          clear h3 h4
                          have T := Lib.hid (X4.out.setR 0 rfl key0)
                          go_wp2_with (refine wpList_store_row rfl 55 _ _ rfl N key0 rfl rfl 55 key0 (X4.out.blk 0 rfl) (by kernel_rfl) rfl (key5_one 0 0 0 0 0) ?_)
                          refine bodyPost_ret (results_cell_tmp2' rfl _ _ N 55 key0 _ _ rfl (T.out.blk 0 rfl) Tryd.underlying55 rfl (by kernel_rfl)) rfl ?_
                          exact QRes.mk HZ.out T.out.bel
                        · have t4 : (dp == 0) = false := by simp [h4]
                          have hk : qKd zs = 1 := by
                            unfold qKd
                            rw [if_pos (.inl HP.out), if_neg (by rw [HSD.out.1, HSD.out.2, ← HQ.out, ← HSP.out, ← HDP.out]; omega), HP.out]; rfl
                          have HZ := q_kd (zs := zs) HG.out (by rw [hk]; decide) (by rw [hk]; decide)
                          rw [hk, HP.out, HSD.out.1, HSD.out.2, ← HQ.out, ← HSP.out, ← HDP.out] at HZ
                          have HZZ := Lib.hid HZ
                          clear h3 h4 hk HZ
                          have T := Lib.hid (X4.out.setR 0 rfl (key5 6 (qS zs) (qD zs) sp dp))
                          go_wp2_with (first | (refine wpList_load_row rfl 55 _ rfl M rfl 55 (key5 6 (qS zs) (qD zs) sp dp) _ _ (X4.out.blk 1 rfl) Tryd.underlying55 rfl (by kernel_rfl) ?_) | (refine wpList_store_row rfl 55 _ _ rfl N (key5 6 (qS zs) (qD zs) sp dp) rfl rfl 55 key0 (X4.out.blk 0 rfl) (by kernel_rfl) rfl (key5_one _ _ _ _ _) ?_))
                          refine bodyPost_ret (results_cell_tmp2' rfl _ _ N 55 (key5 6 (qS zs) (qD zs) sp dp) _ _ rfl (T.out.blk 0 rfl) Tryd.underlying55 rfl (by kernel_rfl)) rfl ?_
                          exact QRes.mk HZZ.out T.out.bel
                    · have HP := Lib.hid hp
                      have HSD := Lib.hid (q_spdp (zs := zs) (.inr hp))
                      rw [hp] at k0
                      have X0 := Lib.hid (show SP w wc [.blk N 55 key0, .blk M 55 (key5 17 (qS zs) (qD zs) 0 0)] by rw [← hp]; exact Z.out)
                      clear Z hp p0 p1
                      have e5 : IntKind.i64.wrap ((q : Int) + 2) = (q : Int) + 2 := IntWalk.i64_in _ (by omega)
                      obtain ⟨u1, v1⟩ := wordAt_bd hz q
                      obtain ⟨u2, v2⟩ := wordAt_bd hz (q + 2)
                      have g1 : IntKind.u16.wrap (wordAt zs q) = wordAt zs q := u16_in _ u1 v1
                      have g2 : IntKind.u16.wrap (wordAt zs (q + 2)) = wordAt zs (q + 2) := u16_in _ u2 v2
                      go_wp2_with fail
                      refine (r10at_any (some ⟨b, off, none⟩) n c zs q q _ (R.out _ X0.out.bel) hz (by omega) rfl (by omega)).mono ?_
                      rintro e x1 ⟨rfl, mx1, hx1⟩
                      have X1 := Lib.hid (hx1 ▸ X0.out.drewN mx1)
                      clear hx1
                      go_wp2_with fail
                      refine (r10at_any (some ⟨b, off, none⟩) n c zs (q + 2) (q + 2) _ (R.out _ X1.out.bel) hz (by omega) (by omega) (by omega)).mono ?_
                      rintro e x2 ⟨rfl, mx2, hx2⟩
                      have X2 := Lib.hid (hx2 ▸ X1.out.drewN mx2)
                      clear hx2
                      have c0 : x2.cell? ⟨M, 0, none⟩ = some (.int .u8 17) := X2.out.cell 1 rfl 0 rfl
                      have c3 : x2.cell? ⟨M, 3, none⟩ = some (.int .u16 0) := X2.out.cell 1 rfl 3 rfl
                      have c4 : x2.cell? ⟨M, 4, none⟩ = some (.int .u16 0) := X2.out.cell 1 rfl 4 rfl
                      have d3 := X2.out.free 1 rfl 3
                      have d4 := X2.out.free 1 rfl 4
                      have X4 := Lib.hid (show SP w _ [.blk N 55 key0, .blk M 55 (key5 17 (qS zs) (qD zs) (wordAt zs q) (wordAt zs (q + 2)))] from (X2.out.setB 1 rfl 3 (.int .u16 (wordAt zs q))).setB 1 rfl 4 (.int .u16 (wordAt zs (q + 2))))
                      clear k0 X0 X1 X2
                      go_upto_region 12 with fail
                      generalize (x2.setCell ⟨M, 3, none⟩ (.int .u16 (wordAt zs q))).setCell ⟨M, 4, none⟩ (.int .u16 (wordAt zs (q + 2))) = v5 at X4 ⊢
                      clear c0 c3 c4 d3 d4 g1 g2 e5
                      obtain ⟨sp, hsp⟩ : ∃ sp, sp = wordAt zs q := ⟨_, rfl⟩
                      obtain ⟨dp, hdp⟩ : ∃ dp, dp = wordAt zs (q + 2) := ⟨_, rfl⟩
                      rw [← hsp] at X4 u1 v1
                      rw [← hdp] at X4 u2 v2
                      have HSP := Lib.hid hsp
                      have HDP := Lib.hid hdp
                      clear hsp hdp
                      have c0 : v5.cell? ⟨M, 0, none⟩ = some (.int .u8 17) := X4.out.cell 1 rfl 0 rfl
                      have c3 : v5.cell? ⟨M, 3, none⟩ = some (.int .u16 sp) := X4.out.cell 1 rfl 3 rfl
                      have c4 : v5.cell? ⟨M, 4, none⟩ = some (.int .u16 dp) := X4.out.cell 1 rfl 4 rfl
                      by_cases h3 : sp = 0
                      · have t3 : (sp == 0) = true := by simp [h3]
                        have HZ := Lib.hid (q_kd0 (zs := zs) HG.out (by unfold qKd; rw [if_pos (.inr HP.out), if_pos (.inl (by rw [HSD.out.1, ← HQ.out, ← HSP.out]; exact h3))]))
                        clear h3
                        have T := Lib.hid (X4.out.setR 0 rfl key0)
                        go_wp2_with (refine wpList_store_row rfl 55 _ _ rfl N key0 rfl rfl 55 key0 (X4.out.blk 0 rfl) (by kernel_rfl) rfl (key5_one 0 0 0 0 0) ?_)
                        refine bodyPost_ret (results_cell_tmp2' rfl _ _ N 55 key0 _ _ rfl (T.out.blk 0 rfl) Tryd.underlying55 rfl (by kernel_rfl)) rfl ?_
                        exact QRes.mk HZ.out T.out.bel
                      · have t3 : (sp == 0) = false := by simp [h3]
                        by_cases h4 : dp = 0
                        · have t4 : (dp == 0) = true := by simp [h4]
                          have HZ := Lib.hid (q_kd0 (zs := zs) HG.out (by unfold qKd; rw [if_pos (.inr HP.out), if_pos (.inr (by rw [HSD.out.2, ← HQ.out, ← HDP.out]; exact h4))]))
                          clear h3 h4
                          have T := Lib.hid (X4.out.setR 0 rfl key0)
                          go_wp2_with (refine wpList_store_row rfl 55 _ _ rfl N key0 rfl rfl 55 key0 (X4.out.blk 0 rfl) (by kernel_rfl) rfl (key5_one 0 0 0 0 0) ?_)
                          refine bodyPost_ret (results_cell_tmp2' rfl _ _ N 55 key0 _ _ rfl (T.out.blk 0 rfl) Tryd.underlying55 rfl (by kernel_rfl)) rfl ?_
                          exact QRes.mk HZ.out T.out.bel
                        · have t4 : (dp == 0) = false := by simp [h4]
                          have hk : qKd zs = 2 := by
                            unfold qKd
                            rw [if_pos (.inr HP.out), if_neg (by rw [HSD.out.1, HSD.out.2, ← HQ.out, ← HSP.out, ← HDP.out]; omega), HP.out]; rfl
                          have HZ := q_kd (zs := zs) HG.out (by rw [hk]; decide) (by rw [hk]; decide)
                          rw [hk, HP.out, HSD.out.1, HSD.out.2, ← HQ.out, ← HSP.out, ← HDP.out] at HZ
                          have HZZ := Lib.hid HZ
                          clear h3 h4 hk HZ
                          have T := Lib.hid (X4.out.setR 0 rfl (key5 17 (qS zs) (qD zs) sp dp))
                          go_wp2_with (first | (refine wpList_load_row rfl 55 _ rfl M rfl 55 (key5 17 (qS zs) (qD zs) sp dp) _ _ (X4.out.blk 1 rfl) Tryd.underlying55 rfl (by kernel_rfl) ?_) | (refine wpList_store_row rfl 55 _ _ rfl N (key5 17 (qS zs) (qD zs) sp dp) rfl rfl 55 key0 (X4.out.blk 0 rfl) (by kernel_rfl) rfl (key5_one _ _ _ _ _) ?_))
                          refine bodyPost_ret (results_cell_tmp2' rfl _ _ N 55 (key5 17 (qS zs) (qD zs) sp dp) _ _ rfl (T.out.blk 0 rfl) Tryd.underlying55 rfl (by kernel_rfl)) rfl ?_
                          exact QRes.mk HZZ.out T.out.bel
                    · have HP := Lib.hid hp
                      rw [hp] at k0
                      have X0 := Lib.hid (show SP w wc [.blk N 55 key0, .blk M 55 (key5 1 (qS zs) (qD zs) 0 0)] by rw [← hp]; exact Z.out)
                      clear Z hp p0 p1
                      obtain ⟨a0, a1⟩ := hz.get (by omega) q
                      obtain ⟨b0, b1⟩ := hz.get (by omega) (q + 1)
                      obtain ⟨t, ht⟩ : ∃ t : Nat, zs[q]?.getD 0 = (t : Int) := ⟨(zs[q]?.getD 0).toNat, by omega⟩
                      obtain ⟨cc, hcc⟩ : ∃ cc : Int, zs[q + 1]?.getD 0 = cc := ⟨_, rfl⟩
                      rw [hcc] at b0 b1
                      have HTC := Lib.hid (show qT zs = t ∧ qC zs = cc by unfold qT qC; rw [← HQ.out, ht, hcc]; exact ⟨by omega, rfl⟩)
                      have YX := Lib.hid (fun (W : World) (hb' : Below w.heap.size w W) => (show W.cell? ⟨b, off + q, none⟩ = some (.int .u8 (t : Int)) ∧ W.cell? ⟨b, off + (q + 1), none⟩ = some (.int .u8 cc) from ⟨ht ▸ HX.out q (by omega) W hb', hcc ▸ HX.out (q + 1) (by omega) W hb'⟩))
                      clear ht hcc
                      have i3 : (0 : Int) ≤ (q : Int) := by omega
                      have i4 : (q : Int) < (n : Int) := by omega
                      have i5 : (0 : Int) ≤ (q : Int) + 1 := by omega
                      have i6 : (q : Int) + 1 < (n : Int) := by omega
                      have e5 : IntKind.i64.wrap ((q : Int) + 1) = (q : Int) + 1 := IntWalk.i64_in _ (by omega)
                      have e6 : ((q : Int) + 1).toNat = q + 1 := by omega
                      go_upto_region 19 with fail
                      clear k0
                      have X1 := Lib.hid X0.out.drew
                      refine wp_region_noPanic ?_
                      refine wp_region_held_drew (S := fun W => W.cell? ⟨b, off + q, none⟩ = some (.int .u8 (t : Int)) ∧ W.cell? ⟨b, off + (q + 1), none⟩ = some (.int .u8 cc)) (by kernel_rfl) (by exact YX.out _ X1.out.bel) (fun hHeld => ?_)
                      refine' take_lit (i := 0) (v := _) rfl (by kernel_rfl) (by kernel_rfl) (by kernel_rfl) (fun _ _ _ h => h) (Or.inl ⟨by rfl, ?yy55⟩) (by assumption) ?rr55
                      case yy55 => intro w' hSw; (try dsimp only at hSw); go_simp; try (with_reducible rfl)
                      (try simp only [Act.put]); (try simp only [List.setIfInBounds_toArray, List.set_cons_zero, List.set_cons_succ])
                      refine' take_lit (i := 1) (v := _) rfl (by kernel_rfl) (by kernel_rfl) (by kernel_rfl) (fun _ _ _ h => h) (Or.inl ⟨by rfl, ?yy56⟩) (by assumption) ?rr56
                      case yy56 => intro w' hSw; (try dsimp only at hSw); go_simp; try (with_reducible rfl)
                      (try simp only [Act.put]); (try simp only [List.setIfInBounds_toArray, List.set_cons_zero, List.set_cons_succ])
                      refine' take_lit (i := 2) (v := _) rfl (by kernel_rfl) (by kernel_rfl) (by kernel_rfl) (fun _ _ _ h => h) (Or.inl ⟨by rfl, ?yy57⟩) (by assumption) ?rr57
                      case yy57 => intro w' hSw; (try dsimp only at hSw); go_simp; try (with_reducible rfl)
                      (try simp only [Act.put]); (try simp only [List.setIfInBounds_toArray, List.set_cons_zero, List.set_cons_succ])
                      refine' take_lit (i := 3) (v := _) rfl (by kernel_rfl) (by kernel_rfl) (by kernel_rfl) (fun _ _ _ h => h) (Or.inl ⟨by rfl, ?yy58⟩) (by assumption) ?rr58
                      case yy58 => intro w' hSw; (try dsimp only at hSw); go_simp; try (with_reducible rfl)
                      (try simp only [Act.put]); (try simp only [List.setIfInBounds_toArray, List.set_cons_zero, List.set_cons_succ])
                      refine' take_lit (i := 4) (v := _) rfl (by kernel_rfl) (by kernel_rfl) (by kernel_rfl) (fun _ _ _ h => h) (Or.inl ⟨by rfl, ?yy59⟩) (by assumption) ?rr59
                      case yy59 => intro w' hSw; (try dsimp only at hSw); go_simp; try (with_reducible rfl)
                      (try simp only [Act.put]); (try simp only [List.setIfInBounds_toArray, List.set_cons_zero, List.set_cons_succ])
                      refine' take_lit (i := 5) (v := _) rfl (by kernel_rfl) (by kernel_rfl) (by kernel_rfl) (fun _ _ _ h => h) (Or.inl ⟨by rfl, ?yy60⟩) (by assumption) ?rr60
                      case yy60 => intro w' hSw; (try dsimp only at hSw); go_simp; try (with_reducible rfl)
                      (try simp only [Act.put]); (try simp only [List.setIfInBounds_toArray, List.set_cons_zero, List.set_cons_succ])
                      refine' take_lit (i := 6) (v := _) rfl (by kernel_rfl) (by kernel_rfl) (by kernel_rfl) (fun _ _ _ h => h) (Or.inl ⟨by rfl, ?yy61⟩) (by assumption) ?rr61
                      case yy61 => intro w' hSw; (try dsimp only at hSw); go_simp; try (with_reducible rfl)
                      (try simp only [Act.put]); (try simp only [List.setIfInBounds_toArray, List.set_cons_zero, List.set_cons_succ])
                      refine' take_lit (i := 7) (v := _) rfl (by kernel_rfl) (by kernel_rfl) (by kernel_rfl) (fun _ _ _ h => h) (Or.inl ⟨by rfl, ?yy62⟩) (by assumption) ?rr62
                      case yy62 => intro w' hSw; (try dsimp only at hSw); go_simp; try (with_reducible rfl)
                      (try simp only [Act.put]); (try simp only [List.setIfInBounds_toArray, List.set_cons_zero, List.set_cons_succ])
                      refine' take_lit (i := 8) (v := _) rfl (by kernel_rfl) (by kernel_rfl) (by kernel_rfl) (fun _ _ _ h => h) (Or.inl ⟨by rfl, ?yy63⟩) (by assumption) ?rr63
                      case yy63 => intro w' hSw; (try dsimp only at hSw); go_simp; try (with_reducible rfl)
                      (try simp only [Act.put]); (try simp only [List.setIfInBounds_toArray, List.set_cons_zero, List.set_cons_succ])
                      refine wpAnyH_ready (rs := [9]) (by kernel_rfl) (by simp) ?_
                      refine cons_lit rfl (fun K hK => ?ss9x64) AllReadyH.nil
                      case ss9x64 =>
                        go_simp
                        refine (r10Kind_any t cc _ ⟨b0, b1⟩).mono ?_
                        rintro e v6 ⟨rfl, rfl⟩
                        refine hK.out _ _ (by exact YX.out _ X1.out.bel) (fun hHeld => ?_)
                        clear hK K
                        (try simp only [Act.put]); (try simp only [List.setIfInBounds_toArray, List.set_cons_zero, List.set_cons_succ])
                        refine' take_lit (i := 10) (v := _) rfl (by kernel_rfl) (by kernel_rfl) (by kernel_rfl) (fun _ _ _ h => h) (Or.inl ⟨by rfl, ?yy65⟩) (by assumption) ?rr65
                        case yy65 => intro w' hSw; (try dsimp only at hSw); go_simp; try (with_reducible rfl)
                        (try simp only [Act.put]); (try simp only [List.setIfInBounds_toArray, List.set_cons_zero, List.set_cons_succ])
                        refine' take_lit (i := 11) (v := _) rfl (by kernel_rfl) (by kernel_rfl) (by kernel_rfl) (fun _ _ _ h => h) (Or.inl ⟨by rfl, ?yy66⟩) (by assumption) ?rr66
                        case yy66 => intro w' hSw; (try dsimp only at hSw); go_simp; try (with_reducible rfl)
                        (try simp only [Act.put]); (try simp only [List.setIfInBounds_toArray, List.set_cons_zero, List.set_cons_succ])
                        refine' take_lit (i := 12) (v := _) rfl (by kernel_rfl) (by kernel_rfl) (by kernel_rfl) (fun _ _ _ h => h) (Or.inl ⟨by rfl, ?yy67⟩) (by assumption) ?rr67
                        case yy67 => intro w' hSw; (try dsimp only at hSw); go_simp; try (with_reducible rfl)
                        (try simp only [Act.put]); (try simp only [List.setIfInBounds_toArray, List.set_cons_zero, List.set_cons_succ])
                        refine' take_lit (i := 13) (v := _) rfl (by kernel_rfl) (by kernel_rfl) (by kernel_rfl) (fun _ _ _ h => h) (Or.inl ⟨by rfl, ?yy68⟩) (by assumption) ?rr68
                        case yy68 => intro w' hSw; (try dsimp only at hSw); go_simp; try (with_reducible rfl)
                        (try simp only [Act.put]); (try simp only [List.setIfInBounds_toArray, List.set_cons_zero, List.set_cons_succ])
                        refine' take_lit (i := 14) (v := _) rfl (by kernel_rfl) (by kernel_rfl) (by kernel_rfl) (fun _ _ _ h => h) (Or.inl ⟨by rfl, ?yy69⟩) (by assumption) ?rr69
                        case yy69 => intro w' hSw; (try dsimp only at hSw); go_simp; try (with_reducible rfl)
                        (try simp only [Act.put]); (try simp only [List.setIfInBounds_toArray, List.set_cons_zero, List.set_cons_succ])
                        refine wpAnyH_done (by kernel_rfl) ?_ _
                        refine NoPanic.normal ?_
                        have hs : qsp zs = wordAt zs (q + 4) ∧ qdp zs = wordAt zs (q + 4) := by
                          rw [HQ.out]; exact q_spdp1 HP.out
                        have hk : qKd zs = kK t cc := by
                          unfold qKd
                          rw [if_neg (by rw [HP.out]; decide), if_pos HP.out, HTC.out.1, HTC.out.2]
                        have HK := Lib.hid hk
                        have HSD := Lib.hid hs
                        clear hk hs i3 i4 i5 i6 e5 e6
                        generalize wc.drew = v7 at X1 ⊢
                        by_cases h3 : kE t cc = 0
                        · have h0 : sKind t ≠ 0 := by
                            intro h; unfold kE at h3; rw [if_pos h] at h3; cases h3
                          have hkk : kK t cc = sKind t := by unfold kK; rw [if_pos h3]
                          rw [h3, hkk]
                          rw [hkk] at HK
                          clear h3 hkk
                          obtain ⟨kd, hkd⟩ : ∃ kd, kd = sKind t := ⟨_, rfl⟩
                          rw [← hkd] at HK h0 ⊢
                          clear hkd
                          by_cases h4 : kd = 5
                          · have HZ := Lib.hid (q_kd5 (zs := zs) HG.out (by rw [HK.out]; exact h4))
                            subst h4
                            clear h0
                            have T := Lib.hid (X1.out.setR 0 rfl key0)
                            go_wp2_with (refine wpList_store_row rfl 55 _ _ rfl N key0 rfl rfl 55 key0 (X1.out.blk 0 rfl) (by kernel_rfl) rfl (key5_one 0 0 0 0 0) ?_)
                            refine bodyPost_ret (results_cell_tmp2' rfl _ _ N 55 key0 _ _ rfl (T.out.blk 0 rfl) Tryd.underlying55 rfl (by kernel_rfl)) rfl ?_
                            exact QRes.mk HZ.out T.out.bel
                          · have t4 : (kd == 5) = false := by simp [h4]
                            have HZ := q_kd (zs := zs) HG.out (by rw [HK.out]; exact h0) (by rw [HK.out]; exact h4)
                            rw [HK.out, HP.out, HSD.out.1, HSD.out.2] at HZ
                            have HZZ := Lib.hid HZ
                            clear h0 h4 HZ
                            obtain ⟨u2, v2⟩ := wordAt_bd hz (q + 4)
                            have g2 : IntKind.u16.wrap (wordAt zs (q + 4)) = wordAt zs (q + 4) := u16_in _ u2 v2
                            have e5 : IntKind.i64.wrap ((q : Int) + 4) = (q : Int) + 4 := IntWalk.i64_in _ (by omega)
                            go_wp2_with fail
                            refine (r10at_any (some ⟨b, off, none⟩) n c zs (q + 4) (q + 4) _ (R.out _ X1.out.bel) hz (by omega) (by omega) (by omega)).mono ?_
                            rintro e x1 ⟨rfl, mx1, hx1⟩
                            have X2 := Lib.hid (hx1 ▸ X1.out.drewN mx1)
                            clear hx1
                            go_wp2_with fail
                            refine (r10at_any (some ⟨b, off, none⟩) n c zs (q + 4) (q + 4) _ (R.out _ X2.out.bel) hz (by omega) (by omega) (by omega)).mono ?_
                            rintro e x2 ⟨rfl, mx2, hx2⟩
                            have X3 := Lib.hid (hx2 ▸ X2.out.drewN mx2)
                            clear hx2
                            have c3 : x2.cell? ⟨M, 3, none⟩ = some (.int .u16 0) := X3.out.cell 1 rfl 3 rfl
                            have c4 : x2.cell? ⟨M, 4, none⟩ = some (.int .u16 0) := X3.out.cell 1 rfl 4 rfl
                            have d3 := X3.out.free 1 rfl 3
                            have d4 := X3.out.free 1 rfl 4
                            have X4 := Lib.hid (show SP w _ [.blk N 55 key0, .blk M 55 (key5 1 (qS zs) (qD zs) (wordAt zs (q + 4)) (wordAt zs (q + 4)))] from (X3.out.setB 1 rfl 3 (.int .u16 (wordAt zs (q + 4)))).setB 1 rfl 4 (.int .u16 (wordAt zs (q + 4))))
                            clear X1 X2 X3
                            go_upto_region 25 with fail
                            generalize (x2.setCell ⟨M, 3, none⟩ (.int .u16 (wordAt zs (q + 4)))).setCell ⟨M, 4, none⟩ (.int .u16 (wordAt zs (q + 4))) = v8 at X4 ⊢
                            clear c3 c4 d3 d4 g2 e5
                            have T := Lib.hid (X4.out.setR 0 rfl (key5 1 (qS zs) (qD zs) (wordAt zs (q + 4)) (wordAt zs (q + 4))))
                            go_wp2_with (first | (refine wpList_load_row rfl 55 _ rfl M rfl 55 (key5 1 (qS zs) (qD zs) (wordAt zs (q + 4)) (wordAt zs (q + 4))) _ _ (X4.out.blk 1 rfl) Tryd.underlying55 rfl (by kernel_rfl) ?_) | (refine wpList_store_row rfl 55 _ _ rfl N (key5 1 (qS zs) (qD zs) (wordAt zs (q + 4)) (wordAt zs (q + 4))) rfl rfl 55 key0 (X4.out.blk 0 rfl) (by kernel_rfl) rfl (key5_one _ _ _ _ _) ?_))
                            refine bodyPost_ret (results_cell_tmp2' rfl _ _ N 55 (key5 1 (qS zs) (qD zs) (wordAt zs (q + 4)) (wordAt zs (q + 4))) _ _ rfl (T.out.blk 0 rfl) Tryd.underlying55 rfl (by kernel_rfl)) rfl ?_
                            exact QRes.mk HZZ.out T.out.bel
                        · have t3 : (kE t cc != 0) = true := by simp [h3]
                          have hkk : kK t cc = 0 := by unfold kK; rw [if_neg h3]
                          have HZ := Lib.hid (q_kd0 (zs := zs) HG.out (by rw [HK.out, hkk]))
                          clear h3 hkk
                          have T := Lib.hid (X1.out.setR 0 rfl key0)
                          go_wp2_with (refine wpList_store_row rfl 55 _ _ rfl N key0 rfl rfl 55 key0 (X1.out.blk 0 rfl) (by kernel_rfl) rfl (key5_one 0 0 0 0 0) ?_)
                          refine bodyPost_ret (results_cell_tmp2' rfl _ _ N 55 key0 _ _ rfl (T.out.blk 0 rfl) Tryd.underlying55 rfl (by kernel_rfl)) rfl ?_
                          exact QRes.mk HZ.out T.out.bel
                    · have t6 : (qP zs == 6) = false := by simp [hp.1]
                      have t17 : (qP zs == 17) = false := by simp [hp.2.1]
                      have t1 : (qP zs != 1) = true := by simp [hp.2.2]
                      have HZ := Lib.hid (q_kd0 (zs := zs) HG.out (by unfold qKd; rw [if_neg (by omega), if_neg hp.2.2]))
                      clear hp
                      have T := Lib.hid (Z.out.setR 0 rfl key0)
                      go_wp2_with (refine wpList_store_row rfl 55 _ _ rfl N key0 rfl rfl 55 key0 (Z.out.blk 0 rfl) (by kernel_rfl) rfl (key5_one 0 0 0 0 0) ?_)
                      refine bodyPost_ret (results_cell_tmp2' rfl _ _ N 55 key0 _ _ rfl (T.out.blk 0 rfl) Tryd.underlying55 rfl (by kernel_rfl)) rfl ?_
                      exact QRes.mk HZ.out T.out.bel
                · have t5 : (fl % 8192 != 0) = true := by simp [h8]
                  have HB := Lib.hid (q_bad (q_flags (zs := zs) (.inr (by rw [← HF.out]; exact h8))))
                  clear h7 h8
                  have T := Lib.hid (X2.out.setR 0 rfl key0)
                  go_wp2_with (refine wpList_store_row rfl 55 _ _ rfl N key0 rfl rfl 55 key0 (X2.out.blk 0 rfl) (by kernel_rfl) rfl (key5_one 0 0 0 0 0) ?_)
                  refine bodyPost_ret (results_cell_tmp2' rfl _ _ N 55 key0 _ _ rfl (T.out.blk 0 rfl) Tryd.underlying55 rfl (by kernel_rfl)) rfl ?_
                  exact QRes.mk HB.out T.out.bel
          · have t3 : (sm != 65535) = true := by simp [h5]
            have HB := Lib.hid (q_bad (q_sum (zs := zs) (.inl (by rw [← HQ.out, ← HSM.out]; exact h5))))
            clear h5
            have T := Lib.hid (X0.out.setR 0 rfl key0)
            go_wp2_with (refine wpList_store_row rfl 55 _ _ rfl N key0 rfl rfl 55 key0 (X0.out.blk 0 rfl) (by kernel_rfl) rfl (key5_one 0 0 0 0 0) ?_)
            refine bodyPost_ret (results_cell_tmp2' rfl _ _ N 55 key0 _ _ rfl (T.out.blk 0 rfl) Tryd.underlying55 rfl (by kernel_rfl)) rfl ?_
            exact QRes.mk HB.out T.out.bel
    · have t1 : (u / 16 != 4) = true := by simp [hv]
      have HB := Lib.hid (q_bad (q_ver (zs := zs) (by rw [← HU.out]; exact hv)))
      clear hv
      have T := Lib.hid (X0.out.setR 0 rfl key0)
      go_wp2_with (refine wpList_store_row rfl 55 _ _ rfl N key0 rfl rfl 55 key0 (X0.out.blk 0 rfl) (by kernel_rfl) rfl (key5_one 0 0 0 0 0) ?_)
      refine bodyPost_ret (results_cell_tmp2' rfl _ _ N 55 key0 _ _ rfl (T.out.blk 0 rfl) Tryd.underlying55 rfl (by kernel_rfl)) rfl ?_
      exact QRes.mk HB.out T.out.bel
end Go.Proofs.YtjbkfhdbgphodaaDoor
