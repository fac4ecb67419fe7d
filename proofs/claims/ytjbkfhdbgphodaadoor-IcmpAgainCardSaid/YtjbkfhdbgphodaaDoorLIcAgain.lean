/- The walk of IcmpAgain. -/
import Derived.Test.YtjbkfhdbgphodaaDoorLIcP
import Derived.Test.YtjbkfhdbgphodaaDoorLIcReads
import Derived.Deep.DeepCutAuto
namespace Go.Proofs.YtjbkfhdbgphodaaDoor
open Go.RowKit
set_option linter.unusedVariables false
attribute [local go_sem ↓] Go.wp_at_zero Go.wp_at_succ

theorem icE_bad {zs : List Int} (h : icE zs ≠ 0) : 100 ≤ icE zs ∧ icE zs ≤ 102 := by
  unfold icE kE at h ⊢
  repeat' split
  all_goals first | omega | simp_all

theorem u8_not (x : Int) (h0 : 0 ≤ x) (h1 : x ≤ 255) : bits .xor .u8 255 x = 255 - x := by
  obtain ⟨a, rfl⟩ := Int.eq_ofNat_of_zero_le h0
  have key : ∀ a : Nat, a < 256 → bits .xor .u8 255 (a : Int) = 255 - (a : Int) := by decide +kernel
  exact key a (by omega)

set_option maxHeartbeats 16000000 in
set_option maxRecDepth 100000 in
theorem icmpAgain_walk (A : Option Addr) (n c : Nat) (zs : List Int) (w : World) (h : ROW .u8 255 w A n c zs) (hS : SORTS w) :
    Calls Tryd.prog 8 #[.slice A n c] w fun e w' => e = .returned (.bool true) ∧ Below w.heap.size w w' := by
  obtain ⟨i0, hi, hz0, hz1, hz2⟩ := info_parts infoU8
  have HL := Lib.hid h.rd.len
  have R := Lib.hid (fun (W : World) (hb : Below w.heap.size w W) => (show RD .u8 W W.heap.size A n zs from (h.rd.below hb).more hb.size))
  have hz := h.bd
  have hn := h.le
  have HS := Lib.hid (fun (W : World) (hb : Below w.heap.size w W) => hS.below hb)
  have S0 := SP.start w
  clear h
  go_enter Tryd.func8, Tryd.ntmps8
  go_wp2_with fail
  refine (awake10_any _ hS).mono ?_
  rintro e w1 ⟨rfl, hb1⟩
  have S1 := Lib.hid (S0.next hb1)
  clear S0 hb1 hS
  by_cases hbig : 300 < n
  · have t1 : (300 : Int) < (n : Int) := by omega
    go_wp2_with fail
    go_ret
    exact ⟨rfl, S1.out.bel⟩
  · have t1 : ¬ (300 : Int) < (n : Int) := by omega
    go_wp2_with fail
    refine (icread_any A n c zs _ (R.out _ S1.out.bel) hz hn (by omega) (HS.out _ S1.out.bel)).mono ?_
    rintro e w2 ⟨rfl, hb2⟩
    have S2 := Lib.hid ((S1.out.next hb2).alloc 27 (icM zs))
    clear hb2 S1
    by_cases hE : icE zs = 0
    · obtain ⟨h8, hk⟩ := ic_kE hE
      rw [HL.out] at h8
      obtain ⟨a0, a1⟩ := hz.get (by omega) 0
      obtain ⟨b0, b1⟩ := hz.get (by omega) 1
      obtain ⟨t, ht⟩ : ∃ t : Nat, zs[0]?.getD 0 = (t : Int) := ⟨(zs[0]?.getD 0).toNat, by omega⟩
      have hM : icM zs = msg4 (t : Int) (zs[1]?.getD 0) (wordAt zs 4) (wordAt zs 6) := by unfold icM; rw [if_pos hE, ht]; rfl
      obtain ⟨hwE, hwB⟩ := ic_again hz hE (by rw [HL.out]; omega) ht
      rw [HL.out] at hwE
      have HWE := Lib.hid hwE
      have HWB := Lib.hid hwB
      have hfb : BD 255 (fixOf zs 2) := fixOf_bd hz 2
      have HV := Lib.hid (show icV (fixOf zs 2) = true by
        unfold icV; rw [fixOf_len, HL.out, decide_eq_true h8, fix_right hz (by rfl) (by rw [HL.out]; omega)]; rfl)
      rw [ht] at a0 a1
      rw [hM] at S2 ⊢
      rw [hE]
      clear hE hM hk hwE hwB ht
      unfold msg4
      go_upto_region 6 with fail
      rw [show w2.alloc (.cells #[.int .u8 (t : Int), .int .u8 (zs[1]?.getD 0), .int .u16 (wordAt zs 4), .int .u16 (wordAt zs 6)] 27) = w2.alloc (.cells (msg4 (t : Int) (zs[1]?.getD 0) (wordAt zs 4) (wordAt zs 6)) 27) from rfl]
      generalize w2.alloc (.cells (msg4 (t : Int) (zs[1]?.getD 0) (wordAt zs 4) (wordAt zs 6)) 27) = w3 at S2 ⊢
      have s8 := fun W => run_slice_lo (P := Tryd.prog) W Tryd.underlying22 hi hz1 A n c 8 8 rfl (by omega)
      go_upto_region 8 with fail
      have X0 := Lib.hid S2.out.drew
      have hw4 := wordAt_bd hz 4
      have hw6 := wordAt_bd hz 6
      refine wp_region_noPanic ?_
      refine wp_region_held_drew (S := fun W => BLOCK W w2.heap.size 27 (msg4 (t : Int) (zs[1]?.getD 0) (wordAt zs 4) (wordAt zs 6))) (by kernel_rfl) (by exact X0.out.blk 0 rfl) (fun hHeld => ?_)
      refine' take_lit (i := 0) (v := .agg (msg4 (t : Int) (zs[1]?.getD 0) (wordAt zs 4) (wordAt zs 6))) rfl (by kernel_rfl) (by kernel_rfl) (by kernel_rfl) (fun _ _ _ h => h) (Or.inl ⟨by rfl, ?yy1⟩) (by assumption) ?rr1
      case yy1 => intro w' hSw; exact exec_load_row 27 _ rfl w2.heap.size rfl 27 (msg4 (t : Int) (zs[1]?.getD 0) (wordAt zs 4) (wordAt zs 6)) (0, 0) _ hSw Tryd.underlying27 rfl (by kernel_rfl)
      (try simp only [Act.put]); (try simp only [List.setIfInBounds_toArray, List.set_cons_zero, List.set_cons_succ])
      refine' take_lit (i := 1) (v := _) rfl (by kernel_rfl) (by kernel_rfl) (by kernel_rfl) (fun _ _ _ h => h) (Or.inl ⟨by rfl, ?yy2⟩) (by assumption) ?rr2
      case yy2 => intro w' hSw; (try dsimp only at hSw); go_simp; try (with_reducible rfl)
      (try simp only [Act.put]); (try simp only [List.setIfInBounds_toArray, List.set_cons_zero, List.set_cons_succ])
      refine' take_lit (i := 2) (v := _) rfl (by kernel_rfl) (by kernel_rfl) (by kernel_rfl) (fun _ _ _ h => h) (Or.inl ⟨by rfl, ?yy3⟩) (by assumption) ?rr3
      case yy3 => intro w' hSw; (try dsimp only at hSw); go_simp; try (with_reducible rfl)
      (try simp only [Act.put]); (try simp only [List.setIfInBounds_toArray, List.set_cons_zero, List.set_cons_succ])
      refine wpAnyH_ready (rs := [3]) (by kernel_rfl) (by simp) ?_
      refine cons_lit rfl (fun K hK => ?ss3) AllReadyH.nil
      case ss3 =>
        go_simp
        refine (icwrite_any t (zs[1]?.getD 0) (wordAt zs 4) (wordAt zs 6) (cutA A c 8) (n - 8) (c - 8) (zs.drop 8) _ (by omega) ⟨b0, b1⟩ hw4 hw6 ((R.out _ X0.out.bel).cutA (lo := 8) (by omega) hn) (hz.drop _) (by omega) (HS.out _ X0.out.bel)).mono ?_
        rintro e w4 ⟨A4, n4, c4, rfl, own4, hb4⟩
        rw [HWE.out]
        rw [HWB.out] at own4
        have hn4 : n = n4 := by rw [← own4.len, fixOf_len, HL.out]
        subst hn4
        have hc4 := own4.le
        have X1 := Lib.hid (X0.out.pushOwn hb4 own4)
        clear own4 hb4
        refine hK.out _ _ (by exact X1.out.blk 0 rfl) (fun hHeld => ?_)
        clear hK K
        (try simp only [Act.put]); (try simp only [List.setIfInBounds_toArray, List.set_cons_zero, List.set_cons_succ])
        refine' take_lit (i := 4) (v := _) rfl (by kernel_rfl) (by kernel_rfl) (by kernel_rfl) (fun _ _ _ h => h) (Or.inl ⟨by rfl, ?yy5⟩) (by assumption) ?rr5
        case yy5 => intro w' hSw; (try dsimp only at hSw); go_simp; try (with_reducible rfl)
        (try simp only [Act.put]); (try simp only [List.setIfInBounds_toArray, List.set_cons_zero, List.set_cons_succ])
        refine' take_lit (i := 5) (v := _) rfl (by kernel_rfl) (by kernel_rfl) (by kernel_rfl) (fun _ _ _ h => h) (Or.inl ⟨by rfl, ?yy6⟩) (by assumption) ?rr6
        case yy6 => intro w' hSw; (try dsimp only at hSw); go_simp; try (with_reducible rfl)
        (try simp only [Act.put]); (try simp only [List.setIfInBounds_toArray, List.set_cons_zero, List.set_cons_succ])
        refine' take_lit (i := 6) (v := _) rfl (by kernel_rfl) (by kernel_rfl) (by kernel_rfl) (fun _ _ _ h => h) (Or.inl ⟨by rfl, ?yy7⟩) (by assumption) ?rr7
        case yy7 => intro w' hSw; (try dsimp only at hSw); go_simp; try (with_reducible rfl)
        (try simp only [Act.put]); (try simp only [List.setIfInBounds_toArray, List.set_cons_zero, List.set_cons_succ])
        refine' take_lit (i := 7) (v := _) rfl (by kernel_rfl) (by kernel_rfl) (by kernel_rfl) (fun _ _ _ h => h) (Or.inl ⟨by rfl, ?yy8⟩) (by assumption) ?rr8
        case yy8 => intro w' hSw; (try dsimp only at hSw); go_simp; try (with_reducible rfl)
        (try simp only [Act.put]); (try simp only [List.setIfInBounds_toArray, List.set_cons_zero, List.set_cons_succ])
        refine' take_lit (i := 8) (v := _) rfl (by kernel_rfl) (by kernel_rfl) (by kernel_rfl) (fun _ _ _ h => h) (Or.inl ⟨by rfl, ?yy9⟩) (by assumption) ?rr9
        case yy9 => intro w' hSw; (try dsimp only at hSw); go_simp; try (with_reducible rfl)
        (try simp only [Act.put]); (try simp only [List.setIfInBounds_toArray, List.set_cons_zero, List.set_cons_succ])
        refine wpAnyH_done (by kernel_rfl) ?_ _
        refine NoPanic.normal ?_
        have tn : ((n : Int) != (n : Int)) = false := by simp
        clear s8 X0 S2 a0 a1 b0 b1
        go_wp2_with fail
        refine (icverify_any A4 n c4 (fixOf zs 2) _ (X1.out.rd 1 rfl) hfb (by omega)).mono ?_
        rintro e w5 ⟨rfl, hb5⟩
        rw [HV.out]
        have X2 := Lib.hid (X1.out.next hb5)
        clear hb5 X1 tn
        go_wp2_with fail
        -- the two slices
        obtain ⟨g, rfl, hg1, _⟩ := (X2.out.own 1 rfl).form (by omega)
        obtain ⟨b, off, rfl, hb, hcell⟩ := (R.out w (Below.refl _ _)).2 (by omega)
        have HC := Lib.hid (fun (i : Nat) (hi : i < n) (W : World) (X : SP w W [.blk w2.heap.size 27 (msg4 (t : Int) (zs[1]?.getD 0) (wordAt zs 4) (wordAt zs 6)), .own .u8 5 (some ⟨g, 0, none⟩) n c4 (fixOf zs 2)]) => (show W.cell? ⟨g, i, none⟩ = some (.int .u8 ((fixOf zs 2)[i]?.getD 0)) ∧ W.cell? ⟨b, off + i, none⟩ = some (.int .u8 (zs[i]?.getD 0)) from
          ⟨(X.own 1 rfl).cell (i := i) hi, (X.bel.cell (p := ⟨b, off + i, none⟩) hb).trans (hcell i hi)⟩))
        clear hcell
        go_loopw [56] (fun i wr => ∃ k : Nat, k ≤ n ∧ i = .int .i64 k ∧ Hid (SP w wr [.blk w2.heap.size 27 (msg4 (t : Int) (zs[1]?.getD 0) (wordAt zs 4) (wordAt zs 6)), .own .u8 5 (some ⟨g, 0, none⟩) n c4 (fixOf zs 2)])) (fun i _ => n - (intOf i).toNat)
        case atStart => exact ⟨0, Nat.zero_le _, rfl, X2⟩
        case round =>
          obtain ⟨k, hk, rfl, X⟩ := hrel
          obtain ⟨wo, rfl⟩ : ∃ wo : World, wo = wr := ⟨_, rfl⟩
          clear X2
          by_cases hlt : k < n
          · have hlt' : (k : Int) < (n : Int) := by omega
            by_cases h23 : k = 2 ∨ k = 3
            · rcases h23 with rfl | rfl
              · go_wp2_with fail
                go_quiet (fail)
                go_wp2_with fail
                go_roundw
                case rel => exact ⟨3, by omega, rfl, Lib.hid (X.out.drewN _)⟩
                case measure => simp [intOf]; omega
              · go_wp2_with fail
                go_quiet (fail)
                go_wp2_with fail
                go_roundw
                case rel => exact ⟨4, by omega, rfl, Lib.hid (X.out.drewN _)⟩
                case measure => simp [intOf]; omega
            · have t2 : ((k : Int) != 2) = true := by simp; omega
              have t3 : ((k : Int) != 3) = true := by simp; omega
              obtain ⟨c1, c2⟩ := HC.out k hlt wo X.out
              rw [fix_get (by omega) (by omega)] at c1
              have tt : (zs[k]?.getD 0 != zs[k]?.getD 0) = false := by simp
              have i1 : (0 : Int) ≤ (k : Int) := by omega
              clear h23
              go_wp2_with fail
              go_quiet (fail)
              go_wp2_with fail
              go_roundw
              case rel => exact ⟨k + 1, by omega, by go_num, Lib.hid (X.out.drewN _)⟩
              case measure => simp [intOf]; omega
          · have hge : ¬ (k : Int) < (n : Int) := by omega
            have hkn : k = n := by omega
            clear hk hlt
            go_upto_region 17 with fail
            obtain ⟨c2, d2⟩ := HC.out 2 (by omega) wo X.out
            obtain ⟨c3, d3⟩ := HC.out 3 (by omega) wo X.out
            have hsame : wordAt zs 2 = fixC zs 2 ↔ (fixOf zs 2)[2]?.getD 0 = zs[2]?.getD 0 ∧ (fixOf zs 2)[3]?.getD 0 = zs[3]?.getD 0 := fix_eq hz (p := 2) (by rw [HL.out]; omega)
            have hfix := fix_same hz (p := 2) (by rfl) (by rw [HL.out]; omega)
            obtain ⟨g2, g3⟩ : (fixOf zs 2)[2]?.getD 0 = fixC zs 2 / 256 ∧ (fixOf zs 2)[3]?.getD 0 = fixC zs 2 % 256 := fix_get0 (zs := zs) (p := 2) (by rw [HL.out]; omega)
            obtain ⟨y0, y1⟩ := fixC_bd hz 2
            have hwz : wordAt zs 2 = zs[2]?.getD 0 * 256 + zs[3]?.getD 0 := rfl
            obtain ⟨b2, b2u⟩ := hz.get (by omega) 2
            obtain ⟨b3, b3u⟩ := hz.get (by omega) 3
            have hIV : icV zs = true ↔ sumOf zs = 65535 := by
              unfold icV; rw [HL.out, decide_eq_true h8]; simp
            generalize (fixOf zs 2)[3]?.getD 0 = β at c3 g3 hsame
            generalize (fixOf zs 2)[2]?.getD 0 = α at c2 g2 hsame
            generalize zs[3]?.getD 0 = y at d3 hsame hwz b3 b3u
            generalize zs[2]?.getD 0 = x at d2 hsame hwz b2 b2u
            rw [hfix] at hIV
            clear hfix
            generalize wordAt zs 2 = W2 at hsame hIV hwz
            generalize fixC zs 2 = C2 at hsame hIV g2 g3 y0 y1
            obtain ⟨rg, hrg⟩ : ∃ rg, rg = icV zs := ⟨_, rfl⟩
            have HRG := Lib.hid hrg
            rw [← hrg] at hIV
            clear hrg
            have i2 : (2 : Int) < (n : Int) := by omega
            have i3 : (3 : Int) < (n : Int) := by omega
            have j2 : 2 < n := by omega
            have j3 : 3 < n := by omega
            by_cases hS : α = x ∧ β = y
            · obtain ⟨rfl, rfl⟩ := hS
              obtain rfl : rg = true := hIV.2 (.inl (hsame.2 ⟨rfl, rfl⟩))
              clear hIV hsame g2 g3 hwz y0 y1
              have s1 : (α == α) = true := by simp
              have s2 : (β == β) = true := by simp
              by_cases hab : α = β
              · subst hab
                clear s2
                have e1 : bits .xor .u8 (if IntKind.u8.signed = true then -1 else IntKind.u8.max) α = 255 - α := u8_not α b2 b2u
                have s3 : (α == 255 - α) = false := by simp; omega
                go_quiet (fail)
                go_wp2_with fail
                go_quiet (fail)
                go_wp2_with fail
                refine (icverify_any _ n c zs _ (R.out _ (X.out.drewN _).bel) hz (by omega)).mono ?_
                rintro e w6 ⟨rfl, hb6⟩
                rw [← HRG.out]
                have X6 := Lib.hid ((X.out.drewN _).next hb6)
                clear hb6
                go_wp2_with fail
                go_ret
                exact ⟨rfl, X6.out.bel⟩
              · have s3 : (α == β) = false := by simp [hab]
                clear hab
                go_quiet (fail)
                go_wp2_with fail
                go_quiet (fail)
                go_wp2_with fail
                refine (icverify_any _ n c zs _ (R.out _ (X.out.drewN _).bel) hz (by omega)).mono ?_
                rintro e w6 ⟨rfl, hb6⟩
                rw [← HRG.out]
                have X6 := Lib.hid ((X.out.drewN _).next hb6)
                clear hb6
                go_wp2_with fail
                go_ret
                exact ⟨rfl, X6.out.bel⟩
            · have hnC : W2 ≠ C2 := fun h => hS (hsame.1 h)
              have e1 : bits .xor .u8 (if IntKind.u8.signed = true then -1 else IntKind.u8.max) x = 255 - x := u8_not x b2 b2u
              cases rg
              · clear hIV hsame g2 g3 y0 y1 hnC hwz HV HC
                by_cases hax : α = x
                · have s1 : (α == x) = true := by simp [hax]
                  have s2 : (β == y) = false := by simp; exact fun h => hS ⟨hax, h⟩
                  clear hS hax
                  by_cases hab : α = β
                  · have r1 : (α == β) = true := by simp [hab]
                    by_cases hxy : x = y
                    · have r2 : (x == y) = true := by simp [hxy]
                      by_cases hn3 : α = 255 - x
                      · have r3 : (α == 255 - x) = true := by simp [hn3]
                        by_cases hx0 : x = 0
                        · have r4 : (x == 0) = true := by simp [hx0]
                          clear hab hxy hn3 hx0
                          go_quiet (fail)
                          go_wp2_with fail
                          go_quiet (fail)
                          go_wp2_with fail
                          refine (icverify_any _ n c zs _ (R.out _ (X.out.drewN _).bel) hz (by omega)).mono ?_
                          rintro e w6 ⟨rfl, hb6⟩
                          rw [← HRG.out]
                          have X6 := Lib.hid ((X.out.drewN _).next hb6)
                          clear hb6
                          go_wp2_with fail
                          go_ret
                          exact ⟨rfl, X6.out.bel⟩
                        · have r4 : (x == 0) = false := by simp [hx0]
                          by_cases hx5 : x = 255
                          · have r5 : (x == 255) = true := by simp [hx5]
                            clear hab hxy hn3 hx0 hx5
                            go_quiet (fail)
                            go_wp2_with fail
                            go_quiet (fail)
                            go_wp2_with fail
                            refine (icverify_any _ n c zs _ (R.out _ (X.out.drewN _).bel) hz (by omega)).mono ?_
                            rintro e w6 ⟨rfl, hb6⟩
                            rw [← HRG.out]
                            have X6 := Lib.hid ((X.out.drewN _).next hb6)
                            clear hb6
                            go_wp2_with fail
                            go_ret
                            exact ⟨rfl, X6.out.bel⟩
                          · have r5 : (x == 255) = false := by simp [hx5]
                            clear hab hxy hn3 hx0 hx5
                            go_quiet (fail)
                            go_wp2_with fail
                            go_quiet (fail)
                            go_wp2_with fail
                            refine (icverify_any _ n c zs _ (R.out _ (X.out.drewN _).bel) hz (by omega)).mono ?_
                            rintro e w6 ⟨rfl, hb6⟩
                            rw [← HRG.out]
                            have X6 := Lib.hid ((X.out.drewN _).next hb6)
                            clear hb6
                            go_wp2_with fail
                            go_ret
                            exact ⟨rfl, X6.out.bel⟩
                      · have r3 : (α == 255 - x) = false := by simp [hn3]
                        clear hab hxy hn3
                        go_quiet (fail)
                        go_wp2_with fail
                        go_quiet (fail)
                        go_wp2_with fail
                        refine (icverify_any _ n c zs _ (R.out _ (X.out.drewN _).bel) hz (by omega)).mono ?_
                        rintro e w6 ⟨rfl, hb6⟩
                        rw [← HRG.out]
                        have X6 := Lib.hid ((X.out.drewN _).next hb6)
                        clear hb6
                        go_wp2_with fail
                        go_ret
                        exact ⟨rfl, X6.out.bel⟩
                    · have r2 : (x == y) = false := by simp [hxy]
                      clear hab hxy
                      go_quiet (fail)
                      go_wp2_with fail
                      go_quiet (fail)
                      go_wp2_with fail
                      refine (icverify_any _ n c zs _ (R.out _ (X.out.drewN _).bel) hz (by omega)).mono ?_
                      rintro e w6 ⟨rfl, hb6⟩
                      rw [← HRG.out]
                      have X6 := Lib.hid ((X.out.drewN _).next hb6)
                      clear hb6
                      go_wp2_with fail
                      go_ret
                      exact ⟨rfl, X6.out.bel⟩
                  · have r1 : (α == β) = false := by simp [hab]
                    clear hab
                    go_quiet (fail)
                    go_wp2_with fail
                    go_quiet (fail)
                    go_wp2_with fail
                    refine (icverify_any _ n c zs _ (R.out _ (X.out.drewN _).bel) hz (by omega)).mono ?_
                    rintro e w6 ⟨rfl, hb6⟩
                    rw [← HRG.out]
                    have X6 := Lib.hid ((X.out.drewN _).next hb6)
                    clear hb6
                    go_wp2_with fail
                    go_ret
                    exact ⟨rfl, X6.out.bel⟩
                · have s1 : (α == x) = false := by simp [hax]
                  clear hS hax
                  by_cases hab : α = β
                  · have r1 : (α == β) = true := by simp [hab]
                    by_cases hxy : x = y
                    · have r2 : (x == y) = true := by simp [hxy]
                      by_cases hn3 : α = 255 - x
                      · have r3 : (α == 255 - x) = true := by simp [hn3]
                        by_cases hx0 : x = 0
                        · have r4 : (x == 0) = true := by simp [hx0]
                          clear hab hxy hn3 hx0
                          go_quiet (fail)
                          go_wp2_with fail
                          go_quiet (fail)
                          go_wp2_with fail
                          refine (icverify_any _ n c zs _ (R.out _ (X.out.drewN _).bel) hz (by omega)).mono ?_
                          rintro e w6 ⟨rfl, hb6⟩
                          rw [← HRG.out]
                          have X6 := Lib.hid ((X.out.drewN _).next hb6)
                          clear hb6
                          go_wp2_with fail
                          go_ret
                          exact ⟨rfl, X6.out.bel⟩
                        · have r4 : (x == 0) = false := by simp [hx0]
                          by_cases hx5 : x = 255
                          · have r5 : (x == 255) = true := by simp [hx5]
                            clear hab hxy hn3 hx0 hx5
                            go_quiet (fail)
                            go_wp2_with fail
                            go_quiet (fail)
                            go_wp2_with fail
                            refine (icverify_any _ n c zs _ (R.out _ (X.out.drewN _).bel) hz (by omega)).mono ?_
                            rintro e w6 ⟨rfl, hb6⟩
                            rw [← HRG.out]
                            have X6 := Lib.hid ((X.out.drewN _).next hb6)
                            clear hb6
                            go_wp2_with fail
                            go_ret
                            exact ⟨rfl, X6.out.bel⟩
                          · have r5 : (x == 255) = false := by simp [hx5]
                            clear hab hxy hn3 hx0 hx5
                            go_quiet (fail)
                            go_wp2_with fail
                            go_quiet (fail)
                            go_wp2_with fail
                            refine (icverify_any _ n c zs _ (R.out _ (X.out.drewN _).bel) hz (by omega)).mono ?_
                            rintro e w6 ⟨rfl, hb6⟩
                            rw [← HRG.out]
                            have X6 := Lib.hid ((X.out.drewN _).next hb6)
                            clear hb6
                            go_wp2_with fail
                            go_ret
                            exact ⟨rfl, X6.out.bel⟩
                      · have r3 : (α == 255 - x) = false := by simp [hn3]
                        clear hab hxy hn3
                        go_quiet (fail)
                        go_wp2_with fail
                        go_quiet (fail)
                        go_wp2_with fail
                        refine (icverify_any _ n c zs _ (R.out _ (X.out.drewN _).bel) hz (by omega)).mono ?_
                        rintro e w6 ⟨rfl, hb6⟩
                        rw [← HRG.out]
                        have X6 := Lib.hid ((X.out.drewN _).next hb6)
                        clear hb6
                        go_wp2_with fail
                        go_ret
                        exact ⟨rfl, X6.out.bel⟩
                    · have r2 : (x == y) = false := by simp [hxy]
                      clear hab hxy
                      go_quiet (fail)
                      go_wp2_with fail
                      go_quiet (fail)
                      go_wp2_with fail
                      refine (icverify_any _ n c zs _ (R.out _ (X.out.drewN _).bel) hz (by omega)).mono ?_
                      rintro e w6 ⟨rfl, hb6⟩
                      rw [← HRG.out]
                      have X6 := Lib.hid ((X.out.drewN _).next hb6)
                      clear hb6
                      go_wp2_with fail
                      go_ret
                      exact ⟨rfl, X6.out.bel⟩
                  · have r1 : (α == β) = false := by simp [hab]
                    clear hab
                    go_quiet (fail)
                    go_wp2_with fail
                    go_quiet (fail)
                    go_wp2_with fail
                    refine (icverify_any _ n c zs _ (R.out _ (X.out.drewN _).bel) hz (by omega)).mono ?_
                    rintro e w6 ⟨rfl, hb6⟩
                    rw [← HRG.out]
                    have X6 := Lib.hid ((X.out.drewN _).next hb6)
                    clear hb6
                    go_wp2_with fail
                    go_ret
                    exact ⟨rfl, X6.out.bel⟩
              · have hh : W2 = 65535 ∧ C2 = 0 := (hIV.1 rfl).resolve_left hnC
                obtain ⟨rfl, rfl⟩ := hh
                obtain rfl : x = 255 := by omega
                obtain rfl : y = 255 := by omega
                obtain rfl : α = 0 := by omega
                obtain rfl : β = 0 := by omega
                clear hIV hsame g2 g3 y0 y1 hnC hwz hS b2 b2u b3 b3u
                go_quiet (fail)
                go_wp2_with fail
                go_quiet (fail)
                go_wp2_with fail
                refine (icverify_any _ n c zs _ (R.out _ (X.out.drewN _).bel) hz (by omega)).mono ?_
                rintro e w6 ⟨rfl, hb6⟩
                rw [← HRG.out]
                have X6 := Lib.hid ((X.out.drewN _).next hb6)
                clear hb6
                go_wp2_with fail
                go_ret
                exact ⟨rfl, X6.out.bel⟩
    · have hM : icM zs = msg0 := by unfold icM; rw [if_neg hE]; rfl
      obtain ⟨e1, e2⟩ := icE_bad hE
      have t2 : (icE zs != 0) = true := by simp [hE]
      rw [hM] at S2 ⊢
      generalize icE zs = er at *
      clear hE hM
      unfold msg0
      go_wp2_with fail
      go_ret
      exact ⟨rfl, S2.out.bel⟩
end Go.Proofs.YtjbkfhdbgphodaaDoor
