import Derived.Test.YthdpcblmmjocmaaWTcSm
/- bafflelaw08.TcpSmall. (Printed by gen_tcsmall.py.) -/
namespace Go.Proofs.Ythdpcblmmjocmaa
open Go.RowKit
set_option linter.unusedVariables false

theorem sm_right {M : Nat} (hM : M ≤ 65495) : ¬ TWrong (TH.mk 1 2 0 0 4 0 0) 0 M := by
  intro h
  rcases h with h | h | h | h | h | h
  · cases h
  · cases h
  · exact absurd h (by decide)
  · omega
  · omega
  · omega
theorem sm_wrong {on M : Nat} (hM : 65495 < on + M) : TWrong (TH.mk 1 2 0 0 4 0 0) on M := .inr (.inr (.inr (.inr (.inr (by omega)))))

set_option maxHeartbeats 16000000 in
set_option maxRecDepth 100000 in
theorem tcpSmall_walk (w : World) : Calls Try.prog 6 #[] w fun e w' => e = .returned (.bool true) ∧ Below w.heap.size w w' := by
  obtain ⟨i0, hi, hz0, hz1, hz2⟩ := info_parts infoU8
  go_enter Try.func6, Try.ntmps6
  go_wp2_with fail
  refine (example8_any _).mono ?_
  rintro e w1 ⟨rfl, rfl⟩
  have S1 : SP w (w.alloc (.cells (EX8.map (Value.int .u8)).toArray 5)) [.own .u8 5 (some ⟨w.heap.size, 0, none⟩) 20 20 EX8] := (SP.start w).allocI .u8 5 EX8 (by decide)
  generalize w.alloc (.cells (EX8.map (Value.int .u8)).toArray 5) = w1 at S1 ⊢
  generalize hG : w.heap.size = G at S1 ⊢
  go_upto_region 3 with fail
  refine small8_1 w w1 G hG S1 ?_
  intro y0 y4 y5 y6 y29 y30 y31 y32 y33 y34 y35 y36 y37 y38 y39 y40 y41 y42 y43 y44 y45 y46 y47 y48 y49 y50 y51 y52 y53 y54 y55 y56 y57 y58 y59 y60 y61 y62 y63 y64 y65 y66 y67 y68 y69 y70 y71 y72 y73 y74 y75 y76 y77 y78 y79 y80 y81 y82 y83 y84 y85 y86 y87 y88 y89 y90 y91 y92 y93 y94 y95 y96 y97 y98 y99 y100 y101 y102 y103 y104 y105 y106 y107 y108 w2 S2
  have X2 := Lib.hid S2
  clear S1 S2
  have X3 := Lib.hid (X2.out.allocI .u8 5 [0, 1, 2, 3, 4, 5, 8, 10, 14] (by decide))
  go_upto_region 16 with fail
  change Code.wp _ _ _ _ (w2.alloc (.cells (([0, 1, 2, 3, 4, 5, 8, 10, 14] : List Int).map (Value.int .u8)).toArray 5))
  generalize w2.alloc (.cells (([0, 1, 2, 3, 4, 5, 8, 10, 14] : List Int).map (Value.int .u8)).toArray 5) = w3 at X3 ⊢
  generalize w2.heap.size = G2 at X3 ⊢
  clear X2
  refine small8_2 w w3 G G2 hG X3.out ?_
  intro y0 y8 y9 y110 y111 y112 y113 y114 y115 y116 y117 y118 y119 y120 y121 y122 y123 y124 y125 y126 y127 y128 y129 y130 y131 y132 y133 y134 y135 y136 y137 y138 y139 y140 w4 S4
  have X4 := Lib.hid (show SP w w4 [.own .u8 5 (some ⟨G, 0, none⟩) 20 20 EX8] from S4.pick [0] (by decide) rfl)
  clear X3 S4
  go_upto_region 22 with fail
  refine small8_3 w w4 G hG X4.out ?_
  intro y0 y10 y11 y12 y141 y142 y143 y144 y145 y146 y147 y148 y149 y150 y151 y152 y153 y154 y155 y156 y157 y158 y159 y160 y161 y162 y163 y164 y165 y166 y167 y168 y169 y170 y171 y172 y173 y174 y175 y176 y177 y178 y179 y180 y181 y182 y183 y184 y185 y186 y187 y188 y189 y190 y191 y192 y193 y194 y195 y196 y197 w5 S5
  have X5 := Lib.hid S5
  clear X4 S5
  go_upto_region 35 with fail
  refine small8_5 w w5 G hG X5.out ?_
  intro y0 y13 y15 y198 y199 y200 y201 y202 y203 y204 y205 y206 y207 y208 y209 y210 y211 y212 y213 y214 y215 y216 y217 y218 y219 y220 y221 y222 y223 y224 y225 y226 w6 S6
  have X6 := Lib.hid S6
  clear X5 S6
  have X7 := Lib.hid (X6.out.alloc 28 ((TH.mk 1 2 0 0 4 0 0).cells (.slice none 0 0)))
  obtain ⟨H, hH⟩ : ∃ g, g = w6.heap.size := ⟨_, rfl⟩
  rw [← hH] at X7
  go_upto_region 44 with fail
  rw [← hH]
  change Code.wp _ _ _ _ (w6.alloc (.cells ((TH.mk 1 2 0 0 4 0 0).cells (.slice none 0 0)) 28))
  generalize w6.alloc (.cells ((TH.mk 1 2 0 0 4 0 0).cells (.slice none 0 0)) 28) = w7 at X7 ⊢
  clear X6 hH
  obtain ⟨L, hL⟩ : ∃ L : Nat, L = 65496 := ⟨_, rfl⟩
  have La : 65496 ≤ L := by omega
  have Lb : L ≤ 65496 := by omega
  clear hL
  obtain ⟨w8, hrun, own8, hb8, hs8⟩ := run_make_cap (P := Try.prog) (k := .u8) w7 22 i0 Try.underlying22 hi hz0 hz1 (by omega) (65496 : Int) (65496 : Int) L L (by omega) (by omega) (Nat.le_refl _) (by omega)
  have X8 := X7.out.pushOwn hb8 own8
  obtain ⟨GL, hGL⟩ : ∃ g, g = w7.heap.size := ⟨_, rfl⟩
  rw [← hGL] at hrun X8
  replace X8 := Lib.hid (show SP w w8 [.own .u8 5 (some ⟨G, 0, none⟩) 20 20 EX8, .blk H 28 ((TH.mk 1 2 0 0 4 0 0).cells (.slice none 0 0)), .own .u8 5 (some ⟨GL, 0, none⟩) L L (List.replicate L 0)] from X8)
  clear own8 hb8 hs8 hGL X7
  go_upto_region 45 with fail
  clear hrun
  obtain ⟨M, hM⟩ : ∃ M : Nat, M = L - 1 := ⟨_, rfl⟩
  have Ma : 65495 ≤ M := by omega
  have Mb : M ≤ 65495 := by omega
  have s1 := fun W => run_slice_lo (P := Try.prog) W Try.underlying22 hi hz1 (some ⟨GL, 0, none⟩) L L 1 1 rfl (by omega)
  rw [← hM] at s1
  obtain ⟨AD, hAD⟩ : ∃ x, cutA (some ⟨GL, 0, none⟩) L 1 = x := ⟨_, rfl⟩
  obtain ⟨D, hD⟩ : ∃ D, D = (List.replicate L (0 : Int)).drop 1 := ⟨_, rfl⟩
  have HDD := Lib.hid (fun (W : World) (X : OWN .u8 5 W w.heap.size (some ⟨GL, 0, none⟩) L L (List.replicate L 0)) => (show RD .u8 W W.heap.size AD M D from by
    have o := X.rd.cutA (lo := 1) (c := L) (by omega) (Nat.le_refl _)
    rw [← hM, hAD, ← hD] at o
    exact o))
  rw [hAD] at s1
  obtain ⟨LC, hLC⟩ : ∃ x, L - 1 = x := ⟨_, rfl⟩
  have hbd : BD 255 D := by rw [hD]; exact (zeros_bd8 L).drop 1
  have hln' : D.length = M := by rw [hD, List.length_drop, List.length_replicate]; omega
  have HLN := Lib.hid hln'
  have HOK := Lib.hid (show TOK (TH.mk 1 2 0 0 4 0 0) [] D 167772161 167772162 from ⟨th_wf (by decide) (by decide) (by decide), (by decide : (1 : Int) ≠ 0), (by decide : (2 : Int) ≠ 0), by decide, by decide, rfl, (fun x hx => by cases hx), hbd, by rw [hln']; show 0 + M ≤ 65495; omega, by decide, by decide⟩)
  have HR1 := Lib.hid (sm_right (M := M) Mb)
  clear hD hM hAD hLC hln'
  refine wp_region_noPanic ?_
  refine wp_region_held_drew (S := fun W => W.heap[H]? = some (.cells ((TH.mk 1 2 0 0 4 0 0).cells (.slice none 0 0)) 28 (0, 0))) (by kernel_rfl) (by exact X8.out.drew.blk 1 rfl) (fun hHeld => ?_)
  have Y0 := Lib.hid X8.out.drew
  generalize w8.drew = x0 at Y0 hHeld ⊢
  refine' take_lit (i := 0) (v := .agg ((TH.mk 1 2 0 0 4 0 0).cells (.slice none 0 0))) rfl (by kernel_rfl) (by kernel_rfl) (by kernel_rfl) (fun _ _ _ h => h) (Or.inl ⟨by rfl, ?yy40⟩) (by assumption) ?rr40
  case yy40 => intro w' hSw; exact exec_load_row 28 _ rfl H rfl 28 ((TH.mk 1 2 0 0 4 0 0).cells (.slice none 0 0)) (0, 0) _ (hSw) Try.underlying28 rfl (by kernel_rfl)
  (try simp only [Act.put]); (try simp only [List.setIfInBounds_toArray, List.set_cons_zero, List.set_cons_succ])
  refine' take_lit (i := 1) (v := _) rfl (by kernel_rfl) (by kernel_rfl) (by kernel_rfl) (fun _ _ _ h => h) (Or.inl ⟨by rfl, ?yy41⟩) (by assumption) ?rr41
  case yy41 => intro w' hSw; (try dsimp only at hSw); go_simp; try (with_reducible rfl)
  (try simp only [Act.put]); (try simp only [List.setIfInBounds_toArray, List.set_cons_zero, List.set_cons_succ])
  refine' take_lit (i := 2) (v := _) rfl (by kernel_rfl) (by kernel_rfl) (by kernel_rfl) (fun _ _ _ h => h) (Or.inl ⟨by rfl, ?yy42⟩) (by assumption) ?rr42
  case yy42 => intro w' hSw; (try dsimp only at hSw); go_simp; try (with_reducible rfl)
  (try simp only [Act.put]); (try simp only [List.setIfInBounds_toArray, List.set_cons_zero, List.set_cons_succ])
  refine' take_lit (i := 3) (v := _) rfl (by kernel_rfl) (by kernel_rfl) (by kernel_rfl) (fun _ _ _ h => h) (Or.inl ⟨by rfl, ?yy43⟩) (by assumption) ?rr43
  case yy43 => intro w' hSw; (try dsimp only at hSw); go_simp; try (with_reducible rfl)
  (try simp only [Act.put]); (try simp only [List.setIfInBounds_toArray, List.set_cons_zero, List.set_cons_succ])
  refine' take_lit (i := 4) (v := _) rfl (by kernel_rfl) (by kernel_rfl) (by kernel_rfl) (fun _ _ _ h => h) (Or.inl ⟨by rfl, ?yy44⟩) (by assumption) ?rr44
  case yy44 => intro w' hSw; (try dsimp only at hSw); go_simp; try (with_reducible rfl)
  (try simp only [Act.put]); (try simp only [List.setIfInBounds_toArray, List.set_cons_zero, List.set_cons_succ])
  refine wpAnyH_ready (rs := [5]) (by kernel_rfl) (by simp) ?_
  refine cons_lit rfl (fun K hK => ?ss5x56) AllReadyH.nil
  case ss5x56 =>
    go_simp
    refine (tcwrite_any (TH.mk 1 2 0 0 4 0 0) HOK.out.wf none 0 0 [] 167772161 167772162 AD M _ D _ RD.nil (fun x hx => by cases hx) (by decide) (by decide) (by decide) (HDD.out _ (Y0.out.own 2 rfl)) hbd (by omega)).mono ?_
    rintro e x1 ⟨A5, n5, c5, rfl, own5, hb5⟩
    rw [show tE (TH.mk 1 2 0 0 4 0 0) 0 M = 0 from if_neg HR1.out]
    have Y1 := Lib.hid (Y0.out.pushOwn hb5 own5)
    clear own5 hb5
    refine hK.out _ _ (by exact Y1.out.blk 1 rfl) (fun hHeld => ?_)
    clear hK K
    (try simp only [Act.put]); (try simp only [List.setIfInBounds_toArray, List.set_cons_zero, List.set_cons_succ])
    refine' take_lit (i := 6) (v := _) rfl (by kernel_rfl) (by kernel_rfl) (by kernel_rfl) (fun _ _ _ h => h) (Or.inl ⟨by rfl, ?yy57⟩) (by assumption) ?rr57
    case yy57 => intro w' hSw; (try dsimp only at hSw); go_simp; try (with_reducible rfl)
    (try simp only [Act.put]); (try simp only [List.setIfInBounds_toArray, List.set_cons_zero, List.set_cons_succ])
    refine' take_lit (i := 7) (v := _) rfl (by kernel_rfl) (by kernel_rfl) (by kernel_rfl) (fun _ _ _ h => h) (Or.inl ⟨by rfl, ?yy58⟩) (by assumption) ?rr58
    case yy58 => intro w' hSw; (try dsimp only at hSw); go_simp; try (with_reducible rfl)
    (try simp only [Act.put]); (try simp only [List.setIfInBounds_toArray, List.set_cons_zero, List.set_cons_succ])
    refine' take_lit (i := 8) (v := _) rfl (by kernel_rfl) (by kernel_rfl) (by kernel_rfl) (fun _ _ _ h => h) (Or.inl ⟨by rfl, ?yy59⟩) (by assumption) ?rr59
    case yy59 => intro w' hSw; (try dsimp only at hSw); go_simp; try (with_reducible rfl)
    (try simp only [Act.put]); (try simp only [List.setIfInBounds_toArray, List.set_cons_zero, List.set_cons_succ])
    refine' take_lit (i := 9) (v := _) rfl (by kernel_rfl) (by kernel_rfl) (by kernel_rfl) (fun _ _ _ h => h) (Or.inl ⟨by rfl, ?yy60⟩) (by assumption) ?rr60
    case yy60 => intro w' hSw; (try dsimp only at hSw); go_simp; try (with_reducible rfl)
    (try simp only [Act.put]); (try simp only [List.setIfInBounds_toArray, List.set_cons_zero, List.set_cons_succ])
    refine' take_lit (i := 10) (v := _) rfl (by kernel_rfl) (by kernel_rfl) (by kernel_rfl) (fun _ _ _ h => h) (Or.inl ⟨by rfl, ?yy61⟩) (by assumption) ?rr61
    case yy61 => intro w' hSw; (try dsimp only at hSw); go_simp; try (with_reducible rfl)
    (try simp only [Act.put]); (try simp only [List.setIfInBounds_toArray, List.set_cons_zero, List.set_cons_succ])
    refine wpAnyH_done (by kernel_rfl) ?_ _
    refine NoPanic.normal ?_
    obtain ⟨pz, hpz⟩ : ∃ z, z = tB (TH.mk 1 2 0 0 4 0 0) [] 167772161 167772162 D := ⟨_, rfl⟩
    rw [← hpz] at Y1
    have hpz2 : pz = tPkt (TH.mk 1 2 0 0 4 0 0) [] 167772161 167772162 D := by rw [hpz]; exact HOK.out.bytes.1
    have HPB := Lib.hid (show BD 255 pz by rw [hpz2]; exact HOK.out.bd)
    have HPV := Lib.hid (show tV pz 167772161 167772162 = true by rw [hpz2]; exact HOK.out.verified.1)
    have hpl : n5 = 20 + 0 + M := by have h1 := (Y1.out.own 3 rfl).len; rw [hpz2, tPkt_len, HLN.out] at h1; simp at h1; omega
    have n5b : n5 ≤ 70000 := by omega
    have HN5 := Lib.hid hpl
    clear hpz hpz2 hpl Y0 X8 hHeld
    go_wp2_with (refine wpList_load_row rfl 28 _ rfl H rfl 28 ((TH.mk 1 2 0 0 4 0 0).cells (.slice none 0 0)) (0, 0) _ (Y1.out.blk 1 rfl) Try.underlying28 rfl (by kernel_rfl) ?_)
    refine (tcwrite_any (TH.mk 1 2 0 0 4 0 0) HOK.out.wf none 0 0 [] 167772161 167772162 (some ⟨GL, 0, none⟩) L L (List.replicate L 0) _ RD.nil (fun x hx => by cases hx) (by decide) (by decide) (by decide) (Y1.out.rd 2 rfl) (zeros_bd8 L) (by omega)).mono ?_
    rintro e x2 ⟨A6, n6, c6, rfl, own6, hb6⟩
    rw [show tE (TH.mk 1 2 0 0 4 0 0) 0 L = 2 from if_pos (sm_wrong (by omega))]
    have Y2 := Lib.hid (Y1.out.next hb6)
    clear own6 hb6 Y1
    obtain ⟨x3, hrun3, own3, hb3, hs3⟩ := run_make_cap (P := Try.prog) (k := .u8) x2 22 i0 Try.underlying22 hi hz0 hz1 (by omega) (4 : Int) (4 : Int) 4 4 rfl rfl (Nat.le_refl _) (by omega)
    have Y3 := Y2.out.pushOwn hb3 own3
    obtain ⟨G4, hG4⟩ : ∃ g, g = x2.heap.size := ⟨_, rfl⟩
    rw [← hG4] at hrun3 Y3
    replace Y3 := Lib.hid Y3
    clear own3 hb3 hs3 hG4 Y2
    have c7 : x3.cell? ⟨H, 7, none⟩ = some (.slice none 0 0) := Y3.out.cell 1 rfl 7 rfl
    have f7 := Y3.out.free 1 rfl 7
    have Y4 := Lib.hid (show SP w (x3.setCell ⟨H, 7, none⟩ (.slice (some ⟨G4, 0, none⟩) 4 4)) [.own .u8 5 (some ⟨G, 0, none⟩) 20 20 EX8, .blk H 28 ((TH.mk 1 2 0 0 4 0 0).cells (.slice (some ⟨G4, 0, none⟩) 4 4)), .own .u8 5 (some ⟨GL, 0, none⟩) L L (List.replicate L 0), .own .u8 5 A5 n5 c5 pz, .own .u8 5 (some ⟨G4, 0, none⟩) 4 4 (List.replicate 4 0)] from Y3.out.setB 1 rfl 7 _)
    go_upto_region 48 with fail
    generalize x3.setCell ⟨H, 7, none⟩ (.slice (some ⟨G4, 0, none⟩) 4 4) = x4 at Y4 ⊢
    clear c7 f7 hrun3 Y3
    refine wp_region_noPanic ?_
    refine wp_region_held_drew (S := fun W => W.heap[H]? = some (.cells ((TH.mk 1 2 0 0 4 0 0).cells (.slice (some ⟨G4, 0, none⟩) 4 4)) 28 (0, 0))) (by kernel_rfl) (by exact Y4.out.drew.blk 1 rfl) (fun hHeld => ?_)
    have Z0 := Lib.hid Y4.out.drew
    generalize x4.drew = x5 at Z0 hHeld ⊢
    refine' take_lit (i := 0) (v := .agg ((TH.mk 1 2 0 0 4 0 0).cells (.slice (some ⟨G4, 0, none⟩) 4 4))) rfl (by kernel_rfl) (by kernel_rfl) (by kernel_rfl) (fun _ _ _ h => h) (Or.inl ⟨by rfl, ?yy45⟩) (by assumption) ?rr45
    case yy45 => intro w' hSw; exact exec_load_row 28 _ rfl H rfl 28 ((TH.mk 1 2 0 0 4 0 0).cells (.slice (some ⟨G4, 0, none⟩) 4 4)) (0, 0) _ (hSw) Try.underlying28 rfl (by kernel_rfl)
    (try simp only [Act.put]); (try simp only [List.setIfInBounds_toArray, List.set_cons_zero, List.set_cons_succ])
    refine' take_lit (i := 1) (v := _) rfl (by kernel_rfl) (by kernel_rfl) (by kernel_rfl) (fun _ _ _ h => h) (Or.inl ⟨by rfl, ?yy46⟩) (by assumption) ?rr46
    case yy46 => intro w' hSw; (try dsimp only at hSw); go_simp; try (with_reducible rfl)
    (try simp only [Act.put]); (try simp only [List.setIfInBounds_toArray, List.set_cons_zero, List.set_cons_succ])
    refine' take_lit (i := 2) (v := _) rfl (by kernel_rfl) (by kernel_rfl) (by kernel_rfl) (fun _ _ _ h => h) (Or.inl ⟨by rfl, ?yy47⟩) (by assumption) ?rr47
    case yy47 => intro w' hSw; (try dsimp only at hSw); go_simp; try (with_reducible rfl)
    (try simp only [Act.put]); (try simp only [List.setIfInBounds_toArray, List.set_cons_zero, List.set_cons_succ])
    refine' take_lit (i := 3) (v := _) rfl (by kernel_rfl) (by kernel_rfl) (by kernel_rfl) (fun _ _ _ h => h) (Or.inl ⟨by rfl, ?yy48⟩) (by assumption) ?rr48
    case yy48 => intro w' hSw; (try dsimp only at hSw); go_simp; try (with_reducible rfl)
    (try simp only [Act.put]); (try simp only [List.setIfInBounds_toArray, List.set_cons_zero, List.set_cons_succ])
    refine' take_lit (i := 4) (v := _) rfl (by kernel_rfl) (by kernel_rfl) (by kernel_rfl) (fun _ _ _ h => h) (Or.inl ⟨by rfl, ?yy49⟩) (by assumption) ?rr49
    case yy49 => intro w' hSw; (try dsimp only at hSw); go_simp; try (with_reducible rfl)
    (try simp only [Act.put]); (try simp only [List.setIfInBounds_toArray, List.set_cons_zero, List.set_cons_succ])
    refine wpAnyH_ready (rs := [5]) (by kernel_rfl) (by simp) ?_
    refine cons_lit rfl (fun K hK => ?ss5x50) AllReadyH.nil
    case ss5x50 =>
      go_simp
      refine (tcwrite_any (TH.mk 1 2 0 0 4 0 0) HOK.out.wf (some ⟨G4, 0, none⟩) 4 4 (List.replicate 4 0) 167772161 167772162 AD M _ D _ (Z0.out.rd 4 rfl) (zeros_bd8 4) (by decide) (by decide) (by decide) (HDD.out _ (Z0.out.own 2 rfl)) hbd (by omega)).mono ?_
      rintro e x6 ⟨A8, n8, c8, rfl, own8, hb8⟩
      rw [show tE (TH.mk 1 2 0 0 4 0 0) 4 M = 2 from if_pos (sm_wrong (by omega))]
      have Z1 := Lib.hid (Z0.out.next hb8)
      clear own8 hb8
      refine hK.out _ _ (by exact Z1.out.blk 1 rfl) (fun hHeld => ?_)
      clear hK K
      (try simp only [Act.put]); (try simp only [List.setIfInBounds_toArray, List.set_cons_zero, List.set_cons_succ])
      refine' take_lit (i := 6) (v := _) rfl (by kernel_rfl) (by kernel_rfl) (by kernel_rfl) (fun _ _ _ h => h) (Or.inl ⟨by rfl, ?yy51⟩) (by assumption) ?rr51
      case yy51 => intro w' hSw; (try dsimp only at hSw); go_simp; try (with_reducible rfl)
      (try simp only [Act.put]); (try simp only [List.setIfInBounds_toArray, List.set_cons_zero, List.set_cons_succ])
      refine' take_lit (i := 7) (v := _) rfl (by kernel_rfl) (by kernel_rfl) (by kernel_rfl) (fun _ _ _ h => h) (Or.inl ⟨by rfl, ?yy52⟩) (by assumption) ?rr52
      case yy52 => intro w' hSw; (try dsimp only at hSw); go_simp; try (with_reducible rfl)
      (try simp only [Act.put]); (try simp only [List.setIfInBounds_toArray, List.set_cons_zero, List.set_cons_succ])
      refine' take_lit (i := 8) (v := _) rfl (by kernel_rfl) (by kernel_rfl) (by kernel_rfl) (fun _ _ _ h => h) (Or.inl ⟨by rfl, ?yy53⟩) (by assumption) ?rr53
      case yy53 => intro w' hSw; (try dsimp only at hSw); go_simp; try (with_reducible rfl)
      (try simp only [Act.put]); (try simp only [List.setIfInBounds_toArray, List.set_cons_zero, List.set_cons_succ])
      refine' take_lit (i := 9) (v := _) rfl (by kernel_rfl) (by kernel_rfl) (by kernel_rfl) (fun _ _ _ h => h) (Or.inl ⟨by rfl, ?yy54⟩) (by assumption) ?rr54
      case yy54 => intro w' hSw; (try dsimp only at hSw); go_simp; try (with_reducible rfl)
      (try simp only [Act.put]); (try simp only [List.setIfInBounds_toArray, List.set_cons_zero, List.set_cons_succ])
      refine' take_lit (i := 10) (v := _) rfl (by kernel_rfl) (by kernel_rfl) (by kernel_rfl) (fun _ _ _ h => h) (Or.inl ⟨by rfl, ?yy55⟩) (by assumption) ?rr55
      case yy55 => intro w' hSw; (try dsimp only at hSw); go_simp; try (with_reducible rfl)
      (try simp only [Act.put]); (try simp only [List.setIfInBounds_toArray, List.set_cons_zero, List.set_cons_succ])
      refine wpAnyH_done (by kernel_rfl) ?_ _
      refine NoPanic.normal ?_
      clear Z0 Y4 hHeld s1
      go_wp2_with fail
      refine (tcverify_any A5 n5 c5 pz 167772161 167772162 _ (Z1.out.rd 3 rfl) HPB.out (by omega) (by decide) (by decide)).mono ?_
      rintro e x7 ⟨rfl, hb7⟩
      rw [HPV.out]
      have Z2 := Lib.hid (Z1.out.next hb7)
      clear hb7 Z1
      obtain ⟨K, hK⟩ : ∃ K : Nat, K = 65536 := ⟨_, rfl⟩
      have Ka : 65536 ≤ K := by omega
      have Kb : K ≤ 65536 := by omega
      clear hK
      obtain ⟨x8, hrun8, own8, hb8, hs8⟩ := run_make_cap (P := Try.prog) (k := .u8) x7 22 i0 Try.underlying22 hi hz0 hz1 (by omega) (65536 : Int) (65536 : Int) K K (by omega) (by omega) (Nat.le_refl _) (by omega)
      have Z3 := Lib.hid (Z2.out.pushOwn hb8 own8)
      clear own8 hb8 hs8 Z2
      go_wp2_with fail
      refine (tcverify_any _ K K (List.replicate K 0) 167772161 167772162 _ (Z3.out.rd 5 rfl) (zeros_bd8 K) (by omega) (by decide) (by decide)).mono ?_
      rintro e x9 ⟨rfl, hb9⟩
      rw [show tV (List.replicate K 0) 167772161 167772162 = false by unfold tV; rw [List.length_replicate, decide_eq_false (by omega)]; rfl]
      have Z4 := Lib.hid (Z3.out.next hb9)
      clear hb9 Z3 hrun8
      go_wp2_with fail
      refine (awake8_any _).mono ?_
      rintro e xa ⟨rfl, hba⟩
      go_wp2_with fail
      go_ret
      exact ⟨rfl, (Z4.out.next hba).bel⟩
end Go.Proofs.Ythdpcblmmjocmaa
