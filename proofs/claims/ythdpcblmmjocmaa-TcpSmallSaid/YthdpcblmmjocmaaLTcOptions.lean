import Derived.Test.YthdpcblmmjocmaaWR8F
import Derived.Test.YthdpcblmmjocmaaWR8P
import Derived.Test.YthdpcblmmjocmaaWAwake8
import Derived.Test.YthdpcblmmjocmaaWBags
import Derived.Test.YthdpcblmmjocmaaWRowp
/- bafflelaw08.TcpOptions. (Printed by gen_tcoptions.py.) -/
namespace Go.Proofs.Ythdpcblmmjocmaa
open Go.RowKit
set_option linter.unusedVariables false

theorem take1_blen {kind : Int} {c : List Int} {k k' : KN} (h : take1 kind c k = some k') : k'.bl.length ≤ max 4 k.bl.length := by
  unfold take1 at h
  repeat' (split at h)
  all_goals (first | (simp at h; done) | (simp only [Option.some.injEq] at h; subst h; first | (simp only [blocksOf_len]; omega) | (show k.bl.length ≤ _; omega) | omega))
theorem parseF_blen : ∀ (f : Nat) (zs : List Int) (k k' : KN), parseF f zs k = some k' → k'.bl.length ≤ max 4 k.bl.length
  | 0, zs, k, k', h => by
    unfold parseF at h
    split at h
    · simp at h; subst h; omega
    · cases h
  | f + 1, zs, k, k', h => by
    unfold parseF at h
    split at h
    · simp at h; subst h; omega
    · split at h
      · cases h
      · split at h
        · cases h
        · rename_i h1
          have := parseF_blen f _ _ _ h
          have := take1_blen h1
          omega
theorem parseK_blen (zs : List Int) : (parseK zs).bl.length ≤ 4 := by
  unfold parseK
  split
  · decide
  · cases h : parse zs kn0 with
    | none => decide
    | some k => exact parseF_blen _ _ _ _ h
theorem fmtB_blen (k : KN) : (fmtB k).length ≤ 40 := by
  unfold fmtB
  split
  · rename_i h; exact h.2
  · simp
theorem flatP_cells {w : World} {b off : Nat} {l : List (Int × Int)} {n : Nat} (hl : l.length = n) (h : ∀ i, i < 2 * n → w.cell? ⟨b, off + i, none⟩ = some (.int .u32 ((flatP l)[i]?.getD 0))) (j : Nat) (u : Value) (hu : (prs l)[j]? = some u) : w.cell? ((⟨b, off, none⟩ : Addr).add j) = some u := by
  have hadd : (⟨b, off, none⟩ : Addr).add j = ⟨b, off + j, none⟩ := by unfold Addr.add; split <;> simp_all
  rw [prs_flat, List.getElem?_map] at hu
  obtain ⟨x, hx, rfl⟩ := Option.map_eq_some_iff.1 hu
  have hj : j < (flatP l).length := (List.getElem?_eq_some_iff.1 hx).1
  rw [flatP_len, hl] at hj
  rw [hadd, h j hj, hx]
  rfl
theorem prs_one (l : List (Int × Int)) : ∀ u ∈ prs l, u.oneCell' = true := by
  intro u hu
  rw [prs_flat] at hu
  obtain ⟨x, _, rfl⟩ := List.mem_map.1 hu
  rfl

set_option maxHeartbeats 16000000 in
set_option maxRecDepth 100000 in
theorem options8_any (k : KN) (A : Option Addr) (n c : Nat) (zs : List Int) (Ab : Option Addr) (nb cb : Nat) (w : World) (ro : RD .u8 w w.heap.size A n zs) (bo : BD 255 zs) (hnc : n ≤ c) (hcm : c ≤ maxLen) (HP : ROWP w Ab nb cb k.bl)
    (hts : 0 ≤ k.ts ∧ k.ts ≤ 4294967295) (hec : 0 ≤ k.ec ∧ k.ec ≤ 4294967295) :
    Calls Try.prog 15 #[.slice A n c, .agg (KNC k Ab nb cb)] w fun e w' => e = .returned (.bool true) ∧ Below w.heap.size w w' := by
  obtain ⟨i2, hi2, hy0, hy1, hy2⟩ := info_parts infoPair
  have HLO := Lib.hid ro.len
  have HLB := Lib.hid HP.len
  have HFB := Lib.hid (flatP_bd HP.bd)
  have HNIL := Lib.hid HP.nil
  have RO := Lib.hid (fun (W : World) (hb : Below w.heap.size w W) => (show RD .u8 W W.heap.size A n zs from (ro.below hb).more hb.size))
  have RB := Lib.hid (fun (W : World) (hb : Below w.heap.size w W) => (show RD .u32 W W.heap.size Ab (2 * nb) (flatP k.bl) from (HP.rd.below hb).more hb.size))
  have S0 := (SP.start w).alloc 32 (KNC k Ab nb cb)
  clear ro HP
  go_enter Try.func15, Try.ntmps15
  unfold KNC
  go_upto_region 1 with fail
  change Code.wp _ _ _ _ (w.alloc (.cells (KNC k Ab nb cb) 32))
  generalize w.alloc (.cells (KNC k Ab nb cb) 32) = w1 at S0 ⊢
  obtain ⟨N, hN⟩ : ∃ N, N = w.heap.size := ⟨_, rfl⟩
  rw [← hN] at S0 ⊢
  have HN := Lib.hid hN
  have X := Lib.hid S0
  clear hN S0
  have c6 : w1.cell? ⟨N, 6, none⟩ = some (.slice Ab nb cb) := X.out.cell 0 rfl 6 rfl
  by_cases h60 : 60 < n
  · have t1 : (60 : Int) < (n : Int) := by omega
    go_wp2_with fail
    go_ret
    exact ⟨rfl, X.out.bel⟩
  have t1 : ¬ (60 : Int) < (n : Int) := by omega
  by_cases h10 : 10 < nb
  · have t2 : (10 : Int) < (nb : Int) := by omega
    go_wp2_with fail
    go_ret
    exact ⟨rfl, X.out.bel⟩
  have t2 : ¬ (10 : Int) < (nb : Int) := by omega
  go_upto_region 3 with fail
  clear c6 t1 t2
  go_cut [5, 6] (fun s5 s6 wx => ∃ (A1 : Option Addr) (M : Nat), s5 = .slice A1 n (n + 12) ∧ s6 = .pointer (some ⟨M, 0, none⟩) ∧ SP w wx [.blk N 32 (KNC k Ab nb cb), .own .u8 5 A1 (n + 12) (n + 12) (zs ++ marksFrom 1 0 12), .blk M 32 (KNC k Ab nb cb)])
  case first =>
    refine wp_region_noPanic ?_
    refine wp_region_held_drew (S := fun W => W.heap[N]? = some (.cells (KNC k Ab nb cb) 32 (0, 0))) (by kernel_rfl) (by exact X.out.drew.blk 0 rfl) (fun hHeld => ?_)
    have X0 := Lib.hid X.out.drew
    generalize w1.drew = v0 at X0 hHeld ⊢
    refine' take_lit (i := 2) (v := .agg (KNC k Ab nb cb)) rfl (by kernel_rfl) (by kernel_rfl) (by kernel_rfl) (fun _ _ _ h => h) (Or.inl ⟨by rfl, ?yy1⟩) (by assumption) ?rr1
    case yy1 => intro w' hSw; exact exec_load_row 32 _ rfl N rfl 32 (KNC k Ab nb cb) (0, 0) _ (hSw) Try.underlying32 rfl (by kernel_rfl)
    (try simp only [Act.put]); (try simp only [List.setIfInBounds_toArray, List.set_cons_zero, List.set_cons_succ])
    refine' take_lit (i := 0) (v := _) rfl (by kernel_rfl) (by kernel_rfl) (by kernel_rfl) (fun _ _ _ h => h) (Or.inl ⟨by rfl, ?yy2⟩) (by assumption) ?rr2
    case yy2 => intro w' hSw; (try dsimp only at hSw); go_simp; try (with_reducible rfl)
    (try simp only [Act.put]); (try simp only [List.setIfInBounds_toArray, List.set_cons_zero, List.set_cons_succ])
    refine wpAnyH_ready (rs := [1, 3]) (by kernel_rfl) (by simp) ?_
    refine cons_lit rfl (fun K hK => ?ss1x3) (cons_lit rfl (fun K hK => ?ss3x3) AllReadyH.nil)
    case ss1x3 =>
      go_simp
      refine (lent_any A n c zs v0 (RO.out _ X0.out.bel) (by omega)).mono ?_
      rintro e v1 ⟨A1, n1, rfl, hn1, own1, hb1⟩
      obtain rfl : n = n1 := by rw [hn1, HLO.out]
      have X1 := Lib.hid (X0.out.pushOwn hb1 own1)
      clear own1 hb1 hn1
      refine hK.out _ _ (by exact X1.out.blk 0 rfl) (fun hHeld => ?_)
      clear hK K
      (try simp only [Act.put]); (try simp only [List.setIfInBounds_toArray, List.set_cons_zero, List.set_cons_succ])
      refine wpAnyH_ready (rs := [3]) (by kernel_rfl) (by simp) ?_
      refine cons_lit rfl (fun K hK => ?ss3x4) AllReadyH.nil
      case ss3x4 =>
        go_simp
        obtain ⟨M, hM⟩ : ∃ g, g = v1.heap.size := ⟨_, rfl⟩
        rw [← hM]
        refine nameW (fun v2 hv => ?_)
        have X2 := Lib.hid (show SP w v2 _ by rw [hv]; exact X1.out.alloc' 32 (KNC knZ none 0 0) hM.symm)
        clear hv hM
        refine hK.out _ _ (by exact X2.out.blk 0 rfl) (fun hHeld => ?_)
        clear hK K
        (try simp only [Act.put]); (try simp only [List.setIfInBounds_toArray, List.set_cons_zero, List.set_cons_succ])
        refine' take_lit (i := 4) (v := _) rfl (by kernel_rfl) (by kernel_rfl) (by kernel_rfl) (fun _ _ _ h => h) (Or.inl ⟨by rfl, ?yy5⟩) (by assumption) ?rr5
        case yy5 => intro w' hSw; (try dsimp only at hSw); go_simp; try (with_reducible rfl)
        (try simp only [Act.put]); (try simp only [List.setIfInBounds_toArray, List.set_cons_zero, List.set_cons_succ])
        refine wpAnyH_ready (rs := [5]) (by kernel_rfl) (by simp) ?_
        refine cons_lit rfl (fun K hK => ?ss5x6) AllReadyH.nil
        case ss5x6 =>
          refine step_store_row (by rfl) 32 _ _ (by rfl) M (KNC k Ab nb cb) (by rfl) (by rfl) 32 _ (X2.out.blk 2 rfl) (by kernel_rfl) rfl (KNC.one _ _ _ _) ?_
          refine nameW (fun v3 hv => ?_)
          have X3 := Lib.hid (show SP w v3 _ by rw [hv]; exact X2.out.setR 2 rfl (KNC k Ab nb cb))
          clear hv
          refine hK.out _ _ (by exact X3.out.blk 0 rfl) (fun hHeld => ?_)
          clear hK K
          (try simp only [Act.put]); (try simp only [List.setIfInBounds_toArray, List.set_cons_zero, List.set_cons_succ])
          refine wpAnyH_done (by kernel_rfl) ?_ _
          refine NoPanic.normal ?_
          go_wp2_with fail
          go_meet
          exact ⟨A1, M, rfl, rfl, X3.out.pick [0, 1, 2] (by decide) rfl⟩
    case ss3x3 =>
      go_simp
      obtain ⟨M, hM⟩ : ∃ g, g = v0.heap.size := ⟨_, rfl⟩
      rw [← hM]
      refine nameW (fun v1 hv => ?_)
      have X1 := Lib.hid (show SP w v1 _ by rw [hv]; exact X0.out.alloc' 32 (KNC knZ none 0 0) hM.symm)
      clear hv hM
      refine hK.out _ _ (by exact X1.out.blk 0 rfl) (fun hHeld => ?_)
      clear hK K
      (try simp only [Act.put]); (try simp only [List.setIfInBounds_toArray, List.set_cons_zero, List.set_cons_succ])
      refine wpAnyH_ready (rs := [1]) (by kernel_rfl) (by simp) ?_
      refine cons_lit rfl (fun K hK => ?ss1x7) AllReadyH.nil
      case ss1x7 =>
        go_simp
        refine (lent_any A n c zs v1 (RO.out _ X1.out.bel) (by omega)).mono ?_
        rintro e v2 ⟨A1, n1, rfl, hn1, own1, hb1⟩
        obtain rfl : n = n1 := by rw [hn1, HLO.out]
        have X2 := Lib.hid (X1.out.pushOwn hb1 own1)
        clear own1 hb1 hn1
        refine hK.out _ _ (by exact X2.out.blk 0 rfl) (fun hHeld => ?_)
        clear hK K
        (try simp only [Act.put]); (try simp only [List.setIfInBounds_toArray, List.set_cons_zero, List.set_cons_succ])
        refine' take_lit (i := 4) (v := _) rfl (by kernel_rfl) (by kernel_rfl) (by kernel_rfl) (fun _ _ _ h => h) (Or.inl ⟨by rfl, ?yy8⟩) (by assumption) ?rr8
        case yy8 => intro w' hSw; (try dsimp only at hSw); go_simp; try (with_reducible rfl)
        (try simp only [Act.put]); (try simp only [List.setIfInBounds_toArray, List.set_cons_zero, List.set_cons_succ])
        refine wpAnyH_ready (rs := [5]) (by kernel_rfl) (by simp) ?_
        refine cons_lit rfl (fun K hK => ?ss5x9) AllReadyH.nil
        case ss5x9 =>
          refine step_store_row (by rfl) 32 _ _ (by rfl) M (KNC k Ab nb cb) (by rfl) (by rfl) 32 _ (X2.out.blk 1 rfl) (by kernel_rfl) rfl (KNC.one _ _ _ _) ?_
          refine nameW (fun v3 hv => ?_)
          have X3 := Lib.hid (show SP w v3 _ by rw [hv]; exact X2.out.setR 1 rfl (KNC k Ab nb cb))
          clear hv
          refine hK.out _ _ (by exact X3.out.blk 0 rfl) (fun hHeld => ?_)
          clear hK K
          (try simp only [Act.put]); (try simp only [List.setIfInBounds_toArray, List.set_cons_zero, List.set_cons_succ])
          refine wpAnyH_done (by kernel_rfl) ?_ _
          refine NoPanic.normal ?_
          go_wp2_with fail
          go_meet
          exact ⟨A1, M, rfl, rfl, X3.out.pick [0, 2, 1] (by decide) rfl⟩
  case rest =>
  obtain ⟨A1, M, rfl, rfl, hX⟩ := hcut
  have X1 := Lib.hid hX
  clear hX X
  go_upto_region 4 with fail
  go_cut [] (fun wx => ∃ (Al : Option Addr) (cl : Nat), SP w wx [.blk N 32 (KNC k Ab nb cb), .own .u8 5 A1 (n + 12) (n + 12) (zs ++ marksFrom 1 0 12), .blk M 32 (KNC k Al nb cl), .row 93 2 Al nb cl (prs k.bl)])
  case first =>
    refine wp_region_noPanic ?_
    refine wp_region_held_drew (S := fun W => W.cell? ⟨N, 6, none⟩ = some (.slice Ab nb cb)) (by kernel_rfl) (by exact X1.out.drew.cell 0 rfl 6 rfl) (fun hHeld => ?_)
    have X2 := Lib.hid X1.out.drew
    generalize wc.drew = v0 at X2 hHeld ⊢
    refine' take_lit (i := 1) (v := _) rfl (by kernel_rfl) (by kernel_rfl) (by kernel_rfl) (fun _ _ _ h => h) (Or.inl ⟨by rfl, ?yy10⟩) (by assumption) ?rr10
    case yy10 => intro w' hSw; (try dsimp only at hSw); go_simp; try (with_reducible rfl)
    (try simp only [Act.put]); (try simp only [List.setIfInBounds_toArray, List.set_cons_zero, List.set_cons_succ])
    refine' take_lit (i := 2) (v := _) rfl (by kernel_rfl) (by kernel_rfl) (by kernel_rfl) (fun _ _ _ h => h) (Or.inl ⟨by rfl, ?yy11⟩) (by assumption) ?rr11
    case yy11 => intro w' hSw; (try dsimp only at hSw); go_simp; try (with_reducible rfl)
    (try simp only [Act.put]); (try simp only [List.setIfInBounds_toArray, List.set_cons_zero, List.set_cons_succ])
    cases Ab with
    | none =>
      obtain rfl : nb = 0 := HNIL.out rfl
      have HBN := Lib.hid (show k.bl = [] from List.length_eq_zero_iff.1 HLB.out)
      obtain ⟨cb0, hcb0⟩ : ∃ x, x = cb := ⟨_, rfl⟩
      refine wpAnyH_ready (rs := [0]) (by kernel_rfl) (by simp) ?_
      refine cons_lit rfl (fun K hK => ?ss0x12) AllReadyH.nil
      case ss0x12 =>
        obtain ⟨v1, hrun, hown, hb1⟩ := run_make_pairs v0 0 12 0 12 rfl rfl (by decide) (by decide)
        have X3 := X2.out.push hb1 hown
        obtain ⟨gl, hgl⟩ : ∃ g, g = v0.heap.size := ⟨_, rfl⟩
        rw [← hgl] at hrun X3
        replace X3 := Lib.hid X3
        clear hown hb1 hgl
        go_simp
        clear hrun
        refine hK.out _ _ (by exact X3.out.cell 0 rfl 6 rfl) (fun hHeld => ?_)
        clear hK K
        (try simp only [Act.put]); (try simp only [List.setIfInBounds_toArray, List.set_cons_zero, List.set_cons_succ])
        refine wpAnyH_ready (rs := [3]) (by kernel_rfl) (by simp) ?_
        refine cons_lit rfl (fun K hK => ?ss3x13) AllReadyH.nil
        case ss3x13 =>
          go_simp
          refine nameW (fun v2 hv => ?_)
          have X4 := Lib.hid (show SP w v2 _ by rw [hv]; exact X3.out)
          clear hv
          refine hK.out _ _ (by exact X4.out.cell 0 rfl 6 rfl) (fun hHeld => ?_)
          clear hK K
          (try simp only [Act.put]); (try simp only [List.setIfInBounds_toArray, List.set_cons_zero, List.set_cons_succ])
          refine' take_lit (i := 4) (v := _) rfl (by kernel_rfl) (by kernel_rfl) (by kernel_rfl) (fun _ _ _ h => h) (Or.inl ⟨by rfl, ?yy14⟩) (by assumption) ?rr14
          case yy14 => intro w' hSw; (try dsimp only at hSw); go_simp; try (with_reducible rfl)
          (try simp only [Act.put]); (try simp only [List.setIfInBounds_toArray, List.set_cons_zero, List.set_cons_succ])
          refine wpAnyH_ready (rs := [5]) (by kernel_rfl) (by simp) ?_
          refine cons_lit rfl (fun K hK => ?ss5x15) AllReadyH.nil
          case ss5x15 =>
            have yk : v2.cell? ⟨M, 6, none⟩ = some (.slice none 0 cb) := X4.out.cell 2 rfl 6 rfl
            have fk := X4.out.free 2 rfl 6
            go_simp
            refine nameW (fun v3 hv => ?_)
            have X5 := Lib.hid (show SP w v3 _ by rw [hv]; exact X4.out.setB 2 rfl 6 (.slice (some ⟨gl, 0, none⟩) 0 12))
            clear yk fk hv
            refine hK.out _ _ (by exact X5.out.cell 0 rfl 6 rfl) (fun hHeld => ?_)
            clear hK K
            (try simp only [Act.put]); (try simp only [List.setIfInBounds_toArray, List.set_cons_zero, List.set_cons_succ])
            refine wpAnyH_done (by kernel_rfl) ?_ _
            refine NoPanic.normal ?_
            go_wp2_with fail
            go_meet
            exact ⟨some ⟨gl, 0, none⟩, 12, by
              have h := X5.out
              rw [show k.bl = [] from HBN.out] ; exact h⟩
    | some ab =>
      have HCE := Lib.hid (show ∀ W, Below w.heap.size w W → ∀ (j : Nat) (u : Value), (prs k.bl)[j]? = some u → W.cell? (ab.add j) = some u from by
        intro W hW j u hu
        by_cases h0 : 0 < nb
        · obtain ⟨b, off, he, _, hc⟩ := (RB.out W hW).2 (by omega)
          simp only [Option.some.injEq] at he
          subst he
          exact flatP_cells HLB.out hc j u hu
        · have hk0 : k.bl = [] := List.length_eq_zero_iff.1 (by have := HLB.out; omega)
          rw [hk0] at hu
          simp [prs] at hu)
      refine wpAnyH_ready (rs := [0]) (by kernel_rfl) (by simp) ?_
      refine cons_lit rfl (fun K hK => ?ss0x16) AllReadyH.nil
      case ss0x16 =>
        obtain ⟨v1, hrun, hown, hb1⟩ := run_make_pairs v0 0 12 0 12 rfl rfl (by decide) (by decide)
        have X3 := X2.out.push hb1 hown
        obtain ⟨gl, hgl⟩ : ∃ g, g = v0.heap.size := ⟨_, rfl⟩
        rw [← hgl] at hrun X3
        replace X3 := Lib.hid X3
        clear hown hb1 hgl
        go_simp
        clear hrun
        refine hK.out _ _ (by exact X3.out.cell 0 rfl 6 rfl) (fun hHeld => ?_)
        clear hK K
        (try simp only [Act.put]); (try simp only [List.setIfInBounds_toArray, List.set_cons_zero, List.set_cons_succ])
        refine wpAnyH_ready (rs := [3]) (by kernel_rfl) (by simp) ?_
        refine cons_lit rfl (fun K hK => ?ss3x17) AllReadyH.nil
        case ss3x17 =>
          refine step_append_row _ (by rfl) _ _ 30 (by rfl) w.heap.size 93 i2 _ 2 8 Try.underlying30 hi2 hy0 hy1 hy2 (by rfl) (by decide) (some ⟨gl, 0, none⟩) 0 12 (prs []) (by rfl) (by exact X3.out.row 3 rfl) ab nb cb (prs k.bl) (by rfl) (by rw [prs_len, HLB.out, Nat.mul_comm]) (by exact HCE.out _ X3.out.bel) (prs_one _) (by simp only [maxLen]; omega) (by omega) (by exact X3.out.size) ?_
          intro Al cl v2 hrow hgrow hat
          have X4 := X3.out.appRow 3 rfl hrow hgrow hat
          rw [Nat.zero_add] at X4
          replace X4 := Lib.hid X4
          clear hrow hgrow hat
          refine hK.out _ _ (by exact X4.out.cell 0 rfl 6 rfl) (fun hHeld => ?_)
          clear hK K
          (try simp only [Act.put]); (try simp only [List.setIfInBounds_toArray, List.set_cons_zero, List.set_cons_succ])
          refine' take_lit (i := 4) (v := _) rfl (by kernel_rfl) (by kernel_rfl) (by kernel_rfl) (fun _ _ _ h => h) (Or.inl ⟨by rfl, ?yy18⟩) (by assumption) ?rr18
          case yy18 => intro w' hSw; (try dsimp only at hSw); go_simp; try (with_reducible rfl)
          (try simp only [Act.put]); (try simp only [List.setIfInBounds_toArray, List.set_cons_zero, List.set_cons_succ])
          refine wpAnyH_ready (rs := [5]) (by kernel_rfl) (by simp) ?_
          refine cons_lit rfl (fun K hK => ?ss5x19) AllReadyH.nil
          case ss5x19 =>
            have yk : v2.cell? ⟨M, 6, none⟩ = some (.slice (some ab) nb cb) := X4.out.cell 2 rfl 6 rfl
            have fk := X4.out.free 2 rfl 6
            go_simp
            refine nameW (fun v3 hv => ?_)
            have X5 := Lib.hid (show SP w v3 _ by rw [hv]; exact X4.out.setB 2 rfl 6 (.slice Al nb cl))
            clear yk fk hv
            refine hK.out _ _ (by exact X5.out.cell 0 rfl 6 rfl) (fun hHeld => ?_)
            clear hK K
            (try simp only [Act.put]); (try simp only [List.setIfInBounds_toArray, List.set_cons_zero, List.set_cons_succ])
            refine wpAnyH_done (by kernel_rfl) ?_ _
            refine NoPanic.normal ?_
            go_wp2_with fail
            go_meet
            exact ⟨Al, cl, X5.out⟩
  case rest =>
  obtain ⟨Al, cl, hX⟩ := hcut
  have X2 := Lib.hid hX
  clear hX X1
  have HC2 := Lib.hid (show RD .u8 wc wc.heap.size A1 n zs by
    have := ((X2.out.own 1 rfl).cut (m := n) (by omega)).rd
    rwa [List.take_left' HLO.out] at this)
  go_wp2_with fail
  refine (tcparse_any A1 n (n + 12) zs _ HC2.out bo (by omega) (by simp only [maxLen]; omega)).mono ?_
  rintro e w5 ⟨A5, n5, c5, hn5, rfl, Xp⟩
  have HK4 := parseK_blen zs
  obtain ⟨kx, hkx⟩ : ∃ x, x = parseK zs := ⟨_, rfl⟩
  obtain ⟨ex, hex⟩ : ∃ x, x = parseE zs := ⟨_, rfl⟩
  rw [← hkx] at hn5 Xp HK4 ⊢
  rw [← hex]
  have HKX := Lib.hid hkx
  have HEX := Lib.hid hex
  obtain ⟨M5, hM5⟩ : ∃ N, N = w5.heap.size := ⟨_, rfl⟩
  have X5 := Lib.hid (show SP w _ [.blk N 32 (KNC k Ab nb cb), .own .u8 5 A1 (n + 12) (n + 12) (zs ++ marksFrom 1 0 12), .blk M 32 (KNC k Al nb cl), .row 93 2 Al nb cl (prs k.bl), .row 93 2 A5 n5 c5 (prs kx.bl), .blk M5 32 (KNC kx A5 n5 c5)] from (X2.out.push Xp.bel (Xp.all 0 _ rfl)).alloc' 32 (KNC kx A5 n5 c5) hM5.symm)
  have HN5 := Lib.hid hn5
  clear Xp X2 hn5 HC2 hkx hex
  unfold KNC
  go_upto_region 6 with fail
  rw [← hM5]
  change Code.wp _ _ _ _ (w5.alloc (.cells (KNC kx A5 n5 c5) 32))
  generalize w5.alloc (.cells (KNC kx A5 n5 c5) 32) = w6 at X5 ⊢
  clear hM5
  go_wp2_with fail
  refine (r8Parse_any A n c zs _ (RO.out _ X5.out.bel) bo hnc hcm).mono ?_
  rintro e w7 ⟨A7, n7, c7, hn7, rfl, Xp⟩
  rw [← HKX.out] at hn7 Xp ⊢
  rw [← HEX.out]
  obtain ⟨M7, hM7⟩ : ∃ N, N = w7.heap.size := ⟨_, rfl⟩
  have X7 := Lib.hid (show SP w _ [.blk N 32 (KNC k Ab nb cb), .own .u8 5 A1 (n + 12) (n + 12) (zs ++ marksFrom 1 0 12), .blk M 32 (KNC k Al nb cl), .row 93 2 Al nb cl (prs k.bl), .row 93 2 A5 n5 c5 (prs kx.bl), .blk M5 32 (KNC kx A5 n5 c5), .row 93 2 A7 n7 c7 (prs kx.bl), .blk M7 76 (KNC kx A7 n7 c7)] from (X5.out.push Xp.bel (Xp.all 0 _ rfl)).alloc' 76 (KNC kx A7 n7 c7) hM7.symm)
  have HN7 := Lib.hid hn7
  clear Xp X5 hn7
  unfold KNC
  go_upto_region 7 with fail
  rw [← hM7]
  change Code.wp _ _ _ _ (w7.alloc (.cells (KNC kx A7 n7 c7) 76))
  generalize w7.alloc (.cells (KNC kx A7 n7 c7) 76) = w8 at X7 ⊢
  clear hM7
  go_wp2_with (refine wpList_load_row rfl 32 _ rfl M rfl 32 (KNC k Al nb cl) (0, 0) _ (X7.out.blk 2 rfl) Try.underlying32 rfl (by kernel_rfl) ?_)
  refine (tcformat_any k Al nb cl _ HLB.out.symm (row_rd (X7.out.row 3 rfl)) HFB.out hts hec).mono ?_
  rintro e w9 ⟨A9, n9, c9, rfl, own9, hb9⟩
  have hn9 : n9 ≤ 40 := by have h1 := own9.len; have h2 := fmtB_blen k; omega
  have X9 := Lib.hid (X7.out.pushOwn hb9 own9)
  clear own9 hb9 X7
  go_wp2_with (refine wpList_load_row rfl 32 _ rfl N rfl 32 (KNC k Ab nb cb) (0, 0) _ (X9.out.blk 0 rfl) Try.underlying32 rfl (by kernel_rfl) ?_)
  refine (r8Format_any k Ab nb cb _ HLB.out.symm (RB.out _ X9.out.bel) HFB.out hts hec).mono ?_
  rintro e wa ⟨Aa, na, ca, rfl, owna, hba⟩
  have hna : na ≤ 40 := by have h1 := owna.len; have h2 := fmtB_blen k; omega
  have XA := Lib.hid (X9.out.pushOwn hba owna)
  clear owna hba X9
  obtain ⟨ef, hef⟩ : ∃ x, x = fmtE k := ⟨_, rfl⟩
  rw [← hef]
  clear hef
  have te : (ef == ef) = true := by simp
  have te' : (ex == ex) = true := by simp
  have tf : (ef != ef) = false := by simp
  have tf' : (ex != ex) = false := by simp
  go_upto_region 9 with fail
  refine wp_region_noPanic ?_
  refine wp_region_held_drew (S := fun W => W.heap[M5]? = some (.cells (KNC kx A5 n5 c5) 32 (0, 0)) ∧ W.heap[M7]? = some (.cells (KNC kx A7 n7 c7) 76 (0, 0)) ∧ W.heap[M]? = some (.cells (KNC k Al nb cl) 32 (0, 0)) ∧ W.heap[N]? = some (.cells (KNC k Ab nb cb) 32 (0, 0))) (by kernel_rfl) (by exact ⟨XA.out.drew.blk 5 rfl, XA.out.drew.blk 7 rfl, XA.out.drew.blk 2 rfl, XA.out.drew.blk 0 rfl⟩) (fun hHeld => ?_)
  have Y0 := Lib.hid XA.out.drew
  generalize wa.drew = v0 at Y0 hHeld ⊢
  refine' take_lit (i := 0) (v := .agg (KNC kx A5 n5 c5)) rfl (by kernel_rfl) (by kernel_rfl) (by kernel_rfl) (fun _ _ _ h => h) (Or.inl ⟨by rfl, ?yy20⟩) (by assumption) ?rr20
  case yy20 => intro w' hSw; exact exec_load_row 32 _ rfl M5 rfl 32 (KNC kx A5 n5 c5) (0, 0) _ (hSw.1) Try.underlying32 rfl (by kernel_rfl)
  (try simp only [Act.put]); (try simp only [List.setIfInBounds_toArray, List.set_cons_zero, List.set_cons_succ])
  refine' take_lit (i := 1) (v := .agg (KNC kx A7 n7 c7)) rfl (by kernel_rfl) (by kernel_rfl) (by kernel_rfl) (fun _ _ _ h => h) (Or.inl ⟨by rfl, ?yy21⟩) (by assumption) ?rr21
  case yy21 => intro w' hSw; exact exec_load_row 76 _ rfl M7 rfl 76 (KNC kx A7 n7 c7) (0, 0) _ (hSw.2.1) Try.underlying76 rfl (by kernel_rfl)
  (try simp only [Act.put]); (try simp only [List.setIfInBounds_toArray, List.set_cons_zero, List.set_cons_succ])
  refine wpAnyH_ready (rs := [2]) (by kernel_rfl) (by simp) ?_
  refine cons_lit rfl (fun K hK => ?ss2x22) AllReadyH.nil
  case ss2x22 =>
    go_simp
    refine (equal8_any kx A5 A7 n5 c5 n7 c7 _ HN5.out HN7.out (row_rd (Y0.out.row 4 rfl)) (row_rd (Y0.out.row 6 rfl)) (by have := HN5.out; omega)).mono ?_
    rintro e v1 ⟨rfl, hb1⟩
    have Y1 := Lib.hid (Y0.out.next hb1)
    clear hb1
    refine hK.out _ _ (by exact ⟨Y1.out.blk 5 rfl, Y1.out.blk 7 rfl, Y1.out.blk 2 rfl, Y1.out.blk 0 rfl⟩) (fun hHeld => ?_)
    clear hK K
    (try simp only [Act.put]); (try simp only [List.setIfInBounds_toArray, List.set_cons_zero, List.set_cons_succ])
    refine' take_lit (i := 3) (v := _) rfl (by kernel_rfl) (by kernel_rfl) (by kernel_rfl) (fun _ _ _ h => h) (Or.inl ⟨by rfl, ?yy23⟩) (by assumption) ?rr23
    case yy23 => intro w' hSw; (try dsimp only at hSw); go_simp; try (with_reducible rfl)
    (try simp only [Act.put]); (try simp only [List.setIfInBounds_toArray, List.set_cons_zero, List.set_cons_succ])
    refine' take_lit (i := 4) (v := _) rfl (by kernel_rfl) (by kernel_rfl) (by kernel_rfl) (fun _ _ _ h => h) (Or.inl ⟨by rfl, ?yy24⟩) (by assumption) ?rr24
    case yy24 => intro w' hSw; (try dsimp only at hSw); go_simp; try (with_reducible rfl)
    (try simp only [Act.put]); (try simp only [List.setIfInBounds_toArray, List.set_cons_zero, List.set_cons_succ])
    refine' take_lit (i := 5) (v := _) rfl (by kernel_rfl) (by kernel_rfl) (by kernel_rfl) (fun _ _ _ h => h) (Or.inl ⟨by rfl, ?yy25⟩) (by assumption) ?rr25
    case yy25 => intro w' hSw; (try dsimp only at hSw); go_simp; try (with_reducible rfl)
    (try simp only [Act.put]); (try simp only [List.setIfInBounds_toArray, List.set_cons_zero, List.set_cons_succ])
    refine' take_lit (i := 6) (v := _) rfl (by kernel_rfl) (by kernel_rfl) (by kernel_rfl) (fun _ _ _ h => h) (Or.inl ⟨by rfl, ?yy26⟩) (by assumption) ?rr26
    case yy26 => intro w' hSw; (try dsimp only at hSw); go_simp; try (with_reducible rfl)
    (try simp only [Act.put]); (try simp only [List.setIfInBounds_toArray, List.set_cons_zero, List.set_cons_succ])
    refine' take_lit (i := 7) (v := _) rfl (by kernel_rfl) (by kernel_rfl) (by kernel_rfl) (fun _ _ _ h => h) (Or.inl ⟨by rfl, ?yy27⟩) (by assumption) ?rr27
    case yy27 => intro w' hSw; (try dsimp only at hSw); go_simp; try (with_reducible rfl)
    (try simp only [Act.put]); (try simp only [List.setIfInBounds_toArray, List.set_cons_zero, List.set_cons_succ])
    refine' take_lit (i := 8) (v := _) rfl (by kernel_rfl) (by kernel_rfl) (by kernel_rfl) (fun _ _ _ h => h) (Or.inl ⟨by rfl, ?yy28⟩) (by assumption) ?rr28
    case yy28 => intro w' hSw; (try dsimp only at hSw); go_simp; try (with_reducible rfl)
    (try simp only [Act.put]); (try simp only [List.setIfInBounds_toArray, List.set_cons_zero, List.set_cons_succ])
    refine' take_lit (i := 9) (v := _) rfl (by kernel_rfl) (by kernel_rfl) (by kernel_rfl) (fun _ _ _ h => h) (Or.inl ⟨by rfl, ?yy29⟩) (by assumption) ?rr29
    case yy29 => intro w' hSw; (try dsimp only at hSw); go_simp; try (with_reducible rfl)
    (try simp only [Act.put]); (try simp only [List.setIfInBounds_toArray, List.set_cons_zero, List.set_cons_succ])
    refine' take_lit (i := 10) (v := _) rfl (by kernel_rfl) (by kernel_rfl) (by kernel_rfl) (fun _ _ _ h => h) (Or.inl ⟨by rfl, ?yy30⟩) (by assumption) ?rr30
    case yy30 => intro w' hSw; (try dsimp only at hSw); go_simp; try (with_reducible rfl)
    (try simp only [Act.put]); (try simp only [List.setIfInBounds_toArray, List.set_cons_zero, List.set_cons_succ])
    refine' take_lit (i := 11) (v := _) rfl (by kernel_rfl) (by kernel_rfl) (by kernel_rfl) (fun _ _ _ h => h) (Or.inl ⟨by rfl, ?yy31⟩) (by assumption) ?rr31
    case yy31 => intro w' hSw; (try dsimp only at hSw); go_simp; try (with_reducible rfl)
    (try simp only [Act.put]); (try simp only [List.setIfInBounds_toArray, List.set_cons_zero, List.set_cons_succ])
    refine wpAnyH_ready (rs := [12]) (by kernel_rfl) (by simp) ?_
    refine cons_lit rfl (fun K hK => ?ss12x32) AllReadyH.nil
    case ss12x32 =>
      go_simp
      refine (same_any A9 Aa n9 c9 na ca _ _ _ (Y1.out.rd 8 rfl) (Y1.out.rd 9 rfl) (by omega) (by omega)).mono ?_
      rintro e v2 ⟨rfl, m2, h2⟩
      rw [show (fmtB k == fmtB k) = true by simp]
      have Y2 := Lib.hid (h2 ▸ Y1.out.drewN m2)
      clear h2
      refine hK.out _ _ (by exact ⟨Y2.out.blk 5 rfl, Y2.out.blk 7 rfl, Y2.out.blk 2 rfl, Y2.out.blk 0 rfl⟩) (fun hHeld => ?_)
      clear hK K
      (try simp only [Act.put]); (try simp only [List.setIfInBounds_toArray, List.set_cons_zero, List.set_cons_succ])
      refine' take_lit (i := 13) (v := _) rfl (by kernel_rfl) (by kernel_rfl) (by kernel_rfl) (fun _ _ _ h => h) (Or.inl ⟨by rfl, ?yy33⟩) (by assumption) ?rr33
      case yy33 => intro w' hSw; (try dsimp only at hSw); go_simp; try (with_reducible rfl)
      (try simp only [Act.put]); (try simp only [List.setIfInBounds_toArray, List.set_cons_zero, List.set_cons_succ])
      refine' take_lit (i := 14) (v := _) rfl (by kernel_rfl) (by kernel_rfl) (by kernel_rfl) (fun _ _ _ h => h) (Or.inl ⟨by rfl, ?yy34⟩) (by assumption) ?rr34
      case yy34 => intro w' hSw; (try dsimp only at hSw); go_simp; try (with_reducible rfl)
      (try simp only [Act.put]); (try simp only [List.setIfInBounds_toArray, List.set_cons_zero, List.set_cons_succ])
      refine' take_lit (i := 15) (v := _) rfl (by kernel_rfl) (by kernel_rfl) (by kernel_rfl) (fun _ _ _ h => h) (Or.inl ⟨by rfl, ?yy35⟩) (by assumption) ?rr35
      case yy35 => intro w' hSw; (try dsimp only at hSw); go_simp; try (with_reducible rfl)
      (try simp only [Act.put]); (try simp only [List.setIfInBounds_toArray, List.set_cons_zero, List.set_cons_succ])
      refine' take_lit (i := 16) (v := _) rfl (by kernel_rfl) (by kernel_rfl) (by kernel_rfl) (fun _ _ _ h => h) (Or.inl ⟨by rfl, ?yy36⟩) (by assumption) ?rr36
      case yy36 => intro w' hSw; (try dsimp only at hSw); go_simp; try (with_reducible rfl)
      (try simp only [Act.put]); (try simp only [List.setIfInBounds_toArray, List.set_cons_zero, List.set_cons_succ])
      refine' take_lit (i := 17) (v := _) rfl (by kernel_rfl) (by kernel_rfl) (by kernel_rfl) (fun _ _ _ h => h) (Or.inl ⟨by rfl, ?yy37⟩) (by assumption) ?rr37
      case yy37 => intro w' hSw; (try dsimp only at hSw); go_simp; try (with_reducible rfl)
      (try simp only [Act.put]); (try simp only [List.setIfInBounds_toArray, List.set_cons_zero, List.set_cons_succ])
      refine' take_lit (i := 18) (v := _) rfl (by kernel_rfl) (by kernel_rfl) (by kernel_rfl) (fun _ _ _ h => h) (Or.inl ⟨by rfl, ?yy38⟩) (by assumption) ?rr38
      case yy38 => intro w' hSw; (try dsimp only at hSw); go_simp; try (with_reducible rfl)
      (try simp only [Act.put]); (try simp only [List.setIfInBounds_toArray, List.set_cons_zero, List.set_cons_succ])
      refine' take_lit (i := 19) (v := _) rfl (by kernel_rfl) (by kernel_rfl) (by kernel_rfl) (fun _ _ _ h => h) (Or.inl ⟨by rfl, ?yy39⟩) (by assumption) ?rr39
      case yy39 => intro w' hSw; (try dsimp only at hSw); go_simp; try (with_reducible rfl)
      (try simp only [Act.put]); (try simp only [List.setIfInBounds_toArray, List.set_cons_zero, List.set_cons_succ])
      refine' take_lit (i := 20) (v := _) rfl (by kernel_rfl) (by kernel_rfl) (by kernel_rfl) (fun _ _ _ h => h) (Or.inl ⟨by rfl, ?yy40⟩) (by assumption) ?rr40
      case yy40 => intro w' hSw; (try dsimp only at hSw); go_simp; try (with_reducible rfl)
      (try simp only [Act.put]); (try simp only [List.setIfInBounds_toArray, List.set_cons_zero, List.set_cons_succ])
      refine' take_lit (i := 21) (v := .agg (KNC k Al nb cl)) rfl (by kernel_rfl) (by kernel_rfl) (by kernel_rfl) (fun _ _ _ h => h) (Or.inl ⟨by rfl, ?yy41⟩) (by assumption) ?rr41
      case yy41 => intro w' hSw; exact exec_load_row 32 _ rfl M rfl 32 (KNC k Al nb cl) (0, 0) _ (hSw.2.2.1) Try.underlying32 rfl (by kernel_rfl)
      (try simp only [Act.put]); (try simp only [List.setIfInBounds_toArray, List.set_cons_zero, List.set_cons_succ])
      refine' take_lit (i := 23) (v := .agg (KNC k Ab nb cb)) rfl (by kernel_rfl) (by kernel_rfl) (by kernel_rfl) (fun _ _ _ h => h) (Or.inl ⟨by rfl, ?yy42⟩) (by assumption) ?rr42
      case yy42 => intro w' hSw; exact exec_load_row 32 _ rfl N rfl 32 (KNC k Ab nb cb) (0, 0) _ (hSw.2.2.2) Try.underlying32 rfl (by kernel_rfl)
      (try simp only [Act.put]); (try simp only [List.setIfInBounds_toArray, List.set_cons_zero, List.set_cons_succ])
      refine wpAnyH_ready (rs := [22]) (by kernel_rfl) (by simp) ?_
      refine cons_lit rfl (fun K hK => ?ss22x43) AllReadyH.nil
      case ss22x43 =>
        go_simp
        refine (tcright_any k Al nb cl _ HLB.out.symm).mono ?_
        rintro e v3 ⟨rfl, hb3⟩
        have Y3 := Lib.hid (Y2.out.next hb3)
        clear hb3
        refine hK.out _ _ (by exact ⟨Y3.out.blk 5 rfl, Y3.out.blk 7 rfl, Y3.out.blk 2 rfl, Y3.out.blk 0 rfl⟩) (fun hHeld => ?_)
        clear hK K
        (try simp only [Act.put]); (try simp only [List.setIfInBounds_toArray, List.set_cons_zero, List.set_cons_succ])
        refine wpAnyH_ready (rs := [24]) (by kernel_rfl) (by simp) ?_
        refine cons_lit rfl (fun K hK => ?ss24x44) AllReadyH.nil
        case ss24x44 =>
          go_simp
          refine (r8Right_any k Ab nb cb _ HLB.out.symm).mono ?_
          rintro e v4 ⟨rfl, hb4⟩
          have Y4 := Lib.hid (Y3.out.next hb4)
          clear hb4
          refine hK.out _ _ (by exact ⟨Y4.out.blk 5 rfl, Y4.out.blk 7 rfl, Y4.out.blk 2 rfl, Y4.out.blk 0 rfl⟩) (fun hHeld => ?_)
          clear hK K
          (try simp only [Act.put]); (try simp only [List.setIfInBounds_toArray, List.set_cons_zero, List.set_cons_succ])
          refine' take_lit (i := 25) (v := _) rfl (by kernel_rfl) (by kernel_rfl) (by kernel_rfl) (fun _ _ _ h => h) (Or.inl ⟨by rfl, ?yy45⟩) (by assumption) ?rr45
          case yy45 => intro w' hSw; (try dsimp only at hSw); go_simp; try (with_reducible rfl)
          (try simp only [Act.put]); (try simp only [List.setIfInBounds_toArray, List.set_cons_zero, List.set_cons_succ])
          refine' take_lit (i := 26) (v := _) rfl (by kernel_rfl) (by kernel_rfl) (by kernel_rfl) (fun _ _ _ h => h) (Or.inl ⟨by rfl, ?yy46⟩) (by assumption) ?rr46
          case yy46 => intro w' hSw; (try dsimp only at hSw); go_simp; try (with_reducible rfl)
          (try simp only [Act.put]); (try simp only [List.setIfInBounds_toArray, List.set_cons_zero, List.set_cons_succ])
          refine wpAnyH_done (by kernel_rfl) ?_ _
          refine NoPanic.normal ?_
          clear Y0 Y1 Y2 Y3 hHeld te te' tf tf'
          go_wp2_with fail
          refine (kept_any A1 n zs A c _ (RO.out _ Y4.out.bel) (Y4.out.rd 1 rfl) (by omega)).mono ?_
          rintro e wb ⟨rfl, mb, hb⟩
          have XB := Lib.hid (hb ▸ Y4.out.drewN mb)
          clear hb Y4
          go_wp2_with (first
            | (refine wpList_load_row_w 32 _ rfl (by rfl) M rfl 32 (KNC k Al nb cl) (0, 0) _ (XB.out.blk 2 rfl) Try.underlying32 rfl (by kernel_rfl) ?_)
            | (refine wpList_load_row_w 32 _ rfl (by rfl) N rfl 32 (KNC k Ab nb cb) (0, 0) _ (XB.out.blk 0 rfl) Try.underlying32 rfl (by kernel_rfl) ?_))
          refine (equal8_any k Al Ab nb cl nb cb _ HLB.out.symm HLB.out.symm (row_rd (XB.out.row 3 rfl)) (RB.out _ XB.out.bel) (by omega)).mono ?_
          rintro e wc2 ⟨rfl, hbc⟩
          have XC := Lib.hid (XB.out.next hbc)
          clear hbc XB
          go_wp2_with fail
          refine (sp_apart XC.out [1, 8] [⟨A1, n, n + 12⟩, ⟨A9, n9, c9⟩] (SPD.cons rfl (by omega) (by omega) (SPD.cons rfl (Nat.le_refl _) (by omega) SPD.nil)) (by decide) (by simp) (by simp) 2 2 rfl).mono ?_
          rintro e wd ⟨rfl, hbd⟩
          go_wp2_with fail
          go_ret
          exact ⟨rfl, XC.out.bel.trans hbd⟩

theorem ROWP.below {w W : World} {A : Option Addr} {n c : Nat} {l : List (Int × Int)} (h : ROWP w A n c l) (hb : Below w.heap.size w W) : ROWP W A n c l := ⟨(h.rd.below hb).more hb.size, h.bd, h.len, h.le, h.cap, h.nil⟩
set_option maxHeartbeats 4000000 in
set_option maxRecDepth 100000 in
theorem tcpOptions_walk (A : Option Addr) (n c : Nat) (zs : List Int) (m sc : Int) (sel st : Bool) (ts ec : Int) (Ab : Option Addr) (nb cb : Nat) (bl : List (Int × Int)) (w : World) (H : ROW .u8 255 w A n c zs) (HP : ROWP w Ab nb cb bl)
    (hts : 0 ≤ ts ∧ ts ≤ 4294967295) (hec : 0 ≤ ec ∧ ec ≤ 4294967295) :
    Calls Try.prog 5 #[.slice A n c, .agg #[.int .i64 m, .int .i64 sc, .bool sel, .bool st, .int .u32 ts, .int .u32 ec, .slice Ab nb cb]] w fun e w' => e = .returned (.bool true) ∧ Below w.heap.size w w' := by
  go_enter Try.func5, Try.ntmps5
  have X0 := Lib.hid ((SP.start w).alloc 32 #[.int .i64 m, .int .i64 sc, .bool sel, .bool st, .int .u32 ts, .int .u32 ec, .slice Ab nb cb])
  go_upto_region 1 with fail
  generalize w.alloc (.cells #[.int .i64 m, .int .i64 sc, .bool sel, .bool st, .int .u32 ts, .int .u32 ec, .slice Ab nb cb] 32) = w0 at X0 ⊢
  go_wp2_with (refine wpList_load_row rfl 32 _ rfl w.heap.size rfl 32 #[.int .i64 m, .int .i64 sc, .bool sel, .bool st, .int .u32 ts, .int .u32 ec, .slice Ab nb cb] (0, 0) _ (X0.out.blk 0 rfl) Try.underlying32 rfl (by kernel_rfl) ?_)
  have hb0 := X0.out.bel
  refine (options8_any ⟨m, sc, sel, st, ts, ec, bl⟩ A n c zs Ab nb cb _ ((H.rd.below hb0).more hb0.size) H.bd H.le H.cap (HP.below hb0) hts hec).mono ?_
  rintro e w1 ⟨rfl, hb1'⟩
  have hb1 := hb0.trans (hb1'.mono hb0.size)
  go_wp2_with fail
  refine (awake8_any _).mono ?_
  rintro e w2 ⟨rfl, hb2⟩
  go_wp2_with fail
  go_ret
  exact ⟨rfl, hb1.trans (hb2.mono hb1.size)⟩
end Go.Proofs.Ythdpcblmmjocmaa
