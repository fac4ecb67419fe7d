import Derived.Test.YthdpcblmmjocmaaWTcP5
import Derived.Test.YthdpcblmmjocmaaWCopy
import Derived.Laws.Tables
import Derived.Deep.DeepCutAuto
/- package tcp: Read. (Printed by gen_tcread.py.) -/
namespace Go.Proofs.Ythdpcblmmjocmaa
open Go.RowKit
set_option linter.unusedVariables false
attribute [local go_sem ↓] Go.wp_at_zero Go.wp_at_succ

theorem TH.one (h : TH) (A : Option Addr) (n c : Nat) : (h.cells (.slice A n c)).all (·.oneCell') = true := by unfold TH.cells; simp [Value.oneCell']
theorem results_cell_tmp2 {P : Program} {fn : Func} {p u1 p2 : Tmp} {ty : TypeId} (h : fn.results = #[.cell p ty, .tmp u1, .tmp p2]) (tmps : Array Value) (w : World) (g : Nat) (t : TypeId) (cs : Array Value) (fr : Nat × Nat) (d : TypeDesc)
    (hp : tmps.getD p undef = .pointer (some ⟨g, 0, none⟩)) (hg : w.heap[g]? = some (.cells cs t fr))
    (hu : P.underlying ty = some d) (hd : (match d with | .struct _ | .array _ _ => true | _ => false) = true) (hi : (P.info? ty).map (·.size) = some cs.size) :
    (results fn tmps).run P w = .ok (.tuple #[.agg cs, tmps.getD u1 undef, tmps.getD p2 undef]) w := by
  have hp' : tmps[p]?.getD undef = .pointer (some ⟨g, 0, none⟩) := by simpa using hp
  simp [results, h, hp', asAddr, run_loadVar_row w g t ty cs fr d hg hu hd hi]

theorem and15 : ∀ n : Nat, n < 256 → bits .and .u8 (n : Int) 15 = (n : Int) % 16 := by decide +kernel
/-- what Read gives -/
def TRead (w : World) (zs : List Int) (e : Ending) (w' : World) : Prop :=
  ∃ A n c, e = .returned (.tuple #[.agg ((tcHd zs).cells (.slice A n c)), .int .i64 (tcTo zs), .int .i64 (tcE zs)]) ∧ OWN .u8 5 w' w.heap.size A n c (tcOp zs) ∧ Below w.heap.size w w'
theorem TRead.no {w w' : World} {zs : List Int} {er : Int} (h : tcE zs = er) (h0 : er ≠ 0) (hb : Below w.heap.size w w') : TRead w zs (.returned (.tuple #[.agg (th0.cells (.slice none 0 0)), .int .i64 0, .int .i64 er])) w' := by
  have hn : ¬ tcE zs = 0 := by rw [h]; exact h0
  refine ⟨none, 0, 0, ?_, ?_, hb⟩
  · unfold tcHd tcTo; rw [if_neg hn, if_neg hn, h]; rfl
  · unfold tcOp; rw [if_neg hn]; exact OWN.nil

set_option maxHeartbeats 8000000 in
set_option maxRecDepth 100000 in
theorem tcread_any (A : Option Addr) (n c : Nat) (zs : List Int) (w : World) (h : RD .u8 w w.heap.size A n zs) (hz : BD 255 zs) (hnc : n ≤ c) (hn : n ≤ 140737488355328) :
    Calls Try.prog 21 #[.slice A n c] w (TRead w zs) := by
  obtain ⟨i0, hi, hz0, hz1, hz2⟩ := info_parts infoU8
  have HL := Lib.hid h.len
  have R := Lib.hid (fun (W : World) (hb : Below w.heap.size w W) => (show RD .u8 W W.heap.size A n zs from (h.below hb).more hb.size))
  have S0 := (SP.start w).alloc 28 (th0.cells (.slice none 0 0))
  go_enter Try.func21, Try.ntmps21
  go_upto_region 1 with fail
  change Code.wp _ _ _ _ (w.alloc (.cells (th0.cells (.slice none 0 0)) 28))
  generalize w.alloc (.cells (th0.cells (.slice none 0 0)) 28) = w1 at S0 ⊢
  obtain ⟨N, hN⟩ : ∃ N, N = w.heap.size := ⟨_, rfl⟩
  rw [← hN] at S0 ⊢
  have HN := Lib.hid hN
  have S1 := Lib.hid S0
  clear hN S0
  by_cases hs : n < 20
  · have t1 : (n : Int) < 20 := by omega
    have HE := Lib.hid (show tcE zs = 80 by unfold tcE; rw [if_pos (by rw [HL.out]; exact hs)])
    clear hs h
    go_wp2_with (refine wpList_store_row rfl 28 _ _ rfl N (th0.cells (.slice none 0 0)) rfl rfl 28 (th0.cells (.slice none 0 0)) (S1.out.blk 0 rfl) (by kernel_rfl) rfl (TH.one _ _ _ _) ?_)
    have S2 := S1.out.setR 0 rfl (th0.cells (.slice none 0 0))
    refine bodyPost_ret (results_cell_tmp2 rfl _ _ N 28 (th0.cells (.slice none 0 0)) _ _ rfl (S2.blk 0 rfl) Try.underlying28 rfl (by kernel_rfl)) rfl ?_
    exact .no HE.out (by decide) S2.bel
  have t1 : ¬ (n : Int) < 20 := by omega
  obtain ⟨b, off, rfl, hB, hc⟩ := h.2 (by omega)
  have HC := Lib.hid (fun (W : World) (hb : Below w.heap.size w W) (i : Nat) (hi : i < n) => (hb.cell (p := ⟨b, off + i, none⟩) hB).trans (hc i hi))
  have x12 : w1.cell? ⟨b, off + 12, none⟩ = some (.int .u8 (zs[12]?.getD 0)) := HC.out _ S1.out.bel 12 (by omega)
  obtain ⟨z12a, z12b⟩ := hz.get (by omega) 12
  obtain ⟨z12, hz12⟩ : ∃ z, zs[12]?.getD 0 = z := ⟨_, rfl⟩
  obtain ⟨z13a, z13b⟩ := hz.get (by omega) 13
  obtain ⟨z13, hz13⟩ : ∃ z, zs[13]?.getD 0 = z := ⟨_, rfl⟩
  rw [hz12] at x12 z12a z12b
  rw [hz13] at z13a z13b
  have CB13 := Lib.hid (fun (W : World) (hb : Below w.heap.size w W) => (show W.cell? ⟨b, off + 13, none⟩ = some (.int .u8 z13) by have := HC.out W hb 13 (by omega); rwa [hz13] at this))
  have CB12 := Lib.hid (fun (W : World) (hb : Below w.heap.size w W) => (show W.cell? ⟨b, off + 12, none⟩ = some (.int .u8 z12) by have := HC.out W hb 12 (by omega); rwa [hz12] at this))
  have H12 := Lib.hid hz12
  have H13 := Lib.hid hz13
  obtain ⟨q, hq⟩ : ∃ q : Nat, 4 * (z12 / 16) = (q : Int) := ⟨(4 * (z12 / 16)).toNat, by omega⟩
  have HQ := Lib.hid (show tcN zs = q by unfold tcN; rw [hz12, hq]; rfl)
  have e1 : IntKind.i64.wrap (z12 / 16) = z12 / 16 := IntWalk.i64_in _ (by omega)
  have e2 : IntKind.i64.wrap (4 * (z12 / 16)) = (q : Int) := by rw [hq]; exact IntWalk.i64_in _ (by omega)
  have hq60 : q ≤ 60 := by omega
  clear hc hz12 hz13
  go_upto_region 4 with fail
  clear e1 e2 x12
  have HC0 := Lib.hid (fun (W : World) (hb : Below w.heap.size w W) => tcword_any (some ⟨b, off, none⟩) n c zs W (R.out W hb) hz (by omega))
  obtain ⟨p0, hp0⟩ : ∃ u, wordAt zs 0 = u := ⟨_, rfl⟩
  rw [hp0] at HC0
  have bp0 := (wordAt_bd hz 0)
  rw [hp0] at bp0
  have HC2 := Lib.hid (fun (W : World) (hb : Below w.heap.size w W) => tcword_any (cutA (some ⟨b, off, none⟩) c 2) (n - 2) (c - 2) (zs.drop 2) W ((R.out W hb).cutA (lo := 2) (by omega) hnc) (hz.drop _) (by omega))
  have s2 := fun W => run_slice_lo (P := Try.prog) W Try.underlying22 hi hz1 (some ⟨b, off, none⟩) n c 2 2 rfl (by omega)
  rw [wordAt_drop zs 2 0] at HC2
  obtain ⟨p2, hp2⟩ : ∃ u, wordAt zs 2 = u := ⟨_, rfl⟩
  rw [hp2] at HC2
  have bp2 := (wordAt_bd hz 2)
  rw [hp2] at bp2
  have HC4 := Lib.hid (fun (W : World) (hb : Below w.heap.size w W) => tclong_any (cutA (some ⟨b, off, none⟩) c 4) (n - 4) (c - 4) (zs.drop 4) W ((R.out W hb).cutA (lo := 4) (by omega) hnc) (hz.drop _) (by omega) (by omega))
  have s4 := fun W => run_slice_lo (P := Try.prog) W Try.underlying22 hi hz1 (some ⟨b, off, none⟩) n c 4 4 rfl (by omega)
  rw [lng_drop zs 4 0] at HC4
  obtain ⟨p4, hp4⟩ : ∃ u, lng zs 4 = u := ⟨_, rfl⟩
  rw [hp4] at HC4
  have bp4 := (lng_bd hz 4)
  rw [hp4] at bp4
  have HC8 := Lib.hid (fun (W : World) (hb : Below w.heap.size w W) => tclong_any (cutA (some ⟨b, off, none⟩) c 8) (n - 8) (c - 8) (zs.drop 8) W ((R.out W hb).cutA (lo := 8) (by omega) hnc) (hz.drop _) (by omega) (by omega))
  have s8 := fun W => run_slice_lo (P := Try.prog) W Try.underlying22 hi hz1 (some ⟨b, off, none⟩) n c 8 8 rfl (by omega)
  rw [lng_drop zs 8 0] at HC8
  obtain ⟨p8, hp8⟩ : ∃ u, lng zs 8 = u := ⟨_, rfl⟩
  rw [hp8] at HC8
  have bp8 := (lng_bd hz 8)
  rw [hp8] at bp8
  have HC14 := Lib.hid (fun (W : World) (hb : Below w.heap.size w W) => tcword_any (cutA (some ⟨b, off, none⟩) c 14) (n - 14) (c - 14) (zs.drop 14) W ((R.out W hb).cutA (lo := 14) (by omega) hnc) (hz.drop _) (by omega))
  have s14 := fun W => run_slice_lo (P := Try.prog) W Try.underlying22 hi hz1 (some ⟨b, off, none⟩) n c 14 14 rfl (by omega)
  rw [wordAt_drop zs 14 0] at HC14
  obtain ⟨p14, hp14⟩ : ∃ u, wordAt zs 14 = u := ⟨_, rfl⟩
  rw [hp14] at HC14
  have bp14 := (wordAt_bd hz 14)
  rw [hp14] at bp14
  have HC18 := Lib.hid (fun (W : World) (hb : Below w.heap.size w W) => tcword_any (cutA (some ⟨b, off, none⟩) c 18) (n - 18) (c - 18) (zs.drop 18) W ((R.out W hb).cutA (lo := 18) (by omega) hnc) (hz.drop _) (by omega))
  have s18 := fun W => run_slice_lo (P := Try.prog) W Try.underlying22 hi hz1 (some ⟨b, off, none⟩) n c 18 18 rfl (by omega)
  rw [wordAt_drop zs 18 0] at HC18
  obtain ⟨p18, hp18⟩ : ∃ u, wordAt zs 18 = u := ⟨_, rfl⟩
  rw [hp18] at HC18
  have bp18 := (wordAt_bd hz 18)
  rw [hp18] at bp18
  have HT := Lib.hid (show thOf zs = TH.mk p0 p2 p4 p8 z13 p14 p18 by unfold thOf; rw [hp0, hp2, hp4, hp8, H13.out, hp14, hp18])
  have HW := Lib.hid (And.intro hp0 hp2)
  clear hp0 hp2 hp4 hp8 hp14 hp18
  generalize cutA (some ⟨b, off, none⟩) c 2 = A2 at HC2 s2
  generalize n - 2 = n2 at HC2 s2
  generalize c - 2 = c2 at HC2 s2
  generalize cutA (some ⟨b, off, none⟩) c 4 = A4 at HC4 s4
  generalize n - 4 = n4 at HC4 s4
  generalize c - 4 = c4 at HC4 s4
  generalize cutA (some ⟨b, off, none⟩) c 8 = A8 at HC8 s8
  generalize n - 8 = n8 at HC8 s8
  generalize c - 8 = c8 at HC8 s8
  generalize cutA (some ⟨b, off, none⟩) c 14 = A14 at HC14 s14
  generalize n - 14 = n14 at HC14 s14
  generalize c - 14 = c14 at HC14 s14
  generalize cutA (some ⟨b, off, none⟩) c 18 = A18 at HC18 s18
  generalize n - 18 = n18 at HC18 s18
  generalize c - 18 = c18 at HC18 s18
  have i12 : (12 : Int) < (n : Int) := by omega
  have i13 : (13 : Int) < (n : Int) := by omega
  have i20 : (20 : Int) ≤ (n : Int) := by omega
  go_cut [6] (fun s6 wx => ∃ M : Nat, s6 = .pointer (some ⟨M, 0, none⟩) ∧ SP w wx [.blk N 28 (th0.cells (.slice none 0 0)), .blk M 28 ((TH.mk p0 p2 p4 p8 z13 p14 p18).cells (.slice none 0 0))])
  case first =>
    have X0 := Lib.hid S1.out.drew
    refine wp_region_noPanic ?_
    refine wp_region_held_drew (S := fun W => W.cell? ⟨b, off + 13, none⟩ = some (.int .u8 z13)) (by kernel_rfl) (by exact CB13.out _ X0.out.bel) (fun hHeld => ?_)
    generalize w1.drew = v0 at X0 hHeld ⊢
    refine' take_lit (i := 0) (v := _) rfl (by kernel_rfl) (by kernel_rfl) (by kernel_rfl) (fun _ _ _ h => h) (Or.inl ⟨by rfl, ?yy1⟩) (by assumption) ?rr1
    case yy1 => intro w' hSw; (try dsimp only at hSw); go_simp; try (with_reducible rfl)
    (try simp only [Act.put]); (try simp only [List.setIfInBounds_toArray, List.set_cons_zero, List.set_cons_succ])
    refine' take_lit (i := 2) (v := _) rfl (by kernel_rfl) (by kernel_rfl) (by kernel_rfl) (fun _ _ _ h => h) (Or.inl ⟨by rfl, ?yy2⟩) (by assumption) ?rr2
    case yy2 => intro w' hSw; (try dsimp only at hSw); go_simp; try (with_reducible rfl)
    (try simp only [Act.put]); (try simp only [List.setIfInBounds_toArray, List.set_cons_zero, List.set_cons_succ])
    refine' take_lit (i := 3) (v := _) rfl (by kernel_rfl) (by kernel_rfl) (by kernel_rfl) (fun _ _ _ h => h) (Or.inl ⟨by rfl, ?yy3⟩) (by assumption) ?rr3
    case yy3 => intro w' hSw; (try dsimp only at hSw); go_simp; try (with_reducible rfl)
    (try simp only [Act.put]); (try simp only [List.setIfInBounds_toArray, List.set_cons_zero, List.set_cons_succ])
    refine' take_lit (i := 5) (v := _) rfl (by kernel_rfl) (by kernel_rfl) (by kernel_rfl) (fun _ _ _ h => h) (Or.inl ⟨by rfl, ?yy4⟩) (by assumption) ?rr4
    case yy4 => intro w' hSw; (try dsimp only at hSw); go_simp; try (with_reducible rfl)
    (try simp only [Act.put]); (try simp only [List.setIfInBounds_toArray, List.set_cons_zero, List.set_cons_succ])
    refine' take_lit (i := 6) (v := _) rfl (by kernel_rfl) (by kernel_rfl) (by kernel_rfl) (fun _ _ _ h => h) (Or.inl ⟨by rfl, ?yy5⟩) (by assumption) ?rr5
    case yy5 => intro w' hSw; (try dsimp only at hSw); go_simp; try (with_reducible rfl)
    (try simp only [Act.put]); (try simp only [List.setIfInBounds_toArray, List.set_cons_zero, List.set_cons_succ])
    refine' take_lit (i := 8) (v := _) rfl (by kernel_rfl) (by kernel_rfl) (by kernel_rfl) (fun _ _ _ h => h) (Or.inl ⟨by rfl, ?yy6⟩) (by assumption) ?rr6
    case yy6 => intro w' hSw; (try dsimp only at hSw); go_simp; try (with_reducible rfl)
    (try simp only [Act.put]); (try simp only [List.setIfInBounds_toArray, List.set_cons_zero, List.set_cons_succ])
    refine' take_lit (i := 9) (v := _) rfl (by kernel_rfl) (by kernel_rfl) (by kernel_rfl) (fun _ _ _ h => h) (Or.inl ⟨by rfl, ?yy7⟩) (by assumption) ?rr7
    case yy7 => intro w' hSw; (try dsimp only at hSw); go_simp; try (with_reducible rfl)
    (try simp only [Act.put]); (try simp only [List.setIfInBounds_toArray, List.set_cons_zero, List.set_cons_succ])
    refine' take_lit (i := 11) (v := _) rfl (by kernel_rfl) (by kernel_rfl) (by kernel_rfl) (fun _ _ _ h => h) (Or.inl ⟨by rfl, ?yy8⟩) (by assumption) ?rr8
    case yy8 => intro w' hSw; (try dsimp only at hSw); go_simp; try (with_reducible rfl)
    (try simp only [Act.put]); (try simp only [List.setIfInBounds_toArray, List.set_cons_zero, List.set_cons_succ])
    refine' take_lit (i := 12) (v := _) rfl (by kernel_rfl) (by kernel_rfl) (by kernel_rfl) (fun _ _ _ h => h) (Or.inl ⟨by rfl, ?yy9⟩) (by assumption) ?rr9
    case yy9 => intro w' hSw; (try dsimp only at hSw); go_simp; try (with_reducible rfl)
    (try simp only [Act.put]); (try simp only [List.setIfInBounds_toArray, List.set_cons_zero, List.set_cons_succ])
    refine' take_lit (i := 13) (v := _) rfl (by kernel_rfl) (by kernel_rfl) (by kernel_rfl) (fun _ _ _ h => h) (Or.inl ⟨by rfl, ?yy10⟩) (by assumption) ?rr10
    case yy10 => intro w' hSw; (try dsimp only at hSw); go_simp; try (with_reducible rfl)
    (try simp only [Act.put]); (try simp only [List.setIfInBounds_toArray, List.set_cons_zero, List.set_cons_succ])
    refine' take_lit (i := 14) (v := _) rfl (by kernel_rfl) (by kernel_rfl) (by kernel_rfl) (fun _ _ _ h => h) (Or.inl ⟨by rfl, ?yy11⟩) (by assumption) ?rr11
    case yy11 => intro w' hSw; (try dsimp only at hSw); go_simp; try (with_reducible rfl)
    (try simp only [Act.put]); (try simp only [List.setIfInBounds_toArray, List.set_cons_zero, List.set_cons_succ])
    refine' take_lit (i := 15) (v := _) rfl (by kernel_rfl) (by kernel_rfl) (by kernel_rfl) (fun _ _ _ h => h) (Or.inl ⟨by rfl, ?yy12⟩) (by assumption) ?rr12
    case yy12 => intro w' hSw; (try dsimp only at hSw); go_simp; try (with_reducible rfl)
    (try simp only [Act.put]); (try simp only [List.setIfInBounds_toArray, List.set_cons_zero, List.set_cons_succ])
    refine' take_lit (i := 17) (v := _) rfl (by kernel_rfl) (by kernel_rfl) (by kernel_rfl) (fun _ _ _ h => h) (Or.inl ⟨by rfl, ?yy13⟩) (by assumption) ?rr13
    case yy13 => intro w' hSw; (try dsimp only at hSw); go_simp; try (with_reducible rfl)
    (try simp only [Act.put]); (try simp only [List.setIfInBounds_toArray, List.set_cons_zero, List.set_cons_succ])
    refine' take_lit (i := 18) (v := _) rfl (by kernel_rfl) (by kernel_rfl) (by kernel_rfl) (fun _ _ _ h => h) (Or.inl ⟨by rfl, ?yy14⟩) (by assumption) ?rr14
    case yy14 => intro w' hSw; (try dsimp only at hSw); go_simp; try (with_reducible rfl)
    (try simp only [Act.put]); (try simp only [List.setIfInBounds_toArray, List.set_cons_zero, List.set_cons_succ])
    refine wpAnyH_ready (rs := [1, 21]) (by kernel_rfl) (by simp) ?_
    refine cons_lit rfl (fun K hK => ?ss1x15) (cons_lit rfl (fun K hK => ?ss21x15) AllReadyH.nil)
    case ss1x15 =>
      go_simp
      refine (HC0.out _ X0.out.bel).mono ?_
      rintro e v1 ⟨rfl, m1, h1⟩
      have X1 := Lib.hid (show SP w v1 [.blk N 28 (th0.cells (.slice none 0 0))] from h1 ▸ X0.out.drewN m1)
      clear h1
      refine hK.out _ _ (by exact CB13.out _ X1.out.bel) (fun hHeld => ?_)
      clear hK K
      (try simp only [Act.put]); (try simp only [List.setIfInBounds_toArray, List.set_cons_zero, List.set_cons_succ])
      refine wpAnyH_ready (rs := [4, 21]) (by kernel_rfl) (by simp) ?_
      refine cons_lit rfl (fun K hK => ?ss4x16) (cons_lit rfl (fun K hK => ?ss21x16) AllReadyH.nil)
      case ss4x16 =>
        go_simp
        refine (HC2.out _ X1.out.bel).mono ?_
        rintro e v3 ⟨rfl, m3, h3⟩
        have X3 := Lib.hid (show SP w v3 [.blk N 28 (th0.cells (.slice none 0 0))] from h3 ▸ X1.out.drewN m3)
        clear h3
        refine hK.out _ _ (by exact CB13.out _ X3.out.bel) (fun hHeld => ?_)
        clear hK K
        (try simp only [Act.put]); (try simp only [List.setIfInBounds_toArray, List.set_cons_zero, List.set_cons_succ])
        refine wpAnyH_ready (rs := [7, 21]) (by kernel_rfl) (by simp) ?_
        refine cons_lit rfl (fun K hK => ?ss7x17) (cons_lit rfl (fun K hK => ?ss21x17) AllReadyH.nil)
        case ss7x17 =>
          go_simp
          refine (HC4.out _ X3.out.bel).mono ?_
          rintro e v5 ⟨rfl, m5, h5⟩
          have X5 := Lib.hid (show SP w v5 [.blk N 28 (th0.cells (.slice none 0 0))] from h5 ▸ X3.out.drewN m5)
          clear h5
          refine hK.out _ _ (by exact CB13.out _ X5.out.bel) (fun hHeld => ?_)
          clear hK K
          (try simp only [Act.put]); (try simp only [List.setIfInBounds_toArray, List.set_cons_zero, List.set_cons_succ])
          refine wpAnyH_ready (rs := [10, 21]) (by kernel_rfl) (by simp) ?_
          refine cons_lit rfl (fun K hK => ?ss10x18) (cons_lit rfl (fun K hK => ?ss21x18) AllReadyH.nil)
          case ss10x18 =>
            go_simp
            refine (HC8.out _ X5.out.bel).mono ?_
            rintro e v7 ⟨rfl, m7, h7⟩
            have X7 := Lib.hid (show SP w v7 [.blk N 28 (th0.cells (.slice none 0 0))] from h7 ▸ X5.out.drewN m7)
            clear h7
            refine hK.out _ _ (by exact CB13.out _ X7.out.bel) (fun hHeld => ?_)
            clear hK K
            (try simp only [Act.put]); (try simp only [List.setIfInBounds_toArray, List.set_cons_zero, List.set_cons_succ])
            refine wpAnyH_ready (rs := [16, 21]) (by kernel_rfl) (by simp) ?_
            refine cons_lit rfl (fun K hK => ?ss16x19) (cons_lit rfl (fun K hK => ?ss21x19) AllReadyH.nil)
            case ss16x19 =>
              go_simp
              refine (HC14.out _ X7.out.bel).mono ?_
              rintro e v9 ⟨rfl, m9, h9⟩
              have X9 := Lib.hid (show SP w v9 [.blk N 28 (th0.cells (.slice none 0 0))] from h9 ▸ X7.out.drewN m9)
              clear h9
              refine hK.out _ _ (by exact CB13.out _ X9.out.bel) (fun hHeld => ?_)
              clear hK K
              (try simp only [Act.put]); (try simp only [List.setIfInBounds_toArray, List.set_cons_zero, List.set_cons_succ])
              refine wpAnyH_ready (rs := [19, 21]) (by kernel_rfl) (by simp) ?_
              refine cons_lit rfl (fun K hK => ?ss19x20) (cons_lit rfl (fun K hK => ?ss21x20) AllReadyH.nil)
              case ss19x20 =>
                go_simp
                refine (HC18.out _ X9.out.bel).mono ?_
                rintro e v11 ⟨rfl, m11, h11⟩
                have X11 := Lib.hid (show SP w v11 [.blk N 28 (th0.cells (.slice none 0 0))] from h11 ▸ X9.out.drewN m11)
                clear h11
                refine hK.out _ _ (by exact CB13.out _ X11.out.bel) (fun hHeld => ?_)
                clear hK K
                (try simp only [Act.put]); (try simp only [List.setIfInBounds_toArray, List.set_cons_zero, List.set_cons_succ])
                refine' take_lit (i := 20) (v := _) rfl (by kernel_rfl) (by kernel_rfl) (by kernel_rfl) (fun _ _ _ h => h) (Or.inl ⟨by rfl, ?yy21⟩) (by assumption) ?rr21
                case yy21 => intro w' hSw; (try dsimp only at hSw); go_simp; try (with_reducible rfl)
                (try simp only [Act.put]); (try simp only [List.setIfInBounds_toArray, List.set_cons_zero, List.set_cons_succ])
                refine wpAnyH_ready (rs := [21]) (by kernel_rfl) (by simp) ?_
                refine cons_lit rfl (fun K hK => ?ss21x22) AllReadyH.nil
                case ss21x22 =>
                  go_simp
                  obtain ⟨g13, hg13⟩ : ∃ g, g = v11.heap.size := ⟨_, rfl⟩
                  rw [← hg13]
                  refine nameW (fun v13 hv13 => ?_)
                  have X13 := Lib.hid (show SP w v13 [.blk N 28 (th0.cells (.slice none 0 0)), .blk g13 28 (th0.cells (.slice none 0 0))] by rw [hv13, hg13]; exact X11.out.alloc 28 (th0.cells (.slice none 0 0)))
                  clear hv13 hg13
                  refine hK.out _ _ (by exact CB13.out _ X13.out.bel) (fun hHeld => ?_)
                  clear hK K
                  (try simp only [Act.put]); (try simp only [List.setIfInBounds_toArray, List.set_cons_zero, List.set_cons_succ])
                  refine wpAnyH_ready (rs := [22]) (by kernel_rfl) (by simp) ?_
                  refine cons_lit rfl (fun K hK => ?ss22x23) AllReadyH.nil
                  case ss22x23 =>
                    refine step_store_row (by rfl) 28 _ _ (by rfl) g13 ((TH.mk p0 p2 p4 p8 z13 p14 p18).cells (.slice none 0 0)) (by rfl) (by rfl) 28 _ (X13.out.blk 1 rfl) (by kernel_rfl) rfl (TH.one _ _ _ _) ?_
                    have X14 := Lib.hid (X13.out.setR 1 rfl ((TH.mk p0 p2 p4 p8 z13 p14 p18).cells (.slice none 0 0)))
                    refine hK.out _ _ (by exact CB13.out _ X14.out.bel) (fun hHeld => ?_)
                    clear hK K
                    (try simp only [Act.put]); (try simp only [List.setIfInBounds_toArray, List.set_cons_zero, List.set_cons_succ])
                    refine wpAnyH_done (by kernel_rfl) ?_ _
                    refine NoPanic.normal ?_
                    go_wp2_with fail
                    go_meet
                    exact ⟨g13, rfl, X14.out⟩
              case ss21x20 =>
                go_simp
                obtain ⟨g12, hg12⟩ : ∃ g, g = v9.heap.size := ⟨_, rfl⟩
                rw [← hg12]
                refine nameW (fun v12 hv12 => ?_)
                have X12 := Lib.hid (show SP w v12 [.blk N 28 (th0.cells (.slice none 0 0)), .blk g12 28 (th0.cells (.slice none 0 0))] by rw [hv12, hg12]; exact X9.out.alloc 28 (th0.cells (.slice none 0 0)))
                clear hv12 hg12
                refine hK.out _ _ (by exact CB13.out _ X12.out.bel) (fun hHeld => ?_)
                clear hK K
                (try simp only [Act.put]); (try simp only [List.setIfInBounds_toArray, List.set_cons_zero, List.set_cons_succ])
                refine wpAnyH_ready (rs := [19]) (by kernel_rfl) (by simp) ?_
                refine cons_lit rfl (fun K hK => ?ss19x24) AllReadyH.nil
                case ss19x24 =>
                  go_simp
                  refine (HC18.out _ X12.out.bel).mono ?_
                  rintro e v15 ⟨rfl, m15, h15⟩
                  have X15 := Lib.hid (show SP w v15 [.blk N 28 (th0.cells (.slice none 0 0)), .blk g12 28 (th0.cells (.slice none 0 0))] from h15 ▸ X12.out.drewN m15)
                  clear h15
                  refine hK.out _ _ (by exact CB13.out _ X15.out.bel) (fun hHeld => ?_)
                  clear hK K
                  (try simp only [Act.put]); (try simp only [List.setIfInBounds_toArray, List.set_cons_zero, List.set_cons_succ])
                  refine' take_lit (i := 20) (v := _) rfl (by kernel_rfl) (by kernel_rfl) (by kernel_rfl) (fun _ _ _ h => h) (Or.inl ⟨by rfl, ?yy25⟩) (by assumption) ?rr25
                  case yy25 => intro w' hSw; (try dsimp only at hSw); go_simp; try (with_reducible rfl)
                  (try simp only [Act.put]); (try simp only [List.setIfInBounds_toArray, List.set_cons_zero, List.set_cons_succ])
                  refine wpAnyH_ready (rs := [22]) (by kernel_rfl) (by simp) ?_
                  refine cons_lit rfl (fun K hK => ?ss22x26) AllReadyH.nil
                  case ss22x26 =>
                    refine step_store_row (by rfl) 28 _ _ (by rfl) g12 ((TH.mk p0 p2 p4 p8 z13 p14 p18).cells (.slice none 0 0)) (by rfl) (by rfl) 28 _ (X15.out.blk 1 rfl) (by kernel_rfl) rfl (TH.one _ _ _ _) ?_
                    have X16 := Lib.hid (X15.out.setR 1 rfl ((TH.mk p0 p2 p4 p8 z13 p14 p18).cells (.slice none 0 0)))
                    refine hK.out _ _ (by exact CB13.out _ X16.out.bel) (fun hHeld => ?_)
                    clear hK K
                    (try simp only [Act.put]); (try simp only [List.setIfInBounds_toArray, List.set_cons_zero, List.set_cons_succ])
                    refine wpAnyH_done (by kernel_rfl) ?_ _
                    refine NoPanic.normal ?_
                    go_wp2_with fail
                    go_meet
                    exact ⟨g12, rfl, X16.out⟩
            case ss21x19 =>
              go_simp
              obtain ⟨g10, hg10⟩ : ∃ g, g = v7.heap.size := ⟨_, rfl⟩
              rw [← hg10]
              refine nameW (fun v10 hv10 => ?_)
              have X10 := Lib.hid (show SP w v10 [.blk N 28 (th0.cells (.slice none 0 0)), .blk g10 28 (th0.cells (.slice none 0 0))] by rw [hv10, hg10]; exact X7.out.alloc 28 (th0.cells (.slice none 0 0)))
              clear hv10 hg10
              refine hK.out _ _ (by exact CB13.out _ X10.out.bel) (fun hHeld => ?_)
              clear hK K
              (try simp only [Act.put]); (try simp only [List.setIfInBounds_toArray, List.set_cons_zero, List.set_cons_succ])
              refine wpAnyH_ready (rs := [16]) (by kernel_rfl) (by simp) ?_
              refine cons_lit rfl (fun K hK => ?ss16x27) AllReadyH.nil
              case ss16x27 =>
                go_simp
                refine (HC14.out _ X10.out.bel).mono ?_
                rintro e v17 ⟨rfl, m17, h17⟩
                have X17 := Lib.hid (show SP w v17 [.blk N 28 (th0.cells (.slice none 0 0)), .blk g10 28 (th0.cells (.slice none 0 0))] from h17 ▸ X10.out.drewN m17)
                clear h17
                refine hK.out _ _ (by exact CB13.out _ X17.out.bel) (fun hHeld => ?_)
                clear hK K
                (try simp only [Act.put]); (try simp only [List.setIfInBounds_toArray, List.set_cons_zero, List.set_cons_succ])
                refine wpAnyH_ready (rs := [19]) (by kernel_rfl) (by simp) ?_
                refine cons_lit rfl (fun K hK => ?ss19x28) AllReadyH.nil
                case ss19x28 =>
                  go_simp
                  refine (HC18.out _ X17.out.bel).mono ?_
                  rintro e v18 ⟨rfl, m18, h18⟩
                  have X18 := Lib.hid (show SP w v18 [.blk N 28 (th0.cells (.slice none 0 0)), .blk g10 28 (th0.cells (.slice none 0 0))] from h18 ▸ X17.out.drewN m18)
                  clear h18
                  refine hK.out _ _ (by exact CB13.out _ X18.out.bel) (fun hHeld => ?_)
                  clear hK K
                  (try simp only [Act.put]); (try simp only [List.setIfInBounds_toArray, List.set_cons_zero, List.set_cons_succ])
                  refine' take_lit (i := 20) (v := _) rfl (by kernel_rfl) (by kernel_rfl) (by kernel_rfl) (fun _ _ _ h => h) (Or.inl ⟨by rfl, ?yy29⟩) (by assumption) ?rr29
                  case yy29 => intro w' hSw; (try dsimp only at hSw); go_simp; try (with_reducible rfl)
                  (try simp only [Act.put]); (try simp only [List.setIfInBounds_toArray, List.set_cons_zero, List.set_cons_succ])
                  refine wpAnyH_ready (rs := [22]) (by kernel_rfl) (by simp) ?_
                  refine cons_lit rfl (fun K hK => ?ss22x30) AllReadyH.nil
                  case ss22x30 =>
                    refine step_store_row (by rfl) 28 _ _ (by rfl) g10 ((TH.mk p0 p2 p4 p8 z13 p14 p18).cells (.slice none 0 0)) (by rfl) (by rfl) 28 _ (X18.out.blk 1 rfl) (by kernel_rfl) rfl (TH.one _ _ _ _) ?_
                    have X19 := Lib.hid (X18.out.setR 1 rfl ((TH.mk p0 p2 p4 p8 z13 p14 p18).cells (.slice none 0 0)))
                    refine hK.out _ _ (by exact CB13.out _ X19.out.bel) (fun hHeld => ?_)
                    clear hK K
                    (try simp only [Act.put]); (try simp only [List.setIfInBounds_toArray, List.set_cons_zero, List.set_cons_succ])
                    refine wpAnyH_done (by kernel_rfl) ?_ _
                    refine NoPanic.normal ?_
                    go_wp2_with fail
                    go_meet
                    exact ⟨g10, rfl, X19.out⟩
          case ss21x18 =>
            go_simp
            obtain ⟨g8, hg8⟩ : ∃ g, g = v5.heap.size := ⟨_, rfl⟩
            rw [← hg8]
            refine nameW (fun v8 hv8 => ?_)
            have X8 := Lib.hid (show SP w v8 [.blk N 28 (th0.cells (.slice none 0 0)), .blk g8 28 (th0.cells (.slice none 0 0))] by rw [hv8, hg8]; exact X5.out.alloc 28 (th0.cells (.slice none 0 0)))
            clear hv8 hg8
            refine hK.out _ _ (by exact CB13.out _ X8.out.bel) (fun hHeld => ?_)
            clear hK K
            (try simp only [Act.put]); (try simp only [List.setIfInBounds_toArray, List.set_cons_zero, List.set_cons_succ])
            refine wpAnyH_ready (rs := [10]) (by kernel_rfl) (by simp) ?_
            refine cons_lit rfl (fun K hK => ?ss10x31) AllReadyH.nil
            case ss10x31 =>
              go_simp
              refine (HC8.out _ X8.out.bel).mono ?_
              rintro e v20 ⟨rfl, m20, h20⟩
              have X20 := Lib.hid (show SP w v20 [.blk N 28 (th0.cells (.slice none 0 0)), .blk g8 28 (th0.cells (.slice none 0 0))] from h20 ▸ X8.out.drewN m20)
              clear h20
              refine hK.out _ _ (by exact CB13.out _ X20.out.bel) (fun hHeld => ?_)
              clear hK K
              (try simp only [Act.put]); (try simp only [List.setIfInBounds_toArray, List.set_cons_zero, List.set_cons_succ])
              refine wpAnyH_ready (rs := [16]) (by kernel_rfl) (by simp) ?_
              refine cons_lit rfl (fun K hK => ?ss16x32) AllReadyH.nil
              case ss16x32 =>
                go_simp
                refine (HC14.out _ X20.out.bel).mono ?_
                rintro e v21 ⟨rfl, m21, h21⟩
                have X21 := Lib.hid (show SP w v21 [.blk N 28 (th0.cells (.slice none 0 0)), .blk g8 28 (th0.cells (.slice none 0 0))] from h21 ▸ X20.out.drewN m21)
                clear h21
                refine hK.out _ _ (by exact CB13.out _ X21.out.bel) (fun hHeld => ?_)
                clear hK K
                (try simp only [Act.put]); (try simp only [List.setIfInBounds_toArray, List.set_cons_zero, List.set_cons_succ])
                refine wpAnyH_ready (rs := [19]) (by kernel_rfl) (by simp) ?_
                refine cons_lit rfl (fun K hK => ?ss19x33) AllReadyH.nil
                case ss19x33 =>
                  go_simp
                  refine (HC18.out _ X21.out.bel).mono ?_
                  rintro e v22 ⟨rfl, m22, h22⟩
                  have X22 := Lib.hid (show SP w v22 [.blk N 28 (th0.cells (.slice none 0 0)), .blk g8 28 (th0.cells (.slice none 0 0))] from h22 ▸ X21.out.drewN m22)
                  clear h22
                  refine hK.out _ _ (by exact CB13.out _ X22.out.bel) (fun hHeld => ?_)
                  clear hK K
                  (try simp only [Act.put]); (try simp only [List.setIfInBounds_toArray, List.set_cons_zero, List.set_cons_succ])
                  refine' take_lit (i := 20) (v := _) rfl (by kernel_rfl) (by kernel_rfl) (by kernel_rfl) (fun _ _ _ h => h) (Or.inl ⟨by rfl, ?yy34⟩) (by assumption) ?rr34
                  case yy34 => intro w' hSw; (try dsimp only at hSw); go_simp; try (with_reducible rfl)
                  (try simp only [Act.put]); (try simp only [List.setIfInBounds_toArray, List.set_cons_zero, List.set_cons_succ])
                  refine wpAnyH_ready (rs := [22]) (by kernel_rfl) (by simp) ?_
                  refine cons_lit rfl (fun K hK => ?ss22x35) AllReadyH.nil
                  case ss22x35 =>
                    refine step_store_row (by rfl) 28 _ _ (by rfl) g8 ((TH.mk p0 p2 p4 p8 z13 p14 p18).cells (.slice none 0 0)) (by rfl) (by rfl) 28 _ (X22.out.blk 1 rfl) (by kernel_rfl) rfl (TH.one _ _ _ _) ?_
                    have X23 := Lib.hid (X22.out.setR 1 rfl ((TH.mk p0 p2 p4 p8 z13 p14 p18).cells (.slice none 0 0)))
                    refine hK.out _ _ (by exact CB13.out _ X23.out.bel) (fun hHeld => ?_)
                    clear hK K
                    (try simp only [Act.put]); (try simp only [List.setIfInBounds_toArray, List.set_cons_zero, List.set_cons_succ])
                    refine wpAnyH_done (by kernel_rfl) ?_ _
                    refine NoPanic.normal ?_
                    go_wp2_with fail
                    go_meet
                    exact ⟨g8, rfl, X23.out⟩
        case ss21x17 =>
          go_simp
          obtain ⟨g6, hg6⟩ : ∃ g, g = v3.heap.size := ⟨_, rfl⟩
          rw [← hg6]
          refine nameW (fun v6 hv6 => ?_)
          have X6 := Lib.hid (show SP w v6 [.blk N 28 (th0.cells (.slice none 0 0)), .blk g6 28 (th0.cells (.slice none 0 0))] by rw [hv6, hg6]; exact X3.out.alloc 28 (th0.cells (.slice none 0 0)))
          clear hv6 hg6
          refine hK.out _ _ (by exact CB13.out _ X6.out.bel) (fun hHeld => ?_)
          clear hK K
          (try simp only [Act.put]); (try simp only [List.setIfInBounds_toArray, List.set_cons_zero, List.set_cons_succ])
          refine wpAnyH_ready (rs := [7]) (by kernel_rfl) (by simp) ?_
          refine cons_lit rfl (fun K hK => ?ss7x36) AllReadyH.nil
          case ss7x36 =>
            go_simp
            refine (HC4.out _ X6.out.bel).mono ?_
            rintro e v24 ⟨rfl, m24, h24⟩
            have X24 := Lib.hid (show SP w v24 [.blk N 28 (th0.cells (.slice none 0 0)), .blk g6 28 (th0.cells (.slice none 0 0))] from h24 ▸ X6.out.drewN m24)
            clear h24
            refine hK.out _ _ (by exact CB13.out _ X24.out.bel) (fun hHeld => ?_)
            clear hK K
            (try simp only [Act.put]); (try simp only [List.setIfInBounds_toArray, List.set_cons_zero, List.set_cons_succ])
            refine wpAnyH_ready (rs := [10]) (by kernel_rfl) (by simp) ?_
            refine cons_lit rfl (fun K hK => ?ss10x37) AllReadyH.nil
            case ss10x37 =>
              go_simp
              refine (HC8.out _ X24.out.bel).mono ?_
              rintro e v25 ⟨rfl, m25, h25⟩
              have X25 := Lib.hid (show SP w v25 [.blk N 28 (th0.cells (.slice none 0 0)), .blk g6 28 (th0.cells (.slice none 0 0))] from h25 ▸ X24.out.drewN m25)
              clear h25
              refine hK.out _ _ (by exact CB13.out _ X25.out.bel) (fun hHeld => ?_)
              clear hK K
              (try simp only [Act.put]); (try simp only [List.setIfInBounds_toArray, List.set_cons_zero, List.set_cons_succ])
              refine wpAnyH_ready (rs := [16]) (by kernel_rfl) (by simp) ?_
              refine cons_lit rfl (fun K hK => ?ss16x38) AllReadyH.nil
              case ss16x38 =>
                go_simp
                refine (HC14.out _ X25.out.bel).mono ?_
                rintro e v26 ⟨rfl, m26, h26⟩
                have X26 := Lib.hid (show SP w v26 [.blk N 28 (th0.cells (.slice none 0 0)), .blk g6 28 (th0.cells (.slice none 0 0))] from h26 ▸ X25.out.drewN m26)
                clear h26
                refine hK.out _ _ (by exact CB13.out _ X26.out.bel) (fun hHeld => ?_)
                clear hK K
                (try simp only [Act.put]); (try simp only [List.setIfInBounds_toArray, List.set_cons_zero, List.set_cons_succ])
                refine wpAnyH_ready (rs := [19]) (by kernel_rfl) (by simp) ?_
                refine cons_lit rfl (fun K hK => ?ss19x39) AllReadyH.nil
                case ss19x39 =>
                  go_simp
                  refine (HC18.out _ X26.out.bel).mono ?_
                  rintro e v27 ⟨rfl, m27, h27⟩
                  have X27 := Lib.hid (show SP w v27 [.blk N 28 (th0.cells (.slice none 0 0)), .blk g6 28 (th0.cells (.slice none 0 0))] from h27 ▸ X26.out.drewN m27)
                  clear h27
                  refine hK.out _ _ (by exact CB13.out _ X27.out.bel) (fun hHeld => ?_)
                  clear hK K
                  (try simp only [Act.put]); (try simp only [List.setIfInBounds_toArray, List.set_cons_zero, List.set_cons_succ])
                  refine' take_lit (i := 20) (v := _) rfl (by kernel_rfl) (by kernel_rfl) (by kernel_rfl) (fun _ _ _ h => h) (Or.inl ⟨by rfl, ?yy40⟩) (by assumption) ?rr40
                  case yy40 => intro w' hSw; (try dsimp only at hSw); go_simp; try (with_reducible rfl)
                  (try simp only [Act.put]); (try simp only [List.setIfInBounds_toArray, List.set_cons_zero, List.set_cons_succ])
                  refine wpAnyH_ready (rs := [22]) (by kernel_rfl) (by simp) ?_
                  refine cons_lit rfl (fun K hK => ?ss22x41) AllReadyH.nil
                  case ss22x41 =>
                    refine step_store_row (by rfl) 28 _ _ (by rfl) g6 ((TH.mk p0 p2 p4 p8 z13 p14 p18).cells (.slice none 0 0)) (by rfl) (by rfl) 28 _ (X27.out.blk 1 rfl) (by kernel_rfl) rfl (TH.one _ _ _ _) ?_
                    have X28 := Lib.hid (X27.out.setR 1 rfl ((TH.mk p0 p2 p4 p8 z13 p14 p18).cells (.slice none 0 0)))
                    refine hK.out _ _ (by exact CB13.out _ X28.out.bel) (fun hHeld => ?_)
                    clear hK K
                    (try simp only [Act.put]); (try simp only [List.setIfInBounds_toArray, List.set_cons_zero, List.set_cons_succ])
                    refine wpAnyH_done (by kernel_rfl) ?_ _
                    refine NoPanic.normal ?_
                    go_wp2_with fail
                    go_meet
                    exact ⟨g6, rfl, X28.out⟩
      case ss21x16 =>
        go_simp
        obtain ⟨g4, hg4⟩ : ∃ g, g = v1.heap.size := ⟨_, rfl⟩
        rw [← hg4]
        refine nameW (fun v4 hv4 => ?_)
        have X4 := Lib.hid (show SP w v4 [.blk N 28 (th0.cells (.slice none 0 0)), .blk g4 28 (th0.cells (.slice none 0 0))] by rw [hv4, hg4]; exact X1.out.alloc 28 (th0.cells (.slice none 0 0)))
        clear hv4 hg4
        refine hK.out _ _ (by exact CB13.out _ X4.out.bel) (fun hHeld => ?_)
        clear hK K
        (try simp only [Act.put]); (try simp only [List.setIfInBounds_toArray, List.set_cons_zero, List.set_cons_succ])
        refine wpAnyH_ready (rs := [4]) (by kernel_rfl) (by simp) ?_
        refine cons_lit rfl (fun K hK => ?ss4x42) AllReadyH.nil
        case ss4x42 =>
          go_simp
          refine (HC2.out _ X4.out.bel).mono ?_
          rintro e v29 ⟨rfl, m29, h29⟩
          have X29 := Lib.hid (show SP w v29 [.blk N 28 (th0.cells (.slice none 0 0)), .blk g4 28 (th0.cells (.slice none 0 0))] from h29 ▸ X4.out.drewN m29)
          clear h29
          refine hK.out _ _ (by exact CB13.out _ X29.out.bel) (fun hHeld => ?_)
          clear hK K
          (try simp only [Act.put]); (try simp only [List.setIfInBounds_toArray, List.set_cons_zero, List.set_cons_succ])
          refine wpAnyH_ready (rs := [7]) (by kernel_rfl) (by simp) ?_
          refine cons_lit rfl (fun K hK => ?ss7x43) AllReadyH.nil
          case ss7x43 =>
            go_simp
            refine (HC4.out _ X29.out.bel).mono ?_
            rintro e v30 ⟨rfl, m30, h30⟩
            have X30 := Lib.hid (show SP w v30 [.blk N 28 (th0.cells (.slice none 0 0)), .blk g4 28 (th0.cells (.slice none 0 0))] from h30 ▸ X29.out.drewN m30)
            clear h30
            refine hK.out _ _ (by exact CB13.out _ X30.out.bel) (fun hHeld => ?_)
            clear hK K
            (try simp only [Act.put]); (try simp only [List.setIfInBounds_toArray, List.set_cons_zero, List.set_cons_succ])
            refine wpAnyH_ready (rs := [10]) (by kernel_rfl) (by simp) ?_
            refine cons_lit rfl (fun K hK => ?ss10x44) AllReadyH.nil
            case ss10x44 =>
              go_simp
              refine (HC8.out _ X30.out.bel).mono ?_
              rintro e v31 ⟨rfl, m31, h31⟩
              have X31 := Lib.hid (show SP w v31 [.blk N 28 (th0.cells (.slice none 0 0)), .blk g4 28 (th0.cells (.slice none 0 0))] from h31 ▸ X30.out.drewN m31)
              clear h31
              refine hK.out _ _ (by exact CB13.out _ X31.out.bel) (fun hHeld => ?_)
              clear hK K
              (try simp only [Act.put]); (try simp only [List.setIfInBounds_toArray, List.set_cons_zero, List.set_cons_succ])
              refine wpAnyH_ready (rs := [16]) (by kernel_rfl) (by simp) ?_
              refine cons_lit rfl (fun K hK => ?ss16x45) AllReadyH.nil
              case ss16x45 =>
                go_simp
                refine (HC14.out _ X31.out.bel).mono ?_
                rintro e v32 ⟨rfl, m32, h32⟩
                have X32 := Lib.hid (show SP w v32 [.blk N 28 (th0.cells (.slice none 0 0)), .blk g4 28 (th0.cells (.slice none 0 0))] from h32 ▸ X31.out.drewN m32)
                clear h32
                refine hK.out _ _ (by exact CB13.out _ X32.out.bel) (fun hHeld => ?_)
                clear hK K
                (try simp only [Act.put]); (try simp only [List.setIfInBounds_toArray, List.set_cons_zero, List.set_cons_succ])
                refine wpAnyH_ready (rs := [19]) (by kernel_rfl) (by simp) ?_
                refine cons_lit rfl (fun K hK => ?ss19x46) AllReadyH.nil
                case ss19x46 =>
                  go_simp
                  refine (HC18.out _ X32.out.bel).mono ?_
                  rintro e v33 ⟨rfl, m33, h33⟩
                  have X33 := Lib.hid (show SP w v33 [.blk N 28 (th0.cells (.slice none 0 0)), .blk g4 28 (th0.cells (.slice none 0 0))] from h33 ▸ X32.out.drewN m33)
                  clear h33
                  refine hK.out _ _ (by exact CB13.out _ X33.out.bel) (fun hHeld => ?_)
                  clear hK K
                  (try simp only [Act.put]); (try simp only [List.setIfInBounds_toArray, List.set_cons_zero, List.set_cons_succ])
                  refine' take_lit (i := 20) (v := _) rfl (by kernel_rfl) (by kernel_rfl) (by kernel_rfl) (fun _ _ _ h => h) (Or.inl ⟨by rfl, ?yy47⟩) (by assumption) ?rr47
                  case yy47 => intro w' hSw; (try dsimp only at hSw); go_simp; try (with_reducible rfl)
                  (try simp only [Act.put]); (try simp only [List.setIfInBounds_toArray, List.set_cons_zero, List.set_cons_succ])
                  refine wpAnyH_ready (rs := [22]) (by kernel_rfl) (by simp) ?_
                  refine cons_lit rfl (fun K hK => ?ss22x48) AllReadyH.nil
                  case ss22x48 =>
                    refine step_store_row (by rfl) 28 _ _ (by rfl) g4 ((TH.mk p0 p2 p4 p8 z13 p14 p18).cells (.slice none 0 0)) (by rfl) (by rfl) 28 _ (X33.out.blk 1 rfl) (by kernel_rfl) rfl (TH.one _ _ _ _) ?_
                    have X34 := Lib.hid (X33.out.setR 1 rfl ((TH.mk p0 p2 p4 p8 z13 p14 p18).cells (.slice none 0 0)))
                    refine hK.out _ _ (by exact CB13.out _ X34.out.bel) (fun hHeld => ?_)
                    clear hK K
                    (try simp only [Act.put]); (try simp only [List.setIfInBounds_toArray, List.set_cons_zero, List.set_cons_succ])
                    refine wpAnyH_done (by kernel_rfl) ?_ _
                    refine NoPanic.normal ?_
                    go_wp2_with fail
                    go_meet
                    exact ⟨g4, rfl, X34.out⟩
    case ss21x15 =>
      go_simp
      obtain ⟨g2, hg2⟩ : ∃ g, g = v0.heap.size := ⟨_, rfl⟩
      rw [← hg2]
      refine nameW (fun v2 hv2 => ?_)
      have X2 := Lib.hid (show SP w v2 [.blk N 28 (th0.cells (.slice none 0 0)), .blk g2 28 (th0.cells (.slice none 0 0))] by rw [hv2, hg2]; exact X0.out.alloc 28 (th0.cells (.slice none 0 0)))
      clear hv2 hg2
      refine hK.out _ _ (by exact CB13.out _ X2.out.bel) (fun hHeld => ?_)
      clear hK K
      (try simp only [Act.put]); (try simp only [List.setIfInBounds_toArray, List.set_cons_zero, List.set_cons_succ])
      refine wpAnyH_ready (rs := [1]) (by kernel_rfl) (by simp) ?_
      refine cons_lit rfl (fun K hK => ?ss1x49) AllReadyH.nil
      case ss1x49 =>
        go_simp
        refine (HC0.out _ X2.out.bel).mono ?_
        rintro e v35 ⟨rfl, m35, h35⟩
        have X35 := Lib.hid (show SP w v35 [.blk N 28 (th0.cells (.slice none 0 0)), .blk g2 28 (th0.cells (.slice none 0 0))] from h35 ▸ X2.out.drewN m35)
        clear h35
        refine hK.out _ _ (by exact CB13.out _ X35.out.bel) (fun hHeld => ?_)
        clear hK K
        (try simp only [Act.put]); (try simp only [List.setIfInBounds_toArray, List.set_cons_zero, List.set_cons_succ])
        refine wpAnyH_ready (rs := [4]) (by kernel_rfl) (by simp) ?_
        refine cons_lit rfl (fun K hK => ?ss4x50) AllReadyH.nil
        case ss4x50 =>
          go_simp
          refine (HC2.out _ X35.out.bel).mono ?_
          rintro e v36 ⟨rfl, m36, h36⟩
          have X36 := Lib.hid (show SP w v36 [.blk N 28 (th0.cells (.slice none 0 0)), .blk g2 28 (th0.cells (.slice none 0 0))] from h36 ▸ X35.out.drewN m36)
          clear h36
          refine hK.out _ _ (by exact CB13.out _ X36.out.bel) (fun hHeld => ?_)
          clear hK K
          (try simp only [Act.put]); (try simp only [List.setIfInBounds_toArray, List.set_cons_zero, List.set_cons_succ])
          refine wpAnyH_ready (rs := [7]) (by kernel_rfl) (by simp) ?_
          refine cons_lit rfl (fun K hK => ?ss7x51) AllReadyH.nil
          case ss7x51 =>
            go_simp
            refine (HC4.out _ X36.out.bel).mono ?_
            rintro e v37 ⟨rfl, m37, h37⟩
            have X37 := Lib.hid (show SP w v37 [.blk N 28 (th0.cells (.slice none 0 0)), .blk g2 28 (th0.cells (.slice none 0 0))] from h37 ▸ X36.out.drewN m37)
            clear h37
            refine hK.out _ _ (by exact CB13.out _ X37.out.bel) (fun hHeld => ?_)
            clear hK K
            (try simp only [Act.put]); (try simp only [List.setIfInBounds_toArray, List.set_cons_zero, List.set_cons_succ])
            refine wpAnyH_ready (rs := [10]) (by kernel_rfl) (by simp) ?_
            refine cons_lit rfl (fun K hK => ?ss10x52) AllReadyH.nil
            case ss10x52 =>
              go_simp
              refine (HC8.out _ X37.out.bel).mono ?_
              rintro e v38 ⟨rfl, m38, h38⟩
              have X38 := Lib.hid (show SP w v38 [.blk N 28 (th0.cells (.slice none 0 0)), .blk g2 28 (th0.cells (.slice none 0 0))] from h38 ▸ X37.out.drewN m38)
              clear h38
              refine hK.out _ _ (by exact CB13.out _ X38.out.bel) (fun hHeld => ?_)
              clear hK K
              (try simp only [Act.put]); (try simp only [List.setIfInBounds_toArray, List.set_cons_zero, List.set_cons_succ])
              refine wpAnyH_ready (rs := [16]) (by kernel_rfl) (by simp) ?_
              refine cons_lit rfl (fun K hK => ?ss16x53) AllReadyH.nil
              case ss16x53 =>
                go_simp
                refine (HC14.out _ X38.out.bel).mono ?_
                rintro e v39 ⟨rfl, m39, h39⟩
                have X39 := Lib.hid (show SP w v39 [.blk N 28 (th0.cells (.slice none 0 0)), .blk g2 28 (th0.cells (.slice none 0 0))] from h39 ▸ X38.out.drewN m39)
                clear h39
                refine hK.out _ _ (by exact CB13.out _ X39.out.bel) (fun hHeld => ?_)
                clear hK K
                (try simp only [Act.put]); (try simp only [List.setIfInBounds_toArray, List.set_cons_zero, List.set_cons_succ])
                refine wpAnyH_ready (rs := [19]) (by kernel_rfl) (by simp) ?_
                refine cons_lit rfl (fun K hK => ?ss19x54) AllReadyH.nil
                case ss19x54 =>
                  go_simp
                  refine (HC18.out _ X39.out.bel).mono ?_
                  rintro e v40 ⟨rfl, m40, h40⟩
                  have X40 := Lib.hid (show SP w v40 [.blk N 28 (th0.cells (.slice none 0 0)), .blk g2 28 (th0.cells (.slice none 0 0))] from h40 ▸ X39.out.drewN m40)
                  clear h40
                  refine hK.out _ _ (by exact CB13.out _ X40.out.bel) (fun hHeld => ?_)
                  clear hK K
                  (try simp only [Act.put]); (try simp only [List.setIfInBounds_toArray, List.set_cons_zero, List.set_cons_succ])
                  refine' take_lit (i := 20) (v := _) rfl (by kernel_rfl) (by kernel_rfl) (by kernel_rfl) (fun _ _ _ h => h) (Or.inl ⟨by rfl, ?yy55⟩) (by assumption) ?rr55
                  case yy55 => intro w' hSw; (try dsimp only at hSw); go_simp; try (with_reducible rfl)
                  (try simp only [Act.put]); (try simp only [List.setIfInBounds_toArray, List.set_cons_zero, List.set_cons_succ])
                  refine wpAnyH_ready (rs := [22]) (by kernel_rfl) (by simp) ?_
                  refine cons_lit rfl (fun K hK => ?ss22x56) AllReadyH.nil
                  case ss22x56 =>
                    refine step_store_row (by rfl) 28 _ _ (by rfl) g2 ((TH.mk p0 p2 p4 p8 z13 p14 p18).cells (.slice none 0 0)) (by rfl) (by rfl) 28 _ (X40.out.blk 1 rfl) (by kernel_rfl) rfl (TH.one _ _ _ _) ?_
                    have X41 := Lib.hid (X40.out.setR 1 rfl ((TH.mk p0 p2 p4 p8 z13 p14 p18).cells (.slice none 0 0)))
                    refine hK.out _ _ (by exact CB13.out _ X41.out.bel) (fun hHeld => ?_)
                    clear hK K
                    (try simp only [Act.put]); (try simp only [List.setIfInBounds_toArray, List.set_cons_zero, List.set_cons_succ])
                    refine wpAnyH_done (by kernel_rfl) ?_ _
                    refine NoPanic.normal ?_
                    go_wp2_with fail
                    go_meet
                    exact ⟨g2, rfl, X41.out⟩
  case rest =>
    obtain ⟨M, rfl, hX⟩ := hcut
    have X := Lib.hid hX
    clear hX S1 HC0 HC2 HC4 HC8 HC14 HC18 s2 s4 s8 s14 s18
    have hno : ∀ er : Int, tcE zs = er → er ≠ 0 → ∀ w', SP w w' [.blk N 28 (th0.cells (.slice none 0 0)), .blk M 28 ((TH.mk p0 p2 p4 p8 z13 p14 p18).cells (.slice none 0 0))] → (∃ v, (results Try.f21 #[]).run Try.prog w' = v) → True := fun _ _ _ _ _ _ => trivial
    clear hno
    have HE0 := Lib.hid (show ¬ zs.length < 20 by rw [HL.out]; exact hs)
    by_cases h81 : q < 20 ∨ n < q
    · have HE := Lib.hid (show tcE zs = 81 by unfold tcE; rw [if_neg HE0.out, HQ.out, HL.out, if_pos h81])
      by_cases h1 : q < 20
      · have t2 : (q : Int) < 20 := by omega
        clear h81 h1
        go_wp2_with (refine wpList_store_row rfl 28 _ _ rfl N (th0.cells (.slice none 0 0)) rfl rfl 28 (th0.cells (.slice none 0 0)) (X.out.blk 0 rfl) (by kernel_rfl) rfl (TH.one _ _ _ _) ?_)
        have S2 := X.out.setR 0 rfl (th0.cells (.slice none 0 0))
        refine bodyPost_ret (results_cell_tmp2 rfl _ _ N 28 (th0.cells (.slice none 0 0)) _ _ rfl (S2.blk 0 rfl) Try.underlying28 rfl (by kernel_rfl)) rfl ?_
        exact .no HE.out (by decide) S2.bel
      · have t2 : ¬ (q : Int) < 20 := by omega
        have t3 : (n : Int) < (q : Int) := by omega
        clear h81 h1
        go_wp2_with (refine wpList_store_row rfl 28 _ _ rfl N (th0.cells (.slice none 0 0)) rfl rfl 28 (th0.cells (.slice none 0 0)) (X.out.blk 0 rfl) (by kernel_rfl) rfl (TH.one _ _ _ _) ?_)
        have S2 := X.out.setR 0 rfl (th0.cells (.slice none 0 0))
        refine bodyPost_ret (results_cell_tmp2 rfl _ _ N 28 (th0.cells (.slice none 0 0)) _ _ rfl (S2.blk 0 rfl) Try.underlying28 rfl (by kernel_rfl)) rfl ?_
        exact .no HE.out (by decide) S2.bel
    have q20 : 20 ≤ q := by omega
    have qn : q ≤ n := by omega
    have HE1 := Lib.hid h81
    have t2 : ¬ (q : Int) < 20 := by omega
    have t3 : ¬ (n : Int) < (q : Int) := by omega
    have x12 : wc.cell? ⟨b, off + 12, none⟩ = some (.int .u8 z12) := CB12.out _ X.out.bel
    have c4 : wc.cell? ⟨M, 4, none⟩ = some (.int .u8 z13) := X.out.cell 1 rfl 4 rfl
    clear h81
    have hand : bits .and .u8 z12 15 = z12 % 16 := by
      obtain ⟨k, rfl⟩ := Int.eq_ofNat_of_zero_le z12a
      exact and15 k (by omega)
    by_cases h82 : z12 % 16 = 0
    case neg =>
      have HE := Lib.hid (show tcE zs = 82 by unfold tcE; rw [if_neg HE0.out, HQ.out, HL.out, if_neg HE1.out, H12.out, if_pos (.inl h82)])
      have t4 : (z12 % 16 != 0) = true := by simp [h82]
      clear h82
      go_wp2_with (refine wpList_store_row rfl 28 _ _ rfl N (th0.cells (.slice none 0 0)) rfl rfl 28 (th0.cells (.slice none 0 0)) (X.out.blk 0 rfl) (by kernel_rfl) rfl (TH.one _ _ _ _) ?_)
      have S2 := X.out.setR 0 rfl (th0.cells (.slice none 0 0))
      refine bodyPost_ret (results_cell_tmp2 rfl _ _ N 28 (th0.cells (.slice none 0 0)) _ _ rfl (S2.blk 0 rfl) Try.underlying28 rfl (by kernel_rfl)) rfl ?_
      exact .no HE.out (by decide) S2.bel
    have H82 := Lib.hid h82
    have t4 : (z12 % 16 != 0) = false := by simp [h82]
    clear h82
    have HSN := Lib.hid (sane_any z13 wc ⟨z13a, z13b⟩)
    have c0 : wc.cell? ⟨M, 0, none⟩ = some (.int .u16 p0) := X.out.cell 1 rfl 0 rfl
    have c1 : wc.cell? ⟨M, 1, none⟩ = some (.int .u16 p2) := X.out.cell 1 rfl 1 rfl
    cases hsn : saneB z13 with
    | false =>
      rw [hsn] at HSN
      have HE := Lib.hid (show tcE zs = 82 by unfold tcE; rw [if_neg HE0.out, HQ.out, HL.out, if_neg HE1.out, H13.out, if_pos (.inr hsn)])
      clear hsn
      go_wp2_with (first | (go_at_call 20; refine HSN.out.mono ?_; rintro e w2 ⟨rfl, rfl⟩) | (refine wpList_store_row rfl 28 _ _ rfl N (th0.cells (.slice none 0 0)) rfl rfl 28 (th0.cells (.slice none 0 0)) (X.out.blk 0 rfl) (by kernel_rfl) rfl (TH.one _ _ _ _) ?_))
      have S2 := X.out.setR 0 rfl (th0.cells (.slice none 0 0))
      refine bodyPost_ret (results_cell_tmp2 rfl _ _ N 28 (th0.cells (.slice none 0 0)) _ _ rfl (S2.blk 0 rfl) Try.underlying28 rfl (by kernel_rfl)) rfl ?_
      exact .no HE.out (by decide) S2.bel
    | true =>
      rw [hsn] at HSN
      have HE2 := Lib.hid (show ¬ (zs[12]?.getD 0 % 16 ≠ 0 ∨ saneB (zs[13]?.getD 0) = false) by rw [H12.out, H13.out, hsn, H82.out]; simp)
      clear hsn
      by_cases h83 : p0 = 0 ∨ p2 = 0
      · have HE := Lib.hid (show tcE zs = 83 by unfold tcE; rw [if_neg HE0.out, HQ.out, HL.out, if_neg HE1.out, if_neg HE2.out, HW.out.1, HW.out.2, if_pos h83])
        by_cases h1 : p0 = 0
        · have t5 : (p0 == 0) = true := by simp [h1]
          clear h83 h1
          go_wp2_with (first | (go_at_call 20; refine HSN.out.mono ?_; rintro e w2 ⟨rfl, rfl⟩) | (refine wpList_store_row rfl 28 _ _ rfl N (th0.cells (.slice none 0 0)) rfl rfl 28 (th0.cells (.slice none 0 0)) (X.out.blk 0 rfl) (by kernel_rfl) rfl (TH.one _ _ _ _) ?_))
          have S2 := X.out.setR 0 rfl (th0.cells (.slice none 0 0))
          refine bodyPost_ret (results_cell_tmp2 rfl _ _ N 28 (th0.cells (.slice none 0 0)) _ _ rfl (S2.blk 0 rfl) Try.underlying28 rfl (by kernel_rfl)) rfl ?_
          exact .no HE.out (by decide) S2.bel
        · have t5 : (p0 == 0) = false := by simp [h1]
          have t6 : (p2 == 0) = true := by simp; omega
          clear h83 h1
          go_wp2_with (first | (go_at_call 20; refine HSN.out.mono ?_; rintro e w2 ⟨rfl, rfl⟩) | (refine wpList_store_row rfl 28 _ _ rfl N (th0.cells (.slice none 0 0)) rfl rfl 28 (th0.cells (.slice none 0 0)) (X.out.blk 0 rfl) (by kernel_rfl) rfl (TH.one _ _ _ _) ?_))
          have S2 := X.out.setR 0 rfl (th0.cells (.slice none 0 0))
          refine bodyPost_ret (results_cell_tmp2 rfl _ _ N 28 (th0.cells (.slice none 0 0)) _ _ rfl (S2.blk 0 rfl) Try.underlying28 rfl (by kernel_rfl)) rfl ?_
          exact .no HE.out (by decide) S2.bel
      have HE := Lib.hid (show tcE zs = 0 by unfold tcE; rw [if_neg HE0.out, HQ.out, HL.out, if_neg HE1.out, if_neg HE2.out, HW.out.1, HW.out.2, if_neg h83])
      have t5 : (p0 == 0) = false := by simp; omega
      have t6 : (p2 == 0) = false := by simp; omega
      have i1 : (20 : Int) ≤ (q : Int) := by omega
      have i2 : (q : Int) ≤ (c : Int) := by omega
      have sl := fun W => run_slice_lohi (P := Try.prog) W Try.underlying22 hi hz1 (some ⟨b, off, none⟩) n c 20 (q : Int) 20 q rfl rfl q20 (by omega)
      have RC := Lib.hid ((R.out wc X.out.bel).mid (c := c) (lo := 20) (hi := q) q20 qn hnc)
      have HO := Lib.hid (show tcOp zs = (zs.drop 20).take (q - 20) by unfold tcOp; rw [if_pos HE.out, HQ.out])
      clear h83
      go_upto_region 11 with (first | (go_at_call 20; refine HSN.out.mono ?_; rintro e w2 ⟨rfl, rfl⟩))
      clear x12 c4 c0 c1 HSN
      generalize cutA (some ⟨b, off, none⟩) c 20 = A20 at RC sl
      have hb20 : q - 20 ≤ 60 := by omega
      generalize q - 20 = q20' at RC sl HO hb20
      go_wp2_with fail
      refine (clone_any A20 q20' (c - 20) _ _ RC.out (by omega)).mono ?_
      rintro e w2 ⟨A2, n2, c2, rfl, own2, hb2⟩
      have Y := Lib.hid (X.out.pushOwn hb2 own2)
      clear own2 hb2 X RC sl hb20
      have c7 : w2.cell? ⟨M, 7, none⟩ = some (.slice none 0 0) := Y.out.cell 1 rfl 7 rfl
      have f7 := Y.out.free 1 rfl 7
      have Y1 := Lib.hid (show SP w _ [.blk N 28 (th0.cells (.slice none 0 0)), .blk M 28 ((TH.mk p0 p2 p4 p8 z13 p14 p18).cells (.slice A2 n2 c2)), .own .u8 5 A2 n2 c2 (List.take q20' (List.drop 20 zs))] from Y.out.setB 1 rfl 7 (.slice A2 n2 c2))
      go_upto_region 12 with fail
      generalize w2.setCell ⟨M, 7, none⟩ (.slice A2 n2 c2) = w3 at Y1 ⊢
      clear c7 f7 Y
      go_wp2_with (first | (refine wpList_load_row rfl 28 _ rfl M rfl 28 ((TH.mk p0 p2 p4 p8 z13 p14 p18).cells (.slice A2 n2 c2)) (0, 0) _ (Y1.out.blk 1 rfl) Try.underlying28 rfl (by kernel_rfl) ?_) | (refine wpList_store_row rfl 28 _ _ rfl N ((TH.mk p0 p2 p4 p8 z13 p14 p18).cells (.slice A2 n2 c2)) rfl rfl 28 (th0.cells (.slice none 0 0)) (Y1.out.blk 0 rfl) (by kernel_rfl) rfl (TH.one _ _ _ _) ?_))
      have Y2 := Y1.out.setR 0 rfl ((TH.mk p0 p2 p4 p8 z13 p14 p18).cells (.slice A2 n2 c2))
      refine bodyPost_ret (results_cell_tmp2 rfl _ _ N 28 ((TH.mk p0 p2 p4 p8 z13 p14 p18).cells (.slice A2 n2 c2)) _ _ rfl (Y2.blk 0 rfl) Try.underlying28 rfl (by kernel_rfl)) rfl ?_
      refine ⟨A2, n2, c2, ?_, ?_, Y2.bel⟩
      · unfold tcHd tcTo; rw [if_pos HE.out, if_pos HE.out, HT.out, HE.out, HQ.out]; rfl
      · rw [HO.out]; exact Y2.own 2 rfl
end Go.Proofs.Ythdpcblmmjocmaa
