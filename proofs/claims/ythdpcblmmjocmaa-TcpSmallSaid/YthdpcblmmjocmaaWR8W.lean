import Derived.Test.YthdpcblmmjocmaaWR8Rd
/- The reference of chapter 08: Write. (Printed by gen_r8w.py.) -/
namespace Go.Proofs.Ythdpcblmmjocmaa
open Go.RowKit
set_option linter.unusedVariables false
attribute [local go_sem ↓] Go.wp_at_zero Go.wp_at_succ

theorem tPkt0_eq (h : TH) (os data : List Int) (q : Int) (hq : (20 + (os.length : Int)) / 4 = q) : w2 h.sp ++ w2 h.dp ++ w4 h.sq ++ w4 h.ak ++ [q * 16, h.fl] ++ w2 h.wi ++ [0, 0] ++ w2 h.ug ++ os ++ data = tPkt0 h os data := by
  unfold tPkt0 tHead
  rw [hq]
  simp [w2]

set_option maxHeartbeats 8000000 in
set_option maxRecDepth 100000 in
theorem r8Write_any (h : TH) (hwf : h.WF) (Ao : Option Addr) (on oc : Nat) (os : List Int) (s d : Int) (Ad : Option Addr) (dn dc : Nat) (data : List Int) (w : World) (ro : RD .u8 w w.heap.size Ao on os) (bo : BD 255 os) (hon : on ≤ 140737488351232)
    (hs : 0 ≤ s ∧ s ≤ 4294967295) (hd : 0 ≤ d ∧ d ≤ 4294967295) (rd : RD .u8 w w.heap.size Ad dn data) (bd : BD 255 data) (hdn : dn ≤ 140737488351232) :
    Calls Try.prog 39 #[.agg (h.cells (.slice Ao on oc)), .int .u32 s, .int .u32 d, .slice Ad dn dc] w (TWrote w (tB h os s d data) (tE h on dn)) := by
  obtain ⟨sp, dp, sq, ak, fl, wi, ug⟩ := h
  have HWF := Lib.hid hwf
  have HL := Lib.hid (And.intro ro.len rd.len)
  obtain ⟨i0, hi, hz0, hz1, hz2⟩ := info_parts infoU8
  have RO := Lib.hid (fun (W : World) (hb : Below w.heap.size w W) => (show RD .u8 W W.heap.size Ao on os from (ro.below hb).more hb.size))
  have RD2 := Lib.hid (fun (W : World) (hb : Below w.heap.size w W) => (show RD .u8 W W.heap.size Ad dn data from (rd.below hb).more hb.size))
  have S0 := (SP.start w).alloc 70 ((TH.mk sp dp sq ak fl wi ug).cells (.slice Ao on oc))
  have HSN0 := Lib.hid (fun W => r8Sane_any fl W hwf.fl)
  obtain ⟨s0, s1⟩ := hs
  obtain ⟨d0, d1⟩ := hd
  clear ro rd hwf
  go_enter Try.func39, Try.ntmps39
  go_upto_region 1 with fail
  change Code.wp _ _ _ _ (w.alloc (.cells ((TH.mk sp dp sq ak fl wi ug).cells (.slice Ao on oc)) 70))
  generalize w.alloc (.cells ((TH.mk sp dp sq ak fl wi ug).cells (.slice Ao on oc)) 70) = w1 at S0 ⊢
  obtain ⟨N, hN⟩ : ∃ N, N = w.heap.size := ⟨_, rfl⟩
  rw [← hN] at S0 ⊢
  have HN := Lib.hid hN
  have X := Lib.hid S0
  clear hN S0
  have HB := Lib.hid X.out.bel
  have HSN := Lib.hid (HSN0.out w1)
  have c0 : w1.cell? ⟨N, 0, none⟩ = some (.int .u16 sp) := X.out.cell 0 rfl 0 rfl
  have c1 : w1.cell? ⟨N, 1, none⟩ = some (.int .u16 dp) := X.out.cell 0 rfl 1 rfl
  have c4 : w1.cell? ⟨N, 4, none⟩ = some (.int .u8 fl) := X.out.cell 0 rfl 4 rfl
  have c7 : w1.cell? ⟨N, 7, none⟩ = some (.slice Ao on oc) := X.out.cell 0 rfl 7 rfl
  by_cases h0 : sp = 0
  · have HW := Lib.hid (show TWrong (TH.mk sp dp sq ak fl wi ug) on dn from .inl h0)
    have t0 : (sp == 0) = true := by simp [h0]
    clear h0
    go_wp2_with fail
    go_ret2
    exact .no HW.out HL.out.1 HL.out.2 HB.out
  have t0 : (sp == 0) = false := by simp [h0]
  by_cases h1 : dp = 0
  · have HW := Lib.hid (show TWrong (TH.mk sp dp sq ak fl wi ug) on dn from .inr (.inl h1))
    have t1 : (dp == 0) = true := by simp [h1]
    clear h0 h1
    go_wp2_with fail
    go_ret2
    exact .no HW.out HL.out.1 HL.out.2 HB.out
  have t1 : (dp == 0) = false := by simp [h1]
  cases hsn : saneB fl with
  | false =>
    have HW := Lib.hid (show TWrong (TH.mk sp dp sq ak fl wi ug) on dn from .inr (.inr (.inl hsn)))
    rw [hsn] at HSN
    clear h0 h1 hsn
    go_wp2_with (go_at_call 35; refine HSN.out.mono ?_; rintro e w2 ⟨rfl, rfl⟩)
    go_ret2
    exact .no HW.out HL.out.1 HL.out.2 HB.out
  | true =>
  rw [hsn] at HSN
  by_cases h2 : 40 < on
  · have HW := Lib.hid (show TWrong (TH.mk sp dp sq ak fl wi ug) on dn from .inr (.inr (.inr (.inl h2))))
    have t2 : (40 : Int) < (on : Int) := by omega
    clear h0 h1 hsn
    go_wp2_with (go_at_call 35; refine HSN.out.mono ?_; rintro e w2 ⟨rfl, rfl⟩)
    go_ret2
    exact .no HW.out HL.out.1 HL.out.2 HB.out
  have t2 : ¬ (40 : Int) < (on : Int) := by omega
  by_cases h3 : on % 4 ≠ 0
  · have HW := Lib.hid (show TWrong (TH.mk sp dp sq ak fl wi ug) on dn from .inr (.inr (.inr (.inr (.inl h3)))))
    have t3 : ((on : Int) % 4 != 0) = true := by simp; omega
    clear h0 h1 hsn h3
    go_wp2_with (go_at_call 35; refine HSN.out.mono ?_; rintro e w2 ⟨rfl, rfl⟩)
    go_ret2
    exact .no HW.out HL.out.1 HL.out.2 HB.out
  have t3 : ((on : Int) % 4 != 0) = false := by simp; omega
  by_cases h4 : 65515 < 20 + on + dn
  · have HW := Lib.hid (show TWrong (TH.mk sp dp sq ak fl wi ug) on dn from .inr (.inr (.inr (.inr (.inr h4)))))
    have t4 : 65495 - (on : Int) < (dn : Int) := by omega
    clear h0 h1 hsn h3
    go_wp2_with (go_at_call 35; refine HSN.out.mono ?_; rintro e w2 ⟨rfl, rfl⟩)
    go_ret2
    exact .no HW.out HL.out.1 HL.out.2 HB.out
  have t4 : ¬ 65495 - (on : Int) < (dn : Int) := by omega
  have HW := Lib.hid (show ¬ TWrong (TH.mk sp dp sq ak fl wi ug) on dn by unfold TWrong; intro h; rcases h with h | h | h | h | h | h; exact h0 h; exact h1 h; rw [hsn] at h; cases h; all_goals omega)
  clear h0 h1 hsn h3
  go_upto_region 4 with (go_at_call 35; refine HSN.out.mono ?_; rintro e w2 ⟨rfl, rfl⟩)
  clear c0 c1 c4 c7 HSN HSN0
  obtain ⟨q, hq⟩ : ∃ q : Int, (20 + (on : Int)) / 4 = q := ⟨_, rfl⟩
  have hqb : 0 ≤ q ∧ q ≤ 15 := by omega
  have HP := Lib.hid (tPkt0_eq (TH.mk sp dp sq ak fl wi ug) os data q (by rw [HL.out.1]; exact hq))
  obtain ⟨hsp, hdp, hsq, hak, hfl, hwi, hug⟩ := HWF.out
  simp only at hsp hdp hsq hak hfl hwi hug
  have W2 := Lib.hid (And.intro (low2 hsp) (And.intro (low2 hdp) (And.intro (low2 hwi) (low2 hug))))
  have W4 := Lib.hid (And.intro (low4 hsq) (low4 hak))
  have esp : IntKind.i64.wrap sp = sp := IntWalk.i64_in _ (by omega)
  have edp : IntKind.i64.wrap dp = dp := IntWalk.i64_in _ (by omega)
  have esq : IntKind.i64.wrap sq = sq := IntWalk.i64_in _ (by omega)
  have eak : IntKind.i64.wrap ak = ak := IntWalk.i64_in _ (by omega)
  have ewi : IntKind.i64.wrap wi = wi := IntWalk.i64_in _ (by omega)
  have eug : IntKind.i64.wrap ug = ug := IntWalk.i64_in _ (by omega)
  have hon' : on ≤ 40 := by omega
  have hdn' : dn ≤ 65515 := by omega
  clear hon hdn h2 h4 t2 t3 t4
  have X0 := Lib.hid X.out.drew
  refine wp_region_noPanic ?_
  refine wp_region_held_drew (S := fun W => W.cell? ⟨N, 0, none⟩ = some (.int .u16 sp) ∧ W.cell? ⟨N, 1, none⟩ = some (.int .u16 dp)) (by kernel_rfl) (by exact ⟨X0.out.cell 0 rfl 0 rfl, X0.out.cell 0 rfl 1 rfl⟩) (fun hHeld => ?_)
  generalize w1.drew = v0 at X0 hHeld ⊢
  refine' take_lit (i := 0) (v := _) rfl (by kernel_rfl) (by kernel_rfl) (by kernel_rfl) (fun _ _ _ h => h) (Or.inl ⟨by rfl, ?yy1⟩) (by assumption) ?rr1
  case yy1 => intro w' hSw; (try dsimp only at hSw); go_simp; try (with_reducible rfl)
  (try simp only [Act.put]); (try simp only [List.setIfInBounds_toArray, List.set_cons_zero, List.set_cons_succ])
  refine' take_lit (i := 1) (v := _) rfl (by kernel_rfl) (by kernel_rfl) (by kernel_rfl) (fun _ _ _ h => h) (Or.inl ⟨by rfl, ?yy2⟩) (by assumption) ?rr2
  case yy2 => intro w' hSw; (try dsimp only at hSw); go_simp; try (with_reducible rfl)
  (try simp only [Act.put]); (try simp only [List.setIfInBounds_toArray, List.set_cons_zero, List.set_cons_succ])
  refine' take_lit (i := 2) (v := _) rfl (by kernel_rfl) (by kernel_rfl) (by kernel_rfl) (fun _ _ _ h => h) (Or.inl ⟨by rfl, ?yy3⟩) (by assumption) ?rr3
  case yy3 => intro w' hSw; (try dsimp only at hSw); go_simp; try (with_reducible rfl)
  (try simp only [Act.put]); (try simp only [List.setIfInBounds_toArray, List.set_cons_zero, List.set_cons_succ])
  refine' take_lit (i := 4) (v := _) rfl (by kernel_rfl) (by kernel_rfl) (by kernel_rfl) (fun _ _ _ h => h) (Or.inl ⟨by rfl, ?yy4⟩) (by assumption) ?rr4
  case yy4 => intro w' hSw; (try dsimp only at hSw); go_simp; try (with_reducible rfl)
  (try simp only [Act.put]); (try simp only [List.setIfInBounds_toArray, List.set_cons_zero, List.set_cons_succ])
  refine' take_lit (i := 5) (v := _) rfl (by kernel_rfl) (by kernel_rfl) (by kernel_rfl) (fun _ _ _ h => h) (Or.inl ⟨by rfl, ?yy5⟩) (by assumption) ?rr5
  case yy5 => intro w' hSw; (try dsimp only at hSw); go_simp; try (with_reducible rfl)
  (try simp only [Act.put]); (try simp only [List.setIfInBounds_toArray, List.set_cons_zero, List.set_cons_succ])
  refine' take_lit (i := 6) (v := _) rfl (by kernel_rfl) (by kernel_rfl) (by kernel_rfl) (fun _ _ _ h => h) (Or.inl ⟨by rfl, ?yy6⟩) (by assumption) ?rr6
  case yy6 => intro w' hSw; (try dsimp only at hSw); go_simp; try (with_reducible rfl)
  (try simp only [Act.put]); (try simp only [List.setIfInBounds_toArray, List.set_cons_zero, List.set_cons_succ])
  refine wpAnyH_ready (rs := [3]) (by kernel_rfl) (by simp) ?_
  refine cons_lit rfl (fun K hK => ?ss3x7) AllReadyH.nil
  case ss3x7 =>
    go_simp
    refine (r8bytes_any sp 2 2 _ (by omega) rfl (by omega)).mono ?_
    rintro e v1 ⟨Aa, ca, rfl, own, hb⟩
    rw [W2.out.1] at own
    have X1 := Lib.hid (X0.out.pushOwn hb own)
    clear own hb
    refine hK.out _ _ (by exact ⟨X1.out.cell 0 rfl 0 rfl, X1.out.cell 0 rfl 1 rfl⟩) (fun hHeld => ?_)
    clear hK K
    (try simp only [Act.put]); (try simp only [List.setIfInBounds_toArray, List.set_cons_zero, List.set_cons_succ])
    refine wpAnyH_ready (rs := [7]) (by kernel_rfl) (by simp) ?_
    refine cons_lit rfl (fun K hK => ?ss7x8) AllReadyH.nil
    case ss7x8 =>
      go_simp
      refine (r8bytes_any dp 2 2 _ (by omega) rfl (by omega)).mono ?_
      rintro e v2 ⟨Ab, cb, rfl, own, hb⟩
      rw [W2.out.2.1] at own
      have X2 := Lib.hid (X1.out.pushOwn hb own)
      clear own hb
      refine hK.out _ _ (by exact ⟨X2.out.cell 0 rfl 0 rfl, X2.out.cell 0 rfl 1 rfl⟩) (fun hHeld => ?_)
      clear hK K
      (try simp only [Act.put]); (try simp only [List.setIfInBounds_toArray, List.set_cons_zero, List.set_cons_succ])
      refine wpAnyH_ready (rs := [8]) (by kernel_rfl) (by simp) ?_
      refine cons_lit rfl (fun K hK => ?ss8x9) AllReadyH.nil
      case ss8x9 =>
        refine step_append_rd _ (by rfl) _ _ 22 (by rfl) .u8 w.heap.size 5 i0 1 Try.underlying22 hi hz0 hz1 hz2 Aa 2 ca (w2 sp) (by rfl) (by exact X2.out.own 1 rfl) _ Ab 2 cb (w2 dp) (by rfl) (by exact X2.out.rd 2 rfl) (by simp only [maxLen]; omega) (by omega) (by exact X2.out.size) ?_
        intro A4 c4 v3 happ
        have X4 := Lib.hid ((X2.out.app 1 rfl happ).pick [0, 1] (by decide) (L' := [.blk N 70 ((TH.mk sp dp sq ak fl wi ug).cells (.slice Ao on oc)), .own .u8 5 A4 4 c4 (w2 sp ++ w2 dp)]) rfl)
        clear happ X2
        refine hK.out _ _ (by exact ⟨X4.out.cell 0 rfl 0 rfl, X4.out.cell 0 rfl 1 rfl⟩) (fun hHeld => ?_)
        clear hK K
        (try simp only [Act.put]); (try simp only [List.setIfInBounds_toArray, List.set_cons_zero, List.set_cons_succ])
        refine' take_lit (i := 9) (v := _) rfl (by kernel_rfl) (by kernel_rfl) (by kernel_rfl) (fun _ _ _ h => h) (Or.inl ⟨by rfl, ?yy10⟩) (by assumption) ?rr10
        case yy10 => intro w' hSw; (try dsimp only at hSw); go_simp; try (with_reducible rfl)
        (try simp only [Act.put]); (try simp only [List.setIfInBounds_toArray, List.set_cons_zero, List.set_cons_succ])
        refine wpAnyH_done (by kernel_rfl) ?_ _
        refine NoPanic.normal ?_
        clear X0 X1 hHeld
        have f5 : v3.cell? ⟨N, 2, none⟩ = some (.int .u32 sq) := X4.out.cell 0 rfl 2 rfl
        go_wp2_with fail
        refine (r8bytes_any sq 4 4 _ (by omega) rfl (by omega)).mono ?_
        rintro e wy ⟨Ay, cy, rfl, own, hb⟩
        rw [W4.out.1] at own
        have XY := Lib.hid (X4.out.pushOwn hb own)
        clear own hb f5 X4
        go_upto_region 6 with (at_builtin; refine wpList_append_rd _ rfl _ _ _ rfl .u8 w.heap.size 5 i0 1 Try.underlying22 hi hz0 hz1 hz2 A4 4 c4 (w2 sp ++ w2 dp) rfl (XY.out.own 1 rfl) _ Ay 4 cy (w4 sq) rfl (XY.out.rd 2 rfl) (by simp only [maxLen]; omega) (by omega) XY.out.size ?_; intro A5 c5 v5 happ; have X5 := Lib.hid ((XY.out.app 1 rfl happ).pick [0, 1] (by decide) (L' := [.blk N 70 ((TH.mk sp dp sq ak fl wi ug).cells (.slice Ao on oc)), .own .u8 5 A5 (4 + 4) c5 (w2 sp ++ w2 dp ++ w4 sq)]) rfl); clear happ)
        clear XY
        have f6 : v5.cell? ⟨N, 3, none⟩ = some (.int .u32 ak) := X5.out.cell 0 rfl 3 rfl
        go_wp2_with fail
        refine (r8bytes_any ak 4 4 _ (by omega) rfl (by omega)).mono ?_
        rintro e wy ⟨Ay, cy, rfl, own, hb⟩
        rw [W4.out.2] at own
        have XY := Lib.hid (X5.out.pushOwn hb own)
        clear own hb f6 X5
        go_upto_region 7 with (at_builtin; refine wpList_append_rd _ rfl _ _ _ rfl .u8 w.heap.size 5 i0 1 Try.underlying22 hi hz0 hz1 hz2 A5 (4 + 4) c5 (w2 sp ++ w2 dp ++ w4 sq) rfl (XY.out.own 1 rfl) _ Ay 4 cy (w4 ak) rfl (XY.out.rd 2 rfl) (by simp only [maxLen]; omega) (by omega) XY.out.size ?_; intro A6 c6 v6 happ; have X6 := Lib.hid ((XY.out.app 1 rfl happ).pick [0, 1] (by decide) (L' := [.blk N 70 ((TH.mk sp dp sq ak fl wi ug).cells (.slice Ao on oc)), .own .u8 5 A6 ((4 + 4) + 4) c6 (w2 sp ++ w2 dp ++ w4 sq ++ w4 ak)]) rfl); clear happ)
        clear XY
        have f7 : v6.cell? ⟨N, 4, none⟩ = some (.int .u8 fl) := X6.out.cell 0 rfl 4 rfl
        have eq1 : IntKind.i64.wrap (20 + (on : Int)) = 20 + (on : Int) := IntWalk.i64_in _ (by omega)
        have eq2 : (20 + (on : Int)) / 4 = q := hq
        have eq3 : IntKind.i64.wrap (q * 16) = q * 16 := IntWalk.i64_in _ (by omega)
        have eq4 : IntKind.u8.wrap (q * 16) = q * 16 := u8_in _ (by omega) (by omega)
        have XY := Lib.hid (X6.out.allocI .u8 5 [q * 16, fl] (by simp [maxLen]))
        clear X6
        go_upto_region 8 with (at_builtin; refine wpList_append_rd _ rfl _ _ _ rfl .u8 w.heap.size 5 i0 1 Try.underlying22 hi hz0 hz1 hz2 A6 ((4 + 4) + 4) c6 (w2 sp ++ w2 dp ++ w4 sq ++ w4 ak) rfl (XY.out.own 1 rfl) _ (some ⟨v6.heap.size, 0, none⟩) 2 2 [q * 16, fl] rfl (XY.out.rd 2 rfl) (by simp only [maxLen]; omega) (by omega) XY.out.size ?_; intro A7 c7 v7 happ; have X7 := Lib.hid ((XY.out.app 1 rfl happ).pick [0, 1] (by decide) (L' := [.blk N 70 ((TH.mk sp dp sq ak fl wi ug).cells (.slice Ao on oc)), .own .u8 5 A7 (((4 + 4) + 4) + 2) c7 (w2 sp ++ w2 dp ++ w4 sq ++ w4 ak ++ [q * 16, fl])]) rfl); clear happ)
        clear XY f7 eq1 eq2 eq3 eq4
        have f8 : v7.cell? ⟨N, 5, none⟩ = some (.int .u16 wi) := X7.out.cell 0 rfl 5 rfl
        go_wp2_with fail
        refine (r8bytes_any wi 2 2 _ (by omega) rfl (by omega)).mono ?_
        rintro e wy ⟨Ay, cy, rfl, own, hb⟩
        rw [W2.out.2.2.1] at own
        have XY := Lib.hid (X7.out.pushOwn hb own)
        clear own hb f8 X7
        go_upto_region 9 with (at_builtin; refine wpList_append_rd _ rfl _ _ _ rfl .u8 w.heap.size 5 i0 1 Try.underlying22 hi hz0 hz1 hz2 A7 (((4 + 4) + 4) + 2) c7 (w2 sp ++ w2 dp ++ w4 sq ++ w4 ak ++ [q * 16, fl]) rfl (XY.out.own 1 rfl) _ Ay 2 cy (w2 wi) rfl (XY.out.rd 2 rfl) (by simp only [maxLen]; omega) (by omega) XY.out.size ?_; intro A8 c8 v8 happ; have X8 := Lib.hid ((XY.out.app 1 rfl happ).pick [0, 1] (by decide) (L' := [.blk N 70 ((TH.mk sp dp sq ak fl wi ug).cells (.slice Ao on oc)), .own .u8 5 A8 ((((4 + 4) + 4) + 2) + 2) c8 (w2 sp ++ w2 dp ++ w4 sq ++ w4 ak ++ [q * 16, fl] ++ w2 wi)]) rfl); clear happ)
        clear XY
        have XY := Lib.hid (X8.out.allocI .u8 5 [0, 0] (by simp [maxLen]))
        clear X8
        go_upto_region 10 with (at_builtin; refine wpList_append_rd _ rfl _ _ _ rfl .u8 w.heap.size 5 i0 1 Try.underlying22 hi hz0 hz1 hz2 A8 ((((4 + 4) + 4) + 2) + 2) c8 (w2 sp ++ w2 dp ++ w4 sq ++ w4 ak ++ [q * 16, fl] ++ w2 wi) rfl (XY.out.own 1 rfl) _ (some ⟨v8.heap.size, 0, none⟩) 2 2 [0, 0] rfl (XY.out.rd 2 rfl) (by simp only [maxLen]; omega) (by omega) XY.out.size ?_; intro A9 c9 v9 happ; have X9 := Lib.hid ((XY.out.app 1 rfl happ).pick [0, 1] (by decide) (L' := [.blk N 70 ((TH.mk sp dp sq ak fl wi ug).cells (.slice Ao on oc)), .own .u8 5 A9 (((((4 + 4) + 4) + 2) + 2) + 2) c9 (w2 sp ++ w2 dp ++ w4 sq ++ w4 ak ++ [q * 16, fl] ++ w2 wi ++ [0, 0])]) rfl); clear happ)
        clear XY
        have f10 : v9.cell? ⟨N, 6, none⟩ = some (.int .u16 ug) := X9.out.cell 0 rfl 6 rfl
        go_wp2_with fail
        refine (r8bytes_any ug 2 2 _ (by omega) rfl (by omega)).mono ?_
        rintro e wy ⟨Ay, cy, rfl, own, hb⟩
        rw [W2.out.2.2.2] at own
        have XY := Lib.hid (X9.out.pushOwn hb own)
        clear own hb f10 X9
        go_upto_region 11 with (at_builtin; refine wpList_append_rd _ rfl _ _ _ rfl .u8 w.heap.size 5 i0 1 Try.underlying22 hi hz0 hz1 hz2 A9 (((((4 + 4) + 4) + 2) + 2) + 2) c9 (w2 sp ++ w2 dp ++ w4 sq ++ w4 ak ++ [q * 16, fl] ++ w2 wi ++ [0, 0]) rfl (XY.out.own 1 rfl) _ Ay 2 cy (w2 ug) rfl (XY.out.rd 2 rfl) (by simp only [maxLen]; omega) (by omega) XY.out.size ?_; intro A10 c10 v10 happ; have X10 := Lib.hid ((XY.out.app 1 rfl happ).pick [0, 1] (by decide) (L' := [.blk N 70 ((TH.mk sp dp sq ak fl wi ug).cells (.slice Ao on oc)), .own .u8 5 A10 ((((((4 + 4) + 4) + 2) + 2) + 2) + 2) c10 (w2 sp ++ w2 dp ++ w4 sq ++ w4 ak ++ [q * 16, fl] ++ w2 wi ++ [0, 0] ++ w2 ug)]) rfl); clear happ)
        clear XY
        have f11 : v10.cell? ⟨N, 7, none⟩ = some (.slice Ao on oc) := X10.out.cell 0 rfl 7 rfl
        go_upto_region 12 with (at_builtin; refine wpList_append_rd _ rfl _ _ _ rfl .u8 w.heap.size 5 i0 1 Try.underlying22 hi hz0 hz1 hz2 A10 ((((((4 + 4) + 4) + 2) + 2) + 2) + 2) c10 (w2 sp ++ w2 dp ++ w4 sq ++ w4 ak ++ [q * 16, fl] ++ w2 wi ++ [0, 0] ++ w2 ug) rfl (X10.out.own 1 rfl) _ Ao on oc os rfl (RO.out _ X10.out.bel) (by simp only [maxLen]; omega) (by omega) X10.out.size ?_; intro A11 c11 v11 happ; have X11 := Lib.hid ((X10.out.app 1 rfl happ).pick [0, 1] (by decide) (L' := [.blk N 70 ((TH.mk sp dp sq ak fl wi ug).cells (.slice Ao on oc)), .own .u8 5 A11 (((((((4 + 4) + 4) + 2) + 2) + 2) + 2) + on) c11 (w2 sp ++ w2 dp ++ w4 sq ++ w4 ak ++ [q * 16, fl] ++ w2 wi ++ [0, 0] ++ w2 ug ++ os)]) rfl); clear happ)
        clear f11 X10
        go_upto_region 13 with (at_builtin; refine wpList_append_rd _ rfl _ _ _ rfl .u8 w.heap.size 5 i0 1 Try.underlying22 hi hz0 hz1 hz2 A11 (((((((4 + 4) + 4) + 2) + 2) + 2) + 2) + on) c11 (w2 sp ++ w2 dp ++ w4 sq ++ w4 ak ++ [q * 16, fl] ++ w2 wi ++ [0, 0] ++ w2 ug ++ os) rfl (X11.out.own 1 rfl) _ Ad dn dc data rfl (RD2.out _ X11.out.bel) (by simp only [maxLen]; omega) (by omega) X11.out.size ?_; intro A12 c12 v12 happ; have X12 := Lib.hid ((X11.out.app 1 rfl happ).pick [0, 1] (by decide) (L' := [.blk N 70 ((TH.mk sp dp sq ak fl wi ug).cells (.slice Ao on oc)), .own .u8 5 A12 ((((((((4 + 4) + 4) + 2) + 2) + 2) + 2) + on) + dn) c12 (w2 sp ++ w2 dp ++ w4 sq ++ w4 ak ++ [q * 16, fl] ++ w2 wi ++ [0, 0] ++ w2 ug ++ os ++ data)]) rfl); clear happ)
        clear X11
        have XF := Lib.hid (show SP w v12 [.blk N 70 ((TH.mk sp dp sq ak fl wi ug).cells (.slice Ao on oc)), .own .u8 5 A12 ((((((((4 + 4) + 4) + 2) + 2) + 2) + 2) + on) + dn) c12 (tPkt0 (TH.mk sp dp sq ak fl wi ug) os data)] by have := X12.out; rwa [HP.out] at this)
        clear X12
        obtain ⟨n79, hn79⟩ : ∃ n, ((((((((4 + 4) + 4) + 2) + 2) + 2) + 2) + on) + dn) = n := ⟨_, rfl⟩
        rw [hn79] at XF ⊢
        have hnb0 : 20 ≤ n79 := by omega
        have hnb1 : n79 ≤ 65515 := by omega
        have HN79 := Lib.hid (show 20 + on + dn = n79 by omega)
        clear hn79
        obtain ⟨g, rfl, hg1, hg2, _⟩ := (XF.out.own 1 rfl).form (by omega)
        have hps := tPs_bd (L := (n79 : Int)) ⟨s0, s1⟩ ⟨d0, d1⟩ (by omega)
        obtain ⟨p, hp⟩ : ∃ p, tPs s d (n79 : Int) = p := ⟨_, rfl⟩
        rw [hp] at hps
        obtain ⟨p0, p1⟩ := hps
        have HPS := Lib.hid hp
        have es : IntKind.i64.wrap s = s := IntWalk.i64_in _ (by omega)
        have ed : IntKind.i64.wrap d = d := IntWalk.i64_in _ (by omega)
        clear hp
        go_wp2_with fail
        refine (rPseudo_any s d 6 (n79 : Int) _ s0 s1 d0 d1 (by omega) (by omega) (by omega) (by omega)).mono ?_
        rintro e wz ⟨rfl, rfl⟩
        rw [show foldJ 0 [s / 65536, s % 65536, d / 65536, d % 65536, 6, (n79 : Int)] = p from HPS.out]
        have HBD := Lib.hid (show BD 255 (tPkt0 (TH.mk sp dp sq ak fl wi ug) os data) from ((tHead_bd HWF.out (by rw [HL.out.1]; omega) (by omega)).append bo).append bd)
        have hsb := sumOf_bd _ HBD.out
        have hjb := stepJ_bd p0 p1 hsb.1 hsb.2
        have HC := Lib.hid (show 65535 - stepJ p (sumOf (tPkt0 (TH.mk sp dp sq ak fl wi ug) os data)) = tC (TH.mk sp dp sq ak fl wi ug) os s d data by
          unfold tC; rw [← HPS.out, HL.out.1, HL.out.2, ← HN79.out, show (20 + (on : Int) + (dn : Int)) = ((20 + on + dn : Nat) : Int) by omega])
        have hcb : 0 ≤ tC (TH.mk sp dp sq ak fl wi ug) os s d data ∧ tC (TH.mk sp dp sq ak fl wi ug) os s d data ≤ 65535 := by rw [← HC.out]; omega
        obtain ⟨c, hc⟩ : ∃ c, tC (TH.mk sp dp sq ak fl wi ug) os s d data = c := ⟨_, rfl⟩
        rw [hc] at HC hcb
        have HCC := Lib.hid hc
        obtain ⟨hcb0, hcb1⟩ := hcb
        clear hc hsb hjb es ed
        go_wp2_with fail
        refine (rOver_any p p0 p1 (some ⟨g, 0, none⟩) n79 c12 _ _ (XF.out.rd 1 rfl) HBD.out (by omega)).mono ?_
        rintro e wz ⟨rfl, rfl⟩
        rw [HC.out]
        have x16 := (XF.out.own 1 rfl).cell (i := 16) (by omega)
        have x17 := (XF.out.own 1 rfl).cell (i := 17) (by omega)
        have z16 := (XF.out.own 1 rfl).frozen 16
        have z17 := (XF.out.own 1 rfl).frozen 17
        have ec1 : IntKind.u8.wrap (c / 256) = c / 256 := u8_in _ (by omega) (by omega)
        have ec2 : IntKind.u8.wrap (c % 256) = c % 256 := u8_in _ (by omega) (by omega)
        have i16 : (16 : Int) < (n79 : Int) := by omega
        have i17 : (17 : Int) < (n79 : Int) := by omega
        have T := Lib.hid ((XF.out.setO 1 rfl 16 (c / 256)).setO 1 rfl 17 (c % 256))
        go_wp2_with fail
        go_ret2
        refine ⟨some ⟨g, 0, none⟩, n79, c12, by rw [tE, if_neg HW.out]; rfl, ?_, T.out.bel⟩
        have ow := T.out.own 1 rfl
        have hpp := tPkt_put (TH.mk sp dp sq ak fl wi ug) os data c
        unfold put2 at hpp
        rw [show 16 + 1 = 17 from rfl] at hpp
        rw [hpp] at ow
        rw [tB, HL.out.1, HL.out.2, if_neg HW.out, tPkt, HCC.out]
        exact ow
end Go.Proofs.Ythdpcblmmjocmaa
