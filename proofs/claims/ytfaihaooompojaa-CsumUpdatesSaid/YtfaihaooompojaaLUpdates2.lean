/- The walk of CsumUpdates. -/
import Derived.Test.YtfaihaooompojaaWAwake2
import Derived.Test.YtfaihaooompojaaWUpd32
import Derived.Test.YtfaihaooompojaaWSlices
import Derived.Test.YtfaihaooompojaaRow
import Derived.Test.YtfaihaooompojaaLaw2
import Derived.Deep.DeepCutAuto
namespace Go.Proofs.Ytfaihaooompojaa
open Go.RowKit
set_option linter.unusedVariables false

set_option maxHeartbeats 400000 in
theorem updatescc_nz : NotZero 23 := by
  refine ⟨fun args w => enters_of Try.func23 (by kernel_rfl) rfl args w, fun x w => ?_⟩
  go_enter Try.func23, Try.ntmps23
  go_wp2
  go_ret
  exact ⟨rfl, rfl⟩

set_option maxHeartbeats 400000 in
theorem nonzero_any (A : Option Addr) (n c : Nat) (zs : List Int) (w : World) (h : RD .u8 w w.heap.size A n zs) (hn : n ≤ 140737488355328) :
    Calls Try.prog 21 #[.slice A n c] w fun e w' => e = .returned (.bool (someNZ zs)) ∧ w = w' := by
  go_enter Try.func21, Try.ntmps21
  go_wp2_with fail
  refine (contains_any 23 updatescc_nz A n c zs w h hn).mono ?_
  rintro e w' ⟨rfl, rfl⟩
  go_wp2_with fail
  go_ret
  exact ⟨rfl, rfl⟩

/-- four bytes as a number -/
theorem u32_four (x y z t : Int) (hx : 0 ≤ x ∧ x ≤ 255) (hy : 0 ≤ y ∧ y ≤ 255) (hz : 0 ≤ z ∧ z ≤ 255) (ht : 0 ≤ t ∧ t ≤ 255) :
    bits .or .u32 (x * 16777216) (y * 65536) = x * 16777216 + y * 65536 ∧ bits .or .u32 (x * 16777216 + y * 65536) (z * 256) = x * 16777216 + y * 65536 + z * 256 ∧ bits .or .u32 (x * 16777216 + y * 65536 + z * 256) t = x * 16777216 + y * 65536 + z * 256 + t := by
  obtain ⟨a, rfl⟩ := Int.eq_ofNat_of_zero_le hx.1
  obtain ⟨b, rfl⟩ := Int.eq_ofNat_of_zero_le hy.1
  obtain ⟨c, rfl⟩ := Int.eq_ofNat_of_zero_le hz.1
  obtain ⟨d, rfl⟩ := Int.eq_ofNat_of_zero_le ht.1
  have h1 := nat_or_low a (b * 65536) 24 (by omega)
  have h2 := nat_or_low (a * 256 + b) (c * 256) 16 (by omega)
  have h3 := nat_or_low (a * 65536 + b * 256 + c) d 8 (by omega)
  simp only [Nat.reducePow] at h1 h2 h3
  rw [show (a * 256 + b) * 65536 = a * 16777216 + b * 65536 from by omega] at h2
  rw [show (a * 65536 + b * 256 + c) * 256 = a * 16777216 + b * 65536 + c * 256 from by omega] at h3
  refine ⟨?_, ?_, ?_⟩
  · rw [u32_or _ _ (by omega) (by omega) (by omega) (by omega), show ((a : Int) * 16777216).toNat = a * 16777216 from by omega, show ((b : Int) * 65536).toNat = b * 65536 from by omega, h1]; omega
  · rw [u32_or _ _ (by omega) (by omega) (by omega) (by omega), show ((a : Int) * 16777216 + (b : Int) * 65536).toNat = a * 16777216 + b * 65536 from by omega, show ((c : Int) * 256).toNat = c * 256 from by omega, h2]; omega
  · rw [u32_or _ _ (by omega) (by omega) (by omega) (by omega), show ((a : Int) * 16777216 + (b : Int) * 65536 + (c : Int) * 256).toNat = a * 16777216 + b * 65536 + c * 256 from by omega, Int.toNat_natCast, h3]; omega

set_option maxHeartbeats 4000000 in
set_option maxRecDepth 100000 in
theorem csumUpdates_walk (A : Option Addr) (n c : Nat) (zs : List Int) (at_ to_ : Int) (w : World) (h : ROW .u8 255 w A n c zs) (h1 : (Lit.int .u16 at_).wf = true) (h2 : (Lit.int .u32 to_).wf = true) :
    Calls Try.prog 8 #[.slice A n c, .int .u16 at_, .int .u32 to_] w fun e w' => e = .returned (.bool true) ∧ Below w.heap.size w w' := by
  obtain ⟨a1, a2⟩ := wf_u16 h1
  obtain ⟨t1, t2⟩ := wf_u32 h2
  clear h1 h2
  have hle := h.le
  have hcap := h.cap
  simp only [maxLen] at hcap
  obtain ⟨i0, hi, hz0, hz1, hz2⟩ := info_parts infoU8
  go_enter Try.func8, Try.ntmps8
  go_upto_region 3 with (go_at_call 11; refine (awake2_any _).mono ?_; rintro e w1 ⟨rfl, hb1⟩)
  go_cut [0] (fun s0 wx => ∃ (A' : Option Addr) (c' N : Nat) (ys : List Int), 4 ≤ N ∧ N ≤ 3004 ∧ BD 255 ys ∧ s0 = .slice A' N c' ∧ OWN .u8 5 wx w.heap.size A' N c' ys ∧ Below w.heap.size w wx)
  case first =>
    by_cases hm : n ≤ 3000
    · have hm' : ¬ (3000 : Int) < (n : Int) := by omega
      go_wp2_with (at_builtin; refine wpList_append_rd _ rfl _ _ _ rfl .u8 w.heap.size 5 i0 1 Try.underlying22 hi hz0 hz1 hz2 (some ⟨w1.heap.size, 0, none⟩) 4 4 [0, 0, 0, 0] rfl (OWN.lit w1 .u8 5 w.heap.size [0, 0, 0, 0] hb1.size (by decide)) w.heap.size A n c zs rfl ((h.rd.below hb1).alloc hb1.size _) (by simp only [maxLen]; omega) (by omega) (by have := hb1.size; simp; omega) ?_; intro A' c' w' happ)
      go_meet
      exact ⟨A', c', 4 + n, _, by omega, by omega, BD.append (bd_all (by decide)) h.bd, rfl, happ.own, (hb1.alloc hb1.size _).trans (happ.keepBelow (fun g hg => by simp at hg; subst hg; exact hb1.size) (by have := hb1.size; simp; omega))⟩
    · have hm' : (3000 : Int) < (n : Int) := by omega
      have hm2 : (3000 : Int) ≤ (c : Int) := by omega
      go_wp2_with (at_builtin; refine wpList_append_rd _ rfl _ _ _ rfl .u8 w.heap.size 5 i0 1 Try.underlying22 hi hz0 hz1 hz2 (some ⟨w1.heap.size, 0, none⟩) 4 4 [0, 0, 0, 0] rfl (OWN.lit w1 .u8 5 w.heap.size [0, 0, 0, 0] hb1.size (by decide)) w.heap.size A 3000 c (zs.take 3000) rfl (((h.rd.below hb1).alloc hb1.size _).take (by omega)) (by simp only [maxLen]; omega) (by omega) (by have := hb1.size; simp; omega) ?_; intro A' c' w' happ)
      go_meet
      exact ⟨A', c', 4 + 3000, _, by omega, by omega, BD.append (bd_all (by decide)) (h.bd.take 3000), rfl, happ.own, (hb1.alloc hb1.size _).trans (happ.keepBelow (fun g hg => by simp at hg; subst hg; exact hb1.size) (by have := hb1.size; simp; omega))⟩
  case rest =>
    obtain ⟨A1, c1, N, ys, hN1, hN2, hys, rfl, own1, HB⟩ := hcut
    clear hb1 h hle hcap
    have q0 : (0 : Int) ≤ at_ % ((N : Int) / 2 - 1) := Int.emod_nonneg _ (by omega)
    have q1 : at_ % ((N : Int) / 2 - 1) < (N : Int) / 2 - 1 := Int.emod_lt_of_pos _ (by omega)
    go_upto_region 4 with fail
    go_cut [7] (fun s7 wx => wx = wc ∧ ∃ p : Nat, p % 2 = 0 ∧ p + 4 ≤ N ∧ s7 = .int .i64 p)
    case first =>
      go_wp2_with fail
      go_meet
      refine ⟨rfl, (at_ % ((N : Int) / 2 - 1) * 2).toNat, by omega, by omega, ?_⟩
      rw [Int.toNat_of_nonneg (by omega)]
    case rest =>
      obtain ⟨rfl, p, hp1, hp2, rfl⟩ := hcut
      clear q0 q1
      obtain ⟨g, rfl, hg1, hg2, hnc, hcm⟩ := own1.form (by omega)
      have HL := Lib.hid own1.len
      go_wp2_with fail
      refine (clone_any _ N c1 ys wc own1.rd (by omega)).mono ?_
      rintro e w2 ⟨A2, n2, c2, rfl, own2, hb2⟩
      obtain rfl : N = n2 := by have h6 := own2.len; have h5 := HL.out; omega
      have HB2 : Below w.heap.size w w2 := HB.trans (hb2.mono HB.size)
      obtain ⟨g2, rfl, hg3, hg4, hnc2, hcm2⟩ := own2.form (by omega)
      have hgw : w.heap.size ≤ g2 := Nat.le_trans HB.size hg3
      have hne : g ≠ g2 := by omega
      replace own1 := own1.below hb2
      clear hb2 HB hg2
      obtain ⟨f1, f2⟩ := hys.get (by omega) p
      obtain ⟨f3, f4⟩ := hys.get (by omega) (p + 1)
      obtain ⟨f5, f6⟩ := hys.get (by omega) (p + 2)
      obtain ⟨f7, f8⟩ := hys.get (by omega) (p + 3)
      have W1 := Lib.hid (show wordAt ys p = ys[p]?.getD 0 * 256 + ys[p + 1]?.getD 0 from rfl)
      have W2 := Lib.hid (show wordAt ys (p + 2) = ys[p + 2]?.getD 0 * 256 + ys[p + 3]?.getD 0 from rfl)
      have x1 := own1.cell (i := p) (by omega)
      have x2 := own1.cell (i := p + 1) (by omega)
      have x3 := own1.cell (i := p + 2) (by omega)
      have x4 := own1.cell (i := p + 3) (by omega)
      go_upto_region 6 with fail
      go_cut [9] (fun s9 wx => s9 = .int .u32 (wordAt ys p * 65536 + wordAt ys (p + 2)) ∧ ∃ m, wx = w2.drewN m)
      case first =>
        generalize ys[p]?.getD 0 = x at x1 f1 f2 W1
        generalize ys[p + 1]?.getD 0 = y at x2 f3 f4 W1
        generalize ys[p + 2]?.getD 0 = z at x3 f5 f6 W2
        generalize ys[p + 3]?.getD 0 = t at x4 f7 f8 W2
        obtain ⟨v1, v2, v3⟩ := u32_four x y z t ⟨f1, f2⟩ ⟨f3, f4⟩ ⟨f5, f6⟩ ⟨f7, f8⟩
        have v4 := u32_in (x * 16777216) (by omega) (by omega)
        have v5 := u32_in (y * 65536) (by omega) (by omega)
        have v6 := u32_in (z * 256) (by omega) (by omega)
        have v7 := u32_in x (by omega) (by omega)
        have v8 := u32_in y (by omega) (by omega)
        have v9 := u32_in z (by omega) (by omega)
        have v10 := u32_in t (by omega) (by omega)
        have k1 : (0 : Int) ≤ (p : Int) := by omega
        have k2 : (p : Int) < (N : Int) := by omega
        have k3 : (0 : Int) ≤ (p : Int) + 1 := by omega
        have k4 : (p : Int) + 1 < (N : Int) := by omega
        have k5 : IntKind.i64.wrap ((p : Int) + 1) = (p : Int) + 1 := IntWalk.i64_in _ (by omega)
        have k6 : ((p : Int) + 1).toNat = p + 1 := by omega
        have k7 : (0 : Int) ≤ (p : Int) + 2 := by omega
        have k8 : (p : Int) + 2 < (N : Int) := by omega
        have k9 : IntKind.i64.wrap ((p : Int) + 2) = (p : Int) + 2 := IntWalk.i64_in _ (by omega)
        have k10 : ((p : Int) + 2).toNat = p + 2 := by omega
        have k11 : (0 : Int) ≤ (p : Int) + 3 := by omega
        have k12 : (p : Int) + 3 < (N : Int) := by omega
        have k13 : IntKind.i64.wrap ((p : Int) + 3) = (p : Int) + 3 := IntWalk.i64_in _ (by omega)
        have k14 : ((p : Int) + 3).toNat = p + 3 := by omega
        go_quiet (fail)
        go_wp2_with fail
        go_meet
        refine ⟨?_, _, rfl⟩
        rw [W1.out, W2.out]
        congr 1
        omega
      case rest =>
        obtain ⟨rfl, m, rfl⟩ := hcut
        clear x1 x2 x3 x4 f1 f2 f3 f4 f5 f6 f7 f8 W1 W2
        have o1 := own1.drewN m
        have o2 := own2.drewN m
        have HB3 := below_drewN HB2 m
        clear own1 own2 HB2
        generalize w2.drewN m = w3 at o1 o2 HB3 ⊢
        obtain ⟨e1, e2⟩ := wordAt_bd hys p
        obtain ⟨e3, e4⟩ := wordAt_bd hys (p + 2)
        have U1 := Lib.hid (update_one hys hp1 (by rw [HL.out]; omega) (n := to_ / 65536) (by omega) (by omega))
        have U2 := Lib.hid (update_two hys hp1 (by rw [HL.out]; omega) (n := to_ / 65536) (m := to_ % 65536) (by omega) (by omega) (by omega) (by omega))
        have x1 := o2.cell (i := p) (by omega)
        have x2 := o2.cell (i := p + 1) (by omega)
        have x3 := o2.frozen p
        have x4 := o2.frozen (p + 1)
        have d1 := u8_in (to_ / 16777216) (by omega) (by omega)
        have d2 := u8_mod (to_ / 65536)
        go_wp2_with fail
        have ee : to_ / 65536 / 256 = to_ / 16777216 := by omega
        have ef : to_ % 65536 % 256 = to_ % 256 := by omega
        have eg : to_ % 65536 / 256 = to_ / 256 % 256 := by omega
        rw [ee] at U1
        rw [ee, ef, eg] at U2
        clear ee ef eg
        have o3 := o2.two p (to_ / 16777216) (to_ / 65536 % 256)
        have HB4 := Below.two (i := p) (u := .int .u8 (to_ / 16777216)) (v := .int .u8 (to_ / 65536 % 256)) HB3 hgw
        have o4 : OWN .u8 5 ((w3.setCell ⟨g2, p, none⟩ (.int .u8 (to_ / 16777216))).setCell ⟨g2, p + 1, none⟩ (.int .u8 (to_ / 65536 % 256))) w.heap.size (some ⟨g, 0, none⟩) N c1 ys :=
          (o1.setCell (p := ⟨g2, p, none⟩) (fun g' h => by simp at h; subst h; exact hne) _).setCell (p := ⟨g2, p + 1, none⟩) (fun g' h => by simp at h; subst h; exact hne) _
        generalize (w3.setCell ⟨g2, p, none⟩ (.int .u8 (to_ / 16777216))).setCell ⟨g2, p + 1, none⟩ (.int .u8 (to_ / 65536 % 256)) = w4 at o3 o4 HB4 ⊢
        clear x1 x2 x3 x4 d1 d2 o1 o2 HB3
        have hb5 : BD 255 (put2 ys p (to_ / 16777216) (to_ / 65536 % 256)) := put2_bd hys (by omega) (by omega)
        obtain ⟨s1, s2⟩ := sumOf_bd ys hys
        refine (of_any _ N c1 ys w4 o4.rd hys (by omega)).mono ?_
        rintro e w5 ⟨rfl, hb⟩
        replace o3 := o3.below hb
        replace o4 := o4.below hb
        replace HB4 := HB4.trans (hb.mono HB4.size)
        clear hb
        have k1 : (wordAt ys p * 65536 + wordAt ys (p + 2)) / 65536 = wordAt ys p := by omega
        have k2 : (wordAt ys p * 65536 + wordAt ys (p + 2)) % 65536 = wordAt ys (p + 2) := by omega
        have K1 := Lib.hid k1
        have K2 := Lib.hid k2
        have k3 : 0 ≤ wordAt ys p * 65536 + wordAt ys (p + 2) ∧ wordAt ys p * 65536 + wordAt ys (p + 2) ≤ 4294967295 := by omega
        obtain ⟨k4, k5⟩ := k3
        clear k2
        go_wp2_with fail
        refine (update_any (65535 - sumOf ys) (wordAt ys p) (to_ / 65536) w5 (by omega) (by omega) e1 e2 (by omega) (by omega)).mono ?_
        rintro e w6 ⟨rfl, hb⟩
        replace o3 := o3.below hb
        replace o4 := o4.below hb
        replace HB4 := HB4.trans (hb.mono HB4.size)
        clear hb k1
        rw [U1.out]
        have hn5 := o3.len
        have HN := Lib.hid hn5
        clear hn5
        go_upto_region 10 with fail
        go_cut [105, 11] (fun s105 _ wx => s105 = .bool false ∧ Below w6.heap.size w6 wx)
        case first =>
          by_cases hnz : someNZ (put2 ys p (to_ / 16777216) (to_ / 65536 % 256)) = true
          · rw [if_pos hnz]
            have e0 : (65535 - sumOf (put2 ys p (to_ / 16777216) (to_ / 65536 % 256)) != 65535 - sumOf (put2 ys p (to_ / 16777216) (to_ / 65536 % 256))) = false := by simp
            go_wp2_with fail
            refine (nonzero_any _ N c2 _ w6 o3.rd (by omega)).mono ?_
            rintro e w7 ⟨rfl, rfl⟩
            rw [hnz]
            go_wp2_with fail
            refine (of_any _ N c2 _ w6 o3.rd hb5 (by omega)).mono ?_
            rintro e w7 ⟨rfl, hb⟩
            have o3' := o3.below hb
            go_wp2_with fail
            refine (nonzero_any _ N c2 _ w7 o3'.rd (by omega)).mono ?_
            rintro e w8 ⟨rfl, rfl⟩
            rw [hnz]
            go_wp2_with fail
            go_meet
            exact ⟨rfl, hb⟩
          · have hnz' : someNZ (put2 ys p (to_ / 16777216) (to_ / 65536 % 256)) = false := by simpa using hnz
            rw [if_neg hnz]
            clear hnz
            go_wp2_with fail
            refine (nonzero_any _ N c2 _ w6 o3.rd (by omega)).mono ?_
            rintro e w7 ⟨rfl, rfl⟩
            rw [hnz']
            go_wp2_with fail
            refine (nonzero_any _ N c2 _ w6 o3.rd (by omega)).mono ?_
            rintro e w8 ⟨rfl, rfl⟩
            rw [hnz']
            go_wp2_with fail
            go_meet
            exact ⟨rfl, Below.refl _ _⟩
        case rest =>
          obtain ⟨rfl, hb6⟩ := hcut
          replace o3 := o3.below hb6
          replace o4 := o4.below hb6
          replace HB4 := HB4.trans (hb6.mono HB4.size)
          clear hb6 U1 HN
          have x1 := o3.cell (i := p + 2) (by omega)
          have x2 := o3.cell (i := p + 2 + 1) (by omega)
          have x2' : wc.cell? ⟨g2, p + 3, none⟩ = some (.int .u8 ((put2 ys p (to_ / 16777216) (to_ / 65536 % 256))[p + 2 + 1]?.getD 0)) := x2
          have x3 := o3.frozen (p + 2)
          have x4 := o3.frozen (p + 3)
          have d1 := u8_mod (to_ / 256)
          have d2 := u8_mod to_
          clear x2
          go_wp2_with fail
          have o5 := o3.two (p + 2) (to_ / 256 % 256) (to_ % 256)
          have HB5 := Below.two (i := p + 2) (u := .int .u8 (to_ / 256 % 256)) (v := .int .u8 (to_ % 256)) HB4 hgw
          have o6 : OWN .u8 5 ((wc.setCell ⟨g2, p + 2, none⟩ (.int .u8 (to_ / 256 % 256))).setCell ⟨g2, p + 2 + 1, none⟩ (.int .u8 (to_ % 256))) w.heap.size (some ⟨g, 0, none⟩) N c1 ys :=
            (o4.setCell (p := ⟨g2, p + 2, none⟩) (fun g' h => by simp at h; subst h; exact hne) _).setCell (p := ⟨g2, p + 2 + 1, none⟩) (fun g' h => by simp at h; subst h; exact hne) _
          rw [show p + 2 + 1 = p + 3 from rfl] at o5 HB5 o6
          generalize (wc.setCell ⟨g2, p + 2, none⟩ (.int .u8 (to_ / 256 % 256))).setCell ⟨g2, p + 3, none⟩ (.int .u8 (to_ % 256)) = w7 at o5 HB5 o6 ⊢
          clear x1 x2' x3 x4 d1 d2 o3 o4 HB4
          have hb7 : BD 255 (put2 (put2 ys p (to_ / 16777216) (to_ / 65536 % 256)) (p + 2) (to_ / 256 % 256) (to_ % 256)) := put2_bd hb5 (by omega) (by omega)
          refine (of_any _ N c1 ys w7 o6.rd hys (by omega)).mono ?_
          rintro e w8 ⟨rfl, hb⟩
          replace o5 := o5.below hb
          replace HB5 := HB5.trans (hb.mono HB5.size)
          clear hb o6
          go_wp2_with fail
          refine (update32_any (65535 - sumOf ys) (wordAt ys p * 65536 + wordAt ys (p + 2)) to_ w8 (by omega) (by omega) k4 k5 t1 t2).mono ?_
          rintro e w9 ⟨rfl, hb⟩
          rw [K1.out, K2.out]
          replace o5 := o5.below hb
          replace HB5 := HB5.trans (hb.mono HB5.size)
          clear hb
          generalize put2 (put2 ys p (to_ / 16777216) (to_ / 65536 % 256)) (p + 2) (to_ / 256 % 256) (to_ % 256) = G at o5 hb7 U2
          generalize upd (upd (65535 - sumOf ys) (wordAt ys p) (to_ / 65536)) (wordAt ys (p + 2)) (to_ % 65536) = V at U2 ⊢
          go_wp2_with fail
          refine (nonzero_any _ N c2 G w9 o5.rd (by omega)).mono ?_
          rintro e w10 ⟨rfl, rfl⟩
          by_cases hnz : someNZ G = true
          · rw [hnz]
            have hV := U2.out hnz
            subst hV
            have e0 : (65535 - sumOf G == 65535 - sumOf G) = true := by simp
            clear U2
            go_wp2_with fail
            refine (of_any _ N c2 G w9 o5.rd hb7 (by omega)).mono ?_
            rintro e w11 ⟨rfl, hb⟩
            go_wp2_with fail
            go_ret
            exact ⟨rfl, HB5.trans (hb.mono HB5.size)⟩
          · have hnz' : someNZ G = false := by simpa using hnz
            rw [hnz']
            clear hnz U2
            go_wp2_with fail
            go_ret
            exact ⟨rfl, HB5⟩
end Go.Proofs.Ytfaihaooompojaa
