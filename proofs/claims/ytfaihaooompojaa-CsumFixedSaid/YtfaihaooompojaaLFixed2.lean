/- The walk of CsumFixed. -/
import Derived.Test.YtfaihaooompojaaWAwake2
import Derived.Test.YtfaihaooompojaaWSlices
import Derived.Test.YtfaihaooompojaaRow
import Derived.Test.YtfaihaooompojaaLaw2
import Derived.Deep.DeepCutAuto
import Derived.Deep.RegionLaw
import Derived.Deep.RegionWith
import Derived.Deep.RegionHeld3
import Derived.Deep.DrawnRows
namespace Go.Proofs.Ytfaihaooompojaa
open Go.RowKit
set_option linter.unusedVariables false
attribute [local go_sem ↓] Go.wp_at_zero Go.wp_at_succ

set_option maxHeartbeats 400000 in
theorem fixedc_nz : NotZero 29 := by
  refine ⟨fun args w => enters_of Try.func29 (by kernel_rfl) rfl args w, fun x w => ?_⟩
  go_enter Try.func29, Try.ntmps29
  go_wp2
  go_ret
  exact ⟨rfl, rfl⟩

set_option maxHeartbeats 4000000 in
set_option maxRecDepth 100000 in
theorem csumFixed_walk (A : Option Addr) (n c : Nat) (zs : List Int) (at_ where_ to_ : Int) (w : World) (h : ROW .u8 255 w A n c zs) (h1 : (Lit.int .u16 at_).wf = true) (h2 : (Lit.int .u16 where_).wf = true) (h3 : (Lit.int .u16 to_).wf = true) :
    Calls Try.prog 9 #[.slice A n c, .int .u16 at_, .int .u16 where_, .int .u16 to_] w fun e w' => e = .returned (.bool true) ∧ Below w.heap.size w w' := by
  obtain ⟨a1, a2⟩ := wf_u16 h1
  obtain ⟨b1, b2⟩ := wf_u16 h2
  obtain ⟨t1, t2⟩ := wf_u16 h3
  clear h1 h2 h3
  have hle := h.le
  have hcap := h.cap
  simp only [maxLen] at hcap
  obtain ⟨i0, hi, hz0, hz1, hz2⟩ := info_parts infoU8
  go_enter Try.func9, Try.ntmps9
  go_upto_region 3 with (go_at_call 11; refine (awake2_any _).mono ?_; rintro e w1 ⟨rfl, hb1⟩)
  go_cut [0] (fun s0 wx => ∃ (A' : Option Addr) (c' N : Nat) (ys : List Int), 2 ≤ N ∧ N ≤ 3002 ∧ BD 255 ys ∧ s0 = .slice A' N c' ∧ OWN .u8 5 wx w.heap.size A' N c' ys ∧ Below w.heap.size w wx)
  case first =>
    by_cases hm : n ≤ 3000
    · have hm' : ¬ (3000 : Int) < (n : Int) := by omega
      go_wp2_with (at_builtin; refine wpList_append_rd _ rfl _ _ _ rfl .u8 w.heap.size 5 i0 1 Try.underlying22 hi hz0 hz1 hz2 (some ⟨w1.heap.size, 0, none⟩) 2 2 [0, 0] rfl (OWN.lit w1 .u8 5 w.heap.size [0, 0] hb1.size (by decide)) w.heap.size A n c zs rfl ((h.rd.below hb1).alloc hb1.size _) (by simp only [maxLen]; omega) (by omega) (by have := hb1.size; simp; omega) ?_; intro A' c' w' happ)
      go_meet
      exact ⟨A', c', 2 + n, _, by omega, by omega, BD.append (bd_all (by decide)) h.bd, rfl, happ.own, (hb1.alloc hb1.size _).trans (happ.keepBelow (fun g hg => by simp at hg; subst hg; exact hb1.size) (by have := hb1.size; simp; omega))⟩
    · have hm' : (3000 : Int) < (n : Int) := by omega
      have hm2 : (3000 : Int) ≤ (c : Int) := by omega
      go_wp2_with (at_builtin; refine wpList_append_rd _ rfl _ _ _ rfl .u8 w.heap.size 5 i0 1 Try.underlying22 hi hz0 hz1 hz2 (some ⟨w1.heap.size, 0, none⟩) 2 2 [0, 0] rfl (OWN.lit w1 .u8 5 w.heap.size [0, 0] hb1.size (by decide)) w.heap.size A 3000 c (zs.take 3000) rfl (((h.rd.below hb1).alloc hb1.size _).take (by omega)) (by simp only [maxLen]; omega) (by omega) (by have := hb1.size; simp; omega) ?_; intro A' c' w' happ)
      go_meet
      exact ⟨A', c', 2 + 3000, _, by omega, by omega, BD.append (bd_all (by decide)) (h.bd.take 3000), rfl, happ.own, (hb1.alloc hb1.size _).trans (happ.keepBelow (fun g hg => by simp at hg; subst hg; exact hb1.size) (by have := hb1.size; simp; omega))⟩
  case rest =>
    obtain ⟨A1, c1, N, ys, hN1, hN2, hys, rfl, own1, HB⟩ := hcut
    clear hb1 h hle hcap
    have q0 : (0 : Int) ≤ at_ % ((N : Int) / 2) := Int.emod_nonneg _ (by omega)
    have q1 : at_ % ((N : Int) / 2) < (N : Int) / 2 := Int.emod_lt_of_pos _ (by omega)
    go_upto_region 4 with fail
    go_cut [9] (fun s9 wx => wx = wc ∧ ∃ p : Nat, p % 2 = 0 ∧ p + 2 ≤ N ∧ s9 = .int .i64 p)
    case first =>
      go_wp2_with fail
      go_meet
      refine ⟨rfl, (at_ % ((N : Int) / 2) * 2).toNat, by omega, by omega, ?_⟩
      rw [Int.toNat_of_nonneg (by omega)]
    case rest =>
      obtain ⟨rfl, p, hp1, hp2, rfl⟩ := hcut
      clear q0 q1
      go_wp2_with fail
      refine (fix_any A1 N c1 ys _ p wc own1.rd hys (by omega) rfl hp1 hp2).mono ?_
      rintro e w2 ⟨A2, n2, c2, rfl, own2, hb2⟩
      obtain rfl : N = n2 := by have h5 := own1.len; have h6 := own2.len; rw [fixOf_len] at h6; omega
      have HB2 : Below w.heap.size w w2 := HB.trans (hb2.mono HB.size)
      replace own1 := own1.below hb2
      have hF : BD 255 (fixOf ys p) := fixOf_bd hys p
      have HLy := Lib.hid own1.len
      have R1 := Lib.hid (fix_right hys hp1 (by rw [HLy.out]; exact hp2))
      have R2 := Lib.hid (fix_take ys p)
      have R3 := Lib.hid (fix_drop ys p)
      clear hb2
      go_upto_region 6 with fail
      go_cut [74] (fun s74 wx => s74 = .bool false ∧ Below w2.heap.size w2 wx)
      case first =>
        have e0 : ((N : Int) != (N : Int)) = false := by simp
        have e1 : ((0 : Int) != (0 : Int)) = false := by simp
        have hle1 := own1.le
        have hle2 := own2.le
        have k1 : (0 : Int) ≤ (p : Int) := by omega
        have k2 : (p : Int) ≤ (N : Int) := by omega
        have k3 : (p : Int) ≤ (c1 : Int) := by omega
        have k4 : (p : Int) ≤ (c2 : Int) := by omega
        have k5 : IntKind.i64.wrap ((p : Int) + 2) = (p : Int) + 2 := IntWalk.i64_in _ (by omega)
        have s1 := fun W => run_slice_lo (P := Try.prog) W Try.underlying22 hi hz1 A1 N c1 ((p : Int) + 2) (p + 2) (by omega) (by omega)
        have s2 := fun W => run_slice_lo (P := Try.prog) W Try.underlying22 hi hz1 A2 N c2 ((p : Int) + 2) (p + 2) (by omega) (by omega)
        have rA := own1.rd
        have rB := own2.rd
        go_region_held3 (fun _ => True) (trivial) (first
          | (go_at_call 27; refine (right_any A2 N c2 (fixOf ys p) _ (by exact rB) hF (by omega)).mono ?_
             rintro e w3 ⟨rfl, hb3⟩
             rw [show (sumOf (fixOf ys p) == 65535) = true by rw [R1.out]; rfl]
             have HB3 : Below w2.heap.size w2 w3 := (Below.refl _ w2).drew.trans hb3
             have rA3 := rA.later HB3
             have rB3 := rB.later HB3)
          | (go_at_call_of 28 (Value.slice A2 p c2); refine (equal_any A2 A1 p c2 p c1 _ _ _ (by exact rB3.take (by omega)) (by exact rA3.take (by omega)) (by omega) (by omega)).mono ?_
             rintro e w4 ⟨rfl, m4, rfl⟩
             rw [show ((fixOf ys p).take p == ys.take p) = true by rw [R2.out]; simp])
          | (go_at_call 28; refine (equal_any _ _ _ _ _ _ _ _ _ (by exact (rB3.cutA (lo := p + 2) (by omega) hle2.1)) (by exact (rA3.cutA (lo := p + 2) (by omega) hle1.1)) (by omega) (by omega)).mono ?_
             rintro e w5 ⟨rfl, m5, rfl⟩
             rw [show ((fixOf ys p).drop (p + 2) == ys.drop (p + 2)) = true by rw [R3.out]; simp]))
        go_wp2_with fail
        go_meet
        exact ⟨rfl, below_drewN HB3 _⟩
      case rest =>
        obtain ⟨rfl, HB3⟩ := hcut
        replace own2 := (own2.below HB3).mono (base' := w.heap.size) (Nat.le_trans HB.size (Nat.le_refl _))
        replace HB2 := HB2.trans (HB3.mono HB2.size)
        clear own1 HB3 HB R2 R3
        have q0 : (0 : Int) ≤ where_ % ((N : Int) / 2) := Int.emod_nonneg _ (by omega)
        have q1 : where_ % ((N : Int) / 2) < (N : Int) / 2 := Int.emod_lt_of_pos _ (by omega)
        go_upto_region 8 with fail
        go_cut [12] (fun s12 wx => wx = wc ∧ ∃ k : Nat, k % 2 = 0 ∧ k + 2 ≤ N ∧ s12 = .int .i64 k)
        case first =>
          go_wp2_with fail
          go_meet
          refine ⟨rfl, (where_ % ((N : Int) / 2) * 2).toNat, by omega, by omega, ?_⟩
          rw [Int.toNat_of_nonneg (by omega)]
        case rest =>
          obtain ⟨rfl, k, hk1, hk2, rfl⟩ := hcut
          clear q0 q1
          obtain ⟨g, rfl, hg1, hg2, hnc, hcm⟩ := own2.form (by omega)
          go_upto_region 9 with fail
          go_cut [13] (fun s13 wx => s13 = .int .u16 (wordAt (fixOf ys p) k) ∧ ∃ m, wx = wc.drewN m)
          case first =>
            have x1 := own2.cell (i := k) (by omega)
            have x2 := own2.cell (i := k + 1) (by omega)
            obtain ⟨f1, f2⟩ := hF.get (by omega) k
            obtain ⟨f3, f4⟩ := hF.get (by omega) (k + 1)
            have HW := Lib.hid (show wordAt (fixOf ys p) k = (fixOf ys p)[k]?.getD 0 * 256 + (fixOf ys p)[k + 1]?.getD 0 from rfl)
            generalize (fixOf ys p)[k]?.getD 0 = x at x1 f1 f2 HW
            generalize (fixOf ys p)[k + 1]?.getD 0 = y at x2 f3 f4 HW
            have v1 := u16_in (x * 256) (by omega) (by omega)
            have v2 := u16_or_low x y f1 f2 f3 f4
            have v3 := u16_in x (by omega) (by omega)
            have v4 := u16_in y (by omega) (by omega)
            have k1 : (0 : Int) ≤ (k : Int) := by omega
            have k2 : (k : Int) < (N : Int) := by omega
            have k3 : (0 : Int) ≤ (k : Int) + 1 := by omega
            have k4 : (k : Int) + 1 < (N : Int) := by omega
            have k5 : IntKind.i64.wrap ((k : Int) + 1) = (k : Int) + 1 := IntWalk.i64_in _ (by omega)
            have k6 : ((k : Int) + 1).toNat = k + 1 := by omega
            go_quiet (fail)
            go_wp2_with fail
            go_meet
            exact ⟨by rw [HW.out], _, rfl⟩
          case rest =>
            obtain ⟨rfl, m, rfl⟩ := hcut
            have hwb := wordAt_bd hF k
            have HO := Lib.hid (one_word hF R1.out hk1 (by rw [fixOf_len, HLy.out]; exact hk2) t1 t2)
            clear R1 HLy
            have hown := own2.drewN m
            have HB3 := below_drewN HB2 m
            generalize fixOf ys p = F at hF hown hwb HO ⊢
            clear own2 HB2 hys
            generalize wc.drewN m = w3 at hown HB3 ⊢
            obtain ⟨hw1, hw2⟩ := hwb
            go_wp2_with fail
            refine (clone_any _ N c2 F w3 hown.rd (by omega)).mono ?_
            rintro e w4 ⟨A4, n4, c4, rfl, own4, hb4⟩
            obtain rfl : N = n4 := by have h5 := hown.len; have h6 := own4.len; omega
            have hw0 := HB3.size
            replace HB3 := HB3.trans (hb4.mono HB3.size)
            obtain ⟨g4, rfl, hg41, hg42, hnc4, hcm4⟩ := own4.form (by omega)
            have hgw : w.heap.size ≤ g4 := Nat.le_trans hw0 hg41
            clear hb4 hown
            have x1 := own4.cell (i := k) (by omega)
            have x2 := own4.cell (i := k + 1) (by omega)
            have x3 := own4.frozen k
            have x4 := own4.frozen (k + 1)
            have e1 := u8_in (to_ / 256) (by omega) (by omega)
            have e2 := u8_mod to_
            go_upto_region 12 with fail
            have own5 := own4.two k (to_ / 256) (to_ % 256)
            have HB5 := Below.two (i := k) (u := .int .u8 (to_ / 256)) (v := .int .u8 (to_ % 256)) HB3 hgw
            generalize (w4.setCell ⟨g4, k, none⟩ (.int .u8 (to_ / 256))).setCell ⟨g4, k + 1, none⟩ (.int .u8 (to_ % 256)) = w5 at own5 HB5 ⊢
            clear x1 x2 x3 x4 e1 e2 own4 HB3
            generalize wordAt F k = was at hw1 hw2 HO ⊢
            go_cut [15] (fun s15 wx => s15 = .bool (sameB was to_) ∧ wx = w5)
            case first =>
              by_cases c1' : was = to_
              · have d1 : (was == to_) = true := by simp [c1']
                have HS := Lib.hid (show sameB was to_ = true by simp [sameB, c1'])
                clear c1'
                go_wp2_with fail
                go_meet
                exact ⟨by rw [HS.out], rfl⟩
              · have d1 : (was == to_) = false := by simp [c1']
                by_cases c2' : was = 0
                · have d2 : (was == 0) = true := by simp [c2']
                  have d4 : (was == 65535) = false := by simp [c2']
                  have HS := Lib.hid (show sameB was to_ = (to_ == 65535) by simp [sameB, d1, d2, d4])
                  clear c1' c2'
                  by_cases c3' : to_ = 65535
                  · have d3 : (to_ == 65535) = true := by simp [c3']
                    have HS2 := Lib.hid (HS.out.trans d3)
                    clear c3'
                    go_wp2_with fail
                    go_meet
                    exact ⟨by rw [HS2.out], rfl⟩
                  · have d3 : (to_ == 65535) = false := by simp [c3']
                    have HS2 := Lib.hid (HS.out.trans d3)
                    clear c3'
                    go_wp2_with fail
                    go_meet
                    exact ⟨by rw [HS2.out], rfl⟩
                · have d2 : (was == 0) = false := by simp [c2']
                  by_cases c4' : was = 65535
                  · have d4 : (was == 65535) = true := by simp [c4']
                    have HS := Lib.hid (show sameB was to_ = (to_ == 0) by simp [sameB, d1, d2, d4])
                    clear c1' c2' c4'
                    by_cases c3' : to_ = 0
                    · have d3 : (to_ == 0) = true := by simp [c3']
                      have HS2 := Lib.hid (HS.out.trans d3)
                      clear c3'
                      go_wp2_with fail
                      go_meet
                      exact ⟨by rw [HS2.out], rfl⟩
                    · have d3 : (to_ == 0) = false := by simp [c3']
                      have HS2 := Lib.hid (HS.out.trans d3)
                      clear c3'
                      go_wp2_with fail
                      go_meet
                      exact ⟨by rw [HS2.out], rfl⟩
                  · have d4 : (was == 65535) = false := by simp [c4']
                    have HS := Lib.hid (show sameB was to_ = false by simp [sameB, d1, d2, d4])
                    clear c1' c2' c4'
                    go_wp2_with fail
                    go_meet
                    exact ⟨by rw [HS.out], rfl⟩
            case rest =>
              obtain ⟨rfl, rfl⟩ := hcut
              have hF5 : BD 255 (put2 F k (to_ / 256) (to_ % 256)) := put2_bd hF (by omega) (by omega)
              generalize put2 F k (to_ / 256) (to_ % 256) = G at own5 HO hF5
              go_wp2_with fail
              refine (contains_any 29 fixedc_nz _ N c4 G wc own5.rd (by omega)).mono ?_
              rintro e w6 ⟨rfl, rfl⟩
              go_wp2_with fail
              refine (right_any _ N c4 G wc own5.rd hF5 (by omega)).mono ?_
              rintro e w7 ⟨rfl, hb7⟩
              rw [HO.out]
              have HB7 := HB5.trans (hb7.mono HB5.size)
              clear HO
              generalize sameB was to_ = s
              generalize someNZ G = z
              cases s <;> cases z
              all_goals
                go_wp2_with fail
                go_ret
                exact ⟨rfl, HB7⟩
end Go.Proofs.Ytfaihaooompojaa
