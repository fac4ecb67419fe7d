/- The walk of IcmpSmall. (Printed by gen_icsmall.py.) -/
import Derived.Test.YtjbkfhdbgphodaaDoorLIcReads
import Derived.Test.YtjbkfhdbgphodaaDoorWOwnZ
import Derived.Test.YtjbkfhdbgphodaaDoorWCopy
import Derived.Deep.DeepCutAuto
namespace Go.Proofs.YtjbkfhdbgphodaaDoor
open Go.RowKit
set_option linter.unusedVariables false
attribute [local go_sem ↓] Go.wp_at_zero Go.wp_at_succ

theorem bd_set {m : Int} {zs : List Int} (h : BD m zs) (k : Nat) {y : Int} (h0 : 0 ≤ y) (h1 : y ≤ m) : BD m (zs.set k y) := fun z hz => by
  rcases List.mem_or_eq_of_mem_set hz with hz | rfl
  · exact h z hz
  · exact ⟨h0, h1⟩
theorem zeros_bd (n : Nat) : BD 255 (List.replicate n (0 : Int)) := fun x hx => by have := List.eq_of_mem_replicate hx; omega
theorem i64_or64 (s : Nat) (h : s < 16) : bits .or .i64 64 (s : Int) = 64 + (s : Int) := by
  have key : ∀ s : Nat, s < 16 → bits .or .i64 64 (s : Int) = 64 + (s : Int) := by decide +kernel
  exact key s h

/-- some bytes -/
def SomeB (w : World) (e : Ending) (w' : World) : Prop :=
  ∃ A n c ys, e = .returned (.slice A n c) ∧ RD .u8 w' w'.heap.size A n ys ∧ BD 255 ys ∧ n ≤ c ∧ Below w.heap.size w w'

set_option maxHeartbeats 2000000 in
set_option maxRecDepth 100000 in
theorem right10_any (A : Option Addr) (n c : Nat) (zs : List Int) (w : World) (h : RD .u8 w w.heap.size A n zs) (hz : BD 255 zs) (hn : n ≤ c) (h1 : 1 ≤ n) (hc : n ≤ 1000) :
    Calls Tryd.prog 16 #[.slice A n c] w (SomeB w) := by
  obtain ⟨i0, hi, hz0, hz1, hz2⟩ := info_parts infoU8
  have R := Lib.hid h
  obtain ⟨b, off, rfl, hb, hcell⟩ := h.2 (by omega)
  have y0 : w.cell? ⟨b, off, none⟩ = some (.int .u8 (zs[0]?.getD 0)) := hcell 0 (by omega)
  obtain ⟨a0, a1⟩ := hz.get (by omega) 0
  obtain ⟨u, hu⟩ : ∃ u, u = zs[0]?.getD 0 := ⟨_, rfl⟩
  rw [← hu] at y0 a0 a1
  clear hu hcell h
  obtain ⟨q, hq⟩ : ∃ q : Nat, 4 * (u % 16) = (q : Int) := ⟨(4 * (u % 16)).toNat, by omega⟩
  have hq60 : q ≤ 60 := by omega
  have e2 : IntKind.i64.wrap (u % 16) = u % 16 := IntWalk.i64_in _ (by omega)
  have e3 : IntKind.i64.wrap (4 * (u % 16)) = (q : Int) := by rw [hq]; exact IntWalk.i64_in _ (by omega)
  have i0' : (0 : Int) < (n : Int) := by omega
  clear hq
  go_enter Tryd.func16, Tryd.ntmps16
  go_upto_region 2 with fail
  clear y0 e2 e3
  by_cases hs : q < 20
  · have t1 : decide ((q : Int) < 20) = true := by simp; omega
    go_wp2_with fail
    go_ret
    exact ⟨_, n, c, zs, rfl, R.out, hz, hn, Below.refl _ _⟩
  · have t1 : decide ((q : Int) < 20) = false := by simp; omega
    by_cases hs2 : n < q
    · have t2 : decide ((n : Int) < (q : Int)) = true := by simp; omega
      have t3 : decide (n < q) = true := by simp; omega
      clear hs2
      go_wp2_with fail
      go_ret
      exact ⟨_, n, c, zs, rfl, R.out, hz, hn, Below.refl _ _⟩
    · have t2 : decide (n < q) = false := by simp; omega
      have t3 : decide ((n : Int) < (q : Int)) = false := by simp; omega
      have i1 : (0 : Int) ≤ (q : Int) := by omega
      have i2 : (q : Int) ≤ (c : Int) := by omega
      have hqn : q ≤ n := by omega
      have sq := fun W => run_slice_lo (P := Tryd.prog) W Tryd.underlying22 hi hz1 (some ⟨b, off, none⟩) n c (q : Int) q rfl hqn
      go_wp2_with fail
      refine (rFix_any (some ⟨b, off, none⟩) q c (zs.take q) 10 10 _ (R.out.take hqn) (hz.take _) (by omega) rfl (by omega) (by omega)).mono ?_
      rintro e w1 ⟨A1, n1, c1, rfl, own1, hb1⟩
      have hn1 : q = n1 := by rw [← own1.len, fixOf_len]; simp; have := R.out.len; omega
      subst hn1
      have X := Lib.hid ((SP.start w).pushOwn hb1 own1)
      have rq : RD .u8 w1 w1.heap.size (cutA (some ⟨b, off, none⟩) c q) (n - q) (zs.drop q) := ((R.out.below hb1).more hb1.size).cutA (lo := q) hqn hn
      clear own1 hb1
      go_wp2_with (at_builtin; refine wpList_append_rd _ rfl _ _ _ rfl .u8 w.heap.size 5 i0 1 Tryd.underlying22 hi hz0 hz1 hz2 A1 q c1 (fixOf (zs.take q) 10) rfl (X.out.own 0 rfl) _ (cutA (some ⟨b, off, none⟩) c q) (n - q) (c - q) (zs.drop q) rfl rq (by simp only [maxLen]; omega) (by omega) X.out.size ?_; intro A2 c2 w2 happ; have Y := Lib.hid (X.out.app 0 rfl happ); clear happ)
      have Y2 := Y.out
      rw [show q + (n - q) = n by omega] at Y2
      go_ret
      exact ⟨A2, n, c2, _, rfl, Y2.rd 0 rfl, BD.append (fixOf_bd (hz.take _) 10) (hz.drop _), (Y2.own 0 rfl).le.1, Y2.bel⟩

def HZ10 : List Int := [69, 0, 0, 28, 0, 0, 64, 0, 9, 1, 0, 0] ++ List.replicate 16 0
def CZ10 : List Int := [0, 1, 2, 3, 4, 15, 16, 255]
def PZ10 : List Int := [0, 1, 2, 6, 17, 255]
theorem HZ10_bd : BD 255 HZ10 := bd_all (by decide)
theorem CZ10_bd : BD 255 CZ10 := bd_all (by decide)
theorem PZ10_bd : BD 255 PZ10 := bd_all (by decide)

set_option maxHeartbeats 16000000 in
set_option maxRecDepth 100000 in
theorem icmpSmall_walk (w : World) (hS : SORTS w) : Calls Tryd.prog 6 #[] w fun e w' => e = .returned (.bool true) ∧ Below w.heap.size w w' := by
  obtain ⟨i0, hi, hz0, hz1, hz2⟩ := info_parts infoU8
  have HS := Lib.hid (fun (W : World) (hb : Below w.heap.size w W) => hS.below hb)
  have X0 := Lib.hid ((SP.start w).allocI .u8 5 [69, 0, 0, 28, 0, 0, 64, 0, 9, 1, 0, 0] (by decide))
  clear hS
  go_enter Tryd.func6, Tryd.ntmps6
  go_upto_region 2 with (at_builtin; refine wpList_append_zeros_own _ rfl _ _ _ _ rfl 5 i0 .i64 Tryd.underlying22 Tryd.underlying3 hi hz0 hz1 hz2 w.heap.size w.heap.size 12 12 16 _ (by rfl) [69, 0, 0, 28, 0, 0, 64, 0, 9, 1, 0, 0] rfl rfl (X0.out.own 0 rfl) X0.out.size (by omega) ?_; intro A1 c1 w1 happ; have X1 := Lib.hid (X0.out.app 0 rfl happ); clear happ)
  have X := Lib.hid (show SP w w1 [.own .u8 5 A1 28 c1 HZ10] from X1.out)
  clear X0 X1
  go_wp2_with fail
  go_loopw [25] (fun s wr => ∃ k : Nat, k ≤ 256 ∧ s = .int .i64 (k : Int) ∧ Hid (SP w wr [.own .u8 5 A1 28 c1 HZ10])) (fun s _ => 256 - (intOf s).toNat)
  case atStart => exact ⟨0, by omega, rfl, X⟩
  case round =>
    obtain ⟨k, hk, rfl, X1⟩ := hrel
    obtain ⟨wo, rfl⟩ : ∃ wo : World, wo = wr := ⟨_, rfl⟩
    clear X
    by_cases hlt : k < 256
    · have t1 : (k : Int) < 256 := by omega
      have u1 : IntKind.u8.wrap (k : Int) = (k : Int) := u8_in _ (by omega) (by omega)
      have X2 := Lib.hid (show SP w _ [.own .u8 5 A1 28 c1 HZ10, .own .u8 5 (some ⟨wo.heap.size, 0, none⟩) 8 8 CZ10] from X1.out.allocI .u8 5 CZ10 (by decide))
      go_wp2_with fail
      generalize hG : wo.heap.size = G at X2 ⊢
      go_loopw [30] (fun s wr => ∃ j : Nat, j ≤ 8 ∧ s = .int .i64 (j : Int) ∧ Hid (SP w wr [.own .u8 5 A1 28 c1 HZ10, .own .u8 5 (some ⟨G, 0, none⟩) 8 8 CZ10])) (fun s _ => 8 - (intOf s).toNat)
      case atStart => exact ⟨0, by omega, rfl, X2⟩
      case round =>
        obtain ⟨j, hj, rfl, Y⟩ := hrel
        obtain ⟨wp, rfl⟩ : ∃ wp : World, wp = wr := ⟨_, rfl⟩
        clear X1 X2 hG
        by_cases hlj : j < 8
        · have t2 : (j : Int) < 8 := by omega
          have t3 : (0 : Int) ≤ (j : Int) := by omega
          obtain ⟨cd, hcd⟩ : ∃ cd, cd = CZ10[j]?.getD 0 := ⟨_, rfl⟩
          have xj := (Y.out.own 1 rfl).cell (i := j) hlj
          obtain ⟨cd0, cd1⟩ := CZ10_bd.get (by omega) j
          rw [← hcd] at xj cd0 cd1
          clear hcd
          have Z := Lib.hid (Y.out.allocI' .u8 5 [] (by simp [maxLen]) (N := wp.heap.size) rfl)
          go_upto_region 9 with (at_builtin; refine wpList_append_rd _ rfl _ _ _ rfl .u8 w.heap.size 5 i0 1 Tryd.underlying22 hi hz0 hz1 hz2 (some ⟨wp.heap.size, 0, none⟩) 0 0 [] rfl (Z.out.own 2 rfl) _ A1 28 c1 HZ10 rfl (Z.out.rd 0 rfl) (by simp only [maxLen]; omega) (by omega) Z.out.size ?_; intro A5 c5 w5 happ; have V := Lib.hid (Z.out.app 2 rfl happ); clear happ)
          have V1 := Lib.hid (show SP w w5 [.own .u8 5 A1 28 c1 HZ10, .own .u8 5 (some ⟨G, 0, none⟩) 8 8 CZ10, .own .u8 5 A5 28 c5 HZ10] from V.out)
          clear Z V xj
          obtain ⟨g5, rfl, hg5, _, hc5, hc5'⟩ := (V1.out.own 2 rfl).form (by omega)
          have y0 := (V1.out.own 2 rfl).cell (i := 20) (by omega)
          have y1 := (V1.out.own 2 rfl).cell (i := 21) (by omega)
          have y2 := (V1.out.own 2 rfl).cell (i := 25) (by omega)
          have z0 := (V1.out.own 2 rfl).frozen 20
          have z1 := (V1.out.own 2 rfl).frozen 21
          have z2 := (V1.out.own 2 rfl).frozen 25
          obtain ⟨B, hB⟩ : ∃ B, B = ((HZ10.set 20 (k : Int)).set 21 cd).set 25 7 := ⟨_, rfl⟩
          have hbb : BD 255 B := by rw [hB]; exact bd_set (bd_set (bd_set HZ10_bd _ (by omega) (by omega)) _ cd0 cd1) _ (by omega) (by omega)
          have V2 := Lib.hid (show SP w _ [.own .u8 5 A1 28 c1 HZ10, .own .u8 5 (some ⟨G, 0, none⟩) 8 8 CZ10, .own .u8 5 (some ⟨g5, 0, none⟩) 28 c5 B] by rw [hB]; exact ((V1.out.setO 2 rfl 20 (k : Int)).setO 2 rfl 21 cd).setO 2 rfl 25 7)
          clear hB
          go_upto_region 10 with fail
          generalize ((w5.setCell ⟨g5, 20, none⟩ (.int .u8 (k : Int))).setCell ⟨g5, 21, none⟩ (.int .u8 cd)).setCell ⟨g5, 25, none⟩ (.int .u8 7) = w6 at V2 ⊢
          clear y0 y1 y2 z0 z1 z2 V1
          have s20 := fun W => run_slice_lo (P := Tryd.prog) W Tryd.underlying22 hi hz1 (some ⟨g5, 0, none⟩) 28 c5 20 20 rfl (by omega)
          go_wp2_with fail
          refine (reads10_any (cutA (some ⟨g5, 0, none⟩) c5 20) (28 - 20) (c5 - 20) (B.drop 20) k cd _ ((V2.out.rd 2 rfl).cutA (lo := 20) (by omega) hc5) (hbb.drop _) (by omega) (by omega) ⟨cd0, cd1⟩ (HS.out _ V2.out.bel)).mono ?_
          rintro e w7 ⟨rfl, hb7⟩
          have V3 := Lib.hid (V2.out.next hb7)
          clear hb7 V2 s20
          obtain ⟨m, hm⟩ : ∃ m : Nat, cd % 16 = (m : Int) := ⟨(cd % 16).toNat, by omega⟩
          have hm16 : m < 16 := by omega
          have i1 : (0 : Int) ≤ (m : Int) := by omega
          have i2 : (m : Int) ≤ (c5 : Int) := by omega
          go_wp2_with fail
          refine (writes10_any k cd 65535 0 (some ⟨g5, 0, none⟩) m c5 (B.take m) _ (by omega) ⟨cd0, cd1⟩ (by omega) (by omega) ((V3.out.rd 2 rfl).take (by omega)) (hbb.take _) (by omega) (HS.out _ V3.out.bel)).mono ?_
          rintro e w8 ⟨rfl, hb8⟩
          have V4 := Lib.hid (V3.out.next hb8)
          clear hb8 V3 hm i1 i2
          go_wp2_with fail
          refine (right10_any (some ⟨g5, 0, none⟩) 28 c5 B _ (V4.out.rd 2 rfl) hbb hc5 (by omega) (by omega)).mono ?_
          rintro e w9 ⟨A9, n9, c9, ys, rfl, rd9, hys, hn9, hb9⟩
          have V5 := Lib.hid (V4.out.next hb9)
          clear hb9 V4
          go_wp2_with fail
          refine (tells10_any A9 n9 c9 ys _ rd9 hys hn9 (HS.out _ V5.out.bel)).mono ?_
          rintro e wa ⟨rfl, hba⟩
          have V6 := Lib.hid (V5.out.next hba)
          clear hba V5 rd9
          go_wp2_with fail
          go_roundw
          case rel => exact ⟨j + 1, by omega, by go_num, Lib.hid (V6.out.pick [0, 1] (by decide) rfl)⟩
          case measure => simp [intOf]; omega
        · have t2 : ¬ (j : Int) < 8 := by omega
          go_wp2_with fail
          refine (example10_any _).mono ?_
          rintro e w3 ⟨rfl, rfl⟩
          have Z := Lib.hid (show SP w _ [.own .u8 5 A1 28 c1 HZ10, .own .u8 5 (some ⟨wp.heap.size, 0, none⟩) 28 28 EX10q] from (Y.out.allocI .u8 5 EX10q (by decide)).pick [0, 2] (by decide) rfl)
          generalize wp.alloc (.cells (EX10q.map (Value.int .u8)).toArray 5) = w3 at Z ⊢
          generalize hG2 : wp.heap.size = G2 at Z ⊢
          clear Y
          go_wp2_with fail
          go_loopw [75] (fun s wr => ∃ i : Nat, i ≤ 28 ∧ s = .int .i64 (i : Int) ∧ Hid (SP w wr [.own .u8 5 A1 28 c1 HZ10, .own .u8 5 (some ⟨G2, 0, none⟩) 28 28 EX10q])) (fun s _ => 28 - (intOf s).toNat)
          case atStart => exact ⟨0, by omega, rfl, Z⟩
          case round =>
            obtain ⟨i, hii, rfl, Y⟩ := hrel
            obtain ⟨wq, rfl⟩ : ∃ wq : World, wq = wr := ⟨_, rfl⟩
            clear Z hG2
            by_cases hli : i < 28
            · have t3 : (i : Int) < 28 := by omega
              have t4 : (0 : Int) ≤ (i : Int) := by omega
              have Z := Lib.hid (Y.out.allocI' .u8 5 [] (by simp [maxLen]) (N := wq.heap.size) rfl)
              go_upto_region 18 with (at_builtin; refine wpList_append_rd _ rfl _ _ _ rfl .u8 w.heap.size 5 i0 1 Tryd.underlying22 hi hz0 hz1 hz2 (some ⟨wq.heap.size, 0, none⟩) 0 0 [] rfl (Z.out.own 2 rfl) _ (some ⟨G2, 0, none⟩) 28 28 EX10q rfl (Z.out.rd 1 rfl) (by simp only [maxLen]; omega) (by omega) Z.out.size ?_; intro A5 c5 w5 happ; have V := Lib.hid (Z.out.app 2 rfl happ); clear happ)
              have V1 := Lib.hid (show SP w w5 [.own .u8 5 A1 28 c1 HZ10, .own .u8 5 (some ⟨G2, 0, none⟩) 28 28 EX10q, .own .u8 5 A5 28 c5 EX10q] from V.out)
              clear Z V
              obtain ⟨g5, rfl, hg5, _, hc5, hc5'⟩ := (V1.out.own 2 rfl).form (by omega)
              have y0 := (V1.out.own 2 rfl).cell (i := i) (by omega)
              have z0 := (V1.out.own 2 rfl).frozen i
              obtain ⟨B, hB⟩ : ∃ B, B = EX10q.set i (k : Int) := ⟨_, rfl⟩
              have hbb : BD 255 B := by rw [hB]; exact bd_set EX10q_bd _ (by omega) (by omega)
              have V2 := Lib.hid (show SP w _ [.own .u8 5 A1 28 c1 HZ10, .own .u8 5 (some ⟨G2, 0, none⟩) 28 28 EX10q, .own .u8 5 (some ⟨g5, 0, none⟩) 28 c5 B] by rw [hB]; exact V1.out.setO 2 rfl i (k : Int))
              clear hB
              go_upto_region 19 with fail
              generalize w5.setCell ⟨g5, i, none⟩ (.int .u8 (k : Int)) = w6 at V2 ⊢
              clear y0 z0 V1
              go_wp2_with fail
              refine (right10_any (some ⟨g5, 0, none⟩) 28 c5 B _ (V2.out.rd 2 rfl) hbb hc5 (by omega) (by omega)).mono ?_
              rintro e w9 ⟨A9, n9, c9, ys, rfl, rd9, hys, hn9, hb9⟩
              have V5 := Lib.hid (V2.out.next hb9)
              clear hb9 V2
              go_wp2_with fail
              refine (tells10_any A9 n9 c9 ys _ rd9 hys hn9 (HS.out _ V5.out.bel)).mono ?_
              rintro e wa ⟨rfl, hba⟩
              have V6 := Lib.hid (V5.out.next hba)
              clear hba V5 rd9
              by_cases h32 : (k : Int) % 32 = (i : Int)
              · have t5 : ((k : Int) % 32 == (i : Int)) = true := by simp [h32]
                clear h32
                go_wp2_with fail
                refine (tells10_any (some ⟨g5, 0, none⟩) 28 c5 B _ (V6.out.rd 2 rfl) hbb hc5 (HS.out _ V6.out.bel)).mono ?_
                rintro e wb ⟨rfl, hbb'⟩
                have V7 := Lib.hid (V6.out.next hbb')
                clear hbb' V6
                go_wp2_with fail
                go_roundw
                case rel => exact ⟨i + 1, by omega, by go_num, Lib.hid (V7.out.pick [0, 1] (by decide) rfl)⟩
                case measure => simp [intOf]; omega
              · have t5 : ((k : Int) % 32 == (i : Int)) = false := by simp [h32]
                clear h32
                go_wp2_with fail
                go_roundw
                case rel => exact ⟨i + 1, by omega, by go_num, Lib.hid (V6.out.pick [0, 1] (by decide) rfl)⟩
                case measure => simp [intOf]; omega
            · have t3 : ¬ (i : Int) < 28 := by omega
              go_wp2_with fail
              go_roundw
              case rel => exact ⟨k + 1, by omega, by go_num, Lib.hid (Y.out.pick [0] (by decide) rfl)⟩
              case measure => simp [intOf]; omega
    · have t1 : ¬ (k : Int) < 256 := by omega
      have HB1 := Lib.hid X1.out.bel
      clear X1
      go_wp2_with fail
      go_loopw [103] (fun s wr => ∃ n : Nat, n ≤ 29 ∧ s = .int .i64 (n : Int) ∧ Hid (Below w.heap.size w wr)) (fun s _ => 29 - (intOf s).toNat)
      case atStart => exact ⟨0, by omega, rfl, HB1⟩
      case round =>
        obtain ⟨n, hn, rfl, HB⟩ := hrel
        obtain ⟨wp, rfl⟩ : ∃ wp : World, wp = wr := ⟨_, rfl⟩
        clear HB1
        by_cases hln : n < 29
        · have t2 : (n : Int) < 29 := by omega
          have t3 : (0 : Int) ≤ (n : Int) := by omega
          have t4 : (n : Int) ≤ 28 := by omega
          have u2 : IntKind.u8.wrap (n : Int) = (n : Int) := u8_in _ (by omega) (by omega)
          have SW := Lib.hid (show SP w wp [] from ⟨HB.out, fun i it h => by simp at h, fun i j x y g h => by simp at h⟩)
          go_wp2_with fail
          refine (example10_any _).mono ?_
          rintro e w3 ⟨rfl, rfl⟩
          have Z := Lib.hid (SW.out.allocI .u8 5 EX10q (by decide))
          generalize wp.alloc (.cells (EX10q.map (Value.int .u8)).toArray 5) = w3 at Z ⊢
          go_wp2_with fail
          refine (tells10_any (some ⟨wp.heap.size, 0, none⟩) n 28 (EX10q.take n) _ ((Z.out.rd 0 rfl).take (by show n ≤ 28; omega)) (EX10q_bd.take _) (by omega) (HS.out _ Z.out.bel)).mono ?_
          rintro e wa ⟨rfl, hba⟩
          have V := Lib.hid (Z.out.next hba)
          clear hba Z SW
          go_wp2_with fail
          refine (example10_any _).mono ?_
          rintro e w4 ⟨rfl, rfl⟩
          have Z := Lib.hid (V.out.allocI .u8 5 EX10q (by decide))
          generalize wa.alloc (.cells (EX10q.map (Value.int .u8)).toArray 5) = w4 at Z ⊢
          go_wp2_with fail
          refine (reads10_any (some ⟨wa.heap.size, 0, none⟩) n 28 (EX10q.take n) n 0 _ ((Z.out.rd 1 rfl).take (by show n ≤ 28; omega)) (EX10q_bd.take _) (by omega) (by omega) (by omega) (HS.out _ Z.out.bel)).mono ?_
          rintro e wb ⟨rfl, hbb⟩
          have V2 := Lib.hid (Z.out.next hbb).bel
          clear hbb Z V
          go_wp2_with fail
          go_roundw
          case rel => exact ⟨n + 1, by omega, by go_num, V2⟩
          case measure => simp [intOf]; omega
        · have t2 : ¬ (n : Int) < 29 := by omega
          go_wp2_with fail
          go_loopw [121] (fun s wr => ∃ n : Nat, n ≤ 16 ∧ s = .int .i64 (n : Int) ∧ Hid (Below w.heap.size w wr)) (fun s _ => 16 - (intOf s).toNat)
          case atStart => exact ⟨0, by omega, rfl, HB⟩
          case round =>
            obtain ⟨sz, hsz, rfl, HB2⟩ := hrel
            obtain ⟨wq, rfl⟩ : ∃ wq : World, wq = wr := ⟨_, rfl⟩
            clear HB
            by_cases hls : sz < 16
            · have t3 : (sz : Int) < 16 := by omega
              have e64 := i64_or64 sz hls
              have SW := Lib.hid (show SP w wq [] from ⟨HB2.out, fun i it h => by simp at h, fun i j x y g h => by simp at h⟩)
              have X2 := Lib.hid (show SP w _ [.own .u8 5 (some ⟨wq.heap.size, 0, none⟩) 6 6 PZ10] from SW.out.allocI .u8 5 PZ10 (by decide))
              clear SW HB2
              go_wp2_with fail
              generalize hG : wq.heap.size = G at X2 ⊢
              go_loopw [126] (fun s wr => ∃ j : Nat, j ≤ 6 ∧ s = .int .i64 (j : Int) ∧ Hid (SP w wr [.own .u8 5 (some ⟨G, 0, none⟩) 6 6 PZ10])) (fun s _ => 6 - (intOf s).toNat)
              case atStart => exact ⟨0, by omega, rfl, X2⟩
              case round =>
                obtain ⟨j, hj, rfl, Y⟩ := hrel
                obtain ⟨wp, rfl⟩ : ∃ wp : World, wp = wr := ⟨_, rfl⟩
                clear X2 hG
                by_cases hlj : j < 6
                · have t4 : (j : Int) < 6 := by omega
                  have t5 : (0 : Int) ≤ (j : Int) := by omega
                  obtain ⟨pr, hpr⟩ : ∃ pr, pr = PZ10[j]?.getD 0 := ⟨_, rfl⟩
                  have xj := (Y.out.own 0 rfl).cell (i := j) hlj
                  obtain ⟨pr0, pr1⟩ := PZ10_bd.get (by omega) j
                  rw [← hpr] at xj pr0 pr1
                  clear hpr
                  go_wp2_with fail
                  go_loopw [130] (fun s wr => ∃ m : Nat, m ≤ 12 ∧ s = .int .i64 (m : Int) ∧ Hid (SP w wr [.own .u8 5 (some ⟨G, 0, none⟩) 6 6 PZ10])) (fun s _ => 12 - (intOf s).toNat)
                  case atStart => exact ⟨0, by omega, rfl, Y⟩
                  case round =>
                    obtain ⟨m, hm, rfl, Z⟩ := hrel
                    obtain ⟨wz, rfl⟩ : ∃ wz : World, wz = wr := ⟨_, rfl⟩
                    clear Y xj
                    by_cases hlm : m < 12
                    · have t6 : (m : Int) < 12 := by omega
                      obtain ⟨mx, hmx, hmx1, hmx2, hmx3⟩ : ∃ mx : Nat, (if 4 * (sz : Int) + (m : Int) + 8 < 10 then (10 : Int) else 4 * (sz : Int) + (m : Int) + 8) = (mx : Int) ∧ 10 ≤ mx ∧ mx ≤ 100 ∧ 4 * sz + 8 ≤ mx := by
                        by_cases h : 4 * (sz : Int) + (m : Int) + 8 < 10
                        · exact ⟨10, if_pos h, by omega, by omega, by omega⟩
                        · exact ⟨4 * sz + m + 8, by rw [if_neg h]; omega, by omega, by omega, by omega⟩
                      obtain ⟨w7, hrun, own7, hb7, hs7⟩ := run_make_cap (P := Tryd.prog) (k := .u8) wz 22 i0 Tryd.underlying22 hi hz0 hz1 (by omega) (mx : Int) (mx : Int) mx mx rfl rfl (Nat.le_refl _) (by omega)
                      have V0 := Lib.hid (Z.out.pushOwn hb7 own7)
                      have v1 : IntKind.u8.wrap (64 + (sz : Int)) = 64 + (sz : Int) := u8_in _ (by omega) (by omega)
                      have v2 : IntKind.u8.wrap (4 * (sz : Int) + (m : Int) + 4) = 4 * (sz : Int) + (m : Int) + 4 := u8_in _ (by omega) (by omega)
                      clear own7 hb7 hs7
                      generalize wz.heap.size = GZ at hrun V0
                      go_upto_region 39 with fail
                      clear hrun hmx
                      have y0 := (V0.out.own 1 rfl).cell (i := 0) (by omega)
                      have y3 := (V0.out.own 1 rfl).cell (i := 3) (by omega)
                      have y9 := (V0.out.own 1 rfl).cell (i := 9) (by omega)
                      have z0 := (V0.out.own 1 rfl).frozen 0
                      have z3 := (V0.out.own 1 rfl).frozen 3
                      have z9 := (V0.out.own 1 rfl).frozen 9
                      have j0 : (0 : Int) < (mx : Int) := by omega
                      have j3 : (3 : Int) < (mx : Int) := by omega
                      have j9 : (9 : Int) < (mx : Int) := by omega
                      have j0' : 0 < mx := by omega
                      obtain ⟨B, hB⟩ : ∃ B, B = (((List.replicate mx (0 : Int)).set 0 (64 + (sz : Int))).set 3 (4 * (sz : Int) + (m : Int) + 4)).set 9 pr := ⟨_, rfl⟩
                      have hbb : BD 255 B := by rw [hB]; exact bd_set (bd_set (bd_set (zeros_bd mx) _ (by omega) (by omega)) _ (by omega) (by omega)) _ pr0 pr1
                      have V1 := Lib.hid (show SP w _ [.own .u8 5 (some ⟨G, 0, none⟩) 6 6 PZ10, .own .u8 5 (some ⟨GZ, 0, none⟩) mx mx B] by rw [hB]; exact ((V0.out.setO 1 rfl 0 (64 + (sz : Int))).setO 1 rfl 3 (4 * (sz : Int) + (m : Int) + 4)).setO 1 rfl 9 pr)
                      clear hB
                      go_upto_region 40 with fail
                      generalize ((w7.setCell ⟨GZ, 0, none⟩ (.int .u8 (64 + (sz : Int)))).setCell ⟨GZ, 3, none⟩ (.int .u8 (4 * (sz : Int) + (m : Int) + 4))).setCell ⟨GZ, 9, none⟩ (.int .u8 pr) = w8 at V1 ⊢
                      clear y0 y3 y9 z0 z3 z9 V0 v1 v2 j0 j3 j9 j0'
                      go_wp2_with fail
                      go_loopw [15] (fun s wr => ∃ (x : Nat) (D : List Int), 4 * sz ≤ x ∧ x ≤ mx ∧ s = .int .i64 (x : Int) ∧ Hid (BD 255 D ∧ SP w wr [.own .u8 5 (some ⟨G, 0, none⟩) 6 6 PZ10, .own .u8 5 (some ⟨GZ, 0, none⟩) mx mx D])) (fun s _ => mx - (intOf s).toNat)
                      case atStart => exact ⟨4 * sz, B, Nat.le_refl _, by omega, by first | rfl | go_num, Lib.hid ⟨hbb, V1.out⟩⟩
                      case round =>
                        obtain ⟨x, D, hx1, hx2, rfl, V2⟩ := hrel
                        obtain ⟨wy, rfl⟩ : ∃ wy : World, wy = wr := ⟨_, rfl⟩
                        clear V1 Z
                        by_cases hlx : x < mx
                        · have t7 : (x : Int) < (mx : Int) := by omega
                          have t8 : (0 : Int) ≤ (x : Int) := by omega
                          obtain ⟨pp, hpp⟩ : ∃ pp : Nat, (x : Int) * (m : Int) = (pp : Int) := ⟨x * m, by simp⟩
                          have hp0 : (0 : Int) ≤ (pp : Int) := by omega
                          have hp1 : (pp : Int) ≤ 2000 := by
                            have h1 : x * m ≤ 100 * 12 := Nat.mul_le_mul (by omega) (by omega)
                            have h2 : ((x * m : Nat) : Int) = (pp : Int) := by rw [← hpp]; simp
                            omega
                          have u3 : IntKind.i64.wrap ((x : Int) * (m : Int)) = (pp : Int) := by rw [hpp]; exact IntWalk.i64_in _ (by omega)
                          have u4 : IntKind.u8.wrap (pp : Int) = (pp : Int) % 256 := rfl
                          have y0 := (V2.out.2.own 1 rfl).cell (i := x) hlx
                          have z0 := (V2.out.2.own 1 rfl).frozen x
                          have V3 := Lib.hid (And.intro (bd_set V2.out.1 x (y := (pp : Int) % 256 % 20) (by omega) (by omega)) (V2.out.2.setO 1 rfl x ((pp : Int) % 256 % 20)))
                          clear hpp
                          go_wp2_with fail
                          go_roundw
                          case rel => exact ⟨x + 1, _, by omega, by omega, by go_num, V3⟩
                          case measure => simp [intOf]; omega
                        · have t7 : ¬ (x : Int) < (mx : Int) := by omega
                          go_wp2_with fail
                          refine (right10_any (some ⟨GZ, 0, none⟩) mx mx D _ (V2.out.2.rd 1 rfl) V2.out.1 (Nat.le_refl _) (by omega) (by omega)).mono ?_
                          rintro e w9 ⟨A9, n9, c9, ys, rfl, rd9, hys, hn9, hb9⟩
                          have V5 := Lib.hid (V2.out.2.next hb9)
                          clear hb9 V2
                          go_wp2_with fail
                          refine (tells10_any A9 n9 c9 ys _ rd9 hys hn9 (HS.out _ V5.out.bel)).mono ?_
                          rintro e wa ⟨rfl, hba⟩
                          have V6 := Lib.hid (V5.out.next hba)
                          clear hba V5 rd9
                          go_wp2_with fail
                          go_roundw
                          case rel => exact ⟨m + 1, by omega, by go_num, Lib.hid (V6.out.pick [0] (by decide) rfl)⟩
                          case measure => simp [intOf]; omega
                    · have t6 : ¬ (m : Int) < 12 := by omega
                      go_wp2_with fail
                      go_roundw
                      case rel => exact ⟨j + 1, by omega, by go_num, Z⟩
                      case measure => simp [intOf]; omega
                · have t4 : ¬ (j : Int) < 6 := by omega
                  go_wp2_with fail
                  go_roundw
                  case rel => exact ⟨sz + 1, by omega, by go_num, Lib.hid Y.out.bel⟩
                  case measure => simp [intOf]; omega
            · have t3 : ¬ (sz : Int) < 16 := by omega
              have HBB := Lib.hid HB2.out.size
              obtain ⟨L, hL⟩ : ∃ L : Nat, L = 65508 := ⟨_, rfl⟩
              have La : 65508 ≤ L := by omega
              have Lb : L ≤ 65508 := by omega
              clear hL
              obtain ⟨w2, hrun, own2, hb2, hs2⟩ := run_make_cap (P := Tryd.prog) (k := .u8) wq 22 i0 Tryd.underlying22 hi hz0 hz1 (by omega) (65508 : Int) (65508 : Int) L L (by omega) (by omega) (Nat.le_refl _) (by omega)
              have SW := Lib.hid (show SP w wq [] from ⟨HB2.out, fun i it h => by simp at h, fun i j x y g h => by simp at h⟩)
              have S2 := Lib.hid (SW.out.pushOwn hb2 own2)
              clear own2 hb2 hs2 SW HB2
              generalize wq.heap.size = GL at hrun S2
              go_upto_region 50 with fail
              clear hrun
              obtain ⟨M, hM⟩ : ∃ M : Nat, M = L - 1 := ⟨_, rfl⟩
              have Ma : 65507 ≤ M := by omega
              have Mb : M ≤ 65507 := by omega
              have s1 := fun W => run_slice_lo (P := Tryd.prog) W Tryd.underlying22 hi hz1 (some ⟨GL, 0, none⟩) L L 1 1 rfl (by omega)
              rw [← hM] at s1
              have HX := Lib.hid (show SP w w2 [.own .u8 5 (some ⟨GL, 0, none⟩) L L (List.replicate L 0)] from S2.out)
              have HDD := Lib.hid (fun (W : World) (X : SP w W [.own .u8 5 (some ⟨GL, 0, none⟩) L L (List.replicate L 0)]) => (show RD .u8 W W.heap.size (cutA (some ⟨GL, 0, none⟩) L 1) M ((List.replicate L (0 : Int)).drop 1) from by
                have o := (X.rd 0 rfl).cutA (lo := 1) (c := L) (by omega) (Nat.le_refl _)
                rw [← hM] at o
                exact o))
              obtain ⟨D, hD⟩ : ∃ D, D = (List.replicate L (0 : Int)).drop 1 := ⟨_, rfl⟩
              rw [← hD] at HDD
              have hbd : BD 255 D := by rw [hD]; exact (zeros_bd L).drop 1
              have hln' : D.length = M := by rw [hD, List.length_drop, List.length_replicate]; omega
              have HLN := Lib.hid hln'
              have k18 : kE 18 0 = 0 := by decide
              have HK := Lib.hid (show icWE 18 0 M = 0 ∧ icWE 18 0 L = 3 ∧ icWE 18 1 L = 102 from ⟨by unfold icWE; rw [if_pos k18, if_neg (by omega)], by unfold icWE; rw [if_pos k18, if_pos (by omega)], by unfold icWE; rw [if_neg (by decide)]; decide⟩)
              have HBD := Lib.hid (show BD 255 (icHead 18 0 0 0 ++ D) from BD.append (bd_all (by decide)) hbd)
              have HP := Lib.hid (show icWB 18 0 0 0 D = fixOf (icHead 18 0 0 0 ++ D) 2 by unfold icWB; rw [HLN.out, if_pos HK.out.1]; rfl)
              have HPL := Lib.hid (show (fixOf (icHead 18 0 0 0 ++ D) 2).length = 8 + M by rw [fixOf_len, List.length_append, HLN.out]; rfl)
              obtain ⟨P, hP⟩ : ∃ P, P = fixOf (icHead 18 0 0 0 ++ D) 2 := ⟨_, rfl⟩
              have hPB : BD 255 P := by rw [hP]; exact fixOf_bd HBD.out 2
              have HV := Lib.hid (show icV P = true ∧ icV (P.take 7) = false from ⟨by
                have h1 : P.length = 8 + M := by rw [hP]; exact HPL.out
                unfold icV
                rw [h1, hP, fix_right HBD.out (by rfl) (by rw [List.length_append, HLN.out]; show 2 + 2 ≤ 8 + M; omega), decide_eq_true (by omega)]; rfl, by
                unfold icV; rw [decide_eq_false (by have := List.length_take_le 7 P; omega)]; rfl⟩)
              rw [← hP] at HP HPL
              have HNL := Lib.hid (show icWB 18 0 0 0 (List.replicate L 0) = [] ∧ icWB 18 1 0 0 (List.replicate L 0) = [] from ⟨by unfold icWB; rw [List.length_replicate, HK.out.2.1, if_neg (by decide)], by unfold icWB; rw [List.length_replicate, HK.out.2.2, if_neg (by decide)]⟩)
              clear hD hM hP S2 hln' k18
              go_wp2_with fail
              refine (icwrite_any 18 0 0 0 (cutA (some ⟨GL, 0, none⟩) L 1) M M D _ (by omega) (by omega) (by omega) (by omega) (HDD.out _ HX.out) hbd (by omega) (HS.out _ HX.out.bel)).mono ?_
              rintro e w3 ⟨A3, n3, c3, rfl, own3, hb3⟩
              rw [HK.out.1]
              rw [HP.out] at own3
              have hn3 := own3.len
              rw [HPL.out] at hn3
              have hle3 := own3.le
              have X3 := Lib.hid (HX.out.pushOwn hb3 own3)
              have n3a : 65515 ≤ n3 := by omega
              have n3b : n3 ≤ 65515 := by omega
              clear own3 hb3 HX hn3
              go_wp2_with fail
              refine (icwrite_any 18 0 0 0 (some ⟨GL, 0, none⟩) L L (List.replicate L 0) _ (by omega) (by omega) (by omega) (by omega) (X3.out.rd 0 rfl) (zeros_bd L) (by omega) (HS.out _ X3.out.bel)).mono ?_
              rintro e w4 ⟨A4, n4, c4, rfl, own4, hb4⟩
              rw [HK.out.2.1]
              have X4 := Lib.hid (X3.out.next hb4)
              clear hb4 X3 own4
              go_wp2_with fail
              refine (icwrite_any 18 1 0 0 (some ⟨GL, 0, none⟩) L L (List.replicate L 0) _ (by omega) (by omega) (by omega) (by omega) (X4.out.rd 0 rfl) (zeros_bd L) (by omega) (HS.out _ X4.out.bel)).mono ?_
              rintro e w5 ⟨A5, n5, c5, rfl, own5, hb5⟩
              rw [HK.out.2.2]
              have X5 := Lib.hid (X4.out.next hb5)
              clear hb5 X4 own5
              have e1 : ((n3 : Int) == 65515) = true := by simp; omega
              go_wp2_with fail
              refine (icverify_any A3 n3 c3 P _ (X5.out.rd 1 rfl) hPB (by omega)).mono ?_
              rintro e w6 ⟨rfl, hb6⟩
              rw [HV.out.1]
              have X6 := Lib.hid (X5.out.next hb6)
              clear hb6 X5
              have i7 : (7 : Int) ≤ (c3 : Int) := by omega
              have i7' : 7 ≤ c3 := by omega
              go_wp2_with fail
              refine (icverify_any A3 7 c3 (P.take 7) _ ((X6.out.rd 1 rfl).take (by omega)) (hPB.take _) (by omega)).mono ?_
              rintro e w7 ⟨rfl, hb7⟩
              rw [HV.out.2]
              have X7 := Lib.hid (X6.out.next hb7)
              clear hb7 X6
              go_wp2_with fail
              refine (awake10_any _ (HS.out _ X7.out.bel)).mono ?_
              rintro e w8 ⟨rfl, hb8⟩
              go_wp2_with fail
              go_ret
              exact ⟨rfl, (X7.out.next hb8).bel⟩
end Go.Proofs.YtjbkfhdbgphodaaDoor
