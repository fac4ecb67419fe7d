/- package icmp: the four closures of Quote. -/
import Derived.Test.YtdepibljeopcgaaDoorIcQ
import Derived.Test.YtdepibljeopcgaaDoorWIc4
import Derived.Test.YtdepibljeopcgaaDoorIpP
namespace Go.Proofs.YtdepibljeopcgaaDoor
open Go.RowKit
set_option linter.unusedVariables false
attribute [local go_sem ↓] Go.wp_at_zero Go.wp_at_succ

theorem if_off {b : Bool} {p q : Prop} (h : b = false) (hq : q) : if b = true then p else q := by rw [h]; exact hq

set_option maxHeartbeats 400000 in
theorem q1_any (N : Nat) (A : Option Addr) (n c : Nat) (zs : List Int) (w : World) (B : Bool) (x1 : w.cell? ⟨N, 0, none⟩ = some (.slice A n c)) (h : RD .u8 w w.heap.size A n zs) (hz : BD 255 zs) (hn : n ≤ 140737488355328) (hB : qF1 zs = B) :
    Calls Tryd.prog 20 #[.pointer (some ⟨N, 0, none⟩)] w fun e w' => e = .returned (.bool B) ∧ w = w' := by
  unfold qF1 at hB
  rw [h.len] at hB
  by_cases h20 : n < 20
  · have i1 : (n : Int) < 20 := by omega
    have hB' : true = B := by rw [← hB]; simp [h20]
    subst hB'
    clear hB
    go_enter Tryd.func20, Tryd.ntmps20
    go_wp2_with fail
    go_ret
    exact ⟨rfl, rfl⟩
  · have i1 : ¬ (n : Int) < 20 := by omega
    obtain ⟨b, off, rfl, hb, hc⟩ := h.2 (by omega)
    have x2 : w.cell? ⟨b, off, none⟩ = some (.int .u8 (zs[0]?.getD 0)) := hc 0 (by omega)
    obtain ⟨z1, z2⟩ := hz.get (by omega) 0
    have hB' : (zs[0]?.getD 0 / 16 != 4) = B := by
      rw [← hB, Bool.eq_iff_iff]; simp [h20]
    generalize zs[0]?.getD 0 = u at *
    have i2 : (0 : Int) < (n : Int) := by omega
    clear hB hc
    go_enter Tryd.func20, Tryd.ntmps20
    go_wp2_with fail
    go_ret
    exact ⟨rfl, rfl⟩

set_option maxHeartbeats 400000 in
theorem q2_any (N M : Nat) (A : Option Addr) (n c : Nat) (zs : List Int) (x : Int) (w : World) (B : Bool) (x1 : w.cell? ⟨N, 0, none⟩ = some (.slice A n c)) (x3 : w.cell? ⟨M, 0, none⟩ = some (.int .i64 x)) (x4 : w.frozen? ⟨M, 0, none⟩ = false) (hNM : N ≠ M)
    (h : RD .u8 w w.heap.size A n zs) (hz : BD 255 zs) (hn : n ≤ 140737488355328) (h20 : 20 ≤ n) (hB : qF2 zs = B) :
    Calls Tryd.prog 21 #[.pointer (some ⟨N, 0, none⟩), .pointer (some ⟨M, 0, none⟩)] w fun e w' => e = .returned (.bool B) ∧ w' = w.setCell ⟨M, 0, none⟩ (.int .i64 (qH zs)) := by
  unfold qF2 at hB
  rw [h.len] at hB
  obtain ⟨b, off, rfl, hb, hc⟩ := h.2 (by omega)
  have x2 : w.cell? ⟨b, off, none⟩ = some (.int .u8 (zs[0]?.getD 0)) := hc 0 (by omega)
  obtain ⟨z1, z2⟩ := hz.get (by omega) 0
  have hs : (qH zs : Int) = 4 * (zs[0]?.getD 0 % 16) := by unfold qH; omega
  generalize zs[0]?.getD 0 = u at *
  have e1 : bits .and .u8 u 15 = u % 16 := u8_and15 _ z1 (by omega)
  have e2 : IntKind.i64.wrap (u % 16) = u % 16 := IntWalk.i64_in _ (by omega)
  have e3 : IntKind.i64.wrap (4 * (u % 16)) = (qH zs : Int) := by rw [hs]; exact IntWalk.i64_in _ (by omega)
  have hle : qH zs ≤ 60 := by omega
  generalize qH zs = q at *
  have i1 : (0 : Int) < (n : Int) := by omega
  by_cases h1 : q < 20
  · have hB' : true = B := by rw [← hB]; simp [h1]
    subst hB'
    have t1 : decide ((q : Int) < 20) = true := by simp; omega
    clear hB hc h hs
    go_enter Tryd.func21, Tryd.ntmps21
    go_wp2_with fail
    go_ret
    exact ⟨rfl, rfl⟩
  · have t1 : decide ((q : Int) < 20) = false := by simp; omega
    have t2 : decide ((n : Int) < (q : Int) + 8) = B := by rw [← hB, Bool.eq_iff_iff]; simp [h1]; omega
    have e4 : IntKind.i64.wrap ((q : Int) + 8) = (q : Int) + 8 := IntWalk.i64_in _ (by omega)
    clear hB hc h hs
    go_enter Tryd.func21, Tryd.ntmps21
    go_wp2_with fail
    go_ret
    exact ⟨rfl, rfl⟩

set_option maxHeartbeats 1000000 in
theorem q4_any (N : Nat) (A : Option Addr) (n c : Nat) (zs : List Int) (w : World) (B : Bool) (x1 : w.cell? ⟨N, 0, none⟩ = some (.slice A n c)) (h : RD .u8 w w.heap.size A n zs) (hz : BD 255 zs) (hn : n ≤ c) (hc : n ≤ 140737488355328) (h20 : 20 ≤ n) (hB : qF4 zs = B) :
    Calls Tryd.prog 25 #[.pointer (some ⟨N, 0, none⟩)] w fun e w' => e = .returned (.bool B) ∧ ∃ m, w' = w.drewN m := by
  obtain ⟨i0, hi, hz0, hz1, hz2⟩ := info_parts infoU8
  unfold qF4 at hB
  obtain ⟨u1, u2⟩ := wordAt_bd hz 6
  have hw : wordAt (zs.drop 6) 0 = wordAt zs 6 := by unfold wordAt; rw [List.getElem?_drop, List.getElem?_drop]
  have hR := h.cutA (lo := 6) (by omega) hn
  have HB := Lib.hid ((u16_andNot _ u1 u2).trans hB)
  have s6 := fun W => run_slice_lo (P := Tryd.prog) W Tryd.underlying24 hi hz1 A n c 6 6 rfl (by omega)
  clear hB
  go_enter Tryd.func25, Tryd.ntmps25
  go_wp2_with fail
  refine (icword_any _ (n - 6) (c - 6) (zs.drop 6) _ hR (hz.drop _) (by omega)).mono ?_
  rintro e w1 ⟨rfl, m, rfl⟩
  rw [hw]
  go_wp2_with fail
  go_ret
  exact ⟨by rw [← HB.out]; rfl, _, rfl⟩

set_option maxHeartbeats 2000000 in
theorem q3_any (N M : Nat) (A : Option Addr) (n c : Nat) (zs : List Int) (q : Nat) (w : World) (B : Bool) (x1 : w.cell? ⟨N, 0, none⟩ = some (.slice A n c)) (x3 : w.cell? ⟨M, 0, none⟩ = some (.int .i64 (q : Int)))
    (h : RD .u8 w w.heap.size A n zs) (hz : BD 255 zs) (hn : n ≤ c) (hc : n ≤ 140737488355328) (hq : qH zs = q) (hq2 : q + 8 ≤ n) (h20 : 20 ≤ n) (hB : qF3 zs = B) :
    Calls Tryd.prog 22 #[.pointer (some ⟨N, 0, none⟩), .pointer (some ⟨M, 0, none⟩)] w fun e w' => e = .returned (.bool B) ∧ Below w.heap.size w w' := by
  obtain ⟨i0, hi, hz0, hz1, hz2⟩ := info_parts infoU8
  have hNl : N < w.heap.size := World.block_lt_of_cell? w _ x1
  have hMl : M < w.heap.size := World.block_lt_of_cell? w _ x3
  have hle : q ≤ 60 := by
    obtain ⟨z1, z2⟩ := hz.get (by omega) 0
    unfold qH at hq; omega
  have KS := Lib.hid (fun (W : World) (hb : Below w.heap.size w W) => (show W.cell? ⟨N, 0, none⟩ = some (.slice A n c) ∧ W.cell? ⟨M, 0, none⟩ = some (.int .i64 (q : Int)) from ⟨(hb.cell (p := ⟨N, 0, none⟩) hNl).trans x1, (hb.cell (p := ⟨M, 0, none⟩) hMl).trans x3⟩))
  have RW := Lib.hid (fun (W : World) (hb : Below w.heap.size w W) => (show RD .u8 W W.heap.size A n zs from (h.below hb).more hb.size))
  have i1 : (0 : Int) ≤ (q : Int) := by omega
  have i2 : (q : Int) ≤ (c : Int) := by omega
  have e4 : IntKind.i64.wrap ((q : Int) + 8) = (q : Int) + 8 := IntWalk.i64_in _ (by omega)
  obtain ⟨u1, u2⟩ := wordAt_bd hz 2
  have hw : wordAt (zs.drop 2) 0 = wordAt zs 2 := by unfold wordAt; rw [List.getElem?_drop, List.getElem?_drop]
  have e5 : IntKind.i64.wrap (wordAt zs 2) = wordAt zs 2 := IntWalk.i64_in _ (by omega)
  have s2 := fun W => run_slice_lo (P := Tryd.prog) W Tryd.underlying24 hi hz1 A n c 2 2 rfl (by omega)
  have HZ := Lib.hid hz
  unfold qF3 at hB
  rw [hq] at hB
  by_cases hs : sumOf (zs.take q) = 65535
  · have t1 : (sumOf (zs.take q) == 65535) = true := by simp [hs]
    have t2 : decide (wordAt zs 2 < (q : Int) + 8) = B := by rw [← hB, Bool.eq_iff_iff]; simp [hs]
    have HS := Lib.hid t1
    clear hB h hq t1 hs
    go_enter Tryd.func22, Tryd.ntmps22
    go_wp2_with fail
    go_region_held3 (fun W => W.cell? ⟨N, 0, none⟩ = some (.slice A n c) ∧ W.cell? ⟨M, 0, none⟩ = some (.int .i64 (q : Int))) (first | exact KS.out _ hbb2 | exact KS.out _ hbb1 | exact KS.out _ (Below.refl _ _).drew) (first
      | (go_at_call 24; refine (icword_any _ (n - 2) (c - 2) (zs.drop 2) _ ((RW.out _ hbb1).cutA (lo := 2) (by omega) hn) (HZ.out.drop _) (by omega)).mono ?_
         rintro e w2 ⟨rfl, m, hm⟩
         rw [hw]
         have hbb2 : Below w.heap.size w w2 := hm ▸ below_drewN hbb1 m
         clear hm)
      | (go_at_call 23; refine (right_any A q c (zs.take q) _ ((RW.out _ (Below.refl _ _).drew).take (by omega)) (HZ.out.take _) (by omega)).mono ?_
         rintro e w1 ⟨rfl, hb1⟩
         rw [HS.out]
         have hbb1 : Below w.heap.size w w1 := (Below.refl _ w).drew.trans hb1
         clear hb1))
    go_wp2_with fail
    go_ret
    exact ⟨rfl, hbb2⟩
  · have t1 : (sumOf (zs.take q) == 65535) = false := by simp [hs]
    have t2 : true = B := by rw [← hB]; simp [hs]
    subst t2
    have HS := Lib.hid t1
    clear hB h hq t1 hs
    go_enter Tryd.func22, Tryd.ntmps22
    go_wp2_with fail
    refine wp_region_noPanic ?_
    refine wp_region_held_drew (S := fun W => W.cell? ⟨N, 0, none⟩ = some (.slice A n c) ∧ W.cell? ⟨M, 0, none⟩ = some (.int .i64 (q : Int))) (by kernel_rfl) (by exact KS.out _ ((Below.refl _ _).drew)) (fun hHeld => ?_)
    refine' take_lit (i := 0) (v := _) rfl (by kernel_rfl) (by kernel_rfl) (by kernel_rfl) (fun _ _ _ h => h) (Or.inl ⟨by rfl, ?yy1⟩) (by assumption) ?rr1
    case yy1 => intro w' hSw; (try dsimp only at hSw); go_simp; try (with_reducible rfl)
    (try simp only [Act.put]); (try simp only [List.setIfInBounds_toArray, List.set_cons_zero, List.set_cons_succ])
    refine' take_lit (i := 1) (v := _) rfl (by kernel_rfl) (by kernel_rfl) (by kernel_rfl) (fun _ _ _ h => h) (Or.inl ⟨by rfl, ?yy2⟩) (by assumption) ?rr2
    case yy2 => intro w' hSw; (try dsimp only at hSw); go_simp; try (with_reducible rfl)
    (try simp only [Act.put]); (try simp only [List.setIfInBounds_toArray, List.set_cons_zero, List.set_cons_succ])
    refine' take_lit (i := 2) (v := _) rfl (by kernel_rfl) (by kernel_rfl) (by kernel_rfl) (fun _ _ _ h => h) (Or.inl ⟨by rfl, ?yy3⟩) (by assumption) ?rr3
    case yy3 => intro w' hSw; (try dsimp only at hSw); go_simp; try (with_reducible rfl)
    (try simp only [Act.put]); (try simp only [List.setIfInBounds_toArray, List.set_cons_zero, List.set_cons_succ])
    refine wpAnyH_ready (rs := [3]) (by kernel_rfl) (by simp) ?_
    refine cons_lit rfl (fun K hK => ?ss3x4) AllReadyH.nil
    case ss3x4 =>
      go_simp
      refine (right_any A q c (zs.take q) _ ((RW.out _ (Below.refl _ _).drew).take (by omega)) (HZ.out.take _) (by omega)).mono ?_
      rintro e w1 ⟨rfl, hb1⟩
      rw [HS.out]
      have hbb1 : Below w.heap.size w w1 := (Below.refl _ w).drew.trans hb1
      clear hb1
      refine hK.out _ _ (by exact KS.out _ hbb1) (fun hHeld => ?_)
      clear hK K
      (try simp only [Act.put]); (try simp only [List.setIfInBounds_toArray, List.set_cons_zero, List.set_cons_succ])
      refine' take_lit (i := 4) (v := _) rfl (by kernel_rfl) (by kernel_rfl) (by kernel_rfl) (fun _ _ _ h => h) (Or.inl ⟨by rfl, ?yy5⟩) (by assumption) ?rr5
      case yy5 => intro w' hSw; (try dsimp only at hSw); go_simp; try (with_reducible rfl)
      (try simp only [Act.put]); (try simp only [List.setIfInBounds_toArray, List.set_cons_zero, List.set_cons_succ])
      refine' take_lit (i := 5) (v := _) rfl (by kernel_rfl) (by kernel_rfl) (by kernel_rfl) (fun _ _ _ h => h) (Or.inl ⟨by rfl, ?yy6⟩) (by assumption) ?rr6
      case yy6 => intro w' hSw; (try dsimp only at hSw); go_simp; try (with_reducible rfl)
      (try simp only [Act.put]); (try simp only [List.setIfInBounds_toArray, List.set_cons_zero, List.set_cons_succ])
      refine' take_lit (i := 6) (v := undef) rfl (by kernel_rfl) (by kernel_rfl) (by kernel_rfl) (fun _ _ _ h => h) (Or.inr ⟨by rfl, rfl⟩) (by assumption) ?rr7
      (try simp only [Act.put]); (try simp only [List.setIfInBounds_toArray, List.set_cons_zero, List.set_cons_succ])
      refine' take_lit (i := 7) (v := undef) rfl (by kernel_rfl) (by kernel_rfl) (by kernel_rfl) (fun _ _ _ h => h) (Or.inr ⟨by rfl, rfl⟩) (by assumption) ?rr8
      (try simp only [Act.put]); (try simp only [List.setIfInBounds_toArray, List.set_cons_zero, List.set_cons_succ])
      refine' take_lit (i := 10) (v := undef) rfl (by kernel_rfl) (by kernel_rfl) (by kernel_rfl) (fun _ _ _ h => h) (Or.inr ⟨by rfl, rfl⟩) (by assumption) ?rr9
      (try simp only [Act.put]); (try simp only [List.setIfInBounds_toArray, List.set_cons_zero, List.set_cons_succ])
      refine' take_lit (i := 11) (v := undef) rfl (by kernel_rfl) (by kernel_rfl) (by kernel_rfl) (fun _ _ _ h => h) (Or.inr ⟨by rfl, rfl⟩) (by assumption) ?rr10
      (try simp only [Act.put]); (try simp only [List.setIfInBounds_toArray, List.set_cons_zero, List.set_cons_succ])
      refine wpAnyH_ready (rs := [8]) (by kernel_rfl) (by simp) ?_
      refine cons_lit rfl (fun K hK => ?ss8x11) AllReadyH.nil
      case ss8x11 =>
        refine if_off (by rfl) ?_
        refine hK.out _ _ (by exact KS.out _ hbb1) (fun hHeld => ?_)
        clear hK K
        (try simp only [Act.put]); (try simp only [List.setIfInBounds_toArray, List.set_cons_zero, List.set_cons_succ])
        refine' take_lit (i := 9) (v := undef) rfl (by kernel_rfl) (by kernel_rfl) (by kernel_rfl) (fun _ _ _ h => h) (Or.inr ⟨by rfl, rfl⟩) (by assumption) ?rr12
        (try simp only [Act.put]); (try simp only [List.setIfInBounds_toArray, List.set_cons_zero, List.set_cons_succ])
        refine' take_lit (i := 12) (v := undef) rfl (by kernel_rfl) (by kernel_rfl) (by kernel_rfl) (fun _ _ _ h => h) (Or.inr ⟨by rfl, rfl⟩) (by assumption) ?rr13
        (try simp only [Act.put]); (try simp only [List.setIfInBounds_toArray, List.set_cons_zero, List.set_cons_succ])
        refine' take_lit (i := 13) (v := _) rfl (by kernel_rfl) (by kernel_rfl) (by kernel_rfl) (fun _ _ _ h => h) (Or.inl ⟨by rfl, ?yy14⟩) (by assumption) ?rr14
        case yy14 => intro w' hSw; (try dsimp only at hSw); go_simp; try (with_reducible rfl)
        (try simp only [Act.put]); (try simp only [List.setIfInBounds_toArray, List.set_cons_zero, List.set_cons_succ])
        refine' take_lit (i := 14) (v := _) rfl (by kernel_rfl) (by kernel_rfl) (by kernel_rfl) (fun _ _ _ h => h) (Or.inl ⟨by rfl, ?yy15⟩) (by assumption) ?rr15
        case yy15 => intro w' hSw; (try dsimp only at hSw); go_simp; try (with_reducible rfl)
        (try simp only [Act.put]); (try simp only [List.setIfInBounds_toArray, List.set_cons_zero, List.set_cons_succ])
        refine wpAnyH_done (by kernel_rfl) ?_ _
        refine NoPanic.normal ?_
        go_wp2_with fail
        go_ret
        exact ⟨rfl, hbb1⟩
end Go.Proofs.YtdepibljeopcgaaDoor
