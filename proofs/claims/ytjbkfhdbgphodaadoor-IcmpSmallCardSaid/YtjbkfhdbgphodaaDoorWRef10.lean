/- The reference of chapter 10: types, messages, answers. (Printed by gen_ref10.py.) -/
import Derived.Test.YtjbkfhdbgphodaaDoorWIc6
import Derived.Test.YtjbkfhdbgphodaaDoorWBase
import Derived.Test.YtjbkfhdbgphodaaDoorWTells2
import Derived.Test.YtjbkfhdbgphodaaDoorBase
namespace Go.Proofs.YtjbkfhdbgphodaaDoor
open Go.RowKit
set_option linter.unusedVariables false
attribute [local go_sem ↓] Go.wp_at_zero Go.wp_at_succ

theorem r10codes_any (t : Nat) (w : World) :
    Calls Tryd.prog 60 #[.int .u8 (t : Int)] w fun e w' => e = .returned (.tuple #[.int .u8 (sCode t), .int .u8 (sKind t)]) ∧ w = w' := by
  by_cases h19 : t < 19
  · rcases (show t = 0 ∨ t = 1 ∨ t = 2 ∨ t = 3 ∨ t = 4 ∨ t = 5 ∨ t = 6 ∨ t = 7 ∨ t = 8 ∨ t = 9 ∨ t = 10 ∨ t = 11 ∨ t = 12 ∨ t = 13 ∨ t = 14 ∨ t = 15 ∨ t = 16 ∨ t = 17 ∨ t = 18 by omega) with rfl | rfl | rfl | rfl | rfl | rfl | rfl | rfl | rfl | rfl | rfl | rfl | rfl | rfl | rfl | rfl | rfl | rfl | rfl
    · show Calls _ _ #[.int .u8 0] w _
      go_enter Tryd.func60, Tryd.ntmps60
      go_wp2_with fail
      go_ret2
      exact ⟨rfl, rfl⟩
    · show Calls _ _ #[.int .u8 1] w _
      go_enter Tryd.func60, Tryd.ntmps60
      go_wp2_with fail
      go_ret2
      exact ⟨rfl, rfl⟩
    · show Calls _ _ #[.int .u8 2] w _
      go_enter Tryd.func60, Tryd.ntmps60
      go_wp2_with fail
      go_ret2
      exact ⟨rfl, rfl⟩
    · show Calls _ _ #[.int .u8 3] w _
      go_enter Tryd.func60, Tryd.ntmps60
      go_wp2_with fail
      go_ret2
      exact ⟨rfl, rfl⟩
    · show Calls _ _ #[.int .u8 4] w _
      go_enter Tryd.func60, Tryd.ntmps60
      go_wp2_with fail
      go_ret2
      exact ⟨rfl, rfl⟩
    · show Calls _ _ #[.int .u8 5] w _
      go_enter Tryd.func60, Tryd.ntmps60
      go_wp2_with fail
      go_ret2
      exact ⟨rfl, rfl⟩
    · show Calls _ _ #[.int .u8 6] w _
      go_enter Tryd.func60, Tryd.ntmps60
      go_wp2_with fail
      go_ret2
      exact ⟨rfl, rfl⟩
    · show Calls _ _ #[.int .u8 7] w _
      go_enter Tryd.func60, Tryd.ntmps60
      go_wp2_with fail
      go_ret2
      exact ⟨rfl, rfl⟩
    · show Calls _ _ #[.int .u8 8] w _
      go_enter Tryd.func60, Tryd.ntmps60
      go_wp2_with fail
      go_ret2
      exact ⟨rfl, rfl⟩
    · show Calls _ _ #[.int .u8 9] w _
      go_enter Tryd.func60, Tryd.ntmps60
      go_wp2_with fail
      go_ret2
      exact ⟨rfl, rfl⟩
    · show Calls _ _ #[.int .u8 10] w _
      go_enter Tryd.func60, Tryd.ntmps60
      go_wp2_with fail
      go_ret2
      exact ⟨rfl, rfl⟩
    · show Calls _ _ #[.int .u8 11] w _
      go_enter Tryd.func60, Tryd.ntmps60
      go_wp2_with fail
      go_ret2
      exact ⟨rfl, rfl⟩
    · show Calls _ _ #[.int .u8 12] w _
      go_enter Tryd.func60, Tryd.ntmps60
      go_wp2_with fail
      go_ret2
      exact ⟨rfl, rfl⟩
    · show Calls _ _ #[.int .u8 13] w _
      go_enter Tryd.func60, Tryd.ntmps60
      go_wp2_with fail
      go_ret2
      exact ⟨rfl, rfl⟩
    · show Calls _ _ #[.int .u8 14] w _
      go_enter Tryd.func60, Tryd.ntmps60
      go_wp2_with fail
      go_ret2
      exact ⟨rfl, rfl⟩
    · show Calls _ _ #[.int .u8 15] w _
      go_enter Tryd.func60, Tryd.ntmps60
      go_wp2_with fail
      go_ret2
      exact ⟨rfl, rfl⟩
    · show Calls _ _ #[.int .u8 16] w _
      go_enter Tryd.func60, Tryd.ntmps60
      go_wp2_with fail
      go_ret2
      exact ⟨rfl, rfl⟩
    · show Calls _ _ #[.int .u8 17] w _
      go_enter Tryd.func60, Tryd.ntmps60
      go_wp2_with fail
      go_ret2
      exact ⟨rfl, rfl⟩
    · show Calls _ _ #[.int .u8 18] w _
      go_enter Tryd.func60, Tryd.ntmps60
      go_wp2_with fail
      go_ret2
      exact ⟨rfl, rfl⟩
  · have z1 : sKind t = 0 := sKind_big (by omega)
    have z2 : sCode t = 0 := by unfold sCode; rw [List.getElem?_eq_none (by rw [SORTZ_len]; omega)]; rfl
    rw [z1, z2]
    have n8 : ((t : Int) == 8) = false := by simp; omega
    have n13 : ((t : Int) == 13) = false := by simp; omega
    have n17 : ((t : Int) == 17) = false := by simp; omega
    have n0 : ((t : Int) == 0) = false := by simp; omega
    have n14 : ((t : Int) == 14) = false := by simp; omega
    have n18 : ((t : Int) == 18) = false := by simp; omega
    have n3 : ((t : Int) == 3) = false := by simp; omega
    have n4 : ((t : Int) == 4) = false := by simp; omega
    have n5 : ((t : Int) == 5) = false := by simp; omega
    have n11 : ((t : Int) == 11) = false := by simp; omega
    have n12 : ((t : Int) == 12) = false := by simp; omega
    clear z1 z2
    go_enter Tryd.func60, Tryd.ntmps60
    go_wp2_with fail
    go_ret2
    exact ⟨rfl, rfl⟩

set_option maxHeartbeats 1000000 in
theorem r10Kind_any (t : Nat) (c : Int) (w : World) (hc : 0 ≤ c ∧ c ≤ 255) :
    Calls Tryd.prog 30 #[.int .u8 (t : Int), .int .u8 c] w fun e w' => e = .returned (.tuple #[.int .u8 (kK t c), .int .i64 (kE t c)]) ∧ w = w' := by
  obtain ⟨c0, c1⟩ := hc
  by_cases hk0 : sKind t = 0
  · have hk : kE t c = 101 := by unfold kE; rw [if_pos hk0]
    have hkk : kK t c = 0 := by unfold kK; rw [if_neg (by rw [hk]; decide)]
    have HK := Lib.hid (And.intro hk hkk)
    have t0 : (sKind t == 0) = true := by simp [hk0]
    clear hk hkk hk0
    go_enter Tryd.func30, Tryd.ntmps30
    go_wp2_with fail
    refine (r10codes_any t _).mono ?_
    rintro e w2 ⟨rfl, rfl⟩
    go_wp2_with fail
    go_ret2
    exact ⟨by rw [HK.out.1, HK.out.2]; rfl, rfl⟩
  · have t0 : (sKind t == 0) = false := by simp [hk0]
    by_cases hc2 : sCode t < c
    · have hk : kE t c = 102 := by unfold kE; rw [if_neg hk0, if_pos hc2]
      have hkk : kK t c = 0 := by unfold kK; rw [if_neg (by rw [hk]; decide)]
      have HK := Lib.hid (And.intro hk hkk)
      clear hk hkk hk0
      go_enter Tryd.func30, Tryd.ntmps30
      go_wp2_with fail
      refine (r10codes_any t _).mono ?_
      rintro e w2 ⟨rfl, rfl⟩
      go_wp2_with fail
      go_ret2
      exact ⟨by rw [HK.out.1, HK.out.2]; rfl, rfl⟩
    · have hk : kE t c = 0 := by unfold kE; rw [if_neg hk0, if_neg hc2]
      have hkk : kK t c = sKind t := by unfold kK; rw [if_pos hk]
      have HK := Lib.hid (And.intro hk hkk)
      clear hk hkk hk0
      go_enter Tryd.func30, Tryd.ntmps30
      go_wp2_with fail
      refine (r10codes_any t _).mono ?_
      rintro e w2 ⟨rfl, rfl⟩
      go_wp2_with fail
      go_ret2
      exact ⟨by rw [HK.out.1, HK.out.2]; rfl, rfl⟩

set_option maxHeartbeats 1000000 in
set_option maxRecDepth 100000 in
theorem r10at_any (A : Option Addr) (n c : Nat) (zs : List Int) (q : Int) (p : Nat) (w : World) (h : RD .u8 w w.heap.size A n zs) (hz : BD 255 zs) (hn : n ≤ 140737488355328) (hq : q = p) (hp : p + 2 ≤ n) :
    Calls Tryd.prog 61 #[.slice A n c, .int .i64 q] w fun e w' => e = .returned (.int .i64 (wordAt zs p)) ∧ ∃ m, w' = w.drewN m := by
  subst hq
  obtain ⟨b, off, rfl, hb, hc⟩ := h.2 (by omega)
  have x1 := hc p (by omega)
  have x2 := hc (p + 1) (by omega)
  obtain ⟨z1, z1'⟩ := hz.get (by omega) p
  obtain ⟨z2, z2'⟩ := hz.get (by omega) (p + 1)
  have hw : wordAt zs p = zs[p]?.getD 0 * 256 + zs[p + 1]?.getD 0 := rfl
  rw [hw]
  generalize zs[p]?.getD 0 = u at *
  generalize zs[p + 1]?.getD 0 = v at *
  clear hc hw
  have i1 : (0 : Int) ≤ (p : Int) := by omega
  have i2 : (p : Int) < (n : Int) := by omega
  have i3 : (0 : Int) ≤ (p : Int) + 1 := by omega
  have i4 : (p : Int) + 1 < (n : Int) := by omega
  have e1 : IntKind.i64.wrap ((p : Int) + 1) = (p : Int) + 1 := IntWalk.i64_in _ (by omega)
  have e1' : ((p : Int) + 1).toNat = p + 1 := by omega
  have e2 : IntKind.i64.wrap (u * 256) = u * 256 := IntWalk.i64_in _ (by omega)
  have e3 : IntKind.i64.wrap u = u := IntWalk.i64_in _ (by omega)
  have e4 : IntKind.i64.wrap v = v := IntWalk.i64_in _ (by omega)
  have e5 : IntKind.i64.wrap (u * 256 + v) = u * 256 + v := IntWalk.i64_in _ (by omega)
  go_enter Tryd.func61, Tryd.ntmps61
  go_wp2_with fail
  go_quiet (fail)
  go_wp2_with fail
  go_ret
  exact ⟨rfl, _, rfl⟩

set_option maxHeartbeats 400000 in
theorem r10Verify_any (A : Option Addr) (n c : Nat) (zs : List Int) (w : World) (h : RD .u8 w w.heap.size A n zs) (hz : BD 255 zs) (hn : n ≤ 140737488355328) :
    Calls Tryd.prog 33 #[.slice A n c] w fun e w' => e = .returned (.bool (icV zs)) ∧ w = w' := by
  have hl := h.len
  by_cases h8 : 8 ≤ n
  · have i8 : (8 : Int) ≤ (n : Int) := by omega
    have HV := Lib.hid (show icV zs = (sumOf zs == 65535) by unfold icV; rw [hl, decide_eq_true h8]; simp)
    clear hl
    go_enter Tryd.func33, Tryd.ntmps33
    go_wp2_with fail
    refine (rSum_any A n c zs w h hz hn).mono ?_
    rintro e w' ⟨rfl, rfl⟩
    go_wp2_with fail
    go_ret
    exact ⟨by rw [HV.out]; rfl, rfl⟩
  · have i8 : ¬ (8 : Int) ≤ (n : Int) := by omega
    have HV := Lib.hid (show icV zs = false by unfold icV; rw [hl, decide_eq_false h8]; rfl)
    clear hl
    go_enter Tryd.func33, Tryd.ntmps33
    go_wp2_with fail
    go_ret
    exact ⟨by rw [HV.out]; rfl, rfl⟩

set_option maxHeartbeats 2000000 in
set_option maxRecDepth 100000 in
theorem r10Read_any (A : Option Addr) (n c : Nat) (zs : List Int) (w : World) (h : RD .u8 w w.heap.size A n zs) (hz : BD 255 zs) (hn : n ≤ c) (hc : n ≤ 140737488351232) :
    Calls Tryd.prog 31 #[.slice A n c] w fun e w' => e = .returned (.tuple #[.agg (icM zs), .int .i64 (icE zs)]) ∧ Below w.heap.size w w' := by
  have HL := Lib.hid h.len
  have R := Lib.hid h
  have S := Lib.hid ((SP.start w).alloc 65 msg0)
  clear h
  by_cases h8 : n < 8
  · have i8 : (n : Int) < 8 := by omega
    have HE := Lib.hid (show icE zs = 100 by unfold icE; rw [if_pos (by rw [HL.out]; exact h8)])
    have HM := Lib.hid (show icM zs = msg0 by unfold icM; rw [if_neg (by rw [HE.out]; decide)]; rfl)
    have T := Lib.hid (S.out.setR 0 rfl msg0)
    go_enter Tryd.func31, Tryd.ntmps31
    go_upto_region 1 with fail
    rw [show w.alloc (.cells #[.int .u8 0, .int .u8 0, .int .u16 0, .int .u16 0] 65) = w.alloc (.cells msg0 65) from rfl]
    generalize hw1 : w.alloc (.cells msg0 65) = w1 at S T ⊢
    clear hw1
    go_wp2_with (refine wpList_store_row rfl 65 _ _ rfl w.heap.size msg0 rfl rfl 65 msg0 (S.out.blk 0 rfl) (by kernel_rfl) rfl (msg4_one 0 0 0 0) ?_)
    refine bodyPost_ret (results_cell_tmp1' rfl _ _ w.heap.size 65 msg0 _ _ rfl (T.out.blk 0 rfl) Tryd.underlying65 rfl (by kernel_rfl)) rfl ⟨?_, T.out.bel⟩
    rw [HE.out, HM.out]; rfl
  · have i8 : ¬ (n : Int) < 8 := by omega
    obtain ⟨b, off, rfl, hb, hcell⟩ := R.out.2 (by omega)
    obtain ⟨a0, a1⟩ := hz.get (by omega) 0
    obtain ⟨b0, b1⟩ := hz.get (by omega) 1
    obtain ⟨t, ht⟩ : ∃ t : Nat, zs[0]?.getD 0 = (t : Int) := ⟨(zs[0]?.getD 0).toNat, by omega⟩
    obtain ⟨cc, hcc⟩ : ∃ cc : Int, zs[1]?.getD 0 = cc := ⟨_, rfl⟩
    have HIE := Lib.hid (show icE zs = kE t cc by unfold icE; rw [if_neg (by rw [HL.out]; exact h8), ht, hcc]; rfl)
    rw [ht] at a0 a1
    rw [hcc] at b0 b1
    have ht255 : t ≤ 255 := by omega
    have HX := Lib.hid (fun (W : World) (hb' : Below w.heap.size w W) => (show W.cell? ⟨b, off, none⟩ = some (.int .u8 (t : Int)) ∧ W.cell? ⟨b, off + 1, none⟩ = some (.int .u8 cc) from
      ⟨(hb'.cell (p := ⟨b, off, none⟩) hb).trans (by have := hcell 0 (by omega); rw [ht] at this; exact this), (hb'.cell (p := ⟨b, off + 1, none⟩) hb).trans (by have := hcell 1 (by omega); rw [hcc] at this; exact this)⟩))
    have HT := Lib.hid (And.intro ht hcc)
    have RW := Lib.hid (fun (W : World) (hb' : Below w.heap.size w W) => (show RD .u8 W W.heap.size (some ⟨b, off, none⟩) n zs from (R.out.below hb').more hb'.size))
    clear ht hcc hcell R
    have i0' : (0 : Int) < (n : Int) := by omega
    have i1' : (1 : Int) < (n : Int) := by omega
    have j0' : 0 < n := by omega
    go_enter Tryd.func31, Tryd.ntmps31
    go_upto_region 1 with fail
    rw [show w.alloc (.cells #[.int .u8 0, .int .u8 0, .int .u16 0, .int .u16 0] 65) = w.alloc (.cells msg0 65) from rfl]
    generalize hw1 : w.alloc (.cells msg0 65) = w1 at S ⊢
    clear hw1
    have KK := Lib.hid (fun (W : World) (hb' : Below w.heap.size w1 W) => (show Below w.heap.size w1 W ∧ W.cell? ⟨b, off, none⟩ = some (.int .u8 (t : Int)) ∧ W.cell? ⟨b, off + 1, none⟩ = some (.int .u8 cc) from ⟨hb', HX.out W (S.out.bel.trans hb')⟩))
    obtain ⟨x0, x1⟩ := HX.out w1 S.out.bel
    go_upto_region 3 with fail
    clear x0 x1
    go_region_held3 (fun W => Below w.heap.size w1 W ∧ W.cell? ⟨b, off, none⟩ = some (.int .u8 (t : Int)) ∧ W.cell? ⟨b, off + 1, none⟩ = some (.int .u8 cc)) ((with_reducible refine KK.out _ ?_; (repeat' (first | (with_reducible exact Below.refl _ _) | (with_reducible refine Below.drew ?_)))))
      ((go_at_call 30; refine (r10Kind_any t cc _ ⟨b0, b1⟩).mono ?_; rintro e w2 ⟨rfl, rfl⟩))
    have S2 := Lib.hid S.out.drew
    by_cases hk : kE t cc = 0
    · have HM := Lib.hid (show icM zs = (msg4 (t : Int) cc (wordAt zs 4) (wordAt zs 6)) by unfold icM; rw [if_pos (by rw [HIE.out]; exact hk), HT.out.1, HT.out.2]; rfl)
      have HK0 := Lib.hid hk
      obtain ⟨u4, v4⟩ := wordAt_bd hz 4
      obtain ⟨u6, v6⟩ := wordAt_bd hz 6
      have e4 : IntKind.u16.wrap (wordAt zs 4) = wordAt zs 4 := u16_in _ u4 v4
      have e6 : IntKind.u16.wrap (wordAt zs 6) = wordAt zs 6 := u16_in _ u6 v6
      rw [hk]
      clear hk
      go_upto_region 6 with fail
      have X0 := Lib.hid S2.out.drew
      refine wp_region_noPanic ?_
      refine wp_region_held_drew (S := fun W => W.cell? ⟨b, off, none⟩ = some (.int .u8 (t : Int)) ∧ W.cell? ⟨b, off + 1, none⟩ = some (.int .u8 cc)) (by kernel_rfl) (by exact HX.out _ X0.out.bel) (fun hHeld => ?_)
      refine' take_lit (i := 0) (v := _) rfl (by kernel_rfl) (by kernel_rfl) (by kernel_rfl) (fun _ _ _ h => h) (Or.inl ⟨by rfl, ?yy1⟩) (by assumption) ?rr1
      case yy1 => intro w' hSw; (try dsimp only at hSw); go_simp; try (with_reducible rfl)
      (try simp only [Act.put]); (try simp only [List.setIfInBounds_toArray, List.set_cons_zero, List.set_cons_succ])
      refine' take_lit (i := 1) (v := _) rfl (by kernel_rfl) (by kernel_rfl) (by kernel_rfl) (fun _ _ _ h => h) (Or.inl ⟨by rfl, ?yy2⟩) (by assumption) ?rr2
      case yy2 => intro w' hSw; (try dsimp only at hSw); go_simp; try (with_reducible rfl)
      (try simp only [Act.put]); (try simp only [List.setIfInBounds_toArray, List.set_cons_zero, List.set_cons_succ])
      refine' take_lit (i := 2) (v := _) rfl (by kernel_rfl) (by kernel_rfl) (by kernel_rfl) (fun _ _ _ h => h) (Or.inl ⟨by rfl, ?yy3⟩) (by assumption) ?rr3
      case yy3 => intro w' hSw; (try dsimp only at hSw); go_simp; try (with_reducible rfl)
      (try simp only [Act.put]); (try simp only [List.setIfInBounds_toArray, List.set_cons_zero, List.set_cons_succ])
      refine' take_lit (i := 3) (v := _) rfl (by kernel_rfl) (by kernel_rfl) (by kernel_rfl) (fun _ _ _ h => h) (Or.inl ⟨by rfl, ?yy4⟩) (by assumption) ?rr4
      case yy4 => intro w' hSw; (try dsimp only at hSw); go_simp; try (with_reducible rfl)
      (try simp only [Act.put]); (try simp only [List.setIfInBounds_toArray, List.set_cons_zero, List.set_cons_succ])
      refine' take_lit (i := 4) (v := _) rfl (by kernel_rfl) (by kernel_rfl) (by kernel_rfl) (fun _ _ _ h => h) (Or.inl ⟨by rfl, ?yy5⟩) (by assumption) ?rr5
      case yy5 => intro w' hSw; (try dsimp only at hSw); go_simp; try (with_reducible rfl)
      (try simp only [Act.put]); (try simp only [List.setIfInBounds_toArray, List.set_cons_zero, List.set_cons_succ])
      refine' take_lit (i := 5) (v := _) rfl (by kernel_rfl) (by kernel_rfl) (by kernel_rfl) (fun _ _ _ h => h) (Or.inl ⟨by rfl, ?yy6⟩) (by assumption) ?rr6
      case yy6 => intro w' hSw; (try dsimp only at hSw); go_simp; try (with_reducible rfl)
      (try simp only [Act.put]); (try simp only [List.setIfInBounds_toArray, List.set_cons_zero, List.set_cons_succ])
      refine' take_lit (i := 6) (v := _) rfl (by kernel_rfl) (by kernel_rfl) (by kernel_rfl) (fun _ _ _ h => h) (Or.inl ⟨by rfl, ?yy7⟩) (by assumption) ?rr7
      case yy7 => intro w' hSw; (try dsimp only at hSw); go_simp; try (with_reducible rfl)
      (try simp only [Act.put]); (try simp only [List.setIfInBounds_toArray, List.set_cons_zero, List.set_cons_succ])
      refine' take_lit (i := 9) (v := _) rfl (by kernel_rfl) (by kernel_rfl) (by kernel_rfl) (fun _ _ _ h => h) (Or.inl ⟨by rfl, ?yy8⟩) (by assumption) ?rr8
      case yy8 => intro w' hSw; (try dsimp only at hSw); go_simp; try (with_reducible rfl)
      (try simp only [Act.put]); (try simp only [List.setIfInBounds_toArray, List.set_cons_zero, List.set_cons_succ])
      refine wpAnyH_ready (rs := [7]) (by kernel_rfl) (by simp) ?_
      refine cons_lit rfl (fun K hK => ?ss7x9) AllReadyH.nil
      case ss7x9 =>
        go_simp
        refine (r10at_any (some ⟨b, off, none⟩) n c zs 4 4 _ (RW.out _ X0.out.bel) hz (by omega) rfl (by omega)).mono ?_
        rintro e v4 ⟨rfl, m4, h4⟩
        have X1 := Lib.hid (h4 ▸ X0.out.drewN m4)
        clear h4
        refine hK.out _ _ (by exact HX.out _ X1.out.bel) (fun hHeld => ?_)
        clear hK K
        (try simp only [Act.put]); (try simp only [List.setIfInBounds_toArray, List.set_cons_zero, List.set_cons_succ])
        refine' take_lit (i := 8) (v := _) rfl (by kernel_rfl) (by kernel_rfl) (by kernel_rfl) (fun _ _ _ h => h) (Or.inl ⟨by rfl, ?yy10⟩) (by assumption) ?rr10
        case yy10 => intro w' hSw; (try dsimp only at hSw); go_simp; try (with_reducible rfl)
        (try simp only [Act.put]); (try simp only [List.setIfInBounds_toArray, List.set_cons_zero, List.set_cons_succ])
        refine wpAnyH_ready (rs := [10]) (by kernel_rfl) (by simp) ?_
        refine cons_lit rfl (fun K hK => ?ss10x11) AllReadyH.nil
        case ss10x11 =>
          go_simp
          refine (r10at_any (some ⟨b, off, none⟩) n c zs 6 6 _ (RW.out _ X1.out.bel) hz (by omega) rfl (by omega)).mono ?_
          rintro e v6 ⟨rfl, m6, h6⟩
          have X2 := Lib.hid (h6 ▸ X1.out.drewN m6)
          clear h6
          refine hK.out _ _ (by exact HX.out _ X2.out.bel) (fun hHeld => ?_)
          clear hK K
          (try simp only [Act.put]); (try simp only [List.setIfInBounds_toArray, List.set_cons_zero, List.set_cons_succ])
          refine' take_lit (i := 11) (v := _) rfl (by kernel_rfl) (by kernel_rfl) (by kernel_rfl) (fun _ _ _ h => h) (Or.inl ⟨by rfl, ?yy12⟩) (by assumption) ?rr12
          case yy12 => intro w' hSw; (try dsimp only at hSw); go_simp; try (with_reducible rfl)
          (try simp only [Act.put]); (try simp only [List.setIfInBounds_toArray, List.set_cons_zero, List.set_cons_succ])
          refine' take_lit (i := 12) (v := _) rfl (by kernel_rfl) (by kernel_rfl) (by kernel_rfl) (fun _ _ _ h => h) (Or.inl ⟨by rfl, ?yy13⟩) (by assumption) ?rr13
          case yy13 => intro w' hSw; (try dsimp only at hSw); go_simp; try (with_reducible rfl)
          (try simp only [Act.put]); (try simp only [List.setIfInBounds_toArray, List.set_cons_zero, List.set_cons_succ])
          refine wpAnyH_ready (rs := [13]) (by kernel_rfl) (by simp) ?_
          refine cons_lit rfl (fun K hK => ?ss13x14) AllReadyH.nil
          case ss13x14 =>
            refine step_store_row (by rfl) 65 _ _ (by rfl) w.heap.size (msg4 (t : Int) cc (wordAt zs 4) (wordAt zs 6)) (by rfl) (by rfl) 65 msg0 (X2.out.blk 0 rfl) (by kernel_rfl) rfl (msg4_one _ _ _ _) ?_
            have X3 := Lib.hid (X2.out.setR 0 rfl (msg4 (t : Int) cc (wordAt zs 4) (wordAt zs 6)))
            refine hK.out _ _ (by exact HX.out _ X3.out.bel) (fun hHeld => ?_)
            clear hK K
            (try simp only [Act.put]); (try simp only [List.setIfInBounds_toArray, List.set_cons_zero, List.set_cons_succ])
            refine' take_lit (i := 14) (v := _) rfl (by kernel_rfl) (by kernel_rfl) (by kernel_rfl) (fun _ _ _ h => h) (Or.inl ⟨by rfl, ?yy15⟩) (by assumption) ?rr15
            case yy15 => intro w' hSw; (try dsimp only at hSw); go_simp; try (with_reducible rfl)
            (try simp only [Act.put]); (try simp only [List.setIfInBounds_toArray, List.set_cons_zero, List.set_cons_succ])
            refine wpAnyH_done (by kernel_rfl) ?_ _
            refine NoPanic.normal ?_
            go_wp2_with fail
            refine bodyPost_ret (results_cell_tmp1' rfl _ _ w.heap.size 65 (msg4 (t : Int) cc (wordAt zs 4) (wordAt zs 6)) _ _ rfl (X3.out.blk 0 rfl) Tryd.underlying65 rfl (by kernel_rfl)) rfl ⟨?_, X3.out.bel⟩
            rw [HIE.out, HM.out, HK0.out]; rfl
    · have hk' : (kE t cc != 0) = true := by simp [hk]
      have HM := Lib.hid (show icM zs = msg0 by unfold icM; rw [if_neg (by rw [HIE.out]; exact hk)]; rfl)
      have T := Lib.hid (S2.out.setR 0 rfl msg0)
      clear hk
      go_wp2_with (refine wpList_store_row rfl 65 _ _ rfl w.heap.size msg0 rfl rfl 65 msg0 (S2.out.blk 0 rfl) (by kernel_rfl) rfl (msg4_one 0 0 0 0) ?_)
      refine bodyPost_ret (results_cell_tmp1' rfl _ _ w.heap.size 65 msg0 _ _ rfl (T.out.blk 0 rfl) Tryd.underlying65 rfl (by kernel_rfl)) rfl ⟨?_, T.out.bel⟩
      rw [HIE.out, HM.out]; rfl

set_option maxHeartbeats 2000000 in
set_option maxRecDepth 100000 in
theorem r10Write_any (t : Nat) (c id seq : Int) (Ad : Option Addr) (dn dc : Nat) (data : List Int) (w : World) (ht : t ≤ 255) (hc : 0 ≤ c ∧ c ≤ 255) (hid : 0 ≤ id ∧ id ≤ 65535) (hseq : 0 ≤ seq ∧ seq ≤ 65535)
    (rd : RD .u8 w w.heap.size Ad dn data) (bd : BD 255 data) (hdn : dn ≤ 140737488351232) :
    Calls Tryd.prog 36 #[.agg (msg4 (t : Int) c id seq), .slice Ad dn dc] w (Gives w (icWB t c id seq data) (icWE t c dn)) := by
  obtain ⟨i0, hi, hz0, hz1, hz2⟩ := info_parts infoU8
  have HLD := Lib.hid rd.len
  have R := Lib.hid rd
  have S := (SP.start w).alloc 65 (msg4 (t : Int) c id seq)
  have hcc := hc
  obtain ⟨c0, c1⟩ := hc
  obtain ⟨d0, d1⟩ := hid
  obtain ⟨q0, q1⟩ := hseq
  have HBD := Lib.hid (icHead_bd (t := (t : Int)) ⟨by omega, by omega⟩ ⟨c0, c1⟩ ⟨d0, d1⟩ ⟨q0, q1⟩)
  clear rd
  go_enter Tryd.func36, Tryd.ntmps36
  unfold msg4
  go_upto_region 1 with fail
  rw [show w.alloc (.cells #[.int .u8 (t : Int), .int .u8 c, .int .u16 id, .int .u16 seq] 65) = w.alloc (.cells (msg4 (t : Int) c id seq) 65) from rfl]
  generalize hW1 : w.alloc (.cells (msg4 (t : Int) c id seq) 65) = W1 at S ⊢
  clear hW1
  have f0 : W1.cell? ⟨w.heap.size, 0, none⟩ = some (.int .u8 (t : Int)) := S.cell 0 rfl 0 rfl
  have f1 : W1.cell? ⟨w.heap.size, 1, none⟩ = some (.int .u8 c) := S.cell 0 rfl 1 rfl
  have f2 : W1.cell? ⟨w.heap.size, 2, none⟩ = some (.int .u16 id) := S.cell 0 rfl 2 rfl
  have f3 : W1.cell? ⟨w.heap.size, 3, none⟩ = some (.int .u16 seq) := S.cell 0 rfl 3 rfl
  have HS := Lib.hid S
  clear S
  go_wp2_with fail
  refine (r10Kind_any t c _ hcc).mono ?_
  rintro e w2 ⟨rfl, rfl⟩
  by_cases hk : kE t c = 0
  · have HK := Lib.hid hk
    rw [hk]
    clear hk
    by_cases hL : 65507 < dn
    · have HE := Lib.hid (show icWE t c dn = 3 by unfold icWE; rw [if_pos HK.out, if_pos hL])
      have HB := Lib.hid (show icWB t c id seq data = [] by unfold icWB; rw [HLD.out, if_neg (by rw [HE.out]; decide)])
      have i1 : (65507 : Int) < (dn : Int) := by omega
      go_wp2_with fail
      go_ret2
      exact ⟨none, 0, 0, by rw [HE.out]; rfl, by rw [HB.out]; exact OWN.nil, HS.out.bel⟩
    · have HE := Lib.hid (show icWE t c dn = 0 by unfold icWE; rw [if_pos HK.out, if_neg hL])
      have HB := Lib.hid (show icWB t c id seq data = fixOf (icHead t c id seq ++ data) 2 by unfold icWB; rw [HLD.out, if_pos HE.out])
      have i1 : ¬ (65507 : Int) < (dn : Int) := by omega
      have k1 : id.tdiv 256 = id / 256 := Int.tdiv_eq_ediv_of_nonneg d0
      have k2 : IntKind.u16.wrap (id / 256) = id / 256 := u16_in _ (by omega) (by omega)
      have k3 : id / 256 % 256 = id / 256 := by omega
      have k4 : seq.tdiv 256 = seq / 256 := Int.tdiv_eq_ediv_of_nonneg q0
      have k5 : IntKind.u16.wrap (seq / 256) = seq / 256 := u16_in _ (by omega) (by omega)
      have k6 : seq / 256 % 256 = seq / 256 := by omega
      have g1 : IntKind.u8.wrap (id / 256) = id / 256 := u8_in _ (by omega) (by omega)
      have g2 : IntKind.u8.wrap (id % 256) = id % 256 := u8_in _ (by omega) (by omega)
      have g3 : IntKind.u8.wrap (seq / 256) = seq / 256 := u8_in _ (by omega) (by omega)
      have g4 : IntKind.u8.wrap (seq % 256) = seq % 256 := u8_in _ (by omega) (by omega)
      have H2 := Lib.hid (HS.out.allocI' .u8 5 (icHead t c id seq) (by simp only [icHead, List.length_cons, List.length_nil, maxLen]; omega) (N := W1.heap.size) rfl)
      go_upto_region 7 with fail
      rw [show W1.alloc (.cells #[.int .u8 (t : Int), .int .u8 c, .int .u8 0, .int .u8 0, .int .u8 (id / 256), .int .u8 (id % 256), .int .u8 (seq / 256), .int .u8 (seq % 256)] 5) = W1.alloc (.cells ((icHead t c id seq).map (Value.int .u8)).toArray 5) from rfl]
      generalize hW2 : W1.alloc (.cells ((icHead t c id seq).map (Value.int .u8)).toArray 5) = W2 at H2 ⊢
      clear hW2 f0 f1 f2 f3 g1 g2 g3 g4 k1 k2 k3 k4 k5 k6 HS
      have own1 := H2.out.own 1 rfl
      have r' := (R.out.below H2.out.bel).more H2.out.size
      go_wp2_with (at_builtin; refine wpList_append_rd _ rfl _ _ _ rfl .u8 w.heap.size 5 i0 1 Tryd.underlying22 hi hz0 hz1 hz2 (some ⟨W1.heap.size, 0, none⟩) 8 8 (icHead t c id seq) rfl own1 _ Ad dn dc data rfl r' (by simp only [maxLen]; omega) (by omega) H2.out.size ?_; intro A2 c2 w3 happ; have S3 := Lib.hid (H2.out.app 1 rfl happ); clear happ own1 r')
      refine (rFix_any _ (8 + dn) c2 (icHead t c id seq ++ data) 2 2 _ (S3.out.rd 1 rfl) (HBD.out.append bd) (by omega) rfl (by omega) (by omega)).mono ?_
      rintro e w5 ⟨A5, n5, c5, rfl, own5, hb5⟩
      have H5 := Lib.hid (S3.out.pushOwn hb5 own5)
      clear own5 hb5
      go_wp2_with fail
      go_ret2
      exact ⟨A5, n5, c5, by rw [HE.out]; rfl, by rw [HB.out]; exact H5.out.own 2 rfl, H5.out.bel⟩
  · have HE := Lib.hid (show icWE t c dn = kE t c by unfold icWE; rw [if_neg hk])
    have HB := Lib.hid (show icWB t c id seq data = [] by unfold icWB; rw [HLD.out, if_neg (by rw [HE.out]; exact hk)])
    have t1 : (kE t c != 0) = true := by simp [hk]
    clear hk
    go_wp2_with fail
    go_ret2
    exact ⟨none, 0, 0, by rw [HE.out]; rfl, by rw [HB.out]; exact OWN.nil, HS.out.bel⟩

theorem sKind_not3 (t : Nat) (h8 : t ≠ 8) (h13 : t ≠ 13) (h17 : t ≠ 17) : sKind t ≠ 3 := by
  rcases Nat.lt_or_ge t 19 with h | h
  · have : ∀ t, t < 19 → t ≠ 8 → t ≠ 13 → t ≠ 17 → sKind t ≠ 3 := by decide
    exact this t h h8 h13 h17
  · rw [sKind_big h]; decide

set_option maxHeartbeats 4000000 in
set_option maxRecDepth 100000 in
theorem r10Answer_any (A : Option Addr) (n c : Nat) (zs : List Int) (w : World) (h : RD .u8 w w.heap.size A n zs) (hz : BD 255 zs) (hn : n ≤ c) (hc : n ≤ 140737488351232) :
    Calls Tryd.prog 32 #[.slice A n c] w (Gives w (icAB zs) (icAE zs)) := by
  obtain ⟨i0, hi, hz0, hz1, hz2⟩ := info_parts infoU8
  have HL := Lib.hid h.len
  have R := Lib.hid h
  have S0 := SP.start w
  go_enter Tryd.func32, Tryd.ntmps32
  go_wp2_with fail
  refine (r10Read_any A n c zs w h hz hn hc).mono ?_
  rintro e w1 ⟨rfl, hb1⟩
  have H1 := Lib.hid ((S0.next hb1).alloc 65 (icM zs))
  clear h S0 hb1
  by_cases hE : icE zs = 0
  · have h8 : 8 ≤ n := by
      rcases Nat.lt_or_ge n 8 with h | h
      · exfalso
        have : icE zs = 100 := by unfold icE; rw [if_pos (by rw [HL.out]; exact h)]
        omega
      · exact h
    obtain ⟨a0, a1⟩ := hz.get (by omega) 0
    obtain ⟨t, ht⟩ : ∃ t : Nat, zs[0]?.getD 0 = (t : Int) := ⟨(zs[0]?.getD 0).toNat, by omega⟩
    have hM : icM zs = msg4 (t : Int) (zs[1]?.getD 0) (wordAt zs 4) (wordAt zs 6) := by unfold icM; rw [if_pos hE, ht]; rfl
    have hAE : icAE zs = if sKind t = 3 then 0 else 2 := by unfold icAE; rw [if_pos hE, ht]; rfl
    have hAB : icAB zs = if sKind t = 3 then fixOf (zs.set 0 (sReply t)) 2 else [] := by
      unfold icAB
      rw [hAE, ht]
      by_cases h3 : sKind t = 3
      · rw [if_pos h3, if_pos h3]; rfl
      · rw [if_neg h3, if_neg h3]; rfl
    have HAE := Lib.hid hAE
    have HAB := Lib.hid hAB
    rw [ht] at a0 a1
    rw [hM] at H1 ⊢
    rw [hE]
    generalize zs[1]?.getD 0 = u1 at H1 ⊢
    generalize wordAt zs 4 = u2 at H1 ⊢
    generalize wordAt zs 6 = u3 at H1 ⊢
    clear hE hM hAE hAB ht
    unfold msg4
    go_upto_region 2 with fail
    rw [show w1.alloc (.cells #[.int .u8 (t : Int), .int .u8 u1, .int .u16 u2, .int .u16 u3] 65) = w1.alloc (.cells (msg4 (t : Int) u1 u2 u3) 65) from rfl]
    generalize w1.alloc (.cells (msg4 (t : Int) u1 u2 u3) 65) = w2 at H1 ⊢
    have x0 : w2.cell? ⟨w1.heap.size, 0, none⟩ = some (.int .u8 (t : Int)) := H1.out.cell 0 rfl 0 rfl
    have z0 := H1.out.free 0 rfl 0
    have s1 := fun W => run_slice_lo (P := Tryd.prog) W Tryd.underlying22 hi hz1 A n c 1 1 rfl (by omega)
    rcases (show t = 8 ∨ t = 13 ∨ t = 17 ∨ (t ≠ 8 ∧ t ≠ 13 ∧ t ≠ 17) by omega) with rfl | rfl | rfl | hno
    · have x0 : w2.cell? ⟨w1.heap.size, 0, none⟩ = some (.int .u8 8) := x0
      have H2 := Lib.hid (show SP w _ [.blk w1.heap.size 65 (msg4 0 u1 u2 u3)] from H1.out.setB 0 rfl 0 (.int .u8 0))
      go_upto_region 12 with fail
      generalize w2.setCell ⟨w1.heap.size, 0, none⟩ (.int .u8 0) = w3 at H2 ⊢
      clear x0 z0 H1
      have X0 := Lib.hid H2.out.drew
      refine wp_region_noPanic ?_
      refine wp_region_held_drew (S := fun W => W.cell? ⟨w1.heap.size, 0, none⟩ = some (.int .u8 0)) (by kernel_rfl) (by exact X0.out.cell 0 rfl 0 rfl) (fun hHeld => ?_)
      refine' take_lit (i := 0) (v := _) rfl (by kernel_rfl) (by kernel_rfl) (by kernel_rfl) (fun _ _ _ h => h) (Or.inl ⟨by rfl, ?yy16⟩) (by assumption) ?rr16
      case yy16 => intro w' hSw; (try dsimp only at hSw); go_simp; try (with_reducible rfl)
      (try simp only [Act.put]); (try simp only [List.setIfInBounds_toArray, List.set_cons_zero, List.set_cons_succ])
      refine' take_lit (i := 1) (v := _) rfl (by kernel_rfl) (by kernel_rfl) (by kernel_rfl) (fun _ _ _ h => h) (Or.inl ⟨by rfl, ?yy17⟩) (by assumption) ?rr17
      case yy17 => intro w' hSw; (try dsimp only at hSw); go_simp; try (with_reducible rfl)
      (try simp only [Act.put]); (try simp only [List.setIfInBounds_toArray, List.set_cons_zero, List.set_cons_succ])
      refine' take_lit (i := 3) (v := _) rfl (by kernel_rfl) (by kernel_rfl) (by kernel_rfl) (fun _ _ _ h => h) (Or.inl ⟨by rfl, ?yy18⟩) (by assumption) ?rr18
      case yy18 => intro w' hSw; (try dsimp only at hSw); go_simp; try (with_reducible rfl)
      (try simp only [Act.put]); (try simp only [List.setIfInBounds_toArray, List.set_cons_zero, List.set_cons_succ])
      refine' take_lit (i := 4) (v := _) rfl (by kernel_rfl) (by kernel_rfl) (by kernel_rfl) (fun _ _ _ h => h) (Or.inl ⟨by rfl, ?yy19⟩) (by assumption) ?rr19
      case yy19 => intro w' hSw; (try dsimp only at hSw); go_simp; try (with_reducible rfl)
      (try simp only [Act.put]); (try simp only [List.setIfInBounds_toArray, List.set_cons_zero, List.set_cons_succ])
      refine wpAnyH_ready (rs := [2]) (by kernel_rfl) (by simp) ?_
      refine cons_lit rfl (fun K hK => ?ss2x20) AllReadyH.nil
      case ss2x20 =>
        go_simp
        have X1 := Lib.hid (X0.out.allocI .u8 5 [0] (by decide))
        refine hK.out _ _ (by exact X1.out.cell 0 rfl 0 rfl) (fun hHeld => ?_)
        clear hK K
        (try simp only [Act.put]); (try simp only [List.setIfInBounds_toArray, List.set_cons_zero, List.set_cons_succ])
        refine wpAnyH_ready (rs := [5]) (by kernel_rfl) (by simp) ?_
        refine cons_lit rfl (fun K hK => ?ss5x21) AllReadyH.nil
        case ss5x21 =>
          refine step_append_rd _ (by rfl) _ _ 22 (by rfl) .u8 w.heap.size 5 i0 1 Tryd.underlying22 hi hz0 hz1 hz2 (some ⟨w3.heap.size, 0, none⟩) 1 1 [0] (by rfl) (by exact X1.out.own 1 rfl) _ (cutA A c 1) (n - 1) (c - 1) (zs.drop 1) (by rfl) (by exact ((R.out.below X1.out.bel).more X1.out.size).cutA (lo := 1) (by omega) hn) (by simp only [maxLen]; omega) (by omega) (by exact X1.out.size) ?_
          intro A2 c2 w4 happ
          have X2 := Lib.hid (X1.out.app 1 rfl happ)
          clear happ
          refine hK.out _ _ (by exact X2.out.cell 0 rfl 0 rfl) (fun hHeld => ?_)
          clear hK K
          (try simp only [Act.put]); (try simp only [List.setIfInBounds_toArray, List.set_cons_zero, List.set_cons_succ])
          refine' take_lit (i := 6) (v := _) rfl (by kernel_rfl) (by kernel_rfl) (by kernel_rfl) (fun _ _ _ h => h) (Or.inl ⟨by rfl, ?yy22⟩) (by assumption) ?rr22
          case yy22 => intro w' hSw; (try dsimp only at hSw); go_simp; try (with_reducible rfl)
          (try simp only [Act.put]); (try simp only [List.setIfInBounds_toArray, List.set_cons_zero, List.set_cons_succ])
          refine wpAnyH_done (by kernel_rfl) ?_ _
          refine NoPanic.normal ?_
          have hset : [0] ++ zs.drop 1 = zs.set 0 (sReply 8) := by
            cases zs with
            | nil => have := HL.out; simp at this; omega
            | cons z l => rfl
          have HSET := Lib.hid hset
          have hbd : BD 255 ([0] ++ zs.drop 1) := BD.append (bd_all (by decide)) (hz.drop 1)
          clear hset
          go_wp2_with fail
          refine (rFix_any _ (1 + (n - 1)) c2 ([0] ++ zs.drop 1) 2 2 _ (X2.out.rd 1 rfl) hbd (by omega) rfl (by omega) (by omega)).mono ?_
          rintro e w5 ⟨A5, n5, c5, rfl, own5, hb5⟩
          have H5 := Lib.hid (X2.out.pushOwn hb5 own5)
          clear own5 hb5
          go_wp2_with fail
          go_ret2
          exact ⟨A5, n5, c5, by rw [HAE.out]; rfl, by rw [HAB.out, if_pos (by rfl), ← HSET.out]; exact H5.out.own 2 rfl, H5.out.bel⟩
    · have x0 : w2.cell? ⟨w1.heap.size, 0, none⟩ = some (.int .u8 13) := x0
      have H2 := Lib.hid (show SP w _ [.blk w1.heap.size 65 (msg4 14 u1 u2 u3)] from H1.out.setB 0 rfl 0 (.int .u8 14))
      go_upto_region 12 with fail
      generalize w2.setCell ⟨w1.heap.size, 0, none⟩ (.int .u8 14) = w3 at H2 ⊢
      clear x0 z0 H1
      have X0 := Lib.hid H2.out.drew
      refine wp_region_noPanic ?_
      refine wp_region_held_drew (S := fun W => W.cell? ⟨w1.heap.size, 0, none⟩ = some (.int .u8 14)) (by kernel_rfl) (by exact X0.out.cell 0 rfl 0 rfl) (fun hHeld => ?_)
      refine' take_lit (i := 0) (v := _) rfl (by kernel_rfl) (by kernel_rfl) (by kernel_rfl) (fun _ _ _ h => h) (Or.inl ⟨by rfl, ?yy23⟩) (by assumption) ?rr23
      case yy23 => intro w' hSw; (try dsimp only at hSw); go_simp; try (with_reducible rfl)
      (try simp only [Act.put]); (try simp only [List.setIfInBounds_toArray, List.set_cons_zero, List.set_cons_succ])
      refine' take_lit (i := 1) (v := _) rfl (by kernel_rfl) (by kernel_rfl) (by kernel_rfl) (fun _ _ _ h => h) (Or.inl ⟨by rfl, ?yy24⟩) (by assumption) ?rr24
      case yy24 => intro w' hSw; (try dsimp only at hSw); go_simp; try (with_reducible rfl)
      (try simp only [Act.put]); (try simp only [List.setIfInBounds_toArray, List.set_cons_zero, List.set_cons_succ])
      refine' take_lit (i := 3) (v := _) rfl (by kernel_rfl) (by kernel_rfl) (by kernel_rfl) (fun _ _ _ h => h) (Or.inl ⟨by rfl, ?yy25⟩) (by assumption) ?rr25
      case yy25 => intro w' hSw; (try dsimp only at hSw); go_simp; try (with_reducible rfl)
      (try simp only [Act.put]); (try simp only [List.setIfInBounds_toArray, List.set_cons_zero, List.set_cons_succ])
      refine' take_lit (i := 4) (v := _) rfl (by kernel_rfl) (by kernel_rfl) (by kernel_rfl) (fun _ _ _ h => h) (Or.inl ⟨by rfl, ?yy26⟩) (by assumption) ?rr26
      case yy26 => intro w' hSw; (try dsimp only at hSw); go_simp; try (with_reducible rfl)
      (try simp only [Act.put]); (try simp only [List.setIfInBounds_toArray, List.set_cons_zero, List.set_cons_succ])
      refine wpAnyH_ready (rs := [2]) (by kernel_rfl) (by simp) ?_
      refine cons_lit rfl (fun K hK => ?ss2x27) AllReadyH.nil
      case ss2x27 =>
        go_simp
        have X1 := Lib.hid (X0.out.allocI .u8 5 [14] (by decide))
        refine hK.out _ _ (by exact X1.out.cell 0 rfl 0 rfl) (fun hHeld => ?_)
        clear hK K
        (try simp only [Act.put]); (try simp only [List.setIfInBounds_toArray, List.set_cons_zero, List.set_cons_succ])
        refine wpAnyH_ready (rs := [5]) (by kernel_rfl) (by simp) ?_
        refine cons_lit rfl (fun K hK => ?ss5x28) AllReadyH.nil
        case ss5x28 =>
          refine step_append_rd _ (by rfl) _ _ 22 (by rfl) .u8 w.heap.size 5 i0 1 Tryd.underlying22 hi hz0 hz1 hz2 (some ⟨w3.heap.size, 0, none⟩) 1 1 [14] (by rfl) (by exact X1.out.own 1 rfl) _ (cutA A c 1) (n - 1) (c - 1) (zs.drop 1) (by rfl) (by exact ((R.out.below X1.out.bel).more X1.out.size).cutA (lo := 1) (by omega) hn) (by simp only [maxLen]; omega) (by omega) (by exact X1.out.size) ?_
          intro A2 c2 w4 happ
          have X2 := Lib.hid (X1.out.app 1 rfl happ)
          clear happ
          refine hK.out _ _ (by exact X2.out.cell 0 rfl 0 rfl) (fun hHeld => ?_)
          clear hK K
          (try simp only [Act.put]); (try simp only [List.setIfInBounds_toArray, List.set_cons_zero, List.set_cons_succ])
          refine' take_lit (i := 6) (v := _) rfl (by kernel_rfl) (by kernel_rfl) (by kernel_rfl) (fun _ _ _ h => h) (Or.inl ⟨by rfl, ?yy29⟩) (by assumption) ?rr29
          case yy29 => intro w' hSw; (try dsimp only at hSw); go_simp; try (with_reducible rfl)
          (try simp only [Act.put]); (try simp only [List.setIfInBounds_toArray, List.set_cons_zero, List.set_cons_succ])
          refine wpAnyH_done (by kernel_rfl) ?_ _
          refine NoPanic.normal ?_
          have hset : [14] ++ zs.drop 1 = zs.set 0 (sReply 13) := by
            cases zs with
            | nil => have := HL.out; simp at this; omega
            | cons z l => rfl
          have HSET := Lib.hid hset
          have hbd : BD 255 ([14] ++ zs.drop 1) := BD.append (bd_all (by decide)) (hz.drop 1)
          clear hset
          go_wp2_with fail
          refine (rFix_any _ (1 + (n - 1)) c2 ([14] ++ zs.drop 1) 2 2 _ (X2.out.rd 1 rfl) hbd (by omega) rfl (by omega) (by omega)).mono ?_
          rintro e w5 ⟨A5, n5, c5, rfl, own5, hb5⟩
          have H5 := Lib.hid (X2.out.pushOwn hb5 own5)
          clear own5 hb5
          go_wp2_with fail
          go_ret2
          exact ⟨A5, n5, c5, by rw [HAE.out]; rfl, by rw [HAB.out, if_pos (by rfl), ← HSET.out]; exact H5.out.own 2 rfl, H5.out.bel⟩
    · have x0 : w2.cell? ⟨w1.heap.size, 0, none⟩ = some (.int .u8 17) := x0
      have H2 := Lib.hid (show SP w _ [.blk w1.heap.size 65 (msg4 18 u1 u2 u3)] from H1.out.setB 0 rfl 0 (.int .u8 18))
      go_upto_region 12 with fail
      generalize w2.setCell ⟨w1.heap.size, 0, none⟩ (.int .u8 18) = w3 at H2 ⊢
      clear x0 z0 H1
      have X0 := Lib.hid H2.out.drew
      refine wp_region_noPanic ?_
      refine wp_region_held_drew (S := fun W => W.cell? ⟨w1.heap.size, 0, none⟩ = some (.int .u8 18)) (by kernel_rfl) (by exact X0.out.cell 0 rfl 0 rfl) (fun hHeld => ?_)
      refine' take_lit (i := 0) (v := _) rfl (by kernel_rfl) (by kernel_rfl) (by kernel_rfl) (fun _ _ _ h => h) (Or.inl ⟨by rfl, ?yy30⟩) (by assumption) ?rr30
      case yy30 => intro w' hSw; (try dsimp only at hSw); go_simp; try (with_reducible rfl)
      (try simp only [Act.put]); (try simp only [List.setIfInBounds_toArray, List.set_cons_zero, List.set_cons_succ])
      refine' take_lit (i := 1) (v := _) rfl (by kernel_rfl) (by kernel_rfl) (by kernel_rfl) (fun _ _ _ h => h) (Or.inl ⟨by rfl, ?yy31⟩) (by assumption) ?rr31
      case yy31 => intro w' hSw; (try dsimp only at hSw); go_simp; try (with_reducible rfl)
      (try simp only [Act.put]); (try simp only [List.setIfInBounds_toArray, List.set_cons_zero, List.set_cons_succ])
      refine' take_lit (i := 3) (v := _) rfl (by kernel_rfl) (by kernel_rfl) (by kernel_rfl) (fun _ _ _ h => h) (Or.inl ⟨by rfl, ?yy32⟩) (by assumption) ?rr32
      case yy32 => intro w' hSw; (try dsimp only at hSw); go_simp; try (with_reducible rfl)
      (try simp only [Act.put]); (try simp only [List.setIfInBounds_toArray, List.set_cons_zero, List.set_cons_succ])
      refine' take_lit (i := 4) (v := _) rfl (by kernel_rfl) (by kernel_rfl) (by kernel_rfl) (fun _ _ _ h => h) (Or.inl ⟨by rfl, ?yy33⟩) (by assumption) ?rr33
      case yy33 => intro w' hSw; (try dsimp only at hSw); go_simp; try (with_reducible rfl)
      (try simp only [Act.put]); (try simp only [List.setIfInBounds_toArray, List.set_cons_zero, List.set_cons_succ])
      refine wpAnyH_ready (rs := [2]) (by kernel_rfl) (by simp) ?_
      refine cons_lit rfl (fun K hK => ?ss2x34) AllReadyH.nil
      case ss2x34 =>
        go_simp
        have X1 := Lib.hid (X0.out.allocI .u8 5 [18] (by decide))
        refine hK.out _ _ (by exact X1.out.cell 0 rfl 0 rfl) (fun hHeld => ?_)
        clear hK K
        (try simp only [Act.put]); (try simp only [List.setIfInBounds_toArray, List.set_cons_zero, List.set_cons_succ])
        refine wpAnyH_ready (rs := [5]) (by kernel_rfl) (by simp) ?_
        refine cons_lit rfl (fun K hK => ?ss5x35) AllReadyH.nil
        case ss5x35 =>
          refine step_append_rd _ (by rfl) _ _ 22 (by rfl) .u8 w.heap.size 5 i0 1 Tryd.underlying22 hi hz0 hz1 hz2 (some ⟨w3.heap.size, 0, none⟩) 1 1 [18] (by rfl) (by exact X1.out.own 1 rfl) _ (cutA A c 1) (n - 1) (c - 1) (zs.drop 1) (by rfl) (by exact ((R.out.below X1.out.bel).more X1.out.size).cutA (lo := 1) (by omega) hn) (by simp only [maxLen]; omega) (by omega) (by exact X1.out.size) ?_
          intro A2 c2 w4 happ
          have X2 := Lib.hid (X1.out.app 1 rfl happ)
          clear happ
          refine hK.out _ _ (by exact X2.out.cell 0 rfl 0 rfl) (fun hHeld => ?_)
          clear hK K
          (try simp only [Act.put]); (try simp only [List.setIfInBounds_toArray, List.set_cons_zero, List.set_cons_succ])
          refine' take_lit (i := 6) (v := _) rfl (by kernel_rfl) (by kernel_rfl) (by kernel_rfl) (fun _ _ _ h => h) (Or.inl ⟨by rfl, ?yy36⟩) (by assumption) ?rr36
          case yy36 => intro w' hSw; (try dsimp only at hSw); go_simp; try (with_reducible rfl)
          (try simp only [Act.put]); (try simp only [List.setIfInBounds_toArray, List.set_cons_zero, List.set_cons_succ])
          refine wpAnyH_done (by kernel_rfl) ?_ _
          refine NoPanic.normal ?_
          have hset : [18] ++ zs.drop 1 = zs.set 0 (sReply 17) := by
            cases zs with
            | nil => have := HL.out; simp at this; omega
            | cons z l => rfl
          have HSET := Lib.hid hset
          have hbd : BD 255 ([18] ++ zs.drop 1) := BD.append (bd_all (by decide)) (hz.drop 1)
          clear hset
          go_wp2_with fail
          refine (rFix_any _ (1 + (n - 1)) c2 ([18] ++ zs.drop 1) 2 2 _ (X2.out.rd 1 rfl) hbd (by omega) rfl (by omega) (by omega)).mono ?_
          rintro e w5 ⟨A5, n5, c5, rfl, own5, hb5⟩
          have H5 := Lib.hid (X2.out.pushOwn hb5 own5)
          clear own5 hb5
          go_wp2_with fail
          go_ret2
          exact ⟨A5, n5, c5, by rw [HAE.out]; rfl, by rw [HAB.out, if_pos (by rfl), ← HSET.out]; exact H5.out.own 2 rfl, H5.out.bel⟩
    · have n8 : ((t : Int) == 8) = false := by simp; omega
      have n13 : ((t : Int) == 13) = false := by simp; omega
      have n17 : ((t : Int) == 17) = false := by simp; omega
      have h3 := Lib.hid (sKind_not3 t hno.1 hno.2.1 hno.2.2)
      clear hno
      go_wp2_with fail
      go_ret2
      exact ⟨none, 0, 0, by rw [HAE.out, if_neg h3.out]; rfl, by rw [HAB.out, if_neg h3.out]; exact OWN.nil, H1.out.bel⟩
  · have t1 : (icE zs != 0) = true := by simp [hE]
    have HAE := Lib.hid (show icAE zs = icE zs by unfold icAE; rw [if_neg hE])
    have HAB := Lib.hid (show icAB zs = [] by unfold icAB; rw [if_neg (by rw [HAE.out]; exact hE)])
    have hM : icM zs = msg0 := by unfold icM; rw [if_neg hE]; rfl
    rw [hM] at H1 ⊢
    clear hE hM
    unfold msg0
    go_wp2_with fail
    go_ret2
    exact ⟨none, 0, 0, by rw [HAE.out]; rfl, by rw [HAB.out]; exact OWN.nil, H1.out.bel⟩
end Go.Proofs.YtjbkfhdbgphodaaDoor
