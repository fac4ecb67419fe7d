/- The walk of IcmpAnswers. (Printed by gen_icans.py.) -/
import Derived.Test.YtjbkfhdbgphodaaDoorLIcAns
import Derived.Test.YtjbkfhdbgphodaaDoorLIcBack
import Derived.Deep.DeepCutAuto
namespace Go.Proofs.YtjbkfhdbgphodaaDoor
open Go.RowKit
set_option linter.unusedVariables false
attribute [local go_sem ↓] Go.wp_at_zero Go.wp_at_succ

theorem idx3_0 (x y z : Value) (W : World) : (Instr.index 47 (.agg #[x, y, z]) (.int .i64 0)).run Tryd.prog W = .ok x W := by kernel_rfl
theorem idx3_1 (x y z : Value) (W : World) : (Instr.index 47 (.agg #[x, y, z]) (.int .i64 1)).run Tryd.prog W = .ok y W := by kernel_rfl
theorem idx3_2 (x y z : Value) (W : World) : (Instr.index 47 (.agg #[x, y, z]) (.int .i64 2)).run Tryd.prog W = .ok z W := by kernel_rfl

set_option maxHeartbeats 16000000 in
set_option maxRecDepth 100000 in
theorem icmpAnswers_walk (T cd id seq : Int) (A : Option Addr) (n c : Nat) (zs : List Int) (bt : Int) (w : World) (hT : 0 ≤ T ∧ T ≤ 255) (hcd : 0 ≤ cd ∧ cd ≤ 255) (hid : 0 ≤ id ∧ id ≤ 65535) (hseq : 0 ≤ seq ∧ seq ≤ 65535) (h : ROW .u8 255 w A n c zs) (hbt : 0 ≤ bt ∧ bt ≤ 65535) (hS : TABS w) :
    Calls Tryd.prog 9 #[.agg #[.int .u8 T, .int .u8 cd, .int .u16 id, .int .u16 seq, .slice A n c], .int .u16 bt] w fun e w' => e = .returned (.bool true) ∧ Below w.heap.size w w' := by
  obtain ⟨i0, hi, hz0, hz1, hz2⟩ := info_parts infoU8
  have R := Lib.hid (fun (W : World) (hb : Below w.heap.size w W) => (show RD .u8 W W.heap.size A n zs from (h.rd.below hb).more hb.size))
  have hz := h.bd
  have hn := h.le
  have hcm := h.cap
  have HS := Lib.hid (fun (W : World) (hb : Below w.heap.size w W) => hS.below hb)
  have S0 := Lib.hid ((SP.start w).alloc 36 #[.int .u8 T, .int .u8 cd, .int .u16 id, .int .u16 seq, .slice A n c])
  obtain ⟨b0, b1⟩ := hbt
  clear h hS
  go_enter Tryd.func9, Tryd.ntmps9
  go_upto_region 1 with fail
  generalize w.alloc (.cells #[.int .u8 T, .int .u8 cd, .int .u16 id, .int .u16 seq, .slice A n c] 36) = w0 at S0 ⊢
  go_wp2_with fail
  refine (awake10_any _ (HS.out _ S0.out.bel).s).mono ?_
  rintro e w1 ⟨rfl, hb1⟩
  have S1 := Lib.hid (S0.out.next hb1)
  clear S0 hb1
  have x0 : w1.cell? ⟨w.heap.size, 0, none⟩ = some (.int .u8 T) := S1.out.cell 0 rfl 0 rfl
  have x1 : w1.cell? ⟨w.heap.size, 1, none⟩ = some (.int .u8 cd) := S1.out.cell 0 rfl 1 rfl
  have x2 : w1.cell? ⟨w.heap.size, 2, none⟩ = some (.int .u16 id) := S1.out.cell 0 rfl 2 rfl
  have x3 : w1.cell? ⟨w.heap.size, 3, none⟩ = some (.int .u16 seq) := S1.out.cell 0 rfl 3 rfl
  have x4 : w1.cell? ⟨w.heap.size, 4, none⟩ = some (.slice A n c) := S1.out.cell 0 rfl 4 rfl
  go_wp2_with fail
  refine (madeU_any T cd id seq A n c zs _ hT hcd (R.out _ S1.out.bel) hz hn hcm (HS.out _ S1.out.bel)).mono ?_
  rintro e w2 ⟨ty, cv, kd, A2, n2, c2, ys, rfl, ok, own2, hys, h80, hb2⟩
  have hyl := own2.len
  have S2 := Lib.hid ((S1.out.pushOwn hb2 own2).alloc 27 (msg4 (ty : Int) cv id seq))
  have hl2 := own2.le
  clear own2 hb2 S1 x0 x1 x2 x3 x4
  obtain ⟨o1, o2, o3, o4, o5, o6, o7, o8⟩ := ok
  obtain ⟨hwE, P, hP, hPl, hPB, hPE, hPM, hPD, hPV, hPS, hP0, hP1, hP4, hP6⟩ := ic_pkt (ys := ys) o4 (by omega) ⟨o2, by omega⟩ hid hseq hys (by omega)
  have HP := Lib.hid (And.intro hwE (And.intro hP (And.intro hPl (And.intro hPE (And.intro hPM (And.intro hPD (And.intro hPV hPS)))))))
  have HK := Lib.hid (And.intro o4 o5)
  have HPP := Lib.hid (And.intro hP0 (And.intro hP1 (And.intro hP4 hP6)))
  have HSK := Lib.hid o6
  have HYL := Lib.hid hyl
  clear hwE hP hPl hPE hPM hPD hPV hPS hP0 hP1 hP4 hP6 o4 o5 o6 hyl
  unfold msg4
  go_upto_region 4 with fail
  rw [show w2.alloc (.cells #[.int .u8 (ty : Int), .int .u8 cv, .int .u16 id, .int .u16 seq] 27) = w2.alloc (.cells (msg4 (ty : Int) cv id seq) 27) from rfl]
  generalize w2.alloc (.cells (msg4 (ty : Int) cv id seq) 27) = w3 at S2 ⊢
  have f0 : w3.cell? ⟨w2.heap.size, 0, none⟩ = some (.int .u8 (ty : Int)) := S2.out.cell 2 rfl 0 rfl
  have f1 : w3.cell? ⟨w2.heap.size, 1, none⟩ = some (.int .u8 cv) := S2.out.cell 2 rfl 1 rfl
  have f2 : w3.cell? ⟨w2.heap.size, 2, none⟩ = some (.int .u16 id) := S2.out.cell 2 rfl 2 rfl
  have f3 : w3.cell? ⟨w2.heap.size, 3, none⟩ = some (.int .u16 seq) := S2.out.cell 2 rfl 3 rfl
  go_wp2_with fail
  refine (icwrite_any ty cv id seq A2 n2 c2 ys _ (by omega) ⟨o2, by omega⟩ hid hseq (S2.out.rd 1 rfl) hys (by omega) (HS.out _ S2.out.bel).s).mono ?_
  rintro e w4 ⟨A4, n4, c4, rfl, own4, hb4⟩
  rw [← HYL.out, HP.out.1, HYL.out]
  rw [HP.out.2.1] at own4
  have hn4 : n4 = 8 + n2 := by have := own4.len; rw [HP.out.2.2.1, HYL.out] at this; omega
  have hl4 := own4.le
  have S4 := Lib.hid (S2.out.pushOwn hb4 own4)
  clear own4 hb4 S2 f0 f1 f2 f3
  have hn8 : 8 ≤ n4 := by omega
  have hn88 : n4 ≤ 88 := by omega
  have i8 : ¬ (n4 : Int) < 8 := by omega
  have HN4 := Lib.hid hn4
  clear hn4
  obtain ⟨g4, rfl, hg4, _⟩ := (S4.out.own 3 rfl).form (by omega)
  go_upto_if 42 with fail
  go_cut [8] (fun s8 wx => s8 = .slice (some ⟨g4, 0, none⟩) n4 c4 ∧ ∃ Q, BUTCK P Q ∧ SP w wx [.blk w.heap.size 36 #[.int .u8 T, .int .u8 cd, .int .u16 id, .int .u16 seq, .slice A n c], .own .u8 5 A2 n2 c2 ys, .blk w2.heap.size 27 (msg4 (ty : Int) cv id seq), .own .u8 5 (some ⟨g4, 0, none⟩) n4 c4 Q])
  case first =>
    have x2 := (S4.out.own 3 rfl).cell (i := 2) (by omega)
    have x3 := (S4.out.own 3 rfl).cell (i := 3) (by omega)
    have z2 := (S4.out.own 3 rfl).frozen 2
    have z3 := (S4.out.own 3 rfl).frozen 3
    have j2 : (2 : Int) < (n4 : Int) := by omega
    have j3 : (3 : Int) < (n4 : Int) := by omega
    by_cases hb : bt % 2 = 1
    · have t1 : (bt % 2 == 1) = true := by simp [hb]
      have e1 : IntKind.u8.wrap (bt / 256) = bt / 256 := u8_in _ (by omega) (by omega)
      have e2 : IntKind.u8.wrap bt = bt % 256 := rfl
      have Y := Lib.hid ((S4.out.setO 3 rfl 2 (bt / 256)).setO 3 rfl 3 (bt % 256))
      have BQ := Lib.hid (BUTCK.set hPB (x := bt / 256) (y := bt % 256) (by omega) (by omega))
      clear hb
      go_wp2_with fail
      go_meet
      exact ⟨rfl, _, BQ.out, Y.out⟩
    · have t1 : (bt % 2 == 1) = false := by simp [hb]
      clear hb
      go_wp2_with fail
      go_meet
      exact ⟨rfl, _, BUTCK.refl hPB, S4.out⟩
  case rest =>
    obtain ⟨rfl, Q, hQ, hSQ⟩ := hcut
    have X := Lib.hid hSQ
    have hQB := hQ.bd
    have hQl := hQ.len
    obtain ⟨a1, a2, a3⟩ := ic_ans hQ HK.out.1 o1 o2 (by rw [HP.out.2.2.1]; omega) HPP.out.1 HPP.out.2.1 HPP.out.2.2.1 HPP.out.2.2.2
    have HA := Lib.hid (And.intro a1 (And.intro a2 a3))
    clear a1 a2 a3 hSQ hQ S4
    go_wp2_with fail
    refine (icanswer_any _ n4 c4 Q _ (X.out.rd 3 rfl) hQB (by omega) (by omega) (HS.out _ X.out.bel).s).mono ?_
    rintro e w6 ⟨A6, n6, c6, rfl, own6, hb6⟩
    by_cases hk3 : sKind ty = 3
    · obtain ⟨r, C, hC, hCl, hCB, hCE, hCM, hCD, hCV, hCA, hCAB, hr0, hr4, hrr⟩ := HA.out.2.2 hk3
      have hkd : kd = 3 := by rw [← HSK.out]; exact hk3
      subst hkd
      rw [HA.out.1, if_pos hk3]
      rw [hC] at own6
      have h46 : n4 = n6 := by rw [← own6.len, hCl, hQl, HP.out.2.2.1, HYL.out]; exact HN4.out
      subst h46
      have hl6 := own6.le
      have X6 := Lib.hid (X.out.pushOwn hb6 own6)
      have HC := Lib.hid (And.intro hCE (And.intro hCM (And.intro hCD (And.intro hCV (And.intro hCA (And.intro hCAB (And.intro hr0 hr4)))))))
      have hr18 : r ≤ 18 := by omega
      have HRR := Lib.hid hrr
      clear own6 hb6 X hk3 hC hCl hCE hCM hCD hCV hCA hCAB hr0 hr4 HA hrr
      go_wp2_with fail
      refine (icread_any A6 n4 c6 C _ (X6.out.rd 4 rfl) hCB (by omega) (by omega) (HS.out _ X6.out.bel).s).mono ?_
      rintro e w7 ⟨rfl, hb7⟩
      rw [HC.out.1, HC.out.2.1]
      have X7 := Lib.hid ((X6.out.next hb7).alloc 27 (msg4 (r : Int) 0 id seq))
      clear hb7 X6
      go_upto_region 13 with fail
      rw [show w7.alloc (.cells #[.int .u8 (r : Int), .int .u8 0, .int .u16 id, .int .u16 seq] 27) = w7.alloc (.cells (msg4 (r : Int) 0 id seq) 27) from rfl]
      generalize w7.alloc (.cells (msg4 (r : Int) 0 id seq) 27) = w8 at X7 ⊢
      go_wp2_with fail
      refine (icanswer_any A6 n4 c6 C _ (X7.out.rd 4 rfl) hCB (by omega) (by omega) (HS.out _ X7.out.bel).s).mono ?_
      rintro e w9 ⟨A9, n9, c9, rfl, own9, hb9⟩
      rw [HC.out.2.2.2.2.1]
      rw [HC.out.2.2.2.2.2.1] at own9
      have hn9 : 0 = n9 := own9.len
      subst hn9
      have X9 := Lib.hid (X7.out.pushOwn hb9 own9)
      clear own9 hb9 X7
      have f0 : w9.cell? ⟨w7.heap.size, 0, none⟩ = some (.int .u8 (r : Int)) := X9.out.cell 5 rfl 0 rfl
      have f1 : w9.cell? ⟨w7.heap.size, 1, none⟩ = some (.int .u8 0) := X9.out.cell 5 rfl 1 rfl
      go_wp2_with fail
      refine (kind_any r 0 _ (by omega) (by omega) (HS.out _ X9.out.bel).s).mono ?_
      rintro e wa ⟨rfl, rfl⟩
      rw [HC.out.2.2.2.2.2.2.1, HC.out.2.2.2.2.2.2.2]
      clear f0 f1
      have s4 := fun W => run_slice_lo (P := Tryd.prog) W Tryd.underlying22 hi hz1 A6 n4 c6 4 4 rfl (by omega)
      have s4' := fun W => run_slice_lo (P := Tryd.prog) W Tryd.underlying22 hi hz1 (some ⟨g4, 0, none⟩) n4 c4 4 4 rfl (by omega)
      have nn : ((n4 : Int) != (n4 : Int)) = false := by simp
      go_upto_region 15 with fail
      have Y0 := Lib.hid X9.out.drew
      refine wp_region_noPanic ?_
      refine wp_region_held_drew (S := fun _ => True) (by kernel_rfl) (by trivial) (fun hHeld => ?_)
      refine' take_lit (i := 0) (v := _) rfl (by kernel_rfl) (by kernel_rfl) (by kernel_rfl) (fun _ _ _ h => h) (Or.inl ⟨by rfl, ?yy1⟩) (by assumption) ?rr1
      case yy1 => intro w' hSw; (try dsimp only at hSw); go_simp; try (with_reducible rfl)
      (try simp only [Act.put]); (try simp only [List.setIfInBounds_toArray, List.set_cons_zero, List.set_cons_succ])
      refine' take_lit (i := 1) (v := _) rfl (by kernel_rfl) (by kernel_rfl) (by kernel_rfl) (fun _ _ _ h => h) (Or.inl ⟨by rfl, ?yy2⟩) (by assumption) ?rr2
      case yy2 => intro w' hSw; (try dsimp only at hSw); go_simp; try (with_reducible rfl)
      (try simp only [Act.put]); (try simp only [List.setIfInBounds_toArray, List.set_cons_zero, List.set_cons_succ])
      refine' take_lit (i := 2) (v := _) rfl (by kernel_rfl) (by kernel_rfl) (by kernel_rfl) (fun _ _ _ h => h) (Or.inl ⟨by rfl, ?yy3⟩) (by assumption) ?rr3
      case yy3 => intro w' hSw; (try dsimp only at hSw); go_simp; try (with_reducible rfl)
      (try simp only [Act.put]); (try simp only [List.setIfInBounds_toArray, List.set_cons_zero, List.set_cons_succ])
      refine' take_lit (i := 3) (v := _) rfl (by kernel_rfl) (by kernel_rfl) (by kernel_rfl) (fun _ _ _ h => h) (Or.inl ⟨by rfl, ?yy4⟩) (by assumption) ?rr4
      case yy4 => intro w' hSw; (try dsimp only at hSw); go_simp; try (with_reducible rfl)
      (try simp only [Act.put]); (try simp only [List.setIfInBounds_toArray, List.set_cons_zero, List.set_cons_succ])
      refine' take_lit (i := 4) (v := _) rfl (by kernel_rfl) (by kernel_rfl) (by kernel_rfl) (fun _ _ _ h => h) (Or.inl ⟨by rfl, ?yy5⟩) (by assumption) ?rr5
      case yy5 => intro w' hSw; (try dsimp only at hSw); go_simp; try (with_reducible rfl)
      (try simp only [Act.put]); (try simp only [List.setIfInBounds_toArray, List.set_cons_zero, List.set_cons_succ])
      refine' take_lit (i := 5) (v := _) rfl (by kernel_rfl) (by kernel_rfl) (by kernel_rfl) (fun _ _ _ h => h) (Or.inl ⟨by rfl, ?yy6⟩) (by assumption) ?rr6
      case yy6 => intro w' hSw; (try dsimp only at hSw); go_simp; try (with_reducible rfl)
      (try simp only [Act.put]); (try simp only [List.setIfInBounds_toArray, List.set_cons_zero, List.set_cons_succ])
      refine' take_lit (i := 6) (v := _) rfl (by kernel_rfl) (by kernel_rfl) (by kernel_rfl) (fun _ _ _ h => h) (Or.inl ⟨by rfl, ?yy7⟩) (by assumption) ?rr7
      case yy7 => intro w' hSw; (try dsimp only at hSw); go_simp; try (with_reducible rfl)
      (try simp only [Act.put]); (try simp only [List.setIfInBounds_toArray, List.set_cons_zero, List.set_cons_succ])
      refine' take_lit (i := 7) (v := _) rfl (by kernel_rfl) (by kernel_rfl) (by kernel_rfl) (fun _ _ _ h => h) (Or.inl ⟨by rfl, ?yy8⟩) (by assumption) ?rr8
      case yy8 => intro w' hSw; (try dsimp only at hSw); go_simp; try (with_reducible rfl)
      (try simp only [Act.put]); (try simp only [List.setIfInBounds_toArray, List.set_cons_zero, List.set_cons_succ])
      refine' take_lit (i := 8) (v := _) rfl (by kernel_rfl) (by kernel_rfl) (by kernel_rfl) (fun _ _ _ h => h) (Or.inl ⟨by rfl, ?yy9⟩) (by assumption) ?rr9
      case yy9 => intro w' hSw; (try dsimp only at hSw); go_simp; try (with_reducible rfl)
      (try simp only [Act.put]); (try simp only [List.setIfInBounds_toArray, List.set_cons_zero, List.set_cons_succ])
      refine' take_lit (i := 9) (v := _) rfl (by kernel_rfl) (by kernel_rfl) (by kernel_rfl) (fun _ _ _ h => h) (Or.inl ⟨by rfl, ?yy10⟩) (by assumption) ?rr10
      case yy10 => intro w' hSw; (try dsimp only at hSw); go_simp; try (with_reducible rfl)
      (try simp only [Act.put]); (try simp only [List.setIfInBounds_toArray, List.set_cons_zero, List.set_cons_succ])
      refine' take_lit (i := 10) (v := _) rfl (by kernel_rfl) (by kernel_rfl) (by kernel_rfl) (fun _ _ _ h => h) (Or.inl ⟨by rfl, ?yy11⟩) (by assumption) ?rr11
      case yy11 => intro w' hSw; (try dsimp only at hSw); go_simp; try (with_reducible rfl)
      (try simp only [Act.put]); (try simp only [List.setIfInBounds_toArray, List.set_cons_zero, List.set_cons_succ])
      refine' take_lit (i := 11) (v := _) rfl (by kernel_rfl) (by kernel_rfl) (by kernel_rfl) (fun _ _ _ h => h) (Or.inl ⟨by rfl, ?yy12⟩) (by assumption) ?rr12
      case yy12 => intro w' hSw; (try dsimp only at hSw); go_simp; try (with_reducible rfl)
      (try simp only [Act.put]); (try simp only [List.setIfInBounds_toArray, List.set_cons_zero, List.set_cons_succ])
      refine' take_lit (i := 12) (v := _) rfl (by kernel_rfl) (by kernel_rfl) (by kernel_rfl) (fun _ _ _ h => h) (Or.inl ⟨by rfl, ?yy13⟩) (by assumption) ?rr13
      case yy13 => intro w' hSw; (try dsimp only at hSw); go_simp; try (with_reducible rfl)
      (try simp only [Act.put]); (try simp only [List.setIfInBounds_toArray, List.set_cons_zero, List.set_cons_succ])
      refine' take_lit (i := 13) (v := _) rfl (by kernel_rfl) (by kernel_rfl) (by kernel_rfl) (fun _ _ _ h => h) (Or.inl ⟨by rfl, ?yy14⟩) (by assumption) ?rr14
      case yy14 => intro w' hSw; (try dsimp only at hSw); go_simp; try (with_reducible rfl)
      (try simp only [Act.put]); (try simp only [List.setIfInBounds_toArray, List.set_cons_zero, List.set_cons_succ])
      refine' take_lit (i := 14) (v := _) rfl (by kernel_rfl) (by kernel_rfl) (by kernel_rfl) (fun _ _ _ h => h) (Or.inl ⟨by rfl, ?yy15⟩) (by assumption) ?rr15
      case yy15 => intro w' hSw; (try dsimp only at hSw); go_simp; try (with_reducible rfl)
      (try simp only [Act.put]); (try simp only [List.setIfInBounds_toArray, List.set_cons_zero, List.set_cons_succ])
      refine' take_lit (i := 15) (v := _) rfl (by kernel_rfl) (by kernel_rfl) (by kernel_rfl) (fun _ _ _ h => h) (Or.inl ⟨by rfl, ?yy16⟩) (by assumption) ?rr16
      case yy16 => intro w' hSw; (try dsimp only at hSw); go_simp; try (with_reducible rfl)
      (try simp only [Act.put]); (try simp only [List.setIfInBounds_toArray, List.set_cons_zero, List.set_cons_succ])
      refine' take_lit (i := 16) (v := _) rfl (by kernel_rfl) (by kernel_rfl) (by kernel_rfl) (fun _ _ _ h => h) (Or.inl ⟨by rfl, ?yy17⟩) (by assumption) ?rr17
      case yy17 => intro w' hSw; (try dsimp only at hSw); go_simp; try (with_reducible rfl)
      (try simp only [Act.put]); (try simp only [List.setIfInBounds_toArray, List.set_cons_zero, List.set_cons_succ])
      refine' take_lit (i := 17) (v := _) rfl (by kernel_rfl) (by kernel_rfl) (by kernel_rfl) (fun _ _ _ h => h) (Or.inl ⟨by rfl, ?yy18⟩) (by assumption) ?rr18
      case yy18 => intro w' hSw; (try dsimp only at hSw); go_simp; try (with_reducible rfl)
      (try simp only [Act.put]); (try simp only [List.setIfInBounds_toArray, List.set_cons_zero, List.set_cons_succ])
      refine' take_lit (i := 18) (v := _) rfl (by kernel_rfl) (by kernel_rfl) (by kernel_rfl) (fun _ _ _ h => h) (Or.inl ⟨by rfl, ?yy19⟩) (by assumption) ?rr19
      case yy19 => intro w' hSw; (try dsimp only at hSw); go_simp; try (with_reducible rfl)
      (try simp only [Act.put]); (try simp only [List.setIfInBounds_toArray, List.set_cons_zero, List.set_cons_succ])
      refine' take_lit (i := 19) (v := _) rfl (by kernel_rfl) (by kernel_rfl) (by kernel_rfl) (fun _ _ _ h => h) (Or.inl ⟨by rfl, ?yy20⟩) (by assumption) ?rr20
      case yy20 => intro w' hSw; (try dsimp only at hSw); go_simp; try (with_reducible rfl)
      (try simp only [Act.put]); (try simp only [List.setIfInBounds_toArray, List.set_cons_zero, List.set_cons_succ])
      refine' take_lit (i := 20) (v := _) rfl (by kernel_rfl) (by kernel_rfl) (by kernel_rfl) (fun _ _ _ h => h) (Or.inl ⟨by rfl, ?yy21⟩) (by assumption) ?rr21
      case yy21 => intro w' hSw; (try dsimp only at hSw); go_simp; try (with_reducible rfl)
      (try simp only [Act.put]); (try simp only [List.setIfInBounds_toArray, List.set_cons_zero, List.set_cons_succ])
      refine' take_lit (i := 21) (v := _) rfl (by kernel_rfl) (by kernel_rfl) (by kernel_rfl) (fun _ _ _ h => h) (Or.inl ⟨by rfl, ?yy22⟩) (by assumption) ?rr22
      case yy22 => intro w' hSw; (try dsimp only at hSw); go_simp; try (with_reducible rfl)
      (try simp only [Act.put]); (try simp only [List.setIfInBounds_toArray, List.set_cons_zero, List.set_cons_succ])
      refine' take_lit (i := 22) (v := _) rfl (by kernel_rfl) (by kernel_rfl) (by kernel_rfl) (fun _ _ _ h => h) (Or.inl ⟨by rfl, ?yy23⟩) (by assumption) ?rr23
      case yy23 => intro w' hSw; (try dsimp only at hSw); go_simp; try (with_reducible rfl)
      (try simp only [Act.put]); (try simp only [List.setIfInBounds_toArray, List.set_cons_zero, List.set_cons_succ])
      refine' take_lit (i := 23) (v := _) rfl (by kernel_rfl) (by kernel_rfl) (by kernel_rfl) (fun _ _ _ h => h) (Or.inl ⟨by rfl, ?yy24⟩) (by assumption) ?rr24
      case yy24 => intro w' hSw; (try dsimp only at hSw); go_simp; try (with_reducible rfl)
      (try simp only [Act.put]); (try simp only [List.setIfInBounds_toArray, List.set_cons_zero, List.set_cons_succ])
      refine' take_lit (i := 24) (v := _) rfl (by kernel_rfl) (by kernel_rfl) (by kernel_rfl) (fun _ _ _ h => h) (Or.inl ⟨by rfl, ?yy25⟩) (by assumption) ?rr25
      case yy25 => intro w' hSw; (try dsimp only at hSw); go_simp; try (with_reducible rfl)
      (try simp only [Act.put]); (try simp only [List.setIfInBounds_toArray, List.set_cons_zero, List.set_cons_succ])
      refine' take_lit (i := 25) (v := _) rfl (by kernel_rfl) (by kernel_rfl) (by kernel_rfl) (fun _ _ _ h => h) (Or.inl ⟨by rfl, ?yy26⟩) (by assumption) ?rr26
      case yy26 => intro w' hSw; (try dsimp only at hSw); go_simp; try (with_reducible rfl)
      (try simp only [Act.put]); (try simp only [List.setIfInBounds_toArray, List.set_cons_zero, List.set_cons_succ])
      refine' take_lit (i := 26) (v := _) rfl (by kernel_rfl) (by kernel_rfl) (by kernel_rfl) (fun _ _ _ h => h) (Or.inl ⟨by rfl, ?yy27⟩) (by assumption) ?rr27
      case yy27 => intro w' hSw; (try dsimp only at hSw); go_simp; try (with_reducible rfl)
      (try simp only [Act.put]); (try simp only [List.setIfInBounds_toArray, List.set_cons_zero, List.set_cons_succ])
      refine' take_lit (i := 27) (v := _) rfl (by kernel_rfl) (by kernel_rfl) (by kernel_rfl) (fun _ _ _ h => h) (Or.inl ⟨by rfl, ?yy28⟩) (by assumption) ?rr28
      case yy28 => intro w' hSw; (try dsimp only at hSw); go_simp; try (with_reducible rfl)
      (try simp only [Act.put]); (try simp only [List.setIfInBounds_toArray, List.set_cons_zero, List.set_cons_succ])
      refine' take_lit (i := 28) (v := _) rfl (by kernel_rfl) (by kernel_rfl) (by kernel_rfl) (fun _ _ _ h => h) (Or.inl ⟨by rfl, ?yy29⟩) (by assumption) ?rr29
      case yy29 => intro w' hSw; (try dsimp only at hSw); go_simp; try (with_reducible rfl)
      (try simp only [Act.put]); (try simp only [List.setIfInBounds_toArray, List.set_cons_zero, List.set_cons_succ])
      refine' take_lit (i := 29) (v := _) rfl (by kernel_rfl) (by kernel_rfl) (by kernel_rfl) (fun _ _ _ h => h) (Or.inl ⟨by rfl, ?yy30⟩) (by assumption) ?rr30
      case yy30 => intro w' hSw; (try dsimp only at hSw); go_simp; try (with_reducible rfl)
      (try simp only [Act.put]); (try simp only [List.setIfInBounds_toArray, List.set_cons_zero, List.set_cons_succ])
      refine' take_lit (i := 30) (v := _) rfl (by kernel_rfl) (by kernel_rfl) (by kernel_rfl) (fun _ _ _ h => h) (Or.inl ⟨by rfl, ?yy31⟩) (by assumption) ?rr31
      case yy31 => intro w' hSw; (try dsimp only at hSw); go_simp; try (with_reducible rfl)
      (try simp only [Act.put]); (try simp only [List.setIfInBounds_toArray, List.set_cons_zero, List.set_cons_succ])
      refine wpAnyH_ready (rs := [31]) (by kernel_rfl) (by simp) ?_
      refine cons_lit rfl (fun K hK => ?ss31x32) AllReadyH.nil
      case ss31x32 =>
        go_simp
        refine (same_any (cutA A6 c6 4) (cutA (some ⟨g4, 0, none⟩) c4 4) (n4 - 4) (c6 - 4) (n4 - 4) (c4 - 4) (C.drop 4) (Q.drop 4) _ ((Y0.out.rd 4 rfl).cutA (lo := 4) (by omega) (by omega)) ((Y0.out.rd 3 rfl).cutA (lo := 4) (by omega) (by omega)) (by omega) (by omega)).mono ?_
        rintro e wb ⟨rfl, mb, hmb⟩
        rw [HC.out.2.2.1, show (Q.drop 4 == Q.drop 4) = true by simp]
        have Y1 := Lib.hid (hmb ▸ Y0.out.drewN mb)
        clear hmb
        refine hK.out _ _ (by trivial) (fun hHeld => ?_)
        clear hK K
        (try simp only [Act.put]); (try simp only [List.setIfInBounds_toArray, List.set_cons_zero, List.set_cons_succ])
        refine' take_lit (i := 32) (v := _) rfl (by kernel_rfl) (by kernel_rfl) (by kernel_rfl) (fun _ _ _ h => h) (Or.inl ⟨by rfl, ?yy33⟩) (by assumption) ?rr33
        case yy33 => intro w' hSw; (try dsimp only at hSw); go_simp; try (with_reducible rfl)
        (try simp only [Act.put]); (try simp only [List.setIfInBounds_toArray, List.set_cons_zero, List.set_cons_succ])
        refine' take_lit (i := 33) (v := _) rfl (by kernel_rfl) (by kernel_rfl) (by kernel_rfl) (fun _ _ _ h => h) (Or.inl ⟨by rfl, ?yy34⟩) (by assumption) ?rr34
        case yy34 => intro w' hSw; (try dsimp only at hSw); go_simp; try (with_reducible rfl)
        (try simp only [Act.put]); (try simp only [List.setIfInBounds_toArray, List.set_cons_zero, List.set_cons_succ])
        refine' take_lit (i := 34) (v := _) rfl (by kernel_rfl) (by kernel_rfl) (by kernel_rfl) (fun _ _ _ h => h) (Or.inl ⟨by rfl, ?yy35⟩) (by assumption) ?rr35
        case yy35 => intro w' hSw; (try dsimp only at hSw); go_simp; try (with_reducible rfl)
        (try simp only [Act.put]); (try simp only [List.setIfInBounds_toArray, List.set_cons_zero, List.set_cons_succ])
        refine' take_lit (i := 35) (v := _) rfl (by kernel_rfl) (by kernel_rfl) (by kernel_rfl) (fun _ _ _ h => h) (Or.inl ⟨by rfl, ?yy36⟩) (by assumption) ?rr36
        case yy36 => intro w' hSw; (try dsimp only at hSw); go_simp; try (with_reducible rfl)
        (try simp only [Act.put]); (try simp only [List.setIfInBounds_toArray, List.set_cons_zero, List.set_cons_succ])
        refine wpAnyH_ready (rs := [36]) (by kernel_rfl) (by simp) ?_
        refine cons_lit rfl (fun K hK => ?ss36x37) AllReadyH.nil
        case ss36x37 =>
          go_simp
          refine (icverify_any A6 n4 c6 C _ (Y1.out.rd 4 rfl) hCB (by omega)).mono ?_
          rintro e wc ⟨rfl, hbc⟩
          rw [HC.out.2.2.2.1]
          have Y2 := Lib.hid (Y1.out.next hbc)
          clear hbc
          refine hK.out _ _ (by trivial) (fun hHeld => ?_)
          clear hK K
          (try simp only [Act.put]); (try simp only [List.setIfInBounds_toArray, List.set_cons_zero, List.set_cons_succ])
          refine' take_lit (i := 37) (v := _) rfl (by kernel_rfl) (by kernel_rfl) (by kernel_rfl) (fun _ _ _ h => h) (Or.inl ⟨by rfl, ?yy38⟩) (by assumption) ?rr38
          case yy38 => intro w' hSw; (try dsimp only at hSw); go_simp; try (with_reducible rfl)
          (try simp only [Act.put]); (try simp only [List.setIfInBounds_toArray, List.set_cons_zero, List.set_cons_succ])
          refine' take_lit (i := 38) (v := _) rfl (by kernel_rfl) (by kernel_rfl) (by kernel_rfl) (fun _ _ _ h => h) (Or.inl ⟨by rfl, ?yy39⟩) (by assumption) ?rr39
          case yy39 => intro w' hSw; (try dsimp only at hSw); go_simp; try (with_reducible rfl)
          (try simp only [Act.put]); (try simp only [List.setIfInBounds_toArray, List.set_cons_zero, List.set_cons_succ])
          refine wpAnyH_done (by kernel_rfl) ?_ _
          refine NoPanic.normal ?_
          clear Y0 Y1 X9 s4 s4' nn
          have hT := HS.out _ Y2.out.bel
          obtain ⟨tq, frq, hbq⟩ := hT.q
          have r0 := hT.r.cell (i := 0) (by decide)
          have r1 := hT.r.cell (i := 1) (by decide)
          have r2 := hT.r.cell (i := 2) (by decide)
          clear hT r0 r1 r2
          go_wp2_with (refine wpList_load_row rfl 47 _ rfl 0 rfl tq #[.int .u8 8, .int .u8 13, .int .u8 17] frq _ hbq Tryd.underlying47 rfl (by kernel_rfl) ?_)
          clear hbq
          have HYX := Lib.hid (fun (W : World) (hb : Below wc.heap.size wc W) => (show SP w W [.blk w.heap.size 36 #[.int .u8 T, .int .u8 cd, .int .u16 id, .int .u16 seq, .slice A n c], .own .u8 5 A2 n2 c2 ys, .blk w2.heap.size 27 (msg4 (ty : Int) cv id seq), .own .u8 5 (some ⟨g4, 0, none⟩) n4 c4 Q, .own .u8 5 A6 n4 c6 C, .blk w7.heap.size 27 (msg4 (r : Int) 0 id seq), .own .u8 5 A9 0 c9 []] from Y2.out.next hb))
          go_loopw [124] (fun i wr => ∃ k : Nat, k ≤ 3 ∧ i = .int .i64 k ∧ Hid (Below wc.heap.size wc wr)) (fun i _ => 3 - (intOf i).toNat)
          case atStart => exact ⟨0, by omega, rfl, Lib.hid (Below.refl _ _)⟩
          case round =>
            obtain ⟨k, hk, rfl, HB⟩ := hrel
            obtain ⟨wo, rfl⟩ : ∃ wo : World, wo = wr := ⟨_, rfl⟩
            have HW := Lib.hid (HYX.out wo HB.out)
            have i0 := fun W => idx3_0 (.int .u8 8) (.int .u8 13) (.int .u8 17) W
            have i1 := fun W => idx3_1 (.int .u8 8) (.int .u8 13) (.int .u8 17) W
            have i2 := fun W => idx3_2 (.int .u8 8) (.int .u8 13) (.int .u8 17) W
            have f0 : wo.cell? ⟨w7.heap.size, 0, none⟩ = some (.int .u8 (r : Int)) := HW.out.cell 5 rfl 0 rfl
            have f1 : wo.cell? ⟨w7.heap.size, 1, none⟩ = some (.int .u8 0) := HW.out.cell 5 rfl 1 rfl
            have g0 : wo.cell? ⟨w2.heap.size, 0, none⟩ = some (.int .u8 (ty : Int)) := HW.out.cell 2 rfl 0 rfl
            have hT := HS.out _ HW.out.bel
            have r0 : wo.cell? ⟨1, 0, none⟩ = some (.int .u8 0) := hT.r.cell (i := 0) (by decide)
            have r1 : wo.cell? ⟨1, 1, none⟩ = some (.int .u8 14) := hT.r.cell (i := 1) (by decide)
            have r2 : wo.cell? ⟨1, 2, none⟩ = some (.int .u8 18) := hT.r.cell (i := 2) (by decide)
            clear hT
            rcases (show k = 0 ∨ k = 1 ∨ k = 2 ∨ k = 3 by omega) with rfl | rfl | rfl | rfl
            · obtain ⟨ty', hty'⟩ : ∃ t' : Int, t' = (ty : Int) := ⟨_, rfl⟩
              obtain ⟨r', hr'⟩ : ∃ t' : Int, t' = (r : Int) := ⟨_, rfl⟩
              rw [← hr'] at f0
              rw [← hty'] at g0
              have hc : (ty' = 8 ∧ r' = 0) ∨ (ty' = 13 ∧ r' = 14) ∨ (ty' = 17 ∧ r' = 18) := by have := HRR.out; omega
              clear hty' hr'
              rcases hc with ⟨rfl, rfl⟩ | ⟨rfl, rfl⟩ | ⟨rfl, rfl⟩
              · go_wp2_with fail
                go_quiet (fail)
                go_wp2_with fail
                go_roundw
                case rel => exact ⟨1, by omega, rfl, Lib.hid (below_drewN HB.out _)⟩
                case measure => simp [intOf]
              · go_wp2_with fail
                go_quiet (fail)
                go_wp2_with fail
                go_roundw
                case rel => exact ⟨1, by omega, rfl, Lib.hid (below_drewN HB.out _)⟩
                case measure => simp [intOf]
              · go_wp2_with fail
                go_quiet (fail)
                go_wp2_with fail
                go_roundw
                case rel => exact ⟨1, by omega, rfl, Lib.hid (below_drewN HB.out _)⟩
                case measure => simp [intOf]
            · obtain ⟨ty', hty'⟩ : ∃ t' : Int, t' = (ty : Int) := ⟨_, rfl⟩
              obtain ⟨r', hr'⟩ : ∃ t' : Int, t' = (r : Int) := ⟨_, rfl⟩
              rw [← hr'] at f0
              rw [← hty'] at g0
              have hc : (ty' = 8 ∧ r' = 0) ∨ (ty' = 13 ∧ r' = 14) ∨ (ty' = 17 ∧ r' = 18) := by have := HRR.out; omega
              clear hty' hr'
              rcases hc with ⟨rfl, rfl⟩ | ⟨rfl, rfl⟩ | ⟨rfl, rfl⟩
              · go_wp2_with fail
                go_quiet (fail)
                go_wp2_with fail
                go_roundw
                case rel => exact ⟨2, by omega, rfl, Lib.hid (below_drewN HB.out _)⟩
                case measure => simp [intOf]
              · go_wp2_with fail
                go_quiet (fail)
                go_wp2_with fail
                go_roundw
                case rel => exact ⟨2, by omega, rfl, Lib.hid (below_drewN HB.out _)⟩
                case measure => simp [intOf]
              · go_wp2_with fail
                go_quiet (fail)
                go_wp2_with fail
                go_roundw
                case rel => exact ⟨2, by omega, rfl, Lib.hid (below_drewN HB.out _)⟩
                case measure => simp [intOf]
            · obtain ⟨ty', hty'⟩ : ∃ t' : Int, t' = (ty : Int) := ⟨_, rfl⟩
              obtain ⟨r', hr'⟩ : ∃ t' : Int, t' = (r : Int) := ⟨_, rfl⟩
              rw [← hr'] at f0
              rw [← hty'] at g0
              have hc : (ty' = 8 ∧ r' = 0) ∨ (ty' = 13 ∧ r' = 14) ∨ (ty' = 17 ∧ r' = 18) := by have := HRR.out; omega
              clear hty' hr'
              rcases hc with ⟨rfl, rfl⟩ | ⟨rfl, rfl⟩ | ⟨rfl, rfl⟩
              · go_wp2_with fail
                go_quiet (fail)
                go_wp2_with fail
                go_roundw
                case rel => exact ⟨3, by omega, rfl, Lib.hid (below_drewN HB.out _)⟩
                case measure => simp [intOf]
              · go_wp2_with fail
                go_quiet (fail)
                go_wp2_with fail
                go_roundw
                case rel => exact ⟨3, by omega, rfl, Lib.hid (below_drewN HB.out _)⟩
                case measure => simp [intOf]
              · go_wp2_with fail
                go_quiet (fail)
                go_wp2_with fail
                go_roundw
                case rel => exact ⟨3, by omega, rfl, Lib.hid (below_drewN HB.out _)⟩
                case measure => simp [intOf]
            · go_wp2_with fail
              go_ret
              exact ⟨rfl, HW.out.bel⟩
    · have hkd : kd ≠ 3 := by rw [← HSK.out]; exact hk3
      have t3 : (kd != 3) = true := by simp [hkd]
      rw [HA.out.1, if_neg hk3]
      rw [HA.out.2.1 hk3] at own6
      have hn6 : 0 = n6 := own6.len
      subst hn6
      have X6 := Lib.hid (X.out.next hb6)
      clear own6 hb6 X hk3 HA hkd
      go_wp2_with fail
      go_ret
      exact ⟨rfl, X6.out.bel⟩
end Go.Proofs.YtjbkfhdbgphodaaDoor
