/- The walk of IcmpQuotes. (Printed by gen_icquotes.py.) -/
import Derived.Test.YtdepibljeopcgaaDoorLIcQb
import Derived.Deep.DeepCutAuto
namespace Go.Proofs.YtdepibljeopcgaaDoor
open Go.RowKit
set_option linter.unusedVariables false
set_option linter.unusedSimpArgs false
attribute [local go_sem ↓] Go.wp_at_zero Go.wp_at_succ

theorem zeros_bd' (n : Nat) : BD 255 (List.replicate n (0 : Int)) := fun x hx => by have := List.eq_of_mem_replicate hx; omega
theorem idx3' (x y z : Value) (j : Nat) (hj : j < 3) (W : World) : (Instr.index 36 (.agg #[x, y, z]) (.int .u8 (j : Int))).run Tryd.prog W = .ok (#[x, y, z].getD j undef) W := by
  rcases (show j = 0 ∨ j = 1 ∨ j = 2 by omega) with rfl | rfl | rfl <;> kernel_rfl

set_option maxHeartbeats 32000000 in
set_option maxRecDepth 100000 in
theorem icmpQuotes_walk (x0 x1 x2 x3 x4 x5 x6 x7 x8 x9 x10 x11 wd fr tp : Int) (df mf : Bool) (T cd id seq : Int) (A : Option Addr) (n c : Nat) (zs : List Int) (ct py : Int) (w : World) (hx0 : 0 ≤ x0 ∧ x0 ≤ 255) (hx1 : 0 ≤ x1 ∧ x1 ≤ 255) (hx2 : 0 ≤ x2 ∧ x2 ≤ 255) (hx3 : 0 ≤ x3 ∧ x3 ≤ 255) (hx4 : 0 ≤ x4 ∧ x4 ≤ 255) (hx5 : 0 ≤ x5 ∧ x5 ≤ 255) (hx6 : 0 ≤ x6 ∧ x6 ≤ 255) (hx7 : 0 ≤ x7 ∧ x7 ≤ 255) (hx8 : 0 ≤ x8 ∧ x8 ≤ 255) (hx9 : 0 ≤ x9 ∧ x9 ≤ 255) (hx10 : 0 ≤ x10 ∧ x10 ≤ 255) (hx11 : 0 ≤ x11 ∧ x11 ≤ 255) (hwd : 0 ≤ wd ∧ wd ≤ 255) (hfr : 0 ≤ fr ∧ fr ≤ 65535) (htp : 0 ≤ tp ∧ tp ≤ 65535) (hT : 0 ≤ T ∧ T ≤ 255) (hcd : 0 ≤ cd ∧ cd ≤ 255) (hid : 0 ≤ id ∧ id ≤ 65535) (hseq : 0 ≤ seq ∧ seq ≤ 65535) (h : ROW .u8 255 w A n c zs) (hct : 0 ≤ ct ∧ ct ≤ 255) (hpy : 0 ≤ py ∧ py ≤ 255) (hS : TABS w) :
    Calls Tryd.prog 3 #[.agg #[.int .u8 x0, .int .u8 x1, .int .u8 x2, .int .u8 x3, .int .u8 x4, .int .u8 x5, .int .u8 x6, .int .u8 x7, .int .u8 x8, .int .u8 x9, .int .u8 x10, .int .u8 x11, .int .u8 wd, .int .u16 fr, .int .u16 tp, .bool df, .bool mf, .int .u8 T, .int .u8 cd, .int .u16 id, .int .u16 seq, .slice A n c, .int .u8 ct], .int .u8 py] w fun e w' => e = .returned (.bool true) ∧ Below w.heap.size w w' := by
  obtain ⟨i0, hi, hz0, hz1, hz2⟩ := info_parts infoU8
  have R := Lib.hid (fun (W : World) (hb : Below w.heap.size w W) => (show RD .u8 W W.heap.size A n zs from (h.rd.below hb).more hb.size))
  have hz := h.bd
  have hn := h.le
  have hcm := h.cap
  have HS := Lib.hid (fun (W : World) (hb : Below w.heap.size w W) => hS.below hb)
  have S0 := Lib.hid ((SP.start w).alloc 28 #[.int .u8 x0, .int .u8 x1, .int .u8 x2, .int .u8 x3, .int .u8 x4, .int .u8 x5, .int .u8 x6, .int .u8 x7, .int .u8 x8, .int .u8 x9, .int .u8 x10, .int .u8 x11, .int .u8 wd, .int .u16 fr, .int .u16 tp, .bool df, .bool mf, .int .u8 T, .int .u8 cd, .int .u16 id, .int .u16 seq, .slice A n c, .int .u8 ct])
  clear h hS
  obtain ⟨lx0, ux0⟩ := hx0
  obtain ⟨lx1, ux1⟩ := hx1
  obtain ⟨lx2, ux2⟩ := hx2
  obtain ⟨lx3, ux3⟩ := hx3
  obtain ⟨lx4, ux4⟩ := hx4
  obtain ⟨lx5, ux5⟩ := hx5
  obtain ⟨lx6, ux6⟩ := hx6
  obtain ⟨lx7, ux7⟩ := hx7
  obtain ⟨lx8, ux8⟩ := hx8
  obtain ⟨lx9, ux9⟩ := hx9
  obtain ⟨lx10, ux10⟩ := hx10
  obtain ⟨lx11, ux11⟩ := hx11
  obtain ⟨lwd, uwd⟩ := hwd
  go_enter Tryd.func3, Tryd.ntmps3
  go_upto_region 1 with fail
  generalize w.alloc (.cells #[.int .u8 x0, .int .u8 x1, .int .u8 x2, .int .u8 x3, .int .u8 x4, .int .u8 x5, .int .u8 x6, .int .u8 x7, .int .u8 x8, .int .u8 x9, .int .u8 x10, .int .u8 x11, .int .u8 wd, .int .u16 fr, .int .u16 tp, .bool df, .bool mf, .int .u8 T, .int .u8 cd, .int .u16 id, .int .u16 seq, .slice A n c, .int .u8 ct] 28) = w0 at S0 ⊢
  go_wp2_with fail
  refine (awake10_any _ (HS.out _ S0.out.bel).s).mono ?_
  rintro e w1 ⟨rfl, hb1⟩
  have S1 := Lib.hid (show SP w w1 [.blk w.heap.size 28 #[.int .u8 x0, .int .u8 x1, .int .u8 x2, .int .u8 x3, .int .u8 x4, .int .u8 x5, .int .u8 x6, .int .u8 x7, .int .u8 x8, .int .u8 x9, .int .u8 x10, .int .u8 x11, .int .u8 wd, .int .u16 fr, .int .u16 tp, .bool df, .bool mf, .int .u8 T, .int .u8 cd, .int .u16 id, .int .u16 seq, .slice A n c, .int .u8 ct]] from S0.out.next hb1)
  clear S0 hb1
  obtain ⟨N, hN⟩ : ∃ N, N = w.heap.size := ⟨_, rfl⟩
  rw [← hN] at S1 ⊢
  have HN := Lib.hid hN
  clear hN
  obtain ⟨jp, hjp⟩ : ∃ jp : Nat, py % 3 = (jp : Int) := ⟨(py % 3).toNat, by omega⟩
  have hjp3 : jp < 3 := by omega
  obtain ⟨wq, hwq⟩ : ∃ wq : Nat, wd % 11 = (wq : Int) := ⟨(wd % 11).toNat, by omega⟩
  have hwq11 : wq < 11 := by omega
  obtain ⟨on, hon⟩ : ∃ on : Nat, 4 * (wq : Int) = (on : Int) := ⟨4 * wq, by omega⟩
  have hon40 : on ≤ 40 := by omega
  have hon4 : on % 4 = 0 := by omega
  obtain ⟨pr, hpr⟩ : ∃ pr, pr = PRS[jp]?.getD 0 := ⟨_, rfl⟩
  have hpr1 : (jp = 0 ∧ pr = 1) ∨ (jp = 1 ∧ pr = 6) ∨ (jp = 2 ∧ pr = 17) := by
    rw [hpr]; rcases (show jp = 0 ∨ jp = 1 ∨ jp = 2 by omega) with rfl | rfl | rfl <;> simp [PRS]
  have HPR := Lib.hid hpr1
  have HPRE := Lib.hid hpr
  clear hpr hpr1
  obtain ⟨src, hsrc⟩ : ∃ src, src = x3 * 16777216 + x4 := ⟨_, rfl⟩
  obtain ⟨dst, hdst⟩ : ∃ dst, dst = x5 * 16777216 + x6 * 65536 := ⟨_, rfl⟩
  have hsb : 0 ≤ src ∧ src ≤ 4294967295 := by omega
  have hdb : 0 ≤ dst ∧ dst ≤ 4294967295 := by omega
  have e1 : IntKind.u16.wrap x1 = x1 := u16_in _ (by omega) (by omega)
  have e2 : IntKind.u32.wrap x3 = x3 := u32_in _ (by omega) (by omega)
  have e3 : IntKind.u32.wrap (x3 * 16777216) = x3 * 16777216 := u32_in _ (by omega) (by omega)
  have e4 : IntKind.u32.wrap x4 = x4 := u32_in _ (by omega) (by omega)
  have e5 : bits .or .u32 (x3 * 16777216) x4 = src := by
    rw [hsrc]
    exact bits_join .u32 32 (by decide) (fun n h0 h1 => by rw [IntKind.wrap_u32]; omega) 24 (x3 * 16777216) x4 (by omega) (by omega) (by omega) (by omega) (by omega) (by omega)
  have e6 : IntKind.u32.wrap x5 = x5 := u32_in _ (by omega) (by omega)
  have e7 : IntKind.u32.wrap (x5 * 16777216) = x5 * 16777216 := u32_in _ (by omega) (by omega)
  have e8 : IntKind.u32.wrap x6 = x6 := u32_in _ (by omega) (by omega)
  have e9 : IntKind.u32.wrap (x6 * 65536) = x6 * 65536 := u32_in _ (by omega) (by omega)
  have ea : bits .or .u32 (x5 * 16777216) (x6 * 65536) = dst := by
    rw [hdst]
    exact bits_join .u32 32 (by decide) (fun n h0 h1 => by rw [IntKind.wrap_u32]; omega) 24 (x5 * 16777216) (x6 * 65536) (by omega) (by omega) (by omega) (by omega) (by omega) (by omega)
  have ez : wd.tmod 11 = (wq : Int) := by rw [Int.tmod_eq_emod_of_nonneg lwd]; exact hwq
  have ey : py.tmod 3 = (jp : Int) := by rw [Int.tmod_eq_emod_of_nonneg hpy.1]; exact hjp
  have eb : IntKind.i64.wrap (wq : Int) = (wq : Int) := IntWalk.i64_in _ (by omega)
  have ec : IntKind.i64.wrap (4 * (wq : Int)) = (on : Int) := by rw [hon]; exact IntWalk.i64_in _ (by omega)
  have ed : IntKind.u8.wrap (py % 3) = (jp : Int) := by rw [hjp]; exact u8_in _ (by omega) (by omega)
  have ej : (0 : Int) ≤ (jp : Int) := by omega
  have ek : (jp : Int) < 3 := by omega
  clear hsrc hdst hon hwq
  go_upto_region 3 with fail
  go_cut [5] (fun s5 wx => ∃ (M : Nat) (Ao : Option Addr), s5 = .pointer (some ⟨M, 0, none⟩) ∧ SP w wx [.blk N 28 #[.int .u8 x0, .int .u8 x1, .int .u8 x2, .int .u8 x3, .int .u8 x4, .int .u8 x5, .int .u8 x6, .int .u8 x7, .int .u8 x8, .int .u8 x9, .int .u8 x10, .int .u8 x11, .int .u8 wd, .int .u16 fr, .int .u16 tp, .bool df, .bool mf, .int .u8 T, .int .u8 cd, .int .u16 id, .int .u16 seq, .slice A n c, .int .u8 ct], .blk M 33 ((qHD x0 x1 x2 pr src dst df false).cells (.slice Ao on on)), .own .u8 5 Ao on on (List.replicate on 0)])
  case first =>
    have X0 := Lib.hid S1.out.drew
    refine wp_region_noPanic ?_
    refine wp_region_held_drew (S := fun W => W.cell? ⟨N, 0, none⟩ = some (.int .u8 x0) ∧ W.cell? ⟨N, 1, none⟩ = some (.int .u8 x1) ∧ W.cell? ⟨N, 2, none⟩ = some (.int .u8 x2) ∧ W.cell? ⟨N, 3, none⟩ = some (.int .u8 x3) ∧ W.cell? ⟨N, 4, none⟩ = some (.int .u8 x4) ∧ W.cell? ⟨N, 5, none⟩ = some (.int .u8 x5) ∧ W.cell? ⟨N, 6, none⟩ = some (.int .u8 x6) ∧ W.cell? ⟨N, 12, none⟩ = some (.int .u8 wd) ∧ W.cell? ⟨N, 15, none⟩ = some (.bool df)) (by kernel_rfl) (by exact ⟨X0.out.cell 0 rfl 0 rfl, X0.out.cell 0 rfl 1 rfl, X0.out.cell 0 rfl 2 rfl, X0.out.cell 0 rfl 3 rfl, X0.out.cell 0 rfl 4 rfl, X0.out.cell 0 rfl 5 rfl, X0.out.cell 0 rfl 6 rfl, X0.out.cell 0 rfl 12 rfl, X0.out.cell 0 rfl 15 rfl⟩) (fun hHeld => ?_)
    generalize w1.drew = v0 at X0 hHeld ⊢
    refine icqa_0 w N x0 x1 x2 x3 x4 x5 x6 x7 x8 x9 x10 x11 wd fr tp df mf T cd id seq A n c ct py src dst pr jp wq on hjp3 (by omega) HPRE e1 e2 e3 e4 e5 e6 e7 e8 e9 ea ez ey eb ec ed ej ek _ X0 (Lib.hid ?_)
    intro _ _ _ _ _ _ _ _ _ _ _ _ _ _ _ _ _ _ _ _ _ _ _ _ _ _ _ _ _ _ _ _ _ _ _ _ _ _ _ _ _ _ _ _ _ gb gm ga v9 hF
    simp only [Exit.then]
    go_step
    go_meet
    exact ⟨ga, some ⟨gm, 0, none⟩, rfl, hF.pick [0, 3, 2] (by decide) rfl⟩
  case rest =>
    obtain ⟨M, Ao, rfl, hZ⟩ := hcut
    have Z := Lib.hid hZ
    clear hZ S1 e1 e2 e3 e4 e5 e6 e7 e8 e9 ea eb ec ed ey ez
    have hjp : py % 3 = (jp : Int) := by
      obtain ⟨q1, q2⟩ := hpy
      exact hjp
    obtain ⟨m1, hm1⟩ : ∃ m1 : Int, (if fr < 1 then (1 : Int) else fr) = m1 := ⟨_, rfl⟩
    obtain ⟨m2, hm2⟩ : ∃ m2 : Int, (if tp < 1 then (1 : Int) else tp) = m2 := ⟨_, rfl⟩
    have hm1b : 1 ≤ m1 ∧ m1 ≤ 65535 := by split at hm1 <;> omega
    have hm2b : 1 ≤ m2 ∧ m2 ≤ 65535 := by split at hm2 <;> omega
    have y6 : wc.cell? ⟨M, 6, none⟩ = some (.int .u8 pr) := Z.out.cell 1 rfl 6 rfl
    have y7 : wc.cell? ⟨M, 7, none⟩ = some (.int .u32 src) := Z.out.cell 1 rfl 7 rfl
    have y8 : wc.cell? ⟨M, 8, none⟩ = some (.int .u32 dst) := Z.out.cell 1 rfl 8 rfl
    have z13 : wc.cell? ⟨N, 13, none⟩ = some (.int .u16 fr) := Z.out.cell 0 rfl 13 rfl
    have z14 : wc.cell? ⟨N, 14, none⟩ = some (.int .u16 tp) := Z.out.cell 0 rfl 14 rfl
    have Z2 := Lib.hid (Z.out.alloc 35 (key5 pr src dst m1 m2))
    have ix : ∀ W : World, (Instr.index 36 (.agg #[.int .u8 0, .int .u8 1, .int .u8 2]) (.int .u8 (jp : Int))).run Tryd.prog W = .ok (.int .u8 (jp : Int)) W := fun W => by
      rcases (show jp = 0 ∨ jp = 1 ∨ jp = 2 by omega) with rfl | rfl | rfl <;> kernel_rfl
    go_upto_region 6 with fail
    rw [show wc.alloc (.cells #[.int .u8 pr, .int .u32 src, .int .u32 dst, .int .u16 m1, .int .u16 m2] 35) = wc.alloc (.cells (key5 pr src dst m1 m2) 35) from rfl]
    generalize wc.alloc (.cells (key5 pr src dst m1 m2) 35) = w2 at Z2 ⊢
    obtain ⟨KB, hKB⟩ : ∃ K, K = wc.heap.size := ⟨_, rfl⟩
    rw [← hKB] at Z2 ⊢
    replace Z2 := Lib.hid (show SP w w2 [.blk N 28 #[.int .u8 x0, .int .u8 x1, .int .u8 x2, .int .u8 x3, .int .u8 x4, .int .u8 x5, .int .u8 x6, .int .u8 x7, .int .u8 x8, .int .u8 x9, .int .u8 x10, .int .u8 x11, .int .u8 wd, .int .u16 fr, .int .u16 tp, .bool df, .bool mf, .int .u8 T, .int .u8 cd, .int .u16 id, .int .u16 seq, .slice A n c, .int .u8 ct], .blk M 33 ((qHD x0 x1 x2 pr src dst df false).cells (.slice Ao on on)), .own .u8 5 Ao on on (List.replicate on 0), .blk KB 35 (key5 pr src dst m1 m2)] from Z2.out)
    clear hKB y6 y7 y8 z13 z14 Z ix hm1 hm2
    have g1 : IntKind.u8.wrap (m1 / 256) = m1 / 256 := u8_in _ (by omega) (by omega)
    have g2 : IntKind.u8.wrap m1 = m1 % 256 := rfl
    have g3 : IntKind.u8.wrap (m2 / 256) = m2 / 256 := u8_in _ (by omega) (by omega)
    have g4 : IntKind.u8.wrap m2 = m2 % 256 := rfl
    have X0 := Lib.hid Z2.out.drew
    refine wp_region_noPanic ?_
    refine wp_region_held_drew (S := fun W => W.cell? ⟨KB, 3, none⟩ = some (.int .u16 m1) ∧ W.cell? ⟨KB, 4, none⟩ = some (.int .u16 m2)) (by kernel_rfl) (by exact ⟨X0.out.cell 3 rfl 3 rfl, X0.out.cell 3 rfl 4 rfl⟩) (fun hHeld => ?_)
    generalize w2.drew = v0 at X0 hHeld ⊢
    refine' take_lit (i := 0) (v := _) rfl (by kernel_rfl) (by kernel_rfl) (by kernel_rfl) (fun _ _ _ h => h) (Or.inl ⟨by rfl, ?yy1⟩) (by assumption) ?rr1
    case yy1 => intro w' hSw; (try dsimp only at hSw); go_simp; try (with_reducible rfl)
    (try simp only [Act.put]); (try simp only [List.setIfInBounds_toArray, List.set_cons_zero, List.set_cons_succ])
    refine' take_lit (i := 1) (v := _) rfl (by kernel_rfl) (by kernel_rfl) (by kernel_rfl) (fun _ _ _ h => h) (Or.inl ⟨by rfl, ?yy2⟩) (by assumption) ?rr2
    case yy2 => intro w' hSw; (try dsimp only at hSw); go_simp; try (with_reducible rfl)
    (try simp only [Act.put]); (try simp only [List.setIfInBounds_toArray, List.set_cons_zero, List.set_cons_succ])
    refine' take_lit (i := 2) (v := _) rfl (by kernel_rfl) (by kernel_rfl) (by kernel_rfl) (fun _ _ _ h => h) (Or.inl ⟨by rfl, ?yy3⟩) (by assumption) ?rr3
    case yy3 => intro w' hSw; (try dsimp only at hSw); go_simp; try (with_reducible rfl)
    (try simp only [Act.put]); (try simp only [List.setIfInBounds_toArray, List.set_cons_zero, List.set_cons_succ])
    refine' take_lit (i := 3) (v := _) rfl (by kernel_rfl) (by kernel_rfl) (by kernel_rfl) (fun _ _ _ h => h) (Or.inl ⟨by rfl, ?yy4⟩) (by assumption) ?rr4
    case yy4 => intro w' hSw; (try dsimp only at hSw); go_simp; try (with_reducible rfl)
    (try simp only [Act.put]); (try simp only [List.setIfInBounds_toArray, List.set_cons_zero, List.set_cons_succ])
    refine' take_lit (i := 4) (v := _) rfl (by kernel_rfl) (by kernel_rfl) (by kernel_rfl) (fun _ _ _ h => h) (Or.inl ⟨by rfl, ?yy5⟩) (by assumption) ?rr5
    case yy5 => intro w' hSw; (try dsimp only at hSw); go_simp; try (with_reducible rfl)
    (try simp only [Act.put]); (try simp only [List.setIfInBounds_toArray, List.set_cons_zero, List.set_cons_succ])
    refine' take_lit (i := 5) (v := _) rfl (by kernel_rfl) (by kernel_rfl) (by kernel_rfl) (fun _ _ _ h => h) (Or.inl ⟨by rfl, ?yy6⟩) (by assumption) ?rr6
    case yy6 => intro w' hSw; (try dsimp only at hSw); go_simp; try (with_reducible rfl)
    (try simp only [Act.put]); (try simp only [List.setIfInBounds_toArray, List.set_cons_zero, List.set_cons_succ])
    refine' take_lit (i := 6) (v := _) rfl (by kernel_rfl) (by kernel_rfl) (by kernel_rfl) (fun _ _ _ h => h) (Or.inl ⟨by rfl, ?yy7⟩) (by assumption) ?rr7
    case yy7 => intro w' hSw; (try dsimp only at hSw); go_simp; try (with_reducible rfl)
    (try simp only [Act.put]); (try simp only [List.setIfInBounds_toArray, List.set_cons_zero, List.set_cons_succ])
    refine' take_lit (i := 7) (v := _) rfl (by kernel_rfl) (by kernel_rfl) (by kernel_rfl) (fun _ _ _ h => h) (Or.inl ⟨by rfl, ?yy8⟩) (by assumption) ?rr8
    case yy8 => intro w' hSw; (try dsimp only at hSw); go_simp; try (with_reducible rfl)
    (try simp only [Act.put]); (try simp only [List.setIfInBounds_toArray, List.set_cons_zero, List.set_cons_succ])
    refine' take_lit (i := 8) (v := _) rfl (by kernel_rfl) (by kernel_rfl) (by kernel_rfl) (fun _ _ _ h => h) (Or.inl ⟨by rfl, ?yy9⟩) (by assumption) ?rr9
    case yy9 => intro w' hSw; (try dsimp only at hSw); go_simp; try (with_reducible rfl)
    (try simp only [Act.put]); (try simp only [List.setIfInBounds_toArray, List.set_cons_zero, List.set_cons_succ])
    refine' take_lit (i := 9) (v := _) rfl (by kernel_rfl) (by kernel_rfl) (by kernel_rfl) (fun _ _ _ h => h) (Or.inl ⟨by rfl, ?yy10⟩) (by assumption) ?rr10
    case yy10 => intro w' hSw; (try dsimp only at hSw); go_simp; try (with_reducible rfl)
    (try simp only [Act.put]); (try simp only [List.setIfInBounds_toArray, List.set_cons_zero, List.set_cons_succ])
    refine' take_lit (i := 10) (v := _) rfl (by kernel_rfl) (by kernel_rfl) (by kernel_rfl) (fun _ _ _ h => h) (Or.inl ⟨by rfl, ?yy11⟩) (by assumption) ?rr11
    case yy11 => intro w' hSw; (try dsimp only at hSw); go_simp; try (with_reducible rfl)
    (try simp only [Act.put]); (try simp only [List.setIfInBounds_toArray, List.set_cons_zero, List.set_cons_succ])
    refine' take_lit (i := 11) (v := _) rfl (by kernel_rfl) (by kernel_rfl) (by kernel_rfl) (fun _ _ _ h => h) (Or.inl ⟨by rfl, ?yy12⟩) (by assumption) ?rr12
    case yy12 => intro w' hSw; (try dsimp only at hSw); go_simp; try (with_reducible rfl)
    (try simp only [Act.put]); (try simp only [List.setIfInBounds_toArray, List.set_cons_zero, List.set_cons_succ])
    refine' take_lit (i := 12) (v := _) rfl (by kernel_rfl) (by kernel_rfl) (by kernel_rfl) (fun _ _ _ h => h) (Or.inl ⟨by rfl, ?yy13⟩) (by assumption) ?rr13
    case yy13 => intro w' hSw; (try dsimp only at hSw); go_simp; try (with_reducible rfl)
    (try simp only [Act.put]); (try simp only [List.setIfInBounds_toArray, List.set_cons_zero, List.set_cons_succ])
    refine' take_lit (i := 13) (v := _) rfl (by kernel_rfl) (by kernel_rfl) (by kernel_rfl) (fun _ _ _ h => h) (Or.inl ⟨by rfl, ?yy14⟩) (by assumption) ?rr14
    case yy14 => intro w' hSw; (try dsimp only at hSw); go_simp; try (with_reducible rfl)
    (try simp only [Act.put]); (try simp only [List.setIfInBounds_toArray, List.set_cons_zero, List.set_cons_succ])
    refine' take_lit (i := 15) (v := _) rfl (by kernel_rfl) (by kernel_rfl) (by kernel_rfl) (fun _ _ _ h => h) (Or.inl ⟨by rfl, ?yy15⟩) (by assumption) ?rr15
    case yy15 => intro w' hSw; (try dsimp only at hSw); go_simp; try (with_reducible rfl)
    (try simp only [Act.put]); (try simp only [List.setIfInBounds_toArray, List.set_cons_zero, List.set_cons_succ])
    refine' take_lit (i := 16) (v := _) rfl (by kernel_rfl) (by kernel_rfl) (by kernel_rfl) (fun _ _ _ h => h) (Or.inl ⟨by rfl, ?yy16⟩) (by assumption) ?rr16
    case yy16 => intro w' hSw; (try dsimp only at hSw); go_simp; try (with_reducible rfl)
    (try simp only [Act.put]); (try simp only [List.setIfInBounds_toArray, List.set_cons_zero, List.set_cons_succ])
    refine wpAnyH_ready (rs := [14]) (by kernel_rfl) (by simp) ?_
    refine cons_lit rfl (fun K hK => ?ss14x17) AllReadyH.nil
    case ss14x17 =>
      go_simp
      obtain ⟨gl, hgl⟩ : ∃ g, g = v0.heap.size := ⟨_, rfl⟩
      rw [← hgl]
      refine nameW (fun v1 hv1 => ?_)
      have X1 := Lib.hid (show SP w v1 [.blk N 28 #[.int .u8 x0, .int .u8 x1, .int .u8 x2, .int .u8 x3, .int .u8 x4, .int .u8 x5, .int .u8 x6, .int .u8 x7, .int .u8 x8, .int .u8 x9, .int .u8 x10, .int .u8 x11, .int .u8 wd, .int .u16 fr, .int .u16 tp, .bool df, .bool mf, .int .u8 T, .int .u8 cd, .int .u16 id, .int .u16 seq, .slice A n c, .int .u8 ct], .blk M 33 ((qHD x0 x1 x2 pr src dst df false).cells (.slice Ao on on)), .own .u8 5 Ao on on (List.replicate on 0), .blk KB 35 (key5 pr src dst m1 m2), .own .u8 5 (some ⟨gl, 0, none⟩) 4 4 [m1 / 256, m1 % 256, m2 / 256, m2 % 256]] by rw [hv1, hgl]; exact X0.out.allocI .u8 5 [m1 / 256, m1 % 256, m2 / 256, m2 % 256] (by simp [maxLen]))
      clear hv1 hgl
      refine hK.out _ _ (by exact ⟨X1.out.cell 3 rfl 3 rfl, X1.out.cell 3 rfl 4 rfl⟩) (fun hHeld => ?_)
      clear hK K
      (try simp only [Act.put]); (try simp only [List.setIfInBounds_toArray, List.set_cons_zero, List.set_cons_succ])
      refine wpAnyH_ready (rs := [17]) (by kernel_rfl) (by simp) ?_
      refine cons_lit rfl (fun K hK => ?ss17x18) AllReadyH.nil
      case ss17x18 =>
        have hbox := X1.out.blk 0 rfl
        have rt : RD .u8 v1 v1.heap.size (some ⟨N, 4, none⟩) 8 [x4, x5, x6, x7, x8, x9, x10, x11] := ⟨rfl, fun _ => ⟨N, 4, rfl, hbox.lt, fun i hi => by
          have hh := hbox.cell (4 + i)
          rcases (show i = 0 ∨ i = 1 ∨ i = 2 ∨ i = 3 ∨ i = 4 ∨ i = 5 ∨ i = 6 ∨ i = 7 by omega) with rfl | rfl | rfl | rfl | rfl | rfl | rfl | rfl <;> exact hh⟩⟩
        refine step_append_rd _ (by rfl) _ _ 24 (by rfl) .u8 w.heap.size 5 i0 1 Tryd.underlying24 hi hz0 hz1 hz2 (some ⟨gl, 0, none⟩) 4 4 [m1 / 256, m1 % 256, m2 / 256, m2 % 256] (by rfl) (by exact X1.out.own 4 rfl) _ (some ⟨N, 4, none⟩) 8 8 [x4, x5, x6, x7, x8, x9, x10, x11] (by rfl) (by exact rt) (by simp only [maxLen]; omega) (by omega) (by exact X1.out.size) ?_
        intro Ad cd0 v2 happ
        have X2 := Lib.hid (show SP w v2 [.blk N 28 #[.int .u8 x0, .int .u8 x1, .int .u8 x2, .int .u8 x3, .int .u8 x4, .int .u8 x5, .int .u8 x6, .int .u8 x7, .int .u8 x8, .int .u8 x9, .int .u8 x10, .int .u8 x11, .int .u8 wd, .int .u16 fr, .int .u16 tp, .bool df, .bool mf, .int .u8 T, .int .u8 cd, .int .u16 id, .int .u16 seq, .slice A n c, .int .u8 ct], .blk M 33 ((qHD x0 x1 x2 pr src dst df false).cells (.slice Ao on on)), .own .u8 5 Ao on on (List.replicate on 0), .blk KB 35 (key5 pr src dst m1 m2), .own .u8 5 Ad 12 cd0 ([m1 / 256, m1 % 256, m2 / 256, m2 % 256] ++ [x4, x5, x6, x7, x8, x9, x10, x11])] from X1.out.app 4 rfl happ)
        clear happ rt hbox
        refine hK.out _ _ (by exact ⟨X2.out.cell 3 rfl 3 rfl, X2.out.cell 3 rfl 4 rfl⟩) (fun hHeld => ?_)
        clear hK K
        (try simp only [Act.put]); (try simp only [List.setIfInBounds_toArray, List.set_cons_zero, List.set_cons_succ])
        refine' take_lit (i := 18) (v := _) rfl (by kernel_rfl) (by kernel_rfl) (by kernel_rfl) (fun _ _ _ h => h) (Or.inl ⟨by rfl, ?yy19⟩) (by assumption) ?rr19
        case yy19 => intro w' hSw; (try dsimp only at hSw); go_simp; try (with_reducible rfl)
        (try simp only [Act.put]); (try simp only [List.setIfInBounds_toArray, List.set_cons_zero, List.set_cons_succ])
        refine wpAnyH_done (by kernel_rfl) ?_ _
        refine NoPanic.normal ?_
        clear X0 X1 Z2 g1 g2 g3 g4
        have hbd0 : BD 255 ([m1 / 256, m1 % 256, m2 / 256, m2 % 256] ++ [x4, x5, x6, x7, x8, x9, x10, x11]) := fun x hx => by simp only [List.cons_append, List.nil_append, List.mem_cons, List.not_mem_nil, or_false] at hx; omega
        have w0 : wordAt ([m1 / 256, m1 % 256, m2 / 256, m2 % 256] ++ [x4, x5, x6, x7, x8, x9, x10, x11]) 0 = m1 := by simp [wordAt]; omega
        have w2' : wordAt ([m1 / 256, m1 % 256, m2 / 256, m2 % 256] ++ [x4, x5, x6, x7, x8, x9, x10, x11]) 2 = m2 := by simp [wordAt]; omega
        have y6 : v2.cell? ⟨M, 6, none⟩ = some (.int .u8 pr) := X2.out.cell 1 rfl 6 rfl
        go_upto_if 108 with fail
        clear y6
        go_cut [7, 8] (fun s7 s8 wx => ∃ (kd sp dp : Int) (Ad : Option Addr) (dn dc : Nat) (D : List Int), s7 = .int .u8 kd ∧ s8 = .slice Ad dn dc ∧ QDT pr D kd sp dp ∧ BD 255 D ∧ dn ≤ 88 ∧ kd ≤ 5 ∧ 0 ≤ kd ∧ SP w wx [.blk N 28 #[.int .u8 x0, .int .u8 x1, .int .u8 x2, .int .u8 x3, .int .u8 x4, .int .u8 x5, .int .u8 x6, .int .u8 x7, .int .u8 x8, .int .u8 x9, .int .u8 x10, .int .u8 x11, .int .u8 wd, .int .u16 fr, .int .u16 tp, .bool df, .bool mf, .int .u8 T, .int .u8 cd, .int .u16 id, .int .u16 seq, .slice A n c, .int .u8 ct], .blk M 33 ((qHD x0 x1 x2 pr src dst df false).cells (.slice Ao on on)), .own .u8 5 Ao on on (List.replicate on 0), .blk KB 35 (key5 pr src dst sp dp), .own .u8 5 Ad dn dc D])
        case first =>
          have hpr1 := HPR.out
          by_cases h1 : pr = 1
          · have t1 : (pr == 1) = true := by simp [h1]
            rw [t1]
            refine icqb w N M KB x0 x1 x2 x3 x4 x5 x6 x7 x8 x9 x10 x11 wd fr tp df mf T cd id seq A n c zs ct src dst pr m1 m2 Ao on jp Ad cd0 h1 hT hcd hid hseq hz hn hcm R HS v2 X2 (Lib.hid ?_)
            intro _ _ _ _ _ _ _ _ _ _ _ _ _ _ _ _ _ _ _ _ _ _ _ kd A5 n5 c5 P w5 q1 q2 q3 q4 q5 q6
            simp only [Exit.then]
            go_step
            go_meet
            exact ⟨kd, id, id, A5, n5, c5, P, rfl, rfl, q1, q2, q3, q4, q5, q6⟩
          · have t1 : (pr == 1) = false := by simp [h1]
            have hq : QDT pr ([m1 / 256, m1 % 256, m2 / 256, m2 % 256] ++ [x4, x5, x6, x7, x8, x9, x10, x11]) (jp : Int) m1 m2 := by
              refine ⟨by simp, ?_, by omega, .inl ⟨by omega, w0, w2'⟩⟩
              unfold KDd
              rw [if_pos (by omega), w0, w2', if_neg (by omega)]
              rcases hpr1 with ⟨a, b⟩ | ⟨a, b⟩ | ⟨a, b⟩
              · omega
              · rw [if_pos b, a]; rfl
              · rw [if_neg (by omega), a]; rfl
            have HQ := Lib.hid hq
            clear hq h1 w0 w2'
            go_wp2_with fail
            go_meet
            exact ⟨jp, m1, m2, Ad, 12, cd0, _, rfl, rfl, HQ.out, hbd0, by omega, by omega, by omega, X2.out⟩
        case rest =>
          obtain ⟨kd, sp, dp, Ad3, dn, dc, D, rfl, rfl, hq, hDB, hdn, hkd5, hkd0, hY⟩ := hcut
          have Y := Lib.hid hY
          have HQ := Lib.hid hq
          have hdl : dn = D.length := by have := (hY.own 4 rfl).len; omega
          have hd8 : 8 ≤ dn := by rw [hdl]; exact hq.len
          have HDL := Lib.hid hdl
          clear hY hq hdl X2 hbd0 w0 w2' hm1b hm2b
          have hwf : (qHD x0 x1 x2 pr src dst df mf).WF := by
            have hpr1 := HPR.out
            exact ⟨⟨lx0, ux0⟩, ⟨lx1, by show x1 ≤ 65535; omega⟩, ⟨by show (-9223372036854775808 : Int) ≤ 0; omega, by show (0 : Int) ≤ 9223372036854775807; omega⟩, ⟨lx2, ux2⟩, ⟨by show 0 ≤ pr; omega, by show pr ≤ 255; omega⟩, hsb, hdb⟩
          have b16 : wc.cell? ⟨N, 16, none⟩ = some (.bool mf) := Y.out.cell 0 rfl 16 rfl
          go_upto_if 130 with fail
          clear b16
          go_cut [8] (fun s8 wx => ∃ (Ad : Option Addr) (dn dc : Nat) (D : List Int), s8 = .slice Ad dn dc ∧ QDT pr D kd sp dp ∧ BD 255 D ∧ dn ≤ 96 ∧ (mf = true → dn % 8 = 0) ∧ SP w wx [.blk N 28 #[.int .u8 x0, .int .u8 x1, .int .u8 x2, .int .u8 x3, .int .u8 x4, .int .u8 x5, .int .u8 x6, .int .u8 x7, .int .u8 x8, .int .u8 x9, .int .u8 x10, .int .u8 x11, .int .u8 wd, .int .u16 fr, .int .u16 tp, .bool df, .bool mf, .int .u8 T, .int .u8 cd, .int .u16 id, .int .u16 seq, .slice A n c, .int .u8 ct], .blk M 33 ((qHD x0 x1 x2 pr src dst df mf).cells (.slice Ao on on)), .own .u8 5 Ao on on (List.replicate on 0), .blk KB 35 (key5 pr src dst sp dp), .own .u8 5 Ad dn dc D])
          case first =>
            cases mf
            case false =>
              go_wp2_with fail
              go_meet
              exact ⟨Ad3, dn, dc, D, rfl, HQ.out, hDB, by omega, fun h => (by cases h), Y.out⟩
            case true =>
              have HD0 := Lib.hid (And.intro HQ.out (And.intro hDB Y.out))
              go_upto_region 12 with fail
              refine icqc w N M KB x0 x1 x2 x3 x4 x5 x6 x7 x8 x9 x10 x11 wd fr tp df T cd id seq A n c ct src dst pr sp dp kd Ao on Ad3 dn dc D hdn _ HD0 (Lib.hid ?_)
              intro _ _ _ _ _ _ _ Ad4 dm dc4 D4 wo g1 g2 g3 g4 g5
              have HX := Lib.hid g5
              clear HD0 Y g5
              have c3 : wo.cell? ⟨M, 3, none⟩ = some (.bool false) := HX.out.cell 1 rfl 3 rfl
              have d3 := HX.out.free 1 rfl 3
              have Y4 := Lib.hid (show SP w _ [.blk N 28 #[.int .u8 x0, .int .u8 x1, .int .u8 x2, .int .u8 x3, .int .u8 x4, .int .u8 x5, .int .u8 x6, .int .u8 x7, .int .u8 x8, .int .u8 x9, .int .u8 x10, .int .u8 x11, .int .u8 wd, .int .u16 fr, .int .u16 tp, .bool df, .bool true, .int .u8 T, .int .u8 cd, .int .u16 id, .int .u16 seq, .slice A n c, .int .u8 ct], .blk M 33 ((qHD x0 x1 x2 pr src dst df true).cells (.slice Ao on on)), .own .u8 5 Ao on on (List.replicate on 0), .blk KB 35 (key5 pr src dst sp dp), .own .u8 5 Ad4 dm dc4 D4] from HX.out.setB 1 rfl 3 (.bool true))
              have H0 := Lib.hid g2
              clear g2
              go_wp2_with fail
              go_meet
              exact ⟨Ad4, dm, dc4, D4, rfl, g3, g4, g1, fun _ => H0.out, Y4.out⟩
          case rest =>
            obtain ⟨Ad5, dm, dc5, D5, rfl, hq5, hD5, hdm, hm8, hY5⟩ := hcut
            have Y5 := Lib.hid hY5
            have HQ5 := Lib.hid hq5
            have hdl5 : D5.length = dm := (hY5.own 4 rfl).len
            have hd85 : 8 ≤ dm := by rw [← hdl5]; exact hq5.len
            have HDL5 := Lib.hid hdl5
            clear hY5 hq5 hdl5 Y HQ hDB hdn hd8 HDL
            have hri : Rightly (qHD x0 x1 x2 pr src dst df mf).off (qHD x0 x1 x2 pr src dst df mf).mf on (dm : Int) := (show Rightly 0 mf on (dm : Int) from ⟨by decide, by decide, by decide, hon40, hon4, by omega, by omega, by omega, fun h => by have := hm8 h; omega⟩)
            have hrl : (List.replicate on (0 : Int)).length = on := List.length_replicate
            have hri2 : Rightly (qHD x0 x1 x2 pr src dst df mf).off (qHD x0 x1 x2 pr src dst df mf).mf (List.replicate on (0 : Int)).length (D5.length : Int) := by rw [hrl, HDL5.out]; exact hri
            have HWR := Lib.hid (show wrE (qHD x0 x1 x2 pr src dst df mf) on dm = 0 ∧ wrB (qHD x0 x1 x2 pr src dst df mf) (List.replicate on 0) D5 = (pktB (qHD x0 x1 x2 pr src dst df mf) (List.replicate on 0) D5) ∧ (pktB (qHD x0 x1 x2 pr src dst df mf) (List.replicate on 0) D5).length = 20 + on + dm from ⟨by unfold wrE; exact if_pos hri, by unfold wrB; exact if_pos hri2, by rw [pkt_len, hrl, HDL5.out]⟩)
            have hPB : BD 255 (pktB (qHD x0 x1 x2 pr src dst df mf) (List.replicate on 0) D5) := pkt_bd hwf (zeros_bd' on) (by rw [hrl]; exact hon40) hD5
            obtain ⟨P, hP⟩ : ∃ P, P = (pktB (qHD x0 x1 x2 pr src dst df mf) (List.replicate on 0) D5) := ⟨_, rfl⟩
            have HPD := Lib.hid hP
            rw [← hP] at HWR hPB
            obtain ⟨r1, hr1⟩ : ∃ r1 : Nat, ct % ((dm : Int) - 7) = (r1 : Int) := ⟨(ct % ((dm : Int) - 7)).toNat, by have := Int.emod_nonneg ct (show (dm : Int) - 7 ≠ 0 by omega); omega⟩
            have hr1b : r1 < dm - 7 := by have := Int.emod_lt_of_pos ct (show (0 : Int) < (dm : Int) - 7 by omega); omega
            obtain ⟨sm, hsm⟩ : ∃ sm : Nat, sm = 20 + on + 8 + r1 := ⟨_, rfl⟩
            obtain ⟨r2, hr2⟩ : ∃ r2 : Nat, ct % 8 = (r2 : Int) := ⟨(ct % 8).toNat, by omega⟩
            have hr2b : r2 < 8 := by omega
            obtain ⟨sm2, hsm2⟩ : ∃ sm2 : Nat, sm2 = 20 + on + r2 := ⟨_, rfl⟩
            have q1 : ct.tmod ((dm : Int) - 7) = (r1 : Int) := by rw [Int.tmod_eq_emod_of_nonneg hct.1]; exact hr1
            have q3 : ¬ ((dm : Int) - 7 = 0) := by omega
            have q4 : 20 + (on : Int) + 8 + (r1 : Int) = (sm : Int) := by omega
            have q5 : 20 + (on : Int) + (r2 : Int) = (sm2 : Int) := by omega
            have hsma : 28 + on ≤ sm ∧ sm ≤ 20 + on + dm := by omega
            have hsmb : 20 + on ≤ sm2 ∧ sm2 < 28 + on := by omega
            have HQC := Lib.hid (q_bad (quote_cut hwf (zeros_bd' on) hri2 (m := sm2) (by rw [hrl]; omega) (by rw [hrl]; omega) (z := P.take sm2) (by rw [hP])))
            have HQG := Lib.hid (quote_good HQ5.out hwf (zeros_bd' on) hri2 rfl (m := sm) (by rw [hrl]; omega) (by rw [hrl, HDL5.out]; omega) (z := P.take sm) (by rw [hP]))
            have hpp := parse_pkt (more := []) hwf (zeros_bd' on) hri2
            rw [List.append_nil, ← hP] at hpp
            have HPE := Lib.hid (ipE_eq hpp.fault)
            obtain ⟨TT, ht1, ht2, _, ht4, _, _, ht7, ht8⟩ := turn_pkt hwf (zeros_bd' on) hD5 hri2
            have ht1' := ht1 []
            have ht2' := ht2 []
            rw [List.append_nil, ← hP] at ht1'
            rw [List.append_nil] at ht2'
            have HTB := Lib.hid ht1'
            have HQT := Lib.hid (quote_turn HQ5.out ht2' ht7 ht8 rfl)
            have HTL := Lib.hid (show TT.length = 20 + on + dm by rw [ht4, pkt_len, hrl, HDL5.out])
            have hd8' : ¬ (dm : Int) < 8 := by omega
            clear hP hri hri2 hrl hpp ht1 ht2 ht1' ht2' ht4 ht8 hsm hsm2
            go_wp2_with (refine wpList_load_row rfl 33 _ rfl M rfl 33 ((qHD x0 x1 x2 pr src dst df mf).cells (.slice Ao on on)) _ _ (Y5.out.blk 1 rfl) Tryd.underlying33 rfl (by kernel_rfl) ?_)
            refine (write_any (qHD x0 x1 x2 pr src dst df mf) Ao on on (List.replicate on 0) Ad5 dm dc5 D5 _ hwf (Y5.out.rd 2 rfl) (zeros_bd' on) (Y5.out.rd 4 rfl) (by omega) (by omega)).mono ?_
            rintro e w6 ⟨A6, n6, c6, rfl, own6, hb6⟩
            rw [HWR.out.1]
            rw [HWR.out.2.1] at own6
            have hn6 : n6 = 20 + on + dm := by rw [← own6.len, HWR.out.2.2]
            have hl6 := own6.le
            have X6 := Lib.hid (show SP w w6 [.blk N 28 #[.int .u8 x0, .int .u8 x1, .int .u8 x2, .int .u8 x3, .int .u8 x4, .int .u8 x5, .int .u8 x6, .int .u8 x7, .int .u8 x8, .int .u8 x9, .int .u8 x10, .int .u8 x11, .int .u8 wd, .int .u16 fr, .int .u16 tp, .bool df, .bool mf, .int .u8 T, .int .u8 cd, .int .u16 id, .int .u16 seq, .slice A n c, .int .u8 ct], .blk M 33 ((qHD x0 x1 x2 pr src dst df mf).cells (.slice Ao on on)), .own .u8 5 Ao on on (List.replicate on 0), .blk KB 35 (key5 pr src dst sp dp), .own .u8 5 A6 n6 c6 P] from (Y5.out.pushOwn hb6 own6).pick [0, 1, 2, 3, 5] (by decide) rfl)
            clear own6 hb6 Y5
            have y9 : w6.cell? ⟨M, 9, none⟩ = some (.slice Ao on on) := X6.out.cell 1 rfl 9 rfl
            have y22 : w6.cell? ⟨N, 22, none⟩ = some (.int .u8 ct) := X6.out.cell 0 rfl 22 rfl
            have j1 : (0 : Int) ≤ (sm : Int) := by omega
            have j2 : (sm : Int) ≤ (c6 : Int) := by omega
            have HN6 := Lib.hid hn6
            have hn6a : sm ≤ n6 := by omega
            have hn6b : sm2 ≤ n6 := by omega
            have hn6c : n6 ≤ 200 := by omega
            clear hn6
            go_wp2_with fail
            refine (icquote_any A6 sm c6 (P.take sm) _ ((X6.out.rd 4 rfl).take hn6a) (hPB.take _) (by omega) (by omega) (HS.out _ X6.out.bel).s).mono ?_
            rintro e w7 ⟨rfl, hb7⟩
            have X7 := Lib.hid (show SP w w7 [.blk N 28 #[.int .u8 x0, .int .u8 x1, .int .u8 x2, .int .u8 x3, .int .u8 x4, .int .u8 x5, .int .u8 x6, .int .u8 x7, .int .u8 x8, .int .u8 x9, .int .u8 x10, .int .u8 x11, .int .u8 wd, .int .u16 fr, .int .u16 tp, .bool df, .bool mf, .int .u8 T, .int .u8 cd, .int .u16 id, .int .u16 seq, .slice A n c, .int .u8 ct], .blk M 33 ((qHD x0 x1 x2 pr src dst df mf).cells (.slice Ao on on)), .own .u8 5 Ao on on (List.replicate on 0), .blk KB 35 (key5 pr src dst sp dp), .own .u8 5 A6 n6 c6 P] from X6.out.next hb7)
            clear hb7 X6 y9 y22 q1 q3 q4 hr1
            by_cases h5 : kd = 5
            · have HE := Lib.hid (HQG.out.1 h5)
              rw [HE.out.1, HE.out.2.1, HE.out.2.2]
              have t5 : (kd == 5) = true := by simp [h5]
              clear h5
              have X8 := Lib.hid (show SP w _ [.blk N 28 #[.int .u8 x0, .int .u8 x1, .int .u8 x2, .int .u8 x3, .int .u8 x4, .int .u8 x5, .int .u8 x6, .int .u8 x7, .int .u8 x8, .int .u8 x9, .int .u8 x10, .int .u8 x11, .int .u8 wd, .int .u16 fr, .int .u16 tp, .bool df, .bool mf, .int .u8 T, .int .u8 cd, .int .u16 id, .int .u16 seq, .slice A n c, .int .u8 ct], .blk M 33 ((qHD x0 x1 x2 pr src dst df mf).cells (.slice Ao on on)), .own .u8 5 Ao on on (List.replicate on 0), .blk KB 35 (key5 pr src dst sp dp), .own .u8 5 A6 n6 c6 P, .blk w7.heap.size 35 (key0)] from X7.out.alloc 35 (key0))
              unfold key0 key5
              go_upto_region 21 with fail
              rw [show w7.alloc (.cells #[.int .u8 0, .int .u32 0, .int .u32 0, .int .u16 0, .int .u16 0] 35) = w7.alloc (.cells (key0) 35) from rfl]
              generalize w7.alloc (.cells (key0) 35) = w8 at X8 ⊢
              obtain ⟨K1, hK1⟩ : ∃ K1, K1 = w7.heap.size := ⟨_, rfl⟩
              rw [← hK1] at X8 ⊢
              clear hK1 X7
              have y22 : w8.cell? ⟨N, 22, none⟩ = some (.int .u8 ct) := X8.out.cell 0 rfl 22 rfl
              have j3 : (0 : Int) ≤ (sm2 : Int) := by omega
              have j4 : (sm2 : Int) ≤ (c6 : Int) := by omega
              go_wp2_with fail
              refine (icquote_any A6 sm2 c6 (P.take sm2) _ ((X8.out.rd 4 rfl).take hn6b) (hPB.take _) (by omega) (by omega) (HS.out _ X8.out.bel).s).mono ?_
              rintro e w9 ⟨rfl, hb9⟩
              rw [HQC.out.1, HQC.out.2.1, HQC.out.2.2]
              have X9 := Lib.hid (show SP w _ [.blk N 28 #[.int .u8 x0, .int .u8 x1, .int .u8 x2, .int .u8 x3, .int .u8 x4, .int .u8 x5, .int .u8 x6, .int .u8 x7, .int .u8 x8, .int .u8 x9, .int .u8 x10, .int .u8 x11, .int .u8 wd, .int .u16 fr, .int .u16 tp, .bool df, .bool mf, .int .u8 T, .int .u8 cd, .int .u16 id, .int .u16 seq, .slice A n c, .int .u8 ct], .blk M 33 ((qHD x0 x1 x2 pr src dst df mf).cells (.slice Ao on on)), .own .u8 5 Ao on on (List.replicate on 0), .blk KB 35 (key5 pr src dst sp dp), .own .u8 5 A6 n6 c6 P, .blk K1 35 (key0)] from (X8.out.next hb9).next ((Below.refl _ w9).alloc (Nat.le_refl _) (.cells key0 35)))
              clear hb9 X8 y22 q5 j3 j4
              unfold key0 key5
              go_upto_region 22 with fail
              rw [show w9.alloc (.cells #[.int .u8 0, .int .u32 0, .int .u32 0, .int .u16 0, .int .u16 0] 35) = w9.alloc (.cells key0 35) from rfl]
              generalize w9.alloc (.cells key0 35) = wa at X9 ⊢
              have f0 : wa.cell? ⟨K1, 0, none⟩ = some (.int .u8 0) := X9.out.cell 5 rfl 0 rfl
              have f1 : wa.cell? ⟨K1, 1, none⟩ = some (.int .u32 0) := X9.out.cell 5 rfl 1 rfl
              have f2 : wa.cell? ⟨K1, 2, none⟩ = some (.int .u32 0) := X9.out.cell 5 rfl 2 rfl
              have f3 : wa.cell? ⟨K1, 3, none⟩ = some (.int .u16 0) := X9.out.cell 5 rfl 3 rfl
              have f4 : wa.cell? ⟨K1, 4, none⟩ = some (.int .u16 0) := X9.out.cell 5 rfl 4 rfl
              go_wp2_with fail
              go_ret
              exact ⟨rfl, X9.out.bel⟩
            · have HE := Lib.hid (show qE (P.take sm) = 0 ∧ qK (P.take sm) = kd ∧ qKey (P.take sm) = key5 pr src dst sp dp from HQG.out.2 h5)
              rw [HE.out.1, HE.out.2.1, HE.out.2.2]
              have t5 : (kd == 5) = false := by simp [h5]
              have HE2 := Lib.hid (show qE TT = 0 ∧ qK TT = kd ∧ qKey TT = key5 pr dst src sp dp from HQT.out.2 h5)
              clear h5
              have X8 := Lib.hid (show SP w _ [.blk N 28 #[.int .u8 x0, .int .u8 x1, .int .u8 x2, .int .u8 x3, .int .u8 x4, .int .u8 x5, .int .u8 x6, .int .u8 x7, .int .u8 x8, .int .u8 x9, .int .u8 x10, .int .u8 x11, .int .u8 wd, .int .u16 fr, .int .u16 tp, .bool df, .bool mf, .int .u8 T, .int .u8 cd, .int .u16 id, .int .u16 seq, .slice A n c, .int .u8 ct], .blk M 33 ((qHD x0 x1 x2 pr src dst df mf).cells (.slice Ao on on)), .own .u8 5 Ao on on (List.replicate on 0), .blk KB 35 (key5 pr src dst sp dp), .own .u8 5 A6 n6 c6 P, .blk w7.heap.size 35 (key5 pr src dst sp dp)] from X7.out.alloc 35 (key5 pr src dst sp dp))
              unfold key5
              go_upto_region 21 with fail
              rw [show w7.alloc (.cells #[.int .u8 pr, .int .u32 src, .int .u32 dst, .int .u16 sp, .int .u16 dp] 35) = w7.alloc (.cells (key5 pr src dst sp dp) 35) from rfl]
              generalize w7.alloc (.cells (key5 pr src dst sp dp) 35) = w8 at X8 ⊢
              obtain ⟨K1, hK1⟩ : ∃ K1, K1 = w7.heap.size := ⟨_, rfl⟩
              rw [← hK1] at X8 ⊢
              clear hK1 X7
              have y22 : w8.cell? ⟨N, 22, none⟩ = some (.int .u8 ct) := X8.out.cell 0 rfl 22 rfl
              have j3 : (0 : Int) ≤ (sm2 : Int) := by omega
              have j4 : (sm2 : Int) ≤ (c6 : Int) := by omega
              go_wp2_with fail
              refine (icquote_any A6 sm2 c6 (P.take sm2) _ ((X8.out.rd 4 rfl).take hn6b) (hPB.take _) (by omega) (by omega) (HS.out _ X8.out.bel).s).mono ?_
              rintro e w9 ⟨rfl, hb9⟩
              rw [HQC.out.1, HQC.out.2.1, HQC.out.2.2]
              have X9 := Lib.hid (show SP w _ [.blk N 28 #[.int .u8 x0, .int .u8 x1, .int .u8 x2, .int .u8 x3, .int .u8 x4, .int .u8 x5, .int .u8 x6, .int .u8 x7, .int .u8 x8, .int .u8 x9, .int .u8 x10, .int .u8 x11, .int .u8 wd, .int .u16 fr, .int .u16 tp, .bool df, .bool mf, .int .u8 T, .int .u8 cd, .int .u16 id, .int .u16 seq, .slice A n c, .int .u8 ct], .blk M 33 ((qHD x0 x1 x2 pr src dst df mf).cells (.slice Ao on on)), .own .u8 5 Ao on on (List.replicate on 0), .blk KB 35 (key5 pr src dst sp dp), .own .u8 5 A6 n6 c6 P, .blk K1 35 (key5 pr src dst sp dp)] from (X8.out.next hb9).next ((Below.refl _ w9).alloc (Nat.le_refl _) (.cells key0 35)))
              clear hb9 X8 y22 q5 j3 j4
              unfold key0 key5
              go_upto_region 22 with fail
              rw [show w9.alloc (.cells #[.int .u8 0, .int .u32 0, .int .u32 0, .int .u16 0, .int .u16 0] 35) = w9.alloc (.cells key0 35) from rfl]
              generalize w9.alloc (.cells key0 35) = wa at X9 ⊢
              go_wp2_with fail
              refine (turn_any A6 n6 c6 P _ (X9.out.rd 4 rfl) hPB hl6.1 (by omega)).mono ?_
              rintro e wb ⟨A7, n7, c7, rfl, own7, hb7⟩
              rw [HPE.out]
              rw [HTB.out] at own7
              have hn7 : n6 = n7 := by rw [← own7.len, HTL.out]; exact HN6.out
              subst hn7
              have hl7 := own7.le
              have Xb := Lib.hid (show SP w wb [.blk N 28 #[.int .u8 x0, .int .u8 x1, .int .u8 x2, .int .u8 x3, .int .u8 x4, .int .u8 x5, .int .u8 x6, .int .u8 x7, .int .u8 x8, .int .u8 x9, .int .u8 x10, .int .u8 x11, .int .u8 wd, .int .u16 fr, .int .u16 tp, .bool df, .bool mf, .int .u8 T, .int .u8 cd, .int .u16 id, .int .u16 seq, .slice A n c, .int .u8 ct], .blk M 33 ((qHD x0 x1 x2 pr src dst df mf).cells (.slice Ao on on)), .own .u8 5 Ao on on (List.replicate on 0), .blk KB 35 (key5 pr src dst sp dp), .own .u8 5 A6 n6 c6 P, .blk K1 35 (key5 pr src dst sp dp), .own .u8 5 A7 n6 c7 TT] from X9.out.pushOwn hb7 own7)
              clear own7 hb7 X9
              have f0 : wb.cell? ⟨K1, 0, none⟩ = some (.int .u8 pr) := Xb.out.cell 5 rfl 0 rfl
              have f1 : wb.cell? ⟨K1, 1, none⟩ = some (.int .u32 src) := Xb.out.cell 5 rfl 1 rfl
              have f2 : wb.cell? ⟨K1, 2, none⟩ = some (.int .u32 dst) := Xb.out.cell 5 rfl 2 rfl
              have f3 : wb.cell? ⟨K1, 3, none⟩ = some (.int .u16 sp) := Xb.out.cell 5 rfl 3 rfl
              have f4 : wb.cell? ⟨K1, 4, none⟩ = some (.int .u16 dp) := Xb.out.cell 5 rfl 4 rfl
              have g0 : wb.cell? ⟨KB, 0, none⟩ = some (.int .u8 pr) := Xb.out.cell 3 rfl 0 rfl
              have g1 : wb.cell? ⟨KB, 1, none⟩ = some (.int .u32 src) := Xb.out.cell 3 rfl 1 rfl
              have g2 : wb.cell? ⟨KB, 2, none⟩ = some (.int .u32 dst) := Xb.out.cell 3 rfl 2 rfl
              have g3 : wb.cell? ⟨KB, 3, none⟩ = some (.int .u16 sp) := Xb.out.cell 3 rfl 3 rfl
              have g4 : wb.cell? ⟨KB, 4, none⟩ = some (.int .u16 dp) := Xb.out.cell 3 rfl 4 rfl
              have kk : (kd != kd) = false := by simp
              go_wp2_with fail
              clear f0 f1 f2 f3 f4 g0 g1 g2 g3 g4 kk
              refine (icquote_any A7 n6 c7 TT _ (Xb.out.rd 6 rfl) ht7 hl7.1 (by omega) (HS.out _ Xb.out.bel).s).mono ?_
              rintro e wg ⟨rfl, hbd⟩
              rw [HE2.out.1, HE2.out.2.1, HE2.out.2.2]
              have Xd := Lib.hid (show SP w wg [.blk N 28 #[.int .u8 x0, .int .u8 x1, .int .u8 x2, .int .u8 x3, .int .u8 x4, .int .u8 x5, .int .u8 x6, .int .u8 x7, .int .u8 x8, .int .u8 x9, .int .u8 x10, .int .u8 x11, .int .u8 wd, .int .u16 fr, .int .u16 tp, .bool df, .bool mf, .int .u8 T, .int .u8 cd, .int .u16 id, .int .u16 seq, .slice A n c, .int .u8 ct], .blk M 33 ((qHD x0 x1 x2 pr src dst df mf).cells (.slice Ao on on)), .own .u8 5 Ao on on (List.replicate on 0), .blk KB 35 (key5 pr src dst sp dp), .own .u8 5 A6 n6 c6 P, .blk K1 35 (key5 pr src dst sp dp), .own .u8 5 A7 n6 c7 TT] from Xb.out.next hbd)
              clear hbd Xb
              have Xe := Lib.hid (show SP w _ [.blk N 28 #[.int .u8 x0, .int .u8 x1, .int .u8 x2, .int .u8 x3, .int .u8 x4, .int .u8 x5, .int .u8 x6, .int .u8 x7, .int .u8 x8, .int .u8 x9, .int .u8 x10, .int .u8 x11, .int .u8 wd, .int .u16 fr, .int .u16 tp, .bool df, .bool mf, .int .u8 T, .int .u8 cd, .int .u16 id, .int .u16 seq, .slice A n c, .int .u8 ct], .blk M 33 ((qHD x0 x1 x2 pr src dst df mf).cells (.slice Ao on on)), .own .u8 5 Ao on on (List.replicate on 0), .blk KB 35 (key5 pr src dst sp dp), .own .u8 5 A6 n6 c6 P, .blk K1 35 (key5 pr dst src sp dp), .own .u8 5 A7 n6 c7 TT] from Xd.out.setR 5 rfl (key5 pr dst src sp dp))
              go_upto_region 30 with (refine wpList_store_row rfl 35 _ _ rfl K1 (key5 pr dst src sp dp) rfl rfl 35 (key5 pr src dst sp dp) (Xd.out.blk 5 rfl) (by kernel_rfl) rfl (key5_one _ _ _ _ _) ?_)
              generalize wg.setRow K1 (key5 pr dst src sp dp) = we at Xe ⊢
              clear Xd
              have g1 : we.cell? ⟨KB, 1, none⟩ = some (.int .u32 src) := Xe.out.cell 3 rfl 1 rfl
              have g2 : we.cell? ⟨KB, 2, none⟩ = some (.int .u32 dst) := Xe.out.cell 3 rfl 2 rfl
              have d1 := Xe.out.free 3 rfl 1
              have d2 := Xe.out.free 3 rfl 2
              have Xf := Lib.hid (show SP w _ [.blk N 28 #[.int .u8 x0, .int .u8 x1, .int .u8 x2, .int .u8 x3, .int .u8 x4, .int .u8 x5, .int .u8 x6, .int .u8 x7, .int .u8 x8, .int .u8 x9, .int .u8 x10, .int .u8 x11, .int .u8 wd, .int .u16 fr, .int .u16 tp, .bool df, .bool mf, .int .u8 T, .int .u8 cd, .int .u16 id, .int .u16 seq, .slice A n c, .int .u8 ct], .blk M 33 ((qHD x0 x1 x2 pr src dst df mf).cells (.slice Ao on on)), .own .u8 5 Ao on on (List.replicate on 0), .blk KB 35 (key5 pr dst src sp dp), .own .u8 5 A6 n6 c6 P, .blk K1 35 (key5 pr dst src sp dp), .own .u8 5 A7 n6 c7 TT] from (Xe.out.setB 3 rfl 1 (.int .u32 dst)).setB 3 rfl 2 (.int .u32 src))
              go_upto_region 31 with fail
              generalize (we.setCell ⟨KB, 1, none⟩ (.int .u32 dst)).setCell ⟨KB, 2, none⟩ (.int .u32 src) = wf at Xf ⊢
              clear g1 g2 d1 d2 Xe
              have f0 : wf.cell? ⟨K1, 0, none⟩ = some (.int .u8 pr) := Xf.out.cell 5 rfl 0 rfl
              have f1 : wf.cell? ⟨K1, 1, none⟩ = some (.int .u32 dst) := Xf.out.cell 5 rfl 1 rfl
              have f2 : wf.cell? ⟨K1, 2, none⟩ = some (.int .u32 src) := Xf.out.cell 5 rfl 2 rfl
              have f3 : wf.cell? ⟨K1, 3, none⟩ = some (.int .u16 sp) := Xf.out.cell 5 rfl 3 rfl
              have f4 : wf.cell? ⟨K1, 4, none⟩ = some (.int .u16 dp) := Xf.out.cell 5 rfl 4 rfl
              have g0 : wf.cell? ⟨KB, 0, none⟩ = some (.int .u8 pr) := Xf.out.cell 3 rfl 0 rfl
              have g1 : wf.cell? ⟨KB, 1, none⟩ = some (.int .u32 dst) := Xf.out.cell 3 rfl 1 rfl
              have g2 : wf.cell? ⟨KB, 2, none⟩ = some (.int .u32 src) := Xf.out.cell 3 rfl 2 rfl
              have g3 : wf.cell? ⟨KB, 3, none⟩ = some (.int .u16 sp) := Xf.out.cell 3 rfl 3 rfl
              have g4 : wf.cell? ⟨KB, 4, none⟩ = some (.int .u16 dp) := Xf.out.cell 3 rfl 4 rfl
              have kk : (kd == kd) = true := by simp
              go_wp2_with fail
              go_ret
              exact ⟨rfl, Xf.out.bel⟩
end Go.Proofs.YtdepibljeopcgaaDoor
