import Derived.Test.YthdpcblmmjocmaaWTcPb
import Derived.Test.YthdpcblmmjocmaaWTcW
import Derived.Laws.StructEq
/- bafflelaw08.Same, Equal, Example. -/
namespace Go.Proofs.Ythdpcblmmjocmaa
open Go.RowKit
set_option linter.unusedVariables false
attribute [local go_sem ↓] Go.wp_at_zero Go.wp_at_succ

set_option maxHeartbeats 4000000 in
set_option maxRecDepth 100000 in
theorem same8_any (h : TH) (A1 A2 : Option Addr) (n1 c1 n2 c2 : Nat) (os : List Int) (w : World) (r1 : RD .u8 w w.heap.size A1 n1 os) (r2 : RD .u8 w w.heap.size A2 n2 os) (hn : n1 ≤ 140737488355328) :
    Calls Try.prog 22 #[.agg (h.cells (.slice A1 n1 c1)), .agg (h.cells (.slice A2 n2 c2))] w fun e w' => e = .returned (.bool true) ∧ Below w.heap.size w w' := by
  have hnn : n2 = n1 := by have a := r1.len; have b := r2.len; omega
  subst hnn
  have X := ((SP.start w).alloc 28 (h.cells (.slice A1 n2 c1))).alloc 28 (h.cells (.slice A2 n2 c2))
  rw [World.size_alloc] at X
  obtain ⟨sp, dp, sq, ak, fl, wi, ug⟩ := h
  go_enter Try.func22, Try.ntmps22
  go_upto_region 1 with fail
  change Code.wp _ _ _ _ ((w.alloc (.cells ((TH.mk sp dp sq ak fl wi ug).cells (.slice A1 n2 c1)) 28)).alloc (.cells ((TH.mk sp dp sq ak fl wi ug).cells (.slice A2 n2 c2)) 28))
  generalize (w.alloc (.cells ((TH.mk sp dp sq ak fl wi ug).cells (.slice A1 n2 c1)) 28)).alloc (.cells ((TH.mk sp dp sq ak fl wi ug).cells (.slice A2 n2 c2)) 28) = w1 at X ⊢
  obtain ⟨N, hN⟩ : ∃ N, N = w.heap.size := ⟨_, rfl⟩
  rw [← hN] at X ⊢
  have HN := Lib.hid hN
  have R1 := Lib.hid ((r1.below X.bel).more X.bel.size)
  have R2 := Lib.hid ((r2.below X.bel).more X.bel.size)
  have Y := Lib.hid X
  clear r1 r2 X hN
  have a7 : w1.cell? ⟨N, 7, none⟩ = some (.slice A1 n2 c1) := Y.out.cell 0 rfl 7 rfl
  have b7 : w1.cell? ⟨N + 1, 7, none⟩ = some (.slice A2 n2 c2) := Y.out.cell 1 rfl 7 rfl
  have a0 : w1.cell? ⟨N, 0, none⟩ = some (.int .u16 sp) := Y.out.cell 0 rfl 0 rfl
  have b0 : w1.cell? ⟨N + 1, 0, none⟩ = some (.int .u16 sp) := Y.out.cell 1 rfl 0 rfl
  have a1 : w1.cell? ⟨N, 1, none⟩ = some (.int .u16 dp) := Y.out.cell 0 rfl 1 rfl
  have b1 : w1.cell? ⟨N + 1, 1, none⟩ = some (.int .u16 dp) := Y.out.cell 1 rfl 1 rfl
  have a2 : w1.cell? ⟨N, 2, none⟩ = some (.int .u32 sq) := Y.out.cell 0 rfl 2 rfl
  have b2 : w1.cell? ⟨N + 1, 2, none⟩ = some (.int .u32 sq) := Y.out.cell 1 rfl 2 rfl
  have a3 : w1.cell? ⟨N, 3, none⟩ = some (.int .u32 ak) := Y.out.cell 0 rfl 3 rfl
  have b3 : w1.cell? ⟨N + 1, 3, none⟩ = some (.int .u32 ak) := Y.out.cell 1 rfl 3 rfl
  have a4 : w1.cell? ⟨N, 4, none⟩ = some (.int .u8 fl) := Y.out.cell 0 rfl 4 rfl
  have b4 : w1.cell? ⟨N + 1, 4, none⟩ = some (.int .u8 fl) := Y.out.cell 1 rfl 4 rfl
  have a5 : w1.cell? ⟨N, 5, none⟩ = some (.int .u16 wi) := Y.out.cell 0 rfl 5 rfl
  have b5 : w1.cell? ⟨N + 1, 5, none⟩ = some (.int .u16 wi) := Y.out.cell 1 rfl 5 rfl
  have a6 : w1.cell? ⟨N, 6, none⟩ = some (.int .u16 ug) := Y.out.cell 0 rfl 6 rfl
  have b6 : w1.cell? ⟨N + 1, 6, none⟩ = some (.int .u16 ug) := Y.out.cell 1 rfl 6 rfl
  have t0 : (sp == sp) = true := by simp
  have t1 : (dp == dp) = true := by simp
  have t2 : (sq == sq) = true := by simp
  have t3 : (ak == ak) = true := by simp
  have t4 : (fl == fl) = true := by simp
  have t5 : (wi == wi) = true := by simp
  have t6 : (ug == ug) = true := by simp
  go_wp2_with (go_at_call 23; refine (same_any A1 A2 n2 c1 n2 c2 _ _ _ R1.out R2.out (by omega) (by omega)).mono ?_; rintro e w2 ⟨rfl, m, rfl⟩; rw [show (os == os) = true by simp])
  go_ret
  exact ⟨rfl, (Y.out.drewN m).bel⟩

theorem infoU32 : (Try.prog.info? 23).map (fun i => (i.zero, i.size, i.bytes)) = some (some (.int .u32 0), 1, 4) := by kernel_rfl
theorem eq_pair (a b c d : Int) (w : World) : (Op.equalIn 10000 93 (.agg #[.int .u32 a, .int .u32 b]) (.agg #[.int .u32 c, .int .u32 d])).run Try.prog w = .ok (a == c && b == d) w := by
  have u3 := Try.underlying23
  have a3 : ∀ w, (isAgg 23).run Try.prog w = .ok false w := fun w => by simp [isAgg, run_underlying u3]
  have z3 : ∀ w, (sizeOf 23).run Try.prog w = .ok 1 w := fun w => by obtain ⟨i0, hi, hz0, hz1, hz2⟩ := info_parts infoU32; simp [sizeOf, typeInfo, hi, hz1]
  rw [show (10000 : Nat) = 9999 + 1 from rfl, Op.equalIn]
  simp only [Sem.run_bind, run_underlying Try.underlying93, Result.andThen_ok]
  simp only [Std.Legacy.Range.forIn_eq_forIn_range', Std.Legacy.Range.size, Nat.sub_zero, Nat.add_sub_cancel, Nat.div_one, List.range'_succ, List.range'_zero, List.forIn_cons, List.forIn_nil]
  go_simp
  by_cases h1 : a = c <;> by_cases h2 : b = d <;> simp [h1, h2]

set_option maxHeartbeats 4000000 in
set_option maxRecDepth 100000 in
theorem equal8_any (k : KN) (A1 A2 : Option Addr) (n1 c1 n2 c2 : Nat) (w : World) (h1 : n1 = k.bl.length) (h2 : n2 = k.bl.length) (r1 : RD .u32 w w.heap.size A1 (2 * n1) (flatP k.bl)) (r2 : RD .u32 w w.heap.size A2 (2 * n2) (flatP k.bl)) (hn : n1 ≤ 1000) :
    Calls Try.prog 28 #[.agg (KNC k A1 n1 c1), .agg (KNC k A2 n2 c2)] w fun e w' => e = .returned (.bool true) ∧ Below w.heap.size w w' := by
  have hnn : n2 = n1 := by omega
  subst hnn
  have X := ((SP.start w).alloc 32 (KNC k A1 n2 c1)).alloc 32 (KNC k A2 n2 c2)
  rw [World.size_alloc] at X
  obtain ⟨m, sc, sel, st, ts, ec, bl⟩ := k
  have HL := Lib.hid (show n2 = bl.length from h2)
  clear h1 h2
  go_enter Try.func28, Try.ntmps28
  go_upto_region 1 with fail
  change Code.wp _ _ _ _ ((w.alloc (.cells (KNC ⟨m, sc, sel, st, ts, ec, bl⟩ A1 n2 c1) 32)).alloc (.cells (KNC ⟨m, sc, sel, st, ts, ec, bl⟩ A2 n2 c2) 32))
  generalize (w.alloc (.cells (KNC ⟨m, sc, sel, st, ts, ec, bl⟩ A1 n2 c1) 32)).alloc (.cells (KNC ⟨m, sc, sel, st, ts, ec, bl⟩ A2 n2 c2) 32) = w1 at X ⊢
  obtain ⟨N, hN⟩ : ∃ N, N = w.heap.size := ⟨_, rfl⟩
  rw [← hN] at X ⊢
  have HN := Lib.hid hN
  have R1 := Lib.hid (fun (W : World) (hb : Below w.heap.size w W) => (show RD .u32 W W.heap.size A1 (2 * n2) (flatP bl) from (r1.below hb).more hb.size))
  have R2 := Lib.hid (fun (W : World) (hb : Below w.heap.size w W) => (show RD .u32 W W.heap.size A2 (2 * n2) (flatP bl) from (r2.below hb).more hb.size))
  have Y := Lib.hid X
  clear r1 r2 X hN
  have a0 : w1.cell? ⟨N, 0, none⟩ = some (.int .i64 m) := Y.out.cell 0 rfl 0 rfl
  have b0 : w1.cell? ⟨N + 1, 0, none⟩ = some (.int .i64 m) := Y.out.cell 1 rfl 0 rfl
  have a1 : w1.cell? ⟨N, 1, none⟩ = some (.int .i64 sc) := Y.out.cell 0 rfl 1 rfl
  have b1 : w1.cell? ⟨N + 1, 1, none⟩ = some (.int .i64 sc) := Y.out.cell 1 rfl 1 rfl
  have a2 : w1.cell? ⟨N, 2, none⟩ = some (.bool sel) := Y.out.cell 0 rfl 2 rfl
  have b2 : w1.cell? ⟨N + 1, 2, none⟩ = some (.bool sel) := Y.out.cell 1 rfl 2 rfl
  have a3 : w1.cell? ⟨N, 3, none⟩ = some (.bool st) := Y.out.cell 0 rfl 3 rfl
  have b3 : w1.cell? ⟨N + 1, 3, none⟩ = some (.bool st) := Y.out.cell 1 rfl 3 rfl
  have a4 : w1.cell? ⟨N, 4, none⟩ = some (.int .u32 ts) := Y.out.cell 0 rfl 4 rfl
  have b4 : w1.cell? ⟨N + 1, 4, none⟩ = some (.int .u32 ts) := Y.out.cell 1 rfl 4 rfl
  have a5 : w1.cell? ⟨N, 5, none⟩ = some (.int .u32 ec) := Y.out.cell 0 rfl 5 rfl
  have b5 : w1.cell? ⟨N + 1, 5, none⟩ = some (.int .u32 ec) := Y.out.cell 1 rfl 5 rfl
  have a6 : w1.cell? ⟨N, 6, none⟩ = some (.slice A1 n2 c1) := Y.out.cell 0 rfl 6 rfl
  have b6 : w1.cell? ⟨N + 1, 6, none⟩ = some (.slice A2 n2 c2) := Y.out.cell 1 rfl 6 rfl
  have t0 : (m != m) = false := by simp
  have t1 : (sc != sc) = false := by simp
  have t2 : (sel != sel) = false := by simp
  have t3 : (st != st) = false := by simp
  have t4 : (ts != ts) = false := by simp
  have t5 : (ec != ec) = false := by simp
  have t6 : ((n2 : Int) != (n2 : Int)) = false := by simp
  go_wp2_with fail
  go_loopw [58] (fun i wr => ∃ k : Nat, k ≤ n2 ∧ i = .int .i64 k ∧ SP w wr [.blk N 32 (KNC ⟨m, sc, sel, st, ts, ec, bl⟩ A1 n2 c1), .blk (N + 1) 32 (KNC ⟨m, sc, sel, st, ts, ec, bl⟩ A2 n2 c2)]) (fun i _ => n2 - (intOf i).toNat)
  case atStart => exact ⟨0, by omega, rfl, Y.out⟩
  case round =>
    obtain ⟨k, hk, rfl, hX⟩ := hrel
    have X := Lib.hid hX
    clear hX a0 b0 a1 b1 a2 b2 a3 b3 a4 b4 a5 b5 a6 b6
    by_cases hlt : k < n2
    · obtain ⟨p1, o1, rfl, hp1, hc1⟩ := (R1.out _ X.out.bel).2 (by omega)
      obtain ⟨p2, o2, rfl, hp2, hc2⟩ := (R2.out _ X.out.bel).2 (by omega)
      have x1 : wr.cell? ⟨p1, o1 + k * 2, none⟩ = some (.int .u32 ((flatP bl)[2 * k]?.getD 0)) := by rw [Nat.mul_comm k 2]; exact hc1 (2 * k) (by omega)
      have x2 : wr.cell? ⟨p1, o1 + k * 2 + 1, none⟩ = some (.int .u32 ((flatP bl)[2 * k + 1]?.getD 0)) := by rw [Nat.add_assoc, Nat.mul_comm k 2]; exact hc1 (2 * k + 1) (by omega)
      have x3 : wr.cell? ⟨p2, o2 + k * 2, none⟩ = some (.int .u32 ((flatP bl)[2 * k]?.getD 0)) := by rw [Nat.mul_comm k 2]; exact hc2 (2 * k) (by omega)
      have x4 : wr.cell? ⟨p2, o2 + k * 2 + 1, none⟩ = some (.int .u32 ((flatP bl)[2 * k + 1]?.getD 0)) := by rw [Nat.add_assoc, Nat.mul_comm k 2]; exact hc2 (2 * k + 1) (by omega)
      generalize (flatP bl)[2 * k]?.getD 0 = q1 at x1 x3
      generalize (flatP bl)[2 * k + 1]?.getD 0 = q2 at x2 x4
      have a6 : wr.cell? ⟨N, 6, none⟩ = some (.slice (some ⟨p1, o1, none⟩) n2 c1) := X.out.cell 0 rfl 6 rfl
      have b6 : wr.cell? ⟨N + 1, 6, none⟩ = some (.slice (some ⟨p2, o2, none⟩) n2 c2) := X.out.cell 1 rfl 6 rfl
      have i1 : (k : Int) < (n2 : Int) := by omega
      have i0 : (0 : Int) ≤ (k : Int) := by omega
      have ep := fun W => eq_pair q1 q2 q1 q2 W
      have e1 : (q1 == q1) = true := by simp
      have e2 : (q2 == q2) = true := by simp
      clear hc1 hc2
      go_wp2_with fail
      go_quiet (fail)
      go_wp2_with fail
      go_roundw
      case rel => exact ⟨k + 1, by omega, by go_num, X.out.drewN nq⟩
      case measure => simp [intOf]; omega
    · go_wp2_with fail
      go_ret
      exact ⟨rfl, X.out.bel⟩

def EX8 : List Int := [4, 0, 0, 80, 0, 0, 0, 1, 0, 0, 0, 0, 80, 2, 2, 0, 149, 143, 0, 0]
theorem example8_any (w : World) : Calls Try.prog 16 #[] w fun e w' => e = .returned (.tuple #[.slice (some ⟨w.heap.size, 0, none⟩) 20 20, .int .u32 167772161, .int .u32 167772162]) ∧ w' = w.alloc (.cells (EX8.map (Value.int .u8)).toArray 5) := by
  go_enter Try.func16, Try.ntmps16
  go_wp2_with fail
  go_ret3
  exact ⟨rfl, rfl⟩
end Go.Proofs.Ythdpcblmmjocmaa
