import Derived.Test.YtcipgkpcaecjdaaWWrr
import Derived.Test.YtcipgkpcaecjdaaWOver
import Derived.Laws.Rows
import Derived.Deep.RegionHeld3
import Derived.Deep.DeepCutAuto
/- baffleref01: Write, Zeros, Set, Bytes. (Printed by gen_ref1w.py.) -/
namespace Go.Proofs.Ytcipgkpcaecjdaa
open Go.RowKit
set_option linter.unusedVariables false
set_option linter.unusedSimpArgs false

/-- the reference's writer -/
def xcells (lim : Nat) (B : Option Addr) (n c : Nat) (f : Bool) : Array Value := #[.int .i64 (lim : Int), .slice B n c, .bool f]
theorem xcells_one (lim : Nat) (B : Option Addr) (n c : Nat) (f : Bool) : ∀ v ∈ (xcells lim B n c f).toList, v.oneCell' = true := by unfold xcells; simp [Value.oneCell']
/-- what the reference leaves: failed and as it was, or bytes of its own -/
def XW (w w' : World) (ok : Bool) (B B' : Option Addr) (n n' c c' : Nat) (ys : List Int) : Prop := (ok = false ∧ B' = B ∧ n' = n ∧ c' = c) ∨ (ok = true ∧ OWN .u8 5 w' w.heap.size B' n' c' ys)

set_option maxHeartbeats 2000000 in
set_option maxRecDepth 100000 in
theorem r1Write_any (lim : Nat) (B : Option Addr) (n c : Nat) (zs : List Int) (f : Bool) (A : Option Addr) (m cm : Nat) (bs : List Int) (w : World) (hB : RD .u8 w w.heap.size B n zs) (hA : RD .u8 w w.heap.size A m bs) (hn : n ≤ lim) (hl : lim ≤ 131072) (hm : m ≤ 140737488355328) :
    Calls Try.prog 53 #[.agg (xcells lim B n c f), .slice A m cm] w fun e w' => ∃ B' n' c', e = .returned (.agg (xcells lim B' n' c' (!wrOk lim n f (m : Int)))) ∧ Below w.heap.size w w' ∧ XW w w' (wrOk lim n f (m : Int)) B B' n n' c c' (zs ++ bs) := by
  obtain ⟨i0, hi', hz0, hz1, hz2⟩ := info_parts infoU8
  have RB := Lib.hid (fun (W : World) (hb : Below w.heap.size w W) => (show RD .u8 W W.heap.size B n zs from (hB.below hb).more hb.size))
  have RA := Lib.hid (fun (W : World) (hb : Below w.heap.size w W) => (show RD .u8 W W.heap.size A m bs from (hA.below hb).more hb.size))
  have e0 : IntKind.i64.wrap ((n : Int) + (m : Int)) = (n : Int) + (m : Int) := IntWalk.i64_in _ (by omega)
  clear hB hA
  cases f
  case true =>
    have HO := Lib.hid (show wrOk lim n true (m : Int) = false by unfold wrOk; simp)
    rw [HO.out]
    have X0 := Lib.hid (((SP.start w).alloc' 94 (xcells lim B n c true) (N := w.heap.size) rfl).alloc' 94 (xcells 0 none 0 0 false) (N := w.heap.size + 1) (by simp))
    obtain ⟨P, hP⟩ : ∃ P, P = w.heap.size := ⟨_, rfl⟩
    obtain ⟨Q, hQ⟩ : ∃ Q, Q = w.heap.size + 1 := ⟨_, rfl⟩
    rw [← hQ, ← hP] at X0
    unfold xcells
    go_enter Try.func53, Try.ntmps53
    go_upto_region 1 with fail
    rw [← hQ, ← hP]
    generalize hw1 : (w.alloc (.cells #[.int .i64 (lim : Int), .slice B n c, .bool true] 94)).alloc (.cells #[.int .i64 0, .slice none 0 0, .bool false] 94) = w1
    replace X0 := Lib.hid (show SP w w1 [.blk P 94 (xcells lim B n c true), .blk Q 94 (xcells 0 none 0 0 false)] by rw [← hw1]; exact X0.out)
    clear hP hQ hw1
    have x0 : w1.cell? ⟨P, 0, none⟩ = some (.int .i64 (lim : Int)) := X0.out.cell 0 rfl 0 rfl
    have x1 : w1.cell? ⟨P, 1, none⟩ = some (.slice B n c) := X0.out.cell 0 rfl 1 rfl
    have x2 : w1.cell? ⟨P, 2, none⟩ = some (.bool true) := X0.out.cell 0 rfl 2 rfl
    have d1 : w1.frozen? ⟨P, 1, none⟩ = false := X0.out.free 0 rfl 1
    have d2 : w1.frozen? ⟨P, 2, none⟩ = false := X0.out.free 0 rfl 2
    go_upto_region 3 with fail
    have X1 := Lib.hid (show SP w (w1.setCell ⟨P, 2, none⟩ (.bool true)) [.blk P 94 (xcells lim B n c true), .blk Q 94 (xcells 0 none 0 0 false)] from X0.out.setB 0 rfl 2 (.bool true))
    go_wp2_with (first | (refine wpList_load_row rfl 94 _ rfl P rfl 94 (xcells lim B n c true) (0, 0) _ (X1.out.blk 0 rfl) Try.underlying94 rfl (by kernel_rfl) ?_) | (refine wpList_store_row rfl 94 _ _ rfl Q (xcells lim B n c true) rfl rfl 94 (xcells 0 none 0 0 false) (X1.out.blk 1 rfl) (by kernel_rfl) rfl (by unfold xcells; simp [Value.oneCell']) ?_))
    have X2 := Lib.hid (X1.out.setR 1 rfl (xcells lim B n c true))
    refine bodyPost_ret (results_cell_row rfl _ _ Q 94 _ (0, 0) _ rfl (X2.out.blk 1 rfl) Try.underlying94 rfl (by kernel_rfl)) rfl ?_
    exact ⟨B, n, c, rfl, X2.out.bel, .inl ⟨rfl, rfl, rfl, rfl⟩⟩
  case false =>
    by_cases hbig : lim < n + m
    · have HO := Lib.hid (show wrOk lim n false (m : Int) = false by unfold wrOk; simp; omega)
      rw [HO.out]
      have t1 : (lim : Int) < (n : Int) + (m : Int) := by omega
      have X0 := Lib.hid (((SP.start w).alloc' 94 (xcells lim B n c false) (N := w.heap.size) rfl).alloc' 94 (xcells 0 none 0 0 false) (N := w.heap.size + 1) (by simp))
      obtain ⟨P, hP⟩ : ∃ P, P = w.heap.size := ⟨_, rfl⟩
      obtain ⟨Q, hQ⟩ : ∃ Q, Q = w.heap.size + 1 := ⟨_, rfl⟩
      rw [← hQ, ← hP] at X0
      unfold xcells
      go_enter Try.func53, Try.ntmps53
      go_upto_region 1 with fail
      rw [← hQ, ← hP]
      generalize hw1 : (w.alloc (.cells #[.int .i64 (lim : Int), .slice B n c, .bool false] 94)).alloc (.cells #[.int .i64 0, .slice none 0 0, .bool false] 94) = w1
      replace X0 := Lib.hid (show SP w w1 [.blk P 94 (xcells lim B n c false), .blk Q 94 (xcells 0 none 0 0 false)] by rw [← hw1]; exact X0.out)
      clear hP hQ hw1
      have x0 : w1.cell? ⟨P, 0, none⟩ = some (.int .i64 (lim : Int)) := X0.out.cell 0 rfl 0 rfl
      have x1 : w1.cell? ⟨P, 1, none⟩ = some (.slice B n c) := X0.out.cell 0 rfl 1 rfl
      have x2 : w1.cell? ⟨P, 2, none⟩ = some (.bool false) := X0.out.cell 0 rfl 2 rfl
      have d1 : w1.frozen? ⟨P, 1, none⟩ = false := X0.out.free 0 rfl 1
      have d2 : w1.frozen? ⟨P, 2, none⟩ = false := X0.out.free 0 rfl 2
      go_upto_region 3 with fail
      have X1 := Lib.hid (show SP w (w1.setCell ⟨P, 2, none⟩ (.bool true)) [.blk P 94 (xcells lim B n c true), .blk Q 94 (xcells 0 none 0 0 false)] from X0.out.setB 0 rfl 2 (.bool true))
      go_wp2_with (first | (refine wpList_load_row rfl 94 _ rfl P rfl 94 (xcells lim B n c true) (0, 0) _ (X1.out.blk 0 rfl) Try.underlying94 rfl (by kernel_rfl) ?_) | (refine wpList_store_row rfl 94 _ _ rfl Q (xcells lim B n c true) rfl rfl 94 (xcells 0 none 0 0 false) (X1.out.blk 1 rfl) (by kernel_rfl) rfl (by unfold xcells; simp [Value.oneCell']) ?_))
      have X2 := Lib.hid (X1.out.setR 1 rfl (xcells lim B n c true))
      refine bodyPost_ret (results_cell_row rfl _ _ Q 94 _ (0, 0) _ rfl (X2.out.blk 1 rfl) Try.underlying94 rfl (by kernel_rfl)) rfl ?_
      exact ⟨B, n, c, rfl, X2.out.bel, .inl ⟨rfl, rfl, rfl, rfl⟩⟩
    · have HO := Lib.hid (show wrOk lim n false (m : Int) = true by unfold wrOk; simp; omega)
      rw [HO.out]
      have t1 : ¬ (lim : Int) < (n : Int) + (m : Int) := by omega
      have t2 : ¬ lim < n + m := hbig
      have X0 := Lib.hid (((SP.start w).alloc' 94 (xcells lim B n c false) (N := w.heap.size) rfl).alloc' 94 (xcells 0 none 0 0 false) (N := w.heap.size + 1) (by simp))
      obtain ⟨P, hP⟩ : ∃ P, P = w.heap.size := ⟨_, rfl⟩
      obtain ⟨Q, hQ⟩ : ∃ Q, Q = w.heap.size + 1 := ⟨_, rfl⟩
      rw [← hQ, ← hP] at X0
      unfold xcells
      go_enter Try.func53, Try.ntmps53
      go_upto_region 1 with fail
      rw [← hQ, ← hP]
      generalize hw1 : (w.alloc (.cells #[.int .i64 (lim : Int), .slice B n c, .bool false] 94)).alloc (.cells #[.int .i64 0, .slice none 0 0, .bool false] 94) = w1
      replace X0 := Lib.hid (show SP w w1 [.blk P 94 (xcells lim B n c false), .blk Q 94 (xcells 0 none 0 0 false)] by rw [← hw1]; exact X0.out)
      clear hP hQ hw1
      have x0 : w1.cell? ⟨P, 0, none⟩ = some (.int .i64 (lim : Int)) := X0.out.cell 0 rfl 0 rfl
      have x1 : w1.cell? ⟨P, 1, none⟩ = some (.slice B n c) := X0.out.cell 0 rfl 1 rfl
      have x2 : w1.cell? ⟨P, 2, none⟩ = some (.bool false) := X0.out.cell 0 rfl 2 rfl
      have d1 : w1.frozen? ⟨P, 1, none⟩ = false := X0.out.free 0 rfl 1
      have d2 : w1.frozen? ⟨P, 2, none⟩ = false := X0.out.free 0 rfl 2
      go_upto_region 4 with fail
      clear e0 t1
      have XL := Lib.hid (X0.out.allocI' .u8 5 [] (by simp [maxLen]) (N := w1.heap.size) rfl)
      have AFT := Lib.hid (show ∀ W A9 n9 c9 z9, SP w W [.blk P 94 (xcells lim B n c false), .blk Q 94 (xcells 0 none 0 0 false), .own .u8 5 A9 n9 c9 z9] → W.cell? ⟨P, 1, none⟩ = some (.slice B n c) ∧ W.frozen? ⟨P, 1, none⟩ = false ∧ SP w (W.setCell ⟨P, 1, none⟩ (.slice A9 n9 c9)) [.blk P 94 (xcells lim A9 n9 c9 false), .blk Q 94 (xcells 0 none 0 0 false), .own .u8 5 A9 n9 c9 z9] from fun W A9 n9 c9 z9 X => ⟨X.cell 0 rfl 1 rfl, X.free 0 rfl 1, X.setB 0 rfl 1 (.slice A9 n9 c9)⟩)
      have hPlt : P < w1.heap.size := (X0.out.blk 0 rfl).lt
      clear x0 x2 d2
      go_upto_region 5 with (first
        | (at_builtin; refine wpList_append_rd _ rfl _ _ _ rfl .u8 w.heap.size 5 i0 1 Try.underlying22 hi' hz0 hz1 hz2 A3 n c3 zs rfl (X3.out.own 2 rfl) _ A m cm bs rfl (RA.out _ X3.out.bel) (by simp only [maxLen]; omega) (by omega) X3.out.size ?_; intro A4 c4 w4 happ; have X4 := Lib.hid (AFT.out w4 A4 _ c4 _ (X3.out.app 2 rfl happ)); have f1 := X4.out.1; have f2 := X4.out.2.1; clear happ)
        | (at_builtin; refine wpList_append_rd _ rfl _ _ _ rfl .u8 w.heap.size 5 i0 1 Try.underlying22 hi' hz0 hz1 hz2 (some ⟨w1.heap.size, 0, none⟩) 0 0 [] rfl (XL.out.own 2 rfl) _ B n c zs rfl (RB.out _ XL.out.bel) (by simp only [maxLen]; omega) (by omega) XL.out.size ?_; intro A3 c3 w3 happ; have X3 := Lib.hid (show SP w w3 [.blk P 94 (xcells lim B n c false), .blk Q 94 (xcells 0 none 0 0 false), .own .u8 5 A3 n c3 zs] by have hh := XL.out.app 2 rfl happ; rw [Nat.zero_add, List.nil_append] at hh; exact hh); have g1 : w3.cell? ⟨P, 1, none⟩ = some (.slice B n c) := X3.out.cell 0 rfl 1 rfl; clear happ))
      have X5 := Lib.hid X4.out.2.2
      clear f1 f2 g1 X4
      go_wp2_with (first | (refine wpList_load_row rfl 94 _ rfl P rfl 94 (xcells lim A4 (n + m) c4 false) (0, 0) _ (X5.out.blk 0 rfl) Try.underlying94 rfl (by kernel_rfl) ?_) | (refine wpList_store_row rfl 94 _ _ rfl Q (xcells lim A4 (n + m) c4 false) rfl rfl 94 (xcells 0 none 0 0 false) (X5.out.blk 1 rfl) (by kernel_rfl) rfl (by unfold xcells; simp [Value.oneCell']) ?_))
      have X6 := Lib.hid (X5.out.setR 1 rfl (xcells lim A4 (n + m) c4 false))
      refine bodyPost_ret (results_cell_row rfl _ _ Q 94 _ (0, 0) _ rfl (X6.out.blk 1 rfl) Try.underlying94 rfl (by kernel_rfl)) rfl ?_
      exact ⟨A4, n + m, c4, rfl, X6.out.bel, .inr ⟨rfl, X6.out.own 2 rfl⟩⟩
end Go.Proofs.Ytcipgkpcaecjdaa
