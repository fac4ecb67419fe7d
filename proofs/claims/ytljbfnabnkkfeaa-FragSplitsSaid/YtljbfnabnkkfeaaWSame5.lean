/- bafflelaw05.Same at like headers, and Example. -/
import Derived.Test.YtljbfnabnkkfeaaIpP
import Derived.Test.YtljbfnabnkkfeaaWBase
import Derived.Test.YtljbfnabnkkfeaaTen
namespace Go.Proofs.Ytljbfnabnkkfeaa
open Go.RowKit
set_option linter.unusedVariables false

set_option maxHeartbeats 2000000 in
set_option maxRecDepth 100000 in
theorem same5_yes (h : HD) (A1 A2 : Option Addr) (n1 c1 n2 c2 : Nat) (xs : List Int) (w : World) (h1 : RD .u8 w w.heap.size A1 n1 xs) (h2 : RD .u8 w w.heap.size A2 n2 xs) (hn1 : n1 ≤ 140737488355328) (hn2 : n2 ≤ 140737488355328) :
    Calls Try.prog 25 #[h.val (.slice A1 n1 c1), h.val (.slice A2 n2 c2)] w fun e w' => e = .returned (.bool true) ∧ Below w.heap.size w w' := by
  have hb : Below w.heap.size w ((w.alloc (.cells (h.cells (.slice A1 n1 c1)) 49)).alloc (.cells (h.cells (.slice A2 n2 c2)) 49)) := ((Below.refl _ w).alloc (Nat.le_refl _) _).alloc (by simp) _
  have B1 : BLOCK ((w.alloc (.cells (h.cells (.slice A1 n1 c1)) 49)).alloc (.cells (h.cells (.slice A2 n2 c2)) 49)) w.heap.size 49 (h.cells (.slice A1 n1 c1)) := (BLOCK.new w _ _).alloc _
  have B2 : BLOCK ((w.alloc (.cells (h.cells (.slice A1 n1 c1)) 49)).alloc (.cells (h.cells (.slice A2 n2 c2)) 49)) (w.heap.size + 1) 49 (h.cells (.slice A2 n2 c2)) := BLOCK.new' _ _ _ (by simp)
  have e0 : (h.tos == h.tos) = true := by simp
  have e1 : (h.id == h.id) = true := by simp
  have e2 : (h.df == h.df) = true := by simp
  have e3 : (h.mf == h.mf) = true := by simp
  have e4 : (h.off == h.off) = true := by simp
  have e5 : (h.ttl == h.ttl) = true := by simp
  have e6 : (h.proto == h.proto) = true := by simp
  have e7 : (h.src == h.src) = true := by simp
  have e8 : (h.dst == h.dst) = true := by simp
  have e9 : (xs == xs) = true := by simp
  have E9 := Lib.hid e9
  clear e9
  unfold HD.val
  go_enter Try.func25, Try.ntmps25
  unfold HD.cells
  go_wp2_with fail
  have hw0 : (w.alloc (.cells #[.int .u8 h.tos, .int .u16 h.id, .bool h.df, .bool h.mf, .int .i64 h.off, .int .u8 h.ttl, .int .u8 h.proto, .int .u32 h.src, .int .u32 h.dst, .slice A1 n1 c1] 49)).alloc (.cells #[.int .u8 h.tos, .int .u16 h.id, .bool h.df, .bool h.mf, .int .i64 h.off, .int .u8 h.ttl, .int .u8 h.proto, .int .u32 h.src, .int .u32 h.dst, .slice A2 n2 c2] 49) = (w.alloc (.cells (h.cells (.slice A1 n1 c1)) 49)).alloc (.cells (h.cells (.slice A2 n2 c2)) 49) := rfl
  rw [hw0]
  clear hw0
  generalize (w.alloc (.cells (h.cells (.slice A1 n1 c1)) 49)).alloc (.cells (h.cells (.slice A2 n2 c2)) 49) = w1 at hb B1 B2 ⊢
  refine (same_any A1 A2 n1 c1 n2 c2 xs xs w1 ((h1.below hb).more hb.size) ((h2.below hb).more hb.size) hn1 hn2).mono ?_
  rintro e w2 ⟨rfl, m, hm⟩
  rw [E9.out]
  replace B1 : BLOCK w2 w.heap.size 49 (h.cells (.slice A1 n1 c1)) := by rw [hm]; exact B1
  replace B2 : BLOCK w2 (w.heap.size + 1) 49 (h.cells (.slice A2 n2 c2)) := by rw [hm]; exact B2
  have hb2 : Below w.heap.size w w2 := by rw [hm]; exact below_drewN hb m
  have f0 := B1.cell 0
  have f1 := B1.cell 1
  have f2 := B1.cell 2
  have f3 := B1.cell 3
  have f4 := B1.cell 4
  have f5 := B1.cell 5
  have f6 := B1.cell 6
  have f7 := B1.cell 7
  have f8 := B1.cell 8
  have g0 := B2.cell 0
  have g1 := B2.cell 1
  have g2 := B2.cell 2
  have g3 := B2.cell 3
  have g4 := B2.cell 4
  have g5 := B2.cell 5
  have g6 := B2.cell 6
  have g7 := B2.cell 7
  have g8 := B2.cell 8
  simp only [HD.cells, List.getElem?_toArray, List.getElem?_cons_zero, List.getElem?_cons_succ] at f0 f1 f2 f3 f4 f5 f6 f7 f8 g0 g1 g2 g3 g4 g5 g6 g7 g8
  clear B1 B2 hm hb h1 h2
  go_wp2_with fail
  go_ret
  exact ⟨rfl, hb2⟩

end Go.Proofs.Ytljbfnabnkkfeaa
