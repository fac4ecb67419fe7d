/- A header of ten cells that is stored into a block. No program in sight. -/
import Derived.Test.YtljbfnabnkkfeaaIpP
import Derived.Test.YtljbfnabnkkfeaaBase
import Derived.Laws.Rows
import Derived.Laws.ResultCell
namespace Go.Proofs.Ytljbfnabnkkfeaa
open Go.RowKit

def set10 (w : World) (N : Nat) (v0 v1 v2 v3 v4 v5 v6 v7 v8 v9 : Value) : World :=
  (((((((((w.setCell ⟨N, 0, none⟩ v0).setCell ⟨N, 1, none⟩ v1).setCell ⟨N, 2, none⟩ v2).setCell ⟨N, 3, none⟩ v3).setCell ⟨N, 4, none⟩ v4).setCell ⟨N, 5, none⟩ v5).setCell ⟨N, 6, none⟩ v6).setCell ⟨N, 7, none⟩ v7).setCell ⟨N, 8, none⟩ v8).setCell ⟨N, 9, none⟩ v9
section
variable {w w0 : World} {N : Nat} {t : TypeId} {cs : Array Value} (v0 v1 v2 v3 v4 v5 v6 v7 v8 v9 : Value)
theorem set10_cells (hs : cs.size = 10) : (((((((((cs.setIfInBounds 0 v0).setIfInBounds 1 v1).setIfInBounds 2 v2).setIfInBounds 3 v3).setIfInBounds 4 v4).setIfInBounds 5 v5).setIfInBounds 6 v6).setIfInBounds 7 v7).setIfInBounds 8 v8).setIfInBounds 9 v9 = #[v0, v1, v2, v3, v4, v5, v6, v7, v8, v9] := by
  obtain ⟨l⟩ := cs
  obtain ⟨a0, l, rfl⟩ : ∃ a m, l = a :: m := by cases l with | nil => cases hs | cons a m => exact ⟨a, m, rfl⟩
  obtain ⟨a1, l, rfl⟩ : ∃ a m, l = a :: m := by cases l with | nil => cases hs | cons a m => exact ⟨a, m, rfl⟩
  obtain ⟨a2, l, rfl⟩ : ∃ a m, l = a :: m := by cases l with | nil => cases hs | cons a m => exact ⟨a, m, rfl⟩
  obtain ⟨a3, l, rfl⟩ : ∃ a m, l = a :: m := by cases l with | nil => cases hs | cons a m => exact ⟨a, m, rfl⟩
  obtain ⟨a4, l, rfl⟩ : ∃ a m, l = a :: m := by cases l with | nil => cases hs | cons a m => exact ⟨a, m, rfl⟩
  obtain ⟨a5, l, rfl⟩ : ∃ a m, l = a :: m := by cases l with | nil => cases hs | cons a m => exact ⟨a, m, rfl⟩
  obtain ⟨a6, l, rfl⟩ : ∃ a m, l = a :: m := by cases l with | nil => cases hs | cons a m => exact ⟨a, m, rfl⟩
  obtain ⟨a7, l, rfl⟩ : ∃ a m, l = a :: m := by cases l with | nil => cases hs | cons a m => exact ⟨a, m, rfl⟩
  obtain ⟨a8, l, rfl⟩ : ∃ a m, l = a :: m := by cases l with | nil => cases hs | cons a m => exact ⟨a, m, rfl⟩
  obtain ⟨a9, l, rfl⟩ : ∃ a m, l = a :: m := by cases l with | nil => cases hs | cons a m => exact ⟨a, m, rfl⟩
  obtain rfl : l = [] := by cases l with | nil => rfl | cons a m => simp at hs
  simp only [List.setIfInBounds_toArray, List.set_cons_zero, List.set_cons_succ]
theorem set10_block (h : BLOCK w N t cs) (hs : cs.size = 10) : BLOCK (set10 w N v0 v1 v2 v3 v4 v5 v6 v7 v8 v9) N t #[v0, v1, v2, v3, v4, v5, v6, v7, v8, v9] := by
  have h1 := ((((((((((h.set 0 v0).set 1 v1).set 2 v2).set 3 v3).set 4 v4).set 5 v5).set 6 v6).set 7 v7).set 8 v8).set 9 v9)
  rw [set10_cells v0 v1 v2 v3 v4 v5 v6 v7 v8 v9 hs] at h1
  exact h1
theorem set10_below {B : Nat} (h : Below B w0 w) (hN : B ≤ N) : Below B w0 (set10 w N v0 v1 v2 v3 v4 v5 v6 v7 v8 v9) :=
  (((((((((h.setCell (p := ⟨N, 0, none⟩) hN v0).setCell (p := ⟨N, 1, none⟩) hN v1).setCell (p := ⟨N, 2, none⟩) hN v2).setCell (p := ⟨N, 3, none⟩) hN v3).setCell (p := ⟨N, 4, none⟩) hN v4).setCell (p := ⟨N, 5, none⟩) hN v5).setCell (p := ⟨N, 6, none⟩) hN v6).setCell (p := ⟨N, 7, none⟩) hN v7).setCell (p := ⟨N, 8, none⟩) hN v8).setCell (p := ⟨N, 9, none⟩) hN v9
theorem set10_heap {b : Nat} (hb : b ≠ N) : (set10 w N v0 v1 v2 v3 v4 v5 v6 v7 v8 v9).heap[b]? = w.heap[b]? := by
  unfold set10
  rw [heap_setCell_other _ _ _ _ (by exact hb), heap_setCell_other _ _ _ _ (by exact hb), heap_setCell_other _ _ _ _ (by exact hb), heap_setCell_other _ _ _ _ (by exact hb), heap_setCell_other _ _ _ _ (by exact hb), heap_setCell_other _ _ _ _ (by exact hb), heap_setCell_other _ _ _ _ (by exact hb), heap_setCell_other _ _ _ _ (by exact hb), heap_setCell_other _ _ _ _ (by exact hb), heap_setCell_other _ _ _ _ (by exact hb)]
theorem set10_size : (set10 w N v0 v1 v2 v3 v4 v5 v6 v7 v8 v9).heap.size = w.heap.size := by
  have := (set10_below (B := 0) v0 v1 v2 v3 v4 v5 v6 v7 v8 v9 (Below.refl 0 w) (Nat.zero_le N)).size
  simp [set10, World.setCell]
theorem set10_own {k : IntKind} {e : TypeId} {base n c : Nat} {A : Option Addr} {zs : List Int} (h : OWN k e w base A n c zs) (hN : ∀ g, A = some ⟨g, 0, none⟩ → g ≠ N) : OWN k e (set10 w N v0 v1 v2 v3 v4 v5 v6 v7 v8 v9) base A n c zs :=
  h.keep fun g hg => set10_heap v0 v1 v2 v3 v4 v5 v6 v7 v8 v9 (hN g hg)
end
end Go.Proofs.Ytljbfnabnkkfeaa
