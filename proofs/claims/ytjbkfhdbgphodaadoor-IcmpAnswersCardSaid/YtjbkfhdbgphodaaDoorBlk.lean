/- A block of the call's own, known whole. No program in sight. -/
import Derived.Test.YtjbkfhdbgphodaaDoorOwn
import Derived.Laws.Rows
namespace Go.Proofs.YtjbkfhdbgphodaaDoor
open Go.RowKit

/-- the block N holds the cells cs, of type t -/
def BLOCK (w : World) (N : Nat) (t : TypeId) (cs : Array Value) : Prop := w.heap[N]? = some (.cells cs t (0, 0))
section
variable {w w' : World} {N i : Nat} {t : TypeId} {cs : Array Value} {v : Value}
theorem BLOCK.cell (h : BLOCK w N t cs) (i : Nat) : w.cell? ⟨N, i, none⟩ = cs[i]? := cell_of_row w N i cs t (0, 0) h
theorem BLOCK.free (h : BLOCK w N t cs) (i : Nat) : w.frozen? ⟨N, i, none⟩ = false := frozen_of_row w N i cs t h
theorem BLOCK.lt (h : BLOCK w N t cs) : N < w.heap.size := (Array.getElem?_eq_some_iff.1 h).1
theorem BLOCK.below {B : Nat} (h : BLOCK w N t cs) (hb : Below B w w') (hN : N < B) : BLOCK w' N t cs := (hb.block N hN).trans h
theorem BLOCK.next (h : BLOCK w N t cs) (hb : Below w.heap.size w w') : BLOCK w' N t cs := h.below hb h.lt
theorem BLOCK.drewN (h : BLOCK w N t cs) (m : Nat) : BLOCK (w.drewN m) N t cs := h
theorem BLOCK.drew (h : BLOCK w N t cs) : BLOCK w.drew N t cs := h
theorem BLOCK.alloc (h : BLOCK w N t cs) (o : Obj) : BLOCK (w.alloc o) N t cs := (heap_alloc_old w o h.lt).trans h
theorem BLOCK.new (w : World) (t : TypeId) (cs : Array Value) : BLOCK (w.alloc (.cells cs t)) w.heap.size t cs := heap_alloc_new w _
theorem BLOCK.new' (w : World) (t : TypeId) (cs : Array Value) {g : Nat} (hg : w.heap.size = g) : BLOCK (w.alloc (.cells cs t)) g t cs := hg ▸ heap_alloc_new w _
theorem BLOCK.set (h : BLOCK w N t cs) (i : Nat) (v : Value) : BLOCK (w.setCell ⟨N, i, none⟩ v) N t (cs.setIfInBounds i v) := heap_setCell_same w N i cs t v h
theorem BLOCK.other (h : BLOCK w N t cs) {p : Addr} (hp : N ≠ p.block) (v : Value) : BLOCK (w.setCell p v) N t cs := (heap_setCell_other w p N v hp).trans h
end
end Go.Proofs.YtjbkfhdbgphodaaDoor
