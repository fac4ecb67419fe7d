/- Literals of bytes. -/
import Derived.Test.YtjbkfhdbgphodaaDoorMem
namespace Go.Proofs.YtjbkfhdbgphodaaDoor
open Go.RowKit
theorem bd_all {m : Int} {zs : List Int} (h : zs.all (fun x => decide (0 ≤ x ∧ x ≤ m)) = true) : BD m zs := fun x hx => by
  have := List.all_eq_true.1 h x hx
  simpa using this
/-- a literal of bytes, and what has been done since -/
theorem lit_rd (w : World) (t : TypeId) (zs : List Int) : RD .u8 (w.alloc (.cells (zs.map (Value.int .u8)).toArray t)) (w.alloc (.cells (zs.map (Value.int .u8)).toArray t)).heap.size (some ⟨w.heap.size, 0, none⟩) zs.length zs := RD.new w .u8 t zs
end Go.Proofs.YtjbkfhdbgphodaaDoor
