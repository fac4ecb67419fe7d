/- Sep, more: a struct stored whole. No program in sight. -/
import Derived.Test.YtjbkfhdbgphodaaDoorSep
import Derived.Laws.Tables
import Derived.RegionTactic
namespace Go.Proofs.YtjbkfhdbgphodaaDoor
open Go.RowKit
theorem SP.setR {w0 w : World} {L : List IT} {N : Nat} {t : TypeId} {cs : Array Value} (H : SP w0 w L) (i : Nat) (hi : L[i]? = some (.blk N t cs)) (cs' : Array Value) : SP w0 (w.setRow N cs') (L.set i (.blk N t cs')) :=
  H.upd hi ⟨rfl, rfl, rfl, by simp, fun k hk => setRow_other w N k cs' (by have := H.ge i hi; omega)⟩ ⟨H.ge i hi, setRow_heap w N cs cs' t (0, 0) (H.blk i hi)⟩ (.inl rfl) fun b _ hb => setRow_other w N b cs' (fun h => hb (by rw [h]; rfl))
theorem step_store_row {P : Program} {w : World} {ops : Array Oper} {o : Oper} {a : Act} {K : Act → World → Prop} {Q : Exit → Act → World → Prop} {E : Prop} (hgd : o.guard = none) (ty : TypeId) (x y : Operand) (ho : o.op = .store ty x y)
    (g : Nat) (cells : Array Value) (hx : a.eval x = .pointer (some ⟨g, 0, none⟩)) (hy : a.eval y = .agg cells)
    (t : TypeId) (old : Array Value) (hg : w.heap[g]? = some (.cells old t (0, 0))) (hi : (P.info? ty).map (·.size) = some cells.size)
    (hold : old.size = cells.size) (h1 : cells.all (·.oneCell') = true)
    (h : K (a.put o.dst undef) (w.setRow g cells)) :
    if Region.wanted o (yielded ops a.tmps) = true then Oper.wp P o a w K Q else E := by
  have hw : Region.wanted o (yielded ops a.tmps) = true := by simp [Region.wanted, hgd]
  rw [if_pos hw]
  exact wp_store_row ty x y ho g cells hx hy t old hg hi hold h1 h
end Go.Proofs.YtjbkfhdbgphodaaDoor
