/- A header of UDP, opened to its cells. (Printed by gen_open.py.) -/
import Derived.Test.YtnocbpagdoihmaaProg
import Derived.Test.YtnocbpagdoihmaaRow
import Derived.OpenShut
namespace Go.Proofs.Ytnocbpagdoihmaa
open Go.RowKit Go.ChangeShapes Go.WideShapes
set_option linter.unusedVariables false

set_option maxHeartbeats 4000000 in
set_option maxRecDepth 100000 in
theorem open_uhdr {H : Type} {enc : TypeId × Value → H} {w : World} {base b0 : Nat} {r : Reach} {v : Value} {d : DataW H} {p : List MemPlace} (hv : Value.okWide Try.prog w r b0 28 v) (h : DataW.Trod enc Try.prog w base (fun _ => true) true 28 v d p) :
    ∃ (x0 : Int) (x1 : Int) (x2 : Bool), v = .agg #[.int .u16 x0, .int .u16 x1, .bool x2] ∧ (Lit.int .u16 x0).wf = true ∧ (Lit.int .u16 x1).wf = true := by
  obtain ⟨cs, rfl, hsz⟩ := okWide_struct Try.underlying28 hv
  rw [show Try.prog.cellsOf 28 = 3 by kernel_rfl] at hsz
  obtain ⟨fuel, hf⟩ := h
  obtain ⟨xs, m, _, _, _, hlen, hg⟩ := DataW.trod_struct Try.underlying28 hf
  clear hf hv
  obtain ⟨l⟩ := cs
  simp only [List.size_toArray] at hsz
  simp only [Value.cells] at hg
  obtain ⟨c0, l, rfl⟩ : ∃ a m, l = a :: m := by cases l with | nil => simp at hsz | cons a m => exact ⟨a, m, rfl⟩
  obtain ⟨c1, l, rfl⟩ : ∃ a m, l = a :: m := by cases l with | nil => simp at hsz | cons a m => exact ⟨a, m, rfl⟩
  obtain ⟨c2, l, rfl⟩ : ∃ a m, l = a :: m := by cases l with | nil => simp at hsz | cons a m => exact ⟨a, m, rfl⟩
  obtain rfl : l = [] := by cases l with | nil => rfl | cons a m => simp at hsz
  clear hsz
  have e0 := hg 0 _ rfl
  simp only [List.getElem_toArray, List.getElem_cons_zero, List.getElem_cons_succ] at e0
  obtain ⟨y0, hy0⟩ : ∃ y, xs[0]? = some y := ⟨_, List.getElem?_eq_getElem (by rw [hlen]; simp)⟩
  rw [hy0, show Try.prog.cellsOf 26 = 1 by kernel_rfl] at e0
  simp only [List.drop_zero, List.drop_succ_cons, List.take_succ_cons, List.take_zero] at e0
  obtain ⟨x0, hc0, _, hw0⟩ := DataW.trod_int Try.underlying26 e0
  simp only [List.cons.injEq, and_true] at hc0
  subst hc0
  have e1 := hg 1 _ rfl
  simp only [List.getElem_toArray, List.getElem_cons_zero, List.getElem_cons_succ] at e1
  obtain ⟨y1, hy1⟩ : ∃ y, xs[1]? = some y := ⟨_, List.getElem?_eq_getElem (by rw [hlen]; simp)⟩
  rw [hy1, show Try.prog.cellsOf 26 = 1 by kernel_rfl] at e1
  simp only [List.drop_zero, List.drop_succ_cons, List.take_succ_cons, List.take_zero] at e1
  obtain ⟨x1, hc1, _, hw1⟩ := DataW.trod_int Try.underlying26 e1
  simp only [List.cons.injEq, and_true] at hc1
  subst hc1
  have e2 := hg 2 _ rfl
  simp only [List.getElem_toArray, List.getElem_cons_zero, List.getElem_cons_succ] at e2
  obtain ⟨y2, hy2⟩ : ∃ y, xs[2]? = some y := ⟨_, List.getElem?_eq_getElem (by rw [hlen]; simp)⟩
  rw [hy2, show Try.prog.cellsOf 4 = 1 by kernel_rfl] at e2
  simp only [List.drop_zero, List.drop_succ_cons, List.take_succ_cons, List.take_zero] at e2
  obtain ⟨x2, hc2, _⟩ := DataW.trod_bool Try.underlying4 e2
  simp only [List.cons.injEq, and_true] at hc2
  subst hc2
  exact ⟨x0, x1, x2, rfl, hw0, hw1⟩
end Go.Proofs.Ytnocbpagdoihmaa
