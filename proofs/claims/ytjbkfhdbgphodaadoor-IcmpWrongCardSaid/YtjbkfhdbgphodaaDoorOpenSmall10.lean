/- A message in small numbers, opened to its cells. (Printed by gen_open.py.) -/
import Derived.Test.YtjbkfhdbgphodaaDoorProg
import Derived.Test.YtjbkfhdbgphodaaDoorBase
import Derived.OpenShut
namespace Go.Proofs.YtjbkfhdbgphodaaDoor
open Go.RowKit Go.ChangeShapes Go.WideShapes
set_option linter.unusedVariables false

set_option maxHeartbeats 4000000 in
set_option maxRecDepth 100000 in
theorem open_small10 {H : Type} {enc : TypeId × Value → H} {w : World} {base b0 : Nat} {r : Reach} {v : Value} {d : DataW H} {p : List MemPlace} (hv : Value.okWide Tryd.prog w r b0 36 v) (h : DataW.Trod enc Tryd.prog w base (fun _ => true) true 36 v d p) :
    ∃ (x0 : Int) (x1 : Int) (x2 : Int) (x3 : Int) (A : Option Addr) (n c : Nat) (zs : List Int), v = .agg #[.int .u8 x0, .int .u8 x1, .int .u16 x2, .int .u16 x3, .slice A n c] ∧ (Lit.int .u8 x0).wf = true ∧ (Lit.int .u8 x1).wf = true ∧ (Lit.int .u16 x2).wf = true ∧ (Lit.int .u16 x3).wf = true ∧ ROW .u8 255 w A n c zs ∧ c ≤ c := by
  obtain ⟨cs, rfl, hsz⟩ := okWide_struct Tryd.underlying36 hv
  rw [show Tryd.prog.cellsOf 36 = 5 by kernel_rfl] at hsz
  obtain ⟨fuel, hf⟩ := h
  obtain ⟨xs, m, _, _, _, hlen, hg⟩ := DataW.trod_struct Tryd.underlying36 hf
  clear hf hv
  obtain ⟨l⟩ := cs
  simp only [List.size_toArray] at hsz
  simp only [Value.cells] at hg
  obtain ⟨c0, l, rfl⟩ : ∃ a m, l = a :: m := by cases l with | nil => simp at hsz | cons a m => exact ⟨a, m, rfl⟩
  obtain ⟨c1, l, rfl⟩ : ∃ a m, l = a :: m := by cases l with | nil => simp at hsz | cons a m => exact ⟨a, m, rfl⟩
  obtain ⟨c2, l, rfl⟩ : ∃ a m, l = a :: m := by cases l with | nil => simp at hsz | cons a m => exact ⟨a, m, rfl⟩
  obtain ⟨c3, l, rfl⟩ : ∃ a m, l = a :: m := by cases l with | nil => simp at hsz | cons a m => exact ⟨a, m, rfl⟩
  obtain ⟨c4, l, rfl⟩ : ∃ a m, l = a :: m := by cases l with | nil => simp at hsz | cons a m => exact ⟨a, m, rfl⟩
  obtain rfl : l = [] := by cases l with | nil => rfl | cons a m => simp at hsz
  clear hsz
  have e0 := hg 0 _ rfl
  simp only [List.getElem_toArray, List.getElem_cons_zero] at e0
  obtain ⟨y0, hy0⟩ : ∃ y, xs[0]? = some y := ⟨_, List.getElem?_eq_getElem (by rw [hlen]; simp)⟩
  rw [hy0, show Tryd.prog.cellsOf 5 = 1 by kernel_rfl] at e0
  simp only [List.drop_zero, List.take_succ_cons, List.take_zero] at e0
  obtain ⟨x0, hc0, _, hw0⟩ := DataW.trod_int Tryd.underlying5 e0
  simp only [List.cons.injEq, and_true] at hc0
  subst hc0
  have e1 := hg 1 _ rfl
  simp only [List.getElem_toArray, List.getElem_cons_zero, List.getElem_cons_succ] at e1
  obtain ⟨y1, hy1⟩ : ∃ y, xs[1]? = some y := ⟨_, List.getElem?_eq_getElem (by rw [hlen]; simp)⟩
  rw [hy1, show Tryd.prog.cellsOf 5 = 1 by kernel_rfl] at e1
  simp only [List.drop_zero, List.drop_succ_cons, List.take_succ_cons, List.take_zero] at e1
  obtain ⟨x1, hc1, _, hw1⟩ := DataW.trod_int Tryd.underlying5 e1
  simp only [List.cons.injEq, and_true] at hc1
  subst hc1
  have e2 := hg 2 _ rfl
  simp only [List.getElem_toArray, List.getElem_cons_zero, List.getElem_cons_succ] at e2
  obtain ⟨y2, hy2⟩ : ∃ y, xs[2]? = some y := ⟨_, List.getElem?_eq_getElem (by rw [hlen]; simp)⟩
  rw [hy2, show Tryd.prog.cellsOf 25 = 1 by kernel_rfl] at e2
  simp only [List.drop_zero, List.drop_succ_cons, List.take_succ_cons, List.take_zero] at e2
  obtain ⟨x2, hc2, _, hw2⟩ := DataW.trod_int Tryd.underlying25 e2
  simp only [List.cons.injEq, and_true] at hc2
  subst hc2
  have e3 := hg 3 _ rfl
  simp only [List.getElem_toArray, List.getElem_cons_zero, List.getElem_cons_succ] at e3
  obtain ⟨y3, hy3⟩ : ∃ y, xs[3]? = some y := ⟨_, List.getElem?_eq_getElem (by rw [hlen]; simp)⟩
  rw [hy3, show Tryd.prog.cellsOf 25 = 1 by kernel_rfl] at e3
  simp only [List.drop_zero, List.drop_succ_cons, List.take_succ_cons, List.take_zero] at e3
  obtain ⟨x3, hc3, _, hw3⟩ := DataW.trod_int Tryd.underlying25 e3
  simp only [List.cons.injEq, and_true] at hc3
  subst hc3
  have e4 := hg 4 _ rfl
  simp only [List.getElem_toArray, List.getElem_cons_zero, List.getElem_cons_succ] at e4
  obtain ⟨y4, hy4⟩ : ∃ y, xs[4]? = some y := ⟨_, List.getElem?_eq_getElem (by rw [hlen]; simp)⟩
  rw [hy4, show Tryd.prog.cellsOf 22 = 1 by kernel_rfl] at e4
  simp only [List.drop_zero, List.drop_succ_cons, List.take_succ_cons, List.take_zero] at e4
  obtain ⟨A, n, c, zs, hc4, hrow⟩ : ∃ A n c zs, c4 = .slice A n c ∧ ROW .u8 255 w A n c zs := by
    rcases open_ints Tryd.underlying22 Tryd.underlying5 (by kernel_rfl) e4 with ⟨hcs, _⟩ | ⟨x, l, c, zs, hcs, _, hl, hm, hz, _, hcell, hwz⟩
    · simp only [List.cons.injEq, and_true] at hcs
      exact ⟨none, 0, 0, _, hcs, row_of (zs := []) (fun _ => wf_u8) (.inl ⟨rfl, rfl, rfl, rfl⟩)⟩
    · simp only [List.cons.injEq, and_true] at hcs
      exact ⟨_, _, _, _, hcs, row_of (zs := zs) (fun _ => wf_u8) (.inr ⟨_, rfl, hl, hm, by simpa using hz, hcell, hwz⟩)⟩
  subst hc4
  exact ⟨x0, x1, x2, x3, A, n, c, zs, rfl, hw0, hw1, hw2, hw3, ⟨hrow, Nat.le_refl _⟩⟩
end Go.Proofs.YtjbkfhdbgphodaaDoor
