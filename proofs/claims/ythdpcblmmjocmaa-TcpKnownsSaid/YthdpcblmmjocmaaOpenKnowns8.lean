/- What is known of options, in small numbers, opened to its cells. (Printed by gen_open.py.) -/
import Derived.Test.YthdpcblmmjocmaaProg
import Derived.Test.YthdpcblmmjocmaaBase
import Derived.OpenShut
namespace Go.Proofs.Ythdpcblmmjocmaa
open Go.RowKit Go.ChangeShapes Go.WideShapes
set_option linter.unusedVariables false

set_option maxHeartbeats 4000000 in
set_option maxRecDepth 100000 in
theorem open_knowns8 {H : Type} {enc : TypeId × Value → H} {w : World} {base b0 : Nat} {r : Reach} {v : Value} {d : DataW H} {p : List MemPlace} (hv : Value.okWide Try.prog w r b0 54 v) (h : DataW.Trod enc Try.prog w base (fun _ => true) true 54 v d p) :
    ∃ (x0 : Int) (x1 : Int) (x2 : Int) (x3 : Int) (x4 : Int) (x5 : Int) (x6 : Int) (x7 : Int), v = .agg #[.int .u8 x0, .int .u16 x1, .int .u8 x2, .int .u32 x3, .int .u32 x4, .int .u8 x5, .int .u8 x6, .int .u8 x7] ∧ (Lit.int .u8 x0).wf = true ∧ (Lit.int .u16 x1).wf = true ∧ (Lit.int .u8 x2).wf = true ∧ (Lit.int .u32 x3).wf = true ∧ (Lit.int .u32 x4).wf = true ∧ (Lit.int .u8 x5).wf = true ∧ (Lit.int .u8 x6).wf = true ∧ (Lit.int .u8 x7).wf = true := by
  obtain ⟨cs, rfl, hsz⟩ := okWide_struct Try.underlying54 hv
  rw [show Try.prog.cellsOf 54 = 8 by kernel_rfl] at hsz
  obtain ⟨fuel, hf⟩ := h
  obtain ⟨xs, m, _, _, _, hlen, hg⟩ := DataW.trod_struct Try.underlying54 hf
  clear hf hv
  obtain ⟨l⟩ := cs
  simp only [List.size_toArray] at hsz
  simp only [Value.cells] at hg
  obtain ⟨c0, l, rfl⟩ : ∃ a m, l = a :: m := by cases l with | nil => simp at hsz | cons a m => exact ⟨a, m, rfl⟩
  obtain ⟨c1, l, rfl⟩ : ∃ a m, l = a :: m := by cases l with | nil => simp at hsz | cons a m => exact ⟨a, m, rfl⟩
  obtain ⟨c2, l, rfl⟩ : ∃ a m, l = a :: m := by cases l with | nil => simp at hsz | cons a m => exact ⟨a, m, rfl⟩
  obtain ⟨c3, l, rfl⟩ : ∃ a m, l = a :: m := by cases l with | nil => simp at hsz | cons a m => exact ⟨a, m, rfl⟩
  obtain ⟨c4, l, rfl⟩ : ∃ a m, l = a :: m := by cases l with | nil => simp at hsz | cons a m => exact ⟨a, m, rfl⟩
  obtain ⟨c5, l, rfl⟩ : ∃ a m, l = a :: m := by cases l with | nil => simp at hsz | cons a m => exact ⟨a, m, rfl⟩
  obtain ⟨c6, l, rfl⟩ : ∃ a m, l = a :: m := by cases l with | nil => simp at hsz | cons a m => exact ⟨a, m, rfl⟩
  obtain ⟨c7, l, rfl⟩ : ∃ a m, l = a :: m := by cases l with | nil => simp at hsz | cons a m => exact ⟨a, m, rfl⟩
  obtain rfl : l = [] := by cases l with | nil => rfl | cons a m => simp at hsz
  clear hsz
  have e0 := hg 0 _ rfl
  simp only [List.getElem_toArray, List.getElem_cons_zero] at e0
  obtain ⟨y0, hy0⟩ : ∃ y, xs[0]? = some y := ⟨_, List.getElem?_eq_getElem (by rw [hlen]; simp)⟩
  rw [hy0, show Try.prog.cellsOf 5 = 1 by kernel_rfl] at e0
  simp only [List.drop_zero, List.take_succ_cons, List.take_zero] at e0
  obtain ⟨x0, hc0, _, hw0⟩ := DataW.trod_int Try.underlying5 e0
  simp only [List.cons.injEq, and_true] at hc0
  subst hc0
  have e1 := hg 1 _ rfl
  simp only [List.getElem_toArray, List.getElem_cons_zero, List.getElem_cons_succ] at e1
  obtain ⟨y1, hy1⟩ : ∃ y, xs[1]? = some y := ⟨_, List.getElem?_eq_getElem (by rw [hlen]; simp)⟩
  rw [hy1, show Try.prog.cellsOf 26 = 1 by kernel_rfl] at e1
  simp only [List.drop_zero, List.drop_succ_cons, List.take_succ_cons, List.take_zero] at e1
  obtain ⟨x1, hc1, _, hw1⟩ := DataW.trod_int Try.underlying26 e1
  simp only [List.cons.injEq, and_true] at hc1
  subst hc1
  have e2 := hg 2 _ rfl
  simp only [List.getElem_toArray, List.getElem_cons_zero, List.getElem_cons_succ] at e2
  obtain ⟨y2, hy2⟩ : ∃ y, xs[2]? = some y := ⟨_, List.getElem?_eq_getElem (by rw [hlen]; simp)⟩
  rw [hy2, show Try.prog.cellsOf 5 = 1 by kernel_rfl] at e2
  simp only [List.drop_zero, List.drop_succ_cons, List.take_succ_cons, List.take_zero] at e2
  obtain ⟨x2, hc2, _, hw2⟩ := DataW.trod_int Try.underlying5 e2
  simp only [List.cons.injEq, and_true] at hc2
  subst hc2
  have e3 := hg 3 _ rfl
  simp only [List.getElem_toArray, List.getElem_cons_zero, List.getElem_cons_succ] at e3
  obtain ⟨y3, hy3⟩ : ∃ y, xs[3]? = some y := ⟨_, List.getElem?_eq_getElem (by rw [hlen]; simp)⟩
  rw [hy3, show Try.prog.cellsOf 23 = 1 by kernel_rfl] at e3
  simp only [List.drop_zero, List.drop_succ_cons, List.take_succ_cons, List.take_zero] at e3
  obtain ⟨x3, hc3, _, hw3⟩ := DataW.trod_int Try.underlying23 e3
  simp only [List.cons.injEq, and_true] at hc3
  subst hc3
  have e4 := hg 4 _ rfl
  simp only [List.getElem_toArray, List.getElem_cons_zero, List.getElem_cons_succ] at e4
  obtain ⟨y4, hy4⟩ : ∃ y, xs[4]? = some y := ⟨_, List.getElem?_eq_getElem (by rw [hlen]; simp)⟩
  rw [hy4, show Try.prog.cellsOf 23 = 1 by kernel_rfl] at e4
  simp only [List.drop_zero, List.drop_succ_cons, List.take_succ_cons, List.take_zero] at e4
  obtain ⟨x4, hc4, _, hw4⟩ := DataW.trod_int Try.underlying23 e4
  simp only [List.cons.injEq, and_true] at hc4
  subst hc4
  have e5 := hg 5 _ rfl
  simp only [List.getElem_toArray, List.getElem_cons_zero, List.getElem_cons_succ] at e5
  obtain ⟨y5, hy5⟩ : ∃ y, xs[5]? = some y := ⟨_, List.getElem?_eq_getElem (by rw [hlen]; simp)⟩
  rw [hy5, show Try.prog.cellsOf 5 = 1 by kernel_rfl] at e5
  simp only [List.drop_zero, List.drop_succ_cons, List.take_succ_cons, List.take_zero] at e5
  obtain ⟨x5, hc5, _, hw5⟩ := DataW.trod_int Try.underlying5 e5
  simp only [List.cons.injEq, and_true] at hc5
  subst hc5
  have e6 := hg 6 _ rfl
  simp only [List.getElem_toArray, List.getElem_cons_zero, List.getElem_cons_succ] at e6
  obtain ⟨y6, hy6⟩ : ∃ y, xs[6]? = some y := ⟨_, List.getElem?_eq_getElem (by rw [hlen]; simp)⟩
  rw [hy6, show Try.prog.cellsOf 5 = 1 by kernel_rfl] at e6
  simp only [List.drop_zero, List.drop_succ_cons, List.take_succ_cons, List.take_zero] at e6
  obtain ⟨x6, hc6, _, hw6⟩ := DataW.trod_int Try.underlying5 e6
  simp only [List.cons.injEq, and_true] at hc6
  subst hc6
  have e7 := hg 7 _ rfl
  simp only [List.getElem_toArray, List.getElem_cons_zero, List.getElem_cons_succ] at e7
  obtain ⟨y7, hy7⟩ : ∃ y, xs[7]? = some y := ⟨_, List.getElem?_eq_getElem (by rw [hlen]; simp)⟩
  rw [hy7, show Try.prog.cellsOf 5 = 1 by kernel_rfl] at e7
  simp only [List.drop_zero, List.drop_succ_cons, List.take_succ_cons, List.take_zero] at e7
  obtain ⟨x7, hc7, _, hw7⟩ := DataW.trod_int Try.underlying5 e7
  simp only [List.cons.injEq, and_true] at hc7
  subst hc7
  exact ⟨x0, x1, x2, x3, x4, x5, x6, x7, rfl, hw0, hw1, hw2, hw3, hw4, hw5, hw6, hw7⟩
end Go.Proofs.Ythdpcblmmjocmaa
