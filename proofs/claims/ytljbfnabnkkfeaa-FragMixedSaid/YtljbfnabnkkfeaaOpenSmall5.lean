/- A packet in small numbers, opened to its cells. (Printed by gen_open.py.) -/
import Derived.Test.YtljbfnabnkkfeaaProg
import Derived.Test.YtljbfnabnkkfeaaBase
import Derived.OpenShut
namespace Go.Proofs.Ytljbfnabnkkfeaa
open Go.RowKit Go.ChangeShapes Go.WideShapes
set_option linter.unusedVariables false

set_option maxHeartbeats 4000000 in
set_option maxRecDepth 100000 in
theorem open_small5 {H : Type} {enc : TypeId × Value → H} {w : World} {base b0 : Nat} {r : Reach} {v : Value} {d : DataW H} {p : List MemPlace} (hv : Value.okWide Try.prog w r b0 25 v) (h : DataW.Trod enc Try.prog w base (fun _ => true) true 25 v d p) :
    ∃ (x0 : Int) (x1 : Int) (x2 : Int) (x3 : Int) (x4 : Int) (x5 : Int) (x6 : Int) (x7 : Int) (x8 : Int) (x9 : Int) (x10 : Int) (x11 : Int) (x12 : Int) (x13 : Int) (x14 : Int) (x15 : Bool) (x16 : Bool) (A : Option Addr) (n c : Nat) (zs : List Int), v = .agg #[.int .u8 x0, .int .u8 x1, .int .u8 x2, .int .u8 x3, .int .u8 x4, .int .u8 x5, .int .u8 x6, .int .u8 x7, .int .u8 x8, .int .u8 x9, .int .u8 x10, .int .u8 x11, .int .u8 x12, .int .u8 x13, .int .u8 x14, .bool x15, .bool x16, .slice A n c] ∧ (Lit.int .u8 x0).wf = true ∧ (Lit.int .u8 x1).wf = true ∧ (Lit.int .u8 x2).wf = true ∧ (Lit.int .u8 x3).wf = true ∧ (Lit.int .u8 x4).wf = true ∧ (Lit.int .u8 x5).wf = true ∧ (Lit.int .u8 x6).wf = true ∧ (Lit.int .u8 x7).wf = true ∧ (Lit.int .u8 x8).wf = true ∧ (Lit.int .u8 x9).wf = true ∧ (Lit.int .u8 x10).wf = true ∧ (Lit.int .u8 x11).wf = true ∧ (Lit.int .u8 x12).wf = true ∧ (Lit.int .u8 x13).wf = true ∧ (Lit.int .u8 x14).wf = true ∧ ROW .u8 255 w A n c zs ∧ c ≤ c := by
  obtain ⟨cs, rfl, hsz⟩ := okWide_struct Try.underlying25 hv
  rw [show Try.prog.cellsOf 25 = 18 by kernel_rfl] at hsz
  obtain ⟨fuel, hf⟩ := h
  obtain ⟨xs, m, _, _, _, hlen, hg⟩ := DataW.trod_struct Try.underlying25 hf
  clear hf hv
  obtain ⟨l⟩ := cs
  simp only [List.size_toArray] at hsz
  simp only [Value.cells] at hg
  obtain ⟨c0, l, rfl⟩ : ∃ a m, l = a :: m := by cases l with | nil => simp at hsz | cons a m => exact ⟨a, m, rfl⟩
  obtain ⟨c1, l, rfl⟩ : ∃ a m, l = a :: m := by cases l with | nil => simp at hsz | cons a m => exact ⟨a, m, rfl⟩
  obtain ⟨c2, l, rfl⟩ : ∃ a m, l = a :: m := by cases l with | nil => simp at hsz | cons a m => exact ⟨a, m, rfl⟩
  obtain ⟨c3, l, rfl⟩ : ∃ a m, l = a :: m := by cases l with | nil => simp at hsz | cons a m => exact ⟨a, m, rfl⟩
  obtain ⟨c4, l, rfl⟩ : ∃ a m, l = a :: m := by cases l with | nil => simp at hsz | cons a m => exact ⟨a, m, rfl⟩
  obtain ⟨c5, l, rfl⟩ : ∃ a m, l = a :: m := by cases l with | nil => simp at hsz | cons a m => exact ⟨a, m, rfl⟩
  obtain ⟨c6, l, rfl⟩ : ∃ a m, l = a :: m := by cases l with | nil => simp at hsz | cons a m => exact ⟨a, m, rfl⟩
  obtain ⟨c7, l, rfl⟩ : ∃ a m, l = a :: m := by cases l with | nil => simp at hsz | cons a m => exact ⟨a, m, rfl⟩
  obtain ⟨c8, l, rfl⟩ : ∃ a m, l = a :: m := by cases l with | nil => simp at hsz | cons a m => exact ⟨a, m, rfl⟩
  obtain ⟨c9, l, rfl⟩ : ∃ a m, l = a :: m := by cases l with | nil => simp at hsz | cons a m => exact ⟨a, m, rfl⟩
  obtain ⟨c10, l, rfl⟩ : ∃ a m, l = a :: m := by cases l with | nil => simp at hsz | cons a m => exact ⟨a, m, rfl⟩
  obtain ⟨c11, l, rfl⟩ : ∃ a m, l = a :: m := by cases l with | nil => simp at hsz | cons a m => exact ⟨a, m, rfl⟩
  obtain ⟨c12, l, rfl⟩ : ∃ a m, l = a :: m := by cases l with | nil => simp at hsz | cons a m => exact ⟨a, m, rfl⟩
  obtain ⟨c13, l, rfl⟩ : ∃ a m, l = a :: m := by cases l with | nil => simp at hsz | cons a m => exact ⟨a, m, rfl⟩
  obtain ⟨c14, l, rfl⟩ : ∃ a m, l = a :: m := by cases l with | nil => simp at hsz | cons a m => exact ⟨a, m, rfl⟩
  obtain ⟨c15, l, rfl⟩ : ∃ a m, l = a :: m := by cases l with | nil => simp at hsz | cons a m => exact ⟨a, m, rfl⟩
  obtain ⟨c16, l, rfl⟩ : ∃ a m, l = a :: m := by cases l with | nil => simp at hsz | cons a m => exact ⟨a, m, rfl⟩
  obtain ⟨c17, l, rfl⟩ : ∃ a m, l = a :: m := by cases l with | nil => simp at hsz | cons a m => exact ⟨a, m, rfl⟩
  obtain rfl : l = [] := by cases l with | nil => rfl | cons a m => simp at hsz
  clear hsz
  have e0 := hg 0 _ rfl
  simp only [List.getElem_toArray, List.getElem_cons_zero] at e0
  obtain ⟨y0, hy0⟩ : ∃ y, xs[0]? = some y := ⟨_, List.getElem?_eq_getElem (by rw [hlen]; simp)⟩
  rw [hy0, show Try.prog.cellsOf 22 = 12 by kernel_rfl] at e0
  obtain ⟨els, m0, _, _, _, hal, hag⟩ := DataW.trod_array Try.underlying22 e0
  rw [show Try.prog.cellsOf 5 = 1 by kernel_rfl] at hag
  have e0_0 := hag 0 (by omega)
  obtain ⟨y0_0, hy0_0⟩ : ∃ y, els[0]? = some y := ⟨_, List.getElem?_eq_getElem (by rw [hal]; omega)⟩
  rw [hy0_0] at e0_0
  simp only [Nat.mul_one, List.drop_zero, List.take_succ_cons, List.take_zero] at e0_0
  obtain ⟨x0, hc0_0, _, hw0_0⟩ := DataW.trod_int Try.underlying5 e0_0
  simp only [List.cons.injEq, and_true] at hc0_0
  subst hc0_0
  have e0_1 := hag 1 (by omega)
  obtain ⟨y0_1, hy0_1⟩ : ∃ y, els[1]? = some y := ⟨_, List.getElem?_eq_getElem (by rw [hal]; omega)⟩
  rw [hy0_1] at e0_1
  simp only [Nat.mul_one, List.drop_zero, List.drop_succ_cons, List.take_succ_cons, List.take_zero] at e0_1
  obtain ⟨x1, hc0_1, _, hw0_1⟩ := DataW.trod_int Try.underlying5 e0_1
  simp only [List.cons.injEq, and_true] at hc0_1
  subst hc0_1
  have e0_2 := hag 2 (by omega)
  obtain ⟨y0_2, hy0_2⟩ : ∃ y, els[2]? = some y := ⟨_, List.getElem?_eq_getElem (by rw [hal]; omega)⟩
  rw [hy0_2] at e0_2
  simp only [Nat.mul_one, List.drop_zero, List.drop_succ_cons, List.take_succ_cons, List.take_zero] at e0_2
  obtain ⟨x2, hc0_2, _, hw0_2⟩ := DataW.trod_int Try.underlying5 e0_2
  simp only [List.cons.injEq, and_true] at hc0_2
  subst hc0_2
  have e0_3 := hag 3 (by omega)
  obtain ⟨y0_3, hy0_3⟩ : ∃ y, els[3]? = some y := ⟨_, List.getElem?_eq_getElem (by rw [hal]; omega)⟩
  rw [hy0_3] at e0_3
  simp only [Nat.mul_one, List.drop_zero, List.drop_succ_cons, List.take_succ_cons, List.take_zero] at e0_3
  obtain ⟨x3, hc0_3, _, hw0_3⟩ := DataW.trod_int Try.underlying5 e0_3
  simp only [List.cons.injEq, and_true] at hc0_3
  subst hc0_3
  have e0_4 := hag 4 (by omega)
  obtain ⟨y0_4, hy0_4⟩ : ∃ y, els[4]? = some y := ⟨_, List.getElem?_eq_getElem (by rw [hal]; omega)⟩
  rw [hy0_4] at e0_4
  simp only [Nat.mul_one, List.drop_zero, List.drop_succ_cons, List.take_succ_cons, List.take_zero] at e0_4
  obtain ⟨x4, hc0_4, _, hw0_4⟩ := DataW.trod_int Try.underlying5 e0_4
  simp only [List.cons.injEq, and_true] at hc0_4
  subst hc0_4
  have e0_5 := hag 5 (by omega)
  obtain ⟨y0_5, hy0_5⟩ : ∃ y, els[5]? = some y := ⟨_, List.getElem?_eq_getElem (by rw [hal]; omega)⟩
  rw [hy0_5] at e0_5
  simp only [Nat.mul_one, List.drop_zero, List.drop_succ_cons, List.take_succ_cons, List.take_zero] at e0_5
  obtain ⟨x5, hc0_5, _, hw0_5⟩ := DataW.trod_int Try.underlying5 e0_5
  simp only [List.cons.injEq, and_true] at hc0_5
  subst hc0_5
  have e0_6 := hag 6 (by omega)
  obtain ⟨y0_6, hy0_6⟩ : ∃ y, els[6]? = some y := ⟨_, List.getElem?_eq_getElem (by rw [hal]; omega)⟩
  rw [hy0_6] at e0_6
  simp only [Nat.mul_one, List.drop_zero, List.drop_succ_cons, List.take_succ_cons, List.take_zero] at e0_6
  obtain ⟨x6, hc0_6, _, hw0_6⟩ := DataW.trod_int Try.underlying5 e0_6
  simp only [List.cons.injEq, and_true] at hc0_6
  subst hc0_6
  have e0_7 := hag 7 (by omega)
  obtain ⟨y0_7, hy0_7⟩ : ∃ y, els[7]? = some y := ⟨_, List.getElem?_eq_getElem (by rw [hal]; omega)⟩
  rw [hy0_7] at e0_7
  simp only [Nat.mul_one, List.drop_zero, List.drop_succ_cons, List.take_succ_cons, List.take_zero] at e0_7
  obtain ⟨x7, hc0_7, _, hw0_7⟩ := DataW.trod_int Try.underlying5 e0_7
  simp only [List.cons.injEq, and_true] at hc0_7
  subst hc0_7
  have e0_8 := hag 8 (by omega)
  obtain ⟨y0_8, hy0_8⟩ : ∃ y, els[8]? = some y := ⟨_, List.getElem?_eq_getElem (by rw [hal]; omega)⟩
  rw [hy0_8] at e0_8
  simp only [Nat.mul_one, List.drop_zero, List.drop_succ_cons, List.take_succ_cons, List.take_zero] at e0_8
  obtain ⟨x8, hc0_8, _, hw0_8⟩ := DataW.trod_int Try.underlying5 e0_8
  simp only [List.cons.injEq, and_true] at hc0_8
  subst hc0_8
  have e0_9 := hag 9 (by omega)
  obtain ⟨y0_9, hy0_9⟩ : ∃ y, els[9]? = some y := ⟨_, List.getElem?_eq_getElem (by rw [hal]; omega)⟩
  rw [hy0_9] at e0_9
  simp only [Nat.mul_one, List.drop_zero, List.drop_succ_cons, List.take_succ_cons, List.take_zero] at e0_9
  obtain ⟨x9, hc0_9, _, hw0_9⟩ := DataW.trod_int Try.underlying5 e0_9
  simp only [List.cons.injEq, and_true] at hc0_9
  subst hc0_9
  have e0_10 := hag 10 (by omega)
  obtain ⟨y0_10, hy0_10⟩ : ∃ y, els[10]? = some y := ⟨_, List.getElem?_eq_getElem (by rw [hal]; omega)⟩
  rw [hy0_10] at e0_10
  simp only [Nat.mul_one, List.drop_zero, List.drop_succ_cons, List.take_succ_cons, List.take_zero] at e0_10
  obtain ⟨x10, hc0_10, _, hw0_10⟩ := DataW.trod_int Try.underlying5 e0_10
  simp only [List.cons.injEq, and_true] at hc0_10
  subst hc0_10
  have e0_11 := hag 11 (by omega)
  obtain ⟨y0_11, hy0_11⟩ : ∃ y, els[11]? = some y := ⟨_, List.getElem?_eq_getElem (by rw [hal]; omega)⟩
  rw [hy0_11] at e0_11
  simp only [Nat.mul_one, List.drop_zero, List.drop_succ_cons, List.take_succ_cons, List.take_zero] at e0_11
  obtain ⟨x11, hc0_11, _, hw0_11⟩ := DataW.trod_int Try.underlying5 e0_11
  simp only [List.cons.injEq, and_true] at hc0_11
  subst hc0_11
  have e1 := hg 1 _ rfl
  simp only [List.getElem_toArray, List.getElem_cons_zero, List.getElem_cons_succ] at e1
  obtain ⟨y1, hy1⟩ : ∃ y, xs[1]? = some y := ⟨_, List.getElem?_eq_getElem (by rw [hlen]; simp)⟩
  rw [hy1, show Try.prog.cellsOf 5 = 1 by kernel_rfl] at e1
  simp only [List.drop_zero, List.drop_succ_cons, List.take_succ_cons, List.take_zero] at e1
  obtain ⟨x12, hc1, _, hw1⟩ := DataW.trod_int Try.underlying5 e1
  simp only [List.cons.injEq, and_true] at hc1
  subst hc1
  have e2 := hg 2 _ rfl
  simp only [List.getElem_toArray, List.getElem_cons_zero, List.getElem_cons_succ] at e2
  obtain ⟨y2, hy2⟩ : ∃ y, xs[2]? = some y := ⟨_, List.getElem?_eq_getElem (by rw [hlen]; simp)⟩
  rw [hy2, show Try.prog.cellsOf 5 = 1 by kernel_rfl] at e2
  simp only [List.drop_zero, List.drop_succ_cons, List.take_succ_cons, List.take_zero] at e2
  obtain ⟨x13, hc2, _, hw2⟩ := DataW.trod_int Try.underlying5 e2
  simp only [List.cons.injEq, and_true] at hc2
  subst hc2
  have e3 := hg 3 _ rfl
  simp only [List.getElem_toArray, List.getElem_cons_zero, List.getElem_cons_succ] at e3
  obtain ⟨y3, hy3⟩ : ∃ y, xs[3]? = some y := ⟨_, List.getElem?_eq_getElem (by rw [hlen]; simp)⟩
  rw [hy3, show Try.prog.cellsOf 5 = 1 by kernel_rfl] at e3
  simp only [List.drop_zero, List.drop_succ_cons, List.take_succ_cons, List.take_zero] at e3
  obtain ⟨x14, hc3, _, hw3⟩ := DataW.trod_int Try.underlying5 e3
  simp only [List.cons.injEq, and_true] at hc3
  subst hc3
  have e4 := hg 4 _ rfl
  simp only [List.getElem_toArray, List.getElem_cons_zero, List.getElem_cons_succ] at e4
  obtain ⟨y4, hy4⟩ : ∃ y, xs[4]? = some y := ⟨_, List.getElem?_eq_getElem (by rw [hlen]; simp)⟩
  rw [hy4, show Try.prog.cellsOf 4 = 1 by kernel_rfl] at e4
  simp only [List.drop_zero, List.drop_succ_cons, List.take_succ_cons, List.take_zero] at e4
  obtain ⟨x15, hc4, _⟩ := DataW.trod_bool Try.underlying4 e4
  simp only [List.cons.injEq, and_true] at hc4
  subst hc4
  have e5 := hg 5 _ rfl
  simp only [List.getElem_toArray, List.getElem_cons_zero, List.getElem_cons_succ] at e5
  obtain ⟨y5, hy5⟩ : ∃ y, xs[5]? = some y := ⟨_, List.getElem?_eq_getElem (by rw [hlen]; simp)⟩
  rw [hy5, show Try.prog.cellsOf 4 = 1 by kernel_rfl] at e5
  simp only [List.drop_zero, List.drop_succ_cons, List.take_succ_cons, List.take_zero] at e5
  obtain ⟨x16, hc5, _⟩ := DataW.trod_bool Try.underlying4 e5
  simp only [List.cons.injEq, and_true] at hc5
  subst hc5
  have e6 := hg 6 _ rfl
  simp only [List.getElem_toArray, List.getElem_cons_zero, List.getElem_cons_succ] at e6
  obtain ⟨y6, hy6⟩ : ∃ y, xs[6]? = some y := ⟨_, List.getElem?_eq_getElem (by rw [hlen]; simp)⟩
  rw [hy6, show Try.prog.cellsOf 23 = 1 by kernel_rfl] at e6
  simp only [List.drop_zero, List.drop_succ_cons, List.take_succ_cons, List.take_zero] at e6
  obtain ⟨A, n, c, zs, hc6, hrow⟩ : ∃ A n c zs, c17 = .slice A n c ∧ ROW .u8 255 w A n c zs := by
    rcases open_ints Try.underlying23 Try.underlying5 (by kernel_rfl) e6 with ⟨hcs, _⟩ | ⟨x, l, c, zs, hcs, _, hl, hm, hz, _, hcell, hwz⟩
    · simp only [List.cons.injEq, and_true] at hcs
      exact ⟨none, 0, 0, _, hcs, row_of (zs := []) (fun _ => wf_u8) (.inl ⟨rfl, rfl, rfl, rfl⟩)⟩
    · simp only [List.cons.injEq, and_true] at hcs
      exact ⟨_, _, _, _, hcs, row_of (zs := zs) (fun _ => wf_u8) (.inr ⟨_, rfl, hl, hm, by simpa using hz, hcell, hwz⟩)⟩
  subst hc6
  exact ⟨x0, x1, x2, x3, x4, x5, x6, x7, x8, x9, x10, x11, x12, x13, x14, x15, x16, A, n, c, zs, rfl, hw0_0, hw0_1, hw0_2, hw0_3, hw0_4, hw0_5, hw0_6, hw0_7, hw0_8, hw0_9, hw0_10, hw0_11, hw1, hw2, hw3, ⟨hrow, Nat.le_refl _⟩⟩
end Go.Proofs.Ytljbfnabnkkfeaa
