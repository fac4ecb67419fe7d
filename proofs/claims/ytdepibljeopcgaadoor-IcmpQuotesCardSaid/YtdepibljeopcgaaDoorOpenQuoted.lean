/- A quoted packet in small numbers, opened to its cells. (Printed by gen_quoted.py.) -/
import Derived.Test.YtdepibljeopcgaaDoorProg
import Derived.Test.YtdepibljeopcgaaDoorBase
import Derived.OpenShut
namespace Go.Proofs.YtdepibljeopcgaaDoor
open Go.RowKit Go.ChangeShapes Go.WideShapes
set_option linter.unusedVariables false

set_option maxHeartbeats 4000000 in
set_option maxRecDepth 100000 in
theorem open_quoted {H : Type} {enc : TypeId × Value → H} {w : World} {base b0 : Nat} {r : Reach} {v : Value} {d : DataW H} {p : List MemPlace} (hv : Value.okWide Tryd.prog w r b0 28 v) (h : DataW.Trod enc Tryd.prog w base (fun _ => true) true 28 v d p) :
    ∃ (x0 : Int) (x1 : Int) (x2 : Int) (x3 : Int) (x4 : Int) (x5 : Int) (x6 : Int) (x7 : Int) (x8 : Int) (x9 : Int) (x10 : Int) (x11 : Int) (x12 : Int) (x13 : Int) (x14 : Int) (x15 : Bool) (x16 : Bool) (x17 : Int) (x18 : Int) (x19 : Int) (x20 : Int) (A : Option Addr) (n c : Nat) (zs : List Int) (x22 : Int), v = .agg #[.int .u8 x0, .int .u8 x1, .int .u8 x2, .int .u8 x3, .int .u8 x4, .int .u8 x5, .int .u8 x6, .int .u8 x7, .int .u8 x8, .int .u8 x9, .int .u8 x10, .int .u8 x11, .int .u8 x12, .int .u16 x13, .int .u16 x14, .bool x15, .bool x16, .int .u8 x17, .int .u8 x18, .int .u16 x19, .int .u16 x20, .slice A n c, .int .u8 x22] ∧ (Lit.int .u8 x0).wf = true ∧ (Lit.int .u8 x1).wf = true ∧ (Lit.int .u8 x2).wf = true ∧ (Lit.int .u8 x3).wf = true ∧ (Lit.int .u8 x4).wf = true ∧ (Lit.int .u8 x5).wf = true ∧ (Lit.int .u8 x6).wf = true ∧ (Lit.int .u8 x7).wf = true ∧ (Lit.int .u8 x8).wf = true ∧ (Lit.int .u8 x9).wf = true ∧ (Lit.int .u8 x10).wf = true ∧ (Lit.int .u8 x11).wf = true ∧ (Lit.int .u8 x12).wf = true ∧ (Lit.int .u16 x13).wf = true ∧ (Lit.int .u16 x14).wf = true ∧ (Lit.int .u8 x17).wf = true ∧ (Lit.int .u8 x18).wf = true ∧ (Lit.int .u16 x19).wf = true ∧ (Lit.int .u16 x20).wf = true ∧ ROW .u8 255 w A n c zs ∧ (Lit.int .u8 x22).wf = true := by
  obtain ⟨cs, rfl, hsz⟩ := okWide_struct Tryd.underlying28 hv
  rw [show Tryd.prog.cellsOf 28 = 23 by kernel_rfl] at hsz
  obtain ⟨fuel, hf⟩ := h
  obtain ⟨xs, m, _, _, _, hlen, hg⟩ := DataW.trod_struct Tryd.underlying28 hf
  clear hf hv
  obtain ⟨l⟩ := cs
  simp only [List.size_toArray] at hsz
  simp only [Value.cells] at hg
  obtain ⟨c0, l, rfl⟩ : ∃ a m, l = a :: m := by cases l with | nil => simp at hsz | cons a m => exact ⟨a, m, rfl⟩
  obtain ⟨c1, l, rfl⟩ : ∃ a m, l = a :: m := by cases l with | nil => simp at hsz | cons a m => exact ⟨a, m, rfl⟩
  obtain ⟨c2, l, rfl⟩ : ∃ a m, l = a :: m := by cases l with | nil => simp at hsz | cons a m => exact ⟨a, m, rfl⟩
  obtain ⟨c3, l, rfl⟩ : ∃ a m, l = a :: m := by cases l with | nil => simp at hsz | cons a m => exact ⟨a, m, rfl⟩
  obtain ⟨c4, l, rfl⟩ : ∃ a m, l = a :: m := by cases l with | nil => simp at hsz | cons a m => exact ⟨a, m, rfl⟩
  obtain ⟨c5, l, rfl⟩ : ∃ a m, l = a :: m := by cases l with | nil => simp at hsz | cons a m => exact ⟨a, m, rfl⟩
  obtain ⟨c6, l, rfl⟩ : ∃ a m, l = a :: m := by cases l with | nil => simp at hsz | cons a m => exact ⟨a, m, rfl⟩
  obtain ⟨c7, l, rfl⟩ : ∃ a m, l = a :: m := by cases l with | nil => simp at hsz | cons a m => exact ⟨a, m, rfl⟩
  obtain ⟨c8, l, rfl⟩ : ∃ a m, l = a :: m := by cases l with | nil => simp at hsz | cons a m => exact ⟨a, m, rfl⟩
  obtain ⟨c9, l, rfl⟩ : ∃ a m, l = a :: m := by cases l with | nil => simp at hsz | cons a m => exact ⟨a, m, rfl⟩
  obtain ⟨c10, l, rfl⟩ : ∃ a m, l = a :: m := by cases l with | nil => simp at hsz | cons a m => exact ⟨a, m, rfl⟩
  obtain ⟨c11, l, rfl⟩ : ∃ a m, l = a :: m := by cases l with | nil => simp at hsz | cons a m => exact ⟨a, m, rfl⟩
  obtain ⟨c12, l, rfl⟩ : ∃ a m, l = a :: m := by cases l with | nil => simp at hsz | cons a m => exact ⟨a, m, rfl⟩
  obtain ⟨c13, l, rfl⟩ : ∃ a m, l = a :: m := by cases l with | nil => simp at hsz | cons a m => exact ⟨a, m, rfl⟩
  obtain ⟨c14, l, rfl⟩ : ∃ a m, l = a :: m := by cases l with | nil => simp at hsz | cons a m => exact ⟨a, m, rfl⟩
  obtain ⟨c15, l, rfl⟩ : ∃ a m, l = a :: m := by cases l with | nil => simp at hsz | cons a m => exact ⟨a, m, rfl⟩
  obtain ⟨c16, l, rfl⟩ : ∃ a m, l = a :: m := by cases l with | nil => simp at hsz | cons a m => exact ⟨a, m, rfl⟩
  obtain ⟨c17, l, rfl⟩ : ∃ a m, l = a :: m := by cases l with | nil => simp at hsz | cons a m => exact ⟨a, m, rfl⟩
  obtain ⟨c18, l, rfl⟩ : ∃ a m, l = a :: m := by cases l with | nil => simp at hsz | cons a m => exact ⟨a, m, rfl⟩
  obtain ⟨c19, l, rfl⟩ : ∃ a m, l = a :: m := by cases l with | nil => simp at hsz | cons a m => exact ⟨a, m, rfl⟩
  obtain ⟨c20, l, rfl⟩ : ∃ a m, l = a :: m := by cases l with | nil => simp at hsz | cons a m => exact ⟨a, m, rfl⟩
  obtain ⟨c21, l, rfl⟩ : ∃ a m, l = a :: m := by cases l with | nil => simp at hsz | cons a m => exact ⟨a, m, rfl⟩
  obtain ⟨c22, l, rfl⟩ : ∃ a m, l = a :: m := by cases l with | nil => simp at hsz | cons a m => exact ⟨a, m, rfl⟩
  obtain rfl : l = [] := by cases l with | nil => rfl | cons a m => simp at hsz
  clear hsz
  have e0 := hg 0 _ rfl
  simp only [List.getElem_toArray, List.getElem_cons_zero] at e0
  obtain ⟨y0, hy0⟩ : ∃ y, xs[0]? = some y := ⟨_, List.getElem?_eq_getElem (by rw [hlen]; simp)⟩
  rw [hy0, show Tryd.prog.cellsOf 22 = 12 by kernel_rfl] at e0
  obtain ⟨els0, m0, _, _, _, hal0, hag0⟩ := DataW.trod_array Tryd.underlying22 e0
  rw [show Tryd.prog.cellsOf 5 = 1 by kernel_rfl] at hag0
  have e0_0 := hag0 0 (by omega)
  obtain ⟨y0_0, hy0_0⟩ : ∃ y, els0[0]? = some y := ⟨_, List.getElem?_eq_getElem (by rw [hal0]; omega)⟩
  rw [hy0_0] at e0_0
  simp only [Nat.zero_mul, List.drop_zero, List.take_succ_cons, List.take_zero] at e0_0
  obtain ⟨x0, hc0_0, _, hw0_0⟩ := DataW.trod_int Tryd.underlying5 e0_0
  simp only [List.cons.injEq, and_true] at hc0_0
  subst hc0_0
  have e0_1 := hag0 1 (by omega)
  obtain ⟨y0_1, hy0_1⟩ : ∃ y, els0[1]? = some y := ⟨_, List.getElem?_eq_getElem (by rw [hal0]; omega)⟩
  rw [hy0_1] at e0_1
  simp only [Nat.mul_one, List.drop_zero, List.drop_succ_cons, List.take_succ_cons, List.take_zero] at e0_1
  obtain ⟨x1, hc0_1, _, hw0_1⟩ := DataW.trod_int Tryd.underlying5 e0_1
  simp only [List.cons.injEq, and_true] at hc0_1
  subst hc0_1
  have e0_2 := hag0 2 (by omega)
  obtain ⟨y0_2, hy0_2⟩ : ∃ y, els0[2]? = some y := ⟨_, List.getElem?_eq_getElem (by rw [hal0]; omega)⟩
  rw [hy0_2] at e0_2
  simp only [Nat.mul_one, List.drop_zero, List.drop_succ_cons, List.take_succ_cons, List.take_zero] at e0_2
  obtain ⟨x2, hc0_2, _, hw0_2⟩ := DataW.trod_int Tryd.underlying5 e0_2
  simp only [List.cons.injEq, and_true] at hc0_2
  subst hc0_2
  have e0_3 := hag0 3 (by omega)
  obtain ⟨y0_3, hy0_3⟩ : ∃ y, els0[3]? = some y := ⟨_, List.getElem?_eq_getElem (by rw [hal0]; omega)⟩
  rw [hy0_3] at e0_3
  simp only [Nat.mul_one, List.drop_zero, List.drop_succ_cons, List.take_succ_cons, List.take_zero] at e0_3
  obtain ⟨x3, hc0_3, _, hw0_3⟩ := DataW.trod_int Tryd.underlying5 e0_3
  simp only [List.cons.injEq, and_true] at hc0_3
  subst hc0_3
  have e0_4 := hag0 4 (by omega)
  obtain ⟨y0_4, hy0_4⟩ : ∃ y, els0[4]? = some y := ⟨_, List.getElem?_eq_getElem (by rw [hal0]; omega)⟩
  rw [hy0_4] at e0_4
  simp only [Nat.mul_one, List.drop_zero, List.drop_succ_cons, List.take_succ_cons, List.take_zero] at e0_4
  obtain ⟨x4, hc0_4, _, hw0_4⟩ := DataW.trod_int Tryd.underlying5 e0_4
  simp only [List.cons.injEq, and_true] at hc0_4
  subst hc0_4
  have e0_5 := hag0 5 (by omega)
  obtain ⟨y0_5, hy0_5⟩ : ∃ y, els0[5]? = some y := ⟨_, List.getElem?_eq_getElem (by rw [hal0]; omega)⟩
  rw [hy0_5] at e0_5
  simp only [Nat.mul_one, List.drop_zero, List.drop_succ_cons, List.take_succ_cons, List.take_zero] at e0_5
  obtain ⟨x5, hc0_5, _, hw0_5⟩ := DataW.trod_int Tryd.underlying5 e0_5
  simp only [List.cons.injEq, and_true] at hc0_5
  subst hc0_5
  have e0_6 := hag0 6 (by omega)
  obtain ⟨y0_6, hy0_6⟩ : ∃ y, els0[6]? = some y := ⟨_, List.getElem?_eq_getElem (by rw [hal0]; omega)⟩
  rw [hy0_6] at e0_6
  simp only [Nat.mul_one, List.drop_zero, List.drop_succ_cons, List.take_succ_cons, List.take_zero] at e0_6
  obtain ⟨x6, hc0_6, _, hw0_6⟩ := DataW.trod_int Tryd.underlying5 e0_6
  simp only [List.cons.injEq, and_true] at hc0_6
  subst hc0_6
  have e0_7 := hag0 7 (by omega)
  obtain ⟨y0_7, hy0_7⟩ : ∃ y, els0[7]? = some y := ⟨_, List.getElem?_eq_getElem (by rw [hal0]; omega)⟩
  rw [hy0_7] at e0_7
  simp only [Nat.mul_one, List.drop_zero, List.drop_succ_cons, List.take_succ_cons, List.take_zero] at e0_7
  obtain ⟨x7, hc0_7, _, hw0_7⟩ := DataW.trod_int Tryd.underlying5 e0_7
  simp only [List.cons.injEq, and_true] at hc0_7
  subst hc0_7
  have e0_8 := hag0 8 (by omega)
  obtain ⟨y0_8, hy0_8⟩ : ∃ y, els0[8]? = some y := ⟨_, List.getElem?_eq_getElem (by rw [hal0]; omega)⟩
  rw [hy0_8] at e0_8
  simp only [Nat.mul_one, List.drop_zero, List.drop_succ_cons, List.take_succ_cons, List.take_zero] at e0_8
  obtain ⟨x8, hc0_8, _, hw0_8⟩ := DataW.trod_int Tryd.underlying5 e0_8
  simp only [List.cons.injEq, and_true] at hc0_8
  subst hc0_8
  have e0_9 := hag0 9 (by omega)
  obtain ⟨y0_9, hy0_9⟩ : ∃ y, els0[9]? = some y := ⟨_, List.getElem?_eq_getElem (by rw [hal0]; omega)⟩
  rw [hy0_9] at e0_9
  simp only [Nat.mul_one, List.drop_zero, List.drop_succ_cons, List.take_succ_cons, List.take_zero] at e0_9
  obtain ⟨x9, hc0_9, _, hw0_9⟩ := DataW.trod_int Tryd.underlying5 e0_9
  simp only [List.cons.injEq, and_true] at hc0_9
  subst hc0_9
  have e0_10 := hag0 10 (by omega)
  obtain ⟨y0_10, hy0_10⟩ : ∃ y, els0[10]? = some y := ⟨_, List.getElem?_eq_getElem (by rw [hal0]; omega)⟩
  rw [hy0_10] at e0_10
  simp only [Nat.mul_one, List.drop_zero, List.drop_succ_cons, List.take_succ_cons, List.take_zero] at e0_10
  obtain ⟨x10, hc0_10, _, hw0_10⟩ := DataW.trod_int Tryd.underlying5 e0_10
  simp only [List.cons.injEq, and_true] at hc0_10
  subst hc0_10
  have e0_11 := hag0 11 (by omega)
  obtain ⟨y0_11, hy0_11⟩ : ∃ y, els0[11]? = some y := ⟨_, List.getElem?_eq_getElem (by rw [hal0]; omega)⟩
  rw [hy0_11] at e0_11
  simp only [Nat.mul_one, List.drop_zero, List.drop_succ_cons, List.take_succ_cons, List.take_zero] at e0_11
  obtain ⟨x11, hc0_11, _, hw0_11⟩ := DataW.trod_int Tryd.underlying5 e0_11
  simp only [List.cons.injEq, and_true] at hc0_11
  subst hc0_11
  have e1 := hg 1 _ rfl
  simp only [List.getElem_toArray, List.getElem_cons_zero, List.getElem_cons_succ] at e1
  obtain ⟨y1, hy1⟩ : ∃ y, xs[1]? = some y := ⟨_, List.getElem?_eq_getElem (by rw [hlen]; simp)⟩
  rw [hy1, show Tryd.prog.cellsOf 5 = 1 by kernel_rfl] at e1
  simp only [List.drop_succ_cons, List.drop_zero, List.take_succ_cons, List.take_zero] at e1
  obtain ⟨x12, hc1, _, hw1⟩ := DataW.trod_int Tryd.underlying5 e1
  simp only [List.cons.injEq, and_true] at hc1
  subst hc1
  have e2 := hg 2 _ rfl
  simp only [List.getElem_toArray, List.getElem_cons_zero, List.getElem_cons_succ] at e2
  obtain ⟨y2, hy2⟩ : ∃ y, xs[2]? = some y := ⟨_, List.getElem?_eq_getElem (by rw [hlen]; simp)⟩
  rw [hy2, show Tryd.prog.cellsOf 23 = 1 by kernel_rfl] at e2
  simp only [List.drop_succ_cons, List.drop_zero, List.take_succ_cons, List.take_zero] at e2
  obtain ⟨x13, hc2, _, hw2⟩ := DataW.trod_int Tryd.underlying23 e2
  simp only [List.cons.injEq, and_true] at hc2
  subst hc2
  have e3 := hg 3 _ rfl
  simp only [List.getElem_toArray, List.getElem_cons_zero, List.getElem_cons_succ] at e3
  obtain ⟨y3, hy3⟩ : ∃ y, xs[3]? = some y := ⟨_, List.getElem?_eq_getElem (by rw [hlen]; simp)⟩
  rw [hy3, show Tryd.prog.cellsOf 23 = 1 by kernel_rfl] at e3
  simp only [List.drop_succ_cons, List.drop_zero, List.take_succ_cons, List.take_zero] at e3
  obtain ⟨x14, hc3, _, hw3⟩ := DataW.trod_int Tryd.underlying23 e3
  simp only [List.cons.injEq, and_true] at hc3
  subst hc3
  have e4 := hg 4 _ rfl
  simp only [List.getElem_toArray, List.getElem_cons_zero, List.getElem_cons_succ] at e4
  obtain ⟨y4, hy4⟩ : ∃ y, xs[4]? = some y := ⟨_, List.getElem?_eq_getElem (by rw [hlen]; simp)⟩
  rw [hy4, show Tryd.prog.cellsOf 4 = 1 by kernel_rfl] at e4
  simp only [List.drop_succ_cons, List.drop_zero, List.take_succ_cons, List.take_zero] at e4
  obtain ⟨x15, hc4, _⟩ := DataW.trod_bool Tryd.underlying4 e4
  simp only [List.cons.injEq, and_true] at hc4
  subst hc4
  have e5 := hg 5 _ rfl
  simp only [List.getElem_toArray, List.getElem_cons_zero, List.getElem_cons_succ] at e5
  obtain ⟨y5, hy5⟩ : ∃ y, xs[5]? = some y := ⟨_, List.getElem?_eq_getElem (by rw [hlen]; simp)⟩
  rw [hy5, show Tryd.prog.cellsOf 4 = 1 by kernel_rfl] at e5
  simp only [List.drop_succ_cons, List.drop_zero, List.take_succ_cons, List.take_zero] at e5
  obtain ⟨x16, hc5, _⟩ := DataW.trod_bool Tryd.underlying4 e5
  simp only [List.cons.injEq, and_true] at hc5
  subst hc5
  have e6 := hg 6 _ rfl
  simp only [List.getElem_toArray, List.getElem_cons_zero, List.getElem_cons_succ] at e6
  obtain ⟨y6, hy6⟩ : ∃ y, xs[6]? = some y := ⟨_, List.getElem?_eq_getElem (by rw [hlen]; simp)⟩
  rw [hy6, show Tryd.prog.cellsOf 26 = 5 by kernel_rfl] at e6
  simp only [List.drop_succ_cons, List.drop_zero, List.take_succ_cons, List.take_zero] at e6
  obtain ⟨xs6, m6, _, _, _, hlen6, hg6⟩ := DataW.trod_struct Tryd.underlying26 e6
  have e6s0 := hg6 0 _ rfl
  simp only [List.getElem_toArray, List.getElem_cons_zero] at e6s0
  obtain ⟨y6s0, hy6s0⟩ : ∃ y, xs6[0]? = some y := ⟨_, List.getElem?_eq_getElem (by rw [hlen6]; simp)⟩
  rw [hy6s0, show Tryd.prog.cellsOf 5 = 1 by kernel_rfl] at e6s0
  simp only [List.drop_zero, List.take_succ_cons, List.take_zero] at e6s0
  obtain ⟨x17, hc6s0, _, hw6s0⟩ := DataW.trod_int Tryd.underlying5 e6s0
  simp only [List.cons.injEq, and_true] at hc6s0
  subst hc6s0
  have e6s1 := hg6 1 _ rfl
  simp only [List.getElem_toArray, List.getElem_cons_zero, List.getElem_cons_succ] at e6s1
  obtain ⟨y6s1, hy6s1⟩ : ∃ y, xs6[1]? = some y := ⟨_, List.getElem?_eq_getElem (by rw [hlen6]; simp)⟩
  rw [hy6s1, show Tryd.prog.cellsOf 5 = 1 by kernel_rfl] at e6s1
  simp only [List.drop_succ_cons, List.drop_zero, List.take_succ_cons, List.take_zero] at e6s1
  obtain ⟨x18, hc6s1, _, hw6s1⟩ := DataW.trod_int Tryd.underlying5 e6s1
  simp only [List.cons.injEq, and_true] at hc6s1
  subst hc6s1
  have e6s2 := hg6 2 _ rfl
  simp only [List.getElem_toArray, List.getElem_cons_zero, List.getElem_cons_succ] at e6s2
  obtain ⟨y6s2, hy6s2⟩ : ∃ y, xs6[2]? = some y := ⟨_, List.getElem?_eq_getElem (by rw [hlen6]; simp)⟩
  rw [hy6s2, show Tryd.prog.cellsOf 23 = 1 by kernel_rfl] at e6s2
  simp only [List.drop_succ_cons, List.drop_zero, List.take_succ_cons, List.take_zero] at e6s2
  obtain ⟨x19, hc6s2, _, hw6s2⟩ := DataW.trod_int Tryd.underlying23 e6s2
  simp only [List.cons.injEq, and_true] at hc6s2
  subst hc6s2
  have e6s3 := hg6 3 _ rfl
  simp only [List.getElem_toArray, List.getElem_cons_zero, List.getElem_cons_succ] at e6s3
  obtain ⟨y6s3, hy6s3⟩ : ∃ y, xs6[3]? = some y := ⟨_, List.getElem?_eq_getElem (by rw [hlen6]; simp)⟩
  rw [hy6s3, show Tryd.prog.cellsOf 23 = 1 by kernel_rfl] at e6s3
  simp only [List.drop_succ_cons, List.drop_zero, List.take_succ_cons, List.take_zero] at e6s3
  obtain ⟨x20, hc6s3, _, hw6s3⟩ := DataW.trod_int Tryd.underlying23 e6s3
  simp only [List.cons.injEq, and_true] at hc6s3
  subst hc6s3
  have e6s4 := hg6 4 _ rfl
  simp only [List.getElem_toArray, List.getElem_cons_zero, List.getElem_cons_succ] at e6s4
  obtain ⟨y6s4, hy6s4⟩ : ∃ y, xs6[4]? = some y := ⟨_, List.getElem?_eq_getElem (by rw [hlen6]; simp)⟩
  rw [hy6s4, show Tryd.prog.cellsOf 24 = 1 by kernel_rfl] at e6s4
  simp only [List.drop_succ_cons, List.drop_zero, List.take_succ_cons, List.take_zero] at e6s4
  obtain ⟨A, n, c, zs, hc6s4, hrow⟩ : ∃ A n c zs, c21 = .slice A n c ∧ ROW .u8 255 w A n c zs := by
    rcases open_ints Tryd.underlying24 Tryd.underlying5 (by kernel_rfl) e6s4 with ⟨hcs, _⟩ | ⟨x, l, c, zs, hcs, _, hl, hm, hz, _, hcell, hwz⟩
    · simp only [List.cons.injEq, and_true] at hcs
      exact ⟨none, 0, 0, _, hcs, row_of (zs := []) (fun _ => wf_u8) (.inl ⟨rfl, rfl, rfl, rfl⟩)⟩
    · simp only [List.cons.injEq, and_true] at hcs
      exact ⟨_, _, _, _, hcs, row_of (zs := zs) (fun _ => wf_u8) (.inr ⟨_, rfl, hl, hm, by simpa using hz, hcell, hwz⟩)⟩
  subst hc6s4
  have e7 := hg 7 _ rfl
  simp only [List.getElem_toArray, List.getElem_cons_zero, List.getElem_cons_succ] at e7
  obtain ⟨y7, hy7⟩ : ∃ y, xs[7]? = some y := ⟨_, List.getElem?_eq_getElem (by rw [hlen]; simp)⟩
  rw [hy7, show Tryd.prog.cellsOf 5 = 1 by kernel_rfl] at e7
  simp only [List.drop_succ_cons, List.drop_zero, List.take_succ_cons, List.take_zero] at e7
  obtain ⟨x22, hc7, _, hw7⟩ := DataW.trod_int Tryd.underlying5 e7
  simp only [List.cons.injEq, and_true] at hc7
  subst hc7
  exact ⟨x0, x1, x2, x3, x4, x5, x6, x7, x8, x9, x10, x11, x12, x13, x14, x15, x16, x17, x18, x19, x20, A, n, c, zs, x22, rfl, hw0_0, hw0_1, hw0_2, hw0_3, hw0_4, hw0_5, hw0_6, hw0_7, hw0_8, hw0_9, hw0_10, hw0_11, hw1, hw2, hw3, hw6s0, hw6s1, hw6s2, hw6s3, hrow, hw7⟩
end Go.Proofs.YtdepibljeopcgaaDoor
