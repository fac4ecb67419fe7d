/- A header of IPv4, opened to its cells. (Printed by gen_open.py.) -/
import Derived.Test.YtpfmecdldoehoaaProg
import Derived.Test.YtpfmecdldoehoaaRow
import Derived.OpenShut
namespace Go.Proofs.Ytpfmecdldoehoaa
open Go.RowKit Go.ChangeShapes Go.WideShapes
set_option linter.unusedVariables false

set_option maxHeartbeats 4000000 in
set_option maxRecDepth 100000 in
theorem open_hdr5 {H : Type} {enc : TypeId × Value → H} {w : World} {base b0 : Nat} {r : Reach} {v : Value} {d : DataW H} {p : List MemPlace} (hv : Value.okWide Try.prog w r b0 30 v) (h : DataW.Trod enc Try.prog w base (fun _ => true) true 30 v d p) :
    ∃ (x0 : Int) (x1 : Int) (x2 : Bool) (x3 : Bool) (x4 : Int) (x5 : Int) (x6 : Int) (x7 : Int) (x8 : Int) (A : Option Addr) (n c : Nat) (zs : List Int), v = .agg #[.int .u8 x0, .int .u16 x1, .bool x2, .bool x3, .int .i64 x4, .int .u8 x5, .int .u8 x6, .int .u32 x7, .int .u32 x8, .slice A n c] ∧ (Lit.int .u8 x0).wf = true ∧ (Lit.int .u16 x1).wf = true ∧ (Lit.int .i64 x4).wf = true ∧ (Lit.int .u8 x5).wf = true ∧ (Lit.int .u8 x6).wf = true ∧ (Lit.int .u32 x7).wf = true ∧ (Lit.int .u32 x8).wf = true ∧ ROW .u8 255 w A n c zs ∧ c ≤ c := by
  obtain ⟨cs, rfl, hsz⟩ := okWide_struct Try.underlying30 hv
  rw [show Try.prog.cellsOf 30 = 10 by kernel_rfl] at hsz
  obtain ⟨fuel, hf⟩ := h
  obtain ⟨xs, m, _, _, _, hlen, hg⟩ := DataW.trod_struct Try.underlying30 hf
  clear hf hv
  obtain ⟨l⟩ := cs
  simp only [List.size_toArray] at hsz
  simp only [Value.cells] at hg
  obtain ⟨c0, l, rfl⟩ : ∃ a m, l = a :: m := by cases l with | nil => simp at hsz | cons a m => exact ⟨a, m, rfl⟩
  obtain ⟨c1, l, rfl⟩ : ∃ a m, l = a :: m := by cases l with | nil => simp at hsz | cons a m => exact ⟨a, m, rfl⟩
  obtain ⟨c2, l, rfl⟩ : ∃ a m, l = a :: m := by cases l with | nil => simp at hsz | cons a m => exact ⟨a, m, rfl⟩
  obtain ⟨c3, l, rfl⟩ : ∃ a m, l = a :: m := by cases l with | nil => simp at hsz | cons a m => exact ⟨a, m, rfl⟩
  obtain ⟨c4, l, rfl⟩ : ∃ a m, l = a :: m := by cases l with | nil => simp at hsz | cons a m => exact ⟨a, m, rfl⟩
  obtain ⟨c5, l, rfl⟩ : ∃ a m, l = a :: m := by cases l with | nil => simp at hsz | cons a m => exact ⟨a, m, rfl⟩
  obtain ⟨c6, l, rfl⟩ : ∃ a m, l = a :: m := by cases l with | nil => simp at hsz | cons a m => exact ⟨a, m, rfl⟩
  obtain ⟨c7, l, rfl⟩ : ∃ a m, l = a :: m := by cases l with | nil => simp at hsz | cons a m => exact ⟨a, m, rfl⟩
  obtain ⟨c8, l, rfl⟩ : ∃ a m, l = a :: m := by cases l with | nil => simp at hsz | cons a m => exact ⟨a, m, rfl⟩
  obtain ⟨c9, l, rfl⟩ : ∃ a m, l = a :: m := by cases l with | nil => simp at hsz | cons a m => exact ⟨a, m, rfl⟩
  obtain rfl : l = [] := by cases l with | nil => rfl | cons a m => simp at hsz
  clear hsz
  have e0 := hg 0 _ rfl
  simp only [List.getElem_toArray, List.getElem_cons_zero] at e0
  obtain ⟨y0, hy0⟩ : ∃ y, xs[0]? = some y := ⟨_, List.getElem?_eq_getElem (by rw [hlen]; simp)⟩
  rw [hy0, show Try.prog.cellsOf 5 = 1 by kernel_rfl] at e0
  simp only [List.drop_zero, List.take_succ_cons, List.take_zero] at e0
  obtain ⟨x0, hc0, _, hw0⟩ := DataW.trod_int Try.underlying5 e0
  simp only [List.cons.injEq, and_true] at hc0
  subst hc0
  have e1 := hg 1 _ rfl
  simp only [List.getElem_toArray, List.getElem_cons_zero, List.getElem_cons_succ] at e1
  obtain ⟨y1, hy1⟩ : ∃ y, xs[1]? = some y := ⟨_, List.getElem?_eq_getElem (by rw [hlen]; simp)⟩
  rw [hy1, show Try.prog.cellsOf 26 = 1 by kernel_rfl] at e1
  simp only [List.drop_zero, List.drop_succ_cons, List.take_succ_cons, List.take_zero] at e1
  obtain ⟨x1, hc1, _, hw1⟩ := DataW.trod_int Try.underlying26 e1
  simp only [List.cons.injEq, and_true] at hc1
  subst hc1
  have e2 := hg 2 _ rfl
  simp only [List.getElem_toArray, List.getElem_cons_zero, List.getElem_cons_succ] at e2
  obtain ⟨y2, hy2⟩ : ∃ y, xs[2]? = some y := ⟨_, List.getElem?_eq_getElem (by rw [hlen]; simp)⟩
  rw [hy2, show Try.prog.cellsOf 4 = 1 by kernel_rfl] at e2
  simp only [List.drop_zero, List.drop_succ_cons, List.take_succ_cons, List.take_zero] at e2
  obtain ⟨x2, hc2, _⟩ := DataW.trod_bool Try.underlying4 e2
  simp only [List.cons.injEq, and_true] at hc2
  subst hc2
  have e3 := hg 3 _ rfl
  simp only [List.getElem_toArray, List.getElem_cons_zero, List.getElem_cons_succ] at e3
  obtain ⟨y3, hy3⟩ : ∃ y, xs[3]? = some y := ⟨_, List.getElem?_eq_getElem (by rw [hlen]; simp)⟩
  rw [hy3, show Try.prog.cellsOf 4 = 1 by kernel_rfl] at e3
  simp only [List.drop_zero, List.drop_succ_cons, List.take_succ_cons, List.take_zero] at e3
  obtain ⟨x3, hc3, _⟩ := DataW.trod_bool Try.underlying4 e3
  simp only [List.cons.injEq, and_true] at hc3
  subst hc3
  have e4 := hg 4 _ rfl
  simp only [List.getElem_toArray, List.getElem_cons_zero, List.getElem_cons_succ] at e4
  obtain ⟨y4, hy4⟩ : ∃ y, xs[4]? = some y := ⟨_, List.getElem?_eq_getElem (by rw [hlen]; simp)⟩
  rw [hy4, show Try.prog.cellsOf 3 = 1 by kernel_rfl] at e4
  simp only [List.drop_zero, List.drop_succ_cons, List.take_succ_cons, List.take_zero] at e4
  obtain ⟨x4, hc4, _, hw4⟩ := DataW.trod_int Try.underlying3 e4
  simp only [List.cons.injEq, and_true] at hc4
  subst hc4
  have e5 := hg 5 _ rfl
  simp only [List.getElem_toArray, List.getElem_cons_zero, List.getElem_cons_succ] at e5
  obtain ⟨y5, hy5⟩ : ∃ y, xs[5]? = some y := ⟨_, List.getElem?_eq_getElem (by rw [hlen]; simp)⟩
  rw [hy5, show Try.prog.cellsOf 5 = 1 by kernel_rfl] at e5
  simp only [List.drop_zero, List.drop_succ_cons, List.take_succ_cons, List.take_zero] at e5
  obtain ⟨x5, hc5, _, hw5⟩ := DataW.trod_int Try.underlying5 e5
  simp only [List.cons.injEq, and_true] at hc5
  subst hc5
  have e6 := hg 6 _ rfl
  simp only [List.getElem_toArray, List.getElem_cons_zero, List.getElem_cons_succ] at e6
  obtain ⟨y6, hy6⟩ : ∃ y, xs[6]? = some y := ⟨_, List.getElem?_eq_getElem (by rw [hlen]; simp)⟩
  rw [hy6, show Try.prog.cellsOf 5 = 1 by kernel_rfl] at e6
  simp only [List.drop_zero, List.drop_succ_cons, List.take_succ_cons, List.take_zero] at e6
  obtain ⟨x6, hc6, _, hw6⟩ := DataW.trod_int Try.underlying5 e6
  simp only [List.cons.injEq, and_true] at hc6
  subst hc6
  have e7 := hg 7 _ rfl
  simp only [List.getElem_toArray, List.getElem_cons_zero, List.getElem_cons_succ] at e7
  obtain ⟨y7, hy7⟩ : ∃ y, xs[7]? = some y := ⟨_, List.getElem?_eq_getElem (by rw [hlen]; simp)⟩
  rw [hy7, show Try.prog.cellsOf 28 = 1 by kernel_rfl] at e7
  simp only [List.drop_zero, List.drop_succ_cons, List.take_succ_cons, List.take_zero] at e7
  obtain ⟨x7, hc7, _, hw7⟩ := DataW.trod_int Try.underlying28 e7
  simp only [List.cons.injEq, and_true] at hc7
  subst hc7
  have e8 := hg 8 _ rfl
  simp only [List.getElem_toArray, List.getElem_cons_zero, List.getElem_cons_succ] at e8
  obtain ⟨y8, hy8⟩ : ∃ y, xs[8]? = some y := ⟨_, List.getElem?_eq_getElem (by rw [hlen]; simp)⟩
  rw [hy8, show Try.prog.cellsOf 28 = 1 by kernel_rfl] at e8
  simp only [List.drop_zero, List.drop_succ_cons, List.take_succ_cons, List.take_zero] at e8
  obtain ⟨x8, hc8, _, hw8⟩ := DataW.trod_int Try.underlying28 e8
  simp only [List.cons.injEq, and_true] at hc8
  subst hc8
  have e9 := hg 9 _ rfl
  simp only [List.getElem_toArray, List.getElem_cons_zero, List.getElem_cons_succ] at e9
  obtain ⟨y9, hy9⟩ : ∃ y, xs[9]? = some y := ⟨_, List.getElem?_eq_getElem (by rw [hlen]; simp)⟩
  rw [hy9, show Try.prog.cellsOf 23 = 1 by kernel_rfl] at e9
  simp only [List.drop_zero, List.drop_succ_cons, List.take_succ_cons, List.take_zero] at e9
  obtain ⟨A, n, c, zs, hc9, hrow⟩ : ∃ A n c zs, c9 = .slice A n c ∧ ROW .u8 255 w A n c zs := by
    rcases open_ints Try.underlying23 Try.underlying5 (by kernel_rfl) e9 with ⟨hcs, _⟩ | ⟨x, l, c, zs, hcs, _, hl, hm, hz, _, hcell, hwz⟩
    · simp only [List.cons.injEq, and_true] at hcs
      exact ⟨none, 0, 0, _, hcs, row_of (zs := []) (fun _ => wf_u8) (.inl ⟨rfl, rfl, rfl, rfl⟩)⟩
    · simp only [List.cons.injEq, and_true] at hcs
      exact ⟨_, _, _, _, hcs, row_of (zs := zs) (fun _ => wf_u8) (.inr ⟨_, rfl, hl, hm, by simpa using hz, hcell, hwz⟩)⟩
  subst hc9
  exact ⟨x0, x1, x2, x3, x4, x5, x6, x7, x8, A, n, c, zs, rfl, hw0, hw1, hw4, hw5, hw6, hw7, hw8, ⟨hrow, Nat.le_refl _⟩⟩
end Go.Proofs.Ytpfmecdldoehoaa
