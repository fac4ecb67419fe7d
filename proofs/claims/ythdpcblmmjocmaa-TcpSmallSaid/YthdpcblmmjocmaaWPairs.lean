import Derived.Test.YthdpcblmmjocmaaWSame8
import Derived.Test.YthdpcblmmjocmaaWRow
import Derived.Test.YthdpcblmmjocmaaWCopy
/- Slices of pairs: made. -/
namespace Go.Proofs.Ythdpcblmmjocmaa
open Go.RowKit
set_option linter.unusedVariables false

theorem prs_zero : ∀ n, prs (List.replicate n (0, 0)) = List.replicate (2 * n) (Value.int .u32 0)
  | 0 => rfl
  | n + 1 => by rw [List.replicate_succ, prs, prs_zero n, show 2 * (n + 1) = 2 * n + 1 + 1 by omega, List.replicate_succ, List.replicate_succ]
theorem made_two (v : Value) (n : Nat) : (madeCells #[v, v] n).toList = List.replicate n v := by
  apply List.ext_getElem?
  intro j
  by_cases hj : j < n
  · have h2 : j % 2 = 0 ∨ j % 2 = 1 := by omega
    simp [madeCells, hj]
    rcases h2 with h | h <;> simp [h]
  · simp [madeCells, hj]
/-- zeros made: the items that they are -/
theorem run_make_pairs (w : World) (l q : Int) (n c : Nat) (hl : l = n) (hq : q = c) (hnc : n ≤ c) (hc : c ≤ 1000) :
    ∃ w', (Instr.makeSlice 30 (.int .i64 l) (.int .i64 q)).run Try.prog w = .ok (.slice (some ⟨w.heap.size, 0, none⟩) n c) w' ∧ (IT.row 93 2 (some ⟨w.heap.size, 0, none⟩) n c (prs (List.replicate n (0, 0)))).Holds w.heap.size w' ∧ Below w.heap.size w w' := by
  subst hl hq
  obtain ⟨i, hi, hz, hs, hby⟩ := info_parts infoPair
  have hb : (i.bytes : Int) * (c : Int) ≤ 281474976710656 := by rw [hby]; omega
  have hr := run_make (P := Try.prog) w 30 93 i (.agg #[.int .u32 0, .int .u32 0]) Try.underlying30 hi hz .i64 .i64 n c (by omega) (by omega) hb (by omega)
  simp only [Int.toNat_natCast] at hr
  refine ⟨_, hr, ?_, (Below.refl _ _).alloc (Nat.le_refl _) _⟩
  have e1 : madeCells (Value.agg #[.int .u32 0, .int .u32 0]).cells (c * i.size) = (List.replicate (2 * c) (Value.int .u32 0)).toArray := by
    rw [hs]
    apply Array.toList_inj.1
    rw [show c * 2 = 2 * c by omega]
    exact made_two _ _
  rw [e1]
  refine ⟨by rw [prs_len]; simp, .inr ⟨w.heap.size, c, _, rfl, Nat.le_refl _, heap_alloc_new w _, hnc, by simp only [maxLen]; omega, by simp; omega, ?_⟩⟩
  rw [prs_zero]
  simp [List.take_replicate]
  omega
end Go.Proofs.Ythdpcblmmjocmaa
