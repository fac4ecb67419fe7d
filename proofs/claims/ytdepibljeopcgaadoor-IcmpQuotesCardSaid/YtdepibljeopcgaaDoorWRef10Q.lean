/- The reference of chapter 10: Quote. (Printed by gen_ref10q.py.) -/
import Derived.Test.YtdepibljeopcgaaDoorWRef10
namespace Go.Proofs.YtdepibljeopcgaaDoor
open Go.RowKit
set_option linter.unusedVariables false
attribute [local go_sem ↓] Go.wp_at_zero Go.wp_at_succ

theorem q_short {zs : List Int} (h : zs.length < 28) : qBad zs = true := by
  unfold qBad
  rcases h1 : qF1 zs with _ | _
  · have : qF2 zs = true := by
      unfold qF2
      simp; omega
    rw [this]; rfl
  · rfl
theorem q_ver {zs : List Int} (h : zs[0]?.getD 0 / 16 ≠ 4) : qBad zs = true := by
  unfold qBad qF1
  rw [decide_eq_true (.inr h)]; rfl
theorem q_size {zs : List Int} (h : qH zs < 20 ∨ zs.length < qH zs + 8) : qBad zs = true := by
  unfold qBad qF2
  rw [decide_eq_true h]; simp
theorem q_sum {zs : List Int} (h : sumOf (zs.take (qH zs)) ≠ 65535 ∨ wordAt zs 2 < (qH zs : Int) + 8) : qBad zs = true := by
  unfold qBad qF3
  rw [decide_eq_true h]; simp
theorem q_flags {zs : List Int} (h : 32768 ≤ wordAt zs 6 ∨ wordAt zs 6 % 8192 ≠ 0) : qBad zs = true := by
  unfold qBad qF4
  rw [decide_eq_true h]; simp
theorem q_good {zs : List Int} (h1 : 20 ≤ zs.length) (h2 : zs[0]?.getD 0 / 16 = 4) (h3 : 20 ≤ qH zs ∧ qH zs + 8 ≤ zs.length) (h4 : sumOf (zs.take (qH zs)) = 65535 ∧ (qH zs : Int) + 8 ≤ wordAt zs 2) (h5 : wordAt zs 6 < 32768 ∧ wordAt zs 6 % 8192 = 0) : qBad zs = false := by
  unfold qBad qF1 qF2 qF3 qF4
  rw [decide_eq_false (by omega), decide_eq_false (by omega), decide_eq_false (by omega), decide_eq_false (by omega)]; rfl

end Go.Proofs.YtdepibljeopcgaaDoor
