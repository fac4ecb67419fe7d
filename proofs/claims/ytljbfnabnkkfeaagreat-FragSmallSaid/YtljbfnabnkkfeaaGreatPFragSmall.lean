/- Proved: the law FragSmall returns true for every input, and every argument reads behind the call as it read before. No condition. (The frame was written by the kit's program; the walk is this claim's own.) -/
import Derived.Test.YtljbfnabnkkfeaaGreatSL01
import Derived.Test.YtljbfnabnkkfeaaGreatSL02
import Derived.Test.YtljbfnabnkkfeaaGreatSL03
import Derived.Test.YtljbfnabnkkfeaaGreatSL04
import Derived.Test.YtljbfnabnkkfeaaGreatSL05
import Derived.Test.YtljbfnabnkkfeaaGreatSL06
import Derived.Test.YtljbfnabnkkfeaaGreatSL07
import Derived.Test.YtljbfnabnkkfeaaGreatSL08
import Derived.Test.YtljbfnabnkkfeaaGreatSL09
import Derived.Test.YtljbfnabnkkfeaaGreatSL10
import Derived.Test.YtljbfnabnkkfeaaGreatSL11
import Derived.Test.YtljbfnabnkkfeaaGreatSL12
import Derived.Test.YtljbfnabnkkfeaaGreatSL13
import Derived.Test.YtljbfnabnkkfeaaGreatSL14
import Derived.Test.YtljbfnabnkkfeaaGreatSL15
import Derived.Test.YtljbfnabnkkfeaaGreatSL16
import Derived.Test.YtljbfnabnkkfeaaGreatSL17
import Derived.Test.YtljbfnabnkkfeaaGreatSL18
import Derived.Test.YtljbfnabnkkfeaaGreatSL19
import Derived.Test.YtljbfnabnkkfeaaGreatSL20
import Derived.Test.YtljbfnabnkkfeaaGreatSL21
import Derived.Test.YtljbfnabnkkfeaaGreatSL22
import Derived.Test.YtljbfnabnkkfeaaGreatSL23
import Derived.Test.YtljbfnabnkkfeaaGreatSL24
import Derived.Test.YtljbfnabnkkfeaaGreatSL25
import Derived.Test.YtljbfnabnkkfeaaGreatSL26
import Derived.Test.YtljbfnabnkkfeaaGreatSL27
import Derived.Test.YtljbfnabnkkfeaaGreatSL28
import Derived.Test.YtljbfnabnkkfeaaGreatSL29
import Derived.Test.YtljbfnabnkkfeaaGreatRows
import Derived.WalkKit
import Derived.Below
import Derived.ProofKit
import Derived.OpenShut
import Derived.ShutString
namespace Go.Proofs.YtljbfnabnkkfeaaGreat.fragSmall
open Go.ChangeShapes Go.WideShapes Go.ChangeAt Go.RowKit
open Go.ChangeMaps (open_string shut_string)
set_option linter.unusedVariables false      -- a walk need not use every 'w<i>' (that an integer argument fits its kind)

theorem own : ownKnob Tryz.prog.godebug = none := by kernel_rfl

theorem walk  (w : World) :
    Calls Tryz.prog 3 #[] w fun e w' => e = .returned (.bool true) ∧ Below w.heap.size w w' := by
  exact fragSmall_walk w

/-! ### THE ROW's STEP: WRITTEN OUT: LEAVE IT -/
set_option maxRecDepth 100000 in
theorem lifted (os : Os) (started : os.Started) (H : Type) (enc : TypeId × Value → H) :
    ReturnsInHanded {} Tryz.checked os 3 .any (Rows.fragSmallSpec.pre6 enc Tryz.prog Tryz.f3 Rows.fragSmallRow.domain false) (Rows.fragSmallSpec.post enc Tryz.prog Tryz.f3 false true false false) := by
  refine returnsInHanded_of_change (C := Tryz.checked) own started (by kernel_rfl) Tryz.func3
    (ChangeSpec.witness6 (enc := enc) (C := Tryz.checked) false ⟨#[], #[], []⟩ 8 (by kernel_rfl) (by kernel_rfl) (by kernel_rfl) (by kernel_rfl)) ?_
  intro W base args ds gs before hval0 hW hcnd _
  have hval : ∀ (j : Nat) t v, Tryz.f3.params[j]? = some t → args[j]? = some v → Value.okWide Tryz.prog W .any base t v := hval0
  have hW' := hW
  obtain ⟨p, q, hA0, hV, rfl, hfz, hnd⟩ := hW
  have hA : DataW.TrodAll enc Tryz.prog W 0 (fun _ => true) true Tryz.f3.params.toList args.toList ds p := hA0
  rw [Tryz.params3] at hA hval
  obtain ⟨rfl, rfl, rfl⟩ := trodAll_none hA
  obtain ⟨rfl, rfl⟩ := trodVars_none hV
  clear hA0 hval0
  simp only [List.append_nil] at hW'
  refine (walk  W).mono fun e W' ⟨he, hg⟩ => ?_
  subst he
  exact ⟨_, rfl, _, _, _, [], _, [], hW', trodAll_mk1 (shut_bool Tryz.underlying4 _), trodAll_mk0, rfl, hg.frame _, fun h => by cases h⟩

theorem over : Rows.fragSmallRow.holds Tryz.pinned (OpenSpec.ofChange Rows.fragSmallSpec) :=
  OpenClaim.holds_of_wide 3 Tryz.f3 rfl rfl rfl rfl rfl rfl rfl ⟨rfl, rfl, rfl, rfl, rfl⟩ rfl rfl rfl rfl rfl (by kernel_rfl) Tryz.func3 (by kernel_rfl)
    (of_decide_eq_true (by kernel_rfl)) (by unfold Func.isWrapper; first | (rw [if_pos (by decide +kernel)]; kernel_rfl) | (rw [if_neg (by decide +kernel)]; exact ⟨rfl, rfl⟩))
    (fun os started H enc _ => lifted os started H enc)

theorem proved : Rows.FragSmallSaid :=
  over
#print axioms proved
end Go.Proofs.YtljbfnabnkkfeaaGreat.fragSmall
