/- Proved: the law TcpBack returns true for every input, and every argument reads behind the call as it read before. No condition. -/
import Derived.Test.YthdpcblmmjocmaaRows
import Derived.Test.YthdpcblmmjocmaaLTcBack
import Derived.Test.YthdpcblmmjocmaaOpenSmall8
import Derived.Test.YthdpcblmmjocmaaBase
import Derived.WalkKit
import Derived.ProofKit
import Derived.OpenShut
import Derived.ShutString
import Derived.ChangeOld
import Derived.Below
namespace Go.Proofs.Ythdpcblmmjocmaa.tcpBack
open Go.ChangeShapes Go.WideShapes Go.ChangeAt Go.RowKit
set_option linter.unusedVariables false

theorem own : ownKnob Try.prog.godebug = none := by kernel_rfl
theorem laidOut : laidOutB Try.prog = true := by kernel_rfl

set_option maxRecDepth 100000 in
theorem lifted (os : Os) (started : os.Started) (H : Type) (enc : TypeId × Value → H) :
    ReturnsInHanded {} Try.checked os 7 .any (Rows.tcpBackSpec.pre6 enc Try.prog Try.f7 Rows.tcpBackRow.domain false) (Rows.tcpBackSpec.post enc Try.prog Try.f7 false true false false) := by
  refine returnsInHanded_of_change (C := Try.checked) own started (by kernel_rfl) Try.func7
    (ChangeSpec.witness6 (enc := enc) (C := Try.checked) false ⟨#[], #[.agg #[.int .u8 0, .int .u8 0, .int .u8 0, .int .u8 0, .int .u8 0, .int .u8 0, .int .u8 0, .int .u8 0, .int .u8 0, .int .u8 0, .int .u8 0, .int .u8 0, .int .u8 0, .int .u8 0, .int .u8 0, .int .u8 0, .int .u8 0, .int .u8 0, .int .u8 0, .int .u32 0, .int .u32 0, .slice none 0 0], .int .u16 0], []⟩ 8 (by kernel_rfl) (by kernel_rfl) (by kernel_rfl) (by kernel_rfl)) ?_
  intro W base args ds gs before hval0 hW hcnd _
  have hval : ∀ (j : Nat) t v, Try.f7.params[j]? = some t → args[j]? = some v → Value.okWide Try.prog W .any base t v := hval0
  have hW' := hW
  obtain ⟨p, q, hA0, hV, rfl, hfz, hnd⟩ := hW
  have hA : DataW.TrodAll enc Try.prog W 0 (fun _ => true) true Try.f7.params.toList args.toList ds p := hA0
  rw [Try.params7] at hA hval
  obtain ⟨v0, vs0, d0, ds0, p0, q0, hargs, rfl, rfl, h0, r0⟩ := trodAll_cons hA
  obtain ⟨v1, vs1, d1, ds1, p1, q1, rfl, rfl, rfl, h1, r1⟩ := trodAll_cons r0
  obtain ⟨rfl, rfl, rfl⟩ := trodAll_nil r1
  obtain rfl : args = #[v0, v1] := by cases args; simp_all
  obtain ⟨rfl, rfl⟩ := trodVars_none hV
  have k0 := h0
  have lt0 : ∀ x ∈ p0, x.block < W.heap.size := by obtain ⟨m, hm⟩ := k0; exact DataW.trod_lt m _ _ _ hm
  obtain ⟨s0_x0, s0_x1, s0_x2, s0_x3, s0_x4, s0_x5, s0_x6, s0_x7, s0_x8, s0_x9, s0_x10, s0_x11, s0_x12, s0_x13, s0_x14, s0_x15, s0_x16, s0_x17, s0_x18, s0_x19, s0_x20, s0_A, s0_n, s0_c, s0_zs, rfl, f0_0, f0_1, f0_2, f0_3, f0_4, f0_5, f0_6, f0_7, f0_8, f0_9, f0_10, f0_11, f0_12, f0_13, f0_14, f0_15, f0_16, f0_17, f0_18, f0_19, f0_20, f0_21, _⟩ := open_small8 (hval 0 44 v0 rfl rfl) h0
  obtain ⟨a1, rfl, rfl, rfl, w1⟩ := open_int Try.underlying26 (hval 1 26 v1 rfl rfl) h1
  clear hA0 hval0
  refine (tcpBack_walk s0_x0 s0_x1 s0_x2 s0_x3 s0_x4 s0_x5 s0_x6 s0_x7 s0_x8 s0_x9 s0_x10 s0_x11 s0_x12 s0_x13 s0_x14 s0_x15 s0_x16 s0_x17 s0_x18 s0_x19 s0_x20 s0_A s0_n s0_c s0_zs a1 W (by have g0 := wf_u8 f0_0; have g1 := wf_u8 f0_1; have g2 := wf_u8 f0_2; have g3 := wf_u8 f0_3; have g4 := wf_u8 f0_4; have g5 := wf_u8 f0_5; have g6 := wf_u8 f0_6; have g7 := wf_u8 f0_7; have g8 := wf_u8 f0_8; have g9 := wf_u8 f0_9; have g10 := wf_u8 f0_10; have g11 := wf_u8 f0_11; have g12 := wf_u8 f0_12; have g13 := wf_u8 f0_13; have g14 := wf_u8 f0_14; have g15 := wf_u8 f0_15; intro y hy; simp only [List.mem_cons, List.not_mem_nil, or_false] at hy; omega) (wf_u8 f0_16) (wf_u8 f0_17) (wf_u8 f0_18) (wf_u32 f0_19) (wf_u32 f0_20) f0_21 (wf_u16 w1)).mono fun e W' ⟨he, bel⟩ => ?_
  subst he
  exact ⟨_, rfl, _, _, _, [], _, [], hW', trodAll_mk1 (shut_bool Try.underlying4 _), (trodAll_cons_mk (Below.trod laidOut (by kernel_rfl) (of_decide_eq_true (by kernel_rfl)) k0 bel lt0) (trodAll_cons_mk (shut_int Try.underlying26 w1) trodAll_mk0)), rfl, bel.frame _, fun h => by cases h⟩

theorem over : Rows.tcpBackRow.holds Try.pinned (OpenSpec.ofChange Rows.tcpBackSpec) :=
  OpenClaim.holds_of_wide 7 Try.f7 rfl rfl rfl rfl rfl rfl rfl ⟨rfl, rfl, rfl, rfl, rfl⟩ rfl rfl rfl rfl rfl (by kernel_rfl) Try.func7 (by kernel_rfl)
    (of_decide_eq_true (by kernel_rfl)) (by unfold Func.isWrapper; first | (rw [if_pos (by decide +kernel)]; kernel_rfl) | (rw [if_neg (by decide +kernel)]; exact ⟨rfl, rfl⟩))
    (fun os started H enc _ => lifted os started H enc)

theorem proved : Rows.TcpBackSaid := over
#print axioms proved
end Go.Proofs.Ythdpcblmmjocmaa.tcpBack
