/- The walk of CsumWrong. -/
import Derived.Test.YtfaihaooompojaaWAwake2
import Derived.Test.YtfaihaooompojaaRow
import Derived.Deep.DeepCutAuto
namespace Go.Proofs.Ytfaihaooompojaa
open Go.RowKit
set_option linter.unusedVariables false

/-- an index at which Fix puts nothing -/
def Bad (m : Nat) (x : Int) : Prop := (x < 0 ∨ x % 2 = 1 ∨ (m : Int) < x + 2) ∧ -9223372036854775808 ≤ x ∧ x ≤ 9223372036854775807
/-- a length that there is not -/
def Bad16 (x : Int) : Prop := x < 0 ∨ 65535 < x

set_option maxHeartbeats 4000000 in
set_option maxRecDepth 100000 in
theorem csumWrong_walk (A : Option Addr) (n c : Nat) (zs : List Int) (k s : Int) (w : World) (h : ROW .u8 255 w A n c zs) (hk : (Lit.int .i64 k).wf = true) (hs : (Lit.int .u32 s).wf = true) :
    Calls Try.prog 3 #[.slice A n c, .int .i64 k, .int .u32 s] w fun e w' => e = .returned (.bool true) ∧ Below w.heap.size w w' := by
  obtain ⟨hk1, hk2⟩ := wf_i64 hk
  obtain ⟨hs1, hs2⟩ := wf_u32 hs
  have hle := h.le
  have hcap := h.cap
  simp only [maxLen] at hcap
  go_enter Try.func3, Try.ntmps3
  go_upto_region 3 with (go_at_call 11; refine (awake2_any _).mono ?_; rintro e w1 ⟨rfl, hb1⟩)
  go_cut [0] (fun s0 wx => wx = w1 ∧ ∃ m : Nat, m ≤ 3000 ∧ m ≤ n ∧ s0 = .slice A m c)
  case first =>
    go_wp2_with fail
    all_goals
      go_meet
    · exact ⟨rfl, 3000, by omega, by omega, rfl⟩
    · exact ⟨rfl, n, by omega, by omega, rfl⟩
  case rest =>
    obtain ⟨rfl, m, hm1, hm2, rfl⟩ := hcut
    obtain ⟨ho1, ho2, ho3⟩ := i64_or_one k
    go_upto_region 4 with fail
    go_cut [33, 34, 35] (fun s33 s34 s35 wx => ∃ x1 x2 x3 x4 : Int, Bad m x1 ∧ Bad m x2 ∧ Bad m x3 ∧ Bad m x4 ∧ wx = wc.alloc (.cells #[.int .i64 x1, .int .i64 x2, .int .i64 x3, .int .i64 x4] 3) ∧ s33 = .slice (some ⟨wc.heap.size, 0, none⟩) 4 4 ∧ s34 = .int .i64 4 ∧ s35 = .int .i64 0)
    case first =>
      go_wp2_with fail
      all_goals
        go_meet
        refine ⟨_, _, _, _, ?_, ?_, ?_, ?_, rfl, rfl, rfl, rfl⟩
        all_goals (unfold Bad; omega)
    case rest =>
      obtain ⟨x1, x2, x3, x4, b1, b2, b3, b4, rfl, rfl, rfl, rfl⟩ := hcut
      have hcells : ∀ j, j < 4 → ∃ x, (wc.alloc (.cells #[.int .i64 x1, .int .i64 x2, .int .i64 x3, .int .i64 x4] 3)).cell? ⟨wc.heap.size, 0 + j, none⟩ = some (.int .i64 x) ∧ Bad m x := by
        intro j hj
        rw [World.cell?_alloc_new]
        match j, hj with
        | 0, _ => exact ⟨x1, by simp, b1⟩
        | 1, _ => exact ⟨x2, by simp, b2⟩
        | 2, _ => exact ⟨x3, by simp, b3⟩
        | 3, _ => exact ⟨x4, by simp, b4⟩
      have hb2 : Below w.heap.size w (wc.alloc (.cells #[.int .i64 x1, .int .i64 x2, .int .i64 x3, .int .i64 x4] 3)) := hb1.alloc hb1.size _
      generalize wc.alloc (.cells #[.int .i64 x1, .int .i64 x2, .int .i64 x3, .int .i64 x4] 3) = w2 at hcells hb2 ⊢
      clear b1 b2 b3 b4
      generalize wc.heap.size = g at hcells ⊢
      clear hb1 ho1 ho2 ho3
      go_wp2_with fail
      go_loop [35] (fun i => ∃ j : Nat, j ≤ 4 ∧ i = .int .i64 j) (fun i => 4 - (intOf i).toNat)
      case atStart => exact ⟨0, by omega, rfl⟩
      case round =>
        obtain ⟨j, hj, rfl⟩ := hrel
        by_cases hlt : j < 4
        · obtain ⟨x, hx, hbad, hx1, hx2⟩ := hcells j hlt
          have HC := Lib.hid hcells
          rw [Nat.zero_add] at hx
          have HBd := Lib.hid hbad
          clear hcells hbad
          go_wp2_with fail
          refine (fix_no A m c x _ (by omega) ⟨hx1, hx2⟩ HBd.out).mono ?_
          rintro e w' ⟨rfl, rfl⟩
          go_wp2_with fail
          go_round
          case rel => exact ⟨j + 1, by omega, by go_num⟩
          case measure => simp [intOf]; omega
        · clear hcells
          go_upto_region 11 with fail
          go_cut [57, 58, 59] (fun s57 s58 s59 wx => ∃ x1 x2 : Int, Bad16 x1 ∧ Bad16 x2 ∧ wx = w2.alloc (.cells #[.int .i64 x1, .int .i64 x2] 3) ∧ s57 = .slice (some ⟨w2.heap.size, 0, none⟩) 2 2 ∧ s58 = .int .i64 2 ∧ s59 = .int .i64 0)
          case first =>
            go_wp2_with fail
            all_goals
              go_meet
              refine ⟨_, _, ?_, ?_, rfl, rfl, rfl, rfl⟩
              all_goals (unfold Bad16; omega)
          case rest =>
            obtain ⟨y1, y2, b1, b2, rfl, rfl, rfl, rfl⟩ := hcut
            have hcells : ∀ j, j < 2 → ∃ x, (w2.alloc (.cells #[.int .i64 y1, .int .i64 y2] 3)).cell? ⟨w2.heap.size, 0 + j, none⟩ = some (.int .i64 x) ∧ Bad16 x := by
              intro j hj
              rw [World.cell?_alloc_new]
              match j, hj with
              | 0, _ => exact ⟨y1, by simp, b1⟩
              | 1, _ => exact ⟨y2, by simp, b2⟩
            have hb3 : Below w.heap.size w (w2.alloc (.cells #[.int .i64 y1, .int .i64 y2] 3)) := hb2.alloc hb2.size _
            generalize w2.alloc (.cells #[.int .i64 y1, .int .i64 y2] 3) = w3 at hcells hb3 ⊢
            clear b1 b2
            generalize w2.heap.size = g2 at hcells ⊢
            clear hb2
            go_wp2_with fail
            go_loop [59] (fun i => ∃ j : Nat, j ≤ 2 ∧ i = .int .i64 j) (fun i => 2 - (intOf i).toNat)
            case atStart => exact ⟨0, by omega, rfl⟩
            case round =>
              obtain ⟨j, hj, rfl⟩ := hrel
              by_cases hlt : j < 2
              · obtain ⟨x, hx, hbad⟩ := hcells j hlt
                have HC := Lib.hid hcells
                rw [Nat.zero_add] at hx
                have HBd := Lib.hid hbad
                clear hcells hbad
                go_wp2_with fail
                refine (pseudo_no s s 6 x _ HBd.out).mono ?_
                rintro e w' ⟨rfl, rfl⟩
                go_wp2_with fail
                go_round
                case rel => exact ⟨j + 1, by omega, by go_num⟩
                case measure => simp [intOf]; omega
              · clear hcells
                go_wp2_with fail
                go_ret
                exact ⟨rfl, hb3⟩
end Go.Proofs.Ytfaihaooompojaa
