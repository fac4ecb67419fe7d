import Derived.RangeFuncNested
import Derived.RangeFuncBound
import Derived.RangeFuncCalls
import Derived.RangeFuncLeaves
import Derived.Shelf.Abstract
import Derived.Shelf.RegionOpen
import Derived.WalkKit
import Derived.OwnWalkIn
import Derived.TacticsInMore
import Derived.LoopNIn
import Derived.LoopIn
import Derived.Test.YthdpcblmmjocmaaTcK
import Derived.Test.YthdpcblmmjocmaaWBase
import Derived.Test.YthdpcblmmjocmaaWRng
/- package tcp: the iterator over options. -/
namespace Go.Proofs.Ythdpcblmmjocmaa
open Go.RowKit Go.Shelf
set_option linter.unusedVariables false
attribute [local go_sem] Oper.semAt_some

def lenV : Option Value → Nat
  | some (.slice _ n _) => n
  | _ => 0

set_option maxHeartbeats 1000000 in
set_option maxRecDepth 100000 in
theorem options1_in (m l Bn : Nat) (hm : 1 ≤ m) (J : Option Addr → Nat → Nat → List Int → World → Prop) (Jx : World → Prop)
    (hJ : ∀ A n c zs W, J A n c zs W → W.cell? ⟨Bn, 0, none⟩ = some (.slice A n c) ∧ W.frozen? ⟨Bn, 0, none⟩ = false ∧ RD .u8 W W.heap.size A n zs ∧ BD 255 zs ∧ n ≤ c ∧ c ≤ maxLen)
    (hdr : ∀ A n c zs W q, J A n c zs W → J A n c zs (W.drewN q))
    (hbad : ∀ A n c zs W, J A n c zs W → atEnd zs = false → optLen zs = none → YieldAt Fence.wide (m - 1) Try.prog l #[.slice none 0 0, .bool false] W fun e W' => e = .returned (.bool false) ∧ Jx W')
    (hgood : ∀ A n c zs W k, J A n c zs W → atEnd zs = false → optLen zs = some k → YieldAt Fence.wide (m - 1) Try.prog l #[.slice A k c, .bool true] W fun e W' =>
      (e = .returned (.bool true) ∧ W'.cell? ⟨Bn, 0, none⟩ = some (.slice A n c) ∧ W'.frozen? ⟨Bn, 0, none⟩ = false ∧ J (cutA A c k) (n - k) (c - k) (zs.drop k) (W'.setCell ⟨Bn, 0, none⟩ (.slice (cutA A c k) (n - k) (c - k)))) ∨
      (e = .returned (.bool false) ∧ Jx W'))
    (A : Option Addr) (n c : Nat) (zs : List Int) (W : World) (h0 : J A n c zs W) :
    CallsIn Fence.wide m Try.prog 69 #[.func (.yield l) #[] #[], .pointer (some ⟨Bn, 0, none⟩)] W fun e W' => (∃ v, e = .returned v) ∧ ((∃ A n c zs, J A n c zs W' ∧ atEnd zs = true) ∨ Jx W') := by
  obtain ⟨i0, hi, hz0, hz1, hz2⟩ := info_parts infoU8
  refine callsIn_of_wp Try.func69 rfl trivial ?_ rfl
  simp only [Try.ntmps69, List.size_toArray, List.length_cons, List.length_nil, Nat.reduceAdd, Nat.reduceSub, Array.replicate_succ, Array.replicate_zero, List.push_toArray, List.append_toArray, List.nil_append, List.cons_append]
  gi_wp2
  gi_loopw [3] (fun _ wr => ∃ A n c zs, J A n c zs wr) (fun _ wr => lenV (wr.cell? ⟨Bn, 0, none⟩))
  case atStart => exact ⟨A, n, c, zs, h0⟩
  case round =>
    obtain ⟨A, n, c, zs, hj⟩ := hrel
    obtain ⟨hb, hf, hr, hz, hnc, hc⟩ := hJ A n c zs wr hj
    have hl := hr.1
    rcases Nat.eq_zero_or_pos n with hn | hn
    · subst hn
      have : zs = [] := List.length_eq_zero_iff.1 hl
      subst this
      gi_wp2
      go_end0
      exact ⟨⟨_, rfl⟩, .inl ⟨A, 0, c, [], hj, rfl⟩⟩
    obtain ⟨b, off, rfl, hlt, hcell⟩ := hr.2 hn
    have x0 := hcell 0 hn
    rw [Nat.add_zero] at x0
    have hn0 : 0 < zs.length := by omega
    obtain ⟨z00, z01⟩ := hz.get (by omega) 0
    obtain ⟨y0, hy0⟩ : ∃ y, zs[0]?.getD 0 = y := ⟨_, rfl⟩
    rw [hy0] at x0 z00 z01
    have Y0 := Lib.hid hy0
    by_cases hz0' : y0 = 0
    · rw [hz0'] at x0 hy0
      gi_wp2
      go_end0
      exact ⟨⟨_, rfl⟩, .inl ⟨_, n, c, zs, hj, atEnd_iff.2 (.inr hy0)⟩⟩
    have hae : atEnd zs = false := by
      cases h : atEnd zs with
      | false => rfl
      | true =>
        rcases atEnd_iff.1 h with h | h
        · rw [h] at hn0; simp at hn0
        · exact absurd (Y0.out.symm.trans h) hz0'
    clear hy0
    have o1 : (0 : Int) < (n : Int) := by omega
    by_cases h1 : y0 = 1
    · rw [h1] at x0
      have h1' := Y0.out.trans h1
      have hk : optLen zs = some 1 := optLen_one h1'
      clear h1'
      obtain ⟨fn, tmps, assign, body, hy, hR⟩ := hgood _ n c zs wr 1 hj hae hk
      have sl := fun W => run_slice_lo (P := Try.prog) W Try.underlying22 hi hz1 (some ⟨b, off, none⟩) n c (1 : Int) 1 rfl (by omega)
      gi_wp2
      refine hR.mono ?_
      rintro e W3 (⟨rfl, hc3, hf3, hJ3⟩ | ⟨rfl, hx⟩)
      · gi_wp2
        go_roundw
        case rel => exact ⟨_, _, _, _, hJ3⟩
        case measure =>
          rw [hb, (hJ _ _ _ _ _ hJ3).1]
          show n - 1 < n
          omega
      · gi_wp2
        refine bodyPost_ret (results_none rfl _ _ _) rfl ?_
        exact ⟨⟨_, rfl⟩, .inr hx⟩
    by_cases h2 : n = 1
    · subst h2
      have hk : optLen zs = none := optLen_bad (fun h => h1 (Y0.out.symm.trans h)) (by omega)
      gi_wp2
      gi_quiet (fail)
      obtain ⟨fn, tmps, assign, body, hy, hR⟩ := hbad _ _ c zs (wr.drewN nq) (hdr _ _ _ _ _ _ hj) hae hk
      gi_wp2
      refine hR.mono ?_
      rintro e W3 ⟨rfl, hx⟩
      gi_wp2
      refine bodyPost_ret (results_none rfl _ _ _) rfl ?_
      exact ⟨⟨_, rfl⟩, .inr hx⟩
    have x1 := hcell 1 (by omega)
    obtain ⟨z10, z11⟩ := hz.get (by omega) 1
    obtain ⟨y1, hy1⟩ : ∃ y, zs[1]?.getD 0 = y := ⟨_, rfl⟩
    rw [hy1] at x1 z10 z11
    have Y1 := Lib.hid hy1
    clear hy1
    have e1 : IntKind.i64.wrap y1 = y1 := IntWalk.i64_in _ (by omega)
    have o2 : ¬ (n : Int) < 2 := by omega
    have b2 : decide ((n : Int) < 2) = false := by simp; omega
    have b2' : decide (n < 2) = false := by simp; omega
    by_cases h3 : y1 < 2
    · have b3 : decide (y1 < 2) = true := by simpa using h3
      have hk : optLen zs = none := optLen_bad (fun h => h1 (Y0.out.symm.trans h)) (by rw [Y1.out]; omega)
      gi_wp2
      gi_quiet (fail)
      obtain ⟨fn, tmps, assign, body, hy, hR⟩ := hbad _ _ c zs (wr.drewN nq) (hdr _ _ _ _ _ _ hj) hae hk
      gi_wp2
      refine hR.mono ?_
      rintro e W3 ⟨rfl, hx⟩
      gi_wp2
      refine bodyPost_ret (results_none rfl _ _ _) rfl ?_
      exact ⟨⟨_, rfl⟩, .inr hx⟩
    have b3 : decide (y1 < 2) = false := by simp; omega
    by_cases h4 : (n : Int) < y1
    · have b4 : decide ((n : Int) < y1) = true := by simpa using h4
      have hk : optLen zs = none := optLen_bad (fun h => h1 (Y0.out.symm.trans h)) (by rw [Y1.out]; omega)
      gi_wp2
      gi_quiet (fail)
      obtain ⟨fn, tmps, assign, body, hy, hR⟩ := hbad _ _ c zs (wr.drewN nq) (hdr _ _ _ _ _ _ hj) hae hk
      gi_wp2
      refine hR.mono ?_
      rintro e W3 ⟨rfl, hx⟩
      gi_wp2
      refine bodyPost_ret (results_none rfl _ _ _) rfl ?_
      exact ⟨⟨_, rfl⟩, .inr hx⟩
    obtain ⟨k, hkk⟩ : ∃ k : Nat, y1 = (k : Int) := ⟨(y1).toNat, by omega⟩
    have hk2 : optLen zs = some k := by rw [optLen_more (fun h => h1 (Y0.out.symm.trans h)) (by rw [Y1.out]; omega), Y1.out, hkk]; rfl
    rw [hkk] at x1 e1 h3 h4 b3
    have b4 : decide ((n : Int) < (k : Int)) = false := by simp; omega
    have b4' : decide (n < k) = false := by simp; omega
    have o3 : 2 ≤ k ∧ k ≤ n := by omega
    have o4 : (k : Int) ≤ (n : Int) := by omega
    have hk : optLen zs = some k := hk2
    have sl := fun W => run_slice_lo (P := Try.prog) W Try.underlying22 hi hz1 (some ⟨b, off, none⟩) n c (k : Int) k rfl (by omega)
    gi_wp2
    gi_quiet (fail)
    obtain ⟨fn, tmps, assign, body, hy, hR⟩ := hgood _ n c zs (wr.drewN nq) k (hdr _ _ _ _ _ _ hj) hae hk
    gi_wp2
    refine hR.mono ?_
    rintro e W3 (⟨rfl, hc3, hf3, hJ3⟩ | ⟨rfl, hx⟩)
    · gi_wp2
      go_roundw
      case rel => exact ⟨_, _, _, _, hJ3⟩
      case measure =>
        rw [hb, (hJ _ _ _ _ _ hJ3).1]
        show n - k < n
        omega
    · gi_wp2
      refine bodyPost_ret (results_none rfl _ _ _) rfl ?_
      exact ⟨⟨_, rfl⟩, .inr hx⟩
end Go.Proofs.Ythdpcblmmjocmaa
