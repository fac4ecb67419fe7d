/- bafflekit.SameBytes: whether two slices read alike. -/
import Derived.Test.YtjbkfhdbgphodaaDoorProg
import Derived.Test.YtjbkfhdbgphodaaDoorOwn
import Derived.Deep.QuietTactic
import Derived.BigQuiet
import Derived.Deep.Draws
namespace Go.Proofs.YtjbkfhdbgphodaaDoor
open Go.RowKit
set_option linter.unusedVariables false

theorem below_drewN {B : Nat} {a w : World} (h : Below B a w) (n : Nat) : Below B a (w.drewN n) := ⟨h.os, h.tape, h.output, h.size, h.block⟩
theorem RD.drewN {k : IntKind} {w : World} {B : Nat} {A : Option Addr} {n : Nat} {zs : List Int} (h : RD k w B A n zs) (m : Nat) : RD k (w.drewN m) B A n zs := h
theorem OWN.drewN {k : IntKind} {e : TypeId} {w : World} {B : Nat} {A : Option Addr} {n c : Nat} {zs : List Int} (h : OWN k e w B A n c zs) (m : Nat) : OWN k e (w.drewN m) B A n c zs := h

theorem take_succ_eq (xs ys : List Int) (k : Nat) (hx : k < xs.length) (hy : k < ys.length) (h : xs.take k = ys.take k) (he : xs[k]?.getD 0 = ys[k]?.getD 0) : xs.take (k + 1) = ys.take (k + 1) := by
  rw [List.take_succ_eq_append_getElem hx, List.take_succ_eq_append_getElem hy, h]
  simp [hx, hy] at he
  rw [he]
theorem ne_of_getD (xs ys : List Int) (k : Nat) (he : xs[k]?.getD 0 ≠ ys[k]?.getD 0) : (xs == ys) = false := by
  rw [beq_eq_false_iff_ne]; rintro rfl; exact he rfl

set_option maxHeartbeats 1000000 in
theorem same_any (A1 A2 : Option Addr) (n1 c1 n2 c2 : Nat) (xs ys : List Int) (w : World) (h1 : RD .u8 w w.heap.size A1 n1 xs) (h2 : RD .u8 w w.heap.size A2 n2 ys) (hn1 : n1 ≤ 140737488355328) (hn2 : n2 ≤ 140737488355328) :
    Calls Tryd.prog 23 #[.slice A1 n1 c1, .slice A2 n2 c2] w fun e w' => e = .returned (.bool (xs == ys)) ∧ ∃ m, w' = w.drewN m := by
  have hl1 := Lib.hid h1.1
  have hl2 := Lib.hid h2.1
  by_cases hn : n1 = n2
  · subst hn
    have ht : ((n1 : Int) != (n1 : Int)) = false := by simp
    go_enter Tryd.func23, Tryd.ntmps23
    go_wp2
    go_loopw [5] (fun i wr => ∃ k : Nat, k ≤ n1 ∧ i = .int .i64 k ∧ xs.take k = ys.take k ∧ ∃ m, wr = w.drewN m) (fun i _ => n1 - (intOf i).toNat)
    case atStart => exact ⟨0, Nat.zero_le _, rfl, rfl, 0, rfl⟩
    case round =>
      obtain ⟨k, hk, rfl, heq, m, rfl⟩ := hrel
      by_cases hlt : k < n1
      · obtain ⟨b1, o1, rfl, hb1, hc1⟩ := h1.2 (by omega)
        obtain ⟨b2, o2, rfl, hb2, hc2⟩ := h2.2 (by omega)
        have x1 := hc1 k hlt
        have x2 := hc2 k hlt
        have HE := Lib.hid heq
        clear heq hc1 hc2
        have i1 : (0 : Int) ≤ (k : Int) := by omega
        have i2 : (k : Int) < (n1 : Int) := by omega
        go_wp2_with fail
        go_quiet (fail)
        by_cases he : xs[k]?.getD 0 = ys[k]?.getD 0
        · have he' : (xs[k]?.getD 0 != ys[k]?.getD 0) = false := by simp [he]
          have HE2 := Lib.hid (take_succ_eq xs ys k (by rw [hl1.out]; exact hlt) (by rw [hl2.out]; exact hlt) HE.out he)
          clear he
          go_wp2_with fail
          go_roundw
          case rel => exact ⟨k + 1, by omega, by go_num, HE2.out, _, rfl⟩
          case measure => simp [intOf]; omega
        · have he' : (xs[k]?.getD 0 != ys[k]?.getD 0) = true := by simp [he]
          have HF := Lib.hid (ne_of_getD xs ys k he)
          clear he
          go_wp2_with fail
          go_ret
          exact ⟨by rw [HF.out]; rfl, _, World.drewN_drewN _ _ _⟩
      · have HF := Lib.hid (show (xs == ys) = true by
          rw [List.take_of_length_le (by rw [hl1.out]; omega), List.take_of_length_le (by rw [hl2.out]; omega)] at heq
          rw [heq]; simp)
        clear heq
        go_wp2
        go_ret
        exact ⟨by rw [HF.out]; rfl, _, rfl⟩
  · have ht : ((n1 : Int) != (n2 : Int)) = true := by simp; omega
    have HF := Lib.hid (show (xs == ys) = false by
      rw [beq_eq_false_iff_ne]
      intro h
      apply hn
      rw [← hl1.out, ← hl2.out, h])
    go_enter Tryd.func23, Tryd.ntmps23
    go_wp2
    go_ret
    exact ⟨by rw [HF.out]; rfl, 0, rfl⟩
end Go.Proofs.YtjbkfhdbgphodaaDoor
