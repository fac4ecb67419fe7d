import Derived.Test.YthdpcblmmjocmaaTcO
/- bafflelaw08.starts: whether an option starts at a place. -/
namespace Go.Proofs.Ythdpcblmmjocmaa
open Go.RowKit
set_option linter.unusedVariables false

theorem opts_step {zs : List Int} {k0 k1 K : KN} {i : Nat} (h1 : OPTS (zs.take i) k0 k1) (h2 : OPTS (zs.drop i) k1 K) (hi : i < zs.length) :
    (zs[i]?.getD 0 = 1 ∧ ∃ k2, OPTS (zs.take (i + 1)) k0 k2 ∧ OPTS (zs.drop (i + 1)) k2 K) ∨
    (zs[i]?.getD 0 ≠ 1 ∧ ∃ m : Nat, 2 ≤ m ∧ i + m ≤ zs.length ∧ zs[i + 1]?.getD 0 = (m : Int) ∧ ∃ k2, OPTS (zs.take (i + m)) k0 k2 ∧ OPTS (zs.drop (i + m)) k2 K) := by
  have hne : zs.drop i ≠ [] := by
    intro h
    have := congrArg List.length h
    rw [List.length_drop] at this; simp at this; omega
  have ht : ∀ m, zs.take (i + m) = zs.take i ++ (zs.drop i).take m := fun m => List.take_add
  have hd : ∀ m, zs.drop (i + m) = (zs.drop i).drop m := fun m => by rw [List.drop_drop]
  have hg : ∀ j, zs[i + j]? = (zs.drop i)[j]? := fun j => by rw [List.getElem?_drop]
  rcases h2.head hne with ⟨ys, e, h⟩ | ⟨kind, c, ys, k2, hk0, hk1, htk, e, h⟩
  · left
    refine ⟨?_, k1, ?_, ?_⟩
    · have := hg 0
      rw [Nat.add_zero, e] at this
      rw [this]; rfl
    · rw [ht 1, e]
      exact h1.append (.one (.nil k1))
    · rw [hd 1, e]; exact h
  · right
    have hl : (zs.drop i).length = 2 + c.length + ys.length := by rw [e]; simp; omega
    rw [List.length_drop] at hl
    refine ⟨?_, 2 + c.length, by omega, by omega, ?_, k2, ?_, ?_⟩
    · have := hg 0
      rw [Nat.add_zero, e] at this
      rw [this]; exact hk1
    · have := hg 1
      rw [e] at this
      rw [this]; simp
    · rw [ht (2 + c.length), e]
      refine h1.append ?_
      have e2 : ([kind, 2 + (c.length : Int)] ++ c ++ ys).take (2 + c.length) = [kind, 2 + (c.length : Int)] ++ c ++ [] := by
        rw [List.append_nil]
        exact List.take_left' (by simp; omega)
      rw [e2]
      exact .opt hk0 hk1 htk (.nil k2)
    · rw [hd (2 + c.length), e]
      have e2 : ([kind, 2 + (c.length : Int)] ++ c ++ ys).drop (2 + c.length) = ys := List.drop_left' (by simp; omega)
      rw [e2]; exact h

/-- what starts tells -/
def STP (zs : List Int) (K : KN) (at_ : Nat) (w : World) (e : Ending) (w' : World) : Prop :=
  ∃ b, e = .returned (.bool b) ∧ w' = w ∧ (b = true → ∃ k1, OPTS (zs.take at_) kn0 k1 ∧ OPTS (zs.drop at_) k1 K)

set_option maxHeartbeats 4000000 in
set_option maxRecDepth 100000 in
theorem starts_any (A : Option Addr) (n c : Nat) (zs : List Int) (K : KN) (at_ : Nat) (w : World) (R : RD .u8 w w.heap.size A n zs) (hz : BD 255 zs) (ho : OPTS zs kn0 K) (ha : at_ ≤ n) (hn : n ≤ 1000) :
    Calls Try.prog 29 #[.slice A n c, .int .i64 (at_ : Int)] w (STP zs K at_ w) := by
  have hl := R.len
  have HO := Lib.hid ho
  have HR := Lib.hid R
  clear ho R
  go_enter Try.func29, Try.ntmps29
  go_wp2_with fail
  go_loop [5] (fun s => ∃ (i : Nat) (k1 : KN), i ≤ n ∧ s = .int .i64 (i : Int) ∧ OPTS (zs.take i) kn0 k1 ∧ OPTS (zs.drop i) k1 K) (fun s => n - (intOf s).toNat)
  case atStart => exact ⟨0, kn0, by omega, rfl, .nil _, HO.out⟩
  case round =>
    obtain ⟨i, k1, hi, rfl, g1, g2⟩ := hrel
    have HG := Lib.hid (And.intro g1 g2)
    by_cases hlt : i < at_
    · have i1 : (i : Int) < (at_ : Int) := by omega
      obtain ⟨b, off, rfl, hb, hc⟩ := HR.out.2 (by omega)
      rcases opts_step g1 g2 (by omega) with ⟨e1, k2, g3, g4⟩ | ⟨e1, m, hm2, hm, e2, k2, g3, g4⟩
      · have x0 : w.cell? ⟨b, off + i, none⟩ = some (.int .u8 1) := by rw [hc i (by omega), e1]
        have HN := Lib.hid (And.intro g3 g4)
        have i2 : (i : Int) < (n : Int) := by omega
        clear g1 g2 g3 g4 e1 hc HG hl
        go_wp2_with fail
        go_round
        case rel => exact ⟨i + 1, k2, by omega, by go_num, HN.out.1, HN.out.2⟩
        case measure => simp [intOf]; omega
      · have x0 : w.cell? ⟨b, off + i, none⟩ = some (.int .u8 (zs[i]?.getD 0)) := hc i (by omega)
        have x1 : w.cell? ⟨b, off + (i + 1), none⟩ = some (.int .u8 (m : Int)) := by rw [hc (i + 1) (by omega), e2]
        have hmb := (hz.get (by omega) (i + 1)).2
        rw [e2] at hmb
        generalize zs[i]?.getD 0 = x at x0 e1
        have HN := Lib.hid (And.intro g3 g4)
        have i2 : (i : Int) < (n : Int) := by omega
        have i3 : (i : Int) + 1 < (n : Int) := by omega
        have i4 : (m : Int) ≤ 255 := hmb
        have i6 : i + m ≤ n := by omega
        have i5 : (n : Int) ≤ 1000 := by omega
        clear g1 g2 g3 g4 e2 hc HG hmb hl
        go_wp2_with fail
        go_round
        case rel => exact ⟨i + m, k2, by omega, by go_num, HN.out.1, HN.out.2⟩
        case measure => simp [intOf]; omega
    · have i1 : ¬ (i : Int) < (at_ : Int) := by omega
      clear g1 g2
      by_cases he : i = at_
      · subst he
        go_wp2_with fail
        go_ret
        exact ⟨true, rfl, rfl, fun _ => ⟨k1, HG.out.1, HG.out.2⟩⟩
      · have i2 : ((i : Int) == (at_ : Int)) = false := by simp; omega
        go_wp2_with fail
        go_ret
        exact ⟨false, rfl, rfl, fun h => by cases h⟩
end Go.Proofs.Ythdpcblmmjocmaa
