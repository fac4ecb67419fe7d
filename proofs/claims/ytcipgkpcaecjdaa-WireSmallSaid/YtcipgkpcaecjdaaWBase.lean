/- Merged by program: WJoin, WSum, WCsum, WFix, WSame, WRef2. -/
import Derived.Test.YtcipgkpcaecjdaaProg
import Derived.Test.YtcipgkpcaecjdaaBase
import Derived.WalkKit
import Derived.RangeFuncNested
import Derived.RangeFuncBound
import Derived.RangeFuncCalls
import Derived.RangeFuncLeaves
import Derived.Shelf.Abstract
import Derived.Shelf.RegionOpen
import Derived.OwnWalkIn
import Derived.TacticsInMore
import Derived.LoopNIn
import Derived.LoopIn
import Derived.WalkSpells
import Derived.Deep.QuietTactic
import Derived.BigQuiet
import Derived.Deep.Draws
/- csum.Join: what it returns, for any numbers. -/
namespace Go.Proofs.Ytcipgkpcaecjdaa
open Go.RowKit

end Go.Proofs.Ytcipgkpcaecjdaa
/- csum.Sum: the sum of any bytes; nothing that lay has changed. -/
namespace Go.Proofs.Ytcipgkpcaecjdaa
open Go.RowKit Go.Shelf

attribute [local go_sem] Oper.semAt_some

/-- what a round keeps: all that lay below n₀, and the block Bs -/
def KeepB (n₀ Bs : Nat) (W W' : World) : Prop := Below n₀ W W' ∧ W'.heap[Bs]? = W.heap[Bs]?
theorem KeepB.refl (n₀ Bs : Nat) (W : World) : KeepB n₀ Bs W W := ⟨Below.refl _ _, rfl⟩
theorem KeepB.trans {n₀ Bs : Nat} {A B C : World} (h : KeepB n₀ Bs A B) (k : KeepB n₀ Bs B C) : KeepB n₀ Bs A C := ⟨h.1.trans k.1, k.2.trans h.2⟩
theorem KeepB.book {n₀ Bs : Nat} {w : World} (hn : n₀ ≤ w.heap.size) (hBs : Bs < w.heap.size) (W : World) (l : Nat) (o o' : Obj) (hl : w.heap.size ≤ l) (h : W.heap[l]? = some o) (h1 : o.isCells = false) (h2 : o.isWalk = false) : KeepB n₀ Bs W (W.putObj l o') :=
  ⟨belowK_b hn W l o o' hl h h1 h2, (grownBy_putObj' W l o').block Bs (by have := (Array.getElem?_eq_some_iff.1 h).1; omega) (by simp; omega)⟩
theorem KeepB.cell {n₀ Bs : Nat} {W W' : World} (h : KeepB n₀ Bs W W') (o : Nat) : W'.cell? ⟨Bs, o, none⟩ = W.cell? ⟨Bs, o, none⟩ := World.cell?_of_block h.2

end Go.Proofs.Ytcipgkpcaecjdaa
/- csum: Of, Right, Over, Never, Update, Update32, Pseudo, each for any input. -/
namespace Go.Proofs.Ytcipgkpcaecjdaa
open Go.RowKit

end Go.Proofs.Ytcipgkpcaecjdaa
/- slices.Clone and csum.Fix. -/
namespace Go.Proofs.Ytcipgkpcaecjdaa
open Go.RowKit
set_option linter.unusedVariables false

theorem infoU8 : (Try.prog.info? 5).map (fun i => (i.zero, i.size, i.bytes)) = some (some (.int .u8 0), 1, 1) := by kernel_rfl

/-- what Clone leaves -/
def Fresh (w : World) (zs : List Int) (e : Ending) (w' : World) : Prop :=
  ∃ A n c, e = .returned (.slice A n c) ∧ OWN .u8 5 w' w.heap.size A n c zs ∧ Below w.heap.size w w'

set_option maxHeartbeats 400000 in
theorem clone_any (A : Option Addr) (n c : Nat) (zs : List Int) (w : World) (h : RD .u8 w w.heap.size A n zs) (hn : n ≤ 140737488355328) :
    Calls Try.prog 57 #[.slice A n c] w (Fresh w zs) := by
  have hnn : n = zs.length := h.1.symm
  subst hnn
  obtain ⟨i0, hi, hz0, hz1, hz2⟩ := info_parts infoU8
  have hnil := fun (W : World) a l c => Lib.run_eql_slice_nil (P := Try.prog) W 22 5 a l c 0 0 Try.underlying22
  rcases A with _ | ad
  · have hl : zs.length = 0 := by
      rcases Nat.eq_zero_or_pos zs.length with h1 | h1
      · exact h1
      · obtain ⟨b, off, h2, _⟩ := h.2 h1
        cases h2
    have hzn : zs = [] := List.length_eq_zero_iff.1 hl
    subst hzn
    go_enter Try.func57, Try.ntmps57
    go_wp2_with fail
    go_ret
    exact ⟨none, 0, 0, rfl, OWN.nil, Below.refl _ _⟩
  · go_enter Try.func57, Try.ntmps57
    go_wp2_with (at_builtin; refine wpList_append_rd _ rfl _ _ _ rfl .u8 w.heap.size 5 i0 1 Try.underlying22 hi hz0 hz1 hz2 (some ⟨w.heap.size, 0, none⟩) 0 0 [] rfl (OWN.lit w .u8 5 w.heap.size [] (Nat.le_refl _) (by simp)) w.heap.size _ _ _ zs rfl (h.alloc (Nat.le_refl _) _) (by simp [maxLen]; omega) (by omega) (by simp) ?_; intro A' c' w' happ)
    go_ret
    have hbel : Below w.heap.size w w' := ((Below.refl _ w).alloc (Nat.le_refl _) _).trans (happ.keepBelow (fun g hg => by simp at hg; omega) (by simp))
    have hown := happ.own
    rw [Nat.zero_add, List.nil_append] at hown
    exact ⟨A', _, c', rfl, hown, hbel⟩

/-- what Fix leaves -/
def Fixed (w : World) (zs : List Int) (e : Ending) (w' : World) : Prop :=
  ∃ A n c, e = .returned (.tuple #[.slice A n c, .int .i64 0]) ∧ OWN .u8 5 w' w.heap.size A n c zs ∧ Below w.heap.size w w'

theorem set_getD (zs : List Int) (i j : Nat) (x : Int) (h : i ≠ j) : (zs.set i x)[j]?.getD 0 = zs[j]?.getD 0 := by rw [List.getElem?_set_ne h]

end Go.Proofs.Ytcipgkpcaecjdaa
/- bafflekit.SameBytes: whether two slices read alike. -/
namespace Go.Proofs.Ytcipgkpcaecjdaa
open Go.RowKit
set_option linter.unusedVariables false

theorem below_drewN {B : Nat} {a w : World} (h : Below B a w) (n : Nat) : Below B a (w.drewN n) := ⟨h.os, h.tape, h.output, h.size, h.block⟩
theorem RD.drewN {k : IntKind} {w : World} {B : Nat} {A : Option Addr} {n : Nat} {zs : List Int} (h : RD k w B A n zs) (m : Nat) : RD k (w.drewN m) B A n zs := h
theorem OWN.drewN {k : IntKind} {e : TypeId} {w : World} {B : Nat} {A : Option Addr} {n c : Nat} {zs : List Int} (h : OWN k e w B A n c zs) (m : Nat) : OWN k e (w.drewN m) B A n c zs := h

theorem take_succ_eq (xs ys : List Int) (k : Nat) (hx : k < xs.length) (hy : k < ys.length) (h : xs.take k = ys.take k) (he : xs[k]?.getD 0 = ys[k]?.getD 0) : xs.take (k + 1) = ys.take (k + 1) := by
  rw [List.take_succ_eq_append_getElem hx, List.take_succ_eq_append_getElem hy, h]
  simp [hx, hy] at he
  rw [he]
theorem ne_of_getD (xs ys : List Int) (k : Nat) (he : xs[k]?.getD 0 ≠ ys[k]?.getD 0) : (xs == ys) = false := by
  rw [beq_eq_false_iff_ne]; rintro rfl; exact he rfl

set_option maxHeartbeats 1000000 in
theorem same_any (A1 A2 : Option Addr) (n1 c1 n2 c2 : Nat) (xs ys : List Int) (w : World) (h1 : RD .u8 w w.heap.size A1 n1 xs) (h2 : RD .u8 w w.heap.size A2 n2 ys) (hn1 : n1 ≤ 140737488355328) (hn2 : n2 ≤ 140737488355328) :
    Calls Try.prog 44 #[.slice A1 n1 c1, .slice A2 n2 c2] w fun e w' => e = .returned (.bool (xs == ys)) ∧ ∃ m, w' = w.drewN m := by
  have hl1 := Lib.hid h1.1
  have hl2 := Lib.hid h2.1
  by_cases hn : n1 = n2
  · subst hn
    have ht : ((n1 : Int) != (n1 : Int)) = false := by simp
    go_enter Try.func44, Try.ntmps44
    go_wp2
    go_loopw [5] (fun i wr => ∃ k : Nat, k ≤ n1 ∧ i = .int .i64 k ∧ xs.take k = ys.take k ∧ ∃ m, wr = w.drewN m) (fun i _ => n1 - (intOf i).toNat)
    case atStart => exact ⟨0, Nat.zero_le _, rfl, rfl, 0, rfl⟩
    case round =>
      obtain ⟨k, hk, rfl, heq, m, rfl⟩ := hrel
      by_cases hlt : k < n1
      · obtain ⟨b1, o1, rfl, hb1, hc1⟩ := h1.2 (by omega)
        obtain ⟨b2, o2, rfl, hb2, hc2⟩ := h2.2 (by omega)
        have x1 := hc1 k hlt
        have x2 := hc2 k hlt
        have HE := Lib.hid heq
        clear heq hc1 hc2
        have i1 : (0 : Int) ≤ (k : Int) := by omega
        have i2 : (k : Int) < (n1 : Int) := by omega
        go_wp2_with fail
        go_quiet (fail)
        by_cases he : xs[k]?.getD 0 = ys[k]?.getD 0
        · have he' : (xs[k]?.getD 0 != ys[k]?.getD 0) = false := by simp [he]
          have HE2 := Lib.hid (take_succ_eq xs ys k (by rw [hl1.out]; exact hlt) (by rw [hl2.out]; exact hlt) HE.out he)
          clear he
          go_wp2_with fail
          go_roundw
          case rel => exact ⟨k + 1, by omega, by go_num, HE2.out, _, rfl⟩
          case measure => simp [intOf]; omega
        · have he' : (xs[k]?.getD 0 != ys[k]?.getD 0) = true := by simp [he]
          have HF := Lib.hid (ne_of_getD xs ys k he)
          clear he
          go_wp2_with fail
          go_ret
          exact ⟨by rw [HF.out]; rfl, _, World.drewN_drewN _ _ _⟩
      · have HF := Lib.hid (show (xs == ys) = true by
          rw [List.take_of_length_le (by rw [hl1.out]; omega), List.take_of_length_le (by rw [hl2.out]; omega)] at heq
          rw [heq]; simp)
        clear heq
        go_wp2
        go_ret
        exact ⟨by rw [HF.out]; rfl, _, rfl⟩
  · have ht : ((n1 : Int) != (n2 : Int)) = true := by simp; omega
    have HF := Lib.hid (show (xs == ys) = false by
      rw [beq_eq_false_iff_ne]
      intro h
      apply hn
      rw [← hl1.out, ← hl2.out, h])
    go_enter Try.func44, Try.ntmps44
    go_wp2
    go_ret
    exact ⟨by rw [HF.out]; rfl, 0, rfl⟩
end Go.Proofs.Ytcipgkpcaecjdaa
/- The reference of the chapter on checksums: it returns what the program returns. -/
namespace Go.Proofs.Ytcipgkpcaecjdaa
open Go.RowKit
set_option linter.unusedVariables false

/-- the bytes added up one by one -/
def bsum (zs : List Int) : Nat → Int
  | 0 => 0
  | i + 1 => bsum zs i + (if i % 2 = 0 then 256 * zs[i]?.getD 0 else zs[i]?.getD 0)
theorem bsum_bd {zs : List Int} (h : BD 255 zs) : ∀ i, 0 ≤ bsum zs i ∧ bsum zs i ≤ 65280 * i
  | 0 => by simp [bsum]
  | i + 1 => by
    have ih := bsum_bd h i
    have hg := h.get (by omega) i
    simp only [bsum]
    split <;> omega
theorem wsum_take (zs : List Int) (k : Nat) (h : 2 * k < zs.length) : wsum (zs.take (2 * k + 2)) = wsum (zs.take (2 * k)) + wordAt zs (2 * k) := by
  unfold wsum
  rw [wordsOf_take_succ zs k h, isum_append]
  simp [isum]
theorem bsum_even (zs : List Int) : ∀ k, 2 * k ≤ zs.length + 1 → bsum zs (2 * k) = wsum (zs.take (2 * k))
  | 0, _ => rfl
  | k + 1, h => by
    rw [show 2 * (k + 1) = 2 * k + 1 + 1 from by omega]
    simp only [bsum]
    rw [bsum_even zs k (by omega), if_pos (by omega), if_neg (by omega), wsum_take zs k (by omega)]
    unfold wordAt
    omega
theorem bsum_all (zs : List Int) : bsum zs zs.length = wsum zs := by
  rcases Nat.mod_two_eq_zero_or_one zs.length with h | h
  · have := bsum_even zs (zs.length / 2) (by omega)
    rw [show 2 * (zs.length / 2) = zs.length from by omega, List.take_length] at this
    exact this
  · have := bsum_even zs (zs.length / 2 + 1) (by omega)
    rw [show 2 * (zs.length / 2 + 1) = zs.length + 1 from by omega] at this
    simp only [bsum] at this
    rw [List.take_of_length_le (by omega)] at this
    rw [← this, if_neg (by omega), List.getElem?_eq_none (by omega)]
    simp

theorem upd_eq {a b c : Int} (ha : 0 ≤ a) (ha' : a ≤ 65535) (hb : 0 ≤ b) (hb' : b ≤ 65535) (hc : 0 ≤ c) (hc' : c ≤ 65535) : upd a b c = 65535 - foldR (65535 - a + 65535 - b + c) := by
  unfold upd
  rw [foldJ0_eq _ (fun y hy => by simp at hy; omega)]
  simp only [isum]
  congr 2; omega

theorem pseudo_eq {a b c d : Int} (ha : 0 ≤ a) (ha' : a ≤ 4294967295) (hb : 0 ≤ b) (hb' : b ≤ 4294967295) (hc : 0 ≤ c) (hc' : c ≤ 255) (hd : 0 ≤ d) (hd' : d ≤ 65535) :
    foldJ 0 [a / 65536, a % 65536, b / 65536, b % 65536, c, d] = foldR (a / 65536 + a % 65536 + b / 65536 + b % 65536 + c + d) := by
  rw [foldJ0_eq _ (fun y hy => by simp at hy; omega)]
  simp only [isum]
  congr 1; omega

theorem isum_take_bd {zs : List Int} (h : BD 65535 zs) (k : Nat) : 0 ≤ isum (zs.take k) ∧ isum (zs.take k) ≤ 65535 * k := by
  induction k with
  | zero => simp [isum]
  | succ k ih =>
    rcases Nat.lt_or_ge k zs.length with hk | hk
    · rw [List.take_succ_eq_append_getElem hk, isum_append]
      have := h zs[k] (List.getElem_mem hk)
      simp only [isum]; omega
    · rw [List.take_of_length_le (by omega)]
      rw [List.take_of_length_le (by omega)] at ih
      omega
theorem isum_take_succ (zs : List Int) (k : Nat) (hk : k < zs.length) : isum (zs.take (k + 1)) = isum (zs.take k) + zs[k]?.getD 0 := by
  rw [List.take_succ_eq_append_getElem hk, isum_append]; simp [isum, hk]

end Go.Proofs.Ytcipgkpcaecjdaa
