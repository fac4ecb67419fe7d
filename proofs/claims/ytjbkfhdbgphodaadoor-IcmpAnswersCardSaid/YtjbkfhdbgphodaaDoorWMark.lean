/- bafflekit: the marks; slices that are lent, and whether they were kept. -/
import Derived.Test.YtjbkfhdbgphodaaDoorWFix
import Derived.Test.YtjbkfhdbgphodaaDoorWSame
import Derived.Deep.DeepCutAuto
namespace Go.Proofs.YtjbkfhdbgphodaaDoor
open Go.RowKit
set_option linter.unusedVariables false

/-- the mark for index i of slice k, as a byte -/
def mk8 (k i : Int) : Int := IntKind.u64.wrap ((1000003 * (k + 7) + i) * 11400714819323198485) / 72057594037927936 % 256
theorem mk8_bd (k i : Int) : 0 ≤ mk8 k i ∧ mk8 k i ≤ 255 := by unfold mk8; omega

set_option maxHeartbeats 400000 in
set_option maxRecDepth 100000 in
theorem mark_any (k i : Int) (w : World) (hk : 0 ≤ k) (hk' : k ≤ 1000000) (hi : 0 ≤ i) (hi' : i ≤ 281474976710656) :
    Calls Tryd.prog 69 #[.int .i64 k, .int .i64 i] w fun e w' => e = .returned (.int .i64 (1000003 * (k + 7) + i)) ∧ w = w' := by
  go_enter Tryd.func69, Tryd.ntmps69
  go_wp2
  go_ret
  exact ⟨rfl, rfl⟩

set_option maxHeartbeats 400000 in
set_option maxRecDepth 100000 in
theorem markByte_any (k i : Int) (w : World) (hk : 0 ≤ k) (hk' : k ≤ 1000000) (hi : 0 ≤ i) (hi' : i ≤ 281474976710656) :
    Calls Tryd.prog 59 #[.int .i64 k, .int .i64 i] w fun e w' => e = .returned (.int .u8 (mk8 k i)) ∧ w = w' := by
  go_enter Tryd.func59, Tryd.ntmps59
  go_wp2_with (go_at_call 69; refine (mark_any _ _ _ hk hk' hi hi').mono ?_; rintro e w' ⟨rfl, rfl⟩)
  go_ret
  exact ⟨rfl, rfl⟩
theorem quiet_of_left {P : Program} {f : FuncId} {args : Array Value} {w : World} {a n : Nat} {v : Value}
    (h : Calls P f args (w.drewN (a + n)) fun e w' => e = .returned v ∧ w.drewN (a + n) = w') : Calls P f args (w.drewN (a + n)) fun e w'' => e = .returned v ∧ ∃ m, w'' = w.drewN (a + m) :=
  h.mono fun _ _ ⟨he, hm⟩ => ⟨he, n, hm.symm⟩
theorem quiet_of_left0 {P : Program} {f : FuncId} {args : Array Value} {w : World} {n : Nat} {v : Value}
    (h : Calls P f args (w.drewN n) fun e w' => e = .returned v ∧ w.drewN n = w') : Calls P f args (w.drewN n) fun e w'' => e = .returned v ∧ ∃ m, w'' = w.drewN m :=
  h.mono fun _ _ ⟨he, hm⟩ => ⟨he, n, hm.symm⟩

/-- the marks behind a slice that is lent -/
def marksFrom (k : Int) (a : Nat) : Nat → List Int
  | 0 => []
  | m + 1 => marksFrom k a m ++ [mk8 k (a + m : Nat)]
theorem marksFrom_len (k : Int) (a m : Nat) : (marksFrom k a m).length = m := by
  induction m with
  | zero => rfl
  | succ m ih => simp [marksFrom, ih]
theorem marksFrom_get (k : Int) (a : Nat) : ∀ m i, i < m → (marksFrom k a m)[i]?.getD 0 = mk8 k (a + i : Nat) := by
  intro m
  induction m with
  | zero => intro i hi; omega
  | succ m ih =>
    intro i hi
    simp only [marksFrom]
    rcases Nat.lt_or_ge i m with h | h
    · rw [List.getElem?_append_left (by rw [marksFrom_len]; exact h)]; exact ih i h
    · obtain rfl : i = m := by omega
      rw [List.getElem?_append_right (by rw [marksFrom_len]; omega), marksFrom_len]; simp

/-- what LentBytes leaves: the bytes, and twelve marks in the spare room -/
def Lent (w : World) (zs : List Int) (e : Ending) (w' : World) : Prop :=
  ∃ A n, e = .returned (.slice A n (n + 12)) ∧ n = zs.length ∧ OWN .u8 5 w' w.heap.size A (n + 12) (n + 12) (zs ++ marksFrom 1 0 12) ∧ Below w.heap.size w w'

set_option maxHeartbeats 1000000 in
set_option maxRecDepth 100000 in
theorem lent_any (A : Option Addr) (n c : Nat) (zs : List Int) (w : World) (h : RD .u8 w w.heap.size A n zs) (hn : n ≤ 140737488351232) :
    Calls Tryd.prog 29 #[.slice A n c] w (Lent w zs) := by
  obtain ⟨i0, hi, hz0, hz1, hz2⟩ := info_parts infoU8
  have HL := Lib.hid h.1
  go_enter Tryd.func29, Tryd.ntmps29
  go_wp2_with (first
    | (at_make; refine wpList_make_own _ rfl _ _ _ rfl w.heap.size 5 i0 (.int .u8 0) 1 Tryd.underlying22 hi hz0 hz1 .i64 .i64 _ (n + 12) rfl rfl (by omega) (by rw [hz2]; omega) (by simp only [maxLen]; omega) (Nat.le_refl _) ?_; intro w1 hown1 hg1)
    | (at_builtin; refine wpList_append_rd _ rfl _ _ _ rfl .u8 w.heap.size 5 i0 1 Tryd.underlying22 hi hz0 hz1 hz2 (some ⟨w.heap.size, 0, none⟩) 0 (n + 12) [] rfl hown1 w.heap.size A n c zs rfl (h.below ((Below.refl _ w).grown hg1 (Nat.le_refl _) (by simp))) (by simp only [maxLen]; omega) (by omega) hg1.size ?_; intro A2 c2 w2 happ))
  have hb1 : Below w.heap.size w w1 := (Below.refl _ w).grown hg1 (Nat.le_refl _) (by simp)
  have hb2 : Below w.heap.size w w2 := hb1.trans (happ.keepBelow (fun g hg => by simp at hg; omega) hb1.size)
  have own2 := happ.own
  have hlies : A2 = some ⟨w.heap.size, 0, none⟩ ∧ c2 = n + 12 := by
    rcases happ.lies with hl | hl
    · exact hl
    · omega
  obtain ⟨rfl, rfl⟩ := hlies
  rw [Nat.zero_add, List.nil_append] at own2
  clear happ hown1 hg1 hb1
  go_loopw [3, 4] (fun v i wr => ∃ j : Nat, j ≤ 12 ∧ i = .int .i64 j ∧ v = .slice (some ⟨w.heap.size, 0, none⟩) (n + j) (n + 12) ∧ OWN .u8 5 wr w.heap.size (some ⟨w.heap.size, 0, none⟩) (n + j) (n + 12) (zs ++ marksFrom 1 0 j) ∧ Below w.heap.size w wr) (fun _ i _ => 12 - (intOf i).toNat)
  case atStart => exact ⟨0, Nat.zero_le _, rfl, rfl, by simpa [marksFrom] using own2, hb2⟩
  case round =>
    obtain ⟨j, hj, rfl, rfl, own, hb⟩ := hrel
    clear own2 hb2
    by_cases hlt : j < 12
    · obtain ⟨mb1, mb2⟩ := mk8_bd 1 j
      go_wp2_with (first
        | (go_at_call 59; refine (markByte_any _ _ _ (by omega) (by omega) (by omega) (by omega)).mono ?_; rintro e w' ⟨rfl, rfl⟩)
        | (at_builtin; refine wpList_append_rd _ rfl _ _ _ rfl .u8 w.heap.size 5 i0 1 Tryd.underlying22 hi hz0 hz1 hz2 (some ⟨w.heap.size, 0, none⟩) (n + j) (n + 12) (zs ++ marksFrom 1 0 j) rfl (own.alloc _) (wr.heap.size + 1) (some ⟨wr.heap.size, 0, none⟩) 1 1 [mk8 1 j] rfl (RD.new' wr .u8 5 [mk8 1 j] rfl (by omega) rfl) (by simp only [maxLen]; omega) (by omega) (by have := hb.size; simp; omega) ?_; intro A3 c3 w3 happ))
      have hb3 : Below w.heap.size w w3 := (hb.alloc hb.size _).trans (happ.keepBelow (fun g hg => by simp at hg; omega) (by have := hb.size; simp; omega))
      have own3 := happ.own
      have hlies : A3 = some ⟨w.heap.size, 0, none⟩ ∧ c3 = n + 12 := by
        rcases happ.lies with hl | hl
        · exact hl
        · omega
      obtain ⟨rfl, rfl⟩ := hlies
      go_roundw
      case rel => exact ⟨j + 1, by omega, by go_num, rfl, by simpa [marksFrom, Nat.add_assoc] using own3, hb3⟩
      case measure => simp [intOf]; omega
    · obtain rfl : 12 = j := by omega
      have t1 : (n : Int) ≤ (n : Int) + 12 := by omega
      go_wp2_with fail
      go_ret
      exact ⟨_, n, rfl, HL.out.symm, own, hb⟩

set_option maxHeartbeats 4000000 in
set_option maxRecDepth 100000 in
theorem kept_any (A : Option Addr) (n : Nat) (zs : List Int) (B : Option Addr) (c : Nat) (w : World) (h : RD .u8 w w.heap.size B n zs) (h2 : RD .u8 w w.heap.size A (n + 12) (zs ++ marksFrom 1 0 12)) (hn : n ≤ 140737488351232) :
    Calls Tryd.prog 34 #[.slice A n (n + 12), .slice B n c] w fun e w' => e = .returned (.bool true) ∧ ∃ m, w' = w.drewN m := by
  have HL := Lib.hid h.1
  have t0 : ((n : Int) != (n : Int)) = false := by simp
  go_enter Tryd.func34, Tryd.ntmps34
  go_wp2_with fail
  go_loopw [6] (fun i wr => ∃ k : Nat, k ≤ n + 12 ∧ i = .int .i64 k ∧ ∃ m, wr = w.drewN m) (fun i _ => n + 12 - (intOf i).toNat)
  case atStart => exact ⟨0, Nat.zero_le _, rfl, 0, rfl⟩
  case round =>
    obtain ⟨k, hk, rfl, m, rfl⟩ := hrel
    by_cases hlt : k < n + 12
    · obtain ⟨b2, o2, rfl, hb2, hc2⟩ := h2.2 (by omega)
      have x2 := hc2 k hlt
      clear hc2
      have i1 : (0 : Int) ≤ (k : Int) := by omega
      have i2 : (k : Int) < (n : Int) + 12 := by omega
      by_cases hkn : k < n
      · obtain ⟨b1, o1, rfl, hb1, hc1⟩ := h.2 (by omega)
        have x1 := hc1 k hkn
        clear hc1
        rw [List.getElem?_append_left (by rw [HL.out]; exact hkn)] at x2
        have d1 : decide ((k : Int) < (n : Int)) = true := by simp; omega
        have d2 : decide ((n : Int) ≤ (k : Int)) = false := by simp; omega
        have d3 : decide (n ≤ k) = false := by simp; omega
        have d4 : decide (k < n) = true := by simp; omega
        have i3 : (k : Int) < (n : Int) := by omega
        have e0 : (zs[k]?.getD 0 == zs[k]?.getD 0) = true := by simp
        go_wp2_with fail
        go_quiet (fail)
        go_wp2_with fail
        go_roundw
        case rel => exact ⟨k + 1, by omega, by go_num, _, rfl⟩
        case measure => simp [intOf]; omega
      · rw [List.getElem?_append_right (by rw [HL.out]; omega), HL.out, marksFrom_get 1 0 12 (k - n) (by omega), Nat.zero_add] at x2
        have d1 : decide ((k : Int) < (n : Int)) = false := by simp; omega
        have d2 : decide ((n : Int) ≤ (k : Int)) = true := by simp; omega
        have d3 : decide (n ≤ k) = true := by simp; omega
        have d4 : decide (k < n) = false := by simp; omega
        have d5 : n ≤ k := by omega
        have i4 : IntKind.i64.wrap ((k : Int) - (n : Int)) = (k : Int) - (n : Int) := IntWalk.i64_in _ (by omega)
        rw [show ((k - n : Nat) : Int) = (k : Int) - (n : Int) from by omega] at x2
        have e0 : (mk8 1 ((k : Int) - (n : Int)) == mk8 1 ((k : Int) - (n : Int))) = true := by simp
        go_wp2_with fail
        go_quiet ((go_at_call 59; exact quiet_of_left (markByte_any _ _ _ (by omega) (by omega) (by omega) (by omega))))
        go_wp2_with fail
        go_roundw
        case rel => exact ⟨k + 1, by omega, by go_num, _, rfl⟩
        case measure => simp [intOf]; omega
    · go_wp2_with fail
      go_ret
      exact ⟨rfl, _, rfl⟩
end Go.Proofs.YtjbkfhdbgphodaaDoor
