/- slices.Clone and csum.Fix. -/
import Derived.Test.YtjbkfhdbgphodaaDoorWCsum
import Derived.Test.YtjbkfhdbgphodaaDoorOwn
import Derived.WalkSpells
namespace Go.Proofs.YtjbkfhdbgphodaaDoor
open Go.RowKit
set_option linter.unusedVariables false

theorem infoU8 : (Tryd.prog.info? 5).map (fun i => (i.zero, i.size, i.bytes)) = some (some (.int .u8 0), 1, 1) := by kernel_rfl

/-- what Clone leaves -/
def Fresh (w : World) (zs : List Int) (e : Ending) (w' : World) : Prop :=
  ∃ A n c, e = .returned (.slice A n c) ∧ OWN .u8 5 w' w.heap.size A n c zs ∧ Below w.heap.size w w'

set_option maxHeartbeats 400000 in
theorem clone_any (A : Option Addr) (n c : Nat) (zs : List Int) (w : World) (h : RD .u8 w w.heap.size A n zs) (hn : n ≤ 140737488355328) :
    Calls Tryd.prog 43 #[.slice A n c] w (Fresh w zs) := by
  have hnn : n = zs.length := h.1.symm
  subst hnn
  obtain ⟨i0, hi, hz0, hz1, hz2⟩ := info_parts infoU8
  have hnil := fun (W : World) a l c => Lib.run_eql_slice_nil (P := Tryd.prog) W 22 5 a l c 0 0 Tryd.underlying22
  rcases A with _ | ad
  · have hl : zs.length = 0 := by
      rcases Nat.eq_zero_or_pos zs.length with h1 | h1
      · exact h1
      · obtain ⟨b, off, h2, _⟩ := h.2 h1
        cases h2
    have hzn : zs = [] := List.length_eq_zero_iff.1 hl
    subst hzn
    go_enter Tryd.func43, Tryd.ntmps43
    go_wp2_with fail
    go_ret
    exact ⟨none, 0, 0, rfl, OWN.nil, Below.refl _ _⟩
  · go_enter Tryd.func43, Tryd.ntmps43
    go_wp2_with (at_builtin; refine wpList_append_rd _ rfl _ _ _ rfl .u8 w.heap.size 5 i0 1 Tryd.underlying22 hi hz0 hz1 hz2 (some ⟨w.heap.size, 0, none⟩) 0 0 [] rfl (OWN.lit w .u8 5 w.heap.size [] (Nat.le_refl _) (by simp)) w.heap.size _ _ _ zs rfl (h.alloc (Nat.le_refl _) _) (by simp [maxLen]; omega) (by omega) (by simp) ?_; intro A' c' w' happ)
    go_ret
    have hbel : Below w.heap.size w w' := ((Below.refl _ w).alloc (Nat.le_refl _) _).trans (happ.keepBelow (fun g hg => by simp at hg; omega) (by simp))
    have hown := happ.own
    rw [Nat.zero_add, List.nil_append] at hown
    exact ⟨A', _, c', rfl, hown, hbel⟩

/-- what Fix leaves -/
def Fixed (w : World) (zs : List Int) (e : Ending) (w' : World) : Prop :=
  ∃ A n c, e = .returned (.tuple #[.slice A n c, .int .i64 0]) ∧ OWN .u8 5 w' w.heap.size A n c zs ∧ Below w.heap.size w w'

set_option maxHeartbeats 400000 in
theorem fix_no (A : Option Addr) (n c : Nat) (at_ : Int) (w : World) (hn : n ≤ 140737488355328) (h64 : -9223372036854775808 ≤ at_ ∧ at_ ≤ 9223372036854775807) (h : at_ < 0 ∨ at_ % 2 = 1 ∨ (n : Int) < at_ + 2) :
    Calls Tryd.prog 39 #[.slice A n c, .int .i64 at_] w fun e w' => e = .returned (.tuple #[.slice none 0 0, .int .i64 2]) ∧ w = w' := by
  obtain ⟨h1, h2⟩ := h64
  by_cases h0 : at_ < 0
  · have h0' : decide (at_ < 0) = true := by simp [h0]
    go_enter Tryd.func39, Tryd.ntmps39
    go_wp2_with fail
    go_ret2
    exact ⟨rfl, rfl⟩
  · have h0' : 0 ≤ at_ := by omega
    by_cases hm : at_ % 2 = 1
    · have hm' : (at_ % 2 == 1) = true := by simp [hm]
      clear h
      go_enter Tryd.func39, Tryd.ntmps39
      go_wp2_with fail
      go_ret2
      exact ⟨rfl, rfl⟩
    · have hm' : (at_ % 2 == 1) = false := by simp [hm]
      have hl : (n : Int) - 2 < at_ := by omega
      clear h
      go_enter Tryd.func39, Tryd.ntmps39
      go_wp2_with fail
      go_ret2
      exact ⟨rfl, rfl⟩

theorem set_getD (zs : List Int) (i j : Nat) (x : Int) (h : i ≠ j) : (zs.set i x)[j]?.getD 0 = zs[j]?.getD 0 := by rw [List.getElem?_set_ne h]

set_option maxHeartbeats 400000 in
theorem fix_any (A : Option Addr) (n c : Nat) (zs : List Int) (q : Int) (p : Nat) (w : World) (h : RD .u8 w w.heap.size A n zs) (hz : BD 255 zs) (hn : n ≤ 140737488355328) (hq : q = p) (hp : p % 2 = 0) (hk : p + 2 ≤ n) :
    Calls Tryd.prog 39 #[.slice A n c, .int .i64 q] w (Fixed w (fixOf zs p)) := by
  subst hq
  have hl := h.1
  have hm' : ((p : Int) % 2 == 1) = false := by simp; omega
  have h0' : (0 : Int) ≤ (p : Int) := by omega
  have hl' : ¬ (n : Int) - 2 < (p : Int) := by omega
  go_enter Tryd.func39, Tryd.ntmps39
  go_wp2_with fail
  refine (clone_any A n c zs w h hn).mono ?_
  rintro e w1 ⟨A1, n1, c1, rfl, hown, hb1⟩
  obtain rfl : n = n1 := by have := hown.len; omega
  clear hl
  obtain ⟨g, rfl, hg1, hg2, hnc, hcm⟩ := hown.form (by omega)
  have x1 := hown.cell (i := p) (by omega)
  have x2 := hown.cell (i := p + 1) (by omega)
  have x3 := hown.frozen p
  have x4 := hown.frozen (p + 1)
  go_wp2_with fail
  have own2 : OWN .u8 5 ((w1.setCell ⟨g, p, none⟩ (.int .u8 0)).setCell ⟨g, p + 1, none⟩ (.int .u8 0)) w.heap.size (some ⟨g, 0, none⟩) n c1 (fixZ zs p) := hown.two p 0 0
  have hb2 : Below w.heap.size w ((w1.setCell ⟨g, p, none⟩ (.int .u8 0)).setCell ⟨g, p + 1, none⟩ (.int .u8 0)) := (hb1.setCell (p := ⟨g, p, none⟩) hg1 _).setCell (p := ⟨g, p + 1, none⟩) hg1 _
  generalize (w1.setCell ⟨g, p, none⟩ (.int .u8 0)).setCell ⟨g, p + 1, none⟩ (.int .u8 0) = w2 at own2 hb2 ⊢
  have hz2 : BD 255 (fixZ zs p) := put2_bd hz (by omega) (by omega)
  obtain ⟨hc1, hc2⟩ := fixC_bd hz p
  clear x1 x2 x3 x4 hown hb1 hg2
  refine (of_any _ n c1 (fixZ zs p) w2 own2.rd hz2 hn).mono ?_
  rintro e w3 ⟨rfl, hb3⟩
  have hb4 : Below w.heap.size w w3 := hb2.trans (hb3.mono hb2.size)
  have own3 := own2.below hb3
  rw [show 65535 - sumOf (fixZ zs p) = fixC zs p from rfl]
  clear own2 hb2 hb3 hz2
  have x1 := own3.cell (i := p) (by omega)
  have x2 := own3.cell (i := p + 1) (by omega)
  have x3 := own3.frozen p
  have x4 := own3.frozen (p + 1)
  have e1 := u8_in (fixC zs p / 256) (by omega) (by omega)
  have e2 := u8_mod (fixC zs p)
  go_wp2_with fail
  go_ret2
  exact ⟨some ⟨g, 0, none⟩, _, c1, rfl, (own3.stored p (fixC zs p / 256)).stored (p + 1) (fixC zs p % 256), (hb4.setCell (p := ⟨g, p, none⟩) hg1 _).setCell (p := ⟨g, p + 1, none⟩) hg1 _⟩
end Go.Proofs.YtjbkfhdbgphodaaDoor
