/- package icmp: Kind, word, Verify. -/
import Derived.Test.YtdepibljeopcgaaDoorIcP
import Derived.Test.YtdepibljeopcgaaDoorBase
import Derived.Test.YtdepibljeopcgaaDoorWBase
import Derived.Deep.QuietTactic
import Derived.BigQuiet
import Derived.Deep.DrawnRows
namespace Go.Proofs.YtdepibljeopcgaaDoor
open Go.RowKit
set_option linter.unusedVariables false
attribute [local go_sem ↓] Go.wp_at_zero Go.wp_at_succ

/-- the table of types, as the program's text lays it -/
def SORTS (w : World) : Prop := RD .u8 w w.heap.size (some ⟨3, 0, none⟩) 57 SORTZ
theorem SORTS.below {w w' : World} (h : SORTS w) (hb : Below w.heap.size w w') : SORTS w' := (RD.below h hb).more hb.size
theorem SORTS.cell {w : World} (h : SORTS w) {i : Nat} (hi : i < 57) : w.cell? ⟨3, i, none⟩ = some (.int .u8 (SORTZ[i]?.getD 0)) := by
  obtain ⟨b, off, h1, _, h2⟩ := h.2 (by omega)
  simp at h1
  obtain ⟨rfl, rfl⟩ := h1
  have := h2 i hi
  rwa [Nat.zero_add] at this

set_option maxHeartbeats 1000000 in
set_option maxRecDepth 100000 in
theorem kind_any (t : Nat) (c : Int) (w : World) (ht : t ≤ 255) (hc : 0 ≤ c ∧ c ≤ 255) (hS : SORTS w) :
    Calls Tryd.prog 13 #[.int .u8 (t : Int), .int .u8 c] w fun e w' => e = .returned (.tuple #[.int .u8 (kK t c), .int .i64 (kE t c)]) ∧ w = w' := by
  obtain ⟨c0, c1⟩ := hc
  by_cases h19 : 19 ≤ t
  · have i1 : (19 : Int) ≤ (t : Int) := by omega
    have hk : kE t c = 101 := by unfold kE; rw [if_pos (sKind_big h19)]
    have hkk : kK t c = 0 := by unfold kK; rw [if_neg (by rw [hk]; decide)]
    have HK := Lib.hid (And.intro hk hkk)
    clear hk hkk hS
    go_enter Tryd.func13, Tryd.ntmps13
    go_wp2_with fail
    go_ret2
    exact ⟨by rw [HK.out.1, HK.out.2]; rfl, rfl⟩
  · have i1 : ¬ (19 : Int) ≤ (t : Int) := by omega
    have i2 : (t : Int) < 19 := by omega
    have x0 : w.cell? ⟨3, t * 3, none⟩ = some (.int .u8 (sKind t)) := by
      have := hS.cell (i := t * 3) (by omega)
      rw [this]; unfold sKind; rw [Nat.mul_comm]
    have x1 : w.cell? ⟨3, t * 3 + 1, none⟩ = some (.int .u8 (sCode t)) := by
      have := hS.cell (i := t * 3 + 1) (by omega)
      rw [this]; unfold sCode; rw [Nat.mul_comm]
    obtain ⟨k0, k1⟩ : 0 ≤ sKind t ∧ sKind t ≤ 18 := SORTZ_bd.get (by omega) _
    obtain ⟨d0, d1⟩ : 0 ≤ sCode t ∧ sCode t ≤ 18 := SORTZ_bd.get (by omega) _
    by_cases hk0 : sKind t = 0
    · have hk : kE t c = 101 := by unfold kE; rw [if_pos hk0]
      have hkk : kK t c = 0 := by unfold kK; rw [if_neg (by rw [hk]; decide)]
      have HK := Lib.hid (And.intro hk hkk)
      have t0 : (sKind t == 0) = true := by simp [hk0]
      clear hk hkk hS hk0
      go_enter Tryd.func13, Tryd.ntmps13
      go_wp2_with fail
      go_ret2
      exact ⟨by rw [HK.out.1, HK.out.2]; rfl, rfl⟩
    · have t0 : (sKind t == 0) = false := by simp [hk0]
      by_cases hc2 : sCode t < c
      · have hk : kE t c = 102 := by unfold kE; rw [if_neg hk0, if_pos hc2]
        have hkk : kK t c = 0 := by unfold kK; rw [if_neg (by rw [hk]; decide)]
        have HK := Lib.hid (And.intro hk hkk)
        clear hk hkk hS hk0
        go_enter Tryd.func13, Tryd.ntmps13
        go_wp2_with fail
        go_ret2
        exact ⟨by rw [HK.out.1, HK.out.2]; rfl, rfl⟩
      · have hk : kE t c = 0 := by unfold kE; rw [if_neg hk0, if_neg hc2]
        have hkk : kK t c = sKind t := by unfold kK; rw [if_pos hk]
        have HK := Lib.hid (And.intro hk hkk)
        clear hk hkk hS hk0
        go_enter Tryd.func13, Tryd.ntmps13
        go_wp2_with fail
        go_ret2
        exact ⟨by rw [HK.out.1, HK.out.2]; rfl, rfl⟩

set_option maxHeartbeats 1000000 in
set_option maxRecDepth 100000 in
/-- word, at an index (the slice is cut there) -/
theorem icword_any (A : Option Addr) (n c : Nat) (zs : List Int) (w : World) (h : RD .u8 w w.heap.size A n zs) (hz : BD 255 zs) (h2 : 2 ≤ n) :
    Calls Tryd.prog 24 #[.slice A n c] w fun e w' => e = .returned (.int .u16 (wordAt zs 0)) ∧ ∃ m, w' = w.drewN m := by
  obtain ⟨b, off, rfl, hb, hc⟩ := h.2 (by omega)
  have x1 : w.cell? ⟨b, off, none⟩ = some (.int .u8 (zs[0]?.getD 0)) := hc 0 (by omega)
  have x2 := hc 1 (by omega)
  obtain ⟨z1, z1'⟩ := hz.get (by omega) 0
  obtain ⟨z2, z2'⟩ := hz.get (by omega) 1
  have hw : wordAt zs 0 = zs[0]?.getD 0 * 256 + zs[1]?.getD 0 := rfl
  rw [hw]
  generalize zs[0]?.getD 0 = u at *
  generalize zs[1]?.getD 0 = v at *
  clear hc hw
  have i1 : (0 : Int) < (n : Int) := by omega
  have i2 : (1 : Int) < (n : Int) := by omega
  have i3 : 0 < n := by omega
  have e1 : IntKind.u16.wrap u = u := u16_in _ (by omega) (by omega)
  have e2 : IntKind.u16.wrap (u * 256) = u * 256 := u16_in _ (by omega) (by omega)
  have e3 : IntKind.u16.wrap v = v := u16_in _ (by omega) (by omega)
  have e4 : bits .or .u16 (u * 256) v = u * 256 + v := u16_or_low _ _ (by omega) (by omega) (by omega) (by omega)
  go_enter Tryd.func24, Tryd.ntmps24
  go_wp2_with fail
  go_quiet (fail)
  go_wp2_with fail
  go_ret
  exact ⟨rfl, _, rfl⟩

set_option maxHeartbeats 400000 in
theorem icverify_any (A : Option Addr) (n c : Nat) (zs : List Int) (w : World) (h : RD .u8 w w.heap.size A n zs) (hz : BD 255 zs) (hn : n ≤ 140737488355328) :
    Calls Tryd.prog 15 #[.slice A n c] w fun e w' => e = .returned (.bool (icV zs)) ∧ Below w.heap.size w w' := by
  have hl := h.len
  by_cases h8 : 8 ≤ n
  · have i8 : (8 : Int) ≤ (n : Int) := by omega
    have HV := Lib.hid (show icV zs = (sumOf zs == 65535) by unfold icV; rw [hl, decide_eq_true h8]; simp)
    clear hl
    go_enter Tryd.func15, Tryd.ntmps15
    go_wp2_with fail
    refine (right_any A n c zs w h hz hn).mono ?_
    rintro e w' ⟨rfl, hb⟩
    rw [← HV.out]
    obtain ⟨v, hv⟩ : ∃ v, v = icV zs := ⟨_, rfl⟩
    have HVV := Lib.hid hv
    rw [← hv]
    clear hv
    cases v
    all_goals
      go_wp2_with fail
      go_ret
      exact ⟨by rw [← HVV.out]; rfl, hb⟩
  · have i8 : ¬ (8 : Int) ≤ (n : Int) := by omega
    have HV := Lib.hid (show icV zs = false by unfold icV; rw [hl, decide_eq_false h8]; rfl)
    clear hl
    go_enter Tryd.func15, Tryd.ntmps15
    go_wp2_with fail
    go_ret
    exact ⟨by rw [HV.out]; rfl, Below.refl _ _⟩
end Go.Proofs.YtdepibljeopcgaaDoor
