/- csum.Update32: two words replaced. -/
import Derived.Test.YtfaihaooompojaaWCsum
import Derived.Deep.RegionHeld3
import Derived.Deep.RegionLaw
namespace Go.Proofs.Ytfaihaooompojaa
open Go.RowKit
set_option linter.unusedVariables false

/-- what a half of Update32 leaves -/
def Halved (w : World) (p : Nat) (x : Int) (e : Ending) (w' : World) : Prop := (∃ v, e = .returned v) ∧ ∃ w1, Below w.heap.size w w1 ∧ w' = w1.setCell ⟨p, 0, none⟩ (.int .u16 x)

set_option maxHeartbeats 4000000 in
theorem half16 (a b c : Int) (p q r : Nat) (w : World) (ha : 0 ≤ a) (ha' : a ≤ 65535) (hb : 0 ≤ b) (hb' : b ≤ 4294967295) (hc : 0 ≤ c) (hc' : c ≤ 4294967295)
    (h1 : w.cell? ⟨p, 0, none⟩ = some (.int .u16 a)) (h2 : w.cell? ⟨q, 0, none⟩ = some (.int .u32 b)) (h3 : w.cell? ⟨r, 0, none⟩ = some (.int .u32 c)) (hf : w.frozen? ⟨p, 0, none⟩ = false) (hp : p < w.heap.size) (hq : q < w.heap.size) (hr : r < w.heap.size) :
    Calls Try.prog 45 #[.int .i64 16, .pointer (some ⟨p, 0, none⟩), .pointer (some ⟨q, 0, none⟩), .pointer (some ⟨r, 0, none⟩)] w (Halved w p (upd a (b / 65536) (c / 65536))) := by
  have e1 := u16_in (b / 65536) (by omega) (by omega)
  have e2 := u16_in (c / 65536) (by omega) (by omega)
  go_enter Try.func45, Try.ntmps45
  go_wp2_with fail
  go_region_with
    ((go_at_call 24; refine (update_any _ _ _ _ ?_ ?_ ?_ ?_ ?_ ?_).mono ?_; omega; omega; omega; omega; omega; omega; rintro e w1 ⟨rfl, hb1⟩; have k1 := hb1.cell (p := ⟨p, 0, none⟩) hp; have k2 := hb1.cell (p := ⟨q, 0, none⟩) hq; have k3 := hb1.cell (p := ⟨r, 0, none⟩) hr; have k4 := hb1.frozen (p := ⟨p, 0, none⟩) hp))
  all_goals (go_end0; exact ⟨⟨_, rfl⟩, w1, (Below.refl _ w).drew.trans hb1, rfl⟩)

set_option maxHeartbeats 4000000 in
theorem half0 (a b c : Int) (p q r : Nat) (w : World) (ha : 0 ≤ a) (ha' : a ≤ 65535) (hb : 0 ≤ b) (hb' : b ≤ 4294967295) (hc : 0 ≤ c) (hc' : c ≤ 4294967295)
    (h1 : w.cell? ⟨p, 0, none⟩ = some (.int .u16 a)) (h2 : w.cell? ⟨q, 0, none⟩ = some (.int .u32 b)) (h3 : w.cell? ⟨r, 0, none⟩ = some (.int .u32 c)) (hf : w.frozen? ⟨p, 0, none⟩ = false) (hp : p < w.heap.size) (hq : q < w.heap.size) (hr : r < w.heap.size) :
    Calls Try.prog 45 #[.int .i64 0, .pointer (some ⟨p, 0, none⟩), .pointer (some ⟨q, 0, none⟩), .pointer (some ⟨r, 0, none⟩)] w (Halved w p (upd a (b % 65536) (c % 65536))) := by
  have e1 := u16_mod b
  have e2 := u16_mod c
  go_enter Try.func45, Try.ntmps45
  go_wp2_with fail
  go_region_with
    ((go_at_call 24; refine (update_any _ _ _ _ ?_ ?_ ?_ ?_ ?_ ?_).mono ?_; omega; omega; omega; omega; omega; omega; rintro e w1 ⟨rfl, hb1⟩; have k1 := hb1.cell (p := ⟨p, 0, none⟩) hp; have k2 := hb1.cell (p := ⟨q, 0, none⟩) hq; have k3 := hb1.cell (p := ⟨r, 0, none⟩) hr; have k4 := hb1.frozen (p := ⟨p, 0, none⟩) hp))
  all_goals (go_end0; exact ⟨⟨_, rfl⟩, w1, (Below.refl _ w).drew.trans hb1, rfl⟩)

set_option maxHeartbeats 400000 in
theorem update32_any (a b c : Int) (w : World) (ha : 0 ≤ a) (ha' : a ≤ 65535) (hb : 0 ≤ b) (hb' : b ≤ 4294967295) (hc : 0 ≤ c) (hc' : c ≤ 4294967295) :
    Calls Try.prog 26 #[.int .u16 a, .int .u32 b, .int .u32 c] w fun e w' => e = .returned (.int .u16 (upd (upd a (b / 65536) (c / 65536)) (b % 65536) (c % 65536))) ∧ Below w.heap.size w w' := by
  go_enter Try.func26, Try.ntmps26
  go_wp2_with fail
  refine (half16 a b c w.heap.size (w.heap.size + 1) (w.heap.size + 1 + 1) _ ha ha' hb hb' hc hc' (by simp [go_sem]) (by simp [go_sem]) (by simp [go_sem]) (by simp [go_sem]) (by simp; omega) (by simp) (by simp)).mono ?_
  rintro e w' ⟨⟨v, rfl⟩, w1, hb1, rfl⟩
  have hz1 := hb1.size
  simp at hz1
  have c1 := hb1.cell (p := ⟨w.heap.size, 0, none⟩) (by simp; omega)
  have c2 := hb1.cell (p := ⟨w.heap.size + 1, 0, none⟩) (by simp)
  have c3 := hb1.cell (p := ⟨w.heap.size + 1 + 1, 0, none⟩) (by simp)
  have f1 := hb1.frozen (p := ⟨w.heap.size, 0, none⟩) (by simp; omega)
  have HB : Below w.heap.size w w1 := ((((Below.refl _ w).alloc (Nat.le_refl _) _).alloc (by simp) _).alloc (by simp; omega) _).trans (hb1.mono (by simp; omega))
  obtain ⟨hu1, hu2⟩ := upd_bd (a := a) (b := b / 65536) (c := c / 65536) ha ha' (by omega) (by omega) (by omega) (by omega)
  simp [go_sem] at c1 c2 c3 f1
  clear hb1
  go_wp2_with fail
  refine (half0 (upd a (b / 65536) (c / 65536)) b c w.heap.size (w.heap.size + 1) (w.heap.size + 1 + 1) _ hu1 hu2 hb hb' hc hc' (World.cell?_setCell_same' _ _ _ (by rw [c1]; rfl)) ((World.cell?_setCell_other _ _ _ _ (by simp)).trans c2) ((World.cell?_setCell_other _ _ _ _ (by simp)).trans c3) (by rw [World.frozen?_setCell]; exact f1) (by simp [World.setCell]; omega) (by simp [World.setCell]; omega) (by simp [World.setCell]; omega)).mono ?_
  rintro e w' ⟨⟨v2, rfl⟩, w2, hb2, rfl⟩
  have c4 := hb2.cell (p := ⟨w.heap.size, 0, none⟩) (by simp [World.setCell]; omega)
  have HB2 : Below w.heap.size w w2 := (HB.setCell (p := ⟨w.heap.size, 0, none⟩) (Nat.le_refl _) _).trans (hb2.mono (by simp [World.setCell]; omega))
  have c5 : (w2.setCell ⟨w.heap.size, 0, none⟩ (.int .u16 (upd (upd a (b / 65536) (c / 65536)) (b % 65536) (c % 65536)))).cell? ⟨w.heap.size, 0, none⟩ = some (.int .u16 (upd (upd a (b / 65536) (c / 65536)) (b % 65536) (c % 65536))) :=
    World.cell?_setCell_same' _ _ _ (by rw [c4, World.cell?_setCell_same' _ _ _ (by rw [c1]; rfl)]; rfl)
  clear hb2 c4 c1 c2 c3 f1
  go_wp2_with fail
  go_ret
  exact ⟨rfl, HB2.setCell (p := ⟨w.heap.size, 0, none⟩) (Nat.le_refl _) _⟩
end Go.Proofs.Ytfaihaooompojaa
