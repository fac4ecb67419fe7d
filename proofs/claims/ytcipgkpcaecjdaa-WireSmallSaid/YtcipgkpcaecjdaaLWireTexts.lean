import Derived.Test.YtcipgkpcaecjdaaWAwake1
import Derived.Test.YtcipgkpcaecjdaaWRef1
/- bafflelaw01.texts, WireTexts. -/
namespace Go.Proofs.Ytcipgkpcaecjdaa
open Go.RowKit
set_option linter.unusedVariables false
set_option linter.unusedSimpArgs false

set_option maxHeartbeats 1000000 in
set_option maxRecDepth 100000 in
theorem texts_any (A : Option Addr) (n c : Nat) (zs : List Int) (s : ByteArray) (w : World) (h : RD .u8 w w.heap.size A n zs) (hz : BD 255 zs) (hn : n ≤ c) (hb : n ≤ 140737488351232) (hs : s.size ≤ 9223372036854775807) :
    Calls Try.prog 12 #[.slice A n c, .string s] w fun e w' => e = .returned (.bool true) ∧ Below w.heap.size w w' := by
  have R := Lib.hid (fun (W : World) (hb : Below w.heap.size w W) => (show RD .u8 W W.heap.size A n zs from (h.below hb).more hb.size))
  have hl := h.len
  obtain ⟨th, hth⟩ : ∃ t, HEXs zs = t := ⟨_, rfl⟩
  obtain ⟨eh, heh⟩ : ∃ t, HEXe zs = t := ⟨_, rfl⟩
  obtain ⟨uz, huz⟩ : ∃ t, (UNH s).1 = t := ⟨_, rfl⟩
  obtain ⟨ue, hue⟩ : ∃ t, (UNH s).2 = t := ⟨_, rfl⟩
  have HUL := Lib.hid (show uz.length ≤ 140737488355328 by
    rw [← huz]
    unfold UNH
    split
    · simp
    · rename_i hbg
      cases hu : unL (SB s) with
      | none => simp
      | some l =>
        have := unL_len _ _ _ (Nat.le_refl _) hu
        rw [SB_len] at this
        show l.length ≤ _
        omega)
  have HT := Lib.hid (And.intro hth heh)
  have HU := Lib.hid (And.intro huz hue)
  have HL := Lib.hid hl
  have HLENT := Lib.hid (lent_any A n c zs w h hb)
  clear h hl hth heh huz hue
  go_enter Try.func12, Try.ntmps12
  go_wp2_with fail
  refine HLENT.out.mono ?_
  rintro e w1 ⟨Al, m, rfl, hm, ho, hb1⟩
  obtain rfl : m = n := by rw [hm, HL.out]
  have X := Lib.hid ((SP.start w).pushOwn hb1 ho)
  have RL := Lib.hid (show ∀ W : World, Below w1.heap.size w1 W → RD .u8 W W.heap.size Al m zs from fun W hb => by
    have h1 := ((X.out.next hb).rd 0 rfl).take (m := m) (by omega)
    rw [List.take_left' HL.out] at h1
    exact h1)
  clear ho hb1 hm
  go_wp2_with fail
  refine (hex_any Al m (m + 12) zs _ (RL.out _ (Below.refl _ _)) hz (by omega) (by omega)).mono ?_
  rintro e w2 ⟨rfl, hb2⟩
  rw [HT.out.1, HT.out.2]
  have B2 := Lib.hid hb2
  clear hb2
  go_wp2_with fail
  refine (r1Hex_any A m c zs _ (R.out _ (X.out.next B2.out).bel) hz hn (by omega)).mono ?_
  rintro e w3 ⟨rfl, hb3⟩
  rw [HT.out.1, HT.out.2]
  have B3 := Lib.hid (B2.out.trans (hb3.mono B2.out.size))
  clear hb3 B2
  go_wp2_with fail
  refine (unhex_any s _ hs).mono ?_
  rintro e w4 ⟨Ax, nx, cx, rfl, ho4, hb4⟩
  rw [HU.out.1] at ho4
  rw [HU.out.2]
  have X4 := Lib.hid ((X.out.next B3.out).pushOwn hb4 ho4)
  have B4 := Lib.hid (B3.out.trans (hb4.mono B3.out.size))
  have hnx := ho4.len
  clear hb4 ho4 B3
  go_wp2_with fail
  refine (r1Unhex_any s _ hs).mono ?_
  rintro e w5 ⟨Ay, ny, cy, rfl, ho5, hb5⟩
  rw [HU.out.1] at ho5
  rw [HU.out.2]
  have X5 := Lib.hid (X4.out.pushOwn hb5 ho5)
  have B5 := Lib.hid (B4.out.trans (hb5.mono B4.out.size))
  have hny := ho5.len
  have HUL2 := HUL.out
  clear hb5 ho5 B4 X4
  have k2 : (eh == eh) = true := by simp
  have k3 : (ue == ue) = true := by simp
  have k4 : (uz == uz) = true := beq_self_eq_true uz
  go_wp2_with fail
  refine (kept_any Al m zs A c _ (R.out _ X5.out.bel) (by have := X5.out.rd 0 rfl; exact this) hb).mono ?_
  rintro e w6 ⟨rfl, m6, rfl⟩
  go_wp2_with fail
  refine (same_any Ax Ay nx cx ny cy uz uz _ ((X5.out.drewN m6).rd 1 rfl) ((X5.out.drewN m6).rd 2 rfl) (by omega) (by omega)).mono ?_
  rintro e w7 ⟨rfl, m7, rfl⟩
  rw [k4]
  go_wp2_with fail
  go_ret
  exact ⟨rfl, (X5.out.drewN _).bel⟩

set_option maxHeartbeats 1000000 in
theorem wireTexts_walk (A : Option Addr) (n c : Nat) (zs : List Int) (s : ByteArray) (w : World) (h : ROW .u8 255 w A n c zs) (hb : c ≤ 140737488351232) (hs : s.size ≤ maxLen) :
    Calls Try.prog 3 #[.slice A n c, .string s] w fun e w' => e = .returned (.bool true) ∧ Below w.heap.size w w' := by
  have hc := h.le
  have HT := Lib.hid (texts_any A n c zs s w h.rd h.bd h.le (by omega) (by simpa [maxLen] using hs))
  clear h
  go_enter Try.func3, Try.ntmps3
  go_wp2_with fail
  refine HT.out.mono ?_
  rintro e w1 ⟨rfl, hb1⟩
  have B1 := Lib.hid hb1
  clear hb1
  go_wp2_with fail
  refine (awake1_any _).mono ?_
  rintro e w2 ⟨rfl, hb2⟩
  have B2 := Lib.hid (B1.out.trans (hb2.mono B1.out.size))
  clear hb2
  go_wp2_with fail
  go_ret
  exact ⟨rfl, B2.out⟩
end Go.Proofs.Ytcipgkpcaecjdaa
