import Derived.Test.YtcipgkpcaecjdaaWAwake1
import Derived.Test.YtcipgkpcaecjdaaWireP2
import Derived.Test.YtcipgkpcaecjdaaWSlices
/- bafflelaw01.WireOne. -/
namespace Go.Proofs.Ytcipgkpcaecjdaa
open Go.RowKit
set_option linter.unusedVariables false
set_option linter.unusedSimpArgs false

set_option maxHeartbeats 1000000 in
set_option maxRecDepth 100000 in
theorem wireOne_walk (A : Option Addr) (n c : Nat) (zs : List Int) (s : ByteArray) (w : World) (h : ROW .u8 255 w A n c zs) (hs0 : s.size ≤ maxLen) :
    Calls Try.prog 8 #[.slice A n c, .string s] w fun e w' => e = .returned (.bool true) ∧ Below w.heap.size w w' := by
  have hs : s.size ≤ 9223372036854775807 := by simpa [maxLen] using hs0
  have hnc := h.le
  have hcm := h.cap
  unfold maxLen at hcm
  obtain ⟨k, hk, hk2, hkn⟩ : ∃ k : Nat, min (n : Int) 2000 = (k : Int) ∧ k ≤ 2000 ∧ k ≤ n := by
    by_cases h : 2000 < n
    · exact ⟨2000, by omega, by omega, by omega⟩
    · exact ⟨n, by omega, by omega, by omega⟩
  have R := Lib.hid (fun (W : World) (hb : Below w.heap.size w W) => (show RD .u8 W W.heap.size A k (zs.take k) from ((h.rd.below hb).more hb.size).take hkn))
  have HZ := Lib.hid (show BD 255 (zs.take k) from h.bd.take k)
  obtain ⟨bs, hbs⟩ : ∃ bs, zs.take k = bs := ⟨_, rfl⟩
  rw [hbs] at R HZ
  have hbl : bs.length = k := (R.out _ (Below.refl _ _)).len
  have HH := Lib.hid (show HEXs bs = hexS bs ∧ HEXe bs = 0 from ⟨by unfold HEXs; rw [if_neg (by omega)], by unfold HEXe; rw [if_neg (by omega)]⟩)
  have HSZ := Lib.hid (show (hexS bs).size = 2 * k by rw [hexS_size, hbl])
  have HUN := Lib.hid (unh_hex HZ.out (by omega))
  obtain ⟨t, ht⟩ : ∃ t, hexS bs = t := ⟨_, rfl⟩
  rw [ht] at HH HSZ HUN
  have hts := HSZ.out
  have u1 : (0 : Int) ≤ (k : Int) := by omega
  have u2 : (k : Int) ≤ (c : Int) := by omega
  have e1 : IntKind.i64.wrap (2 * (k : Int)) = 2 * (k : Int) := IntWalk.i64_in _ (by omega)
  have e2 : IntKind.i64.wrap (0 : Int) = 0 := IntWalk.i64_in _ (by omega)
  have e3 : (t.size : Int) = 2 * (k : Int) := by omega
  have e4 : ((2 * (k : Int)) != (2 * (k : Int))) = false := by simp
  clear h hbs ht hs0
  go_enter Try.func8, Try.ntmps8
  go_wp2_with fail
  refine (awake1_any _).mono ?_
  rintro e w1 ⟨rfl, hb1⟩
  have B1 := Lib.hid hb1
  clear hb1
  go_wp2_with fail
  refine (hex_any A k c bs _ (R.out _ B1.out) HZ.out (by omega) (by omega)).mono ?_
  rintro e w2 ⟨rfl, hb2⟩
  rw [HH.out.1, HH.out.2]
  have B2 := Lib.hid (B1.out.trans (hb2.mono B1.out.size))
  clear hb2
  go_wp2_with fail
  refine (unhex_any t _ (by omega)).mono ?_
  rintro e w3 ⟨Ax, nx, cx, rfl, ho3, hb3⟩
  rw [HUN.out] at ho3 ⊢
  have hnx : nx = k := by rw [← ho3.len, hbl]
  subst hnx
  have X3 := Lib.hid (((SP.start w).next B2.out).pushOwn hb3 ho3)
  clear ho3 hb3 hts
  go_wp2_with fail
  refine (equal_any Ax A nx cx nx c bs bs _ (X3.out.rd 0 rfl) (R.out _ X3.out.bel) (by omega) (by omega)).mono ?_
  rintro e w4 ⟨rfl, m4, hw4⟩
  have B4 := Lib.hid (show Below w.heap.size w w4 by rw [hw4]; exact (X3.out.drewN m4).bel)
  rw [show (bs == bs) = true from beq_self_eq_true bs]
  clear hw4 X3 hk u1 u2 e1 e2 e3 e4
  go_wp2_with fail
  refine (unhex_any s _ hs).mono ?_
  rintro e w5 ⟨Ay, ny, cy, rfl, ho5, hb5⟩
  have hor := unh_err s
  have hny := ho5.len
  obtain ⟨z, hz⟩ : ∃ z, (UNH s).1 = z := ⟨_, rfl⟩
  obtain ⟨er, her⟩ : ∃ er, (UNH s).2 = er := ⟨_, rfl⟩
  rw [hz] at hor ho5 hny
  rw [her] at hor ⊢
  have HUP := Lib.hid (show UNH s = (z, er) from Prod.ext hz her)
  have X5 := Lib.hid (((SP.start w).next B4.out).pushOwn hb5 ho5)
  clear hz her ho5 hb5
  rcases hor with rfl | ⟨rfl, rfl | ⟨rfl, hbig⟩⟩
  · obtain ⟨q1, q2, q3⟩ := hex_unh HUP.out
    have HS := Lib.hid (show HEXs z = s ∧ HEXe z = 0 from ⟨by unfold HEXs; rw [if_neg (by omega)]; exact q1, by unfold HEXe; rw [if_neg (by omega)]⟩)
    have hle := (X5.out.own 0 rfl).le
    have HQ3 := Lib.hid q3
    clear q1 q3
    go_wp2_with fail
    refine (hex_any Ay ny cy z _ (X5.out.rd 0 rfl) HQ3.out hle.1 (by omega)).mono ?_
    rintro e w6 ⟨rfl, hb6⟩
    rw [HS.out.1, HS.out.2]
    have B6 := Lib.hid (X5.out.next hb6).bel
    clear hb6
    go_wp2_with fail
    go_ret
    exact ⟨rfl, B6.out⟩
  · obtain rfl : ny = 0 := by rw [← hny]; rfl
    go_wp2_with fail
    go_ret
    exact ⟨rfl, X5.out.bel⟩
  · obtain rfl : ny = 0 := by rw [← hny]; rfl
    have t1 : (262144 : Int) < (s.size : Int) := by omega
    go_wp2_with fail
    go_ret
    exact ⟨rfl, X5.out.bel⟩
end Go.Proofs.Ytcipgkpcaecjdaa
