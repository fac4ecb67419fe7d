import Derived.Test.YtcipgkpcaecjdaaWAwake1
import Derived.Test.YtcipgkpcaecjdaaWSlices
import Derived.Deep.RegionHeld3
/- bafflelaw01.WireSets. -/
namespace Go.Proofs.Ytcipgkpcaecjdaa
open Go.RowKit
set_option linter.unusedVariables false
set_option linter.unusedSimpArgs false

theorem set2_take (zs : List Int) (p : Nat) (a b : Int) : ((zs.set p a).set (p + 1) b).take p = zs.take p := by
  apply List.ext_getElem?
  intro i
  rw [List.getElem?_take, List.getElem?_take]
  split
  · rw [List.getElem?_set_ne (by omega), List.getElem?_set_ne (by omega)]
  · rfl
theorem set2_drop (zs : List Int) (p : Nat) (a b : Int) : ((zs.set p a).set (p + 1) b).drop (p + 2) = zs.drop (p + 2) := by
  apply List.ext_getElem?
  intro i
  rw [List.getElem?_drop, List.getElem?_drop, List.getElem?_set_ne (by omega), List.getElem?_set_ne (by omega)]
theorem set2_mid (zs : List Int) (p : Nat) (a b : Int) (h : p + 2 ≤ zs.length) : (((zs.set p a).set (p + 1) b).drop p).take 2 = [a, b] := by
  apply List.ext_getElem?
  intro i
  rw [List.getElem?_take, List.getElem?_drop]
  rcases (show i = 0 ∨ i = 1 ∨ 2 ≤ i by omega) with rfl | rfl | hi
  · rw [if_pos (by omega), List.getElem?_set_ne (by omega), Nat.add_zero, List.getElem?_set_self (by omega)]; rfl
  · rw [if_pos (by omega), List.getElem?_set_self (by rw [List.length_set]; omega)]; rfl
  · rw [if_neg (by omega)]
    rw [List.getElem?_eq_none (by simp; omega)]

set_option maxHeartbeats 2000000 in
set_option maxRecDepth 100000 in
theorem wireSets_walk (A : Option Addr) (n c : Nat) (zs : List Int) (q v : Int) (w : World) (h : ROW .u8 255 w A n c zs) (hq : -9223372036854775808 ≤ q ∧ q ≤ 9223372036854775807) (hv : 0 ≤ v ∧ v ≤ 65535) :
    Calls Try.prog 9 #[.slice A n c, .int .i64 q, .int .u16 v] w fun e w' => e = .returned (.bool true) ∧ Below w.heap.size w w' := by
  obtain ⟨i0, hi, hz0, hz1, hz2⟩ := info_parts infoU8
  have hnc := h.le
  have hcm := h.cap
  unfold maxLen at hcm
  obtain ⟨k, hk, hk2, hkn⟩ : ∃ k : Nat, min (n : Int) 2000 = (k : Int) ∧ k ≤ 2000 ∧ k ≤ n := by
    by_cases h : 2000 < n
    · exact ⟨2000, by omega, by omega, by omega⟩
    · exact ⟨n, by omega, by omega, by omega⟩
  have R := Lib.hid (fun (W : World) (hb : Below w.heap.size w W) => (show RD .u8 W W.heap.size A k (zs.take k) from ((h.rd.below hb).more hb.size).take hkn))
  have HZ := Lib.hid (show BD 255 (zs.take k) from h.bd.take k)
  obtain ⟨bs, hbs⟩ : ∃ bs, zs.take k = bs := ⟨_, rfl⟩
  rw [hbs] at R HZ
  have hbl : bs.length = k := (R.out _ (Below.refl _ _)).len
  have u1 : (0 : Int) ≤ (k : Int) := by omega
  have u2 : (k : Int) ≤ (c : Int) := by omega
  clear h hbs
  go_enter Try.func9, Try.ntmps9
  go_wp2_with fail
  refine (awake1_any _).mono ?_
  rintro e w1 ⟨rfl, hb1⟩
  have X1 := Lib.hid ((SP.start w).next hb1)
  clear hb1
  have HNW := Lib.hid (newWriter_any X1.out 2000 (by omega))
  go_wp2_with fail
  refine HNW.out.mono ?_
  rintro e w2 ⟨W, rfl, hS⟩
  have X2 := Lib.hid (show SP w w2 [.own .u8 5 none 0 0 [], .blk W 71 (wcells W 2000 none 0 0 false)] from hS)
  clear hS HNW X1
  go_wp2_with fail
  refine (wBytes_any X2.out (i := 1) (j := 0) rfl rfl (by decide) (by decide) (by decide) A k c bs (R.out _ X2.out.bel) (by omega)).mono ?_
  rintro e w3 ⟨rfl, B, n3, c3, hS⟩
  have hok : wrOk 2000 0 false (k : Int) = true := by unfold wrOk; simp; omega
  rw [hok, show wrB 2000 [] false bs = bs by unfold wrB; rw [hbl]; simp [hok]] at hS
  obtain rfl : n3 = k := by rw [← (hS.own 0 rfl).len, hbl]
  have X3 := Lib.hid (show SP w w3 [.own .u8 5 B n3 c3 bs, .blk W 71 (wcells W 2000 B n3 c3 false)] from hS)
  clear hS X2 hok
  go_wp2_with fail
  refine (wSet16_any X3.out (i := 1) (j := 0) rfl rfl (by decide) (by omega) (by decide) q hq v hv).mono ?_
  rintro e w4 ⟨rfl, hS⟩
  have X4 := Lib.hid (show SP w w4 [.own .u8 5 B n3 c3 (stB bs false q v), .blk W 71 (wcells W 2000 B n3 c3 (stF n3 false q))] from hS)
  clear hS X3
  go_wp2_with fail
  refine (wDone_any X4.out (i := 1) (j := 0) rfl rfl (by omega)).mono ?_
  rintro e w5 ⟨A5, n5, c5, rfl, hS⟩
  have X5 := Lib.hid (show SP w w5 [.own .u8 5 B n3 c3 (stB bs false q v), .blk W 71 (wcells W 2000 B n3 c3 (stF n3 false q)), .own .u8 5 A5 n5 c5 (dnB (stB bs false q v) (stF n3 false q))] from hS)
  clear hS X4 hk
  have e0 : IntKind.i64.wrap ((n3 : Int) - 2) = (n3 : Int) - 2 := IntWalk.i64_in _ (by omega)
  obtain ⟨t, ht⟩ : ∃ t, (n3 : Int) - 2 = t := ⟨_, rfl⟩
  rw [ht] at e0
  by_cases hbad : q < 0 ∨ t < q
  · have hF : stF n3 false q = true := by unfold stF stOk; simp; omega
    rw [hF] at X5 ⊢
    rw [show dnE true = 4 from rfl]
    clear hF
    have HWL := Lib.hid (fun W' hs => wLen_any (w0 := w) (w := W') (i := 1) (L := [.own .u8 5 B n3 c3 (stB bs false q v), .blk W 71 (wcells W 2000 B n3 c3 true), .own .u8 5 A5 n5 c5 (dnB (stB bs false q v) true)]) (W := W) (lim := 2000) (B := B) (n := n3) (c := c3) (f := true) hs rfl)
    by_cases h0 : q < 0
    · clear hbad
      go_wp2_with fail
      refine (HWL.out _ X5.out).mono ?_
      rintro e w6 ⟨rfl, hS⟩
      have X6 := Lib.hid hS
      clear hS
      go_wp2_with fail
      go_ret
      exact ⟨rfl, X6.out.bel⟩
    · have h1 : t < q := by omega
      clear hbad
      go_wp2_with fail
      refine (HWL.out _ X5.out).mono ?_
      rintro e w6 ⟨rfl, hS⟩
      have X6 := Lib.hid hS
      clear hS
      go_wp2_with fail
      go_ret
      exact ⟨rfl, X6.out.bel⟩
  have h0 : ¬ q < 0 := by omega
  have h1 : ¬ t < q := by omega
  obtain ⟨p, rfl⟩ := Int.eq_ofNat_of_zero_le (show 0 ≤ q by omega)
  have hp2 : p + 2 ≤ n3 := by omega
  have hF : stF n3 false (p : Int) = false := by unfold stF stOk; simp; omega
  have HE := Lib.hid (show stB bs false (p : Int) v = (bs.set p (v / 256)).set (p + 1) (v % 256) by unfold stB stOk; rw [if_pos (by simp; omega), Int.toNat_natCast])
  obtain ⟨ys, hys⟩ : ∃ ys, (bs.set p (v / 256)).set (p + 1) (v % 256) = ys := ⟨_, rfl⟩
  have hyl : ys.length = n3 := by rw [← hys]; simp [hbl]
  have HBY := Lib.hid (show BD 255 ys by rw [← hys]; exact bd_set1 (bd_set1 HZ.out _ (by omega)) _ (by omega))
  have HT := Lib.hid (show (ys.take p == bs.take p) = true by rw [← hys, set2_take]; simp)
  have HD := Lib.hid (show (ys.drop (p + 2) == bs.drop (p + 2)) = true by rw [← hys, set2_drop]; simp)
  have HM := Lib.hid (show (ys.drop p).take 2 = [v / 256, v % 256] by rw [← hys]; exact set2_mid bs p _ _ (by omega))
  rw [hys] at HE
  rw [hF] at X5 ⊢
  rw [HE.out, show dnB ys false = ys from rfl] at X5
  rw [show dnE false = 0 from rfl]
  obtain rfl : n5 = n3 := by rw [← (X5.out.own 2 rfl).len, hyl]
  clear hF hys HE hbad
  go_wp2_with fail
  refine (newReader_any X5.out A5 n5 c5 ys (X5.out.rd 2 rfl) (by omega)).mono ?_
  rintro e w6 ⟨Rd, B6, n6, c6, rfl, hS⟩
  obtain rfl : n6 = n5 := by rw [← (hS.own 3 rfl).len, hyl]
  have X6 := Lib.hid (show SP w w6 [.own .u8 5 A5 n6 c5 ys, .own .u8 5 B6 n6 c6 ys, .blk Rd 68 (rcells Rd B6 n6 c6 0 false)] from hS.pick [2, 3, 4] (by decide) rfl)
  clear hS X5
  have hle5 := (X6.out.own 0 rfl).le
  have k1 : (0 : Int) ≤ (p : Int) := by omega
  have k3 : (p : Int) ≤ (c5 : Int) := by omega
  have k4 : (p : Int) ≤ (c : Int) := by omega
  have k2 : (p : Int) ≤ (n6 : Int) := by omega
  have k5 : IntKind.i64.wrap ((p : Int) + 2) = (p : Int) + 2 := IntWalk.i64_in _ (by omega)
  have k6 : ((n6 : Int) != (n6 : Int)) = false := by simp
  have s1 := fun W => run_slice_lo (P := Try.prog) W Try.underlying22 hi hz1 A5 n6 c5 ((p : Int) + 2) (p + 2) (by omega) (by omega)
  have s2 := fun W => run_slice_lo (P := Try.prog) W Try.underlying22 hi hz1 A n6 c ((p : Int) + 2) (p + 2) (by omega) (by omega)
  go_upto_region 13 with fail
  have XD := Lib.hid X6.out.drew
  have rA := fun m => (XD.out.drewN m).rd 0 rfl
  have rB := fun m => R.out _ (XD.out.drewN m).bel
  clear hcm
  go_region_held3 (fun _ => True) (trivial) (first
    | (go_at_call_of 33 (Value.slice A5 p c5); refine (equal_any A5 A p c5 p c _ _ _ (by exact (rA 0).take (by omega)) (by exact (rB 0).take (by omega)) (by omega) (by omega)).mono ?_
       rintro e w7 ⟨rfl, m7, rfl⟩
       rw [HT.out])
    | (go_at_call 33; refine (equal_any _ _ _ _ _ _ _ _ _ (by exact (rA 0).cutA (lo := p + 2) (by omega) hle5.1) (by exact (rB 0).cutA (lo := p + 2) (by omega) (by omega)) (by omega) (by omega)).mono ?_
       rintro e w8 ⟨rfl, m8, rfl⟩
       rw [HD.out]))
  have X7 := Lib.hid (show ∀ m, SP w (w6.drewN m) [.own .u8 5 B6 n6 c6 ys, .blk Rd 68 (rcells Rd B6 n6 c6 0 false)] from fun m => (X6.out.drewN m).pick [1, 2] (by decide) rfl)
  clear rA rB XD X6 k3 k4 k5 k6 s1 s2
  have o1 : nxOk n6 0 false (p : Int) = true := by unfold nxOk; simp; omega
  have o2 : nxAt n6 0 false (p : Int) = p := by unfold nxAt; rw [if_pos o1]; simp
  have o3 : nxOk n6 p false 2 = true := by unfold nxOk; simp; omega
  have o4 : nxAt n6 p false 2 = p + 2 := by unfold nxAt; rw [if_pos o3]; rfl
  have o5 : numZ (nxB ys p false 2) = v := by
    unfold nxB
    rw [hyl, if_pos o3, show ((2 : Int)).toNat = 2 from rfl, HM.out]
    simp only [numZ, List.foldl_cons, List.foldl_nil]
    omega
  have HO := Lib.hid (And.intro o1 (And.intro o2 (And.intro o3 (And.intro o4 o5))))
  clear o1 o2 o3 o4 o5
  go_wp2_with fail
  refine (rSkip_any (X7.out _) (i := 1) (j := 0) rfl rfl (by decide) (by omega) (by omega) (p : Int) (by omega)).mono ?_
  rintro e w9 ⟨rfl, hS⟩
  rw [HO.out.1, HO.out.2.1] at hS
  have X9 := Lib.hid (show SP w w9 [.own .u8 5 B6 n6 c6 ys, .blk Rd 68 (rcells Rd B6 n6 c6 p false)] from hS)
  clear hS X7
  go_wp2_with fail
  refine (rU16_any X9.out (i := 1) (j := 0) rfl rfl (by decide) (by omega) (by omega) HBY.out).mono ?_
  rintro e wa ⟨rfl, hS⟩
  rw [HO.out.2.2.1, HO.out.2.2.2.1] at hS
  rw [HO.out.2.2.2.2]
  have Xa := Lib.hid (show SP w wa [.own .u8 5 B6 n6 c6 ys, .blk Rd 68 (rcells Rd B6 n6 c6 (p + 2) false)] from hS)
  clear hS X9
  go_wp2_with fail
  refine (rLeft_any Xa.out (i := 1) rfl (by omega) (by omega)).mono ?_
  rintro e wb ⟨rfl, hS⟩
  have Xb := Lib.hid hS
  clear hS Xa
  have f1 : IntKind.i64.wrap ((n6 : Int) - (p : Int)) = (n6 : Int) - (p : Int) := IntWalk.i64_in _ (by omega)
  have f2 : IntKind.i64.wrap ((n6 : Int) - (p : Int) - 2) = (n6 : Int) - (p : Int) - 2 := IntWalk.i64_in _ (by omega)
  have f3 : ((n6 : Int) - ((p + 2 : Nat) : Int)) = (n6 : Int) - (p : Int) - 2 := by omega
  rw [f3]
  go_wp2_with fail
  go_ret
  exact ⟨rfl, Xb.out.bel⟩
end Go.Proofs.Ytcipgkpcaecjdaa
