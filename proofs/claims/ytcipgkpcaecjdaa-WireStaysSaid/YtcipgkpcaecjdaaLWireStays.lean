import Derived.Test.YtcipgkpcaecjdaaWAwake1
import Derived.Test.YtcipgkpcaecjdaaWRowa
import Derived.Test.YtcipgkpcaecjdaaLWireStaysA
import Derived.Deep.RegionHeld3
import Derived.Deep.DeepCutAuto
/- bafflelaw01.WireStays. (Printed by gen_wstays.py.) -/
namespace Go.Proofs.Ytcipgkpcaecjdaa
open Go.RowKit
set_option linter.unusedVariables false
set_option linter.unusedSimpArgs false

theorem rfac {n p : Nat} (h : p ≤ n) (f : Bool) (m : Int) : p ≤ nxAt n p f m ∧ nxAt n p f m ≤ n ∧ (f = true → nxAt n p f m = p ∧ (!nxOk n p f m) = true) ∧ ((!nxOk n p f m) = true → nxAt n p f m = p) := by
  have h1 := nxAt_le h f m
  refine ⟨h1.2, h1.1, fun hf => ?_, fun hf => ?_⟩
  · subst hf
    have : nxOk n p true m = false := by unfold nxOk; simp
    exact ⟨by unfold nxAt; rw [this]; rfl, by rw [this]; rfl⟩
  · have : nxOk n p f m = false := by simpa using hf
    unfold nxAt; rw [this]; rfl
theorem rgot (zs : List Int) (p : Nat) (f : Bool) (m : Int) (h : f = true) : nxB zs p f m = [] := by
  subst h
  unfold nxB nxOk
  simp
theorem wfac {lim : Nat} {zs : List Int} (h : zs.length ≤ lim) (f : Bool) (bs : List Int) (m : Int) : zs.length ≤ (wrB lim zs f bs).length ∧ (wrB lim zs f bs).length ≤ lim ∧ (f = true → wrB lim zs f bs = zs ∧ (!wrOk lim zs.length f m) = true) := by
  have h1 := wrB_len h f bs
  refine ⟨h1.2, h1.1, fun hf => ?_⟩
  subst hf
  exact ⟨by unfold wrB wrOk; simp, by unfold wrOk; simp⟩
theorem zfac {lim : Nat} {zs : List Int} (h : zs.length ≤ lim) (f : Bool) (m : Int) : zs.length ≤ (wrZ lim zs f m).length ∧ (wrZ lim zs f m).length ≤ lim ∧ (f = true → wrZ lim zs f m = zs ∧ (!wrOk lim zs.length f m) = true) := by
  have h1 := wrZ_len h f m
  refine ⟨h1.2, h1.1, fun hf => ?_⟩
  subst hf
  exact ⟨by unfold wrZ wrOk; simp, by unfold wrOk; simp⟩
theorem got_bd (zs : List Int) (p : Nat) (f : Bool) (m : Int) (hm : m ≤ 4) (hz : BD 255 zs) : 0 ≤ numZ (nxB zs p f m) ∧ numZ (nxB zs p f m) ≤ 4294967295 := by
  have h1 := numZ_bd _ (nxB_bd hz p f m)
  have h2 := nxB_len zs p f m
  have h3 : (256 : Int) ^ (nxB zs p f m).length ≤ 256 ^ 4 := by
    rcases (show (nxB zs p f m).length = 0 ∨ (nxB zs p f m).length = 1 ∨ (nxB zs p f m).length = 2 ∨ (nxB zs p f m).length = 3 ∨ (nxB zs p f m).length = 4 by omega) with h | h | h | h | h <;> rw [h] <;> decide
  omega
theorem u32_wb (x : Int) : 0 ≤ IntKind.u32.wrap x ∧ IntKind.u32.wrap x ≤ 4294967295 := by
  rw [IntKind.wrap_u32]; omega

set_option maxHeartbeats 4000000 in
set_option maxRecDepth 100000 in
theorem wireStays_walk (A : Option Addr) (n c : Nat) (zs : List Int) (AL : Option Addr) (nl cl : Nat) (ll : List (Int × Int)) (lm : Int) (w : World) (h : ROW .u8 255 w A n c zs) (hl : ROWA w AL nl cl ll) (hlm : 0 ≤ lm ∧ lm ≤ 255) :
    Calls Try.prog 7 #[.slice A n c, .slice AL nl cl, .int .u8 lm] w fun e w' => e = .returned (.bool true) ∧ Below w.heap.size w w' := by
  have hnc := h.le
  have hcm := h.cap
  unfold maxLen at hcm
  have hlc := hl.le
  have hlcm := hl.cap
  unfold maxLen at hlcm
  obtain ⟨k, hk, hk', hk2, hkn⟩ : ∃ k : Nat, min (n : Int) 2000 = (k : Int) ∧ (if (2000 : Int) < (n : Int) then (2000 : Int) else (n : Int)) = (k : Int) ∧ k ≤ 2000 ∧ k ≤ n := by
    by_cases h : 2000 < n
    · exact ⟨2000, by omega, by rw [if_pos (by omega)]; rfl, by omega, by omega⟩
    · exact ⟨n, by omega, by rw [if_neg (by omega)], by omega, by omega⟩
  obtain ⟨m, hm, hm', hm2, hmn⟩ : ∃ m : Nat, min (nl : Int) 100 = (m : Int) ∧ (if (100 : Int) < (nl : Int) then (100 : Int) else (nl : Int)) = (m : Int) ∧ m ≤ 100 ∧ m ≤ nl := by
    by_cases h : 100 < nl
    · exact ⟨100, by omega, by rw [if_pos (by omega)]; rfl, by omega, by omega⟩
    · exact ⟨nl, by omega, by rw [if_neg (by omega)], by omega, by omega⟩
  have R := Lib.hid (fun (W : World) (hb : Below w.heap.size w W) => (show RD .u8 W W.heap.size A k (zs.take k) from ((h.rd.below hb).more hb.size).take hkn))
  have HZ := Lib.hid (show BD 255 (zs.take k) from h.bd.take k)
  obtain ⟨bs, hbs⟩ : ∃ bs, zs.take k = bs := ⟨_, rfl⟩
  rw [hbs] at R HZ
  have hbl : bs.length = k := (R.out _ (Below.refl _ _)).len
  have RL := Lib.hid (fun (W : World) (hb : Below w.heap.size w W) => (show ACTS W AL m (ll.take m) from (hl.rd.below hb).take hmn))
  have HA := Lib.hid (show ABD (ll.take m) from fun p hp => hl.bd p (List.mem_of_mem_take hp))
  generalize ll.take m = la at RL HA
  obtain ⟨lim, hlim⟩ : ∃ lim : Nat, lm % 101 = (lim : Int) := ⟨(lm % 101).toNat, by omega⟩
  have hlim100 : lim ≤ 100 := by omega
  have elm : IntKind.i64.wrap lm = lm := IntWalk.i64_in _ (by omega)
  have etm : lm.tmod 101 = (lim : Int) := by rw [Int.tmod_eq_emod_of_nonneg hlm.1]; exact hlim
  have ELM := Lib.hid (And.intro elm etm)
  have u1 : (0 : Int) ≤ (k : Int) := by omega
  have u2 : (k : Int) ≤ (c : Int) := by omega
  have u3 : (0 : Int) ≤ (m : Int) := by omega
  have u4 : (m : Int) ≤ (cl : Int) := by omega
  clear h hl hbs hlim elm etm
  go_enter Try.func7, Try.ntmps7
  go_wp2_with fail
  refine (awake1_any _).mono ?_
  rintro e w1 ⟨rfl, hb1⟩
  have X1 := Lib.hid ((SP.start w).next hb1)
  clear hb1
  go_wp2_with fail
  go_quiet (fail)
  clear hk hk' hm hm' u1 u2 u3 u4
  go_wp2_with fail
  refine (newReader_any (X1.out.drewN _) A k c bs (R.out _ (X1.out.drewN _).bel) (by omega)).mono ?_
  rintro e w2 ⟨Rd, B2, n2, c2, rfl, hS⟩
  obtain rfl : n2 = k := by rw [← (hS.own 0 rfl).len, hbl]
  have X2 := Lib.hid (show SP w w2 [.own .u8 5 B2 n2 c2 bs, .blk Rd 68 (rcells Rd B2 n2 c2 0 false)] from hS)
  clear hS X1
  have e5 := ELM.out.1
  have e6 := ELM.out.2
  go_wp2_with fail
  refine (newWriter_any X2.out lim (by omega)).mono ?_
  rintro e w3 ⟨W, rfl, hS⟩
  have X3 := Lib.hid (show SP w w3 [.own .u8 5 B2 n2 c2 bs, .blk Rd 68 (rcells Rd B2 n2 c2 0 false), .own .u8 5 none 0 0 [], .blk W 71 (wcells W lim none 0 0 false)] from hS)
  clear hS X2 e5 e6
  have ez : IntKind.i64.wrap (0 : Int) = 0 := IntWalk.i64_in _ (by omega)
  go_upto_region 9 with fail
  clear ez
  go_loopw [48] (fun s48 wr => ∃ (i p : Nat) (f : Bool) (B : Option Addr) (nb cb : Nat) (ys : List Int) (g : Bool), i ≤ m ∧ s48 = .int .i64 (i : Int) ∧ p ≤ n2 ∧ nb ≤ lim ∧ SP w wr [.own .u8 5 B2 n2 c2 bs, .blk Rd 68 (rcells Rd B2 n2 c2 p f), .own .u8 5 B nb cb ys, .blk W 71 (wcells W lim B nb cb g)]) (fun s48 _ => m - (intOf s48).toNat)
  case atStart => exact ⟨0, 0, false, none, 0, 0, [], false, by omega, rfl, by omega, by omega, X3.out⟩
  case round =>
    obtain ⟨i, p, f, B, nb, cb, ys, g, hi, rfl, hp, hnb, Y0⟩ := hrel
    obtain ⟨wo, rfl⟩ : ∃ wo : World, wo = wr := ⟨_, rfl⟩
    have Y := Lib.hid Y0
    clear Y0 X3
    by_cases hlt : i < m
    case neg =>
      have t1 : ¬ (i : Int) < (m : Int) := by omega
      go_wp2_with fail
      go_ret
      exact ⟨rfl, Y.out.bel⟩
    have t1 : (i : Int) < (m : Int) := by omega
    have t0 : (0 : Int) ≤ (i : Int) := by omega
    obtain ⟨ba, oa, rfl, _, hcells⟩ := (RL.out _ Y.out.bel).2 (by omega)
    obtain ⟨x1, x2⟩ := hcells i hlt
    obtain ⟨⟨k1, k2⟩, ⟨a1, a2⟩⟩ := HA.out.get i
    obtain ⟨kd, hkd⟩ : ∃ kd, (la[i]?.getD (0, 0)).1 = kd := ⟨_, rfl⟩
    obtain ⟨N, hN⟩ : ∃ N, (la[i]?.getD (0, 0)).2 = N := ⟨_, rfl⟩
    rw [hkd] at x1 k1 k2
    rw [hN] at x2 a1 a2
    have XB := Lib.hid (Y.out.alloc' 43 #[.int .u8 kd, .int .i64 N] (N := wo.heap.size) rfl)
    clear hcells hkd hN hlt
    go_upto_region 11 with fail
    obtain ⟨bx, hbx⟩ : ∃ g, g = wo.heap.size := ⟨_, rfl⟩
    rw [← hbx] at XB ⊢
    generalize wo.alloc (.cells #[.int .u8 kd, .int .i64 N] 43) = v0 at XB ⊢
    replace XB := Lib.hid (show SP w v0 [.own .u8 5 B2 n2 c2 bs, .blk Rd 68 (rcells Rd B2 n2 c2 p f), .own .u8 5 B nb cb ys, .blk W 71 (wcells W lim B nb cb g), .blk bx 43 #[.int .u8 kd, .int .i64 N]] from XB.out)
    clear hbx Y x1 x2
    go_wp2_with fail
    refine (rAt_any XB.out (i := 1) rfl).mono ?_
    rintro e v1 ⟨rfl, hS⟩
    have Y1 := Lib.hid hS
    clear hS XB
    go_wp2_with fail
    refine (rFailed_any Y1.out (i := 1) rfl).mono ?_
    rintro e v2 ⟨rfl, hS⟩
    have Y2 := Lib.hid hS
    clear hS Y1
    go_wp2_with fail
    refine (wLen_any Y2.out (i := 3) rfl).mono ?_
    rintro e v3 ⟨rfl, hS⟩
    have Y3 := Lib.hid hS
    clear hS Y2
    go_wp2_with fail
    refine (wFailed_any Y3.out (i := 3) rfl).mono ?_
    rintro e v4 ⟨rfl, hS⟩
    have Y4 := Lib.hid hS
    clear hS Y3
    have hyl := (Y4.out.own 2 rfl).len
    have z0 : v4.cell? ⟨bx, 0, none⟩ = some (.int .u8 kd) := Y4.out.cell 4 rfl 0 rfl
    obtain ⟨r, hr, hr3⟩ : ∃ r : Nat, kd % 4 = (r : Int) ∧ r < 4 := ⟨(kd % 4).toNat, by omega, by omega⟩
    have er : kd.tmod 4 = (r : Int) := by rw [Int.tmod_eq_emod_of_nonneg k1]; exact hr
    have er2 : IntKind.u8.wrap (r : Int) = (r : Int) := u8_in _ (by omega) (by omega)
    go_upto_region 13 with fail
    go_cut [62] (fun s62 wx => s62 = .int .u8 (r : Int) ∧ wx = v4)
    case first =>
      go_wp2_with fail
      go_meet
      exact ⟨rfl, rfl⟩
    case rest =>
    obtain ⟨rfl, hwc⟩ := hcut
    rw [hwc]
    clear hwc wc z0 er er2 hr
    go_step
    go_cut [17] (fun s17 wx => ∃ (p' : Nat) (f' : Bool) (B' : Option Addr) (n' c' : Nat) (ys' : List Int) (g' : Bool) (got : Int), s17 = .int .i64 got ∧ Hid (p ≤ p' ∧ p' ≤ n2 ∧ (f = true → (p' = p ∧ f' = true) ∧ got = 0) ∧ (f' = true → p' = p) ∧ nb ≤ n' ∧ n' ≤ lim ∧ (g = true → n' = nb ∧ g' = true)) ∧ SP w wx [.own .u8 5 B2 n2 c2 bs, .blk Rd 68 (rcells Rd B2 n2 c2 p' f'), .own .u8 5 B' n' c' ys', .blk W 71 (wcells W lim B' n' c' g')])
    case first =>
      have HYL := Lib.hid hyl
      clear hyl
      rcases (show r = 0 ∨ r = 1 ∨ r = 2 ∨ r = 3 by omega) with rfl | rfl | rfl | rfl
      · have z1 : v4.cell? ⟨bx, 1, none⟩ = some (.int .i64 N) := Y4.out.cell 4 rfl 1 rfl
        go_wp2_with fail
        clear z1
        refine (rU8_any Y4.out (i := 1) (j := 0) rfl rfl (by decide) hp (by omega) HZ.out).mono ?_
        rintro e v5 ⟨rfl, hS⟩
        have Y5 := Lib.hid (show SP w v5 [.own .u8 5 B2 n2 c2 bs, .blk Rd 68 (rcells Rd B2 n2 c2 (nxAt n2 p f 1) (!nxOk n2 p f 1)), .own .u8 5 B nb cb ys, .blk W 71 (wcells W lim B nb cb g), .blk bx 43 #[.int .u8 kd, .int .i64 N]] from hS)
        have HG := Lib.hid (show f = true → numZ (nxB bs p f 1) = 0 from fun h => by rw [rgot _ _ _ _ h]; rfl)
        have hg := got_bd bs p f 1 (by decide) HZ.out
        obtain ⟨got, hgot⟩ : ∃ g, numZ (nxB bs p f 1) = g := ⟨_, rfl⟩
        rw [hgot] at HG hg ⊢
        have eg : IntKind.i64.wrap got = got := IntWalk.i64_in _ (by omega)
        clear hS hgot hg
        have z2 : v5.cell? ⟨bx, 1, none⟩ = some (.int .i64 N) := Y5.out.cell 4 rfl 1 rfl
        go_wp2_with fail
        clear z2
        refine (wU8_any Y5.out (i := 3) (j := 2) rfl rfl (by decide) hnb (by omega) 1 (by decide)).mono ?_
        rintro e v6 ⟨rfl, B', n', c', hS⟩
        have Y6 := Lib.hid (show SP w v6 [.own .u8 5 B2 n2 c2 bs, .blk Rd 68 (rcells Rd B2 n2 c2 (nxAt n2 p f 1) (!nxOk n2 p f 1)), .own .u8 5 B' n' c' (wrB lim ys g [1]), .blk W 71 (wcells W lim B' n' c' (!wrOk lim nb g 1)), .blk bx 43 #[.int .u8 kd, .int .i64 N]] from hS)
        have HW := Lib.hid (show nb ≤ n' ∧ n' ≤ lim ∧ (g = true → n' = nb ∧ (!wrOk lim nb g 1) = true) by
          have hyl := HYL.out
          have q2 := wfac (zs := ys) (lim := lim) (by omega) g [1] 1
          have q3 := (hS.own 2 rfl).len
          rw [hyl] at q2
          exact ⟨by omega, by omega, fun hg => ⟨by rw [← q3, (q2.2.2 hg).1]; exact hyl, (q2.2.2 hg).2⟩⟩)
        clear hS
        have q1 := Lib.hid (rfac hp f 1)
        go_wp2_with fail
        go_meet
        exact ⟨_, _, B', n', c', _, _, _, rfl, Lib.hid ⟨q1.out.1, q1.out.2.1, fun hf => ⟨q1.out.2.2.1 hf, HG.out hf⟩, q1.out.2.2.2, HW.out.1, HW.out.2.1, HW.out.2.2⟩, Y6.out.pick [0, 1, 2, 3] (by decide) rfl⟩
      · have z1 : v4.cell? ⟨bx, 1, none⟩ = some (.int .i64 N) := Y4.out.cell 4 rfl 1 rfl
        go_wp2_with fail
        clear z1
        refine (rU16_any Y4.out (i := 1) (j := 0) rfl rfl (by decide) hp (by omega) HZ.out).mono ?_
        rintro e v5 ⟨rfl, hS⟩
        have Y5 := Lib.hid (show SP w v5 [.own .u8 5 B2 n2 c2 bs, .blk Rd 68 (rcells Rd B2 n2 c2 (nxAt n2 p f 2) (!nxOk n2 p f 2)), .own .u8 5 B nb cb ys, .blk W 71 (wcells W lim B nb cb g), .blk bx 43 #[.int .u8 kd, .int .i64 N]] from hS)
        have HG := Lib.hid (show f = true → numZ (nxB bs p f 2) = 0 from fun h => by rw [rgot _ _ _ _ h]; rfl)
        have hg := got_bd bs p f 2 (by decide) HZ.out
        obtain ⟨got, hgot⟩ : ∃ g, numZ (nxB bs p f 2) = g := ⟨_, rfl⟩
        rw [hgot] at HG hg ⊢
        have eg : IntKind.i64.wrap got = got := IntWalk.i64_in _ (by omega)
        clear hS hgot hg
        have z2 : v5.cell? ⟨bx, 1, none⟩ = some (.int .i64 N) := Y5.out.cell 4 rfl 1 rfl
        go_wp2_with fail
        clear z2
        refine (wU32_any Y5.out (i := 3) (j := 2) rfl rfl (by decide) hnb (by omega) (IntKind.u32.wrap N) (u32_wb N)).mono ?_
        rintro e v6 ⟨rfl, B', n', c', hS⟩
        have Y6 := Lib.hid (show SP w v6 [.own .u8 5 B2 n2 c2 bs, .blk Rd 68 (rcells Rd B2 n2 c2 (nxAt n2 p f 2) (!nxOk n2 p f 2)), .own .u8 5 B' n' c' (wrB lim ys g (by32 (IntKind.u32.wrap N))), .blk W 71 (wcells W lim B' n' c' (!wrOk lim nb g 4)), .blk bx 43 #[.int .u8 kd, .int .i64 N]] from hS)
        have HW := Lib.hid (show nb ≤ n' ∧ n' ≤ lim ∧ (g = true → n' = nb ∧ (!wrOk lim nb g 4) = true) by
          have hyl := HYL.out
          have q2 := wfac (zs := ys) (lim := lim) (by omega) g (by32 (IntKind.u32.wrap N)) 4
          have q3 := (hS.own 2 rfl).len
          rw [hyl] at q2
          exact ⟨by omega, by omega, fun hg => ⟨by rw [← q3, (q2.2.2 hg).1]; exact hyl, (q2.2.2 hg).2⟩⟩)
        clear hS
        have q1 := Lib.hid (rfac hp f 2)
        go_wp2_with fail
        go_meet
        exact ⟨_, _, B', n', c', _, _, _, rfl, Lib.hid ⟨q1.out.1, q1.out.2.1, fun hf => ⟨q1.out.2.2.1 hf, HG.out hf⟩, q1.out.2.2.2, HW.out.1, HW.out.2.1, HW.out.2.2⟩, Y6.out.pick [0, 1, 2, 3] (by decide) rfl⟩
      · have z1 : v4.cell? ⟨bx, 1, none⟩ = some (.int .i64 N) := Y4.out.cell 4 rfl 1 rfl
        go_wp2_with fail
        clear z1
        refine (rBytes_any Y4.out (i := 1) (j := 0) rfl rfl (by decide) hp (by omega) N ⟨a1, a2⟩).mono ?_
        rintro e v5 ⟨A5, n5, c5, rfl, hS⟩
        have HG := Lib.hid (show f = true → (n5 : Int) = 0 from fun h => by
          have := (hS.own 5 rfl).len
          rw [rgot _ _ _ _ h] at this
          have h0 : n5 = 0 := this.symm
          rw [h0]; rfl)
        have Y5 := Lib.hid (show SP w v5 [.own .u8 5 B2 n2 c2 bs, .blk Rd 68 (rcells Rd B2 n2 c2 (nxAt n2 p f N) (!nxOk n2 p f N)), .own .u8 5 B nb cb ys, .blk W 71 (wcells W lim B nb cb g), .blk bx 43 #[.int .u8 kd, .int .i64 N]] from hS.pick [0, 1, 2, 3, 4] (by decide) rfl)
        clear hS
        have z2 : v5.cell? ⟨bx, 1, none⟩ = some (.int .i64 N) := Y5.out.cell 4 rfl 1 rfl
        go_wp2_with fail
        clear z2
        refine (wZeros_any Y5.out (i := 3) (j := 2) rfl rfl (by decide) hnb (by omega) N ⟨a1, a2⟩).mono ?_
        rintro e v6 ⟨rfl, B', n', c', hS⟩
        have Y6 := Lib.hid (show SP w v6 [.own .u8 5 B2 n2 c2 bs, .blk Rd 68 (rcells Rd B2 n2 c2 (nxAt n2 p f N) (!nxOk n2 p f N)), .own .u8 5 B' n' c' (wrZ lim ys g N), .blk W 71 (wcells W lim B' n' c' (!wrOk lim nb g N)), .blk bx 43 #[.int .u8 kd, .int .i64 N]] from hS)
        have HW := Lib.hid (show nb ≤ n' ∧ n' ≤ lim ∧ (g = true → n' = nb ∧ (!wrOk lim nb g N) = true) by
          have hyl := HYL.out
          have q2 := zfac (zs := ys) (lim := lim) (by omega) g N
          have q3 := (hS.own 2 rfl).len
          rw [hyl] at q2
          exact ⟨by omega, by omega, fun hg => ⟨by rw [← q3, (q2.2.2 hg).1]; exact hyl, (q2.2.2 hg).2⟩⟩)
        clear hS
        have q1 := Lib.hid (rfac hp f N)
        go_wp2_with fail
        go_meet
        exact ⟨_, _, B', n', c', _, _, _, rfl, Lib.hid ⟨q1.out.1, q1.out.2.1, fun hf => ⟨q1.out.2.2.1 hf, HG.out hf⟩, q1.out.2.2.2, HW.out.1, HW.out.2.1, HW.out.2.2⟩, Y6.out.pick [0, 1, 2, 3] (by decide) rfl⟩
      · have z1 : v4.cell? ⟨bx, 1, none⟩ = some (.int .i64 N) := Y4.out.cell 4 rfl 1 rfl
        go_wp2_with fail
        clear z1
        refine (rSkip_any Y4.out (i := 1) (j := 0) rfl rfl (by decide) hp (by omega) N ⟨a1, a2⟩).mono ?_
        rintro e v5 ⟨rfl, hS⟩
        have Y5 := Lib.hid (show SP w v5 [.own .u8 5 B2 n2 c2 bs, .blk Rd 68 (rcells Rd B2 n2 c2 (nxAt n2 p f N) (!nxOk n2 p f N)), .own .u8 5 B nb cb ys, .blk W 71 (wcells W lim B nb cb g), .blk bx 43 #[.int .u8 kd, .int .i64 N]] from hS)
        clear hS
        have z2 : v5.cell? ⟨bx, 1, none⟩ = some (.int .i64 N) := Y5.out.cell 4 rfl 1 rfl
        go_wp2_with fail
        clear z2
        refine (wSet16_any Y5.out (i := 3) (j := 2) rfl rfl (by decide) hnb (by omega) N ⟨a1, a2⟩ 7 (by decide)).mono ?_
        rintro e v6 ⟨rfl, hS⟩
        have Y6 := Lib.hid (show SP w v6 [.own .u8 5 B2 n2 c2 bs, .blk Rd 68 (rcells Rd B2 n2 c2 (nxAt n2 p f N) (!nxOk n2 p f N)), .own .u8 5 B nb cb (stB ys g N 7), .blk W 71 (wcells W lim B nb cb (stF nb g N)), .blk bx 43 #[.int .u8 kd, .int .i64 N]] from hS)
        have HW := Lib.hid (show nb ≤ nb ∧ nb ≤ lim ∧ (g = true → nb = nb ∧ (stF nb g N) = true) from ⟨Nat.le_refl _, hnb, fun hg => ⟨rfl, by unfold stF; rw [hg]; rfl⟩⟩)
        clear hS
        have q1 := Lib.hid (rfac hp f N)
        go_wp2_with fail
        go_meet
        exact ⟨_, _, B, nb, cb, _, _, _, rfl, Lib.hid ⟨q1.out.1, q1.out.2.1, fun hf => ⟨q1.out.2.2.1 hf, rfl⟩, q1.out.2.2.2, HW.out.1, HW.out.2.1, fun hg => ⟨rfl, (HW.out.2.2 hg).2⟩⟩, Y6.out.pick [0, 1, 2, 3] (by decide) rfl⟩
    case rest =>
      obtain ⟨p', f', B', n', c', ys', g', got, rfl, HF, hZ⟩ := hcut
      have Z := Lib.hid hZ
      clear hZ Y4 hyl
      go_upto_region 25 with fail
      refine stays25 w Rd B2 n2 c2 bs A c lm lim W p nb f g p' n' f' g' B' c' ys' got ELM hp HF _ Z (Lib.hid ?_)
      intro _ _ _ _ _ _ _ _ _ _ _ _ _ _ _ _ _ _ _ _ _ _ _ _ _ _ _ _ _ _ _ _ _ _ _ _ _ _ _ _ _ _ _ _ _ _ _ _ _ _ _ _ _ _ _ _ _ _ _ _ _ _ _ _ _ _ _ _ _ _ _ _ _ v9 hS
      replace Z := Lib.hid hS
      clear hS
      have HN := Lib.hid (And.intro HF.out.2.1 HF.out.2.2.2.2.2.1)
      clear HF
      go_wp2_with fail
      go_roundw
      case rel => exact ⟨i + 1, _, _, B', _, c', ys', _, by omega, by go_num, HN.out.1, HN.out.2, Z.out⟩
      case measure => simp [intOf]; omega
end Go.Proofs.Ytcipgkpcaecjdaa
