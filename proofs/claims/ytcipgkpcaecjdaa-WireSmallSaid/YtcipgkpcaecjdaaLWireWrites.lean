import Derived.Test.YtcipgkpcaecjdaaLWireWritesA
import Derived.Test.YtcipgkpcaecjdaaLWireWritesB
import Derived.Test.YtcipgkpcaecjdaaWOver
import Derived.Deep.DeepCutAuto
/- bafflelaw01.WireWrites. (Printed by gen_wwrites2.py.) -/
namespace Go.Proofs.Ytcipgkpcaecjdaa
open Go.RowKit
set_option linter.unusedVariables false
set_option linter.unusedSimpArgs false

/-- writer and reference hold the same bytes and the same flag -/
def WREL (w wx : World) (W X lim : Nat) : Prop := ∃ (B : Option Addr) (n c : Nat) (ys : List Int) (g : Bool) (Bx : Option Addr) (cx : Nat), n ≤ lim ∧ SP w wx [.own .u8 5 B n c ys, .blk W 71 (wcells W lim B n c g), .own .u8 5 Bx n cx ys, .blk X 94 (xcells lim Bx n cx g)]
theorem wrel_of {w wx : World} {W X lim n nx c cx : Nat} {B Bx : Option Addr} {ys : List Int} {g : Bool} (H : SP w wx [.own .u8 5 B n c ys, .blk W 71 (wcells W lim B n c g), .own .u8 5 Bx nx cx ys, .blk X 94 (xcells lim Bx nx cx g)]) (h : ys.length ≤ lim) : WREL w wx W X lim := by
  have h1 := (H.own 0 rfl).len
  have h2 := (H.own 2 rfl).len
  obtain rfl : n = nx := h1.symm.trans h2
  exact ⟨B, n, c, ys, g, Bx, cx, by omega, H⟩

set_option maxHeartbeats 4000000 in
set_option maxRecDepth 100000 in
theorem writes_any (lm : Int) (A : Option Addr) (nb cb : Nat) (zs : List Int) (AL : Option Addr) (nl cl : Nat) (ll : List (Int × Int)) (w : World) (h : RD .u8 w w.heap.size A nb zs) (hl : ACTS w AL nl ll) (ha : ABD ll) :
    Calls Try.prog 17 #[.int .i64 lm, .slice A nb cb, .slice AL nl cl] w fun e w' => e = .returned (.bool true) ∧ Below w.heap.size w w' := by
  have R := Lib.hid (fun (W : World) (hb : Below w.heap.size w W) => (show RD .u8 W W.heap.size A nb zs from (h.below hb).more hb.size))
  have hzl := h.len
  have RL := Lib.hid (fun (W : World) (hb : Below w.heap.size w W) => (show ACTS W AL nl ll from hl.below hb))
  have HA := Lib.hid ha
  clear h hl ha
  by_cases hn1 : 100 < nl
  · have t1 : (100 : Int) < (nl : Int) := by omega
    go_enter Try.func17, Try.ntmps17
    go_wp2_with fail
    go_ret
    exact ⟨rfl, Below.refl _ _⟩
  have t1 : ¬ (100 : Int) < (nl : Int) := by omega
  by_cases hn2 : 2000 < nb
  · have t2 : (2000 : Int) < (nb : Int) := by omega
    go_enter Try.func17, Try.ntmps17
    go_wp2_with fail
    go_ret
    exact ⟨rfl, Below.refl _ _⟩
  have t2 : ¬ (2000 : Int) < (nb : Int) := by omega
  by_cases hlm : lm < 0 ∨ 131072 < lm
  · have HNO := Lib.hid (newWriter_no lm w hlm)
    go_enter Try.func17, Try.ntmps17
    go_wp2_with fail
    refine HNO.out.mono ?_
    rintro e w2 ⟨rfl, rfl⟩
    by_cases h0 : lm < 0
    · go_wp2_with fail
      go_ret
      exact ⟨rfl, Below.refl _ _⟩
    · have h1 : 131072 < lm := by omega
      go_wp2_with fail
      go_ret
      exact ⟨rfl, Below.refl _ _⟩
  obtain ⟨lim, rfl⟩ : ∃ lim : Nat, lm = (lim : Int) := ⟨lm.toNat, by omega⟩
  have hlim : lim ≤ 131072 := by omega
  have t3 : ¬ (lim : Int) < 0 := by omega
  have t4 : ¬ (131072 : Int) < (lim : Int) := by omega
  have hnl : nl ≤ 100 := by omega
  clear hlm hn1
  go_enter Try.func17, Try.ntmps17
  go_wp2_with fail
  refine (newWriter_any (SP.start w) lim hlim).mono ?_
  rintro e w1 ⟨W, rfl, hS⟩
  have X1 := Lib.hid ((show SP w w1 [.own .u8 5 none 0 0 [], .blk W 71 (wcells W lim none 0 0 false)] from hS).pushOwn (Below.refl _ _) (OWN.nil (k := .u8) (e := 5)))
  clear hS
  have XB := Lib.hid (X1.out.alloc' 94 (xcells lim none 0 0 false) (N := w1.heap.size) rfl)
  go_upto_region 10 with fail
  obtain ⟨X, hX⟩ : ∃ g, g = w1.heap.size := ⟨_, rfl⟩
  rw [← hX] at XB ⊢
  unfold xcells at XB
  generalize w1.alloc (.cells #[.int .i64 (lim : Int), .slice none 0 0, .bool false] 94) = v0 at XB ⊢
  have X3 := Lib.hid (show SP w v0 [.own .u8 5 none 0 0 [], .blk W 71 (wcells W lim none 0 0 false), .own .u8 5 none 0 0 [], .blk X 94 (xcells lim none 0 0 false)] from XB.out)
  clear hX X1 XB t1 t2 t3 t4
  go_loopw [51] (fun s51 wr => ∃ i : Nat, i ≤ nl ∧ s51 = .int .i64 (i : Int) ∧ WREL w wr W X lim) (fun s51 _ => nl - (intOf s51).toNat)
  case atStart => exact ⟨0, by omega, rfl, wrel_of X3.out (by simp)⟩
  case round =>
    obtain ⟨i, hi, rfl, B, n, c, ys, g, Bx, cx, hn, Y0⟩ := hrel
    obtain ⟨wo, rfl⟩ : ∃ wo : World, wo = wr := ⟨_, rfl⟩
    have Y := Lib.hid Y0
    clear Y0 X3
    by_cases hlt : i < nl
    case neg =>
      have t1 : ¬ (i : Int) < (nl : Int) := by omega
      go_wp2_with fail
      go_ret
      exact ⟨rfl, Y.out.bel⟩
    have t1 : (i : Int) < (nl : Int) := by omega
    have t0 : (0 : Int) ≤ (i : Int) := by omega
    obtain ⟨ba, oa, rfl, _, hcells⟩ := (RL.out _ Y.out.bel).2 (by omega)
    obtain ⟨x1, x2⟩ := hcells i hlt
    obtain ⟨⟨k1, k2⟩, ⟨a1, a2⟩⟩ := HA.out.get i
    obtain ⟨kd, hkd⟩ : ∃ kd, (ll[i]?.getD (0, 0)).1 = kd := ⟨_, rfl⟩
    obtain ⟨N, hN⟩ : ∃ N, (ll[i]?.getD (0, 0)).2 = N := ⟨_, rfl⟩
    rw [hkd] at x1 k1 k2
    rw [hN] at x2 a1 a2
    have XB := Lib.hid (Y.out.alloc' 43 #[.int .u8 kd, .int .i64 N] (N := wo.heap.size) rfl)
    clear hcells hkd hN hlt
    go_upto_region 12 with fail
    obtain ⟨bx, hbx⟩ : ∃ g, g = wo.heap.size := ⟨_, rfl⟩
    rw [← hbx] at XB ⊢
    generalize wo.alloc (.cells #[.int .u8 kd, .int .i64 N] 43) = v0 at XB ⊢
    replace XB := Lib.hid (show SP w v0 [.own .u8 5 B n c ys, .blk W 71 (wcells W lim B n c g), .own .u8 5 Bx n cx ys, .blk X 94 (xcells lim Bx n cx g), .blk bx 43 #[.int .u8 kd, .int .i64 N]] from XB.out)
    clear hbx Y x1 x2
    have hyn := (XB.out.own 0 rfl).len
    have hyl : ys.length ≤ lim := by omega
    have z0 : v0.cell? ⟨bx, 0, none⟩ = some (.int .u8 kd) := XB.out.cell 4 rfl 0 rfl
    obtain ⟨r, hr, hr3⟩ : ∃ r : Nat, kd % 6 = (r : Int) ∧ r < 6 := ⟨(kd % 6).toNat, by omega, by omega⟩
    have er : kd.tmod 6 = (r : Int) := by rw [Int.tmod_eq_emod_of_nonneg k1]; exact hr
    have er2 : IntKind.u8.wrap (r : Int) = (r : Int) := u8_in _ (by omega) (by omega)
    go_cut [57] (fun s57 wx => s57 = .int .u8 (r : Int) ∧ wx = v0)
    case first =>
      go_wp2_with fail
      go_meet
      exact ⟨rfl, rfl⟩
    case rest =>
    obtain ⟨rfl, hwc⟩ := hcut
    rw [hwc]
    clear hwc wc z0 er er2 hr k1 k2
    go_step
    go_cut [] (fun wx => WREL w wx W X lim)
    case first =>
      have HYL := Lib.hid (And.intro hyn hyl)
      rcases (show r = 0 ∨ r = 1 ∨ r = 2 ∨ r = 3 ∨ r = 4 ∨ r = 5 by omega) with rfl | rfl | rfl | rfl | rfl | rfl
      · have z1 : v0.cell? ⟨bx, 1, none⟩ = some (.int .i64 N) := XB.out.cell 4 rfl 1 rfl
        go_wp2_with fail
        clear z1
        refine (wU8_any XB.out (i := 1) (j := 0) rfl rfl (by decide) hn hlim (IntKind.u8.wrap N) (u8_wb N)).mono ?_
        rintro e v1 ⟨rfl, B', n', c', hS⟩
        have Y1 := Lib.hid (show SP w v1 [.own .u8 5 B' n' c' (wrB lim ys g [IntKind.u8.wrap N]), .blk W 71 (wcells W lim B' n' c' (!wrOk lim n g 1)), .own .u8 5 Bx n cx ys, .blk X 94 (xcells lim Bx n cx g), .blk bx 43 #[.int .u8 kd, .int .i64 N]] from hS)
        clear hS
        go_upto_region 17 with fail
        refine wreg17 w lim W X bx B' n' c' (wrB lim ys g [IntKind.u8.wrap N]) (!wrOk lim n g 1) Bx n cx ys g kd N (IntKind.u8.wrap N) rfl (u8_wb N) hn hlim _ Y1 (Lib.hid ?_)
        intro _ _ _ _ _ _ _ B2 n2 c2 v2 hF
        go_wp2_with fail
        go_meet
        exact wrel_of (hF.pick [0, 1, 2, 3] (by decide) rfl) (wrB_len hyl g _).1
      · have z1 : v0.cell? ⟨bx, 1, none⟩ = some (.int .i64 N) := XB.out.cell 4 rfl 1 rfl
        go_wp2_with fail
        clear z1
        refine (wU16_any XB.out (i := 1) (j := 0) rfl rfl (by decide) hn hlim (IntKind.u16.wrap N) (u16_wb N)).mono ?_
        rintro e v1 ⟨rfl, B', n', c', hS⟩
        have Y1 := Lib.hid (show SP w v1 [.own .u8 5 B' n' c' (wrB lim ys g (by16 (IntKind.u16.wrap N))), .blk W 71 (wcells W lim B' n' c' (!wrOk lim n g 2)), .own .u8 5 Bx n cx ys, .blk X 94 (xcells lim Bx n cx g), .blk bx 43 #[.int .u8 kd, .int .i64 N]] from hS)
        clear hS
        go_upto_region 20 with fail
        refine wreg20 w lim W X bx B' n' c' (wrB lim ys g (by16 (IntKind.u16.wrap N))) (!wrOk lim n g 2) Bx n cx ys g kd N (IntKind.u16.wrap N) rfl (u16_wb N) hn hlim _ Y1 (Lib.hid ?_)
        intro _ _ _ _ _ _ _ B2 n2 c2 v2 hF
        go_wp2_with fail
        go_meet
        exact wrel_of (hF.pick [0, 1, 2, 3] (by decide) rfl) (wrB_len hyl g _).1
      · have z1 : v0.cell? ⟨bx, 1, none⟩ = some (.int .i64 N) := XB.out.cell 4 rfl 1 rfl
        go_wp2_with fail
        clear z1
        refine (wU32_any XB.out (i := 1) (j := 0) rfl rfl (by decide) hn hlim (IntKind.u32.wrap N) (u32_wb1 N)).mono ?_
        rintro e v1 ⟨rfl, B', n', c', hS⟩
        have Y1 := Lib.hid (show SP w v1 [.own .u8 5 B' n' c' (wrB lim ys g (by32 (IntKind.u32.wrap N))), .blk W 71 (wcells W lim B' n' c' (!wrOk lim n g 4)), .own .u8 5 Bx n cx ys, .blk X 94 (xcells lim Bx n cx g), .blk bx 43 #[.int .u8 kd, .int .i64 N]] from hS)
        clear hS
        go_upto_region 23 with fail
        refine wreg23 w lim W X bx B' n' c' (wrB lim ys g (by32 (IntKind.u32.wrap N))) (!wrOk lim n g 4) Bx n cx ys g kd N (IntKind.u32.wrap N) rfl (u32_wb1 N) hn hlim _ Y1 (Lib.hid ?_)
        intro _ _ _ _ _ _ _ B2 n2 c2 v2 hF
        go_wp2_with fail
        go_meet
        exact wrel_of (hF.pick [0, 1, 2, 3] (by decide) rfl) (wrB_len hyl g _).1
      · go_wp2_with fail
        refine (lent_any A nb cb zs _ (R.out _ XB.out.bel) (by omega)).mono ?_
        rintro e v1 ⟨Al, nl', rfl, hnl', ho, hb⟩
        obtain rfl : nl' = nb := hnl'.trans hzl
        have Y1 := Lib.hid (show SP w v1 [.own .u8 5 B n c ys, .blk W 71 (wcells W lim B n c g), .own .u8 5 Bx n cx ys, .blk X 94 (xcells lim Bx n cx g), .blk bx 43 #[.int .u8 kd, .int .i64 N], .own .u8 5 Al (nl' + 12) (nl' + 12) (zs ++ marksFrom 1 0 12)] from XB.out.pushOwn hb ho)
        clear ho hb hnl'
        go_wp2_with fail
        have RL1 := Lib.hid (show RD .u8 v1 v1.heap.size Al nl' zs from by
          have := (Y1.out.rd 5 rfl).take (m := nl') (by omega)
          rwa [List.take_left' hzl] at this)
        refine (wBytes_any Y1.out (i := 1) (j := 0) rfl rfl (by decide) hn hlim Al nl' (nl' + 12) zs RL1.out (by omega)).mono ?_
        rintro e v2 ⟨rfl, B', n', c', hS⟩
        have Y2 := Lib.hid (show SP w v2 [.own .u8 5 B' n' c' (wrB lim ys g zs), .blk W 71 (wcells W lim B' n' c' (!wrOk lim n g (nl' : Int))), .own .u8 5 Bx n cx ys, .blk X 94 (xcells lim Bx n cx g), .blk bx 43 #[.int .u8 kd, .int .i64 N], .own .u8 5 Al (nl' + 12) (nl' + 12) (zs ++ marksFrom 1 0 12)] from hS)
        clear hS RL1
        go_wp2_with fail
        refine (kept_any Al nl' zs A cb _ (R.out _ Y2.out.bel) (Y2.out.rd 5 rfl) (by omega)).mono ?_
        rintro e v3 ⟨rfl, md, rfl⟩
        have Y3 := Lib.hid (Y2.out.drewN md)
        go_wp2_with fail
        refine (over1_any (j := 5) Y3.out rfl (m := nl') (by omega) (by omega)).mono ?_
        rintro e v4 ⟨rfl, zl, hS⟩
        have Y4 := Lib.hid (show SP w v4 [.own .u8 5 B' n' c' (wrB lim ys g zs), .blk W 71 (wcells W lim B' n' c' (!wrOk lim n g (nl' : Int))), .own .u8 5 Bx n cx ys, .blk X 94 (xcells lim Bx n cx g), .blk bx 43 #[.int .u8 kd, .int .i64 N], .own .u8 5 Al (nl' + 12) (nl' + 12) zl] from hS)
        clear hS Y1 Y2 Y3
        go_wp2_with (refine wpList_load_row rfl 94 _ rfl X rfl 94 (xcells lim Bx n cx g) (0, 0) _ (Y4.out.blk 3 rfl) Try.underlying94 rfl (by kernel_rfl) ?_)
        refine (r1Write_any lim Bx n cx ys g A nl' cb zs _ (Y4.out.rd 2 rfl) (R.out _ Y4.out.bel) hn hlim (by omega)).mono ?_
        rintro e v5 ⟨B2, n2, c2, rfl, hb2, hxw⟩
        have Y5 := Lib.hid (show SP w v5 [.own .u8 5 B' n' c' (wrB lim ys g zs), .blk W 71 (wcells W lim B' n' c' (!wrOk lim n g (nl' : Int))), .own .u8 5 B2 n2 c2 (wrB lim ys g zs), .blk X 94 (xcells lim Bx n cx g), .blk bx 43 #[.int .u8 kd, .int .i64 N], .own .u8 5 Al (nl' + 12) (nl' + 12) zl] by
          have hh := (XW.sp Y4.out hb2 hxw).pick [0, 1, 2, 3, 4, 5] (by decide) (L' := [.own .u8 5 B' n' c' (wrB lim ys g zs), .blk W 71 (wcells W lim B' n' c' (!wrOk lim n g (nl' : Int))), .own .u8 5 B2 n2 c2 (if wrOk lim n g (nl' : Int) = true then ys ++ zs else ys), .blk X 94 (xcells lim Bx n cx g), .blk bx 43 #[.int .u8 kd, .int .i64 N], .own .u8 5 Al (nl' + 12) (nl' + 12) zl]) rfl
          have hmm := wr_merge lim ys g zs hyn
          rw [hzl] at hmm
          rw [hmm] at hh
          exact hh)
        clear hb2 hxw Y4
        go_wp2_with (refine wpList_store_row rfl 94 _ _ rfl X ((xcells lim B2 n2 c2 (!wrOk lim n g (nl' : Int)))) rfl rfl 94 (xcells lim Bx n cx g) (Y5.out.blk 3 rfl) (by kernel_rfl) rfl (by unfold xcells; simp [Value.oneCell']) ?_)
        go_meet
        have hh := Y5.out.setR 3 rfl (xcells lim B2 n2 c2 (!wrOk lim n g (nl' : Int)))
        exact wrel_of (hh.pick [0, 1, 2, 3] (by decide) rfl) (wrB_len hyl g _).1
      · have z1 : v0.cell? ⟨bx, 1, none⟩ = some (.int .i64 N) := XB.out.cell 4 rfl 1 rfl
        go_wp2_with fail
        clear z1
        refine (wZeros_any XB.out (i := 1) (j := 0) rfl rfl (by decide) hn hlim N ⟨a1, a2⟩).mono ?_
        rintro e v1 ⟨rfl, B', n', c', hS⟩
        have Y1 := Lib.hid (show SP w v1 [.own .u8 5 B' n' c' (wrZ lim ys g N), .blk W 71 (wcells W lim B' n' c' (!wrOk lim n g N)), .own .u8 5 Bx n cx ys, .blk X 94 (xcells lim Bx n cx g), .blk bx 43 #[.int .u8 kd, .int .i64 N]] from hS)
        clear hS
        have z1 : v1.cell? ⟨bx, 1, none⟩ = some (.int .i64 N) := Y1.out.cell 4 rfl 1 rfl
        go_wp2_with (refine wpList_load_row rfl 94 _ rfl X rfl 94 (xcells lim Bx n cx g) (0, 0) _ (Y1.out.blk 3 rfl) Try.underlying94 rfl (by kernel_rfl) ?_)
        clear z1
        refine (r1Zeros_any lim Bx n cx ys g N _ (Y1.out.rd 2 rfl) hn hlim).mono ?_
        rintro e v5 ⟨B2, n2, c2, rfl, hb2, hxw⟩
        have Y5 := Lib.hid (show SP w v5 [.own .u8 5 B' n' c' (wrZ lim ys g N), .blk W 71 (wcells W lim B' n' c' (!wrOk lim n g N)), .own .u8 5 B2 n2 c2 (wrZ lim ys g N), .blk X 94 (xcells lim Bx n cx g), .blk bx 43 #[.int .u8 kd, .int .i64 N]] by
          have hh := (XW.sp Y1.out hb2 hxw).pick [0, 1, 2, 3, 4] (by decide) (L' := [.own .u8 5 B' n' c' (wrZ lim ys g N), .blk W 71 (wcells W lim B' n' c' (!wrOk lim n g N)), .own .u8 5 B2 n2 c2 (if wrOk lim n g N = true then ys ++ List.replicate N.toNat 0 else ys), .blk X 94 (xcells lim Bx n cx g), .blk bx 43 #[.int .u8 kd, .int .i64 N]]) rfl
          rw [wr_mergeZ lim ys g N hyn] at hh
          exact hh)
        clear hb2 hxw Y1
        go_wp2_with (refine wpList_store_row rfl 94 _ _ rfl X ((xcells lim B2 n2 c2 (!wrOk lim n g N))) rfl rfl 94 (xcells lim Bx n cx g) (Y5.out.blk 3 rfl) (by kernel_rfl) rfl (by unfold xcells; simp [Value.oneCell']) ?_)
        go_meet
        have hh := Y5.out.setR 3 rfl (xcells lim B2 n2 c2 (!wrOk lim n g N))
        exact wrel_of (hh.pick [0, 1, 2, 3] (by decide) rfl) (wrZ_len hyl g _).1
      · have z1 : v0.cell? ⟨bx, 1, none⟩ = some (.int .i64 N) := XB.out.cell 4 rfl 1 rfl
        have z2 : v0.cell? ⟨X, 1, none⟩ = some (.slice Bx n cx) := XB.out.cell 3 rfl 1 rfl
        have e1 : IntKind.i64.wrap ((n : Int) * 257) = (n : Int) * 257 := IntWalk.i64_in _ (by omega)
        obtain ⟨q, e2⟩ : ∃ q, IntKind.u16.wrap ((n : Int) * 257) = q := ⟨_, rfl⟩
        have hq := u16_wb ((n : Int) * 257)
        rw [e2] at hq
        have e3 : IntKind.i64.wrap q = q := IntWalk.i64_in _ (by omega)
        go_wp2_with fail
        clear z1 z2
        refine (wSet16_any XB.out (i := 1) (j := 0) rfl rfl (by decide) hn hlim N ⟨a1, a2⟩ q hq).mono ?_
        rintro e v1 ⟨rfl, hS⟩
        have Y1 := Lib.hid (show SP w v1 [.own .u8 5 B n c (stB ys g N q), .blk W 71 (wcells W lim B n c (stF n g N)), .own .u8 5 Bx n cx ys, .blk X 94 (xcells lim Bx n cx g), .blk bx 43 #[.int .u8 kd, .int .i64 N]] from hS)
        clear hS
        have z1 : v1.cell? ⟨bx, 1, none⟩ = some (.int .i64 N) := Y1.out.cell 4 rfl 1 rfl
        have z2 : v1.cell? ⟨X, 1, none⟩ = some (.slice Bx n cx) := Y1.out.cell 3 rfl 1 rfl
        go_wp2_with (refine wpList_load_row rfl 94 _ rfl X rfl 94 (xcells lim Bx n cx g) (0, 0) _ (Y1.out.blk 3 rfl) Try.underlying94 rfl (by kernel_rfl) ?_)
        clear z1 z2
        refine (r1Set_any lim Bx n cx ys g N q _ (Y1.out.rd 2 rfl) hn hlim ⟨a1, a2⟩ hq).mono ?_
        rintro e v5 ⟨B2, n2, c2, rfl, hb2, hxw⟩
        have Y5 := Lib.hid (show SP w v5 [.own .u8 5 B n c (stB ys g N q), .blk W 71 (wcells W lim B n c (stF n g N)), .own .u8 5 B2 n2 c2 (stB ys g N q), .blk X 94 (xcells lim Bx n cx g), .blk bx 43 #[.int .u8 kd, .int .i64 N]] by
          have hh := (XW.sp Y1.out hb2 hxw).pick [0, 1, 2, 3, 4] (by decide) (L' := [.own .u8 5 B n c (stB ys g N q), .blk W 71 (wcells W lim B n c (stF n g N)), .own .u8 5 B2 n2 c2 (if (!g && stOk n N) = true then stB ys g N q else ys), .blk X 94 (xcells lim Bx n cx g), .blk bx 43 #[.int .u8 kd, .int .i64 N]]) rfl
          rw [st_merge ys g N q hyn] at hh
          exact hh)
        clear hb2 hxw Y1
        go_wp2_with (refine wpList_store_row rfl 94 _ _ rfl X ((xcells lim B2 n2 c2 (stF n g N))) rfl rfl 94 (xcells lim Bx n cx g) (Y5.out.blk 3 rfl) (by kernel_rfl) rfl (by unfold xcells; simp [Value.oneCell']) ?_)
        go_meet
        have hh := Y5.out.setR 3 rfl (xcells lim B2 n2 c2 (stF n g N))
        exact wrel_of (hh.pick [0, 1, 2, 3] (by decide) rfl) (by rw [stB_len]; exact hyl)
    case rest =>
      clear hyn hyl XB hn
      obtain ⟨B, n, c, ys, g, Bx, cx, hn, Y0⟩ := hcut
      have Z := Lib.hid Y0
      clear Y0
      go_wp2_with fail
      refine (wDone_any Z.out (i := 1) (j := 0) rfl rfl (by omega)).mono ?_
      rintro e v1 ⟨A', n', c', rfl, hS⟩
      have Z1 := Lib.hid (show SP w v1 [.own .u8 5 B n c ys, .blk W 71 (wcells W lim B n c g), .own .u8 5 Bx n cx ys, .blk X 94 (xcells lim Bx n cx g), .own .u8 5 A' n' c' (dnB ys g)] from hS)
      have hyn := (hS.own 0 rfl).len
      have hn' : n' ≤ 131072 := by
        have := (hS.own 4 rfl).len
        unfold dnB at this
        split at this
        · simp at this; omega
        · omega
      clear hS Z
      have y1 : v1.cell? ⟨X, 1, none⟩ = some (.slice Bx n cx) := Z1.out.cell 3 rfl 1 rfl
      have y2 : v1.cell? ⟨X, 2, none⟩ = some (.bool g) := Z1.out.cell 3 rfl 2 rfl
      have HG := Lib.hid (show (g = true ∧ dnB ys g = []) ∨ (g = false ∧ dnB ys g = ys) by cases g; exact .inr ⟨rfl, rfl⟩; exact .inl ⟨rfl, rfl⟩)
      go_upto_region 36 with fail
      go_cut [153] (fun s153 wx => s153 = .bool g ∧ wx = v1)
      case first =>
        go_wp2_with fail
        go_meet
        exact ⟨rfl, rfl⟩
      case rest =>
      obtain ⟨rfl, hwc⟩ := hcut
      rw [hwc]
      clear hwc wc y2
      go_step
      go_cut [15] (fun s15 wx => ∃ (D : Option Addr) (m cD : Nat), s15 = .slice D m cD ∧ wx = v1 ∧ m ≤ 131072 ∧ RD .u8 v1 v1.heap.size D m (dnB ys g))
      case first =>
        rcases HG.out with ⟨rfl, h2⟩ | ⟨rfl, h2⟩
        · go_wp2_with fail
          go_meet
          exact ⟨none, 0, 0, rfl, rfl, by omega, by rw [h2]; exact RD.nil⟩
        · go_wp2_with fail
          go_meet
          exact ⟨Bx, n, cx, rfl, rfl, by omega, by rw [h2]; exact Z1.out.rd 2 rfl⟩
      case rest =>
      obtain ⟨D, m, cD, rfl, hwc, hm, hD⟩ := hcut
      rw [hwc]
      have HD := Lib.hid hD
      clear hD hwc wc y1 HG
      go_upto_region 38 with fail
      refine writes38 w lim W X B n c ys g Bx cx A' n' c' D m cD v1 (by omega) hn' hm Z1 HD (Lib.hid ?_)
      intro _ _ _ _ _ _ _ _ _ _ _ _ _ _ _ _ _ _ _ _ _ _ _ _ _ _ _ _ _ _ _ _ _ v2 hS
      have Z2 := Lib.hid hS
      clear hS Z1 HD hm
      go_wp2_with fail
      refine (over1_any (j := 4) Z2.out rfl (m := n') (by omega) (by omega)).mono ?_
      rintro e v3 ⟨rfl, zl, hS⟩
      have Z3 := Lib.hid (hS.pick [0, 1, 2, 3] (by decide) (L' := [.own .u8 5 B n c ys, .blk W 71 (wcells W lim B n c g), .own .u8 5 Bx n cx ys, .blk X 94 (xcells lim Bx n cx g)]) rfl)
      clear hS Z2
      go_wp2_with fail
      go_roundw
      case rel => exact ⟨i + 1, by omega, by go_num, wrel_of Z3.out (by omega)⟩
      case measure => simp [intOf]; omega

theorem wireWrites_walk (a0 : Int) (A : Option Addr) (nb cb : Nat) (zs : List Int) (AL : Option Addr) (nl cl : Nat) (ll : List (Int × Int)) (w : World) (h : ROW .u8 255 w A nb cb zs) (hl : ROWA w AL nl cl ll) :
    Calls Try.prog 6 #[.int .i64 a0, .slice A nb cb, .slice AL nl cl] w fun e w' => e = .returned (.bool true) ∧ Below w.heap.size w w' := by
  have HW := Lib.hid (writes_any a0 A nb cb zs AL nl cl ll w h.rd hl.rd hl.bd)
  clear h hl
  go_enter Try.func6, Try.ntmps6
  go_wp2_with fail
  refine HW.out.mono ?_
  rintro e w1 ⟨rfl, hb⟩
  have HB := Lib.hid hb
  clear hb
  go_wp2_with fail
  refine (awake1_any _).mono ?_
  rintro e w2 ⟨rfl, hb2⟩
  have HB2 := Lib.hid (HB.out.trans (hb2.mono HB.out.size))
  clear hb2
  go_wp2_with fail
  go_ret
  exact ⟨rfl, HB2.out⟩
end Go.Proofs.Ytcipgkpcaecjdaa
