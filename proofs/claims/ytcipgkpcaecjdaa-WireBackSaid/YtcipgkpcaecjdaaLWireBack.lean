import Derived.Test.YtcipgkpcaecjdaaLWireBackF
/- bafflelaw01.WireBack. (Printed by gen_wback.py.) -/
namespace Go.Proofs.Ytcipgkpcaecjdaa
open Go.RowKit
set_option linter.unusedVariables false
set_option linter.unusedSimpArgs false

theorem wst_full {l : List PT} {lim i : Nat} {ys : List Int} {f : Bool} (h : WST l lim i ys f) (hm : tot l i ≤ lim) : f = false ∧ ys = cat l i := by
  rcases h.2 with ⟨_, h1, h2⟩ | ⟨h1, _⟩
  · exact ⟨h2, h1⟩
  · omega
theorem wst_over {l : List PT} {lim i : Nat} {ys : List Int} {f : Bool} (h : WST l lim i ys f) (hm : ¬ tot l i ≤ lim) : f = true := by
  rcases h.2 with ⟨h1, _⟩ | ⟨_, h1⟩
  · omega
  · exact h1

set_option maxHeartbeats 1000000 in
set_option maxRecDepth 100000 in
theorem wireBack_walk (AL : Option Addr) (n0 cl : Nat) (l0 : List PT) (w : World) (h : ROWT w AL n0 cl l0) :
    Calls Try.prog 10 #[.slice AL n0 cl] w fun e w' => e = .returned (.bool true) ∧ Below w.heap.size w w' := by
  obtain ⟨i0, hi, hz0, hz1, hz2⟩ := info_parts infoU8
  have hnc := h.le
  have hcm := h.cap
  unfold maxLen at hcm
  obtain ⟨nl, hk, hk', hl50, hkn⟩ : ∃ k : Nat, min (n0 : Int) 50 = (k : Int) ∧ (if (50 : Int) < (n0 : Int) then (50 : Int) else (n0 : Int)) = (k : Int) ∧ k ≤ 50 ∧ k ≤ n0 := by
    by_cases h : 50 < n0
    · exact ⟨50, by omega, by rw [if_pos (by omega)]; rfl, by omega, by omega⟩
    · exact ⟨n0, by omega, by rw [if_neg (by omega)], by omega, by omega⟩
  have RL := Lib.hid (fun (W : World) (hb : Below w.heap.size w W) => (show PTS W AL nl (l0.take nl) from (h.rd.below hb).take hkn))
  have HOK := Lib.hid (fun p (hp : p ∈ l0.take nl) => h.ok p (List.mem_of_mem_take hp))
  obtain ⟨l, hl⟩ : ∃ l, l0.take nl = l := ⟨_, rfl⟩
  rw [hl] at RL HOK
  have hll := (RL.out _ (Below.refl _ _)).1
  have HLL := Lib.hid hll
  have HZ := Lib.hid (fun q (hq : q ∈ l) => ((RL.out _ (Below.refl _ _)).2.2 q hq).len)
  have hT := tot_le HZ.out nl (by omega)
  have u1 : (0 : Int) ≤ (nl : Int) := by omega
  have u2 : (nl : Int) ≤ (cl : Int) := by omega
  clear h hl hll
  go_enter Try.func10, Try.ntmps10
  go_wp2_with fail
  refine (awake1_any _).mono ?_
  rintro e w1 ⟨rfl, hb1⟩
  have X1 := Lib.hid ((SP.start w).next hb1)
  clear hb1
  go_upto_region 6 with fail
  refine back6 w AL nl cl l hl50 RL HOK w1 X1 (Lib.hid ?_)
  intro _ _ _ _ _ _ _ _ _ _ w2 hS
  have X2 := Lib.hid hS
  clear hS X1 hk hk'
  obtain ⟨T, hTT⟩ : ∃ T, tot l nl = T := ⟨_, rfl⟩
  have HT := Lib.hid hTT
  rw [hTT] at hT ⊢
  clear hTT
  have XL := Lib.hid (show SP w (w2.alloc (.cells #[.int .i64 0, .int .i64 1] 3)) [.own .i64 3 (some ⟨w2.heap.size, 0, none⟩) 2 2 [0, 1]] from X2.out.allocI' .i64 3 [0, 1] (by simp [maxLen]) (N := w2.heap.size) rfl)
  go_upto_region 11 with fail
  obtain ⟨G, hG⟩ : ∃ g, g = w2.heap.size := ⟨_, rfl⟩
  rw [← hG] at XL ⊢
  generalize w2.alloc (.cells #[.int .i64 0, .int .i64 1] 3) = w3 at XL ⊢
  replace XL := Lib.hid (show SP w w3 [.own .i64 3 (some ⟨G, 0, none⟩) 2 2 [0, 1]] from XL.out)
  clear hG X2
  go_loopw [42] (fun s42 wr => ∃ j : Nat, j ≤ 2 ∧ s42 = .int .i64 (j : Int) ∧ SP w wr [.own .i64 3 (some ⟨G, 0, none⟩) 2 2 [0, 1]]) (fun s42 _ => 2 - (intOf s42).toNat)
  case atStart => exact ⟨0, by omega, rfl, XL.out⟩
  case round =>
    obtain ⟨j, hj, rfl, Y0⟩ := hrel
    obtain ⟨wo, rfl⟩ : ∃ wo : World, wo = wr := ⟨_, rfl⟩
    have Y := Lib.hid Y0
    clear Y0 XL
    by_cases hlt : j < 2
    case neg =>
      have t1 : ¬ (j : Int) < 2 := by omega
      go_wp2_with fail
      go_ret
      exact ⟨rfl, Y.out.bel⟩
    have t1 : (j : Int) < 2 := by omega
    have t0 : (0 : Int) ≤ (j : Int) := by omega
    have x0 : wo.cell? ⟨G, j, none⟩ = some (.int .i64 (j : Int)) := by
      have := (Y.out.own 0 rfl).cell (i := j) hlt
      rw [this]
      rcases (show j = 0 ∨ j = 1 by omega) with rfl | rfl <;> rfl
    obtain ⟨lim, hlim, hlim', hlimT⟩ : ∃ k : Nat, max ((T : Int) - (j : Int)) 0 = (k : Int) ∧ (if (T : Int) - (j : Int) < 0 then (0 : Int) else (T : Int) - (j : Int)) = (k : Int) ∧ k = T - j := by
      refine ⟨T - j, by omega, ?_, rfl⟩
      split <;> omega
    have hlim'' : (if (0 : Int) < (T : Int) - (j : Int) then (T : Int) - (j : Int) else (0 : Int)) = (lim : Int) := by split <;> omega
    have e13 : IntKind.i64.wrap ((T : Int) - (j : Int)) = (T : Int) - (j : Int) := IntWalk.i64_in _ (by omega)
    have HLIM := Lib.hid hlimT
    have hlim5 : lim ≤ 131072 := by omega
    clear hlimT
    go_wp2_with fail
    refine (newWriter_any Y.out lim hlim5).mono ?_
    rintro e v1 ⟨W, rfl, hS⟩
    have X1 := Lib.hid (show SP w v1 [.own .i64 3 (some ⟨G, 0, none⟩) 2 2 [0, 1], .own .u8 5 none 0 0 [], .blk W 71 (wcells W lim none 0 0 false)] from hS)
    clear hS Y hlim hlim' hlim'' e13 x0
    go_upto_region 17 with fail
    refine back17 w AL nl cl l hl50 RL HOK lim W G hlim5 v1 X1 (Lib.hid ?_)
    intro _ _ _ _ _ _ _ _ _ _ _ _ _ _ _ _ _ _ _ _ _ _ _ _ _ _ _ _ _ _ _ _ _ _ _ _ B n c ys f v2 hW hS
    have X2 := Lib.hid hS
    have HW := Lib.hid hW
    have hn5 : n ≤ 131072 := by have := (hS.own 1 rfl).len; have := hW.1; omega
    clear hS hW X1
    try simp only [Exit.then]
    go_wp2_with fail
    refine (wDone_any X2.out (i := 2) (j := 1) rfl rfl hn5).mono ?_
    rintro e v3 ⟨A5, n5, c5, rfl, hS⟩
    have X3 := Lib.hid (show SP w v3 [.own .i64 3 (some ⟨G, 0, none⟩) 2 2 [0, 1], .own .u8 5 B n c ys, .blk W 71 (wcells W lim B n c f), .own .u8 5 A5 n5 c5 (dnB ys f)] from hS)
    clear hS X2
    by_cases hless : j = 1 ∧ 0 < T
    · obtain ⟨rfl, hT0⟩ := hless
      have hF := wst_over HW.out (by rw [HT.out, HLIM.out]; omega)
      subst hF
      have t2 : (((1 : Nat) : Int) == 1) = true := rfl
      have t3 : (0 : Int) < (T : Int) := by omega
      rw [show dnE true = 4 from rfl]
      go_wp2_with fail
      refine (wFailed_any X3.out (i := 2) rfl).mono ?_
      rintro e v4 ⟨rfl, hS⟩
      have X4 := Lib.hid hS
      clear hS X3
      go_wp2_with fail
      go_roundw
      case rel => exact ⟨2, by omega, by rfl, X4.out.pick [0] (by decide) rfl⟩
      case measure => simp [intOf]
    have hfull : lim = T := by have := HLIM.out; omega
    obtain ⟨hF, hY⟩ := wst_full HW.out (by rw [HT.out]; omega)
    subst hF
    have HYS := Lib.hid hY
    obtain rfl : n = T := by rw [← (X3.out.own 1 rfl).len, hY]; exact HT.out
    obtain rfl : n5 = n := by rw [← (X3.out.own 3 rfl).len, ← (X3.out.own 1 rfl).len]; rfl
    rw [show dnE false = 0 from rfl]
    rw [show dnB ys false = ys from rfl] at X3
    subst hfull
    obtain ⟨T, rfl⟩ : ∃ T, T = lim := ⟨_, rfl⟩
    clear hY
    have hfirst : (((j : Int) == 1) = false) ∨ (((j : Int) == 1) = true ∧ ¬ (0 : Int) < (T : Int)) := by
      by_cases h1 : j = 1
      · exact .inr ⟨by simp [h1], by omega⟩
      · exact .inl (by simp; omega)
    go_upto_region 29 with fail
    go_cut [103] (fun s103 wx => s103 = .bool false ∧ wx = v3)
    case first =>
      rcases hfirst with h1 | ⟨h1, h2⟩
      · go_wp2_with fail
        go_meet
        exact ⟨rfl, rfl⟩
      · have hd2 : decide (0 < T) = false := by simp; omega
        go_wp2_with fail
        go_meet
        exact ⟨by first | rfl | rw [hd2], rfl⟩
    case rest =>
    obtain ⟨rfl, hwc⟩ := hcut
    rw [hwc]
    clear hwc wc hfirst hless
    have k6 : ((T : Int) != (T : Int)) = false := by simp
    go_wp2_with fail
    refine (wLen_any X3.out (i := 2) rfl).mono ?_
    rintro e v4 ⟨rfl, hS⟩
    have X4 := Lib.hid (show SP w v4 [.own .i64 3 (some ⟨G, 0, none⟩) 2 2 [0, 1], .own .u8 5 A5 T c5 ys] from hS.pick [0, 3] (by decide) rfl)
    clear hS X3
    go_upto_region 35 with fail
    refine back35 w AL nl cl l hl50 RL HOK HLL.out T HT A5 c5 ys HYS G v4 X4 (Lib.hid ?_)
    intro _ _ _ _ _ _ _ _ _ _ _ _ _ _ _ _ _ _ _ _ _ _ _ _ _ _ _ _ _ _ _ _ _ _ _ _ _ _ _ _ _ _ _ _ _ _ _ _ _ _ _ _ _ _ _ _ _ _ _ _ _ _ _ _ _ _ _ _ _ _ _ _ _ _ _ _ _ _ _ _ _ _ _ _ _ _ _ _ _ _ _ _ _ _ _ _ _ _ _ _ _ _ _ _ _ _ _ _ _ _ _ _ _ _ _ _ _ _ _ _ _ _ _ _ _ _ _ _ _ _ _ _ _ _ _ _ _ _ _ _ _ _ v5 hS
    have X5 := Lib.hid hS
    clear hS X4
    go_wp2_with fail
    go_roundw
    case rel => exact ⟨j + 1, by omega, by go_num, X5.out.pick [0] (by decide) rfl⟩
    case measure => simp [intOf]; omega
end Go.Proofs.Ytcipgkpcaecjdaa
