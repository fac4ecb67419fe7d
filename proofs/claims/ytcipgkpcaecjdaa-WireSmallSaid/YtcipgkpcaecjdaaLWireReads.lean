import Derived.Test.YtcipgkpcaecjdaaLWireReadsA
import Derived.Test.YtcipgkpcaecjdaaWSpR
import Derived.Test.YtcipgkpcaecjdaaWOver
import Derived.Test.YtcipgkpcaecjdaaWRowa
/- bafflelaw01.WireReads. (Printed by gen_wreads.py.) -/
namespace Go.Proofs.Ytcipgkpcaecjdaa
open Go.RowKit
set_option linter.unusedVariables false
set_option linter.unusedSimpArgs false

theorem got_bd1 (zs : List Int) (p : Nat) (f : Bool) (m : Int) (hm : m ≤ 4) (hz : BD 255 zs) : 0 ≤ numZ (nxB zs p f m) ∧ numZ (nxB zs p f m) ≤ 4294967295 := by
  have h1 := numZ_bd _ (nxB_bd hz p f m)
  have h2 := nxB_len zs p f m
  have h3 : (256 : Int) ^ (nxB zs p f m).length ≤ 256 ^ 4 := by
    rcases (show (nxB zs p f m).length = 0 ∨ (nxB zs p f m).length = 1 ∨ (nxB zs p f m).length = 2 ∨ (nxB zs p f m).length = 3 ∨ (nxB zs p f m).length = 4 by omega) with h | h | h | h | h <;> rw [h] <;> decide
  omega
theorem nxB_le (zs : List Int) (p : Nat) (f : Bool) (m : Int) : (nxB zs p f m).length ≤ zs.length := by
  unfold nxB; split
  · rw [List.length_take, List.length_drop]; omega
  · simp

set_option maxHeartbeats 4000000 in
set_option maxRecDepth 100000 in
theorem reads_any (A : Option Addr) (nb cb : Nat) (zs : List Int) (AL : Option Addr) (nl cl : Nat) (ll : List (Int × Int)) (w : World) (h : RD .u8 w w.heap.size A nb zs) (hz : BD 255 zs) (hn : nb ≤ 140737488351232) (hl : ACTS w AL nl ll) (ha : ABD ll) :
    Calls Try.prog 16 #[.slice A nb cb, .slice AL nl cl] w fun e w' => e = .returned (.bool true) ∧ Below w.heap.size w w' := by
  have R0 := Lib.hid (fun (W : World) (hb : Below w.heap.size w W) => (show RD .u8 W W.heap.size A nb zs from (h.below hb).more hb.size))
  have hzl := h.len
  have RL := Lib.hid (fun (W : World) (hb : Below w.heap.size w W) => (show ACTS W AL nl ll from hl.below hb))
  have HA := Lib.hid ha
  have HZ := Lib.hid hz
  clear h hl ha hz
  by_cases hn1 : 100 < nl
  · have t1 : (100 : Int) < (nl : Int) := by omega
    go_enter Try.func16, Try.ntmps16
    go_wp2_with fail
    go_ret
    exact ⟨rfl, Below.refl _ _⟩
  have t1 : ¬ (100 : Int) < (nl : Int) := by omega
  have hnl : nl ≤ 100 := by omega
  clear hn1
  go_enter Try.func16, Try.ntmps16
  go_wp2_with fail
  refine (lent_any A nb cb zs _ (R0.out _ (Below.refl _ _)) hn).mono ?_
  rintro e w1 ⟨Al, nl', rfl, hnl', ho, hb⟩
  obtain rfl : nl' = nb := hnl'.trans hzl
  have X1 := Lib.hid (show SP w w1 [.own .u8 5 Al (nl' + 12) (nl' + 12) (zs ++ marksFrom 1 0 12)] from (SP.start w).pushOwn hb ho)
  clear ho hb hnl'
  have RL1 := Lib.hid (show RD .u8 w1 w1.heap.size Al nl' zs from by
    have := (X1.out.rd 0 rfl).take (m := nl') (by omega)
    rwa [List.take_left' hzl] at this)
  go_wp2_with fail
  by_cases hbig : 131072 < nl'
  · have t2 : (131072 : Int) < (nl' : Int) := by omega
    refine (newReader_no w1 Al nl' (nl' + 12) hbig).mono ?_
    rintro e w2 ⟨rfl, rfl⟩
    go_wp2_with fail
    refine (kept_any Al nl' zs A cb _ (R0.out _ X1.out.bel) (X1.out.rd 0 rfl) hn).mono ?_
    rintro e w3 ⟨rfl, md, rfl⟩
    go_wp2_with fail
    go_ret
    exact ⟨rfl, (X1.out.drewN md).bel⟩
  have hnb : nl' ≤ 131072 := by omega
  have t2 : ¬ (131072 : Int) < (nl' : Int) := by omega
  refine (newReader_any X1.out Al nl' (nl' + 12) zs RL1.out hnb).mono ?_
  rintro e w2 ⟨R, B2, n2, c2, rfl, hS⟩
  obtain rfl : n2 = nl' := ((hS.own 1 rfl).len).symm.trans hzl
  have X2 := Lib.hid (show SP w w2 [.own .u8 5 Al (n2 + 12) (n2 + 12) (zs ++ marksFrom 1 0 12), .own .u8 5 B2 n2 c2 zs, .blk R 68 (rcells R B2 n2 c2 0 false)] from hS)
  clear hS hbig RL1 X1
  go_wp2_with fail
  refine (kept_any Al n2 zs A cb _ (R0.out _ X2.out.bel) (X2.out.rd 0 rfl) hn).mono ?_
  rintro e w3 ⟨rfl, md, rfl⟩
  have X3 := Lib.hid (X2.out.drewN md)
  go_wp2_with fail
  refine (over1_any (j := 0) X3.out rfl (m := n2) (by omega) (by omega)).mono ?_
  rintro e w4 ⟨rfl, ys, hS⟩
  have X4 := Lib.hid (show SP w w4 [.own .u8 5 Al (n2 + 12) (n2 + 12) ys, .own .u8 5 B2 n2 c2 zs, .blk R 68 (rcells R B2 n2 c2 0 false)] from hS)
  clear hS X2 X3
  have XB := Lib.hid (X4.out.alloc' 87 (ycells A n2 cb 0 false) (N := w4.heap.size) rfl)
  go_upto_region 13 with fail
  obtain ⟨X, hX⟩ : ∃ g, g = w4.heap.size := ⟨_, rfl⟩
  rw [← hX] at XB ⊢
  unfold ycells at XB
  have ez : ((0 : Nat) : Int) = 0 := rfl
  rw [ez] at XB
  generalize w4.alloc (.cells #[.slice A n2 cb, .int .i64 0, .bool false] 87) = v0 at XB ⊢
  have X5 := Lib.hid (show SP w v0 ([.own .u8 5 B2 n2 c2 zs, .blk R 68 (rcells R B2 n2 c2 0 false), .own .u8 5 Al (n2 + 12) (n2 + 12) ys, .blk X 87 (ycells A n2 cb 0 false), .row 22 1 none (([] : List (SD × List Int))).length 0 ((([] : List (SD × List Int))).map gV)] ++ (([] : List (SD × List Int))).map gIT) from ((show SP w v0 [.own .u8 5 Al (n2 + 12) (n2 + 12) ys, .own .u8 5 B2 n2 c2 zs, .blk R 68 (rcells R B2 n2 c2 0 false), .blk X 87 (ycells A n2 cb 0 false)] from XB.out).pushRow 22 1).pick [1, 2, 0, 3, 4] (by decide) rfl)
  clear hX X4 XB t1 t2 ez
  obtain ⟨nb, rfl⟩ : ∃ nb, nb = n2 := ⟨_, rfl⟩
  go_loopw [59, 9] (fun s59 s9 wr => ∃ i : Nat, i ≤ nl ∧ s59 = .int .i64 (i : Int) ∧ ∃ (p : Nat) (f : Bool) (G : List (SD × List Int)) (Ar : Option Addr) (ca : Nat) (ys : List Int), p ≤ nb ∧ G.length ≤ i ∧ (∀ g ∈ G, g.1.n ≤ 140737488351232) ∧ s9 = .slice Ar G.length ca ∧ SP w wr ([.own .u8 5 B2 nb c2 zs, .blk R 68 (rcells R B2 nb c2 p f), .own .u8 5 Al (nb + 12) (nb + 12) ys, .blk X 87 (ycells A nb cb p f), .row 22 1 Ar (G).length ca ((G).map gV)] ++ (G).map gIT)) (fun s59 _ _ => nl - (intOf s59).toNat)
  case atStart => exact ⟨0, by omega, rfl, 0, false, ([] : List (SD × List Int)), none, 0, ys, by omega, by simp, by simp, rfl, X5.out⟩
  case round =>
    obtain ⟨i, hi, rfl, p, f, G, Ar, ca, ys, hp, hG1, hG2, rfl, Y0⟩ := hrel
    obtain ⟨wo, rfl⟩ : ∃ wo : World, wo = wr := ⟨_, rfl⟩
    have Y := Lib.hid Y0
    clear Y0 X5
    by_cases hlt : i < nl
    case neg =>
      have t1 : ¬ (i : Int) < (nl : Int) := by omega
      obtain ⟨i9, hi9, hy0, hy1, hy2⟩ := info_parts infoU8s
      have Y6 := Lib.hid (Y.out.next ((Below.refl _ wo).alloc (Nat.le_refl _) (.cells #[.slice Al nb (nb + 12)] 22)))
      go_wp2_with (refine wpList_append_row1 _ rfl _ _ 88 rfl w.heap.size 22 i9 _ 1 24 Try.underlying88 hi9 hy0 hy1 hy2 (by rfl) (by decide) Ar G.length ca (G.map gV) rfl (Y6.out.row 4 rfl) ⟨wo.heap.size, 0, none⟩ 1 1 [.slice Al nb (nb + 12)] rfl rfl (one_new wo 22 _) (by intro z hz; simp at hz; subst hz; rfl) (by simp only [maxLen]; omega) (by omega) Y6.out.size ?_; intro Ar' ca' w7 hrow hgrow hat; have Y7 := Lib.hid (Y6.out.appRow 4 rfl hrow hgrow hat); clear hrow hgrow hat)
      obtain ⟨hd1, hd2⟩ := spd_row (L := ([.own .u8 5 B2 nb c2 zs, .blk R 68 (rcells R B2 nb c2 p f), .own .u8 5 Al (nb + 12) (nb + 12) ys, .blk X 87 (ycells A nb cb p f), .row 22 1 Ar' (G.length + 1) ca' (G.map gV ++ [.slice Al nb (nb + 12)])] ++ G.map gIT)) G 5 2 (fun j g hg => by rw [List.getElem?_append_right (by simp)]; simp [hg]) (by omega) hG2 ⟨Al, nb, nb + 12⟩ (nb + 12) ys rfl (by simp) (by simp; omega)
      refine (sp_apart_row Y7.out _ _ hd1 hd2 (by simp; omega) Ar' (G.length + 1) ca' (by simp) ?_).mono ?_
      · have hr := Y7.out.row 4 rfl
        have el : (G.map (fun g : SD × List Int => g.1) ++ [(⟨Al, nb, nb + 12⟩ : SD)]).length = G.length + 1 := by simp
        have em : (G.map (fun g : SD × List Int => g.1) ++ [(⟨Al, nb, nb + 12⟩ : SD)]).map SD.val = G.map gV ++ [.slice Al nb (nb + 12)] := by rw [List.map_append, List.map_map]; rfl
        have := lsr_of_own (L := G.map (fun g : SD × List Int => g.1) ++ [(⟨Al, nb, nb + 12⟩ : SD)]) (B := Ar') (c := ca') (base := w.heap.size) (w := w7) (by rw [el, em]; exact hr)
        exact this
      rintro e w8 ⟨rfl, hb8⟩
      have HB8 := Lib.hid (Y7.out.bel.trans hb8)
      clear hb8
      go_wp2_with fail
      go_ret
      exact ⟨rfl, HB8.out⟩
    have t1 : (i : Int) < (nl : Int) := by omega
    have t0 : (0 : Int) ≤ (i : Int) := by omega
    obtain ⟨ba, oa, rfl, _, hcells⟩ := (RL.out _ Y.out.bel).2 (by omega)
    obtain ⟨x1, x2⟩ := hcells i hlt
    obtain ⟨⟨k1, k2⟩, ⟨a1, a2⟩⟩ := HA.out.get i
    obtain ⟨kd, hkd⟩ : ∃ kd, (ll[i]?.getD (0, 0)).1 = kd := ⟨_, rfl⟩
    obtain ⟨N, hN⟩ : ∃ N, (ll[i]?.getD (0, 0)).2 = N := ⟨_, rfl⟩
    rw [hkd] at x1 k1 k2
    rw [hN] at x2 a1 a2
    have XB := Lib.hid (Y.out.alloc' 43 #[.int .u8 kd, .int .i64 N] (N := wo.heap.size) rfl).rot
    clear hcells hkd hN hlt
    go_upto_region 16 with fail
    obtain ⟨bx, hbx⟩ : ∃ g, g = wo.heap.size := ⟨_, rfl⟩
    rw [← hbx] at XB ⊢
    generalize wo.alloc (.cells #[.int .u8 kd, .int .i64 N] 43) = v0 at XB ⊢
    replace XB := Lib.hid (show SP w v0 ([.blk bx 43 #[.int .u8 kd, .int .i64 N], .own .u8 5 B2 nb c2 zs, .blk R 68 (rcells R B2 nb c2 p f), .own .u8 5 Al (nb + 12) (nb + 12) ys, .blk X 87 (ycells A nb cb p f), .row 22 1 Ar (G).length ca ((G).map gV)] ++ ((G).map gIT)) from XB)
    clear hbx Y x1 x2
    have z0 : v0.cell? ⟨bx, 0, none⟩ = some (.int .u8 kd) := XB.out.cell 0 rfl 0 rfl
    obtain ⟨r, hr, hr3⟩ : ∃ r : Nat, kd % 5 = (r : Int) ∧ r < 5 := ⟨(kd % 5).toNat, by omega, by omega⟩
    have er : kd.tmod 5 = (r : Int) := by rw [Int.tmod_eq_emod_of_nonneg k1]; exact hr
    have er2 : IntKind.u8.wrap (r : Int) = (r : Int) := u8_in _ (by omega) (by omega)
    go_cut [65] (fun s65 wx => s65 = .int .u8 (r : Int) ∧ wx = v0)
    case first =>
      go_wp2_with fail
      go_meet
      exact ⟨rfl, rfl⟩
    case rest =>
    obtain ⟨rfl, hwc⟩ := hcut
    rw [hwc]
    clear hwc wc z0 er er2 hr k1 k2
    go_step
    go_cut [9] (fun s9 wx => ∃ (p : Nat) (f : Bool) (G : List (SD × List Int)) (Ar : Option Addr) (ca : Nat) (ys : List Int), p ≤ nb ∧ G.length ≤ (i + 1) ∧ (∀ g ∈ G, g.1.n ≤ 140737488351232) ∧ s9 = .slice Ar G.length ca ∧ SP w wx ([.own .u8 5 B2 nb c2 zs, .blk R 68 (rcells R B2 nb c2 p f), .own .u8 5 Al (nb + 12) (nb + 12) ys, .blk X 87 (ycells A nb cb p f), .row 22 1 Ar (G).length ca ((G).map gV)] ++ (G).map gIT))
    case first =>
      have hG0 : G.length ≤ i := hG1
      replace hG1 : G.length ≤ i + 1 := by omega
      rcases (show r = 0 ∨ r = 1 ∨ r = 2 ∨ r = 3 ∨ r = 4 by omega) with rfl | rfl | rfl | rfl | rfl
      · go_wp2_with fail
        refine (rU8_any XB.out (i := 2) (j := 1) rfl rfl (by decide) hp hnb HZ.out).mono ?_
        rintro e v1 ⟨rfl, hS⟩
        have Y1 := Lib.hid (show SP w v1 ([.blk bx 43 #[.int .u8 kd, .int .i64 N], .own .u8 5 B2 nb c2 zs, .blk R 68 (rcells R B2 nb c2 (nxAt nb p f 1) (!nxOk nb p f 1)), .own .u8 5 Al (nb + 12) (nb + 12) ys, .blk X 87 (ycells A nb cb p f), .row 22 1 Ar (G).length ca ((G).map gV)] ++ ((G).map gIT)) from hS)
        clear hS
        have hg := got_bd1 zs p f 1 (by decide) HZ.out
        obtain ⟨got, hgot⟩ : ∃ g, numZ (nxB zs p f 1) = g := ⟨_, rfl⟩
        have HN := Lib.hid hgot
        rw [hgot] at hg ⊢
        have e1 : IntKind.i64.wrap got = got := IntWalk.i64_in _ (by omega)
        have e2 : (got != got) = false := by simp
        clear hgot hg
        go_wp2_with (refine wpList_load_row rfl 87 _ rfl X rfl 87 (ycells A nb cb p f) (0, 0) _ (Y1.out.blk 4 rfl) Try.underlying87 rfl (by kernel_rfl) ?_)
        refine (r1Read_any A nb cb zs p f 1 _ (R0.out _ Y1.out.bel) hp hnb).mono ?_
        rintro e v2 ⟨Ag, ng, cg, rfl, ho, hb⟩
        have Y2 := Lib.hid (show SP w v2 (.own .u8 5 Ag ng cg (nxB zs p f 1) :: ([.blk bx 43 #[.int .u8 kd, .int .i64 N], .own .u8 5 B2 nb c2 zs, .blk R 68 (rcells R B2 nb c2 (nxAt nb p f 1) (!nxOk nb p f 1)), .own .u8 5 Al (nb + 12) (nb + 12) ys, .blk X 87 (ycells A nb cb p f), .row 22 1 Ar (G).length ca ((G).map gV)] ++ ((G).map gIT))) from (Y1.out.pushOwn hb ho).rot)
        have hgl := Lib.hid (show ng ≤ 4 by have := ho.len; have h2 := nxB_len zs p f 1; omega)
        clear ho hb Y1
        go_wp2_with (refine wpList_store_row rfl 87 _ _ rfl X (ycells A nb cb (nxAt nb p f 1) (!nxOk nb p f 1)) rfl rfl 87 (ycells A nb cb p f) (Y2.out.blk 5 rfl) (by kernel_rfl) rfl (by unfold ycells; simp [Value.oneCell']) ?_)
        have Y3 := Lib.hid (show SP w (v2.setRow X (ycells A nb cb (nxAt nb p f 1) (!nxOk nb p f 1))) (.own .u8 5 Ag ng cg (nxB zs p f 1) :: ([.blk bx 43 #[.int .u8 kd, .int .i64 N], .own .u8 5 B2 nb c2 zs, .blk R 68 (rcells R B2 nb c2 (nxAt nb p f 1) (!nxOk nb p f 1)), .own .u8 5 Al (nb + 12) (nb + 12) ys, .blk X 87 (ycells A nb cb (nxAt nb p f 1) (!nxOk nb p f 1)), .row 22 1 Ar (G).length ca ((G).map gV)] ++ ((G).map gIT))) from Y2.out.setR 5 rfl (ycells A nb cb (nxAt nb p f 1) (!nxOk nb p f 1)))
        clear Y2
        refine (r1Number_any Ag ng cg (nxB zs p f 1) _ (Y3.out.rd 0 rfl) (nxB_bd HZ.out p f 1) hgl.out).mono ?_
        rw [HN.out]
        rintro e v4 ⟨rfl, rfl⟩
        go_wp2_with fail
        go_meet
        exact ⟨(nxAt nb p f 1), (!nxOk nb p f 1), G, Ar, ca, ys, (nxAt_le hp f 1).1, hG1, hG2, rfl, Y3.out.tail.tail⟩
      · go_wp2_with fail
        refine (rU16_any XB.out (i := 2) (j := 1) rfl rfl (by decide) hp hnb HZ.out).mono ?_
        rintro e v1 ⟨rfl, hS⟩
        have Y1 := Lib.hid (show SP w v1 ([.blk bx 43 #[.int .u8 kd, .int .i64 N], .own .u8 5 B2 nb c2 zs, .blk R 68 (rcells R B2 nb c2 (nxAt nb p f 2) (!nxOk nb p f 2)), .own .u8 5 Al (nb + 12) (nb + 12) ys, .blk X 87 (ycells A nb cb p f), .row 22 1 Ar (G).length ca ((G).map gV)] ++ ((G).map gIT)) from hS)
        clear hS
        have hg := got_bd1 zs p f 2 (by decide) HZ.out
        obtain ⟨got, hgot⟩ : ∃ g, numZ (nxB zs p f 2) = g := ⟨_, rfl⟩
        have HN := Lib.hid hgot
        rw [hgot] at hg ⊢
        have e1 : IntKind.i64.wrap got = got := IntWalk.i64_in _ (by omega)
        have e2 : (got != got) = false := by simp
        clear hgot hg
        go_wp2_with (refine wpList_load_row rfl 87 _ rfl X rfl 87 (ycells A nb cb p f) (0, 0) _ (Y1.out.blk 4 rfl) Try.underlying87 rfl (by kernel_rfl) ?_)
        refine (r1Read_any A nb cb zs p f 2 _ (R0.out _ Y1.out.bel) hp hnb).mono ?_
        rintro e v2 ⟨Ag, ng, cg, rfl, ho, hb⟩
        have Y2 := Lib.hid (show SP w v2 (.own .u8 5 Ag ng cg (nxB zs p f 2) :: ([.blk bx 43 #[.int .u8 kd, .int .i64 N], .own .u8 5 B2 nb c2 zs, .blk R 68 (rcells R B2 nb c2 (nxAt nb p f 2) (!nxOk nb p f 2)), .own .u8 5 Al (nb + 12) (nb + 12) ys, .blk X 87 (ycells A nb cb p f), .row 22 1 Ar (G).length ca ((G).map gV)] ++ ((G).map gIT))) from (Y1.out.pushOwn hb ho).rot)
        have hgl := Lib.hid (show ng ≤ 4 by have := ho.len; have h2 := nxB_len zs p f 2; omega)
        clear ho hb Y1
        go_wp2_with (refine wpList_store_row rfl 87 _ _ rfl X (ycells A nb cb (nxAt nb p f 2) (!nxOk nb p f 2)) rfl rfl 87 (ycells A nb cb p f) (Y2.out.blk 5 rfl) (by kernel_rfl) rfl (by unfold ycells; simp [Value.oneCell']) ?_)
        have Y3 := Lib.hid (show SP w (v2.setRow X (ycells A nb cb (nxAt nb p f 2) (!nxOk nb p f 2))) (.own .u8 5 Ag ng cg (nxB zs p f 2) :: ([.blk bx 43 #[.int .u8 kd, .int .i64 N], .own .u8 5 B2 nb c2 zs, .blk R 68 (rcells R B2 nb c2 (nxAt nb p f 2) (!nxOk nb p f 2)), .own .u8 5 Al (nb + 12) (nb + 12) ys, .blk X 87 (ycells A nb cb (nxAt nb p f 2) (!nxOk nb p f 2)), .row 22 1 Ar (G).length ca ((G).map gV)] ++ ((G).map gIT))) from Y2.out.setR 5 rfl (ycells A nb cb (nxAt nb p f 2) (!nxOk nb p f 2)))
        clear Y2
        refine (r1Number_any Ag ng cg (nxB zs p f 2) _ (Y3.out.rd 0 rfl) (nxB_bd HZ.out p f 2) hgl.out).mono ?_
        rw [HN.out]
        rintro e v4 ⟨rfl, rfl⟩
        go_wp2_with fail
        go_meet
        exact ⟨(nxAt nb p f 2), (!nxOk nb p f 2), G, Ar, ca, ys, (nxAt_le hp f 2).1, hG1, hG2, rfl, Y3.out.tail.tail⟩
      · go_wp2_with fail
        refine (rU32_any XB.out (i := 2) (j := 1) rfl rfl (by decide) hp hnb HZ.out).mono ?_
        rintro e v1 ⟨rfl, hS⟩
        have Y1 := Lib.hid (show SP w v1 ([.blk bx 43 #[.int .u8 kd, .int .i64 N], .own .u8 5 B2 nb c2 zs, .blk R 68 (rcells R B2 nb c2 (nxAt nb p f 4) (!nxOk nb p f 4)), .own .u8 5 Al (nb + 12) (nb + 12) ys, .blk X 87 (ycells A nb cb p f), .row 22 1 Ar (G).length ca ((G).map gV)] ++ ((G).map gIT)) from hS)
        clear hS
        have hg := got_bd1 zs p f 4 (by decide) HZ.out
        obtain ⟨got, hgot⟩ : ∃ g, numZ (nxB zs p f 4) = g := ⟨_, rfl⟩
        have HN := Lib.hid hgot
        rw [hgot] at hg ⊢
        have e1 : IntKind.i64.wrap got = got := IntWalk.i64_in _ (by omega)
        have e2 : (got != got) = false := by simp
        clear hgot hg
        go_wp2_with (refine wpList_load_row rfl 87 _ rfl X rfl 87 (ycells A nb cb p f) (0, 0) _ (Y1.out.blk 4 rfl) Try.underlying87 rfl (by kernel_rfl) ?_)
        refine (r1Read_any A nb cb zs p f 4 _ (R0.out _ Y1.out.bel) hp hnb).mono ?_
        rintro e v2 ⟨Ag, ng, cg, rfl, ho, hb⟩
        have Y2 := Lib.hid (show SP w v2 (.own .u8 5 Ag ng cg (nxB zs p f 4) :: ([.blk bx 43 #[.int .u8 kd, .int .i64 N], .own .u8 5 B2 nb c2 zs, .blk R 68 (rcells R B2 nb c2 (nxAt nb p f 4) (!nxOk nb p f 4)), .own .u8 5 Al (nb + 12) (nb + 12) ys, .blk X 87 (ycells A nb cb p f), .row 22 1 Ar (G).length ca ((G).map gV)] ++ ((G).map gIT))) from (Y1.out.pushOwn hb ho).rot)
        have hgl := Lib.hid (show ng ≤ 4 by have := ho.len; have h2 := nxB_len zs p f 4; omega)
        clear ho hb Y1
        go_wp2_with (refine wpList_store_row rfl 87 _ _ rfl X (ycells A nb cb (nxAt nb p f 4) (!nxOk nb p f 4)) rfl rfl 87 (ycells A nb cb p f) (Y2.out.blk 5 rfl) (by kernel_rfl) rfl (by unfold ycells; simp [Value.oneCell']) ?_)
        have Y3 := Lib.hid (show SP w (v2.setRow X (ycells A nb cb (nxAt nb p f 4) (!nxOk nb p f 4))) (.own .u8 5 Ag ng cg (nxB zs p f 4) :: ([.blk bx 43 #[.int .u8 kd, .int .i64 N], .own .u8 5 B2 nb c2 zs, .blk R 68 (rcells R B2 nb c2 (nxAt nb p f 4) (!nxOk nb p f 4)), .own .u8 5 Al (nb + 12) (nb + 12) ys, .blk X 87 (ycells A nb cb (nxAt nb p f 4) (!nxOk nb p f 4)), .row 22 1 Ar (G).length ca ((G).map gV)] ++ ((G).map gIT))) from Y2.out.setR 5 rfl (ycells A nb cb (nxAt nb p f 4) (!nxOk nb p f 4)))
        clear Y2
        refine (r1Number_any Ag ng cg (nxB zs p f 4) _ (Y3.out.rd 0 rfl) (nxB_bd HZ.out p f 4) hgl.out).mono ?_
        rw [HN.out]
        rintro e v4 ⟨rfl, rfl⟩
        go_wp2_with fail
        go_meet
        exact ⟨(nxAt nb p f 4), (!nxOk nb p f 4), G, Ar, ca, ys, (nxAt_le hp f 4).1, hG1, hG2, rfl, Y3.out.tail.tail⟩
      · have z1 : v0.cell? ⟨bx, 1, none⟩ = some (.int .i64 N) := XB.out.cell 0 rfl 1 rfl
        go_wp2_with fail
        clear z1
        refine (rBytes_any XB.out (i := 2) (j := 1) rfl rfl (by decide) hp hnb N ⟨a1, a2⟩).mono ?_
        rintro e v1 ⟨Ag, ng, cg, rfl, hS⟩
        have Y1 := Lib.hid (show SP w v1 ([.blk bx 43 #[.int .u8 kd, .int .i64 N], .own .u8 5 B2 nb c2 zs, .blk R 68 (rcells R B2 nb c2 (nxAt nb p f N) (!nxOk nb p f N)), .own .u8 5 Al (nb + 12) (nb + 12) ys, .blk X 87 (ycells A nb cb p f), .row 22 1 Ar (G).length ca ((G).map gV)] ++ ((G).map gIT) ++ [.own .u8 5 Ag ng cg (nxB zs p f N)]) from hS)
        have hgl := Lib.hid (show ng ≤ 131072 by
          have h1 := (show SP w v1 (([.blk bx 43 #[.int .u8 kd, .int .i64 N], .own .u8 5 B2 nb c2 zs, .blk R 68 (rcells R B2 nb c2 (nxAt nb p f N) (!nxOk nb p f N)), .own .u8 5 Al (nb + 12) (nb + 12) ys, .blk X 87 (ycells A nb cb p f), .row 22 1 Ar (G).length ca ((G).map gV)] ++ ((G).map gIT)) ++ [.own .u8 5 Ag ng cg (nxB zs p f N)]) from Y1.out).lastOwn.len
          have h2 := nxB_le zs p f N
          omega)
        clear hS
        have z1 : v1.cell? ⟨bx, 1, none⟩ = some (.int .i64 N) := Y1.out.cell 0 rfl 1 rfl
        go_wp2_with (refine wpList_load_row rfl 87 _ rfl X rfl 87 (ycells A nb cb p f) (0, 0) _ (Y1.out.blk 4 rfl) Try.underlying87 rfl (by kernel_rfl) ?_)
        clear z1
        refine (r1Read_any A nb cb zs p f N _ (R0.out _ Y1.out.bel) hp hnb).mono ?_
        rintro e v2 ⟨Aw, nw, cw, rfl, ho, hb⟩
        have Y2 := Lib.hid (show SP w v2 (.own .u8 5 Aw nw cw (nxB zs p f N) :: ([.blk bx 43 #[.int .u8 kd, .int .i64 N], .own .u8 5 B2 nb c2 zs, .blk R 68 (rcells R B2 nb c2 (nxAt nb p f N) (!nxOk nb p f N)), .own .u8 5 Al (nb + 12) (nb + 12) ys, .blk X 87 (ycells A nb cb p f), .row 22 1 Ar (G).length ca ((G).map gV)] ++ ((G).map gIT) ++ [.own .u8 5 Ag ng cg (nxB zs p f N)])) from (Y1.out.pushOwn hb ho).rot)
        have hwl := Lib.hid (show nw ≤ 131072 by have h1 := ho.len; have h2 := nxB_le zs p f N; omega)
        clear ho hb Y1
        go_wp2_with (refine wpList_store_row rfl 87 _ _ rfl X (ycells A nb cb (nxAt nb p f N) (!nxOk nb p f N)) rfl rfl 87 (ycells A nb cb p f) (Y2.out.blk 5 rfl) (by kernel_rfl) rfl (by unfold ycells; simp [Value.oneCell']) ?_)
        have Y3 := Lib.hid (show SP w (v2.setRow X (ycells A nb cb (nxAt nb p f N) (!nxOk nb p f N))) (.own .u8 5 Aw nw cw (nxB zs p f N) :: ([.blk bx 43 #[.int .u8 kd, .int .i64 N], .own .u8 5 B2 nb c2 zs, .blk R 68 (rcells R B2 nb c2 (nxAt nb p f N) (!nxOk nb p f N)), .own .u8 5 Al (nb + 12) (nb + 12) ys, .blk X 87 (ycells A nb cb (nxAt nb p f N) (!nxOk nb p f N)), .row 22 1 Ar (G).length ca ((G).map gV)] ++ ((G).map gIT) ++ [.own .u8 5 Ag ng cg (nxB zs p f N)])) from Y2.out.setR 5 rfl (ycells A nb cb (nxAt nb p f N) (!nxOk nb p f N)))
        clear Y2
        generalize v2.setRow X (ycells A nb cb (nxAt nb p f N) (!nxOk nb p f N)) = v3 at Y3 ⊢
        have Y4 := Lib.hid (show SP w v3 (.own .u8 5 Ag ng cg (nxB zs p f N) :: ([.own .u8 5 B2 nb c2 zs, .blk R 68 (rcells R B2 nb c2 (nxAt nb p f N) (!nxOk nb p f N)), .own .u8 5 Al (nb + 12) (nb + 12) ys, .blk X 87 (ycells A nb cb (nxAt nb p f N) (!nxOk nb p f N)), .row 22 1 Ar (G).length ca ((G).map gV)] ++ (G).map gIT)) from (show SP w v3 (([.own .u8 5 B2 nb c2 zs, .blk R 68 (rcells R B2 nb c2 (nxAt nb p f N) (!nxOk nb p f N)), .own .u8 5 Al (nb + 12) (nb + 12) ys, .blk X 87 (ycells A nb cb (nxAt nb p f N) (!nxOk nb p f N)), .row 22 1 Ar (G).length ca ((G).map gV)] ++ (G).map gIT) ++ [.own .u8 5 Ag ng cg (nxB zs p f N)]) from Y3.out.tail.tail).rot)
        refine (same_any Ag Aw ng cg nw cw (nxB zs p f N) (nxB zs p f N) _ (Y4.out.rd 0 rfl) (Y3.out.rd 0 rfl) (by have := hgl.out; omega) (by have := hwl.out; omega)).mono ?_
        rw [show (nxB zs p f N == nxB zs p f N) = true by simp]
        rintro e v5 ⟨rfl, md, rfl⟩
        have Y5 := Lib.hid (Y4.out.drewN md)
        clear Y3 Y4 hwl
        generalize v3.drewN md = v6 at Y5 ⊢
        obtain ⟨i9, hi9, hy0, hy1, hy2⟩ := info_parts infoU8s
        have Y6 := Lib.hid (Y5.out.next ((Below.refl _ v6).alloc (Nat.le_refl _) (.cells #[.slice Ag ng cg] 22)))
        go_wp2_with (refine wpList_append_row1 _ rfl _ _ 88 rfl w.heap.size 22 i9 _ 1 24 Try.underlying88 hi9 hy0 hy1 hy2 (by rfl) (by decide) Ar G.length ca (G.map gV) rfl (Y6.out.row 5 rfl) ⟨v6.heap.size, 0, none⟩ 1 1 [.slice Ag ng cg] rfl rfl (one_new v6 22 _) (by intro z hz; simp at hz; subst hz; rfl) (by simp only [maxLen]; omega) (by omega) Y6.out.size ?_; intro Ar' ca' w7 hrow hgrow hat; have Y7 := Lib.hid (Y6.out.appRow 5 rfl hrow hgrow hat); clear hrow hgrow hat)
        go_meet
        have hl : (G ++ [((⟨Ag, ng, cg⟩ : SD), nxB zs p f N)]).length = G.length + 1 := by simp
        have hm : (G ++ [((⟨Ag, ng, cg⟩ : SD), nxB zs p f N)]).map gV = G.map gV ++ [.slice Ag ng cg] := by simp [gV, SD.val]
        have h7 : SP w w7 ([.own .u8 5 B2 nb c2 zs, .blk R 68 (rcells R B2 nb c2 (nxAt nb p f N) (!nxOk nb p f N)), .own .u8 5 Al (nb + 12) (nb + 12) ys, .blk X 87 (ycells A nb cb (nxAt nb p f N) (!nxOk nb p f N)), .row 22 1 Ar' ((G ++ [((⟨Ag, ng, cg⟩ : SD), nxB zs p f N)])).length ca' (((G ++ [((⟨Ag, ng, cg⟩ : SD), nxB zs p f N)])).map gV)] ++ ((G ++ [((⟨Ag, ng, cg⟩ : SD), nxB zs p f N)])).map gIT) := by
          rw [hl, hm]
          have := Y7.out.unrot
          rw [List.map_append, ← List.append_assoc]
          exact this
        refine ⟨(nxAt nb p f N), (!nxOk nb p f N), (G ++ [((⟨Ag, ng, cg⟩ : SD), nxB zs p f N)]), Ar', ca', ys, (nxAt_le hp f N).1, by rw [hl]; omega, ?_, by rw [hl], h7⟩
        intro g hg
        rcases List.mem_append.1 hg with hg | hg
        · exact hG2 g hg
        · simp at hg; subst hg; have := hgl.out; show ng ≤ _; omega
      · have z1 : v0.cell? ⟨bx, 1, none⟩ = some (.int .i64 N) := XB.out.cell 0 rfl 1 rfl
        go_wp2_with fail
        clear z1
        refine (rSkip_any XB.out (i := 2) (j := 1) rfl rfl (by decide) hp hnb N ⟨a1, a2⟩).mono ?_
        rintro e v1 ⟨rfl, hS⟩
        have Y1 := Lib.hid (show SP w v1 ([.blk bx 43 #[.int .u8 kd, .int .i64 N], .own .u8 5 B2 nb c2 zs, .blk R 68 (rcells R B2 nb c2 (nxAt nb p f N) (!nxOk nb p f N)), .own .u8 5 Al (nb + 12) (nb + 12) ys, .blk X 87 (ycells A nb cb p f), .row 22 1 Ar (G).length ca ((G).map gV)] ++ ((G).map gIT)) from hS)
        clear hS
        have z1 : v1.cell? ⟨bx, 1, none⟩ = some (.int .i64 N) := Y1.out.cell 0 rfl 1 rfl
        go_wp2_with (refine wpList_load_row rfl 87 _ rfl X rfl 87 (ycells A nb cb p f) (0, 0) _ (Y1.out.blk 4 rfl) Try.underlying87 rfl (by kernel_rfl) ?_)
        clear z1
        refine (r1Read_any A nb cb zs p f N _ (R0.out _ Y1.out.bel) hp hnb).mono ?_
        rintro e v2 ⟨Ag, ng, cg, rfl, ho, hb⟩
        have Y2 := Lib.hid (show SP w v2 ([.blk bx 43 #[.int .u8 kd, .int .i64 N], .own .u8 5 B2 nb c2 zs, .blk R 68 (rcells R B2 nb c2 (nxAt nb p f N) (!nxOk nb p f N)), .own .u8 5 Al (nb + 12) (nb + 12) ys, .blk X 87 (ycells A nb cb p f), .row 22 1 Ar (G).length ca ((G).map gV)] ++ ((G).map gIT)) from Y1.out.next hb)
        clear ho hb Y1
        go_wp2_with (refine wpList_store_row rfl 87 _ _ rfl X (ycells A nb cb (nxAt nb p f N) (!nxOk nb p f N)) rfl rfl 87 (ycells A nb cb p f) (Y2.out.blk 4 rfl) (by kernel_rfl) rfl (by unfold ycells; simp [Value.oneCell']) ?_)
        go_meet
        have Y3 := (show SP w _ ([.blk bx 43 #[.int .u8 kd, .int .i64 N], .own .u8 5 B2 nb c2 zs, .blk R 68 (rcells R B2 nb c2 (nxAt nb p f N) (!nxOk nb p f N)), .own .u8 5 Al (nb + 12) (nb + 12) ys, .blk X 87 (ycells A nb cb (nxAt nb p f N) (!nxOk nb p f N)), .row 22 1 Ar (G).length ca ((G).map gV)] ++ ((G).map gIT)) from Y2.out.setR 4 rfl (ycells A nb cb (nxAt nb p f N) (!nxOk nb p f N)))
        exact ⟨(nxAt nb p f N), (!nxOk nb p f N), G, Ar, ca, ys, (nxAt_le hp f N).1, hG1, hG2, rfl, Y3.tail⟩
    case rest =>
      clear hp hG1 hG2 XB
      obtain ⟨p, f, G, Ar, ca, ys, hp, hG1, hG2, rfl, Y0⟩ := hcut
      have Z := Lib.hid Y0
      clear Y0
      go_upto_region 40 with fail
      refine reads40 w R X B2 nb c2 p f A cb ([.own .u8 5 B2 nb c2 zs, .blk R 68 (rcells R B2 nb c2 p f), .own .u8 5 Al (nb + 12) (nb + 12) ys, .blk X 87 (ycells A nb cb p f), .row 22 1 Ar (G).length ca ((G).map gV)] ++ (G).map gIT) _ hp hnb rfl rfl Z (Lib.hid ?_)
      intro _ _ _ _ _ _ _ _ _ _ _ _ _ _ _ _ _ _ _ _ _ _ v2 hS
      have Z2 := Lib.hid hS
      clear hS Z
      go_wp2_with fail
      go_roundw
      case rel => exact ⟨i + 1, by omega, by go_num, p, f, G, Ar, ca, ys, hp, hG1, hG2, rfl, Z2.out⟩
      case measure => simp [intOf]; omega

theorem wireReads_walk (A : Option Addr) (nb cb : Nat) (zs : List Int) (AL : Option Addr) (nl cl : Nat) (ll : List (Int × Int)) (w : World) (h : ROW .u8 255 w A nb cb zs) (hn : nb ≤ 140737488351232) (hl : ROWA w AL nl cl ll) :
    Calls Try.prog 5 #[.slice A nb cb, .slice AL nl cl] w fun e w' => e = .returned (.bool true) ∧ Below w.heap.size w w' := by
  have HW := Lib.hid (reads_any A nb cb zs AL nl cl ll w h.rd h.bd hn hl.rd hl.bd)
  clear h hl
  go_enter Try.func5, Try.ntmps5
  go_wp2_with fail
  refine HW.out.mono ?_
  rintro e w1 ⟨rfl, hb⟩
  have HB := Lib.hid hb
  clear hb
  go_wp2_with fail
  refine (awake1_any _).mono ?_
  rintro e w2 ⟨rfl, hb2⟩
  have HB2 := Lib.hid (HB.out.trans (hb2.mono HB.out.size))
  clear hb2
  go_wp2_with fail
  go_ret
  exact ⟨rfl, HB2.out⟩
end Go.Proofs.Ytcipgkpcaecjdaa
