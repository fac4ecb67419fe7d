import Derived.Test.YthdpcblmmjocmaaWTcWd
import Derived.Test.YthdpcblmmjocmaaWTcV
import Derived.Test.YthdpcblmmjocmaaWCopy
/- package tcp: Write. (Printed by gen_tcw2.py.) -/
namespace Go.Proofs.Ythdpcblmmjocmaa
open Go.RowKit
set_option linter.unusedVariables false
attribute [local go_sem ↓] Go.wp_at_zero Go.wp_at_succ

theorem tPkt_splice (h : TH) (os data : List Int) (c : Int) : spliceZ (tPkt0 h os data) 16 (w2s [c]) = tHead h os.length c ++ os ++ data := by simp [spliceZ, tPkt0, tHead, w2s, w2, w4]
/-- what Write gives -/
def TWrote (w : World) (zs : List Int) (er : Int) (e : Ending) (w' : World) : Prop :=
  ∃ A n c, e = .returned (.tuple #[.slice A n c, .int .i64 er]) ∧ OWN .u8 5 w' w.heap.size A n c zs ∧ Below w.heap.size w w'
theorem TWrote.no {w w' : World} {h : TH} {on dn : Nat} {os data : List Int} {s d : Int} (hw : TWrong h on dn) (h1 : os.length = on) (h2 : data.length = dn) (hb : Below w.heap.size w w') :
    TWrote w (tB h os s d data) (tE h on dn) (.returned (.tuple #[.slice none 0 0, .int .i64 2])) w' :=
  ⟨none, 0, 0, by rw [tE, if_pos hw], by rw [tB, h1, h2, if_pos hw]; exact OWN.nil, hb⟩

set_option maxHeartbeats 8000000 in
set_option maxRecDepth 100000 in
theorem tcwrite_any (h : TH) (hwf : h.WF) (Ao : Option Addr) (on oc : Nat) (os : List Int) (s d : Int) (Ad : Option Addr) (dn dc : Nat) (data : List Int) (w : World) (ro : RD .u8 w w.heap.size Ao on os) (bo : BD 255 os) (hon : on ≤ 140737488351232)
    (hs : 0 ≤ s ∧ s ≤ 4294967295) (hd : 0 ≤ d ∧ d ≤ 4294967295) (rd : RD .u8 w w.heap.size Ad dn data) (bd : BD 255 data) (hdn : dn ≤ 140737488351232) :
    Calls Try.prog 17 #[.agg (h.cells (.slice Ao on oc)), .int .u32 s, .int .u32 d, .slice Ad dn dc] w (TWrote w (tB h os s d data) (tE h on dn)) := by
  obtain ⟨sp, dp, sq, ak, fl, wi, ug⟩ := h
  have HWF := Lib.hid hwf
  have HL := Lib.hid (And.intro ro.len rd.len)
  obtain ⟨i0, hi, hz0, hz1, hz2⟩ := info_parts infoU8
  have hsz1 : (Try.prog.info? 5).map (·.size) = some 1 := by rw [hi]; simp [hz1]
  have RO := Lib.hid (fun (W : World) (hb : Below w.heap.size w W) => (show RD .u8 W W.heap.size Ao on os from (ro.below hb).more hb.size))
  have RD2 := Lib.hid (fun (W : World) (hb : Below w.heap.size w W) => (show RD .u8 W W.heap.size Ad dn data from (rd.below hb).more hb.size))
  have S0 := (SP.start w).alloc 28 ((TH.mk sp dp sq ak fl wi ug).cells (.slice Ao on oc))
  have HSN0 := Lib.hid (fun W => sane_any fl W hwf.fl)
  obtain ⟨s0, s1⟩ := hs
  obtain ⟨d0, d1⟩ := hd
  clear ro rd hwf
  go_enter Try.func17, Try.ntmps17
  go_upto_region 1 with fail
  change Code.wp _ _ _ _ (w.alloc (.cells ((TH.mk sp dp sq ak fl wi ug).cells (.slice Ao on oc)) 28))
  generalize w.alloc (.cells ((TH.mk sp dp sq ak fl wi ug).cells (.slice Ao on oc)) 28) = w1 at S0 ⊢
  obtain ⟨N, hN⟩ : ∃ N, N = w.heap.size := ⟨_, rfl⟩
  rw [← hN] at S0 ⊢
  have HN := Lib.hid hN
  have X := Lib.hid S0
  clear hN S0
  have HB := Lib.hid X.out.bel
  have HSN := Lib.hid (HSN0.out w1)
  have c0 : w1.cell? ⟨N, 0, none⟩ = some (.int .u16 sp) := X.out.cell 0 rfl 0 rfl
  have c1 : w1.cell? ⟨N, 1, none⟩ = some (.int .u16 dp) := X.out.cell 0 rfl 1 rfl
  have c4 : w1.cell? ⟨N, 4, none⟩ = some (.int .u8 fl) := X.out.cell 0 rfl 4 rfl
  have c7 : w1.cell? ⟨N, 7, none⟩ = some (.slice Ao on oc) := X.out.cell 0 rfl 7 rfl
  by_cases h0 : sp = 0
  · have HW := Lib.hid (show TWrong (TH.mk sp dp sq ak fl wi ug) on dn from .inl h0)
    have t0 : (sp == 0) = true := by simp [h0]
    clear h0
    go_wp2_with fail
    go_ret2
    exact .no HW.out HL.out.1 HL.out.2 HB.out
  have t0 : (sp == 0) = false := by simp [h0]
  by_cases h1 : dp = 0
  · have HW := Lib.hid (show TWrong (TH.mk sp dp sq ak fl wi ug) on dn from .inr (.inl h1))
    have t1 : (dp == 0) = true := by simp [h1]
    clear h0 h1
    go_wp2_with fail
    go_ret2
    exact .no HW.out HL.out.1 HL.out.2 HB.out
  have t1 : (dp == 0) = false := by simp [h1]
  cases hsn : saneB fl with
  | false =>
    have HW := Lib.hid (show TWrong (TH.mk sp dp sq ak fl wi ug) on dn from .inr (.inr (.inl hsn)))
    rw [hsn] at HSN
    clear h0 h1 hsn
    go_wp2_with (go_at_call 20; refine HSN.out.mono ?_; rintro e w2 ⟨rfl, rfl⟩)
    go_ret2
    exact .no HW.out HL.out.1 HL.out.2 HB.out
  | true =>
  rw [hsn] at HSN
  by_cases h2 : 40 < on
  · have HW := Lib.hid (show TWrong (TH.mk sp dp sq ak fl wi ug) on dn from .inr (.inr (.inr (.inl h2))))
    have t2 : (40 : Int) < (on : Int) := by omega
    clear h0 h1 hsn
    go_wp2_with (go_at_call 20; refine HSN.out.mono ?_; rintro e w2 ⟨rfl, rfl⟩)
    go_ret2
    exact .no HW.out HL.out.1 HL.out.2 HB.out
  have t2 : ¬ (40 : Int) < (on : Int) := by omega
  by_cases h3 : on % 4 ≠ 0
  · have HW := Lib.hid (show TWrong (TH.mk sp dp sq ak fl wi ug) on dn from .inr (.inr (.inr (.inr (.inl h3)))))
    have t3 : ((20 + (on : Int)) % 4 != 0) = true := by simp; omega
    clear h0 h1 hsn h3
    go_wp2_with (go_at_call 20; refine HSN.out.mono ?_; rintro e w2 ⟨rfl, rfl⟩)
    go_ret2
    exact .no HW.out HL.out.1 HL.out.2 HB.out
  have t3 : ((20 + (on : Int)) % 4 != 0) = false := by simp; omega
  by_cases h4 : 65515 < 20 + on + dn
  · have HW := Lib.hid (show TWrong (TH.mk sp dp sq ak fl wi ug) on dn from .inr (.inr (.inr (.inr (.inr h4)))))
    have t4 : (65515 : Int) < 20 + (on : Int) + (dn : Int) := by omega
    clear h0 h1 hsn h3
    go_wp2_with (go_at_call 20; refine HSN.out.mono ?_; rintro e w2 ⟨rfl, rfl⟩)
    go_ret2
    exact .no HW.out HL.out.1 HL.out.2 HB.out
  have t4 : ¬ (65515 : Int) < 20 + (on : Int) + (dn : Int) := by omega
  have HW := Lib.hid (show ¬ TWrong (TH.mk sp dp sq ak fl wi ug) on dn by unfold TWrong; intro h; rcases h with h | h | h | h | h | h; exact h0 h; exact h1 h; rw [hsn] at h; cases h; all_goals omega)
  have ho4 : on % 4 = 0 := by omega
  clear h0 h1 hsn h3
  go_upto_region 4 with (go_at_call 20; refine HSN.out.mono ?_; rintro e w2 ⟨rfl, rfl⟩)
  clear c0 c1 c4 c7 HSN HSN0
  obtain ⟨q, hq⟩ : ∃ q : Int, (20 + (on : Int)) / 4 = q := ⟨_, rfl⟩
  have hqb : 0 ≤ q ∧ q ≤ 15 := by omega
  have HP := Lib.hid (show SL.all [⟨none, 4, 0, w2s [sp, dp]⟩, ⟨none, 8, 0, w4s [sq, ak]⟩, ⟨none, 2, 0, [q * 16, fl]⟩, ⟨none, 6, 0, w2s [wi, 0, ug]⟩, ⟨none, on, 0, os⟩, ⟨none, dn, 0, data⟩] = tPkt0 (TH.mk sp dp sq ak fl wi ug) os data by
    simp [SL.all, tPkt0, tHead, w2s, w4s, HL.out.1, hq])
  have hqt : (20 + (on : Int)).tdiv 4 = q := by rw [Int.tdiv_eq_ediv_of_nonneg (by omega)]; exact hq
  clear hq
  refine wp_region_noPanic ?_
  refine wp_region_held_drew (S := (fun W => W.cell? ⟨N, 0, none⟩ = some (.int .u16 sp) ∧ W.cell? ⟨N, 1, none⟩ = some (.int .u16 dp) ∧ W.cell? ⟨N, 2, none⟩ = some (.int .u32 sq) ∧ W.cell? ⟨N, 3, none⟩ = some (.int .u32 ak) ∧ W.cell? ⟨N, 4, none⟩ = some (.int .u8 fl) ∧ W.cell? ⟨N, 5, none⟩ = some (.int .u16 wi) ∧ W.cell? ⟨N, 6, none⟩ = some (.int .u16 ug) ∧ W.cell? ⟨N, 7, none⟩ = some (.slice Ao on oc))) (by kernel_rfl) (by exact ⟨X.out.cell 0 rfl 0 rfl, X.out.cell 0 rfl 1 rfl, X.out.cell 0 rfl 2 rfl, X.out.cell 0 rfl 3 rfl, X.out.cell 0 rfl 4 rfl, X.out.cell 0 rfl 5 rfl, X.out.cell 0 rfl 6 rfl, X.out.cell 0 rfl 7 rfl⟩) (fun hHeld => ?_)
  clear hHeld
  refine wtc4_0 w N sp dp sq ak fl wi ug q Ao on oc Ad dn dc os data RO RD2 HP HWF.out.sp HWF.out.dp HWF.out.sq HWF.out.ak HWF.out.wi HWF.out.ug (by omega) (by omega) hqb hqt _ (Lib.hid X.out.drew) (Lib.hid ?_)
  intro y50 y51 y52 y53 y54 y55 y56 y57 y58 y59 y60 y61 y62 y63 y64 y65 y66 y67 y68 y69 y70 y71 y72 y73 y74 y75 y76 y77 y78 y79 g54 A55 c55 g60 A61 c61 g68 g73 A74 c74 g78 A79 n79 c79 w2 hX2
  have X2 := Lib.hid hX2
  have hlen := (hX2.own 1 rfl).len
  have hl0 : (tPkt0 (TH.mk sp dp sq ak fl wi ug) os data).length = 20 + on + dn := by unfold tPkt0; simp [tHead_len, HL.out.1, HL.out.2]; omega
  rw [hl0] at hlen
  subst hlen
  have hcap := (hX2.own 1 rfl).le
  obtain ⟨g, rfl, hg1, hg2, _⟩ := (hX2.own 1 rfl).form (by omega)
  clear hX2 X hl0
  have hps := tPs_bd (L := ((20 + on + dn : Nat) : Int)) ⟨s0, s1⟩ ⟨d0, d1⟩ (by omega)
  obtain ⟨p, hp⟩ : ∃ p, tPs s d ((20 + on + dn : Nat) : Int) = p := ⟨_, rfl⟩
  rw [hp] at hps
  obtain ⟨p0, p1⟩ := hps
  have HPS := Lib.hid hp
  clear hp
  obtain ⟨n79, hn79⟩ : ∃ n, 20 + on + dn = n := ⟨_, rfl⟩
  rw [hn79] at X2 hcap HPS ⊢
  have hnb : 20 ≤ n79 ∧ n79 ≤ 65515 := by omega
  have HN79 := Lib.hid hn79
  clear hn79
  obtain ⟨nb0, nb1⟩ := hnb
  go_upto_region 5 with fail
  go_wp2_with fail
  refine (pseudo_any s d 6 (n79 : Int) _ s0 s1 d0 d1 (by omega) (by omega) (by omega) (by omega)).mono ?_
  rintro e w3 ⟨rfl, hb3⟩
  rw [show foldJ 0 [s / 65536, s % 65536, d / 65536, d % 65536, 6, (n79 : Int)] = p from HPS.out]
  have X3 := Lib.hid (X2.out.next hb3)
  clear hb3 X2
  go_upto_region 6 with fail
  have HBD := Lib.hid (show BD 255 (tPkt0 (TH.mk sp dp sq ak fl wi ug) os data) from ((tHead_bd HWF.out (by rw [HL.out.1]; omega) (by omega)).append bo).append bd)
  have hsb := sumOf_bd _ HBD.out
  have hjb := stepJ_bd p0 p1 hsb.1 hsb.2
  have HC := Lib.hid (show 65535 - stepJ p (sumOf (tPkt0 (TH.mk sp dp sq ak fl wi ug) os data)) = tC (TH.mk sp dp sq ak fl wi ug) os s d data by
    unfold tC; rw [← HPS.out, HL.out.1, HL.out.2, ← HN79.out, show (20 + (on : Int) + (dn : Int)) = ((20 + on + dn : Nat) : Int) by omega])
  have hcb : 0 ≤ tC (TH.mk sp dp sq ak fl wi ug) os s d data ∧ tC (TH.mk sp dp sq ak fl wi ug) os s d data ≤ 65535 := by rw [← HC.out]; omega
  obtain ⟨c, hc⟩ : ∃ c, tC (TH.mk sp dp sq ak fl wi ug) os s d data = c := ⟨_, rfl⟩
  rw [hc] at HC hcb
  have HCC := Lib.hid hc
  clear hc hsb hjb
  have sl := fun W => run_slice_lo (P := Try.prog) W Try.underlying22 hi hz1 (some ⟨g, 0, none⟩) n79 c79 16 16 rfl (by omega)
  have X4 := Lib.hid X3.out.drew
  refine wp_region_noPanic ?_
  refine wp_region_held_drew (S := fun _ => True) (by kernel_rfl) (by trivial) (fun hHeld => ?_)
  generalize w3.drew = v4 at X4 hHeld ⊢
  refine' take_lit (i := 0) (v := _) rfl (by kernel_rfl) (by kernel_rfl) (by kernel_rfl) (fun _ _ _ h => h) (Or.inl ⟨by rfl, ?yy1⟩) (by assumption) ?rr1
  case yy1 => intro w' hSw; (try dsimp only at hSw); go_simp; try (with_reducible rfl)
  (try simp only [Act.put]); (try simp only [List.setIfInBounds_toArray, List.set_cons_zero, List.set_cons_succ])
  refine' take_lit (i := 1) (v := _) rfl (by kernel_rfl) (by kernel_rfl) (by kernel_rfl) (fun _ _ _ h => h) (Or.inl ⟨by rfl, ?yy2⟩) (by assumption) ?rr2
  case yy2 => intro w' hSw; (try dsimp only at hSw); go_simp; try (with_reducible rfl)
  (try simp only [Act.put]); (try simp only [List.setIfInBounds_toArray, List.set_cons_zero, List.set_cons_succ])
  refine' take_lit (i := 2) (v := _) rfl (by kernel_rfl) (by kernel_rfl) (by kernel_rfl) (fun _ _ _ h => h) (Or.inl ⟨by rfl, ?yy3⟩) (by assumption) ?rr3
  case yy3 => intro w' hSw; (try dsimp only at hSw); go_simp; try (with_reducible rfl)
  (try simp only [Act.put]); (try simp only [List.setIfInBounds_toArray, List.set_cons_zero, List.set_cons_succ])
  refine' take_lit (i := 3) (v := _) rfl (by kernel_rfl) (by kernel_rfl) (by kernel_rfl) (fun _ _ _ h => h) (Or.inl ⟨by rfl, ?yy4⟩) (by assumption) ?rr4
  case yy4 => intro w' hSw; (try dsimp only at hSw); go_simp; try (with_reducible rfl)
  (try simp only [Act.put]); (try simp only [List.setIfInBounds_toArray, List.set_cons_zero, List.set_cons_succ])
  refine wpAnyH_ready (rs := [4]) (by kernel_rfl) (by simp) ?_
  refine cons_lit rfl (fun K hK => ?ss4x5) AllReadyH.nil
  case ss4x5 =>
    go_simp
    refine (over_any p p0 p1 (some ⟨g, 0, none⟩) n79 c79 _ _ (X4.out.rd 1 rfl) HBD.out (by omega)).mono ?_
    rintro e v5 ⟨rfl, hb⟩
    rw [HC.out]
    have X5 := Lib.hid (X4.out.next hb)
    clear hb
    refine hK.out _ _ (by trivial) (fun hHeld => ?_)
    clear hK K
    (try simp only [Act.put]); (try simp only [List.setIfInBounds_toArray, List.set_cons_zero, List.set_cons_succ])
    refine wpAnyH_ready (rs := [5]) (by kernel_rfl) (by simp) ?_
    refine cons_lit rfl (fun K hK => ?ss5x6) AllReadyH.nil
    case ss5x6 =>
      go_simp
      refine nameW' (fun v6 hv => ?_)
      have X6 := Lib.hid (show SP w v6 _ by rw [hv]; exact X5.out.allocI .u16 26 [c] (by simp [maxLen]))
      clear hv
      refine hK.out _ _ (by trivial) (fun hHeld => ?_)
      clear hK K
      (try simp only [Act.put]); (try simp only [List.setIfInBounds_toArray, List.set_cons_zero, List.set_cons_succ])
      refine wpAnyH_ready (rs := [6]) (by kernel_rfl) (by simp) ?_
      refine cons_lit rfl (fun K hK => ?ss6x7) AllReadyH.nil
      case ss6x7 =>
        go_simp
        refine (tcwords_any _ 1 1 [c] _ (X6.out.rd 2 rfl) (show BD 65535 [c] by intro x hx; simp at hx; omega) (by decide)).mono ?_
        rintro e v7 ⟨A94, c94, rfl, own, hb⟩
        have X7 := Lib.hid (X6.out.pushOwn hb own)
        clear own hb
        refine hK.out _ _ (by trivial) (fun hHeld => ?_)
        clear hK K
        (try simp only [Act.put]); (try simp only [List.setIfInBounds_toArray, List.set_cons_zero, List.set_cons_succ])
        refine wpAnyH_ready (rs := [7]) (by kernel_rfl) (by simp) ?_
        refine cons_lit rfl (fun K hK => ?ss7x8) AllReadyH.nil
        case ss7x8 =>
          refine step_copy_rd (by rfl) _ _ 22 22 (by rfl) Try.underlying22 hsz1 (X7.out.own 1 rfl) (lo := 16) (by omega) (by rfl) (by rfl) (by rfl) (X7.out.rd 3 rfl) (show 2 ≤ n79 - 16 by omega) ?_
          intro v8 own8 hb8
          have hbel := X7.out.bel.trans (hb8.mono hg1)
          refine hK.out _ _ (by trivial) (fun hHeld => ?_)
          clear hK K
          (try simp only [Act.put]); (try simp only [List.setIfInBounds_toArray, List.set_cons_zero, List.set_cons_succ])
          refine wpAnyH_done (by kernel_rfl) ?_ _
          refine NoPanic.normal ?_
          go_wp2_with fail
          go_ret2
          refine ⟨some ⟨g, 0, none⟩, n79, c79, by rw [tE, if_neg HW.out]; rfl, ?_, hbel⟩
          rw [tPkt_splice] at own8
          rw [tB, HL.out.1, HL.out.2, if_neg HW.out, tPkt, HCC.out]
          exact own8
end Go.Proofs.Ythdpcblmmjocmaa
