/- The walk of CsumPackets. -/
import Derived.Test.YtfaihaooompojaaWAwake2
import Derived.Test.YtfaihaooompojaaRow
import Derived.Test.YtfaihaooompojaaLaw2
import Derived.Deep.DeepCutAuto
import Derived.Deep.RegionLaw
namespace Go.Proofs.Ytfaihaooompojaa
open Go.RowKit
set_option linter.unusedVariables false

set_option maxHeartbeats 4000000 in
set_option maxRecDepth 100000 in
theorem csumPackets_walk (src dst proto : Int) (A : Option Addr) (n c : Nat) (zs : List Int) (at_ : Int) (w : World) (h : ROW .u8 255 w A n c zs) (h1 : (Lit.int .u32 src).wf = true) (h2 : (Lit.int .u32 dst).wf = true) (h3 : (Lit.int .u8 proto).wf = true) (h4 : (Lit.int .u16 at_).wf = true) :
    Calls Try.prog 5 #[.int .u32 src, .int .u32 dst, .int .u8 proto, .slice A n c, .int .u16 at_] w fun e w' => e = .returned (.bool true) ∧ Below w.heap.size w w' := by
  obtain ⟨s1, s2⟩ := wf_u32 h1
  obtain ⟨d1, d2⟩ := wf_u32 h2
  obtain ⟨p1, p2⟩ := wf_u8 h3
  obtain ⟨a1, a2⟩ := wf_u16 h4
  have hle := h.le
  have hcap := h.cap
  simp only [maxLen] at hcap
  obtain ⟨i0, hi, hz0, hz1, hz2⟩ := info_parts infoU8
  have hmk : ∀ w : World, (Instr.makeSlice 22 (.int .i64 8) (.int .i64 8)).run Try.prog w = .ok (.slice (some ⟨w.heap.size, 0, none⟩) 8 8) (w.alloc (.cells #[.int .u8 0, .int .u8 0, .int .u8 0, .int .u8 0, .int .u8 0, .int .u8 0, .int .u8 0, .int .u8 0] 5)) := fun _ => by kernel_rfl
  go_enter Try.func5, Try.ntmps5
  go_upto_region 3 with (go_at_call 11; refine (awake2_any _).mono ?_; rintro e w1 ⟨rfl, hb1⟩)
  go_cut [3] (fun s3 wx => ∃ (A' : Option Addr) (c' N : Nat) (ys : List Int), 8 ≤ N ∧ N ≤ 3000 ∧ BD 255 ys ∧ s3 = .slice A' N c' ∧ OWN .u8 5 wx w.heap.size A' N c' ys ∧ Below w.heap.size w wx)
  case first =>
    by_cases hm : n ≤ 2992
    · have hm' : ¬ (2992 : Int) < (n : Int) := by omega
      go_region_law ((refine step_append_rd _ (by rfl) _ _ _ (by rfl) .u8 w.heap.size 5 i0 1 Try.underlying22 hi hz0 hz1 hz2 (some ⟨w1.heap.size, 0, none⟩) 8 8 [0, 0, 0, 0, 0, 0, 0, 0] (by rfl) (by exact OWN.lit w1 .u8 5 w.heap.size [0, 0, 0, 0, 0, 0, 0, 0] hb1.size (by decide)) w.heap.size A n c zs (by rfl) (by exact (h.rd.below hb1).alloc hb1.size _) (by simp only [maxLen]; omega) (by omega) (by have := hb1.size; simp; omega) ?_; intro A' c' w' happ))
      all_goals
        go_wp2_with fail
        go_meet
        have hown := happ.own
        refine ⟨A', c', 8 + n, _, by omega, by omega, ?_, rfl, hown, (((hb1.alloc hb1.size _).drew).trans (happ.keepBelow (fun g hg => by simp at hg; subst hg; exact hb1.size) (by have := hb1.size; simp; omega)))⟩
        intro y hy
        rcases List.mem_append.1 hy with hy | hy
        · simp at hy; omega
        · exact h.bd y (by first | exact hy | exact List.mem_of_mem_take hy)
    · have hm' : (2992 : Int) < (n : Int) := by omega
      have hc' : (2992 : Int) ≤ (c : Int) := by omega
      go_region_law ((refine step_append_rd _ (by rfl) _ _ _ (by rfl) .u8 w.heap.size 5 i0 1 Try.underlying22 hi hz0 hz1 hz2 (some ⟨w1.heap.size, 0, none⟩) 8 8 [0, 0, 0, 0, 0, 0, 0, 0] (by rfl) (by exact OWN.lit w1 .u8 5 w.heap.size [0, 0, 0, 0, 0, 0, 0, 0] hb1.size (by decide)) w.heap.size A 2992 c (zs.take 2992) (by rfl) (by exact (h.rd.below hb1).alloc hb1.size _ |>.take (by omega)) (by simp only [maxLen]; omega) (by omega) (by have := hb1.size; simp; omega) ?_; intro A' c' w' happ))
      all_goals
        go_wp2_with fail
        go_meet
        have hown := happ.own
        refine ⟨A', c', 8 + 2992, _, by omega, by omega, ?_, rfl, hown, (((hb1.alloc hb1.size _).drew).trans (happ.keepBelow (fun g hg => by simp at hg; subst hg; exact hb1.size) (by have := hb1.size; simp; omega)))⟩
        intro y hy
        rcases List.mem_append.1 hy with hy | hy
        · simp at hy; omega
        · exact h.bd y (by first | exact hy | exact List.mem_of_mem_take hy)
  case rest =>
    obtain ⟨A1, c1, N, ys, hN1, hN2, hys, rfl, own1, HB⟩ := hcut
    clear hb1 hmk h
    have q0 : (0 : Int) ≤ at_ % ((N : Int) / 2) := Int.emod_nonneg _ (by omega)
    have q1 : at_ % ((N : Int) / 2) < (N : Int) / 2 := Int.emod_lt_of_pos _ (by omega)
    go_upto_region 4 with fail
    go_cut [11] (fun s11 wx => wx = wc ∧ ∃ p : Nat, p % 2 = 0 ∧ p + 2 ≤ N ∧ s11 = .int .i64 p)
    case first =>
      go_wp2_with fail
      go_meet
      refine ⟨rfl, (at_ % ((N : Int) / 2) * 2).toNat, by omega, by omega, ?_⟩
      rw [Int.toNat_of_nonneg (by omega)]
    case rest =>
      obtain ⟨rfl, p, hp1, hp2, rfl⟩ := hcut
      clear q0 q1
      obtain ⟨g, rfl, hg1, hg2, hnc, hcm⟩ := own1.form (by omega)
      have x1 := own1.cell (i := p) (by omega)
      have x2 := own1.cell (i := p + 1) (by omega)
      have x3 := own1.frozen p
      have x4 := own1.frozen (p + 1)
      go_wp2_with fail
      have own2 := own1.two p 0 0
      have HB2 := Below.two (i := p) (u := .int .u8 0) (v := .int .u8 0) HB hg1
      generalize (wc.setCell ⟨g, p, none⟩ (.int .u8 0)).setCell ⟨g, p + 1, none⟩ (.int .u8 0) = w2 at own2 HB2 ⊢
      clear x1 x2 x3 x4 own1 HB hg2
      refine (pseudo_any src dst proto N w2 s1 s2 d1 d2 p1 p2 (by omega) (by omega)).mono ?_
      rintro e w3 ⟨rfl, hb⟩
      have hPB : BD 65535 [src / 65536, src % 65536, dst / 65536, dst % 65536, proto, (N : Int)] := fun y hy => by simp at hy; omega
      have hP := foldJ_bd [src / 65536, src % 65536, dst / 65536, dst % 65536, proto, (N : Int)] (s := 0) (by omega) (by omega) hPB
      have hP1 : 1 ≤ foldJ 0 [src / 65536, src % 65536, dst / 65536, dst % 65536, proto, (N : Int)] := by
        rw [foldJ0_eq _ hPB]
        simp only [isum]
        unfold foldR
        split <;> omega
      generalize foldJ 0 [src / 65536, src % 65536, dst / 65536, dst % 65536, proto, (N : Int)] = P at hP hP1 ⊢
      obtain ⟨hP0, hP2⟩ := hP
      clear hPB
      replace own2 := own2.below hb
      replace HB2 := HB2.trans (hb.mono HB2.size)
      clear hb
      have hz2 : BD 255 (put2 ys p 0 0) := put2_bd hys (by omega) (by omega)
      go_wp2_with fail
      refine (over_any P hP0 hP2 _ N c1 (put2 ys p 0 0) w3 own2.rd hz2 (by omega)).mono ?_
      rintro e w4 ⟨rfl, hb⟩
      replace own2 := own2.below hb
      replace HB2 := HB2.trans (hb.mono HB2.size)
      clear hb
      go_wp2_with fail
      refine (over_any P hP0 hP2 _ N c1 (put2 ys p 0 0) w4 own2.rd hz2 (by omega)).mono ?_
      rintro e w5 ⟨rfl, hb⟩
      replace own2 := own2.below hb
      replace HB2 := HB2.trans (hb.mono HB2.size)
      clear hb
      go_wp2_with fail
      refine (never_any _ w5).mono ?_
      rintro e w6 ⟨rfl, rfl⟩
      have hv1 := packet_right hP0 hP2 hys hp1 (by rw [show ys.length = N by have := own2.len; rwa [put2_len] at this]; exact hp2) (v := 65535 - stepJ P (sumOf (put2 ys p 0 0))) (.inl rfl)
      have hv2 := packet_right hP0 hP2 hys hp1 (by rw [show ys.length = N by have := own2.len; rwa [put2_len] at this]; exact hp2) (v := if 65535 - stepJ P (sumOf (put2 ys p 0 0)) = 0 then 65535 else 65535 - stepJ P (sumOf (put2 ys p 0 0))) (by split <;> simp_all)
      generalize (if 65535 - stepJ P (sumOf (put2 ys p 0 0)) = 0 then 65535 else 65535 - stepJ P (sumOf (put2 ys p 0 0))) = v2 at hv2 ⊢
      generalize 65535 - stepJ P (sumOf (put2 ys p 0 0)) = v1 at hv1 ⊢
      go_wp2_with fail
      have hcells : ∀ j, j < 2 → ∃ v, (w5.alloc (.cells #[.int .u16 v1, .int .u16 v2] 29)).cell? ⟨w5.heap.size, 0 + j, none⟩ = some (.int .u16 v) ∧ 0 ≤ v ∧ v ≤ 65535 ∧ stepJ P (sumOf (put2 ys p (v / 256) (v % 256))) = 65535 := by
        intro j hj
        rw [World.cell?_alloc_new]
        match j, hj with
        | 0, _ => exact ⟨v1, by simp, hv1⟩
        | 1, _ => exact ⟨v2, by simp, hv2⟩
      have hgz : w.heap.size ≤ w5.heap.size := HB2.size
      have hne : g < w5.heap.size := (own2.lt g rfl).2
      have HB3 := HB2.alloc HB2.size (.cells #[.int .u16 v1, .int .u16 v2] 29)
      have own3 := own2.alloc (.cells #[.int .u16 v1, .int .u16 v2] 29)
      have hgs : w5.heap.size < (w5.alloc (.cells #[.int .u16 v1, .int .u16 v2] 29)).heap.size := by simp
      generalize w5.alloc (.cells #[.int .u16 v1, .int .u16 v2] 29) = w6 at hcells HB3 own3 hgs ⊢
      clear hv1 hv2 own2 HB2
      generalize w5.heap.size = g2 at hcells hgz hne hgs ⊢
      have HC := Lib.hid hcells
      clear hcells
      go_loopw [59] (fun i wr => ∃ j : Nat, j ≤ 2 ∧ i = .int .i64 j ∧ (∃ x y : Int, OWN .u8 5 wr w.heap.size (some ⟨g, 0, none⟩) N c1 (put2 ys p x y)) ∧ Below w.heap.size w wr ∧ wr.heap[g2]? = w6.heap[g2]? ∧ g2 < wr.heap.size) (fun i _ => 2 - (intOf i).toNat)
      case atStart => exact ⟨0, by omega, rfl, ⟨0, 0, own3⟩, HB3, rfl, hgs⟩
      case round =>
        obtain ⟨j, hj, rfl, ⟨x, y, own⟩, HB, hblk, hgs2⟩ := hrel
        clear own3 HB3 hgs
        by_cases hlt : j < 2
        · obtain ⟨v, hx, hv0, hv1, hv2⟩ := HC.out j hlt
          rw [Nat.zero_add] at hx
          have hx' : wr.cell? ⟨g2, j, none⟩ = some (.int .u16 v) := (World.cell?_of_block (w := w6) hblk).trans hx
          have HV := Lib.hid hv2
          have HX := Lib.hid hblk
          clear hx hv2 hblk
          have x1 := own.cell (i := p) (by omega)
          have x2 := own.cell (i := p + 1) (by omega)
          have x3 := own.frozen p
          have x4 := own.frozen (p + 1)
          have e1 := u8_in (v / 256) (by omega) (by omega)
          have e2 := u8_mod v
          go_wp2_with fail
          have own2 := own.two p (v / 256) (v % 256)
          rw [put2_put2] at own2
          have HB2 := Below.two (i := p) (u := .int .u8 (v / 256)) (v := .int .u8 (v % 256)) HB hg1
          have hblk2 : ((wr.setCell ⟨g, p, none⟩ (.int .u8 (v / 256))).setCell ⟨g, p + 1, none⟩ (.int .u8 (v % 256))).heap[g2]? = w6.heap[g2]? := by
            rw [Below.heap_setCell _ _ _ _ (by simp; omega), Below.heap_setCell _ _ _ _ (by simp; omega)]; exact HX.out
          have hgs3 : g2 < ((wr.setCell ⟨g, p, none⟩ (.int .u8 (v / 256))).setCell ⟨g, p + 1, none⟩ (.int .u8 (v % 256))).heap.size := by simp [World.setCell]; exact hgs2
          generalize (wr.setCell ⟨g, p, none⟩ (.int .u8 (v / 256))).setCell ⟨g, p + 1, none⟩ (.int .u8 (v % 256)) = w7 at own2 HB2 hblk2 hgs3 ⊢
          clear x1 x2 x3 x4 e1 e2 own HB hx' hgs2
          have HX2 := Lib.hid hblk2
          clear hblk2 HX
          have hz3 : BD 255 (put2 ys p (v / 256) (v % 256)) := put2_bd hys (by omega) (by omega)
          obtain ⟨hs1, hs2⟩ := sumOf_bd _ hz3
          refine (sum_any _ N c1 (put2 ys p (v / 256) (v % 256)) w7 own2.rd hz3 (by omega)).mono ?_
          rintro e w8 ⟨rfl, hb⟩
          have own4 := own2.below hb
          have HB4 := HB2.trans (hb.mono HB2.size)
          have HX4 := Lib.hid ((hb.block g2 hgs3).trans HX2.out)
          have hgs4 : g2 < w8.heap.size := Nat.lt_of_lt_of_le hgs3 hb.size
          clear hb own2 HB2 HX2 hgs3
          go_wp2_with fail
          refine (join_any _ 2 _ [P, sumOf (put2 ys p (v / 256) (v % 256))] _ (RD.new w8 .u16 29 _) (fun y hy => by simp at hy; omega) (by omega)).mono ?_
          rintro e w9 ⟨rfl, rfl⟩
          rw [foldJ_two _ _ hP0 hP2, HV.out]
          replace own4 := own4.alloc (.cells #[.int .u16 P, .int .u16 (sumOf (put2 ys p (v / 256) (v % 256)))] 29)
          replace HB4 := HB4.alloc HB4.size (.cells #[.int .u16 P, .int .u16 (sumOf (put2 ys p (v / 256) (v % 256)))] 29)
          replace HX4 := Lib.hid ((Below.heap_alloc w8 (.cells #[.int .u16 P, .int .u16 (sumOf (put2 ys p (v / 256) (v % 256)))] 29) g2 hgs4).trans HX4.out)
          have hgs5 : g2 < (w8.alloc (.cells #[.int .u16 P, .int .u16 (sumOf (put2 ys p (v / 256) (v % 256)))] 29)).heap.size := by simp; omega
          go_wp2_with fail
          refine (over_any P hP0 hP2 _ N c1 _ _ own4.rd hz3 (by omega)).mono ?_
          rintro e w10 ⟨rfl, hb⟩
          rw [HV.out]
          have own5 := own4.below hb
          have HB5 := HB4.trans (hb.mono HB4.size)
          have HX5 := (hb.block g2 hgs5).trans HX4.out
          have hgs6 := Nat.lt_of_lt_of_le hgs5 hb.size
          clear own4 HB4 HX4 hgs5 hb
          have HX6 := Lib.hid HX5
          clear HX5
          go_wp2_with fail
          go_roundw
          case rel => exact ⟨j + 1, by omega, by go_num, ⟨_, _, own5⟩, HB5, HX6.out, hgs6⟩
          case measure => simp [intOf]; omega
        · have HX := Lib.hid hblk
          clear hblk
          go_wp2_with fail
          refine (never_any 0 wr).mono ?_
          rintro e w7 ⟨rfl, rfl⟩
          have hPne : (P == 0) = false := by simp; omega
          have hNne : ((N : Int) == 0) = false := by simp; omega
          go_wp2_with fail
          all_goals (go_ret; exact ⟨rfl, HB⟩)
end Go.Proofs.Ytfaihaooompojaa
