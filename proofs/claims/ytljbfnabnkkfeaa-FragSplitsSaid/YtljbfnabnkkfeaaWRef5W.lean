/- baffleref05: Write, Hop, Turn. (Printed by gen_ref5w.py.) -/
import Derived.Test.YtljbfnabnkkfeaaWRef5Read
import Derived.Test.YtljbfnabnkkfeaaWTells2
import Derived.Deep.DeepCutAuto
namespace Go.Proofs.Ytljbfnabnkkfeaa
open Go.RowKit
set_option linter.unusedVariables false
attribute [local go_sem ↓] Go.wp_at_zero Go.wp_at_succ

theorem SP.two {w0 w : World} {a b : IT} {L : List IT} (H : SP w0 w (a :: b :: L)) : SP w0 w [a, b] := H.pick [0, 1] (by decide) rfl

def offM (h : HD) : Int := h.off / 8 + if h.mf then 8192 else 0
theorem offM_bd {h : HD} {ol : Nat} {n : Int} (hr : Rightly h.off h.mf ol n) : 0 ≤ offM h ∧ offM h ≤ 16383 := by
  obtain ⟨h1, h2, h3, _⟩ := hr
  unfold offM
  split <;> omega
theorem offM_df (h : HD) : flagsW h = offM h + if h.df then 16384 else 0 := by
  unfold flagsW offM
  split <;> split <;> omega

set_option maxHeartbeats 2000000 in
set_option maxRecDepth 100000 in
theorem r5Write_any (h : HD) (A : Option Addr) (n c : Nat) (opts : List Int) (Ad : Option Addr) (dn dc : Nat) (data : List Int) (w : World) (hwf : h.WF) (ro : RD .u8 w w.heap.size A n opts) (bo : BD 255 opts) (rd : RD .u8 w w.heap.size Ad dn data) (hn : n ≤ 140737488355328) (hdn : dn ≤ 140737488355328) :
    Calls Try.prog 77 #[h.val (.slice A n c), .slice Ad dn dc] w (WroteP w (wrB h opts data) (wrE h n dn)) := by
  obtain ⟨i0, hi, hz0, hz1, hz2⟩ := info_parts infoU8
  have HLO := Lib.hid ro.len
  have HLD := Lib.hid rd.len
  have S := (SP.start w).alloc 129 (h.cells (.slice A n c))
  unfold HD.val HD.cells
  go_enter Try.func77, Try.ntmps77
  go_upto_region 1 with fail
  rw [show w.alloc (.cells #[.int .u8 h.tos, .int .u16 h.id, .bool h.df, .bool h.mf, .int .i64 h.off, .int .u8 h.ttl, .int .u8 h.proto, .int .u32 h.src, .int .u32 h.dst, .slice A n c] 129) = w.alloc (.cells (h.cells (.slice A n c)) 129) from rfl]
  generalize hw1 : w.alloc (.cells (h.cells (.slice A n c)) 129) = w1 at S ⊢
  clear hw1
  have H1 := Lib.hid S
  clear S
  go_wp2_with (refine wpList_load_row rfl 129 _ rfl w.heap.size rfl 129 (h.cells (.slice A n c)) (0, 0) _ (H1.out.blk 0 rfl) Try.underlying129 rfl (by kernel_rfl) ?_)
  refine (r5right_any h A n c dn _ hwf.off (by omega) hn).mono ?_
  rintro e w2 ⟨rfl, hb2⟩
  have H2 := Lib.hid (H1.out.next hb2)
  clear hb2 H1
  by_cases hr : Rightly h.off h.mf n dn
  · rw [rightB_yes hr]
    have HB := Lib.hid (show wrB h opts data = pktB h opts data by unfold wrB; rw [HLO.out, HLD.out, if_pos hr])
    have HE := Lib.hid (show wrE h n dn = 0 by unfold wrE; rw [if_pos hr])
    obtain ⟨m0, m1⟩ := offM_bd hr
    have HFW := Lib.hid (offM_df h)
    obtain ⟨w0, w1'⟩ := flagsW_bd hr
    have HR := Lib.hid hr
    have hon : n ≤ 40 := hr.2.2.2.1
    have hdn' : dn ≤ 65515 := by have := hr.2.2.2.2.2.2.1; omega
    have hdiv : n % 4 = 0 := hr.2.2.2.2.1
    obtain ⟨o1, o2, o3, _⟩ := hr
    obtain ⟨t0, t1⟩ := hwf.tos
    obtain ⟨d0, d1⟩ := hwf.id
    obtain ⟨l0, l1⟩ := hwf.ttl
    obtain ⟨p0, p1⟩ := hwf.proto
    obtain ⟨s0, s1⟩ := hwf.src
    obtain ⟨e0, e1⟩ := hwf.dst
    clear o1
    have f9 : w2.cell? ⟨w.heap.size, 9, none⟩ = some (.slice A n c) := H2.out.cell 0 rfl 9 rfl
    have f4 : w2.cell? ⟨w.heap.size, 4, none⟩ = some (.int .i64 h.off) := H2.out.cell 0 rfl 4 rfl
    have f3 : w2.cell? ⟨w.heap.size, 3, none⟩ = some (.bool h.mf) := H2.out.cell 0 rfl 3 rfl
    have f2 : w2.cell? ⟨w.heap.size, 2, none⟩ = some (.bool h.df) := H2.out.cell 0 rfl 2 rfl
    go_upto_if 22 with fail
    go_cut [7] (fun s7 wx => s7 = .int .i64 (offM h) ∧ wx = w2)
    case first =>
      have HV := Lib.hid (show (h.mf = true → offM h = h.off / 8 + 8192) ∧ (¬ h.mf = true → offM h = h.off / 8) from ⟨fun hm => by unfold offM; rw [if_pos hm], fun hm => by unfold offM; rw [if_neg hm]; omega⟩)
      clear f2 f3 f4 f9
      go_wp2_with fail
      all_goals (go_meet; refine ⟨?_, rfl⟩; first | rw [HV.out.1 (by assumption)] | rw [HV.out.2 (by assumption)] | rw [HV.out.2 (by simp [*])])
    case rest =>
      obtain ⟨rfl, rfl⟩ := hcut
      go_upto_if 26 with fail
      go_cut [7] (fun s7 wx => s7 = .int .i64 (flagsW h) ∧ wx = wc)
      case first =>
        have HV := Lib.hid (show (h.df = true → flagsW h = offM h + 16384) ∧ (¬ h.df = true → flagsW h = offM h) from ⟨fun hm => by rw [HFW.out, if_pos hm], fun hm => by rw [HFW.out, if_neg hm]; omega⟩)
        clear f2 f3 f4 f9
        go_wp2_with fail
        all_goals (go_meet; refine ⟨?_, rfl⟩; first | rw [HV.out.1 (by assumption)] | rw [HV.out.2 (by assumption)] | rw [HV.out.2 (by simp [*])])
      case rest =>
        obtain ⟨rfl, rfl⟩ := hcut
        clear f2 f3 f4 f9
        have e1' : IntKind.u8.wrap (64 + (20 + (n : Int)) / 4) = 64 + (20 + (n : Int)) / 4 := u8_in _ (by omega) (by omega)
        have e2' : IntKind.i64.wrap h.id = h.id := IntWalk.i64_in _ (by omega)
        have e3' : IntKind.i64.wrap h.src = h.src := IntWalk.i64_in _ (by omega)
        have e4' : IntKind.i64.wrap h.dst = h.dst := IntWalk.i64_in _ (by omega)
        have f0 : wc.cell? ⟨w.heap.size, 0, none⟩ = some (.int .u8 h.tos) := H2.out.cell 0 rfl 0 rfl
        go_upto_region 10 with fail
        have T3 : SP w (wc.alloc (.cells #[.int .u8 (64 + (20 + (n : Int)) / 4), .int .u8 h.tos] 5)) [.blk w.heap.size 129 (h.cells (.slice A n c)), .own .u8 5 (some ⟨wc.heap.size, 0, none⟩) 2 2 [64 + (20 + (n : Int)) / 4, h.tos]] := H2.out.allocI .u8 5 [64 + (20 + (n : Int)) / 4, h.tos] (by simp [maxLen])
        generalize hw3 : wc.alloc (.cells #[.int .u8 (64 + (20 + (n : Int)) / 4), .int .u8 h.tos] 5) = w3 at T3 ⊢
        generalize wc.heap.size = G3 at T3 ⊢
        have H3 := Lib.hid T3
        clear hw3 T3 f0 H2 e1'
        go_wp2_with fail
        refine (r5bytes_any 2 2 (20 + (n : Int) + (dn : Int)) _ (by omega) rfl (by omega) (by omega)).mono ?_
        rintro e b0 ⟨X0, xn0, xc0, rfl, own0, hb0⟩
        have hx0 : 2 = xn0 := by have := own0.len; rw [putB_len] at this; simpa using this
        subst hx0
        have K0 := Lib.hid (H3.out.pushOwn hb0 own0)
        clear own0 hb0 H3
        go_upto_region 11 with (at_builtin; refine wpList_append_rd _ rfl _ _ _ rfl .u8 w.heap.size 5 i0 1 Try.underlying23 hi hz0 hz1 hz2 (some ⟨G3, 0, none⟩) 2 2 ([64 + (20 + (n : Int)) / 4, h.tos]) rfl (K0.out.own 1 rfl) _ X0 2 xc0 (putB (List.replicate 2 0) 0 2 (20 + (n : Int) + (dn : Int))) rfl (K0.out.rd 2 rfl) (by simp only [maxLen]; omega) (by omega) K0.out.size ?_; intro A1 c1 v1 happ; have J1 := Lib.hid (SP.two (K0.out.app 1 rfl happ)); clear happ)
        clear K0
        have f1 : v1.cell? ⟨w.heap.size, 1, none⟩ = some (.int .u16 h.id) := J1.out.cell 0 rfl 1 rfl
        go_wp2_with fail
        refine (r5bytes_any 2 2 (h.id) _ (by omega) rfl (by omega) (by omega)).mono ?_
        rintro e b1 ⟨X1, xn1, xc1, rfl, own1, hb1⟩
        have hx1 : 2 = xn1 := by have := own1.len; rw [putB_len] at this; simpa using this
        subst hx1
        have K1 := Lib.hid (J1.out.pushOwn hb1 own1)
        clear own1 hb1 J1
        go_upto_region 12 with (at_builtin; refine wpList_append_rd _ rfl _ _ _ rfl .u8 w.heap.size 5 i0 1 Try.underlying23 hi hz0 hz1 hz2 A1 (2 + 2) c1 ([64 + (20 + (n : Int)) / 4, h.tos] ++ putB (List.replicate 2 0) 0 2 (20 + (n : Int) + (dn : Int))) rfl (K1.out.own 1 rfl) _ X1 2 xc1 (putB (List.replicate 2 0) 0 2 (h.id)) rfl (K1.out.rd 2 rfl) (by simp only [maxLen]; omega) (by omega) K1.out.size ?_; intro A2 c2 v2 happ; have J2 := Lib.hid (SP.two (K1.out.app 1 rfl happ)); clear happ)
        clear K1
        clear f1
        go_wp2_with fail
        refine (r5bytes_any 2 2 (flagsW h) _ (by omega) rfl (by omega) (by omega)).mono ?_
        rintro e b2 ⟨X2, xn2, xc2, rfl, own2, hb2⟩
        have hx2 : 2 = xn2 := by have := own2.len; rw [putB_len] at this; simpa using this
        subst hx2
        have K2 := Lib.hid (J2.out.pushOwn hb2 own2)
        clear own2 hb2 J2
        go_upto_region 13 with (at_builtin; refine wpList_append_rd _ rfl _ _ _ rfl .u8 w.heap.size 5 i0 1 Try.underlying23 hi hz0 hz1 hz2 A2 ((2 + 2) + 2) c2 ([64 + (20 + (n : Int)) / 4, h.tos] ++ putB (List.replicate 2 0) 0 2 (20 + (n : Int) + (dn : Int)) ++ putB (List.replicate 2 0) 0 2 (h.id)) rfl (K2.out.own 1 rfl) _ X2 2 xc2 (putB (List.replicate 2 0) 0 2 (flagsW h)) rfl (K2.out.rd 2 rfl) (by simp only [maxLen]; omega) (by omega) K2.out.size ?_; intro A3 c3 v3 happ; have J3 := Lib.hid (SP.two (K2.out.app 1 rfl happ)); clear happ)
        clear K2
        have f5 : v3.cell? ⟨w.heap.size, 5, none⟩ = some (.int .u8 h.ttl) := J3.out.cell 0 rfl 5 rfl
        have f6 : v3.cell? ⟨w.heap.size, 6, none⟩ = some (.int .u8 h.proto) := J3.out.cell 0 rfl 6 rfl
        have SB : SP w (v3.alloc (.cells #[.int .u8 h.ttl, .int .u8 h.proto, .int .u8 0, .int .u8 0] 5)) [.blk w.heap.size 129 (h.cells (.slice A n c)), .own .u8 5 A3 (((2 + 2) + 2) + 2) c3 ([64 + (20 + (n : Int)) / 4, h.tos] ++ putB (List.replicate 2 0) 0 2 (20 + (n : Int) + (dn : Int)) ++ putB (List.replicate 2 0) 0 2 (h.id) ++ putB (List.replicate 2 0) 0 2 (flagsW h)), .own .u8 5 (some ⟨v3.heap.size, 0, none⟩) 4 4 [h.ttl, h.proto, 0, 0]] := J3.out.allocI .u8 5 [h.ttl, h.proto, 0, 0] (by simp [maxLen])
        have SBH := Lib.hid SB
        clear SB
        go_upto_region 14 with (at_builtin; refine wpList_append_rd _ rfl _ _ _ rfl .u8 w.heap.size 5 i0 1 Try.underlying23 hi hz0 hz1 hz2 A3 (((2 + 2) + 2) + 2) c3 ([64 + (20 + (n : Int)) / 4, h.tos] ++ putB (List.replicate 2 0) 0 2 (20 + (n : Int) + (dn : Int)) ++ putB (List.replicate 2 0) 0 2 (h.id) ++ putB (List.replicate 2 0) 0 2 (flagsW h)) rfl (SBH.out.own 1 rfl) _ (some ⟨v3.heap.size, 0, none⟩) 4 4 ([h.ttl, h.proto, 0, 0]) rfl (SBH.out.rd 2 rfl) (by simp only [maxLen]; omega) (by omega) SBH.out.size ?_; intro A4 c4 v4 happ; have J4 := Lib.hid (SP.two (SBH.out.app 1 rfl happ)); clear happ)
        clear f5 f6 SBH
        have f7 : v4.cell? ⟨w.heap.size, 7, none⟩ = some (.int .u32 h.src) := J4.out.cell 0 rfl 7 rfl
        go_wp2_with fail
        refine (r5bytes_any 4 4 (h.src) _ (by omega) rfl (by omega) (by omega)).mono ?_
        rintro e b4 ⟨X4, xn4, xc4, rfl, own4, hb4⟩
        have hx4 : 4 = xn4 := by have := own4.len; rw [putB_len] at this; simpa using this
        subst hx4
        have K4 := Lib.hid (J4.out.pushOwn hb4 own4)
        clear own4 hb4 J4
        go_upto_region 15 with (at_builtin; refine wpList_append_rd _ rfl _ _ _ rfl .u8 w.heap.size 5 i0 1 Try.underlying23 hi hz0 hz1 hz2 A4 ((((2 + 2) + 2) + 2) + 4) c4 ([64 + (20 + (n : Int)) / 4, h.tos] ++ putB (List.replicate 2 0) 0 2 (20 + (n : Int) + (dn : Int)) ++ putB (List.replicate 2 0) 0 2 (h.id) ++ putB (List.replicate 2 0) 0 2 (flagsW h) ++ [h.ttl, h.proto, 0, 0]) rfl (K4.out.own 1 rfl) _ X4 4 xc4 (putB (List.replicate 4 0) 0 4 (h.src)) rfl (K4.out.rd 2 rfl) (by simp only [maxLen]; omega) (by omega) K4.out.size ?_; intro A5 c5 v5 happ; have J5 := Lib.hid (SP.two (K4.out.app 1 rfl happ)); clear happ)
        clear K4
        clear f7
        have f8 : v5.cell? ⟨w.heap.size, 8, none⟩ = some (.int .u32 h.dst) := J5.out.cell 0 rfl 8 rfl
        go_wp2_with fail
        refine (r5bytes_any 4 4 (h.dst) _ (by omega) rfl (by omega) (by omega)).mono ?_
        rintro e b5 ⟨X5, xn5, xc5, rfl, own5, hb5⟩
        have hx5 : 4 = xn5 := by have := own5.len; rw [putB_len] at this; simpa using this
        subst hx5
        have K5 := Lib.hid (J5.out.pushOwn hb5 own5)
        clear own5 hb5 J5
        go_upto_region 16 with (at_builtin; refine wpList_append_rd _ rfl _ _ _ rfl .u8 w.heap.size 5 i0 1 Try.underlying23 hi hz0 hz1 hz2 A5 (((((2 + 2) + 2) + 2) + 4) + 4) c5 ([64 + (20 + (n : Int)) / 4, h.tos] ++ putB (List.replicate 2 0) 0 2 (20 + (n : Int) + (dn : Int)) ++ putB (List.replicate 2 0) 0 2 (h.id) ++ putB (List.replicate 2 0) 0 2 (flagsW h) ++ [h.ttl, h.proto, 0, 0] ++ putB (List.replicate 4 0) 0 4 (h.src)) rfl (K5.out.own 1 rfl) _ X5 4 xc5 (putB (List.replicate 4 0) 0 4 (h.dst)) rfl (K5.out.rd 2 rfl) (by simp only [maxLen]; omega) (by omega) K5.out.size ?_; intro A6 c6 v6 happ; have J6 := Lib.hid (SP.two (K5.out.app 1 rfl happ)); clear happ)
        clear K5
        clear f8
        have f9 : v6.cell? ⟨w.heap.size, 9, none⟩ = some (.slice A n c) := J6.out.cell 0 rfl 9 rfl
        go_upto_region 17 with (at_builtin; refine wpList_append_rd _ rfl _ _ _ rfl .u8 w.heap.size 5 i0 1 Try.underlying23 hi hz0 hz1 hz2 A6 ((((((2 + 2) + 2) + 2) + 4) + 4) + 4) c6 ([64 + (20 + (n : Int)) / 4, h.tos] ++ putB (List.replicate 2 0) 0 2 (20 + (n : Int) + (dn : Int)) ++ putB (List.replicate 2 0) 0 2 (h.id) ++ putB (List.replicate 2 0) 0 2 (flagsW h) ++ [h.ttl, h.proto, 0, 0] ++ putB (List.replicate 4 0) 0 4 (h.src) ++ putB (List.replicate 4 0) 0 4 (h.dst)) rfl (J6.out.own 1 rfl) _ A n c (opts) rfl ((ro.below J6.out.bel).more J6.out.size) (by simp only [maxLen]; omega) (by omega) J6.out.size ?_; intro A7 c7 v7 happ; have J7 := Lib.hid (SP.two (J6.out.app 1 rfl happ)); clear happ)
        clear f9
        have EZ := Lib.hid (show [64 + (20 + (n : Int)) / 4, h.tos] ++ putB (List.replicate 2 0) 0 2 (20 + (n : Int) + (dn : Int)) ++ putB (List.replicate 2 0) 0 2 (h.id) ++ putB (List.replicate 2 0) 0 2 (flagsW h) ++ [h.ttl, h.proto, 0, 0] ++ putB (List.replicate 4 0) 0 4 (h.src) ++ putB (List.replicate 4 0) 0 4 (h.dst) ++ opts = headB h opts dn by unfold headB head20; rw [HLO.out]; simp [putB])
        have HBD := Lib.hid (show BD 255 (headB h opts dn) from headB_bd hwf bo (by rw [HLO.out]; exact hon))
        go_wp2_with fail
        refine (rFix_any A7 (((((((2 + 2) + 2) + 2) + 4) + 4) + 4) + n) c7 ([64 + (20 + (n : Int)) / 4, h.tos] ++ putB (List.replicate 2 0) 0 2 (20 + (n : Int) + (dn : Int)) ++ putB (List.replicate 2 0) 0 2 (h.id) ++ putB (List.replicate 2 0) 0 2 (flagsW h) ++ [h.ttl, h.proto, 0, 0] ++ putB (List.replicate 4 0) 0 4 (h.src) ++ putB (List.replicate 4 0) 0 4 (h.dst) ++ opts) 10 10 _ (J7.out.rd 1 rfl) (by rw [EZ.out]; exact HBD.out) (by omega) rfl (by omega) (by omega)).mono ?_
        rintro e wf ⟨Af, nf, cf, rfl, ownf, hbf⟩
        rw [EZ.out] at ownf
        have hnf := ownf.len
        rw [fixOf_len, headB_len, HLO.out] at hnf
        have HF := Lib.hid (J7.out.pushOwn hbf ownf)
        clear ownf hbf
        go_wp2_with (at_builtin; refine wpList_append_rd _ rfl _ _ _ rfl .u8 w.heap.size 5 i0 1 Try.underlying23 hi hz0 hz1 hz2 Af nf cf (fixOf (headB h opts dn) 10) rfl (HF.out.own 2 rfl) _ Ad dn dc data rfl ((rd.below HF.out.bel).more HF.out.size) (by simp only [maxLen]; omega) (by omega) HF.out.size ?_; intro Ax cx wx happ; have HX := Lib.hid (HF.out.app 2 rfl happ); clear happ)
        go_ret2
        exact ⟨Ax, _, cx, by rw [HE.out]; rfl, by rw [HB.out]; unfold pktB; rw [HLD.out]; exact HX.out.own 2 rfl, HX.out.bel⟩
  · rw [rightB_no hr]
    have HB := Lib.hid (show wrB h opts data = [] by unfold wrB; rw [HLO.out, HLD.out, if_neg hr])
    have HE := Lib.hid (show wrE h n dn = 2 by unfold wrE; rw [if_neg hr])
    clear hr
    go_wp2_with fail
    go_ret2
    exact ⟨none, 0, 0, by rw [HE.out]; rfl, by rw [HB.out]; exact OWN.nil, H2.out.bel⟩
end Go.Proofs.Ytljbfnabnkkfeaa
