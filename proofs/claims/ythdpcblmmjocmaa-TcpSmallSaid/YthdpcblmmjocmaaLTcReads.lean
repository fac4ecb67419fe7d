import Derived.Test.YthdpcblmmjocmaaWR8W
import Derived.Test.YthdpcblmmjocmaaWAwake8
import Derived.Test.YthdpcblmmjocmaaWBags
/- bafflelaw08.reads and writes; the walks of TcpReads and TcpWrites. (Printed by gen_tcreads.py.) -/
namespace Go.Proofs.Ythdpcblmmjocmaa
open Go.RowKit
set_option linter.unusedVariables false
attribute [local go_sem ↓] Go.wp_at_zero Go.wp_at_succ

theorem tcHd_eta (zs : List Int) : ∃ a0 a1 a2 a3 a4 a5 a6, tcHd zs = TH.mk a0 a1 a2 a3 a4 a5 a6 := by
  obtain ⟨a0, a1, a2, a3, a4, a5, a6⟩ := tcHd zs
  exact ⟨_, _, _, _, _, _, _, rfl⟩

set_option maxHeartbeats 8000000 in
set_option maxRecDepth 100000 in
theorem reads8_any (A : Option Addr) (n c : Nat) (zs : List Int) (s d f m : Int) (w : World) (h : RD .u8 w w.heap.size A n zs) (hz : BD 255 zs) (hn : n ≤ c) (hs : 0 ≤ s ∧ s ≤ 4294967295) (hd : 0 ≤ d ∧ d ≤ 4294967295) (hf : 0 ≤ f ∧ f ≤ 255) :
    Calls Try.prog 12 #[.slice A n c, .int .u32 s, .int .u32 d, .int .u8 f, .int .i64 m] w fun e w' => e = .returned (.bool true) ∧ Below w.heap.size w w' := by
  have HL := Lib.hid h.len
  have R := Lib.hid (fun (W : World) (hb : Below w.heap.size w W) => (show RD .u8 W W.heap.size A n zs from (h.below hb).more hb.size))
  have S0 := SP.start w
  clear h
  by_cases hbig : 300 < n
  · have t1 : (300 : Int) < (n : Int) := by omega
    go_enter Try.func12, Try.ntmps12
    go_wp2_with fail
    go_ret
    exact ⟨rfl, Below.refl _ _⟩
  · have t1 : ¬ (300 : Int) < (n : Int) := by omega
    have hc : n ≤ 140737488351232 := by omega
    have HO := Lib.hid (tcOp_len (tcN_le hz))
    obtain ⟨a0, a1, a2, a3, a4, a5, a6, hH⟩ := tcHd_eta zs
    have HH := Lib.hid hH
    clear hH
    go_enter Try.func12, Try.ntmps12
    go_wp2_with fail
    refine (lent_any A n c zs w (R.out _ (Below.refl _ _)) hc).mono ?_
    rintro e w1 ⟨A1, n1, rfl, hn1, own1, hb1⟩
    obtain rfl : n = n1 := by rw [hn1, HL.out]
    clear hn1
    have own1' := own1.cut (m := n) (by omega)
    rw [List.take_left' HL.out] at own1'
    have H1 := Lib.hid (S0.pushOwn hb1 own1)
    have HC1 := Lib.hid own1'
    clear hb1 own1 own1' S0
    go_wp2_with fail
    refine (tcread_any A1 n (n + 12) zs _ HC1.out.rd hz (by omega) (by omega)).mono ?_
    rintro e w2 ⟨A2, n2, c2, rfl, own2, hb2⟩
    have hl2 := own2.len
    have hle2 := own2.le
    have hn2 : n2 ≤ 40 := by rw [← hl2]; exact HO.out
    rw [HH.out]
    obtain ⟨N2, hN2⟩ : ∃ N, N = w2.heap.size := ⟨_, rfl⟩
    have H2 := Lib.hid ((H1.out.pushOwn hb2 own2).alloc' 28 ((TH.mk a0 a1 a2 a3 a4 a5 a6).cells (.slice A2 n2 c2)) hN2.symm)
    have HC2 := Lib.hid ((HC1.out.below hb2).alloc (.cells ((TH.mk a0 a1 a2 a3 a4 a5 a6).cells (.slice A2 n2 c2)) 28))
    clear hb2 own2 H1 HC1
    unfold TH.cells
    go_upto_region 5 with fail
    rw [← hN2]
    change Code.wp _ _ _ _ (w2.alloc (.cells ((TH.mk a0 a1 a2 a3 a4 a5 a6).cells (.slice A2 n2 c2)) 28))
    generalize w2.alloc (.cells ((TH.mk a0 a1 a2 a3 a4 a5 a6).cells (.slice A2 n2 c2)) 28) = w3 at H2 HC2 ⊢
    clear hN2
    go_wp2_with fail
    refine (r8Read_any A n c zs _ (R.out _ H2.out.bel) hz hn hc).mono ?_
    rintro e w4 ⟨A4, n4, c4, rfl, own4, hb4⟩
    have hl4 := own4.len
    have hn4 : n4 ≤ 40 := by rw [← hl4]; exact HO.out
    rw [HH.out]
    obtain ⟨N4, hN4⟩ : ∃ N, N = w4.heap.size := ⟨_, rfl⟩
    have H4 := Lib.hid ((H2.out.pushOwn hb4 own4).alloc' 70 ((TH.mk a0 a1 a2 a3 a4 a5 a6).cells (.slice A4 n4 c4)) hN4.symm)
    have HC4 := Lib.hid ((HC2.out.below hb4).alloc (.cells ((TH.mk a0 a1 a2 a3 a4 a5 a6).cells (.slice A4 n4 c4)) 70))
    clear hb4 own4 H2 HC2
    unfold TH.cells
    go_upto_region 6 with fail
    rw [← hN4]
    change Code.wp _ _ _ _ (w4.alloc (.cells ((TH.mk a0 a1 a2 a3 a4 a5 a6).cells (.slice A4 n4 c4)) 70))
    generalize w4.alloc (.cells ((TH.mk a0 a1 a2 a3 a4 a5 a6).cells (.slice A4 n4 c4)) 70) = w5 at H4 HC4 ⊢
    clear hN4
    have B2 : BLOCK w5 N2 28 ((TH.mk a0 a1 a2 a3 a4 a5 a6).cells (.slice A2 n2 c2)) := H4.out.blk 2 rfl
    have B4 : BLOCK w5 N4 70 ((TH.mk a0 a1 a2 a3 a4 a5 a6).cells (.slice A4 n4 c4)) := H4.out.blk 4 rfl
    obtain ⟨tt, htt⟩ : ∃ x, x = tcTo zs := ⟨_, rfl⟩
    obtain ⟨te, hte⟩ : ∃ x, x = tcE zs := ⟨_, rfl⟩
    obtain ⟨vv, hvv⟩ : ∃ x, x = tV zs s d := ⟨_, rfl⟩
    obtain ⟨sv, hsv⟩ : ∃ x, x = saneB f := ⟨_, rfl⟩
    obtain ⟨xv, hxv⟩ : ∃ x, x = extN f m := ⟨_, rfl⟩
    have HVV := Lib.hid (And.intro hvv (And.intro hsv hxv))
    rw [← htt, ← hte]
    clear htt hte hvv hsv hxv
    go_wp2_with (first
      | (refine wpList_load_row rfl 70 _ rfl N4 rfl 70 ((TH.mk a0 a1 a2 a3 a4 a5 a6).cells (.slice A4 n4 c4)) (0, 0) _ B4 Try.underlying70 rfl (by kernel_rfl) ?_)
      | (refine wpList_load_row rfl 28 _ rfl N2 rfl 28 ((TH.mk a0 a1 a2 a3 a4 a5 a6).cells (.slice A2 n2 c2)) (0, 0) _ B2 Try.underlying28 rfl (by kernel_rfl) ?_))
    clear B2 B4
    refine (same8_any (TH.mk a0 a1 a2 a3 a4 a5 a6) A2 A4 n2 c2 n4 c4 (tcOp zs) _ (H4.out.rd 1 rfl) (H4.out.rd 3 rfl) (by omega)).mono ?_
    rintro e w6 ⟨rfl, hb6⟩
    have H6 := Lib.hid (H4.out.next hb6)
    have HC6 := Lib.hid (HC4.out.below hb6)
    clear hb6 H4 HC4
    have tt1 : ((tt : Int) != (tt : Int)) = false := by simp
    have te1 : (te != te) = false := by simp
    have tv1 : (vv != vv) = false := by simp
    have ts1 : (sv != sv) = false := by simp
    have tx1 : (xv != xv) = false := by simp
    go_wp2_with fail
    refine (tcverify_any A1 n (n + 12) zs s d _ HC6.out.rd hz (by omega) hs hd).mono ?_
    rintro e w7 ⟨rfl, hb7⟩
    rw [← HVV.out.1]
    have H7 := Lib.hid (H6.out.next hb7)
    have HC7 := Lib.hid (HC6.out.below hb7)
    clear hb7 H6 HC6
    go_wp2_with fail
    refine (r8Verify_any A n c zs s d _ (R.out _ H7.out.bel) hz (by omega) hs hd).mono ?_
    rintro e w8 ⟨rfl, hb8⟩
    rw [← HVV.out.1]
    have H8 := Lib.hid (H7.out.next hb8)
    have HC8 := Lib.hid (HC7.out.below hb8)
    clear hb8 H7 HC7
    go_wp2_with fail
    refine (sane_any f _ hf).mono ?_
    rintro e wy ⟨rfl, rfl⟩
    rw [← HVV.out.2.1]
    go_wp2_with fail
    refine (r8Sane_any f _ hf).mono ?_
    rintro e wy ⟨rfl, rfl⟩
    rw [← HVV.out.2.1]
    go_wp2_with fail
    refine (extent_any f m _ hf).mono ?_
    rintro e wy ⟨rfl, rfl⟩
    rw [← HVV.out.2.2]
    go_wp2_with fail
    refine (r8Extent_any f m _ hf).mono ?_
    rintro e wy ⟨rfl, rfl⟩
    rw [← HVV.out.2.2]
    go_wp2_with fail
    refine (kept_any A1 n zs A c _ (R.out _ H8.out.bel) (H8.out.rd 0 rfl) hc).mono ?_
    rintro e wb ⟨rfl, mb, hb⟩
    have HB := Lib.hid (hb ▸ H8.out.drewN mb)
    clear hb H8 HC8
    have x7 : wb.cell? ⟨N2, 7, none⟩ = some (.slice A2 n2 c2) := HB.out.cell 2 rfl 7 rfl
    go_wp2_with fail
    refine (sp_apart HB.out [0, 1] [⟨A1, n, n + 12⟩, ⟨A2, n2, c2⟩] (SPD.cons rfl (by omega) (by omega) (SPD.cons rfl (Nat.le_refl _) (by omega) SPD.nil)) (by decide) (by simp) (by simp) 2 2 rfl).mono ?_
    rintro e wc ⟨rfl, hbc⟩
    go_wp2_with fail
    go_ret
    exact ⟨rfl, HB.out.bel.trans hbc⟩

set_option maxHeartbeats 8000000 in
set_option maxRecDepth 100000 in
theorem tcpReads_walk (A : Option Addr) (n c : Nat) (zs : List Int) (s d f m : Int) (w : World) (h : ROW .u8 255 w A n c zs) (hs : 0 ≤ s ∧ s ≤ 4294967295) (hd : 0 ≤ d ∧ d ≤ 4294967295) (hf : 0 ≤ f ∧ f ≤ 255) :
    Calls Try.prog 3 #[.slice A n c, .int .u32 s, .int .u32 d, .int .u8 f, .int .i64 m] w fun e w' => e = .returned (.bool true) ∧ Below w.heap.size w w' := by
  go_enter Try.func3, Try.ntmps3
  go_wp2_with fail
  refine (reads8_any A n c zs s d f m w h.rd h.bd h.le hs hd hf).mono ?_
  rintro e w1 ⟨rfl, hb1⟩
  go_wp2_with fail
  refine (awake8_any _).mono ?_
  rintro e w2 ⟨rfl, hb2⟩
  go_wp2_with fail
  go_ret
  exact ⟨rfl, hb1.trans (hb2.mono hb1.size)⟩

set_option maxHeartbeats 1000000 in
set_option maxRecDepth 100000 in
theorem w8s_3 {u0 u1 u2 u5 u6 u7 u8 u11 u12 u13 u14 u15 u16 u17 u18 u19 u20 u21 u22 u23 u27 u28 u29 u30 u31 u32 u33 u34 u35 u36 u37 u38 u39 u40 u41 u42 u43 u44 u45 u46 u47 u48 u49 u50 u51 u52 u53 u54 u55 u56 u57 u58 u59 u60 u61 u62 u63 u64 u65 u66 u67 u68 u69 u70 u71 u72 u73 u74 : Value} {Q : Exit → Act → World → Prop} (w0 : World) (N : Nat) (h : TH) (Ao : Option Addr) (on oc : Nat) (Ad : Option Addr) (dn dc : Nat) (data : List Int) (RD2 : Hid (∀ W, Below w0.heap.size w0 W → RD .u8 W W.heap.size Ad dn data)) (HL : Hid (data.length = dn)) (hdn : dn ≤ 300) {y24 y25 y26 : Value} (A1 : Option Addr) (M : Nat) (w : World) (X : Hid (SP w0 w [.blk N 28 (h.cells (.slice Ao on oc)), .own .u8 5 A1 (dn + 12) (dn + 12) (data ++ marksFrom 1 0 12), .blk M 28 (h.cells (.slice Ao on oc))])) (HQ : Hid (∀ (y24 y25 y26 : Value) (A1 : Option Addr) (M : Nat) (w' : World), SP w0 w' [.blk N 28 (h.cells (.slice Ao on oc)), .own .u8 5 A1 (dn + 12) (dn + 12) (data ++ marksFrom 1 0 12), .blk M 28 (h.cells (.slice Ao on oc))] → Q .normal ⟨#[u0, u1, u2, .slice Ad dn dc, .pointer (some ⟨N, 0, none⟩), u5, u6, u7, u8, .pointer (some ⟨M, 0, none⟩), .slice A1 dn (dn + 12), u11, u12, u13, u14, u15, u16, u17, u18, u19, u20, u21, u22, u23, y24, y25, y26, u27, u28, u29, u30, u31, u32, u33, u34, u35, u36, u37, u38, u39, u40, u41, u42, u43, u44, u45, u46, u47, u48, u49, u50, u51, u52, u53, u54, u55, u56, u57, u58, u59, u60, u61, u62, u63, u64, u65, u66, u67, u68, u69, u70, u71, u72, u73, u74], []⟩ w')) :
    wpAnyH Try.prog .any (opsAt Try.f14 3) (NoPanic Q) (fun W => W.heap[N]? = some (.cells (h.cells (.slice Ao on oc)) 28 (0, 0))) 0 #[true, true, true, true, true, true] ⟨#[u0, u1, u2, .slice Ad dn dc, .pointer (some ⟨N, 0, none⟩), u5, u6, u7, u8, .pointer (some ⟨M, 0, none⟩), .slice A1 dn (dn + 12), u11, u12, u13, u14, u15, u16, u17, u18, u19, u20, u21, u22, u23, y24, y25, y26, u27, u28, u29, u30, u31, u32, u33, u34, u35, u36, u37, u38, u39, u40, u41, u42, u43, u44, u45, u46, u47, u48, u49, u50, u51, u52, u53, u54, u55, u56, u57, u58, u59, u60, u61, u62, u63, u64, u65, u66, u67, u68, u69, u70, u71, u72, u73, u74], []⟩ w := by
  have hHeld : (fun W => W.heap[N]? = some (.cells (h.cells (.slice Ao on oc)) 28 (0, 0))) w := by exact X.out.blk 0 rfl
  refine wpAnyH_done (by kernel_rfl) ?_ _
  refine NoPanic.normal ?_
  exact HQ.out _ _ _ A1 M _ X.out

set_option maxHeartbeats 1000000 in
set_option maxRecDepth 100000 in
theorem w8s_2 {u0 u1 u2 u5 u6 u7 u8 u11 u12 u13 u14 u15 u16 u17 u18 u19 u20 u21 u22 u23 u27 u28 u29 u30 u31 u32 u33 u34 u35 u36 u37 u38 u39 u40 u41 u42 u43 u44 u45 u46 u47 u48 u49 u50 u51 u52 u53 u54 u55 u56 u57 u58 u59 u60 u61 u62 u63 u64 u65 u66 u67 u68 u69 u70 u71 u72 u73 u74 : Value} {Q : Exit → Act → World → Prop} (w0 : World) (N : Nat) (h : TH) (Ao : Option Addr) (on oc : Nat) (Ad : Option Addr) (dn dc : Nat) (data : List Int) (RD2 : Hid (∀ W, Below w0.heap.size w0 W → RD .u8 W W.heap.size Ad dn data)) (HL : Hid (data.length = dn)) (hdn : dn ≤ 300) {y10 y25 : Value} (A1 : Option Addr) (M : Nat) (w : World) (X : Hid (SP w0 w [.blk N 28 (h.cells (.slice Ao on oc)), .own .u8 5 A1 (dn + 12) (dn + 12) (data ++ marksFrom 1 0 12), .blk M 28 (th0.cells (.slice none 0 0))])) (HQ : Hid (∀ (y24 y25 y26 : Value) (A1 : Option Addr) (M : Nat) (w' : World), SP w0 w' [.blk N 28 (h.cells (.slice Ao on oc)), .own .u8 5 A1 (dn + 12) (dn + 12) (data ++ marksFrom 1 0 12), .blk M 28 (h.cells (.slice Ao on oc))] → Q .normal ⟨#[u0, u1, u2, .slice Ad dn dc, .pointer (some ⟨N, 0, none⟩), u5, u6, u7, u8, .pointer (some ⟨M, 0, none⟩), .slice A1 dn (dn + 12), u11, u12, u13, u14, u15, u16, u17, u18, u19, u20, u21, u22, u23, y24, y25, y26, u27, u28, u29, u30, u31, u32, u33, u34, u35, u36, u37, u38, u39, u40, u41, u42, u43, u44, u45, u46, u47, u48, u49, u50, u51, u52, u53, u54, u55, u56, u57, u58, u59, u60, u61, u62, u63, u64, u65, u66, u67, u68, u69, u70, u71, u72, u73, u74], []⟩ w')) :
    wpAnyH Try.prog .any (opsAt Try.f14 3) (NoPanic Q) (fun W => W.heap[N]? = some (.cells (h.cells (.slice Ao on oc)) 28 (0, 0))) 2 #[true, true, true, true, false, false] ⟨#[u0, u1, u2, .slice Ad dn dc, .pointer (some ⟨N, 0, none⟩), u5, u6, u7, u8, .pointer (some ⟨M, 0, none⟩), y10, u11, u12, u13, u14, u15, u16, u17, u18, u19, u20, u21, u22, u23, .agg (h.cells (.slice Ao on oc)), y25, .slice A1 dn (dn + 12), u27, u28, u29, u30, u31, u32, u33, u34, u35, u36, u37, u38, u39, u40, u41, u42, u43, u44, u45, u46, u47, u48, u49, u50, u51, u52, u53, u54, u55, u56, u57, u58, u59, u60, u61, u62, u63, u64, u65, u66, u67, u68, u69, u70, u71, u72, u73, u74], []⟩ w := by
  have hHeld : (fun W => W.heap[N]? = some (.cells (h.cells (.slice Ao on oc)) 28 (0, 0))) w := by exact X.out.blk 0 rfl
  refine wpAnyH_ready (rs := [4]) (by kernel_rfl) (by simp) ?_
  refine cons_lit rfl (fun K hK => ?ss4x3) AllReadyH.nil
  case ss4x3 =>
    refine step_store_row (by rfl) 28 _ _ (by rfl) M (h.cells (.slice Ao on oc)) (by rfl) (by rfl) 28 _ (X.out.blk 2 rfl) (by kernel_rfl) rfl (TH.one _ _ _ _) ?_
    have Y := Lib.hid (show SP w0 _ [.blk N 28 (h.cells (.slice Ao on oc)), .own .u8 5 A1 (dn + 12) (dn + 12) (data ++ marksFrom 1 0 12), .blk M 28 (h.cells (.slice Ao on oc))] from (X.out.setR 2 rfl (h.cells (.slice Ao on oc))).pick [0, 1, 2] (by decide) rfl)
    refine hK.out _ _ (by exact Y.out.blk 0 rfl) (fun hHeld => ?_)
    clear hK K
    (try simp only [Act.put]); (try simp only [List.setIfInBounds_toArray, List.set_cons_zero, List.set_cons_succ])
    refine' take_lit (i := 5) (v := _) rfl (by kernel_rfl) (by kernel_rfl) (by kernel_rfl) (fun _ _ _ h => h) (Or.inl ⟨by rfl, ?yy4⟩) (by assumption) ?rr4
    case yy4 => intro w' hSw; (try dsimp only at hSw); go_simp; try (with_reducible rfl)
    (try simp only [Act.put]); (try simp only [List.setIfInBounds_toArray, List.set_cons_zero, List.set_cons_succ])
    exact w8s_3 w0 N h Ao on oc Ad dn dc data RD2 HL hdn A1 M _ Y HQ

set_option maxHeartbeats 1000000 in
set_option maxRecDepth 100000 in
theorem w8s_1 {u0 u1 u2 u5 u6 u7 u8 u11 u12 u13 u14 u15 u16 u17 u18 u19 u20 u21 u22 u23 u27 u28 u29 u30 u31 u32 u33 u34 u35 u36 u37 u38 u39 u40 u41 u42 u43 u44 u45 u46 u47 u48 u49 u50 u51 u52 u53 u54 u55 u56 u57 u58 u59 u60 u61 u62 u63 u64 u65 u66 u67 u68 u69 u70 u71 u72 u73 u74 : Value} {Q : Exit → Act → World → Prop} (w0 : World) (N : Nat) (h : TH) (Ao : Option Addr) (on oc : Nat) (Ad : Option Addr) (dn dc : Nat) (data : List Int) (RD2 : Hid (∀ W, Below w0.heap.size w0 W → RD .u8 W W.heap.size Ad dn data)) (HL : Hid (data.length = dn)) (hdn : dn ≤ 300) {y9 y10 y25 : Value} (A1 : Option Addr) (w : World) (X : Hid (SP w0 w [.blk N 28 (h.cells (.slice Ao on oc)), .own .u8 5 A1 (dn + 12) (dn + 12) (data ++ marksFrom 1 0 12)])) (HQ : Hid (∀ (y24 y25 y26 : Value) (A1 : Option Addr) (M : Nat) (w' : World), SP w0 w' [.blk N 28 (h.cells (.slice Ao on oc)), .own .u8 5 A1 (dn + 12) (dn + 12) (data ++ marksFrom 1 0 12), .blk M 28 (h.cells (.slice Ao on oc))] → Q .normal ⟨#[u0, u1, u2, .slice Ad dn dc, .pointer (some ⟨N, 0, none⟩), u5, u6, u7, u8, .pointer (some ⟨M, 0, none⟩), .slice A1 dn (dn + 12), u11, u12, u13, u14, u15, u16, u17, u18, u19, u20, u21, u22, u23, y24, y25, y26, u27, u28, u29, u30, u31, u32, u33, u34, u35, u36, u37, u38, u39, u40, u41, u42, u43, u44, u45, u46, u47, u48, u49, u50, u51, u52, u53, u54, u55, u56, u57, u58, u59, u60, u61, u62, u63, u64, u65, u66, u67, u68, u69, u70, u71, u72, u73, u74], []⟩ w')) :
    wpAnyH Try.prog .any (opsAt Try.f14 3) (NoPanic Q) (fun W => W.heap[N]? = some (.cells (h.cells (.slice Ao on oc)) 28 (0, 0))) 3 #[true, true, true, false, false, false] ⟨#[u0, u1, u2, .slice Ad dn dc, .pointer (some ⟨N, 0, none⟩), u5, u6, u7, u8, y9, y10, u11, u12, u13, u14, u15, u16, u17, u18, u19, u20, u21, u22, u23, .agg (h.cells (.slice Ao on oc)), y25, .slice A1 dn (dn + 12), u27, u28, u29, u30, u31, u32, u33, u34, u35, u36, u37, u38, u39, u40, u41, u42, u43, u44, u45, u46, u47, u48, u49, u50, u51, u52, u53, u54, u55, u56, u57, u58, u59, u60, u61, u62, u63, u64, u65, u66, u67, u68, u69, u70, u71, u72, u73, u74], []⟩ w := by
  have hHeld : (fun W => W.heap[N]? = some (.cells (h.cells (.slice Ao on oc)) 28 (0, 0))) w := by exact X.out.blk 0 rfl
  refine wpAnyH_ready (rs := [3]) (by kernel_rfl) (by simp) ?_
  refine cons_lit rfl (fun K hK => ?ss3x2) AllReadyH.nil
  case ss3x2 =>
    go_simp
    obtain ⟨M, hM⟩ : ∃ g, g = w.heap.size := ⟨_, rfl⟩
    rw [← hM]
    refine nameW' (fun v hv => ?_)
    have Y := Lib.hid (show SP w0 v [.blk N 28 (h.cells (.slice Ao on oc)), .own .u8 5 A1 (dn + 12) (dn + 12) (data ++ marksFrom 1 0 12), .blk M 28 (th0.cells (.slice none 0 0))] by rw [hv, hM]; exact (X.out.alloc 28 (th0.cells (.slice none 0 0))).pick [0, 1, 2] (by decide) rfl)
    clear hv hM
    refine hK.out _ _ (by exact Y.out.blk 0 rfl) (fun hHeld => ?_)
    clear hK K
    (try simp only [Act.put]); (try simp only [List.setIfInBounds_toArray, List.set_cons_zero, List.set_cons_succ])
    exact w8s_2 w0 N h Ao on oc Ad dn dc data RD2 HL hdn A1 M _ Y HQ

set_option maxHeartbeats 1000000 in
set_option maxRecDepth 100000 in
theorem w8s_4 {u0 u1 u2 u5 u6 u7 u8 u11 u12 u13 u14 u15 u16 u17 u18 u19 u20 u21 u22 u23 u27 u28 u29 u30 u31 u32 u33 u34 u35 u36 u37 u38 u39 u40 u41 u42 u43 u44 u45 u46 u47 u48 u49 u50 u51 u52 u53 u54 u55 u56 u57 u58 u59 u60 u61 u62 u63 u64 u65 u66 u67 u68 u69 u70 u71 u72 u73 u74 : Value} {Q : Exit → Act → World → Prop} (w0 : World) (N : Nat) (h : TH) (Ao : Option Addr) (on oc : Nat) (Ad : Option Addr) (dn dc : Nat) (data : List Int) (RD2 : Hid (∀ W, Below w0.heap.size w0 W → RD .u8 W W.heap.size Ad dn data)) (HL : Hid (data.length = dn)) (hdn : dn ≤ 300) {y10 y26 : Value} (M : Nat) (w : World) (X : Hid (SP w0 w [.blk N 28 (h.cells (.slice Ao on oc)), .blk M 28 (th0.cells (.slice none 0 0))])) (HQ : Hid (∀ (y24 y25 y26 : Value) (A1 : Option Addr) (M : Nat) (w' : World), SP w0 w' [.blk N 28 (h.cells (.slice Ao on oc)), .own .u8 5 A1 (dn + 12) (dn + 12) (data ++ marksFrom 1 0 12), .blk M 28 (h.cells (.slice Ao on oc))] → Q .normal ⟨#[u0, u1, u2, .slice Ad dn dc, .pointer (some ⟨N, 0, none⟩), u5, u6, u7, u8, .pointer (some ⟨M, 0, none⟩), .slice A1 dn (dn + 12), u11, u12, u13, u14, u15, u16, u17, u18, u19, u20, u21, u22, u23, y24, y25, y26, u27, u28, u29, u30, u31, u32, u33, u34, u35, u36, u37, u38, u39, u40, u41, u42, u43, u44, u45, u46, u47, u48, u49, u50, u51, u52, u53, u54, u55, u56, u57, u58, u59, u60, u61, u62, u63, u64, u65, u66, u67, u68, u69, u70, u71, u72, u73, u74], []⟩ w')) :
    wpAnyH Try.prog .any (opsAt Try.f14 3) (NoPanic Q) (fun W => W.heap[N]? = some (.cells (h.cells (.slice Ao on oc)) 28 (0, 0))) 3 #[true, true, false, true, false, false] ⟨#[u0, u1, u2, .slice Ad dn dc, .pointer (some ⟨N, 0, none⟩), u5, u6, u7, u8, .pointer (some ⟨M, 0, none⟩), y10, u11, u12, u13, u14, u15, u16, u17, u18, u19, u20, u21, u22, u23, .agg (h.cells (.slice Ao on oc)), .slice Ad dn dc, y26, u27, u28, u29, u30, u31, u32, u33, u34, u35, u36, u37, u38, u39, u40, u41, u42, u43, u44, u45, u46, u47, u48, u49, u50, u51, u52, u53, u54, u55, u56, u57, u58, u59, u60, u61, u62, u63, u64, u65, u66, u67, u68, u69, u70, u71, u72, u73, u74], []⟩ w := by
  have hHeld : (fun W => W.heap[N]? = some (.cells (h.cells (.slice Ao on oc)) 28 (0, 0))) w := by exact X.out.blk 0 rfl
  refine wpAnyH_ready (rs := [2]) (by kernel_rfl) (by simp) ?_
  refine cons_lit rfl (fun K hK => ?ss2x5) AllReadyH.nil
  case ss2x5 =>
    go_simp
    refine (lent_any Ad dn dc data _ (RD2.out _ X.out.bel) (by omega)).mono ?_
    rintro e v ⟨A1, n1, rfl, hn1, own, hb⟩
    obtain rfl : dn = n1 := by rw [hn1, HL.out]
    have Y := Lib.hid (show SP w0 v [.blk N 28 (h.cells (.slice Ao on oc)), .own .u8 5 A1 (dn + 12) (dn + 12) (data ++ marksFrom 1 0 12), .blk M 28 (th0.cells (.slice none 0 0))] from (X.out.pushOwn hb own).pick [0, 2, 1] (by decide) rfl)
    clear own hb hn1
    refine hK.out _ _ (by exact Y.out.blk 0 rfl) (fun hHeld => ?_)
    clear hK K
    (try simp only [Act.put]); (try simp only [List.setIfInBounds_toArray, List.set_cons_zero, List.set_cons_succ])
    exact w8s_2 w0 N h Ao on oc Ad dn dc data RD2 HL hdn A1 M _ Y HQ

set_option maxHeartbeats 1000000 in
set_option maxRecDepth 100000 in
theorem w8s_0 {u0 u1 u2 u5 u6 u7 u8 u11 u12 u13 u14 u15 u16 u17 u18 u19 u20 u21 u22 u23 u27 u28 u29 u30 u31 u32 u33 u34 u35 u36 u37 u38 u39 u40 u41 u42 u43 u44 u45 u46 u47 u48 u49 u50 u51 u52 u53 u54 u55 u56 u57 u58 u59 u60 u61 u62 u63 u64 u65 u66 u67 u68 u69 u70 u71 u72 u73 u74 : Value} {Q : Exit → Act → World → Prop} (w0 : World) (N : Nat) (h : TH) (Ao : Option Addr) (on oc : Nat) (Ad : Option Addr) (dn dc : Nat) (data : List Int) (RD2 : Hid (∀ W, Below w0.heap.size w0 W → RD .u8 W W.heap.size Ad dn data)) (HL : Hid (data.length = dn)) (hdn : dn ≤ 300) {y9 y10 y26 : Value} (w : World) (X : Hid (SP w0 w [.blk N 28 (h.cells (.slice Ao on oc))])) (HQ : Hid (∀ (y24 y25 y26 : Value) (A1 : Option Addr) (M : Nat) (w' : World), SP w0 w' [.blk N 28 (h.cells (.slice Ao on oc)), .own .u8 5 A1 (dn + 12) (dn + 12) (data ++ marksFrom 1 0 12), .blk M 28 (h.cells (.slice Ao on oc))] → Q .normal ⟨#[u0, u1, u2, .slice Ad dn dc, .pointer (some ⟨N, 0, none⟩), u5, u6, u7, u8, .pointer (some ⟨M, 0, none⟩), .slice A1 dn (dn + 12), u11, u12, u13, u14, u15, u16, u17, u18, u19, u20, u21, u22, u23, y24, y25, y26, u27, u28, u29, u30, u31, u32, u33, u34, u35, u36, u37, u38, u39, u40, u41, u42, u43, u44, u45, u46, u47, u48, u49, u50, u51, u52, u53, u54, u55, u56, u57, u58, u59, u60, u61, u62, u63, u64, u65, u66, u67, u68, u69, u70, u71, u72, u73, u74], []⟩ w')) :
    wpAnyH Try.prog .any (opsAt Try.f14 3) (NoPanic Q) (fun W => W.heap[N]? = some (.cells (h.cells (.slice Ao on oc)) 28 (0, 0))) 4 #[true, true, false, false, false, false] ⟨#[u0, u1, u2, .slice Ad dn dc, .pointer (some ⟨N, 0, none⟩), u5, u6, u7, u8, y9, y10, u11, u12, u13, u14, u15, u16, u17, u18, u19, u20, u21, u22, u23, .agg (h.cells (.slice Ao on oc)), .slice Ad dn dc, y26, u27, u28, u29, u30, u31, u32, u33, u34, u35, u36, u37, u38, u39, u40, u41, u42, u43, u44, u45, u46, u47, u48, u49, u50, u51, u52, u53, u54, u55, u56, u57, u58, u59, u60, u61, u62, u63, u64, u65, u66, u67, u68, u69, u70, u71, u72, u73, u74], []⟩ w := by
  have hHeld : (fun W => W.heap[N]? = some (.cells (h.cells (.slice Ao on oc)) 28 (0, 0))) w := by exact X.out.blk 0 rfl
  refine wpAnyH_ready (rs := [2, 3]) (by kernel_rfl) (by simp) ?_
  refine cons_lit rfl (fun K hK => ?ss2x1) (cons_lit rfl (fun K hK => ?ss3x1) AllReadyH.nil)
  case ss2x1 =>
    go_simp
    refine (lent_any Ad dn dc data _ (RD2.out _ X.out.bel) (by omega)).mono ?_
    rintro e v ⟨A1, n1, rfl, hn1, own, hb⟩
    obtain rfl : dn = n1 := by rw [hn1, HL.out]
    have Y := Lib.hid (show SP w0 v [.blk N 28 (h.cells (.slice Ao on oc)), .own .u8 5 A1 (dn + 12) (dn + 12) (data ++ marksFrom 1 0 12)] from (X.out.pushOwn hb own).pick [0, 1] (by decide) rfl)
    clear own hb hn1
    refine hK.out _ _ (by exact Y.out.blk 0 rfl) (fun hHeld => ?_)
    clear hK K
    (try simp only [Act.put]); (try simp only [List.setIfInBounds_toArray, List.set_cons_zero, List.set_cons_succ])
    exact w8s_1 w0 N h Ao on oc Ad dn dc data RD2 HL hdn A1 _ Y HQ
  case ss3x1 =>
    go_simp
    obtain ⟨M, hM⟩ : ∃ g, g = w.heap.size := ⟨_, rfl⟩
    rw [← hM]
    refine nameW' (fun v hv => ?_)
    have Y := Lib.hid (show SP w0 v [.blk N 28 (h.cells (.slice Ao on oc)), .blk M 28 (th0.cells (.slice none 0 0))] by rw [hv, hM]; exact (X.out.alloc 28 (th0.cells (.slice none 0 0))).pick [0, 1] (by decide) rfl)
    clear hv hM
    refine hK.out _ _ (by exact Y.out.blk 0 rfl) (fun hHeld => ?_)
    clear hK K
    (try simp only [Act.put]); (try simp only [List.setIfInBounds_toArray, List.set_cons_zero, List.set_cons_succ])
    exact w8s_4 w0 N h Ao on oc Ad dn dc data RD2 HL hdn M _ Y HQ


theorem tB_len (h : TH) (os : List Int) (s d : Int) (data : List Int) : (tB h os s d data).length ≤ 20 + os.length + data.length := by
  unfold tB
  split
  · simp
  · rw [tPkt_len]; exact Nat.le_refl _

set_option maxHeartbeats 8000000 in
set_option maxRecDepth 100000 in
theorem writes8_any (h : TH) (hwf : h.WF) (Ao : Option Addr) (on oc : Nat) (os : List Int) (s d : Int) (Ad : Option Addr) (dn dc : Nat) (data : List Int) (w : World) (ro : RD .u8 w w.heap.size Ao on os) (bo : BD 255 os)
    (hs : 0 ≤ s ∧ s ≤ 4294967295) (hd : 0 ≤ d ∧ d ≤ 4294967295) (rd : RD .u8 w w.heap.size Ad dn data) (bd : BD 255 data) :
    Calls Try.prog 14 #[.agg (h.cells (.slice Ao on oc)), .int .u32 s, .int .u32 d, .slice Ad dn dc] w fun e w' => e = .returned (.bool true) ∧ Below w.heap.size w w' := by
  have HLO := Lib.hid ro.len
  have HLD := Lib.hid rd.len
  have RO := Lib.hid (fun (W : World) (hb : Below w.heap.size w W) => (show RD .u8 W W.heap.size Ao on os from (ro.below hb).more hb.size))
  have RD2 := Lib.hid (fun (W : World) (hb : Below w.heap.size w W) => (show RD .u8 W W.heap.size Ad dn data from (rd.below hb).more hb.size))
  have S0 := (SP.start w).alloc 28 (h.cells (.slice Ao on oc))
  clear ro rd
  go_enter Try.func14, Try.ntmps14
  unfold TH.cells
  go_upto_region 1 with fail
  change Code.wp _ _ _ _ (w.alloc (.cells (h.cells (.slice Ao on oc)) 28))
  generalize w.alloc (.cells (h.cells (.slice Ao on oc)) 28) = w1 at S0 ⊢
  obtain ⟨N, hN⟩ : ∃ N, N = w.heap.size := ⟨_, rfl⟩
  rw [← hN] at S0 ⊢
  have HN := Lib.hid hN
  have X := Lib.hid S0
  clear hN S0
  have c7 : w1.cell? ⟨N, 7, none⟩ = some (.slice Ao on oc) := X.out.cell 0 rfl 7 rfl
  by_cases h60 : 60 < on
  · have t1 : (60 : Int) < (on : Int) := by omega
    go_wp2_with fail
    go_ret
    exact ⟨rfl, X.out.bel⟩
  have t1 : ¬ (60 : Int) < (on : Int) := by omega
  by_cases h300 : 300 < dn
  · have t2 : (300 : Int) < (dn : Int) := by omega
    go_wp2_with fail
    go_ret
    exact ⟨rfl, X.out.bel⟩
  have t2 : ¬ (300 : Int) < (dn : Int) := by omega
  go_upto_region 3 with fail
  clear c7 t1 t2
  refine wp_region_noPanic ?_
  refine wp_region_held_drew (S := fun W => W.heap[N]? = some (.cells (h.cells (.slice Ao on oc)) 28 (0, 0))) (by kernel_rfl) (by exact X.out.drew.blk 0 rfl) (fun hHeld => ?_)
  have X0 := Lib.hid X.out.drew
  generalize w1.drew = v0 at X0 hHeld ⊢
  refine' take_lit (i := 0) (v := .agg ((h.cells (.slice Ao on oc)))) rfl (by kernel_rfl) (by kernel_rfl) (by kernel_rfl) (fun _ _ _ h => h) (Or.inl ⟨by rfl, ?yy5001⟩) (by assumption) ?rr5001
  case yy5001 => intro w' hSw; exact exec_load_row 28 _ rfl N rfl 28 ((h.cells (.slice Ao on oc))) (0, 0) _ (hSw) Try.underlying28 rfl (by kernel_rfl)
  (try simp only [Act.put]); (try simp only [List.setIfInBounds_toArray, List.set_cons_zero, List.set_cons_succ])
  refine' take_lit (i := 1) (v := _) rfl (by kernel_rfl) (by kernel_rfl) (by kernel_rfl) (fun _ _ _ h => h) (Or.inl ⟨by rfl, ?yy5002⟩) (by assumption) ?rr5002
  case yy5002 => intro w' hSw; (try dsimp only at hSw); go_simp; try (with_reducible rfl)
  (try simp only [Act.put]); (try simp only [List.setIfInBounds_toArray, List.set_cons_zero, List.set_cons_succ])
  clear hHeld X
  refine w8s_0 w N h Ao on oc Ad dn dc data RD2 HLD (by omega) _ X0 (Lib.hid ?_)
  intro y24 y25 y26 A1 M w2 hX2
  have X2 := Lib.hid hX2
  clear hX2 X0
  have c7 : w2.cell? ⟨N, 7, none⟩ = some (.slice Ao on oc) := X2.out.cell 0 rfl 7 rfl
  go_wp2_with fail
  refine (lent_any Ao on oc os w2 (RO.out _ X2.out.bel) (by omega)).mono ?_
  rintro e w3 ⟨A3, n3, rfl, hn3, own3, hb3⟩
  obtain rfl : on = n3 := by rw [hn3, HLO.out]
  have X3 := Lib.hid (show SP w w3 [.blk N 28 (h.cells (.slice Ao on oc)), .own .u8 5 A1 (dn + 12) (dn + 12) (data ++ marksFrom 1 0 12), .blk M 28 (h.cells (.slice Ao on oc)), .own .u8 5 A3 (on + 12) (on + 12) (os ++ marksFrom 1 0 12)] from X2.out.pushOwn hb3 own3)
  clear own3 hb3 hn3 X2 c7
  have c7 : w3.cell? ⟨M, 7, none⟩ = some (.slice Ao on oc) := X3.out.cell 2 rfl 7 rfl
  have f7 := X3.out.free 2 rfl 7
  have X4 := Lib.hid (show SP w (w3.setCell ⟨M, 7, none⟩ (.slice A3 on (on + 12))) [.blk N 28 (h.cells (.slice Ao on oc)), .own .u8 5 A1 (dn + 12) (dn + 12) (data ++ marksFrom 1 0 12), .blk M 28 (h.cells (.slice A3 on (on + 12))), .own .u8 5 A3 (on + 12) (on + 12) (os ++ marksFrom 1 0 12)] from X3.out.setB 2 rfl 7 _)
  go_upto_region 5 with fail
  generalize w3.setCell ⟨M, 7, none⟩ (.slice A3 on (on + 12)) = w4 at X4 ⊢
  clear X3 c7 f7
  have BM : BLOCK w4 M 28 (h.cells (.slice A3 on (on + 12))) := X4.out.blk 2 rfl
  have RO4 := Lib.hid (show RD .u8 w4 w4.heap.size A3 on os by
    have := ((X4.out.own 3 rfl).cut (m := on) (by omega)).rd
    rwa [List.take_left' HLO.out] at this)
  have RD4 := Lib.hid (show RD .u8 w4 w4.heap.size A1 dn data by
    have := ((X4.out.own 1 rfl).cut (m := dn) (by omega)).rd
    rwa [List.take_left' HLD.out] at this)
  go_wp2_with (refine wpList_load_row rfl 28 _ rfl M rfl 28 (h.cells (.slice A3 on (on + 12))) (0, 0) _ BM Try.underlying28 rfl (by kernel_rfl) ?_)
  refine (tcwrite_any h hwf A3 on (on + 12) os s d A1 dn (dn + 12) data _ RO4.out bo (by omega) hs hd RD4.out bd (by omega)).mono ?_
  rintro e w5 ⟨A5, n5, c5, rfl, own5, hb5⟩
  have hl5 := own5.len
  have hle5 := own5.le
  have hB := tB_len h os s d data
  rw [HLO.out, HLD.out] at hB
  have hn5 : n5 ≤ 380 := by omega
  have X5 := Lib.hid (X4.out.pushOwn hb5 own5)
  clear own5 hb5 X4 BM RO4 RD4 hB
  have BN : BLOCK w5 N 28 (h.cells (.slice Ao on oc)) := X5.out.blk 0 rfl
  go_wp2_with (refine wpList_load_row rfl 28 _ rfl N rfl 28 (h.cells (.slice Ao on oc)) (0, 0) _ BN Try.underlying28 rfl (by kernel_rfl) ?_)
  refine (r8Write_any h hwf Ao on oc os s d Ad dn dc data _ (RO.out _ X5.out.bel) bo (by omega) hs hd (RD2.out _ X5.out.bel) bd (by omega)).mono ?_
  rintro e w6 ⟨A6, n6, c6, rfl, own6, hb6⟩
  have hl6 := own6.len
  have X6 := Lib.hid (X5.out.pushOwn hb6 own6)
  clear own6 hb6 X5 BN
  obtain ⟨er, her⟩ : ∃ x, x = tE h on dn := ⟨_, rfl⟩
  rw [← her]
  clear her
  have te : (er == er) = true := by simp
  go_wp2_with fail
  refine (same_any A5 A6 n5 c5 n6 c6 _ _ _ (X6.out.rd 4 rfl) (X6.out.rd 5 rfl) (by omega) (by omega)).mono ?_
  rintro e wa ⟨rfl, ma, ha⟩
  rw [show (tB h os s d data == tB h os s d data) = true by simp]
  have XA := Lib.hid (ha ▸ X6.out.drewN ma)
  clear ha X6
  have cN : wa.cell? ⟨N, 7, none⟩ = some (.slice Ao on oc) := XA.out.cell 0 rfl 7 rfl
  have cM : wa.cell? ⟨M, 7, none⟩ = some (.slice A3 on (on + 12)) := XA.out.cell 2 rfl 7 rfl
  go_wp2_with fail
  refine (kept_any A3 on os Ao oc _ (RO.out _ XA.out.bel) (XA.out.rd 3 rfl) (by omega)).mono ?_
  rintro e wb ⟨rfl, mb, hb⟩
  have XB := Lib.hid (hb ▸ XA.out.drewN mb)
  clear hb XA cN cM
  go_wp2_with fail
  refine (kept_any A1 dn data Ad dc _ (RD2.out _ XB.out.bel) (XB.out.rd 1 rfl) (by omega)).mono ?_
  rintro e wc ⟨rfl, mc, hc⟩
  have XC := Lib.hid (hc ▸ XB.out.drewN mc)
  clear hc XB
  have cM : wc.cell? ⟨M, 7, none⟩ = some (.slice A3 on (on + 12)) := XC.out.cell 2 rfl 7 rfl
  go_wp2_with fail
  refine (sp_apart XC.out [3, 1, 4] [⟨A3, on, on + 12⟩, ⟨A1, dn, dn + 12⟩, ⟨A5, n5, c5⟩] (SPD.cons rfl (by omega) (by omega) (SPD.cons rfl (by omega) (by omega) (SPD.cons rfl (Nat.le_refl _) (by omega) SPD.nil))) (by decide) (by simp) (by simp) 3 3 rfl).mono ?_
  rintro e wd ⟨rfl, hbd⟩
  go_wp2_with fail
  go_ret
  exact ⟨rfl, XC.out.bel.trans hbd⟩

set_option maxHeartbeats 8000000 in
set_option maxRecDepth 100000 in
theorem tcpWrites_walk (sp dp sq ak fl wi ug : Int) (Ao : Option Addr) (on oc : Nat) (os : List Int) (s d : Int) (Ad : Option Addr) (dn dc : Nat) (data : List Int) (w : World) (h1 : 0 ≤ sp ∧ sp ≤ 65535) (h2 : 0 ≤ dp ∧ dp ≤ 65535) (h3 : 0 ≤ sq ∧ sq ≤ 4294967295) (h4 : 0 ≤ ak ∧ ak ≤ 4294967295) (h5 : 0 ≤ fl ∧ fl ≤ 255) (h6 : 0 ≤ wi ∧ wi ≤ 65535) (h7 : 0 ≤ ug ∧ ug ≤ 65535)
    (ro : ROW .u8 255 w Ao on oc os) (hs : 0 ≤ s ∧ s ≤ 4294967295) (hd : 0 ≤ d ∧ d ≤ 4294967295) (rd : ROW .u8 255 w Ad dn dc data) :
    Calls Try.prog 4 #[.agg #[.int .u16 sp, .int .u16 dp, .int .u32 sq, .int .u32 ak, .int .u8 fl, .int .u16 wi, .int .u16 ug, .slice Ao on oc], .int .u32 s, .int .u32 d, .slice Ad dn dc] w fun e w' => e = .returned (.bool true) ∧ Below w.heap.size w w' := by
  have S0 := (SP.start w).alloc 28 ((TH.mk sp dp sq ak fl wi ug).cells (.slice Ao on oc))
  have hro := ro.rd
  have hbo := ro.bd
  have hrd := rd.rd
  have hbd := rd.bd
  clear ro rd
  go_enter Try.func4, Try.ntmps4
  go_upto_region 1 with fail
  change Code.wp _ _ _ _ (w.alloc (.cells ((TH.mk sp dp sq ak fl wi ug).cells (.slice Ao on oc)) 28))
  generalize w.alloc (.cells ((TH.mk sp dp sq ak fl wi ug).cells (.slice Ao on oc)) 28) = w0 at S0 ⊢
  have X := Lib.hid S0
  clear S0
  have BN : BLOCK w0 w.heap.size 28 ((TH.mk sp dp sq ak fl wi ug).cells (.slice Ao on oc)) := X.out.blk 0 rfl
  go_wp2_with (refine wpList_load_row rfl 28 _ rfl w.heap.size rfl 28 ((TH.mk sp dp sq ak fl wi ug).cells (.slice Ao on oc)) (0, 0) _ BN Try.underlying28 rfl (by kernel_rfl) ?_)
  refine (writes8_any (TH.mk sp dp sq ak fl wi ug) ⟨h1, h2, h3, h4, h5, h6, h7⟩ Ao on oc os s d Ad dn dc data _ ((hro.below X.out.bel).more X.out.size) hbo hs hd ((hrd.below X.out.bel).more X.out.size) hbd).mono ?_
  rintro e w1 ⟨rfl, hb1⟩
  have X1 := Lib.hid (X.out.next hb1)
  clear hb1 BN
  go_wp2_with fail
  refine (awake8_any _).mono ?_
  rintro e w2 ⟨rfl, hb2⟩
  go_wp2_with fail
  go_ret
  exact ⟨rfl, (X1.out.next hb2).bel⟩
end Go.Proofs.Ythdpcblmmjocmaa
