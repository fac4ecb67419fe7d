/- bafflelaw09.reads and writes; the walks of UdpReads and UdpWrites. -/
import Derived.Test.YtnocbpagdoihmaaWRef9
import Derived.Test.YtnocbpagdoihmaaWAwake9
import Derived.Test.YtnocbpagdoihmaaWSpA
import Derived.Test.YtnocbpagdoihmaaRow
namespace Go.Proofs.Ytnocbpagdoihmaa
open Go.RowKit
set_option linter.unusedVariables false
attribute [local go_sem ↓] Go.wp_at_zero Go.wp_at_succ

theorem udpTB_len {zs : List Int} : (udpTB zs).length ≤ zs.length := by
  unfold udpTB
  split
  · next h => rw [turnU_len h.1]; obtain ⟨_, _, _, _, _, _, h7⟩ := udpE_ok h.1; exact h7
  · simp

theorem uhd3 (zs : List Int) : ∃ u0 u1 u2, uhd zs = #[.int .u16 u0, .int .u16 u1, .bool u2] := by
  unfold uhd
  split
  · exact ⟨_, _, _, rfl⟩
  · exact ⟨_, _, _, rfl⟩

set_option maxHeartbeats 8000000 in
set_option maxRecDepth 100000 in
theorem reads9_any (A : Option Addr) (n c : Nat) (zs : List Int) (s d : Int) (w : World) (h : RD .u8 w w.heap.size A n zs) (hz : BD 255 zs) (hn : n ≤ c) (hs : 0 ≤ s ∧ s ≤ 4294967295) (hd : 0 ≤ d ∧ d ≤ 4294967295) :
    Calls Try.prog 10 #[.slice A n c, .int .u32 s, .int .u32 d] w fun e w' => e = .returned (.bool true) ∧ Below w.heap.size w w' := by
  have HL := Lib.hid h.len
  have R := Lib.hid h
  have S0 := SP.start w
  obtain ⟨s0, s1⟩ := hs
  obtain ⟨d0, d1⟩ := hd
  clear h
  by_cases hbig : 300 < n
  · have t1 : (300 : Int) < (n : Int) := by omega
    go_enter Try.func10, Try.ntmps10
    go_wp2_with fail
    go_ret
    exact ⟨rfl, Below.refl _ _⟩
  · have t1 : ¬ (300 : Int) < (n : Int) := by omega
    have hc : n ≤ 140737488351232 := by omega
    go_enter Try.func10, Try.ntmps10
    go_wp2_with fail
    refine (lent_any A n c zs w R.out hc).mono ?_
    rintro e w1 ⟨A1, n1, rfl, hn1, own1, hb1⟩
    obtain rfl : n = n1 := by rw [hn1, HL.out]
    clear hn1
    have own1' := own1.cut (m := n) (by omega)
    rw [List.take_left' HL.out] at own1'
    have hle1 := own1'.le
    have H1 := Lib.hid (S0.pushOwn hb1 own1)
    have HC1 := Lib.hid own1'
    clear hb1 own1 own1' S0
    go_wp2_with fail
    refine (uread_any A1 n (n + 12) zs _ HC1.out.rd hz (by omega) (by omega)).mono ?_
    rintro e w2 ⟨rfl, hb2⟩
    have H2 := Lib.hid ((H1.out.next hb2).alloc 28 (uhd zs))
    have HC2 := Lib.hid (HC1.out.below hb2)
    obtain ⟨u0, u1, u2, hu⟩ := uhd3 zs
    rw [hu]
    rw [hu] at H2
    clear hb2 H1 HC1
    go_upto_region 5 with fail
    have HC3 := Lib.hid (HC2.out.alloc (.cells #[.int .u16 u0, .int .u16 u1, .bool u2] 28))
    generalize hw3 : w2.alloc (.cells #[.int .u16 u0, .int .u16 u1, .bool u2] 28) = w3 at H2 HC3 ⊢
    clear hw3 HC2
    go_wp2_with fail
    refine (r9Read_any A n c zs _ ((R.out.below H2.out.bel).more H2.out.size) hz (by omega)).mono ?_
    rintro e w4 ⟨rfl, hb4⟩
    rw [hu]
    have H4 := Lib.hid ((H2.out.next hb4).alloc 50 #[.int .u16 u0, .int .u16 u1, .bool u2])
    have HC4 := Lib.hid ((HC3.out.below hb4).alloc (.cells #[.int .u16 u0, .int .u16 u1, .bool u2] 50))
    clear hb4 H2 HC3
    go_upto_region 6 with fail
    generalize hw5 : w4.alloc (.cells #[.int .u16 u0, .int .u16 u1, .bool u2] 50) = w5 at H4 HC4 ⊢
    clear hw5
    go_wp2_with fail
    refine (uverify_any A1 n (n + 12) zs s d _ HC4.out.rd hz (by omega) (by omega) s0 s1 d0 d1).mono ?_
    rintro e w6 ⟨rfl, hb6⟩
    have H6 := Lib.hid (H4.out.next hb6)
    have HC6 := Lib.hid (HC4.out.below hb6)
    clear hb6 H4 HC4
    go_wp2_with fail
    refine (r9Verify_any A n c zs s d _ ((R.out.below H6.out.bel).more H6.out.size) hz (by omega) hn s0 s1 d0 d1).mono ?_
    rintro e w7 ⟨rfl, hb7⟩
    have H7 := Lib.hid (H6.out.next hb7)
    have HC7 := Lib.hid (HC6.out.below hb7)
    clear hb7 H6 HC6
    go_wp2_with fail
    refine (uturn_any A1 n (n + 12) zs _ HC7.out.rd hz (by omega) (by omega)).mono ?_
    rintro e w8 ⟨A8, n8, c8, rfl, own8, hb8⟩
    have hl8 := own8.len
    have hlT := udpTB_len (zs := zs)
    rw [HL.out] at hlT
    have hle8 := own8.le
    have H8 := Lib.hid (H7.out.pushOwn hb8 own8)
    clear hb8 own8 H7 HC7
    go_wp2_with fail
    refine (r9Turn_any A n c zs _ ((R.out.below H8.out.bel).more H8.out.size) hz (by omega) hn).mono ?_
    rintro e w9 ⟨A9, n9, c9, rfl, own9, hb9⟩
    have hl9 := own9.len
    have H9 := Lib.hid (H8.out.pushOwn hb9 own9)
    clear hb9 own9 H8
    have f0 : w9.cell? ⟨w2.heap.size, 0, none⟩ = some (.int .u16 u0) := H9.out.cell 1 rfl 0 rfl
    have f1 : w9.cell? ⟨w2.heap.size, 1, none⟩ = some (.int .u16 u1) := H9.out.cell 1 rfl 1 rfl
    have f2 : w9.cell? ⟨w2.heap.size, 2, none⟩ = some (.bool u2) := H9.out.cell 1 rfl 2 rfl
    have g0 : w9.cell? ⟨w4.heap.size, 0, none⟩ = some (.int .u16 u0) := H9.out.cell 2 rfl 0 rfl
    have g1 : w9.cell? ⟨w4.heap.size, 1, none⟩ = some (.int .u16 u1) := H9.out.cell 2 rfl 1 rfl
    have g2 : w9.cell? ⟨w4.heap.size, 2, none⟩ = some (.bool u2) := H9.out.cell 2 rfl 2 rfl
    obtain ⟨tt, htt⟩ : ∃ x, x = udpTo zs := ⟨_, rfl⟩
    obtain ⟨te, hte⟩ : ∃ x, x = udpE zs := ⟨_, rfl⟩
    obtain ⟨ue, hue⟩ : ∃ x, x = udpTE zs := ⟨_, rfl⟩
    obtain ⟨vv, hvv⟩ : ∃ x, x = udpV zs s d := ⟨_, rfl⟩
    rw [← htt, ← hte, ← hue, ← hvv]
    clear htt hte hue hvv
    go_wp2_with fail
    refine (same_any A8 A9 n8 c8 n9 c9 _ _ _ (H9.out.rd 3 rfl) (H9.out.rd 4 rfl) (by omega) (by omega)).mono ?_
    rintro e wa ⟨rfl, ma, ha⟩
    rw [show (udpTB zs == udpTB zs) = true by simp]
    have HA := Lib.hid (ha ▸ H9.out.drewN ma)
    clear ha H9 f0 f1 f2 g0 g1 g2
    go_wp2_with fail
    refine (kept_any A1 n zs A c _ ((R.out.below HA.out.bel).more HA.out.size) (HA.out.rd 0 rfl) hc).mono ?_
    rintro e wb ⟨rfl, mb, hb⟩
    have HB := Lib.hid (hb ▸ HA.out.drewN mb)
    clear hb HA
    go_wp2_with fail
    refine (sp_apart HB.out [0, 3] [⟨A1, n, n + 12⟩, ⟨A8, n8, c8⟩] (SPD.cons rfl (by omega) (by omega) (SPD.cons rfl (Nat.le_refl _) (by omega) SPD.nil)) (by decide) (by simp) (by simp) 2 2 rfl).mono ?_
    rintro e wc ⟨rfl, hbc⟩
    go_wp2_with fail
    go_ret
    exact ⟨rfl, HB.out.bel.trans hbc⟩

set_option maxHeartbeats 8000000 in
set_option maxRecDepth 100000 in
theorem udpReads_walk (A : Option Addr) (n c : Nat) (zs : List Int) (s d : Int) (w : World) (h : ROW .u8 255 w A n c zs) (hs : 0 ≤ s ∧ s ≤ 4294967295) (hd : 0 ≤ d ∧ d ≤ 4294967295) :
    Calls Try.prog 3 #[.slice A n c, .int .u32 s, .int .u32 d] w fun e w' => e = .returned (.bool true) ∧ Below w.heap.size w w' := by
  go_enter Try.func3, Try.ntmps3
  go_wp2_with fail
  refine (reads9_any A n c zs s d w h.rd h.bd h.le hs hd).mono ?_
  rintro e w1 ⟨rfl, hb1⟩
  go_wp2_with fail
  refine (awake9_any _).mono ?_
  rintro e w2 ⟨rfl, hb2⟩
  go_wp2_with fail
  go_ret
  exact ⟨rfl, hb1.trans (hb2.mono hb1.size)⟩

set_option maxHeartbeats 8000000 in
set_option maxRecDepth 100000 in
theorem writes9_any (sp dp : Int) (ck : Bool) (s d : Int) (A : Option Addr) (n c : Nat) (zs : List Int) (w : World) (h1 : 0 ≤ sp ∧ sp ≤ 65535) (h2 : 0 ≤ dp ∧ dp ≤ 65535) (hs : 0 ≤ s ∧ s ≤ 4294967295) (hd : 0 ≤ d ∧ d ≤ 4294967295)
    (h : RD .u8 w w.heap.size A n zs) (hz : BD 255 zs) (hn : n ≤ c) :
    Calls Try.prog 12 #[.agg #[.int .u16 sp, .int .u16 dp, .bool ck], .int .u32 s, .int .u32 d, .slice A n c] w fun e w' => e = .returned (.bool true) ∧ Below w.heap.size w w' := by
  have HL := Lib.hid h.len
  have R := Lib.hid h
  have S0 := (SP.start w).alloc 28 #[.int .u16 sp, .int .u16 dp, .bool ck]
  clear h
  by_cases hbig : 300 < n
  · have t1 : (300 : Int) < (n : Int) := by omega
    go_enter Try.func12, Try.ntmps12
    go_wp2_with fail
    go_ret
    exact ⟨rfl, S0.bel⟩
  · have t1 : ¬ (300 : Int) < (n : Int) := by omega
    have hc : n ≤ 140737488351232 := by omega
    go_enter Try.func12, Try.ntmps12
    go_upto_region 1 with fail
    generalize hw0 : w.alloc (.cells #[.int .u16 sp, .int .u16 dp, .bool ck] 28) = w0 at S0 ⊢
    clear hw0
    go_wp2_with fail
    refine (lent_any A n c zs w0 ((R.out.below S0.bel).more S0.size) hc).mono ?_
    rintro e w1 ⟨A1, n1, rfl, hn1, own1, hb1⟩
    obtain rfl : n = n1 := by rw [hn1, HL.out]
    clear hn1
    have own1' := own1.cut (m := n) (by omega)
    rw [List.take_left' HL.out] at own1'
    have H1 := Lib.hid (S0.pushOwn hb1 own1)
    have HC1 := Lib.hid own1'
    clear hb1 own1 own1' S0
    have f0 : w1.cell? ⟨w.heap.size, 0, none⟩ = some (.int .u16 sp) := H1.out.cell 0 rfl 0 rfl
    have f1 : w1.cell? ⟨w.heap.size, 1, none⟩ = some (.int .u16 dp) := H1.out.cell 0 rfl 1 rfl
    have f2 : w1.cell? ⟨w.heap.size, 2, none⟩ = some (.bool ck) := H1.out.cell 0 rfl 2 rfl
    go_wp2_with fail
    refine (uwrite_any sp dp ck s d A1 n (n + 12) zs _ h1 h2 hs hd HC1.out.rd hz (by omega)).mono ?_
    rintro e w2 ⟨A2, n2, c2, rfl, own2, hb2⟩
    have hl2 := own2.len
    have hlB : (uwB sp dp ck s d zs).length ≤ 8 + n := by
      unfold uwB
      split
      · simp
      · rw [uPkt_len, HL.out]; omega
    have hle2 := own2.le
    have H2 := Lib.hid (H1.out.pushOwn hb2 own2)
    have HC2 := Lib.hid (HC1.out.below hb2)
    clear hb2 own2 f0 f1 f2 H1 HC1
    have f0 : w2.cell? ⟨w.heap.size, 0, none⟩ = some (.int .u16 sp) := H2.out.cell 0 rfl 0 rfl
    have f1 : w2.cell? ⟨w.heap.size, 1, none⟩ = some (.int .u16 dp) := H2.out.cell 0 rfl 1 rfl
    have f2 : w2.cell? ⟨w.heap.size, 2, none⟩ = some (.bool ck) := H2.out.cell 0 rfl 2 rfl
    go_wp2_with fail
    refine (r9Write_any sp dp ck s d A n c zs _ h1 h2 hs hd ((R.out.below H2.out.bel).more H2.out.size) hz (by omega)).mono ?_
    rintro e w3 ⟨A3, n3, c3, rfl, own3, hb3⟩
    have hl3 := own3.len
    have H3 := Lib.hid (H2.out.pushOwn hb3 own3)
    clear hb3 own3 f0 f1 f2 H2 HC2
    obtain ⟨er, her⟩ : ∃ x, x = uwE dp n := ⟨_, rfl⟩
    rw [← her]
    clear her
    have te : (er == er) = true := by simp
    go_wp2_with fail
    refine (same_any A2 A3 n2 c2 n3 c3 _ _ _ (H3.out.rd 2 rfl) (H3.out.rd 3 rfl) (by omega) (by omega)).mono ?_
    rintro e wa ⟨rfl, ma, ha⟩
    rw [show (uwB sp dp ck s d zs == uwB sp dp ck s d zs) = true by simp]
    have HA := Lib.hid (ha ▸ H3.out.drewN ma)
    clear ha H3
    go_wp2_with fail
    refine (kept_any A1 n zs A c _ ((R.out.below HA.out.bel).more HA.out.size) (HA.out.rd 1 rfl) hc).mono ?_
    rintro e wb ⟨rfl, mb, hb⟩
    have HB := Lib.hid (hb ▸ HA.out.drewN mb)
    clear hb HA
    go_wp2_with fail
    refine (sp_apart HB.out [1, 2] [⟨A1, n, n + 12⟩, ⟨A2, n2, c2⟩] (SPD.cons rfl (by omega) (by omega) (SPD.cons rfl (Nat.le_refl _) (by omega) SPD.nil)) (by decide) (by simp) (by simp) 2 2 rfl).mono ?_
    rintro e wc ⟨rfl, hbc⟩
    go_wp2_with fail
    go_ret
    exact ⟨rfl, HB.out.bel.trans hbc⟩

set_option maxHeartbeats 8000000 in
set_option maxRecDepth 100000 in
theorem udpWrites_walk (sp dp : Int) (ck : Bool) (s d : Int) (A : Option Addr) (n c : Nat) (zs : List Int) (w : World) (h1 : 0 ≤ sp ∧ sp ≤ 65535) (h2 : 0 ≤ dp ∧ dp ≤ 65535) (hs : 0 ≤ s ∧ s ≤ 4294967295) (hd : 0 ≤ d ∧ d ≤ 4294967295)
    (h : ROW .u8 255 w A n c zs) :
    Calls Try.prog 4 #[.agg #[.int .u16 sp, .int .u16 dp, .bool ck], .int .u32 s, .int .u32 d, .slice A n c] w fun e w' => e = .returned (.bool true) ∧ Below w.heap.size w w' := by
  have S0 := (SP.start w).alloc 28 #[.int .u16 sp, .int .u16 dp, .bool ck]
  have hrd := h.rd
  have hz := h.bd
  have hn := h.le
  clear h
  go_enter Try.func4, Try.ntmps4
  go_upto_region 1 with fail
  generalize hw0 : w.alloc (.cells #[.int .u16 sp, .int .u16 dp, .bool ck] 28) = w0 at S0 ⊢
  clear hw0
  have f0 : w0.cell? ⟨w.heap.size, 0, none⟩ = some (.int .u16 sp) := S0.cell 0 rfl 0 rfl
  have f1 : w0.cell? ⟨w.heap.size, 1, none⟩ = some (.int .u16 dp) := S0.cell 0 rfl 1 rfl
  have f2 : w0.cell? ⟨w.heap.size, 2, none⟩ = some (.bool ck) := S0.cell 0 rfl 2 rfl
  go_wp2_with fail
  refine (writes9_any sp dp ck s d A n c zs _ h1 h2 hs hd ((hrd.below S0.bel).more S0.size) hz hn).mono ?_
  rintro e w1 ⟨rfl, hb1⟩
  have S1 := Lib.hid (S0.next hb1)
  clear f0 f1 f2 hb1
  go_wp2_with fail
  refine (awake9_any _).mono ?_
  rintro e w2 ⟨rfl, hb2⟩
  go_wp2_with fail
  go_ret
  exact ⟨rfl, (S1.out.next hb2).bel⟩
end Go.Proofs.Ytnocbpagdoihmaa
