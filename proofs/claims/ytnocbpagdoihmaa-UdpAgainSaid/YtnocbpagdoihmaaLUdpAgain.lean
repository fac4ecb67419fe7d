/- The walk of UdpAgain. -/
import Derived.Test.YtnocbpagdoihmaaUdpL
import Derived.Test.YtnocbpagdoihmaaWAwake9
import Derived.Test.YtnocbpagdoihmaaRow
namespace Go.Proofs.Ytnocbpagdoihmaa
open Go.RowKit
set_option linter.unusedVariables false
attribute [local go_sem ↓] Go.wp_at_zero Go.wp_at_succ

set_option maxHeartbeats 8000000 in
set_option maxRecDepth 100000 in
theorem udpAgain_walk (A : Option Addr) (n c : Nat) (zs : List Int) (s d : Int) (w : World) (h : ROW .u8 255 w A n c zs) (hs : 0 ≤ s ∧ s ≤ 4294967295) (hd : 0 ≤ d ∧ d ≤ 4294967295) :
    Calls Try.prog 7 #[.slice A n c, .int .u32 s, .int .u32 d] w fun e w' => e = .returned (.bool true) ∧ Below w.heap.size w w' := by
  obtain ⟨i0, hi, hz0, hz1, hz2⟩ := info_parts infoU8
  have hrd := h.rd
  have hz := h.bd
  have hnc := h.le
  have hcm := h.cap
  clear h
  have S0 := SP.start w
  go_enter Try.func7, Try.ntmps7
  go_wp2_with fail
  refine (awake9_any _).mono ?_
  rintro e w1 ⟨rfl, hb1⟩
  have S1 := Lib.hid (S0.next hb1)
  clear S0 hb1
  by_cases hbig : 300 < n
  · have t1 : (300 : Int) < (n : Int) := by omega
    go_wp2_with fail
    go_ret
    exact ⟨rfl, S1.out.bel⟩
  · have t1 : ¬ (300 : Int) < (n : Int) := by omega
    have hl := hrd.len
    by_cases hE : udpE zs = 0
    · obtain ⟨ok, hag, hdl⟩ := again9 hz (by omega) hE hs hd
      obtain ⟨q1, q2, q3, q4, q5, q6, q7⟩ := udpE_ok hE
      rw [hl] at q3 q7
      have hu : uhd zs = uhd1 zs := by unfold uhd; rw [if_pos hE]
      have ht : udpTo zs = (udpN zs : Int) := by unfold udpTo; rw [if_pos hE]; exact q5.symm
      have hV : udpV zs s d = udpRight zs s d := by unfold udpV; rw [hE]; rfl
      have hwr : ¬ UWrong (wordAt zs 2) (udpN zs - 8) := by unfold UWrong; omega
      obtain ⟨p1, p2, p3, p4, p5⟩ := pkt_read (ck := wordAt zs 6 != 0) ok q4 []
      rw [List.append_nil] at p1 p5
      have hlen := uPkt_len (wordAt zs 0) (wordAt zs 2) (wordAt zs 6 != 0) s d ((zs.take (udpN zs)).drop 8)
      have hpV : udpV (uPkt (wordAt zs 0) (wordAt zs 2) (wordAt zs 6 != 0) s d ((zs.take (udpN zs)).drop 8)) s d = true := by unfold udpV; rw [p1, p5]; rfl
      have hB : uwB (wordAt zs 0) (wordAt zs 2) (wordAt zs 6 != 0) s d ((zs.take (udpN zs)).drop 8) = uPkt (wordAt zs 0) (wordAt zs 2) (wordAt zs 6 != 0) s d ((zs.take (udpN zs)).drop 8) := by unfold uwB; rw [if_neg (by rw [hdl]; exact hwr)]
      have hBE : uwE (wordAt zs 2) (udpN zs - 8) = 0 := by unfold uwE; rw [if_neg hwr]
      have hPB : BD 255 (uPkt (wordAt zs 0) (wordAt zs 2) (wordAt zs 6 != 0) s d ((zs.take (udpN zs)).drop 8)) := by
        obtain ⟨e1, e2, e3⟩ := wrC_eq ok
        exact (uHead_bd ok.sp ok.dp (by omega) (by split <;> omega)).append ok.bd
      have HH := Lib.hid (And.intro hu (And.intro ht (And.intro hV (And.intro hpV (And.intro hB (And.intro hBE (And.intro hag (And.intro hdl (And.intro hlen hE)))))))))
      have hmid := hrd.mid (c := c) (lo := 8) (hi := udpN zs) (by omega) q7 hnc
      have HM := Lib.hid (show RD .u8 w w.heap.size (cutA A c 8) (udpN zs - 8) ((zs.take (udpN zs)).drop 8) by rw [List.drop_take]; exact hmid)
      have HOK := Lib.hid ok
      clear hu ht hV hwr p1 p2 p3 p4 p5 hlen hpV hB hBE hag hdl hmid ok q1 q2 q4 hl hE hbig q5 q3
      go_wp2_with fail
      refine (uread_any A n c zs _ ((hrd.below S1.out.bel).more S1.out.size) hz (by omega) hnc).mono ?_
      rintro e w2 ⟨rfl, hb2⟩
      rw [HH.out.1, HH.out.2.1, HH.out.2.2.2.2.2.2.2.2.2]
      have S2 := Lib.hid ((S1.out.next hb2).alloc 28 (uhd1 zs))
      clear hb2 S1
      unfold uhd1
      go_upto_region 6 with fail
      rw [show w2.alloc (.cells #[.int .u16 (wordAt zs 0), .int .u16 (wordAt zs 2), .bool (wordAt zs 6 != 0)] 28) = w2.alloc (.cells (uhd1 zs) 28) from rfl]
      generalize hw3 : w2.alloc (.cells (uhd1 zs) 28) = w3 at S2 ⊢
      clear hw3
      have u1 : ¬ (udpN zs : Int) < 8 := by omega
      have u2 : ¬ (n : Int) < (udpN zs : Int) := by omega
      have u3 : (8 : Int) ≤ (udpN zs : Int) := by omega
      have u4 : (udpN zs : Int) ≤ (c : Int) := by omega
      have f0 : w3.cell? ⟨w2.heap.size, 0, none⟩ = some (.int .u16 (wordAt zs 0)) := S2.out.cell 0 rfl 0 rfl
      have f1 : w3.cell? ⟨w2.heap.size, 1, none⟩ = some (.int .u16 (wordAt zs 2)) := S2.out.cell 0 rfl 1 rfl
      have f2 : w3.cell? ⟨w2.heap.size, 2, none⟩ = some (.bool (wordAt zs 6 != 0)) := S2.out.cell 0 rfl 2 rfl
      have sl := fun W => run_slice_lohi (P := Try.prog) W Try.underlying22 hi hz1 A n c 8 (udpN zs) 8 (udpN zs) rfl rfl (by omega) (by omega)
      go_upto_region 10 with fail
      go_region_held3 (fun W' => W'.cell? ⟨w2.heap.size, 0, none⟩ = some (.int .u16 (wordAt zs 0)) ∧ W'.cell? ⟨w2.heap.size, 1, none⟩ = some (.int .u16 (wordAt zs 2)) ∧ W'.cell? ⟨w2.heap.size, 2, none⟩ = some (.bool (wordAt zs 6 != 0))) (first | exact ⟨S4.out.cell 0 rfl 0 rfl, S4.out.cell 0 rfl 1 rfl, S4.out.cell 0 rfl 2 rfl⟩ | go_keep)
        ((go_at_call 14
          refine (uwrite_any (wordAt zs 0) (wordAt zs 2) (wordAt zs 6 != 0) s d (cutA A c 8) (udpN zs - 8) (c - 8) ((zs.take (udpN zs)).drop 8) _ HOK.out.sp HOK.out.dp hs hd ((HM.out.below S2.out.drew.bel).more S2.out.drew.size) HOK.out.bd (by omega)).mono ?_
          rintro e w4 ⟨A4, n4, c4, rfl, own4, hb4⟩
          rw [HH.out.2.2.2.2.1] at own4
          rw [HH.out.2.2.2.2.2.1]
          have S4 := Lib.hid (S2.out.drew.pushOwn hb4 own4)
          have hn4 := own4.len
          rw [HH.out.2.2.2.2.2.2.2.2.1, HH.out.2.2.2.2.2.2.2.1] at hn4
          clear own4 hb4))
      have hl4 := (S4.out.own 1 rfl).le
      clear f0 f1 f2 S2 sl
      obtain ⟨s0, s1⟩ := hs
      obtain ⟨d0, d1⟩ := hd
      go_wp2_with fail
      refine (uverify_any A n c zs s d _ ((hrd.below S4.out.bel).more S4.out.size) hz (by omega) hnc s0 s1 d0 d1).mono ?_
      rintro e w5 ⟨rfl, hb5⟩
      rw [HH.out.2.2.1, HH.out.2.2.2.2.2.2.2.2.2]
      have S5 := Lib.hid (S4.out.next hb5)
      clear hb5 S4
      go_wp2_with fail
      refine (verified_any A4 n4 c4 _ s d _ (S5.out.rd 1 rfl) hPB (by omega) hl4.1 s0 s1 d0 d1).mono ?_
      rintro e w6 ⟨rfl, hb6⟩
      rw [HH.out.2.2.2.1]
      have S6 := Lib.hid (S5.out.next hb6)
      clear hb6 S5
      go_wp2_with fail
      refine (same_any A4 A n4 c4 (udpN zs) c _ (zs.take (udpN zs)) _ (S6.out.rd 1 rfl) (((hrd.below S6.out.bel).more S6.out.size).take q7) (by omega) (by omega)).mono ?_
      rintro e w7 ⟨rfl, m7, h7⟩
      rw [← HH.out.2.2.2.2.2.2.1]
      have S7 := Lib.hid (h7 ▸ S6.out.drewN m7)
      clear h7 S6
      have tt : (udpRight zs s d == udpRight zs s d) = true := by simp
      go_wp2_with fail
      go_ret
      exact ⟨rfl, S7.out.bel⟩
    · have hu : uhd zs = uhd0 := by unfold uhd; rw [if_neg hE]
      have ht : udpTo zs = 0 := by unfold udpTo; rw [if_neg hE]
      have t2 : (udpE zs == 0) = false := by simp [hE]
      have t3 : (udpE zs != 0) = true := by simp [hE]
      have HH := Lib.hid (And.intro hu ht)
      clear hu ht hE hl
      go_wp2_with fail
      refine (uread_any A n c zs _ ((hrd.below S1.out.bel).more S1.out.size) hz (by omega) hnc).mono ?_
      rintro e w2 ⟨rfl, hb2⟩
      rw [HH.out.1, HH.out.2]
      have S2 := Lib.hid ((S1.out.next hb2).alloc 28 uhd0)
      clear hb2 S1
      unfold uhd0
      go_wp2_with fail
      go_ret
      exact ⟨rfl, S2.out.bel⟩
end Go.Proofs.Ytnocbpagdoihmaa
