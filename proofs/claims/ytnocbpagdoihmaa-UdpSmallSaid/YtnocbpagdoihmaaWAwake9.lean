/- The examples of the chapter on datagrams: awake returns true. -/
import Derived.Test.YtnocbpagdoihmaaWUdpW
import Derived.Test.YtnocbpagdoihmaaWAwake0
namespace Go.Proofs.Ytnocbpagdoihmaa
open Go.RowKit
set_option linter.unusedVariables false
attribute [local go_sem ↓] Go.wp_at_zero Go.wp_at_succ

def EX9 : List Int := [0, 53, 3, 232, 0, 11, 227, 182, 1, 2, 3]
def EX9p : List Int := [0, 53, 3, 232, 0, 11, 0, 0, 1, 2, 3]
theorem EX9_bd : BD 255 EX9 := bd_all (by decide)
theorem EX9p_bd : BD 255 EX9p := bd_all (by decide)
theorem EX9_w : uwB 53 1000 true 167772161 167772162 [1, 2, 3] = EX9 := by decide
theorem EX9_wp : uwB 53 1000 false 167772161 167772162 [1, 2, 3] = EX9p := by decide
theorem EX9_wE : uwE 1000 3 = 0 := by decide
theorem EX9_E : udpE EX9 = 0 := by decide
theorem EX9_hd : uhd EX9 = #[.int .u16 53, .int .u16 1000, .bool true] := by
  unfold uhd; rw [if_pos EX9_E]; rfl
theorem EX9_to : udpTo EX9 = 11 := by decide
theorem EX9_TE : udpTE EX9 = 0 := by decide
theorem EX9_TB : udpTB EX9 = [3, 232, 0, 53, 0, 11, 227, 182, 1, 2, 3] := by decide
theorem EX9_V : udpV EX9 167772161 167772162 = true := by decide
theorem EX9p_V : udpV EX9p 1 2 = true := by decide

set_option maxHeartbeats 1000000 in
theorem verified_any (A : Option Addr) (n c : Nat) (zs : List Int) (s d : Int) (w : World) (h : RD .u8 w w.heap.size A n zs) (hz : BD 255 zs) (hn : n ≤ 140737488355328) (hc : n ≤ c) (hs : 0 ≤ s) (hs' : s ≤ 4294967295) (hd : 0 ≤ d) (hd' : d ≤ 4294967295) :
    Calls Try.prog 15 #[.slice A n c, .int .u32 s, .int .u32 d] w fun e w' => e = .returned (.bool (udpV zs s d)) ∧ Below w.heap.size w w' := by
  cases hv : udpV zs s d
  · go_enter Try.func15, Try.ntmps15
    go_wp2_with fail
    refine (uverify_any A n c zs s d _ h hz hn hc hs hs' hd hd').mono ?_
    rintro e w2 ⟨rfl, hb⟩
    rw [hv]
    clear hv
    go_wp2_with fail
    go_ret
    exact ⟨rfl, hb⟩
  · have hE : udpE zs = 0 := by unfold udpV at hv; simp at hv; exact hv.1
    go_enter Try.func15, Try.ntmps15
    go_wp2_with fail
    refine (uverify_any A n c zs s d _ h hz hn hc hs hs' hd hd').mono ?_
    rintro e w2 ⟨rfl, hb⟩
    rw [hv, hE]
    clear hv hE
    go_wp2_with fail
    go_ret
    exact ⟨rfl, hb⟩

theorem example9_any (w : World) : Calls Try.prog 13 #[] w fun e w' => e = .returned (.tuple #[.slice (some ⟨w.heap.size, 0, none⟩) 11 11, .int .u32 167772161, .int .u32 167772162]) ∧ w' = w.alloc (.cells (EX9.map (Value.int .u8)).toArray 5) := by
  go_enter Try.func13, Try.ntmps13
  go_wp2_with fail
  go_ret3
  exact ⟨rfl, rfl⟩

set_option maxHeartbeats 8000000 in
set_option maxRecDepth 100000 in
theorem awake9_any (w : World) : Calls Try.prog 11 #[] w fun e w' => e = .returned (.bool true) ∧ Below w.heap.size w w' := by
  obtain ⟨i0, hi, hz0, hz1, hz2⟩ := info_parts infoU8
  have bd3 : BD 255 [1, 2, 3] := bd_all (by decide)
  have s1 := fun W g => run_slice_lo (P := Try.prog) W Try.underlying22 hi hz1 (some ⟨g, 0, none⟩) 11 11 8 8 rfl (by omega)
  have S := SP.start w
  go_enter Try.func11, Try.ntmps11
  go_wp2_with fail
  refine (example9_any _).mono ?_
  rintro e w1 ⟨rfl, rfl⟩
  replace S := (S.allocI .u8 5 EX9 (by decide)).alloc 28 #[.int .u16 53, .int .u16 1000, .bool true]
  generalize hw1 : w.alloc (.cells (EX9.map (Value.int .u8)).toArray 5) = w1 at S ⊢
  clear hw1
  have SL := Lib.hid S
  clear S
  go_upto_region 3 with fail
  generalize w1.alloc (.cells #[.int .u16 53, .int .u16 1000, .bool true] 28) = w2 at SL ⊢
  have f0 : w2.cell? ⟨w1.heap.size, 0, none⟩ = some (.int .u16 53) := SL.out.cell 1 rfl 0 rfl
  have f1 : w2.cell? ⟨w1.heap.size, 1, none⟩ = some (.int .u16 1000) := SL.out.cell 1 rfl 1 rfl
  have f2 : w2.cell? ⟨w1.heap.size, 2, none⟩ = some (.bool true) := SL.out.cell 1 rfl 2 rfl
  go_region_held3 (fun W' => W'.cell? ⟨w1.heap.size, 0, none⟩ = some (.int .u16 53) ∧ W'.cell? ⟨w1.heap.size, 1, none⟩ = some (.int .u16 1000) ∧ W'.cell? ⟨w1.heap.size, 2, none⟩ = some (.bool true)) (first | exact ⟨S3.out.cell 1 rfl 0 rfl, S3.out.cell 1 rfl 1 rfl, S3.out.cell 1 rfl 2 rfl⟩ | go_keep)
    ((go_at_call 14
      refine (uwrite_any 53 1000 true 167772161 167772162 (cutA (some ⟨w.heap.size, 0, none⟩) 11 8) 3 3 [1, 2, 3] _ (by omega) (by omega) (by omega) (by omega) ((SL.out.drew.rd 0 rfl).cutA (lo := 8) (c := 11) (by decide) (by decide)) bd3 (by omega)).mono ?_
      rintro e w3 ⟨A3, n3, c3, rfl, own3, hb3⟩
      rw [EX9_w] at own3
      rw [EX9_wE]
      have S3 := Lib.hid (SL.out.drew.pushOwn hb3 own3)
      have hn3 : 11 = n3 := own3.len
      subst hn3
      clear own3 hb3))
  clear f0 f1 f2 SL
  go_wp2_with fail
  refine (uread_any _ 11 11 EX9 _ (S3.out.rd 0 rfl) EX9_bd (by omega) (by omega)).mono ?_
  rintro e w4 ⟨rfl, hb4⟩
  rw [EX9_hd, EX9_to, EX9_E]
  have S4 := Lib.hid ((S3.out.next hb4).alloc 28 #[.int .u16 53, .int .u16 1000, .bool true])
  clear hb4 S3
  go_upto_region 5 with fail
  generalize hw5 : w4.alloc (.cells #[.int .u16 53, .int .u16 1000, .bool true] 28) = w5 at S4 ⊢
  clear hw5
  go_wp2_with fail
  refine (uturn_any _ 11 11 EX9 _ (S4.out.rd 0 rfl) EX9_bd (by omega) (by omega)).mono ?_
  rintro e w6 ⟨A6, n6, c6, rfl, own6, hb6⟩
  rw [EX9_TE]
  rw [EX9_TB] at own6
  have hn6 : 11 = n6 := own6.len
  subst hn6
  have S6 := Lib.hid (S4.out.pushOwn hb6 own6)
  clear own6 hb6 S4
  have g2 : w6.cell? ⟨w1.heap.size, 2, none⟩ = some (.bool true) := S6.out.cell 1 rfl 2 rfl
  have z2 := S6.out.free 1 rfl 2
  have S7 := Lib.hid (S6.out.setB 1 rfl 2 (.bool false))
  clear S6
  go_upto_region 7 with fail
  generalize hw7 : w6.setCell ⟨w1.heap.size, 2, none⟩ (.bool false) = w7 at S7 ⊢
  clear hw7 g2 z2
  have f0 : w7.cell? ⟨w1.heap.size, 0, none⟩ = some (.int .u16 53) := S7.out.cell 1 rfl 0 rfl
  have f1 : w7.cell? ⟨w1.heap.size, 1, none⟩ = some (.int .u16 1000) := S7.out.cell 1 rfl 1 rfl
  have f2 : w7.cell? ⟨w1.heap.size, 2, none⟩ = some (.bool false) := S7.out.cell 1 rfl 2 rfl
  go_region_held3 (fun W' => W'.cell? ⟨w1.heap.size, 0, none⟩ = some (.int .u16 53) ∧ W'.cell? ⟨w1.heap.size, 1, none⟩ = some (.int .u16 1000) ∧ W'.cell? ⟨w1.heap.size, 2, none⟩ = some (.bool false)) (first | exact ⟨S8.out.cell 1 rfl 0 rfl, S8.out.cell 1 rfl 1 rfl, S8.out.cell 1 rfl 2 rfl⟩ | go_keep)
    ((go_at_call 14
      refine (uwrite_any 53 1000 false 167772161 167772162 (cutA (some ⟨w.heap.size, 0, none⟩) 11 8) 3 3 [1, 2, 3] _ (by omega) (by omega) (by omega) (by omega) ((S7.out.drew.rd 0 rfl).cutA (lo := 8) (c := 11) (by decide) (by decide)) bd3 (by omega)).mono ?_
      rintro e w8 ⟨A8, n8, c8, rfl, own8, hb8⟩
      rw [EX9_wp] at own8
      rw [EX9_wE]
      have S8 := Lib.hid (S7.out.drew.pushOwn hb8 own8)
      have hn8 : 11 = n8 := own8.len
      subst hn8
      clear own8 hb8))
  clear f0 f1 f2 S7
  obtain ⟨g8, rfl, hg8, _⟩ := (S8.out.own 5 rfl).form (by omega)
  have hl8 := (S8.out.own 5 rfl).le
  have hl3 := (S8.out.own 2 rfl).le
  go_wp2_with fail
  refine (same_any _ _ 11 c3 11 11 EX9 EX9 _ (S8.out.rd 2 rfl) (S8.out.rd 0 rfl) (by omega) (by omega)).mono ?_
  rintro e w9 ⟨rfl, m9, h9⟩
  rw [show (EX9 == EX9) = true by decide]
  have S9 := Lib.hid (h9 ▸ S8.out.drewN m9)
  clear h9 S8
  have f0 : w9.cell? ⟨w4.heap.size, 0, none⟩ = some (.int .u16 53) := S9.out.cell 3 rfl 0 rfl
  have f1 : w9.cell? ⟨w4.heap.size, 1, none⟩ = some (.int .u16 1000) := S9.out.cell 3 rfl 1 rfl
  have f2 : w9.cell? ⟨w4.heap.size, 2, none⟩ = some (.bool true) := S9.out.cell 3 rfl 2 rfl
  go_wp2_with fail
  refine (verified_any _ 11 11 EX9 _ _ _ (S9.out.rd 0 rfl) EX9_bd (by omega) (by omega) (by omega) (by omega) (by omega) (by omega)).mono ?_
  rintro e wa ⟨rfl, hba⟩
  rw [EX9_V]
  have Sa := Lib.hid (S9.out.next hba)
  clear f0 f1 f2 hba S9
  go_wp2_with fail
  refine (verified_any _ 11 c8 EX9p _ _ _ (Sa.out.rd 5 rfl) EX9p_bd (by omega) (by omega) (by omega) (by omega) (by omega) (by omega)).mono ?_
  rintro e wb ⟨rfl, hbb⟩
  rw [EX9p_V]
  have Sb := Lib.hid (Sa.out.next hbb)
  clear hbb Sa
  have x6 : wb.cell? ⟨g8, 6, none⟩ = some (.int .u8 0) := (Sb.out.own 5 rfl).cell (i := 6) (by omega)
  have x7 : wb.cell? ⟨g8, 7, none⟩ = some (.int .u8 0) := (Sb.out.own 5 rfl).cell (i := 7) (by omega)
  have SC := Lib.hid (Sb.out.allocI .u8 5 [3, 232, 0, 53] (by decide))
  have s4 := fun W g => run_slice_lo (P := Try.prog) W Try.underlying22 hi hz1 (some ⟨g, 0, none⟩) 11 11 4 4 rfl (by omega)
  have hl6 := (Sb.out.own 4 rfl).le
  clear Sb
  go_wp2_with (at_builtin; refine wpList_append_rd _ rfl _ _ _ rfl .u8 w.heap.size 5 i0 1 Try.underlying22 hi hz0 hz1 hz2 (some ⟨wb.heap.size, 0, none⟩) 4 4 [3, 232, 0, 53] rfl (SC.out.own 6 rfl) _ (cutA (some ⟨w.heap.size, 0, none⟩) 11 4) 7 7 [0, 11, 227, 182, 1, 2, 3] rfl ((SC.out.rd 0 rfl).cutA (lo := 4) (c := 11) (by decide) (by decide)) (by simp only [maxLen]; omega) (by omega) SC.out.size ?_; intro Ad cd wd happ; have SD := Lib.hid (SC.out.app 6 rfl happ); have hld := happ.own.le; clear happ)
  refine (same_any _ _ 11 c6 11 cd _ _ _ (SD.out.rd 4 rfl) (SD.out.rd 6 rfl) (by omega) (by omega)).mono ?_
  rintro e we ⟨rfl, me, he⟩
  rw [show (([3, 232, 0, 53, 0, 11, 227, 182, 1, 2, 3] : List Int) == [3, 232, 0, 53] ++ [0, 11, 227, 182, 1, 2, 3]) = true by decide]
  have SE := Lib.hid (he ▸ SD.out.drewN me)
  clear he
  go_wp2_with fail
  go_ret
  exact ⟨rfl, SE.out.bel⟩
end Go.Proofs.Ytnocbpagdoihmaa
