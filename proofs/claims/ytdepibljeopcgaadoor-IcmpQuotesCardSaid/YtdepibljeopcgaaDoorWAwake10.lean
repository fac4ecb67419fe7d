/- The examples of the chapter on ICMP: awake returns true. -/
import Derived.Test.YtdepibljeopcgaaDoorWRef10Q
import Derived.Test.YtdepibljeopcgaaDoorBase
import Derived.Test.YtdepibljeopcgaaDoorWBase
namespace Go.Proofs.YtdepibljeopcgaaDoor
open Go.RowKit
set_option linter.unusedVariables false
attribute [local go_sem ↓] Go.wp_at_zero Go.wp_at_succ

def EX10 : List Int := [8, 0, 150, 252, 0, 1, 0, 2, 97]
def EX10a : List Int := [0, 0, 158, 252, 0, 1, 0, 2, 97]
def EX10q : List Int := [69, 0, 0, 40, 0, 0, 0, 0, 64, 6, 102, 206, 10, 0, 0, 1, 10, 0, 0, 2, 4, 0, 0, 80, 0, 0, 0, 1]
theorem EX10_bd : BD 255 EX10 := bd_all (by decide)
theorem EX10a_bd : BD 255 EX10a := bd_all (by decide)
theorem EX10q_bd : BD 255 EX10q := bd_all (by decide)
theorem EX10_w : icWB 8 0 1 2 [97] = EX10 := by decide
theorem EX10_wE : icWE 8 0 1 = 0 := by decide
theorem EX10_a : icAB EX10 = EX10a := by decide
theorem EX10_aE : icAE EX10 = 0 := by decide
theorem EX10_E : icE EX10a = 0 := by decide
theorem EX10_M : icM EX10a = msg4 0 0 1 2 := by unfold icM; rw [if_pos EX10_E]; rfl
theorem EX10_V : icV EX10a = true := by decide
theorem EX10_qE : qE EX10q = 0 := by decide
theorem EX10_qK : qK EX10q = 1 := by decide
theorem EX10_qKey : qKey EX10q = key5 6 167772161 167772162 1024 80 := by unfold qKey; rw [if_pos EX10_qE]; rfl
theorem EX10_sE : qE (EX10q.take 27) = 103 := by decide
theorem EX10_sK : qK (EX10q.take 27) = 0 := by decide
theorem EX10_sKey : qKey (EX10q.take 27) = key0 := by unfold qKey; rw [if_neg (by rw [EX10_sE]; decide)]
theorem EX10_k1 : kK 1 0 = 0 ∧ kE 1 0 = 101 := by decide
theorem EX10_k2 : kK 11 2 = 0 ∧ kE 11 2 = 102 := by decide

theorem example10_any (w : World) : Calls Tryd.prog 12 #[] w fun e w' => e = .returned (.slice (some ⟨w.heap.size, 0, none⟩) 28 28) ∧ w' = w.alloc (.cells (EX10q.map (Value.int .u8)).toArray 5) := by
  go_enter Tryd.func12, Tryd.ntmps12
  go_wp2_with fail
  go_ret
  exact ⟨rfl, rfl⟩

set_option maxHeartbeats 8000000 in
set_option maxRecDepth 100000 in
theorem awake10_any (w : World) (hS : SORTS w) : Calls Tryd.prog 4 #[] w fun e w' => e = .returned (.bool true) ∧ Below w.heap.size w w' := by
  have HS := Lib.hid (fun (W : World) (hb : Below w.heap.size w W) => hS.below hb)
  have S0 := (SP.start w).allocI .u8 5 [97] (by decide)
  have bd1 : BD 255 [97] := bd_all (by decide)
  clear hS
  go_enter Tryd.func4, Tryd.ntmps4
  go_wp2_with fail
  refine (icwrite_any 8 0 1 2 (some ⟨w.heap.size, 0, none⟩) 1 1 [97] _ (by omega) (by omega) (by omega) (by omega) (S0.rd 0 rfl) bd1 (by omega) (HS.out _ S0.bel)).mono ?_
  rintro e w1 ⟨A1, n1, c1, rfl, own1, hb1⟩
  rw [EX10_w] at own1
  rw [EX10_wE]
  have H1 := Lib.hid (S0.pushOwn hb1 own1)
  have hn1 : 9 = n1 := own1.len
  subst hn1
  have hc1 := own1.le
  clear own1 hb1 S0
  go_wp2_with fail
  refine (icanswer_any A1 9 c1 EX10 _ (H1.out.rd 1 rfl) EX10_bd hc1.1 (by omega) (HS.out _ H1.out.bel)).mono ?_
  rintro e w2 ⟨A2, n2, c2, rfl, own2, hb2⟩
  rw [EX10_a] at own2
  rw [EX10_aE]
  have H2 := Lib.hid (H1.out.pushOwn hb2 own2)
  have hn2 : 9 = n2 := own2.len
  subst hn2
  have hc2 := own2.le
  clear own2 hb2 H1
  go_wp2_with fail
  refine (icread_any A2 9 c2 EX10a _ (H2.out.rd 2 rfl) EX10a_bd hc2.1 (by omega) (HS.out _ H2.out.bel)).mono ?_
  rintro e w3 ⟨rfl, hb3⟩
  rw [EX10_M, EX10_E]
  have H3 := Lib.hid ((H2.out.next hb3).alloc 38 (msg4 0 0 1 2))
  clear hb3 H2
  unfold msg4
  go_upto_region 4 with fail
  rw [show w3.alloc (.cells #[.int .u8 0, .int .u8 0, .int .u16 1, .int .u16 2] 38) = w3.alloc (.cells (msg4 0 0 1 2) 38) from rfl]
  generalize w3.alloc (.cells (msg4 0 0 1 2) 38) = w4 at H3 ⊢
  go_wp2_with fail
  refine (example10_any _).mono ?_
  rintro e w5 ⟨rfl, rfl⟩
  have H5 := Lib.hid (H3.out.allocI .u8 5 EX10q (by decide))
  generalize hw5 : w4.alloc (.cells (EX10q.map (Value.int .u8)).toArray 5) = w5 at H5 ⊢
  clear hw5 H3
  go_wp2_with fail
  refine (icquote_any (some ⟨w4.heap.size, 0, none⟩) 28 28 EX10q _ (H5.out.rd 4 rfl) EX10q_bd (by omega) (by omega) (HS.out _ H5.out.bel)).mono ?_
  rintro e w6 ⟨rfl, hb6⟩
  rw [EX10_qE, EX10_qK, EX10_qKey]
  have H6 := Lib.hid ((H5.out.next hb6).alloc 35 (key5 6 167772161 167772162 1024 80))
  clear hb6 H5
  unfold key5
  go_upto_region 5 with fail
  rw [show w6.alloc (.cells #[.int .u8 6, .int .u32 167772161, .int .u32 167772162, .int .u16 1024, .int .u16 80] 35) = w6.alloc (.cells (key5 6 167772161 167772162 1024 80) 35) from rfl]
  generalize w6.alloc (.cells (key5 6 167772161 167772162 1024 80) 35) = w7 at H6 ⊢
  go_wp2_with fail
  refine (example10_any _).mono ?_
  rintro e w8 ⟨rfl, rfl⟩
  have H8 := Lib.hid (H6.out.allocI .u8 5 EX10q (by decide))
  generalize hw8 : w7.alloc (.cells (EX10q.map (Value.int .u8)).toArray 5) = w8 at H8 ⊢
  clear hw8 H6
  go_wp2_with fail
  refine (icquote_any (some ⟨w7.heap.size, 0, none⟩) 27 28 (EX10q.take 27) _ ((H8.out.rd 6 rfl).take (by decide)) (EX10q_bd.take _) (by omega) (by omega) (HS.out _ H8.out.bel)).mono ?_
  rintro e w9 ⟨rfl, hb9⟩
  rw [EX10_sE, EX10_sK, EX10_sKey]
  have H9 := Lib.hid ((H8.out.next hb9).alloc 35 key0)
  clear hb9 H8
  unfold key0 key5
  go_upto_region 6 with fail
  rw [show w9.alloc (.cells #[.int .u8 0, .int .u32 0, .int .u32 0, .int .u16 0, .int .u16 0] 35) = w9.alloc (.cells key0 35) from rfl]
  generalize w9.alloc (.cells key0 35) = wa at H9 ⊢
  go_wp2_with fail
  refine (kind_any 1 0 _ (by omega) (by omega) (HS.out _ H9.out.bel)).mono ?_
  rintro e wb ⟨rfl, rfl⟩
  rw [EX10_k1.1, EX10_k1.2]
  go_wp2_with fail
  refine (kind_any 11 2 _ (by omega) (by omega) (HS.out _ H9.out.bel)).mono ?_
  rintro e wb ⟨rfl, rfl⟩
  rw [EX10_k2.1, EX10_k2.2]
  have H10 := Lib.hid (H9.out.allocI .u8 5 EX10 (by decide))
  clear H9
  go_wp2_with fail
  refine (same_any A1 (some ⟨wa.heap.size, 0, none⟩) 9 c1 9 9 EX10 EX10 _ (H10.out.rd 1 rfl) (H10.out.rd 8 rfl) (by omega) (by omega)).mono ?_
  rintro e wb ⟨rfl, mb, hb⟩
  rw [show (EX10 == EX10) = true by decide]
  have H11 := Lib.hid ((hb ▸ H10.out.drewN mb).allocI .u8 5 EX10a (by decide))
  clear hb H10
  go_wp2_with fail
  refine (same_any A2 (some ⟨wb.heap.size, 0, none⟩) 9 c2 9 9 EX10a EX10a _ (H11.out.rd 2 rfl) (H11.out.rd 9 rfl) (by omega) (by omega)).mono ?_
  rintro e wc ⟨rfl, mc, hc⟩
  rw [show (EX10a == EX10a) = true by decide]
  have H12 := Lib.hid (hc ▸ H11.out.drewN mc)
  clear hc H11
  have f0 : wc.cell? ⟨w3.heap.size, 0, none⟩ = some (.int .u8 0) := H12.out.cell 3 rfl 0 rfl
  have f1 : wc.cell? ⟨w3.heap.size, 1, none⟩ = some (.int .u8 0) := H12.out.cell 3 rfl 1 rfl
  have f2 : wc.cell? ⟨w3.heap.size, 2, none⟩ = some (.int .u16 1) := H12.out.cell 3 rfl 2 rfl
  have f3 : wc.cell? ⟨w3.heap.size, 3, none⟩ = some (.int .u16 2) := H12.out.cell 3 rfl 3 rfl
  go_wp2_with fail
  refine (icverify_any A2 9 c2 EX10a _ (H12.out.rd 2 rfl) EX10a_bd (by omega)).mono ?_
  rintro e wd ⟨rfl, hbd⟩
  rw [EX10_V]
  have H13 := Lib.hid (H12.out.next hbd)
  clear hbd H12 f0 f1 f2 f3
  have f0 : wd.cell? ⟨w6.heap.size, 0, none⟩ = some (.int .u8 6) := H13.out.cell 5 rfl 0 rfl
  have f1 : wd.cell? ⟨w6.heap.size, 1, none⟩ = some (.int .u32 167772161) := H13.out.cell 5 rfl 1 rfl
  have f2 : wd.cell? ⟨w6.heap.size, 2, none⟩ = some (.int .u32 167772162) := H13.out.cell 5 rfl 2 rfl
  have f3 : wd.cell? ⟨w6.heap.size, 3, none⟩ = some (.int .u16 1024) := H13.out.cell 5 rfl 3 rfl
  have f4 : wd.cell? ⟨w6.heap.size, 4, none⟩ = some (.int .u16 80) := H13.out.cell 5 rfl 4 rfl
  go_wp2_with fail
  go_ret
  exact ⟨rfl, H13.out.bel⟩
end Go.Proofs.YtdepibljeopcgaaDoor
