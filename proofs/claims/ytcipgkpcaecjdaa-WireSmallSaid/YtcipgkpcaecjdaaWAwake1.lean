import Derived.Test.YtcipgkpcaecjdaaWWrr
import Derived.Test.YtcipgkpcaecjdaaWUnhex
import Derived.Test.YtcipgkpcaecjdaaWHex
/- wire.Writer's numbers; bafflelaw01.awake. (Printed by gen_awake1.py.) -/
namespace Go.Proofs.Ytcipgkpcaecjdaa
open Go.RowKit
set_option linter.unusedVariables false
set_option linter.unusedSimpArgs false

section
variable {w0 w : World} {L : List IT} {i j W lim : Nat} {B : Option Addr} {n c : Nat} {f : Bool} {zs : List Int}

set_option maxHeartbeats 1000000 in
theorem wU8_any (H : SP w0 w L) (hi : L[i]? = some (.blk W 71 (wcells W lim B n c f))) (hj : L[j]? = some (.own .u8 5 B n c zs)) (hij : i ≠ j) (hn : n ≤ lim) (hl : lim ≤ 131072) (v : Int) (hv : 0 ≤ v ∧ v ≤ 255) :
    Calls Try.prog 25 #[.pointer (some ⟨W, 0, none⟩), .int .u8 v] w fun e w' => e = .returned (.tuple #[]) ∧ ∃ B' n' c', SP w0 w' ((L.set j (.own .u8 5 B' n' c' (wrB lim zs f ([v])))).set i (.blk W 71 (wcells W lim B' n' c' (!wrOk lim n f 1)))) := by
  have H1 := Lib.hid (H.next ((Below.refl _ w).alloc (Nat.le_refl _) (.cells (([v]).map (Value.int .u8)).toArray 5)))
  have R1 := Lib.hid ((OWN.lit w .u8 5 w.heap.size ([v]) (Nat.le_refl _) (by simp [maxLen])).rd)
  have HW := Lib.hid (wBytes_any H1.out hi hj hij hn hl (some ⟨w.heap.size, 0, none⟩) 1 1 ([v]) R1.out (by omega))
  clear H
  go_enter Try.func25, Try.ntmps25
  go_wp2_with fail
  refine HW.out.mono ?_
  rintro e w2 ⟨rfl, hX⟩
  have HX := Lib.hid hX
  clear hX
  go_wp2_with fail
  go_end0
  exact ⟨rfl, HX.out⟩

set_option maxHeartbeats 1000000 in
theorem wU16_any (H : SP w0 w L) (hi : L[i]? = some (.blk W 71 (wcells W lim B n c f))) (hj : L[j]? = some (.own .u8 5 B n c zs)) (hij : i ≠ j) (hn : n ≤ lim) (hl : lim ≤ 131072) (v : Int) (hv : 0 ≤ v ∧ v ≤ 65535) :
    Calls Try.prog 37 #[.pointer (some ⟨W, 0, none⟩), .int .u16 v] w fun e w' => e = .returned (.tuple #[]) ∧ ∃ B' n' c', SP w0 w' ((L.set j (.own .u8 5 B' n' c' (wrB lim zs f (by16 v)))).set i (.blk W 71 (wcells W lim B' n' c' (!wrOk lim n f 2)))) := by
  have H1 := Lib.hid (H.next ((Below.refl _ w).alloc (Nat.le_refl _) (.cells ((by16 v).map (Value.int .u8)).toArray 5)))
  have R1 := Lib.hid ((OWN.lit w .u8 5 w.heap.size (by16 v) (Nat.le_refl _) (by simp [maxLen, by16])).rd)
  have HW := Lib.hid (wBytes_any H1.out hi hj hij hn hl (some ⟨w.heap.size, 0, none⟩) 2 2 (by16 v) R1.out (by omega))
  have e1 : IntKind.u8.wrap (v / 256) = v / 256 := u8_in _ (by omega) (by omega)
  have e2 : IntKind.u8.wrap v = v % 256 := rfl
  clear H
  go_enter Try.func37, Try.ntmps37
  go_wp2_with fail
  refine HW.out.mono ?_
  rintro e w2 ⟨rfl, hX⟩
  have HX := Lib.hid hX
  clear hX
  go_wp2_with fail
  go_end0
  exact ⟨rfl, HX.out⟩

set_option maxHeartbeats 1000000 in
theorem wU32_any (H : SP w0 w L) (hi : L[i]? = some (.blk W 71 (wcells W lim B n c f))) (hj : L[j]? = some (.own .u8 5 B n c zs)) (hij : i ≠ j) (hn : n ≤ lim) (hl : lim ≤ 131072) (v : Int) (hv : 0 ≤ v ∧ v ≤ 4294967295) :
    Calls Try.prog 27 #[.pointer (some ⟨W, 0, none⟩), .int .u32 v] w fun e w' => e = .returned (.tuple #[]) ∧ ∃ B' n' c', SP w0 w' ((L.set j (.own .u8 5 B' n' c' (wrB lim zs f (by32 v)))).set i (.blk W 71 (wcells W lim B' n' c' (!wrOk lim n f 4)))) := by
  have H1 := Lib.hid (H.next ((Below.refl _ w).alloc (Nat.le_refl _) (.cells ((by32 v).map (Value.int .u8)).toArray 5)))
  have R1 := Lib.hid ((OWN.lit w .u8 5 w.heap.size (by32 v) (Nat.le_refl _) (by simp [maxLen, by32])).rd)
  have HW := Lib.hid (wBytes_any H1.out hi hj hij hn hl (some ⟨w.heap.size, 0, none⟩) 4 4 (by32 v) R1.out (by omega))
  have e1 : IntKind.u8.wrap (v / 16777216) = v / 16777216 := u8_in _ (by omega) (by omega)
  have e2 : IntKind.u8.wrap v = v % 256 := rfl
  have e3 : IntKind.u8.wrap (v / 65536) = v / 65536 % 256 := rfl
  have e4 : IntKind.u8.wrap (v / 256) = v / 256 % 256 := rfl
  clear H
  go_enter Try.func27, Try.ntmps27
  go_wp2_with fail
  refine HW.out.mono ?_
  rintro e w2 ⟨rfl, hX⟩
  have HX := Lib.hid hX
  clear hX
  go_wp2_with fail
  go_end0
  exact ⟨rfl, HX.out⟩
end

def STRS : Array Value := #[.string ⟨#[48, 48, 49, 70, 70, 70]⟩, .string ⟨#[49]⟩, .string ⟨#[48, 103]⟩]
set_option maxHeartbeats 4000000 in
set_option maxRecDepth 100000 in
theorem awake1_any (w : World) : Calls Try.prog 13 #[] w fun e w' => e = .returned (.bool true) ∧ Below w.heap.size w w' := by
  have hbd : BD 255 [(1 : Int), 2, 3, 4, 5] := bd_all (by decide)
  have H1 := Lib.hid ((SP.start w).next ((Below.refl _ w).alloc (Nat.le_refl _) (.cells (([(1 : Int), 2, 3, 4, 5]).map (Value.int .u8)).toArray 5)))
  have R1 := Lib.hid ((OWN.lit w .u8 5 w.heap.size [1, 2, 3, 4, 5] (Nat.le_refl _) (by simp [maxLen])).rd)
  have HN := Lib.hid (newReader_any H1.out (some ⟨w.heap.size, 0, none⟩) 5 5 [1, 2, 3, 4, 5] R1.out (by omega))
  go_enter Try.func13, Try.ntmps13
  go_wp2_with fail
  refine HN.out.mono ?_
  rintro e w1 ⟨R, B1, n1, c1, rfl, hS⟩
  obtain rfl : n1 = 5 := (hS.own 0 rfl).len.symm
  have X0 := Lib.hid (show SP w w1 [.own .u8 5 B1 5 c1 [(1 : Int), 2, 3, 4, 5], .blk R 68 (rcells R B1 5 c1 0 false)] from hS)
  clear hS HN R1 H1
  go_wp2_with fail
  refine (rU16_any X0.out (i := 1) (j := 0) rfl rfl (by decide) (by decide) (by decide) hbd).mono ?_
  rintro e w2 ⟨rfl, hS⟩
  rw [show numZ (nxB [1, 2, 3, 4, 5] 0 false 2) = 258 by decide]
  have X1 := Lib.hid (show SP w w2 [.own .u8 5 B1 5 c1 [(1 : Int), 2, 3, 4, 5], .blk R 68 (rcells R B1 5 c1 2 false)] from hS)
  clear hS X0
  go_wp2_with fail
  refine (rAt_any X1.out (i := 1) rfl).mono ?_
  rintro e w3 ⟨rfl, hS⟩
  have X2 := Lib.hid (show SP w w3 [.own .u8 5 B1 5 c1 [(1 : Int), 2, 3, 4, 5], .blk R 68 (rcells R B1 5 c1 2 false)] from hS)
  clear hS X1
  go_wp2_with fail
  refine (rLeft_any X2.out (i := 1) rfl (by decide) (by decide)).mono ?_
  rintro e w4 ⟨rfl, hS⟩
  have X3 := Lib.hid (show SP w w4 [.own .u8 5 B1 5 c1 [(1 : Int), 2, 3, 4, 5], .blk R 68 (rcells R B1 5 c1 2 false)] from hS)
  clear hS X2
  go_wp2_with fail
  refine (rFailed_any X3.out (i := 1) rfl).mono ?_
  rintro e w5 ⟨rfl, hS⟩
  have X4 := Lib.hid (show SP w w5 [.own .u8 5 B1 5 c1 [(1 : Int), 2, 3, 4, 5], .blk R 68 (rcells R B1 5 c1 2 false)] from hS)
  clear hS X3
  go_wp2_with fail
  refine (rU32_any X4.out (i := 1) (j := 0) rfl rfl (by decide) (by decide) (by decide) hbd).mono ?_
  rintro e w6 ⟨rfl, hS⟩
  rw [show numZ (nxB [1, 2, 3, 4, 5] 2 false 4) = 0 by decide]
  have X5 := Lib.hid (show SP w w6 [.own .u8 5 B1 5 c1 [(1 : Int), 2, 3, 4, 5], .blk R 68 (rcells R B1 5 c1 2 true)] from hS)
  clear hS X4
  go_wp2_with fail
  refine (rFailed_any X5.out (i := 1) rfl).mono ?_
  rintro e w7 ⟨rfl, hS⟩
  have X6 := Lib.hid (show SP w w7 [.own .u8 5 B1 5 c1 [(1 : Int), 2, 3, 4, 5], .blk R 68 (rcells R B1 5 c1 2 true)] from hS)
  clear hS X5
  go_wp2_with fail
  refine (rU8_any X6.out (i := 1) (j := 0) rfl rfl (by decide) (by decide) (by decide) hbd).mono ?_
  rintro e w8 ⟨rfl, hS⟩
  rw [show numZ (nxB [1, 2, 3, 4, 5] 2 true 1) = 0 by decide]
  have X7 := Lib.hid (show SP w w8 [.own .u8 5 B1 5 c1 [(1 : Int), 2, 3, 4, 5], .blk R 68 (rcells R B1 5 c1 2 true)] from hS)
  clear hS X6
  go_wp2_with fail
  refine (rAt_any X7.out (i := 1) rfl).mono ?_
  rintro e w9 ⟨rfl, hS⟩
  have X8 := Lib.hid (show SP w w9 [.own .u8 5 B1 5 c1 [(1 : Int), 2, 3, 4, 5], .blk R 68 (rcells R B1 5 c1 2 true)] from hS)
  clear hS X7
  have Y0 := Lib.hid (newWriter_any X8.out 5 (by omega))
  go_wp2_with fail
  refine Y0.out.mono ?_
  rintro e v0 ⟨W, rfl, hS⟩
  have Z0 := Lib.hid (show SP w v0 [.own .u8 5 none 0 0 [], .blk W 71 (wcells W 5 none 0 0 false)] from hS.pick [2, 3] (by decide) rfl)
  clear hS Y0 X8
  go_wp2_with fail
  refine (wU8_any Z0.out (i := 1) (j := 0) rfl rfl (by decide) (by decide) (by decide) 7 (by decide)).mono ?_
  rintro e v1 ⟨rfl, B2, n2, c2, hS⟩
  rw [show wrB 5 [] false [7] = [7] by decide, show (!wrOk 5 0 false 1) = false by decide] at hS
  obtain rfl : n2 = 1 := (hS.own 0 rfl).len.symm
  have Z1 := Lib.hid (show SP w v1 [.own .u8 5 B2 1 c2 [7], .blk W 71 (wcells W 5 B2 1 c2 false)] from hS)
  clear hS Z0
  go_wp2_with fail
  refine (wU16_any Z1.out (i := 1) (j := 0) rfl rfl (by decide) (by decide) (by decide) 258 (by decide)).mono ?_
  rintro e v2 ⟨rfl, B3, n2, c3, hS⟩
  rw [show wrB 5 [7] false (by16 258) = [7, 1, 2] by decide, show (!wrOk 5 1 false 2) = false by decide] at hS
  obtain rfl : n2 = 3 := (hS.own 0 rfl).len.symm
  have Z2 := Lib.hid (show SP w v2 [.own .u8 5 B3 3 c3 [7, 1, 2], .blk W 71 (wcells W 5 B3 3 c3 false)] from hS)
  clear hS Z1
  go_wp2_with fail
  refine (wZeros_any Z2.out (i := 1) (j := 0) rfl rfl (by decide) (by decide) (by decide) 1 (by decide)).mono ?_
  rintro e v3 ⟨rfl, B4, n2, c4, hS⟩
  rw [show wrZ 5 [7, 1, 2] false 1 = [7, 1, 2, 0] by decide, show (!wrOk 5 3 false 1) = false by decide] at hS
  obtain rfl : n2 = 4 := (hS.own 0 rfl).len.symm
  have Z3 := Lib.hid (show SP w v3 [.own .u8 5 B4 4 c4 [7, 1, 2, 0], .blk W 71 (wcells W 5 B4 4 c4 false)] from hS)
  clear hS Z2
  go_wp2_with fail
  refine (wSet16_any Z3.out (i := 1) (j := 0) rfl rfl (by decide) (by decide) (by decide) 2 (by decide) 65535 (by decide)).mono ?_
  rintro e v4 ⟨rfl, hS⟩
  rw [show stB [7, 1, 2, 0] false 2 65535 = [7, 1, 255, 255] by decide, show stF 4 false 2 = false by decide] at hS
  have Z4 := Lib.hid (show SP w v4 [.own .u8 5 B4 4 c4 [7, 1, 255, 255], .blk W 71 (wcells W 5 B4 4 c4 false)] from hS)
  clear hS Z3
  go_wp2_with fail
  refine (wDone_any Z4.out (i := 1) (j := 0) rfl rfl (by decide)).mono ?_
  rintro e v5 ⟨A5, n5, c5, rfl, hS⟩
  obtain rfl : n5 = 4 := (hS.own 2 rfl).len.symm
  have Z5 := Lib.hid (show SP w v5 [.own .u8 5 B4 4 c4 [7, 1, 255, 255], .blk W 71 (wcells W 5 B4 4 c4 false), .own .u8 5 A5 4 c5 [7, 1, 255, 255]] from hS)
  clear hS Z4
  go_wp2_with fail
  refine (wU16_any Z5.out (i := 1) (j := 0) rfl rfl (by decide) (by decide) (by decide) 1 (by decide)).mono ?_
  rintro e v6 ⟨rfl, B6, n6, c6, hS⟩
  rw [show wrB 5 [7, 1, 255, 255] false (by16 1) = [7, 1, 255, 255] by decide, show (!wrOk 5 4 false 2) = true by decide] at hS
  obtain rfl : n6 = 4 := (hS.own 0 rfl).len.symm
  have Z6 := Lib.hid (show SP w v6 [.own .u8 5 B6 4 c6 [7, 1, 255, 255], .blk W 71 (wcells W 5 B6 4 c6 true), .own .u8 5 A5 4 c5 [7, 1, 255, 255]] from hS)
  clear hS Z5
  go_wp2_with fail
  refine (wDone_any Z6.out (i := 1) (j := 0) rfl rfl (by decide)).mono ?_
  rintro e v7 ⟨A7, n7, c7, rfl, hS⟩
  have Z7 := Lib.hid (show SP w v7 [.own .u8 5 B6 4 c6 [7, 1, 255, 255], .blk W 71 (wcells W 5 B6 4 c6 true), .own .u8 5 A5 4 c5 [7, 1, 255, 255]] from hS.pick [0, 1, 2] (by decide) rfl)
  clear hS Z6
  rw [show dnE true = 4 from rfl]
  rw [show dnE false = 0 from rfl]
  have Z8 := Lib.hid (Z7.out.allocI' .u8 5 [7, 1, 255, 255] (by simp [maxLen]) (N := v7.heap.size) rfl)
  go_wp2_with fail
  refine (same_any A5 (some ⟨v7.heap.size, 0, none⟩) 4 c5 4 4 [7, 1, 255, 255] [7, 1, 255, 255] _ (Z8.out.rd 2 rfl) (Z8.out.rd 3 rfl) (by decide) (by decide)).mono ?_
  rintro e v8 ⟨rfl, m8, hv8⟩
  rw [show (([7, 1, 255, 255] : List Int) == [7, 1, 255, 255]) = true by decide]
  have Z9 := Lib.hid (show SP w v8 [.own .u8 5 B6 4 c6 [7, 1, 255, 255], .blk W 71 (wcells W 5 B6 4 c6 true)] by rw [hv8]; exact (Z8.out.drewN m8).pick [0, 1] (by decide) rfl)
  clear hv8 Z8 Z7
  go_wp2_with fail
  refine (wLen_any Z9.out (i := 1) rfl).mono ?_
  rintro e v9 ⟨rfl, hS⟩
  have B9 := Lib.hid hS.bel
  clear hS Z9
  have HL := Lib.hid (((SP.start w).next B9.out).allocI' .u8 5 [0, 31, 255] (by simp [maxLen]) (N := v9.heap.size) rfl)
  go_wp2_with fail
  refine (hex_any (some ⟨v9.heap.size, 0, none⟩) 3 3 [0, 31, 255] _ (HL.out.rd 0 rfl) (bd_all (by decide)) (by decide) (by decide)).mono ?_
  rintro e va ⟨rfl, hba⟩
  have BA := Lib.hid ((HL.out.next hba).bel)
  clear hba HL B9
  rw [show HEXs [0, 31, 255] = ⟨#[48, 48, 49, 102, 102, 102]⟩ by decide +kernel, show HEXe [0, 31, 255] = 0 by decide +kernel]
  go_wp2_with fail
  refine (unhex_any ⟨#[]⟩ _ (by decide)).mono ?_
  rintro e vb ⟨A8, n8, c8, rfl, ho, hbb⟩
  have hu : UNH ⟨#[]⟩ = ([], 0) := by decide +kernel
  rw [hu] at ho ⊢
  obtain rfl : n8 = 0 := ho.len.symm
  have BB1 := Lib.hid ((SP.start w).next BA.out |>.next hbb).bel
  clear hbb ho hu BA
  have SL := Lib.hid (((SP.start w).next BB1.out).alloc' 9 STRS (N := vb.heap.size) rfl)
  go_upto_region 21 with fail
  unfold STRS at SL
  obtain ⟨G, hG⟩ : ∃ g, g = vb.heap.size := ⟨_, rfl⟩
  rw [← hG] at SL ⊢
  generalize vb.alloc (.cells #[.string ⟨#[48, 48, 49, 70, 70, 70]⟩, .string ⟨#[49]⟩, .string ⟨#[48, 103]⟩] 9) = vc at SL ⊢
  replace SL := Lib.hid (show SP w vc [.blk G 9 STRS] from SL.out)
  clear hG BB1
  go_loopw [136] (fun s136 wr => ∃ k : Nat, k ≤ 3 ∧ s136 = .int .i64 (k : Int) ∧ SP w wr [.blk G 9 STRS]) (fun s136 _ => 3 - (intOf s136).toNat)
  case atStart => exact ⟨0, by omega, rfl, SL.out⟩
  case round =>
    obtain ⟨k, hk, rfl, Y0⟩ := hrel
    obtain ⟨wo, rfl⟩ : ∃ wo : World, wo = wr := ⟨_, rfl⟩
    have Y := Lib.hid Y0
    clear Y0 SL
    by_cases hlt : k < 3
    case neg =>
      have t2 : ¬ (k : Int) < 3 := by omega
      go_wp2_with fail
      go_ret
      exact ⟨rfl, Y.out.bel⟩
    have t2 : (k : Int) < 3 := by omega
    have t3 : (0 : Int) ≤ (k : Int) := by omega
    obtain ⟨s, x1, hs, hu⟩ : ∃ s : ByteArray, wo.cell? ⟨G, k, none⟩ = some (.string s) ∧ s.size ≤ 10 ∧ (UNH s).2 = 10 := by
      rcases (show k = 0 ∨ k = 1 ∨ k = 2 by omega) with rfl | rfl | rfl
      · exact ⟨⟨#[48, 48, 49, 70, 70, 70]⟩, Y.out.cell 0 rfl 0 rfl, by decide, by decide +kernel⟩
      · exact ⟨⟨#[49]⟩, Y.out.cell 0 rfl 1 rfl, by decide, by decide +kernel⟩
      · exact ⟨⟨#[48, 103]⟩, Y.out.cell 0 rfl 2 rfl, by decide, by decide +kernel⟩
    go_wp2_with fail
    refine (unhex_any s _ (by omega)).mono ?_
    rintro e wd ⟨A8, n8, c8, rfl, ho, hbd⟩
    rw [hu]
    have Y2 := Lib.hid (Y.out.next hbd)
    clear ho hbd Y
    go_wp2_with fail
    go_roundw
    case rel => exact ⟨k + 1, by omega, by go_num, Y2.out⟩
    case measure => simp [intOf]; omega
end Go.Proofs.Ytcipgkpcaecjdaa
