/- The examples of the chapter on headers of IPv4: awake returns true. -/
import Derived.Test.YtpfmecdldoehoaaWSame5
import Derived.Test.YtpfmecdldoehoaaWIpTurn
import Derived.Test.YtpfmecdldoehoaaWAwake0
namespace Go.Proofs.Ytpfmecdldoehoaa
open Go.RowKit
set_option linter.unusedVariables false

def EX5 : List Int := [69, 0, 0, 22, 0, 1, 0, 0, 64, 17, 102, 212, 10, 0, 0, 1, 10, 0, 0, 2, 7, 8]
def EX5b : List Int := [69, 0, 0, 22, 0, 1, 0, 0, 64, 17, 102, 211, 10, 0, 0, 1, 10, 0, 0, 2, 7, 8]
def EX5h : List Int := [69, 0, 0, 22, 0, 1, 0, 0, 63, 17, 103, 212, 10, 0, 0, 1, 10, 0, 0, 2, 7, 8]
def HD5 : HD := ⟨0, 1, false, false, 0, 64, 17, 167772161, 167772162⟩
def HD5m : HD := ⟨0, 1, false, true, 0, 64, 17, 167772161, 167772162⟩
def HD5f : HD := ⟨0, 1, false, false, 65528, 64, 17, 167772161, 167772162⟩
theorem HD5_wf : HD5.WF := ⟨by decide, by decide, by decide, by decide, by decide, by decide, by decide⟩
theorem EX5_fault : faultR EX5 = 7 := by decide
theorem EX5b_fault : faultR EX5b = 4 := by decide
theorem EX5_pkt : pktB HD5 [] [7, 8] = EX5 := by decide
theorem EX5_hop : hopB EX5 = EX5h := by decide
theorem EX5_hd : hdR EX5 = HD5 := by unfold hdR; rw [if_pos EX5_fault]; rfl
theorem EX5_opts : optsR EX5 = [] := by decide
theorem EX5_from : fromR EX5 = 20 := by decide
theorem EX5_to : toR EX5 = 22 := by decide
theorem EX5_e : ipE EX5 = 0 := by decide
theorem EX5b_e : ipE EX5b = 54 := by decide
theorem EX5_hopE : hopE EX5 = 0 := by decide
theorem EX5_bd : BD 255 EX5 := bd_all (by decide)
theorem EX5b_bd : BD 255 EX5b := bd_all (by decide)
theorem EX5_wB : wrB HD5 [] [7, 8] = EX5 := by decide
theorem EX5_wE : wrE HD5 0 2 = 0 := by decide
theorem EX5_wEm : wrE HD5m 0 2 = 2 := by decide
theorem EX5_wEf : wrE HD5f 0 2 = 2 := by decide
theorem HD5m_wf : HD5m.WF := ⟨by decide, by decide, by decide, by decide, by decide, by decide, by decide⟩
theorem HD5f_wf : HD5f.WF := ⟨by decide, by decide, by decide, by decide, by decide, by decide, by decide⟩
theorem EX5_set : EX5.set 11 211 = EX5b := by decide
theorem EX5b_hd : hdR EX5b = HD.zero := by unfold hdR; rw [if_neg (by rw [EX5b_fault]; decide)]

set_option maxHeartbeats 8000000 in
set_option maxRecDepth 100000 in
theorem awake5_any (w : World) : Calls Try.prog 12 #[] w fun e w' => e = .returned (.bool true) ∧ Below w.heap.size w w' := by
  have lit2 : ∀ W : World, RD .u8 (W.alloc (.cells #[.int .u8 7, .int .u8 8] 5)) (W.alloc (.cells #[.int .u8 7, .int .u8 8] 5)).heap.size (some ⟨W.heap.size, 0, none⟩) 2 [7, 8] := fun W => lit_rd W 5 [7, 8]
  have LIT2 := Lib.hid lit2
  have bd2 : BD 255 ([] : List Int) := fun x hx => by cases hx
  clear lit2
  go_enter Try.func12, Try.ntmps12
  go_wp2_with fail
  have B1 := BLOCK.new w 30 (HD5.cells (.slice none 0 0))
  have hb1 : Below w.heap.size w (w.alloc (.cells (HD5.cells (.slice none 0 0)) 30)) := (Below.refl _ w).alloc (Nat.le_refl _) _
  have hs1 : (w.alloc (.cells (HD5.cells (.slice none 0 0)) 30)).heap.size = w.heap.size + 1 := by simp
  rw [show w.alloc (.cells #[.int .u8 0, .int .u16 1, .bool false, .bool false, .int .i64 0, .int .u8 64, .int .u8 17, .int .u32 167772161, .int .u32 167772162, .slice none 0 0] 30) = w.alloc (.cells (HD5.cells (.slice none 0 0)) 30) from rfl]
  generalize w.alloc (.cells (HD5.cells (.slice none 0 0)) 30) = w1 at B1 hb1 hs1 ⊢
  have L1 := LIT2.out w1
  rw [hs1] at L1
  refine (write_any HD5 none 0 0 [] _ 2 2 [7, 8] _ HD5_wf RD.nil bd2 L1 (by omega) (by omega)).mono ?_
  rintro e w2 ⟨A1, n1, c1, rfl, own1, hb2⟩
  rw [EX5_wE]
  rw [EX5_wB] at own1
  have hn1 : 22 = n1 := own1.len
  subst hn1
  have HB2 : Below (w.heap.size + 1) w1 w2 := ((Below.refl _ w1).alloc (by omega) _).trans (hb2.mono (by simp; omega))
  replace own1 : OWN .u8 5 w2 (w.heap.size + 1) A1 22 c1 EX5 := own1.mono (by simp; omega)
  replace B1 := B1.below HB2 (by omega)
  have hbw : Below w.heap.size w w2 := hb1.trans (HB2.mono (by omega))
  have hs2 : w.heap.size + 2 ≤ w2.heap.size := by have := hb2.size; simp at this; omega
  clear L1 hb2 HB2 hb1 hs1
  have hc1 := own1.le
  go_wp2_with fail
  refine (read_any A1 22 c1 EX5 _ own1.rd EX5_bd hc1.1 (by omega)).mono ?_
  rintro e w3 ⟨A3, n3, c3, rfl, own3, hb3⟩
  rw [EX5_hd, EX5_from, EX5_to, EX5_e]
  rw [EX5_opts] at own3
  have hn3 : 0 = n3 := own3.len
  subst hn3
  replace own1 := own1.below hb3
  replace B1 := B1.next hb3
  replace hbw := hbw.trans (hb3.mono hbw.size)
  have hs3 := hb3.size
  clear hb3
  unfold HD.val HD.cells
  go_wp2_with fail
  have X3 := BLOCK.new w3 30 (HD5.cells (.slice A3 0 c3))
  have hb4 : Below w3.heap.size w3 (w3.alloc (.cells (HD5.cells (.slice A3 0 c3)) 30)) := (Below.refl _ _).alloc (Nat.le_refl _) _
  rw [show w3.alloc (.cells #[.int .u8 HD5.tos, .int .u16 HD5.id, .bool HD5.df, .bool HD5.mf, .int .i64 HD5.off, .int .u8 HD5.ttl, .int .u8 HD5.proto, .int .u32 HD5.src, .int .u32 HD5.dst, .slice A3 0 c3] 30) = w3.alloc (.cells (HD5.cells (.slice A3 0 c3)) 30) from rfl]
  have hs4 : (w3.alloc (.cells (HD5.cells (.slice A3 0 c3)) 30)).heap.size = w3.heap.size + 1 := by simp
  generalize w3.alloc (.cells (HD5.cells (.slice A3 0 c3)) 30) = w4 at X3 hb4 hs4 ⊢
  replace own1 := own1.below hb4
  replace own3 := own3.below hb4
  replace B1 := B1.next hb4
  replace hbw := hbw.trans (hb4.mono hbw.size)
  generalize w3.heap.size = N4 at X3 hs4 ⊢
  clear hb4 hs3
  refine (hop_any A1 22 c1 EX5 _ own1.rd EX5_bd hc1.1 (by omega)).mono ?_
  rintro e w5 ⟨A5, n5, c5, rfl, own5, hb5⟩
  rw [EX5_hopE]
  rw [EX5_hop] at own5
  have hn5 : 22 = n5 := own5.len
  subst hn5
  replace own1 := own1.below hb5
  replace own3 := own3.below hb5
  replace B1 := B1.next hb5
  replace X3 := X3.next hb5
  replace hbw := hbw.trans (hb5.mono hbw.size)
  clear hb5 hs4
  go_wp2_with fail
  refine (example5_any _).mono ?_
  rintro e w6 ⟨rfl, h6⟩
  have L6 : RD .u8 w6 w6.heap.size (some ⟨w5.heap.size, 0, none⟩) 22 EX5 := by rw [h6]; exact lit_rd w5 5 EX5
  have hb6 : Below w5.heap.size w5 w6 := by rw [h6]; exact (Below.refl _ _).alloc (Nat.le_refl _) _
  replace own1 := own1.below hb6
  replace own3 := own3.below hb6
  replace own5 := own5.below hb6
  replace B1 := B1.next hb6
  replace X3 := X3.next hb6
  replace hbw := hbw.trans (hb6.mono hbw.size)
  clear hb6 h6
  go_wp2_with fail
  refine (same_any A1 _ 22 c1 22 22 EX5 EX5 _ own1.rd L6 (by omega) (by omega)).mono ?_
  rintro e w7 ⟨rfl, m7, h7⟩
  rw [show (EX5 == EX5) = true by simp]
  have hb7 : Below w6.heap.size w6 w7 := by rw [h7]; exact below_drewN (Below.refl _ _) m7
  replace own1 := own1.below hb7
  replace own3 := own3.below hb7
  replace own5 := own5.below hb7
  replace B1 := B1.next hb7
  replace X3 := X3.next hb7
  replace hbw := hbw.trans (hb7.mono hbw.size)
  clear hb7 h7 L6
  have f0 : w7.cell? ⟨w.heap.size, 0, none⟩ = some (.int .u8 0) := B1.cell 0
  have f1 : w7.cell? ⟨w.heap.size, 1, none⟩ = some (.int .u16 1) := B1.cell 1
  have f2 : w7.cell? ⟨w.heap.size, 2, none⟩ = some (.bool false) := B1.cell 2
  have f3 : w7.cell? ⟨w.heap.size, 3, none⟩ = some (.bool false) := B1.cell 3
  have f4 : w7.cell? ⟨w.heap.size, 4, none⟩ = some (.int .i64 0) := B1.cell 4
  have f5 : w7.cell? ⟨w.heap.size, 5, none⟩ = some (.int .u8 64) := B1.cell 5
  have f6 : w7.cell? ⟨w.heap.size, 6, none⟩ = some (.int .u8 17) := B1.cell 6
  have f7 : w7.cell? ⟨w.heap.size, 7, none⟩ = some (.int .u32 167772161) := B1.cell 7
  have f8 : w7.cell? ⟨w.heap.size, 8, none⟩ = some (.int .u32 167772162) := B1.cell 8
  have f9 : w7.cell? ⟨w.heap.size, 9, none⟩ = some (.slice none 0 0) := B1.cell 9
  have g0 : w7.cell? ⟨N4, 0, none⟩ = some (.int .u8 0) := X3.cell 0
  have g1 : w7.cell? ⟨N4, 1, none⟩ = some (.int .u16 1) := X3.cell 1
  have g2 : w7.cell? ⟨N4, 2, none⟩ = some (.bool false) := X3.cell 2
  have g3 : w7.cell? ⟨N4, 3, none⟩ = some (.bool false) := X3.cell 3
  have g4 : w7.cell? ⟨N4, 4, none⟩ = some (.int .i64 0) := X3.cell 4
  have g5 : w7.cell? ⟨N4, 5, none⟩ = some (.int .u8 64) := X3.cell 5
  have g6 : w7.cell? ⟨N4, 6, none⟩ = some (.int .u8 17) := X3.cell 6
  have g7 : w7.cell? ⟨N4, 7, none⟩ = some (.int .u32 167772161) := X3.cell 7
  have g8 : w7.cell? ⟨N4, 8, none⟩ = some (.int .u32 167772162) := X3.cell 8
  have g9 : w7.cell? ⟨N4, 9, none⟩ = some (.slice A3 0 c3) := X3.cell 9
  go_wp2_with fail
  refine (same5_yes HD5 A3 none 0 c3 0 0 [] _ own3.rd RD.nil (by omega) (by omega)).mono ?_
  rintro e w8 ⟨rfl, hb8⟩
  replace own1 := own1.below hb8
  replace own5 := own5.below hb8
  replace B1 := B1.next hb8
  replace hbw := hbw.trans (hb8.mono hbw.size)
  clear hb8 f0 f1 f2 f3 f4 f5 f6 f7 f8 f9 g0 g1 g2 g3 g4 g5 g6 g7 g8 g9 X3 own3
  obtain ⟨q5, rfl, _, _, _⟩ := own5.form (by omega)
  have y8 : w8.cell? ⟨q5, 8, none⟩ = some (.int .u8 63) := own5.cell (i := 8) (by omega)
  have y10 : w8.cell? ⟨q5, 10, none⟩ = some (.int .u8 103) := own5.cell (i := 10) (by omega)
  have y11 : w8.cell? ⟨q5, 11, none⟩ = some (.int .u8 212) := own5.cell (i := 11) (by omega)
  obtain ⟨q1, rfl, hq1, hq1', _⟩ := own1.form (by omega)
  have x11 := own1.cell (i := 11) (by omega)
  have x12 := own1.frozen 11
  go_wp2_with fail
  have own1' := own1.stored 11 211
  rw [EX5_set] at own1'
  have hb9 : Below (w.heap.size + 1) w8 (w8.setCell ⟨q1, 11, none⟩ (.int .u8 211)) := (Below.refl _ _).setCell (p := ⟨q1, 11, none⟩) (by simp; omega) _
  replace B1 := B1.below hb9 (by omega)
  replace hbw := hbw.trans (hb9.mono (by omega))
  clear own1 hb9 x11 x12 y8 y10 y11 own5
  refine (read_any _ 22 c1 EX5b _ own1'.rd EX5b_bd hc1.1 (by omega)).mono ?_
  rintro e w10 ⟨A10, n10, c10, rfl, own10, hb10⟩
  rw [EX5b_hd, EX5b_e]
  replace B1 := B1.next hb10
  replace hbw := hbw.trans (hb10.mono hbw.size)
  clear own1' hb10 own10
  unfold HD.val HD.cells
  go_wp2_with fail
  have hb11 : Below w10.heap.size w10 (w10.alloc (.cells (HD.zero.cells (.slice A10 n10 c10)) 30)) := (Below.refl _ _).alloc (Nat.le_refl _) _
  rw [show w10.alloc (.cells #[.int .u8 HD.zero.tos, .int .u16 HD.zero.id, .bool HD.zero.df, .bool HD.zero.mf, .int .i64 HD.zero.off, .int .u8 HD.zero.ttl, .int .u8 HD.zero.proto, .int .u32 HD.zero.src, .int .u32 HD.zero.dst, .slice A10 n10 c10] 30) = w10.alloc (.cells (HD.zero.cells (.slice A10 n10 c10)) 30) from rfl]
  replace B1 := B1.next hb11
  replace hbw := hbw.trans (hb11.mono hbw.size)
  clear hb11
  generalize w10.alloc (.cells (HD.zero.cells (.slice A10 n10 c10)) 30) = w11 at B1 hbw ⊢
  have hlt := B1.lt
  have HKK := Lib.hid (fun (W' : World) (he : Below (w.heap.size + 1) w11 W') => (show Below (w.heap.size + 1) w11 W' ∧ W'.cell? ⟨w.heap.size, 0, none⟩ = some (.int .u8 0) ∧ W'.cell? ⟨w.heap.size, 1, none⟩ = some (.int .u16 1) ∧ W'.cell? ⟨w.heap.size, 2, none⟩ = some (.bool false) ∧ W'.cell? ⟨w.heap.size, 3, none⟩ = some (.bool false) ∧ W'.cell? ⟨w.heap.size, 4, none⟩ = some (.int .i64 0) ∧ W'.cell? ⟨w.heap.size, 5, none⟩ = some (.int .u8 64) ∧ W'.cell? ⟨w.heap.size, 6, none⟩ = some (.int .u8 17) ∧ W'.cell? ⟨w.heap.size, 7, none⟩ = some (.int .u32 167772161) ∧ W'.cell? ⟨w.heap.size, 8, none⟩ = some (.int .u32 167772162) ∧ W'.cell? ⟨w.heap.size, 9, none⟩ = some (.slice none 0 0) from ⟨he, (B1.below he (by omega)).cell 0, (B1.below he (by omega)).cell 1, (B1.below he (by omega)).cell 2, (B1.below he (by omega)).cell 3, (B1.below he (by omega)).cell 4, (B1.below he (by omega)).cell 5, (B1.below he (by omega)).cell 6, (B1.below he (by omega)).cell 7, (B1.below he (by omega)).cell 8, (B1.below he (by omega)).cell 9⟩))
  go_region_held3 (fun W' => Below (w.heap.size + 1) w11 W' ∧ W'.cell? ⟨w.heap.size, 0, none⟩ = some (.int .u8 0) ∧ W'.cell? ⟨w.heap.size, 1, none⟩ = some (.int .u16 1) ∧ W'.cell? ⟨w.heap.size, 2, none⟩ = some (.bool false) ∧ W'.cell? ⟨w.heap.size, 3, none⟩ = some (.bool false) ∧ W'.cell? ⟨w.heap.size, 4, none⟩ = some (.int .i64 0) ∧ W'.cell? ⟨w.heap.size, 5, none⟩ = some (.int .u8 64) ∧ W'.cell? ⟨w.heap.size, 6, none⟩ = some (.int .u8 17) ∧ W'.cell? ⟨w.heap.size, 7, none⟩ = some (.int .u32 167772161) ∧ W'.cell? ⟨w.heap.size, 8, none⟩ = some (.int .u32 167772162) ∧ W'.cell? ⟨w.heap.size, 9, none⟩ = some (.slice none 0 0)) ((with_reducible refine HKK.out _ ?_; (repeat' (first | (with_reducible exact Below.refl _ _) | (with_reducible refine Below.drew ?_) | (with_reducible refine Below.alloc ?_ ?_ _) | (with_reducible refine Below.setCell ?_ ?_ _) | omega | (simp; done) | (simp; omega))))) (fail)
  · go_wp2_with fail
    have BF : BLOCK ((w11.alloc (.cells (HD5m.cells (.slice none 0 0)) 30)).alloc (.cells (HD5f.cells (.slice none 0 0)) 30)) (w11.heap.size + 1) 30 (HD5f.cells (.slice none 0 0)) := BLOCK.new' _ _ _ (by simp)
    have hb12 : Below w11.heap.size w11 ((w11.alloc (.cells (HD5m.cells (.slice none 0 0)) 30)).alloc (.cells (HD5f.cells (.slice none 0 0)) 30)) := ((Below.refl _ _).alloc (Nat.le_refl _) _).alloc (by simp) _
    have hs12 : ((w11.alloc (.cells (HD5m.cells (.slice none 0 0)) 30)).alloc (.cells (HD5f.cells (.slice none 0 0)) 30)).heap.size = w11.heap.size + 1 + 1 := by simp
    replace hbw := hbw.trans (hb12.mono hbw.size)
    clear hb12
    rw [show ((w11.alloc (.cells #[.int .u8 0, .int .u16 1, .bool false, .bool true, .int .i64 0, .int .u8 64, .int .u8 17, .int .u32 167772161, .int .u32 167772162, .slice none 0 0] 30)).alloc (.cells #[.int .u8 0, .int .u16 1, .bool false, .bool false, .int .i64 65528, .int .u8 64, .int .u8 17, .int .u32 167772161, .int .u32 167772162, .slice none 0 0] 30)) = ((w11.alloc (.cells (HD5m.cells (.slice none 0 0)) 30)).alloc (.cells (HD5f.cells (.slice none 0 0)) 30)) from rfl]
    generalize hF : (w11.heap.size + 1) = F at *
    generalize ((w11.alloc (.cells (HD5m.cells (.slice none 0 0)) 30)).alloc (.cells (HD5f.cells (.slice none 0 0)) 30)) = w12 at BF hbw hs12 ⊢
    have L := (LIT2.out w12).drewN 1
    rw [hs12] at L
    refine (write_any HD5m none 0 0 [] _ 2 2 [7, 8] _ HD5m_wf RD.nil bd2 L (by omega) (by omega)).mono ?_
    rintro e w13 ⟨A13, n13, c13, rfl, _, hb13⟩
    rw [EX5_wEm]
    have hb14 : Below w12.heap.size w12 w13 := (((Below.refl _ w12).alloc (Nat.le_refl _) _).drew).trans (hb13.mono (by show w12.heap.size ≤ (w12.alloc _).heap.size; simp))
    replace BF := BF.next hb14
    replace hbw := hbw.trans (hb14.mono hbw.size)
    clear hb13 hb14 L hs12
    have f0 : w13.cell? ⟨F, 0, none⟩ = some (.int .u8 0) := BF.cell 0
    have f1 : w13.cell? ⟨F, 1, none⟩ = some (.int .u16 1) := BF.cell 1
    have f2 : w13.cell? ⟨F, 2, none⟩ = some (.bool false) := BF.cell 2
    have f3 : w13.cell? ⟨F, 3, none⟩ = some (.bool false) := BF.cell 3
    have f4 : w13.cell? ⟨F, 4, none⟩ = some (.int .i64 65528) := BF.cell 4
    have f5 : w13.cell? ⟨F, 5, none⟩ = some (.int .u8 64) := BF.cell 5
    have f6 : w13.cell? ⟨F, 6, none⟩ = some (.int .u8 17) := BF.cell 6
    have f7 : w13.cell? ⟨F, 7, none⟩ = some (.int .u32 167772161) := BF.cell 7
    have f8 : w13.cell? ⟨F, 8, none⟩ = some (.int .u32 167772162) := BF.cell 8
    have f9 : w13.cell? ⟨F, 9, none⟩ = some (.slice none 0 0) := BF.cell 9
    clear BF
    go_wp2_with fail
    refine (write_any HD5f none 0 0 [] _ 2 2 [7, 8] _ HD5f_wf RD.nil bd2 (LIT2.out w13) (by omega) (by omega)).mono ?_
    rintro e w14 ⟨A14, n14, c14, rfl, _, hb14⟩
    rw [EX5_wEf]
    replace hbw := (hbw.alloc hbw.size _).trans (hb14.mono (by have := hbw.size; simp; omega))
    clear f0 f1 f2 f3 f4 f5 f6 f7 f8 f9 hb14
    go_wp2_with fail
    go_ret
    exact ⟨rfl, hbw⟩
  · go_wp2_with fail
    have BF : BLOCK ((w11.alloc (.cells (HD5f.cells (.slice none 0 0)) 30)).alloc (.cells (HD5m.cells (.slice none 0 0)) 30)) w11.heap.size 30 (HD5f.cells (.slice none 0 0)) := (BLOCK.new w11 _ _).alloc _
    have hb12 : Below w11.heap.size w11 ((w11.alloc (.cells (HD5f.cells (.slice none 0 0)) 30)).alloc (.cells (HD5m.cells (.slice none 0 0)) 30)) := ((Below.refl _ _).alloc (Nat.le_refl _) _).alloc (by simp) _
    have hs12 : ((w11.alloc (.cells (HD5f.cells (.slice none 0 0)) 30)).alloc (.cells (HD5m.cells (.slice none 0 0)) 30)).heap.size = w11.heap.size + 1 + 1 := by simp
    replace hbw := hbw.trans (hb12.mono hbw.size)
    clear hb12
    rw [show ((w11.alloc (.cells #[.int .u8 0, .int .u16 1, .bool false, .bool false, .int .i64 65528, .int .u8 64, .int .u8 17, .int .u32 167772161, .int .u32 167772162, .slice none 0 0] 30)).alloc (.cells #[.int .u8 0, .int .u16 1, .bool false, .bool true, .int .i64 0, .int .u8 64, .int .u8 17, .int .u32 167772161, .int .u32 167772162, .slice none 0 0] 30)) = ((w11.alloc (.cells (HD5f.cells (.slice none 0 0)) 30)).alloc (.cells (HD5m.cells (.slice none 0 0)) 30)) from rfl]
    generalize hF : w11.heap.size = F at *
    generalize ((w11.alloc (.cells (HD5f.cells (.slice none 0 0)) 30)).alloc (.cells (HD5m.cells (.slice none 0 0)) 30)) = w12 at BF hbw hs12 ⊢
    have L := (LIT2.out w12).drewN 1
    rw [hs12] at L
    refine (write_any HD5m none 0 0 [] _ 2 2 [7, 8] _ HD5m_wf RD.nil bd2 L (by omega) (by omega)).mono ?_
    rintro e w13 ⟨A13, n13, c13, rfl, _, hb13⟩
    rw [EX5_wEm]
    have hb14 : Below w12.heap.size w12 w13 := (((Below.refl _ w12).alloc (Nat.le_refl _) _).drew).trans (hb13.mono (by show w12.heap.size ≤ (w12.alloc _).heap.size; simp))
    replace BF := BF.next hb14
    replace hbw := hbw.trans (hb14.mono hbw.size)
    clear hb13 hb14 L hs12
    have f0 : w13.cell? ⟨F, 0, none⟩ = some (.int .u8 0) := BF.cell 0
    have f1 : w13.cell? ⟨F, 1, none⟩ = some (.int .u16 1) := BF.cell 1
    have f2 : w13.cell? ⟨F, 2, none⟩ = some (.bool false) := BF.cell 2
    have f3 : w13.cell? ⟨F, 3, none⟩ = some (.bool false) := BF.cell 3
    have f4 : w13.cell? ⟨F, 4, none⟩ = some (.int .i64 65528) := BF.cell 4
    have f5 : w13.cell? ⟨F, 5, none⟩ = some (.int .u8 64) := BF.cell 5
    have f6 : w13.cell? ⟨F, 6, none⟩ = some (.int .u8 17) := BF.cell 6
    have f7 : w13.cell? ⟨F, 7, none⟩ = some (.int .u32 167772161) := BF.cell 7
    have f8 : w13.cell? ⟨F, 8, none⟩ = some (.int .u32 167772162) := BF.cell 8
    have f9 : w13.cell? ⟨F, 9, none⟩ = some (.slice none 0 0) := BF.cell 9
    clear BF
    go_wp2_with fail
    refine (write_any HD5f none 0 0 [] _ 2 2 [7, 8] _ HD5f_wf RD.nil bd2 (LIT2.out w13) (by omega) (by omega)).mono ?_
    rintro e w14 ⟨A14, n14, c14, rfl, _, hb14⟩
    rw [EX5_wEf]
    replace hbw := (hbw.alloc hbw.size _).trans (hb14.mono (by have := hbw.size; simp; omega))
    clear f0 f1 f2 f3 f4 f5 f6 f7 f8 f9 hb14
    go_wp2_with fail
    go_ret
    exact ⟨rfl, hbw⟩
end Go.Proofs.Ytpfmecdldoehoaa
