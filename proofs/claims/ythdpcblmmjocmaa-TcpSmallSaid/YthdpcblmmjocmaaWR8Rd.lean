import Derived.Test.YthdpcblmmjocmaaWRef8
import Derived.Test.YthdpcblmmjocmaaDag
/- The reference of chapter 08: Read. (Printed by gen_r8read.py.) -/
namespace Go.Proofs.Ythdpcblmmjocmaa
open Go.RowKit
set_option linter.unusedVariables false
attribute [local go_sem ↓] Go.wp_at_zero Go.wp_at_succ

set_option maxHeartbeats 1000000 in
set_option maxRecDepth 100000 in
theorem r8rd_8 {u1 u2 u3 u4 u5 u7 u8 u9 u10 u11 u12 u13 u14 u15 u16 u17 u18 u19 u20 u21 u22 u23 u24 u25 u26 u27 u28 u29 u30 u31 u32 u33 u34 u35 u36 u37 u38 u67 u68 u69 u70 u71 u72 u73 u74 u75 u76 u77 u78 u79 u80 u81 u82 u83 u84 : Value} {Q : Exit → Act → World → Prop} (w0 : World) (N b off n c : Nat) (p0 p2 p4 p8 p14 p18 z13 : Int) (A0 : Option Addr) (c0 : Nat) (A2 : Option Addr) (c2 : Nat) (A4 : Option Addr) (c4 : Nat) (A8 : Option Addr) (c8 : Nat) (A14 : Option Addr) (c14 : Nat) (A18 : Option Addr) (c18 : Nat) (CB13 : Hid (∀ W, Below w0.heap.size w0 W → W.cell? ⟨b, off + 13, none⟩ = some (.int .u8 z13))) (HC0 : Hid (∀ W, Below w0.heap.size w0 W → Calls Try.prog 60 #[.slice A0 2 c0] W fun e w' => e = .returned (.int .i64 p0) ∧ W = w')) (HC2 : Hid (∀ W, Below w0.heap.size w0 W → Calls Try.prog 60 #[.slice A2 2 c2] W fun e w' => e = .returned (.int .i64 p2) ∧ W = w')) (HC4 : Hid (∀ W, Below w0.heap.size w0 W → Calls Try.prog 60 #[.slice A4 4 c4] W fun e w' => e = .returned (.int .i64 p4) ∧ W = w')) (HC8 : Hid (∀ W, Below w0.heap.size w0 W → Calls Try.prog 60 #[.slice A8 4 c8] W fun e w' => e = .returned (.int .i64 p8) ∧ W = w')) (HC14 : Hid (∀ W, Below w0.heap.size w0 W → Calls Try.prog 60 #[.slice A14 2 c14] W fun e w' => e = .returned (.int .i64 p14) ∧ W = w')) (HC18 : Hid (∀ W, Below w0.heap.size w0 W → Calls Try.prog 60 #[.slice A18 2 c18] W fun e w' => e = .returned (.int .i64 p18) ∧ W = w')) (s0 : ∀ W, (Instr.slice 22 (.slice (some ⟨b, off, none⟩) n c) (some (.int .i64 0)) (some (.int .i64 2)) none).run Try.prog W = .ok (.slice A0 2 c0) W) (s2 : ∀ W, (Instr.slice 22 (.slice (some ⟨b, off, none⟩) n c) (some (.int .i64 2)) (some (.int .i64 4)) none).run Try.prog W = .ok (.slice A2 2 c2) W) (s4 : ∀ W, (Instr.slice 22 (.slice (some ⟨b, off, none⟩) n c) (some (.int .i64 4)) (some (.int .i64 8)) none).run Try.prog W = .ok (.slice A4 4 c4) W) (s8 : ∀ W, (Instr.slice 22 (.slice (some ⟨b, off, none⟩) n c) (some (.int .i64 8)) (some (.int .i64 12)) none).run Try.prog W = .ok (.slice A8 4 c8) W) (s14 : ∀ W, (Instr.slice 22 (.slice (some ⟨b, off, none⟩) n c) (some (.int .i64 14)) (some (.int .i64 16)) none).run Try.prog W = .ok (.slice A14 2 c14) W) (s18 : ∀ W, (Instr.slice 22 (.slice (some ⟨b, off, none⟩) n c) (some (.int .i64 18)) (some (.int .i64 20)) none).run Try.prog W = .ok (.slice A18 2 c18) W) (bp0 : 0 ≤ p0 ∧ p0 ≤ 65535) (bp2 : 0 ≤ p2 ∧ p2 ≤ 65535) (bp4 : 0 ≤ p4 ∧ p4 ≤ 4294967295) (bp8 : 0 ≤ p8 ∧ p8 ≤ 4294967295) (bp14 : 0 ≤ p14 ∧ p14 ≤ 65535) (bp18 : 0 ≤ p18 ∧ p18 ≤ 65535) (i13 : (13 : Int) < (n : Int)) {y39 y40 y41 y42 y43 y44 y45 y46 y47 y48 y49 y50 y51 y52 y53 y54 y55 y56 y57 y58 y59 y60 y61 y62 y63 y64 y65 y66 : Value} (M : Nat) (w : World) (X : Hid (SP w0 w [.blk N 70 (th0.cells (.slice none 0 0)), .blk M 70 ((TH.mk p0 p2 p4 p8 z13 p14 p18).cells (.slice none 0 0))])) (HQ : Hid (∀ (y39 y40 y41 y42 y43 y44 y45 y46 y47 y48 y49 y50 y51 y52 y53 y54 y55 y56 y57 y58 y59 y60 y61 y62 y63 y64 y65 y66 : Value) (M : Nat) (w' : World), SP w0 w' [.blk N 70 (th0.cells (.slice none 0 0)), .blk M 70 ((TH.mk p0 p2 p4 p8 z13 p14 p18).cells (.slice none 0 0))] → Q .normal ⟨#[.slice (some ⟨b, off, none⟩) n c, u1, u2, u3, u4, u5, .pointer (some ⟨M, 0, none⟩), u7, u8, u9, u10, u11, u12, u13, u14, u15, u16, u17, u18, u19, u20, u21, u22, u23, u24, u25, u26, u27, u28, u29, u30, u31, u32, u33, u34, u35, u36, u37, u38, y39, y40, y41, y42, y43, y44, y45, y46, y47, y48, y49, y50, y51, y52, y53, y54, y55, y56, y57, y58, y59, y60, y61, y62, y63, y64, y65, y66, u67, u68, u69, u70, u71, u72, u73, u74, u75, u76, u77, u78, u79, u80, u81, u82, u83, u84], []⟩ w')) :
    wpAnyH Try.prog .any (opsAt Try.f33 8) (NoPanic Q) (fun W => W.cell? ⟨b, off + 13, none⟩ = some (.int .u8 z13)) 0 #[true, true, true, true, true, true, true, true, true, true, true, true, true, true, true, true, true, true, true, true, true, true, true, true, true, true, true, true, true, true] ⟨#[.slice (some ⟨b, off, none⟩) n c, u1, u2, u3, u4, u5, .pointer (some ⟨M, 0, none⟩), u7, u8, u9, u10, u11, u12, u13, u14, u15, u16, u17, u18, u19, u20, u21, u22, u23, u24, u25, u26, u27, u28, u29, u30, u31, u32, u33, u34, u35, u36, u37, u38, y39, y40, y41, y42, y43, y44, y45, y46, y47, y48, y49, y50, y51, y52, y53, y54, y55, y56, y57, y58, y59, y60, y61, y62, y63, y64, y65, y66, u67, u68, u69, u70, u71, u72, u73, u74, u75, u76, u77, u78, u79, u80, u81, u82, u83, u84], []⟩ w := by
  have ep0 : IntKind.u16.wrap p0 = p0 := u16_in _ (by omega) (by omega)
  have ep2 : IntKind.u16.wrap p2 = p2 := u16_in _ (by omega) (by omega)
  have ep4 : IntKind.u32.wrap p4 = p4 := u32_in _ (by omega) (by omega)
  have ep8 : IntKind.u32.wrap p8 = p8 := u32_in _ (by omega) (by omega)
  have ep14 : IntKind.u16.wrap p14 = p14 := u16_in _ (by omega) (by omega)
  have ep18 : IntKind.u16.wrap p18 = p18 := u16_in _ (by omega) (by omega)
  have hHeld : (fun W => W.cell? ⟨b, off + 13, none⟩ = some (.int .u8 z13)) w := by exact CB13.out _ X.out.bel
  refine wpAnyH_done (by kernel_rfl) ?_ _
  refine NoPanic.normal ?_
  exact HQ.out _ _ _ _ _ _ _ _ _ _ _ _ _ _ _ _ _ _ _ _ _ _ _ _ _ _ _ _ M _ X.out

set_option maxHeartbeats 1000000 in
set_option maxRecDepth 100000 in
theorem r8rd_7 {u1 u2 u3 u4 u5 u7 u8 u9 u10 u11 u12 u13 u14 u15 u16 u17 u18 u19 u20 u21 u22 u23 u24 u25 u26 u27 u28 u29 u30 u31 u32 u33 u34 u35 u36 u37 u38 u67 u68 u69 u70 u71 u72 u73 u74 u75 u76 u77 u78 u79 u80 u81 u82 u83 u84 : Value} {Q : Exit → Act → World → Prop} (w0 : World) (N b off n c : Nat) (p0 p2 p4 p8 p14 p18 z13 : Int) (A0 : Option Addr) (c0 : Nat) (A2 : Option Addr) (c2 : Nat) (A4 : Option Addr) (c4 : Nat) (A8 : Option Addr) (c8 : Nat) (A14 : Option Addr) (c14 : Nat) (A18 : Option Addr) (c18 : Nat) (CB13 : Hid (∀ W, Below w0.heap.size w0 W → W.cell? ⟨b, off + 13, none⟩ = some (.int .u8 z13))) (HC0 : Hid (∀ W, Below w0.heap.size w0 W → Calls Try.prog 60 #[.slice A0 2 c0] W fun e w' => e = .returned (.int .i64 p0) ∧ W = w')) (HC2 : Hid (∀ W, Below w0.heap.size w0 W → Calls Try.prog 60 #[.slice A2 2 c2] W fun e w' => e = .returned (.int .i64 p2) ∧ W = w')) (HC4 : Hid (∀ W, Below w0.heap.size w0 W → Calls Try.prog 60 #[.slice A4 4 c4] W fun e w' => e = .returned (.int .i64 p4) ∧ W = w')) (HC8 : Hid (∀ W, Below w0.heap.size w0 W → Calls Try.prog 60 #[.slice A8 4 c8] W fun e w' => e = .returned (.int .i64 p8) ∧ W = w')) (HC14 : Hid (∀ W, Below w0.heap.size w0 W → Calls Try.prog 60 #[.slice A14 2 c14] W fun e w' => e = .returned (.int .i64 p14) ∧ W = w')) (HC18 : Hid (∀ W, Below w0.heap.size w0 W → Calls Try.prog 60 #[.slice A18 2 c18] W fun e w' => e = .returned (.int .i64 p18) ∧ W = w')) (s0 : ∀ W, (Instr.slice 22 (.slice (some ⟨b, off, none⟩) n c) (some (.int .i64 0)) (some (.int .i64 2)) none).run Try.prog W = .ok (.slice A0 2 c0) W) (s2 : ∀ W, (Instr.slice 22 (.slice (some ⟨b, off, none⟩) n c) (some (.int .i64 2)) (some (.int .i64 4)) none).run Try.prog W = .ok (.slice A2 2 c2) W) (s4 : ∀ W, (Instr.slice 22 (.slice (some ⟨b, off, none⟩) n c) (some (.int .i64 4)) (some (.int .i64 8)) none).run Try.prog W = .ok (.slice A4 4 c4) W) (s8 : ∀ W, (Instr.slice 22 (.slice (some ⟨b, off, none⟩) n c) (some (.int .i64 8)) (some (.int .i64 12)) none).run Try.prog W = .ok (.slice A8 4 c8) W) (s14 : ∀ W, (Instr.slice 22 (.slice (some ⟨b, off, none⟩) n c) (some (.int .i64 14)) (some (.int .i64 16)) none).run Try.prog W = .ok (.slice A14 2 c14) W) (s18 : ∀ W, (Instr.slice 22 (.slice (some ⟨b, off, none⟩) n c) (some (.int .i64 18)) (some (.int .i64 20)) none).run Try.prog W = .ok (.slice A18 2 c18) W) (bp0 : 0 ≤ p0 ∧ p0 ≤ 65535) (bp2 : 0 ≤ p2 ∧ p2 ≤ 65535) (bp4 : 0 ≤ p4 ∧ p4 ≤ 4294967295) (bp8 : 0 ≤ p8 ∧ p8 ≤ 4294967295) (bp14 : 0 ≤ p14 ∧ p14 ≤ 65535) (bp18 : 0 ≤ p18 ∧ p18 ≤ 65535) (i13 : (13 : Int) < (n : Int)) {y39 y40 y41 y42 y43 y44 y45 y46 y47 y48 y49 y50 y51 y52 y53 y54 y55 y56 y57 y58 y59 y60 y61 y62 y63 y64 y65 : Value} (M : Nat) (w : World) (X : Hid (SP w0 w [.blk N 70 (th0.cells (.slice none 0 0)), .blk M 70 (th0.cells (.slice none 0 0))])) (HQ : Hid (∀ (y39 y40 y41 y42 y43 y44 y45 y46 y47 y48 y49 y50 y51 y52 y53 y54 y55 y56 y57 y58 y59 y60 y61 y62 y63 y64 y65 y66 : Value) (M : Nat) (w' : World), SP w0 w' [.blk N 70 (th0.cells (.slice none 0 0)), .blk M 70 ((TH.mk p0 p2 p4 p8 z13 p14 p18).cells (.slice none 0 0))] → Q .normal ⟨#[.slice (some ⟨b, off, none⟩) n c, u1, u2, u3, u4, u5, .pointer (some ⟨M, 0, none⟩), u7, u8, u9, u10, u11, u12, u13, u14, u15, u16, u17, u18, u19, u20, u21, u22, u23, u24, u25, u26, u27, u28, u29, u30, u31, u32, u33, u34, u35, u36, u37, u38, y39, y40, y41, y42, y43, y44, y45, y46, y47, y48, y49, y50, y51, y52, y53, y54, y55, y56, y57, y58, y59, y60, y61, y62, y63, y64, y65, y66, u67, u68, u69, u70, u71, u72, u73, u74, u75, u76, u77, u78, u79, u80, u81, u82, u83, u84], []⟩ w')) :
    wpAnyH Try.prog .any (opsAt Try.f33 8) (NoPanic Q) (fun W => W.cell? ⟨b, off + 13, none⟩ = some (.int .u8 z13)) 1 #[true, true, true, true, true, true, true, true, true, true, true, true, true, true, true, true, true, true, true, true, true, true, true, true, true, true, true, true, true, false] ⟨#[.slice (some ⟨b, off, none⟩) n c, u1, u2, u3, u4, u5, .pointer (some ⟨M, 0, none⟩), u7, u8, u9, u10, u11, u12, u13, u14, u15, u16, u17, u18, u19, u20, u21, u22, u23, u24, u25, u26, u27, u28, u29, u30, u31, u32, u33, u34, u35, u36, u37, u38, y39, y40, y41, y42, y43, y44, y45, y46, y47, y48, y49, y50, y51, y52, y53, y54, y55, y56, y57, y58, y59, y60, y61, y62, y63, y64, y65, .agg #[.int .u16 p0, .int .u16 p2, .int .u32 p4, .int .u32 p8, .int .u8 z13, .int .u16 p14, .int .u16 p18, .slice none 0 0], u67, u68, u69, u70, u71, u72, u73, u74, u75, u76, u77, u78, u79, u80, u81, u82, u83, u84], []⟩ w := by
  have ep0 : IntKind.u16.wrap p0 = p0 := u16_in _ (by omega) (by omega)
  have ep2 : IntKind.u16.wrap p2 = p2 := u16_in _ (by omega) (by omega)
  have ep4 : IntKind.u32.wrap p4 = p4 := u32_in _ (by omega) (by omega)
  have ep8 : IntKind.u32.wrap p8 = p8 := u32_in _ (by omega) (by omega)
  have ep14 : IntKind.u16.wrap p14 = p14 := u16_in _ (by omega) (by omega)
  have ep18 : IntKind.u16.wrap p18 = p18 := u16_in _ (by omega) (by omega)
  have hHeld : (fun W => W.cell? ⟨b, off + 13, none⟩ = some (.int .u8 z13)) w := by exact CB13.out _ X.out.bel
  refine wpAnyH_ready (rs := [29]) (by kernel_rfl) (by simp) ?_
  refine cons_lit rfl (fun K hK => ?ss29x30) AllReadyH.nil
  case ss29x30 =>
    refine step_store_row (by rfl) 70 _ _ (by rfl) M ((TH.mk p0 p2 p4 p8 z13 p14 p18).cells (.slice none 0 0)) (by rfl) (by rfl) 70 _ (X.out.blk 1 rfl) (by kernel_rfl) rfl (TH.one _ _ _ _) ?_
    have Y := Lib.hid (show SP w0 _ [.blk N 70 (th0.cells (.slice none 0 0)), .blk M 70 ((TH.mk p0 p2 p4 p8 z13 p14 p18).cells (.slice none 0 0))] from X.out.setR 1 rfl ((TH.mk p0 p2 p4 p8 z13 p14 p18).cells (.slice none 0 0)))
    refine hK.out _ _ (by exact CB13.out _ Y.out.bel) (fun hHeld => ?_)
    clear hK K
    (try simp only [Act.put]); (try simp only [List.setIfInBounds_toArray, List.set_cons_zero, List.set_cons_succ])
    exact r8rd_8 w0 N b off n c p0 p2 p4 p8 p14 p18 z13 A0 c0 A2 c2 A4 c4 A8 c8 A14 c14 A18 c18 CB13 HC0 HC2 HC4 HC8 HC14 HC18 s0 s2 s4 s8 s14 s18 bp0 bp2 bp4 bp8 bp14 bp18 i13 M _ Y HQ

set_option maxHeartbeats 1000000 in
set_option maxRecDepth 100000 in
theorem r8rd_6 {u1 u2 u3 u4 u5 u7 u8 u9 u10 u11 u12 u13 u14 u15 u16 u17 u18 u19 u20 u21 u22 u23 u24 u25 u26 u27 u28 u29 u30 u31 u32 u33 u34 u35 u36 u37 u38 u67 u68 u69 u70 u71 u72 u73 u74 u75 u76 u77 u78 u79 u80 u81 u82 u83 u84 : Value} {Q : Exit → Act → World → Prop} (w0 : World) (N b off n c : Nat) (p0 p2 p4 p8 p14 p18 z13 : Int) (A0 : Option Addr) (c0 : Nat) (A2 : Option Addr) (c2 : Nat) (A4 : Option Addr) (c4 : Nat) (A8 : Option Addr) (c8 : Nat) (A14 : Option Addr) (c14 : Nat) (A18 : Option Addr) (c18 : Nat) (CB13 : Hid (∀ W, Below w0.heap.size w0 W → W.cell? ⟨b, off + 13, none⟩ = some (.int .u8 z13))) (HC0 : Hid (∀ W, Below w0.heap.size w0 W → Calls Try.prog 60 #[.slice A0 2 c0] W fun e w' => e = .returned (.int .i64 p0) ∧ W = w')) (HC2 : Hid (∀ W, Below w0.heap.size w0 W → Calls Try.prog 60 #[.slice A2 2 c2] W fun e w' => e = .returned (.int .i64 p2) ∧ W = w')) (HC4 : Hid (∀ W, Below w0.heap.size w0 W → Calls Try.prog 60 #[.slice A4 4 c4] W fun e w' => e = .returned (.int .i64 p4) ∧ W = w')) (HC8 : Hid (∀ W, Below w0.heap.size w0 W → Calls Try.prog 60 #[.slice A8 4 c8] W fun e w' => e = .returned (.int .i64 p8) ∧ W = w')) (HC14 : Hid (∀ W, Below w0.heap.size w0 W → Calls Try.prog 60 #[.slice A14 2 c14] W fun e w' => e = .returned (.int .i64 p14) ∧ W = w')) (HC18 : Hid (∀ W, Below w0.heap.size w0 W → Calls Try.prog 60 #[.slice A18 2 c18] W fun e w' => e = .returned (.int .i64 p18) ∧ W = w')) (s0 : ∀ W, (Instr.slice 22 (.slice (some ⟨b, off, none⟩) n c) (some (.int .i64 0)) (some (.int .i64 2)) none).run Try.prog W = .ok (.slice A0 2 c0) W) (s2 : ∀ W, (Instr.slice 22 (.slice (some ⟨b, off, none⟩) n c) (some (.int .i64 2)) (some (.int .i64 4)) none).run Try.prog W = .ok (.slice A2 2 c2) W) (s4 : ∀ W, (Instr.slice 22 (.slice (some ⟨b, off, none⟩) n c) (some (.int .i64 4)) (some (.int .i64 8)) none).run Try.prog W = .ok (.slice A4 4 c4) W) (s8 : ∀ W, (Instr.slice 22 (.slice (some ⟨b, off, none⟩) n c) (some (.int .i64 8)) (some (.int .i64 12)) none).run Try.prog W = .ok (.slice A8 4 c8) W) (s14 : ∀ W, (Instr.slice 22 (.slice (some ⟨b, off, none⟩) n c) (some (.int .i64 14)) (some (.int .i64 16)) none).run Try.prog W = .ok (.slice A14 2 c14) W) (s18 : ∀ W, (Instr.slice 22 (.slice (some ⟨b, off, none⟩) n c) (some (.int .i64 18)) (some (.int .i64 20)) none).run Try.prog W = .ok (.slice A18 2 c18) W) (bp0 : 0 ≤ p0 ∧ p0 ≤ 65535) (bp2 : 0 ≤ p2 ∧ p2 ≤ 65535) (bp4 : 0 ≤ p4 ∧ p4 ≤ 4294967295) (bp8 : 0 ≤ p8 ∧ p8 ≤ 4294967295) (bp14 : 0 ≤ p14 ∧ p14 ≤ 65535) (bp18 : 0 ≤ p18 ∧ p18 ≤ 65535) (i13 : (13 : Int) < (n : Int)) {y6 y39 y40 y41 y42 y43 y44 y45 y46 y47 y48 y49 y50 y51 y52 y53 y54 y55 y56 y57 y58 y59 y60 y61 y62 y63 y64 y65 : Value} (w : World) (X : Hid (SP w0 w [.blk N 70 (th0.cells (.slice none 0 0))])) (HQ : Hid (∀ (y39 y40 y41 y42 y43 y44 y45 y46 y47 y48 y49 y50 y51 y52 y53 y54 y55 y56 y57 y58 y59 y60 y61 y62 y63 y64 y65 y66 : Value) (M : Nat) (w' : World), SP w0 w' [.blk N 70 (th0.cells (.slice none 0 0)), .blk M 70 ((TH.mk p0 p2 p4 p8 z13 p14 p18).cells (.slice none 0 0))] → Q .normal ⟨#[.slice (some ⟨b, off, none⟩) n c, u1, u2, u3, u4, u5, .pointer (some ⟨M, 0, none⟩), u7, u8, u9, u10, u11, u12, u13, u14, u15, u16, u17, u18, u19, u20, u21, u22, u23, u24, u25, u26, u27, u28, u29, u30, u31, u32, u33, u34, u35, u36, u37, u38, y39, y40, y41, y42, y43, y44, y45, y46, y47, y48, y49, y50, y51, y52, y53, y54, y55, y56, y57, y58, y59, y60, y61, y62, y63, y64, y65, y66, u67, u68, u69, u70, u71, u72, u73, u74, u75, u76, u77, u78, u79, u80, u81, u82, u83, u84], []⟩ w')) :
    wpAnyH Try.prog .any (opsAt Try.f33 8) (NoPanic Q) (fun W => W.cell? ⟨b, off + 13, none⟩ = some (.int .u8 z13)) 2 #[true, true, true, true, true, true, true, true, true, true, true, true, true, true, true, true, true, true, true, true, true, true, true, true, true, true, true, true, false, false] ⟨#[.slice (some ⟨b, off, none⟩) n c, u1, u2, u3, u4, u5, y6, u7, u8, u9, u10, u11, u12, u13, u14, u15, u16, u17, u18, u19, u20, u21, u22, u23, u24, u25, u26, u27, u28, u29, u30, u31, u32, u33, u34, u35, u36, u37, u38, y39, y40, y41, y42, y43, y44, y45, y46, y47, y48, y49, y50, y51, y52, y53, y54, y55, y56, y57, y58, y59, y60, y61, y62, y63, y64, y65, .agg #[.int .u16 p0, .int .u16 p2, .int .u32 p4, .int .u32 p8, .int .u8 z13, .int .u16 p14, .int .u16 p18, .slice none 0 0], u67, u68, u69, u70, u71, u72, u73, u74, u75, u76, u77, u78, u79, u80, u81, u82, u83, u84], []⟩ w := by
  have ep0 : IntKind.u16.wrap p0 = p0 := u16_in _ (by omega) (by omega)
  have ep2 : IntKind.u16.wrap p2 = p2 := u16_in _ (by omega) (by omega)
  have ep4 : IntKind.u32.wrap p4 = p4 := u32_in _ (by omega) (by omega)
  have ep8 : IntKind.u32.wrap p8 = p8 := u32_in _ (by omega) (by omega)
  have ep14 : IntKind.u16.wrap p14 = p14 := u16_in _ (by omega) (by omega)
  have ep18 : IntKind.u16.wrap p18 = p18 := u16_in _ (by omega) (by omega)
  have hHeld : (fun W => W.cell? ⟨b, off + 13, none⟩ = some (.int .u8 z13)) w := by exact CB13.out _ X.out.bel
  refine wpAnyH_ready (rs := [28]) (by kernel_rfl) (by simp) ?_
  refine cons_lit rfl (fun K hK => ?ss28x29) AllReadyH.nil
  case ss28x29 =>
    go_simp
    obtain ⟨M, hM⟩ : ∃ g, g = w.heap.size := ⟨_, rfl⟩
    rw [← hM]
    refine nameW' (fun v hv => ?_)
    have Y := Lib.hid (show SP w0 v [.blk N 70 (th0.cells (.slice none 0 0)), .blk M 70 (th0.cells (.slice none 0 0))] by rw [hv, hM]; exact X.out.alloc 70 (th0.cells (.slice none 0 0)))
    clear hv hM
    refine hK.out _ _ (by exact CB13.out _ Y.out.bel) (fun hHeld => ?_)
    clear hK K
    (try simp only [Act.put]); (try simp only [List.setIfInBounds_toArray, List.set_cons_zero, List.set_cons_succ])
    exact r8rd_7 w0 N b off n c p0 p2 p4 p8 p14 p18 z13 A0 c0 A2 c2 A4 c4 A8 c8 A14 c14 A18 c18 CB13 HC0 HC2 HC4 HC8 HC14 HC18 s0 s2 s4 s8 s14 s18 bp0 bp2 bp4 bp8 bp14 bp18 i13 M _ Y HQ

set_option maxHeartbeats 1000000 in
set_option maxRecDepth 100000 in
theorem r8rd_9 {u1 u2 u3 u4 u5 u7 u8 u9 u10 u11 u12 u13 u14 u15 u16 u17 u18 u19 u20 u21 u22 u23 u24 u25 u26 u27 u28 u29 u30 u31 u32 u33 u34 u35 u36 u37 u38 u67 u68 u69 u70 u71 u72 u73 u74 u75 u76 u77 u78 u79 u80 u81 u82 u83 u84 : Value} {Q : Exit → Act → World → Prop} (w0 : World) (N b off n c : Nat) (p0 p2 p4 p8 p14 p18 z13 : Int) (A0 : Option Addr) (c0 : Nat) (A2 : Option Addr) (c2 : Nat) (A4 : Option Addr) (c4 : Nat) (A8 : Option Addr) (c8 : Nat) (A14 : Option Addr) (c14 : Nat) (A18 : Option Addr) (c18 : Nat) (CB13 : Hid (∀ W, Below w0.heap.size w0 W → W.cell? ⟨b, off + 13, none⟩ = some (.int .u8 z13))) (HC0 : Hid (∀ W, Below w0.heap.size w0 W → Calls Try.prog 60 #[.slice A0 2 c0] W fun e w' => e = .returned (.int .i64 p0) ∧ W = w')) (HC2 : Hid (∀ W, Below w0.heap.size w0 W → Calls Try.prog 60 #[.slice A2 2 c2] W fun e w' => e = .returned (.int .i64 p2) ∧ W = w')) (HC4 : Hid (∀ W, Below w0.heap.size w0 W → Calls Try.prog 60 #[.slice A4 4 c4] W fun e w' => e = .returned (.int .i64 p4) ∧ W = w')) (HC8 : Hid (∀ W, Below w0.heap.size w0 W → Calls Try.prog 60 #[.slice A8 4 c8] W fun e w' => e = .returned (.int .i64 p8) ∧ W = w')) (HC14 : Hid (∀ W, Below w0.heap.size w0 W → Calls Try.prog 60 #[.slice A14 2 c14] W fun e w' => e = .returned (.int .i64 p14) ∧ W = w')) (HC18 : Hid (∀ W, Below w0.heap.size w0 W → Calls Try.prog 60 #[.slice A18 2 c18] W fun e w' => e = .returned (.int .i64 p18) ∧ W = w')) (s0 : ∀ W, (Instr.slice 22 (.slice (some ⟨b, off, none⟩) n c) (some (.int .i64 0)) (some (.int .i64 2)) none).run Try.prog W = .ok (.slice A0 2 c0) W) (s2 : ∀ W, (Instr.slice 22 (.slice (some ⟨b, off, none⟩) n c) (some (.int .i64 2)) (some (.int .i64 4)) none).run Try.prog W = .ok (.slice A2 2 c2) W) (s4 : ∀ W, (Instr.slice 22 (.slice (some ⟨b, off, none⟩) n c) (some (.int .i64 4)) (some (.int .i64 8)) none).run Try.prog W = .ok (.slice A4 4 c4) W) (s8 : ∀ W, (Instr.slice 22 (.slice (some ⟨b, off, none⟩) n c) (some (.int .i64 8)) (some (.int .i64 12)) none).run Try.prog W = .ok (.slice A8 4 c8) W) (s14 : ∀ W, (Instr.slice 22 (.slice (some ⟨b, off, none⟩) n c) (some (.int .i64 14)) (some (.int .i64 16)) none).run Try.prog W = .ok (.slice A14 2 c14) W) (s18 : ∀ W, (Instr.slice 22 (.slice (some ⟨b, off, none⟩) n c) (some (.int .i64 18)) (some (.int .i64 20)) none).run Try.prog W = .ok (.slice A18 2 c18) W) (bp0 : 0 ≤ p0 ∧ p0 ≤ 65535) (bp2 : 0 ≤ p2 ∧ p2 ≤ 65535) (bp4 : 0 ≤ p4 ∧ p4 ≤ 4294967295) (bp8 : 0 ≤ p8 ∧ p8 ≤ 4294967295) (bp14 : 0 ≤ p14 ∧ p14 ≤ 65535) (bp18 : 0 ≤ p18 ∧ p18 ≤ 65535) (i13 : (13 : Int) < (n : Int)) {y39 y40 y41 y43 y44 y45 y47 y48 y49 y51 y52 y53 y55 y56 y58 y59 y60 y62 y64 y65 y66 : Value} (M : Nat) (w : World) (X : Hid (SP w0 w [.blk N 70 (th0.cells (.slice none 0 0)), .blk M 70 (th0.cells (.slice none 0 0))])) (HQ : Hid (∀ (y39 y40 y41 y42 y43 y44 y45 y46 y47 y48 y49 y50 y51 y52 y53 y54 y55 y56 y57 y58 y59 y60 y61 y62 y63 y64 y65 y66 : Value) (M : Nat) (w' : World), SP w0 w' [.blk N 70 (th0.cells (.slice none 0 0)), .blk M 70 ((TH.mk p0 p2 p4 p8 z13 p14 p18).cells (.slice none 0 0))] → Q .normal ⟨#[.slice (some ⟨b, off, none⟩) n c, u1, u2, u3, u4, u5, .pointer (some ⟨M, 0, none⟩), u7, u8, u9, u10, u11, u12, u13, u14, u15, u16, u17, u18, u19, u20, u21, u22, u23, u24, u25, u26, u27, u28, u29, u30, u31, u32, u33, u34, u35, u36, u37, u38, y39, y40, y41, y42, y43, y44, y45, y46, y47, y48, y49, y50, y51, y52, y53, y54, y55, y56, y57, y58, y59, y60, y61, y62, y63, y64, y65, y66, u67, u68, u69, u70, u71, u72, u73, u74, u75, u76, u77, u78, u79, u80, u81, u82, u83, u84], []⟩ w')) :
    wpAnyH Try.prog .any (opsAt Try.f33 8) (NoPanic Q) (fun W => W.cell? ⟨b, off + 13, none⟩ = some (.int .u8 z13)) 4 #[true, true, true, true, true, true, true, true, true, true, true, true, true, true, true, true, true, true, true, true, true, true, true, true, true, false, false, false, true, false] ⟨#[.slice (some ⟨b, off, none⟩) n c, u1, u2, u3, u4, u5, .pointer (some ⟨M, 0, none⟩), u7, u8, u9, u10, u11, u12, u13, u14, u15, u16, u17, u18, u19, u20, u21, u22, u23, u24, u25, u26, u27, u28, u29, u30, u31, u32, u33, u34, u35, u36, u37, u38, y39, y40, y41, .int .u16 p0, y43, y44, y45, .int .u16 p2, y47, y48, y49, .int .u32 p4, y51, y52, y53, .int .u32 p8, y55, y56, .int .u8 z13, y58, y59, y60, .int .u16 p14, y62, .slice A18 2 c18, y64, y65, y66, u67, u68, u69, u70, u71, u72, u73, u74, u75, u76, u77, u78, u79, u80, u81, u82, u83, u84], []⟩ w := by
  have ep0 : IntKind.u16.wrap p0 = p0 := u16_in _ (by omega) (by omega)
  have ep2 : IntKind.u16.wrap p2 = p2 := u16_in _ (by omega) (by omega)
  have ep4 : IntKind.u32.wrap p4 = p4 := u32_in _ (by omega) (by omega)
  have ep8 : IntKind.u32.wrap p8 = p8 := u32_in _ (by omega) (by omega)
  have ep14 : IntKind.u16.wrap p14 = p14 := u16_in _ (by omega) (by omega)
  have ep18 : IntKind.u16.wrap p18 = p18 := u16_in _ (by omega) (by omega)
  have hHeld : (fun W => W.cell? ⟨b, off + 13, none⟩ = some (.int .u8 z13)) w := by exact CB13.out _ X.out.bel
  refine wpAnyH_ready (rs := [25]) (by kernel_rfl) (by simp) ?_
  refine cons_lit rfl (fun K hK => ?ss25x31) AllReadyH.nil
  case ss25x31 =>
    go_simp
    refine (HC18.out _ X.out.bel).mono ?_
    rintro e v ⟨rfl, rfl⟩
    have Y := Lib.hid (show SP w0 w [.blk N 70 (th0.cells (.slice none 0 0)), .blk M 70 (th0.cells (.slice none 0 0))] from X.out)
    refine hK.out _ _ (by exact CB13.out _ Y.out.bel) (fun hHeld => ?_)
    clear hK K
    (try simp only [Act.put]); (try simp only [List.setIfInBounds_toArray, List.set_cons_zero, List.set_cons_succ])
    refine' take_lit (i := 26) (v := _) rfl (by kernel_rfl) (by kernel_rfl) (by kernel_rfl) (fun _ _ _ h => h) (Or.inl ⟨by rfl, ?yy32⟩) (by assumption) ?rr32
    case yy32 => intro w' hSw; (try dsimp only at hSw); go_simp; try (with_reducible rfl)
    (try simp only [Act.put]); (try simp only [List.setIfInBounds_toArray, List.set_cons_zero, List.set_cons_succ])
    refine' take_lit (i := 27) (v := _) rfl (by kernel_rfl) (by kernel_rfl) (by kernel_rfl) (fun _ _ _ h => h) (Or.inl ⟨by rfl, ?yy33⟩) (by assumption) ?rr33
    case yy33 => intro w' hSw; (try dsimp only at hSw); go_simp; try (with_reducible rfl)
    (try simp only [Act.put]); (try simp only [List.setIfInBounds_toArray, List.set_cons_zero, List.set_cons_succ])
    exact r8rd_7 w0 N b off n c p0 p2 p4 p8 p14 p18 z13 A0 c0 A2 c2 A4 c4 A8 c8 A14 c14 A18 c18 CB13 HC0 HC2 HC4 HC8 HC14 HC18 s0 s2 s4 s8 s14 s18 bp0 bp2 bp4 bp8 bp14 bp18 i13 M _ Y HQ

set_option maxHeartbeats 1000000 in
set_option maxRecDepth 100000 in
theorem r8rd_5 {u1 u2 u3 u4 u5 u7 u8 u9 u10 u11 u12 u13 u14 u15 u16 u17 u18 u19 u20 u21 u22 u23 u24 u25 u26 u27 u28 u29 u30 u31 u32 u33 u34 u35 u36 u37 u38 u67 u68 u69 u70 u71 u72 u73 u74 u75 u76 u77 u78 u79 u80 u81 u82 u83 u84 : Value} {Q : Exit → Act → World → Prop} (w0 : World) (N b off n c : Nat) (p0 p2 p4 p8 p14 p18 z13 : Int) (A0 : Option Addr) (c0 : Nat) (A2 : Option Addr) (c2 : Nat) (A4 : Option Addr) (c4 : Nat) (A8 : Option Addr) (c8 : Nat) (A14 : Option Addr) (c14 : Nat) (A18 : Option Addr) (c18 : Nat) (CB13 : Hid (∀ W, Below w0.heap.size w0 W → W.cell? ⟨b, off + 13, none⟩ = some (.int .u8 z13))) (HC0 : Hid (∀ W, Below w0.heap.size w0 W → Calls Try.prog 60 #[.slice A0 2 c0] W fun e w' => e = .returned (.int .i64 p0) ∧ W = w')) (HC2 : Hid (∀ W, Below w0.heap.size w0 W → Calls Try.prog 60 #[.slice A2 2 c2] W fun e w' => e = .returned (.int .i64 p2) ∧ W = w')) (HC4 : Hid (∀ W, Below w0.heap.size w0 W → Calls Try.prog 60 #[.slice A4 4 c4] W fun e w' => e = .returned (.int .i64 p4) ∧ W = w')) (HC8 : Hid (∀ W, Below w0.heap.size w0 W → Calls Try.prog 60 #[.slice A8 4 c8] W fun e w' => e = .returned (.int .i64 p8) ∧ W = w')) (HC14 : Hid (∀ W, Below w0.heap.size w0 W → Calls Try.prog 60 #[.slice A14 2 c14] W fun e w' => e = .returned (.int .i64 p14) ∧ W = w')) (HC18 : Hid (∀ W, Below w0.heap.size w0 W → Calls Try.prog 60 #[.slice A18 2 c18] W fun e w' => e = .returned (.int .i64 p18) ∧ W = w')) (s0 : ∀ W, (Instr.slice 22 (.slice (some ⟨b, off, none⟩) n c) (some (.int .i64 0)) (some (.int .i64 2)) none).run Try.prog W = .ok (.slice A0 2 c0) W) (s2 : ∀ W, (Instr.slice 22 (.slice (some ⟨b, off, none⟩) n c) (some (.int .i64 2)) (some (.int .i64 4)) none).run Try.prog W = .ok (.slice A2 2 c2) W) (s4 : ∀ W, (Instr.slice 22 (.slice (some ⟨b, off, none⟩) n c) (some (.int .i64 4)) (some (.int .i64 8)) none).run Try.prog W = .ok (.slice A4 4 c4) W) (s8 : ∀ W, (Instr.slice 22 (.slice (some ⟨b, off, none⟩) n c) (some (.int .i64 8)) (some (.int .i64 12)) none).run Try.prog W = .ok (.slice A8 4 c8) W) (s14 : ∀ W, (Instr.slice 22 (.slice (some ⟨b, off, none⟩) n c) (some (.int .i64 14)) (some (.int .i64 16)) none).run Try.prog W = .ok (.slice A14 2 c14) W) (s18 : ∀ W, (Instr.slice 22 (.slice (some ⟨b, off, none⟩) n c) (some (.int .i64 18)) (some (.int .i64 20)) none).run Try.prog W = .ok (.slice A18 2 c18) W) (bp0 : 0 ≤ p0 ∧ p0 ≤ 65535) (bp2 : 0 ≤ p2 ∧ p2 ≤ 65535) (bp4 : 0 ≤ p4 ∧ p4 ≤ 4294967295) (bp8 : 0 ≤ p8 ∧ p8 ≤ 4294967295) (bp14 : 0 ≤ p14 ∧ p14 ≤ 65535) (bp18 : 0 ≤ p18 ∧ p18 ≤ 65535) (i13 : (13 : Int) < (n : Int)) {y6 y39 y40 y41 y43 y44 y45 y47 y48 y49 y51 y52 y53 y55 y56 y58 y59 y60 y62 y64 y65 y66 : Value} (w : World) (X : Hid (SP w0 w [.blk N 70 (th0.cells (.slice none 0 0))])) (HQ : Hid (∀ (y39 y40 y41 y42 y43 y44 y45 y46 y47 y48 y49 y50 y51 y52 y53 y54 y55 y56 y57 y58 y59 y60 y61 y62 y63 y64 y65 y66 : Value) (M : Nat) (w' : World), SP w0 w' [.blk N 70 (th0.cells (.slice none 0 0)), .blk M 70 ((TH.mk p0 p2 p4 p8 z13 p14 p18).cells (.slice none 0 0))] → Q .normal ⟨#[.slice (some ⟨b, off, none⟩) n c, u1, u2, u3, u4, u5, .pointer (some ⟨M, 0, none⟩), u7, u8, u9, u10, u11, u12, u13, u14, u15, u16, u17, u18, u19, u20, u21, u22, u23, u24, u25, u26, u27, u28, u29, u30, u31, u32, u33, u34, u35, u36, u37, u38, y39, y40, y41, y42, y43, y44, y45, y46, y47, y48, y49, y50, y51, y52, y53, y54, y55, y56, y57, y58, y59, y60, y61, y62, y63, y64, y65, y66, u67, u68, u69, u70, u71, u72, u73, u74, u75, u76, u77, u78, u79, u80, u81, u82, u83, u84], []⟩ w')) :
    wpAnyH Try.prog .any (opsAt Try.f33 8) (NoPanic Q) (fun W => W.cell? ⟨b, off + 13, none⟩ = some (.int .u8 z13)) 5 #[true, true, true, true, true, true, true, true, true, true, true, true, true, true, true, true, true, true, true, true, true, true, true, true, true, false, false, false, false, false] ⟨#[.slice (some ⟨b, off, none⟩) n c, u1, u2, u3, u4, u5, y6, u7, u8, u9, u10, u11, u12, u13, u14, u15, u16, u17, u18, u19, u20, u21, u22, u23, u24, u25, u26, u27, u28, u29, u30, u31, u32, u33, u34, u35, u36, u37, u38, y39, y40, y41, .int .u16 p0, y43, y44, y45, .int .u16 p2, y47, y48, y49, .int .u32 p4, y51, y52, y53, .int .u32 p8, y55, y56, .int .u8 z13, y58, y59, y60, .int .u16 p14, y62, .slice A18 2 c18, y64, y65, y66, u67, u68, u69, u70, u71, u72, u73, u74, u75, u76, u77, u78, u79, u80, u81, u82, u83, u84], []⟩ w := by
  have ep0 : IntKind.u16.wrap p0 = p0 := u16_in _ (by omega) (by omega)
  have ep2 : IntKind.u16.wrap p2 = p2 := u16_in _ (by omega) (by omega)
  have ep4 : IntKind.u32.wrap p4 = p4 := u32_in _ (by omega) (by omega)
  have ep8 : IntKind.u32.wrap p8 = p8 := u32_in _ (by omega) (by omega)
  have ep14 : IntKind.u16.wrap p14 = p14 := u16_in _ (by omega) (by omega)
  have ep18 : IntKind.u16.wrap p18 = p18 := u16_in _ (by omega) (by omega)
  have hHeld : (fun W => W.cell? ⟨b, off + 13, none⟩ = some (.int .u8 z13)) w := by exact CB13.out _ X.out.bel
  refine wpAnyH_ready (rs := [25, 28]) (by kernel_rfl) (by simp) ?_
  refine cons_lit rfl (fun K hK => ?ss25x26) (cons_lit rfl (fun K hK => ?ss28x26) AllReadyH.nil)
  case ss25x26 =>
    go_simp
    refine (HC18.out _ X.out.bel).mono ?_
    rintro e v ⟨rfl, rfl⟩
    have Y := Lib.hid (show SP w0 w [.blk N 70 (th0.cells (.slice none 0 0))] from X.out)
    refine hK.out _ _ (by exact CB13.out _ Y.out.bel) (fun hHeld => ?_)
    clear hK K
    (try simp only [Act.put]); (try simp only [List.setIfInBounds_toArray, List.set_cons_zero, List.set_cons_succ])
    refine' take_lit (i := 26) (v := _) rfl (by kernel_rfl) (by kernel_rfl) (by kernel_rfl) (fun _ _ _ h => h) (Or.inl ⟨by rfl, ?yy27⟩) (by assumption) ?rr27
    case yy27 => intro w' hSw; (try dsimp only at hSw); go_simp; try (with_reducible rfl)
    (try simp only [Act.put]); (try simp only [List.setIfInBounds_toArray, List.set_cons_zero, List.set_cons_succ])
    refine' take_lit (i := 27) (v := _) rfl (by kernel_rfl) (by kernel_rfl) (by kernel_rfl) (fun _ _ _ h => h) (Or.inl ⟨by rfl, ?yy28⟩) (by assumption) ?rr28
    case yy28 => intro w' hSw; (try dsimp only at hSw); go_simp; try (with_reducible rfl)
    (try simp only [Act.put]); (try simp only [List.setIfInBounds_toArray, List.set_cons_zero, List.set_cons_succ])
    exact r8rd_6 w0 N b off n c p0 p2 p4 p8 p14 p18 z13 A0 c0 A2 c2 A4 c4 A8 c8 A14 c14 A18 c18 CB13 HC0 HC2 HC4 HC8 HC14 HC18 s0 s2 s4 s8 s14 s18 bp0 bp2 bp4 bp8 bp14 bp18 i13  _ Y HQ
  case ss28x26 =>
    go_simp
    obtain ⟨M, hM⟩ : ∃ g, g = w.heap.size := ⟨_, rfl⟩
    rw [← hM]
    refine nameW' (fun v hv => ?_)
    have Y := Lib.hid (show SP w0 v [.blk N 70 (th0.cells (.slice none 0 0)), .blk M 70 (th0.cells (.slice none 0 0))] by rw [hv, hM]; exact X.out.alloc 70 (th0.cells (.slice none 0 0)))
    clear hv hM
    refine hK.out _ _ (by exact CB13.out _ Y.out.bel) (fun hHeld => ?_)
    clear hK K
    (try simp only [Act.put]); (try simp only [List.setIfInBounds_toArray, List.set_cons_zero, List.set_cons_succ])
    exact r8rd_9 w0 N b off n c p0 p2 p4 p8 p14 p18 z13 A0 c0 A2 c2 A4 c4 A8 c8 A14 c14 A18 c18 CB13 HC0 HC2 HC4 HC8 HC14 HC18 s0 s2 s4 s8 s14 s18 bp0 bp2 bp4 bp8 bp14 bp18 i13 M _ Y HQ

set_option maxHeartbeats 1000000 in
set_option maxRecDepth 100000 in
theorem r8rd_10 {u1 u2 u3 u4 u5 u7 u8 u9 u10 u11 u12 u13 u14 u15 u16 u17 u18 u19 u20 u21 u22 u23 u24 u25 u26 u27 u28 u29 u30 u31 u32 u33 u34 u35 u36 u37 u38 u67 u68 u69 u70 u71 u72 u73 u74 u75 u76 u77 u78 u79 u80 u81 u82 u83 u84 : Value} {Q : Exit → Act → World → Prop} (w0 : World) (N b off n c : Nat) (p0 p2 p4 p8 p14 p18 z13 : Int) (A0 : Option Addr) (c0 : Nat) (A2 : Option Addr) (c2 : Nat) (A4 : Option Addr) (c4 : Nat) (A8 : Option Addr) (c8 : Nat) (A14 : Option Addr) (c14 : Nat) (A18 : Option Addr) (c18 : Nat) (CB13 : Hid (∀ W, Below w0.heap.size w0 W → W.cell? ⟨b, off + 13, none⟩ = some (.int .u8 z13))) (HC0 : Hid (∀ W, Below w0.heap.size w0 W → Calls Try.prog 60 #[.slice A0 2 c0] W fun e w' => e = .returned (.int .i64 p0) ∧ W = w')) (HC2 : Hid (∀ W, Below w0.heap.size w0 W → Calls Try.prog 60 #[.slice A2 2 c2] W fun e w' => e = .returned (.int .i64 p2) ∧ W = w')) (HC4 : Hid (∀ W, Below w0.heap.size w0 W → Calls Try.prog 60 #[.slice A4 4 c4] W fun e w' => e = .returned (.int .i64 p4) ∧ W = w')) (HC8 : Hid (∀ W, Below w0.heap.size w0 W → Calls Try.prog 60 #[.slice A8 4 c8] W fun e w' => e = .returned (.int .i64 p8) ∧ W = w')) (HC14 : Hid (∀ W, Below w0.heap.size w0 W → Calls Try.prog 60 #[.slice A14 2 c14] W fun e w' => e = .returned (.int .i64 p14) ∧ W = w')) (HC18 : Hid (∀ W, Below w0.heap.size w0 W → Calls Try.prog 60 #[.slice A18 2 c18] W fun e w' => e = .returned (.int .i64 p18) ∧ W = w')) (s0 : ∀ W, (Instr.slice 22 (.slice (some ⟨b, off, none⟩) n c) (some (.int .i64 0)) (some (.int .i64 2)) none).run Try.prog W = .ok (.slice A0 2 c0) W) (s2 : ∀ W, (Instr.slice 22 (.slice (some ⟨b, off, none⟩) n c) (some (.int .i64 2)) (some (.int .i64 4)) none).run Try.prog W = .ok (.slice A2 2 c2) W) (s4 : ∀ W, (Instr.slice 22 (.slice (some ⟨b, off, none⟩) n c) (some (.int .i64 4)) (some (.int .i64 8)) none).run Try.prog W = .ok (.slice A4 4 c4) W) (s8 : ∀ W, (Instr.slice 22 (.slice (some ⟨b, off, none⟩) n c) (some (.int .i64 8)) (some (.int .i64 12)) none).run Try.prog W = .ok (.slice A8 4 c8) W) (s14 : ∀ W, (Instr.slice 22 (.slice (some ⟨b, off, none⟩) n c) (some (.int .i64 14)) (some (.int .i64 16)) none).run Try.prog W = .ok (.slice A14 2 c14) W) (s18 : ∀ W, (Instr.slice 22 (.slice (some ⟨b, off, none⟩) n c) (some (.int .i64 18)) (some (.int .i64 20)) none).run Try.prog W = .ok (.slice A18 2 c18) W) (bp0 : 0 ≤ p0 ∧ p0 ≤ 65535) (bp2 : 0 ≤ p2 ∧ p2 ≤ 65535) (bp4 : 0 ≤ p4 ∧ p4 ≤ 4294967295) (bp8 : 0 ≤ p8 ∧ p8 ≤ 4294967295) (bp14 : 0 ≤ p14 ∧ p14 ≤ 65535) (bp18 : 0 ≤ p18 ∧ p18 ≤ 65535) (i13 : (13 : Int) < (n : Int)) {y39 y40 y41 y43 y44 y45 y47 y48 y49 y51 y52 y53 y55 y56 y58 y60 y61 y62 y64 y65 y66 : Value} (M : Nat) (w : World) (X : Hid (SP w0 w [.blk N 70 (th0.cells (.slice none 0 0)), .blk M 70 (th0.cells (.slice none 0 0))])) (HQ : Hid (∀ (y39 y40 y41 y42 y43 y44 y45 y46 y47 y48 y49 y50 y51 y52 y53 y54 y55 y56 y57 y58 y59 y60 y61 y62 y63 y64 y65 y66 : Value) (M : Nat) (w' : World), SP w0 w' [.blk N 70 (th0.cells (.slice none 0 0)), .blk M 70 ((TH.mk p0 p2 p4 p8 z13 p14 p18).cells (.slice none 0 0))] → Q .normal ⟨#[.slice (some ⟨b, off, none⟩) n c, u1, u2, u3, u4, u5, .pointer (some ⟨M, 0, none⟩), u7, u8, u9, u10, u11, u12, u13, u14, u15, u16, u17, u18, u19, u20, u21, u22, u23, u24, u25, u26, u27, u28, u29, u30, u31, u32, u33, u34, u35, u36, u37, u38, y39, y40, y41, y42, y43, y44, y45, y46, y47, y48, y49, y50, y51, y52, y53, y54, y55, y56, y57, y58, y59, y60, y61, y62, y63, y64, y65, y66, u67, u68, u69, u70, u71, u72, u73, u74, u75, u76, u77, u78, u79, u80, u81, u82, u83, u84], []⟩ w')) :
    wpAnyH Try.prog .any (opsAt Try.f33 8) (NoPanic Q) (fun W => W.cell? ⟨b, off + 13, none⟩ = some (.int .u8 z13)) 6 #[true, true, true, true, true, true, true, true, true, true, true, true, true, true, true, true, true, true, true, true, true, false, false, true, true, false, false, false, true, false] ⟨#[.slice (some ⟨b, off, none⟩) n c, u1, u2, u3, u4, u5, .pointer (some ⟨M, 0, none⟩), u7, u8, u9, u10, u11, u12, u13, u14, u15, u16, u17, u18, u19, u20, u21, u22, u23, u24, u25, u26, u27, u28, u29, u30, u31, u32, u33, u34, u35, u36, u37, u38, y39, y40, y41, .int .u16 p0, y43, y44, y45, .int .u16 p2, y47, y48, y49, .int .u32 p4, y51, y52, y53, .int .u32 p8, y55, y56, .int .u8 z13, y58, .slice A14 2 c14, y60, y61, y62, .slice A18 2 c18, y64, y65, y66, u67, u68, u69, u70, u71, u72, u73, u74, u75, u76, u77, u78, u79, u80, u81, u82, u83, u84], []⟩ w := by
  have ep0 : IntKind.u16.wrap p0 = p0 := u16_in _ (by omega) (by omega)
  have ep2 : IntKind.u16.wrap p2 = p2 := u16_in _ (by omega) (by omega)
  have ep4 : IntKind.u32.wrap p4 = p4 := u32_in _ (by omega) (by omega)
  have ep8 : IntKind.u32.wrap p8 = p8 := u32_in _ (by omega) (by omega)
  have ep14 : IntKind.u16.wrap p14 = p14 := u16_in _ (by omega) (by omega)
  have ep18 : IntKind.u16.wrap p18 = p18 := u16_in _ (by omega) (by omega)
  have hHeld : (fun W => W.cell? ⟨b, off + 13, none⟩ = some (.int .u8 z13)) w := by exact CB13.out _ X.out.bel
  refine wpAnyH_ready (rs := [21]) (by kernel_rfl) (by simp) ?_
  refine cons_lit rfl (fun K hK => ?ss21x34) AllReadyH.nil
  case ss21x34 =>
    go_simp
    refine (HC14.out _ X.out.bel).mono ?_
    rintro e v ⟨rfl, rfl⟩
    have Y := Lib.hid (show SP w0 w [.blk N 70 (th0.cells (.slice none 0 0)), .blk M 70 (th0.cells (.slice none 0 0))] from X.out)
    refine hK.out _ _ (by exact CB13.out _ Y.out.bel) (fun hHeld => ?_)
    clear hK K
    (try simp only [Act.put]); (try simp only [List.setIfInBounds_toArray, List.set_cons_zero, List.set_cons_succ])
    refine' take_lit (i := 22) (v := _) rfl (by kernel_rfl) (by kernel_rfl) (by kernel_rfl) (fun _ _ _ h => h) (Or.inl ⟨by rfl, ?yy35⟩) (by assumption) ?rr35
    case yy35 => intro w' hSw; (try dsimp only at hSw); go_simp; try (with_reducible rfl)
    (try simp only [Act.put]); (try simp only [List.setIfInBounds_toArray, List.set_cons_zero, List.set_cons_succ])
    exact r8rd_9 w0 N b off n c p0 p2 p4 p8 p14 p18 z13 A0 c0 A2 c2 A4 c4 A8 c8 A14 c14 A18 c18 CB13 HC0 HC2 HC4 HC8 HC14 HC18 s0 s2 s4 s8 s14 s18 bp0 bp2 bp4 bp8 bp14 bp18 i13 M _ Y HQ

set_option maxHeartbeats 1000000 in
set_option maxRecDepth 100000 in
theorem r8rd_4 {u1 u2 u3 u4 u5 u7 u8 u9 u10 u11 u12 u13 u14 u15 u16 u17 u18 u19 u20 u21 u22 u23 u24 u25 u26 u27 u28 u29 u30 u31 u32 u33 u34 u35 u36 u37 u38 u67 u68 u69 u70 u71 u72 u73 u74 u75 u76 u77 u78 u79 u80 u81 u82 u83 u84 : Value} {Q : Exit → Act → World → Prop} (w0 : World) (N b off n c : Nat) (p0 p2 p4 p8 p14 p18 z13 : Int) (A0 : Option Addr) (c0 : Nat) (A2 : Option Addr) (c2 : Nat) (A4 : Option Addr) (c4 : Nat) (A8 : Option Addr) (c8 : Nat) (A14 : Option Addr) (c14 : Nat) (A18 : Option Addr) (c18 : Nat) (CB13 : Hid (∀ W, Below w0.heap.size w0 W → W.cell? ⟨b, off + 13, none⟩ = some (.int .u8 z13))) (HC0 : Hid (∀ W, Below w0.heap.size w0 W → Calls Try.prog 60 #[.slice A0 2 c0] W fun e w' => e = .returned (.int .i64 p0) ∧ W = w')) (HC2 : Hid (∀ W, Below w0.heap.size w0 W → Calls Try.prog 60 #[.slice A2 2 c2] W fun e w' => e = .returned (.int .i64 p2) ∧ W = w')) (HC4 : Hid (∀ W, Below w0.heap.size w0 W → Calls Try.prog 60 #[.slice A4 4 c4] W fun e w' => e = .returned (.int .i64 p4) ∧ W = w')) (HC8 : Hid (∀ W, Below w0.heap.size w0 W → Calls Try.prog 60 #[.slice A8 4 c8] W fun e w' => e = .returned (.int .i64 p8) ∧ W = w')) (HC14 : Hid (∀ W, Below w0.heap.size w0 W → Calls Try.prog 60 #[.slice A14 2 c14] W fun e w' => e = .returned (.int .i64 p14) ∧ W = w')) (HC18 : Hid (∀ W, Below w0.heap.size w0 W → Calls Try.prog 60 #[.slice A18 2 c18] W fun e w' => e = .returned (.int .i64 p18) ∧ W = w')) (s0 : ∀ W, (Instr.slice 22 (.slice (some ⟨b, off, none⟩) n c) (some (.int .i64 0)) (some (.int .i64 2)) none).run Try.prog W = .ok (.slice A0 2 c0) W) (s2 : ∀ W, (Instr.slice 22 (.slice (some ⟨b, off, none⟩) n c) (some (.int .i64 2)) (some (.int .i64 4)) none).run Try.prog W = .ok (.slice A2 2 c2) W) (s4 : ∀ W, (Instr.slice 22 (.slice (some ⟨b, off, none⟩) n c) (some (.int .i64 4)) (some (.int .i64 8)) none).run Try.prog W = .ok (.slice A4 4 c4) W) (s8 : ∀ W, (Instr.slice 22 (.slice (some ⟨b, off, none⟩) n c) (some (.int .i64 8)) (some (.int .i64 12)) none).run Try.prog W = .ok (.slice A8 4 c8) W) (s14 : ∀ W, (Instr.slice 22 (.slice (some ⟨b, off, none⟩) n c) (some (.int .i64 14)) (some (.int .i64 16)) none).run Try.prog W = .ok (.slice A14 2 c14) W) (s18 : ∀ W, (Instr.slice 22 (.slice (some ⟨b, off, none⟩) n c) (some (.int .i64 18)) (some (.int .i64 20)) none).run Try.prog W = .ok (.slice A18 2 c18) W) (bp0 : 0 ≤ p0 ∧ p0 ≤ 65535) (bp2 : 0 ≤ p2 ∧ p2 ≤ 65535) (bp4 : 0 ≤ p4 ∧ p4 ≤ 4294967295) (bp8 : 0 ≤ p8 ∧ p8 ≤ 4294967295) (bp14 : 0 ≤ p14 ∧ p14 ≤ 65535) (bp18 : 0 ≤ p18 ∧ p18 ≤ 65535) (i13 : (13 : Int) < (n : Int)) {y6 y39 y40 y41 y43 y44 y45 y47 y48 y49 y51 y52 y53 y55 y56 y58 y60 y61 y62 y64 y65 y66 : Value} (w : World) (X : Hid (SP w0 w [.blk N 70 (th0.cells (.slice none 0 0))])) (HQ : Hid (∀ (y39 y40 y41 y42 y43 y44 y45 y46 y47 y48 y49 y50 y51 y52 y53 y54 y55 y56 y57 y58 y59 y60 y61 y62 y63 y64 y65 y66 : Value) (M : Nat) (w' : World), SP w0 w' [.blk N 70 (th0.cells (.slice none 0 0)), .blk M 70 ((TH.mk p0 p2 p4 p8 z13 p14 p18).cells (.slice none 0 0))] → Q .normal ⟨#[.slice (some ⟨b, off, none⟩) n c, u1, u2, u3, u4, u5, .pointer (some ⟨M, 0, none⟩), u7, u8, u9, u10, u11, u12, u13, u14, u15, u16, u17, u18, u19, u20, u21, u22, u23, u24, u25, u26, u27, u28, u29, u30, u31, u32, u33, u34, u35, u36, u37, u38, y39, y40, y41, y42, y43, y44, y45, y46, y47, y48, y49, y50, y51, y52, y53, y54, y55, y56, y57, y58, y59, y60, y61, y62, y63, y64, y65, y66, u67, u68, u69, u70, u71, u72, u73, u74, u75, u76, u77, u78, u79, u80, u81, u82, u83, u84], []⟩ w')) :
    wpAnyH Try.prog .any (opsAt Try.f33 8) (NoPanic Q) (fun W => W.cell? ⟨b, off + 13, none⟩ = some (.int .u8 z13)) 7 #[true, true, true, true, true, true, true, true, true, true, true, true, true, true, true, true, true, true, true, true, true, false, false, true, true, false, false, false, false, false] ⟨#[.slice (some ⟨b, off, none⟩) n c, u1, u2, u3, u4, u5, y6, u7, u8, u9, u10, u11, u12, u13, u14, u15, u16, u17, u18, u19, u20, u21, u22, u23, u24, u25, u26, u27, u28, u29, u30, u31, u32, u33, u34, u35, u36, u37, u38, y39, y40, y41, .int .u16 p0, y43, y44, y45, .int .u16 p2, y47, y48, y49, .int .u32 p4, y51, y52, y53, .int .u32 p8, y55, y56, .int .u8 z13, y58, .slice A14 2 c14, y60, y61, y62, .slice A18 2 c18, y64, y65, y66, u67, u68, u69, u70, u71, u72, u73, u74, u75, u76, u77, u78, u79, u80, u81, u82, u83, u84], []⟩ w := by
  have ep0 : IntKind.u16.wrap p0 = p0 := u16_in _ (by omega) (by omega)
  have ep2 : IntKind.u16.wrap p2 = p2 := u16_in _ (by omega) (by omega)
  have ep4 : IntKind.u32.wrap p4 = p4 := u32_in _ (by omega) (by omega)
  have ep8 : IntKind.u32.wrap p8 = p8 := u32_in _ (by omega) (by omega)
  have ep14 : IntKind.u16.wrap p14 = p14 := u16_in _ (by omega) (by omega)
  have ep18 : IntKind.u16.wrap p18 = p18 := u16_in _ (by omega) (by omega)
  have hHeld : (fun W => W.cell? ⟨b, off + 13, none⟩ = some (.int .u8 z13)) w := by exact CB13.out _ X.out.bel
  refine wpAnyH_ready (rs := [21, 28]) (by kernel_rfl) (by simp) ?_
  refine cons_lit rfl (fun K hK => ?ss21x24) (cons_lit rfl (fun K hK => ?ss28x24) AllReadyH.nil)
  case ss21x24 =>
    go_simp
    refine (HC14.out _ X.out.bel).mono ?_
    rintro e v ⟨rfl, rfl⟩
    have Y := Lib.hid (show SP w0 w [.blk N 70 (th0.cells (.slice none 0 0))] from X.out)
    refine hK.out _ _ (by exact CB13.out _ Y.out.bel) (fun hHeld => ?_)
    clear hK K
    (try simp only [Act.put]); (try simp only [List.setIfInBounds_toArray, List.set_cons_zero, List.set_cons_succ])
    refine' take_lit (i := 22) (v := _) rfl (by kernel_rfl) (by kernel_rfl) (by kernel_rfl) (fun _ _ _ h => h) (Or.inl ⟨by rfl, ?yy25⟩) (by assumption) ?rr25
    case yy25 => intro w' hSw; (try dsimp only at hSw); go_simp; try (with_reducible rfl)
    (try simp only [Act.put]); (try simp only [List.setIfInBounds_toArray, List.set_cons_zero, List.set_cons_succ])
    exact r8rd_5 w0 N b off n c p0 p2 p4 p8 p14 p18 z13 A0 c0 A2 c2 A4 c4 A8 c8 A14 c14 A18 c18 CB13 HC0 HC2 HC4 HC8 HC14 HC18 s0 s2 s4 s8 s14 s18 bp0 bp2 bp4 bp8 bp14 bp18 i13  _ Y HQ
  case ss28x24 =>
    go_simp
    obtain ⟨M, hM⟩ : ∃ g, g = w.heap.size := ⟨_, rfl⟩
    rw [← hM]
    refine nameW' (fun v hv => ?_)
    have Y := Lib.hid (show SP w0 v [.blk N 70 (th0.cells (.slice none 0 0)), .blk M 70 (th0.cells (.slice none 0 0))] by rw [hv, hM]; exact X.out.alloc 70 (th0.cells (.slice none 0 0)))
    clear hv hM
    refine hK.out _ _ (by exact CB13.out _ Y.out.bel) (fun hHeld => ?_)
    clear hK K
    (try simp only [Act.put]); (try simp only [List.setIfInBounds_toArray, List.set_cons_zero, List.set_cons_succ])
    exact r8rd_10 w0 N b off n c p0 p2 p4 p8 p14 p18 z13 A0 c0 A2 c2 A4 c4 A8 c8 A14 c14 A18 c18 CB13 HC0 HC2 HC4 HC8 HC14 HC18 s0 s2 s4 s8 s14 s18 bp0 bp2 bp4 bp8 bp14 bp18 i13 M _ Y HQ

set_option maxHeartbeats 1000000 in
set_option maxRecDepth 100000 in
theorem r8rd_11 {u1 u2 u3 u4 u5 u7 u8 u9 u10 u11 u12 u13 u14 u15 u16 u17 u18 u19 u20 u21 u22 u23 u24 u25 u26 u27 u28 u29 u30 u31 u32 u33 u34 u35 u36 u37 u38 u67 u68 u69 u70 u71 u72 u73 u74 u75 u76 u77 u78 u79 u80 u81 u82 u83 u84 : Value} {Q : Exit → Act → World → Prop} (w0 : World) (N b off n c : Nat) (p0 p2 p4 p8 p14 p18 z13 : Int) (A0 : Option Addr) (c0 : Nat) (A2 : Option Addr) (c2 : Nat) (A4 : Option Addr) (c4 : Nat) (A8 : Option Addr) (c8 : Nat) (A14 : Option Addr) (c14 : Nat) (A18 : Option Addr) (c18 : Nat) (CB13 : Hid (∀ W, Below w0.heap.size w0 W → W.cell? ⟨b, off + 13, none⟩ = some (.int .u8 z13))) (HC0 : Hid (∀ W, Below w0.heap.size w0 W → Calls Try.prog 60 #[.slice A0 2 c0] W fun e w' => e = .returned (.int .i64 p0) ∧ W = w')) (HC2 : Hid (∀ W, Below w0.heap.size w0 W → Calls Try.prog 60 #[.slice A2 2 c2] W fun e w' => e = .returned (.int .i64 p2) ∧ W = w')) (HC4 : Hid (∀ W, Below w0.heap.size w0 W → Calls Try.prog 60 #[.slice A4 4 c4] W fun e w' => e = .returned (.int .i64 p4) ∧ W = w')) (HC8 : Hid (∀ W, Below w0.heap.size w0 W → Calls Try.prog 60 #[.slice A8 4 c8] W fun e w' => e = .returned (.int .i64 p8) ∧ W = w')) (HC14 : Hid (∀ W, Below w0.heap.size w0 W → Calls Try.prog 60 #[.slice A14 2 c14] W fun e w' => e = .returned (.int .i64 p14) ∧ W = w')) (HC18 : Hid (∀ W, Below w0.heap.size w0 W → Calls Try.prog 60 #[.slice A18 2 c18] W fun e w' => e = .returned (.int .i64 p18) ∧ W = w')) (s0 : ∀ W, (Instr.slice 22 (.slice (some ⟨b, off, none⟩) n c) (some (.int .i64 0)) (some (.int .i64 2)) none).run Try.prog W = .ok (.slice A0 2 c0) W) (s2 : ∀ W, (Instr.slice 22 (.slice (some ⟨b, off, none⟩) n c) (some (.int .i64 2)) (some (.int .i64 4)) none).run Try.prog W = .ok (.slice A2 2 c2) W) (s4 : ∀ W, (Instr.slice 22 (.slice (some ⟨b, off, none⟩) n c) (some (.int .i64 4)) (some (.int .i64 8)) none).run Try.prog W = .ok (.slice A4 4 c4) W) (s8 : ∀ W, (Instr.slice 22 (.slice (some ⟨b, off, none⟩) n c) (some (.int .i64 8)) (some (.int .i64 12)) none).run Try.prog W = .ok (.slice A8 4 c8) W) (s14 : ∀ W, (Instr.slice 22 (.slice (some ⟨b, off, none⟩) n c) (some (.int .i64 14)) (some (.int .i64 16)) none).run Try.prog W = .ok (.slice A14 2 c14) W) (s18 : ∀ W, (Instr.slice 22 (.slice (some ⟨b, off, none⟩) n c) (some (.int .i64 18)) (some (.int .i64 20)) none).run Try.prog W = .ok (.slice A18 2 c18) W) (bp0 : 0 ≤ p0 ∧ p0 ≤ 65535) (bp2 : 0 ≤ p2 ∧ p2 ≤ 65535) (bp4 : 0 ≤ p4 ∧ p4 ≤ 4294967295) (bp8 : 0 ≤ p8 ∧ p8 ≤ 4294967295) (bp14 : 0 ≤ p14 ∧ p14 ≤ 65535) (bp18 : 0 ≤ p18 ∧ p18 ≤ 65535) (i13 : (13 : Int) < (n : Int)) {y39 y40 y41 y43 y44 y45 y47 y48 y49 y51 y53 y54 y55 y56 y58 y60 y61 y62 y64 y65 y66 : Value} (M : Nat) (w : World) (X : Hid (SP w0 w [.blk N 70 (th0.cells (.slice none 0 0)), .blk M 70 (th0.cells (.slice none 0 0))])) (HQ : Hid (∀ (y39 y40 y41 y42 y43 y44 y45 y46 y47 y48 y49 y50 y51 y52 y53 y54 y55 y56 y57 y58 y59 y60 y61 y62 y63 y64 y65 y66 : Value) (M : Nat) (w' : World), SP w0 w' [.blk N 70 (th0.cells (.slice none 0 0)), .blk M 70 ((TH.mk p0 p2 p4 p8 z13 p14 p18).cells (.slice none 0 0))] → Q .normal ⟨#[.slice (some ⟨b, off, none⟩) n c, u1, u2, u3, u4, u5, .pointer (some ⟨M, 0, none⟩), u7, u8, u9, u10, u11, u12, u13, u14, u15, u16, u17, u18, u19, u20, u21, u22, u23, u24, u25, u26, u27, u28, u29, u30, u31, u32, u33, u34, u35, u36, u37, u38, y39, y40, y41, y42, y43, y44, y45, y46, y47, y48, y49, y50, y51, y52, y53, y54, y55, y56, y57, y58, y59, y60, y61, y62, y63, y64, y65, y66, u67, u68, u69, u70, u71, u72, u73, u74, u75, u76, u77, u78, u79, u80, u81, u82, u83, u84], []⟩ w')) :
    wpAnyH Try.prog .any (opsAt Try.f33 8) (NoPanic Q) (fun W => W.cell? ⟨b, off + 13, none⟩ = some (.int .u8 z13)) 8 #[true, true, true, true, true, true, true, true, true, true, true, true, true, true, false, false, true, true, true, true, true, false, false, true, true, false, false, false, true, false] ⟨#[.slice (some ⟨b, off, none⟩) n c, u1, u2, u3, u4, u5, .pointer (some ⟨M, 0, none⟩), u7, u8, u9, u10, u11, u12, u13, u14, u15, u16, u17, u18, u19, u20, u21, u22, u23, u24, u25, u26, u27, u28, u29, u30, u31, u32, u33, u34, u35, u36, u37, u38, y39, y40, y41, .int .u16 p0, y43, y44, y45, .int .u16 p2, y47, y48, y49, .int .u32 p4, y51, .slice A8 4 c8, y53, y54, y55, y56, .int .u8 z13, y58, .slice A14 2 c14, y60, y61, y62, .slice A18 2 c18, y64, y65, y66, u67, u68, u69, u70, u71, u72, u73, u74, u75, u76, u77, u78, u79, u80, u81, u82, u83, u84], []⟩ w := by
  have ep0 : IntKind.u16.wrap p0 = p0 := u16_in _ (by omega) (by omega)
  have ep2 : IntKind.u16.wrap p2 = p2 := u16_in _ (by omega) (by omega)
  have ep4 : IntKind.u32.wrap p4 = p4 := u32_in _ (by omega) (by omega)
  have ep8 : IntKind.u32.wrap p8 = p8 := u32_in _ (by omega) (by omega)
  have ep14 : IntKind.u16.wrap p14 = p14 := u16_in _ (by omega) (by omega)
  have ep18 : IntKind.u16.wrap p18 = p18 := u16_in _ (by omega) (by omega)
  have hHeld : (fun W => W.cell? ⟨b, off + 13, none⟩ = some (.int .u8 z13)) w := by exact CB13.out _ X.out.bel
  refine wpAnyH_ready (rs := [14]) (by kernel_rfl) (by simp) ?_
  refine cons_lit rfl (fun K hK => ?ss14x36) AllReadyH.nil
  case ss14x36 =>
    go_simp
    refine (HC8.out _ X.out.bel).mono ?_
    rintro e v ⟨rfl, rfl⟩
    have Y := Lib.hid (show SP w0 w [.blk N 70 (th0.cells (.slice none 0 0)), .blk M 70 (th0.cells (.slice none 0 0))] from X.out)
    refine hK.out _ _ (by exact CB13.out _ Y.out.bel) (fun hHeld => ?_)
    clear hK K
    (try simp only [Act.put]); (try simp only [List.setIfInBounds_toArray, List.set_cons_zero, List.set_cons_succ])
    refine' take_lit (i := 15) (v := _) rfl (by kernel_rfl) (by kernel_rfl) (by kernel_rfl) (fun _ _ _ h => h) (Or.inl ⟨by rfl, ?yy37⟩) (by assumption) ?rr37
    case yy37 => intro w' hSw; (try dsimp only at hSw); go_simp; try (with_reducible rfl)
    (try simp only [Act.put]); (try simp only [List.setIfInBounds_toArray, List.set_cons_zero, List.set_cons_succ])
    exact r8rd_10 w0 N b off n c p0 p2 p4 p8 p14 p18 z13 A0 c0 A2 c2 A4 c4 A8 c8 A14 c14 A18 c18 CB13 HC0 HC2 HC4 HC8 HC14 HC18 s0 s2 s4 s8 s14 s18 bp0 bp2 bp4 bp8 bp14 bp18 i13 M _ Y HQ

set_option maxHeartbeats 1000000 in
set_option maxRecDepth 100000 in
theorem r8rd_3 {u1 u2 u3 u4 u5 u7 u8 u9 u10 u11 u12 u13 u14 u15 u16 u17 u18 u19 u20 u21 u22 u23 u24 u25 u26 u27 u28 u29 u30 u31 u32 u33 u34 u35 u36 u37 u38 u67 u68 u69 u70 u71 u72 u73 u74 u75 u76 u77 u78 u79 u80 u81 u82 u83 u84 : Value} {Q : Exit → Act → World → Prop} (w0 : World) (N b off n c : Nat) (p0 p2 p4 p8 p14 p18 z13 : Int) (A0 : Option Addr) (c0 : Nat) (A2 : Option Addr) (c2 : Nat) (A4 : Option Addr) (c4 : Nat) (A8 : Option Addr) (c8 : Nat) (A14 : Option Addr) (c14 : Nat) (A18 : Option Addr) (c18 : Nat) (CB13 : Hid (∀ W, Below w0.heap.size w0 W → W.cell? ⟨b, off + 13, none⟩ = some (.int .u8 z13))) (HC0 : Hid (∀ W, Below w0.heap.size w0 W → Calls Try.prog 60 #[.slice A0 2 c0] W fun e w' => e = .returned (.int .i64 p0) ∧ W = w')) (HC2 : Hid (∀ W, Below w0.heap.size w0 W → Calls Try.prog 60 #[.slice A2 2 c2] W fun e w' => e = .returned (.int .i64 p2) ∧ W = w')) (HC4 : Hid (∀ W, Below w0.heap.size w0 W → Calls Try.prog 60 #[.slice A4 4 c4] W fun e w' => e = .returned (.int .i64 p4) ∧ W = w')) (HC8 : Hid (∀ W, Below w0.heap.size w0 W → Calls Try.prog 60 #[.slice A8 4 c8] W fun e w' => e = .returned (.int .i64 p8) ∧ W = w')) (HC14 : Hid (∀ W, Below w0.heap.size w0 W → Calls Try.prog 60 #[.slice A14 2 c14] W fun e w' => e = .returned (.int .i64 p14) ∧ W = w')) (HC18 : Hid (∀ W, Below w0.heap.size w0 W → Calls Try.prog 60 #[.slice A18 2 c18] W fun e w' => e = .returned (.int .i64 p18) ∧ W = w')) (s0 : ∀ W, (Instr.slice 22 (.slice (some ⟨b, off, none⟩) n c) (some (.int .i64 0)) (some (.int .i64 2)) none).run Try.prog W = .ok (.slice A0 2 c0) W) (s2 : ∀ W, (Instr.slice 22 (.slice (some ⟨b, off, none⟩) n c) (some (.int .i64 2)) (some (.int .i64 4)) none).run Try.prog W = .ok (.slice A2 2 c2) W) (s4 : ∀ W, (Instr.slice 22 (.slice (some ⟨b, off, none⟩) n c) (some (.int .i64 4)) (some (.int .i64 8)) none).run Try.prog W = .ok (.slice A4 4 c4) W) (s8 : ∀ W, (Instr.slice 22 (.slice (some ⟨b, off, none⟩) n c) (some (.int .i64 8)) (some (.int .i64 12)) none).run Try.prog W = .ok (.slice A8 4 c8) W) (s14 : ∀ W, (Instr.slice 22 (.slice (some ⟨b, off, none⟩) n c) (some (.int .i64 14)) (some (.int .i64 16)) none).run Try.prog W = .ok (.slice A14 2 c14) W) (s18 : ∀ W, (Instr.slice 22 (.slice (some ⟨b, off, none⟩) n c) (some (.int .i64 18)) (some (.int .i64 20)) none).run Try.prog W = .ok (.slice A18 2 c18) W) (bp0 : 0 ≤ p0 ∧ p0 ≤ 65535) (bp2 : 0 ≤ p2 ∧ p2 ≤ 65535) (bp4 : 0 ≤ p4 ∧ p4 ≤ 4294967295) (bp8 : 0 ≤ p8 ∧ p8 ≤ 4294967295) (bp14 : 0 ≤ p14 ∧ p14 ≤ 65535) (bp18 : 0 ≤ p18 ∧ p18 ≤ 65535) (i13 : (13 : Int) < (n : Int)) {y6 y39 y40 y41 y43 y44 y45 y47 y48 y49 y51 y53 y54 y55 y56 y58 y60 y61 y62 y64 y65 y66 : Value} (w : World) (X : Hid (SP w0 w [.blk N 70 (th0.cells (.slice none 0 0))])) (HQ : Hid (∀ (y39 y40 y41 y42 y43 y44 y45 y46 y47 y48 y49 y50 y51 y52 y53 y54 y55 y56 y57 y58 y59 y60 y61 y62 y63 y64 y65 y66 : Value) (M : Nat) (w' : World), SP w0 w' [.blk N 70 (th0.cells (.slice none 0 0)), .blk M 70 ((TH.mk p0 p2 p4 p8 z13 p14 p18).cells (.slice none 0 0))] → Q .normal ⟨#[.slice (some ⟨b, off, none⟩) n c, u1, u2, u3, u4, u5, .pointer (some ⟨M, 0, none⟩), u7, u8, u9, u10, u11, u12, u13, u14, u15, u16, u17, u18, u19, u20, u21, u22, u23, u24, u25, u26, u27, u28, u29, u30, u31, u32, u33, u34, u35, u36, u37, u38, y39, y40, y41, y42, y43, y44, y45, y46, y47, y48, y49, y50, y51, y52, y53, y54, y55, y56, y57, y58, y59, y60, y61, y62, y63, y64, y65, y66, u67, u68, u69, u70, u71, u72, u73, u74, u75, u76, u77, u78, u79, u80, u81, u82, u83, u84], []⟩ w')) :
    wpAnyH Try.prog .any (opsAt Try.f33 8) (NoPanic Q) (fun W => W.cell? ⟨b, off + 13, none⟩ = some (.int .u8 z13)) 9 #[true, true, true, true, true, true, true, true, true, true, true, true, true, true, false, false, true, true, true, true, true, false, false, true, true, false, false, false, false, false] ⟨#[.slice (some ⟨b, off, none⟩) n c, u1, u2, u3, u4, u5, y6, u7, u8, u9, u10, u11, u12, u13, u14, u15, u16, u17, u18, u19, u20, u21, u22, u23, u24, u25, u26, u27, u28, u29, u30, u31, u32, u33, u34, u35, u36, u37, u38, y39, y40, y41, .int .u16 p0, y43, y44, y45, .int .u16 p2, y47, y48, y49, .int .u32 p4, y51, .slice A8 4 c8, y53, y54, y55, y56, .int .u8 z13, y58, .slice A14 2 c14, y60, y61, y62, .slice A18 2 c18, y64, y65, y66, u67, u68, u69, u70, u71, u72, u73, u74, u75, u76, u77, u78, u79, u80, u81, u82, u83, u84], []⟩ w := by
  have ep0 : IntKind.u16.wrap p0 = p0 := u16_in _ (by omega) (by omega)
  have ep2 : IntKind.u16.wrap p2 = p2 := u16_in _ (by omega) (by omega)
  have ep4 : IntKind.u32.wrap p4 = p4 := u32_in _ (by omega) (by omega)
  have ep8 : IntKind.u32.wrap p8 = p8 := u32_in _ (by omega) (by omega)
  have ep14 : IntKind.u16.wrap p14 = p14 := u16_in _ (by omega) (by omega)
  have ep18 : IntKind.u16.wrap p18 = p18 := u16_in _ (by omega) (by omega)
  have hHeld : (fun W => W.cell? ⟨b, off + 13, none⟩ = some (.int .u8 z13)) w := by exact CB13.out _ X.out.bel
  refine wpAnyH_ready (rs := [14, 28]) (by kernel_rfl) (by simp) ?_
  refine cons_lit rfl (fun K hK => ?ss14x22) (cons_lit rfl (fun K hK => ?ss28x22) AllReadyH.nil)
  case ss14x22 =>
    go_simp
    refine (HC8.out _ X.out.bel).mono ?_
    rintro e v ⟨rfl, rfl⟩
    have Y := Lib.hid (show SP w0 w [.blk N 70 (th0.cells (.slice none 0 0))] from X.out)
    refine hK.out _ _ (by exact CB13.out _ Y.out.bel) (fun hHeld => ?_)
    clear hK K
    (try simp only [Act.put]); (try simp only [List.setIfInBounds_toArray, List.set_cons_zero, List.set_cons_succ])
    refine' take_lit (i := 15) (v := _) rfl (by kernel_rfl) (by kernel_rfl) (by kernel_rfl) (fun _ _ _ h => h) (Or.inl ⟨by rfl, ?yy23⟩) (by assumption) ?rr23
    case yy23 => intro w' hSw; (try dsimp only at hSw); go_simp; try (with_reducible rfl)
    (try simp only [Act.put]); (try simp only [List.setIfInBounds_toArray, List.set_cons_zero, List.set_cons_succ])
    exact r8rd_4 w0 N b off n c p0 p2 p4 p8 p14 p18 z13 A0 c0 A2 c2 A4 c4 A8 c8 A14 c14 A18 c18 CB13 HC0 HC2 HC4 HC8 HC14 HC18 s0 s2 s4 s8 s14 s18 bp0 bp2 bp4 bp8 bp14 bp18 i13  _ Y HQ
  case ss28x22 =>
    go_simp
    obtain ⟨M, hM⟩ : ∃ g, g = w.heap.size := ⟨_, rfl⟩
    rw [← hM]
    refine nameW' (fun v hv => ?_)
    have Y := Lib.hid (show SP w0 v [.blk N 70 (th0.cells (.slice none 0 0)), .blk M 70 (th0.cells (.slice none 0 0))] by rw [hv, hM]; exact X.out.alloc 70 (th0.cells (.slice none 0 0)))
    clear hv hM
    refine hK.out _ _ (by exact CB13.out _ Y.out.bel) (fun hHeld => ?_)
    clear hK K
    (try simp only [Act.put]); (try simp only [List.setIfInBounds_toArray, List.set_cons_zero, List.set_cons_succ])
    exact r8rd_11 w0 N b off n c p0 p2 p4 p8 p14 p18 z13 A0 c0 A2 c2 A4 c4 A8 c8 A14 c14 A18 c18 CB13 HC0 HC2 HC4 HC8 HC14 HC18 s0 s2 s4 s8 s14 s18 bp0 bp2 bp4 bp8 bp14 bp18 i13 M _ Y HQ

set_option maxHeartbeats 1000000 in
set_option maxRecDepth 100000 in
theorem r8rd_12 {u1 u2 u3 u4 u5 u7 u8 u9 u10 u11 u12 u13 u14 u15 u16 u17 u18 u19 u20 u21 u22 u23 u24 u25 u26 u27 u28 u29 u30 u31 u32 u33 u34 u35 u36 u37 u38 u67 u68 u69 u70 u71 u72 u73 u74 u75 u76 u77 u78 u79 u80 u81 u82 u83 u84 : Value} {Q : Exit → Act → World → Prop} (w0 : World) (N b off n c : Nat) (p0 p2 p4 p8 p14 p18 z13 : Int) (A0 : Option Addr) (c0 : Nat) (A2 : Option Addr) (c2 : Nat) (A4 : Option Addr) (c4 : Nat) (A8 : Option Addr) (c8 : Nat) (A14 : Option Addr) (c14 : Nat) (A18 : Option Addr) (c18 : Nat) (CB13 : Hid (∀ W, Below w0.heap.size w0 W → W.cell? ⟨b, off + 13, none⟩ = some (.int .u8 z13))) (HC0 : Hid (∀ W, Below w0.heap.size w0 W → Calls Try.prog 60 #[.slice A0 2 c0] W fun e w' => e = .returned (.int .i64 p0) ∧ W = w')) (HC2 : Hid (∀ W, Below w0.heap.size w0 W → Calls Try.prog 60 #[.slice A2 2 c2] W fun e w' => e = .returned (.int .i64 p2) ∧ W = w')) (HC4 : Hid (∀ W, Below w0.heap.size w0 W → Calls Try.prog 60 #[.slice A4 4 c4] W fun e w' => e = .returned (.int .i64 p4) ∧ W = w')) (HC8 : Hid (∀ W, Below w0.heap.size w0 W → Calls Try.prog 60 #[.slice A8 4 c8] W fun e w' => e = .returned (.int .i64 p8) ∧ W = w')) (HC14 : Hid (∀ W, Below w0.heap.size w0 W → Calls Try.prog 60 #[.slice A14 2 c14] W fun e w' => e = .returned (.int .i64 p14) ∧ W = w')) (HC18 : Hid (∀ W, Below w0.heap.size w0 W → Calls Try.prog 60 #[.slice A18 2 c18] W fun e w' => e = .returned (.int .i64 p18) ∧ W = w')) (s0 : ∀ W, (Instr.slice 22 (.slice (some ⟨b, off, none⟩) n c) (some (.int .i64 0)) (some (.int .i64 2)) none).run Try.prog W = .ok (.slice A0 2 c0) W) (s2 : ∀ W, (Instr.slice 22 (.slice (some ⟨b, off, none⟩) n c) (some (.int .i64 2)) (some (.int .i64 4)) none).run Try.prog W = .ok (.slice A2 2 c2) W) (s4 : ∀ W, (Instr.slice 22 (.slice (some ⟨b, off, none⟩) n c) (some (.int .i64 4)) (some (.int .i64 8)) none).run Try.prog W = .ok (.slice A4 4 c4) W) (s8 : ∀ W, (Instr.slice 22 (.slice (some ⟨b, off, none⟩) n c) (some (.int .i64 8)) (some (.int .i64 12)) none).run Try.prog W = .ok (.slice A8 4 c8) W) (s14 : ∀ W, (Instr.slice 22 (.slice (some ⟨b, off, none⟩) n c) (some (.int .i64 14)) (some (.int .i64 16)) none).run Try.prog W = .ok (.slice A14 2 c14) W) (s18 : ∀ W, (Instr.slice 22 (.slice (some ⟨b, off, none⟩) n c) (some (.int .i64 18)) (some (.int .i64 20)) none).run Try.prog W = .ok (.slice A18 2 c18) W) (bp0 : 0 ≤ p0 ∧ p0 ≤ 65535) (bp2 : 0 ≤ p2 ∧ p2 ≤ 65535) (bp4 : 0 ≤ p4 ∧ p4 ≤ 4294967295) (bp8 : 0 ≤ p8 ∧ p8 ≤ 4294967295) (bp14 : 0 ≤ p14 ∧ p14 ≤ 65535) (bp18 : 0 ≤ p18 ∧ p18 ≤ 65535) (i13 : (13 : Int) < (n : Int)) {y39 y40 y41 y43 y44 y45 y47 y49 y50 y51 y53 y54 y55 y56 y58 y60 y61 y62 y64 y65 y66 : Value} (M : Nat) (w : World) (X : Hid (SP w0 w [.blk N 70 (th0.cells (.slice none 0 0)), .blk M 70 (th0.cells (.slice none 0 0))])) (HQ : Hid (∀ (y39 y40 y41 y42 y43 y44 y45 y46 y47 y48 y49 y50 y51 y52 y53 y54 y55 y56 y57 y58 y59 y60 y61 y62 y63 y64 y65 y66 : Value) (M : Nat) (w' : World), SP w0 w' [.blk N 70 (th0.cells (.slice none 0 0)), .blk M 70 ((TH.mk p0 p2 p4 p8 z13 p14 p18).cells (.slice none 0 0))] → Q .normal ⟨#[.slice (some ⟨b, off, none⟩) n c, u1, u2, u3, u4, u5, .pointer (some ⟨M, 0, none⟩), u7, u8, u9, u10, u11, u12, u13, u14, u15, u16, u17, u18, u19, u20, u21, u22, u23, u24, u25, u26, u27, u28, u29, u30, u31, u32, u33, u34, u35, u36, u37, u38, y39, y40, y41, y42, y43, y44, y45, y46, y47, y48, y49, y50, y51, y52, y53, y54, y55, y56, y57, y58, y59, y60, y61, y62, y63, y64, y65, y66, u67, u68, u69, u70, u71, u72, u73, u74, u75, u76, u77, u78, u79, u80, u81, u82, u83, u84], []⟩ w')) :
    wpAnyH Try.prog .any (opsAt Try.f33 8) (NoPanic Q) (fun W => W.cell? ⟨b, off + 13, none⟩ = some (.int .u8 z13)) 10 #[true, true, true, true, true, true, true, true, true, true, false, false, true, true, false, false, true, true, true, true, true, false, false, true, true, false, false, false, true, false] ⟨#[.slice (some ⟨b, off, none⟩) n c, u1, u2, u3, u4, u5, .pointer (some ⟨M, 0, none⟩), u7, u8, u9, u10, u11, u12, u13, u14, u15, u16, u17, u18, u19, u20, u21, u22, u23, u24, u25, u26, u27, u28, u29, u30, u31, u32, u33, u34, u35, u36, u37, u38, y39, y40, y41, .int .u16 p0, y43, y44, y45, .int .u16 p2, y47, .slice A4 4 c4, y49, y50, y51, .slice A8 4 c8, y53, y54, y55, y56, .int .u8 z13, y58, .slice A14 2 c14, y60, y61, y62, .slice A18 2 c18, y64, y65, y66, u67, u68, u69, u70, u71, u72, u73, u74, u75, u76, u77, u78, u79, u80, u81, u82, u83, u84], []⟩ w := by
  have ep0 : IntKind.u16.wrap p0 = p0 := u16_in _ (by omega) (by omega)
  have ep2 : IntKind.u16.wrap p2 = p2 := u16_in _ (by omega) (by omega)
  have ep4 : IntKind.u32.wrap p4 = p4 := u32_in _ (by omega) (by omega)
  have ep8 : IntKind.u32.wrap p8 = p8 := u32_in _ (by omega) (by omega)
  have ep14 : IntKind.u16.wrap p14 = p14 := u16_in _ (by omega) (by omega)
  have ep18 : IntKind.u16.wrap p18 = p18 := u16_in _ (by omega) (by omega)
  have hHeld : (fun W => W.cell? ⟨b, off + 13, none⟩ = some (.int .u8 z13)) w := by exact CB13.out _ X.out.bel
  refine wpAnyH_ready (rs := [10]) (by kernel_rfl) (by simp) ?_
  refine cons_lit rfl (fun K hK => ?ss10x38) AllReadyH.nil
  case ss10x38 =>
    go_simp
    refine (HC4.out _ X.out.bel).mono ?_
    rintro e v ⟨rfl, rfl⟩
    have Y := Lib.hid (show SP w0 w [.blk N 70 (th0.cells (.slice none 0 0)), .blk M 70 (th0.cells (.slice none 0 0))] from X.out)
    refine hK.out _ _ (by exact CB13.out _ Y.out.bel) (fun hHeld => ?_)
    clear hK K
    (try simp only [Act.put]); (try simp only [List.setIfInBounds_toArray, List.set_cons_zero, List.set_cons_succ])
    refine' take_lit (i := 11) (v := _) rfl (by kernel_rfl) (by kernel_rfl) (by kernel_rfl) (fun _ _ _ h => h) (Or.inl ⟨by rfl, ?yy39⟩) (by assumption) ?rr39
    case yy39 => intro w' hSw; (try dsimp only at hSw); go_simp; try (with_reducible rfl)
    (try simp only [Act.put]); (try simp only [List.setIfInBounds_toArray, List.set_cons_zero, List.set_cons_succ])
    exact r8rd_11 w0 N b off n c p0 p2 p4 p8 p14 p18 z13 A0 c0 A2 c2 A4 c4 A8 c8 A14 c14 A18 c18 CB13 HC0 HC2 HC4 HC8 HC14 HC18 s0 s2 s4 s8 s14 s18 bp0 bp2 bp4 bp8 bp14 bp18 i13 M _ Y HQ

set_option maxHeartbeats 1000000 in
set_option maxRecDepth 100000 in
theorem r8rd_2 {u1 u2 u3 u4 u5 u7 u8 u9 u10 u11 u12 u13 u14 u15 u16 u17 u18 u19 u20 u21 u22 u23 u24 u25 u26 u27 u28 u29 u30 u31 u32 u33 u34 u35 u36 u37 u38 u67 u68 u69 u70 u71 u72 u73 u74 u75 u76 u77 u78 u79 u80 u81 u82 u83 u84 : Value} {Q : Exit → Act → World → Prop} (w0 : World) (N b off n c : Nat) (p0 p2 p4 p8 p14 p18 z13 : Int) (A0 : Option Addr) (c0 : Nat) (A2 : Option Addr) (c2 : Nat) (A4 : Option Addr) (c4 : Nat) (A8 : Option Addr) (c8 : Nat) (A14 : Option Addr) (c14 : Nat) (A18 : Option Addr) (c18 : Nat) (CB13 : Hid (∀ W, Below w0.heap.size w0 W → W.cell? ⟨b, off + 13, none⟩ = some (.int .u8 z13))) (HC0 : Hid (∀ W, Below w0.heap.size w0 W → Calls Try.prog 60 #[.slice A0 2 c0] W fun e w' => e = .returned (.int .i64 p0) ∧ W = w')) (HC2 : Hid (∀ W, Below w0.heap.size w0 W → Calls Try.prog 60 #[.slice A2 2 c2] W fun e w' => e = .returned (.int .i64 p2) ∧ W = w')) (HC4 : Hid (∀ W, Below w0.heap.size w0 W → Calls Try.prog 60 #[.slice A4 4 c4] W fun e w' => e = .returned (.int .i64 p4) ∧ W = w')) (HC8 : Hid (∀ W, Below w0.heap.size w0 W → Calls Try.prog 60 #[.slice A8 4 c8] W fun e w' => e = .returned (.int .i64 p8) ∧ W = w')) (HC14 : Hid (∀ W, Below w0.heap.size w0 W → Calls Try.prog 60 #[.slice A14 2 c14] W fun e w' => e = .returned (.int .i64 p14) ∧ W = w')) (HC18 : Hid (∀ W, Below w0.heap.size w0 W → Calls Try.prog 60 #[.slice A18 2 c18] W fun e w' => e = .returned (.int .i64 p18) ∧ W = w')) (s0 : ∀ W, (Instr.slice 22 (.slice (some ⟨b, off, none⟩) n c) (some (.int .i64 0)) (some (.int .i64 2)) none).run Try.prog W = .ok (.slice A0 2 c0) W) (s2 : ∀ W, (Instr.slice 22 (.slice (some ⟨b, off, none⟩) n c) (some (.int .i64 2)) (some (.int .i64 4)) none).run Try.prog W = .ok (.slice A2 2 c2) W) (s4 : ∀ W, (Instr.slice 22 (.slice (some ⟨b, off, none⟩) n c) (some (.int .i64 4)) (some (.int .i64 8)) none).run Try.prog W = .ok (.slice A4 4 c4) W) (s8 : ∀ W, (Instr.slice 22 (.slice (some ⟨b, off, none⟩) n c) (some (.int .i64 8)) (some (.int .i64 12)) none).run Try.prog W = .ok (.slice A8 4 c8) W) (s14 : ∀ W, (Instr.slice 22 (.slice (some ⟨b, off, none⟩) n c) (some (.int .i64 14)) (some (.int .i64 16)) none).run Try.prog W = .ok (.slice A14 2 c14) W) (s18 : ∀ W, (Instr.slice 22 (.slice (some ⟨b, off, none⟩) n c) (some (.int .i64 18)) (some (.int .i64 20)) none).run Try.prog W = .ok (.slice A18 2 c18) W) (bp0 : 0 ≤ p0 ∧ p0 ≤ 65535) (bp2 : 0 ≤ p2 ∧ p2 ≤ 65535) (bp4 : 0 ≤ p4 ∧ p4 ≤ 4294967295) (bp8 : 0 ≤ p8 ∧ p8 ≤ 4294967295) (bp14 : 0 ≤ p14 ∧ p14 ≤ 65535) (bp18 : 0 ≤ p18 ∧ p18 ≤ 65535) (i13 : (13 : Int) < (n : Int)) {y6 y39 y40 y41 y43 y44 y45 y47 y49 y50 y51 y53 y54 y55 y56 y58 y60 y61 y62 y64 y65 y66 : Value} (w : World) (X : Hid (SP w0 w [.blk N 70 (th0.cells (.slice none 0 0))])) (HQ : Hid (∀ (y39 y40 y41 y42 y43 y44 y45 y46 y47 y48 y49 y50 y51 y52 y53 y54 y55 y56 y57 y58 y59 y60 y61 y62 y63 y64 y65 y66 : Value) (M : Nat) (w' : World), SP w0 w' [.blk N 70 (th0.cells (.slice none 0 0)), .blk M 70 ((TH.mk p0 p2 p4 p8 z13 p14 p18).cells (.slice none 0 0))] → Q .normal ⟨#[.slice (some ⟨b, off, none⟩) n c, u1, u2, u3, u4, u5, .pointer (some ⟨M, 0, none⟩), u7, u8, u9, u10, u11, u12, u13, u14, u15, u16, u17, u18, u19, u20, u21, u22, u23, u24, u25, u26, u27, u28, u29, u30, u31, u32, u33, u34, u35, u36, u37, u38, y39, y40, y41, y42, y43, y44, y45, y46, y47, y48, y49, y50, y51, y52, y53, y54, y55, y56, y57, y58, y59, y60, y61, y62, y63, y64, y65, y66, u67, u68, u69, u70, u71, u72, u73, u74, u75, u76, u77, u78, u79, u80, u81, u82, u83, u84], []⟩ w')) :
    wpAnyH Try.prog .any (opsAt Try.f33 8) (NoPanic Q) (fun W => W.cell? ⟨b, off + 13, none⟩ = some (.int .u8 z13)) 11 #[true, true, true, true, true, true, true, true, true, true, false, false, true, true, false, false, true, true, true, true, true, false, false, true, true, false, false, false, false, false] ⟨#[.slice (some ⟨b, off, none⟩) n c, u1, u2, u3, u4, u5, y6, u7, u8, u9, u10, u11, u12, u13, u14, u15, u16, u17, u18, u19, u20, u21, u22, u23, u24, u25, u26, u27, u28, u29, u30, u31, u32, u33, u34, u35, u36, u37, u38, y39, y40, y41, .int .u16 p0, y43, y44, y45, .int .u16 p2, y47, .slice A4 4 c4, y49, y50, y51, .slice A8 4 c8, y53, y54, y55, y56, .int .u8 z13, y58, .slice A14 2 c14, y60, y61, y62, .slice A18 2 c18, y64, y65, y66, u67, u68, u69, u70, u71, u72, u73, u74, u75, u76, u77, u78, u79, u80, u81, u82, u83, u84], []⟩ w := by
  have ep0 : IntKind.u16.wrap p0 = p0 := u16_in _ (by omega) (by omega)
  have ep2 : IntKind.u16.wrap p2 = p2 := u16_in _ (by omega) (by omega)
  have ep4 : IntKind.u32.wrap p4 = p4 := u32_in _ (by omega) (by omega)
  have ep8 : IntKind.u32.wrap p8 = p8 := u32_in _ (by omega) (by omega)
  have ep14 : IntKind.u16.wrap p14 = p14 := u16_in _ (by omega) (by omega)
  have ep18 : IntKind.u16.wrap p18 = p18 := u16_in _ (by omega) (by omega)
  have hHeld : (fun W => W.cell? ⟨b, off + 13, none⟩ = some (.int .u8 z13)) w := by exact CB13.out _ X.out.bel
  refine wpAnyH_ready (rs := [10, 28]) (by kernel_rfl) (by simp) ?_
  refine cons_lit rfl (fun K hK => ?ss10x20) (cons_lit rfl (fun K hK => ?ss28x20) AllReadyH.nil)
  case ss10x20 =>
    go_simp
    refine (HC4.out _ X.out.bel).mono ?_
    rintro e v ⟨rfl, rfl⟩
    have Y := Lib.hid (show SP w0 w [.blk N 70 (th0.cells (.slice none 0 0))] from X.out)
    refine hK.out _ _ (by exact CB13.out _ Y.out.bel) (fun hHeld => ?_)
    clear hK K
    (try simp only [Act.put]); (try simp only [List.setIfInBounds_toArray, List.set_cons_zero, List.set_cons_succ])
    refine' take_lit (i := 11) (v := _) rfl (by kernel_rfl) (by kernel_rfl) (by kernel_rfl) (fun _ _ _ h => h) (Or.inl ⟨by rfl, ?yy21⟩) (by assumption) ?rr21
    case yy21 => intro w' hSw; (try dsimp only at hSw); go_simp; try (with_reducible rfl)
    (try simp only [Act.put]); (try simp only [List.setIfInBounds_toArray, List.set_cons_zero, List.set_cons_succ])
    exact r8rd_3 w0 N b off n c p0 p2 p4 p8 p14 p18 z13 A0 c0 A2 c2 A4 c4 A8 c8 A14 c14 A18 c18 CB13 HC0 HC2 HC4 HC8 HC14 HC18 s0 s2 s4 s8 s14 s18 bp0 bp2 bp4 bp8 bp14 bp18 i13  _ Y HQ
  case ss28x20 =>
    go_simp
    obtain ⟨M, hM⟩ : ∃ g, g = w.heap.size := ⟨_, rfl⟩
    rw [← hM]
    refine nameW' (fun v hv => ?_)
    have Y := Lib.hid (show SP w0 v [.blk N 70 (th0.cells (.slice none 0 0)), .blk M 70 (th0.cells (.slice none 0 0))] by rw [hv, hM]; exact X.out.alloc 70 (th0.cells (.slice none 0 0)))
    clear hv hM
    refine hK.out _ _ (by exact CB13.out _ Y.out.bel) (fun hHeld => ?_)
    clear hK K
    (try simp only [Act.put]); (try simp only [List.setIfInBounds_toArray, List.set_cons_zero, List.set_cons_succ])
    exact r8rd_12 w0 N b off n c p0 p2 p4 p8 p14 p18 z13 A0 c0 A2 c2 A4 c4 A8 c8 A14 c14 A18 c18 CB13 HC0 HC2 HC4 HC8 HC14 HC18 s0 s2 s4 s8 s14 s18 bp0 bp2 bp4 bp8 bp14 bp18 i13 M _ Y HQ

set_option maxHeartbeats 1000000 in
set_option maxRecDepth 100000 in
theorem r8rd_13 {u1 u2 u3 u4 u5 u7 u8 u9 u10 u11 u12 u13 u14 u15 u16 u17 u18 u19 u20 u21 u22 u23 u24 u25 u26 u27 u28 u29 u30 u31 u32 u33 u34 u35 u36 u37 u38 u67 u68 u69 u70 u71 u72 u73 u74 u75 u76 u77 u78 u79 u80 u81 u82 u83 u84 : Value} {Q : Exit → Act → World → Prop} (w0 : World) (N b off n c : Nat) (p0 p2 p4 p8 p14 p18 z13 : Int) (A0 : Option Addr) (c0 : Nat) (A2 : Option Addr) (c2 : Nat) (A4 : Option Addr) (c4 : Nat) (A8 : Option Addr) (c8 : Nat) (A14 : Option Addr) (c14 : Nat) (A18 : Option Addr) (c18 : Nat) (CB13 : Hid (∀ W, Below w0.heap.size w0 W → W.cell? ⟨b, off + 13, none⟩ = some (.int .u8 z13))) (HC0 : Hid (∀ W, Below w0.heap.size w0 W → Calls Try.prog 60 #[.slice A0 2 c0] W fun e w' => e = .returned (.int .i64 p0) ∧ W = w')) (HC2 : Hid (∀ W, Below w0.heap.size w0 W → Calls Try.prog 60 #[.slice A2 2 c2] W fun e w' => e = .returned (.int .i64 p2) ∧ W = w')) (HC4 : Hid (∀ W, Below w0.heap.size w0 W → Calls Try.prog 60 #[.slice A4 4 c4] W fun e w' => e = .returned (.int .i64 p4) ∧ W = w')) (HC8 : Hid (∀ W, Below w0.heap.size w0 W → Calls Try.prog 60 #[.slice A8 4 c8] W fun e w' => e = .returned (.int .i64 p8) ∧ W = w')) (HC14 : Hid (∀ W, Below w0.heap.size w0 W → Calls Try.prog 60 #[.slice A14 2 c14] W fun e w' => e = .returned (.int .i64 p14) ∧ W = w')) (HC18 : Hid (∀ W, Below w0.heap.size w0 W → Calls Try.prog 60 #[.slice A18 2 c18] W fun e w' => e = .returned (.int .i64 p18) ∧ W = w')) (s0 : ∀ W, (Instr.slice 22 (.slice (some ⟨b, off, none⟩) n c) (some (.int .i64 0)) (some (.int .i64 2)) none).run Try.prog W = .ok (.slice A0 2 c0) W) (s2 : ∀ W, (Instr.slice 22 (.slice (some ⟨b, off, none⟩) n c) (some (.int .i64 2)) (some (.int .i64 4)) none).run Try.prog W = .ok (.slice A2 2 c2) W) (s4 : ∀ W, (Instr.slice 22 (.slice (some ⟨b, off, none⟩) n c) (some (.int .i64 4)) (some (.int .i64 8)) none).run Try.prog W = .ok (.slice A4 4 c4) W) (s8 : ∀ W, (Instr.slice 22 (.slice (some ⟨b, off, none⟩) n c) (some (.int .i64 8)) (some (.int .i64 12)) none).run Try.prog W = .ok (.slice A8 4 c8) W) (s14 : ∀ W, (Instr.slice 22 (.slice (some ⟨b, off, none⟩) n c) (some (.int .i64 14)) (some (.int .i64 16)) none).run Try.prog W = .ok (.slice A14 2 c14) W) (s18 : ∀ W, (Instr.slice 22 (.slice (some ⟨b, off, none⟩) n c) (some (.int .i64 18)) (some (.int .i64 20)) none).run Try.prog W = .ok (.slice A18 2 c18) W) (bp0 : 0 ≤ p0 ∧ p0 ≤ 65535) (bp2 : 0 ≤ p2 ∧ p2 ≤ 65535) (bp4 : 0 ≤ p4 ∧ p4 ≤ 4294967295) (bp8 : 0 ≤ p8 ∧ p8 ≤ 4294967295) (bp14 : 0 ≤ p14 ∧ p14 ≤ 65535) (bp18 : 0 ≤ p18 ∧ p18 ≤ 65535) (i13 : (13 : Int) < (n : Int)) {y39 y40 y41 y43 y45 y46 y47 y49 y50 y51 y53 y54 y55 y56 y58 y60 y61 y62 y64 y65 y66 : Value} (M : Nat) (w : World) (X : Hid (SP w0 w [.blk N 70 (th0.cells (.slice none 0 0)), .blk M 70 (th0.cells (.slice none 0 0))])) (HQ : Hid (∀ (y39 y40 y41 y42 y43 y44 y45 y46 y47 y48 y49 y50 y51 y52 y53 y54 y55 y56 y57 y58 y59 y60 y61 y62 y63 y64 y65 y66 : Value) (M : Nat) (w' : World), SP w0 w' [.blk N 70 (th0.cells (.slice none 0 0)), .blk M 70 ((TH.mk p0 p2 p4 p8 z13 p14 p18).cells (.slice none 0 0))] → Q .normal ⟨#[.slice (some ⟨b, off, none⟩) n c, u1, u2, u3, u4, u5, .pointer (some ⟨M, 0, none⟩), u7, u8, u9, u10, u11, u12, u13, u14, u15, u16, u17, u18, u19, u20, u21, u22, u23, u24, u25, u26, u27, u28, u29, u30, u31, u32, u33, u34, u35, u36, u37, u38, y39, y40, y41, y42, y43, y44, y45, y46, y47, y48, y49, y50, y51, y52, y53, y54, y55, y56, y57, y58, y59, y60, y61, y62, y63, y64, y65, y66, u67, u68, u69, u70, u71, u72, u73, u74, u75, u76, u77, u78, u79, u80, u81, u82, u83, u84], []⟩ w')) :
    wpAnyH Try.prog .any (opsAt Try.f33 8) (NoPanic Q) (fun W => W.cell? ⟨b, off + 13, none⟩ = some (.int .u8 z13)) 12 #[true, true, true, true, true, true, false, false, true, true, false, false, true, true, false, false, true, true, true, true, true, false, false, true, true, false, false, false, true, false] ⟨#[.slice (some ⟨b, off, none⟩) n c, u1, u2, u3, u4, u5, .pointer (some ⟨M, 0, none⟩), u7, u8, u9, u10, u11, u12, u13, u14, u15, u16, u17, u18, u19, u20, u21, u22, u23, u24, u25, u26, u27, u28, u29, u30, u31, u32, u33, u34, u35, u36, u37, u38, y39, y40, y41, .int .u16 p0, y43, .slice A2 2 c2, y45, y46, y47, .slice A4 4 c4, y49, y50, y51, .slice A8 4 c8, y53, y54, y55, y56, .int .u8 z13, y58, .slice A14 2 c14, y60, y61, y62, .slice A18 2 c18, y64, y65, y66, u67, u68, u69, u70, u71, u72, u73, u74, u75, u76, u77, u78, u79, u80, u81, u82, u83, u84], []⟩ w := by
  have ep0 : IntKind.u16.wrap p0 = p0 := u16_in _ (by omega) (by omega)
  have ep2 : IntKind.u16.wrap p2 = p2 := u16_in _ (by omega) (by omega)
  have ep4 : IntKind.u32.wrap p4 = p4 := u32_in _ (by omega) (by omega)
  have ep8 : IntKind.u32.wrap p8 = p8 := u32_in _ (by omega) (by omega)
  have ep14 : IntKind.u16.wrap p14 = p14 := u16_in _ (by omega) (by omega)
  have ep18 : IntKind.u16.wrap p18 = p18 := u16_in _ (by omega) (by omega)
  have hHeld : (fun W => W.cell? ⟨b, off + 13, none⟩ = some (.int .u8 z13)) w := by exact CB13.out _ X.out.bel
  refine wpAnyH_ready (rs := [6]) (by kernel_rfl) (by simp) ?_
  refine cons_lit rfl (fun K hK => ?ss6x40) AllReadyH.nil
  case ss6x40 =>
    go_simp
    refine (HC2.out _ X.out.bel).mono ?_
    rintro e v ⟨rfl, rfl⟩
    have Y := Lib.hid (show SP w0 w [.blk N 70 (th0.cells (.slice none 0 0)), .blk M 70 (th0.cells (.slice none 0 0))] from X.out)
    refine hK.out _ _ (by exact CB13.out _ Y.out.bel) (fun hHeld => ?_)
    clear hK K
    (try simp only [Act.put]); (try simp only [List.setIfInBounds_toArray, List.set_cons_zero, List.set_cons_succ])
    refine' take_lit (i := 7) (v := _) rfl (by kernel_rfl) (by kernel_rfl) (by kernel_rfl) (fun _ _ _ h => h) (Or.inl ⟨by rfl, ?yy41⟩) (by assumption) ?rr41
    case yy41 => intro w' hSw; (try dsimp only at hSw); go_simp; try (with_reducible rfl)
    (try simp only [Act.put]); (try simp only [List.setIfInBounds_toArray, List.set_cons_zero, List.set_cons_succ])
    exact r8rd_12 w0 N b off n c p0 p2 p4 p8 p14 p18 z13 A0 c0 A2 c2 A4 c4 A8 c8 A14 c14 A18 c18 CB13 HC0 HC2 HC4 HC8 HC14 HC18 s0 s2 s4 s8 s14 s18 bp0 bp2 bp4 bp8 bp14 bp18 i13 M _ Y HQ

set_option maxHeartbeats 1000000 in
set_option maxRecDepth 100000 in
theorem r8rd_1 {u1 u2 u3 u4 u5 u7 u8 u9 u10 u11 u12 u13 u14 u15 u16 u17 u18 u19 u20 u21 u22 u23 u24 u25 u26 u27 u28 u29 u30 u31 u32 u33 u34 u35 u36 u37 u38 u67 u68 u69 u70 u71 u72 u73 u74 u75 u76 u77 u78 u79 u80 u81 u82 u83 u84 : Value} {Q : Exit → Act → World → Prop} (w0 : World) (N b off n c : Nat) (p0 p2 p4 p8 p14 p18 z13 : Int) (A0 : Option Addr) (c0 : Nat) (A2 : Option Addr) (c2 : Nat) (A4 : Option Addr) (c4 : Nat) (A8 : Option Addr) (c8 : Nat) (A14 : Option Addr) (c14 : Nat) (A18 : Option Addr) (c18 : Nat) (CB13 : Hid (∀ W, Below w0.heap.size w0 W → W.cell? ⟨b, off + 13, none⟩ = some (.int .u8 z13))) (HC0 : Hid (∀ W, Below w0.heap.size w0 W → Calls Try.prog 60 #[.slice A0 2 c0] W fun e w' => e = .returned (.int .i64 p0) ∧ W = w')) (HC2 : Hid (∀ W, Below w0.heap.size w0 W → Calls Try.prog 60 #[.slice A2 2 c2] W fun e w' => e = .returned (.int .i64 p2) ∧ W = w')) (HC4 : Hid (∀ W, Below w0.heap.size w0 W → Calls Try.prog 60 #[.slice A4 4 c4] W fun e w' => e = .returned (.int .i64 p4) ∧ W = w')) (HC8 : Hid (∀ W, Below w0.heap.size w0 W → Calls Try.prog 60 #[.slice A8 4 c8] W fun e w' => e = .returned (.int .i64 p8) ∧ W = w')) (HC14 : Hid (∀ W, Below w0.heap.size w0 W → Calls Try.prog 60 #[.slice A14 2 c14] W fun e w' => e = .returned (.int .i64 p14) ∧ W = w')) (HC18 : Hid (∀ W, Below w0.heap.size w0 W → Calls Try.prog 60 #[.slice A18 2 c18] W fun e w' => e = .returned (.int .i64 p18) ∧ W = w')) (s0 : ∀ W, (Instr.slice 22 (.slice (some ⟨b, off, none⟩) n c) (some (.int .i64 0)) (some (.int .i64 2)) none).run Try.prog W = .ok (.slice A0 2 c0) W) (s2 : ∀ W, (Instr.slice 22 (.slice (some ⟨b, off, none⟩) n c) (some (.int .i64 2)) (some (.int .i64 4)) none).run Try.prog W = .ok (.slice A2 2 c2) W) (s4 : ∀ W, (Instr.slice 22 (.slice (some ⟨b, off, none⟩) n c) (some (.int .i64 4)) (some (.int .i64 8)) none).run Try.prog W = .ok (.slice A4 4 c4) W) (s8 : ∀ W, (Instr.slice 22 (.slice (some ⟨b, off, none⟩) n c) (some (.int .i64 8)) (some (.int .i64 12)) none).run Try.prog W = .ok (.slice A8 4 c8) W) (s14 : ∀ W, (Instr.slice 22 (.slice (some ⟨b, off, none⟩) n c) (some (.int .i64 14)) (some (.int .i64 16)) none).run Try.prog W = .ok (.slice A14 2 c14) W) (s18 : ∀ W, (Instr.slice 22 (.slice (some ⟨b, off, none⟩) n c) (some (.int .i64 18)) (some (.int .i64 20)) none).run Try.prog W = .ok (.slice A18 2 c18) W) (bp0 : 0 ≤ p0 ∧ p0 ≤ 65535) (bp2 : 0 ≤ p2 ∧ p2 ≤ 65535) (bp4 : 0 ≤ p4 ∧ p4 ≤ 4294967295) (bp8 : 0 ≤ p8 ∧ p8 ≤ 4294967295) (bp14 : 0 ≤ p14 ∧ p14 ≤ 65535) (bp18 : 0 ≤ p18 ∧ p18 ≤ 65535) (i13 : (13 : Int) < (n : Int)) {y6 y39 y40 y41 y43 y45 y46 y47 y49 y50 y51 y53 y54 y55 y56 y58 y60 y61 y62 y64 y65 y66 : Value} (w : World) (X : Hid (SP w0 w [.blk N 70 (th0.cells (.slice none 0 0))])) (HQ : Hid (∀ (y39 y40 y41 y42 y43 y44 y45 y46 y47 y48 y49 y50 y51 y52 y53 y54 y55 y56 y57 y58 y59 y60 y61 y62 y63 y64 y65 y66 : Value) (M : Nat) (w' : World), SP w0 w' [.blk N 70 (th0.cells (.slice none 0 0)), .blk M 70 ((TH.mk p0 p2 p4 p8 z13 p14 p18).cells (.slice none 0 0))] → Q .normal ⟨#[.slice (some ⟨b, off, none⟩) n c, u1, u2, u3, u4, u5, .pointer (some ⟨M, 0, none⟩), u7, u8, u9, u10, u11, u12, u13, u14, u15, u16, u17, u18, u19, u20, u21, u22, u23, u24, u25, u26, u27, u28, u29, u30, u31, u32, u33, u34, u35, u36, u37, u38, y39, y40, y41, y42, y43, y44, y45, y46, y47, y48, y49, y50, y51, y52, y53, y54, y55, y56, y57, y58, y59, y60, y61, y62, y63, y64, y65, y66, u67, u68, u69, u70, u71, u72, u73, u74, u75, u76, u77, u78, u79, u80, u81, u82, u83, u84], []⟩ w')) :
    wpAnyH Try.prog .any (opsAt Try.f33 8) (NoPanic Q) (fun W => W.cell? ⟨b, off + 13, none⟩ = some (.int .u8 z13)) 13 #[true, true, true, true, true, true, false, false, true, true, false, false, true, true, false, false, true, true, true, true, true, false, false, true, true, false, false, false, false, false] ⟨#[.slice (some ⟨b, off, none⟩) n c, u1, u2, u3, u4, u5, y6, u7, u8, u9, u10, u11, u12, u13, u14, u15, u16, u17, u18, u19, u20, u21, u22, u23, u24, u25, u26, u27, u28, u29, u30, u31, u32, u33, u34, u35, u36, u37, u38, y39, y40, y41, .int .u16 p0, y43, .slice A2 2 c2, y45, y46, y47, .slice A4 4 c4, y49, y50, y51, .slice A8 4 c8, y53, y54, y55, y56, .int .u8 z13, y58, .slice A14 2 c14, y60, y61, y62, .slice A18 2 c18, y64, y65, y66, u67, u68, u69, u70, u71, u72, u73, u74, u75, u76, u77, u78, u79, u80, u81, u82, u83, u84], []⟩ w := by
  have ep0 : IntKind.u16.wrap p0 = p0 := u16_in _ (by omega) (by omega)
  have ep2 : IntKind.u16.wrap p2 = p2 := u16_in _ (by omega) (by omega)
  have ep4 : IntKind.u32.wrap p4 = p4 := u32_in _ (by omega) (by omega)
  have ep8 : IntKind.u32.wrap p8 = p8 := u32_in _ (by omega) (by omega)
  have ep14 : IntKind.u16.wrap p14 = p14 := u16_in _ (by omega) (by omega)
  have ep18 : IntKind.u16.wrap p18 = p18 := u16_in _ (by omega) (by omega)
  have hHeld : (fun W => W.cell? ⟨b, off + 13, none⟩ = some (.int .u8 z13)) w := by exact CB13.out _ X.out.bel
  refine wpAnyH_ready (rs := [6, 28]) (by kernel_rfl) (by simp) ?_
  refine cons_lit rfl (fun K hK => ?ss6x18) (cons_lit rfl (fun K hK => ?ss28x18) AllReadyH.nil)
  case ss6x18 =>
    go_simp
    refine (HC2.out _ X.out.bel).mono ?_
    rintro e v ⟨rfl, rfl⟩
    have Y := Lib.hid (show SP w0 w [.blk N 70 (th0.cells (.slice none 0 0))] from X.out)
    refine hK.out _ _ (by exact CB13.out _ Y.out.bel) (fun hHeld => ?_)
    clear hK K
    (try simp only [Act.put]); (try simp only [List.setIfInBounds_toArray, List.set_cons_zero, List.set_cons_succ])
    refine' take_lit (i := 7) (v := _) rfl (by kernel_rfl) (by kernel_rfl) (by kernel_rfl) (fun _ _ _ h => h) (Or.inl ⟨by rfl, ?yy19⟩) (by assumption) ?rr19
    case yy19 => intro w' hSw; (try dsimp only at hSw); go_simp; try (with_reducible rfl)
    (try simp only [Act.put]); (try simp only [List.setIfInBounds_toArray, List.set_cons_zero, List.set_cons_succ])
    exact r8rd_2 w0 N b off n c p0 p2 p4 p8 p14 p18 z13 A0 c0 A2 c2 A4 c4 A8 c8 A14 c14 A18 c18 CB13 HC0 HC2 HC4 HC8 HC14 HC18 s0 s2 s4 s8 s14 s18 bp0 bp2 bp4 bp8 bp14 bp18 i13  _ Y HQ
  case ss28x18 =>
    go_simp
    obtain ⟨M, hM⟩ : ∃ g, g = w.heap.size := ⟨_, rfl⟩
    rw [← hM]
    refine nameW' (fun v hv => ?_)
    have Y := Lib.hid (show SP w0 v [.blk N 70 (th0.cells (.slice none 0 0)), .blk M 70 (th0.cells (.slice none 0 0))] by rw [hv, hM]; exact X.out.alloc 70 (th0.cells (.slice none 0 0)))
    clear hv hM
    refine hK.out _ _ (by exact CB13.out _ Y.out.bel) (fun hHeld => ?_)
    clear hK K
    (try simp only [Act.put]); (try simp only [List.setIfInBounds_toArray, List.set_cons_zero, List.set_cons_succ])
    exact r8rd_13 w0 N b off n c p0 p2 p4 p8 p14 p18 z13 A0 c0 A2 c2 A4 c4 A8 c8 A14 c14 A18 c18 CB13 HC0 HC2 HC4 HC8 HC14 HC18 s0 s2 s4 s8 s14 s18 bp0 bp2 bp4 bp8 bp14 bp18 i13 M _ Y HQ

set_option maxHeartbeats 1000000 in
set_option maxRecDepth 100000 in
theorem r8rd_14 {u1 u2 u3 u4 u5 u7 u8 u9 u10 u11 u12 u13 u14 u15 u16 u17 u18 u19 u20 u21 u22 u23 u24 u25 u26 u27 u28 u29 u30 u31 u32 u33 u34 u35 u36 u37 u38 u67 u68 u69 u70 u71 u72 u73 u74 u75 u76 u77 u78 u79 u80 u81 u82 u83 u84 : Value} {Q : Exit → Act → World → Prop} (w0 : World) (N b off n c : Nat) (p0 p2 p4 p8 p14 p18 z13 : Int) (A0 : Option Addr) (c0 : Nat) (A2 : Option Addr) (c2 : Nat) (A4 : Option Addr) (c4 : Nat) (A8 : Option Addr) (c8 : Nat) (A14 : Option Addr) (c14 : Nat) (A18 : Option Addr) (c18 : Nat) (CB13 : Hid (∀ W, Below w0.heap.size w0 W → W.cell? ⟨b, off + 13, none⟩ = some (.int .u8 z13))) (HC0 : Hid (∀ W, Below w0.heap.size w0 W → Calls Try.prog 60 #[.slice A0 2 c0] W fun e w' => e = .returned (.int .i64 p0) ∧ W = w')) (HC2 : Hid (∀ W, Below w0.heap.size w0 W → Calls Try.prog 60 #[.slice A2 2 c2] W fun e w' => e = .returned (.int .i64 p2) ∧ W = w')) (HC4 : Hid (∀ W, Below w0.heap.size w0 W → Calls Try.prog 60 #[.slice A4 4 c4] W fun e w' => e = .returned (.int .i64 p4) ∧ W = w')) (HC8 : Hid (∀ W, Below w0.heap.size w0 W → Calls Try.prog 60 #[.slice A8 4 c8] W fun e w' => e = .returned (.int .i64 p8) ∧ W = w')) (HC14 : Hid (∀ W, Below w0.heap.size w0 W → Calls Try.prog 60 #[.slice A14 2 c14] W fun e w' => e = .returned (.int .i64 p14) ∧ W = w')) (HC18 : Hid (∀ W, Below w0.heap.size w0 W → Calls Try.prog 60 #[.slice A18 2 c18] W fun e w' => e = .returned (.int .i64 p18) ∧ W = w')) (s0 : ∀ W, (Instr.slice 22 (.slice (some ⟨b, off, none⟩) n c) (some (.int .i64 0)) (some (.int .i64 2)) none).run Try.prog W = .ok (.slice A0 2 c0) W) (s2 : ∀ W, (Instr.slice 22 (.slice (some ⟨b, off, none⟩) n c) (some (.int .i64 2)) (some (.int .i64 4)) none).run Try.prog W = .ok (.slice A2 2 c2) W) (s4 : ∀ W, (Instr.slice 22 (.slice (some ⟨b, off, none⟩) n c) (some (.int .i64 4)) (some (.int .i64 8)) none).run Try.prog W = .ok (.slice A4 4 c4) W) (s8 : ∀ W, (Instr.slice 22 (.slice (some ⟨b, off, none⟩) n c) (some (.int .i64 8)) (some (.int .i64 12)) none).run Try.prog W = .ok (.slice A8 4 c8) W) (s14 : ∀ W, (Instr.slice 22 (.slice (some ⟨b, off, none⟩) n c) (some (.int .i64 14)) (some (.int .i64 16)) none).run Try.prog W = .ok (.slice A14 2 c14) W) (s18 : ∀ W, (Instr.slice 22 (.slice (some ⟨b, off, none⟩) n c) (some (.int .i64 18)) (some (.int .i64 20)) none).run Try.prog W = .ok (.slice A18 2 c18) W) (bp0 : 0 ≤ p0 ∧ p0 ≤ 65535) (bp2 : 0 ≤ p2 ∧ p2 ≤ 65535) (bp4 : 0 ≤ p4 ∧ p4 ≤ 4294967295) (bp8 : 0 ≤ p8 ∧ p8 ≤ 4294967295) (bp14 : 0 ≤ p14 ∧ p14 ≤ 65535) (bp18 : 0 ≤ p18 ∧ p18 ≤ 65535) (i13 : (13 : Int) < (n : Int)) {y39 y41 y42 y43 y45 y46 y47 y49 y50 y51 y53 y54 y55 y56 y58 y60 y61 y62 y64 y65 y66 : Value} (M : Nat) (w : World) (X : Hid (SP w0 w [.blk N 70 (th0.cells (.slice none 0 0)), .blk M 70 (th0.cells (.slice none 0 0))])) (HQ : Hid (∀ (y39 y40 y41 y42 y43 y44 y45 y46 y47 y48 y49 y50 y51 y52 y53 y54 y55 y56 y57 y58 y59 y60 y61 y62 y63 y64 y65 y66 : Value) (M : Nat) (w' : World), SP w0 w' [.blk N 70 (th0.cells (.slice none 0 0)), .blk M 70 ((TH.mk p0 p2 p4 p8 z13 p14 p18).cells (.slice none 0 0))] → Q .normal ⟨#[.slice (some ⟨b, off, none⟩) n c, u1, u2, u3, u4, u5, .pointer (some ⟨M, 0, none⟩), u7, u8, u9, u10, u11, u12, u13, u14, u15, u16, u17, u18, u19, u20, u21, u22, u23, u24, u25, u26, u27, u28, u29, u30, u31, u32, u33, u34, u35, u36, u37, u38, y39, y40, y41, y42, y43, y44, y45, y46, y47, y48, y49, y50, y51, y52, y53, y54, y55, y56, y57, y58, y59, y60, y61, y62, y63, y64, y65, y66, u67, u68, u69, u70, u71, u72, u73, u74, u75, u76, u77, u78, u79, u80, u81, u82, u83, u84], []⟩ w')) :
    wpAnyH Try.prog .any (opsAt Try.f33 8) (NoPanic Q) (fun W => W.cell? ⟨b, off + 13, none⟩ = some (.int .u8 z13)) 14 #[true, true, false, false, true, true, false, false, true, true, false, false, true, true, false, false, true, true, true, true, true, false, false, true, true, false, false, false, true, false] ⟨#[.slice (some ⟨b, off, none⟩) n c, u1, u2, u3, u4, u5, .pointer (some ⟨M, 0, none⟩), u7, u8, u9, u10, u11, u12, u13, u14, u15, u16, u17, u18, u19, u20, u21, u22, u23, u24, u25, u26, u27, u28, u29, u30, u31, u32, u33, u34, u35, u36, u37, u38, y39, .slice A0 2 c0, y41, y42, y43, .slice A2 2 c2, y45, y46, y47, .slice A4 4 c4, y49, y50, y51, .slice A8 4 c8, y53, y54, y55, y56, .int .u8 z13, y58, .slice A14 2 c14, y60, y61, y62, .slice A18 2 c18, y64, y65, y66, u67, u68, u69, u70, u71, u72, u73, u74, u75, u76, u77, u78, u79, u80, u81, u82, u83, u84], []⟩ w := by
  have ep0 : IntKind.u16.wrap p0 = p0 := u16_in _ (by omega) (by omega)
  have ep2 : IntKind.u16.wrap p2 = p2 := u16_in _ (by omega) (by omega)
  have ep4 : IntKind.u32.wrap p4 = p4 := u32_in _ (by omega) (by omega)
  have ep8 : IntKind.u32.wrap p8 = p8 := u32_in _ (by omega) (by omega)
  have ep14 : IntKind.u16.wrap p14 = p14 := u16_in _ (by omega) (by omega)
  have ep18 : IntKind.u16.wrap p18 = p18 := u16_in _ (by omega) (by omega)
  have hHeld : (fun W => W.cell? ⟨b, off + 13, none⟩ = some (.int .u8 z13)) w := by exact CB13.out _ X.out.bel
  refine wpAnyH_ready (rs := [2]) (by kernel_rfl) (by simp) ?_
  refine cons_lit rfl (fun K hK => ?ss2x42) AllReadyH.nil
  case ss2x42 =>
    go_simp
    refine (HC0.out _ X.out.bel).mono ?_
    rintro e v ⟨rfl, rfl⟩
    have Y := Lib.hid (show SP w0 w [.blk N 70 (th0.cells (.slice none 0 0)), .blk M 70 (th0.cells (.slice none 0 0))] from X.out)
    refine hK.out _ _ (by exact CB13.out _ Y.out.bel) (fun hHeld => ?_)
    clear hK K
    (try simp only [Act.put]); (try simp only [List.setIfInBounds_toArray, List.set_cons_zero, List.set_cons_succ])
    refine' take_lit (i := 3) (v := _) rfl (by kernel_rfl) (by kernel_rfl) (by kernel_rfl) (fun _ _ _ h => h) (Or.inl ⟨by rfl, ?yy43⟩) (by assumption) ?rr43
    case yy43 => intro w' hSw; (try dsimp only at hSw); go_simp; try (with_reducible rfl)
    (try simp only [Act.put]); (try simp only [List.setIfInBounds_toArray, List.set_cons_zero, List.set_cons_succ])
    exact r8rd_13 w0 N b off n c p0 p2 p4 p8 p14 p18 z13 A0 c0 A2 c2 A4 c4 A8 c8 A14 c14 A18 c18 CB13 HC0 HC2 HC4 HC8 HC14 HC18 s0 s2 s4 s8 s14 s18 bp0 bp2 bp4 bp8 bp14 bp18 i13 M _ Y HQ

set_option maxHeartbeats 1000000 in
set_option maxRecDepth 100000 in
theorem r8rd_0 {u1 u2 u3 u4 u5 u7 u8 u9 u10 u11 u12 u13 u14 u15 u16 u17 u18 u19 u20 u21 u22 u23 u24 u25 u26 u27 u28 u29 u30 u31 u32 u33 u34 u35 u36 u37 u38 u67 u68 u69 u70 u71 u72 u73 u74 u75 u76 u77 u78 u79 u80 u81 u82 u83 u84 : Value} {Q : Exit → Act → World → Prop} (w0 : World) (N b off n c : Nat) (p0 p2 p4 p8 p14 p18 z13 : Int) (A0 : Option Addr) (c0 : Nat) (A2 : Option Addr) (c2 : Nat) (A4 : Option Addr) (c4 : Nat) (A8 : Option Addr) (c8 : Nat) (A14 : Option Addr) (c14 : Nat) (A18 : Option Addr) (c18 : Nat) (CB13 : Hid (∀ W, Below w0.heap.size w0 W → W.cell? ⟨b, off + 13, none⟩ = some (.int .u8 z13))) (HC0 : Hid (∀ W, Below w0.heap.size w0 W → Calls Try.prog 60 #[.slice A0 2 c0] W fun e w' => e = .returned (.int .i64 p0) ∧ W = w')) (HC2 : Hid (∀ W, Below w0.heap.size w0 W → Calls Try.prog 60 #[.slice A2 2 c2] W fun e w' => e = .returned (.int .i64 p2) ∧ W = w')) (HC4 : Hid (∀ W, Below w0.heap.size w0 W → Calls Try.prog 60 #[.slice A4 4 c4] W fun e w' => e = .returned (.int .i64 p4) ∧ W = w')) (HC8 : Hid (∀ W, Below w0.heap.size w0 W → Calls Try.prog 60 #[.slice A8 4 c8] W fun e w' => e = .returned (.int .i64 p8) ∧ W = w')) (HC14 : Hid (∀ W, Below w0.heap.size w0 W → Calls Try.prog 60 #[.slice A14 2 c14] W fun e w' => e = .returned (.int .i64 p14) ∧ W = w')) (HC18 : Hid (∀ W, Below w0.heap.size w0 W → Calls Try.prog 60 #[.slice A18 2 c18] W fun e w' => e = .returned (.int .i64 p18) ∧ W = w')) (s0 : ∀ W, (Instr.slice 22 (.slice (some ⟨b, off, none⟩) n c) (some (.int .i64 0)) (some (.int .i64 2)) none).run Try.prog W = .ok (.slice A0 2 c0) W) (s2 : ∀ W, (Instr.slice 22 (.slice (some ⟨b, off, none⟩) n c) (some (.int .i64 2)) (some (.int .i64 4)) none).run Try.prog W = .ok (.slice A2 2 c2) W) (s4 : ∀ W, (Instr.slice 22 (.slice (some ⟨b, off, none⟩) n c) (some (.int .i64 4)) (some (.int .i64 8)) none).run Try.prog W = .ok (.slice A4 4 c4) W) (s8 : ∀ W, (Instr.slice 22 (.slice (some ⟨b, off, none⟩) n c) (some (.int .i64 8)) (some (.int .i64 12)) none).run Try.prog W = .ok (.slice A8 4 c8) W) (s14 : ∀ W, (Instr.slice 22 (.slice (some ⟨b, off, none⟩) n c) (some (.int .i64 14)) (some (.int .i64 16)) none).run Try.prog W = .ok (.slice A14 2 c14) W) (s18 : ∀ W, (Instr.slice 22 (.slice (some ⟨b, off, none⟩) n c) (some (.int .i64 18)) (some (.int .i64 20)) none).run Try.prog W = .ok (.slice A18 2 c18) W) (bp0 : 0 ≤ p0 ∧ p0 ≤ 65535) (bp2 : 0 ≤ p2 ∧ p2 ≤ 65535) (bp4 : 0 ≤ p4 ∧ p4 ≤ 4294967295) (bp8 : 0 ≤ p8 ∧ p8 ≤ 4294967295) (bp14 : 0 ≤ p14 ∧ p14 ≤ 65535) (bp18 : 0 ≤ p18 ∧ p18 ≤ 65535) (i13 : (13 : Int) < (n : Int)) {y6 y39 y40 y41 y42 y43 y44 y45 y46 y47 y48 y49 y50 y51 y52 y53 y54 y55 y56 y57 y58 y59 y60 y61 y62 y63 y64 y65 y66 : Value} (w : World) (X : Hid (SP w0 w [.blk N 70 (th0.cells (.slice none 0 0))])) (HQ : Hid (∀ (y39 y40 y41 y42 y43 y44 y45 y46 y47 y48 y49 y50 y51 y52 y53 y54 y55 y56 y57 y58 y59 y60 y61 y62 y63 y64 y65 y66 : Value) (M : Nat) (w' : World), SP w0 w' [.blk N 70 (th0.cells (.slice none 0 0)), .blk M 70 ((TH.mk p0 p2 p4 p8 z13 p14 p18).cells (.slice none 0 0))] → Q .normal ⟨#[.slice (some ⟨b, off, none⟩) n c, u1, u2, u3, u4, u5, .pointer (some ⟨M, 0, none⟩), u7, u8, u9, u10, u11, u12, u13, u14, u15, u16, u17, u18, u19, u20, u21, u22, u23, u24, u25, u26, u27, u28, u29, u30, u31, u32, u33, u34, u35, u36, u37, u38, y39, y40, y41, y42, y43, y44, y45, y46, y47, y48, y49, y50, y51, y52, y53, y54, y55, y56, y57, y58, y59, y60, y61, y62, y63, y64, y65, y66, u67, u68, u69, u70, u71, u72, u73, u74, u75, u76, u77, u78, u79, u80, u81, u82, u83, u84], []⟩ w')) :
    wpAnyH Try.prog .any (opsAt Try.f33 8) (NoPanic Q) (fun W => W.cell? ⟨b, off + 13, none⟩ = some (.int .u8 z13)) 30 #[false, false, false, false, false, false, false, false, false, false, false, false, false, false, false, false, false, false, false, false, false, false, false, false, false, false, false, false, false, false] ⟨#[.slice (some ⟨b, off, none⟩) n c, u1, u2, u3, u4, u5, y6, u7, u8, u9, u10, u11, u12, u13, u14, u15, u16, u17, u18, u19, u20, u21, u22, u23, u24, u25, u26, u27, u28, u29, u30, u31, u32, u33, u34, u35, u36, u37, u38, y39, y40, y41, y42, y43, y44, y45, y46, y47, y48, y49, y50, y51, y52, y53, y54, y55, y56, y57, y58, y59, y60, y61, y62, y63, y64, y65, y66, u67, u68, u69, u70, u71, u72, u73, u74, u75, u76, u77, u78, u79, u80, u81, u82, u83, u84], []⟩ w := by
  have ep0 : IntKind.u16.wrap p0 = p0 := u16_in _ (by omega) (by omega)
  have ep2 : IntKind.u16.wrap p2 = p2 := u16_in _ (by omega) (by omega)
  have ep4 : IntKind.u32.wrap p4 = p4 := u32_in _ (by omega) (by omega)
  have ep8 : IntKind.u32.wrap p8 = p8 := u32_in _ (by omega) (by omega)
  have ep14 : IntKind.u16.wrap p14 = p14 := u16_in _ (by omega) (by omega)
  have ep18 : IntKind.u16.wrap p18 = p18 := u16_in _ (by omega) (by omega)
  have hHeld : (fun W => W.cell? ⟨b, off + 13, none⟩ = some (.int .u8 z13)) w := by exact CB13.out _ X.out.bel
  refine' take_lit (i := 0) (v := _) rfl (by kernel_rfl) (by kernel_rfl) (by kernel_rfl) (fun _ _ _ h => h) (Or.inl ⟨by rfl, ?yy1⟩) (by assumption) ?rr1
  case yy1 => intro w' hSw; (try dsimp only at hSw); go_simp; try (with_reducible rfl)
  (try simp only [Act.put]); (try simp only [List.setIfInBounds_toArray, List.set_cons_zero, List.set_cons_succ])
  refine' take_lit (i := 1) (v := _) rfl (by kernel_rfl) (by kernel_rfl) (by kernel_rfl) (fun _ _ _ h => h) (Or.inl ⟨by rfl, ?yy2⟩) (by assumption) ?rr2
  case yy2 => intro w' hSw; (try dsimp only at hSw); go_simp; try (with_reducible rfl)
  (try simp only [Act.put]); (try simp only [List.setIfInBounds_toArray, List.set_cons_zero, List.set_cons_succ])
  refine' take_lit (i := 4) (v := _) rfl (by kernel_rfl) (by kernel_rfl) (by kernel_rfl) (fun _ _ _ h => h) (Or.inl ⟨by rfl, ?yy3⟩) (by assumption) ?rr3
  case yy3 => intro w' hSw; (try dsimp only at hSw); go_simp; try (with_reducible rfl)
  (try simp only [Act.put]); (try simp only [List.setIfInBounds_toArray, List.set_cons_zero, List.set_cons_succ])
  refine' take_lit (i := 5) (v := _) rfl (by kernel_rfl) (by kernel_rfl) (by kernel_rfl) (fun _ _ _ h => h) (Or.inl ⟨by rfl, ?yy4⟩) (by assumption) ?rr4
  case yy4 => intro w' hSw; (try dsimp only at hSw); go_simp; try (with_reducible rfl)
  (try simp only [Act.put]); (try simp only [List.setIfInBounds_toArray, List.set_cons_zero, List.set_cons_succ])
  refine' take_lit (i := 8) (v := _) rfl (by kernel_rfl) (by kernel_rfl) (by kernel_rfl) (fun _ _ _ h => h) (Or.inl ⟨by rfl, ?yy5⟩) (by assumption) ?rr5
  case yy5 => intro w' hSw; (try dsimp only at hSw); go_simp; try (with_reducible rfl)
  (try simp only [Act.put]); (try simp only [List.setIfInBounds_toArray, List.set_cons_zero, List.set_cons_succ])
  refine' take_lit (i := 9) (v := _) rfl (by kernel_rfl) (by kernel_rfl) (by kernel_rfl) (fun _ _ _ h => h) (Or.inl ⟨by rfl, ?yy6⟩) (by assumption) ?rr6
  case yy6 => intro w' hSw; (try dsimp only at hSw); go_simp; try (with_reducible rfl)
  (try simp only [Act.put]); (try simp only [List.setIfInBounds_toArray, List.set_cons_zero, List.set_cons_succ])
  refine' take_lit (i := 12) (v := _) rfl (by kernel_rfl) (by kernel_rfl) (by kernel_rfl) (fun _ _ _ h => h) (Or.inl ⟨by rfl, ?yy7⟩) (by assumption) ?rr7
  case yy7 => intro w' hSw; (try dsimp only at hSw); go_simp; try (with_reducible rfl)
  (try simp only [Act.put]); (try simp only [List.setIfInBounds_toArray, List.set_cons_zero, List.set_cons_succ])
  refine' take_lit (i := 13) (v := _) rfl (by kernel_rfl) (by kernel_rfl) (by kernel_rfl) (fun _ _ _ h => h) (Or.inl ⟨by rfl, ?yy8⟩) (by assumption) ?rr8
  case yy8 => intro w' hSw; (try dsimp only at hSw); go_simp; try (with_reducible rfl)
  (try simp only [Act.put]); (try simp only [List.setIfInBounds_toArray, List.set_cons_zero, List.set_cons_succ])
  refine' take_lit (i := 16) (v := _) rfl (by kernel_rfl) (by kernel_rfl) (by kernel_rfl) (fun _ _ _ h => h) (Or.inl ⟨by rfl, ?yy9⟩) (by assumption) ?rr9
  case yy9 => intro w' hSw; (try dsimp only at hSw); go_simp; try (with_reducible rfl)
  (try simp only [Act.put]); (try simp only [List.setIfInBounds_toArray, List.set_cons_zero, List.set_cons_succ])
  refine' take_lit (i := 17) (v := _) rfl (by kernel_rfl) (by kernel_rfl) (by kernel_rfl) (fun _ _ _ h => h) (Or.inl ⟨by rfl, ?yy10⟩) (by assumption) ?rr10
  case yy10 => intro w' hSw; (try dsimp only at hSw); go_simp; try (with_reducible rfl)
  (try simp only [Act.put]); (try simp only [List.setIfInBounds_toArray, List.set_cons_zero, List.set_cons_succ])
  refine' take_lit (i := 18) (v := _) rfl (by kernel_rfl) (by kernel_rfl) (by kernel_rfl) (fun _ _ _ h => h) (Or.inl ⟨by rfl, ?yy11⟩) (by assumption) ?rr11
  case yy11 => intro w' hSw; (try dsimp only at hSw); go_simp; try (with_reducible rfl)
  (try simp only [Act.put]); (try simp only [List.setIfInBounds_toArray, List.set_cons_zero, List.set_cons_succ])
  refine' take_lit (i := 19) (v := _) rfl (by kernel_rfl) (by kernel_rfl) (by kernel_rfl) (fun _ _ _ h => h) (Or.inl ⟨by rfl, ?yy12⟩) (by assumption) ?rr12
  case yy12 => intro w' hSw; (try dsimp only at hSw); go_simp; try (with_reducible rfl)
  (try simp only [Act.put]); (try simp only [List.setIfInBounds_toArray, List.set_cons_zero, List.set_cons_succ])
  refine' take_lit (i := 20) (v := _) rfl (by kernel_rfl) (by kernel_rfl) (by kernel_rfl) (fun _ _ _ h => h) (Or.inl ⟨by rfl, ?yy13⟩) (by assumption) ?rr13
  case yy13 => intro w' hSw; (try dsimp only at hSw); go_simp; try (with_reducible rfl)
  (try simp only [Act.put]); (try simp only [List.setIfInBounds_toArray, List.set_cons_zero, List.set_cons_succ])
  refine' take_lit (i := 23) (v := _) rfl (by kernel_rfl) (by kernel_rfl) (by kernel_rfl) (fun _ _ _ h => h) (Or.inl ⟨by rfl, ?yy14⟩) (by assumption) ?rr14
  case yy14 => intro w' hSw; (try dsimp only at hSw); go_simp; try (with_reducible rfl)
  (try simp only [Act.put]); (try simp only [List.setIfInBounds_toArray, List.set_cons_zero, List.set_cons_succ])
  refine' take_lit (i := 24) (v := _) rfl (by kernel_rfl) (by kernel_rfl) (by kernel_rfl) (fun _ _ _ h => h) (Or.inl ⟨by rfl, ?yy15⟩) (by assumption) ?rr15
  case yy15 => intro w' hSw; (try dsimp only at hSw); go_simp; try (with_reducible rfl)
  (try simp only [Act.put]); (try simp only [List.setIfInBounds_toArray, List.set_cons_zero, List.set_cons_succ])
  refine wpAnyH_ready (rs := [2, 28]) (by kernel_rfl) (by simp) ?_
  refine cons_lit rfl (fun K hK => ?ss2x16) (cons_lit rfl (fun K hK => ?ss28x16) AllReadyH.nil)
  case ss2x16 =>
    go_simp
    refine (HC0.out _ X.out.bel).mono ?_
    rintro e v ⟨rfl, rfl⟩
    have Y := Lib.hid (show SP w0 w [.blk N 70 (th0.cells (.slice none 0 0))] from X.out)
    refine hK.out _ _ (by exact CB13.out _ Y.out.bel) (fun hHeld => ?_)
    clear hK K
    (try simp only [Act.put]); (try simp only [List.setIfInBounds_toArray, List.set_cons_zero, List.set_cons_succ])
    refine' take_lit (i := 3) (v := _) rfl (by kernel_rfl) (by kernel_rfl) (by kernel_rfl) (fun _ _ _ h => h) (Or.inl ⟨by rfl, ?yy17⟩) (by assumption) ?rr17
    case yy17 => intro w' hSw; (try dsimp only at hSw); go_simp; try (with_reducible rfl)
    (try simp only [Act.put]); (try simp only [List.setIfInBounds_toArray, List.set_cons_zero, List.set_cons_succ])
    exact r8rd_1 w0 N b off n c p0 p2 p4 p8 p14 p18 z13 A0 c0 A2 c2 A4 c4 A8 c8 A14 c14 A18 c18 CB13 HC0 HC2 HC4 HC8 HC14 HC18 s0 s2 s4 s8 s14 s18 bp0 bp2 bp4 bp8 bp14 bp18 i13  _ Y HQ
  case ss28x16 =>
    go_simp
    obtain ⟨M, hM⟩ : ∃ g, g = w.heap.size := ⟨_, rfl⟩
    rw [← hM]
    refine nameW' (fun v hv => ?_)
    have Y := Lib.hid (show SP w0 v [.blk N 70 (th0.cells (.slice none 0 0)), .blk M 70 (th0.cells (.slice none 0 0))] by rw [hv, hM]; exact X.out.alloc 70 (th0.cells (.slice none 0 0)))
    clear hv hM
    refine hK.out _ _ (by exact CB13.out _ Y.out.bel) (fun hHeld => ?_)
    clear hK K
    (try simp only [Act.put]); (try simp only [List.setIfInBounds_toArray, List.set_cons_zero, List.set_cons_succ])
    exact r8rd_14 w0 N b off n c p0 p2 p4 p8 p14 p18 z13 A0 c0 A2 c2 A4 c4 A8 c8 A14 c14 A18 c18 CB13 HC0 HC2 HC4 HC8 HC14 HC18 s0 s2 s4 s8 s14 s18 bp0 bp2 bp4 bp8 bp14 bp18 i13 M _ Y HQ


set_option maxHeartbeats 8000000 in
set_option maxRecDepth 100000 in
theorem r8Read_any (A : Option Addr) (n c : Nat) (zs : List Int) (w : World) (h : RD .u8 w w.heap.size A n zs) (hz : BD 255 zs) (hnc : n ≤ c) (hn : n ≤ 140737488351232) :
    Calls Try.prog 33 #[.slice A n c] w (TRead w zs) := by
  obtain ⟨i0, hi, hz0, hz1, hz2⟩ := info_parts infoU8
  have HL := Lib.hid h.len
  have R := Lib.hid (fun (W : World) (hb : Below w.heap.size w W) => (show RD .u8 W W.heap.size A n zs from (h.below hb).more hb.size))
  have S0 := (SP.start w).alloc 70 (th0.cells (.slice none 0 0))
  go_enter Try.func33, Try.ntmps33
  go_upto_region 1 with fail
  change Code.wp _ _ _ _ (w.alloc (.cells (th0.cells (.slice none 0 0)) 70))
  generalize w.alloc (.cells (th0.cells (.slice none 0 0)) 70) = w1 at S0 ⊢
  obtain ⟨N, hN⟩ : ∃ N, N = w.heap.size := ⟨_, rfl⟩
  rw [← hN] at S0 ⊢
  have HN := Lib.hid hN
  have X := Lib.hid S0
  clear hN S0
  by_cases hs : n < 20
  · have t1 : (n : Int) < 20 := by omega
    have HE := Lib.hid (show tcE zs = 80 by unfold tcE; rw [if_pos (by rw [HL.out]; exact hs)])
    have HSN := Lib.hid (r8Sane_any 0 w1 (by omega))
    clear hs h
    go_wp2_with (first | (go_at_call 35; refine HSN.out.mono ?_; rintro e w2 ⟨rfl, rfl⟩) | (refine wpList_store_row rfl 70 _ _ rfl N (th0.cells (.slice none 0 0)) rfl rfl 70 (th0.cells (.slice none 0 0)) (X.out.blk 0 rfl) (by kernel_rfl) rfl (TH.one _ _ _ _) ?_))
    have S2 := X.out.setR 0 rfl (th0.cells (.slice none 0 0))
    refine bodyPost_ret (results_cell_tmp2 rfl _ _ N 70 (th0.cells (.slice none 0 0)) _ _ rfl (S2.blk 0 rfl) Try.underlying70 rfl (by kernel_rfl)) rfl ?_
    exact .no HE.out (by decide) S2.bel
  have t1 : ¬ (n : Int) < 20 := by omega
  obtain ⟨b, off, rfl, hB, hc⟩ := h.2 (by omega)
  have HC := Lib.hid (fun (W : World) (hb : Below w.heap.size w W) (i : Nat) (hi : i < n) => (hb.cell (p := ⟨b, off + i, none⟩) hB).trans (hc i hi))
  have x12 : w1.cell? ⟨b, off + 12, none⟩ = some (.int .u8 (zs[12]?.getD 0)) := HC.out _ X.out.bel 12 (by omega)
  have x13 : w1.cell? ⟨b, off + 13, none⟩ = some (.int .u8 (zs[13]?.getD 0)) := HC.out _ X.out.bel 13 (by omega)
  obtain ⟨z12a, z12b⟩ := hz.get (by omega) 12
  obtain ⟨z12, hz12⟩ : ∃ z, zs[12]?.getD 0 = z := ⟨_, rfl⟩
  obtain ⟨z13a, z13b⟩ := hz.get (by omega) 13
  obtain ⟨z13, hz13⟩ : ∃ z, zs[13]?.getD 0 = z := ⟨_, rfl⟩
  rw [hz12] at x12 z12a z12b
  rw [hz13] at x13 z13a z13b
  have CB13 := Lib.hid (fun (W : World) (hb : Below w.heap.size w W) => (show W.cell? ⟨b, off + 13, none⟩ = some (.int .u8 z13) by have := HC.out W hb 13 (by omega); rwa [hz13] at this))
  have H12 := Lib.hid hz12
  have H13 := Lib.hid hz13
  obtain ⟨q, hq⟩ : ∃ q : Nat, z12 / 16 * 4 = (q : Int) := ⟨(z12 / 16 * 4).toNat, by omega⟩
  have HQ := Lib.hid (show tcN zs = q by unfold tcN; rw [hz12]; omega)
  have e1 : IntKind.i64.wrap (z12 / 16) = z12 / 16 := IntWalk.i64_in _ (by omega)
  have e2 : IntKind.i64.wrap (z12 / 16 * 4) = (q : Int) := by rw [hq]; exact IntWalk.i64_in _ (by omega)
  have hq60 : q ≤ 60 := by omega
  clear hc hz12 hz13
  have HE0 := Lib.hid (show ¬ zs.length < 20 by rw [HL.out]; exact hs)
  have HSN := Lib.hid (r8Sane_any z13 w1 ⟨z13a, z13b⟩)
  go_upto_region 4 with fail
  clear e1 e2
  by_cases h81 : q < 20 ∨ n < q
  · have HE := Lib.hid (show tcE zs = 81 by unfold tcE; rw [if_neg HE0.out, HQ.out, HL.out, if_pos h81])
    by_cases h1 : q < 20
    · have t2 : (q : Int) < 20 := by omega
      clear h81 h1
      go_wp2_with (first | (go_at_call 35; refine HSN.out.mono ?_; rintro e w2 ⟨rfl, rfl⟩) | (refine wpList_store_row rfl 70 _ _ rfl N (th0.cells (.slice none 0 0)) rfl rfl 70 (th0.cells (.slice none 0 0)) (X.out.blk 0 rfl) (by kernel_rfl) rfl (TH.one _ _ _ _) ?_))
      have S2 := X.out.setR 0 rfl (th0.cells (.slice none 0 0))
      refine bodyPost_ret (results_cell_tmp2 rfl _ _ N 70 (th0.cells (.slice none 0 0)) _ _ rfl (S2.blk 0 rfl) Try.underlying70 rfl (by kernel_rfl)) rfl ?_
      exact .no HE.out (by decide) S2.bel
    · have t2 : ¬ (q : Int) < 20 := by omega
      have t3 : (n : Int) < (q : Int) := by omega
      clear h81 h1
      go_wp2_with (first | (go_at_call 35; refine HSN.out.mono ?_; rintro e w2 ⟨rfl, rfl⟩) | (refine wpList_store_row rfl 70 _ _ rfl N (th0.cells (.slice none 0 0)) rfl rfl 70 (th0.cells (.slice none 0 0)) (X.out.blk 0 rfl) (by kernel_rfl) rfl (TH.one _ _ _ _) ?_))
      have S2 := X.out.setR 0 rfl (th0.cells (.slice none 0 0))
      refine bodyPost_ret (results_cell_tmp2 rfl _ _ N 70 (th0.cells (.slice none 0 0)) _ _ rfl (S2.blk 0 rfl) Try.underlying70 rfl (by kernel_rfl)) rfl ?_
      exact .no HE.out (by decide) S2.bel
  have q20 : 20 ≤ q := by omega
  have qn : q ≤ n := by omega
  have HE1 := Lib.hid h81
  have t2 : ¬ (q : Int) < 20 := by omega
  have t3 : ¬ (n : Int) < (q : Int) := by omega
  clear h81
  by_cases h82 : z12 % 16 = 0
  case neg =>
    have HE := Lib.hid (show tcE zs = 82 by unfold tcE; rw [if_neg HE0.out, HQ.out, HL.out, if_neg HE1.out, H12.out, if_pos (.inl h82)])
    have t4 : (z12 % 16 != 0) = true := by simp [h82]
    clear h82
    go_wp2_with (first | (go_at_call 35; refine HSN.out.mono ?_; rintro e w2 ⟨rfl, rfl⟩) | (refine wpList_store_row rfl 70 _ _ rfl N (th0.cells (.slice none 0 0)) rfl rfl 70 (th0.cells (.slice none 0 0)) (X.out.blk 0 rfl) (by kernel_rfl) rfl (TH.one _ _ _ _) ?_))
    have S2 := X.out.setR 0 rfl (th0.cells (.slice none 0 0))
    refine bodyPost_ret (results_cell_tmp2 rfl _ _ N 70 (th0.cells (.slice none 0 0)) _ _ rfl (S2.blk 0 rfl) Try.underlying70 rfl (by kernel_rfl)) rfl ?_
    exact .no HE.out (by decide) S2.bel
  have H82 := Lib.hid h82
  have t4 : (z12 % 16 != 0) = false := by simp [h82]
  clear h82
  cases hsn : saneB z13 with
  | false =>
    rw [hsn] at HSN
    have HE := Lib.hid (show tcE zs = 82 by unfold tcE; rw [if_neg HE0.out, HQ.out, HL.out, if_neg HE1.out, H13.out, if_pos (.inr hsn)])
    clear hsn
    go_wp2_with (first | (go_at_call 35; refine HSN.out.mono ?_; rintro e w2 ⟨rfl, rfl⟩) | (refine wpList_store_row rfl 70 _ _ rfl N (th0.cells (.slice none 0 0)) rfl rfl 70 (th0.cells (.slice none 0 0)) (X.out.blk 0 rfl) (by kernel_rfl) rfl (TH.one _ _ _ _) ?_))
    have S2 := X.out.setR 0 rfl (th0.cells (.slice none 0 0))
    refine bodyPost_ret (results_cell_tmp2 rfl _ _ N 70 (th0.cells (.slice none 0 0)) _ _ rfl (S2.blk 0 rfl) Try.underlying70 rfl (by kernel_rfl)) rfl ?_
    exact .no HE.out (by decide) S2.bel
  | true =>
  rw [hsn] at HSN
  have HE2 := Lib.hid (show ¬ (zs[12]?.getD 0 % 16 ≠ 0 ∨ saneB (zs[13]?.getD 0) = false) by rw [H12.out, H13.out, hsn, H82.out]; simp)
  clear hsn
  go_upto_region 8 with (go_at_call 35; refine HSN.out.mono ?_; rintro e w2 ⟨rfl, rfl⟩)
  clear x12 x13 HSN
  have s0 := fun W => run_slice_lohi (P := Try.prog) W Try.underlying22 hi hz1 (some ⟨b, off, none⟩) n c 0 2 0 2 rfl rfl (by omega) (by omega)
  have HV0 := Lib.hid (show numZ ((zs.drop 0).take 2) = wordAt zs 0 by rw [numZ2 (by have := HL.out; simp; omega)]; simp [wordAt])
  have HC0 := Lib.hid (fun (W : World) (hb : Below w.heap.size w W) => r8number_any (cutA (some ⟨b, off, none⟩) c 0) 2 (c - 0) _ W ((R.out W hb).mid (lo := 0) (hi := 2) (by omega) (by omega) hnc) ((hz.drop _).take _) (by omega))
  rw [show (2 - 0 : Nat) = 2 from rfl] at s0 HC0
  rw [HV0.out] at HC0
  obtain ⟨p0, hp0⟩ : ∃ u, wordAt zs 0 = u := ⟨_, rfl⟩
  have bp0 := (wordAt_bd hz 0)
  rw [hp0] at HC0 bp0
  have s2 := fun W => run_slice_lohi (P := Try.prog) W Try.underlying22 hi hz1 (some ⟨b, off, none⟩) n c 2 4 2 4 rfl rfl (by omega) (by omega)
  have HV2 := Lib.hid (show numZ ((zs.drop 2).take 2) = wordAt zs 2 by rw [numZ2 (by have := HL.out; simp; omega)]; simp [wordAt, List.getElem?_drop])
  have HC2 := Lib.hid (fun (W : World) (hb : Below w.heap.size w W) => r8number_any (cutA (some ⟨b, off, none⟩) c 2) 2 (c - 2) _ W ((R.out W hb).mid (lo := 2) (hi := 4) (by omega) (by omega) hnc) ((hz.drop _).take _) (by omega))
  rw [show (4 - 2 : Nat) = 2 from rfl] at s2 HC2
  rw [HV2.out] at HC2
  obtain ⟨p2, hp2⟩ : ∃ u, wordAt zs 2 = u := ⟨_, rfl⟩
  have bp2 := (wordAt_bd hz 2)
  rw [hp2] at HC2 bp2
  have s4 := fun W => run_slice_lohi (P := Try.prog) W Try.underlying22 hi hz1 (some ⟨b, off, none⟩) n c 4 8 4 8 rfl rfl (by omega) (by omega)
  have HV4 := Lib.hid (show numZ ((zs.drop 4).take 4) = lng zs 4 by rw [numZ4 (by have := HL.out; simp; omega)]; simp [wordAt, lng, List.getElem?_drop])
  have HC4 := Lib.hid (fun (W : World) (hb : Below w.heap.size w W) => r8number_any (cutA (some ⟨b, off, none⟩) c 4) 4 (c - 4) _ W ((R.out W hb).mid (lo := 4) (hi := 8) (by omega) (by omega) hnc) ((hz.drop _).take _) (by omega))
  rw [show (8 - 4 : Nat) = 4 from rfl] at s4 HC4
  rw [HV4.out] at HC4
  obtain ⟨p4, hp4⟩ : ∃ u, lng zs 4 = u := ⟨_, rfl⟩
  have bp4 := (lng_bd hz 4)
  rw [hp4] at HC4 bp4
  have s8 := fun W => run_slice_lohi (P := Try.prog) W Try.underlying22 hi hz1 (some ⟨b, off, none⟩) n c 8 12 8 12 rfl rfl (by omega) (by omega)
  have HV8 := Lib.hid (show numZ ((zs.drop 8).take 4) = lng zs 8 by rw [numZ4 (by have := HL.out; simp; omega)]; simp [wordAt, lng, List.getElem?_drop])
  have HC8 := Lib.hid (fun (W : World) (hb : Below w.heap.size w W) => r8number_any (cutA (some ⟨b, off, none⟩) c 8) 4 (c - 8) _ W ((R.out W hb).mid (lo := 8) (hi := 12) (by omega) (by omega) hnc) ((hz.drop _).take _) (by omega))
  rw [show (12 - 8 : Nat) = 4 from rfl] at s8 HC8
  rw [HV8.out] at HC8
  obtain ⟨p8, hp8⟩ : ∃ u, lng zs 8 = u := ⟨_, rfl⟩
  have bp8 := (lng_bd hz 8)
  rw [hp8] at HC8 bp8
  have s14 := fun W => run_slice_lohi (P := Try.prog) W Try.underlying22 hi hz1 (some ⟨b, off, none⟩) n c 14 16 14 16 rfl rfl (by omega) (by omega)
  have HV14 := Lib.hid (show numZ ((zs.drop 14).take 2) = wordAt zs 14 by rw [numZ2 (by have := HL.out; simp; omega)]; simp [wordAt, List.getElem?_drop])
  have HC14 := Lib.hid (fun (W : World) (hb : Below w.heap.size w W) => r8number_any (cutA (some ⟨b, off, none⟩) c 14) 2 (c - 14) _ W ((R.out W hb).mid (lo := 14) (hi := 16) (by omega) (by omega) hnc) ((hz.drop _).take _) (by omega))
  rw [show (16 - 14 : Nat) = 2 from rfl] at s14 HC14
  rw [HV14.out] at HC14
  obtain ⟨p14, hp14⟩ : ∃ u, wordAt zs 14 = u := ⟨_, rfl⟩
  have bp14 := (wordAt_bd hz 14)
  rw [hp14] at HC14 bp14
  have s18 := fun W => run_slice_lohi (P := Try.prog) W Try.underlying22 hi hz1 (some ⟨b, off, none⟩) n c 18 20 18 20 rfl rfl (by omega) (by omega)
  have HV18 := Lib.hid (show numZ ((zs.drop 18).take 2) = wordAt zs 18 by rw [numZ2 (by have := HL.out; simp; omega)]; simp [wordAt, List.getElem?_drop])
  have HC18 := Lib.hid (fun (W : World) (hb : Below w.heap.size w W) => r8number_any (cutA (some ⟨b, off, none⟩) c 18) 2 (c - 18) _ W ((R.out W hb).mid (lo := 18) (hi := 20) (by omega) (by omega) hnc) ((hz.drop _).take _) (by omega))
  rw [show (20 - 18 : Nat) = 2 from rfl] at s18 HC18
  rw [HV18.out] at HC18
  obtain ⟨p18, hp18⟩ : ∃ u, wordAt zs 18 = u := ⟨_, rfl⟩
  have bp18 := (wordAt_bd hz 18)
  rw [hp18] at HC18 bp18
  have HT := Lib.hid (show thOf zs = TH.mk p0 p2 p4 p8 z13 p14 p18 by unfold thOf; rw [hp0, hp2, hp4, hp8, H13.out, hp14, hp18])
  have HW := Lib.hid (And.intro hp0 hp2)
  clear hp0 hp2 hp4 hp8 hp14 hp18
  refine wp_region_noPanic ?_
  refine wp_region_held_drew (S := fun W => W.cell? ⟨b, off + 13, none⟩ = some (.int .u8 z13)) (by kernel_rfl) (by exact CB13.out _ X.out.drew.bel) (fun hHeld => ?_)
  clear hHeld
  refine r8rd_0 w N b off n c p0 p2 p4 p8 p14 p18 z13 _ _ _ _ _ _ _ _ _ _ _ _ CB13 HC0 HC2 HC4 HC8 HC14 HC18 s0 s2 s4 s8 s14 s18 bp0 bp2 bp4 bp8 bp14 bp18 (by omega) _ (Lib.hid X.out.drew) (Lib.hid ?_)
  intro y39 y40 y41 y42 y43 y44 y45 y46 y47 y48 y49 y50 y51 y52 y53 y54 y55 y56 y57 y58 y59 y60 y61 y62 y63 y64 y65 y66 M w2 hX2
  have X2 := Lib.hid hX2
  clear hX2 X HC0 HC2 HC4 HC8 HC14 HC18 s0 s2 s4 s8 s14 s18
  have c0 : w2.cell? ⟨M, 0, none⟩ = some (.int .u16 p0) := X2.out.cell 1 rfl 0 rfl
  have c1 : w2.cell? ⟨M, 1, none⟩ = some (.int .u16 p2) := X2.out.cell 1 rfl 1 rfl
  by_cases h83 : p0 = 0 ∨ p2 = 0
  · have HE := Lib.hid (show tcE zs = 83 by unfold tcE; rw [if_neg HE0.out, HQ.out, HL.out, if_neg HE1.out, if_neg HE2.out, HW.out.1, HW.out.2, if_pos h83])
    have X := Lib.hid X2.out
    have HSN := Lib.hid (r8Sane_any 0 w2 (by omega))
    by_cases h1 : p0 = 0
    · have t5 : (p0 == 0) = true := by simp [h1]
      clear h83 h1
      go_wp2_with (first | (go_at_call 35; refine HSN.out.mono ?_; rintro e w2 ⟨rfl, rfl⟩) | (refine wpList_store_row rfl 70 _ _ rfl N (th0.cells (.slice none 0 0)) rfl rfl 70 (th0.cells (.slice none 0 0)) (X.out.blk 0 rfl) (by kernel_rfl) rfl (TH.one _ _ _ _) ?_))
      have S2 := X.out.setR 0 rfl (th0.cells (.slice none 0 0))
      refine bodyPost_ret (results_cell_tmp2 rfl _ _ N 70 (th0.cells (.slice none 0 0)) _ _ rfl (S2.blk 0 rfl) Try.underlying70 rfl (by kernel_rfl)) rfl ?_
      exact .no HE.out (by decide) S2.bel
    · have t5 : (p0 == 0) = false := by simp [h1]
      have t6 : (p2 == 0) = true := by simp; omega
      clear h83 h1
      go_wp2_with (first | (go_at_call 35; refine HSN.out.mono ?_; rintro e w2 ⟨rfl, rfl⟩) | (refine wpList_store_row rfl 70 _ _ rfl N (th0.cells (.slice none 0 0)) rfl rfl 70 (th0.cells (.slice none 0 0)) (X.out.blk 0 rfl) (by kernel_rfl) rfl (TH.one _ _ _ _) ?_))
      have S2 := X.out.setR 0 rfl (th0.cells (.slice none 0 0))
      refine bodyPost_ret (results_cell_tmp2 rfl _ _ N 70 (th0.cells (.slice none 0 0)) _ _ rfl (S2.blk 0 rfl) Try.underlying70 rfl (by kernel_rfl)) rfl ?_
      exact .no HE.out (by decide) S2.bel
  have HE := Lib.hid (show tcE zs = 0 by unfold tcE; rw [if_neg HE0.out, HQ.out, HL.out, if_neg HE1.out, if_neg HE2.out, HW.out.1, HW.out.2, if_neg h83])
  have t5 : (p0 == 0) = false := by simp; omega
  have t6 : (p2 == 0) = false := by simp; omega
  have i1 : (20 : Int) ≤ (q : Int) := by omega
  have i2 : (q : Int) ≤ (c : Int) := by omega
  have sl := fun W => run_slice_lohi (P := Try.prog) W Try.underlying22 hi hz1 (some ⟨b, off, none⟩) n c 20 (q : Int) 20 q rfl rfl q20 (by omega)
  have HO := Lib.hid (show tcOp zs = (zs.drop 20).take (q - 20) by unfold tcOp; rw [if_pos HE.out, HQ.out])
  have RC := Lib.hid (fun (W : World) (hb : Below w.heap.size w W) => ((R.out W hb).mid (c := c) (lo := 20) (hi := q) q20 qn hnc))
  clear h83
  go_upto_region 11 with fail
  clear c0 c1
  have hb20 : q - 20 ≤ 40 := by omega
  generalize cutA (some ⟨b, off, none⟩) c 20 = A20 at RC sl
  generalize q - 20 = q20' at RC sl HO hb20
  have X0 := Lib.hid ((X2.out.drew).pushOwn (k := .u8) (e := 5) (Below.refl _ _) OWN.nil)
  clear X2
  refine wp_region_noPanic ?_
  refine wp_region_held_drew (S := fun _ => True) (by kernel_rfl) (by trivial) (fun hHeld => ?_)
  generalize w2.drew = v0 at X0 hHeld ⊢
  refine' take_lit (i := 0) (v := _) rfl (by kernel_rfl) (by kernel_rfl) (by kernel_rfl) (fun _ _ _ h => h) (Or.inl ⟨by rfl, ?yy44⟩) (by assumption) ?rr44
  case yy44 => intro w' hSw; (try dsimp only at hSw); go_simp; try (with_reducible rfl)
  (try simp only [Act.put]); (try simp only [List.setIfInBounds_toArray, List.set_cons_zero, List.set_cons_succ])
  refine' take_lit (i := 2) (v := _) rfl (by kernel_rfl) (by kernel_rfl) (by kernel_rfl) (fun _ _ _ h => h) (Or.inl ⟨by rfl, ?yy45⟩) (by assumption) ?rr45
  case yy45 => intro w' hSw; (try dsimp only at hSw); go_simp; try (with_reducible rfl)
  (try simp only [Act.put]); (try simp only [List.setIfInBounds_toArray, List.set_cons_zero, List.set_cons_succ])
  refine' take_lit (i := 3) (v := _) rfl (by kernel_rfl) (by kernel_rfl) (by kernel_rfl) (fun _ _ _ h => h) (Or.inl ⟨by rfl, ?yy46⟩) (by assumption) ?rr46
  case yy46 => intro w' hSw; (try dsimp only at hSw); go_simp; try (with_reducible rfl)
  (try simp only [Act.put]); (try simp only [List.setIfInBounds_toArray, List.set_cons_zero, List.set_cons_succ])
  refine' take_lit (i := 4) (v := _) rfl (by kernel_rfl) (by kernel_rfl) (by kernel_rfl) (fun _ _ _ h => h) (Or.inl ⟨by rfl, ?yy47⟩) (by assumption) ?rr47
  case yy47 => intro w' hSw; (try dsimp only at hSw); go_simp; try (with_reducible rfl)
  (try simp only [Act.put]); (try simp only [List.setIfInBounds_toArray, List.set_cons_zero, List.set_cons_succ])
  refine wpAnyH_ready (rs := [1]) (by kernel_rfl) (by simp) ?_
  refine cons_lit rfl (fun K hK => ?ss1x48) AllReadyH.nil
  case ss1x48 =>
    have x7 : v0.cell? ⟨M, 7, none⟩ = some (.slice none 0 0) := X0.out.cell 1 rfl 7 rfl
    go_simp
    clear x7
    refine hK.out _ _ (by trivial) (fun hHeld => ?_)
    clear hK K
    (try simp only [Act.put]); (try simp only [List.setIfInBounds_toArray, List.set_cons_zero, List.set_cons_succ])
    refine wpAnyH_ready (rs := [5]) (by kernel_rfl) (by simp) ?_
    refine cons_lit rfl (fun K hK => ?ss5x49) AllReadyH.nil
    case ss5x49 =>
      refine step_append_rd _ (by rfl) _ _ 22 (by rfl) .u8 w.heap.size 5 i0 1 Try.underlying22 hi hz0 hz1 hz2 none 0 0 [] (by rfl) (by exact X0.out.own 2 rfl) _ A20 q20' (c - 20) _ (by rfl) (by exact RC.out _ X0.out.bel) (by simp only [maxLen]; omega) (by omega) (by exact X0.out.size) ?_
      intro A2 c2 v1 happ
      rw [Nat.zero_add, List.nil_append] at happ
      rw [Nat.zero_add]
      have X1 := Lib.hid (show SP w v1 [.blk N 70 (th0.cells (.slice none 0 0)), .blk M 70 ((TH.mk p0 p2 p4 p8 z13 p14 p18).cells (.slice none 0 0)), .own .u8 5 A2 q20' c2 (List.take q20' (List.drop 20 zs))] from X0.out.app 2 rfl happ)
      clear happ X0
      refine hK.out _ _ (by trivial) (fun hHeld => ?_)
      clear hK K
      (try simp only [Act.put]); (try simp only [List.setIfInBounds_toArray, List.set_cons_zero, List.set_cons_succ])
      refine' take_lit (i := 6) (v := _) rfl (by kernel_rfl) (by kernel_rfl) (by kernel_rfl) (fun _ _ _ h => h) (Or.inl ⟨by rfl, ?yy50⟩) (by assumption) ?rr50
      case yy50 => intro w' hSw; (try dsimp only at hSw); go_simp; try (with_reducible rfl)
      (try simp only [Act.put]); (try simp only [List.setIfInBounds_toArray, List.set_cons_zero, List.set_cons_succ])
      refine wpAnyH_ready (rs := [7]) (by kernel_rfl) (by simp) ?_
      refine cons_lit rfl (fun K hK => ?ss7x51) AllReadyH.nil
      case ss7x51 =>
        have x7 : v1.cell? ⟨M, 7, none⟩ = some (.slice none 0 0) := X1.out.cell 1 rfl 7 rfl
        have f7 := X1.out.free 1 rfl 7
        go_simp
        have Y := Lib.hid (show SP w _ [.blk N 70 (th0.cells (.slice none 0 0)), .blk M 70 ((TH.mk p0 p2 p4 p8 z13 p14 p18).cells (.slice A2 q20' c2)), .own .u8 5 A2 q20' c2 (List.take q20' (List.drop 20 zs))] from X1.out.setB 1 rfl 7 (.slice A2 q20' c2))
        clear x7 f7
        refine hK.out _ _ (by trivial) (fun hHeld => ?_)
        clear hK K
        (try simp only [Act.put]); (try simp only [List.setIfInBounds_toArray, List.set_cons_zero, List.set_cons_succ])
        refine wpAnyH_done (by kernel_rfl) ?_ _
        refine NoPanic.normal ?_
        go_wp2_with (first | (refine wpList_load_row rfl 70 _ rfl M rfl 70 ((TH.mk p0 p2 p4 p8 z13 p14 p18).cells (.slice A2 q20' c2)) (0, 0) _ (Y.out.blk 1 rfl) Try.underlying70 rfl (by kernel_rfl) ?_) | (refine wpList_store_row rfl 70 _ _ rfl N ((TH.mk p0 p2 p4 p8 z13 p14 p18).cells (.slice A2 q20' c2)) rfl rfl 70 (th0.cells (.slice none 0 0)) (Y.out.blk 0 rfl) (by kernel_rfl) rfl (TH.one _ _ _ _) ?_))
        have Y2 := Y.out.setR 0 rfl ((TH.mk p0 p2 p4 p8 z13 p14 p18).cells (.slice A2 q20' c2))
        refine bodyPost_ret (results_cell_tmp2 rfl _ _ N 70 ((TH.mk p0 p2 p4 p8 z13 p14 p18).cells (.slice A2 q20' c2)) _ _ rfl (Y2.blk 0 rfl) Try.underlying70 rfl (by kernel_rfl)) rfl ?_
        refine ⟨A2, q20', c2, ?_, ?_, Y2.bel⟩
        · unfold tcHd tcTo; rw [if_pos HE.out, if_pos HE.out, HT.out, HE.out, HQ.out]; rfl
        · rw [HO.out]; exact Y2.own 2 rfl
end Go.Proofs.Ythdpcblmmjocmaa
