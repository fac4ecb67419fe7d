import Derived.WalkKit
import Derived.Lib.Hide
import Derived.Below
import Derived.Laws.OwnMore
import Derived.Deep.AppendLies
import Derived.Deep.Draws
import Derived.Maps.AppendAt
import Derived.OwnWalk
import Derived.RegionTactic
import Derived.Laws.Rows
import Derived.Laws.Tables
import Derived.Deep.RegionHeld3
import Derived.Deep.DrawnRows
import Derived.BigFrame
import Derived.ProofKit
import Derived.OpenShut
import Derived.RangeFuncNested
import Derived.RangeFuncBound
import Derived.RangeFuncCalls
import Derived.RangeFuncLeaves
import Derived.Shelf.Abstract
import Derived.Shelf.RegionOpen
import Derived.OwnWalkIn
import Derived.TacticsInMore
import Derived.LoopNIn
import Derived.LoopIn
import Derived.WalkSpells
import Derived.Deep.QuietTactic
import Derived.BigQuiet
import Derived.Laws.BitsLemmas
import Derived.Laws.BitsAllLaws
import Derived.Outline
import Derived.Laws.ResultCell
import Derived.Deep.MidRow
import Derived.Laws.EntriesVeiled
import Derived.Test.YtljbfnabnkkfeaaProg
import Derived.Test.YtljbfnabnkkfeaaTL01
import Derived.Test.YtljbfnabnkkfeaaTL02
import Derived.Test.YtljbfnabnkkfeaaTL03
import Derived.Test.YtljbfnabnkkfeaaTL04
/- Joined by program: WIpRead. -/
namespace Go.Proofs.Ytljbfnabnkkfeaa
open Go.RowKit
set_option linter.unusedVariables false
def ReadP (w : World) (zs : List Int) (e : Ending) (w' : World) : Prop :=
  ∃ A n c, e = .returned (.tuple #[(hdR zs).val (.slice A n c), .int .i64 (fromR zs), .int .i64 (toR zs), .int .i64 (ipE zs)]) ∧ OWN .u8 5 w' w.heap.size A n c (optsR zs) ∧ Below w.heap.size w w'
theorem results_cell_tmp3 {P : Program} {fn : Func} {p u1 u2 u3 : Tmp} {ty : TypeId} (h : fn.results = #[.cell p ty, .tmp u1, .tmp u2, .tmp u3]) (tmps : Array Value) (w : World) (g : Nat) (t : TypeId) (cs : Array Value) (fr : Nat × Nat) (d : TypeDesc)
    (hp : tmps.getD p undef = .pointer (some ⟨g, 0, none⟩)) (hg : w.heap[g]? = some (.cells cs t fr))
    (hu : P.underlying ty = some d) (hd : (match d with | .struct _ | .array _ _ => true | _ => false) = true) (hi : (P.info? ty).map (·.size) = some cs.size) :
    (results fn tmps).run P w = .ok (.tuple #[.agg cs, tmps.getD u1 undef, tmps.getD u2 undef, tmps.getD u3 undef]) w := by
  have hp' : tmps[p]?.getD undef = .pointer (some ⟨g, 0, none⟩) := by simpa using hp
  simp [results, h, hp', asAddr, run_loadVar_row w g t ty cs fr d hg hu hd hi]
def EXC (w : World) (M : Nat) (w' : World) : Prop := ∀ b, b ≠ M → b < w.heap.size → w'.heap[b]? = w.heap[b]?
theorem EXC.refl (w : World) (M : Nat) : EXC w M w := fun _ _ _ => rfl
theorem EXC.drew {w w' : World} {M : Nat} (h : EXC w M w') : EXC w M w'.drew := h
theorem EXC.setCell {w w' : World} {M : Nat} (h : EXC w M w') {p : Addr} (hp : p.block = M) (v : Value) : EXC w M (w'.setCell p v) := fun b h1 h2 => (heap_setCell_other _ _ _ _ (by omega)).trans (h b h1 h2)
theorem EXC.block {w w' : World} {M b : Nat} {t : TypeId} {cs : Array Value} (h : EXC w M w') (hb : BLOCK w b t cs) (hne : b ≠ M) : BLOCK w' b t cs := (h b hne hb.lt).trans hb
theorem fault_ge1 {zs : List Int} (h : 1 ≤ faultR zs) : 20 ≤ zs.length := by
  unfold faultR at h; repeat' split at h
  all_goals omega
theorem fault_ge2 {zs : List Int} (h : 2 ≤ faultR zs) : byteAt zs 0 / 16 = 4 := by
  unfold faultR at h; repeat' split at h
  all_goals omega
theorem fault_ge3 {zs : List Int} (h : 3 ≤ faultR zs) : 20 ≤ sizeR zs ∧ sizeR zs ≤ zs.length := by
  unfold faultR at h; repeat' split at h
  all_goals omega
theorem fault_ge4 {zs : List Int} (h : 4 ≤ faultR zs) : sizeR zs ≤ totalR zs ∧ totalR zs ≤ zs.length := by
  unfold faultR at h; repeat' split at h
  all_goals omega
theorem fault_ge5 {zs : List Int} (h : 5 ≤ faultR zs) : sumOf (zs.take (sizeR zs)) = 65535 := by
  unfold faultR at h; repeat' split at h
  all_goals omega
theorem fault_ge6 {zs : List Int} (h : 6 ≤ faultR zs) : wordAt zs 6 < 32768 := by
  unfold faultR at h; repeat' split at h
  all_goals omega
theorem fault_ge7 {zs : List Int} (h : 7 ≤ faultR zs) : rightB (hdOf zs).off (hdOf zs).mf (sizeR zs - 20) ((totalR zs : Int) - sizeR zs) = true := by
  unfold faultR at h; repeat' split at h
  all_goals first | omega | simp_all
theorem fault_0 {zs : List Int} (h : faultR zs = 0) : zs.length < 20 := by
  unfold faultR at h; repeat' split at h
  all_goals omega
theorem fault_1 {zs : List Int} (h : faultR zs = 1) : byteAt zs 0 / 16 ≠ 4 := by
  unfold faultR at h; repeat' split at h
  all_goals omega
theorem fault_2 {zs : List Int} (h : faultR zs = 2) : sizeR zs < 20 ∨ zs.length < sizeR zs := by
  unfold faultR at h; repeat' split at h
  all_goals omega
theorem fault_3 {zs : List Int} (h : faultR zs = 3) : totalR zs < sizeR zs ∨ zs.length < totalR zs := by
  unfold faultR at h; repeat' split at h
  all_goals omega
theorem fault_4 {zs : List Int} (h : faultR zs = 4) : sumOf (zs.take (sizeR zs)) ≠ 65535 := by
  unfold faultR at h; repeat' split at h
  all_goals omega
theorem fault_5 {zs : List Int} (h : faultR zs = 5) : 32768 ≤ wordAt zs 6 := by
  unfold faultR at h; repeat' split at h
  all_goals omega
theorem fault_6 {zs : List Int} (h : faultR zs = 6) : rightB (hdOf zs).off (hdOf zs).mf (sizeR zs - 20) ((totalR zs : Int) - sizeR zs) = false := by
  unfold faultR at h; repeat' split at h
  all_goals first | omega | simp_all
theorem totalR_le {zs : List Int} (hz : BD 255 zs) : totalR zs ≤ 65535 := by
  have := wordAt_bd hz 2
  unfold totalR; omega
def STK (w0 : World) (N : Nat) (A : Option Addr) (n c : Nat) (zs : List Int) (k : Nat) (w : World) : Prop :=
  (k < 7 → ST w0 N A n c zs (if k ≤ 2 then 0 else sizeR zs) (if k ≤ 3 then 0 else totalR zs) (HD.zero.cells (.slice none 0 0)) w) ∧
  (k = 7 → ∃ A1 n1 c1, ST w0 N A n c zs (sizeR zs) (totalR zs) ((hdOf zs).cells (.slice A1 n1 c1)) w ∧ OWN .u8 5 w (N + 5) A1 n1 c1 (optsOf zs))
structure RES (w0 : World) (N : Nat) (w : World) : Prop where
  r : BLOCK w (N + 1) 49 (HD.zero.cells (.slice none 0 0))
  bel : Below N w0 w
theorem ST.res {w0 w : World} {N : Nat} {A : Option Addr} {n c : Nat} {zs : List Int} {sz tot : Int} {H : Array Value} (h : ST w0 N A n c zs sz tot H w) : RES w0 N w := ⟨h.r, h.bel⟩
theorem read_fail {w0 w' : World} {zs : List Int} {N : Nat} (hN : N = w0.heap.size) (hf : faultR zs ≠ 7) (h : Below N w0 w') (v : Value)
    (hv : v = .tuple #[.agg (HD.zero.cells (.slice none 0 0)), .int .i64 0, .int .i64 0, .int .i64 (50 + faultR zs)]) : ReadP w0 zs (.returned v) w' := by
  subst hN hv
  refine ⟨none, 0, 0, ?_, ?_, h⟩
  · unfold hdR fromR toR ipE
    rw [if_neg hf, if_neg hf, if_neg hf, if_neg hf]
    rfl
  · unfold optsR
    rw [if_neg hf]
    exact OWN.nil
def ARR (N : Nat) : Value := .agg #[.func (.func 42) #[] #[.pointer (some ⟨N, 0, none⟩)], .int .i64 50, .func (.func 43) #[] #[.pointer (some ⟨N, 0, none⟩)], .int .i64 51, .func (.func 44) #[] #[.pointer (some ⟨N, 0, none⟩), .pointer (some ⟨N + 3, 0, none⟩)], .int .i64 52, .func (.func 45) #[] #[.pointer (some ⟨N, 0, none⟩), .pointer (some ⟨N + 4, 0, none⟩), .pointer (some ⟨N + 3, 0, none⟩)], .int .i64 53, .func (.func 47) #[] #[.pointer (some ⟨N, 0, none⟩), .pointer (some ⟨N + 3, 0, none⟩)], .int .i64 54, .func (.func 49) #[] #[.pointer (some ⟨N, 0, none⟩)], .int .i64 55, .func (.func 50) #[] #[.pointer (some ⟨N, 0, none⟩), .pointer (some ⟨N + 3, 0, none⟩), .pointer (some ⟨N + 2, 0, none⟩), .pointer (some ⟨N + 4, 0, none⟩)], .int .i64 56]
theorem arr_0 (N : Nat) (W : World) : (Instr.index 99 (ARR N) (.int .i64 0)).run Try.prog W = .ok (.agg #[.func (.func 42) #[] #[.pointer (some ⟨N, 0, none⟩)], .int .i64 50]) W := by kernel_rfl
theorem arr_1 (N : Nat) (W : World) : (Instr.index 99 (ARR N) (.int .i64 1)).run Try.prog W = .ok (.agg #[.func (.func 43) #[] #[.pointer (some ⟨N, 0, none⟩)], .int .i64 51]) W := by kernel_rfl
theorem arr_2 (N : Nat) (W : World) : (Instr.index 99 (ARR N) (.int .i64 2)).run Try.prog W = .ok (.agg #[.func (.func 44) #[] #[.pointer (some ⟨N, 0, none⟩), .pointer (some ⟨N + 3, 0, none⟩)], .int .i64 52]) W := by kernel_rfl
theorem arr_3 (N : Nat) (W : World) : (Instr.index 99 (ARR N) (.int .i64 3)).run Try.prog W = .ok (.agg #[.func (.func 45) #[] #[.pointer (some ⟨N, 0, none⟩), .pointer (some ⟨N + 4, 0, none⟩), .pointer (some ⟨N + 3, 0, none⟩)], .int .i64 53]) W := by kernel_rfl
theorem arr_4 (N : Nat) (W : World) : (Instr.index 99 (ARR N) (.int .i64 4)).run Try.prog W = .ok (.agg #[.func (.func 47) #[] #[.pointer (some ⟨N, 0, none⟩), .pointer (some ⟨N + 3, 0, none⟩)], .int .i64 54]) W := by kernel_rfl
theorem arr_5 (N : Nat) (W : World) : (Instr.index 99 (ARR N) (.int .i64 5)).run Try.prog W = .ok (.agg #[.func (.func 49) #[] #[.pointer (some ⟨N, 0, none⟩)], .int .i64 55]) W := by kernel_rfl
theorem arr_6 (N : Nat) (W : World) : (Instr.index 99 (ARR N) (.int .i64 6)).run Try.prog W = .ok (.agg #[.func (.func 50) #[] #[.pointer (some ⟨N, 0, none⟩), .pointer (some ⟨N + 3, 0, none⟩), .pointer (some ⟨N + 2, 0, none⟩), .pointer (some ⟨N + 4, 0, none⟩)], .int .i64 56]) W := by kernel_rfl
set_option maxHeartbeats 8000000 in
set_option maxRecDepth 100000 in
theorem read_any (A : Option Addr) (n c : Nat) (zs : List Int) (w : World) (h : RD .u8 w w.heap.size A n zs) (hz : BD 255 zs) (hn : n ≤ c) (hc : n ≤ 140737488351232) :
    Calls Try.prog 21 #[.slice A n c] w (ReadP w zs) := by
  have HL := Lib.hid h.1
  go_enter Try.func21, Try.ntmps21
  go_wp2_with fail
  rw [show w.heap.size + 1 + 1 + 1 + 1 = w.heap.size + 4 from rfl, show w.heap.size + 1 + 1 + 1 = w.heap.size + 3 from rfl, show w.heap.size + 1 + 1 = w.heap.size + 2 from rfl]
  rw [show Value.agg #[.func (.func 42) #[] #[.pointer (some ⟨w.heap.size, 0, none⟩)], .int .i64 50, .func (.func 43) #[] #[.pointer (some ⟨w.heap.size, 0, none⟩)], .int .i64 51, .func (.func 44) #[] #[.pointer (some ⟨w.heap.size, 0, none⟩), .pointer (some ⟨w.heap.size + 3, 0, none⟩)], .int .i64 52, .func (.func 45) #[] #[.pointer (some ⟨w.heap.size, 0, none⟩), .pointer (some ⟨w.heap.size + 4, 0, none⟩), .pointer (some ⟨w.heap.size + 3, 0, none⟩)], .int .i64 53, .func (.func 47) #[] #[.pointer (some ⟨w.heap.size, 0, none⟩), .pointer (some ⟨w.heap.size + 3, 0, none⟩)], .int .i64 54, .func (.func 49) #[] #[.pointer (some ⟨w.heap.size, 0, none⟩)], .int .i64 55, .func (.func 50) #[] #[.pointer (some ⟨w.heap.size, 0, none⟩), .pointer (some ⟨w.heap.size + 3, 0, none⟩), .pointer (some ⟨w.heap.size + 2, 0, none⟩), .pointer (some ⟨w.heap.size + 4, 0, none⟩)], .int .i64 56] = ARR w.heap.size from rfl]
  have hst : ST w w.heap.size A n c zs 0 0 (HD.zero.cells (.slice none 0 0)) (((((w.alloc (.cells #[.slice A n c] 23)).alloc (.cells (HD.zero.cells (.slice none 0 0)) 49)).alloc (.cells (HD.zero.cells (.slice none 0 0)) 49)).alloc (.cells #[.int .i64 0] 3)).alloc (.cells #[.int .i64 0] 3)) :=
    ⟨((((BLOCK.new w _ _).alloc _).alloc _).alloc _).alloc _, (((BLOCK.new' _ _ _ (by simp)).alloc _).alloc _).alloc _, ((BLOCK.new' _ _ _ (by simp)).alloc _).alloc _, (BLOCK.new' _ _ _ (by simp)).alloc _, BLOCK.new' _ _ _ (by simp),
      (((((Below.refl _ w).alloc (Nat.le_refl _) _).alloc (by simp) _).alloc (by simp; omega) _).alloc (by simp; omega) _).alloc (by simp; omega) _,
      ((((h.alloc (Nat.le_refl _) _).alloc (by simp) _).alloc (by simp; omega) _).alloc (by simp; omega) _).alloc (by simp; omega) _⟩
  rw [show ((((w.alloc (.cells #[.slice A n c] 23)).alloc (.cells #[.int .u8 0, .int .u16 0, .bool false, .bool false, .int .i64 0, .int .u8 0, .int .u8 0, .int .u32 0, .int .u32 0, .slice none 0 0] 49)).alloc (.cells #[.int .u8 0, .int .u16 0, .bool false, .bool false, .int .i64 0, .int .u8 0, .int .u8 0, .int .u32 0, .int .u32 0, .slice none 0 0] 49)).alloc (.cells #[.int .i64 0] 3)).alloc (.cells #[.int .i64 0] 3) = (((((w.alloc (.cells #[.slice A n c] 23)).alloc (.cells (HD.zero.cells (.slice none 0 0)) 49)).alloc (.cells (HD.zero.cells (.slice none 0 0)) 49)).alloc (.cells #[.int .i64 0] 3)).alloc (.cells #[.int .i64 0] 3)) from rfl]
  generalize (((((w.alloc (.cells #[.slice A n c] 23)).alloc (.cells (HD.zero.cells (.slice none 0 0)) 49)).alloc (.cells (HD.zero.cells (.slice none 0 0)) 49)).alloc (.cells #[.int .i64 0] 3)).alloc (.cells #[.int .i64 0] 3)) = w1 at hst ⊢
  obtain ⟨N, hN⟩ : ∃ N, N = w.heap.size := ⟨_, rfl⟩
  rw [← hN] at hst ⊢
  have HN := Lib.hid hN
  have HF := Lib.hid (faultR_le zs)
  clear hN h
  have a0 := arr_0 N
  have a1 := arr_1 N
  have a2 := arr_2 N
  have a3 := arr_3 N
  have a4 := arr_4 N
  have a5 := arr_5 N
  have a6 := arr_6 N
  generalize ARR N = arr at a0 a1 a2 a3 a4 a5 a6 ⊢
  go_loopw [26] (fun i wr => ∃ k : Nat, k ≤ 7 ∧ Hid (k ≤ faultR zs) ∧ i = .int .i64 k ∧ Hid (STK w N A n c zs k wr)) (fun i _ => 7 - (intOf i).toNat)
  case atStart => exact ⟨0, by omega, Lib.hid (Nat.zero_le _), rfl, Lib.hid ⟨fun _ => hst, fun h => by omega⟩⟩
  case round =>
    obtain ⟨k, hk, HK, rfl, HS⟩ := hrel
    clear hst
    obtain ⟨wo, rfl⟩ : ∃ wo : World, wo = wr := ⟨_, rfl⟩
    rcases (show k = 0 ∨ k = 1 ∨ k = 2 ∨ k = 3 ∨ k = 4 ∨ k = 5 ∨ k = 6 ∨ k = 7 by omega) with rfl | rfl | rfl | rfl | rfl | rfl | rfl | rfl
    · have hst : ST w N A n c zs 0 0 (HD.zero.cells (.slice none 0 0)) wo := HS.out.1 (by omega)
      have HX := hst.next (((Below.refl _ wo).alloc (Nat.le_refl _) (.cells #[.func (.func 42) #[] #[.pointer (some ⟨N, 0, none⟩)], .int .i64 50] 95)))
      have XB : BLOCK (wo.alloc (.cells #[.func (.func 42) #[] #[.pointer (some ⟨N, 0, none⟩)], .int .i64 50] 95)) wo.heap.size 95 #[.func (.func 42) #[] #[.pointer (some ⟨N, 0, none⟩)], .int .i64 50] := BLOCK.new wo _ _
      have hsz := hst.siz
      have HXX := Lib.hid HX
      have a := a0
      clear a0 a1 a2 a3 a4 a5 a6
      by_cases hf : faultR zs = 0
      · have hB : decide (n < 20) = true := decide_eq_true (by have := fault_0 hf; have := HL.out; first | assumption | omega)
        have HBB := Lib.hid hB
        have HFF := Lib.hid hf
        have XBB := Lib.hid XB
        clear hB hf HX XB hst
        go_wp2_with fail
        refine (f1_any w N A n c zs 0 0 _ _ true (by exact HXX.out) (by omega) HBB.out).mono ?_
        rintro e w2 ⟨rfl, hw⟩; have ST2 : ST w N A n c zs 0 0 (HD.zero.cells (.slice none 0 0)) w2 := hw ▸ HXX.out; have O2 : OLD N (wo.alloc (.cells #[.func (.func 42) #[] #[.pointer (some ⟨N, 0, none⟩)], .int .i64 50] 95)) w2 := hw ▸ OLD.refl N _; clear hw
        have xb : BLOCK w2 wo.heap.size 95 #[.func (.func 42) #[] #[.pointer (some ⟨N, 0, none⟩)], .int .i64 50] := (O2 _ hsz (by simp)).trans XBB.out
        have rr := ST2.res
        have xc : w2.cell? ⟨wo.heap.size, 1, none⟩ = some (.int .i64 50) := xb.cell 1
        have hne : wo.heap.size ≠ N + 1 := by omega
        have hrr := rr.r
        have f0 := hrr.cell 0
        have f1 := hrr.cell 1
        have f2 := hrr.cell 2
        have f3 := hrr.cell 3
        have f4 := hrr.cell 4
        have f5 := hrr.cell 5
        have f6 := hrr.cell 6
        have f7 := hrr.cell 7
        have f8 := hrr.cell 8
        have f9 := hrr.cell 9
        have g0 := hrr.free 0
        have g1 := hrr.free 1
        have g2 := hrr.free 2
        have g3 := hrr.free 3
        have g4 := hrr.free 4
        have g5 := hrr.free 5
        have g6 := hrr.free 6
        have g7 := hrr.free 7
        have g8 := hrr.free 8
        have g9 := hrr.free 9
        simp only [HD.cells, HD.zero, List.getElem?_toArray, List.getElem?_cons_zero, List.getElem?_cons_succ] at f0 f1 f2 f3 f4 f5 f6 f7 f8 f9
        have HKK := Lib.hid (fun (W' : World) (he : EXC w2 (N + 1) W') => (show EXC w2 (N + 1) W' ∧ W'.cell? ⟨wo.heap.size, 1, none⟩ = some (.int .i64 50) from ⟨he, (he.block xb hne).cell 1⟩))
        have RR := Lib.hid rr
        have hlt2 : N + 1 < w2.heap.size := hrr.lt
        clear ST2 O2 XBB xb rr hrr HXX
        go_wp2_with fail
        go_region_held3 (fun W' => EXC w2 (N + 1) W' ∧ W'.cell? ⟨wo.heap.size, 1, none⟩ = some (.int .i64 50)) ((with_reducible refine HKK.out _ ?_; (repeat' (first | (with_reducible exact EXC.refl _ _) | (with_reducible refine EXC.drew ?_) | (with_reducible refine EXC.setCell ?_ (by rfl) _))))) (fail)
        go_wp2_with fail
        clear f0 f1 f2 f3 f4 f5 f6 f7 f8 f9 g0 g1 g2 g3 g4 g5 g6 g7 g8 g9
        have hblk := set10_block (.int .u8 0) (.int .u16 0) (.bool false) (.bool false) (.int .i64 0) (.int .u8 0) (.int .u8 0) (.int .u32 0) (.int .u32 0) (.slice none 0 0) RR.out.r rfl
        refine bodyPost_ret (results_cell_tmp3 rfl _ _ (N + 1) 49 _ _ _ rfl hblk.drew Try.underlying49 rfl (by kernel_rfl)) rfl (read_fail HN.out (by rw [HFF.out]; omega) (set10_below _ _ _ _ _ _ _ _ _ _ RR.out.bel (by omega)).drew _ (by rw [HFF.out]; rfl))
      · have hB : decide (n < 20) = false := decide_eq_false (by have := fault_ge1 (zs := zs) (by have := HK.out; omega); have := HL.out; first | omega | simp_all)
        have HBB := Lib.hid hB
        have HFF := Lib.hid hf
        clear hB hf HX XB hst
        go_wp2_with fail
        refine (f1_any w N A n c zs 0 0 _ _ false (by exact HXX.out) (by omega) HBB.out).mono ?_
        rintro e w2 ⟨rfl, hw⟩; have ST2 : ST w N A n c zs 0 0 (HD.zero.cells (.slice none 0 0)) w2 := hw ▸ HXX.out; have O2 : OLD N (wo.alloc (.cells #[.func (.func 42) #[] #[.pointer (some ⟨N, 0, none⟩)], .int .i64 50] 95)) w2 := hw ▸ OLD.refl N _; clear hw
        clear O2 HXX
        go_wp2_with fail
        go_roundw
        case rel => exact ⟨1, by omega, Lib.hid (by have := HK.out; have := HFF.out; omega), rfl, Lib.hid ⟨fun _ => ST2, fun h => by omega⟩⟩
        case measure => simp [intOf]
    · have hst : ST w N A n c zs 0 0 (HD.zero.cells (.slice none 0 0)) wo := HS.out.1 (by omega)
      have q1 : 20 ≤ n := by have := fault_ge1 (zs := zs) (by have := HK.out; omega); have := HL.out; omega
      have HX := hst.next (((Below.refl _ wo).alloc (Nat.le_refl _) (.cells #[.func (.func 43) #[] #[.pointer (some ⟨N, 0, none⟩)], .int .i64 51] 95)))
      have XB : BLOCK (wo.alloc (.cells #[.func (.func 43) #[] #[.pointer (some ⟨N, 0, none⟩)], .int .i64 51] 95)) wo.heap.size 95 #[.func (.func 43) #[] #[.pointer (some ⟨N, 0, none⟩)], .int .i64 51] := BLOCK.new wo _ _
      have hsz := hst.siz
      have HXX := Lib.hid HX
      have a := a1
      clear a0 a1 a2 a3 a4 a5 a6
      by_cases hf : faultR zs = 1
      · have hB : decide (byteAt zs 0 / 16 ≠ 4) = true := decide_eq_true (by have := fault_1 hf; have := HL.out; first | assumption | omega)
        have HBB := Lib.hid hB
        have HFF := Lib.hid hf
        have XBB := Lib.hid XB
        clear hB hf HX XB hst
        go_wp2_with fail
        refine (f2_any w N A n c zs 0 0 _ _ true (by exact HXX.out) (by omega) q1 hz HBB.out).mono ?_
        rintro e w2 ⟨rfl, hw⟩; have ST2 : ST w N A n c zs 0 0 (HD.zero.cells (.slice none 0 0)) w2 := hw ▸ HXX.out; have O2 : OLD N (wo.alloc (.cells #[.func (.func 43) #[] #[.pointer (some ⟨N, 0, none⟩)], .int .i64 51] 95)) w2 := hw ▸ OLD.refl N _; clear hw
        have xb : BLOCK w2 wo.heap.size 95 #[.func (.func 43) #[] #[.pointer (some ⟨N, 0, none⟩)], .int .i64 51] := (O2 _ hsz (by simp)).trans XBB.out
        have rr := ST2.res
        have xc : w2.cell? ⟨wo.heap.size, 1, none⟩ = some (.int .i64 51) := xb.cell 1
        have hne : wo.heap.size ≠ N + 1 := by omega
        have hrr := rr.r
        have f0 := hrr.cell 0
        have f1 := hrr.cell 1
        have f2 := hrr.cell 2
        have f3 := hrr.cell 3
        have f4 := hrr.cell 4
        have f5 := hrr.cell 5
        have f6 := hrr.cell 6
        have f7 := hrr.cell 7
        have f8 := hrr.cell 8
        have f9 := hrr.cell 9
        have g0 := hrr.free 0
        have g1 := hrr.free 1
        have g2 := hrr.free 2
        have g3 := hrr.free 3
        have g4 := hrr.free 4
        have g5 := hrr.free 5
        have g6 := hrr.free 6
        have g7 := hrr.free 7
        have g8 := hrr.free 8
        have g9 := hrr.free 9
        simp only [HD.cells, HD.zero, List.getElem?_toArray, List.getElem?_cons_zero, List.getElem?_cons_succ] at f0 f1 f2 f3 f4 f5 f6 f7 f8 f9
        have HKK := Lib.hid (fun (W' : World) (he : EXC w2 (N + 1) W') => (show EXC w2 (N + 1) W' ∧ W'.cell? ⟨wo.heap.size, 1, none⟩ = some (.int .i64 51) from ⟨he, (he.block xb hne).cell 1⟩))
        have RR := Lib.hid rr
        have hlt2 : N + 1 < w2.heap.size := hrr.lt
        clear ST2 O2 XBB xb rr hrr HXX
        go_wp2_with fail
        go_region_held3 (fun W' => EXC w2 (N + 1) W' ∧ W'.cell? ⟨wo.heap.size, 1, none⟩ = some (.int .i64 51)) ((with_reducible refine HKK.out _ ?_; (repeat' (first | (with_reducible exact EXC.refl _ _) | (with_reducible refine EXC.drew ?_) | (with_reducible refine EXC.setCell ?_ (by rfl) _))))) (fail)
        go_wp2_with fail
        clear f0 f1 f2 f3 f4 f5 f6 f7 f8 f9 g0 g1 g2 g3 g4 g5 g6 g7 g8 g9
        have hblk := set10_block (.int .u8 0) (.int .u16 0) (.bool false) (.bool false) (.int .i64 0) (.int .u8 0) (.int .u8 0) (.int .u32 0) (.int .u32 0) (.slice none 0 0) RR.out.r rfl
        refine bodyPost_ret (results_cell_tmp3 rfl _ _ (N + 1) 49 _ _ _ rfl hblk.drew Try.underlying49 rfl (by kernel_rfl)) rfl (read_fail HN.out (by rw [HFF.out]; omega) (set10_below _ _ _ _ _ _ _ _ _ _ RR.out.bel (by omega)).drew _ (by rw [HFF.out]; rfl))
      · have hB : decide (byteAt zs 0 / 16 ≠ 4) = false := decide_eq_false (by have := fault_ge2 (zs := zs) (by have := HK.out; omega); have := HL.out; first | omega | simp_all)
        have HBB := Lib.hid hB
        have HFF := Lib.hid hf
        clear hB hf HX XB hst
        go_wp2_with fail
        refine (f2_any w N A n c zs 0 0 _ _ false (by exact HXX.out) (by omega) q1 hz HBB.out).mono ?_
        rintro e w2 ⟨rfl, hw⟩; have ST2 : ST w N A n c zs 0 0 (HD.zero.cells (.slice none 0 0)) w2 := hw ▸ HXX.out; have O2 : OLD N (wo.alloc (.cells #[.func (.func 43) #[] #[.pointer (some ⟨N, 0, none⟩)], .int .i64 51] 95)) w2 := hw ▸ OLD.refl N _; clear hw
        clear O2 HXX
        go_wp2_with fail
        go_roundw
        case rel => exact ⟨2, by omega, Lib.hid (by have := HK.out; have := HFF.out; omega), rfl, Lib.hid ⟨fun _ => ST2, fun h => by omega⟩⟩
        case measure => simp [intOf]
    · have hst : ST w N A n c zs 0 0 (HD.zero.cells (.slice none 0 0)) wo := HS.out.1 (by omega)
      have q1 : 20 ≤ n := by have := fault_ge1 (zs := zs) (by have := HK.out; omega); have := HL.out; omega
      have HX := hst.next (((Below.refl _ wo).alloc (Nat.le_refl _) (.cells #[.func (.func 44) #[] #[.pointer (some ⟨N, 0, none⟩), .pointer (some ⟨N + 3, 0, none⟩)], .int .i64 52] 95)))
      have XB : BLOCK (wo.alloc (.cells #[.func (.func 44) #[] #[.pointer (some ⟨N, 0, none⟩), .pointer (some ⟨N + 3, 0, none⟩)], .int .i64 52] 95)) wo.heap.size 95 #[.func (.func 44) #[] #[.pointer (some ⟨N, 0, none⟩), .pointer (some ⟨N + 3, 0, none⟩)], .int .i64 52] := BLOCK.new wo _ _
      have hsz := hst.siz
      have HXX := Lib.hid HX
      have a := a2
      clear a0 a1 a2 a3 a4 a5 a6
      by_cases hf : faultR zs = 2
      · have hB : decide (sizeR zs < 20 ∨ n < sizeR zs) = true := decide_eq_true (by have := fault_2 hf; have := HL.out; first | assumption | omega)
        have HBB := Lib.hid hB
        have HFF := Lib.hid hf
        have XBB := Lib.hid XB
        clear hB hf HX XB hst
        go_wp2_with fail
        refine (f3_any w N A n c zs 0 0 _ _ true (by exact HXX.out) (by omega) q1 hz HBB.out).mono ?_
        rintro e w2 ⟨rfl, ST2, O2⟩
        have xb : BLOCK w2 wo.heap.size 95 #[.func (.func 44) #[] #[.pointer (some ⟨N, 0, none⟩), .pointer (some ⟨N + 3, 0, none⟩)], .int .i64 52] := (O2 _ hsz (by simp)).trans XBB.out
        have rr := ST2.res
        have xc : w2.cell? ⟨wo.heap.size, 1, none⟩ = some (.int .i64 52) := xb.cell 1
        have hne : wo.heap.size ≠ N + 1 := by omega
        have hrr := rr.r
        have f0 := hrr.cell 0
        have f1 := hrr.cell 1
        have f2 := hrr.cell 2
        have f3 := hrr.cell 3
        have f4 := hrr.cell 4
        have f5 := hrr.cell 5
        have f6 := hrr.cell 6
        have f7 := hrr.cell 7
        have f8 := hrr.cell 8
        have f9 := hrr.cell 9
        have g0 := hrr.free 0
        have g1 := hrr.free 1
        have g2 := hrr.free 2
        have g3 := hrr.free 3
        have g4 := hrr.free 4
        have g5 := hrr.free 5
        have g6 := hrr.free 6
        have g7 := hrr.free 7
        have g8 := hrr.free 8
        have g9 := hrr.free 9
        simp only [HD.cells, HD.zero, List.getElem?_toArray, List.getElem?_cons_zero, List.getElem?_cons_succ] at f0 f1 f2 f3 f4 f5 f6 f7 f8 f9
        have HKK := Lib.hid (fun (W' : World) (he : EXC w2 (N + 1) W') => (show EXC w2 (N + 1) W' ∧ W'.cell? ⟨wo.heap.size, 1, none⟩ = some (.int .i64 52) from ⟨he, (he.block xb hne).cell 1⟩))
        have RR := Lib.hid rr
        have hlt2 : N + 1 < w2.heap.size := hrr.lt
        clear ST2 O2 XBB xb rr hrr HXX
        go_wp2_with fail
        go_region_held3 (fun W' => EXC w2 (N + 1) W' ∧ W'.cell? ⟨wo.heap.size, 1, none⟩ = some (.int .i64 52)) ((with_reducible refine HKK.out _ ?_; (repeat' (first | (with_reducible exact EXC.refl _ _) | (with_reducible refine EXC.drew ?_) | (with_reducible refine EXC.setCell ?_ (by rfl) _))))) (fail)
        go_wp2_with fail
        clear f0 f1 f2 f3 f4 f5 f6 f7 f8 f9 g0 g1 g2 g3 g4 g5 g6 g7 g8 g9
        have hblk := set10_block (.int .u8 0) (.int .u16 0) (.bool false) (.bool false) (.int .i64 0) (.int .u8 0) (.int .u8 0) (.int .u32 0) (.int .u32 0) (.slice none 0 0) RR.out.r rfl
        refine bodyPost_ret (results_cell_tmp3 rfl _ _ (N + 1) 49 _ _ _ rfl hblk.drew Try.underlying49 rfl (by kernel_rfl)) rfl (read_fail HN.out (by rw [HFF.out]; omega) (set10_below _ _ _ _ _ _ _ _ _ _ RR.out.bel (by omega)).drew _ (by rw [HFF.out]; rfl))
      · have hB : decide (sizeR zs < 20 ∨ n < sizeR zs) = false := decide_eq_false (by have := fault_ge3 (zs := zs) (by have := HK.out; omega); have := HL.out; first | omega | simp_all)
        have HBB := Lib.hid hB
        have HFF := Lib.hid hf
        clear hB hf HX XB hst
        go_wp2_with fail
        refine (f3_any w N A n c zs 0 0 _ _ false (by exact HXX.out) (by omega) q1 hz HBB.out).mono ?_
        rintro e w2 ⟨rfl, ST2, O2⟩
        clear O2 HXX
        go_wp2_with fail
        go_roundw
        case rel => exact ⟨3, by omega, Lib.hid (by have := HK.out; have := HFF.out; omega), rfl, Lib.hid ⟨fun _ => ST2, fun h => by omega⟩⟩
        case measure => simp [intOf]
    · have hst : ST w N A n c zs (sizeR zs) 0 (HD.zero.cells (.slice none 0 0)) wo := HS.out.1 (by omega)
      have q1 : 20 ≤ n := by have := fault_ge1 (zs := zs) (by have := HK.out; omega); have := HL.out; omega
      have q3 : 20 ≤ sizeR zs ∧ sizeR zs ≤ n := by have := fault_ge3 (zs := zs) (by have := HK.out; omega); have := HL.out; omega
      have HX := hst.next (((Below.refl _ wo).alloc (Nat.le_refl _) (.cells #[.func (.func 45) #[] #[.pointer (some ⟨N, 0, none⟩), .pointer (some ⟨N + 4, 0, none⟩), .pointer (some ⟨N + 3, 0, none⟩)], .int .i64 53] 95)))
      have XB : BLOCK (wo.alloc (.cells #[.func (.func 45) #[] #[.pointer (some ⟨N, 0, none⟩), .pointer (some ⟨N + 4, 0, none⟩), .pointer (some ⟨N + 3, 0, none⟩)], .int .i64 53] 95)) wo.heap.size 95 #[.func (.func 45) #[] #[.pointer (some ⟨N, 0, none⟩), .pointer (some ⟨N + 4, 0, none⟩), .pointer (some ⟨N + 3, 0, none⟩)], .int .i64 53] := BLOCK.new wo _ _
      have hsz := hst.siz
      have HXX := Lib.hid HX
      have a := a3
      clear a0 a1 a2 a3 a4 a5 a6
      by_cases hf : faultR zs = 3
      · have hB : decide (totalR zs < sizeR zs ∨ n < totalR zs) = true := decide_eq_true (by have := fault_3 hf; have := HL.out; first | assumption | omega)
        have HBB := Lib.hid hB
        have HFF := Lib.hid hf
        have XBB := Lib.hid XB
        clear hB hf HX XB hst
        go_wp2_with fail
        refine (f4_any w N A n c zs (sizeR zs) 0 _ _ true (by exact HXX.out) (by omega) q1 hz HBB.out).mono ?_
        rintro e w2 ⟨rfl, ST2, O2⟩
        have xb : BLOCK w2 wo.heap.size 95 #[.func (.func 45) #[] #[.pointer (some ⟨N, 0, none⟩), .pointer (some ⟨N + 4, 0, none⟩), .pointer (some ⟨N + 3, 0, none⟩)], .int .i64 53] := (O2 _ hsz (by simp)).trans XBB.out
        have rr := ST2.res
        have xc : w2.cell? ⟨wo.heap.size, 1, none⟩ = some (.int .i64 53) := xb.cell 1
        have hne : wo.heap.size ≠ N + 1 := by omega
        have hrr := rr.r
        have f0 := hrr.cell 0
        have f1 := hrr.cell 1
        have f2 := hrr.cell 2
        have f3 := hrr.cell 3
        have f4 := hrr.cell 4
        have f5 := hrr.cell 5
        have f6 := hrr.cell 6
        have f7 := hrr.cell 7
        have f8 := hrr.cell 8
        have f9 := hrr.cell 9
        have g0 := hrr.free 0
        have g1 := hrr.free 1
        have g2 := hrr.free 2
        have g3 := hrr.free 3
        have g4 := hrr.free 4
        have g5 := hrr.free 5
        have g6 := hrr.free 6
        have g7 := hrr.free 7
        have g8 := hrr.free 8
        have g9 := hrr.free 9
        simp only [HD.cells, HD.zero, List.getElem?_toArray, List.getElem?_cons_zero, List.getElem?_cons_succ] at f0 f1 f2 f3 f4 f5 f6 f7 f8 f9
        have HKK := Lib.hid (fun (W' : World) (he : EXC w2 (N + 1) W') => (show EXC w2 (N + 1) W' ∧ W'.cell? ⟨wo.heap.size, 1, none⟩ = some (.int .i64 53) from ⟨he, (he.block xb hne).cell 1⟩))
        have RR := Lib.hid rr
        have hlt2 : N + 1 < w2.heap.size := hrr.lt
        clear ST2 O2 XBB xb rr hrr HXX
        go_wp2_with fail
        go_region_held3 (fun W' => EXC w2 (N + 1) W' ∧ W'.cell? ⟨wo.heap.size, 1, none⟩ = some (.int .i64 53)) ((with_reducible refine HKK.out _ ?_; (repeat' (first | (with_reducible exact EXC.refl _ _) | (with_reducible refine EXC.drew ?_) | (with_reducible refine EXC.setCell ?_ (by rfl) _))))) (fail)
        go_wp2_with fail
        clear f0 f1 f2 f3 f4 f5 f6 f7 f8 f9 g0 g1 g2 g3 g4 g5 g6 g7 g8 g9
        have hblk := set10_block (.int .u8 0) (.int .u16 0) (.bool false) (.bool false) (.int .i64 0) (.int .u8 0) (.int .u8 0) (.int .u32 0) (.int .u32 0) (.slice none 0 0) RR.out.r rfl
        refine bodyPost_ret (results_cell_tmp3 rfl _ _ (N + 1) 49 _ _ _ rfl hblk.drew Try.underlying49 rfl (by kernel_rfl)) rfl (read_fail HN.out (by rw [HFF.out]; omega) (set10_below _ _ _ _ _ _ _ _ _ _ RR.out.bel (by omega)).drew _ (by rw [HFF.out]; rfl))
      · have hB : decide (totalR zs < sizeR zs ∨ n < totalR zs) = false := decide_eq_false (by have := fault_ge4 (zs := zs) (by have := HK.out; omega); have := HL.out; first | omega | simp_all)
        have HBB := Lib.hid hB
        have HFF := Lib.hid hf
        clear hB hf HX XB hst
        go_wp2_with fail
        refine (f4_any w N A n c zs (sizeR zs) 0 _ _ false (by exact HXX.out) (by omega) q1 hz HBB.out).mono ?_
        rintro e w2 ⟨rfl, ST2, O2⟩
        clear O2 HXX
        go_wp2_with fail
        go_roundw
        case rel => exact ⟨4, by omega, Lib.hid (by have := HK.out; have := HFF.out; omega), rfl, Lib.hid ⟨fun _ => ST2, fun h => by omega⟩⟩
        case measure => simp [intOf]
    · have hst : ST w N A n c zs (sizeR zs) (totalR zs) (HD.zero.cells (.slice none 0 0)) wo := HS.out.1 (by omega)
      have q1 : 20 ≤ n := by have := fault_ge1 (zs := zs) (by have := HK.out; omega); have := HL.out; omega
      have q3 : 20 ≤ sizeR zs ∧ sizeR zs ≤ n := by have := fault_ge3 (zs := zs) (by have := HK.out; omega); have := HL.out; omega
      have q4 : sizeR zs ≤ totalR zs ∧ totalR zs ≤ n := by have := fault_ge4 (zs := zs) (by have := HK.out; omega); have := HL.out; omega
      have HX := hst.next (((Below.refl _ wo).alloc (Nat.le_refl _) (.cells #[.func (.func 47) #[] #[.pointer (some ⟨N, 0, none⟩), .pointer (some ⟨N + 3, 0, none⟩)], .int .i64 54] 95)))
      have XB : BLOCK (wo.alloc (.cells #[.func (.func 47) #[] #[.pointer (some ⟨N, 0, none⟩), .pointer (some ⟨N + 3, 0, none⟩)], .int .i64 54] 95)) wo.heap.size 95 #[.func (.func 47) #[] #[.pointer (some ⟨N, 0, none⟩), .pointer (some ⟨N + 3, 0, none⟩)], .int .i64 54] := BLOCK.new wo _ _
      have hsz := hst.siz
      have HXX := Lib.hid HX
      have a := a4
      clear a0 a1 a2 a3 a4 a5 a6
      by_cases hf : faultR zs = 4
      · have hB : decide (sumOf (zs.take (sizeR zs)) ≠ 65535) = true := decide_eq_true (by have := fault_4 hf; have := HL.out; first | assumption | omega)
        have HBB := Lib.hid hB
        have HFF := Lib.hid hf
        have XBB := Lib.hid XB
        clear hB hf HX XB hst
        go_wp2_with fail
        refine (f5_any w N A n c zs (sizeR zs) (totalR zs) _ _ true (by exact HXX.out) hn (by omega) q3.2 hz HBB.out).mono ?_
        rintro e w2 ⟨rfl, ST2, O2⟩
        have xb : BLOCK w2 wo.heap.size 95 #[.func (.func 47) #[] #[.pointer (some ⟨N, 0, none⟩), .pointer (some ⟨N + 3, 0, none⟩)], .int .i64 54] := (O2 _ hsz (by simp)).trans XBB.out
        have rr := ST2.res
        have xc : w2.cell? ⟨wo.heap.size, 1, none⟩ = some (.int .i64 54) := xb.cell 1
        have hne : wo.heap.size ≠ N + 1 := by omega
        have hrr := rr.r
        have f0 := hrr.cell 0
        have f1 := hrr.cell 1
        have f2 := hrr.cell 2
        have f3 := hrr.cell 3
        have f4 := hrr.cell 4
        have f5 := hrr.cell 5
        have f6 := hrr.cell 6
        have f7 := hrr.cell 7
        have f8 := hrr.cell 8
        have f9 := hrr.cell 9
        have g0 := hrr.free 0
        have g1 := hrr.free 1
        have g2 := hrr.free 2
        have g3 := hrr.free 3
        have g4 := hrr.free 4
        have g5 := hrr.free 5
        have g6 := hrr.free 6
        have g7 := hrr.free 7
        have g8 := hrr.free 8
        have g9 := hrr.free 9
        simp only [HD.cells, HD.zero, List.getElem?_toArray, List.getElem?_cons_zero, List.getElem?_cons_succ] at f0 f1 f2 f3 f4 f5 f6 f7 f8 f9
        have HKK := Lib.hid (fun (W' : World) (he : EXC w2 (N + 1) W') => (show EXC w2 (N + 1) W' ∧ W'.cell? ⟨wo.heap.size, 1, none⟩ = some (.int .i64 54) from ⟨he, (he.block xb hne).cell 1⟩))
        have RR := Lib.hid rr
        have hlt2 : N + 1 < w2.heap.size := hrr.lt
        clear ST2 O2 XBB xb rr hrr HXX
        go_wp2_with fail
        go_region_held3 (fun W' => EXC w2 (N + 1) W' ∧ W'.cell? ⟨wo.heap.size, 1, none⟩ = some (.int .i64 54)) ((with_reducible refine HKK.out _ ?_; (repeat' (first | (with_reducible exact EXC.refl _ _) | (with_reducible refine EXC.drew ?_) | (with_reducible refine EXC.setCell ?_ (by rfl) _))))) (fail)
        go_wp2_with fail
        clear f0 f1 f2 f3 f4 f5 f6 f7 f8 f9 g0 g1 g2 g3 g4 g5 g6 g7 g8 g9
        have hblk := set10_block (.int .u8 0) (.int .u16 0) (.bool false) (.bool false) (.int .i64 0) (.int .u8 0) (.int .u8 0) (.int .u32 0) (.int .u32 0) (.slice none 0 0) RR.out.r rfl
        refine bodyPost_ret (results_cell_tmp3 rfl _ _ (N + 1) 49 _ _ _ rfl hblk.drew Try.underlying49 rfl (by kernel_rfl)) rfl (read_fail HN.out (by rw [HFF.out]; omega) (set10_below _ _ _ _ _ _ _ _ _ _ RR.out.bel (by omega)).drew _ (by rw [HFF.out]; rfl))
      · have hB : decide (sumOf (zs.take (sizeR zs)) ≠ 65535) = false := decide_eq_false (by have := fault_ge5 (zs := zs) (by have := HK.out; omega); have := HL.out; first | omega | simp_all)
        have HBB := Lib.hid hB
        have HFF := Lib.hid hf
        clear hB hf HX XB hst
        go_wp2_with fail
        refine (f5_any w N A n c zs (sizeR zs) (totalR zs) _ _ false (by exact HXX.out) hn (by omega) q3.2 hz HBB.out).mono ?_
        rintro e w2 ⟨rfl, ST2, O2⟩
        clear O2 HXX
        go_wp2_with fail
        go_roundw
        case rel => exact ⟨5, by omega, Lib.hid (by have := HK.out; have := HFF.out; omega), rfl, Lib.hid ⟨fun _ => ST2, fun h => by omega⟩⟩
        case measure => simp [intOf]
    · have hst : ST w N A n c zs (sizeR zs) (totalR zs) (HD.zero.cells (.slice none 0 0)) wo := HS.out.1 (by omega)
      have q1 : 20 ≤ n := by have := fault_ge1 (zs := zs) (by have := HK.out; omega); have := HL.out; omega
      have q3 : 20 ≤ sizeR zs ∧ sizeR zs ≤ n := by have := fault_ge3 (zs := zs) (by have := HK.out; omega); have := HL.out; omega
      have q4 : sizeR zs ≤ totalR zs ∧ totalR zs ≤ n := by have := fault_ge4 (zs := zs) (by have := HK.out; omega); have := HL.out; omega
      have HX := hst.next (((Below.refl _ wo).alloc (Nat.le_refl _) (.cells #[.func (.func 49) #[] #[.pointer (some ⟨N, 0, none⟩)], .int .i64 55] 95)))
      have XB : BLOCK (wo.alloc (.cells #[.func (.func 49) #[] #[.pointer (some ⟨N, 0, none⟩)], .int .i64 55] 95)) wo.heap.size 95 #[.func (.func 49) #[] #[.pointer (some ⟨N, 0, none⟩)], .int .i64 55] := BLOCK.new wo _ _
      have hsz := hst.siz
      have HXX := Lib.hid HX
      have a := a5
      clear a0 a1 a2 a3 a4 a5 a6
      by_cases hf : faultR zs = 5
      · have hB : decide (32768 ≤ wordAt zs 6) = true := decide_eq_true (by have := fault_5 hf; have := HL.out; first | assumption | omega)
        have HBB := Lib.hid hB
        have HFF := Lib.hid hf
        have XBB := Lib.hid XB
        clear hB hf HX XB hst
        go_wp2_with fail
        refine (f6_any w N A n c zs (sizeR zs) (totalR zs) _ _ true (by exact HXX.out) (by omega) q1 hz HBB.out).mono ?_
        rintro e w2 ⟨rfl, ST2, O2⟩
        have xb : BLOCK w2 wo.heap.size 95 #[.func (.func 49) #[] #[.pointer (some ⟨N, 0, none⟩)], .int .i64 55] := (O2 _ hsz (by simp)).trans XBB.out
        have rr := ST2.res
        have xc : w2.cell? ⟨wo.heap.size, 1, none⟩ = some (.int .i64 55) := xb.cell 1
        have hne : wo.heap.size ≠ N + 1 := by omega
        have hrr := rr.r
        have f0 := hrr.cell 0
        have f1 := hrr.cell 1
        have f2 := hrr.cell 2
        have f3 := hrr.cell 3
        have f4 := hrr.cell 4
        have f5 := hrr.cell 5
        have f6 := hrr.cell 6
        have f7 := hrr.cell 7
        have f8 := hrr.cell 8
        have f9 := hrr.cell 9
        have g0 := hrr.free 0
        have g1 := hrr.free 1
        have g2 := hrr.free 2
        have g3 := hrr.free 3
        have g4 := hrr.free 4
        have g5 := hrr.free 5
        have g6 := hrr.free 6
        have g7 := hrr.free 7
        have g8 := hrr.free 8
        have g9 := hrr.free 9
        simp only [HD.cells, HD.zero, List.getElem?_toArray, List.getElem?_cons_zero, List.getElem?_cons_succ] at f0 f1 f2 f3 f4 f5 f6 f7 f8 f9
        have HKK := Lib.hid (fun (W' : World) (he : EXC w2 (N + 1) W') => (show EXC w2 (N + 1) W' ∧ W'.cell? ⟨wo.heap.size, 1, none⟩ = some (.int .i64 55) from ⟨he, (he.block xb hne).cell 1⟩))
        have RR := Lib.hid rr
        have hlt2 : N + 1 < w2.heap.size := hrr.lt
        clear ST2 O2 XBB xb rr hrr HXX
        go_wp2_with fail
        go_region_held3 (fun W' => EXC w2 (N + 1) W' ∧ W'.cell? ⟨wo.heap.size, 1, none⟩ = some (.int .i64 55)) ((with_reducible refine HKK.out _ ?_; (repeat' (first | (with_reducible exact EXC.refl _ _) | (with_reducible refine EXC.drew ?_) | (with_reducible refine EXC.setCell ?_ (by rfl) _))))) (fail)
        go_wp2_with fail
        clear f0 f1 f2 f3 f4 f5 f6 f7 f8 f9 g0 g1 g2 g3 g4 g5 g6 g7 g8 g9
        have hblk := set10_block (.int .u8 0) (.int .u16 0) (.bool false) (.bool false) (.int .i64 0) (.int .u8 0) (.int .u8 0) (.int .u32 0) (.int .u32 0) (.slice none 0 0) RR.out.r rfl
        refine bodyPost_ret (results_cell_tmp3 rfl _ _ (N + 1) 49 _ _ _ rfl hblk.drew Try.underlying49 rfl (by kernel_rfl)) rfl (read_fail HN.out (by rw [HFF.out]; omega) (set10_below _ _ _ _ _ _ _ _ _ _ RR.out.bel (by omega)).drew _ (by rw [HFF.out]; rfl))
      · have hB : decide (32768 ≤ wordAt zs 6) = false := decide_eq_false (by have := fault_ge6 (zs := zs) (by have := HK.out; omega); have := HL.out; first | omega | simp_all)
        have HBB := Lib.hid hB
        have HFF := Lib.hid hf
        clear hB hf HX XB hst
        go_wp2_with fail
        refine (f6_any w N A n c zs (sizeR zs) (totalR zs) _ _ false (by exact HXX.out) (by omega) q1 hz HBB.out).mono ?_
        rintro e w2 ⟨rfl, ST2, O2⟩
        clear O2 HXX
        go_wp2_with fail
        go_roundw
        case rel => exact ⟨6, by omega, Lib.hid (by have := HK.out; have := HFF.out; omega), rfl, Lib.hid ⟨fun _ => ST2, fun h => by omega⟩⟩
        case measure => simp [intOf]
    · have hst : ST w N A n c zs (sizeR zs) (totalR zs) (HD.zero.cells (.slice none 0 0)) wo := HS.out.1 (by omega)
      have q1 : 20 ≤ n := by have := fault_ge1 (zs := zs) (by have := HK.out; omega); have := HL.out; omega
      have q3 : 20 ≤ sizeR zs ∧ sizeR zs ≤ n := by have := fault_ge3 (zs := zs) (by have := HK.out; omega); have := HL.out; omega
      have q4 : sizeR zs ≤ totalR zs ∧ totalR zs ≤ n := by have := fault_ge4 (zs := zs) (by have := HK.out; omega); have := HL.out; omega
      have HX := hst.next (((Below.refl _ wo).alloc (Nat.le_refl _) (.cells #[.func (.func 50) #[] #[.pointer (some ⟨N, 0, none⟩), .pointer (some ⟨N + 3, 0, none⟩), .pointer (some ⟨N + 2, 0, none⟩), .pointer (some ⟨N + 4, 0, none⟩)], .int .i64 56] 95)))
      have XB : BLOCK (wo.alloc (.cells #[.func (.func 50) #[] #[.pointer (some ⟨N, 0, none⟩), .pointer (some ⟨N + 3, 0, none⟩), .pointer (some ⟨N + 2, 0, none⟩), .pointer (some ⟨N + 4, 0, none⟩)], .int .i64 56] 95)) wo.heap.size 95 #[.func (.func 50) #[] #[.pointer (some ⟨N, 0, none⟩), .pointer (some ⟨N + 3, 0, none⟩), .pointer (some ⟨N + 2, 0, none⟩), .pointer (some ⟨N + 4, 0, none⟩)], .int .i64 56] := BLOCK.new wo _ _
      have hsz := hst.siz
      have HXX := Lib.hid HX
      have a := a6
      clear a0 a1 a2 a3 a4 a5 a6
      by_cases hf : faultR zs = 6
      · have hB : decide (rightB (hdOf zs).off (hdOf zs).mf (sizeR zs - 20) ((totalR zs : Int) - sizeR zs) = false) = true := decide_eq_true (by have := fault_6 hf; have := HL.out; first | assumption | omega)
        have HBB := Lib.hid hB
        have HFF := Lib.hid hf
        have XBB := Lib.hid XB
        clear hB hf HX XB hst
        go_wp2_with fail
        refine (f7_any w N A n c zs (totalR zs) _ true (by exact HXX.out) hn hc q3.1 q3.2 q4.1 (totalR_le hz) hz HBB.out).mono ?_
        rintro e w2 ⟨O2, A1, n1, c1, rfl, ST2, own2⟩
        have xb : BLOCK w2 wo.heap.size 95 #[.func (.func 50) #[] #[.pointer (some ⟨N, 0, none⟩), .pointer (some ⟨N + 3, 0, none⟩), .pointer (some ⟨N + 2, 0, none⟩), .pointer (some ⟨N + 4, 0, none⟩)], .int .i64 56] := (O2 _ hsz (by simp)).trans XBB.out
        have rr := ST2.res
        have xc : w2.cell? ⟨wo.heap.size, 1, none⟩ = some (.int .i64 56) := xb.cell 1
        have hne : wo.heap.size ≠ N + 1 := by omega
        have hrr := rr.r
        have f0 := hrr.cell 0
        have f1 := hrr.cell 1
        have f2 := hrr.cell 2
        have f3 := hrr.cell 3
        have f4 := hrr.cell 4
        have f5 := hrr.cell 5
        have f6 := hrr.cell 6
        have f7 := hrr.cell 7
        have f8 := hrr.cell 8
        have f9 := hrr.cell 9
        have g0 := hrr.free 0
        have g1 := hrr.free 1
        have g2 := hrr.free 2
        have g3 := hrr.free 3
        have g4 := hrr.free 4
        have g5 := hrr.free 5
        have g6 := hrr.free 6
        have g7 := hrr.free 7
        have g8 := hrr.free 8
        have g9 := hrr.free 9
        simp only [HD.cells, HD.zero, List.getElem?_toArray, List.getElem?_cons_zero, List.getElem?_cons_succ] at f0 f1 f2 f3 f4 f5 f6 f7 f8 f9
        have HKK := Lib.hid (fun (W' : World) (he : EXC w2 (N + 1) W') => (show EXC w2 (N + 1) W' ∧ W'.cell? ⟨wo.heap.size, 1, none⟩ = some (.int .i64 56) from ⟨he, (he.block xb hne).cell 1⟩))
        have RR := Lib.hid rr
        have hlt2 : N + 1 < w2.heap.size := hrr.lt
        clear ST2 O2 XBB xb rr hrr HXX
        go_wp2_with fail
        go_region_held3 (fun W' => EXC w2 (N + 1) W' ∧ W'.cell? ⟨wo.heap.size, 1, none⟩ = some (.int .i64 56)) ((with_reducible refine HKK.out _ ?_; (repeat' (first | (with_reducible exact EXC.refl _ _) | (with_reducible refine EXC.drew ?_) | (with_reducible refine EXC.setCell ?_ (by rfl) _))))) (fail)
        go_wp2_with fail
        clear f0 f1 f2 f3 f4 f5 f6 f7 f8 f9 g0 g1 g2 g3 g4 g5 g6 g7 g8 g9
        have hblk := set10_block (.int .u8 0) (.int .u16 0) (.bool false) (.bool false) (.int .i64 0) (.int .u8 0) (.int .u8 0) (.int .u32 0) (.int .u32 0) (.slice none 0 0) RR.out.r rfl
        refine bodyPost_ret (results_cell_tmp3 rfl _ _ (N + 1) 49 _ _ _ rfl hblk.drew Try.underlying49 rfl (by kernel_rfl)) rfl (read_fail HN.out (by rw [HFF.out]; omega) (set10_below _ _ _ _ _ _ _ _ _ _ RR.out.bel (by omega)).drew _ (by rw [HFF.out]; rfl))
      · have hB : decide (rightB (hdOf zs).off (hdOf zs).mf (sizeR zs - 20) ((totalR zs : Int) - sizeR zs) = false) = false := decide_eq_false (by have := fault_ge7 (zs := zs) (by have := HK.out; omega); have := HL.out; first | omega | simp_all)
        have HBB := Lib.hid hB
        have HFF := Lib.hid hf
        clear hB hf HX XB hst
        go_wp2_with fail
        refine (f7_any w N A n c zs (totalR zs) _ false (by exact HXX.out) hn hc q3.1 q3.2 q4.1 (totalR_le hz) hz HBB.out).mono ?_
        rintro e w2 ⟨O2, A1, n1, c1, rfl, ST2, own2⟩
        clear O2 HXX
        go_wp2_with fail
        go_roundw
        case rel => exact ⟨7, by omega, Lib.hid (by have := HK.out; have := HFF.out; omega), rfl, Lib.hid ⟨fun h => by omega, fun _ => ⟨A1, n1, c1, ST2, own2⟩⟩⟩
        case measure => simp [intOf]
    · obtain ⟨A1, n1, c1, hst, own⟩ := HS.out.2 rfl
      have hf : faultR zs = 7 := by have := HK.out; have := HF.out; omega
      clear a0 a1 a2 a3 a4 a5 a6
      have HST := Lib.hid hst
      have HOW := Lib.hid own
      have HFF := Lib.hid hf
      have p0 : wo.cell? ⟨N + 3, 0, none⟩ = some (.int .i64 (sizeR zs)) := hst.s.cell 0
      have p1 : wo.cell? ⟨N + 4, 0, none⟩ = some (.int .i64 (totalR zs)) := hst.t.cell 0
      have hrr := hst.r
      have f0 := hrr.cell 0
      have f1 := hrr.cell 1
      have f2 := hrr.cell 2
      have f3 := hrr.cell 3
      have f4 := hrr.cell 4
      have f5 := hrr.cell 5
      have f6 := hrr.cell 6
      have f7 := hrr.cell 7
      have f8 := hrr.cell 8
      have f9 := hrr.cell 9
      have g0 := hrr.free 0
      have g1 := hrr.free 1
      have g2 := hrr.free 2
      have g3 := hrr.free 3
      have g4 := hrr.free 4
      have g5 := hrr.free 5
      have g6 := hrr.free 6
      have g7 := hrr.free 7
      have g8 := hrr.free 8
      have g9 := hrr.free 9
      simp only [HD.cells, HD.zero, List.getElem?_toArray, List.getElem?_cons_zero, List.getElem?_cons_succ] at f0 f1 f2 f3 f4 f5 f6 f7 f8 f9
      have HKK := Lib.hid (fun (W' : World) (he : EXC wo (N + 1) W') => (show EXC wo (N + 1) W' ∧ (W'.cell? ⟨N + 3, 0, none⟩ = some (.int .i64 (sizeR zs)) ∧ W'.cell? ⟨N + 4, 0, none⟩ = some (.int .i64 (totalR zs))) ∧
        (W'.cell? ⟨N + 2, 0, none⟩ = some (.int .u8 (hdOf zs).tos) ∧ W'.cell? ⟨N + 2, 1, none⟩ = some (.int .u16 (hdOf zs).id) ∧ W'.cell? ⟨N + 2, 2, none⟩ = some (.bool (hdOf zs).df) ∧ W'.cell? ⟨N + 2, 3, none⟩ = some (.bool (hdOf zs).mf) ∧ W'.cell? ⟨N + 2, 4, none⟩ = some (.int .i64 (hdOf zs).off) ∧ W'.cell? ⟨N + 2, 5, none⟩ = some (.int .u8 (hdOf zs).ttl) ∧ W'.cell? ⟨N + 2, 6, none⟩ = some (.int .u8 (hdOf zs).proto) ∧ W'.cell? ⟨N + 2, 7, none⟩ = some (.int .u32 (hdOf zs).src) ∧ W'.cell? ⟨N + 2, 8, none⟩ = some (.int .u32 (hdOf zs).dst) ∧ W'.cell? ⟨N + 2, 9, none⟩ = some (.slice A1 n1 c1))
        from ⟨he, ⟨(he.block hst.s (by omega)).cell 0, (he.block hst.t (by omega)).cell 0⟩, (he.block hst.h (by omega)).cell 0, (he.block hst.h (by omega)).cell 1, (he.block hst.h (by omega)).cell 2, (he.block hst.h (by omega)).cell 3, (he.block hst.h (by omega)).cell 4, (he.block hst.h (by omega)).cell 5, (he.block hst.h (by omega)).cell 6, (he.block hst.h (by omega)).cell 7, (he.block hst.h (by omega)).cell 8, (he.block hst.h (by omega)).cell 9⟩))
      clear hst own hf hrr HS
      go_wp2_with fail
      go_region_held3 (fun W' => EXC wo (N + 1) W' ∧ (W'.cell? ⟨N + 3, 0, none⟩ = some (.int .i64 (sizeR zs)) ∧ W'.cell? ⟨N + 4, 0, none⟩ = some (.int .i64 (totalR zs))) ∧
        (W'.cell? ⟨N + 2, 0, none⟩ = some (.int .u8 (hdOf zs).tos) ∧ W'.cell? ⟨N + 2, 1, none⟩ = some (.int .u16 (hdOf zs).id) ∧ W'.cell? ⟨N + 2, 2, none⟩ = some (.bool (hdOf zs).df) ∧ W'.cell? ⟨N + 2, 3, none⟩ = some (.bool (hdOf zs).mf) ∧ W'.cell? ⟨N + 2, 4, none⟩ = some (.int .i64 (hdOf zs).off) ∧ W'.cell? ⟨N + 2, 5, none⟩ = some (.int .u8 (hdOf zs).ttl) ∧ W'.cell? ⟨N + 2, 6, none⟩ = some (.int .u8 (hdOf zs).proto) ∧ W'.cell? ⟨N + 2, 7, none⟩ = some (.int .u32 (hdOf zs).src) ∧ W'.cell? ⟨N + 2, 8, none⟩ = some (.int .u32 (hdOf zs).dst) ∧ W'.cell? ⟨N + 2, 9, none⟩ = some (.slice A1 n1 c1)))
        ((with_reducible refine HKK.out _ ?_; (repeat' (first | (with_reducible exact EXC.refl _ _) | (with_reducible refine EXC.drew ?_) | (with_reducible refine EXC.setCell ?_ (by rfl) _))))) (fail)
      go_wp2_with fail
      clear f0 f1 f2 f3 f4 f5 f6 f7 f8 f9 g0 g1 g2 g3 g4 g5 g6 g7 g8 g9
      have hblk := set10_block (.int .u8 (hdOf zs).tos) (.int .u16 (hdOf zs).id) (.bool (hdOf zs).df) (.bool (hdOf zs).mf) (.int .i64 (hdOf zs).off) (.int .u8 (hdOf zs).ttl) (.int .u8 (hdOf zs).proto) (.int .u32 (hdOf zs).src) (.int .u32 (hdOf zs).dst) (.slice A1 n1 c1) HST.out.r rfl
      refine bodyPost_ret (results_cell_tmp3 rfl _ _ (N + 1) 49 _ _ _ rfl hblk.drew Try.underlying49 rfl (by kernel_rfl)) rfl ⟨A1, n1, c1, ?_, ?_, ?_⟩
      · unfold hdR fromR toR ipE
        rw [if_pos HFF.out, if_pos HFF.out, if_pos HFF.out, if_pos HFF.out]
        rfl
      · unfold optsR
        rw [if_pos HFF.out]
        refine OWN.drewN (set10_own _ _ _ _ _ _ _ _ _ _ (HOW.out.mono (by have := HN.out; omega)) (fun g hg => ?_)) 1
        have h1 := (HOW.out.lt g hg).1
        omega
      · have hb := HST.out.bel
        rw [HN.out] at hb
        exact (set10_below _ _ _ _ _ _ _ _ _ _ hb (by have := HN.out; omega)).drew
end Go.Proofs.Ytljbfnabnkkfeaa
