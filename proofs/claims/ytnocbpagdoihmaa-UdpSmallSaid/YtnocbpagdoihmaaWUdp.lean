/- package udp: numbers, and with. -/
import Derived.Test.YtnocbpagdoihmaaSep
import Derived.Test.YtnocbpagdoihmaaWCsum
import Derived.Test.YtnocbpagdoihmaaWSlices
import Derived.Test.YtnocbpagdoihmaaWSame
import Derived.Laws.ResultCell
import Derived.Laws.BitsLemmas
import Derived.Laws.BitsAllLaws
import Derived.Deep.RegionHeld3
import Derived.Deep.DrawnRows
import Derived.Laws.EntriesVeiled
namespace Go.Proofs.Ytnocbpagdoihmaa
open Go.RowKit
set_option linter.unusedVariables false
attribute [local go_sem ↓] Go.wp_at_zero Go.wp_at_succ

theorem wordAt_bd9 {zs : List Int} (h : BD 255 zs) (i : Nat) : 0 ≤ wordAt zs i ∧ wordAt zs i ≤ 65535 := by
  have h1 := h.get (by omega) i
  have h2 := h.get (by omega) (i + 1)
  unfold wordAt; omega
theorem i64_join9 (x y : Int) (hx0 : 0 ≤ x) (hx : x ≤ 255) (hy0 : 0 ≤ y) (hy : y ≤ 255) : bits .or .i64 (x * 256) y = x * 256 + y :=
  bits_join .i64 16 (by decide) (fun n h0 h1 => by rw [IntKind.wrap_i64]; omega) 8 (x * 256) y (by omega) (by omega) (by omega) (by omega) (by omega) (by omega)

/-- the four numbers, when k of them are there -/
def arr4 (zs : List Int) (k : Nat) : Array Value := #[.int .i64 (if 0 < k then wordAt zs 0 else 0), .int .i64 (if 1 < k then wordAt zs 2 else 0), .int .i64 (if 2 < k then wordAt zs 4 else 0), .int .i64 (if 3 < k then wordAt zs 6 else 0)]
def nums (zs : List Int) : Array Value := #[.int .i64 (wordAt zs 0), .int .i64 (wordAt zs 2), .int .i64 (wordAt zs 4), .int .i64 (wordAt zs 6)]

theorem blk4 {w : World} {N : Nat} {t : TypeId} {v0 v1 v2 v3 : Value} (h : BLOCK w N t #[v0, v1, v2, v3]) :
    (w.cell? ⟨N, 0, none⟩ = some v0 ∧ w.cell? ⟨N, 1, none⟩ = some v1 ∧ w.cell? ⟨N, 2, none⟩ = some v2 ∧ w.cell? ⟨N, 3, none⟩ = some v3) ∧
    (w.frozen? ⟨N, 0, none⟩ = false ∧ w.frozen? ⟨N, 1, none⟩ = false ∧ w.frozen? ⟨N, 2, none⟩ = false ∧ w.frozen? ⟨N, 3, none⟩ = false) :=
  ⟨⟨h.cell 0, h.cell 1, h.cell 2, h.cell 3⟩, ⟨h.free 0, h.free 1, h.free 2, h.free 3⟩⟩

set_option maxHeartbeats 2000000 in
set_option maxRecDepth 100000 in
theorem numbers_any (A : Option Addr) (n c : Nat) (zs : List Int) (w : World) (h : RD .u8 w w.heap.size A n zs) (hz : BD 255 zs) (h8 : 8 ≤ n) (hn : n ≤ 140737488355328) :
    Calls Try.prog 44 #[.slice A n c] w fun e w' => e = .returned (.agg (nums zs)) ∧ Below w.heap.size w w' := by
  obtain ⟨b, off, rfl, hb, hc⟩ := h.2 (by omega)
  have S0 := ((SP.start w).alloc 66 #[.int .i64 0, .int .i64 0, .int .i64 0, .int .i64 0]).alloc 66 #[.int .i64 0, .int .i64 0, .int .i64 0, .int .i64 0]
  have i8 : (8 : Int) ≤ (n : Int) := by omega
  have HC := Lib.hid hc
  clear hc h
  go_enter Try.func44, Try.ntmps44
  go_wp2_with fail
  go_loopw [5] (fun i wr => ∃ k : Nat, k ≤ 4 ∧ i = .int .i64 k ∧ SP w wr [.blk w.heap.size 66 #[.int .i64 0, .int .i64 0, .int .i64 0, .int .i64 0], .blk (w.heap.size + 1) 66 (arr4 zs k)]) (fun i _ => 4 - (intOf i).toNat)
  case atStart => exact ⟨0, by omega, rfl, by simpa [arr4] using S0⟩
  case round =>
    obtain ⟨k, hk, rfl, S⟩ := hrel
    clear S0
    have HS := Lib.hid S
    clear S
    rcases (show k = 0 ∨ k = 1 ∨ k = 2 ∨ k = 3 ∨ k = 4 by omega) with rfl | rfl | rfl | rfl | rfl
    · have x0 : wr.cell? ⟨b, off, none⟩ = some (.int .u8 (zs[0]?.getD 0)) := (HS.out.bel.cell (p := ⟨b, off, none⟩) hb).trans (HC.out 0 (by omega))
      have x1 : wr.cell? ⟨b, off + 1, none⟩ = some (.int .u8 (zs[1]?.getD 0)) := (HS.out.bel.cell (p := ⟨b, off + 1, none⟩) hb).trans (HC.out 1 (by omega))
      have y0 : wr.cell? ⟨w.heap.size + 1, 0, none⟩ = some (.int .i64 0) := HS.out.cell 1 rfl 0 (by simp [arr4])
      have z0 : wr.frozen? ⟨w.heap.size + 1, 0, none⟩ = false := HS.out.free 1 rfl 0
      obtain ⟨u1, u2⟩ := hz.get (by omega) 0
      obtain ⟨v1, v2⟩ := hz.get (by omega) 1
      have e5 : bits .or .i64 (zs[0]?.getD 0 * 256) (zs[1]?.getD 0) = wordAt zs 0 := i64_join9 _ _ u1 u2 v1 v2
      have S1 : SP w ((wr.setCell ⟨w.heap.size + 1, 0, none⟩ (.int .i64 (wordAt zs 0))).drew) [.blk w.heap.size 66 #[.int .i64 0, .int .i64 0, .int .i64 0, .int .i64 0], .blk (w.heap.size + 1) 66 (arr4 zs 1)] := by
        have := (HS.out.setB 1 rfl 0 (.int .i64 (wordAt zs 0))).drew
        simpa [arr4] using this
      have H1 := Lib.hid S1
      clear S1
      go_wp2_with fail
      go_region
      all_goals
        go_wp2_with fail
        go_roundw
        case rel => exact ⟨1, by omega, by go_num, H1.out⟩
        case measure => simp [intOf]
    · have x0 : wr.cell? ⟨b, off + 2, none⟩ = some (.int .u8 (zs[2]?.getD 0)) := (HS.out.bel.cell (p := ⟨b, off + 2, none⟩) hb).trans (HC.out 2 (by omega))
      have x1 : wr.cell? ⟨b, off + 3, none⟩ = some (.int .u8 (zs[3]?.getD 0)) := (HS.out.bel.cell (p := ⟨b, off + 3, none⟩) hb).trans (HC.out 3 (by omega))
      have y0 : wr.cell? ⟨w.heap.size + 1, 1, none⟩ = some (.int .i64 0) := HS.out.cell 1 rfl 1 (by simp [arr4])
      have z0 : wr.frozen? ⟨w.heap.size + 1, 1, none⟩ = false := HS.out.free 1 rfl 1
      obtain ⟨u1, u2⟩ := hz.get (by omega) 2
      obtain ⟨v1, v2⟩ := hz.get (by omega) 3
      have e5 : bits .or .i64 (zs[2]?.getD 0 * 256) (zs[3]?.getD 0) = wordAt zs 2 := i64_join9 _ _ u1 u2 v1 v2
      have S1 : SP w ((wr.setCell ⟨w.heap.size + 1, 1, none⟩ (.int .i64 (wordAt zs 2))).drew) [.blk w.heap.size 66 #[.int .i64 0, .int .i64 0, .int .i64 0, .int .i64 0], .blk (w.heap.size + 1) 66 (arr4 zs 2)] := by
        have := (HS.out.setB 1 rfl 1 (.int .i64 (wordAt zs 2))).drew
        simpa [arr4] using this
      have H1 := Lib.hid S1
      clear S1
      go_wp2_with fail
      go_region
      all_goals
        go_wp2_with fail
        go_roundw
        case rel => exact ⟨2, by omega, by go_num, H1.out⟩
        case measure => simp [intOf]
    · have x0 : wr.cell? ⟨b, off + 4, none⟩ = some (.int .u8 (zs[4]?.getD 0)) := (HS.out.bel.cell (p := ⟨b, off + 4, none⟩) hb).trans (HC.out 4 (by omega))
      have x1 : wr.cell? ⟨b, off + 5, none⟩ = some (.int .u8 (zs[5]?.getD 0)) := (HS.out.bel.cell (p := ⟨b, off + 5, none⟩) hb).trans (HC.out 5 (by omega))
      have y0 : wr.cell? ⟨w.heap.size + 1, 2, none⟩ = some (.int .i64 0) := HS.out.cell 1 rfl 2 (by simp [arr4])
      have z0 : wr.frozen? ⟨w.heap.size + 1, 2, none⟩ = false := HS.out.free 1 rfl 2
      obtain ⟨u1, u2⟩ := hz.get (by omega) 4
      obtain ⟨v1, v2⟩ := hz.get (by omega) 5
      have e5 : bits .or .i64 (zs[4]?.getD 0 * 256) (zs[5]?.getD 0) = wordAt zs 4 := i64_join9 _ _ u1 u2 v1 v2
      have S1 : SP w ((wr.setCell ⟨w.heap.size + 1, 2, none⟩ (.int .i64 (wordAt zs 4))).drew) [.blk w.heap.size 66 #[.int .i64 0, .int .i64 0, .int .i64 0, .int .i64 0], .blk (w.heap.size + 1) 66 (arr4 zs 3)] := by
        have := (HS.out.setB 1 rfl 2 (.int .i64 (wordAt zs 4))).drew
        simpa [arr4] using this
      have H1 := Lib.hid S1
      clear S1
      go_wp2_with fail
      go_region
      all_goals
        go_wp2_with fail
        go_roundw
        case rel => exact ⟨3, by omega, by go_num, H1.out⟩
        case measure => simp [intOf]
    · have x0 : wr.cell? ⟨b, off + 6, none⟩ = some (.int .u8 (zs[6]?.getD 0)) := (HS.out.bel.cell (p := ⟨b, off + 6, none⟩) hb).trans (HC.out 6 (by omega))
      have x1 : wr.cell? ⟨b, off + 7, none⟩ = some (.int .u8 (zs[7]?.getD 0)) := (HS.out.bel.cell (p := ⟨b, off + 7, none⟩) hb).trans (HC.out 7 (by omega))
      have y0 : wr.cell? ⟨w.heap.size + 1, 3, none⟩ = some (.int .i64 0) := HS.out.cell 1 rfl 3 (by simp [arr4])
      have z0 : wr.frozen? ⟨w.heap.size + 1, 3, none⟩ = false := HS.out.free 1 rfl 3
      obtain ⟨u1, u2⟩ := hz.get (by omega) 6
      obtain ⟨v1, v2⟩ := hz.get (by omega) 7
      have e5 : bits .or .i64 (zs[6]?.getD 0 * 256) (zs[7]?.getD 0) = wordAt zs 6 := i64_join9 _ _ u1 u2 v1 v2
      have S1 : SP w ((wr.setCell ⟨w.heap.size + 1, 3, none⟩ (.int .i64 (wordAt zs 6))).drew) [.blk w.heap.size 66 #[.int .i64 0, .int .i64 0, .int .i64 0, .int .i64 0], .blk (w.heap.size + 1) 66 (arr4 zs 4)] := by
        have := (HS.out.setB 1 rfl 3 (.int .i64 (wordAt zs 6))).drew
        simpa [arr4] using this
      have H1 := Lib.hid S1
      clear S1
      go_wp2_with fail
      go_region
      all_goals
        go_wp2_with fail
        go_roundw
        case rel => exact ⟨4, by omega, by go_num, H1.out⟩
        case measure => simp [intOf]
    · have B1 := (HS.out.blk 1 rfl).drew
      have y0 : wr.cell? ⟨w.heap.size + 1, 0, none⟩ = some (.int .i64 (wordAt zs 0)) := HS.out.cell 1 rfl 0 (by simp [arr4])
      have y1 : wr.cell? ⟨w.heap.size + 1, 1, none⟩ = some (.int .i64 (wordAt zs 2)) := HS.out.cell 1 rfl 1 (by simp [arr4])
      have y2 : wr.cell? ⟨w.heap.size + 1, 2, none⟩ = some (.int .i64 (wordAt zs 4)) := HS.out.cell 1 rfl 2 (by simp [arr4])
      have y3 : wr.cell? ⟨w.heap.size + 1, 3, none⟩ = some (.int .i64 (wordAt zs 6)) := HS.out.cell 1 rfl 3 (by simp [arr4])
      obtain ⟨⟨c0, c1, c2, c3⟩, ⟨f0, f1, f2, f3⟩⟩ := blk4 (HS.out.blk 0 rfl)
      have S1 := (((HS.out.setB 0 rfl 0 (.int .i64 (wordAt zs 0))).setB 0 rfl 1 (.int .i64 (wordAt zs 2))).setB 0 rfl 2 (.int .i64 (wordAt zs 4))).setB 0 rfl 3 (.int .i64 (wordAt zs 6))
      have H1 := Lib.hid S1
      clear S1 B1
      go_wp2_with fail
      refine bodyPost_ret (results_cell_row rfl _ _ w.heap.size 66 _ _ _ rfl (H1.out.blk 0 rfl) Try.underlying66 rfl (by kernel_rfl)) rfl ⟨rfl, H1.out.bel⟩
--END numbers
/-- the error of a datagram -/
def udpE (zs : List Int) : Int := if zs.length < 8 then 90 else if wordAt zs 4 < 8 ∨ (zs.length : Int) < wordAt zs 4 then 91 else if wordAt zs 2 = 0 then 92 else 0
def udpN (zs : List Int) : Nat := (wordAt zs 4).toNat
theorem udpE_ok {zs : List Int} (h : udpE zs = 0) : 8 ≤ zs.length ∧ 8 ≤ wordAt zs 4 ∧ wordAt zs 4 ≤ zs.length ∧ wordAt zs 2 ≠ 0 ∧ (udpN zs : Int) = wordAt zs 4 ∧ 8 ≤ udpN zs ∧ udpN zs ≤ zs.length := by
  unfold udpE at h
  unfold udpN
  split at h
  · omega
  · split at h
    · omega
    · split at h
      · omega
      · omega

set_option maxHeartbeats 2000000 in
set_option maxRecDepth 100000 in
theorem with_no (f : Value) (A : Option Addr) (n c : Nat) (zs : List Int) (w : World) (h : RD .u8 w w.heap.size A n zs) (hz : BD 255 zs) (hn : n ≤ 140737488355328) (hE : udpE zs ≠ 0) :
    Calls Try.prog 31 #[.slice A n c, f] w fun e w' => e = .returned (.int .i64 (udpE zs)) ∧ Below w.heap.size w w' := by
  have hl := h.len
  unfold udpE at hE ⊢
  rw [hl] at hE ⊢
  by_cases h8 : n < 8
  · have i8 : (n : Int) < 8 := by omega
    rw [if_pos h8]
    clear hE h hl
    go_enter Try.func31, Try.ntmps31
    go_wp2_with fail
    go_ret
    exact ⟨rfl, Below.refl _ _⟩
  · have i8 : ¬ (n : Int) < 8 := by omega
    rw [if_neg h8] at hE ⊢
    obtain ⟨b1, b2⟩ := wordAt_bd9 hz 4
    have H := Lib.hid h
    have HE := Lib.hid hE
    clear h hl hE
    by_cases h1 : wordAt zs 4 < 8
    · rw [if_pos (.inl h1)]
      go_enter Try.func31, Try.ntmps31
      go_wp2_with fail
      refine (numbers_any A n c zs _ H.out hz (by omega) hn).mono ?_
      rintro e w1 ⟨rfl, hb1⟩
      unfold nums
      go_wp2_with fail
      go_ret
      exact ⟨rfl, hb1.alloc hb1.size _⟩
    · by_cases h2 : (n : Int) < wordAt zs 4
      · rw [if_pos (.inr h2)]
        go_enter Try.func31, Try.ntmps31
        go_wp2_with fail
        refine (numbers_any A n c zs _ H.out hz (by omega) hn).mono ?_
        rintro e w1 ⟨rfl, hb1⟩
        unfold nums
        go_wp2_with fail
        go_ret
        exact ⟨rfl, hb1.alloc hb1.size _⟩
      · have hE := HE.out
        rw [if_neg (by omega)] at hE ⊢
        have h3 : wordAt zs 2 = 0 := by
          by_cases h3 : wordAt zs 2 = 0
          · exact h3
          · rw [if_neg h3] at hE; exact absurd rfl hE
        rw [if_pos h3]
        have t3 : (wordAt zs 2 == 0) = true := by rw [h3]; rfl
        clear hE h3
        go_enter Try.func31, Try.ntmps31
        go_wp2_with fail
        refine (numbers_any A n c zs _ H.out hz (by omega) hn).mono ?_
        rintro e w1 ⟨rfl, hb1⟩
        unfold nums
        go_wp2_with fail
        go_ret
        exact ⟨rfl, hb1.alloc hb1.size _⟩

set_option maxHeartbeats 2000000 in
set_option maxRecDepth 100000 in
theorem with_ok (F : FuncId) (hF : ∀ (args : Array Value) (w : World), (callFunc F args).run Try.prog w = .ok (.enter F args) w) (caps : Array Value) (R : World → Prop) (A : Option Addr) (n c : Nat) (zs : List Int) (w : World) (h : RD .u8 w w.heap.size A n zs) (hz : BD 255 zs) (hn : n ≤ 140737488355328) (hc : n ≤ c) (hE : udpE zs = 0)
    (hf : ∀ W : World, Below w.heap.size w W → Calls Try.prog F (#[.slice A (udpN zs) c, .agg (nums zs)] ++ caps) W fun e w' => e = .returned (.tuple #[]) ∧ R w') :
    Calls Try.prog 31 #[.slice A n c, .func (.func F) #[] caps] w fun e w' => e = .returned (.int .i64 0) ∧ R w' := by
  obtain ⟨h1, h2, h3, h4, h5, h6, h7⟩ := udpE_ok hE
  have hl := h.len
  rw [hl] at h1 h3 h7
  obtain ⟨b1, b2⟩ := wordAt_bd9 hz 4
  have i8 : ¬ (n : Int) < 8 := by omega
  have j1 : ¬ wordAt zs 4 < 8 := by omega
  have j2 : ¬ (n : Int) < wordAt zs 4 := by omega
  have j3 : (wordAt zs 2 == 0) = false := by simp [h4]
  have j4 : (0 : Int) ≤ wordAt zs 4 := by omega
  have j5 : wordAt zs 4 ≤ (c : Int) := by omega
  have j6 : (wordAt zs 4).toNat = udpN zs := rfl
  have H := Lib.hid h
  have HF := Lib.hid hf
  clear h hE hf hl h4 h5
  go_enter Try.func31, Try.ntmps31
  go_wp2_with fail
  refine (numbers_any A n c zs _ H.out hz (by omega) hn).mono ?_
  rintro e w1 ⟨rfl, hb1⟩
  have hb2 := hb1.alloc hb1.size (.cells (nums zs) 66)
  have HB2 := Lib.hid hb2
  clear hb2
  unfold nums
  go_wp2_with fail
  go_region_with ((refine (HF.out _ ?_).mono ?_
                   · exact HB2.out.drew
                   rintro e w2 ⟨rfl, hr⟩))
  all_goals
    go_wp2_with fail
    go_ret
    exact ⟨rfl, hr⟩
theorem cf_readc (args : Array Value) (w : World) : (callFunc 32 args).run Try.prog w = .ok (.enter 32 args) w := by kernel_rfl
theorem cf_verifyc (args : Array Value) (w : World) : (callFunc 33 args).run Try.prog w = .ok (.enter 33 args) w := by kernel_rfl
theorem cf_turnc (args : Array Value) (w : World) : (callFunc 34 args).run Try.prog w = .ok (.enter 34 args) w := by kernel_rfl
end Go.Proofs.Ytnocbpagdoihmaa
