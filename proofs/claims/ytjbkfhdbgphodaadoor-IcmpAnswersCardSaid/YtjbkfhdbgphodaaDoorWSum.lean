/- csum.Sum: the sum of any bytes; nothing that lay has changed. -/
import Derived.RangeFuncNested
import Derived.RangeFuncBound
import Derived.RangeFuncCalls
import Derived.RangeFuncLeaves
import Derived.Shelf.Abstract
import Derived.Shelf.RegionOpen
import Derived.WalkKit
import Derived.OwnWalkIn
import Derived.TacticsInMore
import Derived.LoopNIn
import Derived.LoopIn
import Derived.Test.YtjbkfhdbgphodaaDoorWJoin
namespace Go.Proofs.YtjbkfhdbgphodaaDoor
open Go.RowKit Go.Shelf

attribute [local go_sem] Oper.semAt_some

/-- what a round keeps: all that lay below n₀, and the block Bs -/
def KeepB (n₀ Bs : Nat) (W W' : World) : Prop := Below n₀ W W' ∧ W'.heap[Bs]? = W.heap[Bs]?
theorem KeepB.refl (n₀ Bs : Nat) (W : World) : KeepB n₀ Bs W W := ⟨Below.refl _ _, rfl⟩
theorem KeepB.trans {n₀ Bs : Nat} {A B C : World} (h : KeepB n₀ Bs A B) (k : KeepB n₀ Bs B C) : KeepB n₀ Bs A C := ⟨h.1.trans k.1, k.2.trans h.2⟩
theorem KeepB.book {n₀ Bs : Nat} {w : World} (hn : n₀ ≤ w.heap.size) (hBs : Bs < w.heap.size) (W : World) (l : Nat) (o o' : Obj) (hl : w.heap.size ≤ l) (h : W.heap[l]? = some o) (h1 : o.isCells = false) (h2 : o.isWalk = false) : KeepB n₀ Bs W (W.putObj l o') :=
  ⟨belowK_b hn W l o o' hl h h1 h2, (grownBy_putObj' W l o').block Bs (by have := (Array.getElem?_eq_some_iff.1 h).1; omega) (by simp; omega)⟩
theorem KeepB.cell {n₀ Bs : Nat} {W W' : World} (h : KeepB n₀ Bs W W') (o : Nat) : W'.cell? ⟨Bs, o, none⟩ = W.cell? ⟨Bs, o, none⟩ := World.cell?_of_block h.2

set_option maxRecDepth 100000 in
set_option maxHeartbeats 2000000 in
/-- the closure of csum.words -/
theorem wordsc_in (F : Fence) (n : Nat) (h7 : F.fn 101) (hro : F.round = none) (hn : 1 ≤ n) (l Bs n₀ len cap : Nat) (A : Option Addr) (zs : List Int) (hz : ∀ x ∈ zs, 0 ≤ x ∧ x ≤ 255) (hreach : len ≤ 140737488355328) (J Jx : List W16 → World → Prop)
    (hY : ∀ pre x W, J pre W → pre.length < (len + 1) / 2 → YieldAt F (n - 1) Tryd.prog l #[.int .u16 x.1] W fun e W' =>
      (e = .returned (.bool true) ∧ J (pre ++ [x]) W' ∧ KeepB n₀ Bs W W') ∨ (e = .returned (.bool false) ∧ Jx (pre ++ [x]) W'))
    (W : World) (hBs : W.cell? ⟨Bs, 0, none⟩ = some (.slice A len cap)) (hc : RD .u8 W n₀ A len zs) (h0 : J [] W) :
    CallsIn F n Tryd.prog 101 #[.func (.yield l) #[] #[], .pointer (some ⟨Bs, 0, none⟩)] W fun e W' => (∃ v, e = .returned v) ∧
      ((∃ ys, ys = upto (fun j => wordW zs hz (2 * j)) ((len + 1) / 2) ∧ J ys W') ∨ (∃ pre, True ∧ Jx pre W')) := by
  refine callsIn_of_wp Tryd.func101 rfl h7 ?_ hro
  simp only [Tryd.ntmps101, List.size_toArray, List.length_cons, List.length_nil, Nat.reduceAdd, Nat.reduceSub, Array.replicate_succ, Array.replicate_zero, List.push_toArray, List.append_toArray, List.nil_append, List.cons_append]
  gi_wp2
  gi_loopw [3] (fun i wr => ∃ k : Nat, 2 * k ≤ len + 1 ∧ i = .int .i64 (2 * k : Nat) ∧ J (upto (fun j => wordW zs hz (2 * j)) k) wr ∧ KeepB n₀ Bs W wr)
    (fun i _ => len + 2 - (intOf i).toNat)
  case atStart => exact ⟨0, Nat.zero_le _, rfl, h0, KeepB.refl _ _ _⟩
  case round =>
    obtain ⟨k, hk, rfl, hJs, hnx⟩ := hrel
    have hBs' : wr.cell? ⟨Bs, 0, none⟩ = some (.slice A len cap) := (hnx.cell 0).trans hBs
    by_cases hlt : 2 * k < len
    · obtain ⟨b, off, rfl, hb, hcc⟩ := (hc.below hnx.1).2 (by omega)
      have hc1 := hcc (2 * k) hlt
      obtain ⟨hz1, hz2⟩ := byte_bd zs hz (2 * k)
      obtain ⟨hz3, hz4⟩ := byte_bd zs hz (2 * k + 1)
      obtain ⟨fn, tmps, assign, body, hy, hR⟩ := hY _ (wordW zs hz (2 * k)) wr hJs (by rw [upto_length]; omega)
      by_cases hl2 : 2 * k + 1 < len
      · have hc2 := hcc (2 * k + 1) hl2
        have e : (wordW zs hz (2 * k)).val = bits .or .u16 (zs[2 * k]?.getD 0 * 256) (zs[2 * k + 1]?.getD 0) := (u16_or_low _ _ hz1 hz2 hz3 hz4).symm
        rw [e] at hy
        clear hcc hc hBs e
        gi_wp2
        refine hR.mono ?_
        rintro e W3 (⟨rfl, hJ3, hk3⟩ | ⟨rfl, hJx3⟩)
        · gi_wp2
          go_roundw
          case rel => exact ⟨k + 1, by omega, by go_num, by rw [upto_succ]; exact hJ3, hnx.trans hk3⟩
          case measure => simp [intOf]; omega
        · gi_wp2
          refine bodyPost_ret (results_none rfl _ _ _) rfl ?_
          exact ⟨⟨_, rfl⟩, .inr ⟨_, trivial, hJx3⟩⟩
      · have e : (wordW zs hz (2 * k)).val = zs[2 * k]?.getD 0 * 256 := by
          have hl := hc.1
          have : zs[2 * k + 1]? = none := List.getElem?_eq_none (by omega)
          simp [wordW, wordAt, this]
        rw [e] at hy
        clear hcc hc hBs e
        gi_wp2
        refine hR.mono ?_
        rintro e W3 (⟨rfl, hJ3, hk3⟩ | ⟨rfl, hJx3⟩)
        · gi_wp2
          go_roundw
          case rel => exact ⟨k + 1, by omega, by go_num, by rw [upto_succ]; exact hJ3, hnx.trans hk3⟩
          case measure => simp [intOf]; omega
        · gi_wp2
          refine bodyPost_ret (results_none rfl _ _ _) rfl ?_
          exact ⟨⟨_, rfl⟩, .inr ⟨_, trivial, hJx3⟩⟩
    · have HK : Hid (k = (len + 1) / 2) := by show k = (len + 1) / 2; omega
      gi_wp2
      go_end0
      exact ⟨⟨_, rfl⟩, .inl ⟨_, by rw [HK.out], hJs⟩⟩

set_option maxHeartbeats 1000000 in
theorem words_in (F : Fence) (n : Nat) (h5 : F.fn 99) (hro : F.round = none) (a : Option Addr) (len cap : Nat) (w : World) :
    CallsIn F n Tryd.prog 99 #[.slice a len cap] w fun e w' => e = .returned (.func (.func 101) #[] #[.pointer (some ⟨w.heap.size, 0, none⟩)]) ∧ w' = w.alloc (.cells #[.slice a len cap] 22) := by
  refine callsIn_of_wp Tryd.func99 rfl h5 ?_ hro
  simp only [Tryd.ntmps99, List.size_toArray, List.length_cons, List.length_nil, Nat.reduceAdd, Nat.reduceSub, Array.replicate_succ, Array.replicate_zero, List.push_toArray, List.append_toArray, List.nil_append, List.cons_append]
  gi_wp2
  go_ret
  exact ⟨rfl, rfl⟩

theorem words_stops (F : Fence) (n : Nat) (h7 : F.fn 101) (hro : F.round = none) (hn : 1 ≤ n) (Bs n₀ : Nat) (A : Option Addr) (len cap : Nat) (zs : List Int) (hz : ∀ x ∈ zs, 0 ≤ x ∧ x ≤ 255) (hreach : len ≤ 140737488355328) (w : World) (hBs : Bs < w.heap.size) (hn₀ : n₀ ≤ w.heap.size)
    (hc : w.cell? ⟨Bs, 0, none⟩ = some (.slice A len cap)) (hI : RD .u8 w n₀ A len zs) :
    SeqStopsK F n Tryd.prog 101 #[.pointer (some ⟨Bs, 0, none⟩)] (fun x : W16 => #[Value.int .u16 x.1]) (KeepB n₀ Bs) (fun ys => ys = upto (fun j => wordW zs hz (2 * j)) ((len + 1) / 2)) (fun _ => True) ((len + 1) / 2) w := fun l J Jx W hW _ _ hY h0 =>
  wordsc_in F n h7 hro hn l Bs n₀ len cap A zs hz hreach J Jx hY W ((hW.cell (p := ⟨Bs, 0, none⟩) hBs).trans hc) (hI.below (hW.mono hn₀)) h0

set_option maxRecDepth 100000 in
set_option maxHeartbeats 2000000 in
theorem sum_in (n : Nat) (hn : 3 ≤ n) (A : Option Addr) (len cap : Nat) (zs : List Int) (hz : ∀ x ∈ zs, 0 ≤ x ∧ x ≤ 255) (hreach : len ≤ 140737488355328) (w : World) (hI : RD .u8 w w.heap.size A len zs) :
    CallsIn Fence.wide n Tryd.prog 84 #[.slice A len cap] w fun e W' => e = .returned (.int .u16 (sumOf zs)) ∧ Below w.heap.size w W' := by
  have h1 : 1 ≤ n := by omega
  have hro : Fence.wide.round = none := rfl
  refine callsIn_of_wp_marks Tryd.func84 rfl trivial ?_ hro
  simp only [Tryd.ntmps84, List.size_toArray, List.length_cons, List.length_nil, Nat.reduceAdd, Nat.reduceSub, Array.replicate_succ, Array.replicate_zero, List.push_toArray, List.append_toArray, List.nil_append, List.cons_append]
  gi_wp2_with (refine ⟨trivial, ?_⟩; gi_at_call 99; refine (words_in Fence.wide (n - 1) trivial hro _ _ _ _).mono ?_; rintro e w' ⟨rfl, rfl⟩)
  have bS := Boxed.new w 25 (.int .u16 0)
  have bN := Boxed.new (w.alloc (.cells #[.int .u16 0] 25)) 22 (.slice A len cap)
  rw [World.size_alloc] at bN
  have hB0 : Below w.heap.size w ((w.alloc (.cells #[.int .u16 0] 25)).alloc (.cells #[.slice A len cap] 22)) := ((Below.refl _ w).alloc (Nat.le_refl _) _).alloc (by simp) _
  refine wpIn_rangeFunc_ownG hro h1 (gf := 101) (lb := #[.pointer (some ⟨w.heap.size + 1, 0, none⟩)]) rfl trivial (enters_of Tryd.func101 (by kernel_rfl) rfl)
    (words_stops Fence.wide (n - 1) trivial hro (by omega) (w.heap.size + 1) w.heap.size A len cap zs hz hreach _ (by simp) (by simp; omega) bN.cell (hI.below hB0)) KeepB.trans (KeepB.book (by simp; omega) (by simp)) (Below.refl _ _) (fun _ => rfl)
    (fun pre W => (W.cell? ⟨w.heap.size, 0, none⟩ = some (.int .u16 (sumW pre)) ∧ W.frozen? ⟨w.heap.size, 0, none⟩ = false) ∧ Below w.heap.size ((w.alloc (.cells #[.int .u16 0] 25)).alloc (.cells #[.slice A len cap] 22)) W)
    (fun _ _ _ => False)
    (OwnFrom.and (Own.from (fun s A B row hs hg hr => ⟨cell_kept hs.1 hg hr, (frozen_kept hs.1 hg hr).trans hs.2⟩) _) (ownFrom_below (by simp; omega) (by simp; omega)))
    (fun _ _ _ _ _ hs _ _ => hs)
    ⟨⟨(bS.alloc _).cell, (bS.alloc _).frozen⟩, Below.refl _ _⟩
    (fun x => { tmps := #[.slice A len cap, undef, .int .u16 0, .pointer (some ⟨w.heap.size, 0, none⟩), .int .u16 x.1, .slice A len cap, .func (.func 101) #[] #[.pointer (some ⟨w.heap.size + 1, 0, none⟩)], .int .u16 x.1, undef, undef, undef, undef, undef], defers := [] }) ?assign ?body ?done ?stop
  case assign =>
    intro l x W K hK
    gi_wp2
    exact hK
  case body =>
    rintro l pre x W ⟨⟨hc, hf⟩, hB⟩ _
    obtain ⟨hs1, hs2⟩ := sumW_bd pre
    have hx := x.2
    have hz : w.heap.size + 1 < W.heap.size := by have := hB.size; simp at this; omega
    have hz0 : w.heap.size < W.heap.size := by omega
    have HJ : Hid (foldJ 0 [sumW pre, x.1] = stepJ (sumW pre) x.1) := foldJ_two _ _ hs1 hs2
    gi_wp2_with fail
    refine ⟨trivial, (fun h => by cases h), ?_⟩
    refine (CallsIn.inRound l (callsIn_wide.2 (join_any _ 2 _ [sumW pre, x.1] _ (RD.new W .u16 25 [sumW pre, x.1]) (fun y hy => by simp at hy; omega) (by omega)))).mono ?_
    rintro e w' ⟨rfl, rfl⟩
    have hc1 : (W.alloc (.cells #[.int .u16 (sumW pre), .int .u16 x.1] 25)).cell? ⟨w.heap.size, 0, none⟩ = some (.int .u16 (sumW pre)) := (World.cell?_alloc_lt W _ ⟨w.heap.size, 0, none⟩ (by show w.heap.size < W.heap.size; omega)).trans hc
    rw [HJ.out]
    gi_wp2_with fail
    refine ⟨((KeepsOthers.setCell _ _ _).trans (KeepsOthers.alloc _ _)).from _, ⟨((Below.refl w.heap.size W).setCell (p := ⟨w.heap.size, 0, none⟩) (Nat.le_refl _) _).alloc (by simp; omega) _, ?_⟩, ⟨?_, ?_⟩, (hB.setCell (p := ⟨w.heap.size, 0, none⟩) (Nat.le_refl _) _).alloc (by simp; omega) _⟩
    · rw [Below.heap_alloc _ _ _ (by simp; omega), Below.heap_setCell _ _ _ _ (by simp)]
    · rw [World.cell?_alloc_lt _ _ _ (by simp; omega), sumW_snoc]
      exact World.cell?_setCell_same' _ _ _ (by rw [hc]; rfl)
    · simp [go_sem, hf, hz0]
  case done =>
    rintro D ys W hD rfl ⟨⟨hc, _⟩, hB⟩ hK
    gi_wp2
    refine ⟨by simp, .inl ⟨_, _, rfl, run_takeDeferred hK, ?_⟩⟩
    have hl := hI.1
    refine ⟨_, results_tmp rfl _ _ _, ?_, hB0.trans (hB.trans (belowK_b (w := w) (Nat.le_refl _) W D _ _ (by simp at hD; omega) hK rfl rfl))⟩
    rw [← hl, sumW_upto]
    rfl
  case stop =>
    rintro D c pre W _ _ h _
    exact h.elim

theorem sum_any (A : Option Addr) (n c : Nat) (zs : List Int) (w : World) (h : RD .u8 w w.heap.size A n zs) (hz : BD 255 zs) (hn : n ≤ 140737488355328) :
    Calls Tryd.prog 84 #[.slice A n c] w fun e w' => e = .returned (.int .u16 (sumOf zs)) ∧ Below w.heap.size w w' :=
  callsIn_wide.1 (sum_in 3 (by omega) A n c zs hz hn w h)
end Go.Proofs.YtjbkfhdbgphodaaDoor
