import Derived.WalkKit
import Derived.Lib.Hide
import Derived.Below
import Derived.Laws.OwnMore
import Derived.Deep.AppendLies
import Derived.Deep.Draws
import Derived.Maps.AppendAt
import Derived.OwnWalk
import Derived.RegionTactic
import Derived.Laws.Rows
import Derived.Laws.Tables
import Derived.Deep.RegionHeld3
import Derived.Deep.DrawnRows
import Derived.BigFrame
import Derived.ProofKit
import Derived.OpenShut
import Derived.RangeFuncNested
import Derived.RangeFuncBound
import Derived.RangeFuncCalls
import Derived.RangeFuncLeaves
import Derived.Shelf.Abstract
import Derived.Shelf.RegionOpen
import Derived.OwnWalkIn
import Derived.TacticsInMore
import Derived.LoopNIn
import Derived.LoopIn
import Derived.WalkSpells
import Derived.Deep.QuietTactic
import Derived.BigQuiet
import Derived.Deep.DeepCutAuto
import Derived.Deep.MidRow
import Derived.Test.YtljbfnabnkkfeaaProg
import Derived.Test.YtljbfnabnkkfeaaTL01
/- Joined by program: WRng, WBase, WRow, WBags, WSpR, FgSp. -/
namespace Go.Proofs.Ytljbfnabnkkfeaa
open Go.RowKit
set_option linter.unusedVariables false
def recOf (fn : FuncId) (a : Act) (ps : Array Tmp) (assign body : Code) (D : Nat) (st : LoopState) (pe : Option Code) : Loop :=
  { state := st, pending := pe, fn, tmps := a.tmps, params := ps, assign, body, defers := D }
structure BOOK (rec : LoopState → Option Code → Loop) (D : Nat) (st : LoopState) (pe : Option Code) (W : World) : Prop where
  loop : W.heap[D + 1]? = some (.loop (rec st pe))
  dfr : W.heap[D]? = some (.deferred (some []))
section
variable {F : Fence} {m n D : Nat} {P : Program} {W W' w : World} {fn : FuncId} {a : Act} {ps : Array Tmp} {assign body : Code} {rec : LoopState → Option Code → Loop} {st st' : LoopState} {pe pe' : Option Code}
theorem BOOK.keep (h : BOOK rec D st pe W) (h1 : W'.heap[D + 1]? = W.heap[D + 1]?) (h2 : W'.heap[D]? = W.heap[D]?) : BOOK rec D st pe W' := ⟨h1.trans h.loop, h2.trans h.dfr⟩
theorem BOOK.lt (h : BOOK rec D st pe W) : D + 1 < W.heap.size := (Array.getElem?_eq_some_iff.1 h.loop).1
theorem BOOK.next (h : BOOK rec D st pe W) (hb : Below W.heap.size W W') : BOOK rec D st pe W' :=
  h.keep (hb.block _ h.lt) (hb.block _ (by have := h.lt; omega))
theorem BOOK.setCell (h : BOOK rec D st pe W) {p : Addr} (h1 : p.block ≠ D) (h2 : p.block ≠ D + 1) (v : Value) : BOOK rec D st pe (W.setCell p v) :=
  h.keep (Below.heap_setCell W p v _ (fun e => h2 e.symm)) (Below.heap_setCell W p v _ (fun e => h1 e.symm))
theorem BOOK.put (h : BOOK rec D st pe W) : BOOK rec D st' pe' (W.putObj (D + 1) (.loop (rec st' pe'))) :=
  ⟨World.putObj_heap_same h.lt, (World.putObj_heap_other (by omega)).trans h.dfr⟩
def roundEnd (rec : LoopState → Option Code → Loop) (D : Nat) (R : Ending → World → Prop) : Exit → Act → World → Prop
  | .normal, _, W => BOOK rec D .busy none W ∧ R (.returned (.bool true)) (W.putObj (D + 1) (.loop (rec .ready none)))
  | .ret, _, W => BOOK rec D .busy none W ∧ R (.returned (.bool false)) (W.putObj (D + 1) (.loop (rec .done (some .ret))))
  | _, _, _ => False
theorem yield_of_round {args : Array Value} {R : Ending → World → Prop} (hfn : F.fn fn) (hb : BOOK (recOf fn a ps assign body D) D .ready none W) (hps : args.size = ps.size) (a₁ : Act)
    (hassign : ∀ (W : World) (K : Act → World → Prop), K a₁ W → assign.wpIn (F.inRound (D + 1)) m P (Exit.then K (fun _ _ _ => False)) { tmps := (ps.zip args).foldl (fun t (p, v) => t.setIfInBounds p v) a.tmps, defers := [] } W)
    (hbody : BOOK (recOf fn a ps assign body D) D .busy none (W.putObj (D + 1) (.loop (recOf fn a ps assign body D .busy none))) →
      body.wpIn (F.inRound (D + 1)) m P (roundEnd (recOf fn a ps assign body D) D R) a₁ (W.putObj (D + 1) (.loop (recOf fn a ps assign body D .busy none)))) :
    YieldAt F m P (D + 1) args W R := by
  refine ⟨fn, _, assign, body, run_yield (P := P) hb.loop hps, roundIn_of_wpIn hfn (hassign W _ ⟨_, run_beginRound hb.loop rfl, wpIn_mono (hbody hb.put) ?_⟩)⟩
  intro e a' W3 h
  cases e with
  | normal => exact ⟨_, _, run_endRound none h.1.loop, h.2⟩
  | ret => exact ⟨_, _, run_endRound (some .ret) h.1.loop, h.2⟩
  | exit id => exact h.elim
  | goto t => exact h.elim
  | panic c => exact h.elim
  | outgrown => exact h.elim
theorem wpIn_range_raw {g : Operand} {Q : Exit → Act → World → Prop} (hro : F.round = none) (h1 : F.depth.isSome = true → 1 ≤ n)
    {gf : Nat} {lb : Array Value} (hg : a.eval g = .func (.func gf) #[] lb) (hFg : F.fn gf) (eg : ∀ args w, (callFunc gf args).run P w = .ok (.enter gf args) w)
    (Dn Lf : World → Prop)
    (hcall : ∀ fn, F.fn fn → ∀ W1, W1 = (w.alloc (.deferred (some []))).alloc (.loop (recOf fn a ps assign body w.heap.size .ready none)) → BOOK (recOf fn a ps assign body w.heap.size) w.heap.size .ready none W1 →
      CallsIn F (n - 1) P gf (#[.func (.yield (w.heap.size + 1)) #[] #[]] ++ lb) W1 fun e W2 => (∃ v, e = .returned v) ∧
        ((BOOK (recOf fn a ps assign body w.heap.size) w.heap.size .ready none W2 ∧ Dn W2) ∨ (BOOK (recOf fn a ps assign body w.heap.size) w.heap.size .done (some .ret) W2 ∧ Lf W2)))
    (hdone : ∀ (W2 : World) (r r' : Loop), W2.heap[w.heap.size + 1]? = some (.loop r) → W2.heap[w.heap.size]? = some (.deferred (some [])) → Dn W2 →
      Q .normal { a with defers := { target := .collected w.heap.size, args := #[] } :: a.defers } (W2.putObj (w.heap.size + 1) (.loop r')))
    (hstop : ∀ (W2 : World) (r r' : Loop), W2.heap[w.heap.size + 1]? = some (.loop r) → W2.heap[w.heap.size]? = some (.deferred (some [])) → Lf W2 →
      Q .ret { a with defers := { target := .collected w.heap.size, args := #[] } :: a.defers } (W2.putObj (w.heap.size + 1) (.loop r'))) :
    (Code.rangeFunc g ps assign body).wpIn F n P Q a w := by
  refine wpIn_rangeFunc fun fn hfn => ?_
  rw [hro]
  obtain ⟨W1, hW1⟩ : ∃ W1, W1 = (w.alloc (.deferred (some []))).alloc (.loop (recOf fn a ps assign body w.heap.size .ready none)) := ⟨_, rfl⟩
  have hb : BOOK (recOf fn a ps assign body w.heap.size) w.heap.size .ready none W1 := by
    rw [hW1]
    refine ⟨?_, (Below.heap_alloc _ _ _ (by simp)).trans (World.alloc_heap_new w _)⟩
    have := World.alloc_heap_new (w.alloc (.deferred (some []))) (.loop (recOf fn a ps assign body w.heap.size .ready none))
    rwa [World.size_alloc] at this
  refine ⟨w.heap.size + 1, [{ target := .collected w.heap.size, args := #[] }], W1, { target := .fn (.func gf) lb, args := #[.func (.yield (w.heap.size + 1)) #[] #[]] }, W1, gf,
    #[.func (.yield (w.heap.size + 1)) #[] #[]] ++ lb, W1, ?_, ?_, ?_, ?_, h1, ?_⟩
  · rw [hW1]; exact run_enterLoop_outer _ _ _ _ _
  · simp only [resolve, hg]
    simp [go_sem]
  · intro f' hf'; simp [Target.leads] at hf'; subst hf'; exact hFg
  · simp [invoke, go_sem, eg]
  · refine (hcall fn hfn W1 hW1 hb).mono ?_
    rintro e W2 ⟨⟨v, rfl⟩, h | h⟩
    · obtain ⟨hk, hd⟩ := h
      have hrun := run_endLoop (P := P) hk.loop (fun h => by cases h)
      exact ⟨_, _, hrun, hdone W2 _ _ hk.loop hk.dfr hd⟩
    · obtain ⟨hk, hd⟩ := h
      have hrun := run_endLoop (P := P) hk.loop (fun h => by cases h)
      exact ⟨_, _, hrun, wpIn_ret (hstop W2 _ _ hk.loop hk.dfr hd)⟩
end
end Go.Proofs.Ytljbfnabnkkfeaa
namespace Go.Proofs.Ytljbfnabnkkfeaa
open Go.RowKit
set_option maxHeartbeats 400000 in
theorem join_any (A : Option Addr) (n c : Nat) (zs : List Int) (w : World) (h : RD .u16 w w.heap.size A n zs) (hb : BD 65535 zs) (hn : n ≤ 9223372036854775807) :
    Calls Try.prog 107 #[.slice A n c] w fun e w' => e = .returned (.int .u16 (foldJ 0 zs)) ∧ w = w' := by
  go_enter Try.func107, Try.ntmps107
  go_wp2
  go_loop [3, 8] (fun s i => ∃ k : Nat, k ≤ n ∧ i = .int .i64 k ∧ s = .int .u32 (foldJ 0 (zs.take k))) (fun _ i => n - (intOf i).toNat)
  case atStart => exact ⟨0, Nat.zero_le _, rfl, rfl⟩
  case round =>
    obtain ⟨k, hk, rfl, rfl⟩ := hrel
    by_cases hlt : k < n
    · obtain ⟨b, off, rfl, hB, hc⟩ := h.2 (by omega)
      have hcell := hc k hlt
      have hz := hb.get (by omega) k
      have hf := foldJ_bd (zs.take k) (s := 0) (by omega) (by omega) (fun x hx => hb x (List.mem_of_mem_take hx))
      obtain ⟨hz1, hz2⟩ := hz
      obtain ⟨hf1, hf2⟩ := hf
      go_wp2
      go_round
      case rel =>
        refine ⟨k + 1, by omega, by go_num, ?_⟩
        have hl := h.1
        rw [u32_and_ffff _ (by omega) (by omega), foldJ_take_succ _ _ _ (by omega)]
        congr 1
        unfold stepJ
        omega
      case measure => simp [intOf]; omega
    · have hf := foldJ_bd (zs.take k) (s := 0) (by omega) (by omega) (fun x hx => hb x (List.mem_of_mem_take hx))
      obtain ⟨hf1, hf2⟩ := hf
      have hz := h.1
      have HT : Hid (zs.take k = zs) := List.take_of_length_le (by omega)
      clear hz
      go_wp2
      go_ret
      refine ⟨?_, rfl⟩
      rw [HT.out]
      rfl
end Go.Proofs.Ytljbfnabnkkfeaa
namespace Go.Proofs.Ytljbfnabnkkfeaa
open Go.RowKit Go.Shelf
attribute [local go_sem] Oper.semAt_some
def KeepB (n₀ Bs : Nat) (W W' : World) : Prop := Below n₀ W W' ∧ W'.heap[Bs]? = W.heap[Bs]?
theorem KeepB.refl (n₀ Bs : Nat) (W : World) : KeepB n₀ Bs W W := ⟨Below.refl _ _, rfl⟩
theorem KeepB.trans {n₀ Bs : Nat} {A B C : World} (h : KeepB n₀ Bs A B) (k : KeepB n₀ Bs B C) : KeepB n₀ Bs A C := ⟨h.1.trans k.1, k.2.trans h.2⟩
theorem KeepB.book {n₀ Bs : Nat} {w : World} (hn : n₀ ≤ w.heap.size) (hBs : Bs < w.heap.size) (W : World) (l : Nat) (o o' : Obj) (hl : w.heap.size ≤ l) (h : W.heap[l]? = some o) (h1 : o.isCells = false) (h2 : o.isWalk = false) : KeepB n₀ Bs W (W.putObj l o') :=
  ⟨belowK_b hn W l o o' hl h h1 h2, (grownBy_putObj' W l o').block Bs (by have := (Array.getElem?_eq_some_iff.1 h).1; omega) (by simp; omega)⟩
theorem KeepB.cell {n₀ Bs : Nat} {W W' : World} (h : KeepB n₀ Bs W W') (o : Nat) : W'.cell? ⟨Bs, o, none⟩ = W.cell? ⟨Bs, o, none⟩ := World.cell?_of_block h.2
set_option maxRecDepth 100000 in
set_option maxHeartbeats 2000000 in
theorem wordsc_in (F : Fence) (n : Nat) (h7 : F.fn 124) (hro : F.round = none) (hn : 1 ≤ n) (l Bs n₀ len cap : Nat) (A : Option Addr) (zs : List Int) (hz : ∀ x ∈ zs, 0 ≤ x ∧ x ≤ 255) (hreach : len ≤ 140737488355328) (J Jx : List W16 → World → Prop)
    (hY : ∀ pre x W, J pre W → pre.length < (len + 1) / 2 → YieldAt F (n - 1) Try.prog l #[.int .u16 x.1] W fun e W' =>
      (e = .returned (.bool true) ∧ J (pre ++ [x]) W' ∧ KeepB n₀ Bs W W') ∨ (e = .returned (.bool false) ∧ Jx (pre ++ [x]) W'))
    (W : World) (hBs : W.cell? ⟨Bs, 0, none⟩ = some (.slice A len cap)) (hc : RD .u8 W n₀ A len zs) (h0 : J [] W) :
    CallsIn F n Try.prog 124 #[.func (.yield l) #[] #[], .pointer (some ⟨Bs, 0, none⟩)] W fun e W' => (∃ v, e = .returned v) ∧
      ((∃ ys, ys = upto (fun j => wordW zs hz (2 * j)) ((len + 1) / 2) ∧ J ys W') ∨ (∃ pre, True ∧ Jx pre W')) := by
  refine callsIn_of_wp Try.func124 rfl h7 ?_ hro
  simp only [Try.ntmps124, List.size_toArray, List.length_cons, List.length_nil, Nat.reduceAdd, Nat.reduceSub, Array.replicate_succ, Array.replicate_zero, List.push_toArray, List.append_toArray, List.nil_append, List.cons_append]
  gi_wp2
  gi_loopw [3] (fun i wr => ∃ k : Nat, 2 * k ≤ len + 1 ∧ i = .int .i64 (2 * k : Nat) ∧ J (upto (fun j => wordW zs hz (2 * j)) k) wr ∧ KeepB n₀ Bs W wr)
    (fun i _ => len + 2 - (intOf i).toNat)
  case atStart => exact ⟨0, Nat.zero_le _, rfl, h0, KeepB.refl _ _ _⟩
  case round =>
    obtain ⟨k, hk, rfl, hJs, hnx⟩ := hrel
    have hBs' : wr.cell? ⟨Bs, 0, none⟩ = some (.slice A len cap) := (hnx.cell 0).trans hBs
    by_cases hlt : 2 * k < len
    · obtain ⟨b, off, rfl, hb, hcc⟩ := (hc.below hnx.1).2 (by omega)
      have hc1 := hcc (2 * k) hlt
      obtain ⟨hz1, hz2⟩ := byte_bd zs hz (2 * k)
      obtain ⟨hz3, hz4⟩ := byte_bd zs hz (2 * k + 1)
      obtain ⟨fn, tmps, assign, body, hy, hR⟩ := hY _ (wordW zs hz (2 * k)) wr hJs (by rw [upto_length]; omega)
      by_cases hl2 : 2 * k + 1 < len
      · have hc2 := hcc (2 * k + 1) hl2
        have e : (wordW zs hz (2 * k)).val = bits .or .u16 (zs[2 * k]?.getD 0 * 256) (zs[2 * k + 1]?.getD 0) := (u16_or_low _ _ hz1 hz2 hz3 hz4).symm
        rw [e] at hy
        clear hcc hc hBs e
        gi_wp2
        refine hR.mono ?_
        rintro e W3 (⟨rfl, hJ3, hk3⟩ | ⟨rfl, hJx3⟩)
        · gi_wp2
          go_roundw
          case rel => exact ⟨k + 1, by omega, by go_num, by rw [upto_succ]; exact hJ3, hnx.trans hk3⟩
          case measure => simp [intOf]; omega
        · gi_wp2
          refine bodyPost_ret (results_none rfl _ _ _) rfl ?_
          exact ⟨⟨_, rfl⟩, .inr ⟨_, trivial, hJx3⟩⟩
      · have e : (wordW zs hz (2 * k)).val = zs[2 * k]?.getD 0 * 256 := by
          have hl := hc.1
          have : zs[2 * k + 1]? = none := List.getElem?_eq_none (by omega)
          simp [wordW, wordAt, this]
        rw [e] at hy
        clear hcc hc hBs e
        gi_wp2
        refine hR.mono ?_
        rintro e W3 (⟨rfl, hJ3, hk3⟩ | ⟨rfl, hJx3⟩)
        · gi_wp2
          go_roundw
          case rel => exact ⟨k + 1, by omega, by go_num, by rw [upto_succ]; exact hJ3, hnx.trans hk3⟩
          case measure => simp [intOf]; omega
        · gi_wp2
          refine bodyPost_ret (results_none rfl _ _ _) rfl ?_
          exact ⟨⟨_, rfl⟩, .inr ⟨_, trivial, hJx3⟩⟩
    · have HK : Hid (k = (len + 1) / 2) := by show k = (len + 1) / 2; omega
      gi_wp2
      go_end0
      exact ⟨⟨_, rfl⟩, .inl ⟨_, by rw [HK.out], hJs⟩⟩
set_option maxHeartbeats 1000000 in
theorem words_in (F : Fence) (n : Nat) (h5 : F.fn 106) (hro : F.round = none) (a : Option Addr) (len cap : Nat) (w : World) :
    CallsIn F n Try.prog 106 #[.slice a len cap] w fun e w' => e = .returned (.func (.func 124) #[] #[.pointer (some ⟨w.heap.size, 0, none⟩)]) ∧ w' = w.alloc (.cells #[.slice a len cap] 23) := by
  refine callsIn_of_wp Try.func106 rfl h5 ?_ hro
  simp only [Try.ntmps106, List.size_toArray, List.length_cons, List.length_nil, Nat.reduceAdd, Nat.reduceSub, Array.replicate_succ, Array.replicate_zero, List.push_toArray, List.append_toArray, List.nil_append, List.cons_append]
  gi_wp2
  go_ret
  exact ⟨rfl, rfl⟩
theorem words_stops (F : Fence) (n : Nat) (h7 : F.fn 124) (hro : F.round = none) (hn : 1 ≤ n) (Bs n₀ : Nat) (A : Option Addr) (len cap : Nat) (zs : List Int) (hz : ∀ x ∈ zs, 0 ≤ x ∧ x ≤ 255) (hreach : len ≤ 140737488355328) (w : World) (hBs : Bs < w.heap.size) (hn₀ : n₀ ≤ w.heap.size)
    (hc : w.cell? ⟨Bs, 0, none⟩ = some (.slice A len cap)) (hI : RD .u8 w n₀ A len zs) :
    SeqStopsK F n Try.prog 124 #[.pointer (some ⟨Bs, 0, none⟩)] (fun x : W16 => #[Value.int .u16 x.1]) (KeepB n₀ Bs) (fun ys => ys = upto (fun j => wordW zs hz (2 * j)) ((len + 1) / 2)) (fun _ => True) ((len + 1) / 2) w := fun l J Jx W hW _ _ hY h0 =>
  wordsc_in F n h7 hro hn l Bs n₀ len cap A zs hz hreach J Jx hY W ((hW.cell (p := ⟨Bs, 0, none⟩) hBs).trans hc) (hI.below (hW.mono hn₀)) h0
set_option maxRecDepth 100000 in
set_option maxHeartbeats 2000000 in
theorem sum_in (n : Nat) (hn : 3 ≤ n) (A : Option Addr) (len cap : Nat) (zs : List Int) (hz : ∀ x ∈ zs, 0 ≤ x ∧ x ≤ 255) (hreach : len ≤ 140737488355328) (w : World) (hI : RD .u8 w w.heap.size A len zs) :
    CallsIn Fence.wide n Try.prog 86 #[.slice A len cap] w fun e W' => e = .returned (.int .u16 (sumOf zs)) ∧ Below w.heap.size w W' := by
  have h1 : 1 ≤ n := by omega
  have hro : Fence.wide.round = none := rfl
  refine callsIn_of_wp_marks Try.func86 rfl trivial ?_ hro
  simp only [Try.ntmps86, List.size_toArray, List.length_cons, List.length_nil, Nat.reduceAdd, Nat.reduceSub, Array.replicate_succ, Array.replicate_zero, List.push_toArray, List.append_toArray, List.nil_append, List.cons_append]
  gi_wp2_with (refine ⟨trivial, ?_⟩; gi_at_call 106; refine (words_in Fence.wide (n - 1) trivial hro _ _ _ _).mono ?_; rintro e w' ⟨rfl, rfl⟩)
  have bS := Boxed.new w 45 (.int .u16 0)
  have bN := Boxed.new (w.alloc (.cells #[.int .u16 0] 45)) 23 (.slice A len cap)
  rw [World.size_alloc] at bN
  have hB0 : Below w.heap.size w ((w.alloc (.cells #[.int .u16 0] 45)).alloc (.cells #[.slice A len cap] 23)) := ((Below.refl _ w).alloc (Nat.le_refl _) _).alloc (by simp) _
  refine wpIn_rangeFunc_ownG hro h1 (gf := 124) (lb := #[.pointer (some ⟨w.heap.size + 1, 0, none⟩)]) rfl trivial (enters_of Try.func124 (by kernel_rfl) rfl)
    (words_stops Fence.wide (n - 1) trivial hro (by omega) (w.heap.size + 1) w.heap.size A len cap zs hz hreach _ (by simp) (by simp; omega) bN.cell (hI.below hB0)) KeepB.trans (KeepB.book (by simp; omega) (by simp)) (Below.refl _ _) (fun _ => rfl)
    (fun pre W => (W.cell? ⟨w.heap.size, 0, none⟩ = some (.int .u16 (sumW pre)) ∧ W.frozen? ⟨w.heap.size, 0, none⟩ = false) ∧ Below w.heap.size ((w.alloc (.cells #[.int .u16 0] 45)).alloc (.cells #[.slice A len cap] 23)) W)
    (fun _ _ _ => False)
    (OwnFrom.and (Own.from (fun s A B row hs hg hr => ⟨cell_kept hs.1 hg hr, (frozen_kept hs.1 hg hr).trans hs.2⟩) _) (ownFrom_below (by simp; omega) (by simp; omega)))
    (fun _ _ _ _ _ hs _ _ => hs)
    ⟨⟨(bS.alloc _).cell, (bS.alloc _).frozen⟩, Below.refl _ _⟩
    (fun x => { tmps := #[.slice A len cap, undef, .int .u16 0, .pointer (some ⟨w.heap.size, 0, none⟩), .int .u16 x.1, .slice A len cap, .func (.func 124) #[] #[.pointer (some ⟨w.heap.size + 1, 0, none⟩)], .int .u16 x.1, undef, undef, undef, undef, undef], defers := [] }) ?assign ?body ?done ?stop
  case assign =>
    intro l x W K hK
    gi_wp2
    exact hK
  case body =>
    rintro l pre x W ⟨⟨hc, hf⟩, hB⟩ _
    obtain ⟨hs1, hs2⟩ := sumW_bd pre
    have hx := x.2
    have hz : w.heap.size + 1 < W.heap.size := by have := hB.size; simp at this; omega
    have hz0 : w.heap.size < W.heap.size := by omega
    have HJ : Hid (foldJ 0 [sumW pre, x.1] = stepJ (sumW pre) x.1) := foldJ_two _ _ hs1 hs2
    gi_wp2_with fail
    refine ⟨trivial, (fun h => by cases h), ?_⟩
    refine (CallsIn.inRound l (callsIn_wide.2 (join_any _ 2 _ [sumW pre, x.1] _ (RD.new W .u16 45 [sumW pre, x.1]) (fun y hy => by simp at hy; omega) (by omega)))).mono ?_
    rintro e w' ⟨rfl, rfl⟩
    have hc1 : (W.alloc (.cells #[.int .u16 (sumW pre), .int .u16 x.1] 45)).cell? ⟨w.heap.size, 0, none⟩ = some (.int .u16 (sumW pre)) := (World.cell?_alloc_lt W _ ⟨w.heap.size, 0, none⟩ (by show w.heap.size < W.heap.size; omega)).trans hc
    rw [HJ.out]
    gi_wp2_with fail
    refine ⟨((KeepsOthers.setCell _ _ _).trans (KeepsOthers.alloc _ _)).from _, ⟨((Below.refl w.heap.size W).setCell (p := ⟨w.heap.size, 0, none⟩) (Nat.le_refl _) _).alloc (by simp; omega) _, ?_⟩, ⟨?_, ?_⟩, (hB.setCell (p := ⟨w.heap.size, 0, none⟩) (Nat.le_refl _) _).alloc (by simp; omega) _⟩
    · rw [Below.heap_alloc _ _ _ (by simp; omega), Below.heap_setCell _ _ _ _ (by simp)]
    · rw [World.cell?_alloc_lt _ _ _ (by simp; omega), sumW_snoc]
      exact World.cell?_setCell_same' _ _ _ (by rw [hc]; rfl)
    · simp [go_sem, hf, hz0]
  case done =>
    rintro D ys W hD rfl ⟨⟨hc, _⟩, hB⟩ hK
    gi_wp2
    refine ⟨by simp, .inl ⟨_, _, rfl, run_takeDeferred hK, ?_⟩⟩
    have hl := hI.1
    refine ⟨_, results_tmp rfl _ _ _, ?_, hB0.trans (hB.trans (belowK_b (w := w) (Nat.le_refl _) W D _ _ (by simp at hD; omega) hK rfl rfl))⟩
    rw [← hl, sumW_upto]
    rfl
  case stop =>
    rintro D c pre W _ _ h _
    exact h.elim
theorem sum_any (A : Option Addr) (n c : Nat) (zs : List Int) (w : World) (h : RD .u8 w w.heap.size A n zs) (hz : BD 255 zs) (hn : n ≤ 140737488355328) :
    Calls Try.prog 86 #[.slice A n c] w fun e w' => e = .returned (.int .u16 (sumOf zs)) ∧ Below w.heap.size w w' :=
  callsIn_wide.1 (sum_in 3 (by omega) A n c zs hz hn w h)
end Go.Proofs.Ytljbfnabnkkfeaa
namespace Go.Proofs.Ytljbfnabnkkfeaa
open Go.RowKit
set_option maxHeartbeats 400000 in
theorem of_any (A : Option Addr) (n c : Nat) (zs : List Int) (w : World) (h : RD .u8 w w.heap.size A n zs) (hz : BD 255 zs) (hn : n ≤ 140737488355328) :
    Calls Try.prog 73 #[.slice A n c] w fun e w' => e = .returned (.int .u16 (65535 - sumOf zs)) ∧ Below w.heap.size w w' := by
  obtain ⟨hs1, hs2⟩ := sumOf_bd zs hz
  have e1 := u16_not _ hs1 hs2
  have e2 := u16_signed
  go_enter Try.func73, Try.ntmps73
  go_wp2_with (go_at_call 86; refine (sum_any _ _ _ zs _ h hz hn).mono ?_; rintro e w' ⟨rfl, hb⟩)
  go_ret
  exact ⟨rfl, hb⟩
set_option maxHeartbeats 400000 in
theorem right_any (A : Option Addr) (n c : Nat) (zs : List Int) (w : World) (h : RD .u8 w w.heap.size A n zs) (hz : BD 255 zs) (hn : n ≤ 140737488355328) :
    Calls Try.prog 48 #[.slice A n c] w fun e w' => e = .returned (.bool (sumOf zs == 65535)) ∧ Below w.heap.size w w' := by
  obtain ⟨hs1, hs2⟩ := sumOf_bd zs hz
  have e1 : (65535 - sumOf zs == 0) = (sumOf zs == 65535) := by rw [Bool.eq_iff_iff]; simp; omega
  go_enter Try.func48, Try.ntmps48
  go_wp2_with (go_at_call 73; refine (of_any _ _ _ zs _ h hz hn).mono ?_; rintro e w' ⟨rfl, hb⟩)
  go_ret
  exact ⟨rfl, hb⟩
end Go.Proofs.Ytljbfnabnkkfeaa
namespace Go.Proofs.Ytljbfnabnkkfeaa
open Go.RowKit
set_option linter.unusedVariables false
theorem infoU8 : (Try.prog.info? 5).map (fun i => (i.zero, i.size, i.bytes)) = some (some (.int .u8 0), 1, 1) := by kernel_rfl
def Fresh (w : World) (zs : List Int) (e : Ending) (w' : World) : Prop :=
  ∃ A n c, e = .returned (.slice A n c) ∧ OWN .u8 5 w' w.heap.size A n c zs ∧ Below w.heap.size w w'
set_option maxHeartbeats 400000 in
theorem clone_any (A : Option Addr) (n c : Nat) (zs : List Int) (w : World) (h : RD .u8 w w.heap.size A n zs) (hn : n ≤ 140737488355328) :
    Calls Try.prog 32 #[.slice A n c] w (Fresh w zs) := by
  have hnn : n = zs.length := h.1.symm
  subst hnn
  obtain ⟨i0, hi, hz0, hz1, hz2⟩ := info_parts infoU8
  have hnil := fun (W : World) a l c => Lib.run_eql_slice_nil (P := Try.prog) W 23 5 a l c 0 0 Try.underlying23
  rcases A with _ | ad
  · have hl : zs.length = 0 := by
      rcases Nat.eq_zero_or_pos zs.length with h1 | h1
      · exact h1
      · obtain ⟨b, off, h2, _⟩ := h.2 h1
        cases h2
    have hzn : zs = [] := List.length_eq_zero_iff.1 hl
    subst hzn
    go_enter Try.func32, Try.ntmps32
    go_wp2_with fail
    go_ret
    exact ⟨none, 0, 0, rfl, OWN.nil, Below.refl _ _⟩
  · go_enter Try.func32, Try.ntmps32
    go_wp2_with (at_builtin; refine wpList_append_rd _ rfl _ _ _ rfl .u8 w.heap.size 5 i0 1 Try.underlying23 hi hz0 hz1 hz2 (some ⟨w.heap.size, 0, none⟩) 0 0 [] rfl (OWN.lit w .u8 5 w.heap.size [] (Nat.le_refl _) (by simp)) w.heap.size _ _ _ zs rfl (h.alloc (Nat.le_refl _) _) (by simp [maxLen]; omega) (by omega) (by simp) ?_; intro A' c' w' happ)
    go_ret
    have hbel : Below w.heap.size w w' := ((Below.refl _ w).alloc (Nat.le_refl _) _).trans (happ.keepBelow (fun g hg => by simp at hg; omega) (by simp))
    have hown := happ.own
    rw [Nat.zero_add, List.nil_append] at hown
    exact ⟨A', _, c', rfl, hown, hbel⟩
def Fixed (w : World) (zs : List Int) (e : Ending) (w' : World) : Prop :=
  ∃ A n c, e = .returned (.tuple #[.slice A n c, .int .i64 0]) ∧ OWN .u8 5 w' w.heap.size A n c zs ∧ Below w.heap.size w w'
set_option maxHeartbeats 400000 in
theorem fix_any (A : Option Addr) (n c : Nat) (zs : List Int) (q : Int) (p : Nat) (w : World) (h : RD .u8 w w.heap.size A n zs) (hz : BD 255 zs) (hn : n ≤ 140737488355328) (hq : q = p) (hp : p % 2 = 0) (hk : p + 2 ≤ n) :
    Calls Try.prog 54 #[.slice A n c, .int .i64 q] w (Fixed w (fixOf zs p)) := by
  subst hq
  have hl := h.1
  have hm' : ((p : Int) % 2 == 1) = false := by simp; omega
  have h0' : (0 : Int) ≤ (p : Int) := by omega
  have hl' : ¬ (n : Int) - 2 < (p : Int) := by omega
  go_enter Try.func54, Try.ntmps54
  go_wp2_with fail
  refine (clone_any A n c zs w h hn).mono ?_
  rintro e w1 ⟨A1, n1, c1, rfl, hown, hb1⟩
  obtain rfl : n = n1 := by have := hown.len; omega
  clear hl
  obtain ⟨g, rfl, hg1, hg2, hnc, hcm⟩ := hown.form (by omega)
  have x1 := hown.cell (i := p) (by omega)
  have x2 := hown.cell (i := p + 1) (by omega)
  have x3 := hown.frozen p
  have x4 := hown.frozen (p + 1)
  go_wp2_with fail
  have own2 : OWN .u8 5 ((w1.setCell ⟨g, p, none⟩ (.int .u8 0)).setCell ⟨g, p + 1, none⟩ (.int .u8 0)) w.heap.size (some ⟨g, 0, none⟩) n c1 (fixZ zs p) := hown.two p 0 0
  have hb2 : Below w.heap.size w ((w1.setCell ⟨g, p, none⟩ (.int .u8 0)).setCell ⟨g, p + 1, none⟩ (.int .u8 0)) := (hb1.setCell (p := ⟨g, p, none⟩) hg1 _).setCell (p := ⟨g, p + 1, none⟩) hg1 _
  generalize (w1.setCell ⟨g, p, none⟩ (.int .u8 0)).setCell ⟨g, p + 1, none⟩ (.int .u8 0) = w2 at own2 hb2 ⊢
  have hz2 : BD 255 (fixZ zs p) := put2_bd hz (by omega) (by omega)
  obtain ⟨hc1, hc2⟩ := fixC_bd hz p
  clear x1 x2 x3 x4 hown hb1 hg2
  refine (of_any _ n c1 (fixZ zs p) w2 own2.rd hz2 hn).mono ?_
  rintro e w3 ⟨rfl, hb3⟩
  have hb4 : Below w.heap.size w w3 := hb2.trans (hb3.mono hb2.size)
  have own3 := own2.below hb3
  rw [show 65535 - sumOf (fixZ zs p) = fixC zs p from rfl]
  clear own2 hb2 hb3 hz2
  have x1 := own3.cell (i := p) (by omega)
  have x2 := own3.cell (i := p + 1) (by omega)
  have x3 := own3.frozen p
  have x4 := own3.frozen (p + 1)
  have e1 := u8_in (fixC zs p / 256) (by omega) (by omega)
  have e2 := u8_mod (fixC zs p)
  go_wp2_with fail
  go_ret2
  exact ⟨some ⟨g, 0, none⟩, _, c1, rfl, (own3.stored p (fixC zs p / 256)).stored (p + 1) (fixC zs p % 256), (hb4.setCell (p := ⟨g, p, none⟩) hg1 _).setCell (p := ⟨g, p + 1, none⟩) hg1 _⟩
end Go.Proofs.Ytljbfnabnkkfeaa
namespace Go.Proofs.Ytljbfnabnkkfeaa
open Go.RowKit
set_option linter.unusedVariables false
theorem below_drewN {B : Nat} {a w : World} (h : Below B a w) (n : Nat) : Below B a (w.drewN n) := ⟨h.os, h.tape, h.output, h.size, h.block⟩
theorem RD.drewN {k : IntKind} {w : World} {B : Nat} {A : Option Addr} {n : Nat} {zs : List Int} (h : RD k w B A n zs) (m : Nat) : RD k (w.drewN m) B A n zs := h
theorem OWN.drewN {k : IntKind} {e : TypeId} {w : World} {B : Nat} {A : Option Addr} {n c : Nat} {zs : List Int} (h : OWN k e w B A n c zs) (m : Nat) : OWN k e (w.drewN m) B A n c zs := h
theorem take_succ_eq (xs ys : List Int) (k : Nat) (hx : k < xs.length) (hy : k < ys.length) (h : xs.take k = ys.take k) (he : xs[k]?.getD 0 = ys[k]?.getD 0) : xs.take (k + 1) = ys.take (k + 1) := by
  rw [List.take_succ_eq_append_getElem hx, List.take_succ_eq_append_getElem hy, h]
  simp [hx, hy] at he
  rw [he]
theorem ne_of_getD (xs ys : List Int) (k : Nat) (he : xs[k]?.getD 0 ≠ ys[k]?.getD 0) : (xs == ys) = false := by
  rw [beq_eq_false_iff_ne]; rintro rfl; exact he rfl
set_option maxHeartbeats 1000000 in
theorem same_any (A1 A2 : Option Addr) (n1 c1 n2 c2 : Nat) (xs ys : List Int) (w : World) (h1 : RD .u8 w w.heap.size A1 n1 xs) (h2 : RD .u8 w w.heap.size A2 n2 ys) (hn1 : n1 ≤ 140737488355328) (hn2 : n2 ≤ 140737488355328) :
    Calls Try.prog 17 #[.slice A1 n1 c1, .slice A2 n2 c2] w fun e w' => e = .returned (.bool (xs == ys)) ∧ ∃ m, w' = w.drewN m := by
  have hl1 := Lib.hid h1.1
  have hl2 := Lib.hid h2.1
  by_cases hn : n1 = n2
  · subst hn
    have ht : ((n1 : Int) != (n1 : Int)) = false := by simp
    go_enter Try.func17, Try.ntmps17
    go_wp2
    go_loopw [5] (fun i wr => ∃ k : Nat, k ≤ n1 ∧ i = .int .i64 k ∧ xs.take k = ys.take k ∧ ∃ m, wr = w.drewN m) (fun i _ => n1 - (intOf i).toNat)
    case atStart => exact ⟨0, Nat.zero_le _, rfl, rfl, 0, rfl⟩
    case round =>
      obtain ⟨k, hk, rfl, heq, m, rfl⟩ := hrel
      by_cases hlt : k < n1
      · obtain ⟨b1, o1, rfl, hb1, hc1⟩ := h1.2 (by omega)
        obtain ⟨b2, o2, rfl, hb2, hc2⟩ := h2.2 (by omega)
        have x1 := hc1 k hlt
        have x2 := hc2 k hlt
        have HE := Lib.hid heq
        clear heq hc1 hc2
        have i1 : (0 : Int) ≤ (k : Int) := by omega
        have i2 : (k : Int) < (n1 : Int) := by omega
        go_wp2_with fail
        go_quiet (fail)
        by_cases he : xs[k]?.getD 0 = ys[k]?.getD 0
        · have he' : (xs[k]?.getD 0 != ys[k]?.getD 0) = false := by simp [he]
          have HE2 := Lib.hid (take_succ_eq xs ys k (by rw [hl1.out]; exact hlt) (by rw [hl2.out]; exact hlt) HE.out he)
          clear he
          go_wp2_with fail
          go_roundw
          case rel => exact ⟨k + 1, by omega, by go_num, HE2.out, _, rfl⟩
          case measure => simp [intOf]; omega
        · have he' : (xs[k]?.getD 0 != ys[k]?.getD 0) = true := by simp [he]
          have HF := Lib.hid (ne_of_getD xs ys k he)
          clear he
          go_wp2_with fail
          go_ret
          exact ⟨by rw [HF.out]; rfl, _, World.drewN_drewN _ _ _⟩
      · have HF := Lib.hid (show (xs == ys) = true by
          rw [List.take_of_length_le (by rw [hl1.out]; omega), List.take_of_length_le (by rw [hl2.out]; omega)] at heq
          rw [heq]; simp)
        clear heq
        go_wp2
        go_ret
        exact ⟨by rw [HF.out]; rfl, _, rfl⟩
  · have ht : ((n1 : Int) != (n2 : Int)) = true := by simp; omega
    have HF := Lib.hid (show (xs == ys) = false by
      rw [beq_eq_false_iff_ne]
      intro h
      apply hn
      rw [← hl1.out, ← hl2.out, h])
    go_enter Try.func17, Try.ntmps17
    go_wp2
    go_ret
    exact ⟨by rw [HF.out]; rfl, 0, rfl⟩
end Go.Proofs.Ytljbfnabnkkfeaa
namespace Go.Proofs.Ytljbfnabnkkfeaa
open Go.RowKit
set_option linter.unusedVariables false
set_option maxHeartbeats 400000 in
theorem rFold_any (s : Int) (w : World) (h0 : 0 ≤ s) (h1 : s ≤ 9223372036854775807) :
    Calls Try.prog 108 #[.int .i64 s] w fun e w' => e = .returned (.int .i64 (foldR s)) ∧ w = w' := by
  by_cases hs : s = 0
  · subst hs
    go_enter Try.func108, Try.ntmps108
    go_wp2
    go_ret
    exact ⟨rfl, rfl⟩
  · have hb : (s == 0) = false := by simp [hs]
    have HF := Lib.hid (show foldR s = 1 + (s - 1) % 65535 by unfold foldR; rw [if_neg hs])
    have h2 : 1 ≤ s := by omega
    clear hs
    go_enter Try.func108, Try.ntmps108
    go_wp2
    go_ret
    exact ⟨by rw [HF.out]; rfl, rfl⟩
def bsum (zs : List Int) : Nat → Int
  | 0 => 0
  | i + 1 => bsum zs i + (if i % 2 = 0 then 256 * zs[i]?.getD 0 else zs[i]?.getD 0)
theorem bsum_bd {zs : List Int} (h : BD 255 zs) : ∀ i, 0 ≤ bsum zs i ∧ bsum zs i ≤ 65280 * i
  | 0 => by simp [bsum]
  | i + 1 => by
    have ih := bsum_bd h i
    have hg := h.get (by omega) i
    simp only [bsum]
    split <;> omega
theorem wsum_take (zs : List Int) (k : Nat) (h : 2 * k < zs.length) : wsum (zs.take (2 * k + 2)) = wsum (zs.take (2 * k)) + wordAt zs (2 * k) := by
  unfold wsum
  rw [wordsOf_take_succ zs k h, isum_append]
  simp [isum]
theorem bsum_even (zs : List Int) : ∀ k, 2 * k ≤ zs.length + 1 → bsum zs (2 * k) = wsum (zs.take (2 * k))
  | 0, _ => rfl
  | k + 1, h => by
    rw [show 2 * (k + 1) = 2 * k + 1 + 1 from by omega]
    simp only [bsum]
    rw [bsum_even zs k (by omega), if_pos (by omega), if_neg (by omega), wsum_take zs k (by omega)]
    unfold wordAt
    omega
theorem bsum_all (zs : List Int) : bsum zs zs.length = wsum zs := by
  rcases Nat.mod_two_eq_zero_or_one zs.length with h | h
  · have := bsum_even zs (zs.length / 2) (by omega)
    rw [show 2 * (zs.length / 2) = zs.length from by omega, List.take_length] at this
    exact this
  · have := bsum_even zs (zs.length / 2 + 1) (by omega)
    rw [show 2 * (zs.length / 2 + 1) = zs.length + 1 from by omega] at this
    simp only [bsum] at this
    rw [List.take_of_length_le (by omega)] at this
    rw [← this, if_neg (by omega), List.getElem?_eq_none (by omega)]
    simp
set_option maxHeartbeats 800000 in
theorem rSum_any (A : Option Addr) (n c : Nat) (zs : List Int) (w : World) (h : RD .u8 w w.heap.size A n zs) (hz : BD 255 zs) (hn : n ≤ 140737488355328) :
    Calls Try.prog 89 #[.slice A n c] w fun e w' => e = .returned (.int .i64 (sumOf zs)) ∧ w = w' := by
  have HL := Lib.hid h.1
  go_enter Try.func89, Try.ntmps89
  go_wp2
  go_loop [3, 4] (fun s i => ∃ k : Nat, k ≤ n ∧ i = .int .i64 k ∧ s = .int .i64 (bsum zs k)) (fun _ i => n - (intOf i).toNat)
  case atStart => exact ⟨0, Nat.zero_le _, rfl, rfl⟩
  case round =>
    obtain ⟨k, hk, rfl, rfl⟩ := hrel
    obtain ⟨hs1, hs2⟩ := bsum_bd hz k
    by_cases hlt : k < n
    · obtain ⟨b, off, rfl, hB, hc⟩ := h.2 (by omega)
      have hcell := hc k hlt
      obtain ⟨hz1, hz2⟩ := hz.get (by omega) k
      clear hc
      rcases Nat.mod_two_eq_zero_or_one k with hm | hm
      · have hm' : ((k : Int) % 2 == 0) = true := by simp; omega
        have HS := Lib.hid (show bsum zs (k + 1) = bsum zs k + 256 * zs[k]?.getD 0 by simp only [bsum]; rw [if_pos hm])
        clear hm
        go_wp2_with fail
        go_round
        case rel => exact ⟨k + 1, by omega, by go_num, by rw [HS.out]⟩
        case measure => simp [intOf]; omega
      · have hm' : ((k : Int) % 2 == 0) = false := by simp; omega
        have HS := Lib.hid (show bsum zs (k + 1) = bsum zs k + zs[k]?.getD 0 by simp only [bsum]; rw [if_neg (by omega)])
        clear hm
        go_wp2_with fail
        go_round
        case rel => exact ⟨k + 1, by omega, by go_num, by rw [HS.out]⟩
        case measure => simp [intOf]; omega
    · have HK := Lib.hid (show bsum zs k = wsum zs by rw [← bsum_all, HL.out, show k = n by omega])
      go_wp2_with fail
      refine (rFold_any _ w hs1 (by omega)).mono ?_
      rintro e w' ⟨rfl, rfl⟩
      rw [HK.out, ← sumOf_eq hz]
      go_wp2_with fail
      go_ret
      exact ⟨rfl, rfl⟩
set_option maxHeartbeats 400000 in
theorem rOf_any (A : Option Addr) (n c : Nat) (zs : List Int) (w : World) (h : RD .u8 w w.heap.size A n zs) (hz : BD 255 zs) (hn : n ≤ 140737488355328) :
    Calls Try.prog 109 #[.slice A n c] w fun e w' => e = .returned (.int .i64 (65535 - sumOf zs)) ∧ w = w' := by
  obtain ⟨hs1, hs2⟩ := sumOf_bd zs hz
  go_enter Try.func109, Try.ntmps109
  go_wp2_with (go_at_call 89; refine (rSum_any _ _ _ zs _ h hz hn).mono ?_; rintro e w' ⟨rfl, rfl⟩)
  go_ret
  exact ⟨rfl, rfl⟩
end Go.Proofs.Ytljbfnabnkkfeaa
namespace Go.Proofs.Ytljbfnabnkkfeaa
open Go.RowKit
set_option linter.unusedVariables false
theorem SP.appRow {w0 w w' : World} {L : List IT} (H : SP w0 w L) (i : Nat) {e : TypeId} {m : Nat} {A A' : Option Addr} {n c n' c' : Nat} {vs vs' : List Value} (hi : L[i]? = some (.row e m A n c vs))
    (ho : w'.ownsRow w0.heap.size e m (.slice A' n' c') n' vs') (hg : w.grownBy w' (A.map (·.block))) (hat : A'.map (·.block) = A.map (·.block) ∨ A'.map (·.block) = some w.heap.size) :
    SP w0 w' (L.set i (.row e m A' n' c' vs')) := by
  refine H.upd hi ((Below.refl _ w).grown hg H.size fun k hk => ((H.all i _ hi).lt hk).1) ho ?_ fun b hb hne => hg.block b hb (fun h => hne h.symm)
  rcases hat with h | h
  · exact .inl h
  · exact .inr fun g hg => by
      have : some w.heap.size = some g := h.symm.trans hg
      simp at this; omega
theorem step_append_row {P : Program} (w : World) {ops : Array Oper} {o : Oper} {a : Act} {K : Act → World → Prop} {Q : Exit → Act → World → Prop} {E : Prop} (hgd : o.guard = none) (s x : Operand) (t : TypeId)
    (ho : o.op = .call { callee := .builtin .append, args := #[s, x], argTypes := #[t, t] })
    (base : Nat) (e : TypeId) (i : TypeInfo) (z : Value) (size bytes : Nat) (ht : P.underlying t = some (.slice e)) (hi : P.info? e = some i) (hz : i.zero = some z)
    (hsize : i.size = size) (hby : i.bytes = bytes) (hzs : z.cells.size = size) (hsz : 0 < size)
    (A : Option Addr) (n c : Nat) (xs : List Value) (hs : a.eval s = .slice A n c) (hown : w.ownsRow base e size (.slice A n c) n xs)
    (ad : Addr) (m c2 : Nat) (news : List Value) (hx : a.eval x = .slice (some ad) m c2) (hl : news.length = m * size) (hnews : ∀ j u, news[j]? = some u → w.cell? (ad.add j) = some u) (h1 : ∀ u ∈ news, u.oneCell' = true)
    (h63 : n + m ≤ maxLen) (hbytes : (n + m) * bytes ≤ 140737488355328) (hbase : base ≤ w.heap.size)
    (h : ∀ A' c' w', w'.ownsRow base e size (.slice A' (n + m) c') (n + m) (xs ++ news) → w.grownBy w' (A.map (·.block)) → (A'.map (·.block) = A.map (·.block) ∨ A'.map (·.block) = some w.heap.size) → K (a.put o.dst (.slice A' (n + m) c')) w') :
    if Region.wanted o (yielded ops a.tmps) = true then Oper.wp P o a w K Q else E := by
  have blk : ∀ (A : Option Addr) (n c : Nat), Value.ownBlock (.slice A n c) = A.map (·.block) := fun A n c => by cases A <;> rfl
  have hw : Region.wanted o (yielded ops a.tmps) = true := by simp [Region.wanted, hgd]
  rw [if_pos hw]
  obtain ⟨v', w', hr, h2, h3, h4, h5⟩ := run_append_own_at (P := P) w base t o.type e i z size bytes ht hi hz hsize hby hzs hsz (.slice A n c) n xs hown ad m c2 news hl hnews h1 h63 hbytes hbase
  obtain ⟨A', c', rfl⟩ : ∃ A' c', v' = .slice A' (n + m) c' := by
    rcases h2.2 with ⟨rfl, e0⟩ | ⟨g, cap, cur, rfl, _⟩
    · exact ⟨none, 0, by rw [e0]⟩
    · exact ⟨_, _, rfl⟩
  rw [blk] at h3
  rw [blk, blk] at h5
  unfold Oper.wp execOp
  simp only [ho, resolve, invoke, builtin, Sem.run_bind, Sem.run_pure, Result.andThen_ok, List.map_toArray, List.map_cons, List.map_nil, hs, hx, hr]
  exact h A' c' w' h2 h3 h5
end Go.Proofs.Ytljbfnabnkkfeaa
namespace Go.Proofs.Ytljbfnabnkkfeaa
open Go.RowKit
set_option linter.unusedVariables false
def mk8 (k i : Int) : Int := IntKind.u64.wrap ((1000003 * (k + 7) + i) * 11400714819323198485) / 72057594037927936 % 256
theorem mk8_bd (k i : Int) : 0 ≤ mk8 k i ∧ mk8 k i ≤ 255 := by unfold mk8; omega
set_option maxHeartbeats 400000 in
set_option maxRecDepth 100000 in
theorem mark_any (k i : Int) (w : World) (hk : 0 ≤ k) (hk' : k ≤ 1000000) (hi : 0 ≤ i) (hi' : i ≤ 281474976710656) :
    Calls Try.prog 87 #[.int .i64 k, .int .i64 i] w fun e w' => e = .returned (.int .i64 (1000003 * (k + 7) + i)) ∧ w = w' := by
  go_enter Try.func87, Try.ntmps87
  go_wp2
  go_ret
  exact ⟨rfl, rfl⟩
set_option maxHeartbeats 400000 in
set_option maxRecDepth 100000 in
theorem markByte_any (k i : Int) (w : World) (hk : 0 ≤ k) (hk' : k ≤ 1000000) (hi : 0 ≤ i) (hi' : i ≤ 281474976710656) :
    Calls Try.prog 75 #[.int .i64 k, .int .i64 i] w fun e w' => e = .returned (.int .u8 (mk8 k i)) ∧ w = w' := by
  go_enter Try.func75, Try.ntmps75
  go_wp2_with (go_at_call 87; refine (mark_any _ _ _ hk hk' hi hi').mono ?_; rintro e w' ⟨rfl, rfl⟩)
  go_ret
  exact ⟨rfl, rfl⟩
theorem quiet_of_left {P : Program} {f : FuncId} {args : Array Value} {w : World} {a n : Nat} {v : Value}
    (h : Calls P f args (w.drewN (a + n)) fun e w' => e = .returned v ∧ w.drewN (a + n) = w') : Calls P f args (w.drewN (a + n)) fun e w'' => e = .returned v ∧ ∃ m, w'' = w.drewN (a + m) :=
  h.mono fun _ _ ⟨he, hm⟩ => ⟨he, n, hm.symm⟩
def marksFrom (k : Int) (a : Nat) : Nat → List Int
  | 0 => []
  | m + 1 => marksFrom k a m ++ [mk8 k (a + m : Nat)]
theorem marksFrom_len (k : Int) (a m : Nat) : (marksFrom k a m).length = m := by
  induction m with
  | zero => rfl
  | succ m ih => simp [marksFrom, ih]
theorem marksFrom_get (k : Int) (a : Nat) : ∀ m i, i < m → (marksFrom k a m)[i]?.getD 0 = mk8 k (a + i : Nat) := by
  intro m
  induction m with
  | zero => intro i hi; omega
  | succ m ih =>
    intro i hi
    simp only [marksFrom]
    rcases Nat.lt_or_ge i m with h | h
    · rw [List.getElem?_append_left (by rw [marksFrom_len]; exact h)]; exact ih i h
    · obtain rfl : i = m := by omega
      rw [List.getElem?_append_right (by rw [marksFrom_len]; omega), marksFrom_len]; simp
def Lent (w : World) (zs : List Int) (e : Ending) (w' : World) : Prop :=
  ∃ A n, e = .returned (.slice A n (n + 12)) ∧ n = zs.length ∧ OWN .u8 5 w' w.heap.size A (n + 12) (n + 12) (zs ++ marksFrom 1 0 12) ∧ Below w.heap.size w w'
set_option maxHeartbeats 1000000 in
set_option maxRecDepth 100000 in
theorem lent_any (A : Option Addr) (n c : Nat) (zs : List Int) (w : World) (h : RD .u8 w w.heap.size A n zs) (hn : n ≤ 140737488351232) :
    Calls Try.prog 55 #[.slice A n c] w (Lent w zs) := by
  obtain ⟨i0, hi, hz0, hz1, hz2⟩ := info_parts infoU8
  have HL := Lib.hid h.1
  go_enter Try.func55, Try.ntmps55
  go_wp2_with (first
    | (at_make; refine wpList_make_own _ rfl _ _ _ rfl w.heap.size 5 i0 (.int .u8 0) 1 Try.underlying23 hi hz0 hz1 .i64 .i64 _ (n + 12) rfl rfl (by omega) (by rw [hz2]; omega) (by simp only [maxLen]; omega) (Nat.le_refl _) ?_; intro w1 hown1 hg1)
    | (at_builtin; refine wpList_append_rd _ rfl _ _ _ rfl .u8 w.heap.size 5 i0 1 Try.underlying23 hi hz0 hz1 hz2 (some ⟨w.heap.size, 0, none⟩) 0 (n + 12) [] rfl hown1 w.heap.size A n c zs rfl (h.below ((Below.refl _ w).grown hg1 (Nat.le_refl _) (by simp))) (by simp only [maxLen]; omega) (by omega) hg1.size ?_; intro A2 c2 w2 happ))
  have hb1 : Below w.heap.size w w1 := (Below.refl _ w).grown hg1 (Nat.le_refl _) (by simp)
  have hb2 : Below w.heap.size w w2 := hb1.trans (happ.keepBelow (fun g hg => by simp at hg; omega) hb1.size)
  have own2 := happ.own
  have hlies : A2 = some ⟨w.heap.size, 0, none⟩ ∧ c2 = n + 12 := by
    rcases happ.lies with hl | hl
    · exact hl
    · omega
  obtain ⟨rfl, rfl⟩ := hlies
  rw [Nat.zero_add, List.nil_append] at own2
  clear happ hown1 hg1 hb1
  go_loopw [3, 4] (fun v i wr => ∃ j : Nat, j ≤ 12 ∧ i = .int .i64 j ∧ v = .slice (some ⟨w.heap.size, 0, none⟩) (n + j) (n + 12) ∧ OWN .u8 5 wr w.heap.size (some ⟨w.heap.size, 0, none⟩) (n + j) (n + 12) (zs ++ marksFrom 1 0 j) ∧ Below w.heap.size w wr) (fun _ i _ => 12 - (intOf i).toNat)
  case atStart => exact ⟨0, Nat.zero_le _, rfl, rfl, by simpa [marksFrom] using own2, hb2⟩
  case round =>
    obtain ⟨j, hj, rfl, rfl, own, hb⟩ := hrel
    clear own2 hb2
    by_cases hlt : j < 12
    · obtain ⟨mb1, mb2⟩ := mk8_bd 1 j
      go_wp2_with (first
        | (go_at_call 75; refine (markByte_any _ _ _ (by omega) (by omega) (by omega) (by omega)).mono ?_; rintro e w' ⟨rfl, rfl⟩)
        | (at_builtin; refine wpList_append_rd _ rfl _ _ _ rfl .u8 w.heap.size 5 i0 1 Try.underlying23 hi hz0 hz1 hz2 (some ⟨w.heap.size, 0, none⟩) (n + j) (n + 12) (zs ++ marksFrom 1 0 j) rfl (own.alloc _) (wr.heap.size + 1) (some ⟨wr.heap.size, 0, none⟩) 1 1 [mk8 1 j] rfl (RD.new' wr .u8 5 [mk8 1 j] rfl (by omega) rfl) (by simp only [maxLen]; omega) (by omega) (by have := hb.size; simp; omega) ?_; intro A3 c3 w3 happ))
      have hb3 : Below w.heap.size w w3 := (hb.alloc hb.size _).trans (happ.keepBelow (fun g hg => by simp at hg; omega) (by have := hb.size; simp; omega))
      have own3 := happ.own
      have hlies : A3 = some ⟨w.heap.size, 0, none⟩ ∧ c3 = n + 12 := by
        rcases happ.lies with hl | hl
        · exact hl
        · omega
      obtain ⟨rfl, rfl⟩ := hlies
      go_roundw
      case rel => exact ⟨j + 1, by omega, by go_num, rfl, by simpa [marksFrom, Nat.add_assoc] using own3, hb3⟩
      case measure => simp [intOf]; omega
    · obtain rfl : 12 = j := by omega
      have t1 : (n : Int) ≤ (n : Int) + 12 := by omega
      go_wp2_with fail
      go_ret
      exact ⟨_, n, rfl, HL.out.symm, own, hb⟩
set_option maxHeartbeats 4000000 in
set_option maxRecDepth 100000 in
theorem kept_any (A : Option Addr) (n : Nat) (zs : List Int) (B : Option Addr) (c : Nat) (w : World) (h : RD .u8 w w.heap.size B n zs) (h2 : RD .u8 w w.heap.size A (n + 12) (zs ++ marksFrom 1 0 12)) (hn : n ≤ 140737488351232) :
    Calls Try.prog 58 #[.slice A n (n + 12), .slice B n c] w fun e w' => e = .returned (.bool true) ∧ ∃ m, w' = w.drewN m := by
  have HL := Lib.hid h.1
  have t0 : ((n : Int) != (n : Int)) = false := by simp
  go_enter Try.func58, Try.ntmps58
  go_wp2_with fail
  go_loopw [6] (fun i wr => ∃ k : Nat, k ≤ n + 12 ∧ i = .int .i64 k ∧ ∃ m, wr = w.drewN m) (fun i _ => n + 12 - (intOf i).toNat)
  case atStart => exact ⟨0, Nat.zero_le _, rfl, 0, rfl⟩
  case round =>
    obtain ⟨k, hk, rfl, m, rfl⟩ := hrel
    by_cases hlt : k < n + 12
    · obtain ⟨b2, o2, rfl, hb2, hc2⟩ := h2.2 (by omega)
      have x2 := hc2 k hlt
      clear hc2
      have i1 : (0 : Int) ≤ (k : Int) := by omega
      have i2 : (k : Int) < (n : Int) + 12 := by omega
      by_cases hkn : k < n
      · obtain ⟨b1, o1, rfl, hb1, hc1⟩ := h.2 (by omega)
        have x1 := hc1 k hkn
        clear hc1
        rw [List.getElem?_append_left (by rw [HL.out]; exact hkn)] at x2
        have d1 : decide ((k : Int) < (n : Int)) = true := by simp; omega
        have d2 : decide ((n : Int) ≤ (k : Int)) = false := by simp; omega
        have d3 : decide (n ≤ k) = false := by simp; omega
        have d4 : decide (k < n) = true := by simp; omega
        have i3 : (k : Int) < (n : Int) := by omega
        have e0 : (zs[k]?.getD 0 == zs[k]?.getD 0) = true := by simp
        go_wp2_with fail
        go_quiet (fail)
        go_wp2_with fail
        go_roundw
        case rel => exact ⟨k + 1, by omega, by go_num, _, rfl⟩
        case measure => simp [intOf]; omega
      · rw [List.getElem?_append_right (by rw [HL.out]; omega), HL.out, marksFrom_get 1 0 12 (k - n) (by omega), Nat.zero_add] at x2
        have d1 : decide ((k : Int) < (n : Int)) = false := by simp; omega
        have d2 : decide ((n : Int) ≤ (k : Int)) = true := by simp; omega
        have d3 : decide (n ≤ k) = true := by simp; omega
        have d4 : decide (k < n) = false := by simp; omega
        have d5 : n ≤ k := by omega
        have i4 : IntKind.i64.wrap ((k : Int) - (n : Int)) = (k : Int) - (n : Int) := IntWalk.i64_in _ (by omega)
        rw [show ((k - n : Nat) : Int) = (k : Int) - (n : Int) from by omega] at x2
        have e0 : (mk8 1 ((k : Int) - (n : Int)) == mk8 1 ((k : Int) - (n : Int))) = true := by simp
        go_wp2_with fail
        go_quiet ((go_at_call 75; exact quiet_of_left (markByte_any _ _ _ (by omega) (by omega) (by omega) (by omega))))
        go_wp2_with fail
        go_roundw
        case rel => exact ⟨k + 1, by omega, by go_num, _, rfl⟩
        case measure => simp [intOf]; omega
    · go_wp2_with fail
      go_ret
      exact ⟨rfl, _, rfl⟩
end Go.Proofs.Ytljbfnabnkkfeaa
namespace Go.Proofs.Ytljbfnabnkkfeaa
open Go.RowKit
set_option linter.unusedVariables false
attribute [local go_sem ↓] Go.wp_at_zero Go.wp_at_succ
def LSR (w : World) (B : Option Addr) (L : List SD) : Prop := 0 < L.length → ∃ bl cur, B = some ⟨bl, 0, none⟩ ∧ w.heap[bl]? = some (.cells cur 23 (0, 0)) ∧ ∀ (k : Nat) (s : SD), L[k]? = some s → cur[k]? = some s.val
def MK (j : Nat) (s : SD) : List Int := marksFrom j 0 s.n
structure G3 (Y : Nat → SD → List Int) (R : List Value) (w : World) (base G : Nat) (B : Option Addr) (L L2 : List SD) : Prop where
  fam : FAM 5 w base L MK
  ls : LSR w B L
  fam2 : FAM 5 w base L2 Y
  sep : SEP L L2
  lens : ∀ (j : Nat) (s t : SD), L[j]? = some s → L2[j]? = some t → t.n = s.n + 64
  row : w.heap[G]? = some (.cells (L2.map SD.val ++ R).toArray 23 (0, 0))
  far : base ≤ G
  apart : ∀ bl, B = some ⟨bl, 0, none⟩ → 0 < L.length → bl ≠ G
theorem G3.step {Y : Nat → SD → List Int} {R : List Value} {w w' : World} {base G k : Nat} {B : Option Addr} {L L2 : List SD} {s : SD} (h : G3 Y R w base G B L L2) (hs : L[k]? = some s) (hk2 : L2[k]? = none)
    (hrow : w'.heap[G]? = w.heap[G]?) (hbl : ∀ bl, B = some ⟨bl, 0, none⟩ → 0 < L.length → w'.heap[bl]? = w.heap[bl]?)
    (hoth : ∀ (j g : Nat), j ≠ k → BLK L L2 j g → w'.heap[g]? = w.heap[g]?) (ho : OWN .u8 5 w' base s.A s.n s.c (MK k s)) : G3 Y R w' base G B L L2 where
  fam := h.fam.one hs ho (fun _ _ _ _ => rfl) (fun j t g hj ht hg => hoth j g hj (.inl ⟨t, ht, hg⟩))
  ls := fun h0 => by
    obtain ⟨bl, cur, e1, e2, e3⟩ := h.ls h0
    exact ⟨bl, cur, e1, (hbl bl e1 h0).trans e2, e3⟩
  fam2 := h.fam2.keep (fun j t g ht hg => hoth j g (fun e => by rw [e, hk2] at ht; cases ht) (.inr ⟨t, ht, hg⟩))
  sep := h.sep
  lens := h.lens
  row := hrow.trans h.row
  far := h.far
  apart := h.apart
theorem G3.put {Y : Nat → SD → List Int} {x : Value} {R : List Value} {w : World} {base G : Nat} {B : Option Addr} {L L2 : List SD} {s : SD} (h : G3 Y (x :: R) w base G B L L2) (hs : L[L2.length]? = some s) {A' : Option Addr} {n' c' : Nat} (hn' : n' = s.n + 64)
    (ho : OWN .u8 5 w base A' n' c' (Y L2.length ⟨A', n', c'⟩)) (alt : A' = s.A ∨ ∃ g', A' = some ⟨g', 0, none⟩ ∧ ∀ (j g : Nat), BLK L L2 j g → g ≠ g') :
    G3 Y R (w.setCell ⟨G, L2.length, none⟩ (.slice A' n' c')) base G B L (L2 ++ [⟨A', n', c'⟩]) := by
  have keep : ∀ b, b ≠ G → (w.setCell ⟨G, L2.length, none⟩ (.slice A' n' c')).heap[b]? = w.heap[b]? := fun b hb => Below.heap_setCell _ _ _ _ hb
  have hfam2 : FAM 5 (w.setCell ⟨G, L2.length, none⟩ (.slice A' n' c')) base L2 Y := h.fam2.keep (fun j t g ht hg => keep g ((h.fam2 j t ht).ne_row hg h.row (by decide)))
  have hnew : ∀ (j g : Nat), BLK L (L2 ++ [⟨A', n', c'⟩]) j g → BLK L L2 j g ∨ (j = L2.length ∧ A' = some ⟨g, 0, none⟩) := by
    rintro j g (hb | ⟨t, h1, h2⟩)
    · exact .inl (.inl hb)
    · rcases Nat.lt_trichotomy j L2.length with hj | hj | hj
      · rw [List.getElem?_append_left hj] at h1; exact .inl (.inr ⟨t, h1, h2⟩)
      · subst hj; simp at h1; subst h1; exact .inr ⟨rfl, h2⟩
      · rw [List.getElem?_append_right (by omega), List.getElem?_eq_none (by simp; omega)] at h1; cases h1
  exact {
    fam := h.fam.keep (fun j t g ht hg => keep g ((h.fam j t ht).ne_row hg h.row (by decide)))
    ls := fun h0 => by
      obtain ⟨bl, cur, e1, e2, e3⟩ := h.ls h0
      exact ⟨bl, cur, e1, (keep bl (h.apart bl e1 h0)).trans e2, e3⟩
    fam2 := hfam2.snoc (ho.keep fun g hg => keep g (ho.ne_row hg h.row (by decide)))
    sep := by
      have own : ∀ (j g : Nat), BLK L L2 j g → A' = some ⟨g, 0, none⟩ → j = L2.length := by
        intro j g hb e
        rcases alt with e1 | ⟨g', e1, e2⟩
        · exact h.sep j L2.length g hb (.inl ⟨s, hs, e1.symm.trans e⟩)
        · rw [e] at e1; simp at e1; exact absurd e1 (e2 j g hb)
      intro i j g hi hj
      rcases hnew i g hi with h1 | ⟨h1, h1'⟩ <;> rcases hnew j g hj with h2 | ⟨h2, h2'⟩
      · exact h.sep i j g h1 h2
      · rw [h2]; exact own i g h1 h2'
      · rw [h1]; exact (own j g h2 h1').symm
      · rw [h1, h2]
    lens := fun j u t hu ht => by
      rcases Nat.lt_trichotomy j L2.length with hj | hj | hj
      · rw [List.getElem?_append_left hj] at ht; exact h.lens j u t hu ht
      · subst hj; rw [hs] at hu; simp at hu ht; subst hu; subst ht; exact hn'
      · rw [List.getElem?_append_right (by omega), List.getElem?_eq_none (by simp; omega)] at ht; cases ht
    row := by
      rw [heap_setCell_same w G L2.length _ 23 _ h.row]
      congr 2
      apply Array.ext'
      simp [SD.val]
    far := h.far
    apart := h.apart }
theorem G3.drewN {Y : Nat → SD → List Int} {R : List Value} {w : World} {base G : Nat} {B : Option Addr} {L L2 : List SD} (h : G3 Y R w base G B L L2) (q : Nat) : G3 Y R (w.drewN q) base G B L L2 := ⟨h.fam, h.ls, h.fam2, h.sep, h.lens, h.row, h.far, h.apart⟩
end Go.Proofs.Ytljbfnabnkkfeaa
namespace Go.Proofs.Ytljbfnabnkkfeaa
open Go.RowKit
attribute [local go_sem ↓] Go.wp_at_zero Go.wp_at_succ
end Go.Proofs.Ytljbfnabnkkfeaa
namespace Go.Proofs.Ytljbfnabnkkfeaa
open Go.RowKit
def bag13 (v : Value) : Array Value := #[.slice none 0 0, .slice none 0 0, v, .slice none 0 0, .slice none 0 0, .slice none 0 0, .slice none 0 0, .slice none 0 0, .slice none 0 0, .slice none 0 0, .slice none 0 0, .slice none 0 0, .slice none 0 0]
end Go.Proofs.Ytljbfnabnkkfeaa
namespace Go.Proofs.Ytljbfnabnkkfeaa
open Go.RowKit
def BB (w : World) (p : Nat) (v : Value) : Prop := w.heap[p]? = some (.cells (bag13 v) 148 (0, 0))
theorem BB.at {w : World} {p : Nat} {v : Value} (h : BB w p v) (k : Nat) {u : Value} (hu : (bag13 v)[k]? = some u) : w.cell? ⟨p, k, none⟩ = some u := (cell_of_row w p k _ _ _ h).trans hu
theorem BB.lt {w : World} {p : Nat} {v : Value} (h : BB w p v) : p < w.heap.size := (Array.getElem?_eq_some_iff.1 h).1
theorem BB.next {w w' : World} {p : Nat} {v : Value} (h : BB w p v) (hb : Below w.heap.size w w') : BB w' p v := (hb.block p h.lt).trans h
end Go.Proofs.Ytljbfnabnkkfeaa
namespace Go.Proofs.Ytljbfnabnkkfeaa
open Go.RowKit
end Go.Proofs.Ytljbfnabnkkfeaa
namespace Go.Proofs.Ytljbfnabnkkfeaa
open Go.RowKit
set_option linter.unusedVariables false
end Go.Proofs.Ytljbfnabnkkfeaa
namespace Go.Proofs.Ytljbfnabnkkfeaa
open Go.RowKit
set_option linter.unusedVariables false
set_option linter.unusedSimpArgs false
theorem wpList_append_row1 {P : Program} (w : World) {ops : Array Oper} {rest : List Oper} {o : Oper} {a : Act} {Q : Exit → Act → World → Prop} (hgd : o.guard = none) (s x : Operand) (t : TypeId)
    (ho : o.op = .call { callee := .builtin .append, args := #[s, x], argTypes := #[t, t] })
    (base : Nat) (e : TypeId) (i : TypeInfo) (z : Value) (size bytes : Nat) (ht : P.underlying t = some (.slice e)) (hi : P.info? e = some i) (hz : i.zero = some z)
    (hsize : i.size = size) (hby : i.bytes = bytes) (hzs : z.cells.size = size) (hsz : 0 < size)
    (A : Option Addr) (n c : Nat) (xs : List Value) (hs : a.eval s = .slice A n c) (hown : w.ownsRow base e size (.slice A n c) n xs)
    (ad : Addr) (m c2 : Nat) (news : List Value) (hx : a.eval x = .slice (some ad) m c2) (hl : news.length = m * size) (hnews : ∀ j u, news[j]? = some u → w.cell? (ad.add j) = some u) (h1 : ∀ u ∈ news, u.oneCell' = true)
    (h63 : n + m ≤ maxLen) (hbytes : (n + m) * bytes ≤ 140737488355328) (hbase : base ≤ w.heap.size)
    (h : ∀ A' c' w', w'.ownsRow base e size (.slice A' (n + m) c') (n + m) (xs ++ news) → w.grownBy w' (A.map (·.block)) → (A'.map (·.block) = A.map (·.block) ∨ A'.map (·.block) = some w.heap.size) → wpList P ops Q rest (a.put o.dst (.slice A' (n + m) c')) w') :
    wpList P ops Q (o :: rest) a w := by
  have blk : ∀ (A : Option Addr) (n c : Nat), Value.ownBlock (.slice A n c) = A.map (·.block) := fun A n c => by cases A <;> rfl
  refine wpList_plain hgd fun K hK => ?_
  obtain ⟨v', w', hr, h2, h3, h4, h5⟩ := run_append_own_at (P := P) w base t o.type e i z size bytes ht hi hz hsize hby hzs hsz (.slice A n c) n xs hown ad m c2 news hl hnews h1 h63 hbytes hbase
  obtain ⟨A', c', rfl⟩ : ∃ A' c', v' = .slice A' (n + m) c' := by
    rcases h2.2 with ⟨rfl, e0⟩ | ⟨g, cap, cur, rfl, _⟩
    · exact ⟨none, 0, by rw [e0]⟩
    · exact ⟨_, _, rfl⟩
  rw [blk] at h3
  rw [blk, blk] at h5
  unfold Oper.wp execOp
  simp only [ho, resolve, invoke, builtin, Sem.run_bind, Sem.run_pure, Result.andThen_ok, List.map_toArray, List.map_cons, List.map_nil, hs, hx, hr]
  exact hK _ _ (h A' c' w' h2 h3 h5)
theorem SP.mapix {w0 w : World} {L L' : List IT} (H : SP w0 w L) (φ : Nat → Nat) (h : ∀ i x, L'[i]? = some x → L[φ i]? = some x) (hj : ∀ i j, i < L'.length → j < L'.length → φ i = φ j → i = j) : SP w0 w L' := by
  refine ⟨H.bel, fun i x hx => H.all _ x (h i x hx), fun i j x y g hx hy gx gy => ?_⟩
  have e1 := (List.getElem?_eq_some_iff.1 hx).1
  have e2 := (List.getElem?_eq_some_iff.1 hy).1
  exact hj i j e1 e2 (H.sep _ _ x y g (h i x hx) (h j y hy) gx gy)
theorem SP.rot {w0 w : World} {L : List IT} {x : IT} (H : SP w0 w (L ++ [x])) : SP w0 w (x :: L) := by
  refine H.mapix (fun i => if i = 0 then L.length else i - 1) (fun i y hy => ?_) (fun i j hi hj he => ?_)
  · match i, hy with
    | 0, hy => simp at hy ⊢; exact hy
    | i + 1, hy =>
      have h1 : L[i]? = some y := by simpa using hy
      have := (List.getElem?_eq_some_iff.1 h1).1
      simp only [Nat.add_one_ne_zero, if_false, Nat.add_sub_cancel]
      rw [List.getElem?_append_left this]
      exact h1
  · simp at hi hj
    split at he <;> split at he <;> omega
theorem SP.tail {w0 w : World} {L : List IT} {x : IT} (H : SP w0 w (x :: L)) : SP w0 w L :=
  H.mapix (fun i => i + 1) (fun i y hy => by simp; exact hy) (fun i j hi hj he => by simp at he; exact he)
theorem one_new (w : World) (t : TypeId) (v : Value) (j : Nat) (x : Value) (hx : [v][j]? = some x) : (w.alloc (.cells #[v] t)).cell? ((⟨w.heap.size, 0, none⟩ : Addr).add j) = some x := by
  match j, hx with
  | 0, hx =>
    simp at hx; subst hx
    have hb : BLOCK (w.alloc (.cells #[v] t)) w.heap.size t #[v] := BLOCK.new' w t _ rfl
    have := hb.cell 0
    simp [Addr.add]
  | j + 1, hx => simp at hx
def gIT (g : SD × List Int) : IT := .own .u8 5 g.1.A g.1.n g.1.c g.2
def gV (g : SD × List Int) : Value := g.1.val
end Go.Proofs.Ytljbfnabnkkfeaa
namespace Go.Proofs.Ytljbfnabnkkfeaa
open Go.RowKit
set_option linter.unusedVariables false
def IT.apart (x y : IT) : Prop := ∀ g, x.at_ = some g → y.at_ ≠ some g
theorem IT.apart.symm {x y : IT} (h : x.apart y) : y.apart x := fun g hy hx => h g hx hy
section
variable {w0 w w' : World} {L L' A B C : List IT} {x y : IT}
theorem SP.mem (H : SP w0 w L) : ∀ x ∈ L, x.Holds w0.heap.size w := fun x hx => by
  obtain ⟨i, hi, rfl⟩ := List.getElem_of_mem hx
  exact H.all i _ (List.getElem?_eq_getElem hi)
theorem SP.pw (H : SP w0 w L) : L.Pairwise IT.apart := by
  rw [List.pairwise_iff_getElem]
  intro i j hi hj hij g gx gy
  have := H.sep i j _ _ g (List.getElem?_eq_getElem hi) (List.getElem?_eq_getElem hj) gx gy
  omega
theorem SP.mk' (hb : Below w0.heap.size w0 w) (ha : ∀ x ∈ L, x.Holds w0.heap.size w) (hp : L.Pairwise IT.apart) : SP w0 w L := by
  refine ⟨hb, fun i x hx => ha x (List.mem_of_getElem? hx), fun i j x y g hx hy gx gy => ?_⟩
  obtain ⟨hi, rfl⟩ := List.getElem?_eq_some_iff.1 hx
  obtain ⟨hj, rfl⟩ := List.getElem?_eq_some_iff.1 hy
  rw [List.pairwise_iff_getElem] at hp
  rcases Nat.lt_trichotomy i j with h | h | h
  · exact absurd gy (hp i j hi hj h g gx)
  · exact h
  · exact absurd gx (hp j i hj hi h g gy)
theorem SP.perm (H : SP w0 w L) (h : L.Perm L') : SP w0 w L' :=
  SP.mk' H.bel (fun x hx => H.mem x (h.mem_iff.2 hx)) ((h.pairwise_iff (fun {a b} => IT.apart.symm)).1 H.pw)
theorem SP.sub (H : SP w0 w L) (h : L'.Sublist L) : SP w0 w L' :=
  SP.mk' H.bel (fun x hx => H.mem x (h.subset hx)) (H.pw.sublist h)
theorem SP.swap (H : SP w0 w (A ++ (B ++ C))) : SP w0 w (B ++ (A ++ C)) :=
  H.perm (by rw [← List.append_assoc, ← List.append_assoc]; exact List.perm_append_comm.append_right C)
theorem SP.comm (H : SP w0 w (A ++ B)) : SP w0 w (B ++ A) := H.perm List.perm_append_comm
theorem SP.right (H : SP w0 w (A ++ B)) : SP w0 w B := H.sub (List.sublist_append_right _ _)
theorem SP.left (H : SP w0 w (A ++ B)) : SP w0 w A := H.sub (List.sublist_append_left _ _)
theorem SP.ltm (H : SP w0 w L) (hx : x ∈ L) {g : Nat} (hg : x.at_ = some g) : w0.heap.size ≤ g ∧ g < w.heap.size := (H.mem x hx).lt hg
theorem SP.frontOf (H : SP w0 w (A ++ (x :: C))) : SP w0 w (x :: (A ++ C)) := H.perm List.perm_middle
theorem SP.backOf (H : SP w0 w (x :: (A ++ C))) : SP w0 w (A ++ (x :: C)) := H.perm List.perm_middle.symm
def setAll (cs : Array Value) : Nat → List Value → Array Value
  | _, [] => cs
  | o, v :: r => setAll (cs.setIfInBounds o v) (o + 1) r
theorem SP.setM {N : Nat} {t : TypeId} : ∀ (vs : List Value) (o : Nat) {w : World} {L : List IT} {cs : Array Value} (H : SP w0 w L) (i : Nat) (hi : L[i]? = some (.blk N t cs)), SP w0 (w.setCells N o vs) (L.set i (.blk N t (setAll cs o vs)))
  | [], o, w, L, cs, H, i, hi => by
    rw [show L.set i (.blk N t (setAll cs o [])) = L from by
      apply List.ext_getElem?
      intro j
      by_cases hj : j = i
      · subst hj; rw [List.getElem?_set_self (List.getElem?_eq_some_iff.1 hi).1]; exact hi.symm
      · rw [List.getElem?_set_ne (fun h => hj h.symm)]]
    exact H
  | v :: r, o, w, L, cs, H, i, hi => by
    have H1 := H.setB i hi o v
    have hl := (List.getElem?_eq_some_iff.1 hi).1
    have := SP.setM r (o + 1) H1 i (List.getElem?_set_self hl)
    rw [List.set_set] at this
    exact this
theorem BLOCK.there {N : Nat} {t : TypeId} {cs : Array Value} (h : BLOCK w N t cs) (o n : Nat) (hn : o + n ≤ cs.size) : w.there N o n := fun j hj => by
  refine ⟨?_, h.free _⟩
  rw [h.cell, Array.getElem?_eq_getElem (by omega)]
  rfl
theorem BLOCK.range {N : Nat} {t : TypeId} {cs : Array Value} (h : BLOCK w N t cs) (o n : Nat) : w.rangeAt N o (cs.extract o (o + n)).toList := World.rangeAt_of_block h o n
end
end Go.Proofs.Ytljbfnabnkkfeaa
