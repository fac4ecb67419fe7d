import Derived.RangeFuncNested
import Derived.RangeFuncBound
import Derived.RangeFuncCalls
import Derived.RangeFuncLeaves
import Derived.Test.YtljbfnabnkkfeaaBase
/- A range over a function whose iterator keeps its place in a cell: its rounds, its caller. No program in sight. -/
namespace Go.Proofs.Ytljbfnabnkkfeaa
open Go.RowKit
set_option linter.unusedVariables false

/-- the loop's record -/
def recOf (fn : FuncId) (a : Act) (ps : Array Tmp) (assign body : Code) (D : Nat) (st : LoopState) (pe : Option Code) : Loop :=
  { state := st, pending := pe, fn, tmps := a.tmps, params := ps, assign, body, defers := D }

/-- the record, and the block for calls that are deferred, lie there -/
structure BOOK (rec : LoopState → Option Code → Loop) (D : Nat) (st : LoopState) (pe : Option Code) (W : World) : Prop where
  loop : W.heap[D + 1]? = some (.loop (rec st pe))
  dfr : W.heap[D]? = some (.deferred (some []))

section
variable {F : Fence} {m n D : Nat} {P : Program} {W W' w : World} {fn : FuncId} {a : Act} {ps : Array Tmp} {assign body : Code} {rec : LoopState → Option Code → Loop} {st st' : LoopState} {pe pe' : Option Code}

theorem BOOK.keep (h : BOOK rec D st pe W) (h1 : W'.heap[D + 1]? = W.heap[D + 1]?) (h2 : W'.heap[D]? = W.heap[D]?) : BOOK rec D st pe W' := ⟨h1.trans h.loop, h2.trans h.dfr⟩
theorem BOOK.lt (h : BOOK rec D st pe W) : D + 1 < W.heap.size := (Array.getElem?_eq_some_iff.1 h.loop).1
theorem BOOK.next (h : BOOK rec D st pe W) (hb : Below W.heap.size W W') : BOOK rec D st pe W' :=
  h.keep (hb.block _ h.lt) (hb.block _ (by have := h.lt; omega))
theorem BOOK.setCell (h : BOOK rec D st pe W) {p : Addr} (h1 : p.block ≠ D) (h2 : p.block ≠ D + 1) (v : Value) : BOOK rec D st pe (W.setCell p v) :=
  h.keep (Below.heap_setCell W p v _ (fun e => h2 e.symm)) (Below.heap_setCell W p v _ (fun e => h1 e.symm))
theorem BOOK.put (h : BOOK rec D st pe W) : BOOK rec D st' pe' (W.putObj (D + 1) (.loop (rec st' pe'))) :=
  ⟨World.putObj_heap_same h.lt, (World.putObj_heap_other (by omega)).trans h.dfr⟩

/-- how a round's body may end -/
def roundEnd (rec : LoopState → Option Code → Loop) (D : Nat) (R : Ending → World → Prop) : Exit → Act → World → Prop
  | .normal, _, W => BOOK rec D .busy none W ∧ R (.returned (.bool true)) (W.putObj (D + 1) (.loop (rec .ready none)))
  | .ret, _, W => BOOK rec D .busy none W ∧ R (.returned (.bool false)) (W.putObj (D + 1) (.loop (rec .done (some .ret))))
  | _, _, _ => False

theorem yield_of_round {args : Array Value} {R : Ending → World → Prop} (hfn : F.fn fn) (hb : BOOK (recOf fn a ps assign body D) D .ready none W) (hps : args.size = ps.size) (a₁ : Act)
    (hassign : ∀ (W : World) (K : Act → World → Prop), K a₁ W → assign.wpIn (F.inRound (D + 1)) m P (Exit.then K (fun _ _ _ => False)) { tmps := (ps.zip args).foldl (fun t (p, v) => t.setIfInBounds p v) a.tmps, defers := [] } W)
    (hbody : BOOK (recOf fn a ps assign body D) D .busy none (W.putObj (D + 1) (.loop (recOf fn a ps assign body D .busy none))) →
      body.wpIn (F.inRound (D + 1)) m P (roundEnd (recOf fn a ps assign body D) D R) a₁ (W.putObj (D + 1) (.loop (recOf fn a ps assign body D .busy none)))) :
    YieldAt F m P (D + 1) args W R := by
  refine ⟨fn, _, assign, body, run_yield (P := P) hb.loop hps, roundIn_of_wpIn hfn (hassign W _ ⟨_, run_beginRound hb.loop rfl, wpIn_mono (hbody hb.put) ?_⟩)⟩
  intro e a' W3 h
  cases e with
  | normal => exact ⟨_, _, run_endRound none h.1.loop, h.2⟩
  | ret => exact ⟨_, _, run_endRound (some .ret) h.1.loop, h.2⟩
  | exit id => exact h.elim
  | goto t => exact h.elim
  | panic c => exact h.elim
  | outgrown => exact h.elim

theorem wpIn_range_raw {g : Operand} {Q : Exit → Act → World → Prop} (hro : F.round = none) (h1 : F.depth.isSome = true → 1 ≤ n)
    {gf : Nat} {lb : Array Value} (hg : a.eval g = .func (.func gf) #[] lb) (hFg : F.fn gf) (eg : ∀ args w, (callFunc gf args).run P w = .ok (.enter gf args) w)
    (Dn Lf : World → Prop)
    (hcall : ∀ fn, F.fn fn → ∀ W1, W1 = (w.alloc (.deferred (some []))).alloc (.loop (recOf fn a ps assign body w.heap.size .ready none)) → BOOK (recOf fn a ps assign body w.heap.size) w.heap.size .ready none W1 →
      CallsIn F (n - 1) P gf (#[.func (.yield (w.heap.size + 1)) #[] #[]] ++ lb) W1 fun e W2 => (∃ v, e = .returned v) ∧
        ((BOOK (recOf fn a ps assign body w.heap.size) w.heap.size .ready none W2 ∧ Dn W2) ∨ (BOOK (recOf fn a ps assign body w.heap.size) w.heap.size .done (some .ret) W2 ∧ Lf W2)))
    (hdone : ∀ (W2 : World) (r r' : Loop), W2.heap[w.heap.size + 1]? = some (.loop r) → W2.heap[w.heap.size]? = some (.deferred (some [])) → Dn W2 →
      Q .normal { a with defers := { target := .collected w.heap.size, args := #[] } :: a.defers } (W2.putObj (w.heap.size + 1) (.loop r')))
    (hstop : ∀ (W2 : World) (r r' : Loop), W2.heap[w.heap.size + 1]? = some (.loop r) → W2.heap[w.heap.size]? = some (.deferred (some [])) → Lf W2 →
      Q .ret { a with defers := { target := .collected w.heap.size, args := #[] } :: a.defers } (W2.putObj (w.heap.size + 1) (.loop r'))) :
    (Code.rangeFunc g ps assign body).wpIn F n P Q a w := by
  refine wpIn_rangeFunc fun fn hfn => ?_
  rw [hro]
  obtain ⟨W1, hW1⟩ : ∃ W1, W1 = (w.alloc (.deferred (some []))).alloc (.loop (recOf fn a ps assign body w.heap.size .ready none)) := ⟨_, rfl⟩
  have hb : BOOK (recOf fn a ps assign body w.heap.size) w.heap.size .ready none W1 := by
    rw [hW1]
    refine ⟨?_, (Below.heap_alloc _ _ _ (by simp)).trans (World.alloc_heap_new w _)⟩
    have := World.alloc_heap_new (w.alloc (.deferred (some []))) (.loop (recOf fn a ps assign body w.heap.size .ready none))
    rwa [World.size_alloc] at this
  refine ⟨w.heap.size + 1, [{ target := .collected w.heap.size, args := #[] }], W1, { target := .fn (.func gf) lb, args := #[.func (.yield (w.heap.size + 1)) #[] #[]] }, W1, gf,
    #[.func (.yield (w.heap.size + 1)) #[] #[]] ++ lb, W1, ?_, ?_, ?_, ?_, h1, ?_⟩
  · rw [hW1]; exact run_enterLoop_outer _ _ _ _ _
  · simp only [resolve, hg]
    simp [go_sem]
  · intro f' hf'; simp [Target.leads] at hf'; subst hf'; exact hFg
  · simp [invoke, go_sem, eg]
  · refine (hcall fn hfn W1 hW1 hb).mono ?_
    rintro e W2 ⟨⟨v, rfl⟩, h | h⟩
    · obtain ⟨hk, hd⟩ := h
      have hrun := run_endLoop (P := P) hk.loop (fun h => by cases h)
      exact ⟨_, _, hrun, hdone W2 _ _ hk.loop hk.dfr hd⟩
    · obtain ⟨hk, hd⟩ := h
      have hrun := run_endLoop (P := P) hk.loop (fun h => by cases h)
      exact ⟨_, _, hrun, wpIn_ret (hstop W2 _ _ hk.loop hk.dfr hd)⟩

end
end Go.Proofs.Ytljbfnabnkkfeaa
