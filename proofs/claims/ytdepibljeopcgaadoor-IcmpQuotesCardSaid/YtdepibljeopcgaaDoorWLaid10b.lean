/- What the tied card's condition gives where four tables are listed. -/
import Derived.Test.YtdepibljeopcgaaDoorWLaid10
namespace Go.Proofs.YtdepibljeopcgaaDoor
open Go.ChangeShapes Go.WideShapes Go.ChangeAt Go.RowKit
set_option linter.unusedVariables false

theorem gQueries : Tryd.prog.globalNamed "baffle/bafflelaw10.queries" = some 0 := by kernel_rfl
theorem gReplies : Tryd.prog.globalNamed "baffle/bafflelaw10.replies" = some 1 := by kernel_rfl
theorem gErrs : Tryd.prog.globalNamed "baffle/bafflelaw10.errs" = some 2 := by kernel_rfl
theorem tQueries : (Tryd.prog.globals[0]?).map (·.type) = some 36 := by kernel_rfl
theorem tReplies : (Tryd.prog.globals[1]?).map (·.type) = some 36 := by kernel_rfl
theorem tErrs : (Tryd.prog.globals[2]?).map (·.type) = some 57 := by kernel_rfl

/-- a table of bytes -/
def TAB (w : World) (g : Nat) (zs : List Int) : Prop := ∃ t fr, w.heap[g]? = some (.cells (zs.map (Value.int .u8)).toArray t fr)
theorem TAB.lt {w : World} {g : Nat} {zs : List Int} (h : TAB w g zs) : g < w.heap.size := by
  obtain ⟨t, fr, h⟩ := h
  rcases Nat.lt_or_ge g w.heap.size with h' | h'
  · exact h'
  · rw [Array.getElem?_eq_none h'] at h; cases h
theorem TAB.below {w w' : World} {g : Nat} {zs : List Int} (h : TAB w g zs) (hb : Below w.heap.size w w') : TAB w' g zs := by
  have hl := h.lt
  obtain ⟨t, fr, h⟩ := h
  exact ⟨t, fr, (hb.block g hl).trans h⟩
theorem TAB.cell {w : World} {g : Nat} {zs : List Int} (h : TAB w g zs) {i : Nat} (hi : i < zs.length) : w.cell? ⟨g, i, none⟩ = some (.int .u8 (zs[i]?.getD 0)) := by
  obtain ⟨t, fr, h⟩ := h
  rw [World.cell?, h]
  simp [hi]
structure TABS (w : World) : Prop where
  s : SORTS w
  q : TAB w 0 [8, 13, 17]
  r : TAB w 1 [0, 14, 18]
  e : TAB w 2 [3, 15, 4, 0, 5, 3, 11, 1, 12, 2]
theorem TABS.below {w w' : World} (h : TABS w) (hb : Below w.heap.size w w') : TABS w' := ⟨h.s.below hb, h.q.below hb, h.r.below hb, h.e.below hb⟩

theorem arr_u8 {W : World} {n fuel : Nat} {t : TypeId} {cs : List Value} {zs : List Int} {p : List MemPlace} (hu : Tryd.prog.underlying t = some (.array n 5)) (hc : Tryd.prog.cellsOf t = n) (hzn : zs.length = n)
    (h : DataW.trod (fun _ => ()) Tryd.prog W 0 (fun _ => true) false fuel t cs = some (.agg (zs.map fun z => .lit (.int .u8 z)), p)) : cs = zs.map (Value.int .u8) := by
  obtain ⟨xs, m, rfl, hx, hl, hn, hel⟩ := DataW.trod_array hu h
  have c5 : Tryd.prog.cellsOf 5 = 1 := by kernel_rfl
  simp only [Prod.mk.injEq] at hx
  have hx1 := hx.1
  simp only [DataW.agg.injEq] at hx1
  apply List.ext_getElem?
  intro i
  rcases Nat.lt_or_ge i n with hi | hi
  · have hxi := hel i hi
    obtain ⟨y, hy⟩ : ∃ y, xs[i]? = some y := ⟨xs[i]'(by omega), List.getElem?_eq_getElem (by omega)⟩
    rw [hy, c5] at hxi
    obtain ⟨a, ca, rfl, _⟩ := DataW.trod_int Tryd.underlying5 hxi
    have ga := congrArg (fun l => l[0]?) ca
    simp [List.getElem?_drop] at ga
    have hL : (xs.map (·.1))[i]? = some (.lit (.int .u8 a)) := by rw [List.getElem?_map, hy]; rfl
    rw [← hx1, List.getElem?_map] at hL
    cases hz : zs[i]? with
    | none => rw [hz] at hL; cases hL
    | some z =>
      rw [hz] at hL
      simp at hL
      rw [ga, List.getElem?_map, hz, hL]; rfl
  · rw [List.getElem?_eq_none (by omega), List.getElem?_eq_none (by simp; omega)]

theorem tab_of {W : World} {n g : Nat} {t : TypeId} {nm : String} {zs : List Int} {cs : Array Value} (hg : Tryd.prog.globalNamed nm = some g) (hv : W.var? Tryd.prog nm = some cs) (he : cs.toList = zs.map (Value.int .u8)) : TAB W g zs := by
  simp only [World.var?, hg, Option.bind_some] at hv
  split at hv
  · rename_i cs' t' fr' hb
    simp at hv
    subst hv
    refine ⟨t', fr', ?_⟩
    rw [hb]
    congr 2
    rw [← he]
  · cases hv

set_option maxRecDepth 100000 in
theorem of_laid4 {W : World} (h : laidMetH Tryd.prog [("baffle/icmp.sorts", Rows.laid_baffle_icmp_sorts), ("baffle/bafflelaw10.queries", Rows.laid_baffle_bafflelaw10_queries), ("baffle/bafflelaw10.replies", Rows.laid_baffle_bafflelaw10_replies), ("baffle/bafflelaw10.errs", Rows.laid_baffle_bafflelaw10_errs)] W) : TABS W := by
  rw [MakeChecks.laidMetH_plain _ _ _ (by kernel_rfl)] at h
  obtain ⟨ps, ⟨g0, t0, cs0, f0, p0, q0, hg0, ht0, hv0, hd0, ⟨g1, t1, cs1, f1, p1, q1, hg1, ht1, hv1, hd1, ⟨g2, t2, cs2, f2, p2, q2, hg2, ht2, hv2, hd2, ⟨g3, t3, cs3, f3, p3, q3, hg3, ht3, hv3, hd3, _, _⟩, _⟩, _⟩, _⟩, _, _⟩ := h
  obtain rfl := Option.some.inj (gQueries.symm.trans hg1)
  obtain rfl := Option.some.inj (tQueries.symm.trans ht1)
  obtain rfl := Option.some.inj (gReplies.symm.trans hg2)
  obtain rfl := Option.some.inj (tReplies.symm.trans ht2)
  obtain rfl := Option.some.inj (gErrs.symm.trans hg3)
  obtain rfl := Option.some.inj (tErrs.symm.trans ht3)
  obtain rfl := Option.some.inj (gSorts.symm.trans hg0)
  obtain rfl := Option.some.inj (tSorts.symm.trans ht0)
  refine ⟨sorts_of hv0 hd0, ?_, ?_, ?_⟩
  · exact tab_of (n := 3) (t := 36) hg1 hv1 (arr_u8 (zs := [8, 13, 17]) Tryd.underlying36 (by kernel_rfl) rfl hd1)
  · exact tab_of (n := 3) (t := 36) hg2 hv2 (arr_u8 (zs := [0, 14, 18]) Tryd.underlying36 (by kernel_rfl) rfl hd2)
  · refine tab_of (n := 10) (t := 57) hg3 hv3 ?_
    obtain ⟨xs, m, rfl, hx, hl, hn, hel⟩ := DataW.trod_array Tryd.underlying57 hd3
    rw [show Tryd.prog.cellsOf 57 = 10 by kernel_rfl] at hl
    simp only [Prod.mk.injEq] at hx
    have hx1 := hx.1
    unfold Rows.laid_baffle_bafflelaw10_errs at hx1
    simp only [DataW.agg.injEq] at hx1
    have key : ∀ (i : Nat) (a b : Int), i < 5 → (xs.map (·.1))[i]? = some (.agg [.lit (.int .u8 a), .lit (.int .u8 b)]) → (cs3.toList.drop (i * 2)).take 2 = [.int .u8 a, .int .u8 b] := by
      intro i a b hi hL
      have hxi := hel i hi
      obtain ⟨y, hy⟩ : ∃ y, xs[i]? = some y := ⟨xs[i]'(by omega), List.getElem?_eq_getElem (by omega)⟩
      rw [hy, show Tryd.prog.cellsOf 56 = 2 by kernel_rfl] at hxi
      rw [List.getElem?_map, hy] at hL
      simp at hL
      obtain ⟨y1, y2⟩ := y
      simp at hL
      subst hL
      exact arr_u8 (zs := [a, b]) Tryd.underlying56 (by kernel_rfl) rfl hxi
    have k0 := key 0 3 15 (by omega) (by rw [← hx1]; rfl)
    have k1 := key 1 4 0 (by omega) (by rw [← hx1]; rfl)
    have k2 := key 2 5 3 (by omega) (by rw [← hx1]; rfl)
    have k3 := key 3 11 1 (by omega) (by rw [← hx1]; rfl)
    have k4 := key 4 12 2 (by omega) (by rw [← hx1]; rfl)
    generalize cs3.toList = L at *
    match L, hl with
    | [a0, a1, a2, a3, a4, a5, a6, a7, a8, a9], _ =>
      simp at k0 k1 k2 k3 k4
      obtain ⟨rfl, rfl⟩ := k0
      obtain ⟨rfl, rfl⟩ := k1
      obtain ⟨rfl, rfl⟩ := k2
      obtain ⟨rfl, rfl⟩ := k3
      obtain ⟨rfl, rfl⟩ := k4
      rfl
end Go.Proofs.YtdepibljeopcgaaDoor
