/- What the tied card's condition gives: the table of types lies as the program's text lays it. -/
import Derived.Test.YtdepibljeopcgaaDoorRows
import Derived.Test.YtdepibljeopcgaaDoorWIc
import Derived.ProofKit
import Derived.LaidMore
import Derived.OpenShut
import Derived.Deep.Strs
namespace Go.Proofs.YtdepibljeopcgaaDoor
open Go.ChangeShapes Go.WideShapes Go.ChangeAt Go.RowKit
set_option linter.unusedVariables false

theorem gSorts : Tryd.prog.globalNamed "baffle/icmp.sorts" = some 3 := by kernel_rfl
theorem tSorts : (Tryd.prog.globals[3]?).map (·.type) = some 70 := by kernel_rfl

set_option maxRecDepth 100000 in
theorem sorts_of {W : World} {cs0 : Array Value} {f0 : Nat} {p0 : List MemPlace} (hv0 : W.var? Tryd.prog "baffle/icmp.sorts" = some cs0) (hd0 : DataW.trod (fun _ => ()) Tryd.prog W 0 (fun _ => true) false f0 70 cs0.toList = some (Rows.laid_baffle_icmp_sorts, p0)) : SORTS W := by
  have c82 : Tryd.prog.cellsOf 69 = 3 := by kernel_rfl
  have c83 : Tryd.prog.cellsOf 70 = 57 := by kernel_rfl
  have c5 : Tryd.prog.cellsOf 5 = 1 := by kernel_rfl
  obtain ⟨xs, m1, rfl, hx, hl, hn, hel⟩ := DataW.trod_array Tryd.underlying70 hd0
  have key : ∀ i, i < 19 → cs0[i * 3]? = some (.int .u8 (SORTZ[i * 3]?.getD 0)) ∧ cs0[i * 3 + 1]? = some (.int .u8 (SORTZ[i * 3 + 1]?.getD 0)) ∧ cs0[i * 3 + 2]? = some (.int .u8 (SORTZ[i * 3 + 2]?.getD 0)) := by
    intro i hi
    have hxi := hel i hi
    obtain ⟨y, hy⟩ : ∃ y, xs[i]? = some y := ⟨xs[i]'(by omega), List.getElem?_eq_getElem (by omega)⟩
    rw [hy, c82] at hxi
    obtain ⟨y0, y1, y2, n, rfl, hlen, u0, u1, u2⟩ := Go.Deep.trod_struct3 Tryd.underlying69 hxi
    rw [c5] at u0 u1 u2
    obtain ⟨a, ca, rfl, _⟩ := DataW.trod_int Tryd.underlying5 u0
    obtain ⟨b, cb, rfl, _⟩ := DataW.trod_int Tryd.underlying5 u1
    obtain ⟨c, cc, rfl, _⟩ := DataW.trod_int Tryd.underlying5 u2
    have ga := congrArg (fun l => l[0]?) ca
    have gb := congrArg (fun l => l[0]?) cb
    have gc := congrArg (fun l => l[0]?) cc
    simp [List.getElem?_drop] at ga gb gc
    have hL : (xs.map (·.1))[i]? = some (.agg [.lit (.int .u8 a), .lit (.int .u8 b), .lit (.int .u8 c)]) := by rw [List.getElem?_map, hy]; rfl
    simp only [Prod.mk.injEq] at hx
    have hx1 := hx.1
    unfold Rows.laid_baffle_icmp_sorts at hx1
    simp only [DataW.agg.injEq] at hx1
    rw [← hx1] at hL
    rw [ga, gb, gc]
    rcases (show i = 0 ∨ i = 1 ∨ i = 2 ∨ i = 3 ∨ i = 4 ∨ i = 5 ∨ i = 6 ∨ i = 7 ∨ i = 8 ∨ i = 9 ∨ i = 10 ∨ i = 11 ∨ i = 12 ∨ i = 13 ∨ i = 14 ∨ i = 15 ∨ i = 16 ∨ i = 17 ∨ i = 18 by omega) with rfl | rfl | rfl | rfl | rfl | rfl | rfl | rfl | rfl | rfl | rfl | rfl | rfl | rfl | rfl | rfl | rfl | rfl | rfl
    all_goals
      simp at hL
      obtain ⟨h1, h2, h3⟩ := hL
      subst h1 h2 h3
      exact ⟨rfl, rfl, rfl⟩
  have hcell : ∀ i, i < 57 → W.cell? ⟨3, i, none⟩ = some (.int .u8 (SORTZ[i]?.getD 0)) := by
    intro i hi
    have h1 := World.var?_cell gSorts hv0 i
    rw [h1]
    obtain ⟨k1, k2, k3⟩ := key (i / 3) (by omega)
    rcases (show i = i / 3 * 3 ∨ i = i / 3 * 3 + 1 ∨ i = i / 3 * 3 + 2 by omega) with e | e | e
    · rw [← e] at k1; simpa using k1
    · rw [← e] at k2; simpa using k2
    · rw [← e] at k3; simpa using k3
  refine ⟨SORTZ_len, fun _ => ⟨3, 0, rfl, ?_, fun i hi => by rw [Nat.zero_add]; exact hcell i hi⟩⟩
  exact World.block_lt_of_cell? W _ (hcell 0 (by omega))

theorem of_laid {W : World} (h : laidMetH Tryd.prog [("baffle/icmp.sorts", Rows.laid_baffle_icmp_sorts)] W) : SORTS W := by
  rw [MakeChecks.laidMetH_plain _ _ _ (by kernel_rfl)] at h
  obtain ⟨ps, ⟨g0, t0, cs0, f0, p0, q0, hg0, ht0, hv0, hd0, _⟩, _, _⟩ := h
  obtain rfl := Option.some.inj (gSorts.symm.trans hg0)
  obtain rfl := Option.some.inj (tSorts.symm.trans ht0)
  exact sorts_of hv0 hd0
end Go.Proofs.YtdepibljeopcgaaDoor
