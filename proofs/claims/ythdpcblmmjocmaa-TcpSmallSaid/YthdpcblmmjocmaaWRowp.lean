import Derived.Test.YthdpcblmmjocmaaProg
import Derived.Test.YthdpcblmmjocmaaTcO
import Derived.OpenShut
import Derived.Deep.Slices
import Derived.ChangeSame
/- A slice of pairs, opened to its cells. -/
namespace Go.Proofs.Ythdpcblmmjocmaa
open Go.RowKit Go.ChangeShapes Go.WideShapes
set_option linter.unusedVariables false

/-- a slice of pairs that is an argument -/
structure ROWP (w : World) (A : Option Addr) (n c : Nat) (l : List (Int × Int)) : Prop where
  rd : RD .u32 w w.heap.size A (2 * n) (flatP l)
  bd : ∀ p ∈ l, (0 ≤ p.1 ∧ p.1 ≤ 4294967295) ∧ (0 ≤ p.2 ∧ p.2 ≤ 4294967295)
  len : l.length = n
  le : n ≤ c
  cap : c ≤ maxLen
  nil : A = none → n = 0

theorem flatP_map (q : Nat → Int × Int) (n i : Nat) (h : i < n) : (flatP ((List.range n).map q))[2 * i]?.getD 0 = (q i).1 ∧ (flatP ((List.range n).map q))[2 * i + 1]?.getD 0 = (q i).2 := by
  have := flatP_get ((List.range n).map q) i
  rw [List.getElem?_map, List.getElem?_range h] at this
  exact this

theorem open_pairs {H : Type} {enc : TypeId × Value → H} {P : Program} {w : World} {base : Nat} {held : Bool} {t e u : TypeId} {fuel : Nat} {cs : List Value} {x : DataW H × List MemPlace} (ht : P.underlying t = some (.slice e)) (he : P.underlying e = some (.array 2 u)) (hu : P.underlying u = some (.int .u32))
    (ce : P.cellsOf e = 2) (cu : P.cellsOf u = 1) (h : DataW.trod enc P w base (fun _ => true) held fuel t cs = some x) : ∃ A n c l, cs = [.slice A n c] ∧ ROWP w A n c l := by
  rcases Deep.open_slice ht h with ⟨rfl, _⟩ | ⟨a, len, cap, m, n, D, Pl, rfl, hb, hl, hm, hmm, _, hx⟩
  · exact ⟨none, 0, 0, [], rfl, ⟨rfl, fun h => absurd h (by omega)⟩, (fun p hp => by cases hp), rfl, Nat.le_refl _, Nat.zero_le _, fun _ => rfl⟩
  have hlm : len ≤ m := by rw [hmm]; simp; exact hl
  have each : ∀ i, i < m → ∃ p : Int × Int, w.cell? (a.add (i * 2)) = some (.int .u32 p.1) ∧ w.cell? (a.add (i * 2 + 1)) = some (.int .u32 p.2) ∧ ((0 ≤ p.1 ∧ p.1 ≤ 4294967295) ∧ (0 ≤ p.2 ∧ p.2 ≤ 4294967295)) := by
    intro i hi
    obtain ⟨cs', h1, h2⟩ := hx i hi
    rw [ce] at h1
    obtain ⟨_, hlen, hcell⟩ := World.cells?_some h1
    obtain ⟨xs, k, _, _, _, hxl, hf⟩ := DataW.trod_array he h2
    rw [cu] at hf
    match xs, hxl, cs', hlen with
    | [y0, y1], _, [v0, v1], _ =>
      have g0 := hf 0 (by omega)
      have g1 := hf 1 (by omega)
      simp at g0 g1
      obtain ⟨n0, e0, _, w0⟩ := DataW.trod_int hu g0
      obtain ⟨n1, e1, _, w1⟩ := DataW.trod_int hu g1
      simp at e0 e1
      have c0 := hcell 0 (by omega)
      have c1 := hcell 1 (by omega)
      rw [Deep.add_add] at c0 c1
      subst e0 e1
      exact ⟨(n0, n1), by simpa using c0, by simpa using c1, wf_u32 w0, wf_u32 w1⟩
  obtain ⟨q, hq⟩ := Deep.choose_lt each
  refine ⟨some a, len, cap, (List.range len).map q, rfl, ⟨by rw [flatP_len]; simp, fun hn => ?_⟩, ?_, by simp, hl, hm, fun h => by cases h⟩
  · have h0 := (hq 0 (by omega)).1
    have ea : a.add (0 * 2) = a := by simp [Addr.add]
    rw [ea] at h0
    have hs := World.cell?_spot h0
    have hbk := World.block_lt_of_cell? w a h0
    obtain ⟨b, off, sp⟩ := a
    simp at hs hbk
    subst hs
    have hadd : ∀ i, (⟨b, off, none⟩ : Addr).add i = ⟨b, off + i, none⟩ := fun i => by unfold Addr.add; split <;> simp_all
    refine ⟨b, off, rfl, hbk, fun j hj => ?_⟩
    obtain ⟨i, hi | hi⟩ : ∃ i, j = 2 * i ∨ j = 2 * i + 1 := ⟨j / 2, by omega⟩
    · subst hi
      have := (hq i (by omega)).1
      rw [hadd, Nat.mul_comm] at this
      rw [this, (flatP_map q len i (by omega)).1]
    · subst hi
      have := (hq i (by omega)).2.1
      rw [hadd, Nat.mul_comm] at this
      rw [this, (flatP_map q len i (by omega)).2]
  · intro p hp
    obtain ⟨i, hi, rfl⟩ := List.mem_map.1 hp
    exact (hq i (by have := List.mem_range.1 hi; omega)).2.2
end Go.Proofs.Ythdpcblmmjocmaa
