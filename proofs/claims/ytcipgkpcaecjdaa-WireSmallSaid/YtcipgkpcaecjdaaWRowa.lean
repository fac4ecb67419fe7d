import Derived.Test.YtcipgkpcaecjdaaProg
import Derived.Test.YtcipgkpcaecjdaaBase
import Derived.OpenShut
import Derived.Deep.Slices
import Derived.ChangeSame
/- Slices of acts and of parts, opened to their cells. -/
namespace Go.Proofs.Ytcipgkpcaecjdaa
open Go.RowKit Go.ChangeShapes Go.WideShapes
set_option linter.unusedVariables false
set_option linter.unusedSimpArgs false

/-- the cells of acts -/
def ACTS (w : World) (A : Option Addr) (n : Nat) (l : List (Int × Int)) : Prop :=
  l.length = n ∧ (0 < n → ∃ b off, A = some ⟨b, off, none⟩ ∧ b < w.heap.size ∧ ∀ i, i < n → w.cell? ⟨b, off + i * 2, none⟩ = some (.int .u8 (l[i]?.getD (0, 0)).1) ∧ w.cell? ⟨b, off + i * 2 + 1, none⟩ = some (.int .i64 (l[i]?.getD (0, 0)).2))
def ABD (l : List (Int × Int)) : Prop := ∀ p ∈ l, (0 ≤ p.1 ∧ p.1 ≤ 255) ∧ (-9223372036854775808 ≤ p.2 ∧ p.2 ≤ 9223372036854775807)
theorem ABD.get {l : List (Int × Int)} (h : ABD l) (i : Nat) : (0 ≤ (l[i]?.getD (0, 0)).1 ∧ (l[i]?.getD (0, 0)).1 ≤ 255) ∧ (-9223372036854775808 ≤ (l[i]?.getD (0, 0)).2 ∧ (l[i]?.getD (0, 0)).2 ≤ 9223372036854775807) := by
  rcases hh : l[i]? with _ | p
  · simp
  · exact h p (List.mem_of_getElem? hh)
theorem ACTS.below {w w' : World} {A : Option Addr} {n : Nat} {l : List (Int × Int)} (h : ACTS w A n l) (hb : Below w.heap.size w w') : ACTS w' A n l := by
  refine ⟨h.1, fun hn => ?_⟩
  obtain ⟨b, off, h1, h2, h3⟩ := h.2 hn
  exact ⟨b, off, h1, by have := hb.size; omega, fun i hi => ⟨(hb.cell h2).trans (h3 i hi).1, (hb.cell h2).trans (h3 i hi).2⟩⟩
theorem ACTS.take {w : World} {A : Option Addr} {n m : Nat} {l : List (Int × Int)} (h : ACTS w A n l) (hm : m ≤ n) : ACTS w A m (l.take m) := by
  refine ⟨by rw [List.length_take, h.1]; omega, fun hn => ?_⟩
  obtain ⟨b, off, h1, h2, h3⟩ := h.2 (by omega)
  refine ⟨b, off, h1, h2, fun i hi => ?_⟩
  rw [List.getElem?_take_of_lt hi]
  exact h3 i (by omega)
/-- an argument that is a slice of acts -/
structure ROWA (w : World) (A : Option Addr) (n c : Nat) (l : List (Int × Int)) : Prop where
  rd : ACTS w A n l
  bd : ABD l
  le : n ≤ c
  cap : c ≤ maxLen

theorem open_acts {H : Type} {enc : TypeId × Value → H} {w : World} {base : Nat} {held : Bool} {fuel : Nat} {cs : List Value} {x : DataW H × List MemPlace} (h : DataW.trod enc Try.prog w base (fun _ => true) held fuel 33 cs = some x) : ∃ A n c l, cs = [.slice A n c] ∧ ROWA w A n c l := by
  rcases Deep.open_slice Try.underlying33 h with ⟨rfl, _⟩ | ⟨a, len, cap, m, n, D, Pl, rfl, hb, hl, hm, hmm, _, hx⟩
  · exact ⟨none, 0, 0, [], rfl, ⟨rfl, fun h => absurd h (by omega)⟩, (fun p hp => by cases hp), Nat.le_refl _, Nat.zero_le _⟩
  have hlm : len ≤ m := by rw [hmm]; simp; exact hl
  have ce : Try.prog.cellsOf 43 = 2 := by kernel_rfl
  have each : ∀ i, i < m → ∃ p : Int × Int, w.cell? (a.add (i * 2)) = some (.int .u8 p.1) ∧ w.cell? (a.add (i * 2 + 1)) = some (.int .i64 p.2) ∧ ((0 ≤ p.1 ∧ p.1 ≤ 255) ∧ (-9223372036854775808 ≤ p.2 ∧ p.2 ≤ 9223372036854775807)) := by
    intro i hi
    obtain ⟨cs', h1, h2⟩ := hx i hi
    rw [ce] at h1
    obtain ⟨_, hlen, hcell⟩ := World.cells?_some h1
    obtain ⟨y0, y1, k, _, _, g0, g1⟩ := trod_struct2 Try.underlying43 h2
    rw [show Try.prog.cellsOf 5 = 1 by kernel_rfl] at g0
    rw [show Try.prog.cellsOf 3 = 1 by kernel_rfl] at g1
    match cs', hlen with
    | [v0, v1], _ =>
      simp at g0 g1
      obtain ⟨n0, e0, _, w0⟩ := DataW.trod_int Try.underlying5 g0
      obtain ⟨n1, e1, _, w1⟩ := DataW.trod_int Try.underlying3 g1
      simp at e0 e1
      have c0 := hcell 0 (by omega)
      have c1 := hcell 1 (by omega)
      rw [Deep.add_add] at c0 c1
      subst e0 e1
      exact ⟨(n0, n1), by simpa using c0, by simpa using c1, wf_u8 w0, wf_i64 w1⟩
  obtain ⟨q, hq⟩ := Deep.choose_lt each
  refine ⟨some a, len, cap, (List.range len).map q, rfl, ⟨by simp, fun hn => ?_⟩, ?_, hl, hm⟩
  · have h0 := (hq 0 (by omega)).1
    have ea : a.add (0 * 2) = a := by simp [Addr.add]
    rw [ea] at h0
    have hs := World.cell?_spot h0
    have hbk := World.block_lt_of_cell? w a h0
    obtain ⟨b, off, sp⟩ := a
    simp at hs hbk
    subst hs
    have hadd : ∀ i, (⟨b, off, none⟩ : Addr).add i = ⟨b, off + i, none⟩ := fun i => by unfold Addr.add; split <;> simp_all
    refine ⟨b, off, rfl, hbk, fun i hi => ?_⟩
    have h1 := hq i (by omega)
    rw [hadd, hadd] at h1
    rw [List.getElem?_map, List.getElem?_range hi]
    exact ⟨h1.1, h1.2.1⟩
  · intro p hp
    obtain ⟨i, hi, rfl⟩ := List.mem_map.1 hp
    exact (hq i (by have := List.mem_range.1 hi; omega)).2.2
end Go.Proofs.Ytcipgkpcaecjdaa
