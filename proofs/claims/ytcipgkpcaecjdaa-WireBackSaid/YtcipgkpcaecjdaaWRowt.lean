import Derived.Test.YtcipgkpcaecjdaaProg
import Derived.Test.YtcipgkpcaecjdaaBase
import Derived.OpenShut
import Derived.Deep.Slices
import Derived.Deep.Strs
import Derived.ChangeSame
/- Slices of parts, opened to their cells. -/
namespace Go.Proofs.Ytcipgkpcaecjdaa
open Go.RowKit Go.ChangeShapes Go.WideShapes
set_option linter.unusedVariables false
set_option linter.unusedSimpArgs false

/-- a part -/
structure PT where
  kd : Int
  N : Int
  A : Option Addr
  n : Nat
  c : Nat
  zs : List Int
  deriving Inhabited
def PT0 : PT := ⟨0, 0, none, 0, 0, []⟩
def ptv (p : PT) : Array Value := #[.int .u8 p.kd, .int .u32 p.N, .slice p.A p.n p.c]
def PTS (w : World) (A : Option Addr) (n : Nat) (l : List PT) : Prop :=
  l.length = n ∧ (0 < n → ∃ b off, A = some ⟨b, off, none⟩ ∧ b < w.heap.size ∧ ∀ i, i < n → w.cell? ⟨b, off + i * 3, none⟩ = some (.int .u8 (l[i]?.getD PT0).kd) ∧ w.cell? ⟨b, off + i * 3 + 1, none⟩ = some (.int .u32 (l[i]?.getD PT0).N) ∧
    w.cell? ⟨b, off + i * 3 + 2, none⟩ = some (.slice (l[i]?.getD PT0).A (l[i]?.getD PT0).n (l[i]?.getD PT0).c)) ∧ ∀ p ∈ l, RD .u8 w w.heap.size p.A p.n p.zs
def POK (p : PT) : Prop := (0 ≤ p.kd ∧ p.kd ≤ 255) ∧ (0 ≤ p.N ∧ p.N ≤ 4294967295) ∧ BD 255 p.zs ∧ p.n ≤ p.c ∧ p.c ≤ maxLen
theorem PTS.below {w w' : World} {A : Option Addr} {n : Nat} {l : List PT} (h : PTS w A n l) (hb : Below w.heap.size w w') : PTS w' A n l := by
  refine ⟨h.1, fun hn => ?_, fun p hp => ((h.2.2 p hp).below hb).more hb.size⟩
  obtain ⟨b, off, h1, h2, h3⟩ := h.2.1 hn
  exact ⟨b, off, h1, by have := hb.size; omega, fun i hi => ⟨(hb.cell h2).trans (h3 i hi).1, (hb.cell h2).trans (h3 i hi).2.1, (hb.cell h2).trans (h3 i hi).2.2⟩⟩
theorem PTS.take {w : World} {A : Option Addr} {n m : Nat} {l : List PT} (h : PTS w A n l) (hm : m ≤ n) : PTS w A m (l.take m) := by
  refine ⟨by rw [List.length_take, h.1]; omega, fun hn => ?_, fun p hp => h.2.2 p (List.mem_of_mem_take hp)⟩
  obtain ⟨b, off, h1, h2, h3⟩ := h.2.1 (by omega)
  refine ⟨b, off, h1, h2, fun i hi => ?_⟩
  rw [List.getElem?_take_of_lt hi]
  exact h3 i (by omega)
/-- an argument that is a slice of parts -/
structure ROWT (w : World) (A : Option Addr) (n c : Nat) (l : List PT) : Prop where
  rd : PTS w A n l
  ok : ∀ p ∈ l, POK p
  le : n ≤ c
  cap : c ≤ maxLen

theorem open_parts {H : Type} {enc : TypeId × Value → H} {w : World} {held : Bool} {fuel : Nat} {cs : List Value} {x : DataW H × List MemPlace} (h : DataW.trod enc Try.prog w 0 (fun _ => true) held fuel 58 cs = some x) : ∃ A n c l, cs = [.slice A n c] ∧ ROWT w A n c l := by
  rcases Deep.open_slice Try.underlying58 h with ⟨rfl, _⟩ | ⟨a, len, cap, m, n, D, Pl, rfl, hb, hl, hm, hmm, _, hx⟩
  · exact ⟨none, 0, 0, [], rfl, ⟨rfl, fun h => absurd h (by omega), fun p hp => by cases hp⟩, (fun p hp => by cases hp), Nat.le_refl _, Nat.zero_le _⟩
  have hlm : len ≤ m := by rw [hmm]; simp; exact hl
  have ce : Try.prog.cellsOf 60 = 3 := by kernel_rfl
  have each : ∀ i, i < m → ∃ p : PT, w.cell? (a.add (i * 3)) = some (.int .u8 p.kd) ∧ w.cell? (a.add (i * 3 + 1)) = some (.int .u32 p.N) ∧ w.cell? (a.add (i * 3 + 2)) = some (.slice p.A p.n p.c) ∧ RD .u8 w w.heap.size p.A p.n p.zs ∧ POK p := by
    intro i hi
    obtain ⟨cs', h1, h2⟩ := hx i hi
    rw [ce] at h1
    obtain ⟨_, hlen, hcell⟩ := World.cells?_some h1
    obtain ⟨y0, y1, y2, k, _, _, g0, g1, g2⟩ := Deep.trod_struct3 Try.underlying60 h2
    rw [show Try.prog.cellsOf 5 = 1 by kernel_rfl] at g0
    rw [show Try.prog.cellsOf 49 = 1 by kernel_rfl] at g1
    rw [show Try.prog.cellsOf 22 = 1 by kernel_rfl] at g2
    match cs', hlen with
    | [v0, v1, v2], _ =>
      simp at g0 g1 g2
      obtain ⟨n0, e0, _, w0⟩ := DataW.trod_int Try.underlying5 g0
      obtain ⟨n1, e1, _, w1⟩ := DataW.trod_int Try.underlying49 g1
      simp at e0 e1
      have c0 := hcell 0 (by omega)
      have c1 := hcell 1 (by omega)
      have c2 := hcell 2 (by omega)
      rw [Deep.add_add] at c0 c1 c2
      subst e0 e1
      obtain ⟨A2, l2, c2', z2, e2, row2⟩ : ∃ A2 l2 c2' z2, v2 = .slice A2 l2 c2' ∧ ROW .u8 255 w A2 l2 c2' z2 := by
        rcases open_ints Try.underlying22 Try.underlying5 (by kernel_rfl) g2 with ⟨hcs, _⟩ | ⟨x, l, c, zs, hcs, _, hl, hm, hz, _, hcell, hwz⟩
        · simp at hcs
          exact ⟨_, _, _, _, hcs, row_of (zs := []) (fun _ => wf_u8) (.inl ⟨rfl, rfl, rfl, rfl⟩)⟩
        · simp at hcs
          exact ⟨_, _, _, _, hcs, row_of (zs := zs) (fun _ => wf_u8) (.inr ⟨_, rfl, hl, hm, by simpa using hz, hcell, hwz⟩)⟩
      subst e2
      exact ⟨⟨n0, n1, A2, l2, c2', z2⟩, by simpa using c0, by simpa using c1, by simpa using c2, row2.rd, wf_u8 w0, wf_u32 w1, row2.bd, row2.le, row2.cap⟩
  obtain ⟨q, hq⟩ := Deep.choose_lt each
  refine ⟨some a, len, cap, (List.range len).map q, rfl, ⟨by simp, fun hn => ?_, ?_⟩, ?_, hl, hm⟩
  · have h0 := (hq 0 (by omega)).1
    have ea : a.add (0 * 3) = a := by simp [Addr.add]
    rw [ea] at h0
    have hs := World.cell?_spot h0
    have hbk := World.block_lt_of_cell? w a h0
    obtain ⟨b, off, sp⟩ := a
    simp at hs hbk
    subst hs
    have hadd : ∀ i, (⟨b, off, none⟩ : Addr).add i = ⟨b, off + i, none⟩ := fun i => by unfold Addr.add; split <;> simp_all
    refine ⟨b, off, rfl, hbk, fun i hi => ?_⟩
    have h1 := hq i (by omega)
    rw [hadd, hadd, hadd] at h1
    rw [List.getElem?_map, List.getElem?_range hi]
    exact ⟨h1.1, h1.2.1, h1.2.2.1⟩
  · intro p hp
    obtain ⟨i, hi, rfl⟩ := List.mem_map.1 hp
    exact (hq i (by have := List.mem_range.1 hi; omega)).2.2.2.1
  · intro p hp
    obtain ⟨i, hi, rfl⟩ := List.mem_map.1 hp
    exact (hq i (by have := List.mem_range.1 hi; omega)).2.2.2.2
end Go.Proofs.Ytcipgkpcaecjdaa
