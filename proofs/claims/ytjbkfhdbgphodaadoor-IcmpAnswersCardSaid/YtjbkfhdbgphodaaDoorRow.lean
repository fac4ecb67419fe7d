/- What a law's arguments read as. -/
import Derived.Test.YtjbkfhdbgphodaaDoorOwn
import Derived.ProofKit
import Derived.OpenShut
namespace Go.Proofs.YtjbkfhdbgphodaaDoor
open Go.RowKit Go.ChangeShapes Go.WideShapes

theorem wf_u8 {n : Int} (h : (Lit.int .u8 n).wf = true) : 0 ≤ n ∧ n ≤ 255 := bounds_u8 h
theorem wf_u16 {n : Int} (h : (Lit.int .u16 n).wf = true) : 0 ≤ n ∧ n ≤ 65535 := bounds_u16 h
theorem wf_u32 {n : Int} (h : (Lit.int .u32 n).wf = true) : 0 ≤ n ∧ n ≤ 4294967295 := bounds_u32 h
theorem wf_i64 {n : Int} (h : (Lit.int .i64 n).wf = true) : -9223372036854775808 ≤ n ∧ n ≤ 9223372036854775807 := bounds_i64 h

/-- a slice of integers that came in -/
structure ROW (k : IntKind) (m : Int) (w : World) (A : Option Addr) (n c : Nat) (zs : List Int) : Prop where
  rd : RD k w w.heap.size A n zs
  bd : BD m zs
  le : n ≤ c
  cap : c ≤ maxLen
  nil : A = none → n = 0 ∧ c = 0
  at_ : ∀ x, A = some x → 0 < c → x.spot = none
  far : ∀ x, A = some x → 0 < c → x.block < w.heap.size

theorem row_of {k : IntKind} {m : Int} {w : World} {a : Option Addr} {len cap : Nat} {zs : List Int} (hwf : ∀ n, (Lit.int k n).wf = true → 0 ≤ n ∧ n ≤ m)
    (h : (a = none ∧ len = 0 ∧ cap = 0 ∧ zs = []) ∨ ∃ x, a = some x ∧ len ≤ cap ∧ cap ≤ maxLen ∧ zs.length = cap ∧ (∀ i, i < zs.length → w.cell? (x.add i) = some (.int k (zs.getD i 0))) ∧ ∀ n ∈ zs, (Lit.int k n).wf = true) :
    ROW k m w a len cap (zs.take len) := by
  rcases h with ⟨rfl, rfl, rfl, rfl⟩ | ⟨x, rfl, hl, hm, hz, hc, hw⟩
  · exact ⟨RD.nil, fun x hx => by simp at hx, Nat.le_refl _, Nat.zero_le _, fun _ => ⟨rfl, rfl⟩, (fun x hx => by cases hx), (fun x hx => by cases hx)⟩
  · have spot : 0 < cap → x.spot = none ∧ x.block < w.heap.size := fun h0 => by
      have h1 := hc 0 (by omega)
      have e : x.add 0 = x := by simp [Addr.add]
      rw [e] at h1
      exact ⟨World.cell?_spot h1, World.block_lt_of_cell? w x h1⟩
    refine ⟨⟨by simp; omega, fun hn => ?_⟩, fun y hy => hwf y (hw y (List.mem_of_mem_take hy)), hl, hm, (fun h => by cases h), fun y hy h0 => by cases hy; exact (spot h0).1, fun y hy h0 => by cases hy; exact (spot h0).2⟩
    obtain ⟨hs, hb⟩ := spot (by omega)
    obtain ⟨b, off, sp⟩ := x
    simp at hs hb
    subst hs
    refine ⟨b, off, rfl, hb, fun i hi => ?_⟩
    have h1 := hc i (by omega)
    have hadd : (⟨b, off, none⟩ : Addr).add i = ⟨b, off + i, none⟩ := by unfold Addr.add; split <;> simp_all
    rw [hadd] at h1
    rw [h1]
    simp [hi, List.getD_eq_getElem?_getD]
end Go.Proofs.YtjbkfhdbgphodaaDoor
