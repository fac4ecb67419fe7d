/- Families of slices of bytes that share no memory. No program in sight. -/
import Derived.Test.YtjbkfhdbgphodaaDoorOwn
namespace Go.Proofs.YtjbkfhdbgphodaaDoor
open Go.RowKit

/-- a slice, as a value -/
structure SD where
  A : Option Addr
  n : Nat
  c : Nat
def SD.val (s : SD) : Value := .slice s.A s.n s.c
def SD.at_ (s : SD) (g : Nat) : Prop := s.A = some ⟨g, 0, none⟩

/-- slice j of L owns the bytes Z j -/
def FAM (e : TypeId) (w : World) (base : Nat) (L : List SD) (Z : Nat → SD → List Int) : Prop := ∀ (j : Nat) (s : SD), L[j]? = some s → OWN .u8 e w base s.A s.n s.c (Z j s)

/-- slice j of L, or of L2, lies in block g -/
def BLK (L L2 : List SD) (j g : Nat) : Prop := (∃ s, L[j]? = some s ∧ s.at_ g) ∨ (∃ s, L2[j]? = some s ∧ s.at_ g)
/-- block b is one of the slices' -/
def LB (L : List SD) (b : Nat) : Prop := ∃ (j : Nat) (s : SD), L[j]? = some s ∧ s.at_ b
/-- slices of different numbers share no block -/
def SEP (L L2 : List SD) : Prop := ∀ (i j g : Nat), BLK L L2 i g → BLK L L2 j g → i = j

section
variable {e : TypeId} {w w' : World} {base : Nat} {L L2 : List SD} {Z Z' : Nat → SD → List Int}

theorem FAM.keep (h : FAM e w base L Z) (hk : ∀ (j : Nat) (s : SD) (g : Nat), L[j]? = some s → s.at_ g → w'.heap[g]? = w.heap[g]?) : FAM e w' base L Z :=
  fun j s hs => (h j s hs).keep fun g hg => hk j s g hs hg
theorem FAM.congr (h : FAM e w base L Z) (hz : ∀ (j : Nat) (s : SD), L[j]? = some s → Z j s = Z' j s) : FAM e w base L Z' := fun j s hs => by rw [← hz j s hs]; exact h j s hs
theorem FAM.lt (h : FAM e w base L Z) {j g : Nat} {s : SD} (hs : L[j]? = some s) (hg : s.at_ g) : base ≤ g ∧ g < w.heap.size := (h j s hs).lt g hg
/-- slice k has changed, the others have not -/
theorem FAM.one (h : FAM e w base L Z) {k : Nat} {s : SD} (hs : L[k]? = some s) (ho : OWN .u8 e w' base s.A s.n s.c (Z' k s)) (hz : ∀ (j : Nat) (t : SD), j ≠ k → L[j]? = some t → Z j t = Z' j t)
    (hk : ∀ (j : Nat) (t : SD) (g : Nat), j ≠ k → L[j]? = some t → t.at_ g → w'.heap[g]? = w.heap[g]?) : FAM e w' base L Z' := fun j t ht => by
  rcases Nat.decEq j k with hj | rfl
  · rw [← hz j t hj ht]
    exact (h j t ht).keep fun g hg => hk j t g hj ht hg
  · rw [hs] at ht
    injection ht with ht
    subst ht
    exact ho
theorem FAM.snoc (h : FAM e w base L Z) {s : SD} (ho : OWN .u8 e w base s.A s.n s.c (Z L.length s)) : FAM e w base (L ++ [s]) Z := fun j t ht => by
  rcases Nat.lt_trichotomy j L.length with hj | rfl | hj
  · rw [List.getElem?_append_left hj] at ht; exact h j t ht
  · simp at ht; subst ht; exact ho
  · rw [List.getElem?_append_right (by omega)] at ht
    have : ([s] : List SD)[j - L.length]? = none := List.getElem?_eq_none (by simp; omega)
    rw [this] at ht; cases ht
/-- the block of a row of another element type is none of these -/
theorem OWN.ne_row {A : Option Addr} {n c : Nat} {zs : List Int} {g b : Nat} {t : TypeId} {cs : Array Value} (h : OWN .u8 e w base A n c zs) (hg : A = some ⟨g, 0, none⟩) (hb : w.heap[b]? = some (.cells cs t (0, 0))) (hne : e ≠ t) : g ≠ b := by
  rintro rfl
  rcases h.2 with ⟨h1, _⟩ | ⟨g', cap, cur, h1, _, h3, _⟩
  · subst hg; simp at h1
  · subst hg
    simp at h1
    obtain ⟨rfl, rfl⟩ := h1
    rw [hb] at h3
    simp at h3
    exact hne h3.2.symm
end

/-- a world that is as another one below base, and outside of X; it may have more blocks -/
structure BES (base : Nat) (X : Nat → Prop) (w w' : World) : Prop where
  bel : Below base w w'
  oth : ∀ b, b < w.heap.size → ¬ X b → w'.heap[b]? = w.heap[b]?

section
variable {base : Nat} {X : Nat → Prop} {w w1 w2 : World}
theorem BES.refl (base : Nat) (X : Nat → Prop) (w : World) : BES base X w w := ⟨Below.refl _ _, fun _ _ _ => rfl⟩
theorem BES.size (h : BES base X w w1) : w.heap.size ≤ w1.heap.size := h.bel.size
theorem BES.setCell (h : BES base X w w1) {p : Addr} (hp : base ≤ p.block) (hx : X p.block ∨ w.heap.size ≤ p.block) (v : Value) : BES base X w (w1.setCell p v) :=
  ⟨h.bel.setCell hp v, fun b hb hX => (Below.heap_setCell _ _ _ _ (fun e => by subst e; rcases hx with h1 | h1; exact hX h1; omega)).trans (h.oth b hb hX)⟩
theorem BES.drew (h : BES base X w w1) : BES base X w w1.drew := ⟨h.bel.drew, h.oth⟩
theorem BES.drewN (h : BES base X w w1) (q : Nat) : BES base X w (w1.drewN q) := ⟨⟨h.bel.os, h.bel.tape, h.bel.output, h.bel.size, h.bel.block⟩, h.oth⟩
theorem BES.alloc (h : BES base X w w1) (hb : base ≤ w1.heap.size) (o : Obj) : BES base X w (w1.alloc o) :=
  ⟨h.bel.alloc hb o, fun b hb' hX => (Below.heap_alloc _ _ _ (by have := h.size; omega)).trans (h.oth b hb' hX)⟩
theorem BES.grown {row : Option Nat} (h : BES base X w w1) (hg : w1.grownBy w2 row) (hb : base ≤ w1.heap.size) (hr : ∀ g, row = some g → base ≤ g ∧ (X g ∨ w.heap.size ≤ g)) : BES base X w w2 :=
  ⟨h.bel.grown hg hb (fun g e => (hr g e).1), fun b hb' hX => (hg.block b (by have := h.size; omega) (fun e => by
    rcases (hr b e.symm).2 with h1 | h1
    · exact hX h1
    · omega)).trans (h.oth b hb' hX)⟩
end
end Go.Proofs.YtjbkfhdbgphodaaDoor
