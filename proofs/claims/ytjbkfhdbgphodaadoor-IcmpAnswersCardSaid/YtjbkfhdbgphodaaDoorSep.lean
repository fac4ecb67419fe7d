/- The state of a call: slices and blocks of its own, each in a block by itself. No program in sight. -/
import Derived.Test.YtjbkfhdbgphodaaDoorBlk
namespace Go.Proofs.YtjbkfhdbgphodaaDoor
open Go.RowKit
set_option linter.unusedVariables false

/-- something that the call owns -/
inductive IT where
  | own (k : IntKind) (e : TypeId) (A : Option Addr) (n c : Nat) (zs : List Int)
  | blk (N : Nat) (t : TypeId) (cs : Array Value)
  | gone

def IT.at_ : IT → Option Nat
  | .own _ _ A _ _ _ => A.map (·.block)
  | .blk N _ _ => some N
  | .gone => none
def IT.Holds (base : Nat) (w : World) : IT → Prop
  | .own k e A n c zs => OWN k e w base A n c zs
  | .blk N t cs => base ≤ N ∧ BLOCK w N t cs
  | .gone => True

theorem IT.Holds.lt {base : Nat} {w : World} {it : IT} (h : it.Holds base w) {g : Nat} (hg : it.at_ = some g) : base ≤ g ∧ g < w.heap.size := by
  cases it with
  | own k e A n c zs =>
    rcases OWN.cases h with ⟨rfl, _⟩ | ⟨g', rfl, h1, h2, _⟩
    · cases hg
    · simp only [IT.at_, Option.map, Option.some.injEq] at hg; subst hg; exact ⟨h1, h2⟩
  | blk N t cs => simp only [IT.at_, Option.some.injEq] at hg; subst hg; exact ⟨h.1, h.2.lt⟩
  | gone => cases hg
theorem IT.Holds.keep {base : Nat} {w w' : World} {it : IT} (h : it.Holds base w) (hk : ∀ g, it.at_ = some g → w'.heap[g]? = w.heap[g]?) : it.Holds base w' := by
  cases it with
  | own k e A n c zs => exact OWN.keep h fun g hg => hk g (by subst hg; rfl)
  | blk N t cs => exact ⟨h.1, (hk N rfl).trans h.2⟩
  | gone => trivial
theorem IT.Holds.mono {base base' : Nat} {w : World} {it : IT} (h : it.Holds base w) (hb : base' ≤ base) : it.Holds base' w := by
  cases it with
  | own k e A n c zs => exact OWN.mono h hb
  | blk N t cs => exact ⟨Nat.le_trans hb h.1, h.2⟩
  | gone => trivial

/-- what the call owns now, apart from one another; below it all is as it was -/
structure SP (w0 w : World) (L : List IT) : Prop where
  bel : Below w0.heap.size w0 w
  all : ∀ (i : Nat) (it : IT), L[i]? = some it → it.Holds w0.heap.size w
  sep : ∀ (i j : Nat) (x y : IT) (g : Nat), L[i]? = some x → L[j]? = some y → x.at_ = some g → y.at_ = some g → i = j

/-- all blocks but one are as they were -/
def BUT (g : Nat) (w w' : World) : Prop := w.heap.size ≤ w'.heap.size ∧ ∀ b, b < w.heap.size → b ≠ g → w'.heap[b]? = w.heap[b]?

section
variable {w0 w w' : World} {L : List IT} {k : IntKind} {e t : TypeId} {A : Option Addr} {n c N g i j : Nat} {zs ys : List Int} {cs : Array Value} {it it' : IT}

theorem SP.start (w : World) : SP w w [] := ⟨Below.refl _ _, fun i it h => by simp at h, fun i j x y g h => by simp at h⟩
theorem SP.size (H : SP w0 w L) : w0.heap.size ≤ w.heap.size := H.bel.size
theorem SP.next (H : SP w0 w L) (hb : Below w.heap.size w w') : SP w0 w' L :=
  ⟨H.bel.trans (hb.mono H.size), fun i it h => (H.all i it h).keep fun g hg => hb.block g ((H.all i it h).lt hg).2, H.sep⟩
theorem SP.drew (H : SP w0 w L) : SP w0 w.drew L := H.next ((Below.refl _ w).drew)
theorem SP.drewN (H : SP w0 w L) (m : Nat) : SP w0 (w.drewN m) L := H.next ⟨rfl, rfl, rfl, Nat.le_refl _, fun _ _ => rfl⟩
theorem SP.push (H : SP w0 w L) (hb : Below w.heap.size w w') (hh : it.Holds w.heap.size w') : SP w0 w' (L ++ [it]) := by
  have H' := H.next hb
  have hn : ∀ i x, (L ++ [it])[i]? = some x → L[i]? = some x ∨ (i = L.length ∧ x = it) := fun i x hx => by
    rcases Nat.lt_or_ge i L.length with hl | hl
    · rw [List.getElem?_append_left hl] at hx; exact .inl hx
    · rw [List.getElem?_append_right hl] at hx
      have : i - L.length = 0 := by
        rcases Nat.eq_zero_or_pos (i - L.length) with h | h
        · exact h
        · rw [List.getElem?_eq_none (by simp; omega)] at hx; cases hx
      rw [this] at hx
      simp at hx
      exact .inr ⟨by omega, hx.symm⟩
  refine ⟨H'.bel, fun i x hx => ?_, fun i j x y g hx hy gx gy => ?_⟩
  · rcases hn i x hx with h | ⟨_, rfl⟩
    · exact H'.all i x h
    · exact hh.mono H.size
  · rcases hn i x hx with h1 | ⟨h1, rfl⟩ <;> rcases hn j y hy with h2 | ⟨h2, rfl⟩
    · exact H.sep i j x y g h1 h2 gx gy
    · have := ((H.all i x h1).lt gx).2
      have := (hh.lt gy).1
      omega
    · have := ((H.all j y h2).lt gy).2
      have := (hh.lt gx).1
      omega
    · omega
theorem SP.pushOwn (H : SP w0 w L) (hb : Below w.heap.size w w') (hh : OWN k e w' w.heap.size A n c zs) : SP w0 w' (L ++ [.own k e A n c zs]) := H.push hb hh
theorem SP.alloc (H : SP w0 w L) (t : TypeId) (cs : Array Value) : SP w0 (w.alloc (.cells cs t)) (L ++ [.blk w.heap.size t cs]) :=
  H.push ((Below.refl _ w).alloc (Nat.le_refl _) _) ⟨Nat.le_refl _, BLOCK.new w t cs⟩
theorem SP.alloc' (H : SP w0 w L) (t : TypeId) (cs : Array Value) (hN : w.heap.size = N) : SP w0 (w.alloc (.cells cs t)) (L ++ [.blk N t cs]) := hN ▸ H.alloc t cs
theorem SP.allocI (H : SP w0 w L) (k : IntKind) (e : TypeId) (zs : List Int) (hm : zs.length ≤ maxLen) : SP w0 (w.alloc (.cells (zs.map (Value.int k)).toArray e)) (L ++ [.own k e (some ⟨w.heap.size, 0, none⟩) zs.length zs.length zs]) :=
  H.push ((Below.refl _ w).alloc (Nat.le_refl _) _) (OWN.lit w k e w.heap.size zs (Nat.le_refl _) hm)
theorem SP.allocI' (H : SP w0 w L) (k : IntKind) (e : TypeId) (zs : List Int) (hm : zs.length ≤ maxLen) (hN : w.heap.size = N) : SP w0 (w.alloc (.cells (zs.map (Value.int k)).toArray e)) (L ++ [.own k e (some ⟨N, 0, none⟩) zs.length zs.length zs]) := hN ▸ H.allocI k e zs hm
theorem SP.upd (H : SP w0 w L) (hi : L[i]? = some it) (hb : Below w0.heap.size w w') (hh : it'.Holds w0.heap.size w') (hat : it'.at_ = it.at_ ∨ ∀ g, it'.at_ = some g → w.heap.size ≤ g)
    (hf : ∀ b, b < w.heap.size → it.at_ ≠ some b → w'.heap[b]? = w.heap[b]?) : SP w0 w' (L.set i it') := by
  have hl : i < L.length := (List.getElem?_eq_some_iff.1 hi).1
  have hn : ∀ j x, (L.set i it')[j]? = some x → (j = i ∧ x = it') ∨ (j ≠ i ∧ L[j]? = some x) := fun j x hx => by
    by_cases hj : j = i
    · subst hj
      rw [List.getElem?_set_self hl] at hx
      simp at hx
      exact .inl ⟨rfl, hx.symm⟩
    · rw [List.getElem?_set_ne (fun h => hj h.symm)] at hx
      exact .inr ⟨hj, hx⟩
  have hne : ∀ j x g, j ≠ i → L[j]? = some x → x.at_ = some g → it.at_ ≠ some g := fun j x g hj hx gx gi => hj (H.sep j i x it g hx hi gx gi)
  have hne' : ∀ j x g, j ≠ i → L[j]? = some x → x.at_ = some g → it'.at_ ≠ some g := fun j x g hj hx gx gi => by
    rcases hat with h | h
    · exact hne j x g hj hx gx (h ▸ gi)
    · have h1 := h g gi
      have h2 := ((H.all j x hx).lt gx).2
      omega
  refine ⟨H.bel.trans hb, fun j x hx => ?_, fun j l x y g hx hy gx gy => ?_⟩
  · rcases hn j x hx with ⟨_, rfl⟩ | ⟨hj, hx'⟩
    · exact hh
    · exact (H.all j x hx').keep fun g hg => hf g ((H.all j x hx').lt hg).2 (hne j x g hj hx' hg)
  · rcases hn j x hx with ⟨h1, rfl⟩ | ⟨h1, h1'⟩ <;> rcases hn l y hy with ⟨h2, rfl⟩ | ⟨h2, h2'⟩
    · omega
    · exact absurd gx (hne' l y g h2 h2' gy)
    · exact absurd gy (hne' j x g h1 h1' gx)
    · exact H.sep j l x y g h1' h2' gx gy
theorem SP.own (H : SP w0 w L) (i : Nat) (hi : L[i]? = some (.own k e A n c zs)) : OWN k e w w0.heap.size A n c zs := H.all i _ hi
theorem SP.rd (H : SP w0 w L) (i : Nat) (hi : L[i]? = some (.own k e A n c zs)) : RD k w w.heap.size A n zs := (H.own i hi).rd
theorem SP.blk (H : SP w0 w L) (i : Nat) (hi : L[i]? = some (.blk N t cs)) : BLOCK w N t cs := (H.all i _ hi).2
theorem SP.ge (H : SP w0 w L) (i : Nat) (hi : L[i]? = some (.blk N t cs)) : w0.heap.size ≤ N := (H.all i _ hi).1
theorem SP.cell (H : SP w0 w L) (i : Nat) (hi : L[i]? = some (.blk N t cs)) (j : Nat) {v : Value} (hv : cs[j]? = some v) : w.cell? ⟨N, j, none⟩ = some v := ((H.blk i hi).cell j).trans hv
theorem SP.free (H : SP w0 w L) (i : Nat) (hi : L[i]? = some (.blk N t cs)) (j : Nat) : w.frozen? ⟨N, j, none⟩ = false := (H.blk i hi).free j
theorem SP.ne (H : SP w0 w L) (i j : Nat) {x y : IT} (hi : L[i]? = some x) (hj : L[j]? = some y) (hij : i ≠ j) {g : Nat} (gx : x.at_ = some g) : y.at_ ≠ some g := fun gy => hij (H.sep i j x y g hi hj gx gy)
theorem SP.setB (H : SP w0 w L) (i : Nat) (hi : L[i]? = some (.blk N t cs)) (j : Nat) (v : Value) : SP w0 (w.setCell ⟨N, j, none⟩ v) (L.set i (.blk N t (cs.setIfInBounds j v))) :=
  H.upd hi ((Below.refl _ w).setCell (p := ⟨N, j, none⟩) (H.ge i hi) v) ⟨H.ge i hi, (H.blk i hi).set j v⟩ (.inl rfl) fun b _ hb => Below.heap_setCell w _ v b (fun h => hb (by rw [h]; rfl))
theorem SP.setO (H : SP w0 w L) (i : Nat) (hi : L[i]? = some (.own k e (some ⟨g, 0, none⟩) n c zs)) (j : Nat) (x : Int) : SP w0 (w.setCell ⟨g, j, none⟩ (.int k x)) (L.set i (.own k e (some ⟨g, 0, none⟩) n c (zs.set j x))) :=
  H.upd hi ((Below.refl _ w).setCell (p := ⟨g, j, none⟩) ((H.own i hi).lt g rfl).1 _) ((H.own i hi).stored j x) (.inl rfl) fun b _ hb => Below.heap_setCell w _ _ b (fun h => hb (by rw [h]; rfl))
theorem SP.wrote (H : SP w0 w L) (i : Nat) (hi : L[i]? = some (.own k e (some ⟨g, 0, none⟩) n c zs)) (hb : BUT g w w') (hl : Below g w w') (ho : OWN k e w' w0.heap.size (some ⟨g, 0, none⟩) n c ys) : SP w0 w' (L.set i (.own k e (some ⟨g, 0, none⟩) n c ys)) :=
  H.upd hi (hl.mono ((H.own i hi).lt g rfl).1) ho (.inl rfl) fun b hlt hne => hb.2 b hlt (fun h => hne (by rw [h]; rfl))
theorem SP.app {A' : Option Addr} {n' c' : Nat} (H : SP w0 w L) (i : Nat) (hi : L[i]? = some (.own k e A n c zs)) (h : APP k e w w' w0.heap.size A A' n n' c c' zs ys) : SP w0 w' (L.set i (.own k e A' n' c' ys)) := by
  refine H.upd hi (h.keepBelow (fun g hg => ((H.all i _ hi).lt hg).1) H.size) h.own ?_ fun b hlt hne => ?_
  · rcases h.lies with ⟨h1, _⟩ | ⟨_, h1⟩
    · exact .inl (by rw [h1]; rfl)
    · exact .inr fun g hg => by rw [h1] at hg; simp [IT.at_] at hg; omega
  · exact h.grown.block b hlt (fun h1 => hne h1.symm)
theorem SP.cutO (H : SP w0 w L) (i : Nat) (hi : L[i]? = some (.own k e A n c zs)) {m : Nat} (hm : m ≤ n) : SP w0 w (L.set i (.own k e A m c (zs.take m))) :=
  H.upd hi (Below.refl _ _) ((H.own i hi).cut hm) (.inl rfl) fun b _ _ => rfl
theorem SP.forget (H : SP w0 w L) (i : Nat) (hi : L[i]? = some it) : SP w0 w (L.set i .gone) := by
  refine H.upd hi (Below.refl _ _) (it' := .gone) trivial (.inr fun g h => by cases h) fun b _ _ => rfl
theorem SP.pick (H : SP w0 w L) (ix : List Nat) (hn : ix.Nodup) {L' : List IT} (hL : L'.map some = ix.map (fun x : Nat => L[x]?)) : SP w0 w L' := by
  have h1 : ∀ (i : Nat) (x : IT), L'[i]? = some x → ∃ j : Nat, ix[i]? = some j ∧ L[j]? = some x := fun i x hx => by
    have h2 : (L'.map some)[i]? = some (some x) := by rw [List.getElem?_map, hx]; rfl
    rw [hL, List.getElem?_map] at h2
    rcases hj : ix[i]? with _ | j
    · rw [hj] at h2; cases h2
    · rw [hj] at h2; simp at h2; exact ⟨j, rfl, h2⟩
  refine ⟨H.bel, fun i x hx => ?_, fun i j x y g hx hy gx gy => ?_⟩
  · obtain ⟨l, _, hl⟩ := h1 i x hx
    exact H.all l x hl
  · obtain ⟨l, hl1, hl⟩ := h1 i x hx
    obtain ⟨m, hm1, hm⟩ := h1 j y hy
    have := H.sep l m x y g hl hm gx gy
    subst this
    have e1 := List.getElem?_eq_some_iff.1 hl1
    have e2 := List.getElem?_eq_some_iff.1 hm1
    obtain ⟨l1, e1⟩ := e1
    obtain ⟨l2, e2⟩ := e2
    have h2 := List.pairwise_iff_getElem.1 hn
    rcases Nat.lt_trichotomy i j with h | h | h
    · exact absurd (e1.trans e2.symm) (h2 i j l1 l2 h)
    · exact h
    · exact absurd (e2.trans e1.symm) (h2 j i l2 l1 h)
theorem BUT.refl (g : Nat) (w : World) : BUT g w w := ⟨Nat.le_refl _, fun _ _ _ => rfl⟩
theorem BUT.below (h : Below w.heap.size w w') (g : Nat) : BUT g w w' := ⟨h.size, fun b hb _ => h.block b hb⟩
theorem BUT.trans {w'' : World} (h : BUT g w w') (h' : BUT g w' w'') : BUT g w w'' := ⟨Nat.le_trans h.1 h'.1, fun b hb hne => (h'.2 b (by have := h.1; omega) hne).trans (h.2 b hb hne)⟩
theorem BUT.set (h : BUT g w w') (i : Nat) (v : Value) : BUT g w (w'.setCell ⟨g, i, none⟩ v) := ⟨by have := h.1; simpa using this, fun b hb hne => (Below.heap_setCell w' _ v b hne).trans (h.2 b hb hne)⟩
end
end Go.Proofs.YtjbkfhdbgphodaaDoor
