import Derived.Test.YtljbfnabnkkfeaaWSpR
import Derived.Deep.MidRow
/- Sep: items in any order, in parts; structs within a block. No program in sight. -/
namespace Go.Proofs.Ytljbfnabnkkfeaa
open Go.RowKit
set_option linter.unusedVariables false

/-- two items lie in blocks of their own -/
def IT.apart (x y : IT) : Prop := ∀ g, x.at_ = some g → y.at_ ≠ some g
theorem IT.apart.symm {x y : IT} (h : x.apart y) : y.apart x := fun g hy hx => h g hx hy

section
variable {w0 w w' : World} {L L' A B C : List IT} {x y : IT}
theorem SP.mem (H : SP w0 w L) : ∀ x ∈ L, x.Holds w0.heap.size w := fun x hx => by
  obtain ⟨i, hi, rfl⟩ := List.getElem_of_mem hx
  exact H.all i _ (List.getElem?_eq_getElem hi)
theorem SP.pw (H : SP w0 w L) : L.Pairwise IT.apart := by
  rw [List.pairwise_iff_getElem]
  intro i j hi hj hij g gx gy
  have := H.sep i j _ _ g (List.getElem?_eq_getElem hi) (List.getElem?_eq_getElem hj) gx gy
  omega
theorem SP.mk' (hb : Below w0.heap.size w0 w) (ha : ∀ x ∈ L, x.Holds w0.heap.size w) (hp : L.Pairwise IT.apart) : SP w0 w L := by
  refine ⟨hb, fun i x hx => ha x (List.mem_of_getElem? hx), fun i j x y g hx hy gx gy => ?_⟩
  obtain ⟨hi, rfl⟩ := List.getElem?_eq_some_iff.1 hx
  obtain ⟨hj, rfl⟩ := List.getElem?_eq_some_iff.1 hy
  rw [List.pairwise_iff_getElem] at hp
  rcases Nat.lt_trichotomy i j with h | h | h
  · exact absurd gy (hp i j hi hj h g gx)
  · exact h
  · exact absurd gx (hp j i hj hi h g gy)
theorem SP.perm (H : SP w0 w L) (h : L.Perm L') : SP w0 w L' :=
  SP.mk' H.bel (fun x hx => H.mem x (h.mem_iff.2 hx)) ((h.pairwise_iff (fun {a b} => IT.apart.symm)).1 H.pw)
theorem SP.sub (H : SP w0 w L) (h : L'.Sublist L) : SP w0 w L' :=
  SP.mk' H.bel (fun x hx => H.mem x (h.subset hx)) (H.pw.sublist h)
theorem SP.swap (H : SP w0 w (A ++ (B ++ C))) : SP w0 w (B ++ (A ++ C)) :=
  H.perm (by rw [← List.append_assoc, ← List.append_assoc]; exact List.perm_append_comm.append_right C)
theorem SP.comm (H : SP w0 w (A ++ B)) : SP w0 w (B ++ A) := H.perm List.perm_append_comm
theorem SP.right (H : SP w0 w (A ++ B)) : SP w0 w B := H.sub (List.sublist_append_right _ _)
theorem SP.left (H : SP w0 w (A ++ B)) : SP w0 w A := H.sub (List.sublist_append_left _ _)
theorem SP.ltm (H : SP w0 w L) (hx : x ∈ L) {g : Nat} (hg : x.at_ = some g) : w0.heap.size ≤ g ∧ g < w.heap.size := (H.mem x hx).lt hg
/-- what lies in front moves behind the first of the rest -/
theorem SP.frontOf (H : SP w0 w (A ++ (x :: C))) : SP w0 w (x :: (A ++ C)) := H.perm List.perm_middle
theorem SP.backOf (H : SP w0 w (x :: (A ++ C))) : SP w0 w (A ++ (x :: C)) := H.perm List.perm_middle.symm

/-- the cells behind a store of many -/
def setAll (cs : Array Value) : Nat → List Value → Array Value
  | _, [] => cs
  | o, v :: r => setAll (cs.setIfInBounds o v) (o + 1) r
theorem SP.setM {N : Nat} {t : TypeId} : ∀ (vs : List Value) (o : Nat) {w : World} {L : List IT} {cs : Array Value} (H : SP w0 w L) (i : Nat) (hi : L[i]? = some (.blk N t cs)), SP w0 (w.setCells N o vs) (L.set i (.blk N t (setAll cs o vs)))
  | [], o, w, L, cs, H, i, hi => by
    rw [show L.set i (.blk N t (setAll cs o [])) = L from by
      apply List.ext_getElem?
      intro j
      by_cases hj : j = i
      · subst hj; rw [List.getElem?_set_self (List.getElem?_eq_some_iff.1 hi).1]; exact hi.symm
      · rw [List.getElem?_set_ne (fun h => hj h.symm)]]
    exact H
  | v :: r, o, w, L, cs, H, i, hi => by
    have H1 := H.setB i hi o v
    have hl := (List.getElem?_eq_some_iff.1 hi).1
    have := SP.setM r (o + 1) H1 i (List.getElem?_set_self hl)
    rw [List.set_set] at this
    exact this
theorem BLOCK.there {N : Nat} {t : TypeId} {cs : Array Value} (h : BLOCK w N t cs) (o n : Nat) (hn : o + n ≤ cs.size) : w.there N o n := fun j hj => by
  refine ⟨?_, h.free _⟩
  rw [h.cell, Array.getElem?_eq_getElem (by omega)]
  rfl
theorem BLOCK.range {N : Nat} {t : TypeId} {cs : Array Value} (h : BLOCK w N t cs) (o n : Nat) : w.rangeAt N o (cs.extract o (o + n)).toList := World.rangeAt_of_block h o n
end
end Go.Proofs.Ytljbfnabnkkfeaa
