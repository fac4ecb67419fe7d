/- bafflekit: LentBytes, KeptBytes, ApartBytes, in the words of Sep. -/
import Derived.Test.YtjbkfhdbgphodaaDoorSep
import Derived.Test.YtjbkfhdbgphodaaDoorWMark
import Derived.Test.YtjbkfhdbgphodaaDoorWBag3
namespace Go.Proofs.YtjbkfhdbgphodaaDoor
open Go.RowKit
set_option linter.unusedVariables false

def spZ (L : List IT) (ix : List Nat) (j : Nat) (s : SD) : List Int :=
  match ix[j]?.bind (fun i => L[i]?) with
  | some (.own _ _ _ _ _ zs) => zs.take s.n
  | _ => []
/-- the slices D are the items ix of what the call owns, maybe cut -/
def SPD (L : List IT) (ix : List Nat) (D : List SD) : Prop := ∀ (j : Nat) (s : SD), D[j]? = some s → ∃ i n zs, ix[j]? = some i ∧ L[i]? = some (.own .u8 5 s.A n s.c zs) ∧ s.n ≤ n ∧ s.n ≤ 140737488351232

theorem SPD.nil {L : List IT} : SPD L [] [] := fun j s h => by simp at h
theorem SPD.cons {L : List IT} {ix : List Nat} {D : List SD} {i n m c : Nat} {A : Option Addr} {zs : List Int} (h : L[i]? = some (.own .u8 5 A n c zs)) (hm : m ≤ n) (hl : m ≤ 140737488351232) (hD : SPD L ix D) : SPD L (i :: ix) (⟨A, m, c⟩ :: D) := fun j s hs => by
  match j, hs with
  | 0, hs => simp at hs; subst hs; exact ⟨i, n, zs, rfl, h, hm, hl⟩
  | j + 1, hs => simp at hs; obtain ⟨i', n', zs', h1, h2⟩ := hD j s hs; exact ⟨i', n', zs', by simpa using h1, h2⟩

theorem sp_apart {w wx : World} {L : List IT} (H : SP w wx L) (ix : List Nat) (D : List SD) (hD : SPD L ix D) (hn : ix.Nodup) (h0 : 0 < D.length) (hm : D.length ≤ 1000) (N cB : Nat) (hN : N = D.length) :
    Calls Tryd.prog 35 #[.slice (some ⟨wx.heap.size, 0, none⟩) N cB] (wx.alloc (.cells (D.map SD.val).toArray 22)) fun e w' => e = .returned (.bool true) ∧ Below w.heap.size wx w' := by
  subst hN
  have hw := H.size
  refine (apartBytes_any (some ⟨wx.heap.size, 0, none⟩) cB w.heap.size D (spZ L ix) _ ?_ ?_ ?_ hm ?_ (by simp; omega)).mono ?_
  · intro _
    refine ⟨wx.heap.size, _, rfl, heap_new wx _, fun k s hs => ?_⟩
    simp [hs]
  · intro j s hs
    obtain ⟨i, n, zs, h1, h2, h3, _⟩ := hD j s hs
    have ho := (H.own i h2).cut h3
    have : spZ L ix j s = zs.take s.n := by unfold spZ; rw [h1]; simp [h2]
    rw [this]
    exact ho.alloc _
  · intro i j g hi hj
    rcases hi with ⟨s, hs, hg⟩ | ⟨s, hs, _⟩
    · rcases hj with ⟨t, ht, hg'⟩ | ⟨t, ht, _⟩
      · obtain ⟨a, _, _, a1, a2, _⟩ := hD i s hs
        obtain ⟨b, _, _, b1, b2, _⟩ := hD j t ht
        have e := H.sep a b _ _ g a2 b2 (by show s.A.map (·.block) = some g; rw [hg]; rfl) (by show t.A.map (·.block) = some g; rw [hg']; rfl)
        subst e
        obtain ⟨l1, e1⟩ := List.getElem?_eq_some_iff.1 a1
        obtain ⟨l2, e2⟩ := List.getElem?_eq_some_iff.1 b1
        have h2 := List.pairwise_iff_getElem.1 hn
        rcases Nat.lt_trichotomy i j with h | h | h
        · exact absurd (e1.trans e2.symm) (h2 i j l1 l2 h)
        · exact h
        · exact absurd (e2.trans e1.symm) (h2 j i l2 l1 h)
      · simp at ht
    · simp at hs
  · intro j s hs
    obtain ⟨_, _, _, _, _, _, h4⟩ := hD j s hs
    exact h4
  · rintro e w' ⟨rfl, hb⟩
    exact ⟨rfl, ((Below.refl _ wx).alloc hw _).trans hb⟩
end Go.Proofs.YtjbkfhdbgphodaaDoor
