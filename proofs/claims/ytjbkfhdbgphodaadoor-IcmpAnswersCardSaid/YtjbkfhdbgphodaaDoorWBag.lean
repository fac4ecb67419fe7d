/- bafflekit.ApartBytes: slices of the call's own that share no block are apart. -/
import Derived.Test.YtjbkfhdbgphodaaDoorWFlat0
namespace Go.Proofs.YtjbkfhdbgphodaaDoor
open Go.RowKit

/-- the cells of a bag whose slices of bytes are v -/
def bag13 (v : Value) : Array Value := #[.slice none 0 0, .slice none 0 0, v, .slice none 0 0, .slice none 0 0, .slice none 0 0, .slice none 0 0, .slice none 0 0, .slice none 0 0, .slice none 0 0, .slice none 0 0, .slice none 0 0, .slice none 0 0]

structure BAG (w : World) (base p : Nat) (v : Value) (L : List SD) : Prop where
  blk : w.heap[p]? = some (.cells (bag13 v) 111 (0, 0))
  own : w.ownsRow base 22 1 v L.length (L.map SD.val)
  far : base ≤ p

theorem BAG.ne {w : World} {base p : Nat} {v : Value} {L : List SD} (h : BAG w base p v L) : v.ownBlock ≠ some p := by
  intro hv
  rcases h.own.2 with ⟨rfl, _⟩ | ⟨g, cap, cur, rfl, _, h3, _⟩
  · cases hv
  · simp [Value.ownBlock] at hv
    subst hv
    rw [h.blk] at h3
    simp at h3

theorem BAG.keep {w w' : World} {base p : Nat} {v : Value} {L : List SD} (h : BAG w base p v L) (hp : w'.heap[p]? = w.heap[p]?) (hv : ∀ g, v.ownBlock = some g → w'.heap[g]? = w.heap[g]?) : BAG w' base p v L := by
  refine ⟨hp.trans h.blk, ⟨h.own.1, ?_⟩, h.far⟩
  rcases h.own.2 with h1 | ⟨g, cap, cur, h1, h2, h3, r⟩
  · exact .inl h1
  · exact .inr ⟨g, cap, cur, h1, h2, by rw [hv g (by rw [h1]; rfl)]; exact h3, r⟩

theorem slice_of_row {w : World} {base : Nat} {e : TypeId} {v : Value} {n : Nat} {xs : List Value} (h : w.ownsRow base e 1 v n xs) : ∃ A c, v = .slice A n c := by
  rcases h.2 with ⟨rfl, rfl⟩ | ⟨g, cap, cur, rfl, _⟩
  · exact ⟨_, _, rfl⟩
  · exact ⟨_, _, rfl⟩

set_option maxRecDepth 100000 in
theorem putBytes_any (p base : Nat) (v : Value) (L : List SD) (s : SD) (w : World) (h : BAG w base p v L) (hl : L.length ≤ 1000) (hbase : base ≤ w.heap.size) :
    Calls Tryd.prog 63 #[.pointer (some ⟨p, 0, none⟩), .slice s.A s.n s.c] w fun e w' => e = .returned (.tuple #[]) ∧ (∃ v', BAG w' base p v' (L ++ [s])) ∧ Below base w w' := by
  obtain ⟨j0, hj, hy0, hy1, hy2⟩ := info_parts infoU8s
  have x0 : w.cell? ⟨p, 2, none⟩ = some v := (cell_of_row w p 2 _ _ _ h.blk).trans rfl
  have hp : p < w.heap.size := (Array.getElem?_eq_some_iff.1 h.blk).1
  have hne := h.ne
  obtain ⟨w1, hw1⟩ : ∃ w1, w1 = w.alloc (.cells #[Value.slice s.A s.n s.c] 22) := ⟨_, rfl⟩
  have hB1 : BAG w1 base p v L := h.keep (by rw [hw1]; exact Below.heap_alloc w _ p hp) (fun g hg => by
    rw [hw1]
    refine Below.heap_alloc w _ g ?_
    rcases h.own.2 with ⟨rfl, _⟩ | ⟨g', cap, cur, rfl, _, h3, _⟩
    · cases hg
    · simp [Value.ownBlock] at hg
      subst hg
      exact (Array.getElem?_eq_some_iff.1 h3).1)
  have HB1 := Lib.hid hB1
  have hs1 : base ≤ w1.heap.size := by rw [hw1]; simp; omega
  have hnews : ∀ j u, [Value.slice s.A s.n s.c][j]? = some u → w1.cell? ((⟨w.heap.size, 0, none⟩ : Addr).add j) = some u := by rw [hw1]; exact cell_one_new w _ _
  have hp1 : p < w1.heap.size := by rw [hw1]; simp; omega
  have hbel1 : Below base w w1 := by rw [hw1]; exact (Below.refl _ _).alloc hbase _
  have HN := Lib.hid hne
  clear hB1 h hne
  go_enter Tryd.func63, Tryd.ntmps63
  go_wp2_with (at_builtin; rw [← hw1]; refine wpList_append_own_at _ rfl _ _ _ rfl base 22 j0 (.slice none 0 0) 1 24 Tryd.underlying71 hj hy0 hy1 hy2 rfl (by omega) v L.length (L.map SD.val) rfl HB1.out.own ⟨w.heap.size, 0, none⟩ 1 1 [Value.slice s.A s.n s.c] rfl rfl hnews (by simp [Value.oneCell']) (by simp only [maxLen]; omega) (by omega) hs1 ?_; intro v3 w3 hown3 hg3 _ hat3; have hblk3 := (hg3.block p hp1 (fun e => HN.out e.symm)).trans HB1.out.blk; have hfz := frozen_of_row w3 p 2 _ _ hblk3; have hc3 : w3.cell? ⟨p, 2, none⟩ = some v := (cell_of_row w3 p 2 _ _ _ hblk3).trans rfl; obtain ⟨A3, c3, rfl⟩ := slice_of_row hown3)
  go_end0
  refine ⟨rfl, ⟨.slice A3 (L.length + 1) c3, ?_, ?_, HB1.out.far⟩, ?_⟩
  · exact heap_setCell_same w3 p 2 _ _ _ hblk3
  · have hk : ∀ g, (Value.slice A3 (L.length + 1) c3).ownBlock = some g → (w3.setCell ⟨p, 2, none⟩ (Value.slice A3 (L.length + 1) c3)).heap[g]? = w3.heap[g]? := by
      intro g hg
      refine Below.heap_setCell _ _ _ _ ?_
      rintro rfl
      rcases hat3 with h | h
      · exact HN.out (h.symm.trans hg)
      · rw [hg] at h
        simp at h
        omega
    rw [List.length_append, List.map_append]
    refine ⟨hown3.1, ?_⟩
    rcases hown3.2 with h1 | ⟨g, cap, cur, h1, h2, h3, r⟩
    · exact .inl h1
    · exact .inr ⟨g, cap, cur, h1, h2, by rw [hk g (by rw [h1]; rfl)]; exact h3, r⟩
  · refine (hbel1.trans ((Below.refl _ _).grown hg3 hs1 ?_)).setCell (p := ⟨p, 2, none⟩) HB1.out.far _
    intro g hg
    rcases HB1.out.own.2 with ⟨rfl, _⟩ | ⟨g', cap, cur, rfl, h2, _⟩
    · cases hg
    · simp [Value.ownBlock] at hg
      omega
end Go.Proofs.YtjbkfhdbgphodaaDoor
