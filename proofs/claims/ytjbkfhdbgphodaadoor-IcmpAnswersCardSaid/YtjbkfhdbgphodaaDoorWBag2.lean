/- bafflekit's (*bag).apart and ApartBytes: slices of the call's own that share no block are apart. Written by gen_bag.py. -/
import Derived.Test.YtjbkfhdbgphodaaDoorWBag
namespace Go.Proofs.YtjbkfhdbgphodaaDoor
open Go.RowKit

def BB (w : World) (p : Nat) (v : Value) : Prop := w.heap[p]? = some (.cells (bag13 v) 111 (0, 0))
theorem BB.at {w : World} {p : Nat} {v : Value} (h : BB w p v) (k : Nat) {u : Value} (hu : (bag13 v)[k]? = some u) : w.cell? ⟨p, k, none⟩ = some u := (cell_of_row w p k _ _ _ h).trans hu
theorem BB.lt {w : World} {p : Nat} {v : Value} (h : BB w p v) : p < w.heap.size := (Array.getElem?_eq_some_iff.1 h).1
theorem BB.next {w w' : World} {p : Nat} {v : Value} (h : BB w p v) (hb : Below w.heap.size w w') : BB w' p v := (hb.block p h.lt).trans h

theorem lsr_of_own {w : World} {base : Nat} {B : Option Addr} {c : Nat} {L : List SD} (h : w.ownsRow base 22 1 (.slice B L.length c) L.length (L.map SD.val)) : LSR w B L := by
  intro h0
  rcases h.2 with ⟨_, e⟩ | ⟨g, cap, cur, e, _, h3, h4, h5, h6, h7⟩
  · omega
  · simp at e
    refine ⟨g, cur, e.1, h3, fun k s hs => ?_⟩
    have hk : k < L.length := (List.getElem?_eq_some_iff.1 hs).1
    have h8 : (cur.toList.take (L.length * 1))[k]? = some s.val := by rw [h7, List.getElem?_map, hs]; rfl
    rw [List.getElem?_take_of_lt (by omega)] at h8
    simpa using h8

theorem own_row_keep {w w' : World} {base : Nat} {v : Value} {n : Nat} {xs : List Value} (h : w.ownsRow base 22 1 v n xs) (hb : Below w.heap.size w w') : w'.ownsRow base 22 1 v n xs := by
  refine ⟨h.1, ?_⟩
  rcases h.2 with h1 | ⟨g, cap, cur, h1, h2, h3, r⟩
  · exact .inl h1
  · exact .inr ⟨g, cap, cur, h1, h2, (hb.block g (Array.getElem?_eq_some_iff.1 h3).1).trans h3, r⟩

theorem flat_at {B : Option Addr} {cB base N m : Nat} {L : List SD} {Z : Nat → SD → List Int} {w : World} (hl : L.length = m) (hO : w.ownsRow N 22 1 (.slice B m cB) m (L.map SD.val)) (hF : FAM 5 w base L Z) (hS : SEP L []) (hm : m ≤ 1000) (hn : ∀ (j : Nat) (s : SD), L[j]? = some s → s.n ≤ 140737488351232) (hbase : base ≤ w.heap.size) :
    Calls Tryd.prog 73 #[.slice B m cB] w fun e w' => e = .returned (.bool true) ∧ BES base (LB L) w w' := by
  subst hl
  exact flat_any B cB base L Z w (lsr_of_own hO) hF hS hm hn hbase

set_option maxHeartbeats 1000000 in
set_option maxRecDepth 100000 in
theorem apart_any (p N base : Nat) (v : Value) (L : List SD) (Z : Nat → SD → List Int) (w : World) (h : BAG w N p v L) (hF : FAM 5 w base L Z) (hS : SEP L []) (hL : ∀ b, LB L b → b < N) (hm : L.length ≤ 1000) (hn : ∀ (j : Nat) (s : SD), L[j]? = some s → s.n ≤ 140737488351232) (hbase : base ≤ N) :
    Calls Tryd.prog 64 #[.pointer (some ⟨p, 0, none⟩)] w fun e w' => e = .returned (.bool true) ∧ Below base w w' := by
  obtain ⟨B, c, rfl⟩ := slice_of_row h.own
  have HO := Lib.hid h.own
  have hpN := h.far
  have b0 : Hid (BB w p (.slice B L.length c)) := h.blk
  have hF := Lib.hid hF
  have hS := Lib.hid hS
  have hL := Lib.hid hL
  have hn := Lib.hid hn
  have hlt := b0.out.lt
  have w0 := w
  have x0 := b0.out.at 0 rfl
  clear h
  generalize hm1 : L.length = m at *
  go_enter Tryd.func64, Tryd.ntmps64
  go_wp2_with (first
    | (go_at_call 71; refine (flatInts_no w).mono ?_; rintro e w1 ⟨rfl, hb1⟩; have b1 := Lib.hid (b0.out.next hb1); have HB1 := Below.mono hb1 (show base ≤ w.heap.size by omega); have x1 := b1.out.at 1 rfl; clear x0)
    | (go_at_call 72; refine (flatTexts_no w1).mono ?_; rintro e w2 ⟨rfl, hb2⟩; have b2 := Lib.hid (b1.out.next hb2); have HB2 := HB1.trans (Below.mono hb2 (show base ≤ w1.heap.size by have := HB1.size; omega)); have x2 := b2.out.at 2 rfl; clear x1)
    | (go_at_call 73; have hO2 := own_row_keep (own_row_keep HO.out hb1) hb2; have hF2 : FAM 5 w2 base L Z := fun j s hs => ((hF.out j s hs).below hb1).below hb2; refine (flat_at hm1 hO2 hF2 hS.out hm hn.out (by have := HB2.size; omega)).mono ?_; rintro e w3 ⟨rfl, hb3⟩; have b3 : Hid (BB w3 p (.slice B m c)) := (hb3.oth p b2.out.lt (fun hx => by have := hL.out p hx; omega)).trans b2.out; have HB3 := HB2.trans hb3.bel; have x3 := b3.out.at 3 rfl; clear x2)
    | (go_at_call 74; refine (flatWords_no w3).mono ?_; rintro e w4 ⟨rfl, hb4⟩; have b4 := Lib.hid (b3.out.next hb4); have HB4 := HB3.trans (Below.mono hb4 (show base ≤ w3.heap.size by have := HB3.size; omega)); have x4 := b4.out.at 4 rfl; clear x3)
    | (go_at_call 75; refine (flatKeys_no w4).mono ?_; rintro e w5 ⟨rfl, hb5⟩; have b5 := Lib.hid (b4.out.next hb5); have HB5 := HB4.trans (Below.mono hb5 (show base ≤ w4.heap.size by have := HB4.size; omega)); have x5 := b5.out.at 5 rfl; clear x4)
    | (go_at_call 76; refine (flatFactsLists_no w5).mono ?_; rintro e w6 ⟨rfl, hb6⟩; have b6 := Lib.hid (b5.out.next hb6); have HB6 := HB5.trans (Below.mono hb6 (show base ≤ w5.heap.size by have := HB5.size; omega)); have x6 := b6.out.at 6 rfl; clear x5)
    | (go_at_call 77; refine (flatPrefixes_no w6).mono ?_; rintro e w7 ⟨rfl, hb7⟩; have b7 := Lib.hid (b6.out.next hb7); have HB7 := HB6.trans (Below.mono hb7 (show base ≤ w6.heap.size by have := HB6.size; omega)); have x7 := b7.out.at 7 rfl; clear x6)
    | (go_at_call 78; refine (flatRanges_no w7).mono ?_; rintro e w8 ⟨rfl, hb8⟩; have b8 := Lib.hid (b7.out.next hb8); have HB8 := HB7.trans (Below.mono hb8 (show base ≤ w7.heap.size by have := HB7.size; omega)); have x8 := b8.out.at 8 rfl; clear x7)
    | (go_at_call 79; refine (flatRules_no w8).mono ?_; rintro e w9 ⟨rfl, hb9⟩; have b9 := Lib.hid (b8.out.next hb9); have HB9 := HB8.trans (Below.mono hb9 (show base ≤ w8.heap.size by have := HB8.size; omega)); have x9 := b9.out.at 9 rfl; clear x8)
    | (go_at_call 80; refine (flatIntLists_no w9).mono ?_; rintro e w10 ⟨rfl, hb10⟩; have b10 := Lib.hid (b9.out.next hb10); have HB10 := HB9.trans (Below.mono hb10 (show base ≤ w9.heap.size by have := HB9.size; omega)); have x10 := b10.out.at 10 rfl; clear x9)
    | (go_at_call 81; refine (flatTextLists_no w10).mono ?_; rintro e w11 ⟨rfl, hb11⟩; have b11 := Lib.hid (b10.out.next hb11); have HB11 := HB10.trans (Below.mono hb11 (show base ≤ w10.heap.size by have := HB10.size; omega)); have x11 := b11.out.at 11 rfl; clear x10)
    | (go_at_call 82; refine (flatByteLists_no w11).mono ?_; rintro e w12 ⟨rfl, hb12⟩; have b12 := Lib.hid (b11.out.next hb12); have HB12 := HB11.trans (Below.mono hb12 (show base ≤ w11.heap.size by have := HB11.size; omega)); have x12 := b12.out.at 12 rfl; clear x11)
    | (go_at_call 83; refine (flatRuleLists_no w12).mono ?_; rintro e w13 ⟨rfl, hb13⟩; have b13 := Lib.hid (b12.out.next hb13); have HB13 := HB12.trans (Below.mono hb13 (show base ≤ w12.heap.size by have := HB12.size; omega))))
  go_ret
  exact ⟨rfl, HB13⟩
end Go.Proofs.YtjbkfhdbgphodaaDoor
