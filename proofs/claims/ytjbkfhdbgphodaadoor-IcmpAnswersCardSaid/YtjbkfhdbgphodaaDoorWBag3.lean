/- bafflekit.ApartBytes: slices of the call's own that share no block are apart. -/
import Derived.Test.YtjbkfhdbgphodaaDoorWBag2
namespace Go.Proofs.YtjbkfhdbgphodaaDoor
open Go.RowKit

theorem heap_new (w : World) (o : Obj) : (w.alloc o).heap[w.heap.size]? = some o := by
  show (w.heap.push o)[w.heap.size]? = some o
  simp

set_option maxHeartbeats 1000000 in
set_option maxRecDepth 100000 in
theorem apartBytes_any (B : Option Addr) (cB base : Nat) (L : List SD) (Z : Nat → SD → List Int) (w : World) (hB : LSR w B L) (hF : FAM 5 w base L Z) (hS : SEP L []) (hm : L.length ≤ 1000) (hn : ∀ (j : Nat) (s : SD), L[j]? = some s → s.n ≤ 140737488351232) (hbase : base ≤ w.heap.size) :
    Calls Tryd.prog 35 #[.slice B L.length cB] w fun e w' => e = .returned (.bool true) ∧ Below base w w' := by
  obtain ⟨m, hml⟩ : ∃ m, m = L.length := ⟨_, rfl⟩
  obtain ⟨p, hp⟩ : ∃ p, p = w.heap.size := ⟨_, rfl⟩
  rw [← hml] at hm ⊢
  have HM := Lib.hid hml
  have HLS := Lib.hid hB
  have HF := Lib.hid hF
  have HS := Lib.hid hS
  have HN := Lib.hid hn
  have hL : ∀ b, LB L b → b < w.heap.size := fun b ⟨j, s, h1, h2⟩ => (hF.lt h1 h2).2
  have HL := Lib.hid hL
  clear hml hB hF hS hn hL
  go_enter Tryd.func35, Tryd.ntmps35
  go_wp2_with fail
  rw [← hp]
  have HP := Lib.hid hp
  clear hp
  go_loopw [4] (fun i wr => ∃ (k : Nat) (v : Value), k ≤ m ∧ i = .int .i64 k ∧ Hid (BAG wr w.heap.size p v (L.take k)) ∧ Below w.heap.size w wr) (fun i _ => m - (intOf i).toNat)
  case atStart =>
    refine ⟨0, .slice none 0 0, Nat.zero_le _, rfl, ⟨?_, World.ownsRow_nil _ _ _ _, Nat.le_of_eq HP.out.symm⟩, (Below.refl _ _).alloc (Nat.le_refl _) _⟩
    rw [HP.out]
    exact heap_new w _
  case round =>
    obtain ⟨k, v, hk, rfl, HB, HW⟩ := hrel
    have hsz := HW.size
    by_cases hlt : k < m
    · obtain ⟨s, hs⟩ : ∃ s, L[k]? = some s := ⟨_, List.getElem?_eq_getElem (by rw [← HM.out]; exact hlt)⟩
      obtain ⟨bl, cur, rfl, hbl, hcur⟩ := HLS.out (by rw [← HM.out]; omega)
      have hc := hcur k s hs
      have hbl' : bl < w.heap.size := (Array.getElem?_eq_some_iff.1 hbl).1
      have x0 : wr.cell? ⟨bl, k, none⟩ = some (.slice s.A s.n s.c) := (HW.cell (p := ⟨bl, k, none⟩) hbl').trans ((cell_of_row w bl k cur 22 (0, 0) hbl).trans hc)
      have ht : L.take (k + 1) = L.take k ++ [s] := by rw [List.take_add_one, hs]; rfl
      have HT := Lib.hid ht
      clear hc hbl hcur hs ht
      go_wp2_with (go_at_call 63; refine (putBytes_any p w.heap.size v (L.take k) s wr HB.out (by rw [List.length_take]; omega) HW.size).mono ?_; rintro e w2 ⟨rfl, ⟨v2, HB2⟩, HW2⟩)
      go_roundw
      case rel => exact ⟨k + 1, v2, by omega, by go_num, by rw [HT.out]; exact HB2, HW.trans HW2⟩
      case measure => simp [intOf]; omega
    · obtain rfl : m = k := by omega
      have hbag : BAG wr w.heap.size p v L := by
        have := HB.out
        rwa [List.take_of_length_le (by rw [← HM.out]; exact Nat.le_refl _)] at this
      have HB3 := Lib.hid hbag
      clear hbag HB
      go_wp2_with (go_at_call 64; refine (apart_any p w.heap.size base v L Z wr HB3.out (fun j s hs => (HF.out j s hs).below HW) HS.out HL.out (by rw [← HM.out]; exact hm) HN.out hbase).mono ?_; rintro e w2 ⟨rfl, HW2⟩)
      go_ret
      exact ⟨rfl, (HW.mono hbase).trans HW2⟩
end Go.Proofs.YtjbkfhdbgphodaaDoor
