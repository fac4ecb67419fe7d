/- csum.Join: what it returns, for any numbers. -/
import Derived.Test.YtjbkfhdbgphodaaDoorProg
import Derived.Test.YtjbkfhdbgphodaaDoorLib
import Derived.Test.YtjbkfhdbgphodaaDoorMem
import Derived.Test.YtjbkfhdbgphodaaDoorBits
import Derived.WalkKit
namespace Go.Proofs.YtjbkfhdbgphodaaDoor
open Go.RowKit

set_option maxHeartbeats 400000 in
theorem join_any (A : Option Addr) (n c : Nat) (zs : List Int) (w : World) (h : RD .u16 w w.heap.size A n zs) (hb : BD 65535 zs) (hn : n ≤ 9223372036854775807) :
    Calls Tryd.prog 100 #[.slice A n c] w fun e w' => e = .returned (.int .u16 (foldJ 0 zs)) ∧ w = w' := by
  go_enter Tryd.func100, Tryd.ntmps100
  go_wp2
  go_loop [3, 8] (fun s i => ∃ k : Nat, k ≤ n ∧ i = .int .i64 k ∧ s = .int .u32 (foldJ 0 (zs.take k))) (fun _ i => n - (intOf i).toNat)
  case atStart => exact ⟨0, Nat.zero_le _, rfl, rfl⟩
  case round =>
    obtain ⟨k, hk, rfl, rfl⟩ := hrel
    by_cases hlt : k < n
    · obtain ⟨b, off, rfl, hB, hc⟩ := h.2 (by omega)
      have hcell := hc k hlt
      have hz := hb.get (by omega) k
      have hf := foldJ_bd (zs.take k) (s := 0) (by omega) (by omega) (fun x hx => hb x (List.mem_of_mem_take hx))
      obtain ⟨hz1, hz2⟩ := hz
      obtain ⟨hf1, hf2⟩ := hf
      go_wp2
      go_round
      case rel =>
        refine ⟨k + 1, by omega, by go_num, ?_⟩
        have hl := h.1
        rw [u32_and_ffff _ (by omega) (by omega), foldJ_take_succ _ _ _ (by omega)]
        congr 1
        unfold stepJ
        omega
      case measure => simp [intOf]; omega
    · have hf := foldJ_bd (zs.take k) (s := 0) (by omega) (by omega) (fun x hx => hb x (List.mem_of_mem_take hx))
      obtain ⟨hf1, hf2⟩ := hf
      have hz := h.1
      have HT : Hid (zs.take k = zs) := List.take_of_length_le (by omega)
      clear hz
      go_wp2
      go_ret
      refine ⟨?_, rfl⟩
      rw [HT.out]
      rfl
end Go.Proofs.YtjbkfhdbgphodaaDoor
