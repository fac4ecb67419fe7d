/- The examples of the chapter on checksums: awake returns true. -/
import Derived.Test.YtfaihaooompojaaWFix
import Derived.Test.YtfaihaooompojaaWSame
namespace Go.Proofs.Ytfaihaooompojaa
open Go.RowKit
set_option linter.unusedVariables false

theorem bd_all {m : Int} {zs : List Int} (h : zs.all (fun x => decide (0 ≤ x ∧ x ≤ m)) = true) : BD m zs := fun x hx => by
  have := List.all_eq_true.1 h x hx
  simpa using this

/-- a literal of bytes, and what has been done since -/
theorem lit_rd (w : World) (t : TypeId) (zs : List Int) : RD .u8 (w.alloc (.cells (zs.map (Value.int .u8)).toArray t)) (w.alloc (.cells (zs.map (Value.int .u8)).toArray t)).heap.size (some ⟨w.heap.size, 0, none⟩) zs.length zs := RD.new w .u8 t zs

set_option maxHeartbeats 4000000 in
set_option maxRecDepth 100000 in
theorem awake2_any (w : World) : Calls Try.prog 11 #[] w fun e w' => e = .returned (.bool true) ∧ Below w.heap.size w w' := by
  have E1 := Lib.hid (show fixOf [69, 0, 0, 0, 0, 0] 2 = [69, 0, 186, 255, 0, 0] by decide)
  have E2 := Lib.hid (show foldJ 0 [167772161 / 65536, 167772161 % 65536, 167772162 / 65536, 167772162 % 65536, 17, 8] = 5148 by decide)
  have E3 := Lib.hid (show sumOf [1, 2, 3, 4] = 1030 by decide)
  have E4 := Lib.hid (show sumOf [1, 2, 3] = 1026 by decide)
  have E5 := Lib.hid (show sumOf [255, 255, 0, 1] = 1 by decide)
  have E6 := Lib.hid (show sumOf [0, 0, 0] = 0 by decide)
  have E7 := Lib.hid (show upd 64505 258 259 = 64504 by decide)
  have E8 := Lib.hid (show upd 65277 258 0 = 0 by decide)
  have E9 := Lib.hid (show sumOf [1, 2] = 258 by decide)
  go_enter Try.func11, Try.ntmps11
  go_wp2_with fail
  refine (fix_any _ 6 6 [69, 0, 0, 0, 0, 0] 2 2 _ (lit_rd w 5 [69, 0, 0, 0, 0, 0]) (bd_all (by decide)) (by omega) rfl rfl (by omega)).mono ?_
  rintro e w1 ⟨A1, n1, c1, rfl, own1, hb1⟩
  rw [E1.out] at own1
  obtain rfl : 6 = n1 := own1.len
  have HB : Below w.heap.size w w1 := ((Below.refl _ w).alloc (Nat.le_refl _) _).trans (hb1.mono (by simp))
  clear hb1
  go_wp2_with fail
  refine (pseudo_any 167772161 167772162 17 8 w1 (by omega) (by omega) (by omega) (by omega) (by omega) (by omega) (by omega) (by omega)).mono ?_
  rintro e w2 ⟨rfl, hb⟩
  rw [E2.out]
  replace own1 := own1.below hb
  replace HB := HB.trans (hb.mono HB.size)
  clear hb
  go_wp2_with fail
  refine (sum_any _ 4 4 [1, 2, 3, 4] _ (lit_rd w2 5 [1, 2, 3, 4]) (bd_all (by decide)) (by omega)).mono ?_
  rintro e w3 ⟨rfl, hb⟩
  rw [E3.out]
  replace own1 := (own1.alloc (.cells (([1, 2, 3, 4] : List Int).map (Value.int .u8)).toArray 5)).below hb
  replace HB := (HB.alloc HB.size _).trans (hb.mono (by have := HB.size; simp; omega))
  clear hb
  go_wp2_with fail
  refine (of_any _ 4 4 [1, 2, 3, 4] _ (lit_rd w3 5 [1, 2, 3, 4]) (bd_all (by decide)) (by omega)).mono ?_
  rintro e w4 ⟨rfl, hb⟩
  rw [E3.out]
  replace own1 := (own1.alloc (.cells (([1, 2, 3, 4] : List Int).map (Value.int .u8)).toArray 5)).below hb
  replace HB := (HB.alloc HB.size _).trans (hb.mono (by have := HB.size; simp; omega))
  clear hb
  go_wp2_with fail
  refine (sum_any _ 3 3 [1, 2, 3] _ (lit_rd w4 5 [1, 2, 3]) (bd_all (by decide)) (by omega)).mono ?_
  rintro e w5 ⟨rfl, hb⟩
  rw [E4.out]
  replace own1 := (own1.alloc (.cells (([1, 2, 3] : List Int).map (Value.int .u8)).toArray 5)).below hb
  replace HB := (HB.alloc HB.size _).trans (hb.mono (by have := HB.size; simp; omega))
  clear hb
  go_wp2_with fail
  refine (sum_any _ 4 4 [255, 255, 0, 1] _ (lit_rd w5 5 [255, 255, 0, 1]) (bd_all (by decide)) (by omega)).mono ?_
  rintro e w6 ⟨rfl, hb⟩
  rw [E5.out]
  replace own1 := (own1.alloc (.cells (([255, 255, 0, 1] : List Int).map (Value.int .u8)).toArray 5)).below hb
  replace HB := (HB.alloc HB.size _).trans (hb.mono (by have := HB.size; simp; omega))
  clear hb
  go_wp2_with fail
  refine (sum_any none 0 0 [] w6 RD.nil (bd_all (by decide)) (by omega)).mono ?_
  rintro e w7 ⟨rfl, hb⟩
  rw [show sumOf [] = 0 from rfl]
  replace own1 := own1.below hb
  replace HB := HB.trans (hb.mono HB.size)
  clear hb
  go_wp2_with fail
  refine (of_any _ 3 3 [0, 0, 0] _ (lit_rd w7 5 [0, 0, 0]) (bd_all (by decide)) (by omega)).mono ?_
  rintro e w8 ⟨rfl, hb⟩
  rw [E6.out]
  replace own1 := (own1.alloc (.cells (([0, 0, 0] : List Int).map (Value.int .u8)).toArray 5)).below hb
  replace HB := (HB.alloc HB.size _).trans (hb.mono (by have := HB.size; simp; omega))
  clear hb
  go_wp2_with fail
  refine (same_any A1 _ 6 c1 6 6 [69, 0, 186, 255, 0, 0] [69, 0, 186, 255, 0, 0] _ (own1.alloc (.cells (([69, 0, 186, 255, 0, 0] : List Int).map (Value.int .u8)).toArray 5)).rd (lit_rd w8 5 [69, 0, 186, 255, 0, 0]) (by omega) (by omega)).mono ?_
  rintro e w9 ⟨rfl, m, rfl⟩
  rw [show (([69, 0, 186, 255, 0, 0] : List Int) == [69, 0, 186, 255, 0, 0]) = true from by decide]
  replace HB := below_drewN (HB.alloc HB.size (.cells (([69, 0, 186, 255, 0, 0] : List Int).map (Value.int .u8)).toArray 5)) m
  clear own1
  go_wp2_with fail
  refine (update_any 64505 258 259 _ (by omega) (by omega) (by omega) (by omega) (by omega) (by omega)).mono ?_
  rintro e w9 ⟨rfl, hb⟩
  rw [E7.out]
  replace HB := HB.trans (hb.mono HB.size)
  clear hb
  go_wp2_with fail
  refine (update_any 65277 258 0 w9 (by omega) (by omega) (by omega) (by omega) (by omega) (by omega)).mono ?_
  rintro e w10 ⟨rfl, hb⟩
  rw [E8.out]
  replace HB := HB.trans (hb.mono HB.size)
  clear hb
  go_wp2_with fail
  refine (of_any _ 2 2 [1, 2] _ (lit_rd w10 5 [1, 2]) (bd_all (by decide)) (by omega)).mono ?_
  rintro e w11 ⟨rfl, hb⟩
  rw [E9.out]
  replace HB := (HB.alloc HB.size _).trans (hb.mono (by have := HB.size; simp; omega))
  clear hb
  go_wp2_with fail
  go_ret
  exact ⟨rfl, HB⟩
end Go.Proofs.Ytfaihaooompojaa
