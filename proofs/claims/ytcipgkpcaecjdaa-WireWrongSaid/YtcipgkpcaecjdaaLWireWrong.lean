import Derived.Test.YtcipgkpcaecjdaaWAwake1
import Derived.Test.YtcipgkpcaecjdaaWRef1
import Derived.Test.YtcipgkpcaecjdaaWireP2
import Derived.Laws.Concat
import Derived.Laws.Slices
import Derived.Deep.RegionHeld3
/- bafflelaw01.WireWrong. (Printed by gen_wwrong.py.) -/
namespace Go.Proofs.Ytcipgkpcaecjdaa
open Go.RowKit
set_option linter.unusedVariables false
set_option linter.unusedSimpArgs false

theorem SB_append (a b : ByteArray) : SB (a ++ b) = SB a ++ SB b := by
  unfold SB
  rw [ByteArray.data_append, Array.toList_append, List.map_append]
theorem or128 : ∀ n : Nat, n < 256 → bits .or .u8 (n : Int) 128 = ((if n < 128 then n + 128 else n : Nat) : Int) := by decide +kernel
theorem dg_high (n : Nat) (h : 128 ≤ n) : dg (n : Int) < 0 := by unfold dg; rw [if_neg (by omega), if_neg (by omega)]; omega
theorem nameW1 {K : Act → World → Prop} {a : Act} {W : World} (h : ∀ W', W' = W → K a W') : K a W := h W rfl
theorem cat_run (a b : ByteArray) (ha : a.size ≤ 8388608) (hb : b.size ≤ 8388608) (W : World) : (Op.stringOp .add a b).run Try.prog W = .ok (.string (a ++ b)) W := run_string_add W a b (by omega) (by omega)

set_option maxHeartbeats 4000000 in
set_option maxRecDepth 100000 in
theorem wireWrong_walk (A : Option Addr) (n c : Nat) (zs : List Int) (av cv : Int) (w : World) (h : ROW .u8 255 w A n c zs) (hav : 0 ≤ av ∧ av ≤ 65535) (hcv : 0 ≤ cv ∧ cv ≤ 255) :
    Calls Try.prog 4 #[.slice A n c, .int .u16 av, .int .u8 cv] w fun e w' => e = .returned (.bool true) ∧ Below w.heap.size w w' := by
  have hnc := h.le
  have hcm := h.cap
  unfold maxLen at hcm
  obtain ⟨k, hk, hk2, hkn⟩ : ∃ k : Nat, min (n : Int) 2000 = (k : Int) ∧ k ≤ 2000 ∧ k ≤ n := by
    by_cases h : 2000 < n
    · exact ⟨2000, by omega, by omega, by omega⟩
    · exact ⟨n, by omega, by omega, by omega⟩
  have R := Lib.hid (fun (W : World) (hb : Below w.heap.size w W) => (show RD .u8 W W.heap.size A k (zs.take k) from ((h.rd.below hb).more hb.size).take hkn))
  have HZ := Lib.hid (show BD 255 (zs.take k) from h.bd.take k)
  obtain ⟨bs, hbs⟩ : ∃ bs, zs.take k = bs := ⟨_, rfl⟩
  rw [hbs] at R HZ
  have hbl : bs.length = k := (R.out _ (Below.refl _ _)).len
  have HH := Lib.hid (show HEXs bs = hexS bs ∧ HEXe bs = 0 from ⟨by unfold HEXs; rw [if_neg (by omega)], by unfold HEXe; rw [if_neg (by omega)]⟩)
  have HSZ := Lib.hid (show (hexS bs).size = 2 * k by rw [hexS_size, hbl])
  obtain ⟨t, ht⟩ : ∃ t, hexS bs = t := ⟨_, rfl⟩
  rw [ht] at HH HSZ
  have hts := HSZ.out
  obtain ⟨i, hi⟩ : ∃ i : Nat, av % (2 * (k : Int) + 1) = (i : Int) := ⟨(av % (2 * (k : Int) + 1)).toNat, by have := Int.emod_nonneg av (show (2 * (k : Int) + 1) ≠ 0 by omega); omega⟩
  have hik : i ≤ 2 * k := by
    have := Int.emod_lt_of_pos av (show (0 : Int) < 2 * (k : Int) + 1 by omega)
    omega
  have u1 : (0 : Int) ≤ (k : Int) := by omega
  have u2 : (k : Int) ≤ (c : Int) := by omega
  have e1 : IntKind.i64.wrap av = av := IntWalk.i64_in _ (by omega)
  have e2 : IntKind.i64.wrap (2 * (k : Int) + 1) = 2 * (k : Int) + 1 := IntWalk.i64_in _ (by omega)
  have e3 : (t.size : Int) = 2 * (k : Int) := by omega
  have e4 : av.tmod (2 * (k : Int) + 1) = (i : Int) := by rw [Int.tmod_eq_emod_of_nonneg hav.1]; exact hi
  have e5 : IntKind.i64.wrap (i : Int) = (i : Int) := IntWalk.i64_in _ (by omega)
  have e6 : ¬ (2 * (k : Int) + 1) = 0 := by omega
  have e7 : ((2 * (k : Int) + 1) == 0) = false := by simpa using e6
  obtain ⟨cn, rfl⟩ := Int.eq_ofNat_of_zero_le hcv.1
  have HO := Lib.hid (or128 cn (by omega))
  obtain ⟨xn, hxn⟩ : ∃ xn : Nat, (if cn < 128 then cn + 128 else cn) = xn := ⟨_, rfl⟩
  rw [hxn] at HO
  have hx1 : 128 ≤ xn ∧ xn ≤ 255 := by rw [← hxn]; split <;> omega
  obtain ⟨xb, hxb⟩ : ∃ xb : UInt8, (xb.toNat : Int) = (xn : Int) := ⟨UInt8.ofNat xn, by simp; omega⟩
  clear h hbs ht hi hxn
  go_enter Try.func4, Try.ntmps4
  go_wp2_with fail
  refine (awake1_any _).mono ?_
  rintro e w1 ⟨rfl, hb1⟩
  have B1 := Lib.hid hb1
  clear hb1
  go_wp2_with fail
  refine (hex_any A k c bs _ (R.out _ B1.out) HZ.out (by omega) (by omega)).mono ?_
  rintro e w2 ⟨rfl, hb2⟩
  rw [HH.out.1, HH.out.2]
  have B2 := Lib.hid (B1.out.trans (hb2.mono B1.out.size))
  clear hb2
  go_upto_region 8 with fail
  clear hk u1 u2 e1 e2 e4 e5 e6 e7
  have hit : i ≤ t.size := by omega
  obtain ⟨p, hp⟩ : ∃ p, t.extract 0 i = p := ⟨_, rfl⟩
  obtain ⟨q, hq⟩ : ∃ q, t.extract i t.size = q := ⟨_, rfl⟩
  have lp : p.size = i := by rw [← hp]; simp; omega
  have lq : q.size = t.size - i := by rw [← hq]; simp
  have sp1 : ∀ W, (Instr.slice 9 (.string t) none (some (.int .i64 (i : Int))) none).run Try.prog W = .ok (.string p) W := fun W => by rw [run_slice_string_h W _ t Try.underlying9 .i64 (i : Int) (by omega) (by omega), ← hp]; rfl
  have sp2 : ∀ W, (Instr.slice 9 (.string t) (some (.int .i64 (i : Int))) none none).run Try.prog W = .ok (.string q) W := fun W => by rw [run_slice_string_l W _ t Try.underlying9 .i64 (i : Int) (by omega) (by omega), ← hq]; rfl
  clear hp hq
  obtain ⟨s1, hs1⟩ : ∃ s, t ++ ⟨#[48]⟩ = s := ⟨_, rfl⟩
  have r1 : ∀ W, (Op.stringOp .add t ⟨#[48]⟩).run Try.prog W = .ok (.string s1) W := fun W => by rw [← hs1]; exact cat_run _ _ (by omega) (by decide) W
  have HU1 := Lib.hid (show s1.size ≤ 10000 ∧ UNH s1 = ([], 10) by
    have hl : s1.size = t.size + 1 := by rw [← hs1, ByteArray.size_append]; rfl
    exact ⟨by omega, unh_bad (by omega) (.inl (by omega))⟩)
  clear hs1
  obtain ⟨a2, ha2⟩ : ∃ s, p ++ (⟨#[65]⟩ : ByteArray) = s := ⟨_, rfl⟩
  obtain ⟨b2, hb2⟩ : ∃ s, a2 ++ q = s := ⟨_, rfl⟩
  obtain ⟨s2, hs2⟩ : ∃ s, b2 ++ ⟨#[48]⟩ = s := ⟨_, rfl⟩
  have la2 : a2.size = i + 1 := by rw [← ha2, ByteArray.size_append, lp]; rfl
  have lb2 : b2.size = t.size + 1 := by rw [← hb2, ByteArray.size_append, la2, lq]; omega
  have ls2 : s2.size = t.size + 2 := by rw [← hs2, ByteArray.size_append, lb2]; rfl
  have ra2 : ∀ W, (Op.stringOp .add p ⟨#[65]⟩).run Try.prog W = .ok (.string a2) W := fun W => by rw [← ha2]; exact cat_run _ _ (by omega) (by show (1 : Nat) ≤ 8388608; decide) W
  have rb2 : ∀ W, (Op.stringOp .add a2 q).run Try.prog W = .ok (.string b2) W := fun W => by rw [← hb2]; exact cat_run _ _ (by omega) (by omega) W
  have rs2 : ∀ W, (Op.stringOp .add b2 ⟨#[48]⟩).run Try.prog W = .ok (.string s2) W := fun W => by rw [← hs2]; exact cat_run _ _ (by omega) (by decide) W
  have HU2 := Lib.hid (show s2.size ≤ 10000 ∧ UNH s2 = ([], 10) by
    refine ⟨by omega, unh_bad (by omega) (.inr ⟨65, ?_, by decide⟩)⟩
    rw [← hs2, ← hb2, ← ha2, SB_append, SB_append, SB_append]
    have : (65 : Int) ∈ SB (⟨#[65]⟩ : ByteArray) := by decide
    simp only [List.mem_append]
    exact .inl (.inl (.inr this)))
  clear ha2 hb2 hs2 la2 lb2 ls2
  obtain ⟨a3, ha3⟩ : ∃ s, p ++ (⟨#[71]⟩ : ByteArray) = s := ⟨_, rfl⟩
  obtain ⟨b3, hb3⟩ : ∃ s, a3 ++ q = s := ⟨_, rfl⟩
  obtain ⟨s3, hs3⟩ : ∃ s, b3 ++ ⟨#[48]⟩ = s := ⟨_, rfl⟩
  have la3 : a3.size = i + 1 := by rw [← ha3, ByteArray.size_append, lp]; rfl
  have lb3 : b3.size = t.size + 1 := by rw [← hb3, ByteArray.size_append, la3, lq]; omega
  have ls3 : s3.size = t.size + 2 := by rw [← hs3, ByteArray.size_append, lb3]; rfl
  have ra3 : ∀ W, (Op.stringOp .add p ⟨#[71]⟩).run Try.prog W = .ok (.string a3) W := fun W => by rw [← ha3]; exact cat_run _ _ (by omega) (by show (1 : Nat) ≤ 8388608; decide) W
  have rb3 : ∀ W, (Op.stringOp .add a3 q).run Try.prog W = .ok (.string b3) W := fun W => by rw [← hb3]; exact cat_run _ _ (by omega) (by omega) W
  have rs3 : ∀ W, (Op.stringOp .add b3 ⟨#[48]⟩).run Try.prog W = .ok (.string s3) W := fun W => by rw [← hs3]; exact cat_run _ _ (by omega) (by decide) W
  have HU3 := Lib.hid (show s3.size ≤ 10000 ∧ UNH s3 = ([], 10) by
    refine ⟨by omega, unh_bad (by omega) (.inr ⟨71, ?_, by decide⟩)⟩
    rw [← hs3, ← hb3, ← ha3, SB_append, SB_append, SB_append]
    have : (71 : Int) ∈ SB (⟨#[71]⟩ : ByteArray) := by decide
    simp only [List.mem_append]
    exact .inl (.inl (.inr this)))
  clear ha3 hb3 hs3 la3 lb3 ls3
  obtain ⟨a4, ha4⟩ : ∃ s, p ++ (⟨#[32]⟩ : ByteArray) = s := ⟨_, rfl⟩
  obtain ⟨b4, hb4⟩ : ∃ s, a4 ++ q = s := ⟨_, rfl⟩
  obtain ⟨s4, hs4⟩ : ∃ s, b4 ++ ⟨#[48]⟩ = s := ⟨_, rfl⟩
  have la4 : a4.size = i + 1 := by rw [← ha4, ByteArray.size_append, lp]; rfl
  have lb4 : b4.size = t.size + 1 := by rw [← hb4, ByteArray.size_append, la4, lq]; omega
  have ls4 : s4.size = t.size + 2 := by rw [← hs4, ByteArray.size_append, lb4]; rfl
  have ra4 : ∀ W, (Op.stringOp .add p ⟨#[32]⟩).run Try.prog W = .ok (.string a4) W := fun W => by rw [← ha4]; exact cat_run _ _ (by omega) (by show (1 : Nat) ≤ 8388608; decide) W
  have rb4 : ∀ W, (Op.stringOp .add a4 q).run Try.prog W = .ok (.string b4) W := fun W => by rw [← hb4]; exact cat_run _ _ (by omega) (by omega) W
  have rs4 : ∀ W, (Op.stringOp .add b4 ⟨#[48]⟩).run Try.prog W = .ok (.string s4) W := fun W => by rw [← hs4]; exact cat_run _ _ (by omega) (by decide) W
  have HU4 := Lib.hid (show s4.size ≤ 10000 ∧ UNH s4 = ([], 10) by
    refine ⟨by omega, unh_bad (by omega) (.inr ⟨32, ?_, by decide⟩)⟩
    rw [← hs4, ← hb4, ← ha4, SB_append, SB_append, SB_append]
    have : (32 : Int) ∈ SB (⟨#[32]⟩ : ByteArray) := by decide
    simp only [List.mem_append]
    exact .inl (.inl (.inr this)))
  clear ha4 hb4 hs4 la4 lb4 ls4
  obtain ⟨a5, ha5⟩ : ∃ s, p ++ (⟨[xb].toArray⟩ : ByteArray) = s := ⟨_, rfl⟩
  obtain ⟨b5, hb5⟩ : ∃ s, a5 ++ q = s := ⟨_, rfl⟩
  obtain ⟨s5, hs5⟩ : ∃ s, b5 ++ ⟨#[48]⟩ = s := ⟨_, rfl⟩
  have la5 : a5.size = i + 1 := by rw [← ha5, ByteArray.size_append, lp]; rfl
  have lb5 : b5.size = t.size + 1 := by rw [← hb5, ByteArray.size_append, la5, lq]; omega
  have ls5 : s5.size = t.size + 2 := by rw [← hs5, ByteArray.size_append, lb5]; rfl
  have ra5 : ∀ W, (Op.stringOp .add p ⟨[xb].toArray⟩).run Try.prog W = .ok (.string a5) W := fun W => by rw [← ha5]; exact cat_run _ _ (by omega) (by show (1 : Nat) ≤ 8388608; decide) W
  have rb5 : ∀ W, (Op.stringOp .add a5 q).run Try.prog W = .ok (.string b5) W := fun W => by rw [← hb5]; exact cat_run _ _ (by omega) (by omega) W
  have rs5 : ∀ W, (Op.stringOp .add b5 ⟨#[48]⟩).run Try.prog W = .ok (.string s5) W := fun W => by rw [← hs5]; exact cat_run _ _ (by omega) (by decide) W
  have HU5 := Lib.hid (show s5.size ≤ 10000 ∧ UNH s5 = ([], 10) by
    refine ⟨by omega, unh_bad (by omega) (.inr ⟨(xb.toNat : Int), ?_, by rw [hxb]; exact dg_high xn hx1.1⟩)⟩
    rw [← hs5, ← hb5, ← ha5, SB_append, SB_append, SB_append]
    have : ((xb.toNat : Int) : Int) ∈ SB (⟨[xb].toArray⟩ : ByteArray) := by simp [SB]
    simp only [List.mem_append]
    exact .inl (.inl (.inr this)))
  clear ha5 hb5 hs5 la5 lb5 ls5
  have ho := HO.out
  rw [← hxb] at ho
  have XD := Lib.hid (((SP.start w).next B2.out).drew)
  clear hx1 hxb hit hik hts e3
  refine wp_region_noPanic ?_
  refine wp_region_held_drew (S := fun _ => True) (by kernel_rfl) (by trivial) (fun hHeld => ?_)
  generalize w2.drew = v0 at XD ⊢
  refine' take_lit (i := 0) (v := _) rfl (by kernel_rfl) (by kernel_rfl) (by kernel_rfl) (fun _ _ _ h => h) (Or.inl ⟨by rfl, ?yy1⟩) (by assumption) ?rr1
  case yy1 => intro w' hSw; (try dsimp only at hSw); go_simp; try (with_reducible rfl)
  (try simp only [Act.put]); (try simp only [List.setIfInBounds_toArray, List.set_cons_zero, List.set_cons_succ])
  refine' take_lit (i := 1) (v := _) rfl (by kernel_rfl) (by kernel_rfl) (by kernel_rfl) (fun _ _ _ h => h) (Or.inl ⟨by rfl, ?yy2⟩) (by assumption) ?rr2
  case yy2 => intro w' hSw; (try dsimp only at hSw); go_simp; try (with_reducible rfl)
  (try simp only [Act.put]); (try simp only [List.setIfInBounds_toArray, List.set_cons_zero, List.set_cons_succ])
  refine' take_lit (i := 2) (v := _) rfl (by kernel_rfl) (by kernel_rfl) (by kernel_rfl) (fun _ _ _ h => h) (Or.inl ⟨by rfl, ?yy3⟩) (by assumption) ?rr3
  case yy3 => intro w' hSw; (try dsimp only at hSw); go_simp; try (with_reducible rfl)
  (try simp only [Act.put]); (try simp only [List.setIfInBounds_toArray, List.set_cons_zero, List.set_cons_succ])
  refine' take_lit (i := 3) (v := _) rfl (by kernel_rfl) (by kernel_rfl) (by kernel_rfl) (fun _ _ _ h => h) (Or.inl ⟨by rfl, ?yy4⟩) (by assumption) ?rr4
  case yy4 => intro w' hSw; (try dsimp only at hSw); go_simp; try (with_reducible rfl)
  (try simp only [Act.put]); (try simp only [List.setIfInBounds_toArray, List.set_cons_zero, List.set_cons_succ])
  refine' take_lit (i := 4) (v := _) rfl (by kernel_rfl) (by kernel_rfl) (by kernel_rfl) (fun _ _ _ h => h) (Or.inl ⟨by rfl, ?yy5⟩) (by assumption) ?rr5
  case yy5 => intro w' hSw; (try dsimp only at hSw); go_simp; try (with_reducible rfl)
  (try simp only [Act.put]); (try simp only [List.setIfInBounds_toArray, List.set_cons_zero, List.set_cons_succ])
  refine' take_lit (i := 5) (v := _) rfl (by kernel_rfl) (by kernel_rfl) (by kernel_rfl) (fun _ _ _ h => h) (Or.inl ⟨by rfl, ?yy6⟩) (by assumption) ?rr6
  case yy6 => intro w' hSw; (try dsimp only at hSw); go_simp; try (with_reducible rfl)
  (try simp only [Act.put]); (try simp only [List.setIfInBounds_toArray, List.set_cons_zero, List.set_cons_succ])
  refine' take_lit (i := 6) (v := _) rfl (by kernel_rfl) (by kernel_rfl) (by kernel_rfl) (fun _ _ _ h => h) (Or.inl ⟨by rfl, ?yy7⟩) (by assumption) ?rr7
  case yy7 => intro w' hSw; (try dsimp only at hSw); go_simp; try (with_reducible rfl)
  (try simp only [Act.put]); (try simp only [List.setIfInBounds_toArray, List.set_cons_zero, List.set_cons_succ])
  refine' take_lit (i := 7) (v := _) rfl (by kernel_rfl) (by kernel_rfl) (by kernel_rfl) (fun _ _ _ h => h) (Or.inl ⟨by rfl, ?yy8⟩) (by assumption) ?rr8
  case yy8 => intro w' hSw; (try dsimp only at hSw); go_simp; try (with_reducible rfl)
  (try simp only [Act.put]); (try simp only [List.setIfInBounds_toArray, List.set_cons_zero, List.set_cons_succ])
  refine' take_lit (i := 8) (v := _) rfl (by kernel_rfl) (by kernel_rfl) (by kernel_rfl) (fun _ _ _ h => h) (Or.inl ⟨by rfl, ?yy9⟩) (by assumption) ?rr9
  case yy9 => intro w' hSw; (try dsimp only at hSw); go_simp; try (with_reducible rfl)
  (try simp only [Act.put]); (try simp only [List.setIfInBounds_toArray, List.set_cons_zero, List.set_cons_succ])
  refine' take_lit (i := 9) (v := _) rfl (by kernel_rfl) (by kernel_rfl) (by kernel_rfl) (fun _ _ _ h => h) (Or.inl ⟨by rfl, ?yy10⟩) (by assumption) ?rr10
  case yy10 => intro w' hSw; (try dsimp only at hSw); go_simp; try (with_reducible rfl)
  (try simp only [Act.put]); (try simp only [List.setIfInBounds_toArray, List.set_cons_zero, List.set_cons_succ])
  refine' take_lit (i := 10) (v := _) rfl (by kernel_rfl) (by kernel_rfl) (by kernel_rfl) (fun _ _ _ h => h) (Or.inl ⟨by rfl, ?yy11⟩) (by assumption) ?rr11
  case yy11 => intro w' hSw; (try dsimp only at hSw); go_simp; try (with_reducible rfl)
  (try simp only [Act.put]); (try simp only [List.setIfInBounds_toArray, List.set_cons_zero, List.set_cons_succ])
  refine' take_lit (i := 11) (v := _) rfl (by kernel_rfl) (by kernel_rfl) (by kernel_rfl) (fun _ _ _ h => h) (Or.inl ⟨by rfl, ?yy12⟩) (by assumption) ?rr12
  case yy12 => intro w' hSw; (try dsimp only at hSw); go_simp; try (with_reducible rfl)
  (try simp only [Act.put]); (try simp only [List.setIfInBounds_toArray, List.set_cons_zero, List.set_cons_succ])
  refine' take_lit (i := 12) (v := _) rfl (by kernel_rfl) (by kernel_rfl) (by kernel_rfl) (fun _ _ _ h => h) (Or.inl ⟨by rfl, ?yy13⟩) (by assumption) ?rr13
  case yy13 => intro w' hSw; (try dsimp only at hSw); go_simp; try (with_reducible rfl)
  (try simp only [Act.put]); (try simp only [List.setIfInBounds_toArray, List.set_cons_zero, List.set_cons_succ])
  refine' take_lit (i := 13) (v := _) rfl (by kernel_rfl) (by kernel_rfl) (by kernel_rfl) (fun _ _ _ h => h) (Or.inl ⟨by rfl, ?yy14⟩) (by assumption) ?rr14
  case yy14 => intro w' hSw; (try dsimp only at hSw); go_simp; try (with_reducible rfl)
  (try simp only [Act.put]); (try simp only [List.setIfInBounds_toArray, List.set_cons_zero, List.set_cons_succ])
  refine' take_lit (i := 14) (v := _) rfl (by kernel_rfl) (by kernel_rfl) (by kernel_rfl) (fun _ _ _ h => h) (Or.inl ⟨by rfl, ?yy15⟩) (by assumption) ?rr15
  case yy15 => intro w' hSw; (try dsimp only at hSw); go_simp; try (with_reducible rfl)
  (try simp only [Act.put]); (try simp only [List.setIfInBounds_toArray, List.set_cons_zero, List.set_cons_succ])
  refine' take_lit (i := 15) (v := _) rfl (by kernel_rfl) (by kernel_rfl) (by kernel_rfl) (fun _ _ _ h => h) (Or.inl ⟨by rfl, ?yy16⟩) (by assumption) ?rr16
  case yy16 => intro w' hSw; (try dsimp only at hSw); go_simp; try (with_reducible rfl)
  (try simp only [Act.put]); (try simp only [List.setIfInBounds_toArray, List.set_cons_zero, List.set_cons_succ])
  refine' take_lit (i := 16) (v := _) rfl (by kernel_rfl) (by kernel_rfl) (by kernel_rfl) (fun _ _ _ h => h) (Or.inl ⟨by rfl, ?yy17⟩) (by assumption) ?rr17
  case yy17 => intro w' hSw; (try dsimp only at hSw); go_simp; try (with_reducible rfl)
  (try simp only [Act.put]); (try simp only [List.setIfInBounds_toArray, List.set_cons_zero, List.set_cons_succ])
  refine' take_lit (i := 17) (v := _) rfl (by kernel_rfl) (by kernel_rfl) (by kernel_rfl) (fun _ _ _ h => h) (Or.inl ⟨by rfl, ?yy18⟩) (by assumption) ?rr18
  case yy18 => intro w' hSw; (try dsimp only at hSw); go_simp; try (with_reducible rfl)
  (try simp only [Act.put]); (try simp only [List.setIfInBounds_toArray, List.set_cons_zero, List.set_cons_succ])
  refine' take_lit (i := 18) (v := _) rfl (by kernel_rfl) (by kernel_rfl) (by kernel_rfl) (fun _ _ _ h => h) (Or.inl ⟨by rfl, ?yy19⟩) (by assumption) ?rr19
  case yy19 => intro w' hSw; (try dsimp only at hSw); go_simp; try (with_reducible rfl)
  (try simp only [Act.put]); (try simp only [List.setIfInBounds_toArray, List.set_cons_zero, List.set_cons_succ])
  refine' take_lit (i := 19) (v := _) rfl (by kernel_rfl) (by kernel_rfl) (by kernel_rfl) (fun _ _ _ h => h) (Or.inl ⟨by rfl, ?yy20⟩) (by assumption) ?rr20
  case yy20 => intro w' hSw; (try dsimp only at hSw); go_simp; try (with_reducible rfl)
  (try simp only [Act.put]); (try simp only [List.setIfInBounds_toArray, List.set_cons_zero, List.set_cons_succ])
  refine' take_lit (i := 20) (v := _) rfl (by kernel_rfl) (by kernel_rfl) (by kernel_rfl) (fun _ _ _ h => h) (Or.inl ⟨by rfl, ?yy21⟩) (by assumption) ?rr21
  case yy21 => intro w' hSw; (try dsimp only at hSw); go_simp; try (with_reducible rfl)
  (try simp only [Act.put]); (try simp only [List.setIfInBounds_toArray, List.set_cons_zero, List.set_cons_succ])
  refine' take_lit (i := 21) (v := _) rfl (by kernel_rfl) (by kernel_rfl) (by kernel_rfl) (fun _ _ _ h => h) (Or.inl ⟨by rfl, ?yy22⟩) (by assumption) ?rr22
  case yy22 => intro w' hSw; (try dsimp only at hSw); go_simp; try (with_reducible rfl)
  (try simp only [Act.put]); (try simp only [List.setIfInBounds_toArray, List.set_cons_zero, List.set_cons_succ])
  refine' take_lit (i := 22) (v := _) rfl (by kernel_rfl) (by kernel_rfl) (by kernel_rfl) (fun _ _ _ h => h) (Or.inl ⟨by rfl, ?yy23⟩) (by assumption) ?rr23
  case yy23 => intro w' hSw; (try dsimp only at hSw); go_simp; try (with_reducible rfl)
  (try simp only [Act.put]); (try simp only [List.setIfInBounds_toArray, List.set_cons_zero, List.set_cons_succ])
  refine' take_lit (i := 23) (v := _) rfl (by kernel_rfl) (by kernel_rfl) (by kernel_rfl) (fun _ _ _ h => h) (Or.inl ⟨by rfl, ?yy24⟩) (by assumption) ?rr24
  case yy24 => intro w' hSw; (try dsimp only at hSw); go_simp; try (with_reducible rfl)
  (try simp only [Act.put]); (try simp only [List.setIfInBounds_toArray, List.set_cons_zero, List.set_cons_succ])
  refine' take_lit (i := 24) (v := _) rfl (by kernel_rfl) (by kernel_rfl) (by kernel_rfl) (fun _ _ _ h => h) (Or.inl ⟨by rfl, ?yy25⟩) (by assumption) ?rr25
  case yy25 => intro w' hSw; (try dsimp only at hSw); go_simp; try (with_reducible rfl)
  (try simp only [Act.put]); (try simp only [List.setIfInBounds_toArray, List.set_cons_zero, List.set_cons_succ])
  refine' take_lit (i := 25) (v := _) rfl (by kernel_rfl) (by kernel_rfl) (by kernel_rfl) (fun _ _ _ h => h) (Or.inl ⟨by rfl, ?yy26⟩) (by assumption) ?rr26
  case yy26 => intro w' hSw; (try dsimp only at hSw); go_simp; try (with_reducible rfl)
  (try simp only [Act.put]); (try simp only [List.setIfInBounds_toArray, List.set_cons_zero, List.set_cons_succ])
  refine' take_lit (i := 26) (v := _) rfl (by kernel_rfl) (by kernel_rfl) (by kernel_rfl) (fun _ _ _ h => h) (Or.inl ⟨by rfl, ?yy27⟩) (by assumption) ?rr27
  case yy27 => intro w' hSw; (try dsimp only at hSw); go_simp; try (with_reducible rfl)
  (try simp only [Act.put]); (try simp only [List.setIfInBounds_toArray, List.set_cons_zero, List.set_cons_succ])
  refine' take_lit (i := 27) (v := _) rfl (by kernel_rfl) (by kernel_rfl) (by kernel_rfl) (fun _ _ _ h => h) (Or.inl ⟨by rfl, ?yy28⟩) (by assumption) ?rr28
  case yy28 => intro w' hSw; (try dsimp only at hSw); go_simp; try (with_reducible rfl)
  (try simp only [Act.put]); (try simp only [List.setIfInBounds_toArray, List.set_cons_zero, List.set_cons_succ])
  refine' take_lit (i := 28) (v := _) rfl (by kernel_rfl) (by kernel_rfl) (by kernel_rfl) (fun _ _ _ h => h) (Or.inl ⟨by rfl, ?yy29⟩) (by assumption) ?rr29
  case yy29 => intro w' hSw; (try dsimp only at hSw); go_simp; try (with_reducible rfl)
  (try simp only [Act.put]); (try simp only [List.setIfInBounds_toArray, List.set_cons_zero, List.set_cons_succ])
  refine' take_lit (i := 29) (v := _) rfl (by kernel_rfl) (by kernel_rfl) (by kernel_rfl) (fun _ _ _ h => h) (Or.inl ⟨by rfl, ?yy30⟩) (by assumption) ?rr30
  case yy30 => intro w' hSw; (try dsimp only at hSw); go_simp; try (with_reducible rfl)
  (try simp only [Act.put]); (try simp only [List.setIfInBounds_toArray, List.set_cons_zero, List.set_cons_succ])
  refine' take_lit (i := 30) (v := _) rfl (by kernel_rfl) (by kernel_rfl) (by kernel_rfl) (fun _ _ _ h => h) (Or.inl ⟨by rfl, ?yy31⟩) (by assumption) ?rr31
  case yy31 => intro w' hSw; (try dsimp only at hSw); go_simp; try (with_reducible rfl)
  (try simp only [Act.put]); (try simp only [List.setIfInBounds_toArray, List.set_cons_zero, List.set_cons_succ])
  refine' take_lit (i := 31) (v := _) rfl (by kernel_rfl) (by kernel_rfl) (by kernel_rfl) (fun _ _ _ h => h) (Or.inl ⟨by rfl, ?yy32⟩) (by assumption) ?rr32
  case yy32 => intro w' hSw; (try dsimp only at hSw); go_simp; try (with_reducible rfl)
  (try simp only [Act.put]); (try simp only [List.setIfInBounds_toArray, List.set_cons_zero, List.set_cons_succ])
  refine' take_lit (i := 32) (v := _) rfl (by kernel_rfl) (by kernel_rfl) (by kernel_rfl) (fun _ _ _ h => h) (Or.inl ⟨by rfl, ?yy33⟩) (by assumption) ?rr33
  case yy33 => intro w' hSw; (try dsimp only at hSw); go_simp; try (with_reducible rfl)
  (try simp only [Act.put]); (try simp only [List.setIfInBounds_toArray, List.set_cons_zero, List.set_cons_succ])
  refine' take_lit (i := 33) (v := _) rfl (by kernel_rfl) (by kernel_rfl) (by kernel_rfl) (fun _ _ _ h => h) (Or.inl ⟨by rfl, ?yy34⟩) (by assumption) ?rr34
  case yy34 => intro w' hSw; (try dsimp only at hSw); go_simp; try (with_reducible rfl)
  (try simp only [Act.put]); (try simp only [List.setIfInBounds_toArray, List.set_cons_zero, List.set_cons_succ])
  refine' take_lit (i := 37) (v := _) rfl (by kernel_rfl) (by kernel_rfl) (by kernel_rfl) (fun _ _ _ h => h) (Or.inl ⟨by rfl, ?yy35⟩) (by assumption) ?rr35
  case yy35 => intro w' hSw; (try dsimp only at hSw); go_simp; try (with_reducible rfl)
  (try simp only [Act.put]); (try simp only [List.setIfInBounds_toArray, List.set_cons_zero, List.set_cons_succ])
  refine' take_lit (i := 38) (v := _) rfl (by kernel_rfl) (by kernel_rfl) (by kernel_rfl) (fun _ _ _ h => h) (Or.inl ⟨by rfl, ?yy36⟩) (by assumption) ?rr36
  case yy36 => intro w' hSw; (try dsimp only at hSw); go_simp; try (with_reducible rfl)
  (try simp only [Act.put]); (try simp only [List.setIfInBounds_toArray, List.set_cons_zero, List.set_cons_succ])
  refine' take_lit (i := 39) (v := _) rfl (by kernel_rfl) (by kernel_rfl) (by kernel_rfl) (fun _ _ _ h => h) (Or.inl ⟨by rfl, ?yy37⟩) (by assumption) ?rr37
  case yy37 => intro w' hSw; (try dsimp only at hSw); go_simp; try (with_reducible rfl)
  (try simp only [Act.put]); (try simp only [List.setIfInBounds_toArray, List.set_cons_zero, List.set_cons_succ])
  refine' take_lit (i := 44) (v := _) rfl (by kernel_rfl) (by kernel_rfl) (by kernel_rfl) (fun _ _ _ h => h) (Or.inl ⟨by rfl, ?yy38⟩) (by assumption) ?rr38
  case yy38 => intro w' hSw; (try dsimp only at hSw); go_simp; try (with_reducible rfl)
  (try simp only [Act.put]); (try simp only [List.setIfInBounds_toArray, List.set_cons_zero, List.set_cons_succ])
  refine wpAnyH_ready (rs := [34]) (by kernel_rfl) (by simp) ?_
  refine cons_lit rfl (fun K hK => ?ss34x39) AllReadyH.nil
  case ss34x39 =>
    go_simp
    obtain ⟨gl, hgl⟩ : ∃ g, g = v0.heap.size := ⟨_, rfl⟩
    rw [← hgl]
    refine nameW1 (fun v1 hv1 => ?_)
    have X1 := Lib.hid (show SP w v1 [.own .u8 5 (some ⟨gl, 0, none⟩) 1 1 (UB [xb])] by rw [hv1, hgl]; exact XD.out.allocI .u8 5 (UB [xb]) (by simp [UB, maxLen]))
    clear hv1 hgl XD
    refine hK.out _ _ (by trivial) (fun hHeld => ?_)
    clear hK K
    (try simp only [Act.put]); (try simp only [List.setIfInBounds_toArray, List.set_cons_zero, List.set_cons_succ])
    refine wpAnyH_ready (rs := [35]) (by kernel_rfl) (by simp) ?_
    refine cons_lit rfl (fun K hK => ?ss35x40) AllReadyH.nil
    case ss35x40 =>
      have hcv := str_of_own (X1.out.own 0 rfl)
      go_simp
      clear hcv
      refine hK.out _ _ (by trivial) (fun hHeld => ?_)
      clear hK K
      (try simp only [Act.put]); (try simp only [List.setIfInBounds_toArray, List.set_cons_zero, List.set_cons_succ])
      refine' take_lit (i := 36) (v := _) rfl (by kernel_rfl) (by kernel_rfl) (by kernel_rfl) (fun _ _ _ h => h) (Or.inl ⟨by rfl, ?yy41⟩) (by assumption) ?rr41
      case yy41 => intro w' hSw; (try dsimp only at hSw); go_simp; try (with_reducible rfl)
      (try simp only [Act.put]); (try simp only [List.setIfInBounds_toArray, List.set_cons_zero, List.set_cons_succ])
      refine' take_lit (i := 40) (v := _) rfl (by kernel_rfl) (by kernel_rfl) (by kernel_rfl) (fun _ _ _ h => h) (Or.inl ⟨by rfl, ?yy42⟩) (by assumption) ?rr42
      case yy42 => intro w' hSw; (try dsimp only at hSw); go_simp; try (with_reducible rfl)
      (try simp only [Act.put]); (try simp only [List.setIfInBounds_toArray, List.set_cons_zero, List.set_cons_succ])
      refine' take_lit (i := 41) (v := _) rfl (by kernel_rfl) (by kernel_rfl) (by kernel_rfl) (fun _ _ _ h => h) (Or.inl ⟨by rfl, ?yy43⟩) (by assumption) ?rr43
      case yy43 => intro w' hSw; (try dsimp only at hSw); go_simp; try (with_reducible rfl)
      (try simp only [Act.put]); (try simp only [List.setIfInBounds_toArray, List.set_cons_zero, List.set_cons_succ])
      refine wpAnyH_ready (rs := [42]) (by kernel_rfl) (by simp) ?_
      refine cons_lit rfl (fun K hK => ?ss42x44) AllReadyH.nil
      case ss42x44 =>
        go_simp
        obtain ⟨G, hG⟩ : ∃ g, g = v1.heap.size := ⟨_, rfl⟩
        rw [← hG]
        refine nameW1 (fun v2 hv2 => ?_)
        have X2 := Lib.hid (show SP w v2 [.blk G 9 #[.string s1, .string s2, .string s3, .string s4, .string s5]] by rw [hv2, hG]; exact (X1.out.alloc 9 #[.string s1, .string s2, .string s3, .string s4, .string s5]).pick [1] (by decide) rfl)
        clear hv2 hG X1
        refine hK.out _ _ (by trivial) (fun hHeld => ?_)
        clear hK K
        (try simp only [Act.put]); (try simp only [List.setIfInBounds_toArray, List.set_cons_zero, List.set_cons_succ])
        refine' take_lit (i := 43) (v := _) rfl (by kernel_rfl) (by kernel_rfl) (by kernel_rfl) (fun _ _ _ h => h) (Or.inl ⟨by rfl, ?yy45⟩) (by assumption) ?rr45
        case yy45 => intro w' hSw; (try dsimp only at hSw); go_simp; try (with_reducible rfl)
        (try simp only [Act.put]); (try simp only [List.setIfInBounds_toArray, List.set_cons_zero, List.set_cons_succ])
        refine wpAnyH_done (by kernel_rfl) ?_ _
        refine NoPanic.normal ?_
        clear r1 sp1 sp2 ra2 rb2 rs2 ra3 rb3 rs3 ra4 rb4 rs4 ra5 rb5 rs5 lp lq
        go_wp2_with fail
        go_loopw [78] (fun s78 wr => ∃ k : Nat, k ≤ 5 ∧ s78 = .int .i64 (k : Int) ∧ SP w wr [.blk G 9 #[.string s1, .string s2, .string s3, .string s4, .string s5]]) (fun s78 _ => 5 - (intOf s78).toNat)
        case atStart => exact ⟨0, by omega, rfl, X2.out⟩
        case round =>
          obtain ⟨k, hk, rfl, Y0⟩ := hrel
          obtain ⟨wo, rfl⟩ : ∃ wo : World, wo = wr := ⟨_, rfl⟩
          have Y := Lib.hid Y0
          clear Y0 X2
          by_cases hlt : k < 5
          case neg =>
            have t2 : ¬ (k : Int) < 5 := by omega
            go_wp2_with fail
            go_ret
            exact ⟨rfl, Y.out.bel⟩
          have t2 : (k : Int) < 5 := by omega
          have t3 : (0 : Int) ≤ (k : Int) := by omega
          obtain ⟨s, x1, hs, hu⟩ : ∃ s : ByteArray, wo.cell? ⟨G, k, none⟩ = some (.string s) ∧ s.size ≤ 10000 ∧ UNH s = ([], 10) := by
            rcases (show k = 0 ∨ k = 1 ∨ k = 2 ∨ k = 3 ∨ k = 4 by omega) with rfl | rfl | rfl | rfl | rfl
            · exact ⟨s1, Y.out.cell 0 rfl 0 rfl, HU1.out⟩
            · exact ⟨s2, Y.out.cell 0 rfl 1 rfl, HU2.out⟩
            · exact ⟨s3, Y.out.cell 0 rfl 2 rfl, HU3.out⟩
            · exact ⟨s4, Y.out.cell 0 rfl 3 rfl, HU4.out⟩
            · exact ⟨s5, Y.out.cell 0 rfl 4 rfl, HU5.out⟩
          go_wp2_with fail
          refine (unhex_any s _ (by omega)).mono ?_
          rintro e wd ⟨A8, n8, c8, rfl, ho8, hbd⟩
          rw [hu] at ho8 ⊢
          obtain rfl : n8 = 0 := ho8.len.symm
          have Y2 := Lib.hid (Y.out.next hbd)
          clear ho8 hbd Y
          go_wp2_with fail
          go_roundw
          case rel => exact ⟨k + 1, by omega, by go_num, Y2.out⟩
          case measure => simp [intOf]; omega
end Go.Proofs.Ytcipgkpcaecjdaa
