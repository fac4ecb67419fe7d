/- bafflelaw10.Made. (Printed by gen_made10.py.) -/
import Derived.Test.YtdepibljeopcgaaDoorWLaid10b
import Derived.Test.YtdepibljeopcgaaDoorWIc6
namespace Go.Proofs.YtdepibljeopcgaaDoor
open Go.RowKit
set_option linter.unusedVariables false
attribute [local go_sem ↓] Go.wp_at_zero Go.wp_at_succ

/-- types, greatest codes and kinds of the eleven sorts of messages -/
def TYS : List Int := [8, 13, 17, 0, 14, 18, 3, 4, 5, 11, 12]
def MXS : List Int := [0, 0, 0, 0, 0, 0, 15, 0, 3, 1, 2]
def KDS : List Int := [3, 3, 3, 4, 4, 4, 5, 5, 5, 5, 5]
def mTy (k : Nat) : Int := TYS[k]?.getD 0
def mMx (k : Nat) : Int := MXS[k]?.getD 0
def mKd (k : Nat) : Int := KDS[k]?.getD 0
def mCd (k : Nat) (cd : Int) : Int := cd % (mMx k + 1)
theorem made_facts : ∀ k : Nat, k < 11 → 0 ≤ mTy k ∧ mTy k ≤ 18 ∧ 0 ≤ mMx k ∧ mMx k ≤ 15 ∧ sKind (mTy k).toNat = mKd k ∧ sCode (mTy k).toNat = mMx k ∧ 3 ≤ mKd k ∧ mKd k ≤ 5 ∧ (k < 6 → mMx k = 0) ∧ (k < 3 → mTy k = [8, 13, 17][k]?.getD 0 ∧ mKd k = 3) ∧ (k < 6 → 3 ≤ k → mTy k = [0, 14, 18][k - 3]?.getD 0 ∧ mKd k = 4) ∧ (6 ≤ k → mTy k = [3, 15, 4, 0, 5, 3, 11, 1, 12, 2][(k - 6) * 2]?.getD 0 ∧ mMx k = [3, 15, 4, 0, 5, 3, 11, 1, 12, 2][(k - 6) * 2 + 1]?.getD 0 ∧ mKd k = 5) := by decide
theorem made_kE {k : Nat} (hk : k < 11) {cd : Int} (h0 : 0 ≤ cd) : kE (mTy k).toNat (mCd k cd) = 0 ∧ kK (mTy k).toNat (mCd k cd) = mKd k ∧ 0 ≤ mCd k cd ∧ mCd k cd ≤ 15 := by
  obtain ⟨h1, h2, h3, h4, h5, h6, h7, h8, _⟩ := made_facts k hk
  have hc : 0 ≤ mCd k cd ∧ mCd k cd ≤ mMx k := by
    have e1 := Int.emod_nonneg cd (show mMx k + 1 ≠ 0 by omega)
    have e2 := Int.emod_lt_of_pos cd (show 0 < mMx k + 1 by omega)
    unfold mCd; omega
  have hE : kE (mTy k).toNat (mCd k cd) = 0 := by
    unfold kE
    rw [if_neg (by rw [h5]; omega), if_neg (by rw [h6]; omega)]
  refine ⟨hE, ?_, hc.1, by omega⟩
  unfold kK
  rw [if_pos hE, h5]
/-- what Made gives -/
def Made10P (k : Nat) (cd id seq : Int) (w : World) (e : Ending) (w' : World) : Prop :=
  ∃ A n c ys, e = .returned (.tuple #[.agg (msg4 (mTy k) (mCd k cd) id seq), .int .u8 (mKd k), .slice A n c]) ∧ OWN .u8 5 w' w.heap.size A n c ys ∧ BD 255 ys ∧ n ≤ 80 ∧ Below w.heap.size w w'

set_option maxHeartbeats 8000000 in
set_option maxRecDepth 100000 in
theorem made10_any (T : Nat) (k : Nat) (cd id seq : Int) (A : Option Addr) (n c : Nat) (zs : List Int) (w : World) (hT : T ≤ 255) (hk : k = T % 11) (hcd : 0 ≤ cd ∧ cd ≤ 255) (h : RD .u8 w w.heap.size A n zs) (hz : BD 255 zs) (hn : n ≤ c) (hc : c ≤ maxLen) (hS : TABS w) :
    Calls Tryd.prog 5 #[.agg #[.int .u8 (T : Int), .int .u8 cd, .int .u16 id, .int .u16 seq, .slice A n c]] w (Made10P k cd id seq w) := by
  obtain ⟨i0, hi, hz0, hz1, hz2⟩ := info_parts infoU8
  obtain ⟨mm, hmm, hm2, hm3⟩ : ∃ mm : Nat, (if (80 : Int) < (n : Int) then (80 : Int) else (n : Int)) = (mm : Int) ∧ mm ≤ n ∧ mm ≤ 80 := by
    by_cases h : n ≤ 80
    · exact ⟨n, if_neg (by omega), Nat.le_refl _, h⟩
    · exact ⟨80, if_pos (by omega), by omega, Nat.le_refl _⟩
  have R := Lib.hid (fun (W : World) (hb : Below w.heap.size w W) => (show RD .u8 W W.heap.size A n zs from (h.below hb).more hb.size))
  have HS := Lib.hid (fun (W : World) (hb : Below w.heap.size w W) => hS.below hb)
  have S0 := ((SP.start w).alloc 26 #[.int .u8 (T : Int), .int .u8 cd, .int .u16 id, .int .u16 seq, .slice A n c]).alloc' 38 msg0 (N := w.heap.size + 1) (by simp)
  replace S0 := S0.alloc' 38 (msg4 0 0 id seq) (N := w.heap.size + 2) (by simp)
  have H0 := Lib.hid S0
  have hk11 : k < 11 := by omega
  obtain ⟨c0, c1⟩ := hcd
  have hTk : (T : Int) % 11 = (k : Int) := by omega
  clear h hS S0 hk
  go_enter Tryd.func5, Tryd.ntmps5
  go_upto_region 2 with fail
  rw [show w.heap.size + 1 + 1 = w.heap.size + 2 from rfl]
  rw [show ((w.alloc (.cells #[.int .u8 (T : Int), .int .u8 cd, .int .u16 id, .int .u16 seq, .slice A n c] 26)).alloc (.cells #[.int .u8 0, .int .u8 0, .int .u16 0, .int .u16 0] 38)).alloc (.cells #[.int .u8 0, .int .u8 0, .int .u16 id, .int .u16 seq] 38) = ((w.alloc (.cells #[.int .u8 (T : Int), .int .u8 cd, .int .u16 id, .int .u16 seq, .slice A n c] 26)).alloc (.cells msg0 38)).alloc (.cells (msg4 0 0 id seq) 38) from rfl]
  generalize ((w.alloc (.cells #[.int .u8 (T : Int), .int .u8 cd, .int .u16 id, .int .u16 seq, .slice A n c] 26)).alloc (.cells msg0 38)).alloc (.cells (msg4 0 0 id seq) 38) = w1 at H0 ⊢
  obtain ⟨N, hN⟩ : ∃ N, N = w.heap.size := ⟨_, rfl⟩
  rw [← hN] at H0 ⊢
  have HN := Lib.hid hN
  clear hN
  have x4 : w1.cell? ⟨N, 4, none⟩ = some (.slice A n c) := H0.out.cell 0 rfl 4 rfl
  have hlt : N < w1.heap.size := (H0.out.blk 0 rfl).lt
  have H1 := Lib.hid (H0.out.allocI' .u8 5 [] (Nat.zero_le _) (N := w1.heap.size) rfl)
  clear H0
  have i1 : (0 : Int) ≤ (mm : Int) := by omega
  have i2 : (mm : Int) ≤ (c : Int) := by omega
  go_upto_region 3 with (at_builtin; refine wpList_append_rd _ rfl _ _ _ rfl .u8 w.heap.size 5 i0 1 Tryd.underlying24 hi hz0 hz1 hz2 (some ⟨w1.heap.size, 0, none⟩) 0 0 [] rfl (H1.out.own 3 rfl) _ A mm c (zs.take mm) rfl ((R.out _ H1.out.bel).take hm2) (by simp only [maxLen]; omega) (by omega) H1.out.size ?_; intro A2 c2 w2 happ; have H2 := Lib.hid (H1.out.app 3 rfl happ); clear happ)
  have H3 := H2.out
  rw [Nat.zero_add] at H3
  replace H3 := Lib.hid (show SP w w2 [.blk N 26 #[.int .u8 (T : Int), .int .u8 cd, .int .u16 id, .int .u16 seq, .slice A n c], .blk (N + 1) 38 msg0, .blk (N + 2) 38 (msg4 0 0 id seq), .own .u8 5 A2 mm c2 (zs.take mm)] from H3)
  clear H1 H2 x4 i1 i2 hmm hlt
  have y0 : w2.cell? ⟨N, 0, none⟩ = some (.int .u8 (T : Int)) := H3.out.cell 0 rfl 0 rfl
  have y1 : w2.cell? ⟨N, 1, none⟩ = some (.int .u8 cd) := H3.out.cell 0 rfl 1 rfl
  have z0 : w2.cell? ⟨N + 2, 0, none⟩ = some (.int .u8 0) := H3.out.cell 2 rfl 0 rfl
  have z1 : w2.cell? ⟨N + 2, 1, none⟩ = some (.int .u8 0) := H3.out.cell 2 rfl 1 rfl
  have f0 := H3.out.free 2 rfl 0
  have f1 := H3.out.free 2 rfl 1
  have i1 : (0 : Int) ≤ (k : Int) := by omega
  obtain ⟨m1, m2, m3, m4, _, _, _, _, m6, m7, m8, m9⟩ := made_facts k hk11
  have HM := Lib.hid (And.intro m6 (And.intro m7 (And.intro m8 m9)))
  clear m6 m7 m8 m9
  by_cases h3 : k < 3
  · have i2 : (k : Int) < 3 := by omega
    have g0 : w2.cell? ⟨0, k, none⟩ = some (.int .u8 (mTy k)) := by
      rw [(HM.out.2.1 h3).1]; exact (HS.out _ H3.out.bel).q.cell (i := k) (by simp; omega)
    have X := Lib.hid (show SP w _ [.blk N 26 #[.int .u8 (T : Int), .int .u8 cd, .int .u16 id, .int .u16 seq, .slice A n c], .blk (N + 1) 38 msg0, .blk (N + 2) 38 (msg4 (mTy k) 0 id seq), .own .u8 5 A2 mm c2 (zs.take mm)] from H3.out.setB 2 rfl 0 (.int .u8 (mTy k)))
    have HX := Lib.hid (And.intro (HM.out.2.1 h3).2 (HM.out.1 (by omega)))
    have T1 := Lib.hid (X.out.setR 1 rfl (msg4 (mTy k) (0) id seq))
    go_wp2_with (first | (refine wpList_load_row rfl 38 _ rfl (N + 2) rfl 38 (msg4 (mTy k) (0) id seq) _ _ (X.out.blk 2 rfl) Tryd.underlying38 rfl (by kernel_rfl) ?_) | (refine wpList_store_row rfl 38 _ _ rfl (N + 1) (msg4 (mTy k) (0) id seq) rfl rfl 38 msg0 (X.out.blk 1 rfl) (by kernel_rfl) rfl (msg4_one _ _ _ _) ?_))
    refine bodyPost_ret (results_cell_tmp2' rfl _ _ (N + 1) 38 (msg4 (mTy k) (0) id seq) _ _ rfl (T1.out.blk 1 rfl) Tryd.underlying38 rfl (by kernel_rfl)) rfl ?_
    refine ⟨A2, mm, c2, zs.take mm, ?_, T1.out.own 3 rfl, hz.take _, hm3, T1.out.bel⟩
    rw [HX.out.1, show mCd k cd = 0 by unfold mCd; rw [HX.out.2]; omega]; rfl
  · by_cases h6 : k < 6
    · have i2 : (k : Int) < 6 := by omega
      have i3 : ¬ (k : Int) < 3 := by omega
      obtain ⟨j, hj⟩ : ∃ j : Nat, (k : Int) - 3 = (j : Int) := ⟨k - 3, by omega⟩
      have hj2 : k - 3 = j := by omega
      have i4 : (0 : Int) ≤ (j : Int) := by omega
      have i5 : (j : Int) < 3 := by omega
      have i6 : IntKind.u8.wrap ((k : Int) - 3) = (j : Int) := by rw [hj]; exact u8_in _ (by omega) (by omega)
      have g0 : w2.cell? ⟨1, j, none⟩ = some (.int .u8 (mTy k)) := by
        rw [(HM.out.2.2.1 h6 (by omega)).1, hj2]; exact (HS.out _ H3.out.bel).r.cell (i := j) (by simp; omega)
      have X := Lib.hid (show SP w _ [.blk N 26 #[.int .u8 (T : Int), .int .u8 cd, .int .u16 id, .int .u16 seq, .slice A n c], .blk (N + 1) 38 msg0, .blk (N + 2) 38 (msg4 (mTy k) 0 id seq), .own .u8 5 A2 mm c2 (zs.take mm)] from H3.out.setB 2 rfl 0 (.int .u8 (mTy k)))
      have HX := Lib.hid (And.intro (HM.out.2.2.1 h6 (by omega)).2 (HM.out.1 (by omega)))
      clear hj hj2
      have T1 := Lib.hid (X.out.setR 1 rfl (msg4 (mTy k) (0) id seq))
      go_wp2_with (first | (refine wpList_load_row rfl 38 _ rfl (N + 2) rfl 38 (msg4 (mTy k) (0) id seq) _ _ (X.out.blk 2 rfl) Tryd.underlying38 rfl (by kernel_rfl) ?_) | (refine wpList_store_row rfl 38 _ _ rfl (N + 1) (msg4 (mTy k) (0) id seq) rfl rfl 38 msg0 (X.out.blk 1 rfl) (by kernel_rfl) rfl (msg4_one _ _ _ _) ?_))
      refine bodyPost_ret (results_cell_tmp2' rfl _ _ (N + 1) 38 (msg4 (mTy k) (0) id seq) _ _ rfl (T1.out.blk 1 rfl) Tryd.underlying38 rfl (by kernel_rfl)) rfl ?_
      refine ⟨A2, mm, c2, zs.take mm, ?_, T1.out.own 3 rfl, hz.take _, hm3, T1.out.bel⟩
      rw [HX.out.1, show mCd k cd = 0 by unfold mCd; rw [HX.out.2]; omega]; rfl
    · have i2 : ¬ (k : Int) < 3 := by omega
      have i3 : ¬ (k : Int) < 6 := by omega
      obtain ⟨j, hj⟩ : ∃ j : Nat, (k : Int) - 6 = (j : Int) := ⟨k - 6, by omega⟩
      have hj2 : k - 6 = j := by omega
      have i4 : (0 : Int) ≤ (j : Int) := by omega
      have i5 : (j : Int) < 5 := by omega
      have i6 : IntKind.u8.wrap ((k : Int) - 6) = (j : Int) := by rw [hj]; exact u8_in _ (by omega) (by omega)
      obtain ⟨e1, e2, e3⟩ := HM.out.2.2.2 (by omega)
      rw [hj2] at e1 e2
      have g0 : w2.cell? ⟨2, j * 2, none⟩ = some (.int .u8 (mTy k)) := by
        rw [e1]; exact (HS.out _ H3.out.bel).e.cell (i := j * 2) (by simp; omega)
      have g1 : w2.cell? ⟨2, j * 2 + 1, none⟩ = some (.int .u8 (mMx k)) := by
        rw [e2]; exact (HS.out _ H3.out.bel).e.cell (i := j * 2 + 1) (by simp; omega)
      have HKD := Lib.hid e3
      have u1 : IntKind.u8.wrap (mMx k + 1) = mMx k + 1 := u8_in _ (by omega) (by omega)
      have u2 : cd.tmod (mMx k + 1) = cd % (mMx k + 1) := Int.tmod_eq_emod_of_nonneg c0
      have v1 := Int.emod_nonneg cd (show mMx k + 1 ≠ 0 by omega)
      have v2 := Int.emod_lt_of_pos cd (show 0 < mMx k + 1 by omega)
      have u3 : IntKind.u8.wrap (cd % (mMx k + 1)) = cd % (mMx k + 1) := u8_in _ (by omega) (by omega)
      have u4 : mMx k + 1 ≠ 0 := by omega
      have u5 : ¬ mMx k + 1 = 0 := u4
      have HG := Lib.hid (fun (W : World) (hb : Below w.heap.size w W) => (show W.cell? ⟨2, j * 2, none⟩ = some (.int .u8 (mTy k)) ∧ W.cell? ⟨2, j * 2 + 1, none⟩ = some (.int .u8 (mMx k)) from ⟨by rw [e1]; exact (HS.out _ hb).e.cell (i := j * 2) (by simp; omega), by rw [e2]; exact (HS.out _ hb).e.cell (i := j * 2 + 1) (by simp; omega)⟩))
      clear hj hj2 e1 e2 e3
      have HMC := Lib.hid (show mCd k cd = cd % (mMx k + 1) from rfl)
      obtain ⟨ty, hty⟩ : ∃ ty, ty = mTy k := ⟨_, rfl⟩
      obtain ⟨mx, hmx⟩ : ∃ mx, mx = mMx k := ⟨_, rfl⟩
      rw [← hty, ← hmx] at HG
      rw [← hmx] at u1 u2 u3 u4 u5 m3 m4
      have HTY := Lib.hid (And.intro hty hmx)
      clear hty hmx m1 m2 g0 g1 v1 v2
      obtain ⟨g0, g1⟩ := HG.out _ H3.out.bel
      go_upto_region 4 with fail
      have X0 := Lib.hid H3.out.drew
      clear g0 g1
      refine wp_region_noPanic ?_
      refine wp_region_held_drew (S := fun W => W.cell? ⟨2, j * 2, none⟩ = some (.int .u8 ty) ∧ W.cell? ⟨2, j * 2 + 1, none⟩ = some (.int .u8 mx) ∧ W.cell? ⟨N, 1, none⟩ = some (.int .u8 cd)) (by kernel_rfl) (by exact ⟨(HG.out _ X0.out.bel).1, (HG.out _ X0.out.bel).2, X0.out.cell 0 rfl 1 rfl⟩) (fun hHeld => ?_)
      refine' take_lit (i := 0) (v := _) rfl (by kernel_rfl) (by kernel_rfl) (by kernel_rfl) (fun _ _ _ h => h) (Or.inl ⟨by rfl, ?yy1⟩) (by assumption) ?rr1
      case yy1 => intro w' hSw; (try dsimp only at hSw); go_simp; try (with_reducible rfl)
      (try simp only [Act.put]); (try simp only [List.setIfInBounds_toArray, List.set_cons_zero, List.set_cons_succ])
      refine' take_lit (i := 1) (v := _) rfl (by kernel_rfl) (by kernel_rfl) (by kernel_rfl) (fun _ _ _ h => h) (Or.inl ⟨by rfl, ?yy2⟩) (by assumption) ?rr2
      case yy2 => intro w' hSw; (try dsimp only at hSw); go_simp; try (with_reducible rfl)
      (try simp only [Act.put]); (try simp only [List.setIfInBounds_toArray, List.set_cons_zero, List.set_cons_succ])
      refine' take_lit (i := 2) (v := _) rfl (by kernel_rfl) (by kernel_rfl) (by kernel_rfl) (fun _ _ _ h => h) (Or.inl ⟨by rfl, ?yy3⟩) (by assumption) ?rr3
      case yy3 => intro w' hSw; (try dsimp only at hSw); go_simp; try (with_reducible rfl)
      (try simp only [Act.put]); (try simp only [List.setIfInBounds_toArray, List.set_cons_zero, List.set_cons_succ])
      refine' take_lit (i := 3) (v := _) rfl (by kernel_rfl) (by kernel_rfl) (by kernel_rfl) (fun _ _ _ h => h) (Or.inl ⟨by rfl, ?yy4⟩) (by assumption) ?rr4
      case yy4 => intro w' hSw; (try dsimp only at hSw); go_simp; try (with_reducible rfl)
      (try simp only [Act.put]); (try simp only [List.setIfInBounds_toArray, List.set_cons_zero, List.set_cons_succ])
      refine' take_lit (i := 4) (v := _) rfl (by kernel_rfl) (by kernel_rfl) (by kernel_rfl) (fun _ _ _ h => h) (Or.inl ⟨by rfl, ?yy5⟩) (by assumption) ?rr5
      case yy5 => intro w' hSw; (try dsimp only at hSw); go_simp; try (with_reducible rfl)
      (try simp only [Act.put]); (try simp only [List.setIfInBounds_toArray, List.set_cons_zero, List.set_cons_succ])
      refine' take_lit (i := 5) (v := _) rfl (by kernel_rfl) (by kernel_rfl) (by kernel_rfl) (fun _ _ _ h => h) (Or.inl ⟨by rfl, ?yy6⟩) (by assumption) ?rr6
      case yy6 => intro w' hSw; (try dsimp only at hSw); go_simp; try (with_reducible rfl)
      (try simp only [Act.put]); (try simp only [List.setIfInBounds_toArray, List.set_cons_zero, List.set_cons_succ])
      refine' take_lit (i := 6) (v := _) rfl (by kernel_rfl) (by kernel_rfl) (by kernel_rfl) (fun _ _ _ h => h) (Or.inl ⟨by rfl, ?yy7⟩) (by assumption) ?rr7
      case yy7 => intro w' hSw; (try dsimp only at hSw); go_simp; try (with_reducible rfl)
      (try simp only [Act.put]); (try simp only [List.setIfInBounds_toArray, List.set_cons_zero, List.set_cons_succ])
      refine' take_lit (i := 7) (v := _) rfl (by kernel_rfl) (by kernel_rfl) (by kernel_rfl) (fun _ _ _ h => h) (Or.inl ⟨by rfl, ?yy8⟩) (by assumption) ?rr8
      case yy8 => intro w' hSw; (try dsimp only at hSw); go_simp; try (with_reducible rfl)
      (try simp only [Act.put]); (try simp only [List.setIfInBounds_toArray, List.set_cons_zero, List.set_cons_succ])
      refine' take_lit (i := 8) (v := _) rfl (by kernel_rfl) (by kernel_rfl) (by kernel_rfl) (fun _ _ _ h => h) (Or.inl ⟨by rfl, ?yy9⟩) (by assumption) ?rr9
      case yy9 => intro w' hSw; (try dsimp only at hSw); go_simp; try (with_reducible rfl)
      (try simp only [Act.put]); (try simp only [List.setIfInBounds_toArray, List.set_cons_zero, List.set_cons_succ])
      refine' take_lit (i := 9) (v := _) rfl (by kernel_rfl) (by kernel_rfl) (by kernel_rfl) (fun _ _ _ h => h) (Or.inl ⟨by rfl, ?yy10⟩) (by assumption) ?rr10
      case yy10 => intro w' hSw; (try dsimp only at hSw); go_simp; try (with_reducible rfl)
      (try simp only [Act.put]); (try simp only [List.setIfInBounds_toArray, List.set_cons_zero, List.set_cons_succ])
      refine' take_lit (i := 10) (v := _) rfl (by kernel_rfl) (by kernel_rfl) (by kernel_rfl) (fun _ _ _ h => h) (Or.inl ⟨by rfl, ?yy11⟩) (by assumption) ?rr11
      case yy11 => intro w' hSw; (try dsimp only at hSw); go_simp; try (with_reducible rfl)
      (try simp only [Act.put]); (try simp only [List.setIfInBounds_toArray, List.set_cons_zero, List.set_cons_succ])
      refine' take_lit (i := 11) (v := _) rfl (by kernel_rfl) (by kernel_rfl) (by kernel_rfl) (fun _ _ _ h => h) (Or.inl ⟨by rfl, ?yy12⟩) (by assumption) ?rr12
      case yy12 => intro w' hSw; (try dsimp only at hSw); go_simp; try (with_reducible rfl)
      (try simp only [Act.put]); (try simp only [List.setIfInBounds_toArray, List.set_cons_zero, List.set_cons_succ])
      refine' take_lit (i := 12) (v := _) rfl (by kernel_rfl) (by kernel_rfl) (by kernel_rfl) (fun _ _ _ h => h) (Or.inl ⟨by rfl, ?yy13⟩) (by assumption) ?rr13
      case yy13 => intro w' hSw; (try dsimp only at hSw); go_simp; try (with_reducible rfl)
      (try simp only [Act.put]); (try simp only [List.setIfInBounds_toArray, List.set_cons_zero, List.set_cons_succ])
      refine' take_lit (i := 13) (v := _) rfl (by kernel_rfl) (by kernel_rfl) (by kernel_rfl) (fun _ _ _ h => h) (Or.inl ⟨by rfl, ?yy14⟩) (by assumption) ?rr14
      case yy14 => intro w' hSw; (try dsimp only at hSw); go_simp; try (with_reducible rfl)
      (try simp only [Act.put]); (try simp only [List.setIfInBounds_toArray, List.set_cons_zero, List.set_cons_succ])
      refine' take_lit (i := 14) (v := _) rfl (by kernel_rfl) (by kernel_rfl) (by kernel_rfl) (fun _ _ _ h => h) (Or.inl ⟨by rfl, ?yy15⟩) (by assumption) ?rr15
      case yy15 => intro w' hSw; (try dsimp only at hSw); go_simp; try (with_reducible rfl)
      (try simp only [Act.put]); (try simp only [List.setIfInBounds_toArray, List.set_cons_zero, List.set_cons_succ])
      refine wpAnyH_ready (rs := [15]) (by kernel_rfl) (by simp) ?_
      refine cons_lit rfl (fun K hK => ?ss15x16) AllReadyH.nil
      case ss15x16 =>
        have b0 : World.cell? _ ⟨N + 2, 0, none⟩ = some (.int .u8 0) := X0.out.cell 2 rfl 0 rfl
        have d0 := X0.out.free 2 rfl 0
        go_simp
        have X1 := Lib.hid (show SP w _ [.blk N 26 #[.int .u8 (T : Int), .int .u8 cd, .int .u16 id, .int .u16 seq, .slice A n c], .blk (N + 1) 38 msg0, .blk (N + 2) 38 (msg4 ty 0 id seq), .own .u8 5 A2 mm c2 (zs.take mm)] from X0.out.setB 2 rfl 0 (.int .u8 ty))
        refine hK.out _ _ (by exact ⟨(HG.out _ X1.out.bel).1, (HG.out _ X1.out.bel).2, X1.out.cell 0 rfl 1 rfl⟩) (fun hHeld => ?_)
        clear hK K
        (try simp only [Act.put]); (try simp only [List.setIfInBounds_toArray, List.set_cons_zero, List.set_cons_succ])
        refine' take_lit (i := 16) (v := _) rfl (by kernel_rfl) (by kernel_rfl) (by kernel_rfl) (fun _ _ _ h => h) (Or.inl ⟨by rfl, ?yy17⟩) (by assumption) ?rr17
        case yy17 => intro w' hSw; (try dsimp only at hSw); go_simp; try (with_reducible rfl)
        (try simp only [Act.put]); (try simp only [List.setIfInBounds_toArray, List.set_cons_zero, List.set_cons_succ])
        refine wpAnyH_ready (rs := [17]) (by kernel_rfl) (by simp) ?_
        refine cons_lit rfl (fun K hK => ?ss17x18) AllReadyH.nil
        case ss17x18 =>
          have b1 : World.cell? _ ⟨N + 2, 1, none⟩ = some (.int .u8 0) := X1.out.cell 2 rfl 1 rfl
          have d1 := X1.out.free 2 rfl 1
          go_simp
          have X2 := Lib.hid (show SP w _ [.blk N 26 #[.int .u8 (T : Int), .int .u8 cd, .int .u16 id, .int .u16 seq, .slice A n c], .blk (N + 1) 38 msg0, .blk (N + 2) 38 (msg4 ty (cd % (mx + 1)) id seq), .own .u8 5 A2 mm c2 (zs.take mm)] from X1.out.setB 2 rfl 1 (.int .u8 (cd % (mx + 1))))
          refine hK.out _ _ (by exact ⟨(HG.out _ X2.out.bel).1, (HG.out _ X2.out.bel).2, X2.out.cell 0 rfl 1 rfl⟩) (fun hHeld => ?_)
          clear hK K
          (try simp only [Act.put]); (try simp only [List.setIfInBounds_toArray, List.set_cons_zero, List.set_cons_succ])
          refine wpAnyH_done (by kernel_rfl) ?_ _
          refine NoPanic.normal ?_
          clear b0 d0 b1 d1 X0 X1 u1 u2 u3 u4 u5
          have T1 := Lib.hid (X2.out.setR 1 rfl (msg4 (ty) (cd % (mx + 1)) id seq))
          go_wp2_with (first | (refine wpList_load_row rfl 38 _ rfl (N + 2) rfl 38 (msg4 (ty) (cd % (mx + 1)) id seq) _ _ (X2.out.blk 2 rfl) Tryd.underlying38 rfl (by kernel_rfl) ?_) | (refine wpList_store_row rfl 38 _ _ rfl (N + 1) (msg4 (ty) (cd % (mx + 1)) id seq) rfl rfl 38 msg0 (X2.out.blk 1 rfl) (by kernel_rfl) rfl (msg4_one _ _ _ _) ?_))
          refine bodyPost_ret (results_cell_tmp2' rfl _ _ (N + 1) 38 (msg4 (ty) (cd % (mx + 1)) id seq) _ _ rfl (T1.out.blk 1 rfl) Tryd.underlying38 rfl (by kernel_rfl)) rfl ?_
          refine ⟨A2, mm, c2, zs.take mm, ?_, T1.out.own 3 rfl, hz.take _, hm3, T1.out.bel⟩
          rw [HKD.out, HMC.out, ← HTY.out.1, ← HTY.out.2]; rfl
end Go.Proofs.YtdepibljeopcgaaDoor
