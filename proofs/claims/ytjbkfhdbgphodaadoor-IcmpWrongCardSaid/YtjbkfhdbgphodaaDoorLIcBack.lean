/- The walk of IcmpBack. -/
import Derived.Test.YtjbkfhdbgphodaaDoorLIcP
import Derived.Test.YtjbkfhdbgphodaaDoorWMadeU
import Derived.Test.YtjbkfhdbgphodaaDoorWAwake10
import Derived.Test.YtjbkfhdbgphodaaDoorBase
namespace Go.Proofs.YtjbkfhdbgphodaaDoor
open Go.RowKit
set_option linter.unusedVariables false
attribute [local go_sem ↓] Go.wp_at_zero Go.wp_at_succ

theorem flip_bd10 {zs : List Int} (h : BD 255 zs) {k j : Nat} (hj : j < 8) : BD 255 (zs.set k (flipB (zs[k]?.getD 0) j)) := fun y hm => by
  have hb := h.get (by omega) k
  rcases List.mem_or_eq_of_mem_set hm with hm | rfl
  · exact h y hm
  · exact flipB_bd hb.1 hb.2 hj

set_option maxHeartbeats 16000000 in
set_option maxRecDepth 100000 in
theorem icmpBack_walk (T cd id seq : Int) (A : Option Addr) (n c : Nat) (zs : List Int) (bt : Int) (w : World) (hT : 0 ≤ T ∧ T ≤ 255) (hcd : 0 ≤ cd ∧ cd ≤ 255) (hid : 0 ≤ id ∧ id ≤ 65535) (hseq : 0 ≤ seq ∧ seq ≤ 65535) (h : ROW .u8 255 w A n c zs) (hbt : 0 ≤ bt ∧ bt ≤ 65535) (hS : TABS w) :
    Calls Tryd.prog 7 #[.agg #[.int .u8 T, .int .u8 cd, .int .u16 id, .int .u16 seq, .slice A n c], .int .u16 bt] w fun e w' => e = .returned (.bool true) ∧ Below w.heap.size w w' := by
  obtain ⟨i0, hi, hz0, hz1, hz2⟩ := info_parts infoU8
  have R := Lib.hid (fun (W : World) (hb : Below w.heap.size w W) => (show RD .u8 W W.heap.size A n zs from (h.rd.below hb).more hb.size))
  have hz := h.bd
  have hn := h.le
  have hcm := h.cap
  have HS := Lib.hid (fun (W : World) (hb : Below w.heap.size w W) => hS.below hb)
  have S0 := Lib.hid ((SP.start w).alloc 36 #[.int .u8 T, .int .u8 cd, .int .u16 id, .int .u16 seq, .slice A n c])
  obtain ⟨b0, b1⟩ := hbt
  clear h hS
  go_enter Tryd.func7, Tryd.ntmps7
  go_upto_region 1 with fail
  generalize w.alloc (.cells #[.int .u8 T, .int .u8 cd, .int .u16 id, .int .u16 seq, .slice A n c] 36) = w0 at S0 ⊢
  go_wp2_with fail
  refine (awake10_any _ (HS.out _ S0.out.bel).s).mono ?_
  rintro e w1 ⟨rfl, hb1⟩
  have S1 := Lib.hid (S0.out.next hb1)
  clear S0 hb1
  have x0 : w1.cell? ⟨w.heap.size, 0, none⟩ = some (.int .u8 T) := S1.out.cell 0 rfl 0 rfl
  have x1 : w1.cell? ⟨w.heap.size, 1, none⟩ = some (.int .u8 cd) := S1.out.cell 0 rfl 1 rfl
  have x2 : w1.cell? ⟨w.heap.size, 2, none⟩ = some (.int .u16 id) := S1.out.cell 0 rfl 2 rfl
  have x3 : w1.cell? ⟨w.heap.size, 3, none⟩ = some (.int .u16 seq) := S1.out.cell 0 rfl 3 rfl
  have x4 : w1.cell? ⟨w.heap.size, 4, none⟩ = some (.slice A n c) := S1.out.cell 0 rfl 4 rfl
  go_wp2_with fail
  refine (madeU_any T cd id seq A n c zs _ hT hcd (R.out _ S1.out.bel) hz hn hcm (HS.out _ S1.out.bel)).mono ?_
  rintro e w2 ⟨ty, cv, kd, A2, n2, c2, ys, rfl, ok, own2, hys, h80, hb2⟩
  have hyl := own2.len
  have S2 := Lib.hid ((S1.out.pushOwn hb2 own2).alloc 27 (msg4 (ty : Int) cv id seq))
  have hl2 := own2.le
  clear own2 hb2 S1 x0 x1 x2 x3 x4
  obtain ⟨o1, o2, o3, o4, o5, o6, o7, o8⟩ := ok
  obtain ⟨hwE, P, hP, hPl, hPB, hPE, hPM, hPD, hPV, hPS, _, _, _, _⟩ := ic_pkt (ys := ys) o4 (by omega) ⟨o2, by omega⟩ hid hseq hys (by omega)
  have HP := Lib.hid (And.intro hwE (And.intro hP (And.intro hPl (And.intro hPE (And.intro hPM (And.intro hPD (And.intro hPV hPS)))))))
  have HK := Lib.hid (And.intro o4 o5)
  have HYL := Lib.hid hyl
  clear hwE hP hPl hPE hPM hPD hPV hPS o4 o5 o6 hyl
  unfold msg4
  go_upto_region 4 with fail
  rw [show w2.alloc (.cells #[.int .u8 (ty : Int), .int .u8 cv, .int .u16 id, .int .u16 seq] 27) = w2.alloc (.cells (msg4 (ty : Int) cv id seq) 27) from rfl]
  generalize w2.alloc (.cells (msg4 (ty : Int) cv id seq) 27) = w3 at S2 ⊢
  have f0 : w3.cell? ⟨w2.heap.size, 0, none⟩ = some (.int .u8 (ty : Int)) := S2.out.cell 2 rfl 0 rfl
  have f1 : w3.cell? ⟨w2.heap.size, 1, none⟩ = some (.int .u8 cv) := S2.out.cell 2 rfl 1 rfl
  have f2 : w3.cell? ⟨w2.heap.size, 2, none⟩ = some (.int .u16 id) := S2.out.cell 2 rfl 2 rfl
  have f3 : w3.cell? ⟨w2.heap.size, 3, none⟩ = some (.int .u16 seq) := S2.out.cell 2 rfl 3 rfl
  go_wp2_with fail
  refine (icwrite_any ty cv id seq A2 n2 c2 ys _ (by omega) ⟨o2, by omega⟩ hid hseq (S2.out.rd 1 rfl) hys (by omega) (HS.out _ S2.out.bel).s).mono ?_
  rintro e w4 ⟨A4, n4, c4, rfl, own4, hb4⟩
  rw [← HYL.out, HP.out.1, HYL.out]
  rw [HP.out.2.1] at own4
  have hn4 : n4 = 8 + n2 := by have := own4.len; rw [HP.out.2.2.1, HYL.out] at this; omega
  have hl4 := own4.le
  have S4 := Lib.hid (S2.out.pushOwn hb4 own4)
  clear own4 hb4 S2 f0 f1 f2 f3
  have n8 : ((n4 : Int) != 8 + (n2 : Int)) = false := by simp; omega
  have hn8 : 8 ≤ n4 := by omega
  have hn88 : n4 ≤ 88 := by omega
  have HN4 := Lib.hid hn4
  clear hn4
  go_wp2_with fail
  refine (icread_any A4 n4 c4 P _ (S4.out.rd 3 rfl) hPB (by omega) (by omega) (HS.out _ S4.out.bel).s).mono ?_
  rintro e w5 ⟨rfl, hb5⟩
  rw [HP.out.2.2.2.1, HP.out.2.2.2.2.1]
  have S5 := Lib.hid ((S4.out.next hb5).alloc 27 (msg4 (ty : Int) cv id seq))
  clear hb5 S4
  go_upto_region 6 with fail
  rw [show w5.alloc (.cells #[.int .u8 (ty : Int), .int .u8 cv, .int .u16 id, .int .u16 seq] 27) = w5.alloc (.cells (msg4 (ty : Int) cv id seq) 27) from rfl]
  generalize w5.alloc (.cells (msg4 (ty : Int) cv id seq) 27) = w6 at S5 ⊢
  have f0 : w6.cell? ⟨w2.heap.size, 0, none⟩ = some (.int .u8 (ty : Int)) := S5.out.cell 2 rfl 0 rfl
  have f1 : w6.cell? ⟨w2.heap.size, 1, none⟩ = some (.int .u8 cv) := S5.out.cell 2 rfl 1 rfl
  have f2 : w6.cell? ⟨w2.heap.size, 2, none⟩ = some (.int .u16 id) := S5.out.cell 2 rfl 2 rfl
  have f3 : w6.cell? ⟨w2.heap.size, 3, none⟩ = some (.int .u16 seq) := S5.out.cell 2 rfl 3 rfl
  have g0 : w6.cell? ⟨w5.heap.size, 0, none⟩ = some (.int .u8 (ty : Int)) := S5.out.cell 4 rfl 0 rfl
  have g1 : w6.cell? ⟨w5.heap.size, 1, none⟩ = some (.int .u8 cv) := S5.out.cell 4 rfl 1 rfl
  have g2 : w6.cell? ⟨w5.heap.size, 2, none⟩ = some (.int .u16 id) := S5.out.cell 4 rfl 2 rfl
  have g3 : w6.cell? ⟨w5.heap.size, 3, none⟩ = some (.int .u16 seq) := S5.out.cell 4 rfl 3 rfl
  go_wp2_with fail
  refine (kind_any ty cv _ (by omega) ⟨o2, by omega⟩ (HS.out _ S5.out.bel).s).mono ?_
  rintro e w7 ⟨rfl, rfl⟩
  rw [HK.out.1, HK.out.2]
  have s8 := fun W => run_slice_lo (P := Tryd.prog) W Tryd.underlying22 hi hz1 A4 n4 c4 8 8 rfl hn8
  have kk : (kd != kd) = false := by simp
  go_wp2_with fail
  refine (same_any (cutA A4 c4 8) A2 (n4 - 8) (c4 - 8) n2 c2 (P.drop 8) ys _ ((S5.out.rd 3 rfl).cutA (lo := 8) hn8 (by omega)) (S5.out.rd 1 rfl) (by omega) (by omega)).mono ?_
  rintro e w8 ⟨rfl, m8, h8⟩
  rw [HP.out.2.2.2.2.2.1, show (ys == ys) = true by simp]
  have S8 := Lib.hid (h8 ▸ S5.out.drewN m8)
  clear h8 S5 f0 f1 f2 f3 g0 g1 g2 g3 s8 kk n8
  go_wp2_with fail
  refine (icverify_any A4 n4 c4 P _ (S8.out.rd 3 rfl) hPB (by omega)).mono ?_
  rintro e w9 ⟨rfl, hb9⟩
  rw [HP.out.2.2.2.2.2.2.1]
  have S9 := Lib.hid (S8.out.next hb9)
  clear hb9 S8
  obtain ⟨g5, rfl, hg5, _⟩ := (S9.out.own 3 rfl).form (by omega)
  have own5 := S9.out.own 3 rfl
  have hm8 : 0 ≤ bt % (8 * (n4 : Int)) ∧ bt % (8 * (n4 : Int)) < 8 * (n4 : Int) := ⟨Int.emod_nonneg _ (by omega), Int.emod_lt_of_pos _ (by omega)⟩
  obtain ⟨p, hp⟩ : ∃ p : Nat, bt % (8 * (n4 : Int)) = (p : Int) := ⟨(bt % (8 * (n4 : Int))).toNat, by omega⟩
  rw [hp] at hm8
  obtain ⟨hm8a, hm8b⟩ := hm8
  obtain ⟨k, hk⟩ : ∃ k, k = p / 8 := ⟨_, rfl⟩
  obtain ⟨j, hj⟩ : ∃ j, j = p % 8 := ⟨_, rfl⟩
  have hk5 : k < n4 := by omega
  have hj8 : j < 8 := by omega
  have x1 := own5.cell (i := k) (by omega)
  have x2 := own5.frozen k
  obtain ⟨v1, v2⟩ := hPB.get (by omega) k
  obtain ⟨v, hv⟩ : ∃ v, v = P[k]?.getD 0 := ⟨_, rfl⟩
  rw [← hv] at x1 v1 v2
  have HV := Lib.hid hv
  have hfb := flipB_bd v1 v2 hj8
  have m1 : (p : Int).tdiv 8 = (k : Int) := by rw [Int.tdiv_eq_ediv_of_nonneg (by omega)]; omega
  have m2 : (p : Int).tmod 8 = (j : Int) := by rw [Int.tmod_eq_emod_of_nonneg (by omega)]; omega
  have m3 : IntKind.i64.wrap (k : Int) = (k : Int) := IntWalk.i64_in _ (by omega)
  have i1 : (0 : Int) ≤ (k : Int) := by omega
  have i2 : (k : Int) < (n4 : Int) := by omega
  have i3 : (0 : Int) ≤ (j : Int) := by omega
  have i4 : (j : Int) ≤ 8 := by omega
  have e1 : IntKind.u8.wrap ((2 : Int) ^ j) = 2 ^ j := by
    have := (flipB_far v hj8).2
    exact u8_in _ (by omega) (by omega)
  have e2 : bits .xor .u8 v (2 ^ j) = flipB v j := u8_xor_bit v v1 v2 j hj8
  have HT := Lib.hid ((S9.out.setO 3 rfl k (flipB v j)).drew)
  have hwr := flip_wrong hPB HP.out.2.2.2.2.2.2.2 (k := k) (j := j) (by rw [HP.out.2.2.1, HYL.out]; have := HN4.out; omega) hj8
  rw [← hv] at hwr
  have hbd := flip_bd10 hPB (k := k) hj8
  rw [← hv] at hbd
  have HVF := Lib.hid (show icV (P.set k (flipB v j)) = false by unfold icV; rw [beq_eq_false_iff_ne.2 hwr]; simp)
  clear hv hfb hk hj own5 hwr
  go_wp2_with fail
  go_region
  generalize hwd : (w9.setCell ⟨g5, k, none⟩ (.int .u8 (flipB v j))).drew = wd at HT ⊢
  clear hwd x1 x2 m2 m3 i3 i4 e1 e2 S9
  go_wp2_with fail
  refine (icverify_any _ n4 c4 (P.set k (flipB v j)) _ (HT.out.rd 3 rfl) hbd (by omega)).mono ?_
  rintro e wa ⟨rfl, hba⟩
  rw [HVF.out]
  have SA := Lib.hid (HT.out.next hba)
  go_wp2_with fail
  go_ret
  exact ⟨rfl, SA.out.bel⟩
end Go.Proofs.YtjbkfhdbgphodaaDoor
