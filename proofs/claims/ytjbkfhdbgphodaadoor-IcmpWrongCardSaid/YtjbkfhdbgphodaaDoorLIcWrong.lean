/- The walk of IcmpWrong. (Printed by gen_icwrong.py.) -/
import Derived.Test.YtjbkfhdbgphodaaDoorLIcQk
import Derived.Test.YtjbkfhdbgphodaaDoorLIcBack
import Derived.Test.YtjbkfhdbgphodaaDoorWOwnZ
import Derived.Test.YtjbkfhdbgphodaaDoorWIpHop
import Derived.Deep.DeepCutAuto
namespace Go.Proofs.YtjbkfhdbgphodaaDoor
open Go.RowKit
set_option linter.unusedVariables false
attribute [local go_sem ↓] Go.wp_at_zero Go.wp_at_succ

/-- a type and a code that there are not -/
structure BADM (ty : Nat) (cd er : Int) : Prop where
  t : ty ≤ 255
  c0 : 0 ≤ cd
  c255 : cd ≤ 255
  e : kE ty cd = er
  ne : er ≠ 0
def RAWL (ty : Nat) (cd : Int) : List Int := [(ty : Int), cd, 0, 0, 0, 0, 0, 0]
theorem bad_raw {ty : Nat} {cd er id seq : Int} (h : BADM ty cd er) (ys : List Int) :
    icE (RAWL ty cd ++ ys) = er ∧ icM (RAWL ty cd ++ ys) = msg0 ∧ icAE (RAWL ty cd ++ ys) = er ∧ icAB (RAWL ty cd ++ ys) = [] ∧ icWE ty cd ys.length = er ∧ icWB ty cd id seq ys = [] ∧ kK ty cd = 0 ∧ BD 255 (RAWL ty cd) := by
  obtain ⟨h1, h2, h3, h4, h5⟩ := h
  have e1 : icE (RAWL ty cd ++ ys) = er := by
    unfold icE
    rw [if_neg (by simp [RAWL])]
    exact h4
  have e2 : icAE (RAWL ty cd ++ ys) = er := by unfold icAE; rw [if_neg (by rw [e1]; exact h5), e1]
  have e3 : icWE ty cd ys.length = er := by unfold icWE; rw [if_neg (by rw [h4]; exact h5), h4]
  refine ⟨e1, ?_, e2, ?_, e3, ?_, ?_, ?_⟩
  · unfold icM; rw [if_neg (by rw [e1]; exact h5)]; rfl
  · unfold icAB; rw [if_neg (by rw [e2]; exact h5)]
  · unfold icWB; rw [if_neg (by rw [e3]; exact h5)]
  · unfold kK; rw [if_neg (by rw [h4]; exact h5)]
  · intro x hx
    simp only [RAWL, List.mem_cons, List.not_mem_nil, or_false] at hx
    omega
theorem short_raw {zs : List Int} (h : zs.length < 8) : icE zs = 100 ∧ icM zs = msg0 := by
  have h1 : icE zs = 100 := by unfold icE; rw [if_pos h]
  exact ⟨h1, by unfold icM; rw [if_neg (by rw [h1]; decide)]; rfl⟩
def BADT : List Int := [1, 2, 6, 7, 9, 10, 15, 16, 19, 30, 255]
theorem badT_ok : ∀ j : Nat, j < 11 → 0 ≤ BADT[j]?.getD 0 ∧ BADT[j]?.getD 0 ≤ 255 ∧ sKind (BADT[j]?.getD 0).toNat = 0 := by decide
theorem sCode_le : ∀ t : Nat, t < 19 → sCode t ≤ 15 := by decide
def EXZ : List Int := EX10q ++ List.replicate 12 0
def HEX : HD := ⟨0, 0, false, false, 0, 64, 6, 167772161, 167772162⟩
theorem EXZ_bd : BD 255 EXZ := bd_all (by decide)
theorem EXZ_f : faultR EXZ = 7 := by decide
theorem EXZ_h : hdR EXZ = HEX := by unfold hdR; rw [if_pos EXZ_f]; rfl
theorem EXZ_o : optsR EXZ = [] := by unfold optsR; rw [if_pos EXZ_f]; rfl
theorem EXZ_fr : fromR EXZ = 20 := by unfold fromR; rw [if_pos EXZ_f]; rfl
theorem EXZ_to : toR EXZ = 40 := by unfold toR; rw [if_pos EXZ_f]; rfl
theorem EXZ_e : ipE EXZ = 0 := ipE_eq EXZ_f
def SEGX : List Int := [4, 0, 0, 80, 0, 0, 0, 1]
theorem HEX_wf : HEX.WF := ⟨by decide, by decide, by decide, by decide, by decide, by decide, by decide⟩
theorem u8_or18 (x : Int) (h0 : 0 ≤ x) (h1 : x ≤ 255) : 18 ≤ bits .or .u8 18 x ∧ bits .or .u8 18 x ≤ 255 := by
  obtain ⟨a, rfl⟩ := Int.eq_ofNat_of_zero_le h0
  have key : ∀ a : Nat, a < 256 → 18 ≤ bits .or .u8 18 (a : Int) ∧ bits .or .u8 18 (a : Int) ≤ 255 := by decide +kernel
  exact key a (by omega)

set_option maxHeartbeats 16000000 in
set_option maxRecDepth 100000 in
theorem icmpWrong_walk (T cd id seq : Int) (A : Option Addr) (n c : Nat) (zs : List Int) (wy nn : Int) (w : World) (hT : 0 ≤ T ∧ T ≤ 255) (hcd : 0 ≤ cd ∧ cd ≤ 255) (hid : 0 ≤ id ∧ id ≤ 65535) (hseq : 0 ≤ seq ∧ seq ≤ 65535) (h : ROW .u8 255 w A n c zs) (hwy : 0 ≤ wy ∧ wy ≤ 255) (hnn : 0 ≤ nn ∧ nn ≤ 255) (hS : TABS w) :
    Calls Tryd.prog 10 #[.agg #[.int .u8 T, .int .u8 cd, .int .u16 id, .int .u16 seq, .slice A n c], .int .u8 wy, .int .u8 nn] w fun e w' => e = .returned (.bool true) ∧ Below w.heap.size w w' := by
  obtain ⟨i0, hi, hz0, hz1, hz2⟩ := info_parts infoU8
  have R := Lib.hid (fun (W : World) (hb : Below w.heap.size w W) => (show RD .u8 W W.heap.size A n zs from (h.rd.below hb).more hb.size))
  have hz := h.bd
  have hn := h.le
  have hcm := h.cap
  have HS := Lib.hid (fun (W : World) (hb : Below w.heap.size w W) => hS.below hb)
  have S0 := Lib.hid ((SP.start w).alloc 36 #[.int .u8 T, .int .u8 cd, .int .u16 id, .int .u16 seq, .slice A n c])
  obtain ⟨b0, b1⟩ := hwy
  obtain ⟨n0, n1⟩ := hnn
  clear h hS
  go_enter Tryd.func10, Tryd.ntmps10
  go_upto_region 1 with fail
  generalize w.alloc (.cells #[.int .u8 T, .int .u8 cd, .int .u16 id, .int .u16 seq, .slice A n c] 36) = w0 at S0 ⊢
  go_wp2_with fail
  refine (awake10_any _ (HS.out _ S0.out.bel).s).mono ?_
  rintro e w1 ⟨rfl, hb1⟩
  have S1 := Lib.hid (S0.out.next hb1)
  clear S0 hb1
  have x0 : w1.cell? ⟨w.heap.size, 0, none⟩ = some (.int .u8 T) := S1.out.cell 0 rfl 0 rfl
  have x1 : w1.cell? ⟨w.heap.size, 1, none⟩ = some (.int .u8 cd) := S1.out.cell 0 rfl 1 rfl
  have x2 : w1.cell? ⟨w.heap.size, 2, none⟩ = some (.int .u16 id) := S1.out.cell 0 rfl 2 rfl
  have x3 : w1.cell? ⟨w.heap.size, 3, none⟩ = some (.int .u16 seq) := S1.out.cell 0 rfl 3 rfl
  have x4 : w1.cell? ⟨w.heap.size, 4, none⟩ = some (.slice A n c) := S1.out.cell 0 rfl 4 rfl
  go_wp2_with fail
  refine (madeU_any T cd id seq A n c zs _ hT hcd (R.out _ S1.out.bel) hz hn hcm (HS.out _ S1.out.bel)).mono ?_
  rintro e w2 ⟨ty, cv, kd, A2, n2, c2, ys, rfl, ok, own2, hys, h80, hb2⟩
  have hyl := own2.len
  have S2 := Lib.hid ((S1.out.pushOwn hb2 own2).alloc 27 (msg4 (ty : Int) cv id seq))
  have hl2 := own2.le
  clear own2 hb2 S1 x0 x1 x2 x3 x4
  obtain ⟨o1, o2, o3, o4, o5, o6, o7, o8⟩ := ok
  have HOK := Lib.hid (And.intro o1 (And.intro o4 o6))
  have HYL := Lib.hid hyl
  clear o4 o5 o6 hyl
  unfold msg4
  go_upto_region 4 with fail
  rw [show w2.alloc (.cells #[.int .u8 (ty : Int), .int .u8 cv, .int .u16 id, .int .u16 seq] 27) = w2.alloc (.cells (msg4 (ty : Int) cv id seq) 27) from rfl]
  generalize w2.alloc (.cells (msg4 (ty : Int) cv id seq) 27) = w3 at S2 ⊢
  have f0 : w3.cell? ⟨w2.heap.size, 0, none⟩ = some (.int .u8 (ty : Int)) := S2.out.cell 2 rfl 0 rfl
  have f1 : w3.cell? ⟨w2.heap.size, 1, none⟩ = some (.int .u8 cv) := S2.out.cell 2 rfl 1 rfl
  have f2 : w3.cell? ⟨w2.heap.size, 2, none⟩ = some (.int .u16 id) := S2.out.cell 2 rfl 2 rfl
  have f3 : w3.cell? ⟨w2.heap.size, 3, none⟩ = some (.int .u16 seq) := S2.out.cell 2 rfl 3 rfl
  have S3 := Lib.hid (show SP w _ [.blk w.heap.size 36 #[.int .u8 T, .int .u8 cd, .int .u16 id, .int .u16 seq, .slice A n c], .own .u8 5 A2 n2 c2 ys, .blk w2.heap.size 27 (msg4 (ty : Int) cv id seq), .blk w3.heap.size 27 (msg4 (ty : Int) cv id seq)] from S2.out.alloc 27 (msg4 (ty : Int) cv id seq))
  go_upto_if 43 with fail
  rw [show w3.alloc (.cells #[.int .u8 (ty : Int), .int .u8 cv, .int .u16 id, .int .u16 seq] 27) = w3.alloc (.cells (msg4 (ty : Int) cv id seq) 27) from rfl]
  generalize w3.alloc (.cells (msg4 (ty : Int) cv id seq) 27) = w4 at S3 ⊢
  clear S2 f0 f1 f2 f3
  go_cut [11] (fun s11 wx => ∃ (bty : Nat) (bcd er : Int), s11 = .int .i64 er ∧ BADM bty bcd er ∧ SP w wx [.blk w.heap.size 36 #[.int .u8 T, .int .u8 cd, .int .u16 id, .int .u16 seq, .slice A n c], .own .u8 5 A2 n2 c2 ys, .blk w2.heap.size 27 (msg4 (ty : Int) cv id seq), .blk w3.heap.size 27 (msg4 (bty : Int) bcd id seq)])
  case first =>
    have f0 : w4.cell? ⟨w3.heap.size, 0, none⟩ = some (.int .u8 (ty : Int)) := S3.out.cell 3 rfl 0 rfl
    have f1 : w4.cell? ⟨w3.heap.size, 1, none⟩ = some (.int .u8 cv) := S3.out.cell 3 rfl 1 rfl
    have z0 := S3.out.free 3 rfl 0
    have z1 := S3.out.free 3 rfl 1
    have hlt : w3.heap.size < w4.heap.size := (S3.out.blk 3 rfl).lt
    by_cases hev : nn % 2 = 0
    · have t1 : (nn % 2 == 0) = true := by simp [hev]
      obtain ⟨j, hj⟩ : ∃ j : Nat, nn / 2 % 11 = (j : Int) := ⟨(nn / 2 % 11).toNat, by omega⟩
      have hj11 : j < 11 := by omega
      clear hev
      rcases (show j = 0 ∨ j = 1 ∨ j = 2 ∨ j = 3 ∨ j = 4 ∨ j = 5 ∨ j = 6 ∨ j = 7 ∨ j = 8 ∨ j = 9 ∨ j = 10 by omega) with rfl | rfl | rfl | rfl | rfl | rfl | rfl | rfl | rfl | rfl | rfl
      · have hj : nn / 2 % 11 = 0 := hj
        have X := Lib.hid ((S3.out.setB 3 rfl 0 (.int .u8 1)).next ((Below.refl _ _).alloc (Nat.le_refl _) (.cells #[.int .u8 1, .int .u8 2, .int .u8 6, .int .u8 7, .int .u8 9, .int .u8 10, .int .u8 15, .int .u8 16, .int .u8 19, .int .u8 30, .int .u8 255] 5)))
        have HB := Lib.hid (show BADM 1 cv 101 from ⟨by omega, o2, by omega, by unfold kE; rw [if_pos (by decide)], by decide⟩)
        go_wp2_with fail
        go_meet
        exact ⟨1, cv, 101, rfl, HB.out, X.out⟩
      · have hj : nn / 2 % 11 = 1 := hj
        have X := Lib.hid ((S3.out.setB 3 rfl 0 (.int .u8 2)).next ((Below.refl _ _).alloc (Nat.le_refl _) (.cells #[.int .u8 1, .int .u8 2, .int .u8 6, .int .u8 7, .int .u8 9, .int .u8 10, .int .u8 15, .int .u8 16, .int .u8 19, .int .u8 30, .int .u8 255] 5)))
        have HB := Lib.hid (show BADM 2 cv 101 from ⟨by omega, o2, by omega, by unfold kE; rw [if_pos (by decide)], by decide⟩)
        go_wp2_with fail
        go_meet
        exact ⟨2, cv, 101, rfl, HB.out, X.out⟩
      · have hj : nn / 2 % 11 = 2 := hj
        have X := Lib.hid ((S3.out.setB 3 rfl 0 (.int .u8 6)).next ((Below.refl _ _).alloc (Nat.le_refl _) (.cells #[.int .u8 1, .int .u8 2, .int .u8 6, .int .u8 7, .int .u8 9, .int .u8 10, .int .u8 15, .int .u8 16, .int .u8 19, .int .u8 30, .int .u8 255] 5)))
        have HB := Lib.hid (show BADM 6 cv 101 from ⟨by omega, o2, by omega, by unfold kE; rw [if_pos (by decide)], by decide⟩)
        go_wp2_with fail
        go_meet
        exact ⟨6, cv, 101, rfl, HB.out, X.out⟩
      · have hj : nn / 2 % 11 = 3 := hj
        have X := Lib.hid ((S3.out.setB 3 rfl 0 (.int .u8 7)).next ((Below.refl _ _).alloc (Nat.le_refl _) (.cells #[.int .u8 1, .int .u8 2, .int .u8 6, .int .u8 7, .int .u8 9, .int .u8 10, .int .u8 15, .int .u8 16, .int .u8 19, .int .u8 30, .int .u8 255] 5)))
        have HB := Lib.hid (show BADM 7 cv 101 from ⟨by omega, o2, by omega, by unfold kE; rw [if_pos (by decide)], by decide⟩)
        go_wp2_with fail
        go_meet
        exact ⟨7, cv, 101, rfl, HB.out, X.out⟩
      · have hj : nn / 2 % 11 = 4 := hj
        have X := Lib.hid ((S3.out.setB 3 rfl 0 (.int .u8 9)).next ((Below.refl _ _).alloc (Nat.le_refl _) (.cells #[.int .u8 1, .int .u8 2, .int .u8 6, .int .u8 7, .int .u8 9, .int .u8 10, .int .u8 15, .int .u8 16, .int .u8 19, .int .u8 30, .int .u8 255] 5)))
        have HB := Lib.hid (show BADM 9 cv 101 from ⟨by omega, o2, by omega, by unfold kE; rw [if_pos (by decide)], by decide⟩)
        go_wp2_with fail
        go_meet
        exact ⟨9, cv, 101, rfl, HB.out, X.out⟩
      · have hj : nn / 2 % 11 = 5 := hj
        have X := Lib.hid ((S3.out.setB 3 rfl 0 (.int .u8 10)).next ((Below.refl _ _).alloc (Nat.le_refl _) (.cells #[.int .u8 1, .int .u8 2, .int .u8 6, .int .u8 7, .int .u8 9, .int .u8 10, .int .u8 15, .int .u8 16, .int .u8 19, .int .u8 30, .int .u8 255] 5)))
        have HB := Lib.hid (show BADM 10 cv 101 from ⟨by omega, o2, by omega, by unfold kE; rw [if_pos (by decide)], by decide⟩)
        go_wp2_with fail
        go_meet
        exact ⟨10, cv, 101, rfl, HB.out, X.out⟩
      · have hj : nn / 2 % 11 = 6 := hj
        have X := Lib.hid ((S3.out.setB 3 rfl 0 (.int .u8 15)).next ((Below.refl _ _).alloc (Nat.le_refl _) (.cells #[.int .u8 1, .int .u8 2, .int .u8 6, .int .u8 7, .int .u8 9, .int .u8 10, .int .u8 15, .int .u8 16, .int .u8 19, .int .u8 30, .int .u8 255] 5)))
        have HB := Lib.hid (show BADM 15 cv 101 from ⟨by omega, o2, by omega, by unfold kE; rw [if_pos (by decide)], by decide⟩)
        go_wp2_with fail
        go_meet
        exact ⟨15, cv, 101, rfl, HB.out, X.out⟩
      · have hj : nn / 2 % 11 = 7 := hj
        have X := Lib.hid ((S3.out.setB 3 rfl 0 (.int .u8 16)).next ((Below.refl _ _).alloc (Nat.le_refl _) (.cells #[.int .u8 1, .int .u8 2, .int .u8 6, .int .u8 7, .int .u8 9, .int .u8 10, .int .u8 15, .int .u8 16, .int .u8 19, .int .u8 30, .int .u8 255] 5)))
        have HB := Lib.hid (show BADM 16 cv 101 from ⟨by omega, o2, by omega, by unfold kE; rw [if_pos (by decide)], by decide⟩)
        go_wp2_with fail
        go_meet
        exact ⟨16, cv, 101, rfl, HB.out, X.out⟩
      · have hj : nn / 2 % 11 = 8 := hj
        have X := Lib.hid ((S3.out.setB 3 rfl 0 (.int .u8 19)).next ((Below.refl _ _).alloc (Nat.le_refl _) (.cells #[.int .u8 1, .int .u8 2, .int .u8 6, .int .u8 7, .int .u8 9, .int .u8 10, .int .u8 15, .int .u8 16, .int .u8 19, .int .u8 30, .int .u8 255] 5)))
        have HB := Lib.hid (show BADM 19 cv 101 from ⟨by omega, o2, by omega, by unfold kE; rw [if_pos (by decide)], by decide⟩)
        go_wp2_with fail
        go_meet
        exact ⟨19, cv, 101, rfl, HB.out, X.out⟩
      · have hj : nn / 2 % 11 = 9 := hj
        have X := Lib.hid ((S3.out.setB 3 rfl 0 (.int .u8 30)).next ((Below.refl _ _).alloc (Nat.le_refl _) (.cells #[.int .u8 1, .int .u8 2, .int .u8 6, .int .u8 7, .int .u8 9, .int .u8 10, .int .u8 15, .int .u8 16, .int .u8 19, .int .u8 30, .int .u8 255] 5)))
        have HB := Lib.hid (show BADM 30 cv 101 from ⟨by omega, o2, by omega, by unfold kE; rw [if_pos (by decide)], by decide⟩)
        go_wp2_with fail
        go_meet
        exact ⟨30, cv, 101, rfl, HB.out, X.out⟩
      · have hj : nn / 2 % 11 = 10 := hj
        have X := Lib.hid ((S3.out.setB 3 rfl 0 (.int .u8 255)).next ((Below.refl _ _).alloc (Nat.le_refl _) (.cells #[.int .u8 1, .int .u8 2, .int .u8 6, .int .u8 7, .int .u8 9, .int .u8 10, .int .u8 15, .int .u8 16, .int .u8 19, .int .u8 30, .int .u8 255] 5)))
        have HB := Lib.hid (show BADM 255 cv 101 from ⟨by omega, o2, by omega, by unfold kE; rw [if_pos (by decide)], by decide⟩)
        go_wp2_with fail
        go_meet
        exact ⟨255, cv, 101, rfl, HB.out, X.out⟩
    · have t1 : (nn % 2 == 0) = false := by simp [hev]
      obtain ⟨mx, hmx⟩ : ∃ mx : Int, (if nn < 16 then (16 : Int) else nn) = mx := ⟨_, rfl⟩
      have hm16 : 16 ≤ mx ∧ mx ≤ 255 := by split at hmx <;> omega
      have X := Lib.hid (S3.out.setB 3 rfl 1 (.int .u8 mx))
      have HB := Lib.hid (show BADM ty mx 102 from ⟨by omega, by omega, by omega, by
        have h1 := sCode_le ty (by omega)
        unfold kE
        rw [if_neg (by rw [HOK.out.2.2]; omega), if_pos (by omega)], by decide⟩)
      clear hev
      go_wp2_with fail
      go_meet
      exact ⟨ty, mx, 102, rfl, HB.out, X.out⟩
  case rest =>
    obtain ⟨bty, bcd, er, rfl, hBM, hSX⟩ := hcut
    have X := Lib.hid hSX
    obtain ⟨m1, m2, m3, m4, m5⟩ := hBM
    obtain ⟨r1, r2, r3, r4, r5, r6, r7, r8⟩ := bad_raw (id := id) (seq := seq) ⟨m1, m2, m3, m4, m5⟩ ys
    rw [HYL.out] at r5
    have HR := Lib.hid (And.intro m4 (And.intro r1 (And.intro r2 (And.intro r3 (And.intro r4 (And.intro r5 (And.intro r6 r7)))))))
    clear hSX S3 r1 r2 r3 r4 r5 r6 r7 m4
    have f0 : wc.cell? ⟨w3.heap.size, 0, none⟩ = some (.int .u8 (bty : Int)) := X.out.cell 3 rfl 0 rfl
    have f1 : wc.cell? ⟨w3.heap.size, 1, none⟩ = some (.int .u8 bcd) := X.out.cell 3 rfl 1 rfl
    have f2 : wc.cell? ⟨w3.heap.size, 2, none⟩ = some (.int .u16 id) := X.out.cell 3 rfl 2 rfl
    have f3 : wc.cell? ⟨w3.heap.size, 3, none⟩ = some (.int .u16 seq) := X.out.cell 3 rfl 3 rfl
    go_wp2_with fail
    refine (kind_any bty bcd _ m1 ⟨m2, m3⟩ (HS.out _ X.out.bel).s).mono ?_
    rintro e w5 ⟨rfl, rfl⟩
    rw [HR.out.1, HR.out.2.2.2.2.2.2.2]
    go_wp2_with fail
    refine (icwrite_any bty bcd id seq A2 n2 c2 ys _ m1 ⟨m2, m3⟩ hid hseq (X.out.rd 1 rfl) hys (by omega) (HS.out _ X.out.bel).s).mono ?_
    rintro e w6 ⟨A6, n6, c6, rfl, own6, hb6⟩
    rw [HR.out.2.2.2.2.2.1]
    rw [HR.out.2.2.2.2.2.2.1] at own6
    have hn6 : 0 = n6 := own6.len
    subst hn6
    have X6 := Lib.hid (X.out.next hb6)
    clear own6 hb6 X f0 f1 f2 f3
    have f0 : w6.cell? ⟨w3.heap.size, 0, none⟩ = some (.int .u8 (bty : Int)) := X6.out.cell 3 rfl 0 rfl
    have f1 : w6.cell? ⟨w3.heap.size, 1, none⟩ = some (.int .u8 bcd) := X6.out.cell 3 rfl 1 rfl
    have X7 := Lib.hid (X6.out.allocI' .u8 5 (RAWL bty bcd) (by simp only [RAWL, List.length_cons, List.length_nil, maxLen]; omega) (N := w6.heap.size) rfl)
    have own7 := X7.out.own 4 rfl
    have r7 := X7.out.rd 1 rfl
    go_wp2_with (at_builtin; refine wpList_append_rd _ rfl _ _ _ rfl .u8 w.heap.size 5 i0 1 Tryd.underlying22 hi hz0 hz1 hz2 (some ⟨w6.heap.size, 0, none⟩) 8 8 (RAWL bty bcd) rfl own7 _ A2 n2 c2 ys rfl r7 (by simp only [maxLen]; omega) (by omega) X7.out.size ?_; intro A8 c8 w8 happ; have X8 := Lib.hid (X7.out.app 4 rfl happ); clear happ own7 r7)
    have hl8 := (X8.out.own 4 rfl).le
    have hbr : BD 255 (RAWL bty bcd ++ ys) := r8.append hys
    clear f0 f1 X6 X7
    refine (icread_any A8 (8 + n2) c8 (RAWL bty bcd ++ ys) _ (X8.out.rd 4 rfl) hbr (by omega) (by omega) (HS.out _ X8.out.bel).s).mono ?_
    rintro e w9 ⟨rfl, hb9⟩
    rw [HR.out.2.1, HR.out.2.2.1]
    have X9 := Lib.hid ((X8.out.next hb9).alloc 27 msg0)
    clear hb9 X8
    unfold msg0
    go_upto_region 12 with fail
    rw [show w9.alloc (.cells #[.int .u8 0, .int .u8 0, .int .u16 0, .int .u16 0] 27) = w9.alloc (.cells msg0 27) from rfl]
    generalize w9.alloc (.cells msg0 27) = wa at X9 ⊢
    go_wp2_with fail
    refine (icanswer_any A8 (8 + n2) c8 (RAWL bty bcd ++ ys) _ (X9.out.rd 4 rfl) hbr (by omega) (by omega) (HS.out _ X9.out.bel).s).mono ?_
    rintro e wb ⟨Ab, nb, cb, rfl, ownb, hbb⟩
    rw [HR.out.2.2.2.1]
    rw [HR.out.2.2.2.2.1] at ownb
    have hnb : 0 = nb := ownb.len
    subst hnb
    have Xb := Lib.hid (X9.out.next hbb)
    clear ownb hbb X9
    obtain ⟨k8, hk8⟩ : ∃ k8 : Nat, nn % 8 = (k8 : Int) := ⟨(nn % 8).toNat, by omega⟩
    have hk88 : k8 < 8 := by omega
    have i1 : (0 : Int) ≤ (k8 : Int) := by omega
    have i2 : (k8 : Int) ≤ (c8 : Int) := by omega
    have HSR := Lib.hid (short_raw (zs := (RAWL bty bcd ++ ys).take k8) (by have := List.length_take_le k8 (RAWL bty bcd ++ ys); omega))
    go_wp2_with fail
    refine (icread_any A8 k8 c8 ((RAWL bty bcd ++ ys).take k8) _ ((Xb.out.rd 4 rfl).take (by omega)) (hbr.take _) (by omega) (by omega) (HS.out _ Xb.out.bel).s).mono ?_
    rintro e wd ⟨rfl, hbd⟩
    rw [HSR.out.1, HSR.out.2]
    have Xd := Lib.hid ((Xb.out.next hbd).next ((Below.refl _ wd).alloc (Nat.le_refl _) (.cells msg0 27)))
    clear hbd Xb hk8 i1 i2
    unfold msg0
    go_upto_region 14 with fail
    rw [show wd.alloc (.cells #[.int .u8 0, .int .u8 0, .int .u16 0, .int .u16 0] 27) = wd.alloc (.cells msg0 27) from rfl]
    generalize wd.alloc (.cells msg0 27) = we at Xd ⊢
    have f0 : we.cell? ⟨w9.heap.size, 0, none⟩ = some (.int .u8 0) := Xd.out.cell 5 rfl 0 rfl
    have f1 : we.cell? ⟨w9.heap.size, 1, none⟩ = some (.int .u8 0) := Xd.out.cell 5 rfl 1 rfl
    have f2 : we.cell? ⟨w9.heap.size, 2, none⟩ = some (.int .u16 0) := Xd.out.cell 5 rfl 2 rfl
    have f3 : we.cell? ⟨w9.heap.size, 3, none⟩ = some (.int .u16 0) := Xd.out.cell 5 rfl 3 rfl
    have te : (er != er) = false := by simp
    go_wp2_with fail
    clear f0 f1 f2 f3 te m1 m2 m3 m5 r8 hbr hl8 hl2 o1 o2 o3 o7 o8 hid hseq
    refine (example10_any _).mono ?_
    rintro e wf ⟨rfl, rfl⟩
    have Y0 := Lib.hid ((SP.start we).allocI .u8 5 EX10q (by decide))
    have HBE := Lib.hid Xd.out.bel
    generalize we.alloc (.cells (EX10q.map (Value.int .u8)).toArray 5) = wf at Y0 ⊢
    clear Xd
    go_wp2_with (at_builtin; refine wpList_append_zeros_own _ rfl _ _ _ _ rfl 5 i0 .i64 Tryd.underlying22 Tryd.underlying3 hi hz0 hz1 hz2 we.heap.size we.heap.size 28 28 12 _ (by rfl) EX10q rfl rfl (Y0.out.own 0 rfl) Y0.out.size (by omega) ?_; intro Ag cg wg happ; have Yg := Lib.hid (Y0.out.app 0 rfl happ); have hlg := (Yg.out.own 0 rfl).le; clear happ)
    refine (read_any Ag 40 cg EXZ _ (Yg.out.rd 0 rfl) EXZ_bd (by omega) (by omega)).mono ?_
    rintro e wh ⟨Ah, nh, ch, rfl, ownh, hbh⟩
    rw [EXZ_h, EXZ_fr, EXZ_to, EXZ_e]
    rw [EXZ_o] at ownh
    have hnh : 0 = nh := ownh.len
    subst hnh
    have Yh := Lib.hid ((Yg.out.pushOwn hbh ownh).alloc 50 (HEX.cells (.slice Ah 0 ch)))
    clear ownh hbh Y0 Yg hlg
    unfold HD.val HD.cells HEX
    go_upto_region 17 with fail
    rw [show wh.alloc (.cells #[.int .u8 0, .int .u16 0, .bool false, .bool false, .int .i64 0, .int .u8 64, .int .u8 6, .int .u32 167772161, .int .u32 167772162, .slice Ah 0 ch] 50) = wh.alloc (.cells (HEX.cells (.slice Ah 0 ch)) 50) from rfl]
    generalize wh.alloc (.cells (HEX.cells (.slice Ah 0 ch)) 50) = wi at Yh ⊢
    go_wp2_with fail
    refine (example10_any _).mono ?_
    rintro e wj ⟨rfl, rfl⟩
    have Yj := Lib.hid ((Yh.out.allocI .u8 5 [] (Nat.zero_le _)).allocI .u8 5 EX10q (by decide))
    have r20 := (Yj.out.rd 4 rfl).cutA (lo := 20) (c := 28) (by decide) (by decide)
    rw [show cutA (some ⟨(wi.alloc (.cells (([] : List Int).map (Value.int .u8)).toArray 5)).heap.size, 0, none⟩) 28 20 = some ⟨wi.heap.size + 1, 20, none⟩ by unfold cutA; rw [if_neg (by decide)]; simp [Addr.add]] at r20
    go_upto_region 20 with (at_builtin; refine wpList_append_rd _ rfl _ _ _ rfl .u8 we.heap.size 5 i0 1 Tryd.underlying22 hi hz0 hz1 hz2 (some ⟨wi.heap.size, 0, none⟩) 0 0 [] rfl (Yj.out.own 3 rfl) _ (some ⟨wi.heap.size + 1, 20, none⟩) 8 8 (EX10q.drop 20) rfl r20 (by simp only [maxLen]; omega) (by omega) Yj.out.size ?_; intro A5 c5 wk happ; have Yk := Lib.hid (Yj.out.app 3 rfl happ); clear happ)
    clear r20 Yj Yh
    obtain ⟨MH, hMH⟩ : ∃ MH, MH = wh.heap.size := ⟨_, rfl⟩
    rw [← hMH] at Yk ⊢
    have hown5 : OWN .u8 5 wk we.heap.size A5 8 c5 SEGX := Yk.out.own 3 rfl
    obtain ⟨g5, rfl, hg5, _, hc5, hc5'⟩ := hown5.form (by omega)
    have Z0 := Lib.hid (show SP we wk [.blk MH 50 (HEX.cells (.slice Ah 0 ch)), .own .u8 5 (some ⟨g5, 0, none⟩) 8 c5 SEGX, .own .u8 5 Ah 0 ch []] from Yk.out.pick [2, 3, 1] (by decide) rfl)
    clear Yk hown5 hMH
    obtain ⟨v, hv⟩ : ∃ v : Nat, wy % 6 = (v : Int) := ⟨(wy % 6).toNat, by omega⟩
    have hv6 : v < 6 := by omega
    rcases (show v = 0 ∨ v = 1 ∨ v = 2 ∨ v = 3 ∨ v = 4 ∨ v = 5 by omega) with rfl | rfl | rfl | rfl | rfl | rfl
    · obtain ⟨pp, hpp⟩ : ∃ pp, bits .or .u8 18 nn = pp := ⟨_, rfl⟩
      obtain ⟨q1, q2⟩ := u8_or18 nn n0 n1
      rw [hpp] at q1 q2
      have c6 : wk.cell? ⟨MH, 6, none⟩ = some (.int .u8 6) := Z0.out.cell 0 rfl 6 rfl
      have d6 := Z0.out.free 0 rfl 6
      have X := Lib.hid (show SP we _ [.blk MH 50 (({ HEX with proto := pp }).cells (.slice Ah 0 ch)), .own .u8 5 (some ⟨g5, 0, none⟩) 8 c5 (([4, 0, 0, 80, 0, 0, 0, 1] : List Int)), .own .u8 5 Ah 0 ch []] from ((Z0.out).setB 0 rfl 6 (.int .u8 (pp))))
      go_upto_region 32 with fail
      generalize (wk).setCell ⟨MH, 6, none⟩ (.int .u8 (pp)) = wl at X ⊢
      clear Z0
      clear c6 d6
      have hwf : ({ HEX with proto := pp }).WF := { HEX_wf with proto := ⟨by show 0 ≤ pp; omega, by show pp ≤ 255; omega⟩ }
      have hri : Rightly ({ HEX with proto := pp }).off ({ HEX with proto := pp }).mf 0 ((8 : Nat) : Int) := (show Rightly 0 false 0 8 by decide)
      have hsb : BD 255 (([4, 0, 0, 80, 0, 0, 0, 1] : List Int)) := bd_all (by decide)
      have hsl : (([4, 0, 0, 80, 0, 0, 0, 1] : List Int)).length = 8 := rfl
      have HWR := Lib.hid (show wrE ({ HEX with proto := pp }) 0 8 = 0 ∧ wrB ({ HEX with proto := pp }) [] (([4, 0, 0, 80, 0, 0, 0, 1] : List Int)) = pktB ({ HEX with proto := pp }) [] (([4, 0, 0, 80, 0, 0, 0, 1] : List Int)) ∧ (pktB ({ HEX with proto := pp }) [] (([4, 0, 0, 80, 0, 0, 0, 1] : List Int))).length = 28 from ⟨by unfold wrE; rw [if_pos hri], by unfold wrB; rw [hsl]; exact if_pos hri, by rw [pkt_len, hsl]; rfl⟩)
      have hPB : BD 255 (pktB ({ HEX with proto := pp }) [] (([4, 0, 0, 80, 0, 0, 0, 1] : List Int))) := pkt_bd hwf (fun x hx => by cases hx) (by simp) hsb
      have HQW := Lib.hid (quote_whole (h := { HEX with proto := pp }) (opts := []) (data := ([4, 0, 0, 80, 0, 0, 0, 1] : List Int)) hwf (fun x hx => by cases hx) (by rw [hsl]; exact hri) (by rw [hsl]; omega) (.inr (by show KDd pp _ = 0; unfold KDd; rw [if_neg (by omega), if_neg (by omega)])))
      clear hri hsl
      go_wp2_with (refine wpList_load_row rfl 50 _ rfl MH rfl 50 (({ HEX with proto := pp }).cells (.slice Ah 0 ch)) _ _ (X.out.blk 0 rfl) Tryd.underlying50 rfl (by kernel_rfl) ?_)
      refine (write_any ({ HEX with proto := pp }) Ah 0 ch [] (some ⟨g5, 0, none⟩) 8 c5 (([4, 0, 0, 80, 0, 0, 0, 1] : List Int)) _ hwf (X.out.rd 2 rfl) (fun x hx => by cases hx) (X.out.rd 1 rfl) (by omega) (by omega)).mono ?_
      rintro e wm ⟨Am, nm, cm, rfl, ownm, hbm⟩
      rw [HWR.out.1]
      rw [HWR.out.2.1] at ownm
      have hnm : 28 = nm := by rw [← ownm.len, HWR.out.2.2]
      subst hnm
      have hlm := ownm.le
      have Xm := Lib.hid (X.out.pushOwn hbm ownm)
      clear ownm hbm X
      go_wp2_with fail
      refine (icquote_any Am 28 cm (pktB ({ HEX with proto := pp }) [] (([4, 0, 0, 80, 0, 0, 0, 1] : List Int))) _ (Xm.out.rd 3 rfl) hPB (by omega) (by omega) (HS.out _ (HBE.out.trans (Xm.out.bel.mono HBE.out.size))).s).mono ?_
      rintro e wq ⟨rfl, hbq⟩
      rw [HQW.out.1, HQW.out.2.1, HQW.out.2.2]
      have Xq := Lib.hid ((Xm.out.next hbq).alloc 55 key0)
      clear hbq Xm hPB hsb hwf
      unfold key0 key5
      go_upto_region 34 with fail
      rw [show wq.alloc (.cells #[.int .u8 0, .int .u32 0, .int .u32 0, .int .u16 0, .int .u16 0] 55) = wq.alloc (.cells key0 55) from rfl]
      generalize wq.alloc (.cells key0 55) = wr at Xq ⊢
      have f0 : wr.cell? ⟨wq.heap.size, 0, none⟩ = some (.int .u8 0) := Xq.out.cell 4 rfl 0 rfl
      have f1 : wr.cell? ⟨wq.heap.size, 1, none⟩ = some (.int .u32 0) := Xq.out.cell 4 rfl 1 rfl
      have f2 : wr.cell? ⟨wq.heap.size, 2, none⟩ = some (.int .u32 0) := Xq.out.cell 4 rfl 2 rfl
      have f3 : wr.cell? ⟨wq.heap.size, 3, none⟩ = some (.int .u16 0) := Xq.out.cell 4 rfl 3 rfl
      have f4 : wr.cell? ⟨wq.heap.size, 4, none⟩ = some (.int .u16 0) := Xq.out.cell 4 rfl 4 rfl
      go_wp2_with fail
      clear f0 f1 f2 f3 f4
      refine (example10_any _).mono ?_
      rintro e ws ⟨rfl, rfl⟩
      have Xs := Lib.hid ((SP.start wr).allocI .u8 5 EX10q (by decide))
      have HBR := Lib.hid (HBE.out.trans (Xq.out.bel.mono HBE.out.size))
      generalize wr.alloc (.cells (EX10q.map (Value.int .u8)).toArray 5) = ws at Xs ⊢
      clear Xq
      obtain ⟨k, hk⟩ : ∃ k : Nat, 4 + nn % 16 = (k : Int) := ⟨(4 + nn % 16).toNat, by omega⟩
      obtain ⟨j, hj⟩ : ∃ j : Nat, wy % 8 = (j : Int) := ⟨(wy % 8).toNat, by omega⟩
      have hk1 : 4 ≤ k ∧ k < 20 := by omega
      have hj8 : j < 8 := by omega
      have hlen : EX10q.length = 28 := rfl
      have x1 := (Xs.out.own 0 rfl).cell (i := k) (by omega)
      have x2 := (Xs.out.own 0 rfl).frozen k
      obtain ⟨v1, v2⟩ := EX10q_bd.get (by omega) k
      obtain ⟨v, hv⟩ : ∃ v, v = EX10q[k]?.getD 0 := ⟨_, rfl⟩
      have hfl := quote_flip EX10q_bd (by decide) (by decide) (by decide) (k := k) (j := j) (by omega) hk1.2 hj8
      have hbd := flip_bd10 EX10q_bd (k := k) hj8
      rw [← hv] at x1 v1 v2 hfl hbd
      have hfb := flipB_bd v1 v2 hj8
      have e1 : IntKind.u8.wrap ((2 : Int) ^ j) = 2 ^ j := by
        have := (flipB_far v hj8).2
        exact u8_in _ (by omega) (by omega)
      have e2 : bits .xor .u8 v (2 ^ j) = flipB v j := u8_xor_bit v v1 v2 j hj8
      have i1 : (0 : Int) ≤ (k : Int) := by omega
      have i2 : (k : Int) < 28 := by omega
      have i3 : (0 : Int) ≤ (j : Int) := by omega
      have i4 : (j : Int) ≤ 8 := by omega
      have e3 : IntKind.u8.wrap (4 + nn % 16) = (k : Int) := by rw [hk]; exact u8_in _ (by omega) (by omega)
      have HT := Lib.hid (Xs.out.setO 0 rfl k (flipB v j))
      have HQ := Lib.hid (q_bad hfl)
      clear hv hfb hlen hfl
      go_wp2_with fail
      refine (icquote_any (some ⟨wr.heap.size, 0, none⟩) 28 28 (EX10q.set k (flipB v j)) _ (HT.out.rd 0 rfl) hbd (by omega) (by omega) (HS.out _ (HBR.out.trans (HT.out.bel.mono HBR.out.size))).s).mono ?_
      rintro e wt ⟨rfl, hbt⟩
      rw [HQ.out.1]
      have XT := Lib.hid (HT.out.next hbt)
      clear hbt
      go_wp2_with fail
      go_ret
      exact ⟨rfl, HBR.out.trans (XT.out.bel.mono HBR.out.size)⟩
    · have q1 : IntKind.i64.wrap (8 * (1 + nn)) = 8 * (1 + nn) := IntWalk.i64_in _ (by omega)
      have c4 : wk.cell? ⟨MH, 4, none⟩ = some (.int .i64 0) := Z0.out.cell 0 rfl 4 rfl
      have d4 := Z0.out.free 0 rfl 4
      have X := Lib.hid (show SP we _ [.blk MH 50 (({ HEX with off := 8 * (1 + nn) }).cells (.slice Ah 0 ch)), .own .u8 5 (some ⟨g5, 0, none⟩) 8 c5 (([4, 0, 0, 80, 0, 0, 0, 1] : List Int)), .own .u8 5 Ah 0 ch []] from ((Z0.out).setB 0 rfl 4 (.int .i64 (8 * (1 + nn)))))
      go_upto_region 32 with fail
      generalize (wk).setCell ⟨MH, 4, none⟩ (.int .i64 (8 * (1 + nn))) = wl at X ⊢
      clear Z0
      clear c4 d4
      have hwf : ({ HEX with off := 8 * (1 + nn) }).WF := { HEX_wf with off := ⟨by show _ ≤ 8 * (1 + nn); omega, by show 8 * (1 + nn) ≤ _; omega⟩ }
      have hri : Rightly ({ HEX with off := 8 * (1 + nn) }).off ({ HEX with off := 8 * (1 + nn) }).mf 0 ((8 : Nat) : Int) := (show Rightly (8 * (1 + nn)) false 0 8 from ⟨by omega, by omega, by omega, by omega, by omega, by omega, by omega, by omega, fun h => by cases h⟩)
      have hsb : BD 255 (([4, 0, 0, 80, 0, 0, 0, 1] : List Int)) := bd_all (by decide)
      have hsl : (([4, 0, 0, 80, 0, 0, 0, 1] : List Int)).length = 8 := rfl
      have HWR := Lib.hid (show wrE ({ HEX with off := 8 * (1 + nn) }) 0 8 = 0 ∧ wrB ({ HEX with off := 8 * (1 + nn) }) [] (([4, 0, 0, 80, 0, 0, 0, 1] : List Int)) = pktB ({ HEX with off := 8 * (1 + nn) }) [] (([4, 0, 0, 80, 0, 0, 0, 1] : List Int)) ∧ (pktB ({ HEX with off := 8 * (1 + nn) }) [] (([4, 0, 0, 80, 0, 0, 0, 1] : List Int))).length = 28 from ⟨by unfold wrE; rw [if_pos hri], by unfold wrB; rw [hsl]; exact if_pos hri, by rw [pkt_len, hsl]; rfl⟩)
      have hPB : BD 255 (pktB ({ HEX with off := 8 * (1 + nn) }) [] (([4, 0, 0, 80, 0, 0, 0, 1] : List Int))) := pkt_bd hwf (fun x hx => by cases hx) (by simp) hsb
      have HQW := Lib.hid (quote_whole (h := { HEX with off := 8 * (1 + nn) }) (opts := []) (data := ([4, 0, 0, 80, 0, 0, 0, 1] : List Int)) hwf (fun x hx => by cases hx) (by rw [hsl]; exact hri) (by rw [hsl]; omega) (.inl (by show 8 * (1 + nn) ≠ 0; omega)))
      clear hri hsl
      go_wp2_with (refine wpList_load_row rfl 50 _ rfl MH rfl 50 (({ HEX with off := 8 * (1 + nn) }).cells (.slice Ah 0 ch)) _ _ (X.out.blk 0 rfl) Tryd.underlying50 rfl (by kernel_rfl) ?_)
      refine (write_any ({ HEX with off := 8 * (1 + nn) }) Ah 0 ch [] (some ⟨g5, 0, none⟩) 8 c5 (([4, 0, 0, 80, 0, 0, 0, 1] : List Int)) _ hwf (X.out.rd 2 rfl) (fun x hx => by cases hx) (X.out.rd 1 rfl) (by omega) (by omega)).mono ?_
      rintro e wm ⟨Am, nm, cm, rfl, ownm, hbm⟩
      rw [HWR.out.1]
      rw [HWR.out.2.1] at ownm
      have hnm : 28 = nm := by rw [← ownm.len, HWR.out.2.2]
      subst hnm
      have hlm := ownm.le
      have Xm := Lib.hid (X.out.pushOwn hbm ownm)
      clear ownm hbm X
      go_wp2_with fail
      refine (icquote_any Am 28 cm (pktB ({ HEX with off := 8 * (1 + nn) }) [] (([4, 0, 0, 80, 0, 0, 0, 1] : List Int))) _ (Xm.out.rd 3 rfl) hPB (by omega) (by omega) (HS.out _ (HBE.out.trans (Xm.out.bel.mono HBE.out.size))).s).mono ?_
      rintro e wq ⟨rfl, hbq⟩
      rw [HQW.out.1, HQW.out.2.1, HQW.out.2.2]
      have Xq := Lib.hid ((Xm.out.next hbq).alloc 55 key0)
      clear hbq Xm hPB hsb hwf
      unfold key0 key5
      go_upto_region 34 with fail
      rw [show wq.alloc (.cells #[.int .u8 0, .int .u32 0, .int .u32 0, .int .u16 0, .int .u16 0] 55) = wq.alloc (.cells key0 55) from rfl]
      generalize wq.alloc (.cells key0 55) = wr at Xq ⊢
      have f0 : wr.cell? ⟨wq.heap.size, 0, none⟩ = some (.int .u8 0) := Xq.out.cell 4 rfl 0 rfl
      have f1 : wr.cell? ⟨wq.heap.size, 1, none⟩ = some (.int .u32 0) := Xq.out.cell 4 rfl 1 rfl
      have f2 : wr.cell? ⟨wq.heap.size, 2, none⟩ = some (.int .u32 0) := Xq.out.cell 4 rfl 2 rfl
      have f3 : wr.cell? ⟨wq.heap.size, 3, none⟩ = some (.int .u16 0) := Xq.out.cell 4 rfl 3 rfl
      have f4 : wr.cell? ⟨wq.heap.size, 4, none⟩ = some (.int .u16 0) := Xq.out.cell 4 rfl 4 rfl
      go_wp2_with fail
      clear f0 f1 f2 f3 f4
      refine (example10_any _).mono ?_
      rintro e ws ⟨rfl, rfl⟩
      have Xs := Lib.hid ((SP.start wr).allocI .u8 5 EX10q (by decide))
      have HBR := Lib.hid (HBE.out.trans (Xq.out.bel.mono HBE.out.size))
      generalize wr.alloc (.cells (EX10q.map (Value.int .u8)).toArray 5) = ws at Xs ⊢
      clear Xq
      obtain ⟨k, hk⟩ : ∃ k : Nat, 4 + nn % 16 = (k : Int) := ⟨(4 + nn % 16).toNat, by omega⟩
      obtain ⟨j, hj⟩ : ∃ j : Nat, wy % 8 = (j : Int) := ⟨(wy % 8).toNat, by omega⟩
      have hk1 : 4 ≤ k ∧ k < 20 := by omega
      have hj8 : j < 8 := by omega
      have hlen : EX10q.length = 28 := rfl
      have x1 := (Xs.out.own 0 rfl).cell (i := k) (by omega)
      have x2 := (Xs.out.own 0 rfl).frozen k
      obtain ⟨v1, v2⟩ := EX10q_bd.get (by omega) k
      obtain ⟨v, hv⟩ : ∃ v, v = EX10q[k]?.getD 0 := ⟨_, rfl⟩
      have hfl := quote_flip EX10q_bd (by decide) (by decide) (by decide) (k := k) (j := j) (by omega) hk1.2 hj8
      have hbd := flip_bd10 EX10q_bd (k := k) hj8
      rw [← hv] at x1 v1 v2 hfl hbd
      have hfb := flipB_bd v1 v2 hj8
      have e1 : IntKind.u8.wrap ((2 : Int) ^ j) = 2 ^ j := by
        have := (flipB_far v hj8).2
        exact u8_in _ (by omega) (by omega)
      have e2 : bits .xor .u8 v (2 ^ j) = flipB v j := u8_xor_bit v v1 v2 j hj8
      have i1 : (0 : Int) ≤ (k : Int) := by omega
      have i2 : (k : Int) < 28 := by omega
      have i3 : (0 : Int) ≤ (j : Int) := by omega
      have i4 : (j : Int) ≤ 8 := by omega
      have e3 : IntKind.u8.wrap (4 + nn % 16) = (k : Int) := by rw [hk]; exact u8_in _ (by omega) (by omega)
      have HT := Lib.hid (Xs.out.setO 0 rfl k (flipB v j))
      have HQ := Lib.hid (q_bad hfl)
      clear hv hfb hlen hfl
      go_wp2_with fail
      refine (icquote_any (some ⟨wr.heap.size, 0, none⟩) 28 28 (EX10q.set k (flipB v j)) _ (HT.out.rd 0 rfl) hbd (by omega) (by omega) (HS.out _ (HBR.out.trans (HT.out.bel.mono HBR.out.size))).s).mono ?_
      rintro e wt ⟨rfl, hbt⟩
      rw [HQ.out.1]
      have XT := Lib.hid (HT.out.next hbt)
      clear hbt
      go_wp2_with fail
      go_ret
      exact ⟨rfl, HBR.out.trans (XT.out.bel.mono HBR.out.size)⟩
    · have q1 : True := trivial
      have s0 : wk.cell? ⟨g5, 0, none⟩ = some (.int .u8 4) := (Z0.out.own 1 rfl).cell (i := 0) (by omega)
      have t0 := (Z0.out.own 1 rfl).frozen 0
      have s1 : wk.cell? ⟨g5, 1, none⟩ = some (.int .u8 0) := (Z0.out.own 1 rfl).cell (i := 1) (by omega)
      have t1 := (Z0.out.own 1 rfl).frozen 1
      have X := Lib.hid (show SP we _ [.blk MH 50 ((HEX).cells (.slice Ah 0 ch)), .own .u8 5 (some ⟨g5, 0, none⟩) 8 c5 (([0, 0, 0, 80, 0, 0, 0, 1] : List Int)), .own .u8 5 Ah 0 ch []] from ((((Z0.out).setO 1 rfl 0 (0))).setO 1 rfl 1 (0)))
      go_upto_region 32 with fail
      generalize ((wk).setCell ⟨g5, 0, none⟩ (.int .u8 (0))).setCell ⟨g5, 1, none⟩ (.int .u8 (0)) = wl at X ⊢
      clear Z0
      clear s0 t0
      clear s1 t1
      have hwf : (HEX).WF := HEX_wf
      have hri : Rightly (HEX).off (HEX).mf 0 ((8 : Nat) : Int) := (show Rightly 0 false 0 8 by decide)
      have hsb : BD 255 (([0, 0, 0, 80, 0, 0, 0, 1] : List Int)) := bd_all (by decide)
      have hsl : (([0, 0, 0, 80, 0, 0, 0, 1] : List Int)).length = 8 := rfl
      have HWR := Lib.hid (show wrE (HEX) 0 8 = 0 ∧ wrB (HEX) [] (([0, 0, 0, 80, 0, 0, 0, 1] : List Int)) = pktB (HEX) [] (([0, 0, 0, 80, 0, 0, 0, 1] : List Int)) ∧ (pktB (HEX) [] (([0, 0, 0, 80, 0, 0, 0, 1] : List Int))).length = 28 from ⟨by unfold wrE; rw [if_pos hri], by unfold wrB; rw [hsl]; exact if_pos hri, by rw [pkt_len, hsl]; rfl⟩)
      have hPB : BD 255 (pktB (HEX) [] (([0, 0, 0, 80, 0, 0, 0, 1] : List Int))) := pkt_bd hwf (fun x hx => by cases hx) (by simp) hsb
      have HQW := Lib.hid (quote_whole (h := HEX) (opts := []) (data := ([0, 0, 0, 80, 0, 0, 0, 1] : List Int)) hwf (fun x hx => by cases hx) (by rw [hsl]; exact hri) (by rw [hsl]; omega) (.inr (by decide)))
      clear hri hsl
      go_wp2_with (refine wpList_load_row rfl 50 _ rfl MH rfl 50 ((HEX).cells (.slice Ah 0 ch)) _ _ (X.out.blk 0 rfl) Tryd.underlying50 rfl (by kernel_rfl) ?_)
      refine (write_any (HEX) Ah 0 ch [] (some ⟨g5, 0, none⟩) 8 c5 (([0, 0, 0, 80, 0, 0, 0, 1] : List Int)) _ hwf (X.out.rd 2 rfl) (fun x hx => by cases hx) (X.out.rd 1 rfl) (by omega) (by omega)).mono ?_
      rintro e wm ⟨Am, nm, cm, rfl, ownm, hbm⟩
      rw [HWR.out.1]
      rw [HWR.out.2.1] at ownm
      have hnm : 28 = nm := by rw [← ownm.len, HWR.out.2.2]
      subst hnm
      have hlm := ownm.le
      have Xm := Lib.hid (X.out.pushOwn hbm ownm)
      clear ownm hbm X
      go_wp2_with fail
      refine (icquote_any Am 28 cm (pktB (HEX) [] (([0, 0, 0, 80, 0, 0, 0, 1] : List Int))) _ (Xm.out.rd 3 rfl) hPB (by omega) (by omega) (HS.out _ (HBE.out.trans (Xm.out.bel.mono HBE.out.size))).s).mono ?_
      rintro e wq ⟨rfl, hbq⟩
      rw [HQW.out.1, HQW.out.2.1, HQW.out.2.2]
      have Xq := Lib.hid ((Xm.out.next hbq).alloc 55 key0)
      clear hbq Xm hPB hsb hwf
      unfold key0 key5
      go_upto_region 34 with fail
      rw [show wq.alloc (.cells #[.int .u8 0, .int .u32 0, .int .u32 0, .int .u16 0, .int .u16 0] 55) = wq.alloc (.cells key0 55) from rfl]
      generalize wq.alloc (.cells key0 55) = wr at Xq ⊢
      have f0 : wr.cell? ⟨wq.heap.size, 0, none⟩ = some (.int .u8 0) := Xq.out.cell 4 rfl 0 rfl
      have f1 : wr.cell? ⟨wq.heap.size, 1, none⟩ = some (.int .u32 0) := Xq.out.cell 4 rfl 1 rfl
      have f2 : wr.cell? ⟨wq.heap.size, 2, none⟩ = some (.int .u32 0) := Xq.out.cell 4 rfl 2 rfl
      have f3 : wr.cell? ⟨wq.heap.size, 3, none⟩ = some (.int .u16 0) := Xq.out.cell 4 rfl 3 rfl
      have f4 : wr.cell? ⟨wq.heap.size, 4, none⟩ = some (.int .u16 0) := Xq.out.cell 4 rfl 4 rfl
      go_wp2_with fail
      clear f0 f1 f2 f3 f4
      refine (example10_any _).mono ?_
      rintro e ws ⟨rfl, rfl⟩
      have Xs := Lib.hid ((SP.start wr).allocI .u8 5 EX10q (by decide))
      have HBR := Lib.hid (HBE.out.trans (Xq.out.bel.mono HBE.out.size))
      generalize wr.alloc (.cells (EX10q.map (Value.int .u8)).toArray 5) = ws at Xs ⊢
      clear Xq
      obtain ⟨k, hk⟩ : ∃ k : Nat, 4 + nn % 16 = (k : Int) := ⟨(4 + nn % 16).toNat, by omega⟩
      obtain ⟨j, hj⟩ : ∃ j : Nat, wy % 8 = (j : Int) := ⟨(wy % 8).toNat, by omega⟩
      have hk1 : 4 ≤ k ∧ k < 20 := by omega
      have hj8 : j < 8 := by omega
      have hlen : EX10q.length = 28 := rfl
      have x1 := (Xs.out.own 0 rfl).cell (i := k) (by omega)
      have x2 := (Xs.out.own 0 rfl).frozen k
      obtain ⟨v1, v2⟩ := EX10q_bd.get (by omega) k
      obtain ⟨v, hv⟩ : ∃ v, v = EX10q[k]?.getD 0 := ⟨_, rfl⟩
      have hfl := quote_flip EX10q_bd (by decide) (by decide) (by decide) (k := k) (j := j) (by omega) hk1.2 hj8
      have hbd := flip_bd10 EX10q_bd (k := k) hj8
      rw [← hv] at x1 v1 v2 hfl hbd
      have hfb := flipB_bd v1 v2 hj8
      have e1 : IntKind.u8.wrap ((2 : Int) ^ j) = 2 ^ j := by
        have := (flipB_far v hj8).2
        exact u8_in _ (by omega) (by omega)
      have e2 : bits .xor .u8 v (2 ^ j) = flipB v j := u8_xor_bit v v1 v2 j hj8
      have i1 : (0 : Int) ≤ (k : Int) := by omega
      have i2 : (k : Int) < 28 := by omega
      have i3 : (0 : Int) ≤ (j : Int) := by omega
      have i4 : (j : Int) ≤ 8 := by omega
      have e3 : IntKind.u8.wrap (4 + nn % 16) = (k : Int) := by rw [hk]; exact u8_in _ (by omega) (by omega)
      have HT := Lib.hid (Xs.out.setO 0 rfl k (flipB v j))
      have HQ := Lib.hid (q_bad hfl)
      clear hv hfb hlen hfl
      go_wp2_with fail
      refine (icquote_any (some ⟨wr.heap.size, 0, none⟩) 28 28 (EX10q.set k (flipB v j)) _ (HT.out.rd 0 rfl) hbd (by omega) (by omega) (HS.out _ (HBR.out.trans (HT.out.bel.mono HBR.out.size))).s).mono ?_
      rintro e wt ⟨rfl, hbt⟩
      rw [HQ.out.1]
      have XT := Lib.hid (HT.out.next hbt)
      clear hbt
      go_wp2_with fail
      go_ret
      exact ⟨rfl, HBR.out.trans (XT.out.bel.mono HBR.out.size)⟩
    · have q1 : True := trivial
      have s2 : wk.cell? ⟨g5, 2, none⟩ = some (.int .u8 0) := (Z0.out.own 1 rfl).cell (i := 2) (by omega)
      have t2 := (Z0.out.own 1 rfl).frozen 2
      have s3 : wk.cell? ⟨g5, 3, none⟩ = some (.int .u8 80) := (Z0.out.own 1 rfl).cell (i := 3) (by omega)
      have t3 := (Z0.out.own 1 rfl).frozen 3
      have X := Lib.hid (show SP we _ [.blk MH 50 ((HEX).cells (.slice Ah 0 ch)), .own .u8 5 (some ⟨g5, 0, none⟩) 8 c5 (([4, 0, 0, 0, 0, 0, 0, 1] : List Int)), .own .u8 5 Ah 0 ch []] from ((((Z0.out).setO 1 rfl 2 (0))).setO 1 rfl 3 (0)))
      go_upto_region 32 with fail
      generalize ((wk).setCell ⟨g5, 2, none⟩ (.int .u8 (0))).setCell ⟨g5, 3, none⟩ (.int .u8 (0)) = wl at X ⊢
      clear Z0
      clear s2 t2
      clear s3 t3
      have hwf : (HEX).WF := HEX_wf
      have hri : Rightly (HEX).off (HEX).mf 0 ((8 : Nat) : Int) := (show Rightly 0 false 0 8 by decide)
      have hsb : BD 255 (([4, 0, 0, 0, 0, 0, 0, 1] : List Int)) := bd_all (by decide)
      have hsl : (([4, 0, 0, 0, 0, 0, 0, 1] : List Int)).length = 8 := rfl
      have HWR := Lib.hid (show wrE (HEX) 0 8 = 0 ∧ wrB (HEX) [] (([4, 0, 0, 0, 0, 0, 0, 1] : List Int)) = pktB (HEX) [] (([4, 0, 0, 0, 0, 0, 0, 1] : List Int)) ∧ (pktB (HEX) [] (([4, 0, 0, 0, 0, 0, 0, 1] : List Int))).length = 28 from ⟨by unfold wrE; rw [if_pos hri], by unfold wrB; rw [hsl]; exact if_pos hri, by rw [pkt_len, hsl]; rfl⟩)
      have hPB : BD 255 (pktB (HEX) [] (([4, 0, 0, 0, 0, 0, 0, 1] : List Int))) := pkt_bd hwf (fun x hx => by cases hx) (by simp) hsb
      have HQW := Lib.hid (quote_whole (h := HEX) (opts := []) (data := ([4, 0, 0, 0, 0, 0, 0, 1] : List Int)) hwf (fun x hx => by cases hx) (by rw [hsl]; exact hri) (by rw [hsl]; omega) (.inr (by decide)))
      clear hri hsl
      go_wp2_with (refine wpList_load_row rfl 50 _ rfl MH rfl 50 ((HEX).cells (.slice Ah 0 ch)) _ _ (X.out.blk 0 rfl) Tryd.underlying50 rfl (by kernel_rfl) ?_)
      refine (write_any (HEX) Ah 0 ch [] (some ⟨g5, 0, none⟩) 8 c5 (([4, 0, 0, 0, 0, 0, 0, 1] : List Int)) _ hwf (X.out.rd 2 rfl) (fun x hx => by cases hx) (X.out.rd 1 rfl) (by omega) (by omega)).mono ?_
      rintro e wm ⟨Am, nm, cm, rfl, ownm, hbm⟩
      rw [HWR.out.1]
      rw [HWR.out.2.1] at ownm
      have hnm : 28 = nm := by rw [← ownm.len, HWR.out.2.2]
      subst hnm
      have hlm := ownm.le
      have Xm := Lib.hid (X.out.pushOwn hbm ownm)
      clear ownm hbm X
      go_wp2_with fail
      refine (icquote_any Am 28 cm (pktB (HEX) [] (([4, 0, 0, 0, 0, 0, 0, 1] : List Int))) _ (Xm.out.rd 3 rfl) hPB (by omega) (by omega) (HS.out _ (HBE.out.trans (Xm.out.bel.mono HBE.out.size))).s).mono ?_
      rintro e wq ⟨rfl, hbq⟩
      rw [HQW.out.1, HQW.out.2.1, HQW.out.2.2]
      have Xq := Lib.hid ((Xm.out.next hbq).alloc 55 key0)
      clear hbq Xm hPB hsb hwf
      unfold key0 key5
      go_upto_region 34 with fail
      rw [show wq.alloc (.cells #[.int .u8 0, .int .u32 0, .int .u32 0, .int .u16 0, .int .u16 0] 55) = wq.alloc (.cells key0 55) from rfl]
      generalize wq.alloc (.cells key0 55) = wr at Xq ⊢
      have f0 : wr.cell? ⟨wq.heap.size, 0, none⟩ = some (.int .u8 0) := Xq.out.cell 4 rfl 0 rfl
      have f1 : wr.cell? ⟨wq.heap.size, 1, none⟩ = some (.int .u32 0) := Xq.out.cell 4 rfl 1 rfl
      have f2 : wr.cell? ⟨wq.heap.size, 2, none⟩ = some (.int .u32 0) := Xq.out.cell 4 rfl 2 rfl
      have f3 : wr.cell? ⟨wq.heap.size, 3, none⟩ = some (.int .u16 0) := Xq.out.cell 4 rfl 3 rfl
      have f4 : wr.cell? ⟨wq.heap.size, 4, none⟩ = some (.int .u16 0) := Xq.out.cell 4 rfl 4 rfl
      go_wp2_with fail
      clear f0 f1 f2 f3 f4
      refine (example10_any _).mono ?_
      rintro e ws ⟨rfl, rfl⟩
      have Xs := Lib.hid ((SP.start wr).allocI .u8 5 EX10q (by decide))
      have HBR := Lib.hid (HBE.out.trans (Xq.out.bel.mono HBE.out.size))
      generalize wr.alloc (.cells (EX10q.map (Value.int .u8)).toArray 5) = ws at Xs ⊢
      clear Xq
      obtain ⟨k, hk⟩ : ∃ k : Nat, 4 + nn % 16 = (k : Int) := ⟨(4 + nn % 16).toNat, by omega⟩
      obtain ⟨j, hj⟩ : ∃ j : Nat, wy % 8 = (j : Int) := ⟨(wy % 8).toNat, by omega⟩
      have hk1 : 4 ≤ k ∧ k < 20 := by omega
      have hj8 : j < 8 := by omega
      have hlen : EX10q.length = 28 := rfl
      have x1 := (Xs.out.own 0 rfl).cell (i := k) (by omega)
      have x2 := (Xs.out.own 0 rfl).frozen k
      obtain ⟨v1, v2⟩ := EX10q_bd.get (by omega) k
      obtain ⟨v, hv⟩ : ∃ v, v = EX10q[k]?.getD 0 := ⟨_, rfl⟩
      have hfl := quote_flip EX10q_bd (by decide) (by decide) (by decide) (k := k) (j := j) (by omega) hk1.2 hj8
      have hbd := flip_bd10 EX10q_bd (k := k) hj8
      rw [← hv] at x1 v1 v2 hfl hbd
      have hfb := flipB_bd v1 v2 hj8
      have e1 : IntKind.u8.wrap ((2 : Int) ^ j) = 2 ^ j := by
        have := (flipB_far v hj8).2
        exact u8_in _ (by omega) (by omega)
      have e2 : bits .xor .u8 v (2 ^ j) = flipB v j := u8_xor_bit v v1 v2 j hj8
      have i1 : (0 : Int) ≤ (k : Int) := by omega
      have i2 : (k : Int) < 28 := by omega
      have i3 : (0 : Int) ≤ (j : Int) := by omega
      have i4 : (j : Int) ≤ 8 := by omega
      have e3 : IntKind.u8.wrap (4 + nn % 16) = (k : Int) := by rw [hk]; exact u8_in _ (by omega) (by omega)
      have HT := Lib.hid (Xs.out.setO 0 rfl k (flipB v j))
      have HQ := Lib.hid (q_bad hfl)
      clear hv hfb hlen hfl
      go_wp2_with fail
      refine (icquote_any (some ⟨wr.heap.size, 0, none⟩) 28 28 (EX10q.set k (flipB v j)) _ (HT.out.rd 0 rfl) hbd (by omega) (by omega) (HS.out _ (HBR.out.trans (HT.out.bel.mono HBR.out.size))).s).mono ?_
      rintro e wt ⟨rfl, hbt⟩
      rw [HQ.out.1]
      have XT := Lib.hid (HT.out.next hbt)
      clear hbt
      go_wp2_with fail
      go_ret
      exact ⟨rfl, HBR.out.trans (XT.out.bel.mono HBR.out.size)⟩
    · have q1 : True := trivial
      have c6 : wk.cell? ⟨MH, 6, none⟩ = some (.int .u8 6) := Z0.out.cell 0 rfl 6 rfl
      have d6 := Z0.out.free 0 rfl 6
      have s0 : wk.cell? ⟨g5, 0, none⟩ = some (.int .u8 4) := (Z0.out.own 1 rfl).cell (i := 0) (by omega)
      have t0 := (Z0.out.own 1 rfl).frozen 0
      have s1 : wk.cell? ⟨g5, 1, none⟩ = some (.int .u8 0) := (Z0.out.own 1 rfl).cell (i := 1) (by omega)
      have t1 := (Z0.out.own 1 rfl).frozen 1
      have hne : g5 ≠ MH := fun h => (Z0.out.ne 0 1 rfl rfl (by decide) (g := MH) rfl) (by rw [← h]; rfl)
      have hne2 : MH ≠ g5 := fun h => hne h.symm
      have X := Lib.hid (show SP we _ [.blk MH 50 (({ HEX with proto := 1 }).cells (.slice Ah 0 ch)), .own .u8 5 (some ⟨g5, 0, none⟩) 8 c5 (([1, nn, 0, 80, 0, 0, 0, 1] : List Int)), .own .u8 5 Ah 0 ch []] from ((((((Z0.out).setB 0 rfl 6 (.int .u8 (1)))).setO 1 rfl 0 (1))).setO 1 rfl 1 (nn)))
      go_upto_region 32 with fail
      generalize (((wk).setCell ⟨MH, 6, none⟩ (.int .u8 (1))).setCell ⟨g5, 0, none⟩ (.int .u8 (1))).setCell ⟨g5, 1, none⟩ (.int .u8 (nn)) = wl at X ⊢
      clear Z0
      clear c6 d6
      clear s0 t0
      clear s1 t1
      have hwf : ({ HEX with proto := 1 }).WF := { HEX_wf with proto := ⟨by decide, by decide⟩ }
      have hri : Rightly ({ HEX with proto := 1 }).off ({ HEX with proto := 1 }).mf 0 ((8 : Nat) : Int) := (show Rightly 0 false 0 8 by decide)
      have hsb : BD 255 (([1, nn, 0, 80, 0, 0, 0, 1] : List Int)) := fun x hx => by simp only [List.mem_cons, List.not_mem_nil, or_false] at hx; omega
      have hsl : (([1, nn, 0, 80, 0, 0, 0, 1] : List Int)).length = 8 := rfl
      have HWR := Lib.hid (show wrE ({ HEX with proto := 1 }) 0 8 = 0 ∧ wrB ({ HEX with proto := 1 }) [] (([1, nn, 0, 80, 0, 0, 0, 1] : List Int)) = pktB ({ HEX with proto := 1 }) [] (([1, nn, 0, 80, 0, 0, 0, 1] : List Int)) ∧ (pktB ({ HEX with proto := 1 }) [] (([1, nn, 0, 80, 0, 0, 0, 1] : List Int))).length = 28 from ⟨by unfold wrE; rw [if_pos hri], by unfold wrB; rw [hsl]; exact if_pos hri, by rw [pkt_len, hsl]; rfl⟩)
      have hPB : BD 255 (pktB ({ HEX with proto := 1 }) [] (([1, nn, 0, 80, 0, 0, 0, 1] : List Int))) := pkt_bd hwf (fun x hx => by cases hx) (by simp) hsb
      have HQW := Lib.hid (quote_whole (h := { HEX with proto := 1 }) (opts := []) (data := ([1, nn, 0, 80, 0, 0, 0, 1] : List Int)) hwf (fun x hx => by cases hx) (by rw [hsl]; exact hri) (by rw [hsl]; omega) (.inr (by unfold KDd; rw [if_neg (by decide), if_pos rfl]; show kK 1 nn = 0; unfold kK kE; rw [if_pos (show sKind 1 = 0 by decide)]; rfl)))
      clear hri hsl
      go_wp2_with (refine wpList_load_row rfl 50 _ rfl MH rfl 50 (({ HEX with proto := 1 }).cells (.slice Ah 0 ch)) _ _ (X.out.blk 0 rfl) Tryd.underlying50 rfl (by kernel_rfl) ?_)
      refine (write_any ({ HEX with proto := 1 }) Ah 0 ch [] (some ⟨g5, 0, none⟩) 8 c5 (([1, nn, 0, 80, 0, 0, 0, 1] : List Int)) _ hwf (X.out.rd 2 rfl) (fun x hx => by cases hx) (X.out.rd 1 rfl) (by omega) (by omega)).mono ?_
      rintro e wm ⟨Am, nm, cm, rfl, ownm, hbm⟩
      rw [HWR.out.1]
      rw [HWR.out.2.1] at ownm
      have hnm : 28 = nm := by rw [← ownm.len, HWR.out.2.2]
      subst hnm
      have hlm := ownm.le
      have Xm := Lib.hid (X.out.pushOwn hbm ownm)
      clear ownm hbm X
      go_wp2_with fail
      refine (icquote_any Am 28 cm (pktB ({ HEX with proto := 1 }) [] (([1, nn, 0, 80, 0, 0, 0, 1] : List Int))) _ (Xm.out.rd 3 rfl) hPB (by omega) (by omega) (HS.out _ (HBE.out.trans (Xm.out.bel.mono HBE.out.size))).s).mono ?_
      rintro e wq ⟨rfl, hbq⟩
      rw [HQW.out.1, HQW.out.2.1, HQW.out.2.2]
      have Xq := Lib.hid ((Xm.out.next hbq).alloc 55 key0)
      clear hbq Xm hPB hsb hwf
      unfold key0 key5
      go_upto_region 34 with fail
      rw [show wq.alloc (.cells #[.int .u8 0, .int .u32 0, .int .u32 0, .int .u16 0, .int .u16 0] 55) = wq.alloc (.cells key0 55) from rfl]
      generalize wq.alloc (.cells key0 55) = wr at Xq ⊢
      have f0 : wr.cell? ⟨wq.heap.size, 0, none⟩ = some (.int .u8 0) := Xq.out.cell 4 rfl 0 rfl
      have f1 : wr.cell? ⟨wq.heap.size, 1, none⟩ = some (.int .u32 0) := Xq.out.cell 4 rfl 1 rfl
      have f2 : wr.cell? ⟨wq.heap.size, 2, none⟩ = some (.int .u32 0) := Xq.out.cell 4 rfl 2 rfl
      have f3 : wr.cell? ⟨wq.heap.size, 3, none⟩ = some (.int .u16 0) := Xq.out.cell 4 rfl 3 rfl
      have f4 : wr.cell? ⟨wq.heap.size, 4, none⟩ = some (.int .u16 0) := Xq.out.cell 4 rfl 4 rfl
      go_wp2_with fail
      clear f0 f1 f2 f3 f4
      refine (example10_any _).mono ?_
      rintro e ws ⟨rfl, rfl⟩
      have Xs := Lib.hid ((SP.start wr).allocI .u8 5 EX10q (by decide))
      have HBR := Lib.hid (HBE.out.trans (Xq.out.bel.mono HBE.out.size))
      generalize wr.alloc (.cells (EX10q.map (Value.int .u8)).toArray 5) = ws at Xs ⊢
      clear Xq
      obtain ⟨k, hk⟩ : ∃ k : Nat, 4 + nn % 16 = (k : Int) := ⟨(4 + nn % 16).toNat, by omega⟩
      obtain ⟨j, hj⟩ : ∃ j : Nat, wy % 8 = (j : Int) := ⟨(wy % 8).toNat, by omega⟩
      have hk1 : 4 ≤ k ∧ k < 20 := by omega
      have hj8 : j < 8 := by omega
      have hlen : EX10q.length = 28 := rfl
      have x1 := (Xs.out.own 0 rfl).cell (i := k) (by omega)
      have x2 := (Xs.out.own 0 rfl).frozen k
      obtain ⟨v1, v2⟩ := EX10q_bd.get (by omega) k
      obtain ⟨v, hv⟩ : ∃ v, v = EX10q[k]?.getD 0 := ⟨_, rfl⟩
      have hfl := quote_flip EX10q_bd (by decide) (by decide) (by decide) (k := k) (j := j) (by omega) hk1.2 hj8
      have hbd := flip_bd10 EX10q_bd (k := k) hj8
      rw [← hv] at x1 v1 v2 hfl hbd
      have hfb := flipB_bd v1 v2 hj8
      have e1 : IntKind.u8.wrap ((2 : Int) ^ j) = 2 ^ j := by
        have := (flipB_far v hj8).2
        exact u8_in _ (by omega) (by omega)
      have e2 : bits .xor .u8 v (2 ^ j) = flipB v j := u8_xor_bit v v1 v2 j hj8
      have i1 : (0 : Int) ≤ (k : Int) := by omega
      have i2 : (k : Int) < 28 := by omega
      have i3 : (0 : Int) ≤ (j : Int) := by omega
      have i4 : (j : Int) ≤ 8 := by omega
      have e3 : IntKind.u8.wrap (4 + nn % 16) = (k : Int) := by rw [hk]; exact u8_in _ (by omega) (by omega)
      have HT := Lib.hid (Xs.out.setO 0 rfl k (flipB v j))
      have HQ := Lib.hid (q_bad hfl)
      clear hv hfb hlen hfl
      go_wp2_with fail
      refine (icquote_any (some ⟨wr.heap.size, 0, none⟩) 28 28 (EX10q.set k (flipB v j)) _ (HT.out.rd 0 rfl) hbd (by omega) (by omega) (HS.out _ (HBR.out.trans (HT.out.bel.mono HBR.out.size))).s).mono ?_
      rintro e wt ⟨rfl, hbt⟩
      rw [HQ.out.1]
      have XT := Lib.hid (HT.out.next hbt)
      clear hbt
      go_wp2_with fail
      go_ret
      exact ⟨rfl, HBR.out.trans (XT.out.bel.mono HBR.out.size)⟩
    · have q1 : IntKind.u8.wrap (1 + nn % 200) = 1 + nn % 200 := u8_in _ (by omega) (by omega)
      have c6 : wk.cell? ⟨MH, 6, none⟩ = some (.int .u8 6) := Z0.out.cell 0 rfl 6 rfl
      have d6 := Z0.out.free 0 rfl 6
      have s0 : wk.cell? ⟨g5, 0, none⟩ = some (.int .u8 4) := (Z0.out.own 1 rfl).cell (i := 0) (by omega)
      have t0 := (Z0.out.own 1 rfl).frozen 0
      have s1 : wk.cell? ⟨g5, 1, none⟩ = some (.int .u8 0) := (Z0.out.own 1 rfl).cell (i := 1) (by omega)
      have t1 := (Z0.out.own 1 rfl).frozen 1
      have hne : g5 ≠ MH := fun h => (Z0.out.ne 0 1 rfl rfl (by decide) (g := MH) rfl) (by rw [← h]; rfl)
      have hne2 : MH ≠ g5 := fun h => hne h.symm
      have X := Lib.hid (show SP we _ [.blk MH 50 (({ HEX with proto := 1 }).cells (.slice Ah 0 ch)), .own .u8 5 (some ⟨g5, 0, none⟩) 8 c5 (([8, 1 + nn % 200, 0, 80, 0, 0, 0, 1] : List Int)), .own .u8 5 Ah 0 ch []] from ((((((Z0.out).setB 0 rfl 6 (.int .u8 (1)))).setO 1 rfl 0 (8))).setO 1 rfl 1 (1 + nn % 200)))
      go_upto_region 32 with fail
      generalize (((wk).setCell ⟨MH, 6, none⟩ (.int .u8 (1))).setCell ⟨g5, 0, none⟩ (.int .u8 (8))).setCell ⟨g5, 1, none⟩ (.int .u8 (1 + nn % 200)) = wl at X ⊢
      clear Z0
      clear c6 d6
      clear s0 t0
      clear s1 t1
      have hwf : ({ HEX with proto := 1 }).WF := { HEX_wf with proto := ⟨by decide, by decide⟩ }
      have hri : Rightly ({ HEX with proto := 1 }).off ({ HEX with proto := 1 }).mf 0 ((8 : Nat) : Int) := (show Rightly 0 false 0 8 by decide)
      have hsb : BD 255 (([8, 1 + nn % 200, 0, 80, 0, 0, 0, 1] : List Int)) := fun x hx => by simp only [List.mem_cons, List.not_mem_nil, or_false] at hx; omega
      have hsl : (([8, 1 + nn % 200, 0, 80, 0, 0, 0, 1] : List Int)).length = 8 := rfl
      have HWR := Lib.hid (show wrE ({ HEX with proto := 1 }) 0 8 = 0 ∧ wrB ({ HEX with proto := 1 }) [] (([8, 1 + nn % 200, 0, 80, 0, 0, 0, 1] : List Int)) = pktB ({ HEX with proto := 1 }) [] (([8, 1 + nn % 200, 0, 80, 0, 0, 0, 1] : List Int)) ∧ (pktB ({ HEX with proto := 1 }) [] (([8, 1 + nn % 200, 0, 80, 0, 0, 0, 1] : List Int))).length = 28 from ⟨by unfold wrE; rw [if_pos hri], by unfold wrB; rw [hsl]; exact if_pos hri, by rw [pkt_len, hsl]; rfl⟩)
      have hPB : BD 255 (pktB ({ HEX with proto := 1 }) [] (([8, 1 + nn % 200, 0, 80, 0, 0, 0, 1] : List Int))) := pkt_bd hwf (fun x hx => by cases hx) (by simp) hsb
      have HQW := Lib.hid (quote_whole (h := { HEX with proto := 1 }) (opts := []) (data := ([8, 1 + nn % 200, 0, 80, 0, 0, 0, 1] : List Int)) hwf (fun x hx => by cases hx) (by rw [hsl]; exact hri) (by rw [hsl]; omega) (.inr (by unfold KDd; rw [if_neg (by decide), if_pos rfl]; show kK 8 (1 + nn % 200) = 0; unfold kK kE; rw [if_neg (show ¬ sKind 8 = 0 by decide), if_pos (show sCode 8 < 1 + nn % 200 by rw [show sCode 8 = 0 by decide]; omega)]; rfl)))
      clear hri hsl
      go_wp2_with (refine wpList_load_row rfl 50 _ rfl MH rfl 50 (({ HEX with proto := 1 }).cells (.slice Ah 0 ch)) _ _ (X.out.blk 0 rfl) Tryd.underlying50 rfl (by kernel_rfl) ?_)
      refine (write_any ({ HEX with proto := 1 }) Ah 0 ch [] (some ⟨g5, 0, none⟩) 8 c5 (([8, 1 + nn % 200, 0, 80, 0, 0, 0, 1] : List Int)) _ hwf (X.out.rd 2 rfl) (fun x hx => by cases hx) (X.out.rd 1 rfl) (by omega) (by omega)).mono ?_
      rintro e wm ⟨Am, nm, cm, rfl, ownm, hbm⟩
      rw [HWR.out.1]
      rw [HWR.out.2.1] at ownm
      have hnm : 28 = nm := by rw [← ownm.len, HWR.out.2.2]
      subst hnm
      have hlm := ownm.le
      have Xm := Lib.hid (X.out.pushOwn hbm ownm)
      clear ownm hbm X
      go_wp2_with fail
      refine (icquote_any Am 28 cm (pktB ({ HEX with proto := 1 }) [] (([8, 1 + nn % 200, 0, 80, 0, 0, 0, 1] : List Int))) _ (Xm.out.rd 3 rfl) hPB (by omega) (by omega) (HS.out _ (HBE.out.trans (Xm.out.bel.mono HBE.out.size))).s).mono ?_
      rintro e wq ⟨rfl, hbq⟩
      rw [HQW.out.1, HQW.out.2.1, HQW.out.2.2]
      have Xq := Lib.hid ((Xm.out.next hbq).alloc 55 key0)
      clear hbq Xm hPB hsb hwf
      unfold key0 key5
      go_upto_region 34 with fail
      rw [show wq.alloc (.cells #[.int .u8 0, .int .u32 0, .int .u32 0, .int .u16 0, .int .u16 0] 55) = wq.alloc (.cells key0 55) from rfl]
      generalize wq.alloc (.cells key0 55) = wr at Xq ⊢
      have f0 : wr.cell? ⟨wq.heap.size, 0, none⟩ = some (.int .u8 0) := Xq.out.cell 4 rfl 0 rfl
      have f1 : wr.cell? ⟨wq.heap.size, 1, none⟩ = some (.int .u32 0) := Xq.out.cell 4 rfl 1 rfl
      have f2 : wr.cell? ⟨wq.heap.size, 2, none⟩ = some (.int .u32 0) := Xq.out.cell 4 rfl 2 rfl
      have f3 : wr.cell? ⟨wq.heap.size, 3, none⟩ = some (.int .u16 0) := Xq.out.cell 4 rfl 3 rfl
      have f4 : wr.cell? ⟨wq.heap.size, 4, none⟩ = some (.int .u16 0) := Xq.out.cell 4 rfl 4 rfl
      go_wp2_with fail
      clear f0 f1 f2 f3 f4
      refine (example10_any _).mono ?_
      rintro e ws ⟨rfl, rfl⟩
      have Xs := Lib.hid ((SP.start wr).allocI .u8 5 EX10q (by decide))
      have HBR := Lib.hid (HBE.out.trans (Xq.out.bel.mono HBE.out.size))
      generalize wr.alloc (.cells (EX10q.map (Value.int .u8)).toArray 5) = ws at Xs ⊢
      clear Xq
      obtain ⟨k, hk⟩ : ∃ k : Nat, 4 + nn % 16 = (k : Int) := ⟨(4 + nn % 16).toNat, by omega⟩
      obtain ⟨j, hj⟩ : ∃ j : Nat, wy % 8 = (j : Int) := ⟨(wy % 8).toNat, by omega⟩
      have hk1 : 4 ≤ k ∧ k < 20 := by omega
      have hj8 : j < 8 := by omega
      have hlen : EX10q.length = 28 := rfl
      have x1 := (Xs.out.own 0 rfl).cell (i := k) (by omega)
      have x2 := (Xs.out.own 0 rfl).frozen k
      obtain ⟨v1, v2⟩ := EX10q_bd.get (by omega) k
      obtain ⟨v, hv⟩ : ∃ v, v = EX10q[k]?.getD 0 := ⟨_, rfl⟩
      have hfl := quote_flip EX10q_bd (by decide) (by decide) (by decide) (k := k) (j := j) (by omega) hk1.2 hj8
      have hbd := flip_bd10 EX10q_bd (k := k) hj8
      rw [← hv] at x1 v1 v2 hfl hbd
      have hfb := flipB_bd v1 v2 hj8
      have e1 : IntKind.u8.wrap ((2 : Int) ^ j) = 2 ^ j := by
        have := (flipB_far v hj8).2
        exact u8_in _ (by omega) (by omega)
      have e2 : bits .xor .u8 v (2 ^ j) = flipB v j := u8_xor_bit v v1 v2 j hj8
      have i1 : (0 : Int) ≤ (k : Int) := by omega
      have i2 : (k : Int) < 28 := by omega
      have i3 : (0 : Int) ≤ (j : Int) := by omega
      have i4 : (j : Int) ≤ 8 := by omega
      have e3 : IntKind.u8.wrap (4 + nn % 16) = (k : Int) := by rw [hk]; exact u8_in _ (by omega) (by omega)
      have HT := Lib.hid (Xs.out.setO 0 rfl k (flipB v j))
      have HQ := Lib.hid (q_bad hfl)
      clear hv hfb hlen hfl
      go_wp2_with fail
      refine (icquote_any (some ⟨wr.heap.size, 0, none⟩) 28 28 (EX10q.set k (flipB v j)) _ (HT.out.rd 0 rfl) hbd (by omega) (by omega) (HS.out _ (HBR.out.trans (HT.out.bel.mono HBR.out.size))).s).mono ?_
      rintro e wt ⟨rfl, hbt⟩
      rw [HQ.out.1]
      have XT := Lib.hid (HT.out.next hbt)
      clear hbt
      go_wp2_with fail
      go_ret
      exact ⟨rfl, HBR.out.trans (XT.out.bel.mono HBR.out.size)⟩
end Go.Proofs.YtjbkfhdbgphodaaDoor
