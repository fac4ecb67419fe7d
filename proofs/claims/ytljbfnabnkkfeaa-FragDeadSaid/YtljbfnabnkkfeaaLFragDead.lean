import Derived.Test.YtljbfnabnkkfeaaFgZ
import Derived.Deep.RegionLaw
/- bafflelaw07.FragDead returns true. (Printed by gen_fglaws.py.) -/
namespace Go.Proofs.Ytljbfnabnkkfeaa
open Go.RowKit
set_option linter.unusedVariables false
set_option linter.unusedSimpArgs false

/-- eight bytes where a piece begins -/
theorem extra_8 {h : HD} {o d : List Int} (W : WHOLE h o d) {s k : Nat} (hs : 8 ≤ s) (h8 : s % 8 = 0) (hk : k + 1 < cnt d.length s) : EXTRA h o d s k (pieceF ⟨h, o, d⟩ 8 (s / 8 * k)) ∧ (pieceF ⟨h, o, d⟩ 8 (s / 8 * k)).h.mf = true ∧ (pieceF ⟨h, o, d⟩ 8 (s / 8 * k)).h = (pieceF ⟨h, o, d⟩ s k).h ∧ (pieceF ⟨h, o, d⟩ 8 (s / 8 * k)).d = (pieceF ⟨h, o, d⟩ s k).d.take 8 ∧ (pieceF ⟨h, o, d⟩ 8 (s / 8 * k)).d.length = 8 ∧ (pieceF ⟨h, o, d⟩ s k).d.length = s := by
  have h1 := (lt_cnt (n := d.length) (size := s) (by omega)).1 hk
  rw [Nat.mul_add, Nat.mul_one] at h1
  have e8 : 8 * (s / 8) = s := by omega
  have eb : 8 * (s / 8 * k) = s * k := by rw [← Nat.mul_assoc, e8]
  have hl := pieceF_len ⟨h, o, d⟩ s k
  have hl8 := pieceF_len ⟨h, o, d⟩ 8 (s / 8 * k)
  simp only at hl hl8
  rw [eb] at hl8
  have hm : (pieceF ⟨h, o, d⟩ 8 (s / 8 * k)).h.mf = true := by
    show (h.mf || decide (8 * (s / 8 * k + 1) < d.length)) = true
    rw [Nat.mul_add, eb, decide_eq_true (by omega)]
    simp
  have hm2 : (pieceF ⟨h, o, d⟩ s k).h.mf = true := by
    show (h.mf || decide (s * (k + 1) < d.length)) = true
    rw [Nat.mul_add, decide_eq_true (by omega)]
    simp
  have hh : (pieceF ⟨h, o, d⟩ 8 (s / 8 * k)).h = (pieceF ⟨h, o, d⟩ s k).h := by
    show { h with off := h.off + ((8 * (s / 8 * k) : Nat) : Int), mf := (h.mf || decide (8 * (s / 8 * k + 1) < d.length)) } = { h with off := h.off + ((s * k : Nat) : Int), mf := (h.mf || decide (s * (k + 1) < d.length)) }
    have a1 : (h.mf || decide (8 * (s / 8 * k + 1) < d.length)) = true := hm
    have a2 : (h.mf || decide (s * (k + 1) < d.length)) = true := hm2
    rw [a1, a2, eb]
  refine ⟨⟨piece_frg W (by omega) (by omega) (by omega), fun hw => absurd hw.1 (by rw [hm]; simp), by omega, ?_, by omega⟩, hm, hh, ?_, by omega, by omega⟩
  · rw [piece_b W, eb]
  · show (d.drop (8 * (s / 8 * k))).take 8 = ((d.drop (s * k)).take s).take 8
    rw [eb, List.take_take]
    congr 1; omega
theorem extra_same {h : HD} {o d : List Int} (W : WHOLE h o d) {s k : Nat} (hs : 8 ≤ s) (h8 : s % 8 = 0) (h2 : 2 ≤ cnt d.length s) (hk : k < cnt d.length s) : EXTRA h o d s k (pieceF ⟨h, o, d⟩ s k) :=
  ⟨piece_frg W hs h8 ((lt_cnt (by omega)).1 hk), piece_whole W (by omega) h2 hk, hk, piece_b W s k, Nat.le_refl _⟩
theorem gat_all {h : HD} {o d : List Int} {s : Nat} {G : List (SD × List Int)} (P : PIECES h o d s G) (X : FR) (sd : SD) (j : Nat) (hj : j ≤ cnt d.length s) : gat (G ++ [(sd, bytesF X)]) j = bytesF (allX h o d s X j) := by
  unfold allX
  by_cases h1 : j < cnt d.length s
  · rw [if_pos h1, ← P.gat h1]
    unfold gat
    rw [List.getElem?_append_left (by rw [P.len]; exact h1)]
  · rw [if_neg h1]
    have : j = G.length := by rw [P.len]; omega
    unfold gat
    rw [this, List.getElem?_append_right (Nat.le_refl _), Nat.sub_self]
    rfl
set_option maxHeartbeats 8000000 in
set_option maxRecDepth 100000 in
theorem fragDead_walk (h0 h1 h2 h3 h4 h5 h6 h7 h8 h9 h10 h11 words far many : Int) (df mf : Bool) (A : Option Addr) (n c : Nat) (zs : List Int) (q wi : Int) (Bh : Option Addr) (bn bc : Nat) (ys : List Int) (w : World) (hb : BD 255 [h0, h1, h2, h3, h4, h5, h6, h7, h8, h9, h10, h11]) (hw : 0 ≤ words ∧ words ≤ 255) (hf : 0 ≤ far ∧ far ≤ 255) (hm : 0 ≤ many ∧ many ≤ 255) (h : ROW .u8 255 w A n c zs) (hq : 0 ≤ q ∧ q ≤ 255) (hwi : 0 ≤ wi ∧ wi ≤ 255) (hB : ROW .u8 255 w Bh bn bc ys) :
    Calls Try.prog 7 #[.agg (sm18 h0 h1 h2 h3 h4 h5 h6 h7 h8 h9 h10 h11 words far many df mf (.slice A n c)), .int .u8 q, .int .u8 wi, .slice Bh bn bc] w fun e w' => e = .returned (.bool true) ∧ Below w.heap.size w w' := by
  obtain ⟨i0, hi, hz0, hz1, hz2⟩ := info_parts infoU8
  obtain ⟨SB, hSB⟩ : ∃ b, b = w.heap.size := ⟨_, rfl⟩
  have X1 := Lib.hid ((SP.start w).alloc' (N := SB) 25 (sm18 h0 h1 h2 h3 h4 h5 h6 h7 h8 h9 h10 h11 words far many df mf (.slice A n c)) hSB.symm)
  have HM := Lib.hid (fun W (hW : Below w.heap.size w W) => made7_any h0 h1 h2 h3 h4 h5 h6 h7 h8 h9 h10 h11 words far many df mf A n c zs W hb hw hf hm (h.rd.later hW) h.bd h.le h.cap)
  have HBY := Lib.hid (fun W (hW : Below w.heap.size w W) => (hB.rd.below hW).more hW.size)
  have HBB := Lib.hid (And.intro hB.bd (And.intro hB.le hB.cap))
  clear hb hw hf hm h hB
  unfold sm18 at X1 HM ⊢
  generalize hHH : HDM h0 h1 h2 h3 h4 h5 h6 h7 h8 h9 h10 false false 0 = h at HM
  go_enter Try.func7, Try.ntmps7
  go_wp2_with fail
  rw [← hSB]
  generalize hw1 : w.alloc (.cells #[.int .u8 h0, .int .u8 h1, .int .u8 h2, .int .u8 h3, .int .u8 h4, .int .u8 h5, .int .u8 h6, .int .u8 h7, .int .u8 h8, .int .u8 h9, .int .u8 h10, .int .u8 h11, .int .u8 words, .int .u8 far, .int .u8 many, .bool df, .bool mf, .slice A n c] 25) = w1 at X1 ⊢
  clear hw1 hSB
  refine (awake7_any _).mono ?_
  rintro e w2 ⟨rfl, hb2⟩
  have X2 := Lib.hid (X1.out.next hb2)
  clear hb2 X1
  have HK := Lib.hid (X2.out.blk 0 rfl)
  go_wp2_with (refine wpList_load_row rfl 25 _ rfl SB rfl 25 #[.int .u8 h0, .int .u8 h1, .int .u8 h2, .int .u8 h3, .int .u8 h4, .int .u8 h5, .int .u8 h6, .int .u8 h7, .int .u8 h8, .int .u8 h9, .int .u8 h10, .int .u8 h11, .int .u8 words, .int .u8 far, .int .u8 many, .bool df, .bool mf, .slice A n c] (0, 0) _ HK.out Try.underlying25 rfl (by kernel_rfl) ?_)
  refine (HM.out _ X2.out.bel).mono ?_
  rintro e w3 ⟨o, d, Ab, nb, cb, rfl, hp, ho, hbl⟩
  have X3 := Lib.hid (show SP w w3 [.blk SB 25 #[.int .u8 h0, .int .u8 h1, .int .u8 h2, .int .u8 h3, .int .u8 h4, .int .u8 h5, .int .u8 h6, .int .u8 h7, .int .u8 h8, .int .u8 h9, .int .u8 h10, .int .u8 h11, .int .u8 words, .int .u8 far, .int .u8 many, .bool df, .bool mf, .slice A n c], .own .u8 5 Ab nb cb (pktB h o d)] from X2.out.pushOwn hbl ho)
  have HP := Lib.hid hp
  obtain ⟨kb1, kb2⟩ := ho.le
  have HNB := Lib.hid ho.len
  have hnb : nb ≤ 156 := by
    have h1 := ho.len
    have h2 := hp.len
    have h3 := hp.right.2.2.2.1
    rw [pkt_len] at h1; omega
  have hdl : 16 ≤ d.length ∧ d.length ≤ 96 := hp.len
  clear hp ho hbl X2 HM HK
  obtain ⟨s, hs, hs8, hs0, hs32⟩ := size_nat q hq
  go_wp2_with fail
  refine (size7s q hq hs _).mono ?_
  rintro e w4 ⟨rfl, hw4⟩
  obtain rfl := hw4
  go_wp2_with fail
  refine (split7 HP.out hs8 hs0 hs32 Ab nb cb X3.out (fun W hS => hS.rd 1 rfl) kb1 (by omega)).mono ?_
  rintro e w5 ⟨lg, nl, cl, G, rfl, hGl, hnl, hPI, hS⟩
  have X4 := Lib.hid hS
  have PI := Lib.hid hPI
  have hc12 := hPI.cnt_le
  have HNL := Lib.hid (And.intro hGl hnl)
  have hnl12 : 1 ≤ nl ∧ nl ≤ 12 := by omega
  clear hS hPI hGl hnl X3 hs
  have RF := Lib.hid (fun (W : World) (hs : SP w W (.row 23 1 (some ⟨lg, 0, none⟩) nl cl (G.map gV) :: (G.map gIT ++ [.blk SB 25 #[.int .u8 h0, .int .u8 h1, .int .u8 h2, .int .u8 h3, .int .u8 h4, .int .u8 h5, .int .u8 h6, .int .u8 h7, .int .u8 h8, .int .u8 h9, .int .u8 h10, .int .u8 h11, .int .u8 words, .int .u8 far, .int .u8 many, .bool df, .bool mf, .slice A n c], .own .u8 5 Ab nb cb (pktB h o d)]))) => (show PKS W (some ⟨lg, 0, none⟩) G ∧ RD .u8 W W.heap.size Ab nb (pktB h o d) from ⟨pks_split PI.out hs, hs.tail.right.rd 1 rfl⟩))
  generalize hR0 : (.row 23 1 (some ⟨lg, 0, none⟩) nl cl (G.map gV) :: (G.map gIT ++ [.blk SB 25 #[.int .u8 h0, .int .u8 h1, .int .u8 h2, .int .u8 h3, .int .u8 h4, .int .u8 h5, .int .u8 h6, .int .u8 h7, .int .u8 h8, .int .u8 h9, .int .u8 h10, .int .u8 h11, .int .u8 words, .int .u8 far, .int .u8 many, .bool df, .bool mf, .slice A n c], .own .u8 5 Ab nb cb (pktB h o d)]) : List IT) = R0 at X4 RF
  clear hR0
  clear hc12
  by_cases h1 : nl = 1
  · have t1 : (nl : Int) < 2 := by omega
    have Z := Lib.hid X4.out.bel
    go_wp2_with fail
    go_ret
    exact ⟨rfl, Z.out⟩
  have t1 : ¬ (nl : Int) < 2 := by omega
  have hN2 : 2 ≤ nl := by omega
  have hk0 : 0 ≤ wi % (nl : Int) := Int.emod_nonneg _ (by omega)
  have hk1 : wi % (nl : Int) < (nl : Int) := Int.emod_lt_of_pos _ (by omega)
  obtain ⟨k, hk⟩ : ∃ k : Nat, wi % (nl : Int) = (k : Int) := ⟨(wi % (nl : Int)).toNat, by omega⟩
  have hkm : k < nl := by omega
  have c1 : IntKind.i64.wrap wi = wi := IntWalk.i64_in _ (by omega)
  have c2 : wi.tmod (nl : Int) = (k : Int) := by rw [Int.tmod_eq_emod_of_nonneg (by omega)]; exact hk
  have c3 : IntKind.i64.wrap (k : Int) = (k : Int) := IntWalk.i64_in _ (by omega)
  have c8 : (nl : Int) ≠ 0 := by omega
  clear hk hk0 hk1
  have hPK : ∀ (W : World), SP w W R0 → ∀ j, j < nl → ∃ gA gn gc, W.cell? ⟨lg, j, none⟩ = some (.slice gA gn gc) ∧ G[j]? = some (⟨gA, gn, gc⟩, bytesF (pieceF ⟨h, o, d⟩ s j)) ∧ gn ≤ gc ∧ gn ≤ 140737488351232 := fun W hS j hj => by
    obtain ⟨⟨gA, gn, gc⟩, hg⟩ := PI.out.at_ (j := j) (by have := HNL.out.2; omega)
    obtain ⟨⟨lb, lof, hlg, x1⟩, p2, p3, p4, p5⟩ := (RF.out W hS).1 j _ hg
    cases hlg
    rw [Nat.zero_add] at x1
    exact ⟨gA, gn, gc, x1, hg, p4, p5⟩
  have HPK := Lib.hid hPK
  clear hPK
  have i1 : (0 : Int) ≤ (k : Int) := by omega
  have i2 : (k : Int) < (nl : Int) := by omega
  obtain ⟨gA, gn, gc, x2, hgk, hgc, hgm⟩ := HPK.out w5 X4.out k hkm
  have HGK := Lib.hid hgk
  clear hgk
  go_upto_region 9 with fail
  clear c1 c2 x2
  obtain ⟨B, hB⟩ : ∃ B : Bool, (decide (128 ≤ wi) && decide (1 ≤ k)) = B := ⟨_, rfl⟩
  go_cut [62] (fun s62 wx => wx = w5 ∧ s62 = .bool B)
  case first =>
    by_cases hb1 : 128 ≤ wi
    · by_cases hb2 : 1 ≤ k
      · have j1 : (0 : Int) < (k : Int) := by omega
        have j1' : 0 < k := by omega
        obtain rfl : true = B := by rw [← hB]; simp [hb1, hb2]
        clear hB
        go_wp2_with fail
        go_meet
        exact ⟨rfl, rfl⟩
      · have j1 : ¬ (0 : Int) < (k : Int) := by omega
        have j1' : ¬ 0 < k := by omega
        obtain rfl : false = B := by rw [← hB]; simp; omega
        clear hB
        go_wp2_with fail
        go_meet
        exact ⟨rfl, rfl⟩
    · have j0 : ¬ (128 : Int) ≤ wi := hb1
      obtain rfl : false = B := by rw [← hB]; simp; omega
      clear hB
      go_wp2_with fail
      go_meet
      exact ⟨rfl, rfl⟩
  case rest =>
  obtain ⟨hwd, rfl⟩ := hcut
  subst hwd
  have HBB2 := Lib.hid (show B = true → 1 ≤ k by intro hb; rw [hb] at hB; simp at hB; omega)
  clear hB
  go_upto_if 62 with fail
  go_cut [13, 14, 15, 16, 17] (fun s13 _ _ _ _ wx => ∃ (X : FR) (kk : Nat) (eA : Option Addr) (en ec : Nat) (RX : List IT), EXTRA h o d s kk X ∧ s13 = .slice eA en ec ∧ SP w wx RX ∧ en ≤ ec ∧ en ≤ 100000 ∧ ∀ W, SP w W RX → SP w W R0 ∧ RD .u8 W W.heap.size eA en (bytesF X))
  case first =>
    cases B
    · go_wp2_with fail
      go_meet
      have hE := extra_same HP.out.whole hs8 hs0 (by have := HNL.out.2; omega) (show k < cnt d.length s by have := HNL.out.2; omega)
      refine ⟨_, k, gA, gn, gc, R0, hE, rfl, X4.out, hgc, ?_, fun W hS => ⟨hS, ((RF.out W hS).1 k _ HGK.out).2.1⟩⟩
      have h2 := ((RF.out wc X4.out).1 k _ HGK.out).2.1.len
      have h3 := frg_small hE.frg
      simp only at h2; omega
    · have hk1 : 1 ≤ k := HBB2.out rfl
      obtain ⟨kp, rfl⟩ : ∃ kp, k = kp + 1 := ⟨k - 1, by omega⟩
      obtain ⟨pA, pn, pc, x3, hgp, hpc, hpm⟩ := HPK.out wc X4.out kp (by omega)
      obtain ⟨hE, hE1, hE2, hE3, hE4, hE5⟩ := extra_8 HP.out.whole hs8 hs0 (k := kp) (by have := HNL.out.2; omega)
      generalize pieceF ⟨h, o, d⟩ 8 (s / 8 * kp) = X at hE hE1 hE2 hE3 hE4
      have j1 : IntKind.i64.wrap (((kp + 1 : Nat) : Int) - 1) = (kp : Int) := by rw [IntWalk.i64_in _ (by omega)]; omega
      have j1' : IntKind.i64.wrap ((kp : Int) + 1 - 1) = (kp : Int) := by rw [IntWalk.i64_in _ (by omega)]; omega
      have j2 : (kp : Int) < (nl : Int) := by omega
      have j3 : (0 : Int) ≤ (kp : Int) := by omega
      have j4 : IntKind.i64.wrap (kp : Int) = (kp : Int) := IntWalk.i64_in _ (by omega)
      have hfp := PI.out.frg (j := kp) (by have := HNL.out.2; omega)
      have HZR := Lib.hid (read_frg hfp)
      have hpl : pn = 20 + o.length + s := by
        have h2 := ((RF.out wc X4.out).1 kp _ hgp).2.1.len
        rw [frg_len hfp, hE5] at h2
        exact h2.symm
      have ho40 := HP.out.right.2.2.2.1
      obtain ⟨fr, hfr⟩ : ∃ fr, 20 + o.length = fr := ⟨_, rfl⟩
      rw [hfr] at hpl
      have HFR := Lib.hid hfr
      have HPL := Lib.hid hpl
      have HX := Lib.hid (And.intro hE (And.intro hE1 (And.intro hE2 (And.intro hE3 hE4))))
      have HRP := Lib.hid (fun (W : World) (hS : SP w W R0) => (show RD .u8 W W.heap.size pA pn (bytesF (pieceF ⟨h, o, d⟩ s kp)) from ((RF.out W hS).1 kp _ hgp).2.1))
      have j5 : IntKind.i64.wrap ((fr : Int) + 8) = ((fr + 8 : Nat) : Int) := by rw [IntWalk.i64_in _ (by omega)]; omega
      have HC3 := Lib.hid (fun (W : World) (hS : SP w W R0) => (show W.cell? ⟨lg, kp, none⟩ = some (.slice pA pn pc) from by
        obtain ⟨A', n', c', y1, y2, _⟩ := HPK.out W hS kp (by omega)
        rw [hgp] at y2
        cases y2
        exact y1))
      have HRD := Lib.hid (read_any pA pn pc (bytesF (pieceF ⟨h, o, d⟩ s kp)) wc (HRP.out wc X4.out) hfp.bds hpc (by omega))
      obtain ⟨E8, hE8⟩ : ∃ x, fr + 8 = x := ⟨_, rfl⟩
      have hE8b : fr ≤ E8 ∧ E8 ≤ pn ∧ E8 - fr = 8 := by omega
      rw [hE8] at j5
      have s1 := fun W => run_slice_lohi (P := Try.prog) W Try.underlying23 hi hz1 pA pn pc (fr : Int) (E8 : Int) fr E8 rfl rfl (by omega) (by omega)
      clear hgp hfp hpl hfr hE hE1 hE2 hE3 hE4 hE5 hE8 hgc hgm
      go_wp2_with fail
      refine HRD.out.mono ?_
      rintro e w6 ⟨Ao, on, oc, rfl, owno, hbo⟩
      rw [HZR.out.1, HZR.out.2.1, HZR.out.2.2.1, HZR.out.2.2.2.1, ← HX.out.2.2.1, HFR.out]
      rw [HZR.out.2.2.2.2] at owno
      have X5 := Lib.hid (show SP w w6 (.own .u8 5 Ao on oc o :: R0) from (X4.out.pushOwn hbo owno).rot)
      have hon : on ≤ 40 := by have := owno.len; omega
      clear hbo owno HRD x3
      unfold HD.val HD.cells
      obtain ⟨HN, hHN⟩ : ∃ b, w6.heap.size = b := ⟨_, rfl⟩
      have HMF := Lib.hid HX.out.2.1
      obtain ⟨⟨vt, vi, vd, vm, vo, vl, vp, vs, vx⟩, Xo, Xd⟩ := X
      obtain rfl : vm = true := HMF.out
      have X6 := Lib.hid (show SP w _ (.blk HN 49 #[.int .u8 vt, .int .u16 vi, .bool vd, .bool true, .int .i64 vo, .int .u8 vl, .int .u8 vp, .int .u32 vs, .int .u32 vx, .slice Ao on oc] :: .own .u8 5 Ao on oc o :: R0) from (X5.out.alloc' 49 #[.int .u8 vt, .int .u16 vi, .bool vd, .bool true, .int .i64 vo, .int .u8 vl, .int .u8 vp, .int .u32 vs, .int .u32 vx, .slice Ao on oc] hHN).rot)
      go_upto_region 11 with fail
      try rw [hHN]
      generalize hw7 : w6.alloc (.cells #[.int .u8 vt, .int .u16 vi, .bool vd, .bool true, .int .i64 vo, .int .u8 vl, .int .u8 vp, .int .u32 vs, .int .u32 vx, .slice Ao on oc] 49) = w7 at X6 ⊢
      clear hw7 hHN X5
      have q3 := X6.out.free 0 rfl 3
      have y3 := X6.out.cell 0 rfl 3 (v := .bool true) rfl
      have X7 := Lib.hid (show SP w (w7.setCell ⟨HN, 3, none⟩ (.bool true)) (.blk HN 49 #[.int .u8 vt, .int .u16 vi, .bool vd, .bool true, .int .i64 vo, .int .u8 vl, .int .u8 vp, .int .u32 vs, .int .u32 vx, .slice Ao on oc] :: .own .u8 5 Ao on oc o :: R0) from X6.out.setB 0 rfl 3 (.bool true))
      go_upto_region 12 with fail
      generalize hw8 : w7.setCell ⟨HN, 3, none⟩ (.bool true) = w8 at X7 ⊢
      clear hw8 X6 q3 y3
      have XD := Lib.hid X7.out.drew
      clear X7
      refine wp_region_noPanic ?_
      refine wp_region_held_drew (S := fun W' => W'.cell? ⟨lg, kp, none⟩ = some (.slice pA pn pc) ∧ BLOCK W' HN 49 #[.int .u8 vt, .int .u16 vi, .bool vd, .bool true, .int .i64 vo, .int .u8 vl, .int .u8 vp, .int .u32 vs, .int .u32 vx, .slice Ao on oc]) (by kernel_rfl) (by exact ⟨HC3.out _ XD.out.tail.tail, XD.out.blk 0 rfl⟩) (fun hHeld => ?_)
      generalize w8.drew = v1 at XD hHeld ⊢
      refine' take_lit (i := 0) (v := .agg (#[.int .u8 vt, .int .u16 vi, .bool vd, .bool true, .int .i64 vo, .int .u8 vl, .int .u8 vp, .int .u32 vs, .int .u32 vx, .slice Ao on oc])) rfl (by kernel_rfl) (by kernel_rfl) (by kernel_rfl) (fun _ _ _ h => h) (Or.inl ⟨by rfl, ?yy1⟩) (by assumption) ?rr1
      case yy1 => intro w' hSw; exact exec_load_row 49 _ rfl HN rfl 49 (#[.int .u8 vt, .int .u16 vi, .bool vd, .bool true, .int .i64 vo, .int .u8 vl, .int .u8 vp, .int .u32 vs, .int .u32 vx, .slice Ao on oc]) (0, 0) _ (hSw.2) Try.underlying49 rfl (by kernel_rfl)
      (try simp only [Act.put]); (try simp only [List.setIfInBounds_toArray, List.set_cons_zero, List.set_cons_succ])
      refine' take_lit (i := 1) (v := _) rfl (by kernel_rfl) (by kernel_rfl) (by kernel_rfl) (fun _ _ _ h => h) (Or.inl ⟨by rfl, ?yy2⟩) (by assumption) ?rr2
      case yy2 => intro w' hSw; obtain ⟨hs1, hs2⟩ := hSw; go_simp; try (with_reducible rfl)
      (try simp only [Act.put]); (try simp only [List.setIfInBounds_toArray, List.set_cons_zero, List.set_cons_succ])
      refine' take_lit (i := 2) (v := _) rfl (by kernel_rfl) (by kernel_rfl) (by kernel_rfl) (fun _ _ _ h => h) (Or.inl ⟨by rfl, ?yy3⟩) (by assumption) ?rr3
      case yy3 => intro w' hSw; obtain ⟨hs1, hs2⟩ := hSw; go_simp; try (with_reducible rfl)
      (try simp only [Act.put]); (try simp only [List.setIfInBounds_toArray, List.set_cons_zero, List.set_cons_succ])
      refine' take_lit (i := 3) (v := _) rfl (by kernel_rfl) (by kernel_rfl) (by kernel_rfl) (fun _ _ _ h => h) (Or.inl ⟨by rfl, ?yy4⟩) (by assumption) ?rr4
      case yy4 => intro w' hSw; obtain ⟨hs1, hs2⟩ := hSw; go_simp; try (with_reducible rfl)
      (try simp only [Act.put]); (try simp only [List.setIfInBounds_toArray, List.set_cons_zero, List.set_cons_succ])
      refine' take_lit (i := 4) (v := _) rfl (by kernel_rfl) (by kernel_rfl) (by kernel_rfl) (fun _ _ _ h => h) (Or.inl ⟨by rfl, ?yy5⟩) (by assumption) ?rr5
      case yy5 => intro w' hSw; obtain ⟨hs1, hs2⟩ := hSw; go_simp; try (with_reducible rfl)
      (try simp only [Act.put]); (try simp only [List.setIfInBounds_toArray, List.set_cons_zero, List.set_cons_succ])
      refine' take_lit (i := 5) (v := _) rfl (by kernel_rfl) (by kernel_rfl) (by kernel_rfl) (fun _ _ _ h => h) (Or.inl ⟨by rfl, ?yy6⟩) (by assumption) ?rr6
      case yy6 => intro w' hSw; obtain ⟨hs1, hs2⟩ := hSw; go_simp; try (with_reducible rfl)
      (try simp only [Act.put]); (try simp only [List.setIfInBounds_toArray, List.set_cons_zero, List.set_cons_succ])
      refine' take_lit (i := 6) (v := _) rfl (by kernel_rfl) (by kernel_rfl) (by kernel_rfl) (fun _ _ _ h => h) (Or.inl ⟨by rfl, ?yy7⟩) (by assumption) ?rr7
      case yy7 => intro w' hSw; obtain ⟨hs1, hs2⟩ := hSw; go_simp; try (with_reducible rfl)
      (try simp only [Act.put]); (try simp only [List.setIfInBounds_toArray, List.set_cons_zero, List.set_cons_succ])
      refine' take_lit (i := 7) (v := _) rfl (by kernel_rfl) (by kernel_rfl) (by kernel_rfl) (fun _ _ _ h => h) (Or.inl ⟨by rfl, ?yy8⟩) (by assumption) ?rr8
      case yy8 => intro w' hSw; obtain ⟨hs1, hs2⟩ := hSw; go_simp; try (with_reducible rfl)
      (try simp only [Act.put]); (try simp only [List.setIfInBounds_toArray, List.set_cons_zero, List.set_cons_succ])
      refine' take_lit (i := 8) (v := _) rfl (by kernel_rfl) (by kernel_rfl) (by kernel_rfl) (fun _ _ _ h => h) (Or.inl ⟨by rfl, ?yy9⟩) (by assumption) ?rr9
      case yy9 => intro w' hSw; obtain ⟨hs1, hs2⟩ := hSw; go_simp; try (with_reducible rfl)
      (try simp only [Act.put]); (try simp only [List.setIfInBounds_toArray, List.set_cons_zero, List.set_cons_succ])
      refine' take_lit (i := 9) (v := _) rfl (by kernel_rfl) (by kernel_rfl) (by kernel_rfl) (fun _ _ _ h => h) (Or.inl ⟨by rfl, ?yy10⟩) (by assumption) ?rr10
      case yy10 => intro w' hSw; obtain ⟨hs1, hs2⟩ := hSw; go_simp; try (with_reducible rfl)
      (try simp only [Act.put]); (try simp only [List.setIfInBounds_toArray, List.set_cons_zero, List.set_cons_succ])
      refine wpAnyH_ready (rs := [10]) (by kernel_rfl) (by simp) ?_
      refine cons_lit rfl (fun K hK => ?ss10x11) AllReadyH.nil
      case ss10x11 =>
        go_simp
        refine (write_yes ⟨vt, vi, vd, true, vo, vl, vp, vs, vx⟩ Ao on oc o (cutA pA pc fr) 8 (pc - fr) Xd v1 HX.out.1.frg.ok.wf (XD.out.rd 1 rfl) HP.out.op ?rdd ?rgt).mono ?_
        case rdd =>
          have h2 := (HRP.out v1 XD.out.tail.tail).mid (lo := fr) (hi := E8) (by omega) (by omega) hpc
          have h3 : ((bytesF (pieceF ⟨h, o, d⟩ s kp)).drop fr).take (E8 - fr) = Xd := by
            have h4 : (bytesF (pieceF ⟨h, o, d⟩ s kp)).drop fr = (pieceF ⟨h, o, d⟩ s kp).d := by
              rw [← HFR.out]
              show (pktB _ _ _).drop _ = _
              unfold pktB
              rw [List.drop_left' (by rw [fixOf_len, headB_len]; rfl)]
            rw [h4, hE8b.2.2]
            exact HX.out.2.2.2.1.symm
          rw [h3, hE8b.2.2] at h2
          exact h2
        case rgt =>
          have h2 := HX.out.1.frg.right
          have h3 : Xo = o := HX.out.1.frg.o
          have h4 : Xd.length = 8 := HX.out.2.2.2.2
          have h5 := (XD.out.own 1 rfl).len
          rw [← h5, ← h3]
          have h6 : Rightly vo true Xo.length (Xd.length : Int) := h2
          rw [h4] at h6
          exact h6
        rintro e v2 ⟨A9, n9, c9, rfl, ho9, hb9⟩
        have Y1 := Lib.hid (show SP w v2 (.own .u8 5 A9 n9 c9 (bytesF ⟨⟨vt, vi, vd, true, vo, vl, vp, vs, vx⟩, Xo, Xd⟩) :: .blk HN 49 #[.int .u8 vt, .int .u16 vi, .bool vd, .bool true, .int .i64 vo, .int .u8 vl, .int .u8 vp, .int .u32 vs, .int .u32 vx, .slice Ao on oc] :: .own .u8 5 Ao on oc o :: R0) by
          have h3 : Xo = o := HX.out.1.frg.o
          show SP w v2 (.own .u8 5 A9 n9 c9 (pktB ⟨vt, vi, vd, true, vo, vl, vp, vs, vx⟩ Xo Xd) :: _)
          rw [h3]
          exact (XD.out.pushOwn hb9 ho9).rot)
        clear ho9 hb9 XD
        try simp only [Oper.upon_returned]
        refine hK.out _ _ (by exact ⟨HC3.out _ Y1.out.tail.tail.tail, Y1.out.blk 1 rfl⟩) (fun hHeld => ?_)
        clear hK K
        (try simp only [Act.put]); (try simp only [List.setIfInBounds_toArray, List.set_cons_zero, List.set_cons_succ])
        refine' take_lit (i := 11) (v := _) rfl (by kernel_rfl) (by kernel_rfl) (by kernel_rfl) (fun _ _ _ h => h) (Or.inl ⟨by rfl, ?yy12⟩) (by assumption) ?rr12
        case yy12 => intro w' hSw; obtain ⟨hs1, hs2⟩ := hSw; go_simp; try (with_reducible rfl)
        (try simp only [Act.put]); (try simp only [List.setIfInBounds_toArray, List.set_cons_zero, List.set_cons_succ])
        refine' take_lit (i := 12) (v := _) rfl (by kernel_rfl) (by kernel_rfl) (by kernel_rfl) (fun _ _ _ h => h) (Or.inl ⟨by rfl, ?yy13⟩) (by assumption) ?rr13
        case yy13 => intro w' hSw; obtain ⟨hs1, hs2⟩ := hSw; go_simp; try (with_reducible rfl)
        (try simp only [Act.put]); (try simp only [List.setIfInBounds_toArray, List.set_cons_zero, List.set_cons_succ])
        refine' take_lit (i := 13) (v := _) rfl (by kernel_rfl) (by kernel_rfl) (by kernel_rfl) (fun _ _ _ h => h) (Or.inl ⟨by rfl, ?yy14⟩) (by assumption) ?rr14
        case yy14 => intro w' hSw; obtain ⟨hs1, hs2⟩ := hSw; go_simp; try (with_reducible rfl)
        (try simp only [Act.put]); (try simp only [List.setIfInBounds_toArray, List.set_cons_zero, List.set_cons_succ])
        refine' take_lit (i := 14) (v := _) rfl (by kernel_rfl) (by kernel_rfl) (by kernel_rfl) (fun _ _ _ h => h) (Or.inl ⟨by rfl, ?yy15⟩) (by assumption) ?rr15
        case yy15 => intro w' hSw; obtain ⟨hs1, hs2⟩ := hSw; go_simp; try (with_reducible rfl)
        (try simp only [Act.put]); (try simp only [List.setIfInBounds_toArray, List.set_cons_zero, List.set_cons_succ])
        refine wpAnyH_done (by kernel_rfl) ?_ _
        refine NoPanic.normal ?_
        go_wp2_with fail
        go_meet
        have hle9 := (Y1.out.own 0 rfl).le.1
        have hl9 := (Y1.out.own 0 rfl).len
        have hs9 := frg_small HX.out.1.frg
        exact ⟨_, kp, A9, n9, c9, _, HX.out.1, rfl, Y1.out, hle9, by omega, fun W hS => ⟨hS.tail.tail.tail, hS.rd 0 rfl⟩⟩
  case rest =>
  obtain ⟨X, kk, eA, en, ec, RX, hE, rfl, hX, hen, hen2, hRX⟩ := hcut
  have X5 := Lib.hid hX
  have HE := Lib.hid hE
  have HRX := Lib.hid hRX
  clear hX hE hRX X4 HGK HBB2 hgc hgm
  obtain ⟨i9, hi9, hy0, hy1, hy2⟩ := info_parts (show (Try.prog.info? 23).map (fun i => (i.zero, i.size, i.bytes)) = some (some (.slice none 0 0), 1, 24) by kernel_rfl)
  have PALL := Lib.hid (fun (W : World) (hS : SP w W RX) => all_cells (RF.out W (HRX.out W hS).1).1)
  obtain ⟨na, hna⟩ : ∃ x, nl + 1 = x := ⟨_, rfl⟩
  have HNA := Lib.hid hna
  have hna13 : na ≤ 13 := by omega
  clear hna
  obtain ⟨EB, hEB⟩ : ∃ b, wc.heap.size = b := ⟨_, rfl⟩
  have X6 := Lib.hid (show SP w (wc.alloc (.cells #[] 23)) (.row 23 1 (some ⟨EB, 0, none⟩) 0 0 [] :: RX) from (X5.out.allocRow7 23 1 0 #[] (Nat.zero_le _) rfl hEB).rot)
  go_upto_region 14 with (first
    | (at_builtin; refine wpList_append_row1 _ rfl _ _ 30 rfl w.heap.size 23 i9 _ 1 24 Try.underlying30 hi9 hy0 hy1 hy2 (by rfl) (by decide) Ax nl cx (G.map gV) rfl (X8.out.row 0 rfl) ⟨EC, 0, none⟩ 1 1 [.slice eA en ec] rfl rfl (by intro j u hu; rw [← hEC]; exact one_new wX 23 _ j u hu) (by intro z hz; simp at hz; subst hz; rfl) (by simp only [maxLen]; omega) (by omega) X8.out.size ?_; intro Ay cy wY hrow hgrow hat; have X9 := Lib.hid (X8.out.appRow 0 rfl hrow hgrow hat); clear hrow hgrow hat; rw [HNA.out])
    | (at_builtin; refine wpList_append_row1 _ rfl _ _ 30 rfl w.heap.size 23 i9 _ 1 24 Try.underlying30 hi9 hy0 hy1 hy2 (by rfl) (by decide) (some ⟨EB, 0, none⟩) 0 0 [] rfl (X6.out.row 0 rfl) ⟨lg, 0, none⟩ nl cl (G.map gV) rfl (by have := HNL.out.1; simp; omega) (PALL.out _ X6.out.tail) (gV_one _) (by simp only [maxLen]; omega) (by omega) X6.out.size ?_; intro Ax cx wX hrow hgrow hat; have X7 := Lib.hid (show SP w wX (.row 23 1 Ax nl cx (G.map gV) :: RX) by have h2 := X6.out.appRow 0 rfl hrow hgrow hat; rw [Nat.zero_add] at h2; exact h2); rw [Nat.zero_add]; obtain ⟨EC, hEC⟩ : ∃ b, wX.heap.size = b := ⟨_, rfl⟩; have X8 := Lib.hid (X7.out.next ((Below.refl _ wX).alloc (Nat.le_refl _) (.cells #[.slice eA en ec] 23))); clear hrow hgrow hat))
  have X10 := Lib.hid (show SP w wY (.row 23 1 Ay na cy ((G ++ [((⟨eA, en, ec⟩ : SD), bytesF X)]).map gV) :: RX) by rw [List.map_append, ← HNA.out]; exact X9.out)
  obtain ⟨ag, hag, _⟩ := row_head (X10.out.row 0 rfl) (by have := HNA.out; omega)
  subst hag
  have RG := Lib.hid (fun (W : World) (hs : SP w W (.row 23 1 (some ⟨ag, 0, none⟩) na cy ((G ++ [((⟨eA, en, ec⟩ : SD), bytesF X)]).map gV) :: RX)) => (show PKS W (some ⟨ag, 0, none⟩) (G ++ [((⟨eA, en, ec⟩ : SD), bytesF X)]) ∧ PKS W (some ⟨lg, 0, none⟩) G ∧ RD .u8 W W.heap.size Ab nb (pktB h o d) from ⟨pks_mk hs List.mem_cons_self (fun g hg => by
    rcases List.mem_append.1 hg with h2 | h2
    · exact (RF.out W (HRX.out W hs.tail).1).1.each g h2
    · simp at h2
      subst h2
      exact ⟨(HRX.out W hs.tail).2, HE.out.frg.bds, hen, by show en ≤ 140737488351232; omega⟩), RF.out W (HRX.out W hs.tail).1⟩))
  generalize hR2 : (.row 23 1 (some ⟨ag, 0, none⟩) na cy ((G ++ [((⟨eA, en, ec⟩ : SD), bytesF X)]).map gV) :: RX : List IT) = R2 at X10 RG
  clear hR2 X9 X8 X7 X6 X5 PALL hEC hEB
  go_wp2_with fail
  refine (tnew 2 10 X10.out ⟨by omega, by omega⟩ ⟨by omega, by omega⟩).mono ?_
  rintro e w6 ⟨TB, rfl, hT⟩
  have X11 := Lib.hid hT
  clear hT X10
  go_wp2_with fail
  refine (shuf_any na (by omega) Bh bn bc ys w6 (HBY.out _ X11.out.bel) HBB.out.1 (by have := HBB.out.2; simp only [maxLen] at this; omega)).mono ?_
  rintro e w7 ⟨OA, oc, σ, rfl, hσ, ho, hbo⟩
  have X12 := Lib.hid (X11.out.push hbo ho)
  have HSG := Lib.hid (show σ.Perm (List.range (cnt d.length s + 1)) by rw [← HNL.out.2, HNA.out]; exact hσ)
  have HSL := Lib.hid (show σ.length = na by have := hσ.length_eq; simpa using this)
  clear hσ ho hbo X11
  have hN2' := HNL.out.2
  have HC2 := Lib.hid (show 2 ≤ cnt d.length s by omega)
  clear hN2'
  go_upto_region 19 with fail
  go_loopw [20, 21, 22, 23, 24, 106] (fun s20 _ _ _ _ s106 wr => ∃ (i : Nat) (dd : Bool) (a : AT), i ≤ na ∧ s20 = .bool dd ∧ s106 = .int .i64 (i : Int) ∧ a.limit = 2 ∧ a.life = 10 ∧ a.now ≤ 3 ∧ (dd = false → DLIVE 3 h o d s kk X σ i a.gs) ∧ (dd = true → DDEAD 3 h a.gs) ∧ TAB w wr TB a (.own .i64 3 OA na oc (σ.map (fun (i : Nat) => (i : Int))) :: R2)) (fun _ _ _ _ _ s106 _ => na - (intOf s106).toNat)
  case atStart => exact ⟨0, false, _, by omega, rfl, rfl, rfl, rfl, by show (0 : Int) ≤ 3; omega, fun _ => DLIVE.start HP.out.whole 3 s kk X σ, (fun h => by cases h), X12.out⟩
  case round =>
    obtain ⟨i, dd, a, hi2, rfl, rfl, ha1, ha2, ha3, hLV, hDD, Y0⟩ := hrel
    have Y := Lib.hid Y0
    have HA := Lib.hid (And.intro ha1 (And.intro ha2 ha3))
    have HLV := Lib.hid hLV
    have HDD := Lib.hid hDD
    clear Y0 X12 ha1 ha2 ha3 hLV hDD
    have e6 : IntKind.i64.wrap ((i : Int) + 1) = (i : Int) + 1 := IntWalk.i64_in _ (by omega)
    by_cases hlt : i < na
    · have i3 : (0 : Int) ≤ (i : Int) := by omega
      have i4 : (i : Int) < (na : Int) := by omega
      obtain ⟨at_, hat⟩ : ∃ x, σ[i]? = some x := ⟨_, List.getElem?_eq_getElem (by rw [HSL.out]; exact hlt)⟩
      have hatl : at_ ≤ nl := by
        have h2 := HSG.out.mem_iff.1 (List.mem_of_getElem? hat)
        have h3 := HNL.out.2
        simp at h2; omega
      obtain ⟨ob, oof, rfl, _, hoc⟩ := (Y.out.right.rd 0 rfl).2 (by omega)
      have x1 := hoc i hlt
      rw [List.getElem?_map, hat] at x1
      replace x1 : wr.cell? ⟨ob, oof + i, none⟩ = some (.int .i64 (at_ : Int)) := x1
      obtain ⟨g, hg⟩ : ∃ g, (G ++ [((⟨eA, en, ec⟩ : SD), bytesF X)])[at_]? = some g := ⟨_, List.getElem?_eq_getElem (by have := HNL.out.1; simp; omega)⟩
      have hgz : g.2 = bytesF (allX h o d s X at_) := by
        have h2 := gat_all PI.out X ⟨eA, en, ec⟩ at_ (by have := HNL.out.2; omega)
        unfold gat at h2
        rw [hg] at h2
        exact h2
      obtain ⟨⟨gA, gn, gc⟩, gz⟩ := g
      simp only at hgz
      subst hgz
      obtain ⟨⟨lb, lof, hlg, x2⟩, p2, p3, p4, p5⟩ := (RG.out wr Y.out.right.tail).1 at_ _ hg
      cases hlg
      replace x2 : wr.cell? ⟨ag, at_, none⟩ = some (.slice gA gn gc) := by rw [Nat.zero_add] at x2; exact x2
      have HPU := Lib.hid (tput Y.out gA gn gc _ 3 (fun W hS => ((RG.out W hS.tail).1 at_ _ hg).2.1) p3 p4 p5)
      have HST := Lib.hid (dead_step HP.out.whole hs8 hs0 HE.out HC2.out HSG.out hat (T := a) (now := 3) HA.out.2.2 (by omega) (by rw [HA.out.2.1]; omega) (by rw [HA.out.1]; omega))
      have i5 : (0 : Int) ≤ (at_ : Int) := by omega
      have i6 : (at_ : Int) < (na : Int) := by have := HNA.out; omega
      clear hoc p2 p3 p4 p5 hg hat
      cases dd
      · rcases HST.out.1 (HLV.out rfl) with ⟨gs', hp, hi1⟩ | ⟨gs', hp, hl⟩ | ⟨gs', hp, hl⟩
        · have HPP := Lib.hid hp
          have HI1 := Lib.hid hi1
          clear hp hi1 HST
          go_wp2_with fail
          refine HPU.out.mono ?_
          rintro e w8 ⟨A8, n8, c8, rfl, hn8, hT⟩
          rw [HPP.out] at hT hn8 ⊢
          have hn8' : n8 = nb := by have := HNB.out; simp only at hn8; omega
          subst hn8'
          have X8 := Lib.hid hT
          have u1 : ((n8 : Int) != 0) = true := by
            have h2 := HNB.out
            have h3 := pkt_len h o d
            simp; omega
          have u2 : ((i : Int) == (nl : Int) - 1) = true := by
            have h2 := HI1.out
            have h3 := HNL.out.2
            simp; omega
          have u3 : IntKind.i64.wrap ((nl : Int) - 1) = (nl : Int) - 1 := IntWalk.i64_in _ (by omega)
          clear hT hn8 HPU Y x1 x2
          go_wp2_with fail
          refine (same_any A8 Ab n8 c8 n8 cb (pktB h o d) (pktB h o d) _ (X8.out.right.rd 0 rfl) (RG.out _ X8.out.right.tail.tail).2.2 (by omega) (by omega)).mono ?_
          rintro e wa ⟨rfl, qa, rfl⟩
          rw [show (pktB h o d == pktB h o d) = true by simp]
          have X9 := Lib.hid (X8.out.drewN qa).bel
          clear X8
          go_wp2_with fail
          go_ret
          exact ⟨rfl, X9.out⟩
        · have HPP := Lib.hid hp
          have HL := Lib.hid hl
          clear hp hl HST
          go_wp2_with fail
          refine HPU.out.mono ?_
          rintro e w8 ⟨A8, n8, c8, rfl, hn8, hT⟩
          rw [HPP.out] at hT hn8 ⊢
          replace hn8 : (0 : Nat) = n8 := hn8
          subst hn8
          have X8 := Lib.hid hT.tail
          clear hT HPU Y x1 x2
          go_wp2_with fail
          go_roundw
          case rel => exact ⟨i + 1, false, { a with now := 3, gs := gs' }, by omega, rfl, by go_num, HA.out.1, HA.out.2.1, by show (3 : Int) ≤ 3; omega, fun _ => HL.out, (fun h => by cases h), X8.out⟩
          case measure => simp [intOf]; omega
        · have HPP := Lib.hid hp
          have HL := Lib.hid hl
          clear hp hl HST
          go_wp2_with fail
          refine HPU.out.mono ?_
          rintro e w8 ⟨A8, n8, c8, rfl, hn8, hT⟩
          rw [HPP.out] at hT hn8 ⊢
          replace hn8 : (0 : Nat) = n8 := hn8
          subst hn8
          have X8 := Lib.hid hT.tail
          clear hT HPU Y x1 x2
          go_wp2_with fail
          go_roundw
          case rel => exact ⟨i + 1, true, { a with now := 3, gs := gs' }, by omega, rfl, by go_num, HA.out.1, HA.out.2.1, by show (3 : Int) ≤ 3; omega, (fun h => by cases h), fun _ => HL.out, X8.out⟩
          case measure => simp [intOf]; omega
      · obtain ⟨gs', hp, hl⟩ := HST.out.2 (HDD.out rfl)
        have HPP := Lib.hid hp
        have HL := Lib.hid hl
        clear hp hl HST
        go_wp2_with fail
        refine HPU.out.mono ?_
        rintro e w8 ⟨A8, n8, c8, rfl, hn8, hT⟩
        rw [HPP.out] at hT hn8 ⊢
        replace hn8 : (0 : Nat) = n8 := hn8
        subst hn8
        have X8 := Lib.hid hT.tail
        clear hT HPU Y x1 x2
        go_wp2_with fail
        go_roundw
        case rel => exact ⟨i + 1, true, { a with now := 3, gs := gs' }, by omega, rfl, by go_num, HA.out.1, HA.out.2.1, by show (3 : Int) ≤ 3; omega, (fun h => by cases h), fun _ => HL.out, X8.out⟩
        case measure => simp [intOf]; omega
    · have t2 : ¬ (i : Int) < (na : Int) := by omega
      obtain rfl : i = na := by omega
      cases dd
      · exact (DLIVE.end_ HE.out HSG.out (by rw [HSL.out]; exact HLV.out rfl)).elim
      obtain ⟨g, g1, g2, g3, g4, g5⟩ := HDD.out rfl
      have X13 := Lib.hid Y.out.tail
      have HG := Lib.hid (And.intro g1 (And.intro g2 (And.intro g3 g4)))
      clear Y g1 g2 g3 g4 g5 HDD HLV
      go_wp2_with fail
      refine (tgroups X13.out).mono ?_
      rintro e w8 ⟨GA, gc, rfl, hT⟩
      rw [HG.out.1] at hT ⊢
      obtain ⟨gg, hgg, hgc⟩ := row_head (hT.right.row 0 rfl) (by show 0 < ([g] : List AG).length; simp)
      subst hgg
      have gc4 : w8.cell? ⟨gg, 4, none⟩ = some (.int .i64 3) := by
        rw [hgc 4 (by show 4 < ([g] : List AG).length * 7; simp)]
        show some (Value.int .i64 g.begin_) = _
        rw [HG.out.2.2.1]
      have gc5 : w8.cell? ⟨gg, 5, none⟩ = some (.int .i64 0) := by
        rw [hgc 5 (by show 5 < ([g] : List AG).length * 7; simp)]
        show some (Value.int .i64 (bytesP g.ps : Int)) = _
        rw [HG.out.2.2.2]; rfl
      have gc6 : w8.cell? ⟨gg, 6, none⟩ = some (.bool true) := by
        rw [hgc 6 (by show 6 < ([g] : List AG).length * 7; simp)]
        show some (Value.bool g.dead) = _
        rw [HG.out.2.1]
      have X14 := Lib.hid hT.tail
      clear hT X13 hgc
      have HTI := Lib.hid (show tickA a 12 = ({ a with now := 12 }, 0) by
        unfold tickA
        rw [late_no (by have := HA.out.2.2; omega) (by omega), pass_none (by rw [HG.out.1]; intro g0 hg0; simp at hg0; subst hg0; unfold overG; rw [HG.out.2.2.1, HA.out.2.1]; simp)]
        rfl)
      go_wp2_with fail
      refine (ttick X14.out 12).mono ?_
      rintro e w9 ⟨rfl, hT⟩
      rw [HTI.out] at hT ⊢
      have X15 := Lib.hid hT
      clear hT X14 gc4 gc5 gc6
      go_wp2_with fail
      refine (tgroups X15.out).mono ?_
      rintro e wa ⟨GA2, gc2, rfl, hT⟩
      rw [show ({ a with now := 12 } : AT).gs.length = 1 by show a.gs.length = 1; rw [HG.out.1]; rfl] at hT ⊢
      have X16 := Lib.hid hT.tail
      clear hT X15
      go_wp2_with fail
      refine (shuf_any nl (by omega) Bh bn bc ys wa (HBY.out _ X16.out.bel) HBB.out.1 (by have := HBB.out.2; simp only [maxLen] at this; omega)).mono ?_
      rintro e wb ⟨OA2, oc2, σ2, rfl, hσ, ho, hbo⟩
      have X17 := Lib.hid (X16.out.push hbo ho)
      have HSG2 := Lib.hid hσ
      clear hσ ho hbo X16
      go_wp2_with fail
      refine (tputs X17.out 13 (some ⟨lg, 0, none⟩) nl cl G OA2 nl oc2 σ2 HNL.out.1.symm (by omega) (fun W hS => (RG.out W hS.tail).2.1) (fun W hS => hS.rd 0 rfl) (fun i hi => by have := HSG2.out.mem_iff.1 hi; have := HNL.out.1; simp at *; omega) (by omega)).mono ?_
      rintro e wd ⟨A8, n8, c8, rfl, hn8, hT⟩
      obtain ⟨T9, hp1, _⟩ := puts_all (T := { a with now := 12 }) (now := 13) HP.out.whole hs8 hs0 (σ := σ2) (by rw [← HNL.out.2]; exact HSG2.out) (by show (12 : Int) ≤ 13; omega) (by omega) (by show 0 < a.life; rw [HA.out.2.1]; omega) (by unfold passA; show a.gs.dropWhile _ = []; rw [HG.out.1]; unfold overG; rw [List.dropWhile_cons, if_pos (by show decide (g.begin_ + a.life ≤ 13) = true; rw [HG.out.2.2.1, HA.out.2.1]; rfl)]; rfl) (by show 0 < a.limit; rw [HA.out.1]; omega)
      rw [PI.out.map (σ := σ2) (fun i hi => by have := HSG2.out.mem_iff.1 hi; have := HNL.out.2; simp at *; omega), hp1] at hT hn8 ⊢
      have hn8' : n8 = nb := by have := HNB.out; simp only at hn8; omega
      subst hn8'
      have X18 := Lib.hid hT
      clear hT hn8 X17 hp1
      go_wp2_with fail
      refine (same_any A8 Ab n8 c8 n8 cb (pktB h o d) (pktB h o d) _ (X18.out.right.rd 0 rfl) (RG.out _ X18.out.right.tail.tail).2.2 (by omega) (by omega)).mono ?_
      rintro e we ⟨rfl, qa, rfl⟩
      rw [show (pktB h o d == pktB h o d) = true by simp]
      have X19 := Lib.hid (X18.out.drewN qa).bel
      clear X18
      go_wp2_with fail
      go_ret
      exact ⟨rfl, X19.out⟩
end Go.Proofs.Ytljbfnabnkkfeaa
