import Derived.Test.YthdpcblmmjocmaaTcH
/- Segments, plain laws: what is read and written again; verified. No program in sight. -/
namespace Go.Proofs.Ythdpcblmmjocmaa
open Go.RowKit
set_option linter.unusedVariables false

theorem list20 {zs : List Int} (h : 20 ≤ zs.length) : ∃ b0 b1 b2 b3 b4 b5 b6 b7 b8 b9 ba bb bc bd be bf c0 c1 c2 c3 r, zs = [b0, b1, b2, b3, b4, b5, b6, b7, b8, b9, ba, bb, bc, bd, be, bf, c0, c1, c2, c3] ++ r := by
  obtain ⟨b0, zs, rfl⟩ : ∃ a m, zs = a :: m := by cases zs with | nil => simp at h | cons a m => exact ⟨a, m, rfl⟩
  obtain ⟨b1, zs, rfl⟩ : ∃ a m, zs = a :: m := by cases zs with | nil => simp at h | cons a m => exact ⟨a, m, rfl⟩
  obtain ⟨b2, zs, rfl⟩ : ∃ a m, zs = a :: m := by cases zs with | nil => simp at h | cons a m => exact ⟨a, m, rfl⟩
  obtain ⟨b3, zs, rfl⟩ : ∃ a m, zs = a :: m := by cases zs with | nil => simp at h | cons a m => exact ⟨a, m, rfl⟩
  obtain ⟨b4, zs, rfl⟩ : ∃ a m, zs = a :: m := by cases zs with | nil => simp at h | cons a m => exact ⟨a, m, rfl⟩
  obtain ⟨b5, zs, rfl⟩ : ∃ a m, zs = a :: m := by cases zs with | nil => simp at h | cons a m => exact ⟨a, m, rfl⟩
  obtain ⟨b6, zs, rfl⟩ : ∃ a m, zs = a :: m := by cases zs with | nil => simp at h | cons a m => exact ⟨a, m, rfl⟩
  obtain ⟨b7, zs, rfl⟩ : ∃ a m, zs = a :: m := by cases zs with | nil => simp at h | cons a m => exact ⟨a, m, rfl⟩
  obtain ⟨b8, zs, rfl⟩ : ∃ a m, zs = a :: m := by cases zs with | nil => simp at h | cons a m => exact ⟨a, m, rfl⟩
  obtain ⟨b9, zs, rfl⟩ : ∃ a m, zs = a :: m := by cases zs with | nil => simp at h | cons a m => exact ⟨a, m, rfl⟩
  obtain ⟨ba, zs, rfl⟩ : ∃ a m, zs = a :: m := by cases zs with | nil => simp at h | cons a m => exact ⟨a, m, rfl⟩
  obtain ⟨bb, zs, rfl⟩ : ∃ a m, zs = a :: m := by cases zs with | nil => simp at h | cons a m => exact ⟨a, m, rfl⟩
  obtain ⟨bc, zs, rfl⟩ : ∃ a m, zs = a :: m := by cases zs with | nil => simp at h | cons a m => exact ⟨a, m, rfl⟩
  obtain ⟨bd, zs, rfl⟩ : ∃ a m, zs = a :: m := by cases zs with | nil => simp at h | cons a m => exact ⟨a, m, rfl⟩
  obtain ⟨be, zs, rfl⟩ : ∃ a m, zs = a :: m := by cases zs with | nil => simp at h | cons a m => exact ⟨a, m, rfl⟩
  obtain ⟨bf, zs, rfl⟩ : ∃ a m, zs = a :: m := by cases zs with | nil => simp at h | cons a m => exact ⟨a, m, rfl⟩
  obtain ⟨c0, zs, rfl⟩ : ∃ a m, zs = a :: m := by cases zs with | nil => simp at h | cons a m => exact ⟨a, m, rfl⟩
  obtain ⟨c1, zs, rfl⟩ : ∃ a m, zs = a :: m := by cases zs with | nil => simp at h | cons a m => exact ⟨a, m, rfl⟩
  obtain ⟨c2, zs, rfl⟩ : ∃ a m, zs = a :: m := by cases zs with | nil => simp at h | cons a m => exact ⟨a, m, rfl⟩
  obtain ⟨c3, zs, rfl⟩ : ∃ a m, zs = a :: m := by cases zs with | nil => simp at h | cons a m => exact ⟨a, m, rfl⟩
  exact ⟨b0, b1, b2, b3, b4, b5, b6, b7, b8, b9, ba, bb, bc, bd, be, bf, c0, c1, c2, c3, zs, rfl⟩

/-- a segment that can be read, but for its checksum -/
theorem read_pkt0 {zs : List Int} (hz : BD 255 zs) (hE : tcE zs = 0) : tPkt0 (thOf zs) (tcOp zs) (zs.drop (tcN zs)) = put2 zs 16 0 0 := by
  obtain ⟨h1, h2, h3, h4, h5, h6, h7⟩ := tcE_ok hE
  have hop : tcOp zs = (zs.drop 20).take (tcN zs - 20) := by unfold tcOp; rw [if_pos hE]
  have hcat : tcOp zs ++ zs.drop (tcN zs) = zs.drop 20 := by
    rw [hop]
    have : zs.drop (tcN zs) = (zs.drop 20).drop (tcN zs - 20) := by rw [List.drop_drop]; congr 1; omega
    rw [this, List.take_append_drop]
  have hol : (tcOp zs).length = tcN zs - 20 := by rw [hop]; simp; omega
  have hN : ((tcN zs : Nat) : Int) = 4 * (zs[12]?.getD 0 / 16) := by
    have := hz.get (by omega) 12
    unfold tcN; omega
  have bd := fun i => hz.get (m := 255) (by omega) i
  unfold tPkt0 tHead
  rw [List.append_assoc, hcat, hol]
  obtain ⟨b0, b1, b2, b3, b4, b5, b6, b7, b8, b9, ba, bb, bc, bd', be, bf, c0, c1, c2, c3, r, rfl⟩ := list20 h1
  have B := fun i => bd i
  have q0 := B 0
  have q1 := B 1
  have q2 := B 2
  have q3 := B 3
  have q4 := B 4
  have q5 := B 5
  have q6 := B 6
  have q7 := B 7
  have q8 := B 8
  have q9 := B 9
  have qa := B 10
  have qb := B 11
  have qc := B 12
  have qe := B 14
  have qf := B 15
  have r2 := B 18
  have r3 := B 19
  clear B bd
  generalize tcN _ = N at *
  simp only [List.cons_append, List.nil_append, List.getElem?_cons_zero, List.getElem?_cons_succ, Option.getD_some] at q0 q1 q2 q3 q4 q5 q6 q7 q8 q9 qa qb qc qe qf r2 r3 h4 hN
  simp [thOf, wordAt, lng, w2, w4, put2]
  omega

theorem tV_iff {zs : List Int} {s d : Int} (h1 : 20 ≤ zs.length) (h2 : zs.length ≤ 65535) : tV zs s d = (65535 - stepJ (tPs s d zs.length) (sumOf zs) == 0) := by
  unfold tV; simp [h1, h2]

/-- the sum over a pseudo header and bytes -/
theorem tStep {s d L : Int} {zs : List Int} (hs : 0 ≤ s ∧ s ≤ 4294967295) (hd : 0 ≤ d ∧ d ≤ 4294967295) (hL : 0 ≤ L ∧ L ≤ 65535) (hz : BD 255 zs) : stepJ (tPs s d L) (sumOf zs) = foldR (isum [s / 65536, s % 65536, d / 65536, d % 65536, 6, L] + wsum zs) := by
  have hl : ∀ x ∈ [s / 65536, s % 65536, d / 65536, d % 65536, 6, L], 0 ≤ x ∧ x ≤ 65535 := fun y hy => by simp at hy; omega
  have e1 : tPs s d L = foldR (isum [s / 65536, s % 65536, d / 65536, d % 65536, 6, L]) := foldJ0_eq _ hl
  have hi := isum_nonneg [s / 65536, s % 65536, d / 65536, d % 65536, 6, L] (fun x hx => (hl x hx).1)
  have e2 := sumOf_eq hz
  have hw := wsum_nonneg hz
  have hA := foldR_bd (isum [s / 65536, s % 65536, d / 65536, d % 65536, 6, L])
  have hB := foldR_bd (wsum zs)
  rw [e1, e2, foldR_step hA.1 hA.2 hB.1 hB.2, foldR_foldR hi hB.1, Int.add_comm, foldR_foldR hw hi, Int.add_comm]
theorem tPos {s d L : Int} (hs : 0 ≤ s ∧ s ≤ 4294967295) (hd : 0 ≤ d ∧ d ≤ 4294967295) (hL : 0 ≤ L) : 6 ≤ isum [s / 65536, s % 65536, d / 65536, d % 65536, 6, L] := by simp [isum]; omega

/-- bytes with a word in them are right for one word alone, or for two that are alike -/
theorem word_right {K v : Int} (hK : 0 < K) (hv : 0 ≤ v ∧ v ≤ 65535) : foldR (K + v) = 65535 ↔ (v = 65535 - foldR K ∨ 65535 - foldR K = 0 ∧ v = 65535) := by
  rw [foldR_all (by omega)]
  unfold foldR
  rw [if_neg (by omega)]
  omega
/-- what is read, and written again -/
theorem again_law {zs : List Int} (hz : BD 255 zs) (hE : tcE zs = 0) (hl : zs.length ≤ 300) {s d : Int} (hs : 0 ≤ s ∧ s ≤ 4294967295) (hd : 0 ≤ d ∧ d ≤ 4294967295) :
    ¬ TWrong (thOf zs) (tcOp zs).length (zs.drop (tcN zs)).length ∧ ∃ c, c = tC (thOf zs) (tcOp zs) s d (zs.drop (tcN zs)) ∧ 0 ≤ c ∧ c ≤ 65535 ∧ tPkt (thOf zs) (tcOp zs) s d (zs.drop (tcN zs)) = put2 zs 16 (c / 256) (c % 256) ∧ tV (put2 zs 16 (c / 256) (c % 256)) s d = true ∧
      tV zs s d = ((c / 256 == zs[16]?.getD 0 && c % 256 == zs[17]?.getD 0) || (c / 256 == 0 && c % 256 == 0 && zs[16]?.getD 0 == 255 && zs[17]?.getD 0 == 255)) := by
  obtain ⟨h1, h2, h3, h4, h5, h6, h7⟩ := tcE_ok hE
  have hN := tcN_le hz
  have hol : (tcOp zs).length = tcN zs - 20 := by unfold tcOp; rw [if_pos hE]; simp; omega
  have hdl : (zs.drop (tcN zs)).length = zs.length - tcN zs := by simp
  have hN4 : tcN zs % 4 = 0 := by have := hz.get (by omega) 12; unfold tcN; omega
  refine ⟨?_, ?_⟩
  · unfold TWrong
    rw [hol, hdl]
    intro h
    rcases h with h | h | h | h | h | h
    · exact h6 h
    · exact h7 h
    · rw [show (thOf zs).fl = zs[13]?.getD 0 from rfl, h5] at h; cases h
    · omega
    · omega
    · omega
  · have hp0 := read_pkt0 hz hE
    have hlen : (20 + ((tcOp zs).length : Int) + ((zs.drop (tcN zs)).length : Int)) = (zs.length : Int) := by rw [hol, hdl]; omega
    have hw0 : BD 255 (put2 zs 16 0 0) := put2_bd hz (by omega) (by omega)
    obtain ⟨c, hc⟩ : ∃ c, c = tC (thOf zs) (tcOp zs) s d (zs.drop (tcN zs)) := ⟨_, rfl⟩
    have hc' : c = 65535 - foldR (isum [s / 65536, s % 65536, d / 65536, d % 65536, 6, (zs.length : Int)] + wsum (put2 zs 16 0 0)) := by
      rw [hc]; unfold tC; rw [hp0, hlen, tStep hs hd (by omega) hw0]
    have hP := tPos (L := (zs.length : Int)) hs hd (by omega)
    have hW := wsum_nonneg hw0
    generalize hPg : isum [s / 65536, s % 65536, d / 65536, d % 65536, 6, (zs.length : Int)] = P at *
    have hf := foldR_bd (P + wsum (put2 zs 16 0 0))
    have hcb : 0 ≤ c ∧ c ≤ 65535 := by omega
    have hput : ∀ x y : Int, BD 255 [x, y] → wsum (put2 zs 16 x y) = wsum (put2 zs 16 0 0) + (x * 256 + y) := fun x y _ => by
      rw [wsum_put2 _ _ _ _ (by omega) (by omega), wsum_put2 _ _ _ _ (by omega) (by omega)]; omega
    have hpc : BD 255 (put2 zs 16 (c / 256) (c % 256)) := put2_bd hz (by omega) (by omega)
    refine ⟨c, hc, hcb.1, hcb.2, ?_, ?_, ?_⟩
    · unfold tPkt
      rw [← hc, ← tPkt_put, hp0, put2_put2]
    · rw [tV_iff (by rw [put2_len]; omega) (by rw [put2_len]; omega), put2_len, tStep hs hd (by omega) hpc, hPg, wsum_put2 _ _ _ _ (by omega) (by omega)]
      have := (word_right (K := P + wsum (put2 zs 16 0 0)) (v := c) (by omega) hcb).2 (.inl hc')
      rw [wsum_put2 _ _ _ _ (by omega) (by omega)] at this
      rw [show P + (wsum zs - wordAt zs 16 + (c / 256 * 256 + c % 256)) = P + (wsum zs - wordAt zs 16 + (0 * 256 + 0)) + c by omega, this]; rfl
    · have b16 := hz.get (by omega) 16
      have b17 := hz.get (by omega) 17
      rw [tV_iff (by omega) (by omega), tStep hs hd (by omega) hz, hPg]
      have hz2 : wsum zs = wsum (put2 zs 16 0 0) + wordAt zs 16 := by rw [wsum_put2 _ _ _ _ (by omega) (by omega)]; omega
      have hwr := word_right (K := P + wsum (put2 zs 16 0 0)) (v := wordAt zs 16) (by omega) (wordAt_bd hz 16)
      rw [hz2, ← Int.add_assoc]
      have hwa : wordAt zs 16 = zs[16]?.getD 0 * 256 + zs[17]?.getD 0 := rfl
      rw [Bool.eq_iff_iff]
      simp only [beq_iff_eq, Bool.or_eq_true, Bool.and_eq_true]
      generalize foldR (P + wsum (put2 zs 16 0 0) + wordAt zs 16) = F at *
      generalize foldR (P + wsum (put2 zs 16 0 0)) = G at *
      rw [hwa] at hwr
      omega
end Go.Proofs.Ythdpcblmmjocmaa
