/- Plain law of ICMP: what is read, and written again. No program in sight. -/
import Derived.Test.YtdepibljeopcgaaDoorIcP
import Derived.Test.YtdepibljeopcgaaDoorBase
namespace Go.Proofs.YtdepibljeopcgaaDoor
open Go.RowKit
set_option linter.unusedVariables false

theorem fixOf_put2 (ys : List Int) (p : Nat) : fixOf (put2 ys p 0 0) p = fixOf ys p := by
  unfold fixOf fixC fixZ
  simp only [put2_put2]
theorem ic_head {zs : List Int} (hz : BD 255 zs) (hl : 8 ≤ zs.length) : icHead (zs[0]?.getD 0) (zs[1]?.getD 0) (wordAt zs 4) (wordAt zs 6) ++ zs.drop 8 = put2 zs 2 0 0 := by
  match zs, hl with
  | a :: b :: c :: d :: e :: f :: g :: i :: l, _ =>
    have h4 := hz e (by simp)
    have h5 := hz f (by simp)
    have h6 := hz g (by simp)
    have h7 := hz i (by simp)
    simp [icHead, wordAt, put2]
    omega
theorem ic_kE {zs : List Int} (hE : icE zs = 0) : 8 ≤ zs.length ∧ kE (zs[0]?.getD 0).toNat (zs[1]?.getD 0) = 0 := by
  unfold icE at hE
  split at hE
  · omega
  · exact ⟨by omega, hE⟩
theorem ic_again {zs : List Int} (hz : BD 255 zs) (hE : icE zs = 0) (hn : zs.length ≤ 65515) {t : Nat} (ht : zs[0]?.getD 0 = (t : Int)) :
    icWE t (zs[1]?.getD 0) (zs.length - 8) = 0 ∧ icWB t (zs[1]?.getD 0) (wordAt zs 4) (wordAt zs 6) (zs.drop 8) = fixOf zs 2 := by
  obtain ⟨h8, hk⟩ := ic_kE hE
  rw [ht, show ((t : Int)).toNat = t by omega] at hk
  have hE2 : ∀ k, k ≤ 65507 → icWE t (zs[1]?.getD 0) k = 0 := fun k h => by
    unfold icWE; rw [if_pos hk, if_neg (by omega)]
  refine ⟨hE2 _ (by omega), ?_⟩
  unfold icWB
  rw [if_pos (hE2 _ (by simp; omega)), ← ht, ic_head hz h8, fixOf_put2]
theorem fix_get {zs : List Int} {p i : Nat} (h1 : i ≠ p) (h2 : i ≠ p + 1) : (fixOf zs p)[i]?.getD 0 = zs[i]?.getD 0 := by
  unfold fixOf fixZ put2
  rw [List.getElem?_set_ne (by omega), List.getElem?_set_ne (by omega), List.getElem?_set_ne (by omega), List.getElem?_set_ne (by omega)]
theorem fix_get0 {zs : List Int} {p : Nat} (h : p + 2 ≤ zs.length) : (fixOf zs p)[p]?.getD 0 = fixC zs p / 256 ∧ (fixOf zs p)[p + 1]?.getD 0 = fixC zs p % 256 := by
  unfold fixOf fixZ put2
  constructor
  · rw [List.getElem?_set_ne (by omega), List.getElem?_set_self (by simp; omega)]; rfl
  · rw [List.getElem?_set_self (by simp; omega)]; rfl
/-- the checksum of right bytes is that which Fix puts in, but for 65535 in place of 0 -/
theorem fix_same {zs : List Int} (hz : BD 255 zs) {p : Nat} (hp : p % 2 = 0) (h : p + 2 ≤ zs.length) :
    sumOf zs = 65535 ↔ wordAt zs p = fixC zs p ∨ (wordAt zs p = 65535 ∧ fixC zs p = 0) := by
  have e0 := wsum_put2 zs p 0 0 hp h
  have hb : BD 255 (put2 zs p 0 0) := put2_bd hz (by omega) (by omega)
  have hw := wsum_nonneg hb
  obtain ⟨x0, x1⟩ := wordAt_bd hz p
  have e1 : sumOf zs = foldR (wsum (put2 zs p 0 0) + wordAt zs p) := by rw [sumOf_eq hz]; congr 1; omega
  have e2 : fixC zs p = 65535 - foldR (wsum (put2 zs p 0 0)) := by unfold fixC fixZ; rw [sumOf_eq hb]
  rw [e1, e2, foldR_all (by omega)]
  generalize wsum (put2 zs p 0 0) = K at *
  unfold foldR
  split
  · omega
  · omega
theorem fix_eq {zs : List Int} (hz : BD 255 zs) {p : Nat} (h : p + 2 ≤ zs.length) : wordAt zs p = fixC zs p ↔ (fixOf zs p)[p]?.getD 0 = zs[p]?.getD 0 ∧ (fixOf zs p)[p + 1]?.getD 0 = zs[p + 1]?.getD 0 := by
  obtain ⟨h1, h2⟩ := fix_get0 (zs := zs) h
  have b1 := hz.get (by omega) p
  have b2 := hz.get (by omega) (p + 1)
  rw [h1, h2]
  unfold wordAt
  omega

/-- a message that is written, and read -/
theorem ic_pkt {t : Nat} {c id seq : Int} {ys : List Int} (hk : kE t c = 0) (ht : t ≤ 255) (hc : 0 ≤ c ∧ c ≤ 255) (hid : 0 ≤ id ∧ id ≤ 65535) (hseq : 0 ≤ seq ∧ seq ≤ 65535) (hy : BD 255 ys) (hl : ys.length ≤ 65507) :
    icWE t c ys.length = 0 ∧ ∃ P, icWB t c id seq ys = P ∧ P.length = 8 + ys.length ∧ BD 255 P ∧ icE P = 0 ∧ icM P = #[.int .u8 (t : Int), .int .u8 c, .int .u16 id, .int .u16 seq] ∧ P.drop 8 = ys ∧ icV P = true ∧ sumOf P = 65535 ∧ P[0]?.getD 0 = (t : Int) ∧ P[1]?.getD 0 = c ∧ wordAt P 4 = id ∧ wordAt P 6 = seq := by
  have hE : icWE t c ys.length = 0 := by unfold icWE; rw [if_pos hk, if_neg (by omega)]
  refine ⟨hE, fixOf (icHead t c id seq ++ ys) 2, ?_, ?_, ?_, ?_⟩
  · unfold icWB; rw [if_pos hE]
  · rw [fixOf_len]; simp [icHead]; omega
  · refine fixOf_bd (BD.append (fun x hx => ?_) hy) 2
    simp only [icHead, List.mem_cons, List.not_mem_nil, or_false] at hx
    omega
  have hlen : (icHead t c id seq ++ ys).length = 8 + ys.length := by simp [icHead]; omega
  have hbd : BD 255 (icHead t c id seq ++ ys) := BD.append (fun x hx => by
    simp only [icHead, List.mem_cons, List.not_mem_nil, or_false] at hx
    omega) hy
  have g : ∀ i, i ≠ 2 → i ≠ 3 → (fixOf (icHead t c id seq ++ ys) 2)[i]?.getD 0 = (icHead t c id seq ++ ys)[i]?.getD 0 := fun i h1 h2 => fix_get h1 h2
  have g0 : (fixOf (icHead t c id seq ++ ys) 2)[0]?.getD 0 = (t : Int) := by rw [g 0 (by omega) (by omega)]; rfl
  have g1 : (fixOf (icHead t c id seq ++ ys) 2)[1]?.getD 0 = c := by rw [g 1 (by omega) (by omega)]; rfl
  have w4 : wordAt (fixOf (icHead t c id seq ++ ys) 2) 4 = id := by
    unfold wordAt; rw [g 4 (by omega) (by omega), g (4 + 1) (by omega) (by omega)]; simp [icHead]; omega
  have w6 : wordAt (fixOf (icHead t c id seq ++ ys) 2) 6 = seq := by
    unfold wordAt; rw [g 6 (by omega) (by omega), g (6 + 1) (by omega) (by omega)]; simp [icHead]; omega
  have hE2 : icE (fixOf (icHead t c id seq ++ ys) 2) = 0 := by
    unfold icE
    rw [if_neg (by rw [fixOf_len, hlen]; omega), g0, g1, show ((t : Int)).toNat = t by omega]; exact hk
  have hs := fix_right hbd (p := 2) (by rfl) (by omega)
  refine ⟨hE2, ?_, ?_, ?_, hs, g0, g1, w4, w6⟩
  · unfold icM; rw [if_pos hE2, g0, g1, w4, w6]
  · have := congrArg (List.drop 4) (fix_drop (icHead t c id seq ++ ys) 2)
    rw [List.drop_drop, List.drop_drop] at this
    rw [this]; simp [icHead]
  · unfold icV; rw [hs, fixOf_len, hlen, decide_eq_true (by omega)]; rfl
end Go.Proofs.YtdepibljeopcgaaDoor
