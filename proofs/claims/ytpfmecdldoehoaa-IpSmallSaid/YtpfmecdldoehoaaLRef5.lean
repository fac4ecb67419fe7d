/- Plain law: the reference's packets that hop and turn are those of the program. No program in sight. -/
import Derived.Test.YtpfmecdldoehoaaLIpWr
namespace Go.Proofs.Ytpfmecdldoehoaa
open Go.RowKit

theorem headB_at (h : HD) (opts : List Int) (L : Nat) (x : Int) : headB (h.at x) opts L = (headB h opts L).set 8 x := rfl
theorem fixOf_fixZ (ys : List Int) (p : Nat) : fixOf (put2 ys p 0 0) p = fixOf ys p := by
  unfold fixOf fixC fixZ
  simp only [put2_put2]
theorem put2_set (ys : List Int) (x : Int) : (put2 ys 10 0 0).set 8 x = put2 (ys.set 8 x) 10 0 0 := by
  unfold put2
  rw [List.set_comm (i := 11) (j := 8) _ _ (by omega), List.set_comm (i := 10) (j := 8) _ _ (by omega)]
theorem hop_ref {zs : List Int} (hz : BD 255 zs) (hf : faultR zs = 7) :
    fixOf (((zs.take (totalR zs)).set 8 (byteAt zs 8 - 1)).take (sizeR zs)) 10 ++ ((zs.take (totalR zs)).set 8 (byteAt zs 8 - 1)).drop (sizeR zs) = pktB (hopH zs) (optsOf zs) (dataR zs) := by
  obtain ⟨k1, k2, k3, k4, k5, k6, k7, k8⟩ := ok_facts hf
  have e4 : toR zs = totalR zs := by unfold toR; rw [if_pos hf]
  have e3 : fromR zs = sizeR zs := by unfold fromR; rw [if_pos hf]
  have hH : hopH zs = (hdOf zs).at (byteAt zs 8 - 1) := rfl
  have h1 : ((zs.take (totalR zs)).set 8 (byteAt zs 8 - 1)).take (sizeR zs) = (zs.take (sizeR zs)).set 8 (byteAt zs 8 - 1) := by
    rw [List.take_set, List.take_take, Nat.min_eq_left k2]
  have h2 : ((zs.take (totalR zs)).set 8 (byteAt zs 8 - 1)).drop (sizeR zs) = dataR zs := by
    rw [List.drop_set_of_lt (by omega), List.drop_take]
    unfold dataR
    rw [e3, e4]
  unfold pktB
  rw [h1, h2, hH, headB_at, headB_hd hz hf]
  unfold fixZ
  rw [put2_set, fixOf_fixZ]

theorem putB_cons4 (zs : List Int) (p : Nat) (x : Int) : putB zs p 4 x = (((zs.set (p + 3) (x % 256)).set (p + 2) (x / 256 % 256)).set (p + 1) (x / 256 / 256 % 256)).set p (x / 256 / 256 / 256 % 256) := rfl
theorem long_bytes {zs : List Int} (hz : BD 255 zs) (i : Nat) : longAt zs i % 256 = byteAt zs (i + 3) ∧ longAt zs i / 256 % 256 = byteAt zs (i + 2) ∧ longAt zs i / 256 / 256 % 256 = byteAt zs (i + 1) ∧ longAt zs i / 256 / 256 / 256 % 256 = byteAt zs i := by
  have b0 := hz.get (by omega) i
  have b1 := hz.get (by omega) (i + 1)
  have b2 := hz.get (by omega) (i + 2)
  have b3 := hz.get (by omega) (i + 3)
  have e : longAt zs i = (zs[i]?.getD 0 * 256 + zs[i + 1]?.getD 0) * 65536 + (zs[i + 2]?.getD 0 * 256 + zs[i + 3]?.getD 0) := rfl
  unfold byteAt
  omega
theorem turn_ref {zs : List Int} (hz : BD 255 zs) (hf : faultR zs = 7) :
    ([] ++ zs.take 12) ++ (zs.drop 16).take 4 ++ (zs.drop 12).take 4 ++ (zs.drop 20).take (totalR zs - 20) = turnB zs := by
  obtain ⟨k1, k2, k3, k4, k5, k6, k7, k8⟩ := ok_facts hf
  have h20 := take20 (zs := zs) (by omega)
  have e1 : zs.take 12 = (zs.take 20).take 12 := by rw [List.take_take]; rfl
  have e2 : (zs.drop 16).take 4 = (zs.take 20).drop 16 := by rw [List.drop_take]
  have e3 : (zs.drop 12).take 4 = ((zs.take 20).drop 12).take 4 := by rw [List.drop_take, List.take_take]; rfl
  unfold turnB
  rw [if_pos hf, take_split (zs := zs) (s := totalR zs) (by omega), e1, e2, e3, h20]
  obtain ⟨a3, a2, a1, a0⟩ := long_bytes hz 12
  obtain ⟨b3, b2, b1, b0⟩ := long_bytes hz 16
  rw [putB_cons4, putB_cons4, a0, a1, a2, a3, b0, b1, b2, b3]
  rfl
theorem turnB_len {zs : List Int} : (turnB zs).length ≤ zs.length := by
  unfold turnB
  split
  · rw [putB_len, putB_len, List.length_take]; omega
  · simp
theorem hopB_len {zs : List Int} : (hopB zs).length ≤ zs.length := by
  unfold hopB
  split
  · rename_i h
    obtain ⟨k1, k2, k3, k4, k5, k6, k7, k8⟩ := ok_facts h.1
    rw [pkt_len, k7, k8]; omega
  · simp
theorem optsR_len {zs : List Int} : (optsR zs).length ≤ 40 := by
  unfold optsR
  split
  · rename_i h
    obtain ⟨k1, k2, k3, k4, k5, k6, k7, k8⟩ := ok_facts h
    rw [k7]; omega
  · simp
end Go.Proofs.Ytpfmecdldoehoaa
