/- Plain law: what is read and written again is as it was. No program in sight. -/
import Derived.Test.YtljbfnabnkkfeaaWIpTurn
import Derived.Test.YtljbfnabnkkfeaaBase
namespace Go.Proofs.Ytljbfnabnkkfeaa
open Go.RowKit

theorem take20 {zs : List Int} (h : 20 ≤ zs.length) : zs.take 20 = [byteAt zs 0, byteAt zs 1, byteAt zs 2, byteAt zs 3, byteAt zs 4, byteAt zs 5, byteAt zs 6, byteAt zs 7, byteAt zs 8, byteAt zs 9, byteAt zs 10, byteAt zs 11, byteAt zs 12, byteAt zs 13, byteAt zs 14, byteAt zs 15, byteAt zs 16, byteAt zs 17, byteAt zs 18, byteAt zs 19] := by
  apply List.ext_getElem?
  intro i
  by_cases hi : i < 20
  · rw [List.getElem?_take_of_lt hi]
    rcases (show i = 0 ∨ i = 1 ∨ i = 2 ∨ i = 3 ∨ i = 4 ∨ i = 5 ∨ i = 6 ∨ i = 7 ∨ i = 8 ∨ i = 9 ∨ i = 10 ∨ i = 11 ∨ i = 12 ∨ i = 13 ∨ i = 14 ∨ i = 15 ∨ i = 16 ∨ i = 17 ∨ i = 18 ∨ i = 19 by omega) with rfl | rfl | rfl | rfl | rfl | rfl | rfl | rfl | rfl | rfl | rfl | rfl | rfl | rfl | rfl | rfl | rfl | rfl | rfl | rfl
    all_goals (simp only [List.getElem?_cons_zero, List.getElem?_cons_succ, byteAt]; rw [List.getElem?_eq_getElem (by omega)]; rfl)
  · rw [List.getElem?_eq_none (by simp; omega), List.getElem?_eq_none (by simp; omega)]

theorem take_split {zs : List Int} {s : Nat} (h : 20 ≤ s) : zs.take s = zs.take 20 ++ (zs.drop 20).take (s - 20) := by
  rw [← List.take_add]; congr 1; omega

theorem head20_hd {zs : List Int} (hz : BD 255 zs) (hf : faultR zs = 7) :
    head20 (hdOf zs) (sizeR zs) (totalR zs - sizeR zs) = [byteAt zs 0, byteAt zs 1, byteAt zs 2, byteAt zs 3, byteAt zs 4, byteAt zs 5, byteAt zs 6, byteAt zs 7, byteAt zs 8, byteAt zs 9, 0, 0, byteAt zs 12, byteAt zs 13, byteAt zs 14, byteAt zs 15, byteAt zs 16, byteAt zs 17, byteAt zs 18, byteAt zs 19] := by
  obtain ⟨k1, k2, k3, k4, k5, k6, k7, k8⟩ := ok_facts hf
  have h2 := fault_ge2 (zs := zs) (by omega)
  have h6 := fault_ge6 (zs := zs) (by omega)
  have b := fun i => hz.get (by omega) i
  have hs : (sizeR zs : Int) = 4 * (byteAt zs 0 % 16) := by have := b 0; unfold sizeR byteAt at *; omega
  have ht : (totalR zs : Int) = wordAt zs 2 := by have := wordAt_bd hz 2; unfold totalR; omega
  have e0 : 64 + (sizeR zs : Int) / 4 = byteAt zs 0 := by rw [hs]; omega
  have e2 : ((sizeR zs : Int) + ((totalR zs - sizeR zs : Nat) : Int)) = wordAt zs 2 := by omega
  have w2 : wordAt zs 2 = byteAt zs 2 * 256 + byteAt zs 3 := rfl
  have w4 : wordAt zs 4 = byteAt zs 4 * 256 + byteAt zs 5 := rfl
  have w6 : wordAt zs 6 = byteAt zs 6 * 256 + byteAt zs 7 := rfl
  have l12 : longAt zs 12 = (byteAt zs 12 * 256 + byteAt zs 13) * 65536 + (byteAt zs 14 * 256 + byteAt zs 15) := rfl
  have l16 : longAt zs 16 = (byteAt zs 16 * 256 + byteAt zs 17) * 65536 + (byteAt zs 18 * 256 + byteAt zs 19) := rfl
  have bb : ∀ i, 0 ≤ byteAt zs i ∧ byteAt zs i ≤ 255 := b
  have ef : flagsW (hdOf zs) = wordAt zs 6 := by
    have hw := wordAt_bd hz 6
    unfold flagsW hdOf
    dsimp only
    by_cases c1 : wordAt zs 6 / 16384 % 2 = 1 <;> by_cases c2 : wordAt zs 6 / 8192 % 2 = 1
    all_goals simp only [c1, c2, decide_true, decide_false, if_true, if_false, Bool.false_eq_true]
    all_goals omega
  unfold head20
  rw [ef, e2, e0]
  show [byteAt zs 0, byteAt zs 1, wordAt zs 2 / 256 % 256, wordAt zs 2 % 256, wordAt zs 4 / 256 % 256, wordAt zs 4 % 256, wordAt zs 6 / 256 % 256, wordAt zs 6 % 256, byteAt zs 8, byteAt zs 9, 0, 0, longAt zs 12 / 256 / 256 / 256 % 256, longAt zs 12 / 256 / 256 % 256, longAt zs 12 / 256 % 256, longAt zs 12 % 256, longAt zs 16 / 256 / 256 / 256 % 256, longAt zs 16 / 256 / 256 % 256, longAt zs 16 / 256 % 256, longAt zs 16 % 256] = _
  rw [w2, w4, w6, l12, l16]
  have b2 := bb 2
  have b3 := bb 3
  have b4 := bb 4
  have b5 := bb 5
  have b6 := bb 6
  have b7 := bb 7
  have b12 := bb 12
  have b13 := bb 13
  have b14 := bb 14
  have b15 := bb 15
  have b16 := bb 16
  have b17 := bb 17
  have b18 := bb 18
  have b19 := bb 19
  generalize byteAt zs 2 = x2 at *
  generalize byteAt zs 3 = x3 at *
  generalize byteAt zs 4 = x4 at *
  generalize byteAt zs 5 = x5 at *
  generalize byteAt zs 6 = x6 at *
  generalize byteAt zs 7 = x7 at *
  generalize byteAt zs 12 = x12 at *
  generalize byteAt zs 13 = x13 at *
  generalize byteAt zs 14 = x14 at *
  generalize byteAt zs 15 = x15 at *
  generalize byteAt zs 16 = x16 at *
  generalize byteAt zs 17 = x17 at *
  generalize byteAt zs 18 = x18 at *
  generalize byteAt zs 19 = x19 at *
  have q : ∀ x y : Int, 0 ≤ x ∧ x ≤ 255 → 0 ≤ y ∧ y ≤ 255 → (x * 256 + y) / 256 % 256 = x ∧ (x * 256 + y) % 256 = y := fun x y hx hy => by omega
  have r : ∀ x y u v : Int, 0 ≤ x ∧ x ≤ 255 → 0 ≤ y ∧ y ≤ 255 → 0 ≤ u ∧ u ≤ 255 → 0 ≤ v ∧ v ≤ 255 → ((x * 256 + y) * 65536 + (u * 256 + v)) / 256 / 256 / 256 % 256 = x ∧ ((x * 256 + y) * 65536 + (u * 256 + v)) / 256 / 256 % 256 = y ∧ ((x * 256 + y) * 65536 + (u * 256 + v)) / 256 % 256 = u ∧ ((x * 256 + y) * 65536 + (u * 256 + v)) % 256 = v := fun x y u v hx hy hu hv => by omega
  obtain ⟨a1, a2⟩ := q x2 x3 b2 b3
  obtain ⟨a3, a4⟩ := q x4 x5 b4 b5
  obtain ⟨a5, a6⟩ := q x6 x7 b6 b7
  obtain ⟨c1, c2, c3, c4⟩ := r x12 x13 x14 x15 b12 b13 b14 b15
  obtain ⟨d1, d2, d3, d4⟩ := r x16 x17 x18 x19 b16 b17 b18 b19
  rw [a1, a2, a3, a4, a5, a6, c1, c2, c3, c4, d1, d2, d3, d4]

theorem headB_hd {zs : List Int} (hz : BD 255 zs) (hf : faultR zs = 7) : headB (hdOf zs) (optsOf zs) (dataR zs).length = fixZ (zs.take (sizeR zs)) 10 := by
  obtain ⟨k1, k2, k3, k4, k5, k6, k7, k8⟩ := ok_facts hf
  unfold headB
  rw [k7, k8, show 20 + (sizeR zs - 20) = sizeR zs by omega, head20_hd hz hf, take_split k1, take20 (by omega)]
  rfl

/-- bytes that are right, and have their checksum put in anew -/
theorem refix {ys : List Int} (hy : BD 255 ys) {p : Nat} (hp : p % 2 = 0) (hl : p + 2 ≤ ys.length) (hr : sumOf ys = 65535) {j : Nat} (hj : j < ys.length) (hj2 : j ≠ p ∧ j ≠ p + 1) (hj3 : 0 < ys[j]?.getD 0) :
    fixOf ys p = if ys[p]?.getD 0 = 255 ∧ ys[p + 1]?.getD 0 = 255 then put2 ys p 0 0 else ys := by
  have hw := wsum_put2 ys p 0 0 hp hl
  have hn := wsum_nonneg hy
  rw [sumOf_eq hy, foldR_all hn] at hr
  have hZ : BD 255 (fixZ ys p) := put2_bd hy (by omega) (by omega)
  have hzn := wsum_nonneg hZ
  have hwz : wsum (fixZ ys p) = wsum ys - wordAt ys p := by unfold fixZ; rw [hw]; omega
  have hpos : wsum (fixZ ys p) ≠ 0 := by
    intro h0
    have h1 := (wsum_zero _ hZ).1 h0
    have h2 : (fixZ ys p)[j]?.getD 0 = ys[j]?.getD 0 := by
      unfold fixZ put2
      rw [List.getElem?_set_ne (by omega), List.getElem?_set_ne (by omega)]
    have h3 : (fixZ ys p)[j]?.getD 0 = 0 := by
      have hjl : j < (fixZ ys p).length := by unfold fixZ; rw [put2_len]; exact hj
      rw [List.getElem?_eq_getElem hjl]
      exact h1 _ (List.getElem_mem hjl)
    omega
  have hc : fixC ys p = 65535 - foldR (wsum (fixZ ys p)) := by unfold fixC; rw [sumOf_eq hZ]
  have b1 := hy.get (by omega) p
  have b2 := hy.get (by omega) (p + 1)
  have hwd : wordAt ys p = ys[p]?.getD 0 * 256 + ys[p + 1]?.getD 0 := rfl
  have hset : ∀ x y, put2 (fixZ ys p) p x y = put2 ys p x y := fun x y => put2_put2 _ _ _ _ _ _
  have hsame : put2 ys p (ys[p]?.getD 0) (ys[p + 1]?.getD 0) = ys := by
    unfold put2
    apply List.ext_getElem?
    intro i
    by_cases h1 : i = p + 1
    · subst h1
      rw [List.getElem?_set_self (by simp; omega), List.getElem?_eq_getElem (by omega)]; rfl
    · rw [List.getElem?_set_ne (by omega)]
      by_cases h2 : i = p
      · subst h2
        rw [List.getElem?_set_self (by omega), List.getElem?_eq_getElem (by omega)]; rfl
      · rw [List.getElem?_set_ne (by omega)]
  have hfold : foldR (wsum (fixZ ys p)) = 1 + (wsum (fixZ ys p) - 1) % 65535 := by unfold foldR; rw [if_neg hpos]
  unfold fixOf
  rw [hset, hc, hfold, hwz]
  split
  · rename_i h
    obtain ⟨h1, h2⟩ := h
    rw [h1, h2] at hwd
    rw [show 65535 - (1 + (wsum ys - wordAt ys p - 1) % 65535) = 0 by omega]
    rfl
  · rename_i h
    have hne : wordAt ys p ≠ 65535 := fun e => h (by omega)
    rw [show 65535 - (1 + (wsum ys - wordAt ys p - 1) % 65535) = wordAt ys p by omega]
    rw [show wordAt ys p / 256 = ys[p]?.getD 0 by omega, show wordAt ys p % 256 = ys[p + 1]?.getD 0 by omega]
    exact hsame

/-- what is read and written again -/
def wasR (ys : List Int) : List Int := if ys[10]?.getD 0 = 255 ∧ ys[11]?.getD 0 = 255 then put2 ys 10 0 0 else ys
theorem again5 {zs : List Int} (hz : BD 255 zs) (hf : faultR zs = 7) : pktB (hdOf zs) (optsOf zs) (dataR zs) = wasR (zs.take (totalR zs)) := by
  obtain ⟨k1, k2, k3, k4, k5, k6, k7, k8⟩ := ok_facts hf
  have h2 := fault_ge2 (zs := zs) (by omega)
  have h5 := fault_ge5 (zs := zs) (by omega)
  have hb := hz.take (sizeR zs)
  have hl : (zs.take (sizeR zs)).length = sizeR zs := by simp; omega
  have g : ∀ i, i < sizeR zs → (zs.take (sizeR zs))[i]?.getD 0 = zs[i]?.getD 0 := fun i hi => by rw [List.getElem?_take_of_lt hi]
  have g2 : ∀ i, i < totalR zs → (zs.take (totalR zs))[i]?.getD 0 = zs[i]?.getD 0 := fun i hi => by rw [List.getElem?_take_of_lt hi]
  have hd : dataR zs = (zs.drop (sizeR zs)).take (totalR zs - sizeR zs) := by unfold dataR fromR toR; rw [if_pos hf, if_pos hf]
  have hspl : zs.take (totalR zs) = zs.take (sizeR zs) ++ dataR zs := by rw [hd, ← List.take_add]; congr 1; omega
  have hr := refix hb (p := 10) (by omega) (by omega) h5 (j := 0) (by omega) (by omega) (by rw [g 0 (by omega)]; have := h2; unfold byteAt at this; omega)
  rw [g 10 (by omega), g 11 (by omega)] at hr
  unfold pktB wasR
  rw [headB_hd hz hf, g2 10 (by omega), g2 11 (by omega)]
  have e : fixOf (fixZ (zs.take (sizeR zs)) 10) 10 = fixOf (zs.take (sizeR zs)) 10 := by
    unfold fixOf fixC fixZ
    simp only [put2_put2]
  rw [e, hr, hspl]
  split
  · unfold put2
    rw [List.set_append_left _ _ (by omega), List.set_append_left _ _ (by simp; omega)]
  · rfl
end Go.Proofs.Ytljbfnabnkkfeaa
