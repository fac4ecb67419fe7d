/- Plain law: a packet with one bit changed. No program in sight. -/
import Derived.Test.YtpfmecdldoehoaaLIpBk
namespace Go.Proofs.Ytpfmecdldoehoaa
open Go.RowKit

def flipB (x : Int) (j : Nat) : Int := if x / 2 ^ j % 2 = 0 then x + 2 ^ j else x - 2 ^ j
theorem xor_flip : ∀ a : Nat, a < 256 → ∀ j : Nat, j < 8 → ((a ^^^ 2 ^ j : Nat) : Int) = flipB (a : Int) j := by decide +kernel
theorem u8_xor_bit (x : Int) (h0 : 0 ≤ x) (h1 : x ≤ 255) (j : Nat) (hj : j < 8) : bits .xor .u8 x (2 ^ j) = flipB x j := by
  obtain ⟨a, rfl⟩ := Int.eq_ofNat_of_zero_le h0
  have hp : (2 : Nat) ^ j < 256 := Nat.pow_lt_pow_right (m := 2) (n := j) (a := 2) |> fun _ => by
    have : (2 : Nat) ^ j ≤ 2 ^ 7 := Nat.pow_le_pow_right (by omega) (by omega)
    omega
  have := u8_xor_nat a (2 ^ j) (by omega) hp
  rw [show ((2 : Int) ^ j) = ((2 ^ j : Nat) : Int) by simp, this]
  exact xor_flip a (by omega) j hj
theorem flipB_bd {x : Int} (h0 : 0 ≤ x) (h1 : x ≤ 255) {j : Nat} (hj : j < 8) : 0 ≤ flipB x j ∧ flipB x j ≤ 255 := by
  unfold flipB
  rcases (show j = 0 ∨ j = 1 ∨ j = 2 ∨ j = 3 ∨ j = 4 ∨ j = 5 ∨ j = 6 ∨ j = 7 by omega) with rfl | rfl | rfl | rfl | rfl | rfl | rfl | rfl
  all_goals (split <;> omega)
theorem flipB_far (x : Int) {j : Nat} (hj : j < 8) : (flipB x j - x = 2 ^ j ∨ flipB x j - x = - 2 ^ j) ∧ 1 ≤ (2 : Int) ^ j ∧ (2 : Int) ^ j ≤ 128 := by
  unfold flipB
  rcases (show j = 0 ∨ j = 1 ∨ j = 2 ∨ j = 3 ∨ j = 4 ∨ j = 5 ∨ j = 6 ∨ j = 7 by omega) with rfl | rfl | rfl | rfl | rfl | rfl | rfl | rfl
  all_goals (split <;> omega)

theorem wsum_set : ∀ (ys : List Int) (k : Nat) (x : Int), k < ys.length → wsum (ys.set k x) = wsum ys + (x - ys[k]?.getD 0) * (if k % 2 = 0 then 256 else 1)
  | [], k, x, h => by simp at h
  | [a], k, x, h => by
    obtain rfl : k = 0 := by simp at h; omega
    simp [wsum, wordsOf, isum]; omega
  | a :: b :: l, 0, x, h => by
    simp only [List.set_cons_zero, wsum_cons2, List.getElem?_cons_zero, Option.getD_some, Nat.zero_mod, if_true]
    omega
  | a :: b :: l, 1, x, h => by
    simp only [List.set_cons_succ, List.set_cons_zero, wsum_cons2, List.getElem?_cons_succ, List.getElem?_cons_zero, Option.getD_some]
    rw [if_neg (by omega)]
    omega
  | a :: b :: l, k + 2, x, h => by
    simp only [List.set_cons_succ, wsum_cons2, List.getElem?_cons_succ]
    rw [wsum_set l k x (by simp at h; omega), show (k + 2) % 2 = k % 2 by omega]
    omega

/-- one bit of right bytes changed: they are right no longer -/
theorem flip_wrong {ys : List Int} (hy : BD 255 ys) (hr : sumOf ys = 65535) {k j : Nat} (hk : k < ys.length) (hj : j < 8) : sumOf (ys.set k (flipB (ys[k]?.getD 0) j)) ≠ 65535 := by
  have hb := hy.get (by omega) k
  have hf := flipB_bd hb.1 hb.2 hj
  have hy' : BD 255 (ys.set k (flipB (ys[k]?.getD 0) j)) := fun y hm => by
    rcases List.mem_or_eq_of_mem_set hm with hm | rfl
    · exact hy y hm
    · exact hf
  have hn := wsum_nonneg hy
  have hn' := wsum_nonneg hy'
  rw [sumOf_eq hy, foldR_all hn] at hr
  rw [sumOf_eq hy']
  intro h
  rw [foldR_all hn', wsum_set ys k _ hk] at h
  obtain ⟨f1, f2, f3⟩ := flipB_far (ys[k]?.getD 0) hj
  generalize flipB (ys[k]?.getD 0) j - ys[k]?.getD 0 = d at h f1
  generalize (2 : Int) ^ j = q at f1 f2 f3
  split at h <;> omega

theorem set_take (zs : List Int) (s k : Nat) (x : Int) (h : k < s) : (zs.set k x).take s = (zs.take s).set k x := by
  rw [List.take_set]

/-- the head of a packet with a bit of byte k changed -/
theorem bit_head {h : HD} {opts data : List Int} (hw : h.WF) (ho : BD 255 opts) (hr : Rightly h.off h.mf opts.length data.length) {k j : Nat} (hk1 : 1 ≤ k) (hk : k < 20 + opts.length) (hj : j < 8) :
    faultR ((pktB h opts data).set k (flipB ((pktB h opts data)[k]?.getD 0) j)) = 4 ∨ (2 ≤ k ∧ k < 4 ∧ faultR ((pktB h opts data).set k (flipB ((pktB h opts data)[k]?.getD 0) j)) = 3) := by
  have hp := parse_pkt (more := []) hw ho hr
  rw [List.append_nil] at hp
  have hl40 : opts.length ≤ 40 := hr.2.2.2.1
  have hbd := headB_bd (L := data.length) hw ho hl40
  have hl := headB_len h opts data.length
  have hlen := pkt_len h opts data
  have hsum := fix_right hbd (p := 10) (by omega) (by omega)
  have htk : (pktB h opts data).take (20 + opts.length) = fixOf (headB h opts data.length) 10 := by
    unfold pktB; rw [List.take_left' (by rw [fixOf_len, hl])]
  have hb0 : byteAt ((pktB h opts data).set k (flipB ((pktB h opts data)[k]?.getD 0) j)) 0 = byteAt (pktB h opts data) 0 := by
    unfold byteAt; rw [List.getElem?_set_ne (by omega)]
  have h2 := fault_ge2 (zs := pktB h opts data) (by rw [hp.fault]; omega)
  have hs : sizeR ((pktB h opts data).set k (flipB ((pktB h opts data)[k]?.getD 0) j)) = 20 + opts.length := by
    unfold sizeR; rw [hb0]; exact hp.size
  have hl2 : ((pktB h opts data).set k (flipB ((pktB h opts data)[k]?.getD 0) j)).length = 20 + opts.length + data.length := by simp [hlen]
  have hsm : sumOf (((pktB h opts data).set k (flipB ((pktB h opts data)[k]?.getD 0) j)).take (20 + opts.length)) ≠ 65535 := by
    rw [set_take _ _ _ _ hk, htk]
    have e : (pktB h opts data)[k]?.getD 0 = (fixOf (headB h opts data.length) 10)[k]?.getD 0 := by
      rw [← htk, List.getElem?_take_of_lt hk]
    rw [e]
    exact flip_wrong (fixOf_bd hbd 10) hsum (by rw [fixOf_len, hl]; exact hk) hj
  have hns : totalR ((pktB h opts data).set k (flipB ((pktB h opts data)[k]?.getD 0) j)) < 20 + opts.length ∨ 20 + opts.length + data.length < totalR ((pktB h opts data).set k (flipB ((pktB h opts data)[k]?.getD 0) j)) → 2 ≤ k ∧ k < 4 := by
    intro hh
    by_cases hc : 2 ≤ k ∧ k < 4
    · exact hc
    · exfalso
      have e : totalR ((pktB h opts data).set k (flipB ((pktB h opts data)[k]?.getD 0) j)) = totalR (pktB h opts data) := by
        unfold totalR wordAt
        rw [List.getElem?_set_ne (by omega), List.getElem?_set_ne (by omega)]
      rw [e, hp.total] at hh
      omega
  have key : ∀ {ys : List Int}, ys.length = 20 + opts.length + data.length → byteAt ys 0 / 16 = 4 → sizeR ys = 20 + opts.length → sumOf (ys.take (20 + opts.length)) ≠ 65535 → faultR ys = 4 ∨ ((totalR ys < 20 + opts.length ∨ 20 + opts.length + data.length < totalR ys) ∧ faultR ys = 3) := by
    intro ys y1 y2 y3 y4
    unfold faultR
    rw [if_neg (by omega), if_neg (by rw [y2]; simp), y3, y1, if_neg (by omega)]
    by_cases hc : totalR ys < 20 + opts.length ∨ 20 + opts.length + data.length < totalR ys
    · right; exact ⟨hc, by rw [if_pos hc]⟩
    · left; rw [if_neg hc, if_pos y4]
  rcases key hl2 (by rw [hb0]; exact h2) hs hsm with h1 | ⟨h1, h3⟩
  · exact .inl h1
  · exact .inr ⟨(hns h1).1, (hns h1).2, h3⟩

/-- a bit of the version changed -/
theorem bit_version {h : HD} {opts data : List Int} (hw : h.WF) (ho : BD 255 opts) (hr : Rightly h.off h.mf opts.length data.length) {j : Nat} (hj4 : 4 ≤ j) (hj : j < 8) :
    faultR ((pktB h opts data).set 0 (flipB ((pktB h opts data)[0]?.getD 0) j)) = 1 := by
  have hp := parse_pkt (more := []) hw ho hr
  rw [List.append_nil] at hp
  have hlen := pkt_len h opts data
  have h2 := fault_ge2 (zs := pktB h opts data) (by rw [hp.fault]; omega)
  have e : byteAt ((pktB h opts data).set 0 (flipB ((pktB h opts data)[0]?.getD 0) j)) 0 = flipB (byteAt (pktB h opts data) 0) j := by
    unfold byteAt; rw [List.getElem?_set_self (by omega)]; rfl
  unfold faultR
  rw [if_neg (by simp [hlen]; omega), if_pos]
  rw [e]
  unfold flipB
  generalize byteAt (pktB h opts data) 0 = x at h2
  rcases (show j = 4 ∨ j = 5 ∨ j = 6 ∨ j = 7 by omega) with rfl | rfl | rfl | rfl
  all_goals (split <;> omega)

/-- a bit of the data changed -/
theorem bit_data {h : HD} {opts data : List Int} (hw : h.WF) (ho : BD 255 opts) (hr : Rightly h.off h.mf opts.length data.length) {k : Nat} (x : Int) (hk : 20 + opts.length ≤ k) :
    PARSED h opts (data.set (k - (20 + opts.length)) x) ((pktB h opts data).set k x) := by
  have hl := headB_len h opts data.length
  have e : (pktB h opts data).set k x = pktB h opts (data.set (k - (20 + opts.length)) x) ++ [] := by
    unfold pktB
    rw [List.set_append_right _ _ (by rw [fixOf_len, hl]; exact hk), fixOf_len, hl, List.append_nil, List.length_set]
  rw [e]
  exact parse_pkt hw ho (by rw [List.length_set]; exact hr)
end Go.Proofs.Ytpfmecdldoehoaa
