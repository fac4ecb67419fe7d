/- Plain law: a packet with one bit changed. No program in sight. -/
import Derived.Test.YtljbfnabnkkfeaaLIpBk
import Derived.Test.YtljbfnabnkkfeaaBase
namespace Go.Proofs.Ytljbfnabnkkfeaa
open Go.RowKit
set_option linter.unusedVariables false
set_option linter.unusedSimpArgs false

theorem set_take (zs : List Int) (s k : Nat) (x : Int) (h : k < s) : (zs.set k x).take s = (zs.take s).set k x := by
  rw [List.take_set]

/-- the head of a packet with a bit of byte k changed -/
theorem bit_head {h : HD} {opts data : List Int} (hw : h.WF) (ho : BD 255 opts) (hr : Rightly h.off h.mf opts.length data.length) {k j : Nat} (hk1 : 1 ≤ k) (hk : k < 20 + opts.length) (hj : j < 8) :
    faultR ((pktB h opts data).set k (flipB ((pktB h opts data)[k]?.getD 0) j)) = 4 ∨ (2 ≤ k ∧ k < 4 ∧ faultR ((pktB h opts data).set k (flipB ((pktB h opts data)[k]?.getD 0) j)) = 3) := by
  have hp := parse_pkt (more := []) hw ho hr
  rw [List.append_nil] at hp
  have hl40 : opts.length ≤ 40 := hr.2.2.2.1
  have hbd := headB_bd (L := data.length) hw ho hl40
  have hl := headB_len h opts data.length
  have hlen := pkt_len h opts data
  have hsum := fix_right hbd (p := 10) (by omega) (by omega)
  have htk : (pktB h opts data).take (20 + opts.length) = fixOf (headB h opts data.length) 10 := by
    unfold pktB; rw [List.take_left' (by rw [fixOf_len, hl])]
  have hb0 : byteAt ((pktB h opts data).set k (flipB ((pktB h opts data)[k]?.getD 0) j)) 0 = byteAt (pktB h opts data) 0 := by
    unfold byteAt; rw [List.getElem?_set_ne (by omega)]
  have h2 := fault_ge2 (zs := pktB h opts data) (by rw [hp.fault]; omega)
  have hs : sizeR ((pktB h opts data).set k (flipB ((pktB h opts data)[k]?.getD 0) j)) = 20 + opts.length := by
    unfold sizeR; rw [hb0]; exact hp.size
  have hl2 : ((pktB h opts data).set k (flipB ((pktB h opts data)[k]?.getD 0) j)).length = 20 + opts.length + data.length := by simp [hlen]
  have hsm : sumOf (((pktB h opts data).set k (flipB ((pktB h opts data)[k]?.getD 0) j)).take (20 + opts.length)) ≠ 65535 := by
    rw [set_take _ _ _ _ hk, htk]
    have e : (pktB h opts data)[k]?.getD 0 = (fixOf (headB h opts data.length) 10)[k]?.getD 0 := by
      rw [← htk, List.getElem?_take_of_lt hk]
    rw [e]
    exact flip_wrong (fixOf_bd hbd 10) hsum (by rw [fixOf_len, hl]; exact hk) hj
  have hns : totalR ((pktB h opts data).set k (flipB ((pktB h opts data)[k]?.getD 0) j)) < 20 + opts.length ∨ 20 + opts.length + data.length < totalR ((pktB h opts data).set k (flipB ((pktB h opts data)[k]?.getD 0) j)) → 2 ≤ k ∧ k < 4 := by
    intro hh
    by_cases hc : 2 ≤ k ∧ k < 4
    · exact hc
    · exfalso
      have e : totalR ((pktB h opts data).set k (flipB ((pktB h opts data)[k]?.getD 0) j)) = totalR (pktB h opts data) := by
        unfold totalR wordAt
        rw [List.getElem?_set_ne (by omega), List.getElem?_set_ne (by omega)]
      rw [e, hp.total] at hh
      omega
  have key : ∀ {ys : List Int}, ys.length = 20 + opts.length + data.length → byteAt ys 0 / 16 = 4 → sizeR ys = 20 + opts.length → sumOf (ys.take (20 + opts.length)) ≠ 65535 → faultR ys = 4 ∨ ((totalR ys < 20 + opts.length ∨ 20 + opts.length + data.length < totalR ys) ∧ faultR ys = 3) := by
    intro ys y1 y2 y3 y4
    unfold faultR
    rw [if_neg (by omega), if_neg (by rw [y2]; simp), y3, y1, if_neg (by omega)]
    by_cases hc : totalR ys < 20 + opts.length ∨ 20 + opts.length + data.length < totalR ys
    · right; exact ⟨hc, by rw [if_pos hc]⟩
    · left; rw [if_neg hc, if_pos y4]
  rcases key hl2 (by rw [hb0]; exact h2) hs hsm with h1 | ⟨h1, h3⟩
  · exact .inl h1
  · exact .inr ⟨(hns h1).1, (hns h1).2, h3⟩

/-- a bit of the version changed -/
theorem bit_version {h : HD} {opts data : List Int} (hw : h.WF) (ho : BD 255 opts) (hr : Rightly h.off h.mf opts.length data.length) {j : Nat} (hj4 : 4 ≤ j) (hj : j < 8) :
    faultR ((pktB h opts data).set 0 (flipB ((pktB h opts data)[0]?.getD 0) j)) = 1 := by
  have hp := parse_pkt (more := []) hw ho hr
  rw [List.append_nil] at hp
  have hlen := pkt_len h opts data
  have h2 := fault_ge2 (zs := pktB h opts data) (by rw [hp.fault]; omega)
  have e : byteAt ((pktB h opts data).set 0 (flipB ((pktB h opts data)[0]?.getD 0) j)) 0 = flipB (byteAt (pktB h opts data) 0) j := by
    unfold byteAt; rw [List.getElem?_set_self (by omega)]; rfl
  unfold faultR
  rw [if_neg (by simp [hlen]; omega), if_pos]
  rw [e]
  unfold flipB
  generalize byteAt (pktB h opts data) 0 = x at h2
  rcases (show j = 4 ∨ j = 5 ∨ j = 6 ∨ j = 7 by omega) with rfl | rfl | rfl | rfl
  all_goals (split <;> omega)

/-- a bit of the data changed -/
theorem bit_data {h : HD} {opts data : List Int} (hw : h.WF) (ho : BD 255 opts) (hr : Rightly h.off h.mf opts.length data.length) {k : Nat} (x : Int) (hk : 20 + opts.length ≤ k) :
    PARSED h opts (data.set (k - (20 + opts.length)) x) ((pktB h opts data).set k x) := by
  have hl := headB_len h opts data.length
  have e : (pktB h opts data).set k x = pktB h opts (data.set (k - (20 + opts.length)) x) ++ [] := by
    unfold pktB
    rw [List.set_append_right _ _ (by rw [fixOf_len, hl]; exact hk), fixOf_len, hl, List.append_nil, List.length_set]
  rw [e]
  exact parse_pkt hw ho (by rw [List.length_set]; exact hr)
end Go.Proofs.Ytljbfnabnkkfeaa
