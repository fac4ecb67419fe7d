/- Plain law of ICMP: packets that are quoted. No program in sight. -/
import Derived.Test.YtdepibljeopcgaaDoorLIpBk
import Derived.Test.YtdepibljeopcgaaDoorIcQ
import Derived.Test.YtdepibljeopcgaaDoorWRef10Q
namespace Go.Proofs.YtdepibljeopcgaaDoor
open Go.RowKit
set_option linter.unusedVariables false

theorem qH_size (zs : List Int) (hz : 0 ≤ byteAt zs 0) : qH zs = sizeR zs := by
  unfold qH sizeR
  rw [show zs[0]?.getD 0 = byteAt zs 0 from rfl]
  omega
/-- the quote of a packet that is cut -/
theorem quote_pkt {h : HD} {opts data : List Int} (hw : h.WF) (ho : BD 255 opts) (hr : Rightly h.off h.mf opts.length data.length) (hd : 8 ≤ data.length) {m : Nat} (hm : 28 + opts.length ≤ m) (hml : m ≤ 20 + opts.length + data.length) {z : List Int} (hz : z = (pktB h opts data).take m) :
    qBad z = decide (h.off ≠ 0) ∧ qP z = h.proto ∧ qS z = h.src ∧ qD z = h.dst ∧ qH z = 20 + opts.length ∧ ∀ i, i < 8 → z[20 + opts.length + i]?.getD 0 = data[i]?.getD 0 := by
  have hl40 : opts.length ≤ 40 := hr.2.2.2.1
  have hbd := headB_bd (L := data.length) hw ho hl40
  have hl := headB_len h opts data.length
  have hsum := fix_right hbd (p := 10) (by omega) (by omega)
  have hpl := pkt_len h opts data
  have hb : ∀ i, i < 20 → i ≠ 10 → i ≠ 11 → byteAt z i = (head20 h (20 + opts.length) data.length)[i]?.getD 0 := fun i hi h1 h2 => by
    have := pkt_get (h := h) (opts := opts) (data := data) (more := []) i hi h1 h2
    rw [List.append_nil] at this
    rw [← this, hz]
    unfold byteAt
    rw [List.getElem?_take_of_lt (by omega)]
  obtain ⟨e1, e2, e3, e4, e5⟩ := parse_head hw hr hb
  have b0 : byteAt z 0 = 64 + ((20 + opts.length : Nat) : Int) / 4 := hb 0 (by omega) (by omega) (by omega)
  have hq : qH z = 20 + opts.length := by rw [qH_size z (by omega), e2]
  have hzl : z.length = m := by rw [hz]; simp; omega
  have htk : z.take (20 + opts.length) = fixOf (headB h opts data.length) 10 := by
    rw [hz, List.take_take, Nat.min_eq_left (by omega)]
    unfold pktB
    rw [List.take_left' (by rw [fixOf_len, hl])]
  have hfl := flagsW_bd hr
  have hw2 : wordAt z 2 = ((20 + opts.length + data.length : Nat) : Int) := by
    have := e3
    unfold totalR at this
    have hp : 0 ≤ wordAt z 2 := by
      have b2 : byteAt z 2 = (((20 + opts.length : Nat) : Int) + data.length) / 256 % 256 := hb 2 (by omega) (by omega) (by omega)
      have b3 : byteAt z 3 = (((20 + opts.length : Nat) : Int) + data.length) % 256 := hb 3 (by omega) (by omega) (by omega)
      show 0 ≤ byteAt z 2 * 256 + byteAt z 3
      rw [b2, b3]; omega
    omega
  obtain ⟨r1, r2, r3, r4, r5, r6, r7, r8, r9⟩ := hr
  have hf8 : flagsW h % 8192 = h.off / 8 := by unfold flagsW; split <;> split <;> omega
  have hE := congrArg HD.proto e1
  have hE2 := congrArg HD.src e1
  have hE3 := congrArg HD.dst e1
  refine ⟨?_, hE, hE2, hE3, hq, fun i hi => ?_⟩
  · unfold qBad qF1 qF2 qF3 qF4
    rw [hq, hzl, htk, hsum, hw2, e4, hf8]
    rw [show z[0]?.getD 0 = byteAt z 0 from rfl, e5]
    rw [decide_eq_false (show ¬ (m < 20 ∨ (4 : Int) ≠ 4) by omega), decide_eq_false (by omega), decide_eq_false (by omega)]
    simp only [Bool.false_or]
    congr 1
    simp only [ne_eq, eq_iff_iff]
    omega
  · rw [hz, List.getElem?_take_of_lt (by omega)]
    unfold pktB
    rw [List.getElem?_append_right (by rw [fixOf_len, hl]; omega), fixOf_len, hl, show 20 + opts.length + i - (20 + opts.length) = i by omega]
/-- a quote that is cut before -/
theorem quote_cut {h : HD} {opts data : List Int} (hw : h.WF) (ho : BD 255 opts) (hr : Rightly h.off h.mf opts.length data.length) {m : Nat} (hm : 20 + opts.length ≤ m) (hm2 : m < 28 + opts.length) {z : List Int} (hz : z = (pktB h opts data).take m) : qBad z = true := by
  have hl40 : opts.length ≤ 40 := hr.2.2.2.1
  have b0 : byteAt z 0 = 64 + ((20 + opts.length : Nat) : Int) / 4 := by
    have := pkt_get (h := h) (opts := opts) (data := data) (more := []) 0 (by omega) (by omega) (by omega)
    rw [List.append_nil] at this
    rw [hz]
    show ((pktB h opts data).take m)[0]?.getD 0 = _
    rw [List.getElem?_take_of_lt (by omega)]
    exact this
  have hq : qH z = 20 + opts.length := by
    rw [qH_size z (by omega)]
    unfold sizeR; rw [b0]; have := hr.2.2.2.2.1; omega
  refine q_size (.inr ?_)
  rw [hq, hz]
  have : ((pktB h opts data).take m).length ≤ m := List.length_take_le _ _
  omega
/-- the kind of what is quoted, out of a packet's parts -/
def KDd (p : Int) (d : List Int) : Int := if p = 6 ∨ p = 17 then (if wordAt d 0 = 0 ∨ wordAt d 2 = 0 then 0 else if p = 6 then 1 else 2) else if p = 1 then kK (d[0]?.getD 0).toNat (d[1]?.getD 0) else 0
theorem quote_kd {h : HD} {opts data : List Int} (hw : h.WF) (ho : BD 255 opts) (hr : Rightly h.off h.mf opts.length data.length) (hd : 8 ≤ data.length) {m : Nat} (hm : 28 + opts.length ≤ m) (hml : m ≤ 20 + opts.length + data.length) {z : List Int} (hz : z = (pktB h opts data).take m) :
    qKd z = KDd h.proto data ∧ (h.proto = 6 ∨ h.proto = 17 → qsp z = wordAt data 0 ∧ qdp z = wordAt data 2) ∧ (h.proto = 1 → qsp z = wordAt data 4 ∧ qdp z = wordAt data 4) := by
  obtain ⟨_, e2, _, _, e5, e6⟩ := quote_pkt hw ho hr hd hm hml hz
  have w : ∀ i, i + 1 < 8 → wordAt z (20 + opts.length + i) = wordAt data i := fun i hi => by
    unfold wordAt
    rw [e6 i (by omega), Nat.add_assoc, e6 (i + 1) (by omega)]
  have s6 : h.proto = 6 ∨ h.proto = 17 → qsp z = wordAt data 0 ∧ qdp z = wordAt data 2 := fun h6 => by
    have := w 0 (by omega)
    rw [Nat.add_zero] at this
    rw [(q_spdp (by rw [e2]; exact h6)).1, (q_spdp (by rw [e2]; exact h6)).2, e5, this, w 2 (by omega)]
    exact ⟨rfl, rfl⟩
  have s1 : h.proto = 1 → qsp z = wordAt data 4 ∧ qdp z = wordAt data 4 := fun h1 => by
    rw [(q_spdp1 (by rw [e2]; exact h1)).1, (q_spdp1 (by rw [e2]; exact h1)).2, e5, w 4 (by omega)]
    exact ⟨rfl, rfl⟩
  refine ⟨?_, s6, s1⟩
  unfold qKd KDd
  rw [e2]
  by_cases h6 : h.proto = 6 ∨ h.proto = 17
  · rw [if_pos h6, if_pos h6, (s6 h6).1, (s6 h6).2]
  · rw [if_neg h6, if_neg h6]
    by_cases h1 : h.proto = 1
    · rw [if_pos h1, if_pos h1]
      unfold qT qC
      have a := e6 0 (by omega)
      have b := e6 1 (by omega)
      rw [Nat.add_zero] at a
      rw [e5, a, b]
    · rw [if_neg h1, if_neg h1]
theorem quote_whole {h : HD} {opts data : List Int} (hw : h.WF) (ho : BD 255 opts) (hr : Rightly h.off h.mf opts.length data.length) (hd : 8 ≤ data.length) (hbad : h.off ≠ 0 ∨ KDd h.proto data = 0) :
    qE (pktB h opts data) = 103 ∧ qK (pktB h opts data) = 0 ∧ qKey (pktB h opts data) = key0 := by
  have hpl := pkt_len h opts data
  have hz : pktB h opts data = (pktB h opts data).take (20 + opts.length + data.length) := by rw [List.take_of_length_le (by omega)]
  obtain ⟨e1, _⟩ := quote_pkt hw ho hr hd (by omega) (Nat.le_refl _) hz
  obtain ⟨e2, _⟩ := quote_kd hw ho hr hd (by omega) (Nat.le_refl _) hz
  have hor : qBad (pktB h opts data) = true ∨ qKd (pktB h opts data) = 0 := by
    rcases hbad with h | h
    · exact .inl (by rw [e1]; exact decide_eq_true h)
    · exact .inr (by rw [e2]; exact h)
  cases hb : qBad (pktB h opts data)
  · exact q_kd0 hb (hor.resolve_left (by rw [hb]; decide))
  · exact q_bad hb
/-- a quote with one bit of its header changed -/
theorem quote_flip {zs : List Int} (hz : BD 255 zs) (hl : 20 ≤ zs.length) (hq : qH zs = 20) (hs : sumOf (zs.take 20) = 65535) {k j : Nat} (h1 : 1 ≤ k) (hk : k < 20) (hj : j < 8) : qBad (zs.set k (flipB (zs[k]?.getD 0) j)) = true := by
  have hq2 : qH (zs.set k (flipB (zs[k]?.getD 0) j)) = 20 := by
    unfold qH at hq ⊢
    rw [List.getElem?_set_ne (by omega)]; exact hq
  refine q_sum (.inl ?_)
  rw [hq2]
  have hg : (zs.take 20)[k]?.getD 0 = zs[k]?.getD 0 := by rw [List.getElem?_take_of_lt hk]
  have e : (zs.set k (flipB (zs[k]?.getD 0) j)).take 20 = (zs.take 20).set k (flipB ((zs.take 20)[k]?.getD 0) j) := by
    rw [hg, List.take_set]
  rw [e]
  exact flip_wrong (hz.take 20) hs (by simp; omega) hj
theorem q_no {zs : List Int} (h : qBad zs = true ∨ qKd zs = 0) : qE zs = 103 ∧ qK zs = 0 ∧ qKey zs = key0 := by
  cases hb : qBad zs
  · exact q_kd0 hb (h.resolve_left (by rw [hb]; decide))
  · exact q_bad hb
end Go.Proofs.YtdepibljeopcgaaDoor
