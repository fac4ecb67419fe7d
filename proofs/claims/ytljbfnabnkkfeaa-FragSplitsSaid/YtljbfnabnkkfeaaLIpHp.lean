/- Plain law: a packet hops. No program in sight. -/
import Derived.Test.YtljbfnabnkkfeaaLIpTn
namespace Go.Proofs.Ytljbfnabnkkfeaa
open Go.RowKit

def HD.at (h : HD) (t : Int) : HD := { h with ttl := t }
theorem HD.at_wf {h : HD} (hw : h.WF) {t : Int} (ht : 0 ≤ t ∧ t ≤ 255) : (h.at t).WF := ⟨hw.tos, hw.id, hw.off, ht, hw.proto, hw.src, hw.dst⟩
theorem HD.at_self (h : HD) : h.at h.ttl = h := rfl
theorem HD.at_at (h : HD) (s t : Int) : (h.at s).at t = h.at t := rfl

theorem parsed_ttl {h : HD} {opts data zs : List Int} (hP : PARSED h opts data zs) : byteAt zs 8 = h.ttl := by
  have := hP.hdE
  rw [← this]; rfl
theorem hop_yes {h : HD} {opts data zs : List Int} (hP : PARSED h opts data zs) (ht : 2 ≤ h.ttl) : hopB zs = pktB (h.at (h.ttl - 1)) opts data ∧ hopE zs = 0 := by
  have h1 := parsed_ttl hP
  constructor
  · unfold hopB
    rw [if_pos ⟨hP.fault, by omega⟩, hP.opE, hP.daE]
    have : hopH zs = h.at (h.ttl - 1) := by unfold hopH HD.at; rw [h1, hP.hdE]
    rw [this]
  · unfold hopE
    rw [if_pos hP.fault, if_neg (by omega)]
theorem hop_no {h : HD} {opts data zs : List Int} (hP : PARSED h opts data zs) (ht : h.ttl < 2) : hopB zs = [] ∧ hopE zs = 57 := by
  have h1 := parsed_ttl hP
  constructor
  · unfold hopB; rw [if_neg (fun hh => hh.2 (by omega))]
  · unfold hopE; rw [if_pos hP.fault, if_pos (by omega)]

theorem wsum_headB (h : HD) (opts : List Int) (L : Nat) (t : Int) : wsum (headB (h.at t) opts L) = wsum (headB h opts L) + (t - h.ttl) * 256 := by
  unfold headB head20 HD.at flagsW
  simp only [List.cons_append, List.nil_append, wsum_cons2]
  omega
theorem wordAt_headB (h : HD) (opts : List Int) (L : Nat) : wordAt (headB h opts L) 8 = h.ttl * 256 + h.proto ∧ wordAt (headB h opts L) 10 = 0 := ⟨rfl, rfl⟩
theorem wsum_headB_pos {h : HD} {opts : List Int} {L : Nat} (hb : BD 255 (headB h opts L)) : 16384 ≤ wsum (headB h opts L) := by
  have h1 := wordAt_le_wsum (headB h opts L) 0 hb (by omega) (by rw [headB_len]; omega)
  have h2 := hb.get (by omega) 1
  have h3 : wordAt (headB h opts L) 0 = (64 + ((20 + opts.length : Nat) : Int) / 4) * 256 + (headB h opts L)[1]?.getD 0 := rfl
  omega
theorem ck_pkt {h : HD} {opts data more : List Int} (hb : BD 255 (headB h opts data.length)) : wordAt (pktB h opts data ++ more) 10 = 65535 - foldR (wsum (headB h opts data.length)) := by
  have hl := headB_len h opts data.length
  have e1 : wordAt (pktB h opts data ++ more) 10 = wordAt (fixOf (headB h opts data.length) 10) 10 := by
    unfold pktB wordAt
    rw [List.append_assoc, List.getElem?_append_left (by rw [fixOf_len, hl]; omega), List.getElem?_append_left (by rw [fixOf_len, hl]; omega)]
  have hz : BD 255 (fixZ (headB h opts data.length) 10) := put2_bd hb (by omega) (by omega)
  have hc := fixC_bd hb 10
  have e2 : wsum (fixZ (headB h opts data.length) 10) = wsum (headB h opts data.length) := by
    unfold fixZ
    rw [wsum_put2 _ _ _ _ (by omega) (by rw [hl]; omega), (wordAt_headB h opts data.length).2]; omega
  rw [e1]
  unfold fixOf
  rw [wordAt_put2 _ _ _ _ (by unfold fixZ; rw [put2_len, hl]; omega), show fixC (headB h opts data.length) 10 / 256 * 256 + fixC (headB h opts data.length) 10 % 256 = fixC (headB h opts data.length) 10 by omega]
  unfold fixC
  rw [sumOf_eq hz, e2]
/-- the checksum that Update makes is the one of the packet that has hopped -/
theorem hop_upd {h : HD} {opts data more more' : List Int} (hb : BD 255 (headB h opts data.length)) (hb' : BD 255 (headB (h.at (h.ttl - 1)) opts data.length)) (ht : 1 ≤ h.ttl ∧ h.ttl ≤ 255) (hp : 0 ≤ h.proto ∧ h.proto ≤ 255) :
    upd (wordAt (pktB h opts data ++ more) 10) (h.ttl * 256 + h.proto) ((h.ttl - 1) * 256 + h.proto) = wordAt (pktB (h.at (h.ttl - 1)) opts data ++ more') 10 := by
  have h1 := wsum_headB h opts data.length (h.ttl - 1)
  have h2 := wsum_headB_pos hb
  have h4 := wsum_headB_pos hb'
  have h3 := wordAt_le_wsum (headB h opts data.length) 8 hb (by omega) (by rw [headB_len]; omega)
  rw [(wordAt_headB h opts data.length).1] at h3
  rw [ck_pkt hb, ck_pkt hb', upd_fold (by omega) (by omega) (by omega) h3 (by omega) (by omega), foldR_more (by omega), h1]
  congr 2; omega
theorem pkt_drop {h : HD} {opts data : List Int} {on : Nat} (h1 : opts.length = on) : (pktB h opts data).drop (20 + on) = data := by
  unfold pktB; rw [List.drop_left' (by rw [fixOf_len, headB_len, h1])]
end Go.Proofs.Ytljbfnabnkkfeaa
