/- Plain law of datagrams: one bit changed, in an address or in the datagram. -/
import Derived.Test.YtnocbpagdoihmaaUdpL
import Derived.Test.YtnocbpagdoihmaaFlip
namespace Go.Proofs.Ytnocbpagdoihmaa
open Go.RowKit

theorem step_gen {s d L : Int} {zs : List Int} (hs : 0 ≤ s ∧ s ≤ 4294967295) (hd : 0 ≤ d ∧ d ≤ 4294967295) (hL : 0 ≤ L ∧ L ≤ 65535) (hz : BD 255 zs) : stepJ (wrPs s d L) (sumOf zs) = foldR (isum [s / 65536, s % 65536, d / 65536, d % 65536, 17, L] + wsum zs) := by
  have hl : ∀ x ∈ [s / 65536, s % 65536, d / 65536, d % 65536, 17, L], 0 ≤ x ∧ x ≤ 65535 := fun y hy => by simp at hy; omega
  have e1 : wrPs s d L = foldR (isum [s / 65536, s % 65536, d / 65536, d % 65536, 17, L]) := foldJ0_eq _ hl
  have hi := isum_nonneg [s / 65536, s % 65536, d / 65536, d % 65536, 17, L] (fun x hx => (hl x hx).1)
  have e2 := sumOf_eq hz
  have hw := wsum_nonneg hz
  have hA := foldR_bd (isum [s / 65536, s % 65536, d / 65536, d % 65536, 17, L])
  have hB := foldR_bd (wsum zs)
  rw [e1, e2, foldR_step hA.1 hA.2 hB.1 hB.2, foldR_foldR hi hB.1, Int.add_comm, foldR_foldR hw hi, Int.add_comm]

theorem fold_far {K q : Int} (hK : 0 < K) (h : foldR K = 65535) (hq : q = 0 ∨ True) {d : Int} (hd : 1 ≤ d ∧ d ≤ 32768 ∨ 1 ≤ -d ∧ -d ≤ 32768) (hp : 0 < K + d) : foldR (K + d) ≠ 65535 := by
  intro h2
  rw [foldR_all (by omega)] at h h2
  omega

/-- verified with one address that differs by one bit -/
theorem flip_sum {sp dp s d s' d' x : Int} {ck : Bool} {data : List Int} (h : UOK sp dp s d data) (h' : UOK sp dp s' d' data) (h1 : dp ≠ 0) (hx : 1 ≤ x ∧ x ≤ 32768 ∨ 1 ≤ -x ∧ -x ≤ 32768)
    (hK : kSum sp dp s' d' data = kSum sp dp s d data + x) (more : List Int) : udpV (uPkt sp dp ck s d data ++ more) s' d' = !ck := by
  have hc := ckC_bd (ck := ck) h
  obtain ⟨p1, p2, p3, p4, p5⟩ := parts_read h h1 hc more
  have hp : uPkt sp dp ck s d data = uHead sp dp (8 + data.length) (ckC sp dp ck s d data) ++ data := rfl
  obtain ⟨e1, e2, e3⟩ := wrC_eq h
  have hk := kSum_pos h
  have hk' := kSum_pos h'
  rw [hp]
  unfold udpV
  rw [p1, p5 s' d' h', hK]
  cases ck
  · rfl
  · have hcc : ckC sp dp true s d data = wrC sp dp s d data := rfl
    rw [hcc]
    have hok := (never_iff (K := kSum sp dp s d data) (c := wrC sp dp s d data) (by omega) e2 e3).2 e1
    have := fold_far (q := 0) (by omega) hok (.inl rfl) hx (by omega)
    rw [show kSum sp dp s d data + wrC sp dp s d data + x = kSum sp dp s d data + x + wrC sp dp s d data by omega] at this
    have t1 : (wrC sp dp s d data == 0) = false := by simp; omega
    have t2 : (foldR (kSum sp dp s d data + x + wrC sp dp s d data) == 65535) = false := by simpa using this
    rw [t1, t2]
    rfl
theorem flip_src {sp dp s d : Int} {ck : Bool} {data : List Int} (h : UOK sp dp s d data) (h1 : dp ≠ 0) (r : Nat) (hr : r < 32) (more : List Int) :
    ∃ s', bits .xor .u32 s (2 ^ r) = s' ∧ 0 ≤ s' ∧ s' ≤ 4294967295 ∧ udpV (uPkt sp dp ck s d data ++ more) s' d = !ck := by
  obtain ⟨s', x, e, b0, b1, e2, e3, e4, e5⟩ := flip32 s h.s.1 h.s.2 r hr
  refine ⟨s', e, b0, b1, ?_⟩
  have h' : UOK sp dp s' d data := ⟨h.sp, h.dp, h.len, ⟨b0, b1⟩, h.d, h.bd⟩
  exact flip_sum h h' h1 (x := x) (by omega) (by unfold kSum; simp only [isum]; omega) more
theorem flip_dst {sp dp s d : Int} {ck : Bool} {data : List Int} (h : UOK sp dp s d data) (h1 : dp ≠ 0) (r : Nat) (hr : r < 32) (more : List Int) :
    ∃ d', bits .xor .u32 d (2 ^ r) = d' ∧ 0 ≤ d' ∧ d' ≤ 4294967295 ∧ udpV (uPkt sp dp ck s d data ++ more) s d' = !ck := by
  obtain ⟨d', x, e, b0, b1, e2, e3, e4, e5⟩ := flip32 d h.d.1 h.d.2 r hr
  refine ⟨d', e, b0, b1, ?_⟩
  have h' : UOK sp dp s d' data := ⟨h.sp, h.dp, h.len, h.s, ⟨b0, b1⟩, h.bd⟩
  exact flip_sum h h' h1 (x := x) (by omega) (by unfold kSum; simp only [isum]; omega) more

theorem flip_bd9 {zs : List Int} (h : BD 255 zs) {k j : Nat} (hj : j < 8) : BD 255 (zs.set k (flipB (zs[k]?.getD 0) j)) := fun y hm => by
  have hb := h.get (by omega) k
  rcases List.mem_or_eq_of_mem_set hm with hm | rfl
  · exact h y hm
  · exact flipB_bd hb.1 hb.2 hj

/-- a datagram that is checked, with one bit changed -/
theorem flip_pkt {sp dp s d : Int} {data : List Int} (h : UOK sp dp s d data) (h1 : dp ≠ 0) {k j : Nat} (hk : k < 8 + data.length) (hj : j < 8) (h4 : k ≠ 4) (h5 : k ≠ 5)
    (hE : udpE ((uPkt sp dp true s d data).set k (flipB ((uPkt sp dp true s d data)[k]?.getD 0) j)) = 0) (h6 : wordAt ((uPkt sp dp true s d data).set k (flipB ((uPkt sp dp true s d data)[k]?.getD 0) j)) 6 ≠ 0) :
    udpV ((uPkt sp dp true s d data).set k (flipB ((uPkt sp dp true s d data)[k]?.getD 0) j)) s d = false := by
  have hbd := uPkt_bd (ck := true) h
  have hlen := uPkt_len sp dp true s d data
  obtain ⟨e1, e2, e3⟩ := wrC_eq h
  have hp : uPkt sp dp true s d data = uHead sp dp (8 + data.length) (wrC sp dp s d data) ++ data := rfl
  have hw4 : wordAt (uPkt sp dp true s d data) 4 = 8 + (data.length : Int) := by rw [hp]; exact head_word4 _ _ _ _ _
  have hws : wsum (uPkt sp dp true s d data) = sp + dp + (8 + (data.length : Int)) + wrC sp dp s d data + wsum data := by rw [hp]; exact wsum_head _ _ _ _ _
  have hv := hbd.get (by omega) k
  obtain ⟨f1, f2, f3⟩ := flipB_far ((uPkt sp dp true s d data)[k]?.getD 0) hj
  have hb' := flip_bd9 (k := k) hbd hj
  have hsum := wsum_set (uPkt sp dp true s d data) k (flipB ((uPkt sp dp true s d data)[k]?.getD 0) j) (by rw [hlen]; exact hk)
  have hl' : ((uPkt sp dp true s d data).set k (flipB ((uPkt sp dp true s d data)[k]?.getD 0) j)).length = 8 + data.length := by rw [List.length_set, hlen]
  have hw4' : wordAt ((uPkt sp dp true s d data).set k (flipB ((uPkt sp dp true s d data)[k]?.getD 0) j)) 4 = 8 + (data.length : Int) := by
    rw [← hw4]
    unfold wordAt
    rw [List.getElem?_set_ne h4, List.getElem?_set_ne h5]
  have hnn := wsum_nonneg hb'
  generalize (uPkt sp dp true s d data).set k (flipB ((uPkt sp dp true s d data)[k]?.getD 0) j) = b at *
  have hN : udpN b = 8 + data.length := by unfold udpN; rw [hw4']; omega
  have hps : udpPs b s d = wrPs s d (8 + (data.length : Int)) := by unfold udpPs wrPs; rw [hw4']
  have hok := (never_iff (K := kSum sp dp s d data) (c := wrC sp dp s d data) (by have := kSum_pos h; omega) e2 e3).2 e1
  have hkp := kSum_pos h
  have t6 : (wordAt b 6 == 0) = false := by simp [h6]
  unfold udpV udpRight
  rw [hE, t6, hN, List.take_of_length_le (by rw [hl']; exact Nat.le_refl _), hps, step_gen h.s h.d (by have := h.len; omega) hb']
  have hks : kSum sp dp s d data = isum [s / 65536, s % 65536, d / 65536, d % 65536, 17, 8 + (data.length : Int)] + (sp + dp + (8 + (data.length : Int)) + wsum data) := rfl
  have hpos : 0 ≤ isum [s / 65536, s % 65536, d / 65536, d % 65536, 17, 8 + (data.length : Int)] := isum_nonneg _ (fun y hy => by have := h.s; have := h.d; simp at hy; omega)
  have h17 : 17 ≤ isum [s / 65536, s % 65536, d / 65536, d % 65536, 17, 8 + (data.length : Int)] := by have := h.s; have := h.d; simp [isum]; omega
  generalize isum [s / 65536, s % 65536, d / 65536, d % 65536, 17, 8 + (data.length : Int)] = P at *
  rw [hsum, hws]
  generalize (2 : Int) ^ j = q at f1 f2 f3
  generalize flipB ((uPkt sp dp true s d data)[k]?.getD 0) j - (uPkt sp dp true s d data)[k]?.getD 0 = u at *
  have hfar : foldR (P + (sp + dp + (8 + (data.length : Int)) + wrC sp dp s d data + wsum data + u * (if k % 2 = 0 then 256 else 1))) ≠ 65535 := by
    have := fold_far (K := kSum sp dp s d data + wrC sp dp s d data) (q := 0) (d := u * (if k % 2 = 0 then 256 else 1)) (by omega) hok (.inl rfl) (by split <;> omega) (by rw [hsum, hws] at hnn; omega)
    rw [hks] at this
    rwa [show P + (sp + dp + (8 + (data.length : Int)) + wsum data) + wrC sp dp s d data + u * (if k % 2 = 0 then 256 else 1) = P + (sp + dp + (8 + (data.length : Int)) + wrC sp dp s d data + wsum data + u * (if k % 2 = 0 then 256 else 1)) by omega] at this
  have hb := foldR_bd (P + (sp + dp + (8 + (data.length : Int)) + wrC sp dp s d data + wsum data + u * (if k % 2 = 0 then 256 else 1)))
  have t7 : (65535 - foldR (P + (sp + dp + (8 + (data.length : Int)) + wrC sp dp s d data + wsum data + u * (if k % 2 = 0 then 256 else 1))) == 0) = false := by simp; omega
  rw [t7]
  rfl
end Go.Proofs.Ytnocbpagdoihmaa
