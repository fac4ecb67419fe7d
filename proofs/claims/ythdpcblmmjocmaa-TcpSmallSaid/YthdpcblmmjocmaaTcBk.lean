import Derived.Test.YthdpcblmmjocmaaTcA
/- Segments, plain laws: written and read back; one bit changed. No program in sight. -/
namespace Go.Proofs.Ythdpcblmmjocmaa
open Go.RowKit
set_option linter.unusedVariables false

/-- all that a segment is written from is right -/
structure TOK (h : TH) (os data : List Int) (s d : Int) : Prop where
  wf : h.WF
  sp : h.sp ≠ 0
  dp : h.dp ≠ 0
  fl : saneB h.fl = true
  on : os.length ≤ 40
  o4 : os.length % 4 = 0
  ob : BD 255 os
  db : BD 255 data
  dn : os.length + data.length ≤ 65495
  s : 0 ≤ s ∧ s ≤ 4294967295
  d : 0 ≤ d ∧ d ≤ 4294967295
theorem TOK.right {h : TH} {os data : List Int} {s d : Int} (H : TOK h os data s d) : ¬ TWrong h os.length data.length := by
  intro hw
  have h1 := H.on
  have h2 := H.o4
  have h3 := H.dn
  rcases hw with h | h | h | h | h | h
  · exact H.sp h
  · exact H.dp h
  · rw [H.fl] at h; cases h
  · omega
  · omega
  · omega
theorem TOK.bytes {h : TH} {os data : List Int} {s d : Int} (H : TOK h os data s d) : tB h os s d data = tPkt h os s d data ∧ tE h os.length data.length = 0 := by
  unfold tB tE
  rw [if_neg H.right, if_neg H.right]
  exact ⟨rfl, rfl⟩
theorem TOK.cbd {h : TH} {os data : List Int} {s d : Int} (H : TOK h os data s d) : 0 ≤ tC h os s d data ∧ tC h os s d data ≤ 65535 :=
  tC_bd H.wf H.ob H.on H.s H.d H.db (by have := H.on; have := H.dn; omega)
theorem TOK.bd {h : TH} {os data : List Int} {s d : Int} (H : TOK h os data s d) : BD 255 (tPkt h os s d data) :=
  ((tHead_bd H.wf H.on H.cbd).append H.ob).append H.db

/-- the sum with which a segment is verified -/
def tSum (zs : List Int) (s d : Int) : Int := isum [s / 65536, s % 65536, d / 65536, d % 65536, 6, (zs.length : Int)] + wsum zs
theorem tV_sum {zs : List Int} {s d : Int} (hz : BD 255 zs) (h1 : 20 ≤ zs.length) (h2 : zs.length ≤ 65535) (hs : 0 ≤ s ∧ s ≤ 4294967295) (hd : 0 ≤ d ∧ d ≤ 4294967295) : tV zs s d = (foldR (tSum zs s d) == 65535) := by
  rw [tV_iff h1 h2, tStep hs hd (by omega) hz]
  show (65535 - foldR (tSum zs s d) == 0) = _
  rw [Bool.eq_iff_iff]
  simp only [beq_iff_eq]
  omega
theorem tSum_pos {zs : List Int} {s d : Int} (hz : BD 255 zs) (hs : 0 ≤ s ∧ s ≤ 4294967295) (hd : 0 ≤ d ∧ d ≤ 4294967295) : 6 ≤ tSum zs s d := by
  have h1 := tPos (L := (zs.length : Int)) hs hd (by omega)
  have h2 := wsum_nonneg hz
  unfold tSum; omega
theorem foldR_far {K d : Int} (hK : 0 < K) (h : foldR K = 65535) (hd : 1 ≤ d ∧ d ≤ 32768 ∨ 1 ≤ -d ∧ -d ≤ 32768) (hp : 0 < K + d) : foldR (K + d) ≠ 65535 := by
  intro h2
  rw [foldR_all (by omega)] at h h2
  omega
theorem TOK.sum {h : TH} {os data : List Int} {s d : Int} (H : TOK h os data s d) : foldR (tSum (tPkt h os s d data) s d) = 65535 := by
  have hl := tPkt_len h os s d data
  have hb0 : BD 255 (tPkt0 h os data) := ((tHead_bd H.wf H.on (by omega)).append H.ob).append H.db
  have hl0 : (tPkt0 h os data).length = 20 + os.length + data.length := by unfold tPkt0; simp [tHead_len]; omega
  have hp : tPkt h os s d data = put2 (tPkt0 h os data) 16 (tC h os s d data / 256) (tC h os s d data % 256) := (tPkt_put h os data _).symm
  have hw0 : wordAt (tPkt0 h os data) 16 = 0 := by simp [wordAt, tPkt0, tHead, w2, w4]
  have hws : wsum (tPkt h os s d data) = wsum (tPkt0 h os data) + tC h os s d data := by
    rw [hp, wsum_put2 _ _ _ _ (by omega) (by omega), hw0]; omega
  have hc : tC h os s d data = 65535 - foldR (isum [s / 65536, s % 65536, d / 65536, d % 65536, 6, (20 + os.length + data.length : Int)] + wsum (tPkt0 h os data)) := by
    unfold tC; rw [tStep H.s H.d (by have := H.on; have := H.dn; omega) hb0]
  have hP := tPos (L := (20 + os.length + data.length : Int)) H.s H.d (by omega)
  have hW := wsum_nonneg hb0
  have hcb := H.cbd
  unfold tSum
  rw [hws, hl, ← Int.add_assoc, show ((20 + os.length + data.length : Nat) : Int) = (20 + os.length + data.length : Int) by omega]
  exact (word_right (by omega) hcb).2 (.inl hc)
theorem TOK.verified {h : TH} {os data : List Int} {s d : Int} (H : TOK h os data s d) : tV (tPkt h os s d data) s d = true ∧ tV (tPkt h os s d data) d s = true := by
  have hl := tPkt_len h os s d data
  have h1 := H.on
  have h2 := H.dn
  constructor
  · rw [tV_sum H.bd (by omega) (by omega) H.s H.d, H.sum]; rfl
  · rw [tV_sum H.bd (by omega) (by omega) H.d H.s]
    have e : tSum (tPkt h os s d data) d s = tSum (tPkt h os s d data) s d := by unfold tSum; simp only [isum]; omega
    rw [e, H.sum]; rfl
/-- an address with one bit changed -/
theorem TOK.src {h : TH} {os data : List Int} {s d : Int} (H : TOK h os data s d) (r : Nat) (hr : r < 32) : ∃ s', bits .xor .u32 s (2 ^ r) = s' ∧ 0 ≤ s' ∧ s' ≤ 4294967295 ∧ tV (tPkt h os s d data) s' d = false := by
  obtain ⟨s', x, e, b0, b1, e2, e3, e4, e5⟩ := flip32 s H.s.1 H.s.2 r hr
  have hl := tPkt_len h os s d data
  have h1 := H.on
  have h2 := H.dn
  refine ⟨s', e, b0, b1, ?_⟩
  rw [tV_sum H.bd (by omega) (by omega) ⟨b0, b1⟩ H.d]
  have e6 : tSum (tPkt h os s d data) s' d = tSum (tPkt h os s d data) s d + x := by unfold tSum; simp only [isum]; omega
  have p1 := tSum_pos H.bd H.s H.d
  have p2 := tSum_pos H.bd ⟨b0, b1⟩ H.d
  have := foldR_far (K := tSum (tPkt h os s d data) s d) (d := x) (by omega) H.sum (by omega) (by omega)
  rw [e6]
  simpa using this
theorem TOK.dst {h : TH} {os data : List Int} {s d : Int} (H : TOK h os data s d) (r : Nat) (hr : r < 32) : ∃ d', bits .xor .u32 d (2 ^ r) = d' ∧ 0 ≤ d' ∧ d' ≤ 4294967295 ∧ tV (tPkt h os s d data) s d' = false := by
  obtain ⟨d', x, e, b0, b1, e2, e3, e4, e5⟩ := flip32 d H.d.1 H.d.2 r hr
  have hl := tPkt_len h os s d data
  have h1 := H.on
  have h2 := H.dn
  refine ⟨d', e, b0, b1, ?_⟩
  rw [tV_sum H.bd (by omega) (by omega) H.s ⟨b0, b1⟩]
  have e6 : tSum (tPkt h os s d data) s d' = tSum (tPkt h os s d data) s d + x := by unfold tSum; simp only [isum]; omega
  have p1 := tSum_pos H.bd H.s H.d
  have p2 := tSum_pos H.bd H.s ⟨b0, b1⟩
  have := foldR_far (K := tSum (tPkt h os s d data) s d) (d := x) (by omega) H.sum (by omega) (by omega)
  rw [e6]
  simpa using this
/-- the segment with one bit changed -/
theorem TOK.bit {h : TH} {os data : List Int} {s d : Int} (H : TOK h os data s d) {k j : Nat} (hk : k < (tPkt h os s d data).length) (hj : j < 8) :
    BD 255 ((tPkt h os s d data).set k (flipB ((tPkt h os s d data)[k]?.getD 0) j)) ∧ tV ((tPkt h os s d data).set k (flipB ((tPkt h os s d data)[k]?.getD 0) j)) s d = false := by
  have hl := tPkt_len h os s d data
  have h1 := H.on
  have h2 := H.dn
  have hv := H.bd.get (by omega) k
  have hf := flipB_bd hv.1 hv.2 hj
  have hb' : BD 255 ((tPkt h os s d data).set k (flipB ((tPkt h os s d data)[k]?.getD 0) j)) := fun y hy => by
    rcases List.mem_or_eq_of_mem_set hy with hy | rfl
    · exact H.bd y hy
    · exact hf
  refine ⟨hb', ?_⟩
  rw [tV_sum hb' (by rw [List.length_set]; omega) (by rw [List.length_set]; omega) H.s H.d]
  have p1 := tSum_pos H.bd H.s H.d
  have p2 := tSum_pos hb' H.s H.d
  have hs := wsum_set (tPkt h os s d data) k (flipB ((tPkt h os s d data)[k]?.getD 0) j) hk
  obtain ⟨f1, f2, f3⟩ := flipB_far ((tPkt h os s d data)[k]?.getD 0) hj
  generalize (2 : Int) ^ j = q at f1 f2 f3
  have e6 : tSum ((tPkt h os s d data).set k (flipB ((tPkt h os s d data)[k]?.getD 0) j)) s d = tSum (tPkt h os s d data) s d + (flipB ((tPkt h os s d data)[k]?.getD 0) j - (tPkt h os s d data)[k]?.getD 0) * (if k % 2 = 0 then 256 else 1) := by
    unfold tSum
    rw [hs, List.length_set]; omega
  have := foldR_far (K := tSum (tPkt h os s d data) s d) (d := (flipB ((tPkt h os s d data)[k]?.getD 0) j - (tPkt h os s d data)[k]?.getD 0) * (if k % 2 = 0 then 256 else 1)) (by omega) H.sum (by
    generalize flipB ((tPkt h os s d data)[k]?.getD 0) j - (tPkt h os s d data)[k]?.getD 0 = u at *
    split <;> omega) (by rw [← e6]; omega)
  rw [e6]
  simpa using this

/-- what was written is read back -/
theorem TOK.back {h : TH} {os data : List Int} {s d : Int} (H : TOK h os data s d) : tcE (tPkt h os s d data) = 0 ∧ tcHd (tPkt h os s d data) = h ∧ tcTo (tPkt h os s d data) = 20 + os.length ∧ tcOp (tPkt h os s d data) = os ∧ (tPkt h os s d data).drop (20 + os.length) = data := by
  have hl := tPkt_len h os s d data
  have h1 := H.on
  have h2 := H.dn
  have h4 := H.o4
  obtain ⟨g1, g2, g3, g4, g5, g6, g7⟩ := H.wf
  obtain ⟨sp, dp, sq, ak, fl, wi, ug⟩ := h
  simp only at g1 g2 g3 g4 g5 g6 g7
  have hN : tcN (tPkt ⟨sp, dp, sq, ak, fl, wi, ug⟩ os s d data) = 20 + os.length := by
    simp [tcN, tPkt, tHead, w2, w4]; omega
  have e12 : (tPkt ⟨sp, dp, sq, ak, fl, wi, ug⟩ os s d data)[12]?.getD 0 % 16 = 0 := by
    simp [tPkt, tHead, w2, w4]
  have e13 : (tPkt ⟨sp, dp, sq, ak, fl, wi, ug⟩ os s d data)[13]?.getD 0 = fl := by
    simp [tPkt, tHead, w2, w4]
  have a0 : wordAt (tPkt ⟨sp, dp, sq, ak, fl, wi, ug⟩ os s d data) 0 = sp := by
    simp [wordAt, tPkt, tHead, w2, w4]; omega
  have a2 : wordAt (tPkt ⟨sp, dp, sq, ak, fl, wi, ug⟩ os s d data) 2 = dp := by
    simp [wordAt, tPkt, tHead, w2, w4]; omega
  have a4 : lng (tPkt ⟨sp, dp, sq, ak, fl, wi, ug⟩ os s d data) 4 = sq := by
    simp [lng, wordAt, tPkt, tHead, w2, w4]; omega
  have a8 : lng (tPkt ⟨sp, dp, sq, ak, fl, wi, ug⟩ os s d data) 8 = ak := by
    simp [lng, wordAt, tPkt, tHead, w2, w4]; omega
  have a14 : wordAt (tPkt ⟨sp, dp, sq, ak, fl, wi, ug⟩ os s d data) 14 = wi := by
    simp [wordAt, tPkt, tHead, w2, w4]; omega
  have a18 : wordAt (tPkt ⟨sp, dp, sq, ak, fl, wi, ug⟩ os s d data) 18 = ug := by
    simp [wordAt, tPkt, tHead, w2, w4]; omega
  have hE : tcE (tPkt ⟨sp, dp, sq, ak, fl, wi, ug⟩ os s d data) = 0 := by
    unfold tcE
    rw [if_neg (by omega), if_neg (by omega), e13, a0, a2]
    rw [if_neg (by
      rintro (h | h)
      · exact h e12
      · have := H.fl; simp only at this; rw [this] at h; cases h), if_neg (by
      rintro (h | h)
      · exact H.sp h
      · exact H.dp h)]
  have hcat : tPkt ⟨sp, dp, sq, ak, fl, wi, ug⟩ os s d data = tHead ⟨sp, dp, sq, ak, fl, wi, ug⟩ os.length (tC ⟨sp, dp, sq, ak, fl, wi, ug⟩ os s d data) ++ (os ++ data) := by
    unfold tPkt; rw [List.append_assoc]
  refine ⟨hE, ?_, ?_, ?_, ?_⟩
  · unfold tcHd thOf
    rw [if_pos hE, a0, a2, a4, a8, e13, a14, a18]
  · unfold tcTo; rw [if_pos hE, hN]
  · unfold tcOp
    rw [if_pos hE, hN, hcat, List.drop_left' (by rfl), show 20 + os.length - 20 = os.length by omega, List.take_left' rfl]
  · rw [hcat, ← List.drop_drop, List.drop_left' (by rfl), List.drop_left' rfl]
end Go.Proofs.Ythdpcblmmjocmaa
