/- Plain law of datagrams: what is written is read; the checksum. -/
import Derived.Test.YtnocbpagdoihmaaWUdpW
import Derived.Test.YtnocbpagdoihmaaLaw2
namespace Go.Proofs.Ytnocbpagdoihmaa
open Go.RowKit
set_option linter.unusedVariables false

theorem wsum_head (sp dp L c : Int) (m : List Int) : wsum (uHead sp dp L c ++ m) = sp + dp + L + c + wsum m := by
  unfold uHead
  simp only [List.cons_append, List.nil_append, wsum_cons2]
  omega
theorem head_word0 (sp dp L c : Int) (m : List Int) : wordAt (uHead sp dp L c ++ m) 0 = sp := by simp [uHead, wordAt]; omega
theorem head_word2 (sp dp L c : Int) (m : List Int) : wordAt (uHead sp dp L c ++ m) 2 = dp := by simp [uHead, wordAt]; omega
theorem head_word4 (sp dp L c : Int) (m : List Int) : wordAt (uHead sp dp L c ++ m) 4 = L := by simp [uHead, wordAt]; omega
theorem head_word6 (sp dp L c : Int) (m : List Int) : wordAt (uHead sp dp L c ++ m) 6 = c := by simp [uHead, wordAt]; omega
theorem head_len (sp dp L c : Int) : (uHead sp dp L c).length = 8 := rfl
/-- all bytes from a head on -/
theorem head_eq {zs : List Int} (h : BD 255 zs) (hl : 8 ≤ zs.length) : uHead (wordAt zs 0) (wordAt zs 2) (wordAt zs 4) (wordAt zs 6) ++ zs.drop 8 = zs := by
  match zs, hl with
  | a :: b :: c :: d :: e :: f :: g :: i :: l, _ =>
    have h0 := h a (by simp)
    have h1 := h b (by simp)
    have h2 := h c (by simp)
    have h3 := h d (by simp)
    have h4 := h e (by simp)
    have h5 := h f (by simp)
    have h6 := h g (by simp)
    have h7 := h i (by simp)
    simp [uHead, wordAt]
    omega

/-- what is summed up besides the checksum -/
def kSum (sp dp s d : Int) (data : List Int) : Int := isum [s / 65536, s % 65536, d / 65536, d % 65536, 17, 8 + (data.length : Int)] + (sp + dp + (8 + (data.length : Int)) + wsum data)
structure UOK (sp dp s d : Int) (data : List Int) : Prop where
  sp : 0 ≤ sp ∧ sp ≤ 65535
  dp : 0 ≤ dp ∧ dp ≤ 65535
  len : data.length ≤ 65507
  s : 0 ≤ s ∧ s ≤ 4294967295
  d : 0 ≤ d ∧ d ≤ 4294967295
  bd : BD 255 data
theorem kSum_pos {sp dp s d : Int} {data : List Int} (h : UOK sp dp s d data) : 17 ≤ kSum sp dp s d data := by
  have := wsum_nonneg h.bd
  obtain ⟨h1, h2, h3, h4, h5, _⟩ := h
  unfold kSum
  simp [isum]
  omega
theorem step_head {sp dp s d : Int} {data : List Int} (h : UOK sp dp s d data) {c : Int} (hc : 0 ≤ c ∧ c ≤ 65535) : stepJ (wrPs s d (8 + data.length)) (sumOf (uHead sp dp (8 + data.length) c ++ data)) = foldR (kSum sp dp s d data + c) := by
  obtain ⟨h1, h2, h3, h4, h5, h6⟩ := h
  have hb : BD 255 (uHead sp dp (8 + data.length) c ++ data) := (uHead_bd h1 h2 (by omega) hc).append h6
  have hl : ∀ x ∈ [s / 65536, s % 65536, d / 65536, d % 65536, 17, 8 + (data.length : Int)], 0 ≤ x ∧ x ≤ 65535 := fun y hy => by simp at hy; omega
  have e1 : wrPs s d (8 + data.length) = foldR (isum [s / 65536, s % 65536, d / 65536, d % 65536, 17, 8 + (data.length : Int)]) := foldJ0_eq _ hl
  have hi := isum_nonneg [s / 65536, s % 65536, d / 65536, d % 65536, 17, 8 + (data.length : Int)] (fun x hx => (hl x hx).1)
  have e2 := sumOf_eq hb
  have hw := wsum_nonneg hb
  have hA := foldR_bd (isum [s / 65536, s % 65536, d / 65536, d % 65536, 17, 8 + (data.length : Int)])
  have hB := foldR_bd (wsum (uHead sp dp (8 + data.length) c ++ data))
  rw [e1, e2, foldR_step hA.1 hA.2 hB.1 hB.2, foldR_foldR hi hB.1, Int.add_comm, foldR_foldR hw hi, wsum_head]
  unfold kSum
  congr 1
  omega
theorem never_iff {K c : Int} (hK : 0 < K) (h0 : 0 < c) (h1 : c ≤ 65535) : foldR (K + c) = 65535 ↔ c = neverZ (65535 - foldR K) := by
  rw [foldR_all (by omega)]
  have hb := foldR_bd K
  have hf : foldR K = 1 + (K - 1) % 65535 := by unfold foldR; rw [if_neg (by omega)]
  unfold neverZ
  split <;> omega
theorem never_ne {x : Int} (h0 : 0 ≤ x) (h1 : x ≤ 65535) : 0 < neverZ x ∧ neverZ x ≤ 65535 := by unfold neverZ; split <;> omega
theorem wrC_eq {sp dp s d : Int} {data : List Int} (h : UOK sp dp s d data) : wrC sp dp s d data = neverZ (65535 - foldR (kSum sp dp s d data)) ∧ 0 < wrC sp dp s d data ∧ wrC sp dp s d data ≤ 65535 := by
  have e := step_head h (c := 0) (by omega)
  rw [Int.add_zero] at e
  have hb := foldR_bd (kSum sp dp s d data)
  have := never_ne (x := 65535 - foldR (kSum sp dp s d data)) (by omega) (by omega)
  unfold wrC
  rw [e]
  exact ⟨rfl, this⟩

/-- a datagram out of its parts, whatever follows -/
theorem parts_read {sp dp s d : Int} {data : List Int} (h : UOK sp dp s d data) (hd0 : dp ≠ 0) {c : Int} (hc : 0 ≤ c ∧ c ≤ 65535) (more : List Int) :
    udpE (uHead sp dp (8 + data.length) c ++ data ++ more) = 0 ∧ uhd (uHead sp dp (8 + data.length) c ++ data ++ more) = #[.int .u16 sp, .int .u16 dp, .bool (c != 0)] ∧ udpTo (uHead sp dp (8 + data.length) c ++ data ++ more) = 8 + (data.length : Int) ∧ udpN (uHead sp dp (8 + data.length) c ++ data ++ more) = 8 + data.length ∧
      (∀ s' d', UOK sp dp s' d' data → udpRight (uHead sp dp (8 + data.length) c ++ data ++ more) s' d' = (c == 0 || foldR (kSum sp dp s' d' data + c) == 65535)) := by
  have hE : udpE (uHead sp dp (8 + data.length) c ++ data ++ more) = 0 := by
    unfold udpE
    rw [List.append_assoc, head_word4, head_word2, if_neg (by simp [uHead]), if_neg (by simp [uHead]; omega), if_neg hd0]
  have hN : udpN (uHead sp dp (8 + data.length) c ++ data ++ more) = 8 + data.length := by
    unfold udpN; rw [List.append_assoc, head_word4]; omega
  refine ⟨hE, ?_, ?_, hN, fun s' d' h' => ?_⟩
  · unfold uhd uhd1; rw [if_pos hE, List.append_assoc, head_word0, head_word2, head_word6]
  · unfold udpTo; rw [if_pos hE, List.append_assoc, head_word4]
  · unfold udpRight
    rw [hN, List.take_left' (by simp [uHead]; omega)]
    have e1 : udpPs (uHead sp dp (8 + data.length) c ++ data ++ more) s' d' = wrPs s' d' (8 + data.length) := by
      unfold udpPs wrPs; rw [List.append_assoc, head_word4]
    rw [e1, step_head h' hc, List.append_assoc, head_word6]
    have hb := foldR_bd (kSum sp dp s' d' data + c)
    congr 1
    rw [Bool.eq_iff_iff]
    simp
    omega

/-- what is written is read as it was, and is right -/
theorem pkt_read {sp dp s d : Int} {ck : Bool} {data : List Int} (h : UOK sp dp s d data) (hd0 : dp ≠ 0) (more : List Int) :
    udpE (uPkt sp dp ck s d data ++ more) = 0 ∧ uhd (uPkt sp dp ck s d data ++ more) = #[.int .u16 sp, .int .u16 dp, .bool ck] ∧ udpTo (uPkt sp dp ck s d data ++ more) = 8 + (data.length : Int) ∧ udpN (uPkt sp dp ck s d data ++ more) = 8 + data.length ∧
      udpRight (uPkt sp dp ck s d data ++ more) s d = true := by
  obtain ⟨e1, e2, e3⟩ := wrC_eq h
  have hc : 0 ≤ (if ck then wrC sp dp s d data else 0) ∧ (if ck then wrC sp dp s d data else 0) ≤ 65535 := by split <;> omega
  obtain ⟨p1, p2, p3, p4, p5⟩ := parts_read h hd0 hc more
  unfold uPkt
  refine ⟨p1, ?_, p3, p4, ?_⟩
  · rw [p2]
    cases ck
    · rfl
    · have : (wrC sp dp s d data != 0) = true := by simp; omega
      simp [this]
  · rw [p5 s d h]
    cases ck
    · rfl
    · have := (never_iff (K := kSum sp dp s d data) (c := wrC sp dp s d data) (by have := kSum_pos h; omega) e2 e3).2 e1
      simp [this]

/-- what is read, and written again -/
theorem again9 {zs : List Int} (h : BD 255 zs) (hl : zs.length ≤ 65515) (hE : udpE zs = 0) {s d : Int} (hs : 0 ≤ s ∧ s ≤ 4294967295) (hd : 0 ≤ d ∧ d ≤ 4294967295) :
    UOK (wordAt zs 0) (wordAt zs 2) s d ((zs.take (udpN zs)).drop 8) ∧ udpRight zs s d = (uPkt (wordAt zs 0) (wordAt zs 2) (wordAt zs 6 != 0) s d ((zs.take (udpN zs)).drop 8) == zs.take (udpN zs)) ∧ ((zs.take (udpN zs)).drop 8).length = udpN zs - 8 := by
  obtain ⟨h1, h2, h3, h4, h5, h6, h7⟩ := udpE_ok hE
  have hlen : ((zs.take (udpN zs)).drop 8).length = udpN zs - 8 := by simp; omega
  have ok : UOK (wordAt zs 0) (wordAt zs 2) s d ((zs.take (udpN zs)).drop 8) := ⟨wordAt_bd h 0, wordAt_bd h 2, by omega, hs, hd, (h.take _).drop 8⟩
  have hw6 := wordAt_bd h 6
  refine ⟨ok, ?_, hlen⟩
  have ht : ∀ i, i + 2 ≤ 8 → wordAt (zs.take (udpN zs)) i = wordAt zs i := fun i hi => by
    unfold wordAt
    rw [List.getElem?_take_of_lt (by omega), List.getElem?_take_of_lt (by omega)]
  have hp := head_eq (h.take (udpN zs)) (by simp; omega)
  rw [ht 0 (by omega), ht 2 (by omega), ht 4 (by omega), ht 6 (by omega)] at hp
  have hL : wordAt zs 4 = 8 + (((zs.take (udpN zs)).drop 8).length : Int) := by rw [hlen]; omega
  rw [hL] at hp
  have hz : zs = uHead (wordAt zs 0) (wordAt zs 2) (8 + (((zs.take (udpN zs)).drop 8).length : Int)) (wordAt zs 6) ++ (zs.take (udpN zs)).drop 8 ++ zs.drop (udpN zs) := by
    rw [hp, List.take_append_drop]
  have e5 : udpRight zs s d = (wordAt zs 6 == 0 || foldR (kSum (wordAt zs 0) (wordAt zs 2) s d ((zs.take (udpN zs)).drop 8) + wordAt zs 6) == 65535) := by
    have := (parts_read ok h4 hw6 (zs.drop (udpN zs))).2.2.2.2 s d ok
    rw [← hz] at this
    exact this
  rw [e5]
  obtain ⟨e1, e2, e3⟩ := wrC_eq ok
  unfold uPkt
  conv => rhs; rhs; rw [← hp]
  by_cases h0 : wordAt zs 6 = 0
  · rw [h0]; simp
  · have hb : (wordAt zs 6 == 0) = false := by simp [h0]
    have hb' : (wordAt zs 6 != 0) = true := by simp [h0]
    rw [hb, hb', Bool.false_or, if_pos rfl, Bool.eq_iff_iff]
    have hn := never_iff (K := kSum (wordAt zs 0) (wordAt zs 2) s d ((zs.take (udpN zs)).drop 8)) (c := wordAt zs 6) (by have := kSum_pos ok; omega) (by omega) hw6.2
    simp only [beq_iff_eq]
    rw [hn, ← e1]
    constructor
    · intro hh; rw [← hh]
    · intro hh
      have hh2 := congrArg (fun l => wordAt l 6) hh
      simp only [head_word6] at hh2
      exact hh2.symm

/-- a datagram turned -/
theorem turn_head (sp dp c : Int) (data more : List Int) : turnU (uHead sp dp (8 + data.length) c ++ data ++ more) = uHead dp sp (8 + data.length) c ++ data := by
  have hN : udpN (uHead sp dp (8 + data.length) c ++ data ++ more) = data.length + 8 := by
    unfold udpN; rw [List.append_assoc, head_word4]; omega
  unfold turnU
  rw [hN]
  simp only [uHead, List.cons_append, List.nil_append, List.append_assoc, List.take_succ_cons, List.drop_succ_cons, List.drop_zero, List.take_zero]
  rw [List.take_left' rfl]
theorem kSum_turn (sp dp s d : Int) (data : List Int) : kSum dp sp s d data = kSum sp dp s d data := by unfold kSum; omega
theorem kSum_swap (sp dp s d : Int) (data : List Int) : kSum sp dp d s data = kSum sp dp s d data := by unfold kSum; simp only [isum]; omega
theorem UOK.turn {sp dp s d : Int} {data : List Int} (h : UOK sp dp s d data) : UOK dp sp s d data := ⟨h.dp, h.sp, h.len, h.s, h.d, h.bd⟩
theorem UOK.swap {sp dp s d : Int} {data : List Int} (h : UOK sp dp s d data) : UOK sp dp d s data := ⟨h.sp, h.dp, h.len, h.d, h.s, h.bd⟩
/-- the checksum that Write puts -/
def ckC (sp dp : Int) (ck : Bool) (s d : Int) (data : List Int) : Int := if ck then wrC sp dp s d data else 0
theorem ckC_bd {sp dp s d : Int} {ck : Bool} {data : List Int} (h : UOK sp dp s d data) : 0 ≤ ckC sp dp ck s d data ∧ ckC sp dp ck s d data ≤ 65535 := by
  obtain ⟨_, e2, e3⟩ := wrC_eq h
  unfold ckC; split <;> omega
theorem ckC_ne {sp dp s d : Int} {ck : Bool} {data : List Int} (h : UOK sp dp s d data) : (ckC sp dp ck s d data != 0) = ck := by
  obtain ⟨_, e2, e3⟩ := wrC_eq h
  unfold ckC
  cases ck
  · rfl
  · have : (wrC sp dp s d data != 0) = true := by simp; omega
    simp [this]
theorem ckC_ok {sp dp s d : Int} {ck : Bool} {data : List Int} (h : UOK sp dp s d data) : (ckC sp dp ck s d data == 0 || foldR (kSum sp dp s d data + ckC sp dp ck s d data) == 65535) = true := by
  obtain ⟨e1, e2, e3⟩ := wrC_eq h
  unfold ckC
  cases ck
  · rfl
  · have := (never_iff (K := kSum sp dp s d data) (c := wrC sp dp s d data) (by have := kSum_pos h; omega) e2 e3).2 e1
    simp [this]
theorem uPkt_bd {sp dp s d : Int} {ck : Bool} {data : List Int} (h : UOK sp dp s d data) : BD 255 (uPkt sp dp ck s d data) := by
  have := ckC_bd (ck := ck) h
  exact (uHead_bd h.sp h.dp (by have := h.len; omega) this).append h.bd

/-- a datagram turned: what Turned looks at -/
structure TURNED (sp dp : Int) (ck : Bool) (s d : Int) (data : List Int) (T : List Int) : Prop where
  E : udpE T = 0
  hd : uhd T = #[.int .u16 dp, .int .u16 sp, .bool ck]
  tt : udpTo T = 8 + (data.length : Int)
  len : T.length = 8 + data.length
  V : udpV T s d = true
  V' : udpV T d s = true
  again : udpTB T = uPkt sp dp ck s d data
  againE : udpTE T = 0
  rest : T.drop 4 = (uPkt sp dp ck s d data).drop 4
  bd : BD 255 T
theorem turned_pkt {sp dp s d : Int} {ck : Bool} {data : List Int} (h : UOK sp dp s d data) (h0 : sp ≠ 0) (h1 : dp ≠ 0) (more : List Int) :
    udpTE (uPkt sp dp ck s d data ++ more) = 0 ∧ TURNED sp dp ck s d data (udpTB (uPkt sp dp ck s d data ++ more)) := by
  have hc := ckC_bd (ck := ck) h
  have hsp := h.sp
  have hdp := h.dp
  have hp : uPkt sp dp ck s d data = uHead sp dp (8 + data.length) (ckC sp dp ck s d data) ++ data := rfl
  obtain ⟨p1, p2, p3, p4, p5⟩ := parts_read h h1 hc more
  have w0 : wordAt (uHead sp dp (8 + data.length) (ckC sp dp ck s d data) ++ data ++ more) 0 = sp := by rw [List.append_assoc]; exact head_word0 _ _ _ _ _
  have hT : udpTB (uPkt sp dp ck s d data ++ more) = uHead dp sp (8 + data.length) (ckC sp dp ck s d data) ++ data := by
    rw [hp]; unfold udpTB; rw [if_pos ⟨p1, by rw [w0]; omega⟩, turn_head]
  refine ⟨?_, ?_⟩
  · rw [hp]; unfold udpTE; rw [if_pos p1, if_pos (by rw [w0]; omega)]
  · rw [hT]
    obtain ⟨q1, q2, q3, q4, q5⟩ := parts_read h.turn h0 hc []
    rw [List.append_nil] at q1 q2 q3 q4 q5
    have v0 : wordAt (uHead dp sp (8 + data.length) (ckC sp dp ck s d data) ++ data) 0 = dp := head_word0 _ _ _ _ _
    have r1 := q5 s d h.turn
    have r2 := q5 d s h.turn.swap
    rw [kSum_turn] at r1 r2
    rw [kSum_swap] at r2
    rw [ckC_ok h] at r1 r2
    refine ⟨q1, by rw [q2, ckC_ne h], q3, by simp [uHead]; omega, ?_, ?_, ?_, ?_, ?_, ?_⟩
    · unfold udpV; rw [q1, r1]; rfl
    · unfold udpV; rw [q1, r2]; rfl
    · unfold udpTB
      rw [if_pos ⟨q1, by rw [v0]; omega⟩, hp]
      have := turn_head dp sp (ckC sp dp ck s d data) data []
      rw [List.append_nil] at this
      exact this
    · unfold udpTE; rw [if_pos q1, if_pos (by rw [v0]; omega)]
    · rw [hp]; rfl
    · exact (uHead_bd h.dp h.sp (by have := h.len; omega) hc).append h.bd
theorem turned_none {sp dp s d : Int} {ck : Bool} {data : List Int} (h : UOK sp dp s d data) (h0 : sp = 0) (h1 : dp ≠ 0) (more : List Int) :
    udpTE (uPkt sp dp ck s d data ++ more) = 92 ∧ udpTB (uPkt sp dp ck s d data ++ more) = [] := by
  have hc := ckC_bd (ck := ck) h
  have hp : uPkt sp dp ck s d data = uHead sp dp (8 + data.length) (ckC sp dp ck s d data) ++ data := rfl
  obtain ⟨p1, p2, p3, p4, p5⟩ := parts_read h h1 hc more
  have w0 : wordAt (uHead sp dp (8 + data.length) (ckC sp dp ck s d data) ++ data ++ more) 0 = sp := by rw [List.append_assoc]; exact head_word0 _ _ _ _ _
  rw [hp]
  exact ⟨by unfold udpTE; rw [if_pos p1, if_neg (by rw [w0]; omega)], by unfold udpTB; rw [if_neg (fun hh => absurd hh.2 (by rw [w0]; omega))]⟩
end Go.Proofs.Ytnocbpagdoihmaa
