/- Plain law: what is written is read as it was. No program in sight. -/
import Derived.Test.YtljbfnabnkkfeaaLIp5
namespace Go.Proofs.Ytljbfnabnkkfeaa
open Go.RowKit
set_option linter.unusedVariables false

theorem head20_get {h : HD} {s L : Nat} {m : List Int} (i : Nat) (hi : i < 20) : byteAt (head20 h s L ++ m) i = (head20 h s L)[i]?.getD 0 := by
  unfold byteAt; rw [List.getElem?_append_left (by rw [head20_len]; exact hi)]
/-- a byte of a packet that is not one of the checksum -/
theorem pkt_get {h : HD} {opts data more : List Int} (i : Nat) (hi : i < 20) (h1 : i ≠ 10) (h2 : i ≠ 11) : byteAt (pktB h opts data ++ more) i = (head20 h (20 + opts.length) data.length)[i]?.getD 0 := by
  have hl := headB_len h opts data.length
  unfold pktB byteAt
  rw [List.append_assoc, List.getElem?_append_left (by rw [fixOf_len, hl]; omega)]
  unfold fixOf fixZ
  rw [put2_put2]
  unfold put2
  rw [List.getElem?_set_ne (by omega), List.getElem?_set_ne (by omega)]
  unfold headB
  rw [List.getElem?_append_left (by rw [head20_len]; exact hi)]

structure PARSED (h : HD) (opts data zs : List Int) : Prop where
  fault : faultR zs = 7
  hdE : hdOf zs = h
  opE : optsOf zs = opts
  size : sizeR zs = 20 + opts.length
  total : totalR zs = 20 + opts.length + data.length
  daE : dataR zs = data

theorem pkt_len (h : HD) (opts data : List Int) : (pktB h opts data).length = 20 + opts.length + data.length := by
  unfold pktB; rw [List.length_append, fixOf_len, headB_len]
theorem pkt_bd {h : HD} {opts data : List Int} (hw : h.WF) (ho : BD 255 opts) (hl : opts.length ≤ 40) (hd : BD 255 data) : BD 255 (pktB h opts data) :=
  BD.append (fixOf_bd (headB_bd hw ho hl) 10) hd

theorem flags_back {h : HD} {ol : Nat} {n : Int} (hr : Rightly h.off h.mf ol n) : decide (flagsW h / 16384 % 2 = 1) = h.df ∧ decide (flagsW h / 8192 % 2 = 1) = h.mf ∧ 8 * (flagsW h % 8192) = h.off := by
  obtain ⟨r1, r2, r3, _⟩ := hr
  unfold flagsW
  cases h.df <;> cases h.mf
  all_goals simp only [Bool.false_eq_true, if_true, if_false, decide_eq_true_eq, decide_eq_false_iff_not]
  all_goals omega

theorem parse_head {h : HD} {opts data zs : List Int} (hw : h.WF) (hr : Rightly h.off h.mf opts.length data.length)
    (hb : ∀ i, i < 20 → i ≠ 10 → i ≠ 11 → byteAt zs i = (head20 h (20 + opts.length) data.length)[i]?.getD 0) :
    hdOf zs = h ∧ sizeR zs = 20 + opts.length ∧ totalR zs = 20 + opts.length + data.length ∧ wordAt zs 6 = flagsW h ∧ byteAt zs 0 / 16 = 4 := by
  have hfl := flagsW_bd hr
  have hbk := flags_back hr
  obtain ⟨r1, r2, r3, r4, r5, r6, r7, r8, r9⟩ := hr
  have b0 : byteAt zs 0 = 64 + ((20 + opts.length : Nat) : Int) / 4 := hb 0 (by omega) (by omega) (by omega)
  have b1 : byteAt zs 1 = h.tos := hb 1 (by omega) (by omega) (by omega)
  have b2 : byteAt zs 2 = (((20 + opts.length : Nat) : Int) + data.length) / 256 % 256 := hb 2 (by omega) (by omega) (by omega)
  have b3 : byteAt zs 3 = (((20 + opts.length : Nat) : Int) + data.length) % 256 := hb 3 (by omega) (by omega) (by omega)
  have b4 : byteAt zs 4 = h.id / 256 % 256 := hb 4 (by omega) (by omega) (by omega)
  have b5 : byteAt zs 5 = h.id % 256 := hb 5 (by omega) (by omega) (by omega)
  have b6 : byteAt zs 6 = flagsW h / 256 % 256 := hb 6 (by omega) (by omega) (by omega)
  have b7 : byteAt zs 7 = flagsW h % 256 := hb 7 (by omega) (by omega) (by omega)
  have b8 : byteAt zs 8 = h.ttl := hb 8 (by omega) (by omega) (by omega)
  have b9 : byteAt zs 9 = h.proto := hb 9 (by omega) (by omega) (by omega)
  have b12 : byteAt zs 12 = h.src / 256 / 256 / 256 % 256 := hb 12 (by omega) (by omega) (by omega)
  have b13 : byteAt zs 13 = h.src / 256 / 256 % 256 := hb 13 (by omega) (by omega) (by omega)
  have b14 : byteAt zs 14 = h.src / 256 % 256 := hb 14 (by omega) (by omega) (by omega)
  have b15 : byteAt zs 15 = h.src % 256 := hb 15 (by omega) (by omega) (by omega)
  have b16 : byteAt zs 16 = h.dst / 256 / 256 / 256 % 256 := hb 16 (by omega) (by omega) (by omega)
  have b17 : byteAt zs 17 = h.dst / 256 / 256 % 256 := hb 17 (by omega) (by omega) (by omega)
  have b18 : byteAt zs 18 = h.dst / 256 % 256 := hb 18 (by omega) (by omega) (by omega)
  have b19 : byteAt zs 19 = h.dst % 256 := hb 19 (by omega) (by omega) (by omega)
  have w2 : wordAt zs 2 = ((20 + opts.length : Nat) : Int) + data.length := by show byteAt zs 2 * 256 + byteAt zs 3 = _; rw [b2, b3]; omega
  have w4 : wordAt zs 4 = h.id := by show byteAt zs 4 * 256 + byteAt zs 5 = _; rw [b4, b5]; have := hw.id; omega
  have w6 : wordAt zs 6 = flagsW h := by show byteAt zs 6 * 256 + byteAt zs 7 = _; rw [b6, b7]; omega
  have l12 : longAt zs 12 = h.src := by
    show (byteAt zs 12 * 256 + byteAt zs 13) * 65536 + (byteAt zs 14 * 256 + byteAt zs 15) = _
    rw [b12, b13, b14, b15]; have := hw.src; omega
  have l16 : longAt zs 16 = h.dst := by
    show (byteAt zs 16 * 256 + byteAt zs 17) * 65536 + (byteAt zs 18 * 256 + byteAt zs 19) = _
    rw [b16, b17, b18, b19]; have := hw.dst; omega
  refine ⟨?_, ?_, ?_, w6, ?_⟩
  · unfold hdOf
    rw [b1, w4, w6, b8, b9, l12, l16, hbk.1, hbk.2.1, hbk.2.2]
  · unfold sizeR; rw [b0]; omega
  · unfold totalR; rw [w2]; omega
  · rw [b0]; omega

theorem parse_ok {h : HD} {opts data zs more : List Int} {hs : List Int} (hw : h.WF) (ho : BD 255 opts) (hr : Rightly h.off h.mf opts.length data.length)
    (hz : zs = hs ++ (opts ++ (data ++ more))) (hl : hs.length = 20) (hsum : sumOf (hs ++ opts) = 65535)
    (hb : ∀ i, i < 20 → i ≠ 10 → i ≠ 11 → byteAt zs i = (head20 h (20 + opts.length) data.length)[i]?.getD 0) : PARSED h opts data zs := by
  obtain ⟨e1, e2, e3, e4, e5⟩ := parse_head hw hr hb
  have hfl := flagsW_bd hr
  have hlen : zs.length = 20 + (opts.length + (data.length + more.length)) := by rw [hz]; simp [hl]
  have htk : zs.take (20 + opts.length) = hs ++ opts := by rw [hz, ← List.append_assoc, List.take_left' (by simp [hl])]
  have hf : faultR zs = 7 := by
    unfold faultR
    rw [if_neg (by omega), if_neg (by rw [e5]; simp), if_neg (by rw [e2]; omega), if_neg (by rw [e2, e3]; omega), if_neg (by rw [e2, htk, hsum]; simp), if_neg (by rw [e4]; omega), if_neg]
    rw [e1, e2, e3, show 20 + opts.length - 20 = opts.length by omega, show ((20 + opts.length + data.length : Nat) : Int) - ((20 + opts.length : Nat) : Int) = data.length by omega, rightB_yes hr]
    simp
  refine ⟨hf, e1, ?_, e2, e3, ?_⟩
  · unfold optsOf
    rw [e2, hz, show 20 + opts.length - 20 = opts.length by omega]
    rw [List.drop_left' hl, List.take_left' rfl]
  · unfold dataR fromR toR
    rw [if_pos hf, if_pos hf, e2, e3, hz, ← List.append_assoc, List.drop_left' (by simp [hl]), List.take_left' (by omega)]

theorem parse_pkt {h : HD} {opts data more : List Int} (hw : h.WF) (ho : BD 255 opts) (hr : Rightly h.off h.mf opts.length data.length) : PARSED h opts data (pktB h opts data ++ more) := by
  have hl40 : opts.length ≤ 40 := hr.2.2.2.1
  have hbd := headB_bd (L := data.length) hw ho hl40
  have hl := headB_len h opts data.length
  have hsum := fix_right hbd (p := 10) (by omega) (by omega)
  have hsplit : fixOf (headB h opts data.length) 10 = (fixOf (headB h opts data.length) 10).take 20 ++ opts := by
    have h1 : (fixOf (headB h opts data.length) 10).drop 20 = opts := by
      unfold fixOf fixZ
      rw [put2_put2]
      unfold put2
      rw [List.drop_set_of_lt (by omega), List.drop_set_of_lt (by omega)]
      unfold headB
      rw [List.drop_left' (head20_len h _ _)]
    exact (List.take_append_drop 20 _).symm.trans (by rw [h1])
  refine parse_ok (hs := (fixOf (headB h opts data.length) 10).take 20) (more := more) hw ho hr ?_ (by simp [fixOf_len, hl]) (by rw [← hsplit]; exact hsum) (fun i hi h1 h2 => pkt_get i hi h1 h2)
  unfold pktB
  conv => lhs; rw [hsplit]
  simp only [List.append_assoc]
end Go.Proofs.Ytljbfnabnkkfeaa
