/- Plain law: a packet turned. No program in sight. -/
import Derived.Test.YtljbfnabnkkfeaaLIpBk
namespace Go.Proofs.Ytljbfnabnkkfeaa
open Go.RowKit
set_option linter.unusedVariables false

/-- the first twenty bytes, with a checksum -/
def pk20 (h : HD) (size L : Nat) (c : Int) : List Int :=
  [64 + (size : Int) / 4, h.tos, ((size : Int) + L) / 256 % 256, ((size : Int) + L) % 256, h.id / 256 % 256, h.id % 256, flagsW h / 256 % 256, flagsW h % 256, h.ttl, h.proto, c / 256, c % 256,
   h.src / 256 / 256 / 256 % 256, h.src / 256 / 256 % 256, h.src / 256 % 256, h.src % 256, h.dst / 256 / 256 / 256 % 256, h.dst / 256 / 256 % 256, h.dst / 256 % 256, h.dst % 256]
def HD.turn (h : HD) : HD := { h with src := h.dst, dst := h.src }
theorem HD.turn_turn (h : HD) : h.turn.turn = h := rfl
theorem HD.turn_wf {h : HD} (hw : h.WF) : h.turn.WF := ⟨hw.tos, hw.id, hw.off, hw.ttl, hw.proto, hw.dst, hw.src⟩

theorem pkt_pk20 (h : HD) (opts data : List Int) : ∃ c, pktB h opts data = pk20 h (20 + opts.length) data.length c ++ (opts ++ data) := by
  refine ⟨fixC (headB h opts data.length) 10, ?_⟩
  unfold pktB fixOf fixZ
  rw [put2_put2]
  generalize fixC (headB h opts data.length) 10 = c
  rw [← List.append_assoc]
  congr 1

theorem pk20_turn (h : HD) (size L : Nat) (c : Int) : pk20 h.turn size L c =
  [64 + (size : Int) / 4, h.tos, ((size : Int) + L) / 256 % 256, ((size : Int) + L) % 256, h.id / 256 % 256, h.id % 256, flagsW h / 256 % 256, flagsW h % 256, h.ttl, h.proto, c / 256, c % 256,
   h.dst / 256 / 256 / 256 % 256, h.dst / 256 / 256 % 256, h.dst / 256 % 256, h.dst % 256, h.src / 256 / 256 / 256 % 256, h.src / 256 / 256 % 256, h.src / 256 % 256, h.src % 256] := rfl
theorem pk20_sum (h : HD) (s L : Nat) (c : Int) (opts : List Int) : wsum (pk20 h.turn s L c ++ opts) = wsum (pk20 h s L c ++ opts) := by
  rw [wsum_append _ (by simp [pk20]), wsum_append _ (by simp [pk20])]
  unfold pk20 HD.turn
  simp only [wsum_cons2, wsum_nil, flagsW]
  omega

theorem pk20_get {h : HD} {s L : Nat} {c : Int} {m : List Int} (i : Nat) (hi : i < 20) (h1 : i ≠ 10) (h2 : i ≠ 11) : byteAt (pk20 h s L c ++ m) i = (head20 h s L)[i]?.getD 0 := by
  unfold byteAt
  rw [List.getElem?_append_left (by show i < 20; exact hi)]
  rcases (show i = 0 ∨ i = 1 ∨ i = 2 ∨ i = 3 ∨ i = 4 ∨ i = 5 ∨ i = 6 ∨ i = 7 ∨ i = 8 ∨ i = 9 ∨ i = 12 ∨ i = 13 ∨ i = 14 ∨ i = 15 ∨ i = 16 ∨ i = 17 ∨ i = 18 ∨ i = 19 by omega) with rfl | rfl | rfl | rfl | rfl | rfl | rfl | rfl | rfl | rfl | rfl | rfl | rfl | rfl | rfl | rfl | rfl | rfl
  all_goals rfl

theorem turn_pk20 {h : HD} {opts data more : List Int} {c : Int} (hp : PARSED h opts data (pk20 h (20 + opts.length) data.length c ++ (opts ++ data) ++ more)) :
    turnB (pk20 h (20 + opts.length) data.length c ++ (opts ++ data) ++ more) = pk20 h.turn (20 + opts.length) data.length c ++ (opts ++ data) := by
  unfold turnB
  rw [if_pos hp.fault, hp.total]
  have hl : (pk20 h (20 + opts.length) data.length c ++ (opts ++ data)).length = 20 + opts.length + data.length := by simp [pk20]; omega
  rw [List.take_left' hl]
  have e1 : longAt (pk20 h (20 + opts.length) data.length c ++ (opts ++ data) ++ more) 16 = h.dst := congrArg HD.dst hp.hdE
  have e2 : longAt (pk20 h (20 + opts.length) data.length c ++ (opts ++ data) ++ more) 12 = h.src := congrArg HD.src hp.hdE
  rw [e1, e2]
  unfold pk20 HD.turn
  simp [putB, flagsW]

theorem parse_turn {h : HD} {opts data more : List Int} (hw : h.WF) (ho : BD 255 opts) (hr : Rightly h.off h.mf opts.length data.length) {c : Int} (hc0 : 0 ≤ c) (hc1 : c ≤ 65535)
    (hsum : sumOf (pk20 h (20 + opts.length) data.length c ++ opts) = 65535) (hbd : BD 255 (pk20 h (20 + opts.length) data.length c ++ opts)) (hbd' : BD 255 (pk20 h.turn (20 + opts.length) data.length c ++ opts)) :
    PARSED h.turn opts data (pk20 h.turn (20 + opts.length) data.length c ++ (opts ++ data) ++ more) := by
  refine parse_ok (hs := pk20 h.turn (20 + opts.length) data.length c) (more := more) (HD.turn_wf hw) ho hr (by simp only [List.append_assoc]) rfl ?_ (fun i hi h1 h2 => ?_)
  · rw [sumOf_eq hbd', pk20_sum, ← sumOf_eq hbd]
    exact hsum
  · rw [List.append_assoc]
    exact pk20_get i hi h1 h2

/-- a packet turned, and turned again -/
theorem turn_pkt {h : HD} {opts data : List Int} (hw : h.WF) (ho : BD 255 opts) (hd : BD 255 data) (hr : Rightly h.off h.mf opts.length data.length) :
    ∃ T : List Int, (∀ more, turnB (pktB h opts data ++ more) = T) ∧ (∀ more, PARSED h.turn opts data (T ++ more)) ∧ turnB T = pktB h opts data ∧ T.length = (pktB h opts data).length ∧ T[10]?.getD 0 = (pktB h opts data)[10]?.getD 0 ∧ T[11]?.getD 0 = (pktB h opts data)[11]?.getD 0 ∧ BD 255 T ∧ T.drop (20 + opts.length) = data := by
  have hl40 : opts.length ≤ 40 := hr.2.2.2.1
  have hbdP := pkt_bd hw ho hl40 hd
  have hpm : ∀ more, PARSED h opts data (pktB h opts data ++ more) := fun more => parse_pkt hw ho hr
  obtain ⟨c, hc⟩ := pkt_pk20 h opts data
  have hlk := headB_len h opts data.length
  have hsum := fix_right (headB_bd (L := data.length) hw ho hl40) (p := 10) (by omega) (by omega)
  have hfx : fixOf (headB h opts data.length) 10 = pk20 h (20 + opts.length) data.length c ++ opts := by
    have h1 : fixOf (headB h opts data.length) 10 ++ data = (pk20 h (20 + opts.length) data.length c ++ opts) ++ data := by
      rw [List.append_assoc, ← hc]; rfl
    exact List.append_cancel_right h1
  rw [hfx] at hsum
  have hb1 : BD 255 (pk20 h (20 + opts.length) data.length c ++ opts) := by rw [← hfx]; exact fixOf_bd (headB_bd (L := data.length) hw ho hl40) 10
  have hb2 : BD 255 (pk20 h.turn (20 + opts.length) data.length c ++ opts) := by
    intro x hx
    refine hb1 x ?_
    rw [pk20_turn] at hx
    simp only [List.mem_append, pk20, List.mem_cons, List.not_mem_nil, or_false] at hx ⊢
    rcases hx with hx | hx
    · left
      rcases hx with h | h | h | h | h | h | h | h | h | h | h | h | h | h | h | h | h | h | h | h <;> simp only [h, true_or, or_true]
    · right; exact hx
  have hcb := hb1 (c % 256) (by simp [pk20])
  have hcb2 := hb1 (c / 256) (by simp [pk20])
  refine ⟨pk20 h.turn (20 + opts.length) data.length c ++ (opts ++ data), fun more => ?_, fun more => ?_, ?_, ?_, ?_, ?_, ?_, ?_⟩
  · have := hpm more
    rw [hc] at this ⊢
    exact turn_pk20 this
  · exact parse_turn hw ho hr (by omega) (by omega) hsum hb1 hb2
  · have h1 := parse_turn (more := []) hw ho hr (by omega) (by omega) hsum hb1 hb2
    have h2 := turn_pk20 h1
    rw [List.append_nil] at h2
    rw [h2, HD.turn_turn, hc]
  · rw [hc]; simp [pk20]
  · rw [hc]; rfl
  · rw [hc]; rfl
  · rw [← List.append_assoc]
    exact BD.append hb2 hd
  · rw [← List.append_assoc, List.drop_left' (by simp [pk20]; omega)]
end Go.Proofs.Ytljbfnabnkkfeaa
