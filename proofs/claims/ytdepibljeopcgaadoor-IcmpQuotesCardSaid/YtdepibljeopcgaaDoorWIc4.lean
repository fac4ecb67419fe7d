/- package icmp: Answer. -/
import Derived.Test.YtdepibljeopcgaaDoorWIc3
namespace Go.Proofs.YtdepibljeopcgaaDoor
open Go.RowKit
set_option linter.unusedVariables false
attribute [local go_sem ↓] Go.wp_at_zero Go.wp_at_succ

set_option maxHeartbeats 1000000 in
set_option maxRecDepth 100000 in
theorem icanswer_any (A : Option Addr) (n c : Nat) (zs : List Int) (w : World) (h : RD .u8 w w.heap.size A n zs) (hz : BD 255 zs) (hn : n ≤ c) (hc : n ≤ 140737488351232) (hS : SORTS w) :
    Calls Tryd.prog 10 #[.slice A n c] w (Gives w (icAB zs) (icAE zs)) := by
  have HL := Lib.hid h.len
  have R := Lib.hid h
  have HSS := Lib.hid hS
  have S0 := SP.start w
  go_enter Tryd.func10, Tryd.ntmps10
  go_wp2_with fail
  refine (icread_any A n c zs w h hz hn hc hS).mono ?_
  rintro e w1 ⟨rfl, hb1⟩
  have H1 := Lib.hid ((S0.next hb1).alloc 38 (icM zs))
  clear h hS S0
  by_cases hE : icE zs = 0
  · have h8 : 8 ≤ n := by
      rcases Nat.lt_or_ge n 8 with h | h
      · exfalso
        have : icE zs = 100 := by unfold icE; rw [if_pos (by rw [HL.out]; exact h)]
        omega
      · exact h
    have HEE := Lib.hid hE
    obtain ⟨b, off, rfl, hb, hcell⟩ := R.out.2 (by omega)
    obtain ⟨a0, a1⟩ := hz.get (by omega) 0
    obtain ⟨t, ht⟩ : ∃ t : Nat, zs[0]?.getD 0 = (t : Int) := ⟨(zs[0]?.getD 0).toNat, by omega⟩
    rw [ht] at a0 a1
    have HT := Lib.hid ht
    have hkE : kE t (zs[1]?.getD 0) = 0 := by
      have := hE
      unfold icE at this
      rw [if_neg (by rw [HL.out]; omega), ht] at this
      exact this
    have ht19 : t < 19 := by
      rcases Nat.lt_or_ge t 19 with h | h
      · exact h
      · unfold kE at hkE; rw [if_pos (sKind_big h)] at hkE; cases hkE
    have hx0 : w.cell? ⟨b, off, none⟩ = some (.int .u8 (t : Int)) := by have := hcell 0 (by omega); rw [ht] at this; exact this
    have HX := Lib.hid (fun (W : World) (hb' : Below w.heap.size w W) => (show W.cell? ⟨b, off, none⟩ = some (.int .u8 (t : Int)) ∧ W.cell? ⟨3, t * 3, none⟩ = some (.int .u8 (sKind t)) ∧ W.cell? ⟨3, t * 3 + 2, none⟩ = some (.int .u8 (sReply t)) from by
      have hs := HSS.out.below hb'
      refine ⟨(hb'.cell (p := ⟨b, off, none⟩) hb).trans hx0, ?_, ?_⟩
      · have := hs.cell (i := t * 3) (by omega)
        rw [this]; unfold sKind; rw [Nat.mul_comm]
      · have := hs.cell (i := t * 3 + 2) (by omega)
        rw [this]; unfold sReply; rw [Nat.mul_comm]))
    obtain ⟨k0, k1⟩ : 0 ≤ sKind t ∧ sKind t ≤ 18 := SORTZ_bd.get (by omega) _
    obtain ⟨r0, r1⟩ : 0 ≤ sReply t ∧ sReply t ≤ 18 := SORTZ_bd.get (by omega) _
    obtain ⟨q0, q1, q2, q3, hq⟩ : ∃ q0 q1 q2 q3, icM zs = #[.int .u8 q0, .int .u8 q1, .int .u16 q2, .int .u16 q3] := by
      unfold icM
      split
      · exact ⟨_, _, _, _, rfl⟩
      · exact ⟨_, _, _, _, rfl⟩
    rw [hE]
    rw [hq] at H1 ⊢
    have hAE := Lib.hid (show icAE zs = if sKind t = 3 then 0 else 2 by unfold icAE; rw [if_pos hE, ht]; rfl)
    clear hE hq ht hkE hx0 hcell hb1
    have i0' : (0 : Int) < (n : Int) := by omega
    have j0' : 0 < n := by omega
    have i19 : (t : Int) < 19 := by omega
    go_upto_region 2 with fail
    generalize w1.alloc (.cells #[.int .u8 q0, .int .u8 q1, .int .u16 q2, .int .u16 q3] 38) = w2 at H1 ⊢
    obtain ⟨x0, x1, x2⟩ := HX.out w2 H1.out.bel
    by_cases hk : sKind t = 3
    · have t3 : (sKind t != 3) = false := by simp [hk]
      have HK := Lib.hid hk
      have HE := Lib.hid (show icAE zs = 0 by rw [hAE.out, if_pos hk])
      clear hk
      go_wp2_with fail
      refine (clone_any _ n c zs _ ((R.out.below H1.out.bel).more H1.out.size) (by omega)).mono ?_
      rintro e w3 ⟨A3, n3, c3, rfl, own3, hb3⟩
      obtain rfl : n = n3 := by rw [← own3.len, HL.out]
      obtain ⟨g3, rfl, hg3, _⟩ := own3.form (by omega)
      have H3 := Lib.hid (H1.out.pushOwn hb3 own3)
      clear own3 hb3 H1 x0 x1 x2
      obtain ⟨x0, x1, x2⟩ := HX.out w3 H3.out.bel
      have y0 := (H3.out.own 1 rfl).cell (i := 0) (by omega)
      have z0 := (H3.out.own 1 rfl).frozen 0
      have H4 := Lib.hid (H3.out.setO 1 rfl 0 (sReply t))
      go_upto_region 8 with fail
      generalize w3.setCell ⟨g3, 0, none⟩ (.int .u8 (sReply t)) = w4 at H4 ⊢
      clear x0 x1 x2 y0 z0 H3
      have hbd : BD 255 (zs.set 0 (sReply t)) := fun y hy => by
        rcases List.mem_or_eq_of_mem_set hy with hy | rfl
        · exact hz y hy
        · omega
      go_wp2_with fail
      refine (fix_any _ n c3 (zs.set 0 (sReply t)) 2 2 _ (H4.out.rd 1 rfl) hbd (by omega) rfl (by omega) (by omega)).mono ?_
      rintro e w5 ⟨A5, n5, c5, rfl, own5, hb5⟩
      have H5 := Lib.hid (H4.out.pushOwn hb5 own5)
      have HB := Lib.hid (show icAB zs = fixOf (zs.set 0 (sReply t)) 2 by unfold icAB; rw [if_pos HE.out, HT.out]; rfl)
      clear own5 hb5
      go_wp2_with fail
      go_ret2
      exact ⟨A5, n5, c5, by rw [HE.out]; rfl, by rw [HB.out]; exact H5.out.own 2 rfl, H5.out.bel⟩
    · have t3 : (sKind t != 3) = true := by simp [hk]
      have HE := Lib.hid (show icAE zs = 2 by rw [hAE.out, if_neg hk])
      have HB := Lib.hid (show icAB zs = [] by unfold icAB; rw [if_neg (by rw [HE.out]; decide)])
      clear hk
      go_wp2_with fail
      go_ret2
      exact ⟨none, 0, 0, by rw [HE.out]; rfl, by rw [HB.out]; exact OWN.nil, H1.out.bel⟩
  · have t1 : (icE zs != 0) = true := by simp [hE]
    have HE := Lib.hid (show icAE zs = icE zs by unfold icAE; rw [if_neg hE])
    have HB := Lib.hid (show icAB zs = [] by unfold icAB; rw [if_neg (by rw [HE.out]; exact hE)])
    have hb2 : ∀ o, Below w.heap.size w (w1.alloc o) := fun o => hb1.alloc hb1.size o
    have HB2 := Lib.hid hb2
    obtain ⟨q0, q1, q2, q3, hq⟩ : ∃ q0 q1 q2 q3, icM zs = #[.int .u8 q0, .int .u8 q1, .int .u16 q2, .int .u16 q3] := by
      unfold icM
      split
      · exact ⟨_, _, _, _, rfl⟩
      · exact ⟨_, _, _, _, rfl⟩
    rw [hq]
    clear hE hb1 hb2 hq H1
    go_wp2_with fail
    go_ret2
    exact ⟨none, 0, 0, by rw [HE.out]; rfl, by rw [HB.out]; exact OWN.nil, HB2.out _⟩
end Go.Proofs.YtdepibljeopcgaaDoor
