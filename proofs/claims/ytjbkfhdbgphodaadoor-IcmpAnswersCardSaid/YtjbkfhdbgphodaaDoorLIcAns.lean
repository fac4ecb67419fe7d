/- Plain law of ICMP: answers. No program in sight. -/
import Derived.Test.YtjbkfhdbgphodaaDoorLIcP
namespace Go.Proofs.YtjbkfhdbgphodaaDoor
open Go.RowKit
set_option linter.unusedVariables false

/-- bytes as others are, but for their checksum -/
structure BUTCK (P Q : List Int) : Prop where
  len : Q.length = P.length
  bd : BD 255 Q
  g0 : Q[0]?.getD 0 = P[0]?.getD 0
  g1 : Q[1]?.getD 0 = P[1]?.getD 0
  d4 : Q.drop 4 = P.drop 4
theorem BUTCK.refl {P : List Int} (h : BD 255 P) : BUTCK P P := ⟨rfl, h, rfl, rfl, rfl⟩
theorem BUTCK.set {P : List Int} (h : BD 255 P) {x y : Int} (hx : 0 ≤ x ∧ x ≤ 255) (hy : 0 ≤ y ∧ y ≤ 255) : BUTCK P ((P.set 2 x).set 3 y) := by
  refine ⟨by simp, put2_bd h hx hy, ?_, ?_, ?_⟩
  · rw [List.getElem?_set_ne (by omega), List.getElem?_set_ne (by omega)]
  · rw [List.getElem?_set_ne (by omega), List.getElem?_set_ne (by omega)]
  · apply List.ext_getElem?
    intro i
    rw [List.getElem?_drop, List.getElem?_drop, List.getElem?_set_ne (by omega), List.getElem?_set_ne (by omega)]
theorem drop4_get {P Q : List Int} (h : Q.drop 4 = P.drop 4) (i : Nat) : Q[4 + i]?.getD 0 = P[4 + i]?.getD 0 := by
  have := congrArg (fun l => l[i]?) h
  simp only [List.getElem?_drop] at this
  rw [this]
theorem sReply_q : ∀ t : Nat, t < 19 → sKind t = 3 → sCode t = 0 ∧ ((t = 8 ∧ sReply t = ((0 : Nat) : Int)) ∨ (t = 13 ∧ sReply t = ((14 : Nat) : Int)) ∨ (t = 17 ∧ sReply t = ((18 : Nat) : Int))) := by decide
theorem ic_ans {P Q : List Int} {ty : Nat} {cv id seq : Int} (hB : BUTCK P Q) (hk : kE ty cv = 0) (ht : ty ≤ 18) (hc : 0 ≤ cv) (h8 : 8 ≤ P.length) (h0 : P[0]?.getD 0 = (ty : Int)) (h1 : P[1]?.getD 0 = cv) (w4 : wordAt P 4 = id) (w6 : wordAt P 6 = seq) :
    icAE Q = (if sKind ty = 3 then 0 else 2) ∧ (sKind ty ≠ 3 → icAB Q = []) ∧ (sKind ty = 3 → ∃ (r : Nat) (C : List Int), icAB Q = C ∧ C.length = Q.length ∧ BD 255 C ∧ icE C = 0 ∧ icM C = #[.int .u8 (r : Int), .int .u8 0, .int .u16 id, .int .u16 seq] ∧ C.drop 4 = Q.drop 4 ∧ icV C = true ∧ icAE C = 2 ∧ icAB C = [] ∧ kE r 0 = 0 ∧ kK r 0 = 4 ∧ ((ty = 8 ∧ r = 0) ∨ (ty = 13 ∧ r = 14) ∨ (ty = 17 ∧ r = 18))) := by
  obtain ⟨b1, b2, b3, b4, b5⟩ := hB
  have hE : icE Q = 0 := by
    unfold icE
    rw [if_neg (by omega), b3, b4, h0, h1, show ((ty : Int)).toNat = ty by omega]; exact hk
  have hAE : icAE Q = if sKind ty = 3 then 0 else 2 := by
    unfold icAE
    rw [if_pos hE, b3, h0, show ((ty : Int)).toNat = ty by omega]
  refine ⟨hAE, fun h => ?_, fun h => ?_⟩
  · unfold icAB
    rw [hAE, if_neg h, if_neg (by decide)]
  · obtain ⟨hs, hr⟩ := sReply_q ty (by omega) h
    have hcv : cv = 0 := by
      unfold kE at hk
      rw [if_neg (by rw [h]; decide), hs] at hk
      split at hk
      · cases hk
      · omega
    subst hcv
    obtain ⟨r, hr1, hr2, hr18, hrk, hrk2, hrs⟩ : ∃ r : Nat, sReply ty = (r : Int) ∧ ((ty = 8 ∧ r = 0) ∨ (ty = 13 ∧ r = 14) ∨ (ty = 17 ∧ r = 18)) ∧ r ≤ 18 ∧ kE r 0 = 0 ∧ kK r 0 = 4 ∧ sKind r = 4 := by
      rcases hr with ⟨h, hr⟩ | ⟨h, hr⟩ | ⟨h, hr⟩
      · exact ⟨0, hr, .inl ⟨h, rfl⟩, by omega, by decide, by decide, by decide⟩
      · exact ⟨14, hr, .inr (.inl ⟨h, rfl⟩), by omega, by decide, by decide, by decide⟩
      · exact ⟨18, hr, .inr (.inr ⟨h, rfl⟩), by omega, by decide, by decide, by decide⟩
    have hbd : BD 255 (Q.set 0 (r : Int)) := fun y hy => by
      rcases List.mem_or_eq_of_mem_set hy with hy | rfl
      · exact b2 y hy
      · omega
    have g : ∀ i, i ≠ 2 → i ≠ 3 → (fixOf (Q.set 0 (r : Int)) 2)[i]?.getD 0 = (Q.set 0 (r : Int))[i]?.getD 0 := fun i h1 h2 => fix_get h1 h2
    have g0 : (fixOf (Q.set 0 (r : Int)) 2)[0]?.getD 0 = (r : Int) := by rw [g 0 (by omega) (by omega), List.getElem?_set_self (by omega)]; rfl
    have g1 : (fixOf (Q.set 0 (r : Int)) 2)[1]?.getD 0 = 0 := by rw [g 1 (by omega) (by omega), List.getElem?_set_ne (by omega), b4, h1]
    have gi : ∀ i, (fixOf (Q.set 0 (r : Int)) 2)[4 + i]?.getD 0 = P[4 + i]?.getD 0 := fun i => by
      rw [g (4 + i) (by omega) (by omega), List.getElem?_set_ne (by omega), drop4_get b5 i]
    have e4 : wordAt (fixOf (Q.set 0 (r : Int)) 2) 4 = id := by
      rw [← w4]; unfold wordAt; rw [show 4 + 1 = 4 + 1 from rfl, gi 1, show 4 = 4 + 0 from rfl, gi 0]
    have e6 : wordAt (fixOf (Q.set 0 (r : Int)) 2) 6 = seq := by
      rw [← w6]; unfold wordAt; rw [show 6 + 1 = 4 + 3 from rfl, gi 3, show 6 = 4 + 2 from rfl, gi 2]
    have hlen : (fixOf (Q.set 0 (r : Int)) 2).length = Q.length := by rw [fixOf_len]; simp
    have hE2 : icE (fixOf (Q.set 0 (r : Int)) 2) = 0 := by
      unfold icE
      rw [if_neg (by omega), g0, g1, show ((r : Int)).toNat = r by omega]; exact hrk
    have hAE2 : icAE (fixOf (Q.set 0 (r : Int)) 2) = 2 := by
      unfold icAE
      rw [if_pos hE2, g0, show ((r : Int)).toNat = r by omega, hrs, if_neg (by decide)]
    have hs2 := fix_right hbd (p := 2) (by rfl) (by simp; omega)
    refine ⟨r, fixOf (Q.set 0 (r : Int)) 2, ?_, hlen, fixOf_bd hbd 2, hE2, ?_, ?_, ?_, hAE2, ?_, hrk, hrk2, hr2⟩
    · unfold icAB
      rw [hAE, if_pos h, if_pos rfl, b3, h0, show ((ty : Int)).toNat = ty by omega, hr1]
    · unfold icM
      rw [if_pos hE2, g0, g1, e4, e6]
    · rw [fix_drop]
      apply List.ext_getElem?
      intro i
      rw [List.getElem?_drop, List.getElem?_drop, List.getElem?_set_ne (by omega)]
    · unfold icV; rw [hs2, hlen, decide_eq_true (by omega)]; rfl
    · unfold icAB
      rw [hAE2, if_neg (by decide)]
end Go.Proofs.YtjbkfhdbgphodaaDoor
