/- baffleref02.Fix, and bafflelaw02.tells. -/
import Derived.Test.YtdepibljeopcgaaDoorWBase
import Derived.Test.YtdepibljeopcgaaDoorWBags
namespace Go.Proofs.YtdepibljeopcgaaDoor
open Go.RowKit
set_option linter.unusedVariables false

/-- what Fix gives: bytes, and the number of the error -/
def badAt (n : Nat) (q : Int) : Prop := q < 0 ∨ q % 2 = 1 ∨ (n : Int) < q + 2
instance (n : Nat) (q : Int) : Decidable (badAt n q) := by unfold badAt; infer_instance
def fixF (zs : List Int) (n : Nat) (q : Int) : List Int := if badAt n q then [] else fixOf zs q.toNat
def fixE (n : Nat) (q : Int) : Int := if badAt n q then 2 else 0
theorem fixF_len {zs : List Int} {n : Nat} {q : Int} (h : zs.length = n) : (fixF zs n q).length ≤ n := by
  unfold fixF
  split
  · simp
  · rw [fixOf_len, h]; exact Nat.le_refl _
theorem fixE_bd (n : Nat) (q : Int) : 0 ≤ fixE n q ∧ fixE n q ≤ 2 := by unfold fixE; split <;> omega
def FixedE (w : World) (zs : List Int) (n0 : Nat) (q : Int) (e : Ending) (w' : World) : Prop :=
  ∃ A n c, e = .returned (.tuple #[.slice A n c, .int .i64 (fixE n0 q)]) ∧ OWN .u8 5 w' w.heap.size A n c (fixF zs n0 q) ∧ Below w.heap.size w w'

theorem fix_all (A : Option Addr) (n c : Nat) (zs : List Int) (q : Int) (w : World) (h : RD .u8 w w.heap.size A n zs) (hz : BD 255 zs) (hn : n ≤ 140737488355328) (h64 : -9223372036854775808 ≤ q ∧ q ≤ 9223372036854775807) :
    Calls Tryd.prog 16 #[.slice A n c, .int .i64 q] w (FixedE w zs n q) := by
  by_cases hb : badAt n q
  · refine (fix_no A n c q w hn h64 hb).mono ?_
    rintro e w' ⟨rfl, rfl⟩
    exact ⟨none, 0, 0, by rw [fixE, if_pos hb], by rw [fixF, if_pos hb]; exact OWN.nil, Below.refl _ _⟩
  · have hb' := hb
    unfold badAt at hb'
    refine (fix_any A n c zs q q.toNat w h hz hn (by omega) (by omega) (by omega)).mono ?_
    rintro e w' ⟨A', n', c', rfl, ho, hB⟩
    exact ⟨A', n', c', by rw [fixE, if_neg hb], by rw [fixF, if_neg hb]; exact ho, hB⟩

/-- two slices, of which the second was made later -/
theorem apart2 {w : World} {base N1 n1 c1 n2 c2 : Nat} {A1 A2 : Option Addr} {zs ys : List Int} (h1 : OWN .u8 5 w base A1 n1 c1 zs) (h2 : OWN .u8 5 w N1 A2 n2 c2 ys) (hlt : ∀ g, A1 = some ⟨g, 0, none⟩ → g < N1) (hb : base ≤ N1) :
    FAM 5 w base [⟨A1, n1, c1⟩, ⟨A2, n2, c2⟩] (fun j _ => if j = 0 then zs else ys) ∧ SEP [⟨A1, n1, c1⟩, ⟨A2, n2, c2⟩] [] := by
  constructor
  · intro j s hs
    match j, hs with
    | 0, hs => simp at hs; subst hs; exact h1
    | 1, hs => simp at hs; subst hs; exact h2.mono hb
  · intro i j g hi hj
    rcases hi with ⟨s, hs, hg⟩ | ⟨s, hs, _⟩
    · rcases hj with ⟨t, ht, hg'⟩ | ⟨t, ht, _⟩
      · match i, j, hs, ht with
        | 0, 0, _, _ => rfl
        | 1, 1, _, _ => rfl
        | 0, 1, hs, ht =>
          simp at hs ht; subst hs; subst ht
          have a := hlt g hg
          have b := (h2.lt g hg').1
          omega
        | 1, 0, hs, ht =>
          simp at hs ht; subst hs; subst ht
          have a := hlt g hg'
          have b := (h2.lt g hg).1
          omega
      · simp at ht
    · simp at hs

/-- the slices of tells, in one world after another -/
structure TB (w : World) (N1 : Nat) (wx : World) (A A1 A2 : Option Addr) (n n2 c2 : Nat) (zs ys : List Int) : Prop where
  own : OWN .u8 5 wx w.heap.size A1 (n + 12) (n + 12) (zs ++ marksFrom 1 0 12)
  cut : OWN .u8 5 wx w.heap.size A1 n (n + 12) zs
  two : OWN .u8 5 wx N1 A2 n2 c2 ys
  rd : RD .u8 wx wx.heap.size A n zs
  bel : Below w.heap.size w wx
theorem TB.next {w wx wy : World} {N1 : Nat} {A A1 A2 : Option Addr} {n n2 c2 : Nat} {zs ys : List Int} (h : TB w N1 wx A A1 A2 n n2 c2 zs ys) (hb : Below wx.heap.size wx wy) : TB w N1 wy A A1 A2 n n2 c2 zs ys :=
  ⟨h.own.below hb, h.cut.below hb, h.two.below hb, h.rd.later hb, h.bel.trans (hb.mono h.bel.size)⟩

end Go.Proofs.YtdepibljeopcgaaDoor
