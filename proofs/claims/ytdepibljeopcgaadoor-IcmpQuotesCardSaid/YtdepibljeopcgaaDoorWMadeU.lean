/- bafflelaw10.Made, as the laws use it. -/
import Derived.Test.YtdepibljeopcgaaDoorWMade10
namespace Go.Proofs.YtdepibljeopcgaaDoor
open Go.RowKit
set_option linter.unusedVariables false

/-- a type, a code and its kind -/
structure MOK (ty : Nat) (cd kd : Int) : Prop where
  t18 : ty ≤ 18
  c0 : 0 ≤ cd
  c15 : cd ≤ 15
  kE : kE ty cd = 0
  kK : kK ty cd = kd
  s : sKind ty = kd
  k3 : 3 ≤ kd
  k5 : kd ≤ 5
def MadeU (id seq : Int) (w : World) (e : Ending) (w' : World) : Prop :=
  ∃ (ty : Nat) (cd kd : Int) (A : Option Addr) (n c : Nat) (ys : List Int), e = .returned (.tuple #[.agg (msg4 (ty : Int) cd id seq), .int .u8 kd, .slice A n c]) ∧ MOK ty cd kd ∧ OWN .u8 5 w' w.heap.size A n c ys ∧ BD 255 ys ∧ n ≤ 80 ∧ Below w.heap.size w w'
theorem madeU_any (T cd id seq : Int) (A : Option Addr) (n c : Nat) (zs : List Int) (w : World) (hT : 0 ≤ T ∧ T ≤ 255) (hcd : 0 ≤ cd ∧ cd ≤ 255) (h : RD .u8 w w.heap.size A n zs) (hz : BD 255 zs) (hn : n ≤ c) (hc : c ≤ maxLen) (hS : TABS w) :
    Calls Tryd.prog 5 #[.agg #[.int .u8 T, .int .u8 cd, .int .u16 id, .int .u16 seq, .slice A n c]] w (MadeU id seq w) := by
  obtain ⟨t, rfl⟩ := Int.eq_ofNat_of_zero_le hT.1
  refine (made10_any t (t % 11) cd id seq A n c zs w (by omega) rfl hcd h hz hn hc hS).mono ?_
  rintro e w' ⟨A2, n2, c2, ys, rfl, own, bd, h80, hb⟩
  obtain ⟨f1, f2, f3, f4, f5, f6, f7, f8, _⟩ := made_facts (t % 11) (by omega)
  obtain ⟨g1, g2, g3, g4⟩ := made_kE (k := t % 11) (by omega) hcd.1
  have hm : mTy (t % 11) = (((mTy (t % 11)).toNat : Nat) : Int) := by omega
  exact ⟨(mTy (t % 11)).toNat, mCd (t % 11) cd, mKd (t % 11), A2, n2, c2, ys, by rw [← hm], ⟨by omega, g3, g4, g1, g2, f5, f7, f8⟩, own, bd, h80, hb⟩
end Go.Proofs.YtdepibljeopcgaaDoor
