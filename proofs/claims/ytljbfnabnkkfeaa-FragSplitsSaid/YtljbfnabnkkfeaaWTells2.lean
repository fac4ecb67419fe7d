/- baffleref02.Fix, and bafflelaw02.tells. -/
import Derived.Test.YtljbfnabnkkfeaaWBase
import Derived.Test.YtljbfnabnkkfeaaWBags
namespace Go.Proofs.Ytljbfnabnkkfeaa
open Go.RowKit
set_option linter.unusedVariables false

set_option maxHeartbeats 400000 in
set_option maxRecDepth 100000 in
theorem rFix_no (A : Option Addr) (n c : Nat) (at_ : Int) (w : World) (hn : n ≤ 140737488355328) (h64 : -9223372036854775808 ≤ at_ ∧ at_ ≤ 9223372036854775807) (h : at_ < 0 ∨ at_ % 2 = 1 ∨ (n : Int) < at_ + 2) :
    Calls Try.prog 92 #[.slice A n c, .int .i64 at_] w fun e w' => e = .returned (.tuple #[.slice none 0 0, .int .i64 2]) ∧ w = w' := by
  obtain ⟨h1, h2⟩ := h64
  by_cases h0 : at_ < 0
  · have h0' : decide (at_ < 0) = true := by simp [h0]
    go_enter Try.func92, Try.ntmps92
    go_wp2_with fail
    go_ret2
    exact ⟨rfl, rfl⟩
  · have h0' : 0 ≤ at_ := by omega
    by_cases hm : at_ % 2 = 1
    · have hm' : (at_ % 2 == 1) = true := by simp [hm]
      clear h
      go_enter Try.func92, Try.ntmps92
      go_wp2_with fail
      go_ret2
      exact ⟨rfl, rfl⟩
    · have hm' : (at_ % 2 == 1) = false := by simp [hm]
      by_cases hl : (n : Int) ≤ at_
      · clear h
        go_enter Try.func92, Try.ntmps92
        go_wp2_with fail
        go_ret2
        exact ⟨rfl, rfl⟩
      · have hl2 : (n : Int) < at_ + 2 := by omega
        have hl3 : IntKind.i64.wrap (at_ + 2) = at_ + 2 := IntWalk.i64_in _ (by omega)
        clear h
        go_enter Try.func92, Try.ntmps92
        go_wp2_with fail
        go_ret2
        exact ⟨rfl, rfl⟩

set_option maxHeartbeats 400000 in
set_option maxRecDepth 100000 in
theorem rFix_any (A : Option Addr) (n c : Nat) (zs : List Int) (q : Int) (p : Nat) (w : World) (h : RD .u8 w w.heap.size A n zs) (hz : BD 255 zs) (hn : n ≤ 140737488355328) (hq : q = p) (hp : p % 2 = 0) (hk : p + 2 ≤ n) :
    Calls Try.prog 92 #[.slice A n c, .int .i64 q] w (Fixed w (fixOf zs p)) := by
  subst hq
  obtain ⟨i0, hi, hz0, hz1, hz2⟩ := info_parts infoU8
  have hm' : ((p : Int) % 2 == 1) = false := by simp; omega
  have h0' : (0 : Int) ≤ (p : Int) := by omega
  have hl' : ¬ (n : Int) ≤ (p : Int) := by omega
  have hl2 : ¬ (n : Int) < (p : Int) + 2 := by omega
  have hl3 : IntKind.i64.wrap ((p : Int) + 2) = (p : Int) + 2 := IntWalk.i64_in _ (by omega)
  have hl4 : IntKind.i64.wrap ((p : Int) + 1) = (p : Int) + 1 := IntWalk.i64_in _ (by omega)
  go_enter Try.func92, Try.ntmps92
  go_wp2_with (at_builtin; refine wpList_append_rd _ rfl _ _ _ rfl .u8 w.heap.size 5 i0 1 Try.underlying23 hi hz0 hz1 hz2 (some ⟨w.heap.size, 0, none⟩) 0 0 [] rfl (OWN.lit w .u8 5 w.heap.size [] (Nat.le_refl _) (by simp)) w.heap.size _ _ _ zs rfl (h.alloc (Nat.le_refl _) _) (by simp [maxLen]; omega) (by omega) (by simp) ?_; intro A1 c1 w1 happ; have hown := happ.own; rw [Nat.zero_add, List.nil_append] at hown; rw [Nat.zero_add]; have hb1 : Below w.heap.size w w1 := ((Below.refl _ w).alloc (Nat.le_refl _) _).trans (happ.keepBelow (fun g hg => by simp at hg; omega) (by simp)); obtain ⟨g, rfl, hg1, hg2, hnc, hcm⟩ := hown.form (by omega); have x1 := hown.cell (i := p) (by omega); have x2 := hown.cell (i := p + 1) (by omega); have x3 := hown.frozen p; have x4 := hown.frozen (p + 1); clear happ)
  have own2 : OWN .u8 5 ((w1.setCell ⟨g, p, none⟩ (.int .u8 0)).setCell ⟨g, p + 1, none⟩ (.int .u8 0)) w.heap.size (some ⟨g, 0, none⟩) n c1 (fixZ zs p) := hown.two p 0 0
  have hb2 : Below w.heap.size w ((w1.setCell ⟨g, p, none⟩ (.int .u8 0)).setCell ⟨g, p + 1, none⟩ (.int .u8 0)) := (hb1.setCell (p := ⟨g, p, none⟩) hg1 _).setCell (p := ⟨g, p + 1, none⟩) hg1 _
  generalize (w1.setCell ⟨g, p, none⟩ (.int .u8 0)).setCell ⟨g, p + 1, none⟩ (.int .u8 0) = w2 at own2 hb2 ⊢
  have hz2' : BD 255 (fixZ zs p) := put2_bd hz (by omega) (by omega)
  obtain ⟨hc1, hc2⟩ := fixC_bd hz p
  clear x1 x2 x3 x4 hown hb1 hg2
  refine (rOf_any _ n c1 (fixZ zs p) w2 own2.rd hz2' hn).mono ?_
  rintro e w3 ⟨rfl, rfl⟩
  rw [show 65535 - sumOf (fixZ zs p) = fixC zs p from rfl]
  have x1 := own2.cell (i := p) (by omega)
  have x2 := own2.cell (i := p + 1) (by omega)
  have x3 := own2.frozen p
  have x4 := own2.frozen (p + 1)
  have e1 := u8_in (fixC zs p / 256) (by omega) (by omega)
  have e2 := u8_mod (fixC zs p)
  have e3 := u8_in (fixC zs p % 256) (by omega) (by omega)
  go_wp2_with fail
  go_ret2
  exact ⟨some ⟨g, 0, none⟩, _, c1, rfl, (own2.stored p (fixC zs p / 256)).stored (p + 1) (fixC zs p % 256), (hb2.setCell (p := ⟨g, p, none⟩) hg1 _).setCell (p := ⟨g, p + 1, none⟩) hg1 _⟩

/-- what Fix gives: bytes, and the number of the error -/
def badAt (n : Nat) (q : Int) : Prop := q < 0 ∨ q % 2 = 1 ∨ (n : Int) < q + 2
instance (n : Nat) (q : Int) : Decidable (badAt n q) := by unfold badAt; infer_instance
def fixF (zs : List Int) (n : Nat) (q : Int) : List Int := if badAt n q then [] else fixOf zs q.toNat
def fixE (n : Nat) (q : Int) : Int := if badAt n q then 2 else 0
theorem fixF_len {zs : List Int} {n : Nat} {q : Int} (h : zs.length = n) : (fixF zs n q).length ≤ n := by
  unfold fixF
  split
  · simp
  · rw [fixOf_len, h]; exact Nat.le_refl _
theorem fixE_bd (n : Nat) (q : Int) : 0 ≤ fixE n q ∧ fixE n q ≤ 2 := by unfold fixE; split <;> omega
def FixedE (w : World) (zs : List Int) (n0 : Nat) (q : Int) (e : Ending) (w' : World) : Prop :=
  ∃ A n c, e = .returned (.tuple #[.slice A n c, .int .i64 (fixE n0 q)]) ∧ OWN .u8 5 w' w.heap.size A n c (fixF zs n0 q) ∧ Below w.heap.size w w'

theorem fix_all (A : Option Addr) (n c : Nat) (zs : List Int) (q : Int) (w : World) (h : RD .u8 w w.heap.size A n zs) (hz : BD 255 zs) (hn : n ≤ 140737488355328) (h64 : -9223372036854775808 ≤ q ∧ q ≤ 9223372036854775807) :
    Calls Try.prog 54 #[.slice A n c, .int .i64 q] w (FixedE w zs n q) := by
  by_cases hb : badAt n q
  · refine (fix_no A n c q w hn h64 hb).mono ?_
    rintro e w' ⟨rfl, rfl⟩
    exact ⟨none, 0, 0, by rw [fixE, if_pos hb], by rw [fixF, if_pos hb]; exact OWN.nil, Below.refl _ _⟩
  · have hb' := hb
    unfold badAt at hb'
    refine (fix_any A n c zs q q.toNat w h hz hn (by omega) (by omega) (by omega)).mono ?_
    rintro e w' ⟨A', n', c', rfl, ho, hB⟩
    exact ⟨A', n', c', by rw [fixE, if_neg hb], by rw [fixF, if_neg hb]; exact ho, hB⟩

theorem rFix_all (A : Option Addr) (n c : Nat) (zs : List Int) (q : Int) (w : World) (h : RD .u8 w w.heap.size A n zs) (hz : BD 255 zs) (hn : n ≤ 140737488355328) (h64 : -9223372036854775808 ≤ q ∧ q ≤ 9223372036854775807) :
    Calls Try.prog 92 #[.slice A n c, .int .i64 q] w (FixedE w zs n q) := by
  by_cases hb : badAt n q
  · refine (rFix_no A n c q w hn h64 hb).mono ?_
    rintro e w' ⟨rfl, rfl⟩
    exact ⟨none, 0, 0, by rw [fixE, if_pos hb], by rw [fixF, if_pos hb]; exact OWN.nil, Below.refl _ _⟩
  · have hb' := hb
    unfold badAt at hb'
    refine (rFix_any A n c zs q q.toNat w h hz hn (by omega) (by omega) (by omega)).mono ?_
    rintro e w' ⟨A', n', c', rfl, ho, hB⟩
    exact ⟨A', n', c', by rw [fixE, if_neg hb], by rw [fixF, if_neg hb]; exact ho, hB⟩

/-- two slices, of which the second was made later -/
theorem apart2 {w : World} {base N1 n1 c1 n2 c2 : Nat} {A1 A2 : Option Addr} {zs ys : List Int} (h1 : OWN .u8 5 w base A1 n1 c1 zs) (h2 : OWN .u8 5 w N1 A2 n2 c2 ys) (hlt : ∀ g, A1 = some ⟨g, 0, none⟩ → g < N1) (hb : base ≤ N1) :
    FAM 5 w base [⟨A1, n1, c1⟩, ⟨A2, n2, c2⟩] (fun j _ => if j = 0 then zs else ys) ∧ SEP [⟨A1, n1, c1⟩, ⟨A2, n2, c2⟩] [] := by
  constructor
  · intro j s hs
    match j, hs with
    | 0, hs => simp at hs; subst hs; exact h1
    | 1, hs => simp at hs; subst hs; exact h2.mono hb
  · intro i j g hi hj
    rcases hi with ⟨s, hs, hg⟩ | ⟨s, hs, _⟩
    · rcases hj with ⟨t, ht, hg'⟩ | ⟨t, ht, _⟩
      · match i, j, hs, ht with
        | 0, 0, _, _ => rfl
        | 1, 1, _, _ => rfl
        | 0, 1, hs, ht =>
          simp at hs ht; subst hs; subst ht
          have a := hlt g hg
          have b := (h2.lt g hg').1
          omega
        | 1, 0, hs, ht =>
          simp at hs ht; subst hs; subst ht
          have a := hlt g hg'
          have b := (h2.lt g hg).1
          omega
      · simp at ht
    · simp at hs

/-- the slices of tells, in one world after another -/
structure TB (w : World) (N1 : Nat) (wx : World) (A A1 A2 : Option Addr) (n n2 c2 : Nat) (zs ys : List Int) : Prop where
  own : OWN .u8 5 wx w.heap.size A1 (n + 12) (n + 12) (zs ++ marksFrom 1 0 12)
  cut : OWN .u8 5 wx w.heap.size A1 n (n + 12) zs
  two : OWN .u8 5 wx N1 A2 n2 c2 ys
  rd : RD .u8 wx wx.heap.size A n zs
  bel : Below w.heap.size w wx
theorem TB.next {w wx wy : World} {N1 : Nat} {A A1 A2 : Option Addr} {n n2 c2 : Nat} {zs ys : List Int} (h : TB w N1 wx A A1 A2 n n2 c2 zs ys) (hb : Below wx.heap.size wx wy) : TB w N1 wy A A1 A2 n n2 c2 zs ys :=
  ⟨h.own.below hb, h.cut.below hb, h.two.below hb, h.rd.later hb, h.bel.trans (hb.mono h.bel.size)⟩

theorem tb_apart {w wx : World} {N1 : Nat} {A A1 A2 : Option Addr} {n n2 c2 cB : Nat} {zs ys : List Int} (h : TB w N1 wx A A1 A2 n n2 c2 zs ys) (hlt : ∀ g, A1 = some ⟨g, 0, none⟩ → g < N1) (hs : w.heap.size ≤ N1) (hn : n ≤ 140737488351232) (hl2 : n2 ≤ n) :
    Calls Try.prog 59 #[.slice (some ⟨wx.heap.size, 0, none⟩) 2 cB] (wx.alloc (.cells #[.slice A1 n (n + 12), .slice A2 n2 c2] 23)) fun e w' => e = .returned (.bool true) ∧ Below w.heap.size wx w' := by
  have hw := h.bel.size
  obtain ⟨hF, hS⟩ := apart2 (N1 := N1) (h.cut.alloc (.cells #[.slice A1 n (n + 12), .slice A2 n2 c2] 23)) (h.two.alloc _) hlt hs
  refine (apartBytes_any (some ⟨wx.heap.size, 0, none⟩) cB w.heap.size [⟨A1, n, n + 12⟩, ⟨A2, n2, c2⟩] _ _ ?_ hF hS (by simp) ?_ (by simp; omega)).mono ?_
  · intro _
    refine ⟨wx.heap.size, _, rfl, heap_new wx _, fun k s hs => ?_⟩
    match k, hs with
    | 0, hs => simp at hs; subst hs; rfl
    | 1, hs => simp at hs; subst hs; rfl
  · intro j s hs
    match j, hs with
    | 0, hs => simp at hs; subst hs; exact hn
    | 1, hs => simp at hs; subst hs; exact Nat.le_trans hl2 hn
  · rintro e w' ⟨rfl, hb⟩
    exact ⟨rfl, ((Below.refl _ wx).alloc hw _).trans hb⟩

end Go.Proofs.Ytljbfnabnkkfeaa
