/- The walk of CsumNumbers. -/
import Derived.Test.YtfaihaooompojaaWAwake2
import Derived.Test.YtfaihaooompojaaWUpd32
import Derived.Test.YtfaihaooompojaaWRef2
import Derived.Test.YtfaihaooompojaaRow
import Derived.Deep.DeepCutAuto
namespace Go.Proofs.Ytfaihaooompojaa
open Go.RowKit
set_option linter.unusedVariables false

theorem infoU16 : (Try.prog.info? 29).map (fun i => (i.zero, i.size, i.bytes)) = some (some (.int .u16 0), 1, 2) := by kernel_rfl

/-- what Pseudo returns, and its reference -/
def SaysP (a b c d P E : Int) : Prop := ∀ w : World, Calls Try.prog 13 #[.int .u32 a, .int .u32 b, .int .u8 c, .int .i64 d] w fun e w' => e = .returned (.tuple #[.int .u16 P, .int .i64 E]) ∧ Below w.heap.size w w'
def SaysR (a b c d P E : Int) : Prop := ∀ w : World, Calls Try.prog 40 #[.int .i64 a, .int .i64 b, .int .i64 c, .int .i64 d] w fun e w' => e = .returned (.tuple #[.int .i64 P, .int .i64 E]) ∧ w = w'

set_option maxHeartbeats 4000000 in
set_option maxRecDepth 100000 in
theorem numbers_core (A : Option Addr) (n c : Nat) (zs : List Int) (check old new a b proto length P E : Int) (w : World) (h : ROW .u16 65535 w A n c zs) (hn : n ≤ 100000)
    (c1 : 0 ≤ check) (c2 : check ≤ 65535) (o1 : 0 ≤ old) (o2 : old ≤ 65535) (n1 : 0 ≤ new) (n2 : new ≤ 65535) (a1 : 0 ≤ a) (a2 : a ≤ 4294967295) (b1 : 0 ≤ b) (b2 : b ≤ 4294967295) (p1 : 0 ≤ proto) (p2 : proto ≤ 255)
    (q1 : 0 ≤ P) (q2 : P ≤ 65535) (hP : SaysP a b proto length P E) (hR : SaysR a b proto length P E) :
    Calls Try.prog 19 #[.slice A n c, .int .u16 check, .int .u16 old, .int .u16 new, .int .u32 a, .int .u32 b, .int .u8 proto, .int .i64 length] w fun e w' => e = .returned (.bool true) ∧ Below w.heap.size w w' := by
  obtain ⟨i0, hi, hz0, hz1, hz2⟩ := info_parts infoU16
  have hn' : ¬ (100000 : Int) < (n : Int) := by omega
  have hrd := h.rd
  have HL := Lib.hid h.rd.1
  have hbd := h.bd
  clear h
  go_enter Try.func19, Try.ntmps19
  go_wp2_with (at_builtin; refine wpList_append_rd _ rfl _ _ _ rfl .u16 w.heap.size 29 i0 2 Try.underlying36 hi hz0 hz1 hz2 (some ⟨w.heap.size, 0, none⟩) 0 0 [] rfl (OWN.lit w .u16 29 w.heap.size [] (Nat.le_refl _) (by simp)) w.heap.size _ _ _ zs rfl (hrd.alloc (Nat.le_refl _) _) (by simp only [maxLen]; omega) (by omega) (by simp) ?_; intro A' c' w1 happ)
  have HB : Below w.heap.size w w1 := ((Below.refl _ w).alloc (Nat.le_refl _) _).trans (happ.keepBelow (fun g hg => by simp at hg; omega) (by simp))
  have own1 := happ.own
  rw [Nat.zero_add, List.nil_append] at own1
  clear happ
  refine (hP _).mono ?_
  rintro e w2 ⟨rfl, hb⟩
  replace own1 := own1.below hb
  replace HB := HB.trans (hb.mono HB.size)
  clear hb
  go_wp2_with fail
  refine (hR _).mono ?_
  rintro e w3 ⟨rfl, rfl⟩
  go_wp2_with fail
  refine (join_any _ _ _ zs _ own1.rd hbd (by omega)).mono ?_
  rintro e w3 ⟨rfl, rfl⟩
  obtain ⟨j1, j2⟩ := foldJ_bd zs (s := 0) (by omega) (by omega) hbd
  go_wp2_with fail
  refine (rJoin_any _ _ _ zs _ ((hrd.below HB).more HB.size) hbd hn).mono ?_
  rintro e w3 ⟨rfl, rfl⟩
  go_wp2_with fail
  refine (update_any _ _ _ _ c1 c2 o1 o2 n1 n2).mono ?_
  rintro e w3 ⟨rfl, hb⟩
  replace own1 := own1.below hb
  replace HB := HB.trans (hb.mono HB.size)
  clear hb
  obtain ⟨u1, u2⟩ := upd_bd c1 c2 o1 o2 n1 n2
  go_wp2_with fail
  refine (rUpdate_any _ _ _ _ c1 c2 o1 o2 n1 n2).mono ?_
  rintro e w4 ⟨rfl, rfl⟩
  go_wp2_with fail
  refine (update32_any _ _ _ _ c1 c2 a1 a2 b1 b2).mono ?_
  rintro e w4 ⟨rfl, hb⟩
  replace own1 := own1.below hb
  replace HB := HB.trans (hb.mono HB.size)
  clear hb
  obtain ⟨v1, v2⟩ := upd_bd (a := check) (b := a / 65536) (c := b / 65536) c1 c2 (by omega) (by omega) (by omega) (by omega)
  obtain ⟨x1, x2⟩ := upd_bd (a := upd check (a / 65536) (b / 65536)) (b := a % 65536) (c := b % 65536) v1 v2 (by omega) (by omega) (by omega) (by omega)
  go_wp2_with fail
  refine (rUpdate32_any _ _ _ _ c1 c2 a1 a2 b1 b2).mono ?_
  rintro e w5 ⟨rfl, rfl⟩
  go_wp2_with fail
  have r1 := (hrd.below HB).more HB.size
  have r2 := own1.rd
  have HW := Lib.hid HB
  clear own1 HB
  go_loopw [97] (fun i wr => ∃ k : Nat, k ≤ n ∧ i = .int .i64 k ∧ ∃ m, wr = w4.drewN m) (fun i _ => n - (intOf i).toNat)
  case atStart => exact ⟨0, Nat.zero_le _, rfl, 0, rfl⟩
  case round =>
    obtain ⟨k, hk, rfl, m, rfl⟩ := hrel
    by_cases hlt : k < n
    · obtain ⟨g1, f1, rfl, hg1, hc1⟩ := r1.2 (by omega)
      obtain ⟨g2, f2, rfl, hg2, hc2⟩ := r2.2 (by omega)
      have y1 := hc1 k hlt
      have y2 := hc2 k hlt
      clear hc1 hc2
      have i1 : (0 : Int) ≤ (k : Int) := by omega
      have i2 : (k : Int) < (n : Int) := by omega
      have e0 : (zs[k]?.getD 0 != zs[k]?.getD 0) = false := by simp
      go_wp2_with fail
      go_quiet (fail)
      go_wp2_with fail
      go_roundw
      case rel => exact ⟨k + 1, by omega, by go_num, _, rfl⟩
      case measure => simp [intOf]; omega
    · by_cases h0 : check = 0
      · subst h0
        go_wp2_with fail
        refine (never_any 0 _).mono ?_
        rintro e w7 ⟨rfl, rfl⟩
        go_wp2_with fail
        refine (never_any 0 _).mono ?_
        rintro e w7 ⟨rfl, rfl⟩
        go_wp2_with fail
        go_ret
        exact ⟨rfl, below_drewN HW.out _⟩
      · go_wp2_with fail
        refine (never_any check _).mono ?_
        rintro e w7 ⟨rfl, rfl⟩
        rw [if_neg h0]
        have e0 : (check == check) = true := by simp
        have e1 : (0 : Int) < check := by omega
        go_wp2_with fail
        go_ret
        exact ⟨rfl, below_drewN HW.out _⟩

set_option maxHeartbeats 400000 in
theorem numbers_long (A : Option Addr) (n c : Nat) (check old new a b proto length : Int) (w : World) (hn : 100000 < n) :
    Calls Try.prog 19 #[.slice A n c, .int .u16 check, .int .u16 old, .int .u16 new, .int .u32 a, .int .u32 b, .int .u8 proto, .int .i64 length] w fun e w' => e = .returned (.bool true) ∧ Below w.heap.size w w' := by
  have hn' : (100000 : Int) < (n : Int) := by omega
  go_enter Try.func19, Try.ntmps19
  go_wp2_with fail
  go_ret
  exact ⟨rfl, Below.refl _ _⟩

theorem numbers_any (A : Option Addr) (n c : Nat) (zs : List Int) (check old new a b proto length : Int) (w : World) (h : ROW .u16 65535 w A n c zs)
    (c1 : 0 ≤ check) (c2 : check ≤ 65535) (o1 : 0 ≤ old) (o2 : old ≤ 65535) (n1 : 0 ≤ new) (n2 : new ≤ 65535) (a1 : 0 ≤ a) (a2 : a ≤ 4294967295) (b1 : 0 ≤ b) (b2 : b ≤ 4294967295) (p1 : 0 ≤ proto) (p2 : proto ≤ 255) :
    Calls Try.prog 19 #[.slice A n c, .int .u16 check, .int .u16 old, .int .u16 new, .int .u32 a, .int .u32 b, .int .u8 proto, .int .i64 length] w fun e w' => e = .returned (.bool true) ∧ Below w.heap.size w w' := by
  by_cases hn : n ≤ 100000
  · by_cases hl : 0 ≤ length ∧ length ≤ 65535
    · have hq := foldJ_bd [a / 65536, a % 65536, b / 65536, b % 65536, proto, length] (s := 0) (by omega) (by omega) (fun y hy => by simp at hy; omega)
      exact numbers_core A n c zs check old new a b proto length _ 0 w h hn c1 c2 o1 o2 n1 n2 a1 a2 b1 b2 p1 p2 hq.1 hq.2 (fun w => pseudo_any a b proto length w a1 a2 b1 b2 p1 p2 hl.1 hl.2) (fun w => rPseudo_any a b proto length w a1 a2 b1 b2 p1 p2 hl.1 hl.2)
    · exact numbers_core A n c zs check old new a b proto length 0 2 w h hn c1 c2 o1 o2 n1 n2 a1 a2 b1 b2 p1 p2 (by omega) (by omega) (fun w => (pseudo_no a b proto length w (by omega)).mono fun e w' ⟨he, hw⟩ => ⟨he, hw ▸ Below.refl _ _⟩) (fun w => rPseudo_no a b proto length w (by omega))
  · exact numbers_long A n c check old new a b proto length w (by omega)

set_option maxHeartbeats 400000 in
theorem csumNumbers_walk (A : Option Addr) (n c : Nat) (zs : List Int) (check old new a b proto length : Int) (w : World) (h : ROW .u16 65535 w A n c zs)
    (h1 : (Lit.int .u16 check).wf = true) (h2 : (Lit.int .u16 old).wf = true) (h3 : (Lit.int .u16 new).wf = true) (h4 : (Lit.int .u32 a).wf = true) (h5 : (Lit.int .u32 b).wf = true) (h6 : (Lit.int .u8 proto).wf = true) :
    Calls Try.prog 6 #[.slice A n c, .int .u16 check, .int .u16 old, .int .u16 new, .int .u32 a, .int .u32 b, .int .u8 proto, .int .i64 length] w fun e w' => e = .returned (.bool true) ∧ Below w.heap.size w w' := by
  have k1 := wf_u16 h1
  have k2 := wf_u16 h2
  have k3 := wf_u16 h3
  have k4 := wf_u32 h4
  have k5 := wf_u32 h5
  have k6 := wf_u8 h6
  go_enter Try.func6, Try.ntmps6
  go_wp2_with fail
  refine (numbers_any A n c zs check old new a b proto length w h k1.1 k1.2 k2.1 k2.2 k3.1 k3.2 k4.1 k4.2 k5.1 k5.2 k6.1 k6.2).mono ?_
  rintro e w1 ⟨rfl, hb⟩
  go_wp2_with fail
  refine (awake2_any w1).mono ?_
  rintro e w2 ⟨rfl, hb2⟩
  go_wp2_with fail
  go_ret
  exact ⟨rfl, hb.trans (hb2.mono hb.size)⟩
end Go.Proofs.Ytfaihaooompojaa
