import Derived.Test.YthdpcblmmjocmaaWTc2
import Derived.Test.YthdpcblmmjocmaaWTcP
/- package tcp: Right, and Format's put. -/
namespace Go.Proofs.Ythdpcblmmjocmaa
open Go.RowKit
set_option linter.unusedVariables false

theorem rightK_no {k : KN} (h : ¬ (0 ≤ k.mss ∧ k.mss ≤ 65535 ∧ -1 ≤ k.sc ∧ k.sc ≤ 14 ∧ (k.st = true ∨ k.ts = 0 ∧ k.ec = 0) ∧ k.bl.length ≤ 4)) : rightK k = false := by simp only [rightK, decide_eq_false_iff_not]; exact h
theorem rightK_yes {k : KN} (h : 0 ≤ k.mss ∧ k.mss ≤ 65535 ∧ -1 ≤ k.sc ∧ k.sc ≤ 14 ∧ (k.st = true ∨ k.ts = 0 ∧ k.ec = 0) ∧ k.bl.length ≤ 4) : rightK k = true := by simp only [rightK, decide_eq_true_eq]; exact h

set_option maxHeartbeats 2000000 in
set_option maxRecDepth 100000 in
theorem tcright_any (k : KN) (A : Option Addr) (n c : Nat) (w : World) (hn : n = k.bl.length) :
    Calls Try.prog 27 #[.agg (KNC k A n c)] w fun e w' => e = .returned (.bool (rightK k)) ∧ Below w.heap.size w w' := by
  obtain ⟨m, sc, sel, st, ts, ec, bl⟩ := k
  have hN := Lib.hid (show n = bl.length from hn)
  clear hn
  have X := (SP.start w).alloc 32 (KNC ⟨m, sc, sel, st, ts, ec, bl⟩ A n c)
  go_enter Try.func27, Try.ntmps27
  go_upto_region 1 with fail
  change Code.wp _ _ _ _ (w.alloc (.cells (KNC ⟨m, sc, sel, st, ts, ec, bl⟩ A n c) 32))
  generalize w.alloc (.cells (KNC ⟨m, sc, sel, st, ts, ec, bl⟩ A n c) 32) = w1 at X ⊢
  have HB := Lib.hid X.bel
  have c0 : w1.cell? ⟨w.heap.size, 0, none⟩ = some (.int .i64 m) := X.cell 0 rfl 0 rfl
  have c1 : w1.cell? ⟨w.heap.size, 1, none⟩ = some (.int .i64 sc) := X.cell 0 rfl 1 rfl
  have c3 : w1.cell? ⟨w.heap.size, 3, none⟩ = some (.bool st) := X.cell 0 rfl 3 rfl
  have c4 : w1.cell? ⟨w.heap.size, 4, none⟩ = some (.int .u32 ts) := X.cell 0 rfl 4 rfl
  have c5 : w1.cell? ⟨w.heap.size, 5, none⟩ = some (.int .u32 ec) := X.cell 0 rfl 5 rfl
  have c6 : w1.cell? ⟨w.heap.size, 6, none⟩ = some (.slice A n c) := X.cell 0 rfl 6 rfl
  clear X
  by_cases h0 : 0 ≤ m
  case neg =>
    have HR := Lib.hid (rightK_no (k := ⟨m, sc, sel, st, ts, ec, bl⟩) (fun h => h0 h.1))
    go_wp2_with fail
    go_ret
    exact ⟨by rw [HR.out]; rfl, HB.out⟩
  by_cases h1 : m ≤ 65535
  case neg =>
    have HR := Lib.hid (rightK_no (k := ⟨m, sc, sel, st, ts, ec, bl⟩) (fun h => h1 h.2.1))
    go_wp2_with fail
    go_ret
    exact ⟨by rw [HR.out]; rfl, HB.out⟩
  by_cases h2 : -1 ≤ sc
  case neg =>
    have HR := Lib.hid (rightK_no (k := ⟨m, sc, sel, st, ts, ec, bl⟩) (fun h => h2 h.2.2.1))
    go_wp2_with fail
    go_ret
    exact ⟨by rw [HR.out]; rfl, HB.out⟩
  by_cases h3 : sc ≤ 14
  case neg =>
    have HR := Lib.hid (rightK_no (k := ⟨m, sc, sel, st, ts, ec, bl⟩) (fun h => h3 h.2.2.2.1))
    go_wp2_with fail
    go_ret
    exact ⟨by rw [HR.out]; rfl, HB.out⟩
  have hk : ∀ (hs : st = true ∨ ts = 0 ∧ ec = 0), rightK ⟨m, sc, sel, st, ts, ec, bl⟩ = decide ((n : Int) ≤ 4) := by
    intro hs
    by_cases h : n ≤ 4
    · rw [rightK_yes ⟨h0, h1, h2, h3, hs, hN.out ▸ h⟩]; simp; omega
    · rw [rightK_no (fun x => h (hN.out ▸ x.2.2.2.2.2))]; simp; omega
  have HK := Lib.hid hk
  clear hk
  cases st with
  | true =>
    go_wp2_with fail
    go_ret
    exact ⟨by rw [HK.out (by simp)]; rfl, HB.out⟩
  | false =>
    by_cases h4 : ts = 0
    case neg =>
      have HR := Lib.hid (rightK_no (k := ⟨m, sc, sel, false, ts, ec, bl⟩) (fun h => by rcases h.2.2.2.2.1 with h | h; cases h; exact h4 h.1))
      have t4 : (ts == 0) = false := by simp [h4]
      go_wp2_with fail
      go_ret
      exact ⟨by rw [HR.out]; rfl, HB.out⟩
    by_cases h5 : ec = 0
    case neg =>
      have HR := Lib.hid (rightK_no (k := ⟨m, sc, sel, false, ts, ec, bl⟩) (fun h => by rcases h.2.2.2.2.1 with h | h; cases h; exact h5 h.2))
      have t4 : (ts == 0) = true := by simp [h4]
      have t5 : (ec == 0) = false := by simp [h5]
      go_wp2_with fail
      go_ret
      exact ⟨by rw [HR.out]; rfl, HB.out⟩
    have t4 : (ts == 0) = true := by simp [h4]
    have t5 : (ec == 0) = true := by simp [h5]
    have HK2 := Lib.hid (HK.out (.inr ⟨h4, h5⟩))
    go_wp2_with fail
    go_ret
    exact ⟨by rw [HK2.out]; rfl, HB.out⟩

/-- an option is put behind others -/
def PutP (kind : Int) (zs ys : List Int) (w0 : World) (O : Nat) (B : IT) (L : List IT) (e : Ending) (w' : World) : Prop :=
  e = .returned (.tuple #[]) ∧ ∃ A n c, n = (optB zs kind ys).length ∧ SP w0 w' (.blk O 22 #[.slice A n c] :: .own .u8 5 A n c (optB zs kind ys) :: B :: L)
theorem padN_lt (n : Nat) : padN n ≤ 3 := by unfold padN; omega
theorem padN_eq {n t : Nat} (h : t ≤ padN n) : (2 + n + t) % 4 = 0 ↔ t = padN n := by unfold padN at *; omega

set_option maxHeartbeats 2000000 in
set_option maxRecDepth 100000 in
theorem tcput_any {w0 w : World} {O : Nat} {A : Option Addr} {n c : Nat} {zs : List Int} {Ac : Option Addr} {nc cc : Nat} {ys : List Int} {L : List IT} (kind : Int)
    (X : SP w0 w (.blk O 22 #[.slice A n c] :: .own .u8 5 A n c zs :: .own .u8 5 Ac nc cc ys :: L)) (h1 : n ≤ 1000) (h2 : nc ≤ 100) :
    Calls Try.prog 52 #[.int .u8 kind, .slice Ac nc cc, .pointer (some ⟨O, 0, none⟩)] w (PutP kind zs ys w0 O (.own .u8 5 Ac nc cc ys) L) := by
  obtain ⟨i0, hi, hz0, hz1, hz2⟩ := info_parts infoU8
  have HL := Lib.hid (X.own 1 rfl).len
  have HM := Lib.hid (X.own 2 rfl).len
  have HX := Lib.hid X
  clear X
  have hp3 := padN_lt nc
  go_enter Try.func52, Try.ntmps52
  go_wp2_with fail
  go_loopw [5] (fun s wr => ∃ (t : Nat) (A' : Option Addr) (c' : Nat), t ≤ padN nc ∧ s = .int .i64 (2 + (nc : Int) + t) ∧ SP w0 wr (.blk O 22 #[.slice A' (n + t) c'] :: .own .u8 5 A' (n + t) c' (zs ++ List.replicate t 1) :: .own .u8 5 Ac nc cc ys :: L)) (fun s _ => (2 + nc + padN nc) - (intOf s).toNat)
  case atStart => exact ⟨0, A, c, Nat.zero_le _, by simp, by simpa using HX.out⟩
  case round =>
    obtain ⟨t, A', c', ht, rfl, hX⟩ := hrel
    have hiff := padN_eq ht
    have Y := Lib.hid hX
    clear hX
    have y0 : wr.cell? ⟨O, 0, none⟩ = some (.slice A' (n + t) c') := Y.out.cell 0 rfl 0 rfl
    have f0 := Y.out.free 0 rfl 0
    by_cases hp : t = padN nc
    · have er : (2 + (nc : Int) + t) % 4 = 0 := by omega
      have e8 : IntKind.u8.wrap (2 + (nc : Int)) = 2 + (nc : Int) := u8_in _ (by omega) (by omega)
      have Y2 := Lib.hid (Y.out.next ((Below.refl _ wr).alloc (Nat.le_refl _) (.cells #[.int .u8 kind, .int .u8 (2 + (nc : Int))] 5)))
      have HT := Lib.hid (show (zs ++ List.replicate t 1) ++ [kind, 2 + (nc : Int)] ++ ys = optB zs kind ys by unfold optB; rw [HM.out, hp])
      clear hp hiff
      go_wp2_with (first
        | (at_builtin; refine wpList_append_rd _ rfl _ _ _ rfl .u8 w0.heap.size 5 i0 1 Try.underlying22 hi hz0 hz1 hz2 A3 (n + t + 2) c3 (zs ++ List.replicate t 1 ++ [kind, 2 + (nc : Int)]) rfl (Y3.out.own 1 rfl) _ Ac nc cc ys rfl (Y3.out.rd 2 rfl) (by simp only [maxLen]; omega) (by omega) Y3.out.size ?_; intro A4 c4 w4 happ; have Y4 := Lib.hid (Y3.out.app 1 rfl happ); clear happ; have y4 : w4.cell? ⟨O, 0, none⟩ = some (.slice A' (n + t) c') := Y4.out.cell 0 rfl 0 rfl; have f4 := Y4.out.free 0 rfl 0)
        | (at_builtin; refine wpList_append_rd _ rfl _ _ _ rfl .u8 w0.heap.size 5 i0 1 Try.underlying22 hi hz0 hz1 hz2 A' (n + t) c' (zs ++ List.replicate t 1) rfl (Y2.out.own 1 rfl) (wr.heap.size + 1) (some ⟨wr.heap.size, 0, none⟩) 2 2 [kind, 2 + (nc : Int)] rfl (RD.new' wr .u8 5 [kind, 2 + (nc : Int)] rfl (by omega) rfl) (by simp only [maxLen]; omega) (by omega) Y2.out.size ?_; intro A3 c3 w3 happ; have Y3 := Lib.hid (Y2.out.app 1 rfl happ); clear happ))
      go_end0
      have Z := Y4.out.setB 0 rfl 0 (.slice A4 (n + t + 2 + nc) c4)
      have hl := (Z.own 1 rfl).len
      rw [HT.out] at hl Z
      exact ⟨rfl, A4, _, c4, hl.symm, Z⟩
    · obtain ⟨r, hr⟩ : ∃ r : Nat, (2 + nc + t) % 4 = r := ⟨_, rfl⟩
      have er : (2 + (nc : Int) + t) % 4 = (r : Int) := by omega
      rw [hr] at hiff
      have o1 : (0 : Int) < (r : Int) := by
        have : r ≠ 0 := fun h => hp (hiff.1 h)
        omega
      have HP := Lib.hid hp
      have Y2 := Lib.hid (Y.out.next ((Below.refl _ wr).alloc (Nat.le_refl _) (.cells #[.int .u8 1] 5)))
      have HT := Lib.hid (show (zs ++ List.replicate t 1) ++ [1] = zs ++ List.replicate (t + 1) 1 by rw [List.append_assoc, ← List.replicate_succ'])
      clear hr hp hiff
      go_wp2_with (at_builtin; refine wpList_append_rd _ rfl _ _ _ rfl .u8 w0.heap.size 5 i0 1 Try.underlying22 hi hz0 hz1 hz2 A' (n + t) c' (zs ++ List.replicate t 1) rfl (Y2.out.own 1 rfl) (wr.heap.size + 1) (some ⟨wr.heap.size, 0, none⟩) 1 1 [1] rfl (RD.new' wr .u8 5 [1] rfl (by omega) rfl) (by simp only [maxLen]; omega) (by omega) Y2.out.size ?_; intro A3 c3 w3 happ; have Y3 := Lib.hid (Y2.out.app 1 rfl happ); clear happ; have y4 : w3.cell? ⟨O, 0, none⟩ = some (.slice A' (n + t) c') := Y3.out.cell 0 rfl 0 rfl; have f4 := Y3.out.free 0 rfl 0)
      go_roundw
      case rel =>
        have Z := Y3.out.setB 0 rfl 0 (.slice A3 (n + t + 1) c3)
        rw [HT.out] at Z
        exact ⟨t + 1, A3, c3, by have := HP.out; omega, by go_num, Z⟩
      case measure => have := HP.out; simp [intOf]; omega
end Go.Proofs.Ythdpcblmmjocmaa
