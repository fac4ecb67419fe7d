import Derived.Test.YthdpcblmmjocmaaWTcR
import Derived.Test.YthdpcblmmjocmaaWTcRd
/- package tcp: Format. -/
namespace Go.Proofs.Ythdpcblmmjocmaa
open Go.RowKit
set_option linter.unusedVariables false
attribute [local go_sem ↓] Go.wp_at_zero Go.wp_at_succ

/-- pairs, as numbers -/
def flatP : List (Int × Int) → List Int
  | [] => []
  | p :: l => p.1 :: p.2 :: flatP l
theorem flatP_len : ∀ l, (flatP l).length = 2 * l.length
  | [] => rfl
  | p :: l => by simp [flatP, flatP_len l]; omega
theorem flatP_append : ∀ l m, flatP (l ++ m) = flatP l ++ flatP m
  | [], m => rfl
  | p :: l, m => by simp [flatP, flatP_append l m]
theorem flatP_get : ∀ (l : List (Int × Int)) (i : Nat), (flatP l)[2 * i]?.getD 0 = (l[i]?.getD (0, 0)).1 ∧ (flatP l)[2 * i + 1]?.getD 0 = (l[i]?.getD (0, 0)).2
  | [], i => by simp [flatP]
  | p :: l, 0 => by simp [flatP]
  | p :: l, i + 1 => by
    have h := flatP_get l i
    rw [show 2 * (i + 1) = 2 * i + 1 + 1 by omega, show 2 * i + 1 + 1 + 1 = (2 * i + 1) + 1 + 1 by omega]
    simpa [flatP] using h
theorem pairB_take {l : List (Int × Int)} {k : Nat} (h : k < l.length) : pairB (l.take (k + 1)) = pairB (l.take k) ++ w4s [(l[k]?.getD (0, 0)).1, (l[k]?.getD (0, 0)).2] := by
  rw [List.take_add_one, pairB_append, List.getElem?_eq_getElem h]
  simp [pairB, w4s]
theorem optB_len (zs : List Int) (kind : Int) (c : List Int) : (optB zs kind c).length = zs.length + padN c.length + 2 + c.length := by unfold optB; simp; omega
theorem fmt1_len (k : KN) : (fmt1 k).length ≤ 8 := by unfold fmt1; split; rw [optB_len]; have := padN_lt (w2 k.mss).length; simp [w2] at *; omega; simp
theorem fmt2_len (k : KN) : (fmt2 k).length ≤ 16 := by
  have h := fmt1_len k
  unfold fmt2; split; rw [optB_len]; have := padN_lt [k.sc].length; simp at *; omega; omega
theorem fmt3_len (k : KN) : (fmt3 k).length ≤ 24 := by
  have h := fmt2_len k
  unfold fmt3; split; rw [optB_len]; have := padN_lt ([] : List Int).length; simp at *; omega; omega
theorem fmt4_len (k : KN) : (fmt4 k).length ≤ 40 := by
  have h := fmt3_len k
  unfold fmt4; split; rw [optB_len]; have := padN_lt (w4s [k.ts, k.ec]).length; simp [w4s, w4, w2] at *; omega; omega
theorem KNC.one (k : KN) (A : Option Addr) (n c : Nat) : (KNC k A n c).all (·.oneCell') = true := by unfold KNC; simp [Value.oneCell']

/-- what Format gives -/
def FMT (w : World) (k : KN) (e : Ending) (w' : World) : Prop :=
  ∃ A n c, e = .returned (.tuple #[.slice A n c, .int .i64 (fmtE k)]) ∧ OWN .u8 5 w' w.heap.size A n c (fmtB k) ∧ Below w.heap.size w w'

set_option maxHeartbeats 8000000 in
set_option maxRecDepth 100000 in
theorem tcformat_any (k : KN) (Ab : Option Addr) (nb cb : Nat) (w : World) (hn : nb = k.bl.length) (R : RD .u32 w w.heap.size Ab (2 * nb) (flatP k.bl)) (hB : BD 4294967295 (flatP k.bl)) (hts : 0 ≤ k.ts ∧ k.ts ≤ 4294967295) (hec : 0 ≤ k.ec ∧ k.ec ≤ 4294967295) :
    Calls Try.prog 25 #[.agg (KNC k Ab nb cb)] w (FMT w k) := by
  obtain ⟨m, sc, sel, st, ts, ec, bl⟩ := k
  obtain ⟨i0, hi, hz0, hz1, hz2⟩ := info_parts infoU8
  have HR := Lib.hid (fun (W : World) (hb : Below w.heap.size w W) => (show RD .u32 W W.heap.size Ab (2 * nb) (flatP bl) from (R.below hb).more hb.size))
  have X0 := (SP.start w).alloc 32 (KNC (KN.mk m sc sel st ts ec bl) Ab nb cb)
  have HNB := Lib.hid (show nb = bl.length from hn)
  have hB' : BD 4294967295 (flatP bl) := hB
  have hts' : 0 ≤ ts ∧ ts ≤ 4294967295 := hts
  have hec' : 0 ≤ ec ∧ ec ≤ 4294967295 := hec
  clear R hn hB hts hec
  go_enter Try.func25, Try.ntmps25
  go_upto_region 1 with fail
  change Code.wp _ _ _ _ (w.alloc (.cells (KNC (KN.mk m sc sel st ts ec bl) Ab nb cb) 32))
  generalize w.alloc (.cells (KNC (KN.mk m sc sel st ts ec bl) Ab nb cb) 32) = w1 at X0 ⊢
  obtain ⟨N, hN⟩ : ∃ N, N = w.heap.size := ⟨_, rfl⟩
  rw [← hN] at X0 ⊢
  have HN := Lib.hid hN
  have X1 := Lib.hid X0
  clear hN X0
  go_wp2_with (refine wpList_load_row rfl 32 _ rfl N rfl 32 (KNC (KN.mk m sc sel st ts ec bl) Ab nb cb) (0, 0) _ (X1.out.blk 0 rfl) Try.underlying32 rfl (by kernel_rfl) ?_)
  refine (tcright_any (KN.mk m sc sel st ts ec bl) Ab nb cb _ HNB.out).mono ?_
  rintro e wa ⟨rfl, hb2⟩
  have X2 := Lib.hid (X1.out.next hb2)
  clear hb2 X1
  cases hr : rightK (KN.mk m sc sel st ts ec bl) with
  | false =>
    have HE := Lib.hid (And.intro (show fmtE (KN.mk m sc sel st ts ec bl) = 2 by unfold fmtE; rw [if_neg (by rw [hr]; decide)]) (show fmtB (KN.mk m sc sel st ts ec bl) = [] by unfold fmtB; rw [if_neg (by rw [hr]; simp)]))
    clear hr
    go_wp2_with fail
    go_ret2
    exact ⟨none, 0, 0, by rw [HE.out.1]; rfl, by rw [HE.out.2]; exact OWN.nil, X2.out.bel⟩
  | true =>
    have HRK := Lib.hid hr
    have hr2 := hr
    simp only [rightK, decide_eq_true_eq] at hr2
    obtain ⟨m0, m1, s0, s1, _, hbl⟩ := hr2
    clear hr
    have hnb4 : nb ≤ 4 := by rw [HNB.out]; exact hbl
    clear hbl
    go_upto_region 5 with fail
    generalize Value.agg (KNC (KN.mk m sc sel st ts ec bl) Ab nb cb) = a0
    obtain ⟨O, hO⟩ : ∃ O, O = wa.heap.size := ⟨_, rfl⟩
    rw [← hO]
    have X3 := Lib.hid (show SP w (wa.alloc (.cells #[.slice none 0 0] 22)) [.blk O 22 #[.slice none 0 0], .own .u8 5 none 0 0 [], .blk N 32 (KNC (KN.mk m sc sel st ts ec bl) Ab nb cb)] by rw [hO]; exact ((X2.out.alloc 22 #[.slice none 0 0]).pushOwn (Below.refl _ _) OWN.nil).pick [1, 2, 0] (by decide) rfl)
    generalize wa.alloc (.cells #[.slice none 0 0] 22) = w3 at X3 ⊢
    clear hO X2
    obtain ⟨A0, n0, c0, hn0, hX0⟩ : ∃ (A : Option Addr) (n c : Nat), n = 0 ∧ SP w w3 [.blk O 22 #[.slice A n c], .own .u8 5 A n c [], .blk N 32 (KNC (KN.mk m sc sel st ts ec bl) Ab nb cb)] := ⟨none, 0, 0, rfl, X3.out⟩
    have X := Lib.hid hX0
    have hl : n0 ≤ 0 := by omega
    have HNN := Lib.hid hn0
    clear hn0 hX0 X3
    have y0 : w3.cell? ⟨N, 0, none⟩ = some (.int .i64 m) := X.out.cell 2 rfl 0 rfl
    go_upto_if 15 with fail
    go_cut [] (fun wx => ∃ (A : Option Addr) (n c : Nat), n = (fmt1 (KN.mk m sc sel st ts ec bl)).length ∧ SP w wx [.blk O 22 #[.slice A n c], .own .u8 5 A n c (fmt1 (KN.mk m sc sel st ts ec bl)), .blk N 32 (KNC (KN.mk m sc sel st ts ec bl) Ab nb cb)])
    case first =>
      by_cases h : 0 < m
      · have HF := Lib.hid (show fmt1 (KN.mk m sc sel st ts ec bl) = optB ([] : List Int) 2 (w2 m) by unfold fmt1; rw [if_pos h])
        have e1 : IntKind.u16.wrap m = m := u16_in _ (by omega) (by omega)
        have X4 := Lib.hid (X.out.allocI .u16 26 [m] (by simp [maxLen]))
        have HBm := Lib.hid (show BD 65535 [m] by intro x hx; simp at hx; omega)
        generalize hG : w3.heap.size = G at X4
        simp only [List.length_cons, List.length_nil, Nat.zero_add] at X4
        go_wp2_with fail
        refine (tcwords_any _ 1 1 [m] _ (X4.out.rd 3 rfl) HBm.out (by decide)).mono ?_
        rintro e w5 ⟨A5, c5, rfl, own5, hb5⟩
        have X5 := Lib.hid (show SP w w5 [.blk O 22 #[.slice A0 n0 c0], .own .u8 5 A0 n0 c0 [], .own .u8 5 A5 2 c5 (w2 m), .blk N 32 (KNC (KN.mk m sc sel st ts ec bl) Ab nb cb)] from (X4.out.pushOwn hb5 own5).pick [0, 1, 4, 2] (by decide) rfl)
        clear own5 hb5 X4 hG y0
        go_wp2_with fail
        refine (tcput_any 2 X5.out (by omega) (by decide)).mono ?_
        rintro e w9 ⟨rfl, A9, n9, c9, hn9, hZ⟩
        go_wp2_with fail
        go_meet
        exact ⟨A9, n9, c9, by rw [HF.out]; exact hn9, by rw [HF.out]; exact hZ.pick [0, 1, 3] (by decide) rfl⟩
      · have HF := Lib.hid (show fmt1 (KN.mk m sc sel st ts ec bl) = ([] : List Int) by unfold fmt1; rw [if_neg h])
        go_wp2_with fail
        go_meet
        exact ⟨A0, n0, c0, by rw [HF.out]; exact HNN.out, by rw [HF.out]; exact X.out⟩
    case rest =>
    obtain ⟨A0, n0, c0, hn0, hX0⟩ := hcut
    have X := Lib.hid hX0
    have hl : n0 ≤ 8 := by have := fmt1_len (KN.mk m sc sel st ts ec bl); omega
    have HNN := Lib.hid hn0
    clear hn0 hX0
    have y0 : wc.cell? ⟨N, 1, none⟩ = some (.int .i64 sc) := X.out.cell 2 rfl 1 rfl
    go_upto_if 25 with fail
    go_cut [] (fun wx => ∃ (A : Option Addr) (n c : Nat), n = (fmt2 (KN.mk m sc sel st ts ec bl)).length ∧ SP w wx [.blk O 22 #[.slice A n c], .own .u8 5 A n c (fmt2 (KN.mk m sc sel st ts ec bl)), .blk N 32 (KNC (KN.mk m sc sel st ts ec bl) Ab nb cb)])
    case first =>
      by_cases h : 0 ≤ sc
      · have HF := Lib.hid (show fmt2 (KN.mk m sc sel st ts ec bl) = optB (fmt1 (KN.mk m sc sel st ts ec bl)) 3 [sc] by unfold fmt2; rw [if_pos h])
        have e1 : IntKind.u8.wrap sc = sc := u8_in _ (by omega) (by omega)
        have X4 := Lib.hid (X.out.allocI .u8 5 [sc] (by simp [maxLen]))
        generalize hG : wc.heap.size = G at X4
        simp only [List.length_cons, List.length_nil, Nat.zero_add] at X4
        have X5 := Lib.hid (X4.out.pick [0, 1, 3, 2] (by decide) (L' := [.blk O 22 #[.slice A0 n0 c0], .own .u8 5 A0 n0 c0 (fmt1 (KN.mk m sc sel st ts ec bl)), .own .u8 5 (some ⟨G, 0, none⟩) 1 1 [sc], .blk N 32 (KNC (KN.mk m sc sel st ts ec bl) Ab nb cb)]) rfl)
        go_wp2_with fail
        refine (tcput_any 3 X5.out (by omega) (by decide)).mono ?_
        rintro e w9 ⟨rfl, A9, n9, c9, hn9, hZ⟩
        go_wp2_with fail
        go_meet
        exact ⟨A9, n9, c9, by rw [HF.out]; exact hn9, by rw [HF.out]; exact hZ.pick [0, 1, 3] (by decide) rfl⟩
      · have HF := Lib.hid (show fmt2 (KN.mk m sc sel st ts ec bl) = (fmt1 (KN.mk m sc sel st ts ec bl)) by unfold fmt2; rw [if_neg h])
        go_wp2_with fail
        go_meet
        exact ⟨A0, n0, c0, by rw [HF.out]; exact HNN.out, by rw [HF.out]; exact X.out⟩
    case rest =>
    obtain ⟨A0, n0, c0, hn0, hX0⟩ := hcut
    have X := Lib.hid hX0
    have hl : n0 ≤ 16 := by have := fmt2_len (KN.mk m sc sel st ts ec bl); omega
    have HNN := Lib.hid hn0
    clear hn0 hX0
    have y0 : wc.cell? ⟨N, 2, none⟩ = some (.bool sel) := X.out.cell 2 rfl 2 rfl
    go_upto_if 33 with fail
    go_cut [] (fun wx => ∃ (A : Option Addr) (n c : Nat), n = (fmt3 (KN.mk m sc sel st ts ec bl)).length ∧ SP w wx [.blk O 22 #[.slice A n c], .own .u8 5 A n c (fmt3 (KN.mk m sc sel st ts ec bl)), .blk N 32 (KNC (KN.mk m sc sel st ts ec bl) Ab nb cb)])
    case first =>
      have HF := Lib.hid (And.intro (show sel = true → fmt3 (KN.mk m sc sel st ts ec bl) = optB (fmt2 (KN.mk m sc sel st ts ec bl)) 4 [] from fun h => by unfold fmt3; rw [if_pos h]) (show sel = false → fmt3 (KN.mk m sc sel st ts ec bl) = (fmt2 (KN.mk m sc sel st ts ec bl)) from fun h => by unfold fmt3; rw [if_neg (by simp [h])]))
      have X5 := Lib.hid (show SP w wc [.blk O 22 #[.slice A0 n0 c0], .own .u8 5 A0 n0 c0 (fmt2 (KN.mk m sc sel st ts ec bl)), .own .u8 5 none 0 0 [], .blk N 32 (KNC (KN.mk m sc sel st ts ec bl) Ab nb cb)] from (X.out.pushOwn (Below.refl _ _) OWN.nil).pick [0, 1, 3, 2] (by decide) rfl)
      go_wp2_with fail
      · have hb : sel = true := by assumption
        refine (tcput_any 4 X5.out (by omega) (by decide)).mono ?_
        rintro e w9 ⟨rfl, A9, n9, c9, hn9, hZ⟩
        go_wp2_with fail
        go_meet
        exact ⟨A9, n9, c9, by rw [HF.out.1 hb]; exact hn9, by rw [HF.out.1 hb]; exact hZ.pick [0, 1, 3] (by decide) rfl⟩
      · have hb : sel = false := by first | assumption | simp_all
        go_meet
        exact ⟨A0, n0, c0, by rw [HF.out.2 hb]; exact HNN.out, by rw [HF.out.2 hb]; exact X.out⟩
    case rest =>
    obtain ⟨A0, n0, c0, hn0, hX0⟩ := hcut
    have X := Lib.hid hX0
    have hl : n0 ≤ 24 := by have := fmt3_len (KN.mk m sc sel st ts ec bl); omega
    have HNN := Lib.hid hn0
    clear hn0 hX0
    have y0 : wc.cell? ⟨N, 3, none⟩ = some (.bool st) := X.out.cell 2 rfl 3 rfl
    go_upto_if 37 with fail
    go_cut [] (fun wx => ∃ (A : Option Addr) (n c : Nat), n = (fmt4 (KN.mk m sc sel st ts ec bl)).length ∧ SP w wx [.blk O 22 #[.slice A n c], .own .u8 5 A n c (fmt4 (KN.mk m sc sel st ts ec bl)), .blk N 32 (KNC (KN.mk m sc sel st ts ec bl) Ab nb cb)])
    case first =>
      have HF := Lib.hid (And.intro (show st = true → fmt4 (KN.mk m sc sel st ts ec bl) = optB (fmt3 (KN.mk m sc sel st ts ec bl)) 8 (w4s [ts, ec]) from fun h => by unfold fmt4; rw [if_pos h]) (show st = false → fmt4 (KN.mk m sc sel st ts ec bl) = (fmt3 (KN.mk m sc sel st ts ec bl)) from fun h => by unfold fmt4; rw [if_neg (by simp [h])]))
      have y4 : wc.cell? ⟨N, 4, none⟩ = some (.int .u32 ts) := X.out.cell 2 rfl 4 rfl
      have y5 : wc.cell? ⟨N, 5, none⟩ = some (.int .u32 ec) := X.out.cell 2 rfl 5 rfl
      have HBm := Lib.hid (show BD 4294967295 [ts, ec] by intro x hx; simp at hx; omega)
      have X4 := Lib.hid (X.out.allocI .u32 23 [ts, ec] (by simp [maxLen]))
      generalize hG : wc.heap.size = G at X4
      simp only [List.length_cons, List.length_nil, Nat.zero_add] at X4

      go_wp2_with fail
      · have hb : st = true := by assumption
        refine (tclongs_any _ 2 2 [ts, ec] _ (X4.out.rd 3 rfl) HBm.out (by decide)).mono ?_
        rintro e w5 ⟨A5, c5, rfl, own5, hb5⟩
        have X5 := Lib.hid (show SP w w5 [.blk O 22 #[.slice A0 n0 c0], .own .u8 5 A0 n0 c0 (fmt3 (KN.mk m sc sel st ts ec bl)), .own .u8 5 A5 8 c5 (w4s [ts, ec]), .blk N 32 (KNC (KN.mk m sc sel st ts ec bl) Ab nb cb)] from (X4.out.pushOwn hb5 own5).pick [0, 1, 4, 2] (by decide) rfl)
        clear own5 hb5 X4 hG y0
        go_wp2_with fail
        refine (tcput_any 8 X5.out (by omega) (by decide)).mono ?_
        rintro e w9 ⟨rfl, A9, n9, c9, hn9, hZ⟩
        go_wp2_with fail
        go_meet
        exact ⟨A9, n9, c9, by rw [HF.out.1 hb]; exact hn9, by rw [HF.out.1 hb]; exact hZ.pick [0, 1, 3] (by decide) rfl⟩
      · have hb : st = false := by first | assumption | simp_all
        go_meet
        exact ⟨A0, n0, c0, by rw [HF.out.2 hb]; exact HNN.out, by rw [HF.out.2 hb]; exact X.out⟩
    case rest =>
    obtain ⟨A0, n0, c0, hn0, hX0⟩ := hcut
    have X := Lib.hid hX0
    have hl : n0 ≤ 40 := by have := fmt4_len (KN.mk m sc sel st ts ec bl); omega
    have HNN := Lib.hid hn0
    clear hn0 hX0
    have y0 : wc.cell? ⟨N, 6, none⟩ = some (.slice Ab nb cb) := X.out.cell 2 rfl 6 rfl
    go_upto_if 49 with fail
    go_cut [] (fun wx => ∃ (A : Option Addr) (n c : Nat), n = (fmt5 (KN.mk m sc sel st ts ec bl)).length ∧ SP w wx [.blk O 22 #[.slice A n c], .own .u8 5 A n c (fmt5 (KN.mk m sc sel st ts ec bl)), .blk N 32 (KNC (KN.mk m sc sel st ts ec bl) Ab nb cb)])
    case first =>
      by_cases h : 0 < nb
      · rw [decide_eq_true h]
        have h' : bl ≠ [] := by intro h0; have := HNB.out; rw [h0] at this; simp at this; omega
        have HF := Lib.hid (show fmt5 (KN.mk m sc sel st ts ec bl) = optB (fmt4 (KN.mk m sc sel st ts ec bl)) 5 (pairB bl) by unfold fmt5; rw [if_pos h'])
        have h2 : (0 : Int) < (nb : Int) := by omega
        obtain ⟨b, off, hAb, hBb, _⟩ := (HR.out _ X.out.bel).2 (by omega)
        subst hAb
        have HC := Lib.hid (fun (W : World) (hb : Below w.heap.size w W) (i : Nat) (hi : i < 2 * nb) => (show W.cell? ⟨b, off + i, none⟩ = some (.int .u32 ((flatP bl)[i]?.getD 0)) by
          obtain ⟨b', off', e1, _, h1⟩ := (HR.out _ hb).2 (by omega)
          cases e1
          exact h1 i hi))
        clear h'
        go_wp2_with fail
        go_loopw [6, 53] (fun s i wr => ∃ (k : Nat) (A' : Option Addr) (c' : Nat), k ≤ nb ∧ i = .int .i64 k ∧ s = .slice A' (8 * k) c' ∧ SP w wr [.blk O 22 #[.slice A0 n0 c0], .own .u8 5 A0 n0 c0 (fmt4 (KN.mk m sc sel st ts ec bl)), .own .u8 5 A' (8 * k) c' (pairB (bl.take k)), .blk N 32 (KNC (KN.mk m sc sel st ts ec bl) (some ⟨b, off, none⟩) nb cb)]) (fun _ i _ => nb - (intOf i).toNat)
        case atStart => exact ⟨0, none, 0, by omega, rfl, rfl, (X.out.pushOwn (Below.refl _ _) OWN.nil).pick [0, 1, 3, 2] (by decide) rfl⟩
        case round =>
          obtain ⟨k, A', c', hk, rfl, rfl, hX⟩ := hrel
          have Y := Lib.hid hX
          clear hX
          by_cases hlt : k < nb
          · have x0 : wr.cell? ⟨b, off + k * 2, none⟩ = some (.int .u32 ((flatP bl)[2 * k]?.getD 0)) := by rw [Nat.mul_comm k 2]; exact HC.out wr Y.out.bel (2 * k) (by omega)
            have x1 : wr.cell? ⟨b, off + k * 2 + 1, none⟩ = some (.int .u32 ((flatP bl)[2 * k + 1]?.getD 0)) := by rw [Nat.add_assoc, Nat.mul_comm k 2]; exact HC.out wr Y.out.bel (2 * k + 1) (by omega)
            rw [(flatP_get bl k).1] at x0
            rw [(flatP_get bl k).2] at x1
            have b0 := hB'.get (by omega) (2 * k)
            have b1 := hB'.get (by omega) (2 * k + 1)
            rw [(flatP_get bl k).1] at b0
            rw [(flatP_get bl k).2] at b1
            have HT := Lib.hid (pairB_take (l := bl) (k := k) (by rw [← HNB.out]; exact hlt))
            obtain ⟨p1, hp1⟩ : ∃ p, (bl[k]?.getD (0, 0)).1 = p := ⟨_, rfl⟩
            obtain ⟨p2, hp2⟩ : ∃ p, (bl[k]?.getD (0, 0)).2 = p := ⟨_, rfl⟩
            rw [hp1] at x0 b0 HT
            rw [hp2] at x1 b1 HT
            clear hp1 hp2
            have hlt' : (k : Int) < (nb : Int) := by omega
            have X2 := Lib.hid (Y.out.allocI .u32 93 [p1, p2] (by simp [maxLen]))
            have HBm := Lib.hid (show BD 4294967295 [p1, p2] by intro x hx; simp at hx; omega)
            go_wp2_with fail
            refine (tclongs_any _ 2 2 [p1, p2] _ (X2.out.rd 4 rfl) HBm.out (by decide)).mono ?_
            rintro e w5 ⟨A5, c5, rfl, own5, hb5⟩
            have X5 := Lib.hid (X2.out.pushOwn hb5 own5)
            clear own5 hb5 X2 x0 x1
            go_wp2_with (at_builtin; refine wpList_append_rd _ rfl _ _ _ rfl .u8 w.heap.size 5 i0 1 Try.underlying22 hi hz0 hz1 hz2 A' (8 * k) c' (pairB (bl.take k)) rfl (X5.out.own 2 rfl) _ A5 8 c5 (w4s [p1, p2]) rfl (X5.out.rd 5 rfl) (by simp only [maxLen]; omega) (by omega) X5.out.size ?_; intro A6 c6 w6 happ; have Y6 := Lib.hid (X5.out.app 2 rfl happ); clear happ)
            go_roundw
            case rel => exact ⟨k + 1, A6, c6, by omega, by go_num, rfl, by rw [HT.out]; exact Y6.out.pick [0, 1, 2, 3] (by decide) rfl⟩
            case measure => simp [intOf]; omega
          · have hkn : k = nb := by omega
            subst hkn
            have HT := Lib.hid (show bl.take k = bl from List.take_of_length_le (by rw [← HNB.out]; omega))
            have Y2 := Lib.hid (show SP w wr [.blk O 22 #[.slice A0 n0 c0], .own .u8 5 A0 n0 c0 (fmt4 (KN.mk m sc sel st ts ec bl)), .own .u8 5 A' (8 * k) c' (pairB bl), .blk N 32 (KNC (KN.mk m sc sel st ts ec bl) (some ⟨b, off, none⟩) k cb)] by have := Y.out; rwa [HT.out] at this)
            clear Y
            have hk8 : 8 * k ≤ 100 := by omega
            generalize 8 * k = k8 at Y2 hk8 ⊢
            have HK := Lib.hid hlt
            clear hlt
            have hlt' : ¬ (k : Int) < (k : Int) := by omega
            go_wp2_with fail
            refine (tcput_any 5 Y2.out (by omega) hk8).mono ?_
            rintro e w9 ⟨rfl, A9, n9, c9, hn9, hZ⟩
            go_wp2_with fail
            go_meet
            exact ⟨A9, n9, c9, by rw [HF.out]; exact hn9, by rw [HF.out]; exact hZ.pick [0, 1, 3] (by decide) rfl⟩
      · have HF := Lib.hid (show fmt5 (KN.mk m sc sel st ts ec bl) = fmt4 (KN.mk m sc sel st ts ec bl) by unfold fmt5; rw [if_neg (by have := HNB.out; intro h0; apply h0; exact List.length_eq_zero_iff.1 (show bl.length = 0 by omega))])
        have h2 : ¬ (0 : Int) < (nb : Int) := by omega
        go_wp2_with fail
        go_meet
        exact ⟨A0, n0, c0, by rw [HF.out]; exact HNN.out, by rw [HF.out]; exact X.out⟩
    case rest =>
    obtain ⟨A0, n0, c0, hn0, hX0⟩ := hcut
    have X := Lib.hid hX0
    have HNN := Lib.hid hn0
    clear hn0 hX0
    have y0 : wc.cell? ⟨O, 0, none⟩ = some (.slice A0 n0 c0) := X.out.cell 0 rfl 0 rfl
    by_cases h : n0 ≤ 40
    · have HE := Lib.hid (And.intro (show fmtE (KN.mk m sc sel st ts ec bl) = 0 by unfold fmtE; rw [if_pos HRK.out, if_pos (by rw [← HNN.out]; exact h)]) (show fmtB (KN.mk m sc sel st ts ec bl) = fmt5 (KN.mk m sc sel st ts ec bl) by unfold fmtB; rw [if_pos ⟨HRK.out, by rw [← HNN.out]; exact h⟩]))
      have h2 : ¬ (40 : Int) < (n0 : Int) := by omega
      go_wp2_with fail
      go_ret2
      exact ⟨A0, n0, c0, by rw [HE.out.1]; rfl, by rw [HE.out.2]; exact X.out.own 1 rfl, X.out.bel⟩
    · have HE := Lib.hid (And.intro (show fmtE (KN.mk m sc sel st ts ec bl) = 3 by unfold fmtE; rw [if_pos HRK.out, if_neg (by rw [← HNN.out]; exact h)]) (show fmtB (KN.mk m sc sel st ts ec bl) = [] by unfold fmtB; rw [if_neg (fun x => h (by rw [HNN.out]; exact x.2))]))
      have h2 : (40 : Int) < (n0 : Int) := by omega
      go_wp2_with fail
      go_ret2
      exact ⟨none, 0, 0, by rw [HE.out.1]; rfl, by rw [HE.out.2]; exact OWN.nil, X.out.bel⟩
end Go.Proofs.Ythdpcblmmjocmaa
