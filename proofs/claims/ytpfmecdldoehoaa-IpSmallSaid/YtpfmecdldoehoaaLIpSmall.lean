/- The walk of IpSmall. (Printed by gen_ipsmall.py.) -/
import Derived.Test.YtpfmecdldoehoaaLIpReads
import Derived.Test.YtpfmecdldoehoaaLIpWrites
import Derived.Test.YtpfmecdldoehoaaRegW
import Derived.Deep.QuietTactic
import Derived.BigQuiet
import Derived.Test.YtpfmecdldoehoaaReg
import Derived.Deep.DeepCutAuto
namespace Go.Proofs.Ytpfmecdldoehoaa
open Go.RowKit
set_option linter.unusedVariables false
attribute [local go_sem ↓] Go.wp_at_zero Go.wp_at_succ

/-- what fixed leaves -/
def Like (w : World) (n : Nat) (e : Ending) (w' : World) : Prop :=
  ∃ A' c' zs', e = .returned (.slice A' n c') ∧ BD 255 zs' ∧ OWN .u8 5 w' w.heap.size A' n c' zs' ∧ Below w.heap.size w w'

set_option maxHeartbeats 2000000 in
set_option maxRecDepth 100000 in
theorem fixed5_any (A : Option Addr) (n c : Nat) (zs : List Int) (w : World) (h : RD .u8 w w.heap.size A n zs) (hz : BD 255 zs) (hn1 : 1 ≤ n) (hn : n ≤ 400) :
    Calls Try.prog 26 #[.slice A n c] w (Like w n) := by
  obtain ⟨i0, hi, hz0, hz1, hz2⟩ := info_parts infoU8
  have HL := Lib.hid h.len
  have R := Lib.hid h
  clear h
  obtain ⟨b, off, rfl, hb, hcell⟩ := R.out.2 (by omega)
  have HT := Lib.hid ((SP.start w).allocI .u8 5 [] (by simp [maxLen]))
  go_enter Try.func26, Try.ntmps26
  go_upto_region 2 with (at_builtin; refine wpList_append_rd _ rfl _ _ _ rfl .u8 w.heap.size 5 i0 1 Try.underlying23 hi hz0 hz1 hz2 (some ⟨w.heap.size, 0, none⟩) 0 0 [] rfl (HT.out.own 0 rfl) _ (some ⟨b, off, none⟩) n c zs rfl ((R.out.below HT.out.bel).more HT.out.size) (by simp only [maxLen]; omega) (by omega) HT.out.size ?_; intro A3 c3 w3 happ; have ho : SP w w3 [.own .u8 5 A3 n c3 zs] := (by have q := HT.out.app 0 rfl happ; rw [Nat.zero_add] at q; exact q); have H3 := Lib.hid ho; clear happ ho)
  have hle3 := (H3.out.own 0 rfl).le
  have x0 : w3.cell? ⟨b, off, none⟩ = some (.int .u8 (byteAt zs 0)) := (H3.out.bel.cell (p := ⟨b, off, none⟩) hb).trans (hcell 0 (by omega))
  obtain ⟨c0, c1⟩ : 0 ≤ byteAt zs 0 ∧ byteAt zs 0 ≤ 255 := hz.get (by omega) 0
  have i1 : (0 : Int) < (n : Int) := by omega
  have j0 : (0 : Nat) < n := by omega
  have hsz : 4 * (byteAt zs 0 % 16) = (sizeR zs : Int) := by unfold sizeR; omega
  have hss : sizeR zs ≤ 60 := by unfold sizeR; omega
  clear hcell HT
  by_cases hs20 : sizeR zs < 20
  · have is : (sizeR zs : Int) < 20 := by omega
    go_wp2_with fail
    go_ret
    exact ⟨A3, c3, zs, rfl, hz, H3.out.own 0 rfl, H3.out.bel⟩
  · have is : ¬ (sizeR zs : Int) < 20 := by omega
    by_cases hsn : n < sizeR zs
    · have is2 : (n : Int) < (sizeR zs : Int) := by omega
      go_wp2_with fail
      go_ret
      exact ⟨A3, c3, zs, rfl, hz, H3.out.own 0 rfl, H3.out.bel⟩
    · have is2 : ¬ (n : Int) < (sizeR zs : Int) := by omega
      obtain ⟨g3, rfl, hg3, _⟩ := (H3.out.own 0 rfl).form (by omega)
      have x10 := (H3.out.own 0 rfl).cell (i := 10) (by omega)
      have x11 := (H3.out.own 0 rfl).cell (i := 11) (by omega)
      have z10 := (H3.out.own 0 rfl).frozen 10
      have z11 := (H3.out.own 0 rfl).frozen 11
      have i10 : (10 : Int) < (n : Int) := by omega
      have i11 : (11 : Int) < (n : Int) := by omega
      have H4 := Lib.hid ((H3.out.setO 0 rfl 10 0).setO 0 rfl 11 0)
      have hbd : BD 255 ((zs.set 10 0).set 11 0) := set_bd 11 (set_bd 10 hz (by omega)) (by omega)
      obtain ⟨S, hS⟩ : ∃ S, S = sizeR zs := ⟨_, rfl⟩
      rw [← hS] at hss hs20 hsn is is2 hsz
      clear hS
      go_upto_region 6 with fail
      clear x0 x10 x11 z10 z11 is is2 hsz H3
      generalize hw4 : (w3.setCell ⟨g3, 10, none⟩ (.int .u8 0)).setCell ⟨g3, 11, none⟩ (.int .u8 0) = w4 at H4 ⊢
      clear hw4
      obtain ⟨Y, hY⟩ : ∃ Y, Y = (zs.set 10 0).set 11 0 := ⟨_, rfl⟩
      have H4' : SP w w4 [.own .u8 5 (some ⟨g3, 0, none⟩) n c3 Y] := by rw [hY]; exact H4.out
      rw [← hY] at hbd
      have HYL := Lib.hid (show Y.length = n by rw [hY]; simp; exact HL.out)
      clear H4 hY
      go_wp2_with fail
      go_loopw [5, 31] (fun s5 s31 wr => ∃ (k : Nat) (s : Int), k ≤ S / 2 ∧ s31 = .int .i64 (k : Int) ∧ s5 = .int .i64 s ∧ 0 ≤ s ∧ s ≤ 65535 * (k : Int) ∧ SP w wr [.own .u8 5 (some ⟨g3, 0, none⟩) n c3 Y]) (fun _ s31 _ => S / 2 - (intOf s31).toNat)
      case atStart => exact ⟨0, 0, Nat.zero_le _, rfl, rfl, by omega, by omega, H4'⟩
      case round =>
        obtain ⟨k, s, hk, rfl, rfl, s0, s1, X0⟩ := hrel
        obtain ⟨wo, rfl⟩ : ∃ wo : World, wo = wr := ⟨_, rfl⟩
        have X := Lib.hid X0
        clear X0 H4'
        by_cases hlt : k < S / 2
        · have xa := (X.out.own 0 rfl).cell (i := 2 * k) (by omega)
          have xb := (X.out.own 0 rfl).cell (i := 2 * k + 1) (by omega)
          obtain ⟨u0, u1⟩ := hbd.get (by omega) (2 * k)
          obtain ⟨v0, v1⟩ := hbd.get (by omega) (2 * k + 1)
          generalize Y[2 * k]?.getD 0 = u at *
          generalize Y[2 * k + 1]?.getD 0 = v at *
          have t1 : (k : Int) < (S : Int) / 2 := by omega
          have m1 : (0 : Int) ≤ 2 * (k : Int) := by omega
          have m2 : 2 * (k : Int) < (n : Int) := by omega
          have m3 : (0 : Int) ≤ 2 * (k : Int) + 1 := by omega
          have m4 : 2 * (k : Int) + 1 < (n : Int) := by omega
          have m5 : (2 * (k : Int)).toNat = 2 * k := by omega
          have m6 : (2 * (k : Int) + 1).toNat = 2 * k + 1 := by omega
          have n1 : IntKind.i64.wrap (2 * (k : Int)) = 2 * (k : Int) := IntWalk.i64_in _ (by omega)
          have n2 : IntKind.i64.wrap (2 * (k : Int) + 1) = 2 * (k : Int) + 1 := IntWalk.i64_in _ (by omega)
          have n3 : IntKind.i64.wrap u = u := IntWalk.i64_in _ (by omega)
          have n4 : IntKind.i64.wrap v = v := IntWalk.i64_in _ (by omega)
          have n5 : IntKind.i64.wrap (256 * u) = 256 * u := IntWalk.i64_in _ (by omega)
          have n6 : IntKind.i64.wrap (256 * u + v) = 256 * u + v := IntWalk.i64_in _ (by omega)
          have n7 : IntKind.i64.wrap (s + (256 * u + v)) = s + (256 * u + v) := IntWalk.i64_in _ (by omega)
          go_wp2_with fail
          go_quiet (fail)
          clear n1 n2 n3 n4 n5 n6 n7 m1 m2 m3 m4 m5 m6
          go_wp2_with fail
          go_roundw
          case rel => exact ⟨k + 1, s + (256 * u + v), by omega, by go_num, rfl, by omega, by omega, X.out.drewN _⟩
          case measure => simp [intOf]; omega
        · have t1 : ¬ (k : Int) < (S : Int) / 2 := by omega
          obtain ⟨r, hr⟩ : ∃ r, (s - 1).tmod 65535 = r := ⟨_, rfl⟩
          have hr0 : -1 ≤ r ∧ r ≤ 65534 := by
            rw [← hr]
            have a := Int.tmod_lt_of_pos (s - 1) (show (0 : Int) < 65535 by omega)
            refine ⟨?_, by omega⟩
            by_cases hs : s = 0
            · subst hs; decide
            · rw [Int.tmod_eq_emod_of_nonneg (by omega)]; omega
          go_upto_region 13 with fail
          clear hr
          obtain ⟨f, hf⟩ : ∃ f, f = 1 + r := ⟨_, rfl⟩
          rw [← hf]
          have f0 : 0 ≤ f ∧ f ≤ 65535 := by omega
          obtain ⟨p, hp⟩ : ∃ p, p = (65535 - f) / 256 := ⟨_, rfl⟩
          obtain ⟨q, hq⟩ : ∃ q, q = (65535 - f) % 256 := ⟨_, rfl⟩
          have p1 : IntKind.u8.wrap ((65535 - f) / 256) = p := by rw [hp]; exact u8_in _ (by omega) (by omega)
          have q1 : IntKind.u8.wrap ((65535 - f) % 256) = q := by rw [hq]; exact u8_in _ (by omega) (by omega)
          have p2 : 0 ≤ p ∧ p ≤ 255 := by omega
          have q2 : 0 ≤ q ∧ q ≤ 255 := by omega
          clear hf hp hq hr0
          have x10 := (X.out.own 0 rfl).cell (i := 10) (by omega)
          have x11 := (X.out.own 0 rfl).cell (i := 11) (by omega)
          have z10 := (X.out.own 0 rfl).frozen 10
          have z11 := (X.out.own 0 rfl).frozen 11
          have X1 := Lib.hid ((X.out.setO 0 rfl 10 p).setO 0 rfl 11 q)
          have B1 := Lib.hid (set_bd 11 (set_bd 10 hbd p2) q2)
          go_wp2_with fail
          go_ret
          exact ⟨some ⟨g3, 0, none⟩, c3, _, rfl, B1.out, X1.out.own 0 rfl, X1.out.bel⟩
/-- what the packet reads as, whatever follows -/
theorem read_pkt5 {H : HD} {opts data more : List Int} {on n5 dn : Nat} (hwf : H.WF) (bo : BD 255 opts) (hr : Rightly H.off H.mf opts.length data.length) (h1 : opts.length = on) (h2 : data.length = dn) (h3 : 20 + on + dn = n5) :
    ipE (pktB H opts data ++ more) = 0 ∧ hdR (pktB H opts data ++ more) = H ∧ fromR (pktB H opts data ++ more) = 20 + on ∧ toR (pktB H opts data ++ more) = n5 ∧ optsR (pktB H opts data ++ more) = opts := by
  have hP : PARSED H opts data (pktB H opts data ++ more) := parse_pkt hwf bo hr
  refine ⟨ipE_eq hP.fault, ?_, ?_, ?_, ?_⟩
  · unfold hdR; rw [if_pos hP.fault]; exact hP.hdE
  · unfold fromR; rw [if_pos hP.fault, hP.size, h1]
  · unfold toR; rw [if_pos hP.fault, hP.total, h1, h2]; exact h3
  · unfold optsR; rw [if_pos hP.fault]; exact hP.opE

def B23 : List Int := [0, 1, 2, 4, 19, 20, 21, 22, 23, 31, 32, 64, 63, 65, 68, 70, 79, 80, 127, 128, 224, 254, 255]
def OFF5 : List Int := [-8, 0, 1, 4, 8, 65480, 65504, 65512, 65520, 65528, 65536, 1099511627776, -9223372036854775808]
def NS5 : List Int := [0, 1, 8, 11, 16, 35]
theorem B23_bd : BD 255 B23 := bd_all (by decide)
theorem NS5_bd : BD 35 NS5 := fun x hx => by unfold NS5 at hx; simp only [List.mem_cons, List.not_mem_nil, or_false] at hx; omega
theorem OFF5_bd (i : Nat) : -9223372036854775808 ≤ OFF5[i]?.getD 0 ∧ OFF5[i]?.getD 0 ≤ 9223372036854775807 := by
  rcases Nat.lt_or_ge i 13 with h | h
  · rcases (show i = 0 ∨ i = 1 ∨ i = 2 ∨ i = 3 ∨ i = 4 ∨ i = 5 ∨ i = 6 ∨ i = 7 ∨ i = 8 ∨ i = 9 ∨ i = 10 ∨ i = 11 ∨ i = 12 by omega) with rfl | rfl | rfl | rfl | rfl | rfl | rfl | rfl | rfl | rfl | rfl | rfl | rfl <;> simp [OFF5]
  · rw [List.getElem?_eq_none (by simpa [OFF5] using h)]; simp
theorem wrap_bd (x : Int) : -9223372036854775808 ≤ IntKind.i64.wrap x ∧ IntKind.i64.wrap x ≤ 9223372036854775807 := by
  rw [IntKind.wrap_i64]; omega

/-- the first loops: the bytes of the example, one replaced -/
def SM1 (w : World) (P : Act → World → Prop) : Prop := True

set_option maxHeartbeats 4000000 in
set_option maxRecDepth 100000 in
theorem ipSmall_walk (w : World) : Calls Try.prog 10 #[] w fun e w' => e = .returned (.bool true) ∧ Below w.heap.size w w' := by
  obtain ⟨i0, hi, hz0, hz1, hz2⟩ := info_parts infoU8
  have SW := Lib.hid (((SP.start w).allocI .u8 5 EX5 (by decide)))
  go_enter Try.func10, Try.ntmps10
  go_wp2_with fail
  refine (example5_any _).mono ?_
  rintro e w1 ⟨rfl, rfl⟩
  have S1 : SP w (w.alloc (.cells (([69, 0, 0, 22, 0, 1, 0, 0, 64, 17, 102, 212, 10, 0, 0, 1, 10, 0, 0, 2, 7, 8] : List Int).map (Value.int .u8)).toArray 5)) [.own .u8 5 (some ⟨w.heap.size, 0, none⟩) 22 22 EX5] := SW.out
  generalize w.alloc (.cells (([69, 0, 0, 22, 0, 1, 0, 0, 64, 17, 102, 212, 10, 0, 0, 1, 10, 0, 0, 2, 7, 8] : List Int).map (Value.int .u8)).toArray 5) = w1 at S1 ⊢
  clear SW
  generalize hG : w.heap.size = G at S1 ⊢
  go_wp2_with fail
  go_loopw [26] (fun s26 wr => ∃ k : Nat, k ≤ 22 ∧ s26 = .int .i64 (k : Int) ∧ SP w wr [.own .u8 5 (some ⟨G, 0, none⟩) 22 22 EX5]) (fun s26 _ => 22 - (intOf s26).toNat)
  case atStart => exact ⟨0, by omega, rfl, S1⟩
  case round =>
    obtain ⟨k, hk, rfl, X0⟩ := hrel
    obtain ⟨wo, rfl⟩ : ∃ wo : World, wo = wr := ⟨_, rfl⟩
    have X := Lib.hid X0
    clear X0
    by_cases hlt : k < 22
    · have t1 : (k : Int) < 22 := by omega
      have X1 : SP w (wo.alloc (.cells (B23.map (Value.int .u8)).toArray 5)) [.own .u8 5 (some ⟨G, 0, none⟩) 22 22 EX5, .own .u8 5 (some ⟨wo.heap.size, 0, none⟩) 23 23 B23] := X.out.allocI .u8 5 B23 (by decide)
      go_upto_region 6 with fail
      rw [show wo.alloc (.cells #[.int .u8 0, .int .u8 1, .int .u8 2, .int .u8 4, .int .u8 19, .int .u8 20, .int .u8 21, .int .u8 22, .int .u8 23, .int .u8 31, .int .u8 32, .int .u8 64, .int .u8 63, .int .u8 65, .int .u8 68, .int .u8 70, .int .u8 79, .int .u8 80, .int .u8 127, .int .u8 128, .int .u8 224, .int .u8 254, .int .u8 255] 5) = wo.alloc (.cells (B23.map (Value.int .u8)).toArray 5) from rfl]
      generalize wo.alloc (.cells (B23.map (Value.int .u8)).toArray 5) = w2 at X1 ⊢
      generalize wo.heap.size = GL at X1 ⊢
      go_wp2_with fail
      go_loopw [31] (fun s31 wr => ∃ j : Nat, j ≤ 23 ∧ s31 = .int .i64 (j : Int) ∧ SP w wr [.own .u8 5 (some ⟨G, 0, none⟩) 22 22 EX5, .own .u8 5 (some ⟨GL, 0, none⟩) 23 23 B23]) (fun s31 _ => 23 - (intOf s31).toNat)
      case atStart => exact ⟨0, by omega, rfl, X1⟩
      case round =>
        obtain ⟨j, hj, rfl, Y0⟩ := hrel
        obtain ⟨wp, rfl⟩ : ∃ wp : World, wp = wr := ⟨_, rfl⟩
        have Y := Lib.hid Y0
        clear Y0 X1
        by_cases hlj : j < 23
        · have t2 : (j : Int) < 23 := by omega
          have t3 : (0 : Int) ≤ (j : Int) := by omega
          have xj : wp.cell? ⟨GL, j, none⟩ = some (.int .u8 (B23[j]?.getD 0)) := (Y.out.own 1 rfl).cell hlj
          obtain ⟨x0, x1⟩ := B23_bd.get (by omega) j
          generalize B23[j]?.getD 0 = x at *
          have HT := Lib.hid (Y.out.allocI .u8 5 [] (by simp [maxLen]))
          go_upto_region 9 with (at_builtin; refine wpList_append_rd _ rfl _ _ _ rfl .u8 G 5 i0 1 Try.underlying23 hi hz0 hz1 hz2 (some ⟨wp.heap.size, 0, none⟩) 0 0 [] rfl (hG ▸ HT.out.own 2 rfl) _ (some ⟨G, 0, none⟩) 22 22 EX5 rfl (HT.out.rd 0 rfl) (by simp only [maxLen]; omega) (by omega) (hG ▸ HT.out.size) ?_; intro A3 c3 w3 happ; have H3 := Lib.hid (HT.out.app 2 rfl (hG.symm ▸ happ)); clear happ)
          clear xj HT
          have hle3 := (H3.out.own 2 rfl).le
          obtain ⟨g3, rfl, hg3, _⟩ := (H3.out.own 2 rfl).form (by omega)
          have xk := (H3.out.own 2 rfl).cell (i := k) (by omega)
          have zk := (H3.out.own 2 rfl).frozen k
          have u1 : (0 : Int) ≤ (k : Int) := by omega
          have hbx : BD 255 (EX5.set k x) := set_bd k EX5_bd ⟨x0, x1⟩
          have H4a : SP w (w3.setCell ⟨g3, k, none⟩ (.int .u8 x)) [.own .u8 5 (some ⟨G, 0, none⟩) 22 22 EX5, .own .u8 5 (some ⟨GL, 0, none⟩) 23 23 B23, .own .u8 5 (some ⟨g3, 0, none⟩) 22 c3 (EX5.set k x)] := H3.out.setO 2 rfl k x
          have H4 := Lib.hid H4a
          clear H4a
          go_upto_region 10 with fail
          generalize hw4 : w3.setCell ⟨g3, k, none⟩ (.int .u8 x) = w4 at H4 ⊢
          clear hw4 xk zk H3
          go_wp2_with fail
          refine (reads5_any _ 22 c3 (EX5.set k x) _ (H4.out.rd 2 rfl) hbx hle3.1).mono ?_
          rintro e w5 ⟨rfl, hb5⟩
          have H5 := Lib.hid (H4.out.next hb5)
          clear hb5 H4
          go_wp2_with fail
          refine (fixed5_any _ 22 c3 (EX5.set k x) _ (H5.out.rd 2 rfl) hbx (by omega) (by omega)).mono ?_
          rintro e w6 ⟨A6, c6, z6, rfl, b6, own6, hb6⟩
          have hle6 := own6.le
          have H6 := Lib.hid (H5.out.pushOwn hb6 own6)
          have RD6 := Lib.hid own6.rd
          clear hb6 own6 H5
          go_wp2_with fail
          refine (reads5_any _ 22 c6 z6 _ RD6.out b6 hle6.1).mono ?_
          rintro e w7 ⟨rfl, hb7⟩
          have H7 := Lib.hid (H6.out.next hb7)
          clear hb7 RD6 H6
          go_wp2_with fail
          refine (fixed5_any _ 22 c3 (EX5.set k x) _ (H7.out.rd 2 rfl) hbx (by omega) (by omega)).mono ?_
          rintro e w8 ⟨A8, c8, z8, rfl, b8, own8, hb8⟩
          have hle8 := own8.le
          have H8 := Lib.hid (H7.out.pushOwn hb8 own8)
          clear hb8 own8 H7
          have H9 := Lib.hid (H8.out.allocI .u8 5 [9, 9] (by decide))
          go_wp2_with (refine wpList_append_rd_w _ (.tmp 53) (.tmp 54) 23 rfl (by rfl) .u8 G 5 i0 1 Try.underlying23 hi hz0 hz1 hz2 A8 22 c8 z8 rfl (hG ▸ H9.out.own 4 rfl) _ (some ⟨w8.heap.size, 0, none⟩) 2 2 [9, 9] rfl (H9.out.rd 5 rfl) (by simp only [maxLen]; omega) (by omega) (hG ▸ H9.out.size) ?_; intro A9 c9 w9 happ; have HA := Lib.hid (H9.out.app 4 rfl (hG.symm ▸ happ)); have OA := Lib.hid happ.own; clear happ)
          refine (reads5_any A9 24 c9 (z8 ++ [9, 9]) _ OA.out.rd (b8.append (bd_all (by decide))) OA.out.le.1).mono ?_
          rintro e wb ⟨rfl, hbb⟩
          have HB := Lib.hid (HA.out.next hbb)
          clear hbb HA OA
          go_wp2_with fail
          go_roundw
          case rel => exact ⟨j + 1, by omega, by go_num, HB.out.pick [0, 1] (by decide) rfl⟩
          case measure => simp [intOf]; omega
        · have t2 : ¬ (j : Int) < 23 := by omega
          have u1 : (0 : Int) ≤ (k : Int) := by omega
          have u2 : (k : Int) ≤ 22 := by omega
          go_wp2_with fail
          refine (reads5_any _ k 22 (EX5.take k) _ ((Y.out.rd 0 rfl).take (by omega)) (EX5_bd.take k) (by omega)).mono ?_
          rintro e wq ⟨rfl, hbq⟩
          have Z := Lib.hid (Y.out.next hbq)
          clear hbq Y
          go_wp2_with fail
          go_roundw
          case rel => exact ⟨k + 1, by omega, by go_num, Z.out.pick [0] (by decide) rfl⟩
          case measure => simp [intOf]; omega
    · have t1 : ¬ (k : Int) < 22 := by omega
      have hbX := X.out.bel
      clear X
      go_wp2_with fail
      go_loopw [6] (fun s6 wr => ∃ o : Nat, o ≤ 46 ∧ s6 = .int .i64 (o : Int) ∧ Below G w wr) (fun s6 _ => 46 - (intOf s6).toNat)
      case atStart => exact ⟨0, by omega, rfl, hG ▸ hbX⟩
      case round =>
        obtain ⟨o, ho, rfl, hb0⟩ := hrel
        obtain ⟨wb, rfl⟩ : ∃ wb : World, wb = wr := ⟨_, rfl⟩
        have HB0 := Lib.hid hb0
        have hsz0 := hb0.size
        clear hb0 hbX
        by_cases hlo : o < 46
        · have t2 : (o : Int) < 46 := by omega
          have X1 : SP wb (wb.alloc (.cells (OFF5.map (Value.int .i64)).toArray 3)) [.own .i64 3 (some ⟨wb.heap.size, 0, none⟩) 13 13 OFF5] := (SP.start wb).allocI .i64 3 OFF5 (by decide)
          go_upto_region 20 with fail
          rw [show wb.alloc (.cells #[.int .i64 (-8), .int .i64 0, .int .i64 1, .int .i64 4, .int .i64 8, .int .i64 65480, .int .i64 65504, .int .i64 65512, .int .i64 65520, .int .i64 65528, .int .i64 65536, .int .i64 1099511627776, .int .i64 (-9223372036854775808)] 3) = wb.alloc (.cells (OFF5.map (Value.int .i64)).toArray 3) from rfl]
          generalize wb.alloc (.cells (OFF5.map (Value.int .i64)).toArray 3) = w2 at X1 ⊢
          generalize wb.heap.size = GL at X1 ⊢
          go_wp2_with fail
          go_loopw [72] (fun s72 wr => ∃ j : Nat, j ≤ 13 ∧ s72 = .int .i64 (j : Int) ∧ SP wb wr [.own .i64 3 (some ⟨GL, 0, none⟩) 13 13 OFF5]) (fun s72 _ => 13 - (intOf s72).toNat)
          case atStart => exact ⟨0, by omega, rfl, X1⟩
          case round =>
            obtain ⟨j, hj, rfl, Y0⟩ := hrel
            obtain ⟨wp, rfl⟩ : ∃ wp : World, wp = wr := ⟨_, rfl⟩
            have Y := Lib.hid Y0
            clear Y0 X1
            by_cases hlj : j < 13
            · have t3 : (j : Int) < 13 := by omega
              have t4 : (0 : Int) ≤ (j : Int) := by omega
              have xj : wp.cell? ⟨GL, j, none⟩ = some (.int .i64 (OFF5[j]?.getD 0)) := (Y.out.own 0 rfl).cell hlj
              obtain ⟨ov0, ov1⟩ := OFF5_bd j
              generalize OFF5[j]?.getD 0 = ov at *
              have Y1 : SP wb (wp.alloc (.cells (NS5.map (Value.int .i64)).toArray 3)) [.own .i64 3 (some ⟨GL, 0, none⟩) 13 13 OFF5, .own .i64 3 (some ⟨wp.heap.size, 0, none⟩) 6 6 NS5] := Y.out.allocI .i64 3 NS5 (by decide)
              go_upto_region 23 with fail
              rw [show wp.alloc (.cells #[.int .i64 0, .int .i64 1, .int .i64 8, .int .i64 11, .int .i64 16, .int .i64 35] 3) = wp.alloc (.cells (NS5.map (Value.int .i64)).toArray 3) from rfl]
              generalize wp.alloc (.cells (NS5.map (Value.int .i64)).toArray 3) = w3 at Y1 ⊢
              generalize wp.heap.size = GN at Y1 ⊢
              clear xj Y
              go_wp2_with fail
              go_loopw [78] (fun s78 wr => ∃ l : Nat, l ≤ 6 ∧ s78 = .int .i64 (l : Int) ∧ SP wb wr [.own .i64 3 (some ⟨GL, 0, none⟩) 13 13 OFF5, .own .i64 3 (some ⟨GN, 0, none⟩) 6 6 NS5]) (fun s78 _ => 6 - (intOf s78).toNat)
              case atStart => exact ⟨0, by omega, rfl, Y1⟩
              case round =>
                obtain ⟨l, hl, rfl, Z0⟩ := hrel
                obtain ⟨wq, rfl⟩ : ∃ wq : World, wq = wr := ⟨_, rfl⟩
                have Z := Lib.hid Z0
                clear Z0 Y1
                by_cases hll : l < 6
                · have t5 : (l : Int) < 6 := by omega
                  have t6 : (0 : Int) ≤ (l : Int) := by omega
                  have xl : wq.cell? ⟨GN, l, none⟩ = some (.int .i64 (NS5[l]?.getD 0)) := (Z.out.own 1 rfl).cell hll
                  obtain ⟨m0, m1⟩ := NS5_bd.get (by omega) l
                  obtain ⟨m, hm⟩ : ∃ m : Nat, NS5[l]?.getD 0 = (m : Int) := ⟨(NS5[l]?.getD 0).toNat, by omega⟩
                  rw [hm] at xl m0 m1
                  clear hm
                  obtain ⟨mf, hmf⟩ : ∃ b, ((o : Int) % 2 == 1) = b := ⟨_, rfl⟩
                  obtain ⟨df, hdf⟩ : ∃ b, ((o : Int) % 3 == 1) = b := ⟨_, rfl⟩
                  obtain ⟨w7, hrun, own7, hb7, hs7⟩ := run_make_cap (P := Try.prog) (k := .u8) wq 23 i0 Try.underlying23 hi hz0 hz1 (by omega) (o : Int) (o : Int) o o rfl rfl (Nat.le_refl _) (by omega)
                  generalize hGO : wq.heap.size = GO at hrun own7 hs7
                  rw [← hGO] at own7
                  have Z7 := Lib.hid (Z.out.pushOwn hb7 own7)
                  rw [hGO] at Z7
                  have Z8 := Lib.hid (Z7.out.alloc 30 ((HD.mk 0 0 df mf ov 9 0 0 0).cells (.slice (some ⟨GO, 0, none⟩) o o)))
                  clear own7 hb7 hs7
                  go_upto_region 26 with fail
                  rw [show w7.alloc (.cells #[.int .u8 0, .int .u16 0, .bool df, .bool mf, .int .i64 ov, .int .u8 9, .int .u8 0, .int .u32 0, .int .u32 0, .slice (some ⟨GO, 0, none⟩) o o] 30) = w7.alloc (.cells ((HD.mk 0 0 df mf ov 9 0 0 0).cells (.slice (some ⟨GO, 0, none⟩) o o)) 30) from rfl]
                  generalize w7.alloc (.cells ((HD.mk 0 0 df mf ov 9 0 0 0).cells (.slice (some ⟨GO, 0, none⟩) o o)) 30) = w8 at Z8 ⊢
                  generalize w7.heap.size = GH at Z8 ⊢
                  clear xl hrun hmf hdf Z7 hGO
                  have hwf : (HD.mk 0 0 df mf ov 9 0 0 0).WF := ⟨by show (0 : Int) ≤ 0 ∧ (0 : Int) ≤ 255; omega, by show (0 : Int) ≤ 0 ∧ (0 : Int) ≤ 65535; omega, ⟨ov0, ov1⟩, by show (0 : Int) ≤ 9 ∧ (9 : Int) ≤ 255; omega, by show (0 : Int) ≤ 0 ∧ (0 : Int) ≤ 255; omega, by show (0 : Int) ≤ 0 ∧ (0 : Int) ≤ 4294967295; omega, by show (0 : Int) ≤ 0 ∧ (0 : Int) ≤ 4294967295; omega⟩
                  have bo : BD 255 (List.replicate o (0 : Int)) := fun x hx => by have := List.eq_of_mem_replicate hx; omega
                  have bm : BD 255 (List.replicate m (0 : Int)) := fun x hx => by have := List.eq_of_mem_replicate hx; omega
                  have X0 := Lib.hid Z8.out.drew
                  refine wp_region_noPanic ?_
                  refine wp_region_held_drew (S := fun W => BLOCK W GH 30 ((HD.mk 0 0 df mf ov 9 0 0 0).cells (.slice (some ⟨GO, 0, none⟩) o o))) (by kernel_rfl) (by exact X0.out.blk 3 rfl) (fun hHeld => ?_)
                  refine' take_lit (i := 0) (v := .agg ((HD.mk 0 0 df mf ov 9 0 0 0).cells (.slice (some ⟨GO, 0, none⟩) o o))) rfl (by kernel_rfl) (by kernel_rfl) (by kernel_rfl) (fun _ _ _ h => h) (Or.inl ⟨by rfl, ?yy1⟩) (by assumption) ?rr1
                  case yy1 => intro w' hSw; exact exec_load_row 30 _ rfl GH rfl 30 ((HD.mk 0 0 df mf ov 9 0 0 0).cells (.slice (some ⟨GO, 0, none⟩) o o)) (0, 0) _ (hSw) Try.underlying30 rfl (by kernel_rfl)
                  (try simp only [Act.put]); (try simp only [List.setIfInBounds_toArray, List.set_cons_zero, List.set_cons_succ])
                  refine' take_lit (i := 1) (v := _) rfl (by kernel_rfl) (by kernel_rfl) (by kernel_rfl) (fun _ _ _ h => h) (Or.inl ⟨by rfl, ?yy2⟩) (by assumption) ?rr2
                  case yy2 => intro w' hSw; (try dsimp only at hSw); go_simp; try (with_reducible rfl)
                  (try simp only [Act.put]); (try simp only [List.setIfInBounds_toArray, List.set_cons_zero, List.set_cons_succ])
                  refine' take_lit (i := 3) (v := _) rfl (by kernel_rfl) (by kernel_rfl) (by kernel_rfl) (fun _ _ _ h => h) (Or.inl ⟨by rfl, ?yy3⟩) (by assumption) ?rr3
                  case yy3 => intro w' hSw; (try dsimp only at hSw); go_simp; try (with_reducible rfl)
                  (try simp only [Act.put]); (try simp only [List.setIfInBounds_toArray, List.set_cons_zero, List.set_cons_succ])
                  refine' take_lit (i := 4) (v := _) rfl (by kernel_rfl) (by kernel_rfl) (by kernel_rfl) (fun _ _ _ h => h) (Or.inl ⟨by rfl, ?yy4⟩) (by assumption) ?rr4
                  case yy4 => intro w' hSw; (try dsimp only at hSw); go_simp; try (with_reducible rfl)
                  (try simp only [Act.put]); (try simp only [List.setIfInBounds_toArray, List.set_cons_zero, List.set_cons_succ])
                  refine' take_lit (i := 5) (v := _) rfl (by kernel_rfl) (by kernel_rfl) (by kernel_rfl) (fun _ _ _ h => h) (Or.inl ⟨by rfl, ?yy5⟩) (by assumption) ?rr5
                  case yy5 => intro w' hSw; (try dsimp only at hSw); go_simp; try (with_reducible rfl)
                  (try simp only [Act.put]); (try simp only [List.setIfInBounds_toArray, List.set_cons_zero, List.set_cons_succ])
                  refine wpAnyH_ready (rs := [2]) (by kernel_rfl) (by simp) ?_
                  refine cons_lit rfl (fun K hK => ?ss2x6) AllReadyH.nil
                  case ss2x6 =>
                    obtain ⟨wa1, hrq, ownq, hbq, hsq⟩ := run_make_cap (P := Try.prog) (k := .u8) w8.drew 23 i0 Try.underlying23 hi hz0 hz1 (by omega) (m : Int) (m : Int) m m rfl rfl (Nat.le_refl _) (by omega)
                    go_simp
                    have X1 := Lib.hid (X0.out.pushOwn hbq ownq)
                    have RDX1 := Lib.hid ownq.rd
                    clear hrq hbq hsq ownq
                    refine hK.out _ _ (by exact X1.out.blk 3 rfl) (fun hHeld => ?_)
                    clear hK K
                    (try simp only [Act.put]); (try simp only [List.setIfInBounds_toArray, List.set_cons_zero, List.set_cons_succ])
                    refine wpAnyH_ready (rs := [6]) (by kernel_rfl) (by simp) ?_
                    refine cons_lit rfl (fun K hK => ?ss6x7) AllReadyH.nil
                    case ss6x7 =>
                      go_simp
                      refine (writes5_any (HD.mk 0 0 df mf ov 9 0 0 0) (some ⟨GO, 0, none⟩) o o (List.replicate o 0) (some ⟨w8.drew.heap.size, 0, none⟩) m m (List.replicate m 0) _ _ hwf (X1.out.rd 2 rfl) bo RDX1.out bm (by first | exact wrap_bd _ | omega)).mono ?_
                      rintro e wa2 ⟨rfl, hbr⟩
                      have X2 := Lib.hid (X1.out.next hbr)
                      clear hbr
                      refine hK.out _ _ (by exact X2.out.blk 3 rfl) (fun hHeld => ?_)
                      clear hK K
                      (try simp only [Act.put]); (try simp only [List.setIfInBounds_toArray, List.set_cons_zero, List.set_cons_succ])
                      refine' take_lit (i := 7) (v := _) rfl (by kernel_rfl) (by kernel_rfl) (by kernel_rfl) (fun _ _ _ h => h) (Or.inl ⟨by rfl, ?yy8⟩) (by assumption) ?rr8
                      case yy8 => intro w' hSw; (try dsimp only at hSw); go_simp; try (with_reducible rfl)
                      (try simp only [Act.put]); (try simp only [List.setIfInBounds_toArray, List.set_cons_zero, List.set_cons_succ])
                      refine' take_lit (i := 8) (v := _) rfl (by kernel_rfl) (by kernel_rfl) (by kernel_rfl) (fun _ _ _ h => h) (Or.inl ⟨by rfl, ?yy9⟩) (by assumption) ?rr9
                      case yy9 => intro w' hSw; (try dsimp only at hSw); go_simp; try (with_reducible rfl)
                      (try simp only [Act.put]); (try simp only [List.setIfInBounds_toArray, List.set_cons_zero, List.set_cons_succ])
                      refine' take_lit (i := 9) (v := .agg ((HD.mk 0 0 df mf ov 9 0 0 0).cells (.slice (some ⟨GO, 0, none⟩) o o))) rfl (by kernel_rfl) (by kernel_rfl) (by kernel_rfl) (fun _ _ _ h => h) (Or.inl ⟨by rfl, ?yy10⟩) (by assumption) ?rr10
                      case yy10 => intro w' hSw; exact exec_load_row 30 _ rfl GH rfl 30 ((HD.mk 0 0 df mf ov 9 0 0 0).cells (.slice (some ⟨GO, 0, none⟩) o o)) (0, 0) _ (hSw) Try.underlying30 rfl (by kernel_rfl)
                      (try simp only [Act.put]); (try simp only [List.setIfInBounds_toArray, List.set_cons_zero, List.set_cons_succ])
                      refine' take_lit (i := 10) (v := _) rfl (by kernel_rfl) (by kernel_rfl) (by kernel_rfl) (fun _ _ _ h => h) (Or.inl ⟨by rfl, ?yy11⟩) (by assumption) ?rr11
                      case yy11 => intro w' hSw; (try dsimp only at hSw); go_simp; try (with_reducible rfl)
                      (try simp only [Act.put]); (try simp only [List.setIfInBounds_toArray, List.set_cons_zero, List.set_cons_succ])
                      refine' take_lit (i := 12) (v := _) rfl (by kernel_rfl) (by kernel_rfl) (by kernel_rfl) (fun _ _ _ h => h) (Or.inl ⟨by rfl, ?yy12⟩) (by assumption) ?rr12
                      case yy12 => intro w' hSw; (try dsimp only at hSw); go_simp; try (with_reducible rfl)
                      (try simp only [Act.put]); (try simp only [List.setIfInBounds_toArray, List.set_cons_zero, List.set_cons_succ])
                      refine' take_lit (i := 13) (v := _) rfl (by kernel_rfl) (by kernel_rfl) (by kernel_rfl) (fun _ _ _ h => h) (Or.inl ⟨by rfl, ?yy13⟩) (by assumption) ?rr13
                      case yy13 => intro w' hSw; (try dsimp only at hSw); go_simp; try (with_reducible rfl)
                      (try simp only [Act.put]); (try simp only [List.setIfInBounds_toArray, List.set_cons_zero, List.set_cons_succ])
                      refine' take_lit (i := 14) (v := _) rfl (by kernel_rfl) (by kernel_rfl) (by kernel_rfl) (fun _ _ _ h => h) (Or.inl ⟨by rfl, ?yy14⟩) (by assumption) ?rr14
                      case yy14 => intro w' hSw; (try dsimp only at hSw); go_simp; try (with_reducible rfl)
                      (try simp only [Act.put]); (try simp only [List.setIfInBounds_toArray, List.set_cons_zero, List.set_cons_succ])
                      refine' take_lit (i := 15) (v := _) rfl (by kernel_rfl) (by kernel_rfl) (by kernel_rfl) (fun _ _ _ h => h) (Or.inl ⟨by rfl, ?yy15⟩) (by assumption) ?rr15
                      case yy15 => intro w' hSw; (try dsimp only at hSw); go_simp; try (with_reducible rfl)
                      (try simp only [Act.put]); (try simp only [List.setIfInBounds_toArray, List.set_cons_zero, List.set_cons_succ])
                      refine' take_lit (i := 16) (v := _) rfl (by kernel_rfl) (by kernel_rfl) (by kernel_rfl) (fun _ _ _ h => h) (Or.inl ⟨by rfl, ?yy16⟩) (by assumption) ?rr16
                      case yy16 => intro w' hSw; (try dsimp only at hSw); go_simp; try (with_reducible rfl)
                      (try simp only [Act.put]); (try simp only [List.setIfInBounds_toArray, List.set_cons_zero, List.set_cons_succ])
                      refine' take_lit (i := 17) (v := _) rfl (by kernel_rfl) (by kernel_rfl) (by kernel_rfl) (fun _ _ _ h => h) (Or.inl ⟨by rfl, ?yy17⟩) (by assumption) ?rr17
                      case yy17 => intro w' hSw; (try dsimp only at hSw); go_simp; try (with_reducible rfl)
                      (try simp only [Act.put]); (try simp only [List.setIfInBounds_toArray, List.set_cons_zero, List.set_cons_succ])
                      refine wpAnyH_ready (rs := [11]) (by kernel_rfl) (by simp) ?_
                      refine cons_lit rfl (fun K hK => ?ss11x18) AllReadyH.nil
                      case ss11x18 =>
                        obtain ⟨wa3, hrq, ownq, hbq, hsq⟩ := run_make_cap (P := Try.prog) (k := .u8) wa2 23 i0 Try.underlying23 hi hz0 hz1 (by omega) (m : Int) (m : Int) m m rfl rfl (Nat.le_refl _) (by omega)
                        go_simp
                        have X3 := Lib.hid (X2.out.pushOwn hbq ownq)
                        have RDX3 := Lib.hid ownq.rd
                        clear hrq hbq hsq ownq
                        refine hK.out _ _ (by exact X3.out.blk 3 rfl) (fun hHeld => ?_)
                        clear hK K
                        (try simp only [Act.put]); (try simp only [List.setIfInBounds_toArray, List.set_cons_zero, List.set_cons_succ])
                        refine wpAnyH_ready (rs := [18]) (by kernel_rfl) (by simp) ?_
                        refine cons_lit rfl (fun K hK => ?ss18x19) AllReadyH.nil
                        case ss18x19 =>
                          go_simp
                          refine (writes5_any (HD.mk 0 0 df mf ov 9 0 0 0) (some ⟨GO, 0, none⟩) o o (List.replicate o 0) (some ⟨wa2.heap.size, 0, none⟩) m m (List.replicate m 0) _ _ hwf (X3.out.rd 2 rfl) bo RDX3.out bm (by first | exact wrap_bd _ | omega)).mono ?_
                          rintro e wa4 ⟨rfl, hbr⟩
                          have X4 := Lib.hid (X3.out.next hbr)
                          clear hbr
                          refine hK.out _ _ (by exact X4.out.blk 3 rfl) (fun hHeld => ?_)
                          clear hK K
                          (try simp only [Act.put]); (try simp only [List.setIfInBounds_toArray, List.set_cons_zero, List.set_cons_succ])
                          refine' take_lit (i := 19) (v := _) rfl (by kernel_rfl) (by kernel_rfl) (by kernel_rfl) (fun _ _ _ h => h) (Or.inl ⟨by rfl, ?yy20⟩) (by assumption) ?rr20
                          case yy20 => intro w' hSw; (try dsimp only at hSw); go_simp; try (with_reducible rfl)
                          (try simp only [Act.put]); (try simp only [List.setIfInBounds_toArray, List.set_cons_zero, List.set_cons_succ])
                          refine' take_lit (i := 20) (v := _) rfl (by kernel_rfl) (by kernel_rfl) (by kernel_rfl) (fun _ _ _ h => h) (Or.inl ⟨by rfl, ?yy21⟩) (by assumption) ?rr21
                          case yy21 => intro w' hSw; (try dsimp only at hSw); go_simp; try (with_reducible rfl)
                          (try simp only [Act.put]); (try simp only [List.setIfInBounds_toArray, List.set_cons_zero, List.set_cons_succ])
                          refine' take_lit (i := 21) (v := _) rfl (by kernel_rfl) (by kernel_rfl) (by kernel_rfl) (fun _ _ _ h => h) (Or.inl ⟨by rfl, ?yy22⟩) (by assumption) ?rr22
                          case yy22 => intro w' hSw; (try dsimp only at hSw); go_simp; try (with_reducible rfl)
                          (try simp only [Act.put]); (try simp only [List.setIfInBounds_toArray, List.set_cons_zero, List.set_cons_succ])
                          refine' take_lit (i := 22) (v := .agg ((HD.mk 0 0 df mf ov 9 0 0 0).cells (.slice (some ⟨GO, 0, none⟩) o o))) rfl (by kernel_rfl) (by kernel_rfl) (by kernel_rfl) (fun _ _ _ h => h) (Or.inl ⟨by rfl, ?yy23⟩) (by assumption) ?rr23
                          case yy23 => intro w' hSw; exact exec_load_row 30 _ rfl GH rfl 30 ((HD.mk 0 0 df mf ov 9 0 0 0).cells (.slice (some ⟨GO, 0, none⟩) o o)) (0, 0) _ (hSw) Try.underlying30 rfl (by kernel_rfl)
                          (try simp only [Act.put]); (try simp only [List.setIfInBounds_toArray, List.set_cons_zero, List.set_cons_succ])
                          refine' take_lit (i := 23) (v := _) rfl (by kernel_rfl) (by kernel_rfl) (by kernel_rfl) (fun _ _ _ h => h) (Or.inl ⟨by rfl, ?yy24⟩) (by assumption) ?rr24
                          case yy24 => intro w' hSw; (try dsimp only at hSw); go_simp; try (with_reducible rfl)
                          (try simp only [Act.put]); (try simp only [List.setIfInBounds_toArray, List.set_cons_zero, List.set_cons_succ])
                          refine' take_lit (i := 24) (v := _) rfl (by kernel_rfl) (by kernel_rfl) (by kernel_rfl) (fun _ _ _ h => h) (Or.inl ⟨by rfl, ?yy25⟩) (by assumption) ?rr25
                          case yy25 => intro w' hSw; (try dsimp only at hSw); go_simp; try (with_reducible rfl)
                          (try simp only [Act.put]); (try simp only [List.setIfInBounds_toArray, List.set_cons_zero, List.set_cons_succ])
                          refine' take_lit (i := 25) (v := _) rfl (by kernel_rfl) (by kernel_rfl) (by kernel_rfl) (fun _ _ _ h => h) (Or.inl ⟨by rfl, ?yy26⟩) (by assumption) ?rr26
                          case yy26 => intro w' hSw; (try dsimp only at hSw); go_simp; try (with_reducible rfl)
                          (try simp only [Act.put]); (try simp only [List.setIfInBounds_toArray, List.set_cons_zero, List.set_cons_succ])
                          refine' take_lit (i := 26) (v := _) rfl (by kernel_rfl) (by kernel_rfl) (by kernel_rfl) (fun _ _ _ h => h) (Or.inl ⟨by rfl, ?yy27⟩) (by assumption) ?rr27
                          case yy27 => intro w' hSw; (try dsimp only at hSw); go_simp; try (with_reducible rfl)
                          (try simp only [Act.put]); (try simp only [List.setIfInBounds_toArray, List.set_cons_zero, List.set_cons_succ])
                          refine' take_lit (i := 27) (v := _) rfl (by kernel_rfl) (by kernel_rfl) (by kernel_rfl) (fun _ _ _ h => h) (Or.inl ⟨by rfl, ?yy28⟩) (by assumption) ?rr28
                          case yy28 => intro w' hSw; (try dsimp only at hSw); go_simp; try (with_reducible rfl)
                          (try simp only [Act.put]); (try simp only [List.setIfInBounds_toArray, List.set_cons_zero, List.set_cons_succ])
                          refine wpAnyH_ready (rs := [28]) (by kernel_rfl) (by simp) ?_
                          refine cons_lit rfl (fun K hK => ?ss28x29) AllReadyH.nil
                          case ss28x29 =>
                            go_simp
                            refine (writes5_any (HD.mk 0 0 df mf ov 9 0 0 0) (some ⟨GO, 0, none⟩) o o (List.replicate o 0) none 0 0 [] _ _ hwf (X4.out.rd 2 rfl) bo RD.nil (fun x hx => by cases hx) (by first | exact wrap_bd _ | omega)).mono ?_
                            rintro e wa5 ⟨rfl, hbr⟩
                            have X5 := Lib.hid (X4.out.next hbr)
                            clear hbr
                            refine hK.out _ _ (by exact X5.out.blk 3 rfl) (fun hHeld => ?_)
                            clear hK K
                            (try simp only [Act.put]); (try simp only [List.setIfInBounds_toArray, List.set_cons_zero, List.set_cons_succ])
                            refine' take_lit (i := 29) (v := _) rfl (by kernel_rfl) (by kernel_rfl) (by kernel_rfl) (fun _ _ _ h => h) (Or.inl ⟨by rfl, ?yy30⟩) (by assumption) ?rr30
                            case yy30 => intro w' hSw; (try dsimp only at hSw); go_simp; try (with_reducible rfl)
                            (try simp only [Act.put]); (try simp only [List.setIfInBounds_toArray, List.set_cons_zero, List.set_cons_succ])
                            refine' take_lit (i := 30) (v := _) rfl (by kernel_rfl) (by kernel_rfl) (by kernel_rfl) (fun _ _ _ h => h) (Or.inl ⟨by rfl, ?yy31⟩) (by assumption) ?rr31
                            case yy31 => intro w' hSw; (try dsimp only at hSw); go_simp; try (with_reducible rfl)
                            (try simp only [Act.put]); (try simp only [List.setIfInBounds_toArray, List.set_cons_zero, List.set_cons_succ])
                            refine wpAnyH_done (by kernel_rfl) ?_ _
                            refine NoPanic.normal ?_
                            go_wp2_with fail
                            go_roundw
                            case rel => exact ⟨l + 1, by omega, by go_num, X5.out.pick [0, 1] (by decide) rfl⟩
                            case measure => simp [intOf]; omega
                · have t5 : ¬ (l : Int) < 6 := by omega
                  go_wp2_with fail
                  go_roundw
                  case rel => exact ⟨j + 1, by omega, by go_num, Z.out.pick [0] (by decide) rfl⟩
                  case measure => simp [intOf]; omega
            · have t3 : ¬ (j : Int) < 13 := by omega
              go_wp2_with fail
              go_roundw
              case rel => exact ⟨o + 1, by omega, by go_num, HB0.out.trans (Y.out.bel.mono (hG ▸ hsz0))⟩
              case measure => simp [intOf]; omega
        · have t2 : ¬ (o : Int) < 46 := by omega
          obtain ⟨L, hL⟩ : ∃ L : Nat, L = 65516 := ⟨_, rfl⟩
          have La : 65516 ≤ L := by omega
          have Lb : L ≤ 65516 := by omega
          clear hL
          obtain ⟨w2, hrun, own2, hb2, hs2⟩ := run_make_cap (P := Try.prog) (k := .u8) wb 23 i0 Try.underlying23 hi hz0 hz1 (by omega) (65516 : Int) (65516 : Int) L L (by omega) (by omega) (Nat.le_refl _) (by omega)
          have S2 := Lib.hid ((SP.start wb).pushOwn hb2 own2)
          clear own2 hb2 hs2
          generalize wb.heap.size = GL at hrun S2
          obtain ⟨D0, hD0⟩ : ∃ D, D = List.replicate L (0 : Int) := ⟨_, rfl⟩
          have hbd0 : BD 255 D0 := fun x hx => by rw [hD0] at hx; have := List.eq_of_mem_replicate hx; omega
          have hl0 : D0.length = L := by rw [hD0]; simp
          rw [← hD0] at S2
          have HL0 := Lib.hid hl0
          clear hD0 hl0
          go_upto_region 31 with fail
          clear hrun
          obtain ⟨M, hM⟩ : ∃ M : Nat, M = L - 1 := ⟨_, rfl⟩
          have Ma : 65515 ≤ M := by omega
          have Mb : M ≤ 65515 := by omega
          have s1 := fun W => run_slice_lo (P := Try.prog) W Try.underlying23 hi hz1 (some ⟨GL, 0, none⟩) L L 1 1 rfl (by omega)
          rw [← hM] at s1
          have HDD := Lib.hid (fun (W : World) (X : SP wb W [.own .u8 5 (some ⟨GL, 0, none⟩) L L D0]) => (show RD .u8 W W.heap.size (cutA (some ⟨GL, 0, none⟩) L 1) M (D0.drop 1) from by
            have o := (X.rd 0 rfl).cutA (lo := 1) (c := L) (by omega) (Nat.le_refl _)
            rw [← hM] at o
            exact o))
          obtain ⟨D, hD⟩ : ∃ D, D = D0.drop 1 := ⟨_, rfl⟩
          rw [← hD] at HDD
          have hbd : BD 255 D := by rw [hD]; exact hbd0.drop 1
          have hln : D.length = M := by rw [hD, List.length_drop, HL0.out]; omega
          have HLN := Lib.hid hln
          clear hD hln hM
          have b0 : BD 255 ([] : List Int) := fun x hx => by cases hx
          have hwf1 : (HD.mk 0 0 false false 0 1 0 0 0).WF := ⟨by show (0 : Int) ≤ 0 ∧ (0 : Int) ≤ 255; omega, by show (0 : Int) ≤ 0 ∧ (0 : Int) ≤ 65535; omega, by show (-9223372036854775808 : Int) ≤ 0 ∧ (0 : Int) ≤ 9223372036854775807; omega, by show (0 : Int) ≤ 1 ∧ (1 : Int) ≤ 255; omega, by show (0 : Int) ≤ 0 ∧ (0 : Int) ≤ 255; omega, by show (0 : Int) ≤ 0 ∧ (0 : Int) ≤ 4294967295; omega, by show (0 : Int) ≤ 0 ∧ (0 : Int) ≤ 4294967295; omega⟩
          have hr1 : Rightly (HD.mk 0 0 false false 0 1 0 0 0).off (HD.mk 0 0 false false 0 1 0 0 0).mf 0 ((M : Nat) : Int) := ⟨by show (0 : Int) % 8 = 0; omega, by show (0 : Int) ≤ 0; omega, by show (0 : Int) ≤ 65528; omega, by omega, by omega, by omega, by omega, by show (0 : Int) + _ ≤ 65515; omega, fun h => by cases h⟩
          have HR1 := Lib.hid hr1
          have hnot2 : ¬ Rightly (HD.mk 0 0 false false 0 1 0 0 0).off (HD.mk 0 0 false false 0 1 0 0 0).mf 0 ((L : Nat) : Int) := fun hr => by have h1 := hr.2.2.2.2.2.2.1; omega
          have HN2 := Lib.hid hnot2
          have hnot3 : ¬ Rightly (HD.mk 0 0 false false 0 0 0 0 0).off (HD.mk 0 0 false false 0 0 0 0 0).mf 4 ((M : Nat) : Int) := fun hr => by have h1 := hr.2.2.2.2.2.2.1; omega
          have HN3 := Lib.hid hnot3
          clear hr1 hnot2 hnot3
          have HX := Lib.hid (show SP wb w2 [.own .u8 5 (some ⟨GL, 0, none⟩) L L D0] from S2.out)
          clear S2
          go_wp2_with fail
          rw [show Value.agg #[.int .u8 0, .int .u16 0, .bool false, .bool false, .int .i64 0, .int .u8 1, .int .u8 0, .int .u32 0, .int .u32 0, .slice none 0 0] = (HD.mk 0 0 false false 0 1 0 0 0).val (.slice none 0 0) from rfl]
          refine (write_yes (HD.mk 0 0 false false 0 1 0 0 0) none 0 0 [] (cutA (some ⟨GL, 0, none⟩) L 1) M M D _ hwf1 RD.nil b0 (HDD.out _ HX.out) HR1.out).mono ?_
          rintro e w3 ⟨A3, n3, c3, rfl, own3, hb3⟩
          have hn3 := own3.len
          rw [pkt_len, HLN.out] at hn3
          have hn3a : 65535 ≤ n3 := by simp at hn3; omega
          have hn3b : n3 ≤ 65535 := by simp at hn3; omega
          have hle3 := own3.le
          have X3 := Lib.hid (HX.out.pushOwn hb3 own3)
          have HN3L := Lib.hid (show 20 + 0 + M = n3 by simpa using hn3)
          clear own3 hb3 hn3 HX
          go_wp2_with fail
          rw [show Value.agg #[.int .u8 0, .int .u16 0, .bool false, .bool false, .int .i64 0, .int .u8 1, .int .u8 0, .int .u32 0, .int .u32 0, .slice none 0 0] = (HD.mk 0 0 false false 0 1 0 0 0).val (.slice none 0 0) from rfl]
          refine (write_no (HD.mk 0 0 false false 0 1 0 0 0) none 0 0 (some ⟨GL, 0, none⟩) L L _ hwf1.off (by omega) (by omega) HN2.out).mono ?_
          rintro e w4 ⟨rfl, hb4⟩
          have X4 := Lib.hid (X3.out.next hb4)
          clear hb4 X3
          go_upto_region 33 with fail
          go_cut [18] (fun s18 wx => s18 = .int .i64 2 ∧ SP wb wx [.own .u8 5 (some ⟨GL, 0, none⟩) L L D0, .own .u8 5 A3 n3 c3 (pktB (HD.mk 0 0 false false 0 1 0 0 0) [] D)])
          case first =>
            have X0 := Lib.hid X4.out.drew
            refine wp_region_noPanic ?_
            refine wp_region_held_drew (S := fun _ => True) (by kernel_rfl) (by trivial) (fun hHeld => ?_)
            refine' take_lit (i := 2) (v := _) rfl (by kernel_rfl) (by kernel_rfl) (by kernel_rfl) (fun _ _ _ h => h) (Or.inl ⟨by rfl, ?yy501⟩) (by assumption) ?rr501
            case yy501 => intro w' hSw; (try dsimp only at hSw); go_simp; try (with_reducible rfl)
            (try simp only [Act.put]); (try simp only [List.setIfInBounds_toArray, List.set_cons_zero, List.set_cons_succ])
            refine' take_lit (i := 3) (v := _) rfl (by kernel_rfl) (by kernel_rfl) (by kernel_rfl) (fun _ _ _ h => h) (Or.inl ⟨by rfl, ?yy502⟩) (by assumption) ?rr502
            case yy502 => intro w' hSw; (try dsimp only at hSw); go_simp; try (with_reducible rfl)
            (try simp only [Act.put]); (try simp only [List.setIfInBounds_toArray, List.set_cons_zero, List.set_cons_succ])
            refine wpAnyH_ready (rs := [0]) (by kernel_rfl) (by simp) ?_
            refine cons_lit rfl (fun K hK => ?ss0x503) AllReadyH.nil
            case ss0x503 =>
              obtain ⟨wa, hrq, ownq, hbq, hsq⟩ := run_make_cap (P := Try.prog) (k := .u8) w4.drew 23 i0 Try.underlying23 hi hz0 hz1 (by omega) (4 : Int) (4 : Int) 4 4 rfl rfl (Nat.le_refl _) (by omega)
              go_simp
              have X1 := Lib.hid (X0.out.pushOwn hbq ownq)
              clear hrq hbq hsq ownq
              refine hK.out _ _ (by trivial) (fun hHeld => ?_)
              clear hK K
              (try simp only [Act.put]); (try simp only [List.setIfInBounds_toArray, List.set_cons_zero, List.set_cons_succ])
              refine' take_lit (i := 1) (v := _) rfl (by kernel_rfl) (by kernel_rfl) (by kernel_rfl) (fun _ _ _ h => h) (Or.inl ⟨by rfl, ?yy504⟩) (by assumption) ?rr504
              case yy504 => intro w' hSw; (try dsimp only at hSw); go_simp; try (with_reducible rfl)
              (try simp only [Act.put]); (try simp only [List.setIfInBounds_toArray, List.set_cons_zero, List.set_cons_succ])
              refine wpAnyH_ready (rs := [4]) (by kernel_rfl) (by simp) ?_
              refine cons_lit rfl (fun K hK => ?ss4x505) AllReadyH.nil
              case ss4x505 =>
                go_simp
                rw [show Value.agg #[.int .u8 0, .int .u16 0, .bool false, .bool false, .int .i64 0, .int .u8 0, .int .u8 0, .int .u32 0, .int .u32 0, .slice (some ⟨w4.heap.size, 0, none⟩) 4 4] = (HD.mk 0 0 false false 0 0 0 0 0).val (.slice (some ⟨w4.heap.size, 0, none⟩) 4 4) from rfl]
                refine (write_no (HD.mk 0 0 false false 0 0 0 0 0) (some ⟨w4.heap.size, 0, none⟩) 4 4 (cutA (some ⟨GL, 0, none⟩) L 1) M M _ hwf1.off (by omega) (by omega) HN3.out).mono ?_
                rintro e wc2 ⟨rfl, hbr⟩
                have X2 := Lib.hid (X1.out.next hbr)
                clear hbr
                refine hK.out _ _ (by trivial) (fun hHeld => ?_)
                clear hK K
                (try simp only [Act.put]); (try simp only [List.setIfInBounds_toArray, List.set_cons_zero, List.set_cons_succ])
                refine' take_lit (i := 5) (v := _) rfl (by kernel_rfl) (by kernel_rfl) (by kernel_rfl) (fun _ _ _ h => h) (Or.inl ⟨by rfl, ?yy506⟩) (by assumption) ?rr506
                case yy506 => intro w' hSw; (try dsimp only at hSw); go_simp; try (with_reducible rfl)
                (try simp only [Act.put]); (try simp only [List.setIfInBounds_toArray, List.set_cons_zero, List.set_cons_succ])
                refine' take_lit (i := 6) (v := _) rfl (by kernel_rfl) (by kernel_rfl) (by kernel_rfl) (fun _ _ _ h => h) (Or.inl ⟨by rfl, ?yy507⟩) (by assumption) ?rr507
                case yy507 => intro w' hSw; (try dsimp only at hSw); go_simp; try (with_reducible rfl)
                (try simp only [Act.put]); (try simp only [List.setIfInBounds_toArray, List.set_cons_zero, List.set_cons_succ])
                refine' take_lit (i := 7) (v := _) rfl (by kernel_rfl) (by kernel_rfl) (by kernel_rfl) (fun _ _ _ h => h) (Or.inl ⟨by rfl, ?yy508⟩) (by assumption) ?rr508
                case yy508 => intro w' hSw; (try dsimp only at hSw); go_simp; try (with_reducible rfl)
                (try simp only [Act.put]); (try simp only [List.setIfInBounds_toArray, List.set_cons_zero, List.set_cons_succ])
                refine' take_lit (i := 8) (v := _) rfl (by kernel_rfl) (by kernel_rfl) (by kernel_rfl) (fun _ _ _ h => h) (Or.inl ⟨by rfl, ?yy509⟩) (by assumption) ?rr509
                case yy509 => intro w' hSw; (try dsimp only at hSw); go_simp; try (with_reducible rfl)
                (try simp only [Act.put]); (try simp only [List.setIfInBounds_toArray, List.set_cons_zero, List.set_cons_succ])
                refine' take_lit (i := 9) (v := _) rfl (by kernel_rfl) (by kernel_rfl) (by kernel_rfl) (fun _ _ _ h => h) (Or.inl ⟨by rfl, ?yy510⟩) (by assumption) ?rr510
                case yy510 => intro w' hSw; (try dsimp only at hSw); go_simp; try (with_reducible rfl)
                (try simp only [Act.put]); (try simp only [List.setIfInBounds_toArray, List.set_cons_zero, List.set_cons_succ])
                refine wpAnyH_done (by kernel_rfl) ?_ _
                refine NoPanic.normal ?_
                go_wp2_with fail
                go_meet
                exact ⟨rfl, X2.out.pick [0, 1] (by decide) rfl⟩
          case rest =>
            obtain ⟨rfl, Y0⟩ := hcut
            have Y := Lib.hid Y0
            clear Y0 X4
            obtain ⟨z1, z2, z3, z4, z5⟩ := read_pkt5 (more := []) hwf1 b0 (show Rightly (HD.mk 0 0 false false 0 1 0 0 0).off (HD.mk 0 0 false false 0 1 0 0 0).mf ([] : List Int).length D.length by rw [HLN.out]; exact HR1.out) (show ([] : List Int).length = 0 from rfl) HLN.out HN3L.out
            rw [List.append_nil] at z1 z2 z3 z4 z5
            have Q := Lib.hid (And.intro z1 (And.intro z2 (And.intro z3 (And.intro z4 z5))))
            have hpb : BD 255 (pktB (HD.mk 0 0 false false 0 1 0 0 0) [] D) := pkt_bd hwf1 b0 (by simp) hbd
            clear z1 z2 z3 z4 z5
            go_wp2_with fail
            refine (read_any A3 n3 c3 _ _ (Y.out.rd 1 rfl) hpb hle3.1 (by omega)).mono ?_
            rintro e w5 ⟨A5, n5, c5, rfl, own5, hb5⟩
            rw [Q.out.1, Q.out.2.1, Q.out.2.2.1, Q.out.2.2.2.1]
            have hb5' := Y.out.next hb5
            have Z := Lib.hid (hb5'.alloc 30 ((HD.mk 0 0 false false 0 1 0 0 0).cells (.slice A5 n5 c5)))
            clear own5 hb5 hb5' Y
            unfold HD.val HD.cells
            go_upto_region 35 with fail
            rw [show w5.alloc (.cells #[.int .u8 0, .int .u16 0, .bool false, .bool false, .int .i64 0, .int .u8 1, .int .u8 0, .int .u32 0, .int .u32 0, .slice A5 n5 c5] 30) = w5.alloc (.cells ((HD.mk 0 0 false false 0 1 0 0 0).cells (.slice A5 n5 c5)) 30) from rfl]
            generalize w5.alloc (.cells ((HD.mk 0 0 false false 0 1 0 0 0).cells (.slice A5 n5 c5)) 30) = w6 at Z ⊢
            have e1 : ((n3 : Int) == 65535) = true := by simp; omega
            go_wp2_with fail
            refine (awake5_any _).mono ?_
            rintro e w7 ⟨rfl, hb7⟩
            go_wp2_with fail
            go_ret
            refine ⟨rfl, ?_⟩
            have hb := (Z.out.next hb7).bel
            rw [hG]
            exact HB0.out.trans (hb.mono (hG ▸ hsz0))
end Go.Proofs.Ytpfmecdldoehoaa
