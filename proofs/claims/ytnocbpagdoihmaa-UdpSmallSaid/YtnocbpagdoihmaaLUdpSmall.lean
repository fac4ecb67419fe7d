/- The walk of UdpSmall. (Printed by gen_udpsmall.py.) -/
import Derived.Test.YtnocbpagdoihmaaLUdpReads
import Derived.Test.YtnocbpagdoihmaaUdpL
import Derived.Test.YtnocbpagdoihmaaRegW
import Derived.Test.YtnocbpagdoihmaaWCopy
import Derived.Deep.DeepCutAuto
namespace Go.Proofs.Ytnocbpagdoihmaa
open Go.RowKit
set_option linter.unusedVariables false
attribute [local go_sem ↓] Go.wp_at_zero Go.wp_at_succ

theorem ex9_set (k : Nat) (y : Int) (h0 : 0 ≤ y) (h1 : y ≤ 255) : BD 255 (EX9.set k y) := fun z hz => by
  rcases List.mem_or_eq_of_mem_set hz with hz | rfl
  · exact EX9_bd z hz
  · exact ⟨h0, h1⟩
theorem zeros_bd (n : Nat) : BD 255 (List.replicate n (0 : Int)) := fun x hx => by have := List.eq_of_mem_replicate hx; omega
theorem zeros_sum (n : Nat) : wsum (List.replicate n (0 : Int)) = 0 := (wsum_zero _ (zeros_bd n)).2 (fun x hx => List.eq_of_mem_replicate hx)
/-- a source with which the checksum would be 0 -/
theorem zero_ck {n : Nat} {s : Int} (hs : s = 65493 - 2 * (n : Int)) (hn : n ≤ 39) : wrC 4 5 s 0 (List.replicate n 0) = 65535 := by
  have h : UOK 4 5 s 0 (List.replicate n 0) := ⟨by omega, by omega, by simp; omega, by omega, by omega, zeros_bd n⟩
  have hk : kSum 4 5 s 0 (List.replicate n 0) = 65535 := by
    unfold kSum
    rw [zeros_sum]
    simp only [isum, List.length_replicate]
    omega
  rw [(wrC_eq h).1, hk]
  decide
theorem uPkt_67 (sp dp s d : Int) (data : List Int) (h : wrC sp dp s d data = 65535) : (uPkt sp dp true s d data)[6]?.getD 0 = 255 ∧ (uPkt sp dp true s d data)[7]?.getD 0 = 255 := by
  unfold uPkt
  rw [if_pos rfl, h]
  exact ⟨rfl, rfl⟩

set_option maxHeartbeats 4000000 in
set_option maxRecDepth 100000 in
theorem udpSmall_walk (w : World) : Calls Try.prog 5 #[] w fun e w' => e = .returned (.bool true) ∧ Below w.heap.size w w' := by
  obtain ⟨i0, hi, hz0, hz1, hz2⟩ := info_parts infoU8
  go_enter Try.func5, Try.ntmps5
  go_wp2_with fail
  refine (example9_any _).mono ?_
  rintro e w1 ⟨rfl, rfl⟩
  have S1 : SP w (w.alloc (.cells (EX9.map (Value.int .u8)).toArray 5)) [.own .u8 5 (some ⟨w.heap.size, 0, none⟩) 11 11 EX9] := (SP.start w).allocI .u8 5 EX9 (by decide)
  generalize w.alloc (.cells (EX9.map (Value.int .u8)).toArray 5) = w1 at S1 ⊢
  generalize hG : w.heap.size = G at S1 ⊢
  go_wp2_with fail
  go_loopw [26] (fun s26 wr => ∃ k : Nat, k ≤ 11 ∧ s26 = .int .i64 (k : Int) ∧ SP w wr [.own .u8 5 (some ⟨G, 0, none⟩) 11 11 EX9]) (fun s26 _ => 11 - (intOf s26).toNat)
  case atStart => exact ⟨0, by omega, rfl, S1⟩
  case round =>
    obtain ⟨k, hk, rfl, X0⟩ := hrel
    obtain ⟨wo, rfl⟩ : ∃ wo : World, wo = wr := ⟨_, rfl⟩
    have X := Lib.hid X0
    clear X0
    by_cases hlt : k < 11
    · have t1 : (k : Int) < 11 := by omega
      go_wp2_with fail
      go_loopw [29] (fun s29 wr => ∃ y : Nat, y ≤ 256 ∧ s29 = .int .i64 (y : Int) ∧ SP w wr [.own .u8 5 (some ⟨G, 0, none⟩) 11 11 EX9]) (fun s29 _ => 256 - (intOf s29).toNat)
      case atStart => exact ⟨0, by omega, rfl, X.out⟩
      case round =>
        obtain ⟨y, hy, rfl, Y0⟩ := hrel
        obtain ⟨wp, rfl⟩ : ∃ wp : World, wp = wr := ⟨_, rfl⟩
        have Y := Lib.hid Y0
        clear Y0 X
        by_cases hly : y < 256
        · have t2 : (y : Int) < 256 := by omega
          have t3 : IntKind.u8.wrap (y : Int) = (y : Int) := u8_in _ (by omega) (by omega)
          have HT := Lib.hid (Y.out.allocI .u8 5 [] (by simp [maxLen]))
          go_upto_region 9 with (at_builtin; refine wpList_append_rd _ rfl _ _ _ rfl .u8 G 5 i0 1 Try.underlying22 hi hz0 hz1 hz2 (some ⟨wp.heap.size, 0, none⟩) 0 0 [] rfl (hG ▸ HT.out.own 1 rfl) _ (some ⟨G, 0, none⟩) 11 11 EX9 rfl (HT.out.rd 0 rfl) (by simp only [maxLen]; omega) (by omega) (hG ▸ HT.out.size) ?_; intro A3 c3 w3 happ; have H3 := Lib.hid (HT.out.app 1 rfl (hG.symm ▸ happ)); clear happ)
          clear HT
          have hle3 := (H3.out.own 1 rfl).le
          obtain ⟨g3, rfl, hg3, _⟩ := (H3.out.own 1 rfl).form (by omega)
          have xk := (H3.out.own 1 rfl).cell (i := k) (by omega)
          have zk := (H3.out.own 1 rfl).frozen k
          have u1 : (0 : Int) ≤ (k : Int) := by omega
          have hbx : BD 255 (EX9.set k (y : Int)) := ex9_set k y (by omega) (by omega)
          have H4a : SP w (w3.setCell ⟨g3, k, none⟩ (.int .u8 (y : Int))) [.own .u8 5 (some ⟨G, 0, none⟩) 11 11 EX9, .own .u8 5 (some ⟨g3, 0, none⟩) 11 c3 (EX9.set k (y : Int))] := H3.out.setO 1 rfl k (y : Int)
          have H4 := Lib.hid H4a
          clear H4a
          go_upto_region 10 with fail
          generalize hw4 : w3.setCell ⟨g3, k, none⟩ (.int .u8 (y : Int)) = w4 at H4 ⊢
          clear hw4 xk zk H3 t3
          go_wp2_with fail
          refine (reads9_any _ 11 c3 (EX9.set k (y : Int)) 167772161 167772162 _ (H4.out.rd 1 rfl) hbx hle3.1 (by decide) (by decide)).mono ?_
          rintro e w5 ⟨rfl, hb5⟩
          have H5 := Lib.hid (H4.out.next hb5)
          clear hb5 H4
          by_cases h3 : (y : Int) % 16 = 3
          · have t4 : ((y : Int) % 16 == 3) = true := by simp [h3]
            clear h3
            have H9 := Lib.hid (H5.out.allocI .u8 5 [1, 2, 3] (by decide))
            go_wp2_with (refine wpList_append_rd_w _ (.tmp 50) (.tmp 51) 22 rfl (by rfl) .u8 G 5 i0 1 Try.underlying22 hi hz0 hz1 hz2 (some ⟨g3, 0, none⟩) 11 c3 (EX9.set k (y : Int)) rfl (hG ▸ H9.out.own 1 rfl) _ (some ⟨w5.heap.size, 0, none⟩) 3 3 [1, 2, 3] rfl (H9.out.rd 2 rfl) (by simp only [maxLen]; omega) (by omega) (hG ▸ H9.out.size) ?_; intro A9 c9 w9 happ; have HA := Lib.hid (H9.out.app 1 rfl (hG.symm ▸ happ)); have OA := Lib.hid happ.own; clear happ)
            refine (reads9_any A9 14 c9 (EX9.set k (y : Int) ++ [1, 2, 3]) 167772162 167772161 _ OA.out.rd (hbx.append (bd_all (by decide))) OA.out.le.1 (by decide) (by decide)).mono ?_
            rintro e wb ⟨rfl, hbb⟩
            have HB := Lib.hid (HA.out.next hbb)
            clear hbb HA OA
            go_wp2_with fail
            go_roundw
            case rel => exact ⟨y + 1, by omega, by go_num, HB.out.pick [0] (by decide) rfl⟩
            case measure => simp [intOf]; omega
          · have t4 : ((y : Int) % 16 == 3) = false := by simp [h3]
            clear h3
            go_wp2_with fail
            go_roundw
            case rel => exact ⟨y + 1, by omega, by go_num, H5.out.pick [0] (by decide) rfl⟩
            case measure => simp [intOf]; omega
        · have t2 : ¬ (y : Int) < 256 := by omega
          have u1 : (0 : Int) ≤ (k : Int) := by omega
          have u2 : (k : Int) ≤ 11 := by omega
          go_wp2_with fail
          refine (reads9_any _ k 11 (EX9.take k) 167772161 167772162 _ ((Y.out.rd 0 rfl).take (by omega)) (EX9_bd.take k) (by omega) (by decide) (by decide)).mono ?_
          rintro e wq ⟨rfl, hbq⟩
          have Z := Lib.hid (Y.out.next hbq)
          clear hbq Y
          go_wp2_with fail
          go_roundw
          case rel => exact ⟨k + 1, by omega, by go_num, Z.out.pick [0] (by decide) rfl⟩
          case measure => simp [intOf]; omega
    · have t1 : ¬ (k : Int) < 11 := by omega
      have hbX := X.out.bel
      clear X
      go_wp2_with fail
      go_loopw [68] (fun s68 wr => ∃ n : Nat, n ≤ 40 ∧ s68 = .int .i64 (n : Int) ∧ Below G w wr) (fun s68 _ => 40 - (intOf s68).toNat)
      case atStart => exact ⟨0, by omega, rfl, hG ▸ hbX⟩
      case round =>
        obtain ⟨n, hn, rfl, hb0⟩ := hrel
        obtain ⟨wb, rfl⟩ : ∃ wb : World, wb = wr := ⟨_, rfl⟩
        have HB0 := Lib.hid hb0
        have hsz0 := hb0.size
        clear hb0 hbX
        by_cases hln : n < 40
        · have t2 : (n : Int) < 40 := by omega
          obtain ⟨s, hs⟩ : ∃ s : Int, s = 65493 - 2 * (n : Int) := ⟨_, rfl⟩
          obtain ⟨w7, hrun, own7, hb7, hs7⟩ := run_make_cap (P := Try.prog) (k := .u8) wb 22 i0 Try.underlying22 hi hz0 hz1 (by omega) (n : Int) (n : Int) n n rfl rfl (Nat.le_refl _) (by omega)
          have X7 := Lib.hid ((SP.start wb).pushOwn hb7 own7)
          generalize wb.heap.size = GD at hrun X7
          have s1 : IntKind.u32.wrap (65518 - 2 * (8 + (n : Int)) - 9) = s := by rw [hs, show 65518 - 2 * (8 + (n : Int)) - 9 = 65493 - 2 * (n : Int) by omega]; exact u32_in _ (by omega) (by omega)
          have s0 : 0 ≤ s ∧ s ≤ 65493 := by omega
          have HS := Lib.hid hs
          clear own7 hb7 hs7 hs
          go_upto_region 21 with fail
          clear hrun s1
          have X8 := Lib.hid (X7.out.alloc 4 #[.bool false, .bool true])
          clear X7
          go_upto_region 22 with fail
          generalize w7.alloc (.cells #[.bool false, .bool true] 4) = w8 at X8 ⊢
          generalize w7.heap.size = GB at X8 ⊢
          go_wp2_with fail
          have X8' : SP wb w8 [.own .u8 5 (some ⟨GD, 0, none⟩) n n (List.replicate n 0), .blk GB 4 #[.bool false, .bool true]] := X8.out
          clear X8
          go_loopw [81] (fun s81 wr => ∃ j : Nat, j ≤ 2 ∧ s81 = .int .i64 (j : Int) ∧ SP wb wr [.own .u8 5 (some ⟨GD, 0, none⟩) n n (List.replicate n 0), .blk GB 4 #[.bool false, .bool true]]) (fun s81 _ => 2 - (intOf s81).toNat)
          case atStart => exact ⟨0, by omega, rfl, X8'⟩
          case round =>
            obtain ⟨j, hj, rfl, Y0⟩ := hrel
            obtain ⟨wp, rfl⟩ : ∃ wp : World, wp = wr := ⟨_, rfl⟩
            have Y := Lib.hid Y0
            clear Y0 X8'
            by_cases hlj : j < 2
            · have t3 : (j : Int) < 2 := by omega
              have t4 : (0 : Int) ≤ (j : Int) := by omega
              obtain ⟨ck, xj⟩ : ∃ ck : Bool, wp.cell? ⟨GB, j, none⟩ = some (.bool ck) := by
                rcases (show j = 0 ∨ j = 1 by omega) with rfl | rfl
                · exact ⟨false, Y.out.cell 1 rfl 0 rfl⟩
                · exact ⟨true, Y.out.cell 1 rfl 1 rfl⟩
              have v1 : IntKind.u16.wrap (n : Int) = (n : Int) := u16_in _ (by omega) (by omega)
              have v2 : IntKind.u16.wrap ((n : Int) % 2) = (n : Int) % 2 := u16_in _ (by omega) (by omega)
              go_wp2_with fail
              refine (writes9_any 4 5 ck s 0 (some ⟨GD, 0, none⟩) n n (List.replicate n 0) _ (by omega) (by omega) (by omega) (by omega) (Y.out.rd 0 rfl) (zeros_bd n) (Nat.le_refl _)).mono ?_
              rintro e wq ⟨rfl, hbq⟩
              have Z := Lib.hid (Y.out.next hbq)
              clear hbq Y xj
              go_wp2_with fail
              refine (writes9_any (n : Int) ((n : Int) % 2) ck 167772161 167772162 (some ⟨GD, 0, none⟩) n n (List.replicate n 0) _ (by omega) (by omega) (by omega) (by omega) (Z.out.rd 0 rfl) (zeros_bd n) (Nat.le_refl _)).mono ?_
              rintro e wv ⟨rfl, hbv⟩
              have V := Lib.hid (Z.out.next hbv)
              clear hbv Z
              go_wp2_with fail
              go_roundw
              case rel => exact ⟨j + 1, by omega, by go_num, V.out⟩
              case measure => simp [intOf]; omega
            · have t3 : ¬ (j : Int) < 2 := by omega
              have HW5 := Lib.hid (show ¬ UWrong 5 n from fun h => by unfold UWrong at h; omega)
              have HE := Lib.hid (show uwE 5 n = 0 by unfold uwE; rw [if_neg HW5.out])
              have HBB := Lib.hid (show uwB 4 5 true s 0 (List.replicate n 0) = uPkt 4 5 true s 0 (List.replicate n 0) by unfold uwB; rw [List.length_replicate, if_neg HW5.out])
              obtain ⟨h6, h7⟩ := uPkt_67 4 5 s 0 (List.replicate n 0) (zero_ck HS.out (by omega))
              have H67 := Lib.hid (And.intro h6 h7)
              have hok : UOK 4 5 s 0 (List.replicate n 0) := ⟨by omega, by omega, by simp; omega, by omega, by omega, zeros_bd n⟩
              have hpb : BD 255 (uPkt 4 5 true s 0 (List.replicate n 0)) := uPkt_bd hok
              have w1' : IntKind.u32.wrap (s + 1) = s + 1 := u32_in _ (by omega) (by omega)
              clear h6 h7 hok
              go_wp2_with fail
              refine (uwrite_any 4 5 true s 0 (some ⟨GD, 0, none⟩) n n (List.replicate n 0) _ (by omega) (by omega) (by omega) (by omega) (Y.out.rd 0 rfl) (zeros_bd n) (by omega)).mono ?_
              rintro e wq ⟨A5, n5, c5, rfl, own5, hb5⟩
              rw [HE.out]
              rw [HBB.out] at own5
              have hn5 := own5.len
              rw [uPkt_len, List.length_replicate] at hn5
              subst hn5
              have hle5 := own5.le
              obtain ⟨g5, rfl, hg5, _⟩ := own5.form (by omega)
              have Z := Lib.hid (Y.out.pushOwn hb5 own5)
              clear hb5 own5 Y
              have x6 : wq.cell? ⟨g5, 6, none⟩ = some (.int .u8 255) := by
                have q := (Z.out.own 2 rfl).cell (i := 6) (by omega)
                rw [H67.out.1] at q; exact q
              have x7 : wq.cell? ⟨g5, 7, none⟩ = some (.int .u8 255) := by
                have q := (Z.out.own 2 rfl).cell (i := 7) (by omega)
                rw [H67.out.2] at q; exact q
              have i6 : (6 : Int) < 8 + (n : Int) := by omega
              have i7 : (7 : Int) < 8 + (n : Int) := by omega
              go_wp2_with fail
              refine (reads9_any _ (8 + n) c5 _ s 0 _ (Z.out.rd 2 rfl) hpb hle5.1 (by omega) (by omega)).mono ?_
              rintro e wv ⟨rfl, hbv⟩
              have V := Lib.hid (Z.out.next hbv)
              clear hbv Z x6 x7
              go_wp2_with fail
              refine (reads9_any _ (8 + n) c5 _ 0 (s + 1) _ (V.out.rd 2 rfl) hpb hle5.1 (by omega) (by omega)).mono ?_
              rintro e wu ⟨rfl, hbu⟩
              have U := Lib.hid (V.out.next hbu)
              clear hbu V
              go_wp2_with fail
              go_roundw
              case rel => exact ⟨n + 1, by omega, by go_num, HB0.out.trans (U.out.bel.mono (hG ▸ hsz0))⟩
              case measure => simp [intOf]; omega
        · have t2 : ¬ (n : Int) < 40 := by omega
          obtain ⟨L, hL⟩ : ∃ L : Nat, L = 65508 := ⟨_, rfl⟩
          have La : 65508 ≤ L := by omega
          have Lb : L ≤ 65508 := by omega
          clear hL
          obtain ⟨w2, hrun, own2, hb2, hs2⟩ := run_make_cap (P := Try.prog) (k := .u8) wb 22 i0 Try.underlying22 hi hz0 hz1 (by omega) (65508 : Int) (65508 : Int) L L (by omega) (by omega) (Nat.le_refl _) (by omega)
          have S2 := Lib.hid ((SP.start wb).pushOwn hb2 own2)
          clear own2 hb2 hs2
          generalize wb.heap.size = GL at hrun S2
          go_upto_region 32 with fail
          clear hrun
          obtain ⟨M, hM⟩ : ∃ M : Nat, M = L - 1 := ⟨_, rfl⟩
          have Ma : 65507 ≤ M := by omega
          have Mb : M ≤ 65507 := by omega
          have s1 := fun W => run_slice_lo (P := Try.prog) W Try.underlying22 hi hz1 (some ⟨GL, 0, none⟩) L L 1 1 rfl (by omega)
          rw [← hM] at s1
          have HDD := Lib.hid (fun (W : World) (X : SP wb W [.own .u8 5 (some ⟨GL, 0, none⟩) L L (List.replicate L 0)]) => (show RD .u8 W W.heap.size (cutA (some ⟨GL, 0, none⟩) L 1) M ((List.replicate L (0 : Int)).drop 1) from by
            have o := (X.rd 0 rfl).cutA (lo := 1) (c := L) (by omega) (Nat.le_refl _)
            rw [← hM] at o
            exact o))
          obtain ⟨D, hD⟩ : ∃ D, D = (List.replicate L (0 : Int)).drop 1 := ⟨_, rfl⟩
          rw [← hD] at HDD
          have hbd : BD 255 D := by rw [hD]; exact (zeros_bd L).drop 1
          have hln' : D.length = M := by rw [hD, List.length_drop, List.length_replicate]; omega
          have HLN := Lib.hid hln'
          have hok : UOK 0 1 167772161 167772162 D := ⟨by omega, by omega, by omega, by omega, by omega, hbd⟩
          clear hD hM
          have HX := Lib.hid (show SP wb w2 [.own .u8 5 (some ⟨GL, 0, none⟩) L L (List.replicate L 0)] from S2.out)
          clear S2
          have HW1 := Lib.hid (show ¬ UWrong 1 M from fun h => by unfold UWrong at h; omega)
          have HE := Lib.hid (show uwE 1 M = 0 by unfold uwE; rw [if_neg HW1.out])
          have HBB := Lib.hid (show uwB 0 1 true 167772161 167772162 D = uPkt 0 1 true 167772161 167772162 D by unfold uwB; rw [HLN.out, if_neg HW1.out])
          have HV := Lib.hid (show udpV (uPkt 0 1 true 167772161 167772162 D) 167772161 167772162 = true by
            have q := pkt_read (ck := true) hok (by decide) []
            rw [List.append_nil] at q
            unfold udpV; simp [q.1, q.2.2.2.2])
          have hpb : BD 255 (uPkt 0 1 true 167772161 167772162 D) := uPkt_bd hok
          clear hok hln'
          go_wp2_with fail
          refine (uwrite_any 0 1 true 167772161 167772162 (cutA (some ⟨GL, 0, none⟩) L 1) M M D _ (by omega) (by omega) (by omega) (by omega) (HDD.out _ HX.out) hbd (by omega)).mono ?_
          rintro e w3 ⟨A3, n3, c3, rfl, own3, hb3⟩
          rw [HE.out]
          rw [HBB.out] at own3
          have hn3 := own3.len
          rw [uPkt_len, HLN.out] at hn3
          have hle3 := own3.le
          have X3 := Lib.hid (HX.out.pushOwn hb3 own3)
          have n3a : 65515 ≤ n3 := by omega
          have n3b : n3 ≤ 65515 := by omega
          clear own3 hb3 HX hn3
          go_wp2_with fail
          refine (uwrite_no 0 1 false 167772161 167772162 (some ⟨GL, 0, none⟩) L L _ (by omega) (by omega) (.inr (by omega))).mono ?_
          rintro e w4 ⟨rfl, hb4⟩
          have X4 := Lib.hid (X3.out.next hb4)
          clear hb4 X3
          have e1 : ((n3 : Int) == 65515) = true := by simp; omega
          go_wp2_with fail
          refine (verified_any A3 n3 c3 _ _ _ _ (X4.out.rd 1 rfl) hpb (by omega) hle3.1 (by decide) (by decide) (by decide) (by decide)).mono ?_
          rintro e w5 ⟨rfl, hb5⟩
          rw [HV.out]
          have X5 := Lib.hid (X4.out.next hb5)
          clear hb5 X4
          go_wp2_with fail
          refine (awake9_any _).mono ?_
          rintro e w7 ⟨rfl, hb7⟩
          go_wp2_with fail
          go_ret
          refine ⟨rfl, ?_⟩
          have hb := (X5.out.next hb7).bel
          rw [hG]
          exact HB0.out.trans (hb.mono (hG ▸ hsz0))
end Go.Proofs.Ytnocbpagdoihmaa
