/- bafflelaw05.writes; the walk of IpWrites. (Printed by gen_ipwrites.py.) -/
import Derived.Test.YtpfmecdldoehoaaWRef5H
import Derived.Test.YtpfmecdldoehoaaWAwake5
import Derived.Test.YtpfmecdldoehoaaWSpA
import Derived.Test.YtpfmecdldoehoaaReg
import Derived.Test.YtpfmecdldoehoaaRow
import Derived.Deep.DeepCutAuto
namespace Go.Proofs.Ytpfmecdldoehoaa
open Go.RowKit
set_option linter.unusedVariables false
attribute [local go_sem ↓] Go.wp_at_zero Go.wp_at_succ

theorem wrB_len {h : HD} {opts data : List Int} (ho : opts.length ≤ 60) (hd : data.length ≤ 300) : (wrB h opts data).length ≤ 380 := by
  unfold wrB
  split
  · rw [pkt_len]; omega
  · simp

set_option maxHeartbeats 2000000 in
set_option maxRecDepth 100000 in
theorem writes5_any (h : HD) (A : Option Addr) (n c : Nat) (opts : List Int) (Ad : Option Addr) (dn dc : Nat) (data : List Int) (q : Int) (w : World) (hwf : h.WF) (hro : RD .u8 w w.heap.size A n opts) (bo : BD 255 opts) (hrd : RD .u8 w w.heap.size Ad dn data) (bd : BD 255 data) (hq : -9223372036854775808 ≤ q ∧ q ≤ 9223372036854775807) :
    Calls Try.prog 17 #[h.val (.slice A n c), .slice Ad dn dc, .int .i64 q] w fun e w' => e = .returned (.bool true) ∧ Below w.heap.size w w' := by
  have HLO := Lib.hid hro.len
  have HLD := Lib.hid hrd.len
  have RO := Lib.hid hro
  have RDD := Lib.hid hrd
  have S := (SP.start w).alloc 30 (h.cells (.slice A n c))
  clear hro hrd
  unfold HD.val HD.cells
  go_enter Try.func17, Try.ntmps17
  go_upto_region 1 with fail
  rw [show w.alloc (.cells #[.int .u8 h.tos, .int .u16 h.id, .bool h.df, .bool h.mf, .int .i64 h.off, .int .u8 h.ttl, .int .u8 h.proto, .int .u32 h.src, .int .u32 h.dst, .slice A n c] 30) = w.alloc (.cells (h.cells (.slice A n c)) 30) from rfl]
  generalize hw1 : w.alloc (.cells (h.cells (.slice A n c)) 30) = w1 at S ⊢
  clear hw1
  have H1 := Lib.hid S
  clear S
  have f9 : w1.cell? ⟨w.heap.size, 9, none⟩ = some (.slice A n c) := H1.out.cell 0 rfl 9 rfl
  by_cases hb1 : 60 < n
  · have t1 : (60 : Int) < (n : Int) := by omega
    go_wp2_with fail
    go_ret
    exact ⟨rfl, H1.out.bel⟩
  · have t1 : ¬ (60 : Int) < (n : Int) := by omega
    by_cases hb2 : 300 < dn
    · have t2 : (300 : Int) < (dn : Int) := by omega
      go_wp2_with fail
      go_ret
      exact ⟨rfl, H1.out.bel⟩
    · have t2 : ¬ (300 : Int) < (dn : Int) := by omega
      go_upto_region 3 with fail
      clear f9 t1 t2
      go_cut [7, 8] (fun s7 s8 wx => ∃ N A3, s7 = .pointer (some ⟨N, 0, none⟩) ∧ s8 = .slice A3 dn (dn + 12) ∧ SP w wx [.blk w.heap.size 30 (h.cells (.slice A n c)), .own .u8 5 A3 (dn + 12) (dn + 12) (data ++ marksFrom 1 0 12), .blk N 30 (h.cells (.slice A n c))])
      case first =>
        have X0 := Lib.hid H1.out.drew
        refine wp_region_noPanic ?_
        refine wp_region_held_drew (S := fun W => BLOCK W w.heap.size 30 (h.cells (.slice A n c))) (by kernel_rfl) (by exact X0.out.blk 0 rfl) (fun hHeld => ?_)
        refine' take_lit (i := 0) (v := .agg (h.cells (.slice A n c))) rfl (by kernel_rfl) (by kernel_rfl) (by kernel_rfl) (fun _ _ _ h => h) (Or.inl ⟨by rfl, ?yy1⟩) (by assumption) ?rr1
        case yy1 => intro w' hSw; exact exec_load_row 30 _ rfl w.heap.size rfl 30 (h.cells (.slice A n c)) (0, 0) _ (hSw) Try.underlying30 rfl (by kernel_rfl)
        (try simp only [Act.put]); (try simp only [List.setIfInBounds_toArray, List.set_cons_zero, List.set_cons_succ])
        refine' take_lit (i := 1) (v := _) rfl (by kernel_rfl) (by kernel_rfl) (by kernel_rfl) (fun _ _ _ h => h) (Or.inl ⟨by rfl, ?yy2⟩) (by assumption) ?rr2
        case yy2 => intro w' hSw; (try dsimp only at hSw); go_simp; try (with_reducible rfl)
        (try simp only [Act.put]); (try simp only [List.setIfInBounds_toArray, List.set_cons_zero, List.set_cons_succ])
        refine wpAnyH_ready (rs := [2, 3]) (by kernel_rfl) (by simp) ?_
        refine cons_lit rfl (fun K hK => ?ss2x3) (cons_lit rfl (fun K hK => ?ss3x3) AllReadyH.nil)
        case ss2x3 =>
          go_simp
          refine (lent_any Ad dn dc data _ ((RDD.out.below X0.out.bel).more X0.out.size) (by omega)).mono ?_
          rintro e w3 ⟨A3, n3, rfl, hn3, own3, hb3⟩
          obtain rfl : dn = n3 := by rw [hn3, HLD.out]
          clear hn3
          have U := Lib.hid (X0.out.pushOwn hb3 own3)
          clear own3 hb3
          refine hK.out _ _ (by exact U.out.blk 0 rfl) (fun hHeld => ?_)
          clear hK K
          (try simp only [Act.put]); (try simp only [List.setIfInBounds_toArray, List.set_cons_zero, List.set_cons_succ])
          refine wpAnyH_ready (rs := [3]) (by kernel_rfl) (by simp) ?_
          refine cons_lit rfl (fun K hK => ?ss3x4) AllReadyH.nil
          case ss3x4 =>
            go_simp
            have Y := Lib.hid (U.out.alloc' 30 #[.int .u8 0, .int .u16 0, .bool false, .bool false, .int .i64 0, .int .u8 0, .int .u8 0, .int .u32 0, .int .u32 0, .slice none 0 0] (N := w3.heap.size) rfl)
            refine hK.out _ _ (by exact Y.out.blk 0 rfl) (fun hHeld => ?_)
            clear hK K
            (try simp only [Act.put]); (try simp only [List.setIfInBounds_toArray, List.set_cons_zero, List.set_cons_succ])
            refine wpAnyH_ready (rs := [4]) (by kernel_rfl) (by simp) ?_
            refine cons_lit rfl (fun K hK => ?ss4x5) AllReadyH.nil
            case ss4x5 =>
              refine step_store_row (by rfl) 30 _ _ (by rfl) w3.heap.size (h.cells (.slice A n c)) (by rfl) (by rfl) 30 #[.int .u8 0, .int .u16 0, .bool false, .bool false, .int .i64 0, .int .u8 0, .int .u8 0, .int .u32 0, .int .u32 0, .slice none 0 0] (Y.out.blk 2 rfl) (by kernel_rfl) rfl (hdcells_one h _ _ _) ?_
              have W := Lib.hid (Y.out.setR 2 rfl (h.cells (.slice A n c)))
              refine hK.out _ _ (by exact W.out.blk 0 rfl) (fun hHeld => ?_)
              clear hK K
              (try simp only [Act.put]); (try simp only [List.setIfInBounds_toArray, List.set_cons_zero, List.set_cons_succ])
              refine' take_lit (i := 5) (v := _) rfl (by kernel_rfl) (by kernel_rfl) (by kernel_rfl) (fun _ _ _ h => h) (Or.inl ⟨by rfl, ?yy6⟩) (by assumption) ?rr6
              case yy6 => intro w' hSw; (try dsimp only at hSw); go_simp; try (with_reducible rfl)
              (try simp only [Act.put]); (try simp only [List.setIfInBounds_toArray, List.set_cons_zero, List.set_cons_succ])
              refine wpAnyH_done (by kernel_rfl) ?_ _
              refine NoPanic.normal ?_
              go_wp2_with fail
              go_meet
              exact ⟨w3.heap.size, A3, rfl, rfl, W.out.pick [0, 1, 2] (by decide) rfl⟩
        case ss3x3 =>
          go_simp
          have Y := Lib.hid (X0.out.alloc' 30 #[.int .u8 0, .int .u16 0, .bool false, .bool false, .int .i64 0, .int .u8 0, .int .u8 0, .int .u32 0, .int .u32 0, .slice none 0 0] (N := w1.heap.size) rfl)
          refine hK.out _ _ (by exact Y.out.blk 0 rfl) (fun hHeld => ?_)
          clear hK K
          (try simp only [Act.put]); (try simp only [List.setIfInBounds_toArray, List.set_cons_zero, List.set_cons_succ])
          refine wpAnyH_ready (rs := [2]) (by kernel_rfl) (by simp) ?_
          refine cons_lit rfl (fun K hK => ?ss2x7) AllReadyH.nil
          case ss2x7 =>
            go_simp
            refine (lent_any Ad dn dc data _ ((RDD.out.below Y.out.bel).more Y.out.size) (by omega)).mono ?_
            rintro e w3 ⟨A3, n3, rfl, hn3, own3, hb3⟩
            obtain rfl : dn = n3 := by rw [hn3, HLD.out]
            clear hn3
            have V := Lib.hid (Y.out.pushOwn hb3 own3)
            clear own3 hb3
            refine hK.out _ _ (by exact V.out.blk 0 rfl) (fun hHeld => ?_)
            clear hK K
            (try simp only [Act.put]); (try simp only [List.setIfInBounds_toArray, List.set_cons_zero, List.set_cons_succ])
            refine wpAnyH_ready (rs := [4]) (by kernel_rfl) (by simp) ?_
            refine cons_lit rfl (fun K hK => ?ss4x8) AllReadyH.nil
            case ss4x8 =>
              refine step_store_row (by rfl) 30 _ _ (by rfl) w1.heap.size (h.cells (.slice A n c)) (by rfl) (by rfl) 30 #[.int .u8 0, .int .u16 0, .bool false, .bool false, .int .i64 0, .int .u8 0, .int .u8 0, .int .u32 0, .int .u32 0, .slice none 0 0] (V.out.blk 1 rfl) (by kernel_rfl) rfl (hdcells_one h _ _ _) ?_
              have W := Lib.hid (V.out.setR 1 rfl (h.cells (.slice A n c)))
              refine hK.out _ _ (by exact W.out.blk 0 rfl) (fun hHeld => ?_)
              clear hK K
              (try simp only [Act.put]); (try simp only [List.setIfInBounds_toArray, List.set_cons_zero, List.set_cons_succ])
              refine' take_lit (i := 5) (v := _) rfl (by kernel_rfl) (by kernel_rfl) (by kernel_rfl) (fun _ _ _ h => h) (Or.inl ⟨by rfl, ?yy9⟩) (by assumption) ?rr9
              case yy9 => intro w' hSw; (try dsimp only at hSw); go_simp; try (with_reducible rfl)
              (try simp only [Act.put]); (try simp only [List.setIfInBounds_toArray, List.set_cons_zero, List.set_cons_succ])
              refine wpAnyH_done (by kernel_rfl) ?_ _
              refine NoPanic.normal ?_
              go_wp2_with fail
              go_meet
              exact ⟨w1.heap.size, A3, rfl, rfl, W.out.pick [0, 2, 1] (by decide) rfl⟩
      case rest =>
        obtain ⟨N, A3, rfl, rfl, T0⟩ := hcut
        have T := Lib.hid T0
        clear T0 H1
        have f9 : wc.cell? ⟨w.heap.size, 9, none⟩ = some (.slice A n c) := T.out.cell 0 rfl 9 rfl
        have hN := (T.out.blk 2 rfl).lt
        go_wp2_with fail
        refine (lent_any A n c opts _ ((RO.out.below T.out.bel).more T.out.size) (by omega)).mono ?_
        rintro e w4 ⟨A4, n4, rfl, hn4, own4, hb4⟩
        obtain rfl : n = n4 := by rw [hn4, HLO.out]
        clear hn4
        have T4 := Lib.hid (T.out.pushOwn hb4 own4)
        clear own4 hb4 f9 T
        have k9 : w4.cell? ⟨N, 9, none⟩ = some (.slice A n c) := T4.out.cell 2 rfl 9 rfl
        have z9 := T4.out.free 2 rfl 9
        have T5a : SP w (w4.setCell ⟨N, 9, none⟩ (.slice A4 n (n + 12))) [.blk w.heap.size 30 (h.cells (.slice A n c)), .own .u8 5 A3 (dn + 12) (dn + 12) (data ++ marksFrom 1 0 12), .blk N 30 (h.cells (.slice A4 n (n + 12))), .own .u8 5 A4 (n + 12) (n + 12) (opts ++ marksFrom 1 0 12)] := T4.out.setB 2 rfl 9 (.slice A4 n (n + 12))
        have T5 := Lib.hid T5a
        clear T5a
        go_upto_region 5 with fail
        generalize hw5 : w4.setCell ⟨N, 9, none⟩ (.slice A4 n (n + 12)) = w5 at T5 ⊢
        clear hw5 k9 z9 T4 hN
        have CO := Lib.hid (fun (W : World) (X : OWN .u8 5 W w.heap.size A4 (n + 12) (n + 12) (opts ++ marksFrom 1 0 12)) => (show RD .u8 W W.heap.size A4 n opts from by
          have o := (X.cut (m := n) (by omega)).rd
          rw [List.take_left' HLO.out] at o
          exact o))
        have CD := Lib.hid (fun (W : World) (X : OWN .u8 5 W w.heap.size A3 (dn + 12) (dn + 12) (data ++ marksFrom 1 0 12)) => (show RD .u8 W W.heap.size A3 dn data from by
          have o := (X.cut (m := dn) (by omega)).rd
          rw [List.take_left' HLD.out] at o
          exact o))
        go_wp2_with (refine wpList_load_row rfl 30 _ rfl N rfl 30 (h.cells (.slice A4 n (n + 12))) (0, 0) _ (T5.out.blk 2 rfl) Try.underlying30 rfl (by kernel_rfl) ?_)
        refine (write_any h A4 n (n + 12) opts A3 dn (dn + 12) data _ hwf (CO.out _ (T5.out.own 3 rfl)) bo (CD.out _ (T5.out.own 1 rfl)) (by omega) (by omega)).mono ?_
        rintro e w6 ⟨A6, n6, c6, rfl, own6, hb6⟩
        have hn6 := own6.len
        have hn6' : n6 ≤ 380 := by rw [← hn6]; exact wrB_len (by rw [HLO.out]; omega) (by rw [HLD.out]; omega)
        clear hn6
        have hle6 := own6.le
        have T6 := Lib.hid (T5.out.pushOwn hb6 own6)
        clear own6 hb6 T5
        go_wp2_with (refine wpList_load_row rfl 30 _ rfl w.heap.size rfl 30 (h.cells (.slice A n c)) (0, 0) _ (T6.out.blk 0 rfl) Try.underlying30 rfl (by kernel_rfl) ?_)
        refine (r5Write_any h A n c opts Ad dn dc data _ hwf ((RO.out.below T6.out.bel).more T6.out.size) bo ((RDD.out.below T6.out.bel).more T6.out.size) (by omega) (by omega)).mono ?_
        rintro e w7 ⟨A7, n7, c7, rfl, own7, hb7⟩
        have hn7 := own7.len
        have hn7' : n7 ≤ 380 := by rw [← hn7]; exact wrB_len (by rw [HLO.out]; omega) (by rw [HLD.out]; omega)
        clear hn7
        have T7 := Lib.hid (T6.out.pushOwn hb7 own7)
        clear own7 hb7 T6
        obtain ⟨er, her⟩ : ∃ x, x = wrE h n dn := ⟨_, rfl⟩
        obtain ⟨rb, hrb⟩ : ∃ x, x = rightB h.off h.mf n q := ⟨_, rfl⟩
        have HRB := Lib.hid hrb
        rw [← her]
        clear her hrb
        go_upto_region 7 with fail
        go_cut [58] (fun s58 wx => s58 = .bool false ∧ SP w wx [.blk w.heap.size 30 (h.cells (.slice A n c)), .own .u8 5 A3 (dn + 12) (dn + 12) (data ++ marksFrom 1 0 12), .blk N 30 (h.cells (.slice A4 n (n + 12))), .own .u8 5 A4 (n + 12) (n + 12) (opts ++ marksFrom 1 0 12), .own .u8 5 A6 n6 c6 (wrB h opts data)])
        case first =>
          have X0 := Lib.hid T7.out.drew
          refine wp_region_noPanic ?_
          refine wp_region_held_drew (S := fun W => BLOCK W w.heap.size 30 (h.cells (.slice A n c)) ∧ BLOCK W N 30 (h.cells (.slice A4 n (n + 12)))) (by kernel_rfl) (by exact ⟨X0.out.blk 0 rfl, X0.out.blk 2 rfl⟩) (fun hHeld => ?_)
          refine' take_lit (i := 0) (v := _) rfl (by kernel_rfl) (by kernel_rfl) (by kernel_rfl) (fun _ _ _ h => h) (Or.inl ⟨by rfl, ?yy10⟩) (by assumption) ?rr10
          case yy10 => intro w' hSw; (try dsimp only at hSw); go_simp; try (with_reducible rfl)
          (try simp only [Act.put]); (try simp only [List.setIfInBounds_toArray, List.set_cons_zero, List.set_cons_succ])
          refine' take_lit (i := 1) (v := _) rfl (by kernel_rfl) (by kernel_rfl) (by kernel_rfl) (fun _ _ _ h => h) (Or.inl ⟨by rfl, ?yy11⟩) (by assumption) ?rr11
          case yy11 => intro w' hSw; (try dsimp only at hSw); go_simp; try (with_reducible rfl)
          (try simp only [Act.put]); (try simp only [List.setIfInBounds_toArray, List.set_cons_zero, List.set_cons_succ])
          refine wpAnyH_ready (rs := [2]) (by kernel_rfl) (by simp) ?_
          refine cons_lit rfl (fun K hK => ?ss2x12) AllReadyH.nil
          case ss2x12 =>
            go_simp
            refine (same_any A6 A7 n6 c6 n7 c7 _ _ _ (X0.out.rd 4 rfl) (X0.out.rd 5 rfl) (by omega) (by omega)).mono ?_
            rintro e wa ⟨rfl, ma, ha⟩
            rw [show (wrB h opts data == wrB h opts data) = true by simp]
            have X1 := Lib.hid (ha ▸ X0.out.drewN ma)
            clear ha
            refine hK.out _ _ (by exact ⟨X1.out.blk 0 rfl, X1.out.blk 2 rfl⟩) (fun hHeld => ?_)
            clear hK K
            (try simp only [Act.put]); (try simp only [List.setIfInBounds_toArray, List.set_cons_zero, List.set_cons_succ])
            refine' take_lit (i := 3) (v := _) rfl (by kernel_rfl) (by kernel_rfl) (by kernel_rfl) (fun _ _ _ h => h) (Or.inl ⟨by rfl, ?yy13⟩) (by assumption) ?rr13
            case yy13 => intro w' hSw; (try dsimp only at hSw); go_simp; try (with_reducible rfl)
            (try simp only [Act.put]); (try simp only [List.setIfInBounds_toArray, List.set_cons_zero, List.set_cons_succ])
            refine' take_lit (i := 4) (v := _) rfl (by kernel_rfl) (by kernel_rfl) (by kernel_rfl) (fun _ _ _ h => h) (Or.inl ⟨by rfl, ?yy14⟩) (by assumption) ?rr14
            case yy14 => intro w' hSw; (try dsimp only at hSw); go_simp; try (with_reducible rfl)
            (try simp only [Act.put]); (try simp only [List.setIfInBounds_toArray, List.set_cons_zero, List.set_cons_succ])
            refine' take_lit (i := 5) (v := _) rfl (by kernel_rfl) (by kernel_rfl) (by kernel_rfl) (fun _ _ _ h => h) (Or.inl ⟨by rfl, ?yy15⟩) (by assumption) ?rr15
            case yy15 => intro w' hSw; (try dsimp only at hSw); go_simp; try (with_reducible rfl)
            (try simp only [Act.put]); (try simp only [List.setIfInBounds_toArray, List.set_cons_zero, List.set_cons_succ])
            refine' take_lit (i := 6) (v := _) rfl (by kernel_rfl) (by kernel_rfl) (by kernel_rfl) (fun _ _ _ h => h) (Or.inl ⟨by rfl, ?yy16⟩) (by assumption) ?rr16
            case yy16 => intro w' hSw; (try dsimp only at hSw); go_simp; try (with_reducible rfl)
            (try simp only [Act.put]); (try simp only [List.setIfInBounds_toArray, List.set_cons_zero, List.set_cons_succ])
            refine' take_lit (i := 7) (v := _) rfl (by kernel_rfl) (by kernel_rfl) (by kernel_rfl) (fun _ _ _ h => h) (Or.inl ⟨by rfl, ?yy17⟩) (by assumption) ?rr17
            case yy17 => intro w' hSw; (try dsimp only at hSw); go_simp; try (with_reducible rfl)
            (try simp only [Act.put]); (try simp only [List.setIfInBounds_toArray, List.set_cons_zero, List.set_cons_succ])
            refine' take_lit (i := 8) (v := _) rfl (by kernel_rfl) (by kernel_rfl) (by kernel_rfl) (fun _ _ _ h => h) (Or.inl ⟨by rfl, ?yy18⟩) (by assumption) ?rr18
            case yy18 => intro w' hSw; (try dsimp only at hSw); go_simp; try (with_reducible rfl)
            (try simp only [Act.put]); (try simp only [List.setIfInBounds_toArray, List.set_cons_zero, List.set_cons_succ])
            refine' take_lit (i := 9) (v := _) rfl (by kernel_rfl) (by kernel_rfl) (by kernel_rfl) (fun _ _ _ h => h) (Or.inl ⟨by rfl, ?yy19⟩) (by assumption) ?rr19
            case yy19 => intro w' hSw; (try dsimp only at hSw); go_simp; try (with_reducible rfl)
            (try simp only [Act.put]); (try simp only [List.setIfInBounds_toArray, List.set_cons_zero, List.set_cons_succ])
            refine' take_lit (i := 10) (v := .agg (h.cells (.slice A4 n (n + 12)))) rfl (by kernel_rfl) (by kernel_rfl) (by kernel_rfl) (fun _ _ _ h => h) (Or.inl ⟨by rfl, ?yy20⟩) (by assumption) ?rr20
            case yy20 => intro w' hSw; exact exec_load_row 30 _ rfl N rfl 30 (h.cells (.slice A4 n (n + 12))) (0, 0) _ (hSw.2) Try.underlying30 rfl (by kernel_rfl)
            (try simp only [Act.put]); (try simp only [List.setIfInBounds_toArray, List.set_cons_zero, List.set_cons_succ])
            refine' take_lit (i := 11) (v := _) rfl (by kernel_rfl) (by kernel_rfl) (by kernel_rfl) (fun _ _ _ h => h) (Or.inl ⟨by rfl, ?yy21⟩) (by assumption) ?rr21
            case yy21 => intro w' hSw; (try dsimp only at hSw); go_simp; try (with_reducible rfl)
            (try simp only [Act.put]); (try simp only [List.setIfInBounds_toArray, List.set_cons_zero, List.set_cons_succ])
            refine' take_lit (i := 13) (v := .agg (h.cells (.slice A n c))) rfl (by kernel_rfl) (by kernel_rfl) (by kernel_rfl) (fun _ _ _ h => h) (Or.inl ⟨by rfl, ?yy22⟩) (by assumption) ?rr22
            case yy22 => intro w' hSw; exact exec_load_row 30 _ rfl w.heap.size rfl 30 (h.cells (.slice A n c)) (0, 0) _ (hSw.1) Try.underlying30 rfl (by kernel_rfl)
            (try simp only [Act.put]); (try simp only [List.setIfInBounds_toArray, List.set_cons_zero, List.set_cons_succ])
            refine' take_lit (i := 14) (v := _) rfl (by kernel_rfl) (by kernel_rfl) (by kernel_rfl) (fun _ _ _ h => h) (Or.inl ⟨by rfl, ?yy23⟩) (by assumption) ?rr23
            case yy23 => intro w' hSw; (try dsimp only at hSw); go_simp; try (with_reducible rfl)
            (try simp only [Act.put]); (try simp only [List.setIfInBounds_toArray, List.set_cons_zero, List.set_cons_succ])
            refine wpAnyH_ready (rs := [12]) (by kernel_rfl) (by simp) ?_
            refine cons_lit rfl (fun K hK => ?ss12x24) AllReadyH.nil
            case ss12x24 =>
              go_simp
              refine (ipRight_any h A4 n (n + 12) q _ hwf.off hq (by omega)).mono ?_
              rintro e wp ⟨rfl, hbr⟩
              rw [← HRB.out]
              have X2 := Lib.hid (X1.out.next hbr)
              clear hbr
              refine hK.out _ _ (by exact ⟨X2.out.blk 0 rfl, X2.out.blk 2 rfl⟩) (fun hHeld => ?_)
              clear hK K
              (try simp only [Act.put]); (try simp only [List.setIfInBounds_toArray, List.set_cons_zero, List.set_cons_succ])
              refine wpAnyH_ready (rs := [15]) (by kernel_rfl) (by simp) ?_
              refine cons_lit rfl (fun K hK => ?ss15x25) AllReadyH.nil
              case ss15x25 =>
                go_simp
                refine (r5right_any h A n c q _ hwf.off hq (by omega)).mono ?_
                rintro e wq ⟨rfl, hbr⟩
                rw [← HRB.out]
                have X3 := Lib.hid (X2.out.next hbr)
                clear hbr
                refine hK.out _ _ (by exact ⟨X3.out.blk 0 rfl, X3.out.blk 2 rfl⟩) (fun hHeld => ?_)
                clear hK K
                (try simp only [Act.put]); (try simp only [List.setIfInBounds_toArray, List.set_cons_zero, List.set_cons_succ])
                refine' take_lit (i := 16) (v := _) rfl (by kernel_rfl) (by kernel_rfl) (by kernel_rfl) (fun _ _ _ h => h) (Or.inl ⟨by rfl, ?yy26⟩) (by assumption) ?rr26
                case yy26 => intro w' hSw; (try dsimp only at hSw); go_simp; try (with_reducible rfl)
                (try simp only [Act.put]); (try simp only [List.setIfInBounds_toArray, List.set_cons_zero, List.set_cons_succ])
                refine' take_lit (i := 17) (v := _) rfl (by kernel_rfl) (by kernel_rfl) (by kernel_rfl) (fun _ _ _ h => h) (Or.inl ⟨by rfl, ?yy27⟩) (by assumption) ?rr27
                case yy27 => intro w' hSw; (try dsimp only at hSw); go_simp; try (with_reducible rfl)
                (try simp only [Act.put]); (try simp only [List.setIfInBounds_toArray, List.set_cons_zero, List.set_cons_succ])
                refine wpAnyH_done (by kernel_rfl) ?_ _
                refine NoPanic.normal ?_
                go_wp2_with fail
                go_meet
                exact ⟨rfl, X3.out.pick [0, 1, 2, 3, 4] (by decide) rfl⟩
        case rest =>
          obtain ⟨rfl, X0⟩ := hcut
          have X := Lib.hid X0
          clear X0 T7
          have f9 : wc.cell? ⟨w.heap.size, 9, none⟩ = some (.slice A n c) := X.out.cell 0 rfl 9 rfl
          have k9 : wc.cell? ⟨N, 9, none⟩ = some (.slice A4 n (n + 12)) := X.out.cell 2 rfl 9 rfl
          go_wp2_with fail
          refine (kept_any A4 n opts A c _ ((RO.out.below X.out.bel).more X.out.size) (X.out.rd 3 rfl) (by omega)).mono ?_
          rintro e wb ⟨rfl, mb, hb⟩
          have XB := Lib.hid (hb ▸ X.out.drewN mb)
          clear hb X f9 k9
          go_wp2_with fail
          refine (kept_any A3 dn data Ad dc _ ((RDD.out.below XB.out.bel).more XB.out.size) (XB.out.rd 1 rfl) (by omega)).mono ?_
          rintro e wd ⟨rfl, md, hd⟩
          have XD := Lib.hid (hd ▸ XB.out.drewN md)
          clear hd XB
          have k9 : wd.cell? ⟨N, 9, none⟩ = some (.slice A4 n (n + 12)) := XD.out.cell 2 rfl 9 rfl
          go_wp2_with fail
          refine (sp_apart XD.out [3, 1, 4] [⟨A4, n, n + 12⟩, ⟨A3, dn, dn + 12⟩, ⟨A6, n6, c6⟩] (SPD.cons rfl (by omega) (by omega) (SPD.cons rfl (by omega) (by omega) (SPD.cons rfl (Nat.le_refl _) (by omega) SPD.nil))) (by decide) (by simp) (by simp) 3 3 rfl).mono ?_
          rintro e we ⟨rfl, hbe⟩
          go_wp2_with fail
          go_ret
          exact ⟨rfl, XD.out.bel.trans hbe⟩

set_option maxHeartbeats 2000000 in
set_option maxRecDepth 100000 in
theorem ipWrites_walk (x0 x1 : Int) (x2 x3 : Bool) (x4 x5 x6 x7 x8 : Int) (A : Option Addr) (n c : Nat) (opts : List Int) (Ad : Option Addr) (dn dc : Nat) (data : List Int) (q : Int) (w : World)
    (h0 : 0 ≤ x0 ∧ x0 ≤ 255) (h1 : 0 ≤ x1 ∧ x1 ≤ 65535) (h4 : -9223372036854775808 ≤ x4 ∧ x4 ≤ 9223372036854775807) (h5 : 0 ≤ x5 ∧ x5 ≤ 255) (h6 : 0 ≤ x6 ∧ x6 ≤ 255) (h7 : 0 ≤ x7 ∧ x7 ≤ 4294967295) (h8 : 0 ≤ x8 ∧ x8 ≤ 4294967295)
    (ho : ROW .u8 255 w A n c opts) (hd : ROW .u8 255 w Ad dn dc data) (hq : -9223372036854775808 ≤ q ∧ q ≤ 9223372036854775807) :
    Calls Try.prog 4 #[.agg #[.int .u8 x0, .int .u16 x1, .bool x2, .bool x3, .int .i64 x4, .int .u8 x5, .int .u8 x6, .int .u32 x7, .int .u32 x8, .slice A n c], .slice Ad dn dc, .int .i64 q] w fun e w' => e = .returned (.bool true) ∧ Below w.heap.size w w' := by
  have hwf : (HD.mk x0 x1 x2 x3 x4 x5 x6 x7 x8).WF := ⟨h0, h1, h4, h5, h6, h7, h8⟩
  have S0 := (SP.start w).alloc 30 ((HD.mk x0 x1 x2 x3 x4 x5 x6 x7 x8).cells (.slice A n c))
  have ro := ho.rd
  have bo := ho.bd
  have rd := hd.rd
  have bd := hd.bd
  have hnc := ho.le
  have hdc := hd.le
  clear ho hd
  go_enter Try.func4, Try.ntmps4
  go_upto_region 1 with fail
  rw [show w.alloc (.cells #[.int .u8 x0, .int .u16 x1, .bool x2, .bool x3, .int .i64 x4, .int .u8 x5, .int .u8 x6, .int .u32 x7, .int .u32 x8, .slice A n c] 30) = w.alloc (.cells ((HD.mk x0 x1 x2 x3 x4 x5 x6 x7 x8).cells (.slice A n c)) 30) from rfl]
  generalize hw1 : w.alloc (.cells ((HD.mk x0 x1 x2 x3 x4 x5 x6 x7 x8).cells (.slice A n c)) 30) = w1 at S0 ⊢
  clear hw1
  have H0 := Lib.hid S0
  clear S0
  go_wp2_with (refine wpList_load_row rfl 30 _ rfl w.heap.size rfl 30 ((HD.mk x0 x1 x2 x3 x4 x5 x6 x7 x8).cells (.slice A n c)) (0, 0) _ (H0.out.blk 0 rfl) Try.underlying30 rfl (by kernel_rfl) ?_)
  refine (writes5_any (HD.mk x0 x1 x2 x3 x4 x5 x6 x7 x8) A n c opts Ad dn dc data q _ hwf ((ro.below H0.out.bel).more H0.out.size) bo ((rd.below H0.out.bel).more H0.out.size) bd hq).mono ?_
  rintro e w2 ⟨rfl, hb2⟩
  have H2 := Lib.hid (H0.out.next hb2)
  clear hb2
  go_wp2_with fail
  refine (awake5_any _).mono ?_
  rintro e w3 ⟨rfl, hb3⟩
  go_wp2_with fail
  go_ret
  exact ⟨rfl, (H2.out.next hb3).bel⟩
end Go.Proofs.Ytpfmecdldoehoaa
