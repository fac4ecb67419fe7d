/- The walk of IpBack. (Printed by gen_ipback.py.) -/
import Derived.Test.YtpfmecdldoehoaaSep2
import Derived.Test.YtpfmecdldoehoaaReg
import Derived.Test.YtpfmecdldoehoaaLIpBk
import Derived.Test.YtpfmecdldoehoaaWMade5
import Derived.Test.YtpfmecdldoehoaaWAwake5
import Derived.Test.YtpfmecdldoehoaaWFull
import Derived.Test.YtpfmecdldoehoaaRow
namespace Go.Proofs.Ytpfmecdldoehoaa
open Go.RowKit
set_option linter.unusedVariables false

/-- what the packet reads as, whatever follows -/
theorem read_pkt {H : HD} {opts data more : List Int} {on n5 dn : Nat} (hwf : H.WF) (bo : BD 255 opts) (hr : Rightly H.off H.mf opts.length data.length) (h1 : opts.length = on) (h2 : data.length = dn) (h3 : 20 + on + dn = n5) :
    ipE (pktB H opts data ++ more) = 0 ∧ hdR (pktB H opts data ++ more) = H ∧ fromR (pktB H opts data ++ more) = 20 + on ∧ toR (pktB H opts data ++ more) = n5 ∧ optsR (pktB H opts data ++ more) = opts := by
  have hP : PARSED H opts data (pktB H opts data ++ more) := parse_pkt hwf bo hr
  refine ⟨ipE_eq hP.fault, ?_, ?_, ?_, ?_⟩
  · unfold hdR; rw [if_pos hP.fault]; exact hP.hdE
  · unfold fromR; rw [if_pos hP.fault, hP.size, h1]
  · unfold toR; rw [if_pos hP.fault, hP.total, h1, h2]; exact h3
  · unfold optsR; rw [if_pos hP.fault]; exact hP.opE

theorem hcells_one (H : HD) (A : Option Addr) (n c : Nat) : (H.cells (.slice A n c)).all (·.oneCell') = true := by
  unfold HD.cells
  simp [Value.oneCell']

set_option maxHeartbeats 8000000 in
set_option maxRecDepth 100000 in
theorem ipBack_walk (h0 h1 h2 h3 h4 h5 h6 h7 h8 h9 h10 h11 words far many : Int) (df mf : Bool) (A : Option Addr) (n c : Nat) (zs : List Int) (Bh : Option Addr) (bn bc : Nat) (ys : List Int) (w : World) (hb : BD 255 [h0, h1, h2, h3, h4, h5, h6, h7, h8, h9, h10, h11]) (hw : 0 ≤ words ∧ words ≤ 255) (hf : 0 ≤ far ∧ far ≤ 255) (hm : 0 ≤ many ∧ many ≤ 255) (h : ROW .u8 255 w A n c zs) (hB : ROW .u8 255 w Bh bn bc ys) :
    Calls Try.prog 5 #[.agg (sm18 h0 h1 h2 h3 h4 h5 h6 h7 h8 h9 h10 h11 words far many df mf (.slice A n c)), .slice Bh bn bc] w fun e w' => e = .returned (.bool true) ∧ Below w.heap.size w w' := by
  obtain ⟨i0, hi, hz0, hz1, hz2⟩ := info_parts infoU8
  have H0 := (SP.start w).alloc 25 (sm18 h0 h1 h2 h3 h4 h5 h6 h7 h8 h9 h10 h11 words far many df mf (.slice A n c))
  unfold sm18
  go_enter Try.func5, Try.ntmps5
  go_wp2_with fail
  rw [show w.alloc (.cells #[.int .u8 h0, .int .u8 h1, .int .u8 h2, .int .u8 h3, .int .u8 h4, .int .u8 h5, .int .u8 h6, .int .u8 h7, .int .u8 h8, .int .u8 h9, .int .u8 h10, .int .u8 h11, .int .u8 words, .int .u8 far, .int .u8 many, .bool df, .bool mf, .slice A n c] 25) = w.alloc (.cells (sm18 h0 h1 h2 h3 h4 h5 h6 h7 h8 h9 h10 h11 words far many df mf (.slice A n c)) 25) from rfl]
  generalize w.alloc (.cells (sm18 h0 h1 h2 h3 h4 h5 h6 h7 h8 h9 h10 h11 words far many df mf (.slice A n c)) 25) = w1 at H0 ⊢
  refine (awake5_any _).mono ?_
  rintro e w2 ⟨rfl, hb2⟩
  replace H0 := H0.next hb2
  clear hb2
  have HK := Lib.hid (H0.blk 0 rfl)
  have HI := H0
  clear H0
  have H0 := Lib.hid HI
  clear HI
  go_wp2_with (refine wpList_load_row rfl 25 _ rfl w.heap.size rfl 25 (sm18 h0 h1 h2 h3 h4 h5 h6 h7 h8 h9 h10 h11 words far many df mf (.slice A n c)) (0, 0) _ HK.out Try.underlying25 rfl (by kernel_rfl) ?_)
  refine (made5_any h0 h1 h2 h3 h4 h5 h6 h7 h8 h9 h10 h11 words far many df mf A n c zs _ hb hw hf hm (h.rd.later H0.out.bel) h.bd h.le h.cap).mono ?_
  rintro e w3 ⟨H, Ao, on, oc, opts, Ad, dn, dc, data, rfl, hwf, hr, ownO, bo, ownD, bd, hdn, hb3⟩
  have hbw : Below w.heap.size w w3 := H0.out.bel.trans (hb3.mono H0.out.size)
  clear H0 HK hb3 h hb hw hf hm
  have ro := ownO.rd
  have rdd := ownD.rd
  have hoc := ownO.le
  have hdc := ownD.le
  have hon := ownO.len
  have hdl := ownD.len
  have HR := Lib.hid (show Rightly H.off H.mf opts.length data.length by rw [hon, hdl]; exact hr)
  have HON := Lib.hid hon
  have HDL := Lib.hid hdl
  have hon40 : on ≤ 40 := hr.2.2.2.1
  have HRR := Lib.hid hr
  have S := SP.start w3
  clear ownO ownD hon hdl hr
  have hBr := (hB.rd.below hbw).more hbw.size
  have hBl := hB.le
  have hBm := hB.cap
  have hBd := hB.bd
  clear hB
  unfold HD.val HD.cells
  go_wp2_with fail
  replace S := S.alloc 30 (H.cells (.slice Ao on oc))
  rw [show w3.alloc (.cells #[.int .u8 H.tos, .int .u16 H.id, .bool H.df, .bool H.mf, .int .i64 H.off, .int .u8 H.ttl, .int .u8 H.proto, .int .u32 H.src, .int .u32 H.dst, .slice Ao on oc] 30) = w3.alloc (.cells (H.cells (.slice Ao on oc)) 30) from rfl]
  generalize w3.alloc (.cells (H.cells (.slice Ao on oc)) 30) = w4 at S ⊢
  refine (write_yes H Ao on oc opts Ad dn dc data _ hwf ((ro.below S.bel).more S.size) bo ((rdd.below S.bel).more S.size) HRR.out).mono ?_
  rintro e w5 ⟨A5, n5, c5, rfl, own5, hb5⟩
  have hn5 := own5.len
  rw [pkt_len, HON.out, HDL.out] at hn5
  have HN5 := Lib.hid hn5
  have hn5a : 20 ≤ n5 := by omega
  have hn5b : n5 ≤ 140 := by omega
  have hle5 := own5.le
  have hpb : BD 255 (pktB H opts data) := pkt_bd hwf bo (by rw [HON.out]; exact hon40) bd
  replace S := S.pushOwn hb5 own5
  clear hb5 own5 hn5
  have f0 : w5.cell? ⟨w3.heap.size, 0, none⟩ = some (.int .u8 H.tos) := S.cell 0 rfl 0 rfl
  have f1 : w5.cell? ⟨w3.heap.size, 1, none⟩ = some (.int .u16 H.id) := S.cell 0 rfl 1 rfl
  have f2 : w5.cell? ⟨w3.heap.size, 2, none⟩ = some (.bool H.df) := S.cell 0 rfl 2 rfl
  have f3 : w5.cell? ⟨w3.heap.size, 3, none⟩ = some (.bool H.mf) := S.cell 0 rfl 3 rfl
  have f4 : w5.cell? ⟨w3.heap.size, 4, none⟩ = some (.int .i64 H.off) := S.cell 0 rfl 4 rfl
  have f5 : w5.cell? ⟨w3.heap.size, 5, none⟩ = some (.int .u8 H.ttl) := S.cell 0 rfl 5 rfl
  have f6 : w5.cell? ⟨w3.heap.size, 6, none⟩ = some (.int .u8 H.proto) := S.cell 0 rfl 6 rfl
  have f7 : w5.cell? ⟨w3.heap.size, 7, none⟩ = some (.int .u32 H.src) := S.cell 0 rfl 7 rfl
  have f8 : w5.cell? ⟨w3.heap.size, 8, none⟩ = some (.int .u32 H.dst) := S.cell 0 rfl 8 rfl
  have f9 : w5.cell? ⟨w3.heap.size, 9, none⟩ = some (.slice Ao on oc) := S.cell 0 rfl 9 rfl
  have RT := Lib.hid (show rightB H.off H.mf on dn = true from rightB_yes HRR.out)
  have hlk := headB_len H opts data.length
  have htk : (pktB H opts data).take (20 + on) = fixOf (headB H opts data.length) 10 := by
    unfold pktB; rw [List.take_left' (by rw [fixOf_len, hlk, HON.out])]
  have hdk : (pktB H opts data).drop (20 + on) = data := by
    unfold pktB; rw [List.drop_left' (by rw [fixOf_len, hlk, HON.out])]
  have hsum : sumOf ((pktB H opts data).take (20 + on)) = 65535 := by
    rw [htk]
    exact fix_right (headB_bd hwf bo (by rw [HON.out]; exact hon40)) (by omega) (by rw [hlk]; omega)
  have HS := Lib.hid hsum
  have HDK := Lib.hid hdk
  have t1 : ((n5 : Int) != 20 + (on : Int) + (dn : Int)) = false := by have := HN5.out; simp; omega
  have t2 : (0 : Int) ≤ 20 + (on : Int) := by omega
  have t3 : 20 + (on : Int) ≤ (c5 : Int) := by have := HN5.out; omega
  have hon5 : 20 + on ≤ n5 := by have := HN5.out; omega
  have s1 := fun W => run_slice_lo (P := Try.prog) W Try.underlying23 hi hz1 A5 n5 c5 (20 + (on : Int)) (20 + on) (by omega) hon5
  clear hsum hdk htk hlk
  go_wp2_with fail
  refine (ipRight_any H Ao on oc dn _ hwf.off (by omega) (by omega)).mono ?_
  rintro e w6 ⟨rfl, hb7⟩
  rw [RT.out]
  replace S := S.next hb7
  clear hb7 f0 f1 f2 f3 f4 f5 f6 f7 f8 f9
  go_wp2_with fail
  refine (right_any A5 (20 + on) c5 _ _ ((S.rd 1 rfl).take hon5) (hpb.take _) (by omega)).mono ?_
  rintro e w7 ⟨rfl, hb7⟩
  rw [show (sumOf ((pktB H opts data).take (20 + on)) == 65535) = true by rw [HS.out]; rfl]
  replace S := S.next hb7
  clear hb7
  go_wp2_with fail
  refine (same_any _ Ad _ _ dn dc _ data _ ((S.rd 1 rfl).cutA (lo := 20 + on) hon5 hle5.1) ((rdd.below S.bel).more S.size) (by omega) (by omega)).mono ?_
  rintro e w8 ⟨rfl, m8, h8⟩
  rw [show ((pktB H opts data).drop (20 + on) == data) = true by rw [HDK.out]; simp]
  have hb7 : Below w7.heap.size w7 w8 := by rw [h8]; exact below_drewN (Below.refl _ _) m8
  replace S := S.next hb7
  clear hb7 h8 s1 t1 t2 t3 RT HS HDK
  have p1 : (0 : Int) ≤ (n5 : Int) := by omega
  have p2 : (n5 : Int) ≤ (c5 : Int) := by omega
  go_upto_region 8 with fail
  go_cut [10, 11, 12, 13] (fun s10 s11 s12 s13 wx => ∃ N Aa na ca, s10 = .pointer (some ⟨N, 0, none⟩) ∧ s11 = .int .i64 (20 + (on : Int)) ∧ s12 = .int .i64 (n5 : Int) ∧ s13 = .int .i64 0 ∧ SP w3 wx [.blk w3.heap.size 30 (H.cells (.slice Ao on oc)), .own .u8 5 A5 n5 c5 (pktB H opts data), .blk N 30 (H.cells (.slice Aa na ca)), .own .u8 5 Aa na ca opts])
  case first =>
    obtain ⟨mm, hmm, hm2, hm3⟩ : ∃ mm : Nat, (if (50 : Int) < (bn : Int) then (50 : Int) else (bn : Int)) = (mm : Int) ∧ mm ≤ bn ∧ mm ≤ 50 := by
      by_cases h : bn ≤ 50
      · exact ⟨bn, if_neg (by omega), Nat.le_refl _, h⟩
      · exact ⟨50, if_pos (by omega), by omega, Nat.le_refl _⟩
    have p3 : (0 : Int) ≤ (mm : Int) := by omega
    have p4 : (mm : Int) ≤ (bc : Int) := by omega
    obtain ⟨z1, z2, z3, z4, z5⟩ := read_pkt (more := ys.take mm) hwf bo HR.out HON.out HDL.out HN5.out
    have Z := Lib.hid (And.intro z1 (And.intro z2 (And.intro z3 (And.intro z4 z5))))
    have hzb : BD 255 (pktB H opts data ++ ys.take mm) := hpb.append (hBd.take mm)
    clear z1 z2 z3 z4 z5
    have X0 := Lib.hid S.drew
    clear S
    refine wp_region_noPanic ?_
    refine wp_region_held_drew (S := fun _ => True) (by kernel_rfl) (by trivial) (fun hHeld => ?_)
    refine' take_lit (i := 0) (v := _) rfl (by kernel_rfl) (by kernel_rfl) (by kernel_rfl) (fun _ _ _ h => h) (Or.inl ⟨by rfl, ?yy1⟩) (by assumption) ?rr1
    case yy1 => intro w' hSw; (try dsimp only at hSw); go_simp; try (with_reducible rfl)
    (try simp only [Act.put]); (try simp only [List.setIfInBounds_toArray, List.set_cons_zero, List.set_cons_succ])
    refine' take_lit (i := 1) (v := _) rfl (by kernel_rfl) (by kernel_rfl) (by kernel_rfl) (fun _ _ _ h => h) (Or.inl ⟨by rfl, ?yy2⟩) (by assumption) ?rr2
    case yy2 => intro w' hSw; (try dsimp only at hSw); go_simp; try (with_reducible rfl)
    (try simp only [Act.put]); (try simp only [List.setIfInBounds_toArray, List.set_cons_zero, List.set_cons_succ])
    refine' take_lit (i := 2) (v := _) rfl (by kernel_rfl) (by kernel_rfl) (by kernel_rfl) (fun _ _ _ h => h) (Or.inl ⟨by rfl, ?yy3⟩) (by assumption) ?rr3
    case yy3 => intro w' hSw; (try dsimp only at hSw); go_simp; try (with_reducible rfl)
    (try simp only [Act.put]); (try simp only [List.setIfInBounds_toArray, List.set_cons_zero, List.set_cons_succ])
    refine' take_lit (i := 3) (v := _) rfl (by kernel_rfl) (by kernel_rfl) (by kernel_rfl) (fun _ _ _ h => h) (Or.inl ⟨by rfl, ?yy4⟩) (by assumption) ?rr4
    case yy4 => intro w' hSw; (try dsimp only at hSw); go_simp; try (with_reducible rfl)
    (try simp only [Act.put]); (try simp only [List.setIfInBounds_toArray, List.set_cons_zero, List.set_cons_succ])
    refine' take_lit (i := 4) (v := _) rfl (by kernel_rfl) (by kernel_rfl) (by kernel_rfl) (fun _ _ _ h => h) (Or.inl ⟨by rfl, ?yy5⟩) (by assumption) ?rr5
    case yy5 => intro w' hSw; (try dsimp only at hSw); go_simp; try (with_reducible rfl)
    (try simp only [Act.put]); (try simp only [List.setIfInBounds_toArray, List.set_cons_zero, List.set_cons_succ])
    refine' take_lit (i := 5) (v := _) rfl (by kernel_rfl) (by kernel_rfl) (by kernel_rfl) (fun _ _ _ h => h) (Or.inl ⟨by rfl, ?yy6⟩) (by assumption) ?rr6
    case yy6 => intro w' hSw; (try dsimp only at hSw); go_simp; try (with_reducible rfl)
    (try simp only [Act.put]); (try simp only [List.setIfInBounds_toArray, List.set_cons_zero, List.set_cons_succ])
    refine' take_lit (i := 6) (v := _) rfl (by kernel_rfl) (by kernel_rfl) (by kernel_rfl) (fun _ _ _ h => h) (Or.inl ⟨by rfl, ?yy7⟩) (by assumption) ?rr7
    case yy7 => intro w' hSw; (try dsimp only at hSw); go_simp; try (with_reducible rfl)
    (try simp only [Act.put]); (try simp only [List.setIfInBounds_toArray, List.set_cons_zero, List.set_cons_succ])
    refine' take_lit (i := 7) (v := _) rfl (by kernel_rfl) (by kernel_rfl) (by kernel_rfl) (fun _ _ _ h => h) (Or.inl ⟨by rfl, ?yy8⟩) (by assumption) ?rr8
    case yy8 => intro w' hSw; (try dsimp only at hSw); go_simp; try (with_reducible rfl)
    (try simp only [Act.put]); (try simp only [List.setIfInBounds_toArray, List.set_cons_zero, List.set_cons_succ])
    refine' take_lit (i := 8) (v := _) rfl (by kernel_rfl) (by kernel_rfl) (by kernel_rfl) (fun _ _ _ h => h) (Or.inl ⟨by rfl, ?yy9⟩) (by assumption) ?rr9
    case yy9 => intro w' hSw; (try dsimp only at hSw); go_simp; try (with_reducible rfl)
    (try simp only [Act.put]); (try simp only [List.setIfInBounds_toArray, List.set_cons_zero, List.set_cons_succ])
    refine' take_lit (i := 9) (v := _) rfl (by kernel_rfl) (by kernel_rfl) (by kernel_rfl) (fun _ _ _ h => h) (Or.inl ⟨by rfl, ?yy10⟩) (by assumption) ?rr10
    case yy10 => intro w' hSw; (try dsimp only at hSw); go_simp; try (with_reducible rfl)
    (try simp only [Act.put]); (try simp only [List.setIfInBounds_toArray, List.set_cons_zero, List.set_cons_succ])
    refine' take_lit (i := 10) (v := _) rfl (by kernel_rfl) (by kernel_rfl) (by kernel_rfl) (fun _ _ _ h => h) (Or.inl ⟨by rfl, ?yy11⟩) (by assumption) ?rr11
    case yy11 => intro w' hSw; (try dsimp only at hSw); go_simp; try (with_reducible rfl)
    (try simp only [Act.put]); (try simp only [List.setIfInBounds_toArray, List.set_cons_zero, List.set_cons_succ])
    refine wpAnyH_ready (rs := [11, 18]) (by kernel_rfl) (by simp) ?_
    refine cons_lit rfl (fun K hK => ?ss11x12) (cons_lit rfl (fun K hK => ?ss18x12) AllReadyH.nil)
    case ss11x12 =>
      refine step_append_full _ (by rfl) _ _ 23 (by rfl) .u8 5 i0 1 Try.underlying23 hi hz0 hz1 hz2 A5 n5 (pktB H opts data) (by rfl) _ (X0.out.rd 1 rfl) _ Bh mm bc (ys.take mm) (by rfl) (((hBr.below X0.out.bel).more X0.out.size).take (m := mm) hm2) (by simp only [maxLen]; omega) (by omega) (Nat.le_refl _) ?_
      intro A9 c9 w9 rd9 hc9 hc9' hb9
      have U := Lib.hid (X0.out.next hb9)
      clear hb9
      refine hK.out _ _ (by trivial) (fun hHeld => ?_)
      clear hK K
      (try simp only [Act.put]); (try simp only [List.setIfInBounds_toArray, List.set_cons_zero, List.set_cons_succ])
      refine wpAnyH_ready (rs := [12, 18]) (by kernel_rfl) (by simp) ?_
      refine cons_lit rfl (fun K hK => ?ss12x13) (cons_lit rfl (fun K hK => ?ss18x13) AllReadyH.nil)
      case ss12x13 =>
        go_simp
        refine (read_any A9 (n5 + mm) c9 ((pktB H opts data) ++ ys.take mm) _ rd9 hzb hc9 (by omega)).mono ?_
        rintro e wa ⟨Aa, na, ca, rfl, owna, hba⟩
        rw [Z.out.1, Z.out.2.1, Z.out.2.2.1, Z.out.2.2.2.1]
        rw [Z.out.2.2.2.2] at owna
        have V := Lib.hid (U.out.pushOwn hba owna)
        clear hba owna
        refine hK.out _ _ (by trivial) (fun hHeld => ?_)
        clear hK K
        (try simp only [Act.put]); (try simp only [List.setIfInBounds_toArray, List.set_cons_zero, List.set_cons_succ])
        refine' take_lit (i := 13) (v := _) rfl (by kernel_rfl) (by kernel_rfl) (by kernel_rfl) (fun _ _ _ h => h) (Or.inl ⟨by rfl, ?yy14⟩) (by assumption) ?rr14
        case yy14 => intro w' hSw; (try dsimp only at hSw); go_simp; try (with_reducible rfl)
        (try simp only [Act.put]); (try simp only [List.setIfInBounds_toArray, List.set_cons_zero, List.set_cons_succ])
        refine' take_lit (i := 14) (v := _) rfl (by kernel_rfl) (by kernel_rfl) (by kernel_rfl) (fun _ _ _ h => h) (Or.inl ⟨by rfl, ?yy15⟩) (by assumption) ?rr15
        case yy15 => intro w' hSw; (try dsimp only at hSw); go_simp; try (with_reducible rfl)
        (try simp only [Act.put]); (try simp only [List.setIfInBounds_toArray, List.set_cons_zero, List.set_cons_succ])
        refine' take_lit (i := 15) (v := _) rfl (by kernel_rfl) (by kernel_rfl) (by kernel_rfl) (fun _ _ _ h => h) (Or.inl ⟨by rfl, ?yy16⟩) (by assumption) ?rr16
        case yy16 => intro w' hSw; (try dsimp only at hSw); go_simp; try (with_reducible rfl)
        (try simp only [Act.put]); (try simp only [List.setIfInBounds_toArray, List.set_cons_zero, List.set_cons_succ])
        refine' take_lit (i := 16) (v := _) rfl (by kernel_rfl) (by kernel_rfl) (by kernel_rfl) (fun _ _ _ h => h) (Or.inl ⟨by rfl, ?yy17⟩) (by assumption) ?rr17
        case yy17 => intro w' hSw; (try dsimp only at hSw); go_simp; try (with_reducible rfl)
        (try simp only [Act.put]); (try simp only [List.setIfInBounds_toArray, List.set_cons_zero, List.set_cons_succ])
        refine' take_lit (i := 17) (v := _) rfl (by kernel_rfl) (by kernel_rfl) (by kernel_rfl) (fun _ _ _ h => h) (Or.inl ⟨by rfl, ?yy18⟩) (by assumption) ?rr18
        case yy18 => intro w' hSw; (try dsimp only at hSw); go_simp; try (with_reducible rfl)
        (try simp only [Act.put]); (try simp only [List.setIfInBounds_toArray, List.set_cons_zero, List.set_cons_succ])
        refine wpAnyH_ready (rs := [18]) (by kernel_rfl) (by simp) ?_
        refine cons_lit rfl (fun K hK => ?ss18x19) AllReadyH.nil
        case ss18x19 =>
          go_simp
          have Y := Lib.hid (V.out.alloc' 30 #[.int .u8 0, .int .u16 0, .bool false, .bool false, .int .i64 0, .int .u8 0, .int .u8 0, .int .u32 0, .int .u32 0, .slice none 0 0] (N := wa.heap.size) rfl)
          refine hK.out _ _ (by trivial) (fun hHeld => ?_)
          clear hK K
          (try simp only [Act.put]); (try simp only [List.setIfInBounds_toArray, List.set_cons_zero, List.set_cons_succ])
          refine wpAnyH_ready (rs := [19]) (by kernel_rfl) (by simp) ?_
          refine cons_lit rfl (fun K hK => ?ss19x20) AllReadyH.nil
          case ss19x20 =>
            refine step_store_row (by rfl) 30 _ _ (by rfl) wa.heap.size (H.cells (.slice Aa na ca)) (by rfl) (by rfl) 30 #[.int .u8 0, .int .u16 0, .bool false, .bool false, .int .i64 0, .int .u8 0, .int .u8 0, .int .u32 0, .int .u32 0, .slice none 0 0] (Y.out.blk 3 rfl) (by kernel_rfl) rfl (hcells_one H _ _ _) ?_
            have W := Lib.hid (Y.out.setR 3 rfl (H.cells (.slice Aa na ca)))
            refine hK.out _ _ (by trivial) (fun hHeld => ?_)
            clear hK K
            (try simp only [Act.put]); (try simp only [List.setIfInBounds_toArray, List.set_cons_zero, List.set_cons_succ])
            refine' take_lit (i := 20) (v := _) rfl (by kernel_rfl) (by kernel_rfl) (by kernel_rfl) (fun _ _ _ h => h) (Or.inl ⟨by rfl, ?yy21⟩) (by assumption) ?rr21
            case yy21 => intro w' hSw; (try dsimp only at hSw); go_simp; try (with_reducible rfl)
            (try simp only [Act.put]); (try simp only [List.setIfInBounds_toArray, List.set_cons_zero, List.set_cons_succ])
            refine' take_lit (i := 21) (v := _) rfl (by kernel_rfl) (by kernel_rfl) (by kernel_rfl) (fun _ _ _ h => h) (Or.inl ⟨by rfl, ?yy22⟩) (by assumption) ?rr22
            case yy22 => intro w' hSw; (try dsimp only at hSw); go_simp; try (with_reducible rfl)
            (try simp only [Act.put]); (try simp only [List.setIfInBounds_toArray, List.set_cons_zero, List.set_cons_succ])
            refine' take_lit (i := 22) (v := _) rfl (by kernel_rfl) (by kernel_rfl) (by kernel_rfl) (fun _ _ _ h => h) (Or.inl ⟨by rfl, ?yy23⟩) (by assumption) ?rr23
            case yy23 => intro w' hSw; (try dsimp only at hSw); go_simp; try (with_reducible rfl)
            (try simp only [Act.put]); (try simp only [List.setIfInBounds_toArray, List.set_cons_zero, List.set_cons_succ])
            refine wpAnyH_done (by kernel_rfl) ?_ _
            refine NoPanic.normal ?_
            go_wp2_with fail
            go_meet
            exact ⟨wa.heap.size, Aa, na, ca, rfl, rfl, rfl, rfl, W.out.pick [0, 1, 3, 2] (by decide) rfl⟩
      case ss18x13 =>
        go_simp
        have Y := Lib.hid (U.out.alloc' 30 #[.int .u8 0, .int .u16 0, .bool false, .bool false, .int .i64 0, .int .u8 0, .int .u8 0, .int .u32 0, .int .u32 0, .slice none 0 0] (N := w9.heap.size) rfl)
        refine hK.out _ _ (by trivial) (fun hHeld => ?_)
        clear hK K
        (try simp only [Act.put]); (try simp only [List.setIfInBounds_toArray, List.set_cons_zero, List.set_cons_succ])
        refine wpAnyH_ready (rs := [12]) (by kernel_rfl) (by simp) ?_
        refine cons_lit rfl (fun K hK => ?ss12x24) AllReadyH.nil
        case ss12x24 =>
          go_simp
          refine (read_any A9 (n5 + mm) c9 ((pktB H opts data) ++ ys.take mm) _ (rd9.later ((Below.refl _ _).alloc (Nat.le_refl _) _)) hzb hc9 (by omega)).mono ?_
          rintro e wa ⟨Aa, na, ca, rfl, owna, hba⟩
          rw [Z.out.1, Z.out.2.1, Z.out.2.2.1, Z.out.2.2.2.1]
          rw [Z.out.2.2.2.2] at owna
          have V := Lib.hid (Y.out.pushOwn hba owna)
          clear hba owna
          refine hK.out _ _ (by trivial) (fun hHeld => ?_)
          clear hK K
          (try simp only [Act.put]); (try simp only [List.setIfInBounds_toArray, List.set_cons_zero, List.set_cons_succ])
          refine' take_lit (i := 13) (v := _) rfl (by kernel_rfl) (by kernel_rfl) (by kernel_rfl) (fun _ _ _ h => h) (Or.inl ⟨by rfl, ?yy25⟩) (by assumption) ?rr25
          case yy25 => intro w' hSw; (try dsimp only at hSw); go_simp; try (with_reducible rfl)
          (try simp only [Act.put]); (try simp only [List.setIfInBounds_toArray, List.set_cons_zero, List.set_cons_succ])
          refine' take_lit (i := 14) (v := _) rfl (by kernel_rfl) (by kernel_rfl) (by kernel_rfl) (fun _ _ _ h => h) (Or.inl ⟨by rfl, ?yy26⟩) (by assumption) ?rr26
          case yy26 => intro w' hSw; (try dsimp only at hSw); go_simp; try (with_reducible rfl)
          (try simp only [Act.put]); (try simp only [List.setIfInBounds_toArray, List.set_cons_zero, List.set_cons_succ])
          refine' take_lit (i := 15) (v := _) rfl (by kernel_rfl) (by kernel_rfl) (by kernel_rfl) (fun _ _ _ h => h) (Or.inl ⟨by rfl, ?yy27⟩) (by assumption) ?rr27
          case yy27 => intro w' hSw; (try dsimp only at hSw); go_simp; try (with_reducible rfl)
          (try simp only [Act.put]); (try simp only [List.setIfInBounds_toArray, List.set_cons_zero, List.set_cons_succ])
          refine' take_lit (i := 16) (v := _) rfl (by kernel_rfl) (by kernel_rfl) (by kernel_rfl) (fun _ _ _ h => h) (Or.inl ⟨by rfl, ?yy28⟩) (by assumption) ?rr28
          case yy28 => intro w' hSw; (try dsimp only at hSw); go_simp; try (with_reducible rfl)
          (try simp only [Act.put]); (try simp only [List.setIfInBounds_toArray, List.set_cons_zero, List.set_cons_succ])
          refine' take_lit (i := 17) (v := _) rfl (by kernel_rfl) (by kernel_rfl) (by kernel_rfl) (fun _ _ _ h => h) (Or.inl ⟨by rfl, ?yy29⟩) (by assumption) ?rr29
          case yy29 => intro w' hSw; (try dsimp only at hSw); go_simp; try (with_reducible rfl)
          (try simp only [Act.put]); (try simp only [List.setIfInBounds_toArray, List.set_cons_zero, List.set_cons_succ])
          refine wpAnyH_ready (rs := [19]) (by kernel_rfl) (by simp) ?_
          refine cons_lit rfl (fun K hK => ?ss19x30) AllReadyH.nil
          case ss19x30 =>
            refine step_store_row (by rfl) 30 _ _ (by rfl) w9.heap.size (H.cells (.slice Aa na ca)) (by rfl) (by rfl) 30 #[.int .u8 0, .int .u16 0, .bool false, .bool false, .int .i64 0, .int .u8 0, .int .u8 0, .int .u32 0, .int .u32 0, .slice none 0 0] (V.out.blk 2 rfl) (by kernel_rfl) rfl (hcells_one H _ _ _) ?_
            have W := Lib.hid (V.out.setR 2 rfl (H.cells (.slice Aa na ca)))
            refine hK.out _ _ (by trivial) (fun hHeld => ?_)
            clear hK K
            (try simp only [Act.put]); (try simp only [List.setIfInBounds_toArray, List.set_cons_zero, List.set_cons_succ])
            refine' take_lit (i := 20) (v := _) rfl (by kernel_rfl) (by kernel_rfl) (by kernel_rfl) (fun _ _ _ h => h) (Or.inl ⟨by rfl, ?yy31⟩) (by assumption) ?rr31
            case yy31 => intro w' hSw; (try dsimp only at hSw); go_simp; try (with_reducible rfl)
            (try simp only [Act.put]); (try simp only [List.setIfInBounds_toArray, List.set_cons_zero, List.set_cons_succ])
            refine' take_lit (i := 21) (v := _) rfl (by kernel_rfl) (by kernel_rfl) (by kernel_rfl) (fun _ _ _ h => h) (Or.inl ⟨by rfl, ?yy32⟩) (by assumption) ?rr32
            case yy32 => intro w' hSw; (try dsimp only at hSw); go_simp; try (with_reducible rfl)
            (try simp only [Act.put]); (try simp only [List.setIfInBounds_toArray, List.set_cons_zero, List.set_cons_succ])
            refine' take_lit (i := 22) (v := _) rfl (by kernel_rfl) (by kernel_rfl) (by kernel_rfl) (fun _ _ _ h => h) (Or.inl ⟨by rfl, ?yy33⟩) (by assumption) ?rr33
            case yy33 => intro w' hSw; (try dsimp only at hSw); go_simp; try (with_reducible rfl)
            (try simp only [Act.put]); (try simp only [List.setIfInBounds_toArray, List.set_cons_zero, List.set_cons_succ])
            refine wpAnyH_done (by kernel_rfl) ?_ _
            refine NoPanic.normal ?_
            go_wp2_with fail
            go_meet
            exact ⟨w9.heap.size, Aa, na, ca, rfl, rfl, rfl, rfl, W.out.pick [0, 1, 2, 3] (by decide) rfl⟩
    case ss18x12 =>
      go_simp
      have Y := Lib.hid (X0.out.alloc' 30 #[.int .u8 0, .int .u16 0, .bool false, .bool false, .int .i64 0, .int .u8 0, .int .u8 0, .int .u32 0, .int .u32 0, .slice none 0 0] (N := w8.heap.size) rfl)
      refine hK.out _ _ (by trivial) (fun hHeld => ?_)
      clear hK K
      (try simp only [Act.put]); (try simp only [List.setIfInBounds_toArray, List.set_cons_zero, List.set_cons_succ])
      refine wpAnyH_ready (rs := [11]) (by kernel_rfl) (by simp) ?_
      refine cons_lit rfl (fun K hK => ?ss11x34) AllReadyH.nil
      case ss11x34 =>
        refine step_append_full _ (by rfl) _ _ 23 (by rfl) .u8 5 i0 1 Try.underlying23 hi hz0 hz1 hz2 A5 n5 (pktB H opts data) (by rfl) _ (Y.out.rd 1 rfl) _ Bh mm bc (ys.take mm) (by rfl) (((hBr.below Y.out.bel).more Y.out.size).take (m := mm) hm2) (by simp only [maxLen]; omega) (by omega) (Nat.le_refl _) ?_
        intro A9 c9 w9 rd9 hc9 hc9' hb9
        have U := Lib.hid (Y.out.next hb9)
        clear hb9
        refine hK.out _ _ (by trivial) (fun hHeld => ?_)
        clear hK K
        (try simp only [Act.put]); (try simp only [List.setIfInBounds_toArray, List.set_cons_zero, List.set_cons_succ])
        refine wpAnyH_ready (rs := [12]) (by kernel_rfl) (by simp) ?_
        refine cons_lit rfl (fun K hK => ?ss12x35) AllReadyH.nil
        case ss12x35 =>
          go_simp
          refine (read_any A9 (n5 + mm) c9 ((pktB H opts data) ++ ys.take mm) _ rd9 hzb hc9 (by omega)).mono ?_
          rintro e wa ⟨Aa, na, ca, rfl, owna, hba⟩
          rw [Z.out.1, Z.out.2.1, Z.out.2.2.1, Z.out.2.2.2.1]
          rw [Z.out.2.2.2.2] at owna
          have V := Lib.hid (U.out.pushOwn hba owna)
          clear hba owna
          refine hK.out _ _ (by trivial) (fun hHeld => ?_)
          clear hK K
          (try simp only [Act.put]); (try simp only [List.setIfInBounds_toArray, List.set_cons_zero, List.set_cons_succ])
          refine' take_lit (i := 13) (v := _) rfl (by kernel_rfl) (by kernel_rfl) (by kernel_rfl) (fun _ _ _ h => h) (Or.inl ⟨by rfl, ?yy36⟩) (by assumption) ?rr36
          case yy36 => intro w' hSw; (try dsimp only at hSw); go_simp; try (with_reducible rfl)
          (try simp only [Act.put]); (try simp only [List.setIfInBounds_toArray, List.set_cons_zero, List.set_cons_succ])
          refine' take_lit (i := 14) (v := _) rfl (by kernel_rfl) (by kernel_rfl) (by kernel_rfl) (fun _ _ _ h => h) (Or.inl ⟨by rfl, ?yy37⟩) (by assumption) ?rr37
          case yy37 => intro w' hSw; (try dsimp only at hSw); go_simp; try (with_reducible rfl)
          (try simp only [Act.put]); (try simp only [List.setIfInBounds_toArray, List.set_cons_zero, List.set_cons_succ])
          refine' take_lit (i := 15) (v := _) rfl (by kernel_rfl) (by kernel_rfl) (by kernel_rfl) (fun _ _ _ h => h) (Or.inl ⟨by rfl, ?yy38⟩) (by assumption) ?rr38
          case yy38 => intro w' hSw; (try dsimp only at hSw); go_simp; try (with_reducible rfl)
          (try simp only [Act.put]); (try simp only [List.setIfInBounds_toArray, List.set_cons_zero, List.set_cons_succ])
          refine' take_lit (i := 16) (v := _) rfl (by kernel_rfl) (by kernel_rfl) (by kernel_rfl) (fun _ _ _ h => h) (Or.inl ⟨by rfl, ?yy39⟩) (by assumption) ?rr39
          case yy39 => intro w' hSw; (try dsimp only at hSw); go_simp; try (with_reducible rfl)
          (try simp only [Act.put]); (try simp only [List.setIfInBounds_toArray, List.set_cons_zero, List.set_cons_succ])
          refine' take_lit (i := 17) (v := _) rfl (by kernel_rfl) (by kernel_rfl) (by kernel_rfl) (fun _ _ _ h => h) (Or.inl ⟨by rfl, ?yy40⟩) (by assumption) ?rr40
          case yy40 => intro w' hSw; (try dsimp only at hSw); go_simp; try (with_reducible rfl)
          (try simp only [Act.put]); (try simp only [List.setIfInBounds_toArray, List.set_cons_zero, List.set_cons_succ])
          refine wpAnyH_ready (rs := [19]) (by kernel_rfl) (by simp) ?_
          refine cons_lit rfl (fun K hK => ?ss19x41) AllReadyH.nil
          case ss19x41 =>
            refine step_store_row (by rfl) 30 _ _ (by rfl) w8.heap.size (H.cells (.slice Aa na ca)) (by rfl) (by rfl) 30 #[.int .u8 0, .int .u16 0, .bool false, .bool false, .int .i64 0, .int .u8 0, .int .u8 0, .int .u32 0, .int .u32 0, .slice none 0 0] (V.out.blk 2 rfl) (by kernel_rfl) rfl (hcells_one H _ _ _) ?_
            have W := Lib.hid (V.out.setR 2 rfl (H.cells (.slice Aa na ca)))
            refine hK.out _ _ (by trivial) (fun hHeld => ?_)
            clear hK K
            (try simp only [Act.put]); (try simp only [List.setIfInBounds_toArray, List.set_cons_zero, List.set_cons_succ])
            refine' take_lit (i := 20) (v := _) rfl (by kernel_rfl) (by kernel_rfl) (by kernel_rfl) (fun _ _ _ h => h) (Or.inl ⟨by rfl, ?yy42⟩) (by assumption) ?rr42
            case yy42 => intro w' hSw; (try dsimp only at hSw); go_simp; try (with_reducible rfl)
            (try simp only [Act.put]); (try simp only [List.setIfInBounds_toArray, List.set_cons_zero, List.set_cons_succ])
            refine' take_lit (i := 21) (v := _) rfl (by kernel_rfl) (by kernel_rfl) (by kernel_rfl) (fun _ _ _ h => h) (Or.inl ⟨by rfl, ?yy43⟩) (by assumption) ?rr43
            case yy43 => intro w' hSw; (try dsimp only at hSw); go_simp; try (with_reducible rfl)
            (try simp only [Act.put]); (try simp only [List.setIfInBounds_toArray, List.set_cons_zero, List.set_cons_succ])
            refine' take_lit (i := 22) (v := _) rfl (by kernel_rfl) (by kernel_rfl) (by kernel_rfl) (fun _ _ _ h => h) (Or.inl ⟨by rfl, ?yy44⟩) (by assumption) ?rr44
            case yy44 => intro w' hSw; (try dsimp only at hSw); go_simp; try (with_reducible rfl)
            (try simp only [Act.put]); (try simp only [List.setIfInBounds_toArray, List.set_cons_zero, List.set_cons_succ])
            refine wpAnyH_done (by kernel_rfl) ?_ _
            refine NoPanic.normal ?_
            go_wp2_with fail
            go_meet
            exact ⟨w8.heap.size, Aa, na, ca, rfl, rfl, rfl, rfl, W.out.pick [0, 1, 2, 3] (by decide) rfl⟩
  case rest =>
    obtain ⟨N, Aa, na, ca, rfl, rfl, rfl, rfl, SS⟩ := hcut
    have hna := (SS.own 3 rfl).len
    rw [HON.out] at hna
    have hna' : na ≤ 140737488355328 := by omega
    clear S p1 p2
    have f0 : wc.cell? ⟨w3.heap.size, 0, none⟩ = some (.int .u8 H.tos) := SS.cell 0 rfl 0 rfl
    have f1 : wc.cell? ⟨w3.heap.size, 1, none⟩ = some (.int .u16 H.id) := SS.cell 0 rfl 1 rfl
    have f2 : wc.cell? ⟨w3.heap.size, 2, none⟩ = some (.bool H.df) := SS.cell 0 rfl 2 rfl
    have f3 : wc.cell? ⟨w3.heap.size, 3, none⟩ = some (.bool H.mf) := SS.cell 0 rfl 3 rfl
    have f4 : wc.cell? ⟨w3.heap.size, 4, none⟩ = some (.int .i64 H.off) := SS.cell 0 rfl 4 rfl
    have f5 : wc.cell? ⟨w3.heap.size, 5, none⟩ = some (.int .u8 H.ttl) := SS.cell 0 rfl 5 rfl
    have f6 : wc.cell? ⟨w3.heap.size, 6, none⟩ = some (.int .u8 H.proto) := SS.cell 0 rfl 6 rfl
    have f7 : wc.cell? ⟨w3.heap.size, 7, none⟩ = some (.int .u32 H.src) := SS.cell 0 rfl 7 rfl
    have f8 : wc.cell? ⟨w3.heap.size, 8, none⟩ = some (.int .u32 H.dst) := SS.cell 0 rfl 8 rfl
    have f9 : wc.cell? ⟨w3.heap.size, 9, none⟩ = some (.slice Ao on oc) := SS.cell 0 rfl 9 rfl
    have g0 : wc.cell? ⟨N, 0, none⟩ = some (.int .u8 H.tos) := SS.cell 2 rfl 0 rfl
    have g1 : wc.cell? ⟨N, 1, none⟩ = some (.int .u16 H.id) := SS.cell 2 rfl 1 rfl
    have g2 : wc.cell? ⟨N, 2, none⟩ = some (.bool H.df) := SS.cell 2 rfl 2 rfl
    have g3 : wc.cell? ⟨N, 3, none⟩ = some (.bool H.mf) := SS.cell 2 rfl 3 rfl
    have g4 : wc.cell? ⟨N, 4, none⟩ = some (.int .i64 H.off) := SS.cell 2 rfl 4 rfl
    have g5 : wc.cell? ⟨N, 5, none⟩ = some (.int .u8 H.ttl) := SS.cell 2 rfl 5 rfl
    have g6 : wc.cell? ⟨N, 6, none⟩ = some (.int .u8 H.proto) := SS.cell 2 rfl 6 rfl
    have g7 : wc.cell? ⟨N, 7, none⟩ = some (.int .u32 H.src) := SS.cell 2 rfl 7 rfl
    have g8 : wc.cell? ⟨N, 8, none⟩ = some (.int .u32 H.dst) := SS.cell 2 rfl 8 rfl
    have g9 : wc.cell? ⟨N, 9, none⟩ = some (.slice Aa na ca) := SS.cell 2 rfl 9 rfl
    have hN : N < wc.heap.size := (SS.blk 2 rfl).lt
    have hN3 : w3.heap.size < wc.heap.size := (SS.blk 0 rfl).lt
    clear hna
    go_wp2_with fail
    refine (same5_yes H Aa Ao na ca on oc opts _ (SS.rd 3 rfl) ((ro.below SS.bel).more SS.size) hna' (by omega)).mono ?_
    rintro e w9 ⟨rfl, hb9⟩
    go_wp2_with fail
    go_ret
    exact ⟨rfl, hbw.trans ((SS.next hb9).bel.mono hbw.size)⟩
end Go.Proofs.Ytpfmecdldoehoaa
