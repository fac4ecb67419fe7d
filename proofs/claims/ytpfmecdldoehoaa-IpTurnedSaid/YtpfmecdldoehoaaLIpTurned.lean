/- The walk of IpTurned. (Printed by gen_ipturned.py.) -/
import Derived.Test.YtpfmecdldoehoaaSep
import Derived.Test.YtpfmecdldoehoaaLIpTn
import Derived.Test.YtpfmecdldoehoaaWMade5
import Derived.Test.YtpfmecdldoehoaaWAwake5
import Derived.Test.YtpfmecdldoehoaaWZeros
import Derived.Test.YtpfmecdldoehoaaRow
import Derived.Test.YtpfmecdldoehoaaReg
namespace Go.Proofs.Ytpfmecdldoehoaa
open Go.RowKit
set_option linter.unusedVariables false

theorem read_parsed {H : HD} {opts data zs : List Int} {on n5 dn : Nat} (hP : PARSED H opts data zs) (h1 : opts.length = on) (h2 : data.length = dn) (h3 : 20 + on + dn = n5) :
    ipE zs = 0 ∧ hdR zs = H ∧ fromR zs = 20 + on ∧ toR zs = n5 ∧ optsR zs = opts := by
  refine ⟨ipE_eq hP.fault, ?_, ?_, ?_, ?_⟩
  · unfold hdR; rw [if_pos hP.fault]; exact hP.hdE
  · unfold fromR; rw [if_pos hP.fault, hP.size, h1]
  · unfold toR; rw [if_pos hP.fault, hP.total, h1, h2]; exact h3
  · unfold optsR; rw [if_pos hP.fault]; exact hP.opE

set_option maxHeartbeats 8000000 in
set_option maxRecDepth 100000 in
theorem ipTurned_walk (h0 h1 h2 h3 h4 h5 h6 h7 h8 h9 h10 h11 words far many : Int) (df mf : Bool) (A : Option Addr) (n c : Nat) (zs : List Int) (bh : Int) (w : World) (hb : BD 255 [h0, h1, h2, h3, h4, h5, h6, h7, h8, h9, h10, h11]) (hw : 0 ≤ words ∧ words ≤ 255) (hf : 0 ≤ far ∧ far ≤ 255) (hm : 0 ≤ many ∧ many ≤ 255) (h : ROW .u8 255 w A n c zs) (hbh : 0 ≤ bh ∧ bh ≤ 255) :
    Calls Try.prog 9 #[.agg (sm18 h0 h1 h2 h3 h4 h5 h6 h7 h8 h9 h10 h11 words far many df mf (.slice A n c)), .int .u8 bh] w fun e w' => e = .returned (.bool true) ∧ Below w.heap.size w w' := by
  obtain ⟨i0, hi, hz0, hz1, hz2⟩ := info_parts infoU8
  have H0 := (SP.start w).alloc 25 (sm18 h0 h1 h2 h3 h4 h5 h6 h7 h8 h9 h10 h11 words far many df mf (.slice A n c))
  unfold sm18
  go_enter Try.func9, Try.ntmps9
  go_wp2_with fail
  rw [show w.alloc (.cells #[.int .u8 h0, .int .u8 h1, .int .u8 h2, .int .u8 h3, .int .u8 h4, .int .u8 h5, .int .u8 h6, .int .u8 h7, .int .u8 h8, .int .u8 h9, .int .u8 h10, .int .u8 h11, .int .u8 words, .int .u8 far, .int .u8 many, .bool df, .bool mf, .slice A n c] 25) = w.alloc (.cells (sm18 h0 h1 h2 h3 h4 h5 h6 h7 h8 h9 h10 h11 words far many df mf (.slice A n c)) 25) from rfl]
  generalize w.alloc (.cells (sm18 h0 h1 h2 h3 h4 h5 h6 h7 h8 h9 h10 h11 words far many df mf (.slice A n c)) 25) = w1 at H0 ⊢
  refine (awake5_any _).mono ?_
  rintro e w2 ⟨rfl, hb2⟩
  replace H0 := H0.next hb2
  clear hb2
  have HK := Lib.hid (H0.blk 0 rfl)
  have HI := H0
  clear H0
  have H0 := Lib.hid HI
  clear HI
  go_wp2_with (refine wpList_load_row rfl 25 _ rfl w.heap.size rfl 25 (sm18 h0 h1 h2 h3 h4 h5 h6 h7 h8 h9 h10 h11 words far many df mf (.slice A n c)) (0, 0) _ HK.out Try.underlying25 rfl (by kernel_rfl) ?_)
  refine (made5_any h0 h1 h2 h3 h4 h5 h6 h7 h8 h9 h10 h11 words far many df mf A n c zs _ hb hw hf hm (h.rd.later H0.out.bel) h.bd h.le h.cap).mono ?_
  rintro e w3 ⟨H, Ao, on, oc, opts, Ad, dn, dc, data, rfl, hwf, hr, ownO, bo, ownD, bd, hdn, hb3⟩
  have hbw : Below w.heap.size w w3 := H0.out.bel.trans (hb3.mono H0.out.size)
  clear H0 HK hb3 h hb hw hf hm
  have ro := ownO.rd
  have rdd := ownD.rd
  have hoc := ownO.le
  have hdc := ownD.le
  have hon := ownO.len
  have hdl := ownD.len
  have HR := Lib.hid (show Rightly H.off H.mf opts.length data.length by rw [hon, hdl]; exact hr)
  have HON := Lib.hid hon
  have HDL := Lib.hid hdl
  have hon40 : on ≤ 40 := hr.2.2.2.1
  have HRR := Lib.hid hr
  have S := SP.start w3
  clear ownO ownD hon hdl hr
  unfold HD.val HD.cells
  go_wp2_with fail
  replace S := S.alloc 30 (H.cells (.slice Ao on oc))
  rw [show w3.alloc (.cells #[.int .u8 H.tos, .int .u16 H.id, .bool H.df, .bool H.mf, .int .i64 H.off, .int .u8 H.ttl, .int .u8 H.proto, .int .u32 H.src, .int .u32 H.dst, .slice Ao on oc] 30) = w3.alloc (.cells (H.cells (.slice Ao on oc)) 30) from rfl]
  generalize w3.alloc (.cells (H.cells (.slice Ao on oc)) 30) = w4 at S ⊢
  refine (write_yes H Ao on oc opts Ad dn dc data _ hwf ((ro.below S.bel).more S.size) bo ((rdd.below S.bel).more S.size) HRR.out).mono ?_
  rintro e w5 ⟨A5, n5, c5, rfl, own5, hb5⟩
  have hn5 := own5.len
  rw [pkt_len, HON.out, HDL.out] at hn5
  have HN5 := Lib.hid hn5
  have hn5a : 20 ≤ n5 := by omega
  have hn5b : n5 ≤ 140 := by omega
  have hle5 := own5.le
  have hpb : BD 255 (pktB H opts data) := pkt_bd hwf bo (by rw [HON.out]; exact hon40) bd
  replace S := S.pushOwn hb5 own5
  clear hb5 own5 hn5
  obtain ⟨g5, rfl, hg5, _⟩ := (S.own 1 rfl).form (by omega)
  obtain ⟨m, hm⟩ : ∃ m : Nat, bh % 9 = (m : Int) := ⟨(bh % 9).toNat, by omega⟩
  have hm9 : m ≤ 8 := by omega
  obtain ⟨hb0, hb1⟩ := hbh
  obtain ⟨T, hT1, hT2, hT3, hT4, hT5, hT6, hT7, hT8⟩ := turn_pkt hwf bo bd HR.out
  obtain ⟨z1, z2, z3, z4, z5⟩ := read_parsed (by have := hT2 []; rwa [List.append_nil] at this) HON.out HDL.out HN5.out
  have Z := Lib.hid (And.intro z1 (And.intro z2 (And.intro z3 (And.intro z4 z5))))
  have hpE : ipE (pktB H opts data ++ List.replicate m 0) = 0 := ipE_eq (parse_pkt hwf bo HR.out).fault
  have HT := Lib.hid (And.intro (hT1 (List.replicate m 0)) (And.intro hpE (And.intro hT3 (And.intro (show T.length = n5 from hT4.trans (by rw [pkt_len, HON.out, HDL.out]; exact HN5.out)) (And.intro hT5 hT6)))))
  have HD8 := Lib.hid (show (T.drop (20 + on)).take (n5 - (20 + on)) = data by
    have e := hT8
    rw [HON.out] at e
    rw [e]
    exact List.take_of_length_le (by rw [HDL.out]; have := HN5.out; omega))
  have hbd6 : BD 255 (pktB H opts data ++ List.replicate m 0) := hpb.append (fun x hx => by have := List.eq_of_mem_replicate hx; omega)
  have HTB := Lib.hid hT7
  clear hT1 hT2 hT3 hT4 hT5 hT6 hT7 hT8 z1 z2 z3 z4 z5 hpE
  have p1 : (0 : Int) ≤ (n5 : Int) := by omega
  have p2 : (n5 : Int) ≤ (c5 : Int) := by omega
  have H5 := Lib.hid S
  have r5 := S.rd 1 rfl
  clear S
  go_wp2_with (at_builtin; refine wpList_append_zeros_any _ rfl _ _ _ _ rfl 5 i0 .u8 Try.underlying23 Try.underlying5 hi hz0 hz1 hz2 ⟨g5, 0, none⟩ n5 m _ hm _ rfl rfl r5 (by omega) ?_; intro A6 c6 w6 rd6 hc6 hc6' hb6; have H6 := Lib.hid (H5.out.next hb6); clear r5 H5 hb6)
  refine (turn_any A6 _ c6 _ _ rd6 hbd6 hc6 (by omega)).mono ?_
  rintro e w7 ⟨A7, n7, c7, rfl, own7, hb7⟩
  rw [HT.out.2.1]
  rw [HT.out.1] at own7
  have hn7 := own7.len
  rw [HT.out.2.2.2.1] at hn7
  subst hn7
  obtain ⟨g7, rfl, hg7, _⟩ := own7.form (by omega)
  have hle7 := own7.le
  have H7 := Lib.hid (H6.out.pushOwn hb7 own7)
  clear own7 hb7 rd6 H6 hbd6 hm
  go_wp2_with fail
  refine (read_any _ _ c7 T _ (H7.out.rd 2 rfl) HTB.out hle7.1 (by omega)).mono ?_
  rintro e w8 ⟨A8, n8, c8, rfl, own8, hb8⟩
  rw [Z.out.1, Z.out.2.1, Z.out.2.2.1, Z.out.2.2.2.1]
  rw [Z.out.2.2.2.2] at own8
  have hn8 := own8.len
  rw [HON.out] at hn8
  subst hn8
  have H8 := Lib.hid ((H7.out.pushOwn hb8 own8).alloc 30 (H.turn.cells (.slice A8 on c8)))
  clear own8 hb8 H7
  unfold HD.val HD.cells
  go_upto_region 7 with fail
  rw [show w8.alloc (.cells #[.int .u8 H.turn.tos, .int .u16 H.turn.id, .bool H.turn.df, .bool H.turn.mf, .int .i64 H.turn.off, .int .u8 H.turn.ttl, .int .u8 H.turn.proto, .int .u32 H.turn.src, .int .u32 H.turn.dst, .slice A8 on c8] 30) = w8.alloc (.cells (H.turn.cells (.slice A8 on c8)) 30) from rfl]
  generalize hw9 : w8.alloc (.cells (H.turn.cells (.slice A8 on c8)) 30) = w9 at H8 ⊢
  clear hw9
  go_wp2_with fail
  refine (turn_any _ _ c7 T _ (H8.out.rd 2 rfl) HTB.out hle7.1 (by omega)).mono ?_
  rintro e wa ⟨Aa, na, ca, rfl, owna, hba⟩
  rw [Z.out.1]
  rw [HT.out.2.2.1] at owna
  have hna := owna.len
  rw [pkt_len, HON.out, HDL.out, HN5.out] at hna
  subst hna
  have hlea := owna.le
  have HA := Lib.hid (H8.out.pushOwn hba owna)
  clear owna hba H8
  obtain ⟨v10, hv10⟩ : ∃ x, x = (pktB H opts data)[10]?.getD 0 := ⟨_, rfl⟩
  obtain ⟨v11, hv11⟩ : ∃ x, x = (pktB H opts data)[11]?.getD 0 := ⟨_, rfl⟩
  have KS := Lib.hid (fun (W : World) (hb : Below wa.heap.size wa W) => (show W.cell? ⟨g7, 10, none⟩ = some (.int .u8 v10) ∧ W.cell? ⟨g5, 10, none⟩ = some (.int .u8 v10) ∧ W.cell? ⟨g7, 11, none⟩ = some (.int .u8 v11) ∧ W.cell? ⟨g5, 11, none⟩ = some (.int .u8 v11) from by
    have HW := HA.out.next hb
    refine ⟨?_, ?_, ?_, ?_⟩
    · rw [hv10, ← HT.out.2.2.2.2.1]; exact (HW.own 2 rfl).cell (by omega)
    · rw [hv10]; exact (HW.own 1 rfl).cell (by omega)
    · rw [hv11, ← HT.out.2.2.2.2.2]; exact (HW.own 2 rfl).cell (by omega)
    · rw [hv11]; exact (HW.own 1 rfl).cell (by omega)))
  clear hv10 hv11
  have i1 : (10 : Int) < (n5 : Int) := by omega
  have i2 : (11 : Int) < (n5 : Int) := by omega
  go_wp2_with fail
  refine wp_region_noPanic ?_
  refine wp_region_held_drew (S := fun W => W.cell? ⟨g7, 10, none⟩ = some (.int .u8 v10) ∧ W.cell? ⟨g5, 10, none⟩ = some (.int .u8 v10) ∧ W.cell? ⟨g7, 11, none⟩ = some (.int .u8 v11) ∧ W.cell? ⟨g5, 11, none⟩ = some (.int .u8 v11)) (by kernel_rfl) (by exact KS.out _ (Below.refl _ _).drew) (fun hHeld => ?_)
  refine' take_lit (i := 0) (v := _) rfl (by kernel_rfl) (by kernel_rfl) (by kernel_rfl) (fun _ _ _ h => h) (Or.inl ⟨by rfl, ?yy1⟩) (by assumption) ?rr1
  case yy1 => intro w' hSw; (try dsimp only at hSw); go_simp; try (with_reducible rfl)
  try simp only [Act.put, List.setIfInBounds_toArray, List.set_cons_zero, List.set_cons_succ]
  refine' take_lit (i := 1) (v := _) rfl (by kernel_rfl) (by kernel_rfl) (by kernel_rfl) (fun _ _ _ h => h) (Or.inl ⟨by rfl, ?yy2⟩) (by assumption) ?rr2
  case yy2 => intro w' hSw; (try dsimp only at hSw); go_simp; try (with_reducible rfl)
  try simp only [Act.put, List.setIfInBounds_toArray, List.set_cons_zero, List.set_cons_succ]
  refine' take_lit (i := 2) (v := _) rfl (by kernel_rfl) (by kernel_rfl) (by kernel_rfl) (fun _ _ _ h => h) (Or.inl ⟨by rfl, ?yy3⟩) (by assumption) ?rr3
  case yy3 => intro w' hSw; (try dsimp only at hSw); go_simp; try (with_reducible rfl)
  try simp only [Act.put, List.setIfInBounds_toArray, List.set_cons_zero, List.set_cons_succ]
  refine' take_lit (i := 3) (v := _) rfl (by kernel_rfl) (by kernel_rfl) (by kernel_rfl) (fun _ _ _ h => h) (Or.inl ⟨by rfl, ?yy4⟩) (by assumption) ?rr4
  case yy4 => intro w' hSw; (try dsimp only at hSw); go_simp; try (with_reducible rfl)
  try simp only [Act.put, List.setIfInBounds_toArray, List.set_cons_zero, List.set_cons_succ]
  refine' take_lit (i := 4) (v := _) rfl (by kernel_rfl) (by kernel_rfl) (by kernel_rfl) (fun _ _ _ h => h) (Or.inl ⟨by rfl, ?yy5⟩) (by assumption) ?rr5
  case yy5 => intro w' hSw; (try dsimp only at hSw); go_simp; try (with_reducible rfl)
  try simp only [Act.put, List.setIfInBounds_toArray, List.set_cons_zero, List.set_cons_succ]
  refine' take_lit (i := 5) (v := _) rfl (by kernel_rfl) (by kernel_rfl) (by kernel_rfl) (fun _ _ _ h => h) (Or.inl ⟨by rfl, ?yy6⟩) (by assumption) ?rr6
  case yy6 => intro w' hSw; (try dsimp only at hSw); go_simp; try (with_reducible rfl)
  try simp only [Act.put, List.setIfInBounds_toArray, List.set_cons_zero, List.set_cons_succ]
  refine' take_lit (i := 6) (v := _) rfl (by kernel_rfl) (by kernel_rfl) (by kernel_rfl) (fun _ _ _ h => h) (Or.inl ⟨by rfl, ?yy7⟩) (by assumption) ?rr7
  case yy7 => intro w' hSw; (try dsimp only at hSw); go_simp; try (with_reducible rfl)
  try simp only [Act.put, List.setIfInBounds_toArray, List.set_cons_zero, List.set_cons_succ]
  refine' take_lit (i := 7) (v := _) rfl (by kernel_rfl) (by kernel_rfl) (by kernel_rfl) (fun _ _ _ h => h) (Or.inl ⟨by rfl, ?yy8⟩) (by assumption) ?rr8
  case yy8 => intro w' hSw; (try dsimp only at hSw); go_simp; try (with_reducible rfl)
  try simp only [Act.put, List.setIfInBounds_toArray, List.set_cons_zero, List.set_cons_succ]
  refine' take_lit (i := 8) (v := _) rfl (by kernel_rfl) (by kernel_rfl) (by kernel_rfl) (fun _ _ _ h => h) (Or.inl ⟨by rfl, ?yy9⟩) (by assumption) ?rr9
  case yy9 => intro w' hSw; (try dsimp only at hSw); go_simp; try (with_reducible rfl)
  try simp only [Act.put, List.setIfInBounds_toArray, List.set_cons_zero, List.set_cons_succ]
  refine' take_lit (i := 9) (v := _) rfl (by kernel_rfl) (by kernel_rfl) (by kernel_rfl) (fun _ _ _ h => h) (Or.inl ⟨by rfl, ?yy10⟩) (by assumption) ?rr10
  case yy10 => intro w' hSw; (try dsimp only at hSw); go_simp; try (with_reducible rfl)
  try simp only [Act.put, List.setIfInBounds_toArray, List.set_cons_zero, List.set_cons_succ]
  refine' take_lit (i := 10) (v := _) rfl (by kernel_rfl) (by kernel_rfl) (by kernel_rfl) (fun _ _ _ h => h) (Or.inl ⟨by rfl, ?yy11⟩) (by assumption) ?rr11
  case yy11 => intro w' hSw; (try dsimp only at hSw); go_simp; try (with_reducible rfl)
  try simp only [Act.put, List.setIfInBounds_toArray, List.set_cons_zero, List.set_cons_succ]
  refine wpAnyH_ready (rs := [11]) (by kernel_rfl) (by simp) ?_
  refine cons_lit rfl (fun K hK => ?ss11x12) AllReadyH.nil
  case ss11x12 =>
    go_simp
    refine (same_any Aa (some ⟨g5, 0, none⟩) _ ca _ c5 _ _ _ (HA.out.drew.rd 5 rfl) (HA.out.drew.rd 1 rfl) (by omega) (by omega)).mono ?_
    rintro e wb ⟨rfl, mb, hb⟩
    rw [show (pktB H opts data == pktB H opts data) = true by simp]
    have hbb : Below wa.heap.size wa wb := by rw [hb]; exact below_drewN (Below.refl _ _).drew mb
    have HB := Lib.hid (hb ▸ HA.out.drew.drewN mb)
    clear hb
    refine hK.out _ _ (by exact KS.out _ hbb) (fun hHeld => ?_)
    clear hK K
    try simp only [Act.put, List.setIfInBounds_toArray, List.set_cons_zero, List.set_cons_succ]
    refine' take_lit (i := 12) (v := _) rfl (by kernel_rfl) (by kernel_rfl) (by kernel_rfl) (fun _ _ _ h => h) (Or.inl ⟨by rfl, ?yy13⟩) (by assumption) ?rr13
    case yy13 => intro w' hSw; (try dsimp only at hSw); go_simp; try (with_reducible rfl)
    try simp only [Act.put, List.setIfInBounds_toArray, List.set_cons_zero, List.set_cons_succ]
    refine' take_lit (i := 13) (v := _) rfl (by kernel_rfl) (by kernel_rfl) (by kernel_rfl) (fun _ _ _ h => h) (Or.inl ⟨by rfl, ?yy14⟩) (by assumption) ?rr14
    case yy14 => intro w' hSw; (try dsimp only at hSw); go_simp; try (with_reducible rfl)
    try simp only [Act.put, List.setIfInBounds_toArray, List.set_cons_zero, List.set_cons_succ]
    refine' take_lit (i := 14) (v := _) rfl (by kernel_rfl) (by kernel_rfl) (by kernel_rfl) (fun _ _ _ h => h) (Or.inl ⟨by rfl, ?yy15⟩) (by assumption) ?rr15
    case yy15 => intro w' hSw; (try dsimp only at hSw); go_simp; try (with_reducible rfl)
    try simp only [Act.put, List.setIfInBounds_toArray, List.set_cons_zero, List.set_cons_succ]
    refine' take_lit (i := 15) (v := _) rfl (by kernel_rfl) (by kernel_rfl) (by kernel_rfl) (fun _ _ _ h => h) (Or.inl ⟨by rfl, ?yy16⟩) (by assumption) ?rr16
    case yy16 => intro w' hSw; (try dsimp only at hSw); go_simp; try (with_reducible rfl)
    try simp only [Act.put, List.setIfInBounds_toArray, List.set_cons_zero, List.set_cons_succ]
    refine' take_lit (i := 16) (v := _) rfl (by kernel_rfl) (by kernel_rfl) (by kernel_rfl) (fun _ _ _ h => h) (Or.inl ⟨by rfl, ?yy17⟩) (by assumption) ?rr17
    case yy17 => intro w' hSw; (try dsimp only at hSw); go_simp; try (with_reducible rfl)
    try simp only [Act.put, List.setIfInBounds_toArray, List.set_cons_zero, List.set_cons_succ]
    refine' take_lit (i := 17) (v := _) rfl (by kernel_rfl) (by kernel_rfl) (by kernel_rfl) (fun _ _ _ h => h) (Or.inl ⟨by rfl, ?yy18⟩) (by assumption) ?rr18
    case yy18 => intro w' hSw; (try dsimp only at hSw); go_simp; try (with_reducible rfl)
    try simp only [Act.put, List.setIfInBounds_toArray, List.set_cons_zero, List.set_cons_succ]
    refine' take_lit (i := 18) (v := _) rfl (by kernel_rfl) (by kernel_rfl) (by kernel_rfl) (fun _ _ _ h => h) (Or.inl ⟨by rfl, ?yy19⟩) (by assumption) ?rr19
    case yy19 => intro w' hSw; (try dsimp only at hSw); go_simp; try (with_reducible rfl)
    try simp only [Act.put, List.setIfInBounds_toArray, List.set_cons_zero, List.set_cons_succ]
    refine' take_lit (i := 19) (v := _) rfl (by kernel_rfl) (by kernel_rfl) (by kernel_rfl) (fun _ _ _ h => h) (Or.inl ⟨by rfl, ?yy20⟩) (by assumption) ?rr20
    case yy20 => intro w' hSw; (try dsimp only at hSw); go_simp; try (with_reducible rfl)
    try simp only [Act.put, List.setIfInBounds_toArray, List.set_cons_zero, List.set_cons_succ]
    refine' take_lit (i := 20) (v := _) rfl (by kernel_rfl) (by kernel_rfl) (by kernel_rfl) (fun _ _ _ h => h) (Or.inl ⟨by rfl, ?yy21⟩) (by assumption) ?rr21
    case yy21 => intro w' hSw; (try dsimp only at hSw); go_simp; try (with_reducible rfl)
    try simp only [Act.put, List.setIfInBounds_toArray, List.set_cons_zero, List.set_cons_succ]
    refine' take_lit (i := 21) (v := _) rfl (by kernel_rfl) (by kernel_rfl) (by kernel_rfl) (fun _ _ _ h => h) (Or.inl ⟨by rfl, ?yy22⟩) (by assumption) ?rr22
    case yy22 => intro w' hSw; (try dsimp only at hSw); go_simp; try (with_reducible rfl)
    try simp only [Act.put, List.setIfInBounds_toArray, List.set_cons_zero, List.set_cons_succ]
    refine' take_lit (i := 22) (v := _) rfl (by kernel_rfl) (by kernel_rfl) (by kernel_rfl) (fun _ _ _ h => h) (Or.inl ⟨by rfl, ?yy23⟩) (by assumption) ?rr23
    case yy23 => intro w' hSw; (try dsimp only at hSw); go_simp; try (with_reducible rfl)
    try simp only [Act.put, List.setIfInBounds_toArray, List.set_cons_zero, List.set_cons_succ]
    refine' take_lit (i := 23) (v := _) rfl (by kernel_rfl) (by kernel_rfl) (by kernel_rfl) (fun _ _ _ h => h) (Or.inl ⟨by rfl, ?yy24⟩) (by assumption) ?rr24
    case yy24 => intro w' hSw; (try dsimp only at hSw); go_simp; try (with_reducible rfl)
    try simp only [Act.put, List.setIfInBounds_toArray, List.set_cons_zero, List.set_cons_succ]
    refine' take_lit (i := 24) (v := _) rfl (by kernel_rfl) (by kernel_rfl) (by kernel_rfl) (fun _ _ _ h => h) (Or.inl ⟨by rfl, ?yy25⟩) (by assumption) ?rr25
    case yy25 => intro w' hSw; (try dsimp only at hSw); go_simp; try (with_reducible rfl)
    try simp only [Act.put, List.setIfInBounds_toArray, List.set_cons_zero, List.set_cons_succ]
    refine' take_lit (i := 25) (v := _) rfl (by kernel_rfl) (by kernel_rfl) (by kernel_rfl) (fun _ _ _ h => h) (Or.inl ⟨by rfl, ?yy26⟩) (by assumption) ?rr26
    case yy26 => intro w' hSw; (try dsimp only at hSw); go_simp; try (with_reducible rfl)
    try simp only [Act.put, List.setIfInBounds_toArray, List.set_cons_zero, List.set_cons_succ]
    refine' take_lit (i := 26) (v := _) rfl (by kernel_rfl) (by kernel_rfl) (by kernel_rfl) (fun _ _ _ h => h) (Or.inl ⟨by rfl, ?yy27⟩) (by assumption) ?rr27
    case yy27 => intro w' hSw; (try dsimp only at hSw); go_simp; try (with_reducible rfl)
    try simp only [Act.put, List.setIfInBounds_toArray, List.set_cons_zero, List.set_cons_succ]
    refine' take_lit (i := 27) (v := _) rfl (by kernel_rfl) (by kernel_rfl) (by kernel_rfl) (fun _ _ _ h => h) (Or.inl ⟨by rfl, ?yy28⟩) (by assumption) ?rr28
    case yy28 => intro w' hSw; (try dsimp only at hSw); go_simp; try (with_reducible rfl)
    try simp only [Act.put, List.setIfInBounds_toArray, List.set_cons_zero, List.set_cons_succ]
    refine' take_lit (i := 28) (v := _) rfl (by kernel_rfl) (by kernel_rfl) (by kernel_rfl) (fun _ _ _ h => h) (Or.inl ⟨by rfl, ?yy29⟩) (by assumption) ?rr29
    case yy29 => intro w' hSw; (try dsimp only at hSw); go_simp; try (with_reducible rfl)
    try simp only [Act.put, List.setIfInBounds_toArray, List.set_cons_zero, List.set_cons_succ]
    refine' take_lit (i := 29) (v := _) rfl (by kernel_rfl) (by kernel_rfl) (by kernel_rfl) (fun _ _ _ h => h) (Or.inl ⟨by rfl, ?yy30⟩) (by assumption) ?rr30
    case yy30 => intro w' hSw; (try dsimp only at hSw); go_simp; try (with_reducible rfl)
    try simp only [Act.put, List.setIfInBounds_toArray, List.set_cons_zero, List.set_cons_succ]
    refine' take_lit (i := 30) (v := _) rfl (by kernel_rfl) (by kernel_rfl) (by kernel_rfl) (fun _ _ _ h => h) (Or.inl ⟨by rfl, ?yy31⟩) (by assumption) ?rr31
    case yy31 => intro w' hSw; (try dsimp only at hSw); go_simp; try (with_reducible rfl)
    try simp only [Act.put, List.setIfInBounds_toArray, List.set_cons_zero, List.set_cons_succ]
    refine' take_lit (i := 31) (v := _) rfl (by kernel_rfl) (by kernel_rfl) (by kernel_rfl) (fun _ _ _ h => h) (Or.inl ⟨by rfl, ?yy32⟩) (by assumption) ?rr32
    case yy32 => intro w' hSw; (try dsimp only at hSw); go_simp; try (with_reducible rfl)
    try simp only [Act.put, List.setIfInBounds_toArray, List.set_cons_zero, List.set_cons_succ]
    refine wpAnyH_done (by kernel_rfl) ?_ _
    refine NoPanic.normal ?_
    clear KS HA i1 i2
    have f0 : wb.cell? ⟨w3.heap.size, 0, none⟩ = some (.int .u8 H.tos) := HB.out.cell 0 rfl 0 rfl
    have f1 : wb.cell? ⟨w3.heap.size, 1, none⟩ = some (.int .u16 H.id) := HB.out.cell 0 rfl 1 rfl
    have f2 : wb.cell? ⟨w3.heap.size, 2, none⟩ = some (.bool H.df) := HB.out.cell 0 rfl 2 rfl
    have f3 : wb.cell? ⟨w3.heap.size, 3, none⟩ = some (.bool H.mf) := HB.out.cell 0 rfl 3 rfl
    have f4 : wb.cell? ⟨w3.heap.size, 4, none⟩ = some (.int .i64 H.off) := HB.out.cell 0 rfl 4 rfl
    have f5 : wb.cell? ⟨w3.heap.size, 5, none⟩ = some (.int .u8 H.ttl) := HB.out.cell 0 rfl 5 rfl
    have f6 : wb.cell? ⟨w3.heap.size, 6, none⟩ = some (.int .u8 H.proto) := HB.out.cell 0 rfl 6 rfl
    have f7 : wb.cell? ⟨w3.heap.size, 7, none⟩ = some (.int .u32 H.src) := HB.out.cell 0 rfl 7 rfl
    have f8 : wb.cell? ⟨w3.heap.size, 8, none⟩ = some (.int .u32 H.dst) := HB.out.cell 0 rfl 8 rfl
    have f9 : wb.cell? ⟨w3.heap.size, 9, none⟩ = some (.slice Ao on oc) := HB.out.cell 0 rfl 9 rfl
    have z7 := HB.out.free 0 rfl 7
    have z8 := HB.out.free 0 rfl 8
    have HC := Lib.hid ((HB.out.setB 0 rfl 7 (.int .u32 H.dst)).setB 0 rfl 8 (.int .u32 H.src))
    go_upto_region 11 with fail
    generalize hwc : (wb.setCell ⟨w3.heap.size, 7, none⟩ (.int .u32 H.dst)).setCell ⟨w3.heap.size, 8, none⟩ (.int .u32 H.src) = wc at HC ⊢
    clear hwc f0 f1 f2 f3 f4 f5 f6 f7 f8 f9 z7 z8 HB
    have f0 : wc.cell? ⟨w3.heap.size, 0, none⟩ = some (.int .u8 H.tos) := HC.out.cell 0 rfl 0 rfl
    have f1 : wc.cell? ⟨w3.heap.size, 1, none⟩ = some (.int .u16 H.id) := HC.out.cell 0 rfl 1 rfl
    have f2 : wc.cell? ⟨w3.heap.size, 2, none⟩ = some (.bool H.df) := HC.out.cell 0 rfl 2 rfl
    have f3 : wc.cell? ⟨w3.heap.size, 3, none⟩ = some (.bool H.mf) := HC.out.cell 0 rfl 3 rfl
    have f4 : wc.cell? ⟨w3.heap.size, 4, none⟩ = some (.int .i64 H.off) := HC.out.cell 0 rfl 4 rfl
    have f5 : wc.cell? ⟨w3.heap.size, 5, none⟩ = some (.int .u8 H.ttl) := HC.out.cell 0 rfl 5 rfl
    have f6 : wc.cell? ⟨w3.heap.size, 6, none⟩ = some (.int .u8 H.proto) := HC.out.cell 0 rfl 6 rfl
    have f7 : wc.cell? ⟨w3.heap.size, 7, none⟩ = some (.int .u32 H.dst) := HC.out.cell 0 rfl 7 rfl
    have f8 : wc.cell? ⟨w3.heap.size, 8, none⟩ = some (.int .u32 H.src) := HC.out.cell 0 rfl 8 rfl
    have f9 : wc.cell? ⟨w3.heap.size, 9, none⟩ = some (.slice Ao on oc) := HC.out.cell 0 rfl 9 rfl
    have k0 : wc.cell? ⟨w8.heap.size, 0, none⟩ = some (.int .u8 H.tos) := HC.out.cell 4 rfl 0 rfl
    have k1 : wc.cell? ⟨w8.heap.size, 1, none⟩ = some (.int .u16 H.id) := HC.out.cell 4 rfl 1 rfl
    have k2 : wc.cell? ⟨w8.heap.size, 2, none⟩ = some (.bool H.df) := HC.out.cell 4 rfl 2 rfl
    have k3 : wc.cell? ⟨w8.heap.size, 3, none⟩ = some (.bool H.mf) := HC.out.cell 4 rfl 3 rfl
    have k4 : wc.cell? ⟨w8.heap.size, 4, none⟩ = some (.int .i64 H.off) := HC.out.cell 4 rfl 4 rfl
    have k5 : wc.cell? ⟨w8.heap.size, 5, none⟩ = some (.int .u8 H.ttl) := HC.out.cell 4 rfl 5 rfl
    have k6 : wc.cell? ⟨w8.heap.size, 6, none⟩ = some (.int .u8 H.proto) := HC.out.cell 4 rfl 6 rfl
    have k7 : wc.cell? ⟨w8.heap.size, 7, none⟩ = some (.int .u32 H.dst) := HC.out.cell 4 rfl 7 rfl
    have k8 : wc.cell? ⟨w8.heap.size, 8, none⟩ = some (.int .u32 H.src) := HC.out.cell 4 rfl 8 rfl
    have k9 : wc.cell? ⟨w8.heap.size, 9, none⟩ = some (.slice A8 on c8) := HC.out.cell 4 rfl 9 rfl
    have hN8 : w8.heap.size < wc.heap.size := (HC.out.blk 4 rfl).lt
    have hN3 : w3.heap.size < wc.heap.size := (HC.out.blk 0 rfl).lt
    go_wp2_with fail
    refine (same5_yes H.turn A8 Ao on c8 on oc opts _ (HC.out.rd 3 rfl) ((ro.below HC.out.bel).more HC.out.size) (by omega) (by omega)).mono ?_
    rintro e wd ⟨rfl, hbd⟩
    have HD := Lib.hid (HC.out.next hbd)
    clear f0 f1 f2 f3 f4 f5 f6 f7 f8 f9 k0 k1 k2 k3 k4 k5 k6 k7 k8 k9 hN8 hN3 hbd HC
    have sl := fun W => run_slice_lohi (P := Try.prog) W Try.underlying23 hi hz1 (some ⟨g7, 0, none⟩) n5 c7 (20 + (on : Int)) (n5 : Int) (20 + on) n5 (by omega) rfl (by have := HN5.out; omega) (by omega)
    have hlo : 20 + on ≤ n5 := by have := HN5.out; omega
    go_wp2_with fail
    refine (same_any _ Ad _ _ dn dc _ data _ ((HD.out.rd 2 rfl).mid (c := c7) (lo := 20 + on) (hi := n5) hlo (Nat.le_refl _) hle7.1) ((rdd.below HD.out.bel).more HD.out.size) (by omega) (by omega)).mono ?_
    rintro e we ⟨rfl, me, he⟩
    rw [HD8.out, show (data == data) = true by simp]
    have HEN := Lib.hid (he ▸ HD.out.drewN me)
    clear he HD sl
    go_wp2_with fail
    go_ret
    exact ⟨rfl, hbw.trans (HEN.out.bel.mono hbw.size)⟩
end Go.Proofs.Ytpfmecdldoehoaa
