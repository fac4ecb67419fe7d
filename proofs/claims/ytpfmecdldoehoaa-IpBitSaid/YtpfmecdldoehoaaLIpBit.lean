/- The walk of IpBit. (Begun by gen_ipbit.py.) -/
import Derived.Test.YtpfmecdldoehoaaLIpBt
import Derived.Test.YtpfmecdldoehoaaWMade5
import Derived.Test.YtpfmecdldoehoaaWAwake5
import Derived.Test.YtpfmecdldoehoaaRow
namespace Go.Proofs.Ytpfmecdldoehoaa
open Go.RowKit
set_option linter.unusedVariables false

set_option maxHeartbeats 8000000 in
set_option maxRecDepth 100000 in
theorem ipBit_walk (h0 h1 h2 h3 h4 h5 h6 h7 h8 h9 h10 h11 words far many : Int) (df mf : Bool) (A : Option Addr) (n c : Nat) (zs : List Int) (q : Int) (w : World) (hb : BD 255 [h0, h1, h2, h3, h4, h5, h6, h7, h8, h9, h10, h11]) (hw : 0 ≤ words ∧ words ≤ 255) (hf : 0 ≤ far ∧ far ≤ 255) (hm : 0 ≤ many ∧ many ≤ 255) (h : ROW .u8 255 w A n c zs) (hq : 0 ≤ q ∧ q ≤ 65535) :
    Calls Try.prog 3 #[.agg (sm18 h0 h1 h2 h3 h4 h5 h6 h7 h8 h9 h10 h11 words far many df mf (.slice A n c)), .int .u16 q] w fun e w' => e = .returned (.bool true) ∧ Below w.heap.size w w' := by
  obtain ⟨i0, hi, hz0, hz1, hz2⟩ := info_parts infoU8
  have hb0 : Below w.heap.size w (w.alloc (.cells (sm18 h0 h1 h2 h3 h4 h5 h6 h7 h8 h9 h10 h11 words far many df mf (.slice A n c)) 25)) := (Below.refl _ _).alloc (Nat.le_refl _) _
  have hX0 := BLOCK.new w 25 (sm18 h0 h1 h2 h3 h4 h5 h6 h7 h8 h9 h10 h11 words far many df mf (.slice A n c))
  unfold sm18
  go_enter Try.func3, Try.ntmps3
  go_wp2_with fail
  rw [show w.alloc (.cells #[.int .u8 h0, .int .u8 h1, .int .u8 h2, .int .u8 h3, .int .u8 h4, .int .u8 h5, .int .u8 h6, .int .u8 h7, .int .u8 h8, .int .u8 h9, .int .u8 h10, .int .u8 h11, .int .u8 words, .int .u8 far, .int .u8 many, .bool df, .bool mf, .slice A n c] 25) = w.alloc (.cells (sm18 h0 h1 h2 h3 h4 h5 h6 h7 h8 h9 h10 h11 words far many df mf (.slice A n c)) 25) from rfl]
  generalize w.alloc (.cells (sm18 h0 h1 h2 h3 h4 h5 h6 h7 h8 h9 h10 h11 words far many df mf (.slice A n c)) 25) = w1 at hb0 hX0 ⊢
  refine (awake5_any _).mono ?_
  rintro e w2 ⟨rfl, hb2⟩
  replace hX0 := hX0.next hb2
  replace hb0 := hb0.trans (hb2.mono hb0.size)
  clear hb2
  have b0 : w2.cell? ⟨w.heap.size, 0, none⟩ = some (.int .u8 h0) := hX0.cell 0
  have b1 : w2.cell? ⟨w.heap.size, 1, none⟩ = some (.int .u8 h1) := hX0.cell 1
  have b2 : w2.cell? ⟨w.heap.size, 2, none⟩ = some (.int .u8 h2) := hX0.cell 2
  have b3 : w2.cell? ⟨w.heap.size, 3, none⟩ = some (.int .u8 h3) := hX0.cell 3
  have b4 : w2.cell? ⟨w.heap.size, 4, none⟩ = some (.int .u8 h4) := hX0.cell 4
  have b5 : w2.cell? ⟨w.heap.size, 5, none⟩ = some (.int .u8 h5) := hX0.cell 5
  have b6 : w2.cell? ⟨w.heap.size, 6, none⟩ = some (.int .u8 h6) := hX0.cell 6
  have b7 : w2.cell? ⟨w.heap.size, 7, none⟩ = some (.int .u8 h7) := hX0.cell 7
  have b8 : w2.cell? ⟨w.heap.size, 8, none⟩ = some (.int .u8 h8) := hX0.cell 8
  have b9 : w2.cell? ⟨w.heap.size, 9, none⟩ = some (.int .u8 h9) := hX0.cell 9
  have b10 : w2.cell? ⟨w.heap.size, 10, none⟩ = some (.int .u8 h10) := hX0.cell 10
  have b11 : w2.cell? ⟨w.heap.size, 11, none⟩ = some (.int .u8 h11) := hX0.cell 11
  have b12 : w2.cell? ⟨w.heap.size, 12, none⟩ = some (.int .u8 words) := hX0.cell 12
  have b13 : w2.cell? ⟨w.heap.size, 13, none⟩ = some (.int .u8 far) := hX0.cell 13
  have b14 : w2.cell? ⟨w.heap.size, 14, none⟩ = some (.int .u8 many) := hX0.cell 14
  have b15 : w2.cell? ⟨w.heap.size, 15, none⟩ = some (.bool df) := hX0.cell 15
  have b16 : w2.cell? ⟨w.heap.size, 16, none⟩ = some (.bool mf) := hX0.cell 16
  have b17 : w2.cell? ⟨w.heap.size, 17, none⟩ = some (.slice A n c) := hX0.cell 17
  go_wp2_with fail
  refine (made5_any h0 h1 h2 h3 h4 h5 h6 h7 h8 h9 h10 h11 words far many df mf A n c zs _ hb hw hf hm (h.rd.later hb0) h.bd h.le h.cap).mono ?_
  rintro e w3 ⟨H, Ao, on, oc, opts, Ad, dn, dc, data, rfl, hwf, hr, ownO, bo, ownD, bd, hdn, hb3⟩
  clear b0 b1 b2 b3 b4 b5 b6 b7 b8 b9 b10 b11 b12 b13 b14 b15 b16 b17 hX0
  replace hb3 : Below w.heap.size w w3 := hb0.trans (hb3.mono hb0.size)
  replace ownO := ownO.mono (base' := w.heap.size) hb0.size
  replace ownD := ownD.mono (base' := w.heap.size) hb0.size
  have hb3s := hb3.size
  unfold HD.val HD.cells
  go_wp2_with fail
  have hX := BLOCK.new w3 30 (H.cells (.slice Ao on oc))
  replace hb3 : Below w.heap.size w (w3.alloc (.cells (H.cells (.slice Ao on oc)) 30)) := hb3.alloc hb3.size _
  replace ownO := ownO.alloc (.cells (H.cells (.slice Ao on oc)) 30)
  replace ownD := ownD.alloc (.cells (H.cells (.slice Ao on oc)) 30)
  rw [show w3.alloc (.cells #[.int .u8 H.tos, .int .u16 H.id, .bool H.df, .bool H.mf, .int .i64 H.off, .int .u8 H.ttl, .int .u8 H.proto, .int .u32 H.src, .int .u32 H.dst, .slice Ao on oc] 30) = w3.alloc (.cells (H.cells (.slice Ao on oc)) 30) from rfl]
  generalize w3.alloc (.cells (H.cells (.slice Ao on oc)) 30) = w4 at hX hb3 ownO ownD ⊢
  have hGlt : w.heap.size ≤ w3.heap.size := hb3s
  generalize w3.heap.size = G at *
  have hon := ownO.len
  have hdl := ownD.len
  have hr' : Rightly H.off H.mf opts.length data.length := by rw [hon, hdl]; exact hr
  have HR := Lib.hid hr'
  have HON := Lib.hid hon
  have HDL := Lib.hid hdl
  have hon40 : on ≤ 40 := hr.2.2.2.1
  refine (write_yes H Ao on oc opts Ad dn dc data _ hwf ownO.rd bo ownD.rd hr).mono ?_
  rintro e w5 ⟨A5, n5, c5, rfl, own5, hb5⟩
  have hn5 := own5.len
  rw [pkt_len, hon, hdl] at hn5
  have HN5 := Lib.hid hn5
  have hn5a : 20 ≤ n5 := by omega
  have hn5b : n5 ≤ 140 := by omega
  have HONE := Lib.hid (show ∀ g, A5 = some ⟨g, 0, none⟩ → Ao ≠ some ⟨g, 0, none⟩ ∧ G < g from fun g hg => ⟨fun hO => by have h1 := (own5.lt g hg).1; have h2 := (ownO.lt g hO).2; omega, by have h1 := (own5.lt g hg).1; have h2 := hX.lt; omega⟩)
  replace own5 := own5.mono (base' := w.heap.size) hb3.size
  replace ownO := ownO.below hb5
  replace ownD := ownD.below hb5
  replace hX := hX.next hb5
  have hb6 : Below w.heap.size w w5 := hb3.trans (hb5.mono hb3.size)
  clear hb5 hb3 hb0 hn5 hon hdl hr hr' h hb
  obtain ⟨q1, q2⟩ := hq
  have f9 : w5.cell? ⟨G, 9, none⟩ = some (.slice Ao on oc) := hX.cell 9
  have hm8 : 0 ≤ q % (8 * (n5 : Int)) ∧ q % (8 * (n5 : Int)) < 8 * (n5 : Int) := ⟨Int.emod_nonneg _ (by omega), Int.emod_lt_of_pos _ (by omega)⟩
  obtain ⟨p, hp⟩ : ∃ p : Nat, q % (8 * (n5 : Int)) = (p : Int) := ⟨(q % (8 * (n5 : Int))).toNat, by omega⟩
  rw [hp] at hm8
  obtain ⟨hm8a, hm8b⟩ := hm8
  by_cases hA : p < 8 ∧ p % 8 < 4
  · obtain ⟨hA1, hA2⟩ := hA
    have c1 : (p : Int) < 8 := by omega
    have c2 : (p : Int) % 8 < 4 := by omega
    go_wp2_with fail
    go_ret
    exact ⟨rfl, hb6⟩
  · obtain ⟨k, hk⟩ : ∃ k, k = p / 8 := ⟨_, rfl⟩
    obtain ⟨j, hj⟩ : ∃ j, j = p % 8 := ⟨_, rfl⟩
    have hk5 : k < n5 := by omega
    have hj8 : j < 8 := by omega
    obtain ⟨g, rfl, hg1, hg2, hnc, hcm⟩ := own5.form (by omega)
    obtain ⟨hOne, hGg⟩ := HONE.out g rfl
    have hPB : BD 255 (pktB H opts data) := pkt_bd hwf bo (by rw [HON.out]; exact hon40) bd
    have x1 := own5.cell (i := k) hk5
    have x2 := own5.frozen k
    obtain ⟨v1, v2⟩ := hPB.get (by omega) k
    obtain ⟨v, hv⟩ : ∃ v, v = (pktB H opts data)[k]?.getD 0 := ⟨_, rfl⟩
    rw [← hv] at x1 v1 v2
    have HV := Lib.hid hv
    have hfb := flipB_bd v1 v2 hj8
    have ZBD : Hid (BD 255 ((pktB H opts data).set k (flipB ((pktB H opts data)[k]?.getD 0) j))) := Lib.hid (fun y hy => by
      rcases List.mem_or_eq_of_mem_set hy with hy | rfl
      · exact hPB y hy
      · rw [← hv]; exact hfb)
    have m1 : (p : Int).tdiv 8 = (k : Int) := by rw [Int.tdiv_eq_ediv_of_nonneg (by omega)]; omega
    have m2 : (p : Int).tmod 8 = (j : Int) := by rw [Int.tmod_eq_emod_of_nonneg (by omega)]; omega
    have m3 : IntKind.i64.wrap (k : Int) = (k : Int) := IntWalk.i64_in _ (by omega)
    have i1 : (0 : Int) ≤ (k : Int) := by omega
    have i2 : (k : Int) < (n5 : Int) := by omega
    have i3 : (0 : Int) ≤ (j : Int) := by omega
    have i4 : (j : Int) ≤ 8 := by omega
    have s1 : IntKind.u8.wrap ((2 : Int) ^ j) = 2 ^ j := by
      have := (flipB_far v hj8).2
      exact u8_in _ (by omega) (by omega)
    have s2 : bits .xor .u8 v (2 ^ j) = flipB v j := u8_xor_bit v v1 v2 j hj8
    have HK := Lib.hid hk
    have HJ := Lib.hid hj
    have hbd := bd
    clear hv hfb hPB hk hj bd ownD
    by_cases hP : p < 8
    · have c1 : (p : Int) < 8 := by omega
      have c2 : ¬ (p : Int) % 8 < 4 := by omega
      have c2' : ¬ (j : Int) < 4 := by have := HJ.out; omega
      have hE : Hid (ipE ((pktB H opts data).set k (flipB ((pktB H opts data)[k]?.getD 0) j)) = 51) := Lib.hid (by
        have hk0 : k = 0 := by have := HK.out; omega
        subst hk0
        have := bit_version hwf bo HR.out (j := j) (by have := HJ.out; omega) hj8
        unfold ipE
        rw [this]
        rfl)
      clear hA
      go_wp2_with fail
      go_region
      have own6 : OWN .u8 5 ((w5.setCell ⟨g, k, none⟩ (.int .u8 (flipB v j))).drew) w.heap.size (some ⟨g, 0, none⟩) n5 c5 ((pktB H opts data).set k (flipB v j)) := (own5.stored k (flipB v j)).drewN 1
      have hb7 : Below w.heap.size w ((w5.setCell ⟨g, k, none⟩ (.int .u8 (flipB v j))).drew) := (hb6.setCell (p := ⟨g, k, none⟩) hg1 _).drew
      have ownO6 : OWN .u8 5 ((w5.setCell ⟨g, k, none⟩ (.int .u8 (flipB v j))).drew) w.heap.size Ao on oc opts := (ownO.setCell (p := ⟨g, k, none⟩) (fun g' hg' e => hOne (by rw [hg', show g' = g from e])) (.int .u8 (flipB v j))).drewN 1
      have hX6 : BLOCK ((w5.setCell ⟨g, k, none⟩ (.int .u8 (flipB v j))).drew) G 30 (H.cells (.slice Ao on oc)) := (hX.other (p := ⟨g, k, none⟩) (by simp; omega) (.int .u8 (flipB v j))).drew
      clear own5 ownO hX x1 x2 m1 m2 m3 s1 s2
      go_wp2_with fail
      generalize (w5.setCell ⟨g, k, none⟩ (.int .u8 (flipB v j))).drew = w6 at own6 hb7 ownO6 hX6 ⊢
      rw [HV.out] at own6
      refine (read_any (some ⟨g, 0, none⟩) n5 c5 _ _ own6.rd (ZBD.out) hnc (by omega)).mono ?_
      rintro e w7 ⟨A7, n7, c7, rfl, own7, hb8⟩
      replace hX6 := hX6.next hb8
      replace ownO6 := ownO6.below hb8
      replace hb7 := hb7.trans (hb8.mono hb7.size)
      clear own6 hb8
      rw [hE.out]
      unfold HD.val HD.cells
      go_wp2_with fail
      go_ret
      exact ⟨rfl, hb7.alloc hb7.size _⟩
    · have c1 : ¬ (p : Int) < 8 := by omega
      clear hA
      go_wp2_with fail
      go_region
      have own6 : OWN .u8 5 ((w5.setCell ⟨g, k, none⟩ (.int .u8 (flipB v j))).drew) w.heap.size (some ⟨g, 0, none⟩) n5 c5 ((pktB H opts data).set k (flipB v j)) := (own5.stored k (flipB v j)).drewN 1
      have hb7 : Below w.heap.size w ((w5.setCell ⟨g, k, none⟩ (.int .u8 (flipB v j))).drew) := (hb6.setCell (p := ⟨g, k, none⟩) hg1 _).drew
      have ownO6 : OWN .u8 5 ((w5.setCell ⟨g, k, none⟩ (.int .u8 (flipB v j))).drew) w.heap.size Ao on oc opts := (ownO.setCell (p := ⟨g, k, none⟩) (fun g' hg' e => hOne (by rw [hg', show g' = g from e])) (.int .u8 (flipB v j))).drewN 1
      have hX6 : BLOCK ((w5.setCell ⟨g, k, none⟩ (.int .u8 (flipB v j))).drew) G 30 (H.cells (.slice Ao on oc)) := (hX.other (p := ⟨g, k, none⟩) (by simp; omega) (.int .u8 (flipB v j))).drew
      clear own5 ownO hX x1 x2 m1 m2 m3 s1 s2
      go_wp2_with fail
      generalize (w5.setCell ⟨g, k, none⟩ (.int .u8 (flipB v j))).drew = w6 at own6 hb7 ownO6 hX6 ⊢
      rw [HV.out] at own6
      refine (read_any (some ⟨g, 0, none⟩) n5 c5 _ _ own6.rd (ZBD.out) hnc (by omega)).mono ?_
      rintro e w7 ⟨A7, n7, c7, rfl, own7, hb8⟩
      replace hX6 := hX6.next hb8
      replace ownO6 := ownO6.below hb8
      replace hb7 := hb7.trans (hb8.mono hb7.size)
      clear own6 hb8
      by_cases hS : k < 20 + on
      · have c3 : (p : Int) < 8 * (20 + (on : Int)) := by have := HK.out; omega
        have hh := bit_head hwf bo HR.out (k := k) (j := j) (by have := HK.out; omega) (by rw [HON.out]; exact hS) hj8
        rcases hh with hh | ⟨hk2, hk4, hh⟩
        · have hE : Hid (ipE ((pktB H opts data).set k (flipB ((pktB H opts data)[k]?.getD 0) j)) = 54) := Lib.hid (by unfold ipE; rw [hh]; rfl)
          clear hh
          rw [hE.out]
          unfold HD.val HD.cells
          go_wp2_with fail
          go_ret
          exact ⟨rfl, hb7.alloc hb7.size _⟩
        · have hE : Hid (ipE ((pktB H opts data).set k (flipB ((pktB H opts data)[k]?.getD 0) j)) = 53) := Lib.hid (by unfold ipE; rw [hh]; rfl)
          have c4 : ¬ (p : Int) / 8 < 2 := by have := HK.out; omega
          have c5 : (p : Int) / 8 < 4 := by have := HK.out; omega
          clear hh hk2 hk4
          rw [hE.out]
          unfold HD.val HD.cells
          go_wp2_with fail
          go_ret
          exact ⟨rfl, hb7.alloc hb7.size _⟩
      · have c3 : ¬ (p : Int) < 8 * (20 + (on : Int)) := by have := HK.out; omega
        have hP := bit_data hwf bo HR.out (k := k) (flipB ((pktB H opts data)[k]?.getD 0) j) (by rw [HON.out]; omega)
        have z1 : ipE ((pktB H opts data).set k (flipB ((pktB H opts data)[k]?.getD 0) j)) = 0 := ipE_eq hP.fault
        have z2 : hdR ((pktB H opts data).set k (flipB ((pktB H opts data)[k]?.getD 0) j)) = H := by unfold hdR; rw [if_pos hP.fault]; exact hP.hdE
        have z3 : fromR ((pktB H opts data).set k (flipB ((pktB H opts data)[k]?.getD 0) j)) = 20 + on := by unfold fromR; rw [if_pos hP.fault, hP.size, HON.out]
        have z4 : toR ((pktB H opts data).set k (flipB ((pktB H opts data)[k]?.getD 0) j)) = n5 := by unfold toR; rw [if_pos hP.fault, hP.total, List.length_set, HON.out, HDL.out]; exact HN5.out
        have z5 : optsR ((pktB H opts data).set k (flipB ((pktB H opts data)[k]?.getD 0) j)) = opts := by unfold optsR; rw [if_pos hP.fault]; exact hP.opE
        rw [z1, z2, z3, z4]
        rw [z5] at own7
        have hn7 := own7.len
        rw [HON.out] at hn7
        have HN7 := Lib.hid hn7
        clear z1 z2 z3 z4 z5 hP hn7
        have e0 : (((20 + on : Nat) : Int) == 20 + (on : Int)) = true := by simp
        have f0 : w7.cell? ⟨G, 0, none⟩ = some (.int .u8 H.tos) := hX6.cell 0
        have f1' : w7.cell? ⟨G, 1, none⟩ = some (.int .u16 H.id) := hX6.cell 1
        have f2 : w7.cell? ⟨G, 2, none⟩ = some (.bool H.df) := hX6.cell 2
        have f3 : w7.cell? ⟨G, 3, none⟩ = some (.bool H.mf) := hX6.cell 3
        have f4 : w7.cell? ⟨G, 4, none⟩ = some (.int .i64 H.off) := hX6.cell 4
        have f5 : w7.cell? ⟨G, 5, none⟩ = some (.int .u8 H.ttl) := hX6.cell 5
        have f6 : w7.cell? ⟨G, 6, none⟩ = some (.int .u8 H.proto) := hX6.cell 6
        have f7 : w7.cell? ⟨G, 7, none⟩ = some (.int .u32 H.src) := hX6.cell 7
        have f8 : w7.cell? ⟨G, 8, none⟩ = some (.int .u32 H.dst) := hX6.cell 8
        have f9' : w7.cell? ⟨G, 9, none⟩ = some (.slice Ao on oc) := hX6.cell 9
        have hGl : G < w7.heap.size := hX6.lt
        unfold HD.val HD.cells
        go_wp2_with fail
        refine (same5_yes H A7 Ao n7 c7 on oc opts _ (by exact (own7.alloc _).rd) (by exact (ownO6.alloc _).rd) (by have := HN7.out; omega) (by omega)).mono ?_
        rintro e w8 ⟨rfl, hb9⟩
        go_wp2_with fail
        go_ret
        exact ⟨rfl, (hb7.alloc hb7.size _).trans (hb9.mono (by have := hb7.size; simp; omega))⟩
end Go.Proofs.Ytpfmecdldoehoaa
