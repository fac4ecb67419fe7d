/- The walk of IpAgain. -/
import Derived.Test.YtpfmecdldoehoaaLIp5
import Derived.Test.YtpfmecdldoehoaaWAwake5
import Derived.Test.YtpfmecdldoehoaaRow
namespace Go.Proofs.Ytpfmecdldoehoaa
open Go.RowKit
set_option linter.unusedVariables false

theorem hdR_no {zs : List Int} (h : faultR zs ≠ 7) : hdR zs = HD.zero := by unfold hdR; rw [if_neg h]

set_option maxHeartbeats 4000000 in
set_option maxRecDepth 100000 in
theorem ipAgain_walk (A : Option Addr) (n c : Nat) (zs : List Int) (w : World) (h : ROW .u8 255 w A n c zs) :
    Calls Try.prog 6 #[.slice A n c] w fun e w' => e = .returned (.bool true) ∧ Below w.heap.size w w' := by
  obtain ⟨i0, hi, hz0, hz1, hz2⟩ := info_parts infoU8
  have hle := h.le
  have hcap := h.cap
  have hrd := h.rd
  have hz := h.bd
  clear h
  by_cases hn : n ≤ 400
  · have hn' : ¬ (400 : Int) < (n : Int) := by omega
    go_enter Try.func6, Try.ntmps6
    go_wp2_with fail
    refine (awake5_any _).mono ?_
    rintro e w1 ⟨rfl, hb1⟩
    go_wp2_with fail
    have rd1 := hrd.later hb1
    refine (read_any A n c zs _ rd1 hz hle (by omega)).mono ?_
    rintro e w2 ⟨A2, n2, c2, rfl, own2, hb2⟩
    replace hb2 : Below w.heap.size w w2 := hb1.trans (hb2.mono hb1.size)
    replace own2 := own2.mono (base' := w.heap.size) hb1.size
    have rd2 := (hrd.below hb2).more hb2.size
    clear hb1 rd1
    have hblk := BLOCK.new w2 30 ((hdR zs).cells (.slice A2 n2 c2))
    have hb3 : Below w.heap.size w (w2.alloc (.cells ((hdR zs).cells (.slice A2 n2 c2)) 30)) := hb2.alloc hb2.size _
    have own3 := own2.alloc (.cells ((hdR zs).cells (.slice A2 n2 c2)) 30)
    have hs3 : (w2.alloc (.cells ((hdR zs).cells (.slice A2 n2 c2)) 30)).heap.size = w2.heap.size + 1 := by simp
    by_cases hf : faultR zs = 7
    · obtain ⟨k1, k2, k3, k4, k5, k6, k7, k8⟩ := ok_facts hf
      have hl := hrd.len
      have e1 : ipE zs = 0 := ipE_eq hf
      have e2 : hdR zs = hdOf zs := by unfold hdR; rw [if_pos hf]
      have e3 : fromR zs = sizeR zs := by unfold fromR; rw [if_pos hf]
      have e4 : toR zs = totalR zs := by unfold toR; rw [if_pos hf]
      have e5 : optsR zs = optsOf zs := by unfold optsR; rw [if_pos hf]
      rw [e1, e2, e3, e4]
      rw [e2] at hblk hb3 own3 hs3
      rw [e5] at own3
      have hwf := hdOf_wf hz
      have hn2 := own3.len
      rw [k7] at hn2
      have hdata : dataR zs = (zs.drop (sizeR zs)).take (totalR zs - sizeR zs) := by unfold dataR; rw [e3, e4]
      have HAG := Lib.hid (again5 hz hf)
      have t1 : ¬ (sizeR zs : Int) < 20 := by omega
      have t2 : ¬ (totalR zs : Int) < (sizeR zs : Int) := by omega
      have t3 : ¬ (n : Int) < (totalR zs : Int) := by omega
      have s1 := fun W => run_slice_lohi (P := Try.prog) W Try.underlying23 hi hz1 A n c (sizeR zs : Int) (totalR zs : Int) (sizeR zs) (totalR zs) rfl rfl k2 (by omega)
      have p1 : (0 : Int) ≤ (totalR zs : Int) := by omega
      have p2 : (totalR zs : Int) ≤ (c : Int) := by omega
      have hr : rightB (hdOf zs).off (hdOf zs).mf n2 ((totalR zs : Int) - sizeR zs) = true := by rw [← hn2]; exact rightB_yes k4
      have hr2 : Rightly (hdOf zs).off (hdOf zs).mf n2 ((totalR zs - sizeR zs : Nat) : Int) := by rw [← hn2, show ((totalR zs - sizeR zs : Nat) : Int) = (totalR zs : Int) - sizeR zs by omega]; exact k4
      have HR2 := Lib.hid hr2
      have HR := Lib.hid hr
      have HL := Lib.hid hl
      have HDD := Lib.hid hdata
      have q3 : totalR zs ≤ n := by omega
      have hn2' : n2 ≤ 60 := by omega
      clear e1 e2 e3 e4 e5 hf k4 k6 k7 k8 hl hdata hr hr2 hn2
      unfold HD.val HD.cells
      go_wp2_with fail
      rw [show w2.alloc (.cells #[.int .u8 (hdOf zs).tos, .int .u16 (hdOf zs).id, .bool (hdOf zs).df, .bool (hdOf zs).mf, .int .i64 (hdOf zs).off, .int .u8 (hdOf zs).ttl, .int .u8 (hdOf zs).proto, .int .u32 (hdOf zs).src, .int .u32 (hdOf zs).dst, .slice A2 n2 c2] 30) = w2.alloc (.cells ((hdOf zs).cells (.slice A2 n2 c2)) 30) from rfl]
      generalize w2.alloc (.cells ((hdOf zs).cells (.slice A2 n2 c2)) 30) = w3 at hblk hb3 own3 hs3 ⊢
      refine (ipRight_any (hdOf zs) A2 n2 c2 _ _ hwf.off (by omega) (by omega)).mono ?_
      rintro e w4 ⟨rfl, hb4⟩
      rw [HR.out]
      replace hblk := hblk.next hb4
      replace own3 := own3.below hb4
      replace hb3 := hb3.trans (hb4.mono hb3.size)
      have hs4 := hb4.size
      clear hb4 hb2 own2 rd2
      go_wp2_with fail
      generalize w2.heap.size = G at *
      have HKK := Lib.hid (fun (W' : World) (he : Below w4.heap.size w4 W') => (show Below w4.heap.size w4 W' ∧ W'.cell? ⟨G, 0, none⟩ = some (.int .u8 (hdOf zs).tos) ∧ W'.cell? ⟨G, 1, none⟩ = some (.int .u16 (hdOf zs).id) ∧ W'.cell? ⟨G, 2, none⟩ = some (.bool (hdOf zs).df) ∧ W'.cell? ⟨G, 3, none⟩ = some (.bool (hdOf zs).mf) ∧ W'.cell? ⟨G, 4, none⟩ = some (.int .i64 (hdOf zs).off) ∧ W'.cell? ⟨G, 5, none⟩ = some (.int .u8 (hdOf zs).ttl) ∧ W'.cell? ⟨G, 6, none⟩ = some (.int .u8 (hdOf zs).proto) ∧ W'.cell? ⟨G, 7, none⟩ = some (.int .u32 (hdOf zs).src) ∧ W'.cell? ⟨G, 8, none⟩ = some (.int .u32 (hdOf zs).dst) ∧ W'.cell? ⟨G, 9, none⟩ = some (.slice A2 n2 c2) from ⟨he, (hblk.next he).cell 0, (hblk.next he).cell 1, (hblk.next he).cell 2, (hblk.next he).cell 3, (hblk.next he).cell 4, (hblk.next he).cell 5, (hblk.next he).cell 6, (hblk.next he).cell 7, (hblk.next he).cell 8, (hblk.next he).cell 9⟩))
      have rd4 : RD .u8 w4 w4.heap.size (cutA A c (sizeR zs)) (totalR zs - sizeR zs) (dataR zs) := by
        rw [HDD.out]
        exact ((hrd.below hb3).more hb3.size).mid (lo := sizeR zs) (hi := totalR zs) k2 q3 hle
      have bo : BD 255 (optsOf zs) := (hz.drop _).take _
      clear hblk
      go_region_held3 (fun W' => Below w4.heap.size w4 W' ∧ W'.cell? ⟨G, 0, none⟩ = some (.int .u8 (hdOf zs).tos) ∧ W'.cell? ⟨G, 1, none⟩ = some (.int .u16 (hdOf zs).id) ∧ W'.cell? ⟨G, 2, none⟩ = some (.bool (hdOf zs).df) ∧ W'.cell? ⟨G, 3, none⟩ = some (.bool (hdOf zs).mf) ∧ W'.cell? ⟨G, 4, none⟩ = some (.int .i64 (hdOf zs).off) ∧ W'.cell? ⟨G, 5, none⟩ = some (.int .u8 (hdOf zs).ttl) ∧ W'.cell? ⟨G, 6, none⟩ = some (.int .u8 (hdOf zs).proto) ∧ W'.cell? ⟨G, 7, none⟩ = some (.int .u32 (hdOf zs).src) ∧ W'.cell? ⟨G, 8, none⟩ = some (.int .u32 (hdOf zs).dst) ∧ W'.cell? ⟨G, 9, none⟩ = some (.slice A2 n2 c2)) ((with_reducible refine HKK.out _ ?_; first | (with_reducible exact (Below.refl _ _).drew) | assumption))
        ((go_at_call 14; refine (write_yes (hdOf zs) A2 n2 c2 (optsOf zs) _ _ _ (dataR zs) _ hwf (by exact own3.rd) bo (by exact rd4) HR2.out).mono ?_; rintro e w5 ⟨A5, n5, c5, rfl, own5, hb5⟩; have hb5' : Below w4.heap.size w4 w5 := (Below.refl _ _).drew.trans hb5; clear hb5))
      have own6 : OWN .u8 5 w5 w4.heap.size A5 n5 c5 (wasR (zs.take (totalR zs))) := by rw [← HAG.out]; exact own5
      have hb6 : Below w.heap.size w w5 := hb3.trans (hb5'.mono hb3.size)
      have rd6 := ((hrd.below hb6).more hb6.size).take (m := totalR zs) q3
      have hs5 := hb5'.size
      clear own5 own3 rd4 hb5' s1 bo
      have hl6 := own6.len
      have hl7 : (wasR (zs.take (totalR zs))).length = totalR zs := by
        have := HL.out
        unfold wasR
        split
        · rw [put2_len]; simp; omega
        · simp; omega
      have HN5 := Lib.hid (hl6.symm.trans hl7)
      have hn5 : n5 ≤ 400 := by have := HN5.out; omega
      clear hl6 hl7
      have g10 : (zs.take (totalR zs))[10]?.getD 0 = zs[10]?.getD 0 := by rw [List.getElem?_take_of_lt (by omega)]
      have g11 : (zs.take (totalR zs))[11]?.getD 0 = zs[11]?.getD 0 := by rw [List.getElem?_take_of_lt (by omega)]
      have G10 := Lib.hid g10
      have G11 := Lib.hid g11
      obtain ⟨x10, hx10⟩ : ∃ x, x = zs[10]?.getD 0 := ⟨_, rfl⟩
      obtain ⟨x11, hx11⟩ : ∃ x, x = zs[11]?.getD 0 := ⟨_, rfl⟩
      have Z10 := Lib.hid hx10.symm
      have Z11 := Lib.hid hx11.symm
      clear g10 g11 hx10 hx11
      by_cases hA : x10 = 255
      · by_cases hB : x11 = 255
        · have HW : Hid (wasR (zs.take (totalR zs)) = put2 (zs.take (totalR zs)) 10 0 0) := Lib.hid (by unfold wasR; rw [if_pos ⟨by rw [G10.out, Z10.out]; exact hA, by rw [G11.out, Z11.out]; exact hB⟩])
          have b1 : (x10 == 255) = true := by simp [hA]
          have b2 : (x11 == 255) = true := by simp [hB]
          clear hA hB
          go_wp2_with (at_builtin; refine wpList_append_rd _ rfl _ _ _ rfl .u8 w5.heap.size 5 i0 1 Try.underlying23 hi hz0 hz1 hz2 (some ⟨w5.heap.size, 0, none⟩) 0 0 [] rfl (OWN.lit w5 .u8 5 w5.heap.size [] (Nat.le_refl _) (by simp)) w5.heap.size _ _ _ (zs.take (totalR zs)) rfl (rd6.alloc (Nat.le_refl _) _) (by simp only [maxLen]; omega) (by omega) (by simp) ?_; intro A7 c7 w7 happ; have own7 := happ.own; rw [Nat.zero_add, List.nil_append] at own7; rw [Nat.zero_add]; have hb7 : Below w5.heap.size w5 w7 := ((Below.refl _ _).alloc (Nat.le_refl _) _).trans (happ.keepBelow (fun g hg => by simp at hg; omega) (by simp)); obtain ⟨g7, rfl, hg7, _, _⟩ := own7.form (by omega); have y10 := own7.cell (i := 10) (by omega); have y11 := own7.cell (i := 11) (by omega); rw [List.getElem?_take_of_lt (by omega)] at y10 y11; rw [Z10.out] at y10; rw [Z11.out] at y11; have z10 := own7.frozen 10; have z11 := own7.frozen 11; clear happ)
          have own8 : OWN .u8 5 ((w7.setCell ⟨g7, 10, none⟩ (.int .u8 0)).setCell ⟨g7, 11, none⟩ (.int .u8 0)) w5.heap.size (some ⟨g7, 0, none⟩) (totalR zs) c7 (put2 (zs.take (totalR zs)) 10 0 0) := own7.two 10 0 0
          have hb8 : Below w5.heap.size w5 ((w7.setCell ⟨g7, 10, none⟩ (.int .u8 0)).setCell ⟨g7, 11, none⟩ (.int .u8 0)) := Below.two (i := 10) hb7 hg7
          clear own7 hb7 y10 y11 z10 z11
          refine (same_any A5 _ n5 c5 (totalR zs) c7 (wasR (zs.take (totalR zs))) (wasR (zs.take (totalR zs))) _ (own6.below hb8).rd (by rw [HW.out]; exact own8.rd) (by omega) (by omega)).mono ?_
          rintro e w9 ⟨rfl, m, hm⟩
          rw [show (wasR (zs.take (totalR zs)) == wasR (zs.take (totalR zs))) = true by simp]
          have hb9 : Below w.heap.size w w9 := by rw [hm]; exact below_drewN (hb6.trans (hb8.mono hb6.size)) m
          clear hm
          go_wp2_with fail
          go_ret
          exact ⟨rfl, hb9⟩
        · have HW : Hid (wasR (zs.take (totalR zs)) = zs.take (totalR zs)) := Lib.hid (by unfold wasR; rw [if_neg (fun hh => hB (by rw [← Z11.out, ← G11.out]; exact hh.2))])
          have b1 : (x10 == 255) = true := by simp [hA]
          have b2 : (x11 == 255) = false := by simp [hB]
          clear hA hB
          go_wp2_with (at_builtin; refine wpList_append_rd _ rfl _ _ _ rfl .u8 w5.heap.size 5 i0 1 Try.underlying23 hi hz0 hz1 hz2 (some ⟨w5.heap.size, 0, none⟩) 0 0 [] rfl (OWN.lit w5 .u8 5 w5.heap.size [] (Nat.le_refl _) (by simp)) w5.heap.size _ _ _ (zs.take (totalR zs)) rfl (rd6.alloc (Nat.le_refl _) _) (by simp only [maxLen]; omega) (by omega) (by simp) ?_; intro A7 c7 w7 happ; have own7 := happ.own; rw [Nat.zero_add, List.nil_append] at own7; rw [Nat.zero_add]; have hb7 : Below w5.heap.size w5 w7 := ((Below.refl _ _).alloc (Nat.le_refl _) _).trans (happ.keepBelow (fun g hg => by simp at hg; omega) (by simp)); obtain ⟨g7, rfl, hg7, _, _⟩ := own7.form (by omega); have y10 := own7.cell (i := 10) (by omega); have y11 := own7.cell (i := 11) (by omega); rw [List.getElem?_take_of_lt (by omega)] at y10 y11; rw [Z10.out] at y10; rw [Z11.out] at y11; have z10 := own7.frozen 10; have z11 := own7.frozen 11; clear happ)
          have own8 := own7
          have hb8 := hb7
          clear own7 hb7 y10 y11 z10 z11
          refine (same_any A5 _ n5 c5 (totalR zs) c7 (wasR (zs.take (totalR zs))) (wasR (zs.take (totalR zs))) _ (own6.below hb8).rd (by rw [HW.out]; exact own8.rd) (by omega) (by omega)).mono ?_
          rintro e w9 ⟨rfl, m, hm⟩
          rw [show (wasR (zs.take (totalR zs)) == wasR (zs.take (totalR zs))) = true by simp]
          have hb9 : Below w.heap.size w w9 := by rw [hm]; exact below_drewN (hb6.trans (hb8.mono hb6.size)) m
          clear hm
          go_wp2_with fail
          go_ret
          exact ⟨rfl, hb9⟩
      · have HW : Hid (wasR (zs.take (totalR zs)) = zs.take (totalR zs)) := Lib.hid (by unfold wasR; rw [if_neg (fun hh => hA (by rw [← Z10.out, ← G10.out]; exact hh.1))])
        have b1 : (x10 == 255) = false := by simp [hA]
        clear hA
        go_wp2_with (at_builtin; refine wpList_append_rd _ rfl _ _ _ rfl .u8 w5.heap.size 5 i0 1 Try.underlying23 hi hz0 hz1 hz2 (some ⟨w5.heap.size, 0, none⟩) 0 0 [] rfl (OWN.lit w5 .u8 5 w5.heap.size [] (Nat.le_refl _) (by simp)) w5.heap.size _ _ _ (zs.take (totalR zs)) rfl (rd6.alloc (Nat.le_refl _) _) (by simp only [maxLen]; omega) (by omega) (by simp) ?_; intro A7 c7 w7 happ; have own7 := happ.own; rw [Nat.zero_add, List.nil_append] at own7; rw [Nat.zero_add]; have hb7 : Below w5.heap.size w5 w7 := ((Below.refl _ _).alloc (Nat.le_refl _) _).trans (happ.keepBelow (fun g hg => by simp at hg; omega) (by simp)); obtain ⟨g7, rfl, hg7, _, _⟩ := own7.form (by omega); have y10 := own7.cell (i := 10) (by omega); have y11 := own7.cell (i := 11) (by omega); rw [List.getElem?_take_of_lt (by omega)] at y10 y11; rw [Z10.out] at y10; rw [Z11.out] at y11; have z10 := own7.frozen 10; have z11 := own7.frozen 11; clear happ)
        have own8 := own7
        have hb8 := hb7
        clear own7 hb7 y10 y11 z10 z11
        refine (same_any A5 _ n5 c5 (totalR zs) c7 (wasR (zs.take (totalR zs))) (wasR (zs.take (totalR zs))) _ (own6.below hb8).rd (by rw [HW.out]; exact own8.rd) (by omega) (by omega)).mono ?_
        rintro e w9 ⟨rfl, m, hm⟩
        rw [show (wasR (zs.take (totalR zs)) == wasR (zs.take (totalR zs))) = true by simp]
        have hb9 : Below w.heap.size w w9 := by rw [hm]; exact below_drewN (hb6.trans (hb8.mono hb6.size)) m
        clear hm
        go_wp2_with fail
        go_ret
        exact ⟨rfl, hb9⟩
    · have e1 := ipE_ne hf
      have e2 := hdR_no hf
      have e3 : fromR zs = 0 := by unfold fromR; rw [if_neg hf]
      have e4 : toR zs = 0 := by unfold toR; rw [if_neg hf]
      have e5 : optsR zs = [] := by unfold optsR; rw [if_neg hf]
      rw [e2, e3, e4]
      rw [e5] at own3
      rw [e2] at own3 hb3
      clear e2 e3 e4 e5 hf hblk hs3
      have hn2 : 0 = n2 := own3.len
      subst hn2
      unfold HD.val HD.cells HD.zero
      go_wp2_with fail
      refine (same5_yes HD.zero A2 none 0 c2 0 0 [] _ (by exact own3.rd) RD.nil (by omega) (by omega)).mono ?_
      rintro e w3 ⟨rfl, hb4⟩
      go_wp2_with fail
      go_ret
      exact ⟨rfl, hb3.trans (hb4.mono hb3.size)⟩
  · have hn' : (400 : Int) < (n : Int) := by omega
    go_enter Try.func6, Try.ntmps6
    go_wp2_with fail
    refine (awake5_any _).mono ?_
    rintro e w1 ⟨rfl, hb1⟩
    go_wp2_with fail
    go_ret
    exact ⟨rfl, hb1⟩
end Go.Proofs.Ytpfmecdldoehoaa
