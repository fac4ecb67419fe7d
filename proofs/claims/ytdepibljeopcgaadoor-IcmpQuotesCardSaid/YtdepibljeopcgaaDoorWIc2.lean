/- package icmp: Read, Write, Answer. -/
import Derived.Test.YtdepibljeopcgaaDoorWIc
import Derived.Test.YtdepibljeopcgaaDoorWBase
import Derived.Test.YtdepibljeopcgaaDoorWSlices
import Derived.Test.YtdepibljeopcgaaDoorBase
import Derived.Deep.RegionHeld3
import Derived.Deep.DrawnRows
namespace Go.Proofs.YtdepibljeopcgaaDoor
open Go.RowKit
set_option linter.unusedVariables false
attribute [local go_sem ↓] Go.wp_at_zero Go.wp_at_succ

def msg0 : Array Value := #[.int .u8 0, .int .u8 0, .int .u16 0, .int .u16 0]
def msg4 (t c id seq : Int) : Array Value := #[.int .u8 t, .int .u8 c, .int .u16 id, .int .u16 seq]
theorem results_cell_tmp1' {P : Program} {fn : Func} {p u1 : Tmp} {ty : TypeId} (h : fn.results = #[.cell p ty, .tmp u1]) (tmps : Array Value) (w : World) (g : Nat) (t : TypeId) (cs : Array Value) (fr : Nat × Nat) (d : TypeDesc)
    (hp : tmps.getD p undef = .pointer (some ⟨g, 0, none⟩)) (hg : w.heap[g]? = some (.cells cs t fr))
    (hu : P.underlying ty = some d) (hd : (match d with | .struct _ | .array _ _ => true | _ => false) = true) (hi : (P.info? ty).map (·.size) = some cs.size) :
    (results fn tmps).run P w = .ok (.tuple #[.agg cs, tmps.getD u1 undef]) w := by
  have hp' : tmps[p]?.getD undef = .pointer (some ⟨g, 0, none⟩) := by simpa using hp
  simp [results, h, hp', asAddr, run_loadVar_row w g t ty cs fr d hg hu hd hi]
theorem msg4_one (t c id seq : Int) : (msg4 t c id seq).all (·.oneCell') = true := by unfold msg4; simp [Value.oneCell']

set_option maxHeartbeats 2000000 in
set_option maxRecDepth 100000 in
theorem icread_any (A : Option Addr) (n c : Nat) (zs : List Int) (w : World) (h : RD .u8 w w.heap.size A n zs) (hz : BD 255 zs) (hn : n ≤ c) (hc : n ≤ 140737488351232) (hS : SORTS w) :
    Calls Tryd.prog 11 #[.slice A n c] w fun e w' => e = .returned (.tuple #[.agg (icM zs), .int .i64 (icE zs)]) ∧ Below w.heap.size w w' := by
  obtain ⟨i0, hi, hz0, hz1, hz2⟩ := info_parts infoU8
  have HL := Lib.hid h.len
  have R := Lib.hid h
  have HSS := Lib.hid hS
  have S := Lib.hid ((SP.start w).alloc 38 msg0)
  clear h hS
  by_cases h8 : n < 8
  · have i8 : (n : Int) < 8 := by omega
    have HE := Lib.hid (show icE zs = 100 by unfold icE; rw [if_pos (by rw [HL.out]; exact h8)])
    have HM := Lib.hid (show icM zs = msg0 by unfold icM; rw [if_neg (by rw [HE.out]; decide)]; rfl)
    have T := Lib.hid (S.out.setR 0 rfl msg0)
    go_enter Tryd.func11, Tryd.ntmps11
    go_upto_region 1 with fail
    rw [show w.alloc (.cells #[.int .u8 0, .int .u8 0, .int .u16 0, .int .u16 0] 38) = w.alloc (.cells msg0 38) from rfl]
    generalize hw1 : w.alloc (.cells msg0 38) = w1 at S T ⊢
    clear hw1
    go_wp2_with (refine wpList_store_row rfl 38 _ _ rfl w.heap.size msg0 rfl rfl 38 msg0 (S.out.blk 0 rfl) (by kernel_rfl) rfl (msg4_one 0 0 0 0) ?_)
    refine bodyPost_ret (results_cell_tmp1' rfl _ _ w.heap.size 38 msg0 _ _ rfl (T.out.blk 0 rfl) Tryd.underlying38 rfl (by kernel_rfl)) rfl ⟨?_, T.out.bel⟩
    rw [HE.out, HM.out]; rfl
  · have i8 : ¬ (n : Int) < 8 := by omega
    obtain ⟨b, off, rfl, hb, hcell⟩ := R.out.2 (by omega)
    obtain ⟨a0, a1⟩ := hz.get (by omega) 0
    obtain ⟨b0, b1⟩ := hz.get (by omega) 1
    obtain ⟨t, ht⟩ : ∃ t : Nat, zs[0]?.getD 0 = (t : Int) := ⟨(zs[0]?.getD 0).toNat, by omega⟩
    obtain ⟨cc, hcc⟩ : ∃ cc : Int, zs[1]?.getD 0 = cc := ⟨_, rfl⟩
    have HIE := Lib.hid (show icE zs = kE t cc by unfold icE; rw [if_neg (by rw [HL.out]; exact h8), ht, hcc]; rfl)
    rw [ht] at a0 a1
    rw [hcc] at b0 b1
    have ht255 : t ≤ 255 := by omega
    have HX := Lib.hid (fun (W : World) (hb' : Below w.heap.size w W) => (show W.cell? ⟨b, off, none⟩ = some (.int .u8 (t : Int)) ∧ W.cell? ⟨b, off + 1, none⟩ = some (.int .u8 cc) from
      ⟨(hb'.cell (p := ⟨b, off, none⟩) hb).trans (by have := hcell 0 (by omega); rw [ht] at this; exact this), (hb'.cell (p := ⟨b, off + 1, none⟩) hb).trans (by have := hcell 1 (by omega); rw [hcc] at this; exact this)⟩))
    have HT := Lib.hid (And.intro ht hcc)
    have RW := Lib.hid (fun (W : World) (hb' : Below w.heap.size w W) => (show RD .u8 W W.heap.size (some ⟨b, off, none⟩) n zs from (R.out.below hb').more hb'.size))
    clear ht hcc hcell R
    have i0' : (0 : Int) < (n : Int) := by omega
    have i1' : (1 : Int) < (n : Int) := by omega
    have j0' : 0 < n := by omega
    go_enter Tryd.func11, Tryd.ntmps11
    go_upto_region 1 with fail
    rw [show w.alloc (.cells #[.int .u8 0, .int .u8 0, .int .u16 0, .int .u16 0] 38) = w.alloc (.cells msg0 38) from rfl]
    generalize hw1 : w.alloc (.cells msg0 38) = w1 at S ⊢
    clear hw1
    have hS1 : SORTS w1 := HSS.out.below S.out.bel
    have HS1 := Lib.hid hS1
    clear hS1
    have KK := Lib.hid (fun (W : World) (hb' : Below w.heap.size w1 W) => (show Below w.heap.size w1 W ∧ W.cell? ⟨b, off, none⟩ = some (.int .u8 (t : Int)) ∧ W.cell? ⟨b, off + 1, none⟩ = some (.int .u8 cc) from ⟨hb', HX.out W (S.out.bel.trans hb')⟩))
    obtain ⟨x0, x1⟩ := HX.out w1 S.out.bel
    go_upto_region 3 with fail
    clear x0 x1
    go_region_held3 (fun W => Below w.heap.size w1 W ∧ W.cell? ⟨b, off, none⟩ = some (.int .u8 (t : Int)) ∧ W.cell? ⟨b, off + 1, none⟩ = some (.int .u8 cc)) ((with_reducible refine KK.out _ ?_; (repeat' (first | (with_reducible exact Below.refl _ _) | (with_reducible refine Below.drew ?_)))))
      ((go_at_call 13; refine (kind_any t cc _ ht255 ⟨b0, b1⟩ (HS1.out.below (Below.refl _ _).drew)).mono ?_; rintro e w2 ⟨rfl, rfl⟩))
    have S2 := Lib.hid S.out.drew
    by_cases hk : kE t cc = 0
    · have HM := Lib.hid (show icM zs = (msg4 (t : Int) cc (wordAt zs 4) (wordAt zs 6)) by unfold icM; rw [if_pos (by rw [HIE.out]; exact hk), HT.out.1, HT.out.2]; rfl)
      have HK0 := Lib.hid hk
      have s4 := fun W => run_slice_lo (P := Tryd.prog) W Tryd.underlying24 hi hz1 (some ⟨b, off, none⟩) n c 4 4 rfl (by omega)
      have s6 := fun W => run_slice_lo (P := Tryd.prog) W Tryd.underlying24 hi hz1 (some ⟨b, off, none⟩) n c 6 6 rfl (by omega)
      have W0 := Lib.hid (fun (k : Nat) => (show wordAt (zs.drop k) 0 = wordAt zs k by unfold wordAt; rw [List.getElem?_drop, List.getElem?_drop]; rfl))
      rw [hk]
      clear hk
      go_upto_region 6 with fail
      have X0 := Lib.hid S2.out.drew
      refine wp_region_noPanic ?_
      refine wp_region_held_drew (S := fun W => W.cell? ⟨b, off, none⟩ = some (.int .u8 (t : Int)) ∧ W.cell? ⟨b, off + 1, none⟩ = some (.int .u8 cc)) (by kernel_rfl) (by exact HX.out _ X0.out.bel) (fun hHeld => ?_)
      refine' take_lit (i := 0) (v := _) rfl (by kernel_rfl) (by kernel_rfl) (by kernel_rfl) (fun _ _ _ h => h) (Or.inl ⟨by rfl, ?yy1⟩) (by assumption) ?rr1
      case yy1 => intro w' hSw; (try dsimp only at hSw); go_simp; try (with_reducible rfl)
      (try simp only [Act.put]); (try simp only [List.setIfInBounds_toArray, List.set_cons_zero, List.set_cons_succ])
      refine' take_lit (i := 1) (v := _) rfl (by kernel_rfl) (by kernel_rfl) (by kernel_rfl) (fun _ _ _ h => h) (Or.inl ⟨by rfl, ?yy2⟩) (by assumption) ?rr2
      case yy2 => intro w' hSw; (try dsimp only at hSw); go_simp; try (with_reducible rfl)
      (try simp only [Act.put]); (try simp only [List.setIfInBounds_toArray, List.set_cons_zero, List.set_cons_succ])
      refine' take_lit (i := 2) (v := _) rfl (by kernel_rfl) (by kernel_rfl) (by kernel_rfl) (fun _ _ _ h => h) (Or.inl ⟨by rfl, ?yy3⟩) (by assumption) ?rr3
      case yy3 => intro w' hSw; (try dsimp only at hSw); go_simp; try (with_reducible rfl)
      (try simp only [Act.put]); (try simp only [List.setIfInBounds_toArray, List.set_cons_zero, List.set_cons_succ])
      refine' take_lit (i := 3) (v := _) rfl (by kernel_rfl) (by kernel_rfl) (by kernel_rfl) (fun _ _ _ h => h) (Or.inl ⟨by rfl, ?yy4⟩) (by assumption) ?rr4
      case yy4 => intro w' hSw; (try dsimp only at hSw); go_simp; try (with_reducible rfl)
      (try simp only [Act.put]); (try simp only [List.setIfInBounds_toArray, List.set_cons_zero, List.set_cons_succ])
      refine' take_lit (i := 4) (v := _) rfl (by kernel_rfl) (by kernel_rfl) (by kernel_rfl) (fun _ _ _ h => h) (Or.inl ⟨by rfl, ?yy5⟩) (by assumption) ?rr5
      case yy5 => intro w' hSw; (try dsimp only at hSw); go_simp; try (with_reducible rfl)
      (try simp only [Act.put]); (try simp only [List.setIfInBounds_toArray, List.set_cons_zero, List.set_cons_succ])
      refine' take_lit (i := 5) (v := _) rfl (by kernel_rfl) (by kernel_rfl) (by kernel_rfl) (fun _ _ _ h => h) (Or.inl ⟨by rfl, ?yy6⟩) (by assumption) ?rr6
      case yy6 => intro w' hSw; (try dsimp only at hSw); go_simp; try (with_reducible rfl)
      (try simp only [Act.put]); (try simp only [List.setIfInBounds_toArray, List.set_cons_zero, List.set_cons_succ])
      refine' take_lit (i := 6) (v := _) rfl (by kernel_rfl) (by kernel_rfl) (by kernel_rfl) (fun _ _ _ h => h) (Or.inl ⟨by rfl, ?yy7⟩) (by assumption) ?rr7
      case yy7 => intro w' hSw; (try dsimp only at hSw); go_simp; try (with_reducible rfl)
      (try simp only [Act.put]); (try simp only [List.setIfInBounds_toArray, List.set_cons_zero, List.set_cons_succ])
      refine' take_lit (i := 7) (v := _) rfl (by kernel_rfl) (by kernel_rfl) (by kernel_rfl) (fun _ _ _ h => h) (Or.inl ⟨by rfl, ?yy8⟩) (by assumption) ?rr8
      case yy8 => intro w' hSw; (try dsimp only at hSw); go_simp; try (with_reducible rfl)
      (try simp only [Act.put]); (try simp only [List.setIfInBounds_toArray, List.set_cons_zero, List.set_cons_succ])
      refine' take_lit (i := 9) (v := _) rfl (by kernel_rfl) (by kernel_rfl) (by kernel_rfl) (fun _ _ _ h => h) (Or.inl ⟨by rfl, ?yy9⟩) (by assumption) ?rr9
      case yy9 => intro w' hSw; (try dsimp only at hSw); go_simp; try (with_reducible rfl)
      (try simp only [Act.put]); (try simp only [List.setIfInBounds_toArray, List.set_cons_zero, List.set_cons_succ])
      refine' take_lit (i := 10) (v := _) rfl (by kernel_rfl) (by kernel_rfl) (by kernel_rfl) (fun _ _ _ h => h) (Or.inl ⟨by rfl, ?yy10⟩) (by assumption) ?rr10
      case yy10 => intro w' hSw; (try dsimp only at hSw); go_simp; try (with_reducible rfl)
      (try simp only [Act.put]); (try simp only [List.setIfInBounds_toArray, List.set_cons_zero, List.set_cons_succ])
      refine wpAnyH_ready (rs := [8]) (by kernel_rfl) (by simp) ?_
      refine cons_lit rfl (fun K hK => ?ss8x11) AllReadyH.nil
      case ss8x11 =>
        go_simp
        refine (icword_any (cutA (some ⟨b, off, none⟩) c 4) (n - 4) (c - 4) (zs.drop 4) _ ((RW.out _ X0.out.bel).cutA (lo := 4) (by omega) hn) (hz.drop _) (by omega)).mono ?_
        rintro e w3 ⟨rfl, m4, h4⟩
        rw [W0.out 4]
        have X1 := Lib.hid (h4 ▸ X0.out.drewN m4)
        clear h4
        refine hK.out _ _ (by exact HX.out _ X1.out.bel) (fun hHeld => ?_)
        clear hK K
        (try simp only [Act.put]); (try simp only [List.setIfInBounds_toArray, List.set_cons_zero, List.set_cons_succ])
        refine wpAnyH_ready (rs := [11]) (by kernel_rfl) (by simp) ?_
        refine cons_lit rfl (fun K hK => ?ss11x12) AllReadyH.nil
        case ss11x12 =>
          go_simp
          refine (icword_any (cutA (some ⟨b, off, none⟩) c 6) (n - 6) (c - 6) (zs.drop 6) _ ((RW.out _ X1.out.bel).cutA (lo := 6) (by omega) hn) (hz.drop _) (by omega)).mono ?_
          rintro e w4 ⟨rfl, m6, h6⟩
          rw [W0.out 6]
          have X2 := Lib.hid (h6 ▸ X1.out.drewN m6)
          clear h6
          refine hK.out _ _ (by exact HX.out _ X2.out.bel) (fun hHeld => ?_)
          clear hK K
          (try simp only [Act.put]); (try simp only [List.setIfInBounds_toArray, List.set_cons_zero, List.set_cons_succ])
          refine' take_lit (i := 12) (v := _) rfl (by kernel_rfl) (by kernel_rfl) (by kernel_rfl) (fun _ _ _ h => h) (Or.inl ⟨by rfl, ?yy13⟩) (by assumption) ?rr13
          case yy13 => intro w' hSw; (try dsimp only at hSw); go_simp; try (with_reducible rfl)
          (try simp only [Act.put]); (try simp only [List.setIfInBounds_toArray, List.set_cons_zero, List.set_cons_succ])
          refine wpAnyH_ready (rs := [13]) (by kernel_rfl) (by simp) ?_
          refine cons_lit rfl (fun K hK => ?ss13x14) AllReadyH.nil
          case ss13x14 =>
            refine step_store_row (by rfl) 38 _ _ (by rfl) w.heap.size (msg4 (t : Int) cc (wordAt zs 4) (wordAt zs 6)) (by rfl) (by rfl) 38 msg0 (X2.out.blk 0 rfl) (by kernel_rfl) rfl (msg4_one _ _ _ _) ?_
            have X3 := Lib.hid (X2.out.setR 0 rfl (msg4 (t : Int) cc (wordAt zs 4) (wordAt zs 6)))
            refine hK.out _ _ (by exact HX.out _ X3.out.bel) (fun hHeld => ?_)
            clear hK K
            (try simp only [Act.put]); (try simp only [List.setIfInBounds_toArray, List.set_cons_zero, List.set_cons_succ])
            refine' take_lit (i := 14) (v := _) rfl (by kernel_rfl) (by kernel_rfl) (by kernel_rfl) (fun _ _ _ h => h) (Or.inl ⟨by rfl, ?yy15⟩) (by assumption) ?rr15
            case yy15 => intro w' hSw; (try dsimp only at hSw); go_simp; try (with_reducible rfl)
            (try simp only [Act.put]); (try simp only [List.setIfInBounds_toArray, List.set_cons_zero, List.set_cons_succ])
            refine wpAnyH_done (by kernel_rfl) ?_ _
            refine NoPanic.normal ?_
            go_wp2_with fail
            refine bodyPost_ret (results_cell_tmp1' rfl _ _ w.heap.size 38 (msg4 (t : Int) cc (wordAt zs 4) (wordAt zs 6)) _ _ rfl (X3.out.blk 0 rfl) Tryd.underlying38 rfl (by kernel_rfl)) rfl ⟨?_, X3.out.bel⟩
            rw [HIE.out, HM.out, HK0.out]; rfl
    · have hk' : (kE t cc != 0) = true := by simp [hk]
      have HM := Lib.hid (show icM zs = msg0 by unfold icM; rw [if_neg (by rw [HIE.out]; exact hk)]; rfl)
      have T := Lib.hid (S2.out.setR 0 rfl msg0)
      clear hk
      go_wp2_with (refine wpList_store_row rfl 38 _ _ rfl w.heap.size msg0 rfl rfl 38 msg0 (S2.out.blk 0 rfl) (by kernel_rfl) rfl (msg4_one 0 0 0 0) ?_)
      refine bodyPost_ret (results_cell_tmp1' rfl _ _ w.heap.size 38 msg0 _ _ rfl (T.out.blk 0 rfl) Tryd.underlying38 rfl (by kernel_rfl)) rfl ⟨?_, T.out.bel⟩
      rw [HIE.out, HM.out]; rfl
end Go.Proofs.YtdepibljeopcgaaDoor
