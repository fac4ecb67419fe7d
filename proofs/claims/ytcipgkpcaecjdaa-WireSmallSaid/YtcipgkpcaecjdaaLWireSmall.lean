import Derived.Test.YtcipgkpcaecjdaaLWireSmallB
import Derived.Test.YtcipgkpcaecjdaaWRep
/- bafflelaw01.WireSmall. (Printed by gen_wsmall.py.) -/
namespace Go.Proofs.Ytcipgkpcaecjdaa
open Go.RowKit
set_option linter.unusedVariables false
set_option linter.unusedSimpArgs false

theorem infoPR : (Try.prog.info? 36).map (fun i => (i.zero, i.size, i.bytes)) = some (some (.pointer none), 1, 8) := by kernel_rfl
theorem infoPW : (Try.prog.info? 39).map (fun i => (i.zero, i.size, i.bytes)) = some (some (.pointer none), 1, 8) := by kernel_rfl
theorem SP.allocRow {w0 w : World} {L : List IT} {N : Nat} (H : SP w0 w L) (t : TypeId) (m n : Nat) (cs : Array Value) (hm : n ≤ maxLen) (hs : cs.size = n * m) (hN : w.heap.size = N) :
    SP w0 (w.alloc (.cells cs t)) (L ++ [.row t m (some ⟨N, 0, none⟩) n n cs.toList]) := by
  subst hN
  exact H.push ((Below.refl _ w).alloc (Nat.le_refl _) _) (World.ownsRow_lit w cs n (Nat.le_refl _) hm hs)
theorem rcells_one (R : Nat) (B : Option Addr) (n c p : Nat) (f : Bool) : (rcells R B n c p f).all (·.oneCell') = true := by unfold rcells; simp [Value.oneCell']
theorem wcells_one (W lim : Nat) (B : Option Addr) (n c : Nat) (f : Bool) : (wcells W lim B n c f).all (·.oneCell') = true := by unfold wcells; simp [Value.oneCell']
theorem row_at {w : World} {base : Nat} {t : TypeId} {A : Option Addr} {c : Nat} {x y z : Value} (h : w.ownsRow base t 1 (.slice A 3 c) 3 [x, y, z]) : ∃ g, A = some ⟨g, 0, none⟩ ∧ base ≤ g ∧ g < w.heap.size ∧ ∀ i, i < 3 → w.cell? ⟨g, i, none⟩ = [x, y, z][i]? := by
  rcases h.2 with ⟨_, h2⟩ | ⟨g, cap, cur, h1, h2, h3, h4, h5, h6, h7⟩
  · simp at h2
  · simp at h1
    obtain ⟨rfl, rfl⟩ := h1
    exact ⟨g, rfl, h2, (Array.getElem?_eq_some_iff.1 h3).1, fun i hi => World.ownsRow.cellAt h i (by omega)⟩
theorem nrow_of {w v : World} {base : Nat} {t : TypeId} {A : Option Addr} {c : Nat} {N P : Nat} (h : w.ownsRow base t 1 (.slice A 3 c) 3 [.pointer none, .pointer (some ⟨N, 0, none⟩), .pointer (some ⟨P, 0, none⟩)])
    (h1 : NOBJ w (.pointer (some ⟨N, 0, none⟩))) (h2 : NOBJ w (.pointer (some ⟨P, 0, none⟩))) (hb : Below w.heap.size w v) : NROW v A := by
  obtain ⟨g, rfl, _, hg, hc⟩ := row_at h
  refine ⟨g, rfl, fun i hi => ?_⟩
  rcases (show i = 0 ∨ i = 1 ∨ i = 2 by omega) with rfl | rfl | rfl
  · exact ⟨_, (hb.cell hg).trans (hc 0 hi), .inl rfl, _, rfl⟩
  · exact ⟨_, (hb.cell hg).trans (hc 1 hi), h1.next hb, _, rfl⟩
  · exact ⟨_, (hb.cell hg).trans (hc 2 hi), h2.next hb, _, rfl⟩
theorem rep_size (s : ByteArray) (c : Nat) : (⟨(Lib.repeatL s.data.toList c).toArray⟩ : ByteArray).size = c * s.size := by
  show (Lib.repeatL s.data.toList c).toArray.size = _
  simp [Lib.repeatL_length]

set_option maxHeartbeats 1000000 in
set_option maxRecDepth 100000 in
theorem wireSmall_walk (w : World) : Calls Try.prog 11 #[] w fun e w' => e = .returned (.bool true) ∧ Below w.heap.size w w' := by
  obtain ⟨i0, hi, hz0, hz1, hz2⟩ := info_parts infoU8
  obtain ⟨i1, ri, rz0, rz1, rz2⟩ := info_parts infoPR
  obtain ⟨i2, wi, wz0, wz1, wz2⟩ := info_parts infoPW
  have XB := Lib.hid (show SP w (w.alloc (.cells #[.int .i64 (-9223372036854775808), .int .i64 (-1), .int .i64 0, .int .i64 1, .int .i64 2, .int .i64 3, .int .i64 9223372036854775807] 3)) [.own .i64 3 (some ⟨w.heap.size, 0, none⟩) 7 7 NUMS] from (SP.start w).allocI' .i64 3 NUMS (by unfold NUMS; simp [maxLen]) rfl)
  go_enter Try.func11, Try.ntmps11
  go_upto_region 3 with fail
  obtain ⟨G, hG⟩ : ∃ g, g = w.heap.size := ⟨_, rfl⟩
  rw [← hG] at XB ⊢
  generalize w.alloc (.cells #[.int .i64 (-9223372036854775808), .int .i64 (-1), .int .i64 0, .int .i64 1, .int .i64 2, .int .i64 3, .int .i64 9223372036854775807] 3) = v0 at XB ⊢
  clear hG
  refine small3 w G v0 XB (Lib.hid ?_)
  intro _ _ _ _ _ _ _ _ _ _ _ _ _ _ _ _ _ _ _ _ _ _ _ _ _ _ _ _ _ _ _ _ _ _ _ _ _ _ _ _ _ _ _ _ _ _ _ _ _ _ _ _ _ _ _ _ _ _ _ _ _ _ _ _ _ _ v1 hS
  have X1 := Lib.hid hS.tail
  clear hS XB
  go_upto_region 19 with fail
  refine small19 w v1 X1 (Lib.hid ?_)
  intro _ _ _ _ _ _ _ _ _ _ _ _ _ _ _ _ _ _ _ _ _ v2 hS
  have X2 := Lib.hid hS
  clear hS X1
  obtain ⟨N, v3, hN1, hN2, hrun, own3, hb3⟩ : ∃ (N : Nat) (v3 : World), 131073 ≤ N ∧ N ≤ 131073 ∧ (Instr.makeSlice 22 (.int .i64 131073) (.int .i64 131073)).run Try.prog v2 = .ok (.slice (some ⟨v2.heap.size, 0, none⟩) N N) v3 ∧ OWN .u8 5 v3 v2.heap.size (some ⟨v2.heap.size, 0, none⟩) N N (List.replicate N 0) ∧ Below v2.heap.size v2 v3 := by
    obtain ⟨v3, h1, h2, h3, _⟩ := run_make_cap (P := Try.prog) (k := .u8) v2 22 i0 Try.underlying22 hi hz0 hz1 (by omega) (131073 : Int) (131073 : Int) 131073 131073 rfl rfl (Nat.le_refl _) (by omega)
    exact ⟨131073, v3, Nat.le_refl _, Nat.le_refl _, h1, h2, h3⟩
  have X3 := Lib.hid (X2.out.pushOwn hb3 own3)
  clear own3 hb3
  go_upto_region 25 with fail
  clear hrun
  have HZ := Lib.hid (show BD 255 (List.replicate N (0 : Int)) from fun x hx => by rw [List.eq_of_mem_replicate hx]; omega)
  obtain ⟨A, hA⟩ : ∃ A, A = some (⟨v2.heap.size, 0, none⟩ : Addr) := ⟨_, rfl⟩
  rw [← hA] at X3 ⊢
  generalize List.replicate N (0 : Int) = zs at X3 HZ
  replace X3 := Lib.hid (show SP w v3 [.own .u8 5 A N N zs] from X3.out)
  clear hA X2
  go_wp2_with fail
  refine (repeat_any ⟨#[48]⟩ 262145 _ (by omega) (by show 1 * 262145 ≤ _; omega)).mono ?_
  rintro e v4 ⟨rfl, hb⟩
  have X4 := Lib.hid (X3.out.next hb)
  have HSZ := Lib.hid (rep_size ⟨#[48]⟩ 262145)
  generalize (⟨(Lib.repeatL (⟨#[48]⟩ : ByteArray).data.toList 262145).toArray⟩ : ByteArray) = s at HSZ ⊢
  have hs1 : 262145 ≤ s.size := by have := HSZ.out; rw [show (⟨#[48]⟩ : ByteArray).size = 1 from rfl] at this; omega
  have hs2 : s.size ≤ 262145 := by have := HSZ.out; rw [show (⟨#[48]⟩ : ByteArray).size = 1 from rfl] at this; omega
  clear hb X3 HSZ
  obtain ⟨sa, hsa⟩ : ∃ q, s.extract 1 s.size = q := ⟨_, rfl⟩
  obtain ⟨sb, hsb⟩ : ∃ q, s.extract 2 s.size = q := ⟨_, rfl⟩
  have HSS := Lib.hid (show s.size ≤ 9223372036854775807 ∧ sa.size ≤ 9223372036854775807 ∧ sb.size ≤ 9223372036854775807 by rw [← hsa, ← hsb]; simp; omega)
  have SP1 := Lib.hid (show ∀ W, (Instr.slice 9 (.string s) (some (.int .i64 1)) none none).run Try.prog W = .ok (.string sa) W from fun W => by rw [run_slice_string_l W _ s Try.underlying9 .i64 1 (by omega) (by omega), ← hsa]; rfl)
  have SP2 := Lib.hid (show ∀ W, (Instr.slice 9 (.string s) (some (.int .i64 2)) none none).run Try.prog W = .ok (.string sb) W from fun W => by rw [run_slice_string_l W _ s Try.underlying9 .i64 2 (by omega) (by omega), ← hsb]; rfl)
  clear hsa hsb
  go_upto_region 26 with fail
  refine small26 w A N hN1 hN2 zs HZ s sa sb HSS SP1.out SP2.out v4 X4 (Lib.hid ?_)
  intro _ _ _ _ _ _ _ _ _ _ _ _ _ _ _ _ _ _ _ _ _ _ _ _ _ _ _ _ _ _ _ _ _ _ _ _ _ _ _ _ _ _ _ _ _ _ _ _ v5 hS
  have X5 := Lib.hid (show SP w v5 [] from hS.tail)
  clear hS X4 SP1 SP2 HSS HZ hs1 hs2 hN1 hN2
  have XB := Lib.hid (show SP w (v5.alloc (.cells #[.int .u8 1, .int .u8 2, .int .u8 3, .int .u8 4] 5)) [.own .u8 5 (some ⟨v5.heap.size, 0, none⟩) 4 4 [1, 2, 3, 4]] from X5.out.allocI' .u8 5 [1, 2, 3, 4] (by simp [maxLen]) rfl)
  go_wp2_with fail
  refine (newReader_any XB.out (some ⟨v5.heap.size, 0, none⟩) 4 4 [1, 2, 3, 4] (by exact XB.out.rd 0 rfl) (by omega)).mono ?_
  rintro e v6 ⟨R, B, n, c, rfl, hS⟩
  obtain rfl : n = 4 := ((hS.own 1 rfl).len).symm
  have X6 := Lib.hid (show SP w v6 [.own .u8 5 B 4 c [1, 2, 3, 4], .blk R 68 (rcells R B 4 c 0 false)] from hS.tail)
  clear hS XB X5
  go_wp2_with fail
  refine (newWriter_any X6.out 9 (by omega)).mono ?_
  rintro e v7 ⟨W, rfl, hS⟩
  have X7 := Lib.hid (show SP w v7 [.own .u8 5 B 4 c [1, 2, 3, 4], .blk R 68 (rcells R B 4 c 0 false), .blk W 71 (wcells W 9 none 0 0 false)] from hS.pick [0, 1, 3] (by decide) rfl)
  clear hS X6
  have XB := Lib.hid ((((X7.out.alloc' 68 #[.pointer none, .slice none 0 0, .int .i64 0, .bool false] (N := v7.heap.size) rfl).allocRow 36 1 2 #[.pointer none, .pointer (some ⟨v7.heap.size, 0, none⟩)] (by simp [maxLen]) rfl (N := v7.heap.size + 1) (by simp)).alloc' 71 #[.pointer none, .int .i64 0, .slice none 0 0, .bool false] (N := v7.heap.size + 2) (by simp)).allocRow 39 1 2 #[.pointer none, .pointer (some ⟨v7.heap.size + 2, 0, none⟩)] (by simp [maxLen]) rfl (N := v7.heap.size + 3) (by simp))
  go_upto_region 33 with fail
  obtain ⟨N, hN⟩ : ∃ g, g = v7.heap.size := ⟨_, rfl⟩
  obtain ⟨GR, hGR⟩ : ∃ g, g = v7.heap.size + 1 := ⟨_, rfl⟩
  obtain ⟨M, hM⟩ : ∃ g, g = v7.heap.size + 2 := ⟨_, rfl⟩
  obtain ⟨GW, hGW⟩ : ∃ g, g = v7.heap.size + 3 := ⟨_, rfl⟩
  try rw [show v7.heap.size + 1 + 1 + 1 = v7.heap.size + 3 from rfl]
  try rw [show v7.heap.size + 1 + 1 = v7.heap.size + 2 from rfl]
  rw [← hGW, ← hM, ← hGR, ← hN] at XB ⊢
  generalize (((v7.alloc (.cells #[.pointer none, .slice none 0 0, .int .i64 0, .bool false] 68)).alloc (.cells #[.pointer none, .pointer (some ⟨N, 0, none⟩)] 36)).alloc (.cells #[.pointer none, .int .i64 0, .slice none 0 0, .bool false] 71)).alloc (.cells #[.pointer none, .pointer (some ⟨M, 0, none⟩)] 39) = v8 at XB ⊢
  have X8 := Lib.hid (show SP w v8 [.own .u8 5 B 4 c [1, 2, 3, 4], .blk R 68 (rcells R B 4 c 0 false), .blk W 71 (wcells W 9 none 0 0 false), .blk N 68 #[.pointer none, .slice none 0 0, .int .i64 0, .bool false], .row 36 1 (some ⟨GR, 0, none⟩) 2 2 [.pointer none, .pointer (some ⟨N, 0, none⟩)], .blk M 71 #[.pointer none, .int .i64 0, .slice none 0 0, .bool false], .row 39 1 (some ⟨GW, 0, none⟩) 2 2 [.pointer none, .pointer (some ⟨M, 0, none⟩)]] from XB.out)
  clear hN hGR hM hGW XB X7
  go_cut [17, 18] (fun s17 s18 wx => ∃ P Q : Nat, s17 = .pointer (some ⟨P, 0, none⟩) ∧ s18 = .pointer (some ⟨Q, 0, none⟩) ∧ SP w wx [.own .u8 5 B 4 c [1, 2, 3, 4], .blk R 68 (rcells R B 4 c 0 false), .blk W 71 (wcells W 9 none 0 0 false), .blk N 68 #[.pointer none, .slice none 0 0, .int .i64 0, .bool false], .row 36 1 (some ⟨GR, 0, none⟩) 2 2 [.pointer none, .pointer (some ⟨N, 0, none⟩)], .blk M 71 #[.pointer none, .int .i64 0, .slice none 0 0, .bool false], .row 39 1 (some ⟨GW, 0, none⟩) 2 2 [.pointer none, .pointer (some ⟨M, 0, none⟩)], .blk P 68 (rcells R B 4 c 0 false), .blk Q 71 (wcells W 9 none 0 0 false)])
  case first =>
    have XD := Lib.hid X8.out.drew
    refine wp_region_noPanic ?_
    refine wp_region_held_drew (S := fun W' => BLOCK W' R 68 (rcells R B 4 c 0 false) ∧ BLOCK W' W 71 (wcells W 9 none 0 0 false)) (by kernel_rfl) (by exact ⟨XD.out.blk 1 rfl, XD.out.blk 2 rfl⟩) (fun hHeld => ?_)
    generalize v8.drew = v0 at XD hHeld ⊢
    refine' take_lit (i := 0) (v := _) rfl (by kernel_rfl) (by kernel_rfl) (by kernel_rfl) (fun _ _ _ h => h) (Or.inl ⟨by rfl, ?yy50⟩) (by assumption) ?rr50
    case yy50 => intro w' hSw; (try dsimp only at hSw); go_simp; try (with_reducible rfl)
    (try simp only [Act.put]); (try simp only [List.setIfInBounds_toArray, List.set_cons_zero, List.set_cons_succ])
    refine' take_lit (i := 1) (v := _) rfl (by kernel_rfl) (by kernel_rfl) (by kernel_rfl) (fun _ _ _ h => h) (Or.inl ⟨by rfl, ?yy51⟩) (by assumption) ?rr51
    case yy51 => intro w' hSw; (try dsimp only at hSw); go_simp; try (with_reducible rfl)
    (try simp only [Act.put]); (try simp only [List.setIfInBounds_toArray, List.set_cons_zero, List.set_cons_succ])
    refine' take_lit (i := 2) (v := .agg ((rcells R B 4 c 0 false))) rfl (by kernel_rfl) (by kernel_rfl) (by kernel_rfl) (fun _ _ _ h => h) (Or.inl ⟨by rfl, ?yy52⟩) (by assumption) ?rr52
    case yy52 => intro w' hSw; exact exec_load_row 68 _ rfl R rfl 68 ((rcells R B 4 c 0 false)) (0, 0) _ (hSw.1) Try.underlying68 rfl (by kernel_rfl)
    (try simp only [Act.put]); (try simp only [List.setIfInBounds_toArray, List.set_cons_zero, List.set_cons_succ])
    refine' take_lit (i := 3) (v := _) rfl (by kernel_rfl) (by kernel_rfl) (by kernel_rfl) (fun _ _ _ h => h) (Or.inl ⟨by rfl, ?yy53⟩) (by assumption) ?rr53
    case yy53 => intro w' hSw; (try dsimp only at hSw); go_simp; try (with_reducible rfl)
    (try simp only [Act.put]); (try simp only [List.setIfInBounds_toArray, List.set_cons_zero, List.set_cons_succ])
    refine' take_lit (i := 4) (v := _) rfl (by kernel_rfl) (by kernel_rfl) (by kernel_rfl) (fun _ _ _ h => h) (Or.inl ⟨by rfl, ?yy54⟩) (by assumption) ?rr54
    case yy54 => intro w' hSw; (try dsimp only at hSw); go_simp; try (with_reducible rfl)
    (try simp only [Act.put]); (try simp only [List.setIfInBounds_toArray, List.set_cons_zero, List.set_cons_succ])
    refine' take_lit (i := 5) (v := .agg ((wcells W 9 none 0 0 false))) rfl (by kernel_rfl) (by kernel_rfl) (by kernel_rfl) (fun _ _ _ h => h) (Or.inl ⟨by rfl, ?yy55⟩) (by assumption) ?rr55
    case yy55 => intro w' hSw; exact exec_load_row 71 _ rfl W rfl 71 ((wcells W 9 none 0 0 false)) (0, 0) _ (hSw.2) Try.underlying71 rfl (by kernel_rfl)
    (try simp only [Act.put]); (try simp only [List.setIfInBounds_toArray, List.set_cons_zero, List.set_cons_succ])
    refine wpAnyH_ready (rs := [6, 7]) (by kernel_rfl) (by simp) ?_
    refine cons_lit rfl (fun K hK => ?ss6x56) (cons_lit rfl (fun K hK => ?ss7x56) AllReadyH.nil)
    case ss6x56 =>
      go_simp
      have X1 := Lib.hid (XD.out.alloc' 68 #[.pointer none, .slice none 0 0, .int .i64 0, .bool false] (N := v0.heap.size) rfl)
      refine hK.out _ _ (by exact ⟨X1.out.blk 1 rfl, X1.out.blk 2 rfl⟩) (fun hHeld => ?_)
      clear hK K
      (try simp only [Act.put]); (try simp only [List.setIfInBounds_toArray, List.set_cons_zero, List.set_cons_succ])
      refine wpAnyH_ready (rs := [7]) (by kernel_rfl) (by simp) ?_
      refine cons_lit rfl (fun K hK => ?ss7x57) AllReadyH.nil
      case ss7x57 =>
        go_simp
        have X2 := Lib.hid (X1.out.alloc' 71 #[.pointer none, .int .i64 0, .slice none 0 0, .bool false] (N := v0.heap.size + 1) (by simp))
        refine hK.out _ _ (by exact ⟨X2.out.blk 1 rfl, X2.out.blk 2 rfl⟩) (fun hHeld => ?_)
        clear hK K
        (try simp only [Act.put]); (try simp only [List.setIfInBounds_toArray, List.set_cons_zero, List.set_cons_succ])
        refine wpAnyH_ready (rs := [8]) (by kernel_rfl) (by simp) ?_
        refine cons_lit rfl (fun K hK => ?ss8x58) AllReadyH.nil
        case ss8x58 =>
          refine step_store_row (by rfl) 68 _ _ (by rfl) v0.heap.size (rcells R B 4 c 0 false) (by rfl) (by rfl) 68 #[.pointer none, .slice none 0 0, .int .i64 0, .bool false] (X2.out.blk 7 rfl) (by kernel_rfl) rfl (rcells_one R B 4 c 0 false) ?_
          have X3 := Lib.hid (X2.out.setR 7 rfl (rcells R B 4 c 0 false))
          refine hK.out _ _ (by exact ⟨X3.out.blk 1 rfl, X3.out.blk 2 rfl⟩) (fun hHeld => ?_)
          clear hK K
          (try simp only [Act.put]); (try simp only [List.setIfInBounds_toArray, List.set_cons_zero, List.set_cons_succ])
          refine wpAnyH_ready (rs := [9]) (by kernel_rfl) (by simp) ?_
          refine cons_lit rfl (fun K hK => ?ss9x59) AllReadyH.nil
          case ss9x59 =>
            refine step_store_row (by rfl) 71 _ _ (by rfl) (v0.heap.size + 1) (wcells W 9 none 0 0 false) (by rfl) (by rfl) 71 #[.pointer none, .int .i64 0, .slice none 0 0, .bool false] (X3.out.blk 8 rfl) (by kernel_rfl) rfl (wcells_one W 9 none 0 0 false) ?_
            have X4 := Lib.hid (X3.out.setR 8 rfl (wcells W 9 none 0 0 false))
            refine hK.out _ _ (by exact ⟨X4.out.blk 1 rfl, X4.out.blk 2 rfl⟩) (fun hHeld => ?_)
            clear hK K
            (try simp only [Act.put]); (try simp only [List.setIfInBounds_toArray, List.set_cons_zero, List.set_cons_succ])
            refine wpAnyH_done (by kernel_rfl) ?_ _
            refine NoPanic.normal ?_
            go_wp2_with fail
            go_meet
            exact ⟨v0.heap.size, (v0.heap.size + 1), rfl, rfl, X4.out.pick [0, 1, 2, 3, 4, 5, 6, 7, 8] (by decide) rfl⟩
    case ss7x56 =>
      go_simp
      have X1 := Lib.hid (XD.out.alloc' 71 #[.pointer none, .int .i64 0, .slice none 0 0, .bool false] (N := v0.heap.size) rfl)
      refine hK.out _ _ (by exact ⟨X1.out.blk 1 rfl, X1.out.blk 2 rfl⟩) (fun hHeld => ?_)
      clear hK K
      (try simp only [Act.put]); (try simp only [List.setIfInBounds_toArray, List.set_cons_zero, List.set_cons_succ])
      refine wpAnyH_ready (rs := [6]) (by kernel_rfl) (by simp) ?_
      refine cons_lit rfl (fun K hK => ?ss6x60) AllReadyH.nil
      case ss6x60 =>
        go_simp
        have X2 := Lib.hid (X1.out.alloc' 68 #[.pointer none, .slice none 0 0, .int .i64 0, .bool false] (N := v0.heap.size + 1) (by simp))
        refine hK.out _ _ (by exact ⟨X2.out.blk 1 rfl, X2.out.blk 2 rfl⟩) (fun hHeld => ?_)
        clear hK K
        (try simp only [Act.put]); (try simp only [List.setIfInBounds_toArray, List.set_cons_zero, List.set_cons_succ])
        refine wpAnyH_ready (rs := [8]) (by kernel_rfl) (by simp) ?_
        refine cons_lit rfl (fun K hK => ?ss8x61) AllReadyH.nil
        case ss8x61 =>
          refine step_store_row (by rfl) 68 _ _ (by rfl) (v0.heap.size + 1) (rcells R B 4 c 0 false) (by rfl) (by rfl) 68 #[.pointer none, .slice none 0 0, .int .i64 0, .bool false] (X2.out.blk 8 rfl) (by kernel_rfl) rfl (rcells_one R B 4 c 0 false) ?_
          have X3 := Lib.hid (X2.out.setR 8 rfl (rcells R B 4 c 0 false))
          refine hK.out _ _ (by exact ⟨X3.out.blk 1 rfl, X3.out.blk 2 rfl⟩) (fun hHeld => ?_)
          clear hK K
          (try simp only [Act.put]); (try simp only [List.setIfInBounds_toArray, List.set_cons_zero, List.set_cons_succ])
          refine wpAnyH_ready (rs := [9]) (by kernel_rfl) (by simp) ?_
          refine cons_lit rfl (fun K hK => ?ss9x62) AllReadyH.nil
          case ss9x62 =>
            refine step_store_row (by rfl) 71 _ _ (by rfl) v0.heap.size (wcells W 9 none 0 0 false) (by rfl) (by rfl) 71 #[.pointer none, .int .i64 0, .slice none 0 0, .bool false] (X3.out.blk 7 rfl) (by kernel_rfl) rfl (wcells_one W 9 none 0 0 false) ?_
            have X4 := Lib.hid (X3.out.setR 7 rfl (wcells W 9 none 0 0 false))
            refine hK.out _ _ (by exact ⟨X4.out.blk 1 rfl, X4.out.blk 2 rfl⟩) (fun hHeld => ?_)
            clear hK K
            (try simp only [Act.put]); (try simp only [List.setIfInBounds_toArray, List.set_cons_zero, List.set_cons_succ])
            refine wpAnyH_done (by kernel_rfl) ?_ _
            refine NoPanic.normal ?_
            go_wp2_with fail
            go_meet
            exact ⟨(v0.heap.size + 1), v0.heap.size, rfl, rfl, X4.out.pick [0, 1, 2, 3, 4, 5, 6, 8, 7] (by decide) rfl⟩
  case rest =>
  obtain ⟨P, Q, rfl, rfl, hS⟩ := hcut
  have X9 := Lib.hid hS
  clear hS X8
  have XA := Lib.hid (X9.out.next ((Below.refl _ wc).alloc (Nat.le_refl _) (.cells #[.pointer (some ⟨P, 0, none⟩)] 36)))
  go_wp2_with (first
    | (at_builtin; refine wpList_append_row1 _ rfl _ _ 72 rfl w.heap.size 39 i2 _ 1 8 Try.underlying72 wi wz0 wz1 wz2 (by rfl) (by decide) (some ⟨GW, 0, none⟩) 2 2 [.pointer none, .pointer (some ⟨M, 0, none⟩)] rfl (XE.out.row 6 rfl) ⟨va.heap.size, 0, none⟩ 1 1 [.pointer (some ⟨Q, 0, none⟩)] rfl rfl (one_new va 39 _) (by intro z hz; simp at hz; subst hz; rfl) (by simp only [maxLen]; omega) (by omega) XE.out.size ?_; intro AW cW vb hrow hgrow hat; have XF := Lib.hid (XE.out.appRow 6 rfl hrow hgrow hat); clear hrow hgrow hat)
    | (at_builtin; refine wpList_append_row1 _ rfl _ _ 69 rfl w.heap.size 36 i1 _ 1 8 Try.underlying69 ri rz0 rz1 rz2 (by rfl) (by decide) (some ⟨GR, 0, none⟩) 2 2 [.pointer none, .pointer (some ⟨N, 0, none⟩)] rfl (XA.out.row 4 rfl) ⟨wc.heap.size, 0, none⟩ 1 1 [.pointer (some ⟨P, 0, none⟩)] rfl rfl (one_new wc 36 _) (by intro z hz; simp at hz; subst hz; rfl) (by simp only [maxLen]; omega) (by omega) XA.out.size ?_; intro AR cR va hrow hgrow hat; have XC := Lib.hid (XA.out.appRow 4 rfl hrow hgrow hat); have XE := Lib.hid (XC.out.next ((Below.refl _ va).alloc (Nat.le_refl _) (.cells #[.pointer (some ⟨Q, 0, none⟩)] 39))); clear hrow hgrow hat))
  go_upto_region 36 with fail
  have XG := Lib.hid (show SP w vb [.own .u8 5 B 4 c [1, 2, 3, 4], .blk R 68 (rcells R B 4 c 0 false), .blk W 71 (wcells W 9 none 0 0 false), .blk N 68 #[.pointer none, .slice none 0 0, .int .i64 0, .bool false], .row 36 1 AR 3 cR [.pointer none, .pointer (some ⟨N, 0, none⟩), .pointer (some ⟨P, 0, none⟩)], .blk M 71 #[.pointer none, .int .i64 0, .slice none 0 0, .bool false], .row 39 1 AW 3 cW [.pointer none, .pointer (some ⟨M, 0, none⟩), .pointer (some ⟨Q, 0, none⟩)], .blk P 68 (rcells R B 4 c 0 false), .blk Q 71 (wcells W 9 none 0 0 false)] from XF.out)
  have hRP : R ≠ P := fun h => XG.out.ne 1 7 rfl rfl (by decide) (g := R) rfl (by rw [h]; rfl)
  have hWQ : W ≠ Q := fun h => XG.out.ne 2 8 rfl rfl (by decide) (g := W) rfl (by rw [h]; rfl)
  refine small36 w AR AW cR cW vb (Lib.hid XG.out.bel) (Lib.hid fun W' hb => nrow_of (XG.out.row 4 rfl) (.inr ⟨N, _, _, rfl, XG.out.blk 3 rfl, .inl rfl⟩) (.inr ⟨P, _, _, rfl, XG.out.blk 7 rfl, .inr ⟨R, _, _, rfl, hRP, XG.out.blk 1 rfl⟩⟩) hb)
    (Lib.hid fun W' hb => nrow_of (XG.out.row 6 rfl) (.inr ⟨M, _, _, rfl, XG.out.blk 5 rfl, .inl rfl⟩) (.inr ⟨Q, _, _, rfl, XG.out.blk 8 rfl, .inr ⟨W, _, _, rfl, hWQ, XG.out.blk 2 rfl⟩⟩) hb) (Lib.hid ?_)
  intro _ _ _ _ _ _ _ _ _ _ _ _ _ _ _ _ _ _ _ _ _ _ _ _ _ _ _ _ _ _ _ _ _ _ _ _ _ _ _ _ _ _ _ _ _ _ _ _ _ _ _ _ _ _ _ _ _ _ _ _ _ _ _ _ _ _ _ _ _ _ _ _ _ _ _ _ _ _ _ _ _ _ _ _ _ _ _ _ _ _ _ v9 hb
  have XH := Lib.hid (XG.out.next hb)
  clear hb XF XG XA XC XE hRP hWQ
  go_wp2_with fail
  refine (rU16_any XH.out (i := 1) (j := 0) rfl rfl (by decide) (by omega) (by omega) (bd_all (by decide))).mono ?_
  rw [show numZ (nxB [1, 2, 3, 4] 0 false 2) = 258 by decide]
  rintro e va ⟨rfl, hS⟩
  have XI := Lib.hid hS
  clear hS XH
  go_wp2_with fail
  refine (awake1_any _).mono ?_
  rintro e vc ⟨rfl, hb⟩
  have XJ := Lib.hid (XI.out.next hb)
  clear hb XI
  go_wp2_with fail
  go_ret
  exact ⟨rfl, XJ.out.bel⟩
end Go.Proofs.Ytcipgkpcaecjdaa
