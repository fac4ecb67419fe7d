import Derived.Test.YthdpcblmmjocmaaWTcP
import Derived.Test.YthdpcblmmjocmaaWRow
/- package tcp: what the kind of blocks does. (Printed by gen_tcp5.py.) -/
namespace Go.Proofs.Ythdpcblmmjocmaa
open Go.RowKit
set_option linter.unusedVariables false

theorem infoPair : (Try.prog.info? 93).map (fun i => (i.zero, i.size, i.bytes)) = some (some (.agg #[.int .u32 0, .int .u32 0]), 2, 8) := by kernel_rfl

theorem blocksOf_len : ∀ (m : Nat) (c : List Int), (blocksOf m c).length = m
  | 0, _ => rfl
  | m + 1, c => by simp [blocksOf, blocksOf_len m]
theorem blocksOf_snoc : ∀ (m : Nat) (c : List Int), blocksOf (m + 1) c = blocksOf m c ++ [(lng c (8 * m), lng c (8 * m + 4))]
  | 0, c => by simp [blocksOf]
  | m + 1, c => by
    rw [blocksOf, blocksOf_snoc m (c.drop 8)]
    conv => rhs; rw [blocksOf]
    simp only [List.cons_append, lng_drop]
    rw [show 8 + 8 * m = 8 * (m + 1) by omega, show 8 + (8 * m + 4) = 8 * (m + 1) + 4 by omega]

theorem nameW {K : Act → World → Prop} {a : Act} {W : World} (h : ∀ W', W' = W → K a W') : K a W := h W rfl
theorem pair_cells {w : World} {g : Nat} {t : TypeId} {u v : Value} (hb : BLOCK w g t #[u, v]) (j : Nat) (x : Value) (hx : [u, v][j]? = some x) : w.cell? ((⟨g, 0, none⟩ : Addr).add j) = some x := by
  match j, hx with
  | 0, hx => exact (hb.cell 0).trans hx
  | 1, hx => exact (hb.cell 1).trans hx
theorem set_sw {L : List IT} {i j : Nat} (hij : i ≠ j) {a a' b c : IT} : (((L.set i a).set j b).set j c).set i a' = (L.set i a').set j c := by
  rw [List.set_set, List.set_comm _ _ (Ne.symm hij), List.set_set]
def lenS : Value → Nat
  | .slice _ n _ => n
  | _ => 0

/-- what the kind of blocks leaves -/
def TOOK5 (zs : List Int) (k : KN) (w0 : World) (L : List IT) (i j K : Nat) (e : Ending) (w' : World) : Prop :=
  ∃ b k' A n c, e = .returned (.bool b) ∧ n = k'.bl.length ∧ SP w0 w' ((L.set i (.blk K 32 (KNC k' A n c))).set j (.row 93 2 A n c (prs k'.bl))) ∧ (b = true → take1 5 zs k = some k') ∧ (b = false → take1 5 zs k = none)

theorem set_get_ne {L : List IT} {i j : Nat} {x y : IT} (h : L[j]? = some x) (hij : i ≠ j) : (L.set i y)[j]? = some x := by rw [List.getElem?_set_ne hij]; exact h

section
variable {w0 w : World} {L : List IT} {i j KB : Nat} {k : KN} {Ab : Option Addr} {nb cb : Nat}
set_option maxHeartbeats 2000000 in
set_option maxRecDepth 100000 in
theorem p5_any (H : SP w0 w L) (hi : L[i]? = some (.blk KB 32 (KNC k Ab nb cb))) (hj : L[j]? = some (.row 93 2 Ab nb cb (prs k.bl))) (hij : i ≠ j) (hnb : nb = k.bl.length)
    (A : Option Addr) (n c : Nat) (zs : List Int) (R : RD .u8 w0 w0.heap.size A n zs) (hz : BD 255 zs) (hnc : n ≤ c) :
    Calls Try.prog 57 #[.slice A n c, .pointer (some ⟨KB, 0, none⟩)] w (TOOK5 zs k w0 L i j KB) := by
  obtain ⟨i0, hi0, hz0, hz1, hz2⟩ := info_parts infoU8
  obtain ⟨i2, hi2, hy0, hy1, hy2⟩ := info_parts infoPair
  have hl := R.len
  have y6 : w.cell? ⟨KB, 6, none⟩ = some (.slice Ab nb cb) := H.cell i hi 6 rfl
  have d6 := H.free i hi 6
  have HN := Lib.hid ((H.same i hi).same j (set_get_ne hj hij))
  have HH := Lib.hid H
  have HI := Lib.hid hi
  have HJ := Lib.hid hj
  have hT : take1 5 zs k = if n ≠ 0 ∧ n % 8 = 0 ∧ n ≤ 32 ∧ nb = 0 then some { k with bl := blocksOf (n / 8) zs } else none := by
    unfold take1
    rw [if_neg (by decide), if_neg (by decide), if_neg (by decide), if_pos rfl, hl, hnb]
    simp only [ne_eq, List.length_eq_zero_iff]
  clear H hi hj
  have er : (n : Int).tmod 8 = ((n % 8 : Nat) : Int) := by rw [Int.tmod_eq_emod_of_nonneg (by omega)]; omega
  have er' : (n : Int) % 8 = ((n % 8 : Nat) : Int) := by omega
  by_cases h0 : n = 0
  · have HT := Lib.hid (hT.trans (if_neg (fun x => x.1 h0)))
    clear hT
    subst h0
    go_enter Try.func57, Try.ntmps57
    go_wp2_with fail
    go_ret
    exact ⟨false, k, Ab, nb, cb, rfl, hnb, HN.out, (fun h => by cases h), fun _ => HT.out⟩
  by_cases h8 : n % 8 = 0
  case neg =>
    have HT := Lib.hid (hT.trans (if_neg (fun x => h8 x.2.1)))
    clear hT
    obtain ⟨r, hr⟩ : ∃ r, n % 8 = r := ⟨_, rfl⟩
    rw [hr] at er er' h8
    have o1 : ¬ (n : Int) = 0 := by omega
    have o2 : ¬ (r : Int) = 0 := by omega
    clear hr
    go_enter Try.func57, Try.ntmps57
    go_wp2_with fail
    go_ret
    exact ⟨false, k, Ab, nb, cb, rfl, hnb, HN.out, (fun h => by cases h), fun _ => HT.out⟩
  rw [h8] at er er'
  have o1 : ¬ (n : Int) = 0 := by omega
  by_cases h32 : n ≤ 32
  case neg =>
    have HT := Lib.hid (hT.trans (if_neg (fun x => h32 x.2.2.1)))
    clear hT
    have o2 : (32 : Int) < (n : Int) := by omega
    go_enter Try.func57, Try.ntmps57
    go_wp2_with fail
    go_ret
    exact ⟨false, k, Ab, nb, cb, rfl, hnb, HN.out, (fun h => by cases h), fun _ => HT.out⟩
  have o2 : ¬ (32 : Int) < (n : Int) := by omega
  by_cases hb : nb = 0
  case neg =>
    have HT := Lib.hid (hT.trans (if_neg (fun x => hb x.2.2.2)))
    clear hT
    have o3 : (0 : Int) < (nb : Int) := by omega
    go_enter Try.func57, Try.ntmps57
    go_wp2_with fail
    go_ret
    exact ⟨false, k, Ab, nb, cb, rfl, hnb, HN.out, (fun h => by cases h), fun _ => HT.out⟩
  subst hb
  obtain ⟨q, hq⟩ : ∃ q, n = 8 * q := ⟨n / 8, by omega⟩
  have HT := Lib.hid ((hT.trans (if_pos ⟨h0, h8, h32, rfl⟩)).trans (by rw [show n / 8 = q by omega]))
  have hbl : k.bl = [] := List.length_eq_zero_iff.1 hnb.symm
  have HB := Lib.hid hbl
  have hq4 : q ≤ 4 := by omega
  have HQ := Lib.hid hq
  clear hT hq
  have HN0 := Lib.hid (show SP w0 w ((L.set i (.blk KB 32 (KNC k Ab 0 cb))).set j (.row 93 2 Ab 0 cb (prs (blocksOf 0 zs)))) by
    have := HN.out
    rw [hbl] at this
    exact this)
  have HNB := Lib.hid hnb
  clear hbl hnb HN h0 h8 h32
  go_enter Try.func57, Try.ntmps57
  go_wp2_with fail
  clear y6 d6
  go_loopw [0] (fun s0 wr => ∃ (m : Nat) (A' : Option Addr) (c' : Nat) (Ar : Option Addr) (cr : Nat), m ≤ q ∧ s0 = .slice A' (8 * (q - m)) c' ∧ 8 * (q - m) ≤ c' ∧ RD .u8 w0 w0.heap.size A' (8 * (q - m)) (zs.drop (8 * m)) ∧
      SP w0 wr ((L.set i (.blk KB 32 (KNC k Ar m cr))).set j (.row 93 2 Ar m cr (prs (blocksOf m zs))))) (fun s0 _ => lenS s0)
  case atStart =>
    have hq := HQ.out
    exact ⟨0, A, c, Ab, cb, by omega, by rw [show 8 * (q - 0) = n by omega], by omega, by rw [show 8 * (q - 0) = n by omega, Nat.mul_zero, List.drop_zero]; exact R, HN0.out⟩
  case round =>
    obtain ⟨m, A', c', Ar, cr, hm, rfl, hc', hR', hX⟩ := hrel
    have X := Lib.hid hX
    clear hX
    by_cases hmq : m = q
    · subst hmq
      have hz0' : 8 * (m - m) = 0 := by omega
      rw [hz0']
      go_wp2_with fail
      go_ret
      exact ⟨true, { k with bl := blocksOf m zs }, Ar, m, cr, rfl, (blocksOf_len m zs).symm, X.out, fun _ => HT.out, (fun h => by cases h)⟩
    have hi' := set_get_ne (j := i) (set_get (y := .blk KB 32 (KNC k Ar m cr)) HI.out) (Ne.symm hij) (y := .row 93 2 Ar m cr (prs (blocksOf m zs)))
    have hj' := set_get (y := .row 93 2 Ar m cr (prs (blocksOf m zs))) (set_get_ne (y := .blk KB 32 (KNC k Ar m cr)) HJ.out hij)
    have HI2 := Lib.hid hi'
    have HJ2 := Lib.hid hj'
    clear hi' hj'
    obtain ⟨N, hN⟩ : ∃ N, 8 * (q - m) = N := ⟨_, rfl⟩
    rw [hN] at hc' hR' ⊢
    have h8N : 8 ≤ N := by omega
    have HNN := Lib.hid hN
    have HL1 := Lib.hid (fun (W : World) (hB : Below w0.heap.size w0 W) => tclong_any A' N c' (zs.drop (8 * m)) W ((hR'.below hB).more hB.size) (hz.drop _) (by omega) hc')
    have HL2 := Lib.hid (fun (W : World) (hB : Below w0.heap.size w0 W) => tclong_any (cutA A' c' 4) (N - 4) (c' - 4) ((zs.drop (8 * m)).drop 4) W (((hR'.below hB).more hB.size).cutA (lo := 4) (by omega) hc') ((hz.drop _).drop _) (by omega) (by omega))
    have HU := Lib.hid (show lng (zs.drop (8 * m)) 0 = lng zs (8 * m) from lng_drop zs (8 * m) 0)
    have HV := Lib.hid (show lng ((zs.drop (8 * m)).drop 4) 0 = lng zs (8 * m + 4) by rw [lng_drop, lng_drop])
    have s4 := fun W => run_slice_lo (P := Try.prog) W Try.underlying22 hi0 hz1 A' N c' 4 4 rfl (by omega)
    have s8 := fun W => run_slice_lo (P := Try.prog) W Try.underlying22 hi0 hz1 A' N c' 8 8 rfl (by omega)
    have HR8 := Lib.hid (hR'.cutA (lo := 8) (by omega) hc')
    have o8 : (0 : Int) < (N : Int) := by omega
    clear hR' hN
    generalize lng (zs.drop (8 * m)) 0 = u at *
    generalize lng ((zs.drop (8 * m)).drop 4) 0 = v at *
    obtain ⟨A4, hA4⟩ : ∃ x, cutA A' c' 4 = x := ⟨_, rfl⟩
    obtain ⟨N4, hN4⟩ : ∃ x, N - 4 = x := ⟨_, rfl⟩
    obtain ⟨c4, hc4⟩ : ∃ x, c' - 4 = x := ⟨_, rfl⟩
    rw [hA4, hN4, hc4] at HL2 s4
    clear hA4 hN4 hc4
    go_upto_region 5 with fail
    refine wp_region_noPanic ?_
    refine wp_region_held_drew (S := fun _ => True) (by kernel_rfl) (by trivial) (fun hHeld => ?_)
    have X0 := Lib.hid X.out.drew
    generalize wr.drew = v0 at X0 hHeld ⊢
    refine' take_lit (i := 0) (v := _) rfl (by kernel_rfl) (by kernel_rfl) (by kernel_rfl) (fun _ _ _ h => h) (Or.inl ⟨by rfl, ?yy1⟩) (by assumption) ?rr1
    case yy1 => intro w' hSw; (try dsimp only at hSw); go_simp; try (with_reducible rfl)
    (try simp only [Act.put]); (try simp only [List.setIfInBounds_toArray, List.set_cons_zero, List.set_cons_succ])
    refine' take_lit (i := 2) (v := _) rfl (by kernel_rfl) (by kernel_rfl) (by kernel_rfl) (fun _ _ _ h => h) (Or.inl ⟨by rfl, ?yy2⟩) (by assumption) ?rr2
    case yy2 => intro w' hSw; (try dsimp only at hSw); go_simp; try (with_reducible rfl)
    (try simp only [Act.put]); (try simp only [List.setIfInBounds_toArray, List.set_cons_zero, List.set_cons_succ])
    refine' take_lit (i := 4) (v := _) rfl (by kernel_rfl) (by kernel_rfl) (by kernel_rfl) (fun _ _ _ h => h) (Or.inl ⟨by rfl, ?yy3⟩) (by assumption) ?rr3
    case yy3 => intro w' hSw; (try dsimp only at hSw); go_simp; try (with_reducible rfl)
    (try simp only [Act.put]); (try simp only [List.setIfInBounds_toArray, List.set_cons_zero, List.set_cons_succ])
    refine' take_lit (i := 5) (v := _) rfl (by kernel_rfl) (by kernel_rfl) (by kernel_rfl) (fun _ _ _ h => h) (Or.inl ⟨by rfl, ?yy4⟩) (by assumption) ?rr4
    case yy4 => intro w' hSw; (try dsimp only at hSw); go_simp; try (with_reducible rfl)
    (try simp only [Act.put]); (try simp only [List.setIfInBounds_toArray, List.set_cons_zero, List.set_cons_succ])
    refine wpAnyH_ready (rs := [1, 3]) (by kernel_rfl) (by simp) ?_
    refine cons_lit rfl (fun K hK => ?ss1x5) (cons_lit rfl (fun K hK => ?ss3x5) AllReadyH.nil)
    case ss1x5 =>
      have y1 : v0.cell? ⟨KB, 6, none⟩ = some (.slice Ar m cr) := X0.out.cell i HI2.out 6 rfl
      go_simp
      clear y1
      refine hK.out _ _ (by trivial) (fun hHeld => ?_)
      clear hK K
      (try simp only [Act.put]); (try simp only [List.setIfInBounds_toArray, List.set_cons_zero, List.set_cons_succ])
      refine wpAnyH_ready (rs := [3]) (by kernel_rfl) (by simp) ?_
      refine cons_lit rfl (fun K hK => ?ss3x6) AllReadyH.nil
      case ss3x6 =>
        go_simp
        refine (HL1.out _ X0.out.bel).mono ?_
        rintro e v2 ⟨rfl, q2, h2⟩
        have X2 := Lib.hid (h2 ▸ X0.out.drewN q2)
        clear h2
        refine hK.out _ _ (by trivial) (fun hHeld => ?_)
        clear hK K
        (try simp only [Act.put]); (try simp only [List.setIfInBounds_toArray, List.set_cons_zero, List.set_cons_succ])
        refine wpAnyH_ready (rs := [6]) (by kernel_rfl) (by simp) ?_
        refine cons_lit rfl (fun K hK => ?ss6x7) AllReadyH.nil
        case ss6x7 =>
          go_simp
          refine (HL2.out _ X2.out.bel).mono ?_
          rintro e v3 ⟨rfl, q3, h3⟩
          have X3 := Lib.hid (h3 ▸ X2.out.drewN q3)
          clear h3
          refine hK.out _ _ (by trivial) (fun hHeld => ?_)
          clear hK K
          (try simp only [Act.put]); (try simp only [List.setIfInBounds_toArray, List.set_cons_zero, List.set_cons_succ])
          refine' take_lit (i := 7) (v := _) rfl (by kernel_rfl) (by kernel_rfl) (by kernel_rfl) (fun _ _ _ h => h) (Or.inl ⟨by rfl, ?yy8⟩) (by assumption) ?rr8
          case yy8 => intro w' hSw; (try dsimp only at hSw); go_simp; try (with_reducible rfl)
          (try simp only [Act.put]); (try simp only [List.setIfInBounds_toArray, List.set_cons_zero, List.set_cons_succ])
          refine wpAnyH_ready (rs := [8]) (by kernel_rfl) (by simp) ?_
          refine cons_lit rfl (fun K hK => ?ss8x9) AllReadyH.nil
          case ss8x9 =>
            go_simp
            obtain ⟨gp, hgp⟩ : ∃ g, g = v3.heap.size := ⟨_, rfl⟩
            rw [← hgp]
            refine nameW (fun v4 hv => ?_)
            have X4 := Lib.hid (show SP w0 v4 _ by rw [hv]; exact X3.out.next ((Below.refl _ v3).alloc (Nat.le_refl _) _))
            have BP := Lib.hid (show ∀ (j : Nat) (x : Value), [Value.int .u32 u, .int .u32 v][j]? = some x → v4.cell? ((⟨gp, 0, none⟩ : Addr).add j) = some x by
              intro j x hx
              have hb : BLOCK v4 gp 93 #[.int .u32 u, .int .u32 v] := by rw [hv]; exact BLOCK.new' v3 93 _ hgp.symm
              exact pair_cells hb j x hx)
            clear hv hgp
            refine hK.out _ _ (by trivial) (fun hHeld => ?_)
            clear hK K
            (try simp only [Act.put]); (try simp only [List.setIfInBounds_toArray, List.set_cons_zero, List.set_cons_succ])
            refine wpAnyH_ready (rs := [9]) (by kernel_rfl) (by simp) ?_
            refine cons_lit rfl (fun K hK => ?ss9x10) AllReadyH.nil
            case ss9x10 =>
              refine step_append_row _ (by rfl) _ _ 30 (by rfl) w0.heap.size 93 i2 _ 2 8 Try.underlying30 hi2 hy0 hy1 hy2 (by rfl) (by decide) Ar m cr (prs (blocksOf m zs)) (by rfl) (by exact X4.out.row j HJ2.out) ⟨gp, 0, none⟩ 1 1 [.int .u32 u, .int .u32 v] (by rfl) (by rfl) (by exact BP.out) (by intro z hz; simp at hz; rcases hz with rfl | rfl <;> rfl) (by simp only [maxLen]; omega) (by omega) (by exact X4.out.size) ?_
              intro Ar' cr' v5 hrow hgrow hat
              have X5 := Lib.hid (X4.out.appRow j HJ2.out hrow hgrow hat)
              clear hrow hgrow hat
              refine hK.out _ _ (by trivial) (fun hHeld => ?_)
              clear hK K
              (try simp only [Act.put]); (try simp only [List.setIfInBounds_toArray, List.set_cons_zero, List.set_cons_succ])
              refine' take_lit (i := 10) (v := _) rfl (by kernel_rfl) (by kernel_rfl) (by kernel_rfl) (fun _ _ _ h => h) (Or.inl ⟨by rfl, ?yy11⟩) (by assumption) ?rr11
              case yy11 => intro w' hSw; (try dsimp only at hSw); go_simp; try (with_reducible rfl)
              (try simp only [Act.put]); (try simp only [List.setIfInBounds_toArray, List.set_cons_zero, List.set_cons_succ])
              refine wpAnyH_ready (rs := [11]) (by kernel_rfl) (by simp) ?_
              refine cons_lit rfl (fun K hK => ?ss11x12) AllReadyH.nil
              case ss11x12 =>
                have HI3 := Lib.hid (set_get_ne (y := .row 93 2 Ar' (m + 1) cr' (prs (blocksOf m zs) ++ [.int .u32 u, .int .u32 v])) HI2.out (Ne.symm hij))
                have yk : v5.cell? ⟨KB, 6, none⟩ = some (.slice Ar m cr) := X5.out.cell i HI3.out 6 rfl
                have fk := X5.out.free i HI3.out 6
                go_simp
                have Z := Lib.hid (X5.out.setB i HI3.out 6 (.slice Ar' (m + 1) cr'))
                clear yk fk
                refine hK.out _ _ (by trivial) (fun hHeld => ?_)
                clear hK K
                (try simp only [Act.put]); (try simp only [List.setIfInBounds_toArray, List.set_cons_zero, List.set_cons_succ])
                refine wpAnyH_done (by kernel_rfl) ?_ _
                refine NoPanic.normal ?_
                go_wp2_with fail
                go_roundw
                case rel =>
                  have hz' := Z.out
                  rw [set_sw hij] at hz'
                  have hN := HNN.out
                  refine ⟨m + 1, cutA A' c' 8, c' - 8, Ar', cr', by omega, by rw [show 8 * (q - (m + 1)) = N - 8 by omega], by omega, ?_, ?_⟩
                  · have h8 := HR8.out
                    rw [List.drop_drop, show 8 * m + 8 = 8 * (m + 1) by omega, show N - 8 = 8 * (q - (m + 1)) by omega] at h8
                    exact h8
                  · rw [blocksOf_snoc, prs_append, ← HU.out, ← HV.out]
                    exact hz'
                case measure => show N - 8 < N; omega
    case ss3x5 =>
      go_simp
      refine (HL1.out _ X0.out.bel).mono ?_
      rintro e v1 ⟨rfl, q1, h1⟩
      have X1 := Lib.hid (h1 ▸ X0.out.drewN q1)
      clear h1
      refine hK.out _ _ (by trivial) (fun hHeld => ?_)
      clear hK K
      (try simp only [Act.put]); (try simp only [List.setIfInBounds_toArray, List.set_cons_zero, List.set_cons_succ])
      refine wpAnyH_ready (rs := [1, 6]) (by kernel_rfl) (by simp) ?_
      refine cons_lit rfl (fun K hK => ?ss1x13) (cons_lit rfl (fun K hK => ?ss6x13) AllReadyH.nil)
      case ss1x13 =>
        have y6 : v1.cell? ⟨KB, 6, none⟩ = some (.slice Ar m cr) := X1.out.cell i HI2.out 6 rfl
        go_simp
        clear y6
        refine hK.out _ _ (by trivial) (fun hHeld => ?_)
        clear hK K
        (try simp only [Act.put]); (try simp only [List.setIfInBounds_toArray, List.set_cons_zero, List.set_cons_succ])
        refine wpAnyH_ready (rs := [6]) (by kernel_rfl) (by simp) ?_
        refine cons_lit rfl (fun K hK => ?ss6x14) AllReadyH.nil
        case ss6x14 =>
          go_simp
          refine (HL2.out _ X1.out.bel).mono ?_
          rintro e v7 ⟨rfl, q7, h7⟩
          have X7 := Lib.hid (h7 ▸ X1.out.drewN q7)
          clear h7
          refine hK.out _ _ (by trivial) (fun hHeld => ?_)
          clear hK K
          (try simp only [Act.put]); (try simp only [List.setIfInBounds_toArray, List.set_cons_zero, List.set_cons_succ])
          refine' take_lit (i := 7) (v := _) rfl (by kernel_rfl) (by kernel_rfl) (by kernel_rfl) (fun _ _ _ h => h) (Or.inl ⟨by rfl, ?yy15⟩) (by assumption) ?rr15
          case yy15 => intro w' hSw; (try dsimp only at hSw); go_simp; try (with_reducible rfl)
          (try simp only [Act.put]); (try simp only [List.setIfInBounds_toArray, List.set_cons_zero, List.set_cons_succ])
          refine wpAnyH_ready (rs := [8]) (by kernel_rfl) (by simp) ?_
          refine cons_lit rfl (fun K hK => ?ss8x16) AllReadyH.nil
          case ss8x16 =>
            go_simp
            obtain ⟨gp, hgp⟩ : ∃ g, g = v7.heap.size := ⟨_, rfl⟩
            rw [← hgp]
            refine nameW (fun v8 hv => ?_)
            have X8 := Lib.hid (show SP w0 v8 _ by rw [hv]; exact X7.out.next ((Below.refl _ v7).alloc (Nat.le_refl _) _))
            have BP := Lib.hid (show ∀ (j : Nat) (x : Value), [Value.int .u32 u, .int .u32 v][j]? = some x → v8.cell? ((⟨gp, 0, none⟩ : Addr).add j) = some x by
              intro j x hx
              have hb : BLOCK v8 gp 93 #[.int .u32 u, .int .u32 v] := by rw [hv]; exact BLOCK.new' v7 93 _ hgp.symm
              exact pair_cells hb j x hx)
            clear hv hgp
            refine hK.out _ _ (by trivial) (fun hHeld => ?_)
            clear hK K
            (try simp only [Act.put]); (try simp only [List.setIfInBounds_toArray, List.set_cons_zero, List.set_cons_succ])
            refine wpAnyH_ready (rs := [9]) (by kernel_rfl) (by simp) ?_
            refine cons_lit rfl (fun K hK => ?ss9x17) AllReadyH.nil
            case ss9x17 =>
              refine step_append_row _ (by rfl) _ _ 30 (by rfl) w0.heap.size 93 i2 _ 2 8 Try.underlying30 hi2 hy0 hy1 hy2 (by rfl) (by decide) Ar m cr (prs (blocksOf m zs)) (by rfl) (by exact X8.out.row j HJ2.out) ⟨gp, 0, none⟩ 1 1 [.int .u32 u, .int .u32 v] (by rfl) (by rfl) (by exact BP.out) (by intro z hz; simp at hz; rcases hz with rfl | rfl <;> rfl) (by simp only [maxLen]; omega) (by omega) (by exact X8.out.size) ?_
              intro Ar' cr' v9 hrow hgrow hat
              have X9 := Lib.hid (X8.out.appRow j HJ2.out hrow hgrow hat)
              clear hrow hgrow hat
              refine hK.out _ _ (by trivial) (fun hHeld => ?_)
              clear hK K
              (try simp only [Act.put]); (try simp only [List.setIfInBounds_toArray, List.set_cons_zero, List.set_cons_succ])
              refine' take_lit (i := 10) (v := _) rfl (by kernel_rfl) (by kernel_rfl) (by kernel_rfl) (fun _ _ _ h => h) (Or.inl ⟨by rfl, ?yy18⟩) (by assumption) ?rr18
              case yy18 => intro w' hSw; (try dsimp only at hSw); go_simp; try (with_reducible rfl)
              (try simp only [Act.put]); (try simp only [List.setIfInBounds_toArray, List.set_cons_zero, List.set_cons_succ])
              refine wpAnyH_ready (rs := [11]) (by kernel_rfl) (by simp) ?_
              refine cons_lit rfl (fun K hK => ?ss11x19) AllReadyH.nil
              case ss11x19 =>
                have HI3 := Lib.hid (set_get_ne (y := .row 93 2 Ar' (m + 1) cr' (prs (blocksOf m zs) ++ [.int .u32 u, .int .u32 v])) HI2.out (Ne.symm hij))
                have yk : v9.cell? ⟨KB, 6, none⟩ = some (.slice Ar m cr) := X9.out.cell i HI3.out 6 rfl
                have fk := X9.out.free i HI3.out 6
                go_simp
                have Z := Lib.hid (X9.out.setB i HI3.out 6 (.slice Ar' (m + 1) cr'))
                clear yk fk
                refine hK.out _ _ (by trivial) (fun hHeld => ?_)
                clear hK K
                (try simp only [Act.put]); (try simp only [List.setIfInBounds_toArray, List.set_cons_zero, List.set_cons_succ])
                refine wpAnyH_done (by kernel_rfl) ?_ _
                refine NoPanic.normal ?_
                go_wp2_with fail
                go_roundw
                case rel =>
                  have hz' := Z.out
                  rw [set_sw hij] at hz'
                  have hN := HNN.out
                  refine ⟨m + 1, cutA A' c' 8, c' - 8, Ar', cr', by omega, by rw [show 8 * (q - (m + 1)) = N - 8 by omega], by omega, ?_, ?_⟩
                  · have h8 := HR8.out
                    rw [List.drop_drop, show 8 * m + 8 = 8 * (m + 1) by omega, show N - 8 = 8 * (q - (m + 1)) by omega] at h8
                    exact h8
                  · rw [blocksOf_snoc, prs_append, ← HU.out, ← HV.out]
                    exact hz'
                case measure => show N - 8 < N; omega
      case ss6x13 =>
        go_simp
        refine (HL2.out _ X1.out.bel).mono ?_
        rintro e v6 ⟨rfl, q6, h6⟩
        have X6 := Lib.hid (h6 ▸ X1.out.drewN q6)
        clear h6
        refine hK.out _ _ (by trivial) (fun hHeld => ?_)
        clear hK K
        (try simp only [Act.put]); (try simp only [List.setIfInBounds_toArray, List.set_cons_zero, List.set_cons_succ])
        refine' take_lit (i := 7) (v := _) rfl (by kernel_rfl) (by kernel_rfl) (by kernel_rfl) (fun _ _ _ h => h) (Or.inl ⟨by rfl, ?yy20⟩) (by assumption) ?rr20
        case yy20 => intro w' hSw; (try dsimp only at hSw); go_simp; try (with_reducible rfl)
        (try simp only [Act.put]); (try simp only [List.setIfInBounds_toArray, List.set_cons_zero, List.set_cons_succ])
        refine wpAnyH_ready (rs := [1, 8]) (by kernel_rfl) (by simp) ?_
        refine cons_lit rfl (fun K hK => ?ss1x21) (cons_lit rfl (fun K hK => ?ss8x21) AllReadyH.nil)
        case ss1x21 =>
          have y10 : v6.cell? ⟨KB, 6, none⟩ = some (.slice Ar m cr) := X6.out.cell i HI2.out 6 rfl
          go_simp
          clear y10
          refine hK.out _ _ (by trivial) (fun hHeld => ?_)
          clear hK K
          (try simp only [Act.put]); (try simp only [List.setIfInBounds_toArray, List.set_cons_zero, List.set_cons_succ])
          refine wpAnyH_ready (rs := [8]) (by kernel_rfl) (by simp) ?_
          refine cons_lit rfl (fun K hK => ?ss8x22) AllReadyH.nil
          case ss8x22 =>
            go_simp
            obtain ⟨gp, hgp⟩ : ∃ g, g = v6.heap.size := ⟨_, rfl⟩
            rw [← hgp]
            refine nameW (fun v11 hv => ?_)
            have X11 := Lib.hid (show SP w0 v11 _ by rw [hv]; exact X6.out.next ((Below.refl _ v6).alloc (Nat.le_refl _) _))
            have BP := Lib.hid (show ∀ (j : Nat) (x : Value), [Value.int .u32 u, .int .u32 v][j]? = some x → v11.cell? ((⟨gp, 0, none⟩ : Addr).add j) = some x by
              intro j x hx
              have hb : BLOCK v11 gp 93 #[.int .u32 u, .int .u32 v] := by rw [hv]; exact BLOCK.new' v6 93 _ hgp.symm
              exact pair_cells hb j x hx)
            clear hv hgp
            refine hK.out _ _ (by trivial) (fun hHeld => ?_)
            clear hK K
            (try simp only [Act.put]); (try simp only [List.setIfInBounds_toArray, List.set_cons_zero, List.set_cons_succ])
            refine wpAnyH_ready (rs := [9]) (by kernel_rfl) (by simp) ?_
            refine cons_lit rfl (fun K hK => ?ss9x23) AllReadyH.nil
            case ss9x23 =>
              refine step_append_row _ (by rfl) _ _ 30 (by rfl) w0.heap.size 93 i2 _ 2 8 Try.underlying30 hi2 hy0 hy1 hy2 (by rfl) (by decide) Ar m cr (prs (blocksOf m zs)) (by rfl) (by exact X11.out.row j HJ2.out) ⟨gp, 0, none⟩ 1 1 [.int .u32 u, .int .u32 v] (by rfl) (by rfl) (by exact BP.out) (by intro z hz; simp at hz; rcases hz with rfl | rfl <;> rfl) (by simp only [maxLen]; omega) (by omega) (by exact X11.out.size) ?_
              intro Ar' cr' v12 hrow hgrow hat
              have X12 := Lib.hid (X11.out.appRow j HJ2.out hrow hgrow hat)
              clear hrow hgrow hat
              refine hK.out _ _ (by trivial) (fun hHeld => ?_)
              clear hK K
              (try simp only [Act.put]); (try simp only [List.setIfInBounds_toArray, List.set_cons_zero, List.set_cons_succ])
              refine' take_lit (i := 10) (v := _) rfl (by kernel_rfl) (by kernel_rfl) (by kernel_rfl) (fun _ _ _ h => h) (Or.inl ⟨by rfl, ?yy24⟩) (by assumption) ?rr24
              case yy24 => intro w' hSw; (try dsimp only at hSw); go_simp; try (with_reducible rfl)
              (try simp only [Act.put]); (try simp only [List.setIfInBounds_toArray, List.set_cons_zero, List.set_cons_succ])
              refine wpAnyH_ready (rs := [11]) (by kernel_rfl) (by simp) ?_
              refine cons_lit rfl (fun K hK => ?ss11x25) AllReadyH.nil
              case ss11x25 =>
                have HI3 := Lib.hid (set_get_ne (y := .row 93 2 Ar' (m + 1) cr' (prs (blocksOf m zs) ++ [.int .u32 u, .int .u32 v])) HI2.out (Ne.symm hij))
                have yk : v12.cell? ⟨KB, 6, none⟩ = some (.slice Ar m cr) := X12.out.cell i HI3.out 6 rfl
                have fk := X12.out.free i HI3.out 6
                go_simp
                have Z := Lib.hid (X12.out.setB i HI3.out 6 (.slice Ar' (m + 1) cr'))
                clear yk fk
                refine hK.out _ _ (by trivial) (fun hHeld => ?_)
                clear hK K
                (try simp only [Act.put]); (try simp only [List.setIfInBounds_toArray, List.set_cons_zero, List.set_cons_succ])
                refine wpAnyH_done (by kernel_rfl) ?_ _
                refine NoPanic.normal ?_
                go_wp2_with fail
                go_roundw
                case rel =>
                  have hz' := Z.out
                  rw [set_sw hij] at hz'
                  have hN := HNN.out
                  refine ⟨m + 1, cutA A' c' 8, c' - 8, Ar', cr', by omega, by rw [show 8 * (q - (m + 1)) = N - 8 by omega], by omega, ?_, ?_⟩
                  · have h8 := HR8.out
                    rw [List.drop_drop, show 8 * m + 8 = 8 * (m + 1) by omega, show N - 8 = 8 * (q - (m + 1)) by omega] at h8
                    exact h8
                  · rw [blocksOf_snoc, prs_append, ← HU.out, ← HV.out]
                    exact hz'
                case measure => show N - 8 < N; omega
        case ss8x21 =>
          go_simp
          obtain ⟨gp, hgp⟩ : ∃ g, g = v6.heap.size := ⟨_, rfl⟩
          rw [← hgp]
          refine nameW (fun v10 hv => ?_)
          have X10 := Lib.hid (show SP w0 v10 _ by rw [hv]; exact X6.out.next ((Below.refl _ v6).alloc (Nat.le_refl _) _))
          have BP := Lib.hid (show ∀ (j : Nat) (x : Value), [Value.int .u32 u, .int .u32 v][j]? = some x → v10.cell? ((⟨gp, 0, none⟩ : Addr).add j) = some x by
            intro j x hx
            have hb : BLOCK v10 gp 93 #[.int .u32 u, .int .u32 v] := by rw [hv]; exact BLOCK.new' v6 93 _ hgp.symm
            exact pair_cells hb j x hx)
          clear hv hgp
          refine hK.out _ _ (by trivial) (fun hHeld => ?_)
          clear hK K
          (try simp only [Act.put]); (try simp only [List.setIfInBounds_toArray, List.set_cons_zero, List.set_cons_succ])
          refine wpAnyH_ready (rs := [1]) (by kernel_rfl) (by simp) ?_
          refine cons_lit rfl (fun K hK => ?ss1x26) AllReadyH.nil
          case ss1x26 =>
            have y13 : v10.cell? ⟨KB, 6, none⟩ = some (.slice Ar m cr) := X10.out.cell i HI2.out 6 rfl
            go_simp
            clear y13
            refine hK.out _ _ (by trivial) (fun hHeld => ?_)
            clear hK K
            (try simp only [Act.put]); (try simp only [List.setIfInBounds_toArray, List.set_cons_zero, List.set_cons_succ])
            refine wpAnyH_ready (rs := [9]) (by kernel_rfl) (by simp) ?_
            refine cons_lit rfl (fun K hK => ?ss9x27) AllReadyH.nil
            case ss9x27 =>
              refine step_append_row _ (by rfl) _ _ 30 (by rfl) w0.heap.size 93 i2 _ 2 8 Try.underlying30 hi2 hy0 hy1 hy2 (by rfl) (by decide) Ar m cr (prs (blocksOf m zs)) (by rfl) (by exact X10.out.row j HJ2.out) ⟨gp, 0, none⟩ 1 1 [.int .u32 u, .int .u32 v] (by rfl) (by rfl) (by exact BP.out) (by intro z hz; simp at hz; rcases hz with rfl | rfl <;> rfl) (by simp only [maxLen]; omega) (by omega) (by exact X10.out.size) ?_
              intro Ar' cr' v14 hrow hgrow hat
              have X14 := Lib.hid (X10.out.appRow j HJ2.out hrow hgrow hat)
              clear hrow hgrow hat
              refine hK.out _ _ (by trivial) (fun hHeld => ?_)
              clear hK K
              (try simp only [Act.put]); (try simp only [List.setIfInBounds_toArray, List.set_cons_zero, List.set_cons_succ])
              refine' take_lit (i := 10) (v := _) rfl (by kernel_rfl) (by kernel_rfl) (by kernel_rfl) (fun _ _ _ h => h) (Or.inl ⟨by rfl, ?yy28⟩) (by assumption) ?rr28
              case yy28 => intro w' hSw; (try dsimp only at hSw); go_simp; try (with_reducible rfl)
              (try simp only [Act.put]); (try simp only [List.setIfInBounds_toArray, List.set_cons_zero, List.set_cons_succ])
              refine wpAnyH_ready (rs := [11]) (by kernel_rfl) (by simp) ?_
              refine cons_lit rfl (fun K hK => ?ss11x29) AllReadyH.nil
              case ss11x29 =>
                have HI3 := Lib.hid (set_get_ne (y := .row 93 2 Ar' (m + 1) cr' (prs (blocksOf m zs) ++ [.int .u32 u, .int .u32 v])) HI2.out (Ne.symm hij))
                have yk : v14.cell? ⟨KB, 6, none⟩ = some (.slice Ar m cr) := X14.out.cell i HI3.out 6 rfl
                have fk := X14.out.free i HI3.out 6
                go_simp
                have Z := Lib.hid (X14.out.setB i HI3.out 6 (.slice Ar' (m + 1) cr'))
                clear yk fk
                refine hK.out _ _ (by trivial) (fun hHeld => ?_)
                clear hK K
                (try simp only [Act.put]); (try simp only [List.setIfInBounds_toArray, List.set_cons_zero, List.set_cons_succ])
                refine wpAnyH_done (by kernel_rfl) ?_ _
                refine NoPanic.normal ?_
                go_wp2_with fail
                go_roundw
                case rel =>
                  have hz' := Z.out
                  rw [set_sw hij] at hz'
                  have hN := HNN.out
                  refine ⟨m + 1, cutA A' c' 8, c' - 8, Ar', cr', by omega, by rw [show 8 * (q - (m + 1)) = N - 8 by omega], by omega, ?_, ?_⟩
                  · have h8 := HR8.out
                    rw [List.drop_drop, show 8 * m + 8 = 8 * (m + 1) by omega, show N - 8 = 8 * (q - (m + 1)) by omega] at h8
                    exact h8
                  · rw [blocksOf_snoc, prs_append, ← HU.out, ← HV.out]
                    exact hz'
                case measure => show N - 8 < N; omega
end
end Go.Proofs.Ythdpcblmmjocmaa
