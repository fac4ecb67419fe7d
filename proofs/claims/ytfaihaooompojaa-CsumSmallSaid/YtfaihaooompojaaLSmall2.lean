/- The walk of CsumSmall. -/
import Derived.Test.YtfaihaooompojaaWTells2
import Derived.Test.YtfaihaooompojaaWAwake2
import Derived.Test.YtfaihaooompojaaLNumbers2
import Derived.Deep.RegionHeld3
import Derived.Outline
namespace Go.Proofs.Ytfaihaooompojaa
open Go.RowKit
set_option linter.unusedVariables false

theorem row_new (w : World) (k : IntKind) (t : TypeId) (m : Int) (zs : List Int) (hb : BD m zs) (hl : zs.length ≤ maxLen) :
    ROW k m (w.alloc (.cells (zs.map (Value.int k)).toArray t)) (some ⟨w.heap.size, 0, none⟩) zs.length zs.length zs :=
  ⟨RD.new w k t zs, hb, Nat.le_refl _, hl, (fun h => by cases h), (fun x hx _ => by cases hx; rfl), (fun x hx _ => by cases hx; simp)⟩
theorem row_nil (w : World) (k : IntKind) (m : Int) : ROW k m w none 0 0 [] :=
  ⟨RD.nil, (fun x hx => by cases hx), Nat.le_refl _, Nat.zero_le _, (fun _ => ⟨rfl, rfl⟩), (fun x hx => by cases hx), (fun x hx => by cases hx)⟩
theorem row_own {k : IntKind} {e : TypeId} {w : World} {m : Int} {base n c : Nat} {A : Option Addr} {zs : List Int} (h : OWN k e w base A n c zs) (hb : BD m zs) : ROW k m w A n c zs := by
  refine ⟨h.rd, hb, h.le.1, h.le.2, ?_, ?_, ?_⟩
  all_goals rcases h.cases with ⟨rfl, rfl, rfl, _⟩ | ⟨g, rfl, _, hg, _⟩
  · exact fun _ => ⟨rfl, rfl⟩
  · intro hh; cases hh
  · intro x hx; cases hx
  · intro x hx _; cases hx; rfl
  · intro x hx; cases hx
  · intro x hx _; cases hx; exact hg

theorem bd_set {m : Int} {zs : List Int} (h : BD m zs) (i : Nat) {x : Int} (hx : 0 ≤ x ∧ x ≤ m) : BD m (zs.set i x) := fun y hy => by
  rcases List.mem_or_eq_of_mem_set hy with hy | rfl
  · exact h y hy
  · exact hx
theorem ROW.drew {k : IntKind} {m : Int} {w : World} {A : Option Addr} {n c : Nat} {zs : List Int} (h : ROW k m w A n c zs) : ROW k m w.drew A n c zs := ⟨h.rd, h.bd, h.le, h.cap, h.nil, h.at_, h.far⟩
theorem bits32 (o : BinOp) (a b : Int) : 0 ≤ bits o .u32 a b ∧ bits o .u32 a b ≤ 4294967295 := by
  unfold bits
  simp only []
  have h : ∀ x : Int, 0 ≤ IntKind.u32.wrap x ∧ IntKind.u32.wrap x ≤ 4294967295 := fun x => by
    have : IntKind.u32.wrap x = x % 4294967296 := by simp [IntKind.wrap, IntKind.signed, IntKind.bits]
    omega
  exact h _
def some7 : List Int := [0, 1, 2, 127, 128, 254, 255]
def some9 : List Int := [0, 1, 255, 256, 32767, 32768, 65279, 65534, 65535]
theorem some7_bd : BD 255 some7 := bd_all (by decide)
theorem some9_bd : BD 65535 some9 := bd_all (by decide)

set_option maxHeartbeats 4000000 in
set_option maxRecDepth 100000 in
theorem csumSmall_walk (w : World) : Calls Try.prog 7 #[] w fun e w' => e = .returned (.bool true) ∧ Below w.heap.size w w' := by
  have r7 : RD .u8 (w.alloc (.cells (some7.map (Value.int .u8)).toArray 5)) (w.heap.size + 1) (some ⟨w.heap.size, 0, none⟩) 7 some7 := RD.new' w .u8 5 some7 rfl (by omega) rfl
  have H1 : Below w.heap.size w (w.alloc (.cells (some7.map (Value.int .u8)).toArray 5)) := (Below.refl _ _).alloc (Nat.le_refl _) _
  go_enter Try.func7, Try.ntmps7
  go_wp2_with fail
  obtain ⟨w1, hw1⟩ : ∃ w1, w1 = w.alloc (.cells (some7.map (Value.int .u8)).toArray 5) := ⟨_, rfl⟩
  have e7 : w.alloc (.cells #[.int .u8 0, .int .u8 1, .int .u8 2, .int .u8 127, .int .u8 128, .int .u8 254, .int .u8 255] 5) = w1 := hw1.symm
  have hs1 : w1.heap.size = w.heap.size + 1 := by rw [hw1]; simp
  rw [← hw1] at r7 H1
  rw [e7]
  clear hw1 e7
  go_loopw [16] (fun i wr => ∃ k : Nat, k ≤ 343 ∧ i = .int .i64 k ∧ Below (w.heap.size + 1) w1 wr) (fun i _ => 343 - (intOf i).toNat)
  case atStart => exact ⟨0, Nat.zero_le _, rfl, Below.refl _ _⟩
  case round =>
    obtain ⟨k, hk, rfl, HB⟩ := hrel
    obtain ⟨wo, rfl⟩ : ∃ wo : World, wo = wr := ⟨_, rfl⟩
    have r7' := r7.below HB
    by_cases hlt : k < 343
    · obtain ⟨g, off, hg, hgb, hc⟩ := r7'.2 (by omega)
      simp at hg
      obtain ⟨rfl, rfl⟩ := hg
      obtain ⟨a1, ha1⟩ : ∃ a, a = k % 7 := ⟨_, rfl⟩
      obtain ⟨q2, hq2⟩ : ∃ a, a = k / 7 := ⟨_, rfl⟩
      obtain ⟨a2, ha2⟩ : ∃ a, a = q2 % 7 := ⟨_, rfl⟩
      obtain ⟨a3, ha3⟩ : ∃ a, a = k / 49 := ⟨_, rfl⟩
      have x1 := hc a1 (by omega)
      have x2 := hc a2 (by omega)
      have x3 := hc a3 (by omega)
      simp only [Nat.zero_add] at x1 x2 x3
      obtain ⟨b1, b1'⟩ := some7_bd.get (by omega) a1
      obtain ⟨b2, b2'⟩ := some7_bd.get (by omega) a2
      obtain ⟨b3, b3'⟩ := some7_bd.get (by omega) a3
      generalize some7[a1]?.getD 0 = z1 at *
      generalize some7[a2]?.getD 0 = z2 at *
      generalize some7[a3]?.getD 0 = z3 at *
      clear hc
      have i0 : (0 : Int) ≤ (k : Int) := by omega
      have i1 : (0 : Int) ≤ (a1 : Int) := by omega
      have i2 : (0 : Int) ≤ (a2 : Int) := by omega
      have i3 : (0 : Int) ≤ (a3 : Int) := by omega
      have j1 : (a1 : Int) < 7 := by omega
      have j2 : (a2 : Int) < 7 := by omega
      have j3 : (a3 : Int) < 7 := by omega
      have m1 : (k : Int).tmod 7 = (a1 : Int) := by rw [Int.tmod_eq_emod_of_nonneg (by omega)]; omega
      have m2 : (k : Int).tdiv 7 = (q2 : Int) := by rw [Int.tdiv_eq_ediv_of_nonneg (by omega)]; omega
      have m3 : (q2 : Int).tmod 7 = (a2 : Int) := by rw [Int.tmod_eq_emod_of_nonneg (by omega)]; omega
      have m4 : (k : Int).tdiv 49 = (a3 : Int) := by rw [Int.tdiv_eq_ediv_of_nonneg (by omega)]; omega
      have m5 : IntKind.i64.wrap (q2 : Int) = (q2 : Int) := IntWalk.i64_in _ (by omega)
      have m6 : IntKind.i64.wrap (a3 : Int) = (a3 : Int) := IntWalk.i64_in _ (by omega)
      clear ha1 hq2 ha2 ha3
      go_wp2_with fail
      go_region_held3 (fun w' => w'.cell? ⟨w.heap.size, a1, none⟩ = some (.int .u8 z1) ∧ w'.cell? ⟨w.heap.size, a2, none⟩ = some (.int .u8 z2) ∧ w'.cell? ⟨w.heap.size, a3, none⟩ = some (.int .u8 z3)) (go_keep) (fail)
      go_wp2_with fail
      have r3 : RD .u8 ((wo.alloc (.cells #[.int .u8 z1, .int .u8 z2, .int .u8 z3] 5)).drew) (wo.heap.size + 1) (some ⟨wo.heap.size, 0, none⟩) 3 [z1, z2, z3] := RD.new' wo .u8 5 [z1, z2, z3] rfl (by omega) rfl
      have H2 : Below (w.heap.size + 1) w1 ((wo.alloc (.cells #[.int .u8 z1, .int .u8 z2, .int .u8 z3] 5)).drew) := (HB.alloc (by have := HB.size; omega) _).drew
      have hG : ((wo.alloc (.cells #[.int .u8 z1, .int .u8 z2, .int .u8 z3] 5)).drew).heap.size = wo.heap.size + 1 := by simp
      have hbd : BD 255 [z1, z2, z3] := fun x hx => by simp at hx; omega
      generalize (wo.alloc (.cells #[.int .u8 z1, .int .u8 z2, .int .u8 z3] 5)).drew = w2 at r3 H2 hG ⊢
      have hsz := H2.size
      generalize hGn : wo.heap.size = G at *
      clear x1 x2 x3 b1 b1' b2 b2' b3 b3' i1 i2 i3 j1 j2 j3 m1 m2 m3 m4 m5 m6 hGn HB r7 r7' hgb
      have p1 : IntKind.u16.wrap (k : Int) = (k : Int) := u16_in _ (by omega) (by omega)
      have p2 : IntKind.u16.wrap ((k : Int) * 191) = (k : Int) * 191 := u16_in _ (by omega) (by omega)
      go_loopw [36] (fun i wr => ∃ s : Nat, s ≤ 4 ∧ i = .int .i64 s ∧ Below (G + 1) w2 wr) (fun i _ => 4 - (intOf i).toNat)
      case atStart => exact ⟨0, Nat.zero_le _, rfl, Below.refl _ _⟩
      case round =>
        obtain ⟨s, hs, rfl, HB⟩ := hrel
        obtain ⟨wp, rfl⟩ : ∃ wp : World, wp = wr := ⟨_, rfl⟩
        by_cases hls : s < 4
        · have hdec : decide ((s : Int) < 4) = true := by simp; omega
          go_wp2_with fail
          go_loopw [5] (fun i wr => ∃ q : Int, -2 ≤ q ∧ q ≤ 5 ∧ i = .int .i64 q ∧ Below (G + 1) w2 wr) (fun i _ => (5 - intOf i).toNat)
          case atStart => exact ⟨-2, by omega, by omega, rfl, HB⟩
          case round =>
            obtain ⟨q, hq1, hq2, rfl, HB⟩ := hrel
            have hsz2 := HB.size
            by_cases hlq : q < 5
            · have r4 : RD .u8 wr wr.heap.size (some ⟨G, 0, none⟩) s ([z1, z2, z3].take s) := ((r3.below HB).more (by omega)).take (by omega)
              have hbd2 : BD 255 ([z1, z2, z3].take s) := hbd.take s
              go_wp2_with (go_at_call 14; refine (tells2_any _ s 3 _ q _ wr r4 hbd2 (by omega) (by omega) (by omega) (by omega)).mono ?_; rintro e w3 ⟨rfl, hb⟩)
              go_roundw
              case rel => exact ⟨q + 1, by omega, by omega, rfl, HB.trans (hb.mono (by omega))⟩
              case measure => simp [intOf]; omega
            · go_wp2_with fail
              go_roundw
              case rel => exact ⟨s + 1, by omega, by go_num, HB⟩
              case measure => simp [intOf]; omega
        · go_wp2_with fail
          go_roundw
          case rel => exact ⟨k + 1, by omega, by go_num, H2.trans (HB.mono (by omega))⟩
          case measure => simp [intOf]; omega
    · go_wp2_with fail
      have hsz := HB.size
      have H2 : Below (w.heap.size + 1) w1 (wo.alloc (.cells (some9.map (Value.int .u16)).toArray 29)) := HB.alloc (by omega) _
      have r9 : RD .u16 (wo.alloc (.cells (some9.map (Value.int .u16)).toArray 29)) (wo.heap.size + 1) (some ⟨wo.heap.size, 0, none⟩) 9 some9 := RD.new' wo .u16 29 some9 rfl (by omega) rfl
      have hG : (wo.alloc (.cells (some9.map (Value.int .u16)).toArray 29)).heap.size = wo.heap.size + 1 := by simp
      have e9 : wo.alloc (.cells #[.int .u16 0, .int .u16 1, .int .u16 255, .int .u16 256, .int .u16 32767, .int .u16 32768, .int .u16 65279, .int .u16 65534, .int .u16 65535] 29) = wo.alloc (.cells (some9.map (Value.int .u16)).toArray 29) := rfl
      rw [e9]
      clear e9
      generalize wo.alloc (.cells (some9.map (Value.int .u16)).toArray 29) = w2 at r9 H2 hG ⊢
      generalize hGn : wo.heap.size = G at *
      clear HB r7 r7' hGn
      go_loopw [55] (fun i wr => ∃ k : Nat, k ≤ 729 ∧ i = .int .i64 k ∧ Below (G + 1) w2 wr) (fun i _ => 729 - (intOf i).toNat)
      case atStart => exact ⟨0, Nat.zero_le _, rfl, Below.refl _ _⟩
      case round =>
        obtain ⟨k, hk, rfl, HB⟩ := hrel
        obtain ⟨wp, rfl⟩ : ∃ wp : World, wp = wr := ⟨_, rfl⟩
        have r9' := r9.below HB
        have hsz2 := HB.size
        by_cases hlt : k < 729
        · obtain ⟨g, off, hg, hgb, hc⟩ := r9'.2 (by omega)
          simp at hg
          obtain ⟨rfl, rfl⟩ := hg
          obtain ⟨a1, ha1⟩ : ∃ a, a = k % 9 := ⟨_, rfl⟩
          obtain ⟨q2, hq2⟩ : ∃ a, a = k / 9 := ⟨_, rfl⟩
          obtain ⟨a2, ha2⟩ : ∃ a, a = q2 % 9 := ⟨_, rfl⟩
          obtain ⟨a3, ha3⟩ : ∃ a, a = k / 81 := ⟨_, rfl⟩
          have x1 := hc a1 (by omega)
          have x2 := hc a2 (by omega)
          have x3 := hc a3 (by omega)
          simp only [Nat.zero_add] at x1 x2 x3
          obtain ⟨b1, b1'⟩ := some9_bd.get (by omega) a1
          obtain ⟨b2, b2'⟩ := some9_bd.get (by omega) a2
          obtain ⟨b3, b3'⟩ := some9_bd.get (by omega) a3
          generalize some9[a1]?.getD 0 = z1 at *
          generalize some9[a2]?.getD 0 = z2 at *
          generalize some9[a3]?.getD 0 = z3 at *
          clear hc
          have i0 : (0 : Int) ≤ (k : Int) := by omega
          have i1 : (0 : Int) ≤ (a1 : Int) := by omega
          have i2 : (0 : Int) ≤ (a2 : Int) := by omega
          have i3 : (0 : Int) ≤ (a3 : Int) := by omega
          have j1 : (a1 : Int) < 9 := by omega
          have j2 : (a2 : Int) < 9 := by omega
          have j3 : (a3 : Int) < 9 := by omega
          have m1 : (k : Int).tmod 9 = (a1 : Int) := by rw [Int.tmod_eq_emod_of_nonneg (by omega)]; omega
          have m2 : (k : Int).tdiv 9 = (q2 : Int) := by rw [Int.tdiv_eq_ediv_of_nonneg (by omega)]; omega
          have m3 : (q2 : Int).tmod 9 = (a2 : Int) := by rw [Int.tmod_eq_emod_of_nonneg (by omega)]; omega
          have m4 : (k : Int).tdiv 81 = (a3 : Int) := by rw [Int.tdiv_eq_ediv_of_nonneg (by omega)]; omega
          have m5 : IntKind.i64.wrap (q2 : Int) = (q2 : Int) := IntWalk.i64_in _ (by omega)
          have m6 : IntKind.i64.wrap (a3 : Int) = (a3 : Int) := IntWalk.i64_in _ (by omega)
          clear ha1 hq2 ha2 ha3
          go_wp2_with fail
          go_region_held3 (fun w' => w'.cell? ⟨G, a1, none⟩ = some (.int .u16 z1) ∧ w'.cell? ⟨G, a2, none⟩ = some (.int .u16 z2) ∧ w'.cell? ⟨G, a3, none⟩ = some (.int .u16 z3)) (go_keep) (fail)
          clear x1 x2 x3 i1 i2 i3 j1 j2 j3 m1 m2 m3 m4 m5 m6
          go_wp2_with fail
          have c1 : BD 65535 [z1, z2, z3] := fun x hx => by simp at hx; omega
          refine (numbers_any _ 3 3 [z1, z2, z3] z1 z2 z3 _ _ _ _ _ (show ROW .u16 65535 ((wp.alloc (.cells #[.int .u16 z1, .int .u16 z2, .int .u16 z3] 29)).drew) (some ⟨wp.heap.size, 0, none⟩) 3 3 _ from (row_new wp .u16 29 65535 [z1, z2, z3] c1 (by simp [maxLen])).drew) b1 b1' b2 b2' b3 b3' (bits32 _ _ _).1 (bits32 _ _ _).2 (bits32 _ _ _).1 (bits32 _ _ _).2 (by omega) (by omega)).mono ?_
          rintro e w3 ⟨rfl, hb⟩
          have hb' : Below (G + 1) w2 w3 := (HB.alloc (by omega) _).drew.trans (hb.mono (by simp; omega))
          go_wp2_with fail
          go_roundw
          case rel => exact ⟨k + 1, by omega, by go_num, hb'⟩
          case measure => simp [intOf]; omega
        · go_wp2_with fail
          have hB3 : Below w.heap.size w (wp.alloc (.cells #[.int .u8 0, .int .u8 255, .int .u8 128] 5)) := (((H1.trans (H2.mono (by omega))).trans (HB.mono (by omega)))).alloc (by omega) _
          have rc : RD .u8 (wp.alloc (.cells #[.int .u8 0, .int .u8 255, .int .u8 128] 5)) (wp.heap.size + 1) (some ⟨wp.heap.size, 0, none⟩) 3 [0, 255, 128] := RD.new' wp .u8 5 [0, 255, 128] rfl (by omega) rfl
          have hG3 : (wp.alloc (.cells #[.int .u8 0, .int .u8 255, .int .u8 128] 5)).heap.size = wp.heap.size + 1 := by simp
          generalize wp.alloc (.cells #[.int .u8 0, .int .u8 255, .int .u8 128] 5) = w3 at rc hB3 hG3 ⊢
          generalize hGn : wp.heap.size = G2 at *
          clear HB r9 r9' hGn H2 H1 hsz2 hsz hs1 hG
          obtain ⟨j0, hj, hy0, hy1, hy2⟩ := info_parts infoU8
          obtain ⟨i0, hi, hz0, hz1, hz2⟩ := info_parts infoU16
          go_loopw [106] (fun i wr => ∃ k : Nat, k ≤ 3 ∧ i = .int .i64 k ∧ Below (G2 + 1) w3 wr) (fun i _ => 3 - (intOf i).toNat)
          case atStart => exact ⟨0, Nat.zero_le _, rfl, Below.refl _ _⟩
          case round =>
            obtain ⟨k, hk, rfl, HB⟩ := hrel
            obtain ⟨wp, rfl⟩ : ∃ wp : World, wp = wr := ⟨_, rfl⟩
            have hsz := HB.size
            by_cases hlt : k < 3
            · obtain ⟨g, off, hg, hgb, hc⟩ := (rc.below HB).2 (by omega)
              simp at hg
              obtain ⟨rfl, rfl⟩ := hg
              have x1 := hc k hlt
              simp only [Nat.zero_add] at x1
              have hcb : BD 255 [0, 255, 128] := bd_all (by decide)
              obtain ⟨b1, b1'⟩ := hcb.get (by omega) k
              generalize ([0, 255, 128] : List Int)[k]?.getD 0 = z1 at *
              clear hc
              go_wp2_with (at_make; refine wpList_make_full _ rfl _ _ _ rfl wp.heap.size 5 j0 (.int .u8 0) 1 Try.underlying22 hj hy0 hy1 .i64 .i64 _ _ 70001 rfl rfl rfl rfl (by rw [hy2]; omega) (by simp only [maxLen]; omega) (Nat.le_refl _) ?_; intro w8 hown8 hg8)
              have own8 : OWN .u8 5 w8 wp.heap.size (some ⟨wp.heap.size, 0, none⟩) 70001 70001 (List.replicate 70001 0) := by
                unfold OWN
                rw [show (List.replicate 70001 (0 : Int)).map (Value.int .u8) = (madeCells (Value.int .u8 0).cells (70001 * 1)).toList by rw [Nat.mul_one, List.map_replicate]; exact (toList_madeCells_one _ _).symm]
                exact hown8
              have hB8 : Below wp.heap.size wp w8 := (Below.refl _ _).grown hg8 (Nat.le_refl _) (fun g hg => by cases hg)
              have hz8 : BD 255 (List.replicate 70001 0) := fun x hx => by rw [List.eq_of_mem_replicate hx]; omega
              generalize List.replicate 70001 (0 : Int) = zs8 at own8 hz8
              clear hown8 hg8
              obtain ⟨N, hN⟩ : ∃ N : Nat, N = 70001 := ⟨_, rfl⟩
              have hNi : (70001 : Int) = (N : Int) := by omega
              rw [hNi, ← hN]
              rw [← hN] at own8
              have hN1 : N ≤ 70001 := by omega
              have hN2 : 70001 ≤ N := by omega
              clear hN hNi
              go_loopw [113] (fun i wr => ∃ (j : Nat) (zs : List Int), j ≤ N ∧ i = .int .i64 j ∧ OWN .u8 5 wr wp.heap.size (some ⟨wp.heap.size, 0, none⟩) N N zs ∧ BD 255 zs ∧ Below wp.heap.size wp wr) (fun i _ => N - (intOf i).toNat)
              case atStart => exact ⟨0, zs8, Nat.zero_le _, rfl, own8, hz8, hB8⟩
              case round =>
                obtain ⟨j, zs, hj, rfl, own, hz, hb⟩ := hrel
                clear own8 hz8 hB8
                by_cases hlj : j < N
                · have y1 := own.cell (i := j) hlj
                  have y2 := own.frozen j
                  have OH := Lib.hid own
                  clear own
                  go_wp2_with fail
                  go_roundw
                  case rel => exact ⟨j + 1, _, by omega, by go_num, OH.out.stored j z1, bd_set hz j ⟨b1, b1'⟩, hb.setCell (p := ⟨wp.heap.size, j, none⟩) (Nat.le_refl _) _⟩
                  case measure => simp [intOf]; omega
                · have hS := hb.size
                  have hbw : Below (G2 + 1) w3 wr := HB.trans (hb.mono (by omega))
                  have OH := Lib.hid own
                  clear own
                  have RS : ∀ W', Below wr.heap.size wr W' → RD .u8 W' W'.heap.size (some ⟨wp.heap.size, 0, none⟩) N zs := fun W' h => OH.out.rd.later h
                  have RS1 : ∀ W', Below wr.heap.size wr W' → RD .u8 W' W'.heap.size (some ⟨wp.heap.size, 1, none⟩) (N - 1) (zs.drop 1) := fun W' h => by
                    have h2 := (RS W' h).drop (lo := 1) (c := N) (by omega) (Nat.le_refl _)
                    rw [if_neg (by omega)] at h2
                    exact h2
                  have HR := Lib.hid RS
                  have HR1 := Lib.hid RS1
                  clear RS RS1
                  go_wp2_with fail
                  refine (tells2_any _ N N zs 69998 1 wr (HR.out _ (Below.refl _ _)) hz (by omega) (by omega) (by omega) (by omega)).mono ?_
                  rintro e w4 ⟨rfl, hb4⟩
                  go_wp2_with fail
                  refine (tells2_any _ (N - 1) (N - 1) (zs.drop 1) 69998 65535 w4 (HR1.out _ hb4) (hz.drop 1) (by omega) (by omega) (by omega) (by omega)).mono ?_
                  rintro e w5 ⟨rfl, hb5⟩
                  replace hb5 := hb4.trans (hb5.mono hb4.size)
                  clear hb4
                  go_wp2_with fail
                  refine (tells2_any _ N N zs 70000 0 w5 (HR.out _ hb5) hz (by omega) (by omega) (by omega) (by omega)).mono ?_
                  rintro e w6 ⟨rfl, hb6⟩
                  replace hb6 := hb5.trans (hb6.mono hb5.size)
                  clear hb5
                  go_wp2_with fail
                  refine (tells2_any _ N N zs 9223372036854775807 0 w6 (HR.out _ hb6) hz (by omega) (by omega) (by omega) (by omega)).mono ?_
                  rintro e w7 ⟨rfl, hb7⟩
                  replace hb7 := hb6.trans (hb7.mono hb6.size)
                  clear hb6
                  go_wp2_with fail
                  refine (tells2_any _ N N zs (-9223372036854775808) 0 w7 (HR.out _ hb7) hz (by omega) (by omega) (by omega) (by omega)).mono ?_
                  rintro e w8 ⟨rfl, hb8⟩
                  replace hb8 := hb7.trans (hb8.mono hb7.size)
                  clear hb7
                  go_wp2_with fail
                  go_roundw
                  case rel => exact ⟨k + 1, by omega, by go_num, hbw.trans (hb8.mono (by have := hbw.size; omega))⟩
                  case measure => simp [intOf]; omega
            · have HB' : Below w.heap.size w wp := hB3.trans (HB.mono (by have := hB3.size; omega))
              go_wp2_with fail
              refine (numbers_any none 0 0 [] 0 0 0 0 0 0 (-9223372036854775808) wp (row_nil _ _ _) (by omega) (by omega) (by omega) (by omega) (by omega) (by omega) (by omega) (by omega) (by omega) (by omega) (by omega) (by omega)).mono ?_
              rintro e w4 ⟨rfl, hb4⟩
              replace hb4 := HB'.trans (hb4.mono HB'.size)
              obtain ⟨w8, hrun, hown8, hg8⟩ := run_make_full (P := Try.prog) w4 w4.heap.size 36 29 i0 (.int .u16 0) 1 Try.underlying36 hi hz0 hz1 .i64 .i64 70000 (by rw [hz2]; omega) (by simp only [maxLen]; omega) (Nat.le_refl _)
              replace hrun : (Instr.makeSlice 36 (.int .i64 70000) (.int .i64 70000)).run Try.prog w4 = .ok (.slice (some ⟨w4.heap.size, 0, none⟩) 70000 70000) w8 := hrun
              have own8 : OWN .u16 29 w8 w4.heap.size (some ⟨w4.heap.size, 0, none⟩) 70000 70000 (List.replicate 70000 0) := by
                unfold OWN
                rw [show (List.replicate 70000 (0 : Int)).map (Value.int .u16) = (madeCells (Value.int .u16 0).cells (70000 * 1)).toList by rw [Nat.mul_one, List.map_replicate]; exact (toList_madeCells_one _ _).symm]
                exact hown8
              have hb8 : Below w.heap.size w w8 := hb4.trans (((Below.refl _ _).grown hg8 (Nat.le_refl _) (fun g hg => by cases hg)).mono hb4.size)
              have hz8 : BD 65535 (List.replicate 70000 0) := fun x hx => by rw [List.eq_of_mem_replicate hx]; omega
              generalize List.replicate 70000 (0 : Int) = zs8 at own8 hz8
              have OH := Lib.hid own8
              clear hown8 hg8 own8
              go_wp2_with fail
              refine (numbers_any _ 70000 70000 zs8 0 65535 0 4294967295 0 255 65536 w8 (row_own OH.out hz8) (by omega) (by omega) (by omega) (by omega) (by omega) (by omega) (by omega) (by omega) (by omega) (by omega) (by omega) (by omega)).mono ?_
              rintro e w9 ⟨rfl, hb9⟩
              replace hb9 := hb8.trans (hb9.mono hb8.size)
              go_wp2_with fail
              refine (awake2_any w9).mono ?_
              rintro e w10 ⟨rfl, hb10⟩
              go_wp2_with fail
              go_ret
              exact ⟨rfl, hb9.trans (hb10.mono hb9.size)⟩
end Go.Proofs.Ytfaihaooompojaa
