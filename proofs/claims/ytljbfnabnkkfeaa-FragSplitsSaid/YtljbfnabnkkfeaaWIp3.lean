/- package ip: header. -/
import Derived.Test.YtljbfnabnkkfeaaWIp2
import Derived.Test.YtljbfnabnkkfeaaTen
import Derived.Deep.MidRow
namespace Go.Proofs.Ytljbfnabnkkfeaa
open Go.RowKit
set_option linter.unusedVariables false

/-- the block of a header that is 0 -/
def HB0 (w' : World) (N : Nat) : Prop := w'.heap[N]? = some (.cells (HD.zero.cells (.slice none 0 0)) 49 (0, 0))
def HBs (w' : World) (N : Nat) : Prop := (w'.cell? ⟨N, 0, none⟩ = some (.int .u8 0) ∧ w'.cell? ⟨N, 1, none⟩ = some (.int .u16 0) ∧ w'.cell? ⟨N, 2, none⟩ = some (.bool false) ∧ w'.cell? ⟨N, 3, none⟩ = some (.bool false) ∧ w'.cell? ⟨N, 4, none⟩ = some (.int .i64 0) ∧ w'.cell? ⟨N, 5, none⟩ = some (.int .u8 0) ∧ w'.cell? ⟨N, 6, none⟩ = some (.int .u8 0) ∧ w'.cell? ⟨N, 7, none⟩ = some (.int .u32 0) ∧ w'.cell? ⟨N, 8, none⟩ = some (.int .u32 0) ∧ w'.cell? ⟨N, 9, none⟩ = some (.slice none 0 0)) ∧ (w'.frozen? ⟨N, 0, none⟩ = false ∧ w'.frozen? ⟨N, 1, none⟩ = false ∧ w'.frozen? ⟨N, 2, none⟩ = false ∧ w'.frozen? ⟨N, 3, none⟩ = false ∧ w'.frozen? ⟨N, 4, none⟩ = false ∧ w'.frozen? ⟨N, 5, none⟩ = false ∧ w'.frozen? ⟨N, 6, none⟩ = false ∧ w'.frozen? ⟨N, 7, none⟩ = false ∧ w'.frozen? ⟨N, 8, none⟩ = false ∧ w'.frozen? ⟨N, 9, none⟩ = false)
theorem HB0.cells {w' : World} {N : Nat} (h : HB0 w' N) : HBs w' N := by
  refine ⟨⟨?_, ?_, ?_, ?_, ?_, ?_, ?_, ?_, ?_, ?_⟩, ⟨?_, ?_, ?_, ?_, ?_, ?_, ?_, ?_, ?_, ?_⟩⟩
  all_goals first | exact (cell_of_row w' N _ _ _ _ h).trans rfl | exact frozen_of_row w' N _ _ _ h
theorem HB0.below {w w' : World} {N : Nat} (h : HB0 w N) (hb : Below (N + 1) w w') : HB0 w' N := (hb.block N (by omega)).trans h
structure HS (N : Nat) (w1 : World) (b off n : Nat) (zs : List Int) (w' : World) : Prop where
  bel : Below (N + 1) w1 w'
  siz : N + 1 ≤ w'.heap.size
  rd : RD .u8 w' N (some ⟨b, off, none⟩) n zs
  res : HB0 w' N
theorem HS.next {N : Nat} {w1 w2 w3 : World} {b off n : Nat} {zs : List Int} (h : HS N w1 b off n zs w2) (hb : Below w2.heap.size w2 w3) : HS N w1 b off n zs w3 :=
  ⟨h.bel.trans (hb.mono h.siz), Nat.le_trans h.siz hb.size, h.rd.below (hb.mono (by have := h.siz; omega)), h.res.below (hb.mono h.siz)⟩
def HSA (N : Nat) (w1 : World) (b off n : Nat) (zs : List Int) (w' : World) : Prop :=
  HS N w1 b off n zs w' ∧ (w'.cell? ⟨b, off + 1, none⟩ = some (.int .u8 (byteAt zs 1)) ∧ w'.cell? ⟨b, off + 8, none⟩ = some (.int .u8 (byteAt zs 8)) ∧ w'.cell? ⟨b, off + 9, none⟩ = some (.int .u8 (byteAt zs 9))) ∧ HBs w' N
theorem HS.all {N : Nat} {w1 w' : World} {b off n : Nat} {zs : List Int} (h : HS N w1 b off n zs w') (hn : 10 ≤ n) : HSA N w1 b off n zs w' := by
  obtain ⟨b', off', e, _, hc⟩ := h.rd.2 (by omega)
  simp only [Option.some.injEq, Addr.mk.injEq] at e
  obtain ⟨rfl, rfl, _⟩ := e
  exact ⟨h, ⟨hc 1 (by omega), hc 8 (by omega), hc 9 (by omega)⟩, h.res.cells⟩
def HeadP (w : World) (zs : List Int) (s : Nat) (e : Ending) (w' : World) : Prop :=
  ∃ A n c, e = .returned ((hdOf zs).val (.slice A n c)) ∧ OWN .u8 5 w' w.heap.size A n c ((zs.drop 20).take (s - 20)) ∧ Below w.heap.size w w'

set_option maxHeartbeats 4000000 in
set_option maxRecDepth 100000 in
theorem header_any (A : Option Addr) (n c : Nat) (zs : List Int) (q : Int) (s : Nat) (w : World) (h : RD .u8 w w.heap.size A n zs) (hz : BD 255 zs) (hn : n ≤ c) (hc : n ≤ 140737488355328) (hq : q = s) (hs : 20 ≤ s) (hsn : s ≤ n) :
    Calls Try.prog 51 #[.slice A n c, .int .i64 q] w (HeadP w zs s) := by
  subst hq
  obtain ⟨b, off, rfl, hb, hcl⟩ := h.2 (by omega)
  have HCL := Lib.hid hcl
  obtain ⟨u1, u2⟩ := wordAt_bd hz 6
  obtain ⟨v1, v2⟩ := wordAt_bd hz 4
  have b1 := i64_and_one (wordAt zs 6) u1 (by omega) 14 (by omega)
  have b2 := i64_and_one (wordAt zs 6) u1 (by omega) 13 (by omega)
  have b3 := i64_and_low (wordAt zs 6) u1 (by omega) 13 (by omega)
  simp only [show ((2 : Int) ^ 14) = 16384 from rfl, show ((2 : Int) ^ 13) = 8192 from rfl, show ((8192 : Int) - 1) = 8191 from rfl] at b1 b2 b3
  have c1 : (wordAt zs 6 / 16384 % 2 * 16384 != 0) = decide (wordAt zs 6 / 16384 % 2 = 1) := by rw [Bool.eq_iff_iff]; simp; omega
  have c2 : (wordAt zs 6 / 8192 % 2 * 8192 != 0) = decide (wordAt zs 6 / 8192 % 2 = 1) := by rw [Bool.eq_iff_iff]; simp; omega
  have b4 : IntKind.i64.wrap (8 * (wordAt zs 6 % 8192)) = 8 * (wordAt zs 6 % 8192) := IntWalk.i64_in _ (by omega)
  have b5 : IntKind.u16.wrap (wordAt zs 4) = wordAt zs 4 := u16_in _ v1 v2
  have i1 : (20 : Int) ≤ (s : Int) := by omega
  have i2 : (s : Int) ≤ (c : Int) := by omega
  have i3 : (1 : Int) < (n : Int) := by omega
  have i4 : (8 : Int) < (n : Int) := by omega
  have i5 : (9 : Int) < (n : Int) := by omega
  clear hcl
  obtain ⟨i0, hi, hz0, hz1, hz2⟩ := info_parts infoU8
  have s1 := fun W => run_slice_lohi (P := Try.prog) W Try.underlying23 hi hz1 (some ⟨b, off, none⟩) n c 20 (s : Int) 20 s rfl rfl hs (by omega)
  go_enter Try.func51, Try.ntmps51
  go_wp2_with (go_at_call 46; refine (word_any _ n c zs _ 6 _ ((h.alloc (Nat.le_refl _) _).more (by simp)) hz (by omega) rfl (by omega)).mono ?_; rintro e w1 ⟨rfl, m, rfl⟩)
  have hB1 : Below w.heap.size w ((w.alloc (.cells (HD.zero.cells (.slice none 0 0)) 49)).drewN m) := below_drewN ((Below.refl _ _).alloc (Nat.le_refl _) _) m
  have hR1 : HB0 ((w.alloc (.cells (HD.zero.cells (.slice none 0 0)) 49)).drewN m) w.heap.size := by
    show (w.heap.push _)[w.heap.size]? = _
    simp
  have hsz : ((w.alloc (.cells (HD.zero.cells (.slice none 0 0)) 49)).drewN m).heap.size = w.heap.size + 1 := by show (w.heap.push _).size = _; simp
  have e0 : w.alloc (.cells #[.int .u8 0, .int .u16 0, .bool false, .bool false, .int .i64 0, .int .u8 0, .int .u8 0, .int .u32 0, .int .u32 0, .slice none 0 0] 49) = w.alloc (.cells (HD.zero.cells (.slice none 0 0)) 49) := rfl
  rw [e0]
  clear e0
  generalize (w.alloc (.cells (HD.zero.cells (.slice none 0 0)) 49)).drewN m = w1 at hB1 hR1 hsz ⊢
  generalize hN : w.heap.size = N at *
  obtain hN' := Lib.hid hN
  clear hN
  have hS : HS N w1 b off n zs w1 := ⟨Below.refl _ _, Nat.le_of_eq hsz.symm, h.keep fun p hp => hB1.cell hp, hR1⟩
  replace hS : HS N w1 b off n zs w1.drew := hS.next (Below.refl _ _).drew
  have hBw := hB1
  clear hB1 hR1 hsz
  have hb0 : Below N w w1.drew := hBw.drew
  have hh : ∀ W', Below N w W' → Below N w W' ∧ (W'.cell? ⟨b, off + 1, none⟩ = some (.int .u8 (byteAt zs 1)) ∧ W'.cell? ⟨b, off + 8, none⟩ = some (.int .u8 (byteAt zs 8)) ∧ W'.cell? ⟨b, off + 9, none⟩ = some (.int .u8 (byteAt zs 9))) := fun W' h =>
    ⟨h, (h.cell (p := ⟨b, off + 1, none⟩) hb).trans (HCL.out 1 (by omega)), (h.cell (p := ⟨b, off + 8, none⟩) hb).trans (HCL.out 8 (by omega)), (h.cell (p := ⟨b, off + 9, none⟩) hb).trans (HCL.out 9 (by omega))⟩
  have HHH := Lib.hid hh
  clear hh
  go_region_held3 (fun w' => Below N w w' ∧ (w'.cell? ⟨b, off + 1, none⟩ = some (.int .u8 (byteAt zs 1)) ∧ w'.cell? ⟨b, off + 8, none⟩ = some (.int .u8 (byteAt zs 8)) ∧ w'.cell? ⟨b, off + 9, none⟩ = some (.int .u8 (byteAt zs 9)))) ((refine HHH.out _ ?_; (repeat (refine Below.setCell ?_ (by exact Nat.le_refl _) _)); assumption))
    (first
      | (go_at_call 46; refine (word_any _ n c zs _ 4 _ (by exact hS.rd.more (by have := hS.siz; omega)) hz (by omega) rfl (by omega)).mono ?_; rintro e w2 ⟨rfl, m2, h2⟩; have hS2 := hS.next (h2 ▸ below_drewN (Below.refl _ _) m2); have hb2 : Below N w w2 := h2 ▸ below_drewN hb0 m2; clear h2)
      | (go_at_call_of 74 (Value.int .i64 12); refine (long_any _ n c zs _ 12 _ (by exact hS2.rd.more (by have := hS2.siz; omega)) hz (by omega) rfl (by omega)).mono ?_; rintro e w3 ⟨rfl, m3, h3⟩; have hS3 := hS2.next (h3 ▸ below_drewN (Below.refl _ _) m3); have hb3 : Below N w w3 := h3 ▸ below_drewN hb2 m3; clear h3)
      | (go_at_call 74; refine (long_any _ n c zs _ 16 _ (by exact hS3.rd.more (by have := hS3.siz; omega)) hz (by omega) rfl (by omega)).mono ?_; rintro e w4 ⟨rfl, m4, h4⟩; have hS4 := hS3.next (h4 ▸ below_drewN (Below.refl _ _) m4); have hb4 : Below N w w4 := h4 ▸ below_drewN hb3 m4; clear h4)
      | (go_at_call 32; refine (clone_any _ _ _ ((zs.drop 20).take (s - 20)) _ (by exact (hS4.rd.more (by have := hS4.siz; omega)).mid (lo := 20) (by omega) (by omega) (by omega)) (by omega)).mono ?_; rintro e w5 ⟨A5, n5, c5, rfl, own5, hb5⟩; have hS5 := hS4.next hb5; have hb6 : Below N w w5 := hb4.trans (hb5.mono (by have := hN'.out; have := hb4.size; omega)); obtain ⟨⟨f0, f1, f2, f3, f4, f5, f6, f7, f8, f9⟩, ⟨g0, g1, g2, g3, g4, g5, g6, g7, g8, g9⟩⟩ := hS5.res.cells))
  go_wp2_with fail
  have hN5 : N < w5.heap.size := hS5.siz
  have hblk := set10_block (.int .u8 (byteAt zs 1)) (.int .u16 (wordAt zs 4)) (.bool (decide (wordAt zs 6 / 16384 % 2 = 1))) (.bool (decide (wordAt zs 6 / 8192 % 2 = 1))) (.int .i64 (8 * (wordAt zs 6 % 8192))) (.int .u8 (byteAt zs 8)) (.int .u8 (byteAt zs 9)) (.int .u32 (longAt zs 12)) (.int .u32 (longAt zs 16)) (.slice A5 n5 c5) hS5.res rfl
  refine bodyPost_ret (results_cell_row rfl _ _ N 49 _ _ _ rfl hblk Try.underlying49 rfl (by kernel_rfl)) rfl ⟨A5, n5, c5, rfl, ?_, ?_⟩
  · refine set10_own _ _ _ _ _ _ _ _ _ _ (own5.mono (by have := hN'.out; have := hS4.siz; omega)) (fun g hg => ?_)
    have h1 := (own5.lt g hg).1
    have h2 := hS4.siz
    omega
  · exact set10_below _ _ _ _ _ _ _ _ _ _ (hN'.out ▸ hb6) (Nat.le_of_eq hN'.out)
end Go.Proofs.Ytljbfnabnkkfeaa
