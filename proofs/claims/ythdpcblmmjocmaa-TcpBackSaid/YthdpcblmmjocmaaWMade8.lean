/- bafflelaw08.Made: a header that is right, and data. (Printed by gen_made8.py.) -/
import Derived.Test.YthdpcblmmjocmaaWTcW
import Derived.Test.YthdpcblmmjocmaaTcBk
import Derived.Deep.RegionLaw
import Derived.Deep.DeepCutAuto
namespace Go.Proofs.Ythdpcblmmjocmaa
open Go.RowKit
set_option linter.unusedVariables false

theorem bits32' (o : BinOp) (a b : Int) : 0 ≤ bits o .u32 a b ∧ bits o .u32 a b ≤ 4294967295 := by
  unfold bits
  simp only []
  have h : ∀ x : Int, 0 ≤ IntKind.u32.wrap x ∧ IntKind.u32.wrap x ≤ 4294967295 := fun x => by
    have : IntKind.u32.wrap x = x % 4294967296 := by simp [IntKind.wrap, IntKind.signed, IntKind.bits]
    omega
  exact h _
theorem bits8' (o : BinOp) (a b : Int) : 0 ≤ bits o .u8 a b ∧ bits o .u8 a b ≤ 255 := by
  unfold bits
  simp only []
  have h : ∀ x : Int, 0 ≤ IntKind.u8.wrap x ∧ IntKind.u8.wrap x ≤ 255 := fun x => by
    have : IntKind.u8.wrap x = x % 256 := by simp [IntKind.wrap, IntKind.signed, IntKind.bits]
    omega
  exact h _
theorem arr16_get (h0 h1 h2 h3 h4 h5 h6 h7 h8 h9 h10 h11 h12 h13 h14 h15 : Int) (i : Nat) (hi : i < 16) : (#[.int .u8 h0, .int .u8 h1, .int .u8 h2, .int .u8 h3, .int .u8 h4, .int .u8 h5, .int .u8 h6, .int .u8 h7, .int .u8 h8, .int .u8 h9, .int .u8 h10, .int .u8 h11, .int .u8 h12, .int .u8 h13, .int .u8 h14, .int .u8 h15] : Array Value)[i]? = some (.int .u8 ([h0, h1, h2, h3, h4, h5, h6, h7, h8, h9, h10, h11, h12, h13, h14, h15][i]?.getD 0)) := by
  rcases (show i = 0 ∨ i = 1 ∨ i = 2 ∨ i = 3 ∨ i = 4 ∨ i = 5 ∨ i = 6 ∨ i = 7 ∨ i = 8 ∨ i = 9 ∨ i = 10 ∨ i = 11 ∨ i = 12 ∨ i = 13 ∨ i = 14 ∨ i = 15 by omega) with rfl | rfl | rfl | rfl | rfl | rfl | rfl | rfl | rfl | rfl | rfl | rfl | rfl | rfl | rfl | rfl
  all_goals rfl
theorem results_cell_tmp1 {P : Program} {fn : Func} {p u1 : Tmp} {ty : TypeId} (h : fn.results = #[.cell p ty, .tmp u1]) (tmps : Array Value) (w : World) (g : Nat) (t : TypeId) (cs : Array Value) (fr : Nat × Nat) (d : TypeDesc)
    (hp : tmps.getD p undef = .pointer (some ⟨g, 0, none⟩)) (hg : w.heap[g]? = some (.cells cs t fr))
    (hu : P.underlying ty = some d) (hd : (match d with | .struct _ | .array _ _ => true | _ => false) = true) (hi : (P.info? ty).map (·.size) = some cs.size) :
    (results fn tmps).run P w = .ok (.tuple #[.agg cs, tmps.getD u1 undef]) w := by
  have hp' : tmps[p]?.getD undef = .pointer (some ⟨g, 0, none⟩) := by simpa using hp
  simp [results, h, hp', asAddr, run_loadVar_row w g t ty cs fr d hg hu hd hi]
def FLG (k : Nat) : Int := [2, 18, 16, 17, 4, 20][k]?.getD 0
theorem flg_sane : ∀ k : Nat, k < 6 → ∀ m : Nat, m < 256 → saneB (bits .or .u8 (FLG k) (bits .and .u8 (m : Int) 232)) = true := by decide +kernel

set_option maxHeartbeats 4000000 in
set_option maxRecDepth 100000 in
theorem two8_any (q : Int) (i g : Nat) (zs : List Int) (w : World) (hq : q = (i : Int)) (hi : i + 1 < 16) (hz : BD 255 zs) (hc : ∀ j, j < 16 → w.cell? ⟨g, j, none⟩ = some (.int .u8 (zs[j]?.getD 0))) :
    Calls Try.prog 48 #[.int .i64 q, .pointer (some ⟨g, 0, none⟩)] w fun e w' => e = .returned (.int .u16 (wordAt zs i)) ∧ Below w.heap.size w w' := by
  subst hq
  have x1 := hc i (by omega)
  have x2 := hc (i + 1) (by omega)
  obtain ⟨z1, z1'⟩ := hz.get (by omega) i
  obtain ⟨z2, z2'⟩ := hz.get (by omega) (i + 1)
  have hw : wordAt zs i = zs[i]?.getD 0 * 256 + zs[i + 1]?.getD 0 := rfl
  rw [hw]
  generalize zs[i]?.getD 0 = u at *
  generalize zs[i + 1]?.getD 0 = v at *
  clear hc hw
  have i1 : (i : Int) < 16 := by omega
  have i2 : (i : Int) + 1 < 16 := by omega
  have i3 : (0 : Int) ≤ (i : Int) := by omega
  have i4 : IntKind.i64.wrap ((i : Int) + 1) = (i : Int) + 1 := IntWalk.i64_in _ (by omega)
  have e1 : IntKind.u16.wrap u = u := u16_in _ (by omega) (by omega)
  have e2 : IntKind.u16.wrap (u * 256) = u * 256 := u16_in _ (by omega) (by omega)
  have e3 : IntKind.u16.wrap v = v := u16_in _ (by omega) (by omega)
  have e4 : bits .or .u16 (u * 256) v = u * 256 + v := u16_or_low _ _ (by omega) (by omega) (by omega) (by omega)
  go_enter Try.func48, Try.ntmps48
  go_wp2_with fail
  go_quiet (fail)
  go_wp2_with fail
  go_ret
  exact ⟨rfl, ⟨rfl, rfl, rfl, Nat.le_refl _, fun _ _ => rfl⟩⟩

/-- what Made gives -/
def Made8P (w : World) (e : Ending) (w' : World) : Prop :=
  ∃ (h : TH) (Ao : Option Addr) (on oc : Nat) (os : List Int) (Ad : Option Addr) (dn dc : Nat) (data : List Int), e = .returned (.tuple #[.agg (h.cells (.slice Ao on oc)), .slice Ad dn dc]) ∧ h.WF ∧ h.sp ≠ 0 ∧ h.dp ≠ 0 ∧ saneB h.fl = true ∧ on ≤ 40 ∧ on % 4 = 0 ∧
    BD 255 os ∧ BD 255 data ∧ dn ≤ 100 ∧ SP w w' [.own .u8 5 Ao on oc os, .own .u8 5 Ad dn dc data]

set_option maxHeartbeats 8000000 in
set_option maxRecDepth 100000 in
theorem made8_any (h0 h1 h2 h3 h4 h5 h6 h7 h8 h9 h10 h11 h12 h13 h14 h15 fg mo wo sr ds : Int) (A : Option Addr) (n c : Nat) (zs : List Int) (w : World) (hb : BD 255 [h0, h1, h2, h3, h4, h5, h6, h7, h8, h9, h10, h11, h12, h13, h14, h15]) (hfg : 0 ≤ fg ∧ fg ≤ 255) (hmo : 0 ≤ mo ∧ mo ≤ 255) (hwo : 0 ≤ wo ∧ wo ≤ 255)
    (h : RD .u8 w w.heap.size A n zs) (hz : BD 255 zs) (hn : n ≤ c) (hc : c ≤ maxLen) :
    Calls Try.prog 19 #[.agg #[.int .u8 h0, .int .u8 h1, .int .u8 h2, .int .u8 h3, .int .u8 h4, .int .u8 h5, .int .u8 h6, .int .u8 h7, .int .u8 h8, .int .u8 h9, .int .u8 h10, .int .u8 h11, .int .u8 h12, .int .u8 h13, .int .u8 h14, .int .u8 h15, .int .u8 fg, .int .u8 mo, .int .u8 wo, .int .u32 sr, .int .u32 ds, .slice A n c]] w (Made8P w) := by
  obtain ⟨i0, hi, hz0, hz1, hz2⟩ := info_parts infoU8
  have R := Lib.hid (fun (W : World) (hb : Below w.heap.size w W) => (show RD .u8 W W.heap.size A n zs from (h.below hb).more hb.size))
  have X0 := Lib.hid (((SP.start w).alloc' 44 #[.int .u8 h0, .int .u8 h1, .int .u8 h2, .int .u8 h3, .int .u8 h4, .int .u8 h5, .int .u8 h6, .int .u8 h7, .int .u8 h8, .int .u8 h9, .int .u8 h10, .int .u8 h11, .int .u8 h12, .int .u8 h13, .int .u8 h14, .int .u8 h15, .int .u8 fg, .int .u8 mo, .int .u8 wo, .int .u32 sr, .int .u32 ds, .slice A n c] rfl).alloc' 28 (th0.cells (.slice none 0 0)) (N := w.heap.size + 1) (by simp) |>.alloc' 42 #[.int .u8 h0, .int .u8 h1, .int .u8 h2, .int .u8 h3, .int .u8 h4, .int .u8 h5, .int .u8 h6, .int .u8 h7, .int .u8 h8, .int .u8 h9, .int .u8 h10, .int .u8 h11, .int .u8 h12, .int .u8 h13, .int .u8 h14, .int .u8 h15] (N := w.heap.size + 1 + 1) (by simp))
  have HB := Lib.hid hb
  clear h hb
  go_enter Try.func19, Try.ntmps19
  go_wp2_with fail
  change Calls _ _ _ (((w.alloc (.cells #[.int .u8 h0, .int .u8 h1, .int .u8 h2, .int .u8 h3, .int .u8 h4, .int .u8 h5, .int .u8 h6, .int .u8 h7, .int .u8 h8, .int .u8 h9, .int .u8 h10, .int .u8 h11, .int .u8 h12, .int .u8 h13, .int .u8 h14, .int .u8 h15, .int .u8 fg, .int .u8 mo, .int .u8 wo, .int .u32 sr, .int .u32 ds, .slice A n c] 44)).alloc (.cells (th0.cells (.slice none 0 0)) 28)).alloc (.cells #[.int .u8 h0, .int .u8 h1, .int .u8 h2, .int .u8 h3, .int .u8 h4, .int .u8 h5, .int .u8 h6, .int .u8 h7, .int .u8 h8, .int .u8 h9, .int .u8 h10, .int .u8 h11, .int .u8 h12, .int .u8 h13, .int .u8 h14, .int .u8 h15] 42)) _
  generalize ((w.alloc (.cells #[.int .u8 h0, .int .u8 h1, .int .u8 h2, .int .u8 h3, .int .u8 h4, .int .u8 h5, .int .u8 h6, .int .u8 h7, .int .u8 h8, .int .u8 h9, .int .u8 h10, .int .u8 h11, .int .u8 h12, .int .u8 h13, .int .u8 h14, .int .u8 h15, .int .u8 fg, .int .u8 mo, .int .u8 wo, .int .u32 sr, .int .u32 ds, .slice A n c] 44)).alloc (.cells (th0.cells (.slice none 0 0)) 28)).alloc (.cells #[.int .u8 h0, .int .u8 h1, .int .u8 h2, .int .u8 h3, .int .u8 h4, .int .u8 h5, .int .u8 h6, .int .u8 h7, .int .u8 h8, .int .u8 h9, .int .u8 h10, .int .u8 h11, .int .u8 h12, .int .u8 h13, .int .u8 h14, .int .u8 h15] 42) = w1 at X0 ⊢
  obtain ⟨N, hN⟩ : ∃ N, N = w.heap.size := ⟨_, rfl⟩
  rw [← hN] at X0 ⊢
  clear hN
  have X := Lib.hid (show SP w w1 [.blk N 44 #[.int .u8 h0, .int .u8 h1, .int .u8 h2, .int .u8 h3, .int .u8 h4, .int .u8 h5, .int .u8 h6, .int .u8 h7, .int .u8 h8, .int .u8 h9, .int .u8 h10, .int .u8 h11, .int .u8 h12, .int .u8 h13, .int .u8 h14, .int .u8 h15, .int .u8 fg, .int .u8 mo, .int .u8 wo, .int .u32 sr, .int .u32 ds, .slice A n c], .blk (N + 1) 28 (th0.cells (.slice none 0 0)), .blk (N + 1 + 1) 42 #[.int .u8 h0, .int .u8 h1, .int .u8 h2, .int .u8 h3, .int .u8 h4, .int .u8 h5, .int .u8 h6, .int .u8 h7, .int .u8 h8, .int .u8 h9, .int .u8 h10, .int .u8 h11, .int .u8 h12, .int .u8 h13, .int .u8 h14, .int .u8 h15]] from X0.out)
  clear X0
  have HC := Lib.hid (fun (W : World) (hX : SP w W [.blk N 44 #[.int .u8 h0, .int .u8 h1, .int .u8 h2, .int .u8 h3, .int .u8 h4, .int .u8 h5, .int .u8 h6, .int .u8 h7, .int .u8 h8, .int .u8 h9, .int .u8 h10, .int .u8 h11, .int .u8 h12, .int .u8 h13, .int .u8 h14, .int .u8 h15, .int .u8 fg, .int .u8 mo, .int .u8 wo, .int .u32 sr, .int .u32 ds, .slice A n c], .blk (N + 1) 28 (th0.cells (.slice none 0 0)), .blk (N + 1 + 1) 42 #[.int .u8 h0, .int .u8 h1, .int .u8 h2, .int .u8 h3, .int .u8 h4, .int .u8 h5, .int .u8 h6, .int .u8 h7, .int .u8 h8, .int .u8 h9, .int .u8 h10, .int .u8 h11, .int .u8 h12, .int .u8 h13, .int .u8 h14, .int .u8 h15]]) (j : Nat) (hj : j < 16) => (show W.cell? ⟨N + 1 + 1, j, none⟩ = some (.int .u8 ([h0, h1, h2, h3, h4, h5, h6, h7, h8, h9, h10, h11, h12, h13, h14, h15][j]?.getD 0)) by
    rcases (show j = 0 ∨ j = 1 ∨ j = 2 ∨ j = 3 ∨ j = 4 ∨ j = 5 ∨ j = 6 ∨ j = 7 ∨ j = 8 ∨ j = 9 ∨ j = 10 ∨ j = 11 ∨ j = 12 ∨ j = 13 ∨ j = 14 ∨ j = 15 by omega) with rfl | rfl | rfl | rfl | rfl | rfl | rfl | rfl | rfl | rfl | rfl | rfl | rfl | rfl | rfl | rfl
    all_goals exact hX.cell 2 rfl _ rfl))
  refine (two8_any 0 0 (N + 1 + 1) [h0, h1, h2, h3, h4, h5, h6, h7, h8, h9, h10, h11, h12, h13, h14, h15] _ rfl (by omega) HB.out (HC.out _ X.out)).mono ?_
  rintro e v1 ⟨rfl, hb1⟩
  have X' := Lib.hid (X.out.next hb1)
  clear X hb1
  have X := X'
  clear X'
  obtain ⟨t0, ht0⟩ : ∃ t, t = wordAt [h0, h1, h2, h3, h4, h5, h6, h7, h8, h9, h10, h11, h12, h13, h14, h15] 0 := ⟨_, rfl⟩
  have k0 := wordAt_bd HB.out 0
  rw [← ht0] at k0 ⊢
  clear ht0
  obtain ⟨m0, hm0, hl0⟩ : ∃ m : Int, (if t0 < 1 then (1 : Int) else t0) = m ∧ 1 ≤ m ∧ m ≤ 65535 := ⟨_, rfl, by split <;> omega, by split <;> omega⟩
  go_wp2_with fail
  refine (two8_any 2 2 (N + 1 + 1) [h0, h1, h2, h3, h4, h5, h6, h7, h8, h9, h10, h11, h12, h13, h14, h15] _ rfl (by omega) HB.out (HC.out _ X.out)).mono ?_
  rintro e v2 ⟨rfl, hb2⟩
  have X' := Lib.hid (X.out.next hb2)
  clear X hb2
  have X := X'
  clear X'
  obtain ⟨t1, ht1⟩ : ∃ t, t = wordAt [h0, h1, h2, h3, h4, h5, h6, h7, h8, h9, h10, h11, h12, h13, h14, h15] 2 := ⟨_, rfl⟩
  have k1 := wordAt_bd HB.out 2
  rw [← ht1] at k1 ⊢
  clear ht1
  obtain ⟨m1, hm1, hl1⟩ : ∃ m : Int, (if t1 < 1 then (1 : Int) else t1) = m ∧ 1 ≤ m ∧ m ≤ 65535 := ⟨_, rfl, by split <;> omega, by split <;> omega⟩
  go_wp2_with fail
  refine (two8_any 4 4 (N + 1 + 1) [h0, h1, h2, h3, h4, h5, h6, h7, h8, h9, h10, h11, h12, h13, h14, h15] _ rfl (by omega) HB.out (HC.out _ X.out)).mono ?_
  rintro e v3 ⟨rfl, hb3⟩
  have X' := Lib.hid (X.out.next hb3)
  clear X hb3
  have X := X'
  clear X'
  obtain ⟨t2, ht2⟩ : ∃ t, t = wordAt [h0, h1, h2, h3, h4, h5, h6, h7, h8, h9, h10, h11, h12, h13, h14, h15] 4 := ⟨_, rfl⟩
  have k2 := wordAt_bd HB.out 4
  rw [← ht2] at k2 ⊢
  clear ht2
  go_wp2_with fail
  refine (two8_any 6 6 (N + 1 + 1) [h0, h1, h2, h3, h4, h5, h6, h7, h8, h9, h10, h11, h12, h13, h14, h15] _ rfl (by omega) HB.out (HC.out _ X.out)).mono ?_
  rintro e v4 ⟨rfl, hb4⟩
  have X' := Lib.hid (X.out.next hb4)
  clear X hb4
  have X := X'
  clear X'
  obtain ⟨t3, ht3⟩ : ∃ t, t = wordAt [h0, h1, h2, h3, h4, h5, h6, h7, h8, h9, h10, h11, h12, h13, h14, h15] 6 := ⟨_, rfl⟩
  have k3 := wordAt_bd HB.out 6
  rw [← ht3] at k3 ⊢
  clear ht3
  go_wp2_with fail
  refine (two8_any 8 8 (N + 1 + 1) [h0, h1, h2, h3, h4, h5, h6, h7, h8, h9, h10, h11, h12, h13, h14, h15] _ rfl (by omega) HB.out (HC.out _ X.out)).mono ?_
  rintro e v5 ⟨rfl, hb5⟩
  have X' := Lib.hid (X.out.next hb5)
  clear X hb5
  have X := X'
  clear X'
  obtain ⟨t4, ht4⟩ : ∃ t, t = wordAt [h0, h1, h2, h3, h4, h5, h6, h7, h8, h9, h10, h11, h12, h13, h14, h15] 8 := ⟨_, rfl⟩
  have k4 := wordAt_bd HB.out 8
  rw [← ht4] at k4 ⊢
  clear ht4
  go_wp2_with fail
  refine (two8_any 10 10 (N + 1 + 1) [h0, h1, h2, h3, h4, h5, h6, h7, h8, h9, h10, h11, h12, h13, h14, h15] _ rfl (by omega) HB.out (HC.out _ X.out)).mono ?_
  rintro e v6 ⟨rfl, hb6⟩
  have X' := Lib.hid (X.out.next hb6)
  clear X hb6
  have X := X'
  clear X'
  obtain ⟨t5, ht5⟩ : ∃ t, t = wordAt [h0, h1, h2, h3, h4, h5, h6, h7, h8, h9, h10, h11, h12, h13, h14, h15] 10 := ⟨_, rfl⟩
  have k5 := wordAt_bd HB.out 10
  rw [← ht5] at k5 ⊢
  clear ht5
  go_wp2_with fail
  refine (two8_any 12 12 (N + 1 + 1) [h0, h1, h2, h3, h4, h5, h6, h7, h8, h9, h10, h11, h12, h13, h14, h15] _ rfl (by omega) HB.out (HC.out _ X.out)).mono ?_
  rintro e v7 ⟨rfl, hb7⟩
  have X' := Lib.hid (X.out.next hb7)
  clear X hb7
  have X := X'
  clear X'
  obtain ⟨t6, ht6⟩ : ∃ t, t = wordAt [h0, h1, h2, h3, h4, h5, h6, h7, h8, h9, h10, h11, h12, h13, h14, h15] 12 := ⟨_, rfl⟩
  have k6 := wordAt_bd HB.out 12
  rw [← ht6] at k6 ⊢
  clear ht6
  go_wp2_with fail
  refine (two8_any 14 14 (N + 1 + 1) [h0, h1, h2, h3, h4, h5, h6, h7, h8, h9, h10, h11, h12, h13, h14, h15] _ rfl (by omega) HB.out (HC.out _ X.out)).mono ?_
  rintro e v8 ⟨rfl, hb8⟩
  have X' := Lib.hid (X.out.next hb8)
  clear X hb8
  have X := X'
  clear X'
  obtain ⟨t7, ht7⟩ : ∃ t, t = wordAt [h0, h1, h2, h3, h4, h5, h6, h7, h8, h9, h10, h11, h12, h13, h14, h15] 14 := ⟨_, rfl⟩
  have k7 := wordAt_bd HB.out 14
  rw [← ht7] at k7 ⊢
  clear ht7
  go_upto_region 4 with fail
  obtain ⟨sq, hsq⟩ : ∃ q, bits .or .u32 (t2 * 65536) t3 = q := ⟨_, rfl⟩
  obtain ⟨ak, hak⟩ : ∃ q, bits .or .u32 (t4 * 65536) t5 = q := ⟨_, rfl⟩
  have sqb : 0 ≤ sq ∧ sq ≤ 4294967295 := by rw [← hsq]; exact bits32' _ _ _
  have akb : 0 ≤ ak ∧ ak ≤ 4294967295 := by rw [← hak]; exact bits32' _ _ _
  rw [hsq, hak]
  obtain ⟨M, hM⟩ : ∃ M, M = v8.heap.size := ⟨_, rfl⟩
  have X4 := Lib.hid (show SP w _ [.blk N 44 #[.int .u8 h0, .int .u8 h1, .int .u8 h2, .int .u8 h3, .int .u8 h4, .int .u8 h5, .int .u8 h6, .int .u8 h7, .int .u8 h8, .int .u8 h9, .int .u8 h10, .int .u8 h11, .int .u8 h12, .int .u8 h13, .int .u8 h14, .int .u8 h15, .int .u8 fg, .int .u8 mo, .int .u8 wo, .int .u32 sr, .int .u32 ds, .slice A n c], .blk (N + 1) 28 (th0.cells (.slice none 0 0)), .blk (N + 1 + 1) 42 #[.int .u8 h0, .int .u8 h1, .int .u8 h2, .int .u8 h3, .int .u8 h4, .int .u8 h5, .int .u8 h6, .int .u8 h7, .int .u8 h8, .int .u8 h9, .int .u8 h10, .int .u8 h11, .int .u8 h12, .int .u8 h13, .int .u8 h14, .int .u8 h15], .blk M 28 ((⟨m0, m1, sq, ak, 0, t6, t7⟩ : TH).cells (.slice none 0 0))] from X.out.alloc' 28 ((⟨m0, m1, sq, ak, 0, t6, t7⟩ : TH).cells (.slice none 0 0)) hM.symm)
  rw [← hM]
  change Code.wp _ _ _ _ (v8.alloc (.cells ((⟨m0, m1, sq, ak, 0, t6, t7⟩ : TH).cells (.slice none 0 0)) 28))
  generalize v8.alloc (.cells ((⟨m0, m1, sq, ak, 0, t6, t7⟩ : TH).cells (.slice none 0 0)) 28) = w4 at X4 ⊢
  clear hsq hak hM X hm0 hm1
  obtain ⟨k, hk⟩ : ∃ k : Nat, fg % 6 = (k : Int) := ⟨(fg % 6).toNat, by omega⟩
  have hk6 : k < 6 := by omega
  have ht : fg.tmod 6 = (k : Int) := by rw [Int.tmod_eq_emod_of_nonneg hfg.1, hk]
  obtain ⟨fl, hfl⟩ : ∃ fl, bits .or .u8 (FLG k) (bits .and .u8 mo 232) = fl := ⟨_, rfl⟩
  have hsane : saneB fl = true := by
    have := flg_sane k hk6 mo.toNat (by omega)
    rw [show (mo.toNat : Int) = mo by omega, hfl] at this
    exact this
  have flb : 0 ≤ fl ∧ fl ≤ 255 := by rw [← hfl]; exact bits8' _ _ _
  have HFL := Lib.hid hfl
  have y16 : w4.cell? ⟨N, 16, none⟩ = some (.int .u8 fg) := X4.out.cell 0 rfl 16 rfl
  have y17 : w4.cell? ⟨N, 17, none⟩ = some (.int .u8 mo) := X4.out.cell 0 rfl 17 rfl
  have z4 : w4.cell? ⟨M, 4, none⟩ = some (.int .u8 0) := X4.out.cell 3 rfl 4 rfl
  have f4 := X4.out.free 3 rfl 4
  have nl : N < w4.heap.size := (X4.out.blk 0 rfl).lt
  have ml : M < w4.heap.size := (X4.out.blk 3 rfl).lt
  have HS := Lib.hid hsane
  clear hfl hk hsane
  go_cut [] (fun wx => SP w wx [.blk N 44 #[.int .u8 h0, .int .u8 h1, .int .u8 h2, .int .u8 h3, .int .u8 h4, .int .u8 h5, .int .u8 h6, .int .u8 h7, .int .u8 h8, .int .u8 h9, .int .u8 h10, .int .u8 h11, .int .u8 h12, .int .u8 h13, .int .u8 h14, .int .u8 h15, .int .u8 fg, .int .u8 mo, .int .u8 wo, .int .u32 sr, .int .u32 ds, .slice A n c], .blk (N + 1) 28 (th0.cells (.slice none 0 0)), .blk (N + 1 + 1) 42 #[.int .u8 h0, .int .u8 h1, .int .u8 h2, .int .u8 h3, .int .u8 h4, .int .u8 h5, .int .u8 h6, .int .u8 h7, .int .u8 h8, .int .u8 h9, .int .u8 h10, .int .u8 h11, .int .u8 h12, .int .u8 h13, .int .u8 h14, .int .u8 h15], .blk M 28 ((⟨m0, m1, sq, ak, fl, t6, t7⟩ : TH).cells (.slice none 0 0))])
  case first =>
    have X5 := Lib.hid (((X4.out.setB 3 rfl 4 (.int .u8 fl)).alloc 5 #[.int .u8 2, .int .u8 18, .int .u8 16, .int .u8 17, .int .u8 4, .int .u8 20]).drew)
    rcases (show k = 0 ∨ k = 1 ∨ k = 2 ∨ k = 3 ∨ k = 4 ∨ k = 5 by omega) with rfl | rfl | rfl | rfl | rfl | rfl
    all_goals
      have hfl := HFL.out
      simp only [FLG, List.getElem?_cons_zero, List.getElem?_cons_succ, Option.getD_some] at hfl
      go_region
      all_goals
        go_wp2_with fail
        go_meet
        first | (exact X5.out.pick [0, 1, 2, 3] (by decide) rfl)
  case rest =>
  have X := Lib.hid hcut
  clear hcut X4 y16 y17 z4 f4 nl ml ht
  obtain ⟨Kn, hKn⟩ : ∃ Kn : Nat, 4 * (wo % 11) = (Kn : Int) := ⟨(4 * (wo % 11)).toNat, by omega⟩
  have hK40 : Kn ≤ 40 := by omega
  have hK4 : Kn % 4 = 0 := by omega
  have y18 : wc.cell? ⟨N, 18, none⟩ = some (.int .u8 wo) := X.out.cell 0 rfl 18 rfl
  go_wp2_with fail
  clear hKn y18
  go_loopw [54] (fun i wr => ∃ (j : Nat) (Ao : Option Addr) (oc : Nat) (os : List Int), j ≤ Kn ∧ i = .int .i64 j ∧ BD 255 os ∧ SP w wr [.blk N 44 #[.int .u8 h0, .int .u8 h1, .int .u8 h2, .int .u8 h3, .int .u8 h4, .int .u8 h5, .int .u8 h6, .int .u8 h7, .int .u8 h8, .int .u8 h9, .int .u8 h10, .int .u8 h11, .int .u8 h12, .int .u8 h13, .int .u8 h14, .int .u8 h15, .int .u8 fg, .int .u8 mo, .int .u8 wo, .int .u32 sr, .int .u32 ds, .slice A n c], .blk (N + 1) 28 (th0.cells (.slice none 0 0)), .blk (N + 1 + 1) 42 #[.int .u8 h0, .int .u8 h1, .int .u8 h2, .int .u8 h3, .int .u8 h4, .int .u8 h5, .int .u8 h6, .int .u8 h7, .int .u8 h8, .int .u8 h9, .int .u8 h10, .int .u8 h11, .int .u8 h12, .int .u8 h13, .int .u8 h14, .int .u8 h15], .blk M 28 ((⟨m0, m1, sq, ak, fl, t6, t7⟩ : TH).cells (.slice Ao j oc)), .own .u8 5 Ao j oc os]) (fun i _ => Kn - (intOf i).toNat)
  case atStart => exact ⟨0, none, 0, [], Nat.zero_le _, rfl, (fun y hy => by cases hy), X.out.pushOwn (Below.refl _ _) OWN.nil⟩
  case round =>
    obtain ⟨j, Ao, oc, os, hj, rfl, hbo, hX⟩ := hrel
    have Y := Lib.hid hX
    have HO := Lib.hid hbo
    clear hX hbo X
    by_cases hlt : j < Kn
    · obtain ⟨a, ha⟩ : ∃ a, a = j % 16 := ⟨_, rfl⟩
      have mj16 : (j : Int).tmod 16 = (a : Int) := by rw [Int.tmod_eq_emod_of_nonneg (by omega)]; omega
      have ha16 : a < 16 := by omega
      have x1 : wr.cell? ⟨N + 1 + 1, a, none⟩ = some (.int .u8 ([h0, h1, h2, h3, h4, h5, h6, h7, h8, h9, h10, h11, h12, h13, h14, h15][a]?.getD 0)) := ((Y.out.blk 2 rfl).cell a).trans (arr16_get h0 h1 h2 h3 h4 h5 h6 h7 h8 h9 h10 h11 h12 h13 h14 h15 a ha16)
      obtain ⟨u1, u2⟩ := HB.out.get (by omega) a
      generalize ([h0, h1, h2, h3, h4, h5, h6, h7, h8, h9, h10, h11, h12, h13, h14, h15] : List Int)[a]?.getD 0 = xa at *
      obtain ⟨y, hy⟩ : ∃ y, bits .xor .u8 xa (j : Int) = y := ⟨_, rfl⟩
      have hyb : 0 ≤ y ∧ y ≤ 255 := by rw [← hy]; exact bits8' _ _ _
      have x9 : wr.cell? ⟨M, 7, none⟩ = some (.slice Ao j oc) := Y.out.cell 3 rfl 7 rfl
      have x9f := Y.out.free 3 rfl 7
      have ia : (0 : Int) ≤ (a : Int) := by omega
      have ja : (a : Int) < 16 := by omega
      have e1 : IntKind.u8.wrap (j : Int) = (j : Int) := u8_in _ (by omega) (by omega)
      have nx1 : N + 1 + 1 < wr.heap.size := (Y.out.blk 2 rfl).lt
      have nx9 : M < wr.heap.size := (Y.out.blk 3 rfl).lt
      have X7 := Lib.hid (Y.out.drew.allocI' .u8 5 [y] (by simp [maxLen]) (N := wr.heap.size) rfl)
      clear ha
      go_wp2_with fail
      go_region_law ((refine step_append_rd _ (by rfl) _ _ 22 (by rfl) .u8 w.heap.size 5 i0 1 Try.underlying22 hi hz0 hz1 hz2 Ao j oc os (by rfl) (by exact X7.out.own 4 rfl) _ (some ⟨wr.heap.size, 0, none⟩) 1 1 [y] (by rfl) (by exact X7.out.rd 5 rfl) (by simp only [maxLen]; omega) (by omega) (by exact X7.out.size) ?_; intro A2 c2 w2' happ; have XA := Lib.hid (X7.out.app 4 rfl happ); clear happ; have z7' : w2'.cell? ⟨M, 7, none⟩ = some (.slice Ao j oc) := XA.out.cell 3 rfl 7 rfl; have f7' := XA.out.free 3 rfl 7))
      all_goals
        have XB := Lib.hid ((XA.out.setB 3 rfl 7 (.slice A2 (j + 1) c2)).pick [0, 1, 2, 3, 4] (by decide) (L' := [.blk N 44 #[.int .u8 h0, .int .u8 h1, .int .u8 h2, .int .u8 h3, .int .u8 h4, .int .u8 h5, .int .u8 h6, .int .u8 h7, .int .u8 h8, .int .u8 h9, .int .u8 h10, .int .u8 h11, .int .u8 h12, .int .u8 h13, .int .u8 h14, .int .u8 h15, .int .u8 fg, .int .u8 mo, .int .u8 wo, .int .u32 sr, .int .u32 ds, .slice A n c], .blk (N + 1) 28 (th0.cells (.slice none 0 0)), .blk (N + 1 + 1) 42 #[.int .u8 h0, .int .u8 h1, .int .u8 h2, .int .u8 h3, .int .u8 h4, .int .u8 h5, .int .u8 h6, .int .u8 h7, .int .u8 h8, .int .u8 h9, .int .u8 h10, .int .u8 h11, .int .u8 h12, .int .u8 h13, .int .u8 h14, .int .u8 h15], .blk M 28 ((⟨m0, m1, sq, ak, fl, t6, t7⟩ : TH).cells (.slice A2 (j + 1) c2)), .own .u8 5 A2 (j + 1) c2 (os ++ [y])]) rfl)
        clear XA X7 z7' f7' x9 x9f x1 nx1 nx9
        go_wp2_with fail
        go_roundw
        case rel => exact ⟨j + 1, A2, c2, os ++ [y], by omega, by go_num, HO.out.append (fun x hx => by simp at hx; omega), XB.out⟩
        case measure => simp [intOf]; omega
    · obtain rfl : Kn = j := by omega
      obtain ⟨mm, hmm, hm2, hm3⟩ : ∃ mm : Nat, (if (100 : Int) < (n : Int) then (100 : Int) else (n : Int)) = (mm : Int) ∧ mm ≤ n ∧ mm ≤ 100 := by
        by_cases h : n ≤ 100
        · exact ⟨n, if_neg (by omega), Nat.le_refl _, h⟩
        · exact ⟨100, if_pos (by omega), by omega, Nat.le_refl _⟩
      have i1 : (0 : Int) ≤ (mm : Int) := by omega
      have i2 : (mm : Int) ≤ (c : Int) := by omega
      go_upto_region 10 with fail
      have Y0 := Lib.hid Y.out.drew
      obtain ⟨V, hV⟩ : ∃ V, V = ((⟨m0, m1, sq, ak, fl, t6, t7⟩ : TH).cells (.slice Ao Kn oc)) := ⟨_, rfl⟩
      rw [← hV] at Y0
      have HV := Lib.hid hV
      clear hV hlt
      refine wp_region_noPanic ?_
      refine wp_region_held_drew (S := fun W => W.cell? ⟨N, 21, none⟩ = some (.slice A n c) ∧ BLOCK W M 28 V) (by kernel_rfl) (by exact ⟨Y0.out.cell 0 rfl 21 rfl, Y0.out.blk 3 rfl⟩) (fun hHeld => ?_)
      refine' take_lit (i := 0) (v := .agg (V)) rfl (by kernel_rfl) (by kernel_rfl) (by kernel_rfl) (fun _ _ _ h => h) (Or.inl ⟨by rfl, ?yy1⟩) (by assumption) ?rr1
      case yy1 => intro w' hSw; exact exec_load_row 28 _ rfl M rfl 28 (V) (0, 0) _ (hSw.2) Try.underlying28 rfl (by rw [HV.out]; kernel_rfl)
      (try simp only [Act.put]); (try simp only [List.setIfInBounds_toArray, List.set_cons_zero, List.set_cons_succ])
      refine' take_lit (i := 2) (v := _) rfl (by kernel_rfl) (by kernel_rfl) (by kernel_rfl) (fun _ _ _ h => h) (Or.inl ⟨by rfl, ?yy2⟩) (by assumption) ?rr2
      case yy2 => intro w' hSw; have hSc := hSw.1; go_simp; try (with_reducible rfl)
      (try simp only [Act.put]); (try simp only [List.setIfInBounds_toArray, List.set_cons_zero, List.set_cons_succ])
      refine' take_lit (i := 3) (v := _) rfl (by kernel_rfl) (by kernel_rfl) (by kernel_rfl) (fun _ _ _ h => h) (Or.inl ⟨by rfl, ?yy3⟩) (by assumption) ?rr3
      case yy3 => intro w' hSw; have hSc := hSw.1; go_simp; try (with_reducible rfl)
      (try simp only [Act.put]); (try simp only [List.setIfInBounds_toArray, List.set_cons_zero, List.set_cons_succ])
      refine' take_lit (i := 4) (v := _) rfl (by kernel_rfl) (by kernel_rfl) (by kernel_rfl) (fun _ _ _ h => h) (Or.inl ⟨by rfl, ?yy4⟩) (by assumption) ?rr4
      case yy4 => intro w' hSw; have hSc := hSw.1; go_simp; try (with_reducible rfl)
      (try simp only [Act.put]); (try simp only [List.setIfInBounds_toArray, List.set_cons_zero, List.set_cons_succ])
      refine' take_lit (i := 5) (v := _) rfl (by kernel_rfl) (by kernel_rfl) (by kernel_rfl) (fun _ _ _ h => h) (Or.inl ⟨by rfl, ?yy5⟩) (by assumption) ?rr5
      case yy5 => intro w' hSw; have hSc := hSw.1; go_simp; try (with_reducible rfl)
      (try simp only [Act.put]); (try simp only [List.setIfInBounds_toArray, List.set_cons_zero, List.set_cons_succ])
      refine' take_lit (i := 6) (v := _) rfl (by kernel_rfl) (by kernel_rfl) (by kernel_rfl) (fun _ _ _ h => h) (Or.inl ⟨by rfl, ?yy6⟩) (by assumption) ?rr6
      case yy6 => intro w' hSw; have hSc := hSw.1; go_simp; try (with_reducible rfl)
      (try simp only [Act.put]); (try simp only [List.setIfInBounds_toArray, List.set_cons_zero, List.set_cons_succ])
      refine' take_lit (i := 7) (v := _) rfl (by kernel_rfl) (by kernel_rfl) (by kernel_rfl) (fun _ _ _ h => h) (Or.inl ⟨by rfl, ?yy7⟩) (by assumption) ?rr7
      case yy7 => intro w' hSw; have hSc := hSw.1; go_simp; try (with_reducible rfl)
      (try simp only [Act.put]); (try simp only [List.setIfInBounds_toArray, List.set_cons_zero, List.set_cons_succ])
      refine' take_lit (i := 8) (v := _) rfl (by kernel_rfl) (by kernel_rfl) (by kernel_rfl) (fun _ _ _ h => h) (Or.inl ⟨by rfl, ?yy8⟩) (by assumption) ?rr8
      case yy8 => intro w' hSw; have hSc := hSw.1; go_simp; try (with_reducible rfl)
      (try simp only [Act.put]); (try simp only [List.setIfInBounds_toArray, List.set_cons_zero, List.set_cons_succ])
      refine wpAnyH_ready (rs := [1]) (by kernel_rfl) (by simp) ?_
      refine cons_lit rfl (fun K hK => ?ss1x9) AllReadyH.nil
      case ss1x9 =>
        go_simp
        obtain ⟨G, hG⟩ : ∃ g, g = wr.heap.size := ⟨_, rfl⟩
        rw [← hG]
        refine nameW (fun v4 hv => ?_)
        have Y1 := Lib.hid (show SP w v4 [.blk N 44 #[.int .u8 h0, .int .u8 h1, .int .u8 h2, .int .u8 h3, .int .u8 h4, .int .u8 h5, .int .u8 h6, .int .u8 h7, .int .u8 h8, .int .u8 h9, .int .u8 h10, .int .u8 h11, .int .u8 h12, .int .u8 h13, .int .u8 h14, .int .u8 h15, .int .u8 fg, .int .u8 mo, .int .u8 wo, .int .u32 sr, .int .u32 ds, .slice A n c], .blk (N + 1) 28 (th0.cells (.slice none 0 0)), .blk (N + 1 + 1) 42 #[.int .u8 h0, .int .u8 h1, .int .u8 h2, .int .u8 h3, .int .u8 h4, .int .u8 h5, .int .u8 h6, .int .u8 h7, .int .u8 h8, .int .u8 h9, .int .u8 h10, .int .u8 h11, .int .u8 h12, .int .u8 h13, .int .u8 h14, .int .u8 h15], .blk M 28 V, .own .u8 5 Ao Kn oc os, .own .u8 5 (some ⟨G, 0, none⟩) 0 0 []] by rw [hv, hG]; exact Y0.out.allocI' .u8 5 [] (Nat.zero_le _) (N := wr.heap.size) rfl)
        clear hv hG
        refine hK.out _ _ (by exact ⟨Y1.out.cell 0 rfl 21 rfl, Y1.out.blk 3 rfl⟩) (fun hHeld => ?_)
        clear hK K
        (try simp only [Act.put]); (try simp only [List.setIfInBounds_toArray, List.set_cons_zero, List.set_cons_succ])
        refine wpAnyH_ready (rs := [9]) (by kernel_rfl) (by simp) ?_
        refine cons_lit rfl (fun K hK => ?ss9x10) AllReadyH.nil
        case ss9x10 =>
          refine step_append_rd _ (by rfl) _ _ 22 (by rfl) .u8 w.heap.size 5 i0 1 Try.underlying22 hi hz0 hz1 hz2 (some ⟨G, 0, none⟩) 0 0 [] (by rfl) (by exact Y1.out.own 5 rfl) _ A mm c (zs.take mm) (by rfl) (by exact (R.out _ Y1.out.bel).take hm2) (by simp only [maxLen]; omega) (by omega) (by exact Y1.out.size) ?_
          intro A5 c5 v5 happ
          have hA5 := Y1.out.app 5 rfl happ
          rw [Nat.zero_add] at hA5 ⊢
          have Y2 := Lib.hid (show SP w v5 [.blk N 44 #[.int .u8 h0, .int .u8 h1, .int .u8 h2, .int .u8 h3, .int .u8 h4, .int .u8 h5, .int .u8 h6, .int .u8 h7, .int .u8 h8, .int .u8 h9, .int .u8 h10, .int .u8 h11, .int .u8 h12, .int .u8 h13, .int .u8 h14, .int .u8 h15, .int .u8 fg, .int .u8 mo, .int .u8 wo, .int .u32 sr, .int .u32 ds, .slice A n c], .blk (N + 1) 28 (th0.cells (.slice none 0 0)), .blk (N + 1 + 1) 42 #[.int .u8 h0, .int .u8 h1, .int .u8 h2, .int .u8 h3, .int .u8 h4, .int .u8 h5, .int .u8 h6, .int .u8 h7, .int .u8 h8, .int .u8 h9, .int .u8 h10, .int .u8 h11, .int .u8 h12, .int .u8 h13, .int .u8 h14, .int .u8 h15], .blk M 28 V, .own .u8 5 Ao Kn oc os, .own .u8 5 A5 mm c5 (zs.take mm)] from hA5)
          clear happ hA5
          refine hK.out _ _ (by exact ⟨Y2.out.cell 0 rfl 21 rfl, Y2.out.blk 3 rfl⟩) (fun hHeld => ?_)
          clear hK K
          (try simp only [Act.put]); (try simp only [List.setIfInBounds_toArray, List.set_cons_zero, List.set_cons_succ])
          refine wpAnyH_ready (rs := [10]) (by kernel_rfl) (by simp) ?_
          refine cons_lit rfl (fun K hK => ?ss10x11) AllReadyH.nil
          case ss10x11 =>
            refine step_store_row (by rfl) 28 _ _ (by rfl) (N + 1) V (by rfl) (by rfl) 28 (th0.cells (.slice none 0 0)) (Y2.out.blk 1 rfl) (by rw [HV.out]; kernel_rfl) (by rw [HV.out]; rfl) (by rw [HV.out]; unfold TH.cells; simp [Value.oneCell']) ?_
            have Y3 := Lib.hid (Y2.out.setR 1 rfl V)
            refine hK.out _ _ (by exact ⟨Y3.out.cell 0 rfl 21 rfl, Y3.out.blk 3 rfl⟩) (fun hHeld => ?_)
            clear hK K
            (try simp only [Act.put]); (try simp only [List.setIfInBounds_toArray, List.set_cons_zero, List.set_cons_succ])
            refine' take_lit (i := 11) (v := _) rfl (by kernel_rfl) (by kernel_rfl) (by kernel_rfl) (fun _ _ _ h => h) (Or.inl ⟨by rfl, ?yy12⟩) (by assumption) ?rr12
            case yy12 => intro w' hSw; (try dsimp only at hSw); go_simp; try (with_reducible rfl)
            (try simp only [Act.put]); (try simp only [List.setIfInBounds_toArray, List.set_cons_zero, List.set_cons_succ])
            refine wpAnyH_done (by kernel_rfl) ?_ _
            refine NoPanic.normal ?_
            go_wp2_with fail
            refine bodyPost_ret (results_cell_tmp1 rfl _ _ (N + 1) 28 V _ _ rfl (Y3.out.blk 1 rfl) Try.underlying28 rfl (by rw [HV.out]; kernel_rfl)) rfl ?_
            exact ⟨⟨m0, m1, sq, ak, fl, t6, t7⟩, Ao, Kn, oc, os, A5, mm, c5, zs.take mm, by rw [HV.out]; rfl, ⟨by simp only; omega, by simp only; omega, sqb, akb, flb, by simp only; omega, by simp only; omega⟩, by simp only; omega, by simp only; omega, HS.out, hK40, hK4, HO.out, hz.take _, hm3, Y3.out.pick [4, 5] (by decide) rfl⟩
end Go.Proofs.Ythdpcblmmjocmaa
