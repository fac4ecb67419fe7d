/- package udp: Read, Verify, Turn. -/
import Derived.Test.YtnocbpagdoihmaaWUdp
namespace Go.Proofs.Ytnocbpagdoihmaa
open Go.RowKit
set_option linter.unusedVariables false
attribute [local go_sem ↓] Go.wp_at_zero Go.wp_at_succ

theorem results_cell_tmp2 {P : Program} {fn : Func} {p u1 u2 : Tmp} {ty : TypeId} (h : fn.results = #[.cell p ty, .tmp u1, .tmp u2]) (tmps : Array Value) (w : World) (g : Nat) (t : TypeId) (cs : Array Value) (fr : Nat × Nat) (d : TypeDesc)
    (hp : tmps.getD p undef = .pointer (some ⟨g, 0, none⟩)) (hg : w.heap[g]? = some (.cells cs t fr))
    (hu : P.underlying ty = some d) (hd : (match d with | .struct _ | .array _ _ => true | _ => false) = true) (hi : (P.info? ty).map (·.size) = some cs.size) :
    (results fn tmps).run P w = .ok (.tuple #[.agg cs, tmps.getD u1 undef, tmps.getD u2 undef]) w := by
  have hp' : tmps[p]?.getD undef = .pointer (some ⟨g, 0, none⟩) := by simpa using hp
  simp [results, h, hp', asAddr, run_loadVar_row w g t ty cs fr d hg hu hd hi]

def uhd0 : Array Value := #[.int .u16 0, .int .u16 0, .bool false]
def uhd1 (zs : List Int) : Array Value := #[.int .u16 (wordAt zs 0), .int .u16 (wordAt zs 2), .bool (wordAt zs 6 != 0)]
/-- what Read gives -/
def uhd (zs : List Int) : Array Value := if udpE zs = 0 then uhd1 zs else uhd0
def udpTo (zs : List Int) : Int := if udpE zs = 0 then wordAt zs 4 else 0

set_option maxHeartbeats 2000000 in
set_option maxRecDepth 100000 in
theorem readc_any (w0 W : World) (N : Nat) (zs : List Int) (A : Option Addr) (m c : Nat) (hz : BD 255 zs) (S : SP w0 W [.blk N 28 uhd0, .blk (N + 1) 28 uhd0, .blk (N + 2) 3 #[.int .i64 0]]) :
    Calls Try.prog 32 #[.slice A m c, .agg (nums zs), .pointer (some ⟨N + 1, 0, none⟩), .pointer (some ⟨N + 2, 0, none⟩)] W fun e w' => e = .returned (.tuple #[]) ∧ SP w0 w' [.blk N 28 uhd0, .blk (N + 1) 28 (uhd1 zs), .blk (N + 2) 3 #[.int .i64 (wordAt zs 4)]] := by
  obtain ⟨a1, a2⟩ := wordAt_bd9 hz 0
  obtain ⟨b1, b2⟩ := wordAt_bd9 hz 2
  have e1 : IntKind.u16.wrap (wordAt zs 0) = wordAt zs 0 := u16_in _ a1 a2
  have e2 : IntKind.u16.wrap (wordAt zs 2) = wordAt zs 2 := u16_in _ b1 b2
  replace S := S.alloc 66 (nums zs)
  have hN1 := (S.blk 1 rfl).lt
  unfold nums
  go_enter Try.func32, Try.ntmps32
  go_wp2_with fail
  rw [show W.alloc (.cells #[.int .i64 (wordAt zs 0), .int .i64 (wordAt zs 2), .int .i64 (wordAt zs 4), .int .i64 (wordAt zs 6)] 66) = W.alloc (.cells (nums zs) 66) from rfl]
  have hne : N + 1 ≠ W.heap.size ∧ N + 2 ≠ W.heap.size := ⟨fun h => (S.ne 1 3 rfl rfl (by omega) (g := N + 1) rfl) (by rw [h]; rfl), fun h => (S.ne 2 3 rfl rfl (by omega) (g := N + 2) rfl) (by rw [h]; rfl)⟩
  obtain ⟨hne1, hne2⟩ := hne
  generalize W.alloc (.cells (nums zs) 66) = W1 at S hN1 ⊢
  have x0 : W1.cell? ⟨W.heap.size, 0, none⟩ = some (.int .i64 (wordAt zs 0)) := S.cell 3 rfl 0 rfl
  have x1 : W1.cell? ⟨W.heap.size, 1, none⟩ = some (.int .i64 (wordAt zs 2)) := S.cell 3 rfl 1 rfl
  have x2 : W1.cell? ⟨W.heap.size, 2, none⟩ = some (.int .i64 (wordAt zs 4)) := S.cell 3 rfl 2 rfl
  have x3 : W1.cell? ⟨W.heap.size, 3, none⟩ = some (.int .i64 (wordAt zs 6)) := S.cell 3 rfl 3 rfl
  have y0 : W1.cell? ⟨N + 1, 0, none⟩ = some (.int .u16 0) := S.cell 1 rfl 0 rfl
  have y1 : W1.cell? ⟨N + 1, 1, none⟩ = some (.int .u16 0) := S.cell 1 rfl 1 rfl
  have y2 : W1.cell? ⟨N + 1, 2, none⟩ = some (.bool false) := S.cell 1 rfl 2 rfl
  have y3 : W1.cell? ⟨N + 2, 0, none⟩ = some (.int .i64 0) := S.cell 2 rfl 0 rfl
  have z0 := S.free 1 rfl 0
  have z1 := S.free 1 rfl 1
  have z2 := S.free 1 rfl 2
  have z3 := S.free 2 rfl 0
  have T1 := (((((S.setB 1 rfl 0 (.int .u16 (wordAt zs 0))).setB 1 rfl 1 (.int .u16 (wordAt zs 2))).setB 1 rfl 2 (.bool (wordAt zs 6 != 0))).setB 2 rfl 0 (.int .i64 (wordAt zs 4))).drew).pick [0, 1, 2] (by decide) (L' := [.blk N 28 uhd0, .blk (N + 1) 28 (uhd1 zs), .blk (N + 2) 3 #[.int .i64 (wordAt zs 4)]]) rfl
  have T2 := (((((S.setB 2 rfl 0 (.int .i64 (wordAt zs 4))).setB 1 rfl 0 (.int .u16 (wordAt zs 0))).setB 1 rfl 1 (.int .u16 (wordAt zs 2))).setB 1 rfl 2 (.bool (wordAt zs 6 != 0))).drew).pick [0, 1, 2] (by decide) (L' := [.blk N 28 uhd0, .blk (N + 1) 28 (uhd1 zs), .blk (N + 2) 3 #[.int .i64 (wordAt zs 4)]]) rfl
  have H1 := Lib.hid T1
  have H2 := Lib.hid T2
  clear T1 T2 S
  go_region_held3 (fun W' => W'.cell? ⟨W.heap.size, 0, none⟩ = some (.int .i64 (wordAt zs 0)) ∧ W'.cell? ⟨W.heap.size, 1, none⟩ = some (.int .i64 (wordAt zs 2)) ∧ W'.cell? ⟨W.heap.size, 2, none⟩ = some (.int .i64 (wordAt zs 4)) ∧ W'.cell? ⟨W.heap.size, 3, none⟩ = some (.int .i64 (wordAt zs 6))) (go_keep) (fail)
  all_goals
    go_wp2_with fail
    go_end0
    exact ⟨rfl, by first | exact H1.out | exact H2.out⟩

def URead (w : World) (zs : List Int) (e : Ending) (w' : World) : Prop := e = .returned (.tuple #[.agg (uhd zs), .int .i64 (udpTo zs), .int .i64 (udpE zs)]) ∧ Below w.heap.size w w'

set_option maxHeartbeats 2000000 in
set_option maxRecDepth 100000 in
theorem uread_any (A : Option Addr) (n c : Nat) (zs : List Int) (w : World) (h : RD .u8 w w.heap.size A n zs) (hz : BD 255 zs) (hn : n ≤ 140737488355328) (hc : n ≤ c) :
    Calls Try.prog 18 #[.slice A n c] w (URead w zs) := by
  have S := (((SP.start w).alloc 28 uhd0).alloc 28 uhd0).alloc 3 #[.int .i64 0]
  have S' : SP w (((w.alloc (.cells uhd0 28)).alloc (.cells uhd0 28)).alloc (.cells #[.int .i64 0] 3)) [.blk w.heap.size 28 uhd0, .blk (w.heap.size + 1) 28 uhd0, .blk (w.heap.size + 2) 3 #[.int .i64 0]] := by simpa using S
  clear S
  go_enter Try.func18, Try.ntmps18
  go_upto_region 3 with fail
  rw [show ((w.alloc (.cells #[.int .u16 0, .int .u16 0, .bool false] 28)).alloc (.cells #[.int .u16 0, .int .u16 0, .bool false] 28)).alloc (.cells #[.int .i64 0] 3) = ((w.alloc (.cells uhd0 28)).alloc (.cells uhd0 28)).alloc (.cells #[.int .i64 0] 3) from rfl]
  generalize ((w.alloc (.cells uhd0 28)).alloc (.cells uhd0 28)).alloc (.cells #[.int .i64 0] 3) = W1 at S' ⊢
  go_wp2_with fail
  by_cases hE : udpE zs = 0
  · refine (with_ok 32 cf_readc #[.pointer (some ⟨w.heap.size + 1, 0, none⟩), .pointer (some ⟨w.heap.size + 2, 0, none⟩)] (fun w' => SP w w' [.blk w.heap.size 28 uhd0, .blk (w.heap.size + 1) 28 (uhd1 zs), .blk (w.heap.size + 2) 3 #[.int .i64 (wordAt zs 4)]]) A n c zs _ ((h.below S'.bel).more S'.size) hz hn hc hE (fun W hb => readc_any w W w.heap.size zs A (udpN zs) c hz (S'.next hb))).mono ?_
    rintro e w2 ⟨rfl, S2⟩
    have x0 : w2.cell? ⟨w.heap.size + 1, 0, none⟩ = some (.int .u16 (wordAt zs 0)) := S2.cell 1 rfl 0 rfl
    have x1 : w2.cell? ⟨w.heap.size + 1, 1, none⟩ = some (.int .u16 (wordAt zs 2)) := S2.cell 1 rfl 1 rfl
    have x2 : w2.cell? ⟨w.heap.size + 1, 2, none⟩ = some (.bool (wordAt zs 6 != 0)) := S2.cell 1 rfl 2 rfl
    have x3 : w2.cell? ⟨w.heap.size + 2, 0, none⟩ = some (.int .i64 (wordAt zs 4)) := S2.cell 2 rfl 0 rfl
    have y0 : w2.cell? ⟨w.heap.size, 0, none⟩ = some (.int .u16 0) := S2.cell 0 rfl 0 rfl
    have y1 : w2.cell? ⟨w.heap.size, 1, none⟩ = some (.int .u16 0) := S2.cell 0 rfl 1 rfl
    have y2 : w2.cell? ⟨w.heap.size, 2, none⟩ = some (.bool false) := S2.cell 0 rfl 2 rfl
    have z0 := S2.free 0 rfl 0
    have z1 := S2.free 0 rfl 1
    have z2 := S2.free 0 rfl 2
    have T := (((S2.setB 0 rfl 0 (.int .u16 (wordAt zs 0))).setB 0 rfl 1 (.int .u16 (wordAt zs 2))).setB 0 rfl 2 (.bool (wordAt zs 6 != 0))).drew
    have HT := Lib.hid T
    clear T S2 S'
    go_wp2_with fail
    go_region_held3 (fun W' => W'.cell? ⟨w.heap.size + 1, 0, none⟩ = some (.int .u16 (wordAt zs 0)) ∧ W'.cell? ⟨w.heap.size + 1, 1, none⟩ = some (.int .u16 (wordAt zs 2)) ∧ W'.cell? ⟨w.heap.size + 1, 2, none⟩ = some (.bool (wordAt zs 6 != 0)) ∧ W'.cell? ⟨w.heap.size + 2, 0, none⟩ = some (.int .i64 (wordAt zs 4))) (go_keep) (fail)
    all_goals
      go_wp2_with fail
      refine bodyPost_ret (results_cell_tmp2 rfl _ _ w.heap.size 28 _ _ _ rfl (HT.out.blk 0 rfl) Try.underlying28 rfl (by kernel_rfl)) rfl ⟨?_, HT.out.bel⟩
      unfold uhd udpTo
      rw [if_pos hE, if_pos hE, hE]
      rfl
  · refine (with_no _ A n c zs _ ((h.below S'.bel).more S'.size) hz hn hE).mono ?_
    rintro e w2 ⟨rfl, hb2⟩
    have S2 := S'.next hb2
    have x0 : w2.cell? ⟨w.heap.size + 1, 0, none⟩ = some (.int .u16 0) := S2.cell 1 rfl 0 rfl
    have x1 : w2.cell? ⟨w.heap.size + 1, 1, none⟩ = some (.int .u16 0) := S2.cell 1 rfl 1 rfl
    have x2 : w2.cell? ⟨w.heap.size + 1, 2, none⟩ = some (.bool false) := S2.cell 1 rfl 2 rfl
    have x3 : w2.cell? ⟨w.heap.size + 2, 0, none⟩ = some (.int .i64 0) := S2.cell 2 rfl 0 rfl
    have y0 : w2.cell? ⟨w.heap.size, 0, none⟩ = some (.int .u16 0) := S2.cell 0 rfl 0 rfl
    have y1 : w2.cell? ⟨w.heap.size, 1, none⟩ = some (.int .u16 0) := S2.cell 0 rfl 1 rfl
    have y2 : w2.cell? ⟨w.heap.size, 2, none⟩ = some (.bool false) := S2.cell 0 rfl 2 rfl
    have z0 := S2.free 0 rfl 0
    have z1 := S2.free 0 rfl 1
    have z2 := S2.free 0 rfl 2
    have T := (((S2.setB 0 rfl 0 (.int .u16 0)).setB 0 rfl 1 (.int .u16 0)).setB 0 rfl 2 (.bool false)).drew
    have HT := Lib.hid T
    have HE := Lib.hid hE
    clear T S2 S' hE
    go_wp2_with fail
    go_region_held3 (fun W' => W'.cell? ⟨w.heap.size + 1, 0, none⟩ = some (.int .u16 0) ∧ W'.cell? ⟨w.heap.size + 1, 1, none⟩ = some (.int .u16 0) ∧ W'.cell? ⟨w.heap.size + 1, 2, none⟩ = some (.bool false) ∧ W'.cell? ⟨w.heap.size + 2, 0, none⟩ = some (.int .i64 0)) (go_keep) (fail)
    all_goals
      go_wp2_with fail
      refine bodyPost_ret (results_cell_tmp2 rfl _ _ w.heap.size 28 _ _ _ rfl (HT.out.blk 0 rfl) Try.underlying28 rfl (by kernel_rfl)) rfl ⟨?_, HT.out.bel⟩
      unfold uhd udpTo
      rw [if_neg HE.out, if_neg HE.out]
      rfl

/-- whether a datagram that is right has its checksum -/
def udpPs (zs : List Int) (s d : Int) : Int := foldJ 0 [s / 65536, s % 65536, d / 65536, d % 65536, 17, wordAt zs 4]
def udpRight (zs : List Int) (s d : Int) : Bool := wordAt zs 6 == 0 || 65535 - stepJ (udpPs zs s d) (sumOf (zs.take (udpN zs))) == 0
def udpV (zs : List Int) (s d : Int) : Bool := udpE zs == 0 && udpRight zs s d

set_option maxHeartbeats 2000000 in
set_option maxRecDepth 100000 in
theorem verifyc_any (w0 W : World) (N : Nat) (zs : List Int) (A : Option Addr) (c : Nat) (s d : Int) (hz : BD 255 zs) (hs : 0 ≤ s) (hs' : s ≤ 4294967295) (hd : 0 ≤ d) (hd' : d ≤ 4294967295)
    (S : SP w0 W [.blk N 23 #[.int .u32 s], .blk (N + 1) 23 #[.int .u32 d], .blk (N + 2) 4 #[.bool false]]) (h : RD .u8 W W.heap.size A (udpN zs) (zs.take (udpN zs))) (hE : udpE zs = 0) :
    Calls Try.prog 33 #[.slice A (udpN zs) c, .agg (nums zs), .pointer (some ⟨N, 0, none⟩), .pointer (some ⟨N + 1, 0, none⟩), .pointer (some ⟨N + 2, 0, none⟩)] W fun e w' => e = .returned (.tuple #[]) ∧ SP w0 w' [.blk N 23 #[.int .u32 s], .blk (N + 1) 23 #[.int .u32 d], .blk (N + 2) 4 #[.bool (udpRight zs s d)]] := by
  obtain ⟨b1, b2⟩ := wordAt_bd9 hz 4
  have hN : udpN zs ≤ 65535 := by unfold udpN; omega
  replace S := S.alloc 66 (nums zs)
  have h' := h.later ((Below.refl _ W).alloc (Nat.le_refl _) (.cells (nums zs) 66))
  have hne : N + 2 ≠ W.heap.size := fun h => (S.ne 2 3 rfl rfl (by omega) (g := N + 2) rfl) (by rw [h]; rfl)
  unfold nums
  go_enter Try.func33, Try.ntmps33
  go_upto_region 1 with fail
  rw [show W.alloc (.cells #[.int .i64 (wordAt zs 0), .int .i64 (wordAt zs 2), .int .i64 (wordAt zs 4), .int .i64 (wordAt zs 6)] 66) = W.alloc (.cells (nums zs) 66) from rfl]
  generalize W.alloc (.cells (nums zs) 66) = W1 at S h' ⊢
  have x0 : W1.cell? ⟨N, 0, none⟩ = some (.int .u32 s) := S.cell 0 rfl 0 rfl
  have x1 : W1.cell? ⟨N + 1, 0, none⟩ = some (.int .u32 d) := S.cell 1 rfl 0 rfl
  have x2 : W1.cell? ⟨W.heap.size, 2, none⟩ = some (.int .i64 (wordAt zs 4)) := S.cell 3 rfl 2 rfl
  go_wp2_with fail
  refine (pseudo_any s d 17 (wordAt zs 4) _ hs hs' hd hd' (by omega) (by omega) b1 b2).mono ?_
  rintro e w2 ⟨rfl, hb2⟩
  replace S := S.next hb2
  have h2 := h'.later hb2
  clear x0 x1 x2 h h' hb2
  rw [show foldJ 0 [s / 65536, s % 65536, d / 65536, d % 65536, 17, wordAt zs 4] = udpPs zs s d from rfl]
  have hps : 0 ≤ udpPs zs s d ∧ udpPs zs s d ≤ 65535 := foldJ_bd _ (by omega) (by omega) (fun y hy => by simp at hy; omega)
  obtain ⟨p1, p2⟩ := hps
  have x3 : w2.cell? ⟨W.heap.size, 3, none⟩ = some (.int .i64 (wordAt zs 6)) := S.cell 3 rfl 3 rfl
  by_cases h6 : wordAt zs 6 = 0
  · have t6 : (wordAt zs 6 == 0) = true := by rw [h6]; rfl
    have hR : udpRight zs s d = true := by unfold udpRight; rw [t6]; rfl
    have y0 : w2.cell? ⟨N + 2, 0, none⟩ = some (.bool false) := S.cell 2 rfl 0 rfl
    have z0 := S.free 2 rfl 0
    have T := ((S.setB 2 rfl 0 (.bool true))).pick [0, 1, 2] (by decide) (L' := [.blk N 23 #[.int .u32 s], .blk (N + 1) 23 #[.int .u32 d], .blk (N + 2) 4 #[.bool true]]) rfl
    have HT := Lib.hid T
    have HR := Lib.hid hR
    clear T S h6 hR
    go_wp2_with fail
    go_end0
    exact ⟨rfl, by rw [HR.out]; exact HT.out⟩
  · have t6 : (wordAt zs 6 == 0) = false := by simp [h6]
    have hR : udpRight zs s d = (65535 - stepJ (udpPs zs s d) (sumOf (zs.take (udpN zs))) == 0) := by unfold udpRight; rw [t6]; rfl
    have HR := Lib.hid hR
    clear h6 hR
    go_wp2_with fail
    refine (over_any (udpPs zs s d) p1 p2 A (udpN zs) c (zs.take (udpN zs)) _ h2 (hz.take _) (by omega)).mono ?_
    rintro e w3 ⟨rfl, hb3⟩
    replace S := S.next hb3
    have y0 : w3.cell? ⟨N + 2, 0, none⟩ = some (.bool false) := S.cell 2 rfl 0 rfl
    have z0 := S.free 2 rfl 0
    have T := ((S.setB 2 rfl 0 (.bool (65535 - stepJ (udpPs zs s d) (sumOf (zs.take (udpN zs))) == 0)))).pick [0, 1, 2] (by decide) (L' := [.blk N 23 #[.int .u32 s], .blk (N + 1) 23 #[.int .u32 d], .blk (N + 2) 4 #[.bool (65535 - stepJ (udpPs zs s d) (sumOf (zs.take (udpN zs))) == 0)]]) rfl
    have HT := Lib.hid T
    clear T S
    go_wp2_with fail
    go_end0
    exact ⟨rfl, by rw [HR.out]; exact HT.out⟩

set_option maxHeartbeats 2000000 in
set_option maxRecDepth 100000 in
theorem uverify_any (A : Option Addr) (n c : Nat) (zs : List Int) (s d : Int) (w : World) (h : RD .u8 w w.heap.size A n zs) (hz : BD 255 zs) (hn : n ≤ 140737488355328) (hc : n ≤ c) (hs : 0 ≤ s) (hs' : s ≤ 4294967295) (hd : 0 ≤ d) (hd' : d ≤ 4294967295) :
    Calls Try.prog 19 #[.slice A n c, .int .u32 s, .int .u32 d] w fun e w' => e = .returned (.tuple #[.bool (udpV zs s d), .int .i64 (udpE zs)]) ∧ Below w.heap.size w w' := by
  have S := (((SP.start w).alloc 23 #[.int .u32 s]).alloc 23 #[.int .u32 d]).alloc 4 #[.bool false]
  have S' : SP w (((w.alloc (.cells #[.int .u32 s] 23)).alloc (.cells #[.int .u32 d] 23)).alloc (.cells #[.bool false] 4)) [.blk w.heap.size 23 #[.int .u32 s], .blk (w.heap.size + 1) 23 #[.int .u32 d], .blk (w.heap.size + 2) 4 #[.bool false]] := by simpa using S
  have hl := h.len
  clear S
  go_enter Try.func19, Try.ntmps19
  go_upto_region 2 with fail
  generalize ((w.alloc (.cells #[.int .u32 s] 23)).alloc (.cells #[.int .u32 d] 23)).alloc (.cells #[.bool false] 4) = W1 at S' ⊢
  have H := Lib.hid ((h.below S'.bel).more S'.size)
  by_cases hE : udpE zs = 0
  · have hV : udpV zs s d = udpRight zs s d := by unfold udpV; rw [hE]; rfl
    have HV := Lib.hid hV
    obtain ⟨_, _, _, _, _, _, hle⟩ := udpE_ok hE
    rw [hl] at hle
    have HE := Lib.hid hE
    clear hE hV h hl
    go_wp2_with fail
    refine (with_ok 33 cf_verifyc #[.pointer (some ⟨w.heap.size, 0, none⟩), .pointer (some ⟨w.heap.size + 1, 0, none⟩), .pointer (some ⟨w.heap.size + 2, 0, none⟩)] (fun w' => SP w w' [.blk w.heap.size 23 #[.int .u32 s], .blk (w.heap.size + 1) 23 #[.int .u32 d], .blk (w.heap.size + 2) 4 #[.bool (udpRight zs s d)]]) A n c zs _ H.out hz hn hc HE.out (fun W hb => verifyc_any w W w.heap.size zs A c s d hz hs hs' hd hd' (S'.next hb) ((H.out.later hb).take hle) HE.out)).mono ?_
    rintro e w2 ⟨rfl, S2⟩
    have x0 : w2.cell? ⟨w.heap.size + 2, 0, none⟩ = some (.bool (udpRight zs s d)) := S2.cell 2 rfl 0 rfl
    go_wp2_with fail
    go_ret2
    exact ⟨by rw [HV.out, HE.out]; rfl, S2.bel⟩
  · have hV : udpV zs s d = false := by unfold udpV; simp [hE]
    have HV := Lib.hid hV
    have HE := Lib.hid hE
    clear hE hV h hl
    go_wp2_with fail
    refine (with_no _ A n c zs _ H.out hz hn HE.out).mono ?_
    rintro e w2 ⟨rfl, hb2⟩
    have S2 := S'.next hb2
    have x0 : w2.cell? ⟨w.heap.size + 2, 0, none⟩ = some (.bool false) := S2.cell 2 rfl 0 rfl
    go_wp2_with fail
    go_ret2
    exact ⟨by rw [HV.out]; rfl, S2.bel⟩

/-- a datagram with both ports exchanged -/
def turnU (zs : List Int) : List Int := (zs.drop 2).take 2 ++ (zs.take 2 ++ (zs.take (udpN zs)).drop 4)
def udpTE (zs : List Int) : Int := if udpE zs = 0 then (if 0 < wordAt zs 0 then 0 else 92) else udpE zs
def udpTB (zs : List Int) : List Int := if udpE zs = 0 ∧ 0 < wordAt zs 0 then turnU zs else []
theorem turnU_len {zs : List Int} (h : udpE zs = 0) : (turnU zs).length = udpN zs := by
  obtain ⟨_, _, _, _, _, h6, h7⟩ := udpE_ok h
  unfold turnU
  simp
  omega

set_option maxHeartbeats 2000000 in
set_option maxRecDepth 100000 in
theorem turnc_any (w0 W : World) (N : Nat) (zs : List Int) (A : Option Addr) (c : Nat) (hz : BD 255 zs)
    (S : SP w0 W [.blk N 22 #[.slice none 0 0]]) (h : RD .u8 W W.heap.size A (udpN zs) (zs.take (udpN zs))) (hE : udpE zs = 0) (hc : udpN zs ≤ c) :
    Calls Try.prog 34 #[.slice A (udpN zs) c, .agg (nums zs), .pointer (some ⟨N, 0, none⟩)] W fun e w' => e = .returned (.tuple #[]) ∧ ∃ A' n' c', SP w0 w' [.blk N 22 #[.slice A' n' c'], .own .u8 5 A' n' c' (if 0 < wordAt zs 0 then turnU zs else [])] := by
  obtain ⟨b1, b2⟩ := wordAt_bd9 hz 4
  have hN : udpN zs ≤ 65535 := by unfold udpN; omega
  obtain ⟨_, _, _, _, _, h6, h7⟩ := udpE_ok hE
  obtain ⟨i0, hi, hz0, hz1, hz2⟩ := info_parts infoU8
  replace S := S.alloc 66 (nums zs)
  have h' := h.later ((Below.refl _ W).alloc (Nat.le_refl _) (.cells (nums zs) 66))
  unfold nums
  by_cases h0 : 0 < wordAt zs 0
  · have HI := Lib.hid (if_pos h0 : (if 0 < wordAt zs 0 then turnU zs else []) = _)
    go_enter Try.func34, Try.ntmps34
    go_upto_region 1 with fail
    rw [show W.alloc (.cells #[.int .i64 (wordAt zs 0), .int .i64 (wordAt zs 2), .int .i64 (wordAt zs 4), .int .i64 (wordAt zs 6)] 66) = W.alloc (.cells (nums zs) 66) from rfl]
    generalize hW1 : W.alloc (.cells (nums zs) 66) = W1 at S h' ⊢
    clear hW1
    have x0 : W1.cell? ⟨W.heap.size, 0, none⟩ = some (.int .i64 (wordAt zs 0)) := S.cell 1 rfl 0 rfl
    go_wp2_with fail
    clear x0
    have i1 : (2 : Int) ≤ (udpN zs : Int) := by omega
    have i2 : (4 : Int) ≤ (udpN zs : Int) := by omega
    have i3 : (4 : Int) ≤ (c : Int) := by omega
    have i4 : (2 : Int) ≤ (c : Int) := by omega
    have s1 := fun W => run_slice_lohi (P := Try.prog) W Try.underlying22 hi hz1 A (udpN zs) c 2 4 2 4 rfl rfl (by omega) (by omega)
    have s2 := fun W => run_slice_lo (P := Try.prog) W Try.underlying22 hi hz1 A (udpN zs) c 4 4 rfl (by omega)
    have r1 := h'.mid (c := c) (lo := 2) (hi := 4) (by omega) (by omega) hc
    have r2 := h'.take (m := 2) (by omega)
    have r3 := h'.cutA (c := c) (lo := 4) (by omega) hc
    have HH := Lib.hid (And.intro r1 (And.intro r2 r3))
    clear r1 r2 r3 h h'
    have HS := Lib.hid S
    clear S
    go_region_held3 (fun _ => True) (trivial)
      ((go_at_call 35
        refine (concat3_any _ 3 (cutA A c 2) 2 (c - 2) _ A 2 c _ (cutA A c 4) (udpN zs - 4) (c - 4) _ _ (by exact RV.new' W1 22 _ rfl (by show W1.heap.size < (W1.alloc _).heap.size; simp) rfl) (by exact HH.out.1.later (((Below.refl _ W1).alloc (Nat.le_refl _) _).drew)) (by exact HH.out.2.1.later (((Below.refl _ W1).alloc (Nat.le_refl _) _).drew)) (by exact HH.out.2.2.later (((Below.refl _ W1).alloc (Nat.le_refl _) _).drew)) (by omega)).mono ?_
        rintro e w2 ⟨A2, n2, c2, rfl, own2, hb2⟩
        have S2 := (HS.out.next (((Below.refl _ W1).alloc (Nat.le_refl _) _).drew)).pushOwn hb2 own2
        have y0 : w2.cell? ⟨N, 0, none⟩ = some (.slice none 0 0) := S2.cell 0 rfl 0 rfl
        have z0 := S2.free 0 rfl 0
        have T := (S2.setB 0 rfl 0 (.slice A2 n2 c2))
        have HT := Lib.hid T
        clear S2 T own2 hb2))
    go_wp2_with fail
    go_end0
    refine ⟨rfl, A2, n2, c2, ?_⟩
    try rw [HI.out]
    have e1 : ((zs.take (udpN zs)).drop 2).take (4 - 2) ++ ((zs.take (udpN zs)).take 2 ++ (zs.take (udpN zs)).drop 4) = turnU zs := by
      unfold turnU
      congr 1
      · rw [List.drop_take, List.take_take]
        congr 1
        omega
      · congr 1
        rw [List.take_take]
        congr 1
        omega
    have := HT.out.pick [0, 2] (by decide) (L' := [.blk N 22 #[.slice A2 n2 c2], .own .u8 5 A2 n2 c2 (((zs.take (udpN zs)).drop 2).take (4 - 2) ++ ((zs.take (udpN zs)).take 2 ++ (zs.take (udpN zs)).drop 4))]) rfl
    rwa [e1] at this
  · have HI := Lib.hid (if_neg h0 : (if 0 < wordAt zs 0 then turnU zs else []) = _)
    go_enter Try.func34, Try.ntmps34
    go_upto_region 1 with fail
    rw [show W.alloc (.cells #[.int .i64 (wordAt zs 0), .int .i64 (wordAt zs 2), .int .i64 (wordAt zs 4), .int .i64 (wordAt zs 6)] 66) = W.alloc (.cells (nums zs) 66) from rfl]
    generalize hW1 : W.alloc (.cells (nums zs) 66) = W1 at S h' ⊢
    clear hW1
    have x0 : W1.cell? ⟨W.heap.size, 0, none⟩ = some (.int .i64 (wordAt zs 0)) := S.cell 1 rfl 0 rfl
    have T := (S.push (Below.refl _ _) (it := .own .u8 5 none 0 0 []) OWN.nil).pick [0, 2] (by decide) (L' := [.blk N 22 #[.slice none 0 0], .own .u8 5 none 0 0 []]) rfl
    have HT := Lib.hid T
    clear T S
    go_wp2_with fail
    go_end0
    exact ⟨rfl, none, 0, 0, by (try rw [HI.out]); exact HT.out⟩

set_option maxHeartbeats 2000000 in
set_option maxRecDepth 100000 in
theorem uturn_any (A : Option Addr) (n c : Nat) (zs : List Int) (w : World) (h : RD .u8 w w.heap.size A n zs) (hz : BD 255 zs) (hn : n ≤ 140737488355328) (hc : n ≤ c) :
    Calls Try.prog 20 #[.slice A n c] w fun e w' => ∃ A' n' c', e = .returned (.tuple #[.slice A' n' c', .int .i64 (udpTE zs)]) ∧ OWN .u8 5 w' w.heap.size A' n' c' (udpTB zs) ∧ Below w.heap.size w w' := by
  have S := (SP.start w).alloc 22 #[.slice none 0 0]
  have hl := h.len
  go_enter Try.func20, Try.ntmps20
  go_upto_region 2 with fail
  generalize w.alloc (.cells #[.slice none 0 0] 22) = W1 at S ⊢
  have H := Lib.hid ((h.below S.bel).more S.size)
  by_cases hE : udpE zs = 0
  · obtain ⟨_, _, _, _, _, h6, hle⟩ := udpE_ok hE
    rw [hl] at hle
    have HE := Lib.hid hE
    have HLn := Lib.hid (turnU_len hE)
    clear hE h hl
    go_wp2_with fail
    refine (with_ok 34 cf_turnc #[.pointer (some ⟨w.heap.size, 0, none⟩)] (fun w' => ∃ A' n' c', SP w w' [.blk w.heap.size 22 #[.slice A' n' c'], .own .u8 5 A' n' c' (if 0 < wordAt zs 0 then turnU zs else [])]) A n c zs _ H.out hz hn hc HE.out (fun W hb => turnc_any w W w.heap.size zs A c hz (S.next hb) ((H.out.later hb).take hle) HE.out (by omega))).mono ?_
    rintro e w2 ⟨rfl, A2, n2, c2, S2⟩
    have x0 : w2.cell? ⟨w.heap.size, 0, none⟩ = some (.slice A2 n2 c2) := S2.cell 0 rfl 0 rfl
    have hn2 := (S2.own 1 rfl).len
    by_cases h0 : 0 < wordAt zs 0
    · rw [if_pos h0, HLn.out] at hn2
      have t1 : ((n2 : Int) == 0) = false := by simp; omega
      have H0 := Lib.hid h0
      clear hn2 h0 S
      go_wp2_with fail
      go_ret2
      refine ⟨A2, n2, c2, ?_, ?_, S2.bel⟩
      · unfold udpTE; rw [if_pos HE.out, if_pos H0.out]; rfl
      · unfold udpTB; rw [if_pos ⟨HE.out, H0.out⟩]; have := S2.own 1 rfl; rwa [if_pos H0.out] at this
    · rw [if_neg h0] at hn2
      have t1 : ((n2 : Int) == 0) = true := by simp at hn2; simp; omega
      have H0 := Lib.hid h0
      clear hn2 h0 S
      go_wp2_with fail
      go_ret2
      refine ⟨A2, n2, c2, ?_, ?_, S2.bel⟩
      · unfold udpTE; rw [if_pos HE.out, if_neg (by have := H0.out; omega)]; rfl
      · unfold udpTB; rw [if_neg (fun hh => absurd hh.2 (by have := H0.out; omega))]; have := S2.own 1 rfl; rwa [if_neg (by have := H0.out; omega)] at this
  · have HE := Lib.hid hE
    have t1 : (udpE zs == 0) = false := by simp [hE]
    clear hE h hl
    go_wp2_with fail
    refine (with_no _ A n c zs _ H.out hz hn HE.out).mono ?_
    rintro e w2 ⟨rfl, hb2⟩
    have S2 := S.next hb2
    have x0 : w2.cell? ⟨w.heap.size, 0, none⟩ = some (.slice none 0 0) := S2.cell 0 rfl 0 rfl
    go_wp2_with fail
    go_ret2
    refine ⟨none, 0, 0, ?_, ?_, S2.bel⟩
    · unfold udpTE; rw [if_neg HE.out]; rfl
    · unfold udpTB; rw [if_neg (fun hh => HE.out hh.1)]; exact OWN.nil
end Go.Proofs.Ytnocbpagdoihmaa
