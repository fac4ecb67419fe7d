import Derived.Test.YtcipgkpcaecjdaaWRef1W
import Derived.Test.YtcipgkpcaecjdaaWRdr
import Derived.Laws.ResultCell
import Derived.BigGuardPart
/- baffleref01: Number, Read. (Printed by gen_ref1r.py.) -/
namespace Go.Proofs.Ytcipgkpcaecjdaa
open Go.RowKit
set_option linter.unusedVariables false
set_option linter.unusedSimpArgs false

theorem results_cell_tmp1r {P : Program} {fn : Func} {p u1 : Tmp} {ty : TypeId} (h : fn.results = #[.cell p ty, .tmp u1]) (tmps : Array Value) (w : World) (g : Nat) (t : TypeId) (cs : Array Value) (fr : Nat × Nat) (d : TypeDesc)
    (hp : tmps.getD p undef = .pointer (some ⟨g, 0, none⟩)) (hg : w.heap[g]? = some (.cells cs t fr))
    (hu : P.underlying ty = some d) (hd : (match d with | .struct _ | .array _ _ => true | _ => false) = true) (hi : (P.info? ty).map (·.size) = some cs.size) :
    (results fn tmps).run P w = .ok (.tuple #[.agg cs, tmps.getD u1 undef]) w := by
  have hp' : tmps[p]?.getD undef = .pointer (some ⟨g, 0, none⟩) := by simpa using hp
  simp [results, h, hp', asAddr, run_loadVar_row w g t ty cs fr d hg hu hd hi]

set_option maxHeartbeats 1000000 in
set_option maxRecDepth 100000 in
theorem r1Number_any (A : Option Addr) (n c : Nat) (zs : List Int) (w : World) (h : RD .u8 w w.heap.size A n zs) (hz : BD 255 zs) (hn : n ≤ 4) :
    Calls Try.prog 51 #[.slice A n c] w fun e w' => e = .returned (.int .i64 (numZ zs)) ∧ w' = w := by
  have hl := h.len
  have HB := Lib.hid (fun k => numZ_bd (zs.take k) (hz.take k))
  have HR := Lib.hid h
  have HL := Lib.hid hl
  clear h hl
  go_enter Try.func51, Try.ntmps51
  go_upto_region 3 with fail
  go_loopw [4, 3] (fun s4 s3 wr => ∃ k : Nat, k ≤ n ∧ s4 = .int .i64 (k : Int) ∧ s3 = .int .i64 (numZ (zs.take k)) ∧ wr = w) (fun s4 _ _ => n - (intOf s4).toNat)
  case atStart => exact ⟨0, by omega, rfl, rfl, rfl⟩
  case round =>
    obtain ⟨k, hk, rfl, rfl, rfl⟩ := hrel
    have hb := HB.out k
    have hlk : (zs.take k).length = k := by rw [List.length_take, HL.out]; omega
    rw [hlk] at hb
    by_cases hlt : k < n
    case neg =>
      obtain rfl : k = n := by omega
      have t1 : ¬ (k : Int) < (k : Int) := by omega
      have HT := Lib.hid (show zs.take k = zs from List.take_of_length_le (by rw [HL.out]; omega))
      rw [HT.out] at hb ⊢
      obtain ⟨v, hv⟩ : ∃ v, numZ zs = v := ⟨_, rfl⟩
      rw [hv] at hb ⊢
      go_wp2_with fail
      go_ret
      exact ⟨rfl, rfl⟩
    have t1 : (k : Int) < (n : Int) := by omega
    have t3 : (0 : Int) ≤ (k : Int) := by omega
    have hb3 : (256 : Int) ^ k ≤ 256 ^ 3 := by
      rcases (show k = 0 ∨ k = 1 ∨ k = 2 ∨ k = 3 by omega) with rfl | rfl | rfl | rfl <;> decide
    obtain ⟨a, off, rfl, _, hcell⟩ := HR.out.2 (by omega)
    have x1 := hcell k hlt
    obtain ⟨z1, z2⟩ := hz.get (by omega) k
    have HK := Lib.hid (show numZ (zs.take (k + 1)) = numZ (zs.take k) * 256 + zs[k]?.getD 0 by
      rw [List.take_add_one, List.getElem?_eq_getElem (by rw [HL.out]; omega)]
      exact numZ_snoc _ _)
    obtain ⟨x, hx⟩ : ∃ x, zs[k]?.getD 0 = x := ⟨_, rfl⟩
    obtain ⟨v, hv⟩ : ∃ v, numZ (zs.take k) = v := ⟨_, rfl⟩
    rw [hx] at x1 z1 z2 HK
    rw [hv] at hb HK ⊢
    have e1 : IntKind.i64.wrap (256 * v) = 256 * v := IntWalk.i64_in _ (by omega)
    have e2 : IntKind.i64.wrap x = x := IntWalk.i64_in _ (by omega)
    have e3 : IntKind.i64.wrap (256 * v + x) = 256 * v + x := IntWalk.i64_in _ (by omega)
    have e4 : IntKind.i64.wrap ((k : Int) + 1) = (k : Int) + 1 := IntWalk.i64_in _ (by omega)
    have HM := Lib.hid (show 256 * v + x = v * 256 + x by omega)
    clear hcell hx hv hb hb3 hlk
    go_wp2_with fail
    go_roundw
    case rel => exact ⟨k + 1, by omega, by go_num, by rw [HK.out, ← HM.out], by trivial⟩
    case measure => simp [intOf]; omega

/-- a reader's cells (the reference) -/
def ycells (B : Option Addr) (n c p : Nat) (f : Bool) : Array Value := #[.slice B n c, .int .i64 (p : Int), .bool f]

set_option maxHeartbeats 2000000 in
set_option maxRecDepth 100000 in
theorem r1Read_any (A : Option Addr) (n c : Nat) (zs : List Int) (p : Nat) (f : Bool) (m : Int) (w : World) (h : RD .u8 w w.heap.size A n zs) (hp : p ≤ n) (hn : n ≤ 131072) :
    Calls Try.prog 50 #[.agg (ycells A n c p f), .int .i64 m] w fun e w' => ∃ A' n' c', e = .returned (.tuple #[.agg (ycells A n c (nxAt n p f m) (!nxOk n p f m)), .slice A' n' c']) ∧ OWN .u8 5 w' w.heap.size A' n' c' (nxB zs p f m) ∧ Below w.heap.size w w' := by
  obtain ⟨i0, hi', hz0, hz1, hz2⟩ := info_parts infoU8
  have RA := Lib.hid (fun (W : World) (hb : Below w.heap.size w W) => (show RD .u8 W W.heap.size A n zs from (h.below hb).more hb.size))
  have HZN := Lib.hid h.len
  clear h
  by_cases hok : nxOk n p f m = true
  case neg =>
    have hno : nxOk n p f m = false := by simpa using hok
    have HO := Lib.hid (show nxAt n p f m = p ∧ nxOk n p f m = false ∧ nxB zs p f m = [] from ⟨by unfold nxAt; rw [hno]; rfl, hno, by unfold nxB; rw [HZN.out, hno]; rfl⟩)
    rw [HO.out.1, HO.out.2.1, HO.out.2.2]
    unfold nxOk at hno
    clear hok HO
    by_cases h0 : m < 0
    · clear hno
      have X0 := Lib.hid (((SP.start w).alloc' 87 (ycells A n c p f) (N := w.heap.size) rfl).alloc' 87 (ycells none 0 0 0 false) (N := w.heap.size + 1) (by simp))
      obtain ⟨P, hP⟩ : ∃ P, P = w.heap.size := ⟨_, rfl⟩
      obtain ⟨Q, hQ⟩ : ∃ Q, Q = w.heap.size + 1 := ⟨_, rfl⟩
      rw [← hQ, ← hP] at X0
      unfold ycells
      go_enter Try.func50, Try.ntmps50
      go_upto_region 1 with fail
      rw [← hQ, ← hP]
      generalize hw1 : (w.alloc (.cells #[.slice A n c, .int .i64 (p : Int), .bool f] 87)).alloc (.cells #[.slice none 0 0, .int .i64 0, .bool false] 87) = w1
      replace X0 := Lib.hid (show SP w w1 [.blk P 87 (ycells A n c p f), .blk Q 87 (ycells none 0 0 0 false)] by rw [← hw1]; exact X0.out)
      clear hP hQ hw1
      have x0 : w1.cell? ⟨P, 0, none⟩ = some (.slice A n c) := X0.out.cell 0 rfl 0 rfl
      have x1 : w1.cell? ⟨P, 1, none⟩ = some (.int .i64 (p : Int)) := X0.out.cell 0 rfl 1 rfl
      have x2 : w1.cell? ⟨P, 2, none⟩ = some (.bool f) := X0.out.cell 0 rfl 2 rfl
      have d2 : w1.frozen? ⟨P, 2, none⟩ = false := X0.out.free 0 rfl 2
      go_upto_region 3 with fail
      have X1 := Lib.hid (show SP w (w1.setCell ⟨P, 2, none⟩ (.bool true)) [.blk P 87 (ycells A n c p true), .blk Q 87 (ycells none 0 0 0 false)] from X0.out.setB 0 rfl 2 (.bool true))
      go_wp2_with (first | (refine wpList_load_row rfl 87 _ rfl P rfl 87 (ycells A n c p true) (0, 0) _ (X1.out.blk 0 rfl) Try.underlying87 rfl (by kernel_rfl) ?_) | (refine wpList_store_row rfl 87 _ _ rfl Q (ycells A n c p true) rfl rfl 87 (ycells none 0 0 0 false) (X1.out.blk 1 rfl) (by kernel_rfl) rfl (by unfold ycells; simp [Value.oneCell']) ?_))
      have X2 := Lib.hid (X1.out.setR 1 rfl (ycells A n c p true))
      refine bodyPost_ret (results_cell_tmp1r rfl _ _ Q 87 _ (0, 0) _ rfl (X2.out.blk 1 rfl) Try.underlying87 rfl (by kernel_rfl)) rfl ?_
      exact ⟨none, 0, 0, rfl, OWN.nil, X2.out.bel⟩
    cases f
    case true =>
      clear hno
      have X0 := Lib.hid (((SP.start w).alloc' 87 (ycells A n c p true) (N := w.heap.size) rfl).alloc' 87 (ycells none 0 0 0 false) (N := w.heap.size + 1) (by simp))
      obtain ⟨P, hP⟩ : ∃ P, P = w.heap.size := ⟨_, rfl⟩
      obtain ⟨Q, hQ⟩ : ∃ Q, Q = w.heap.size + 1 := ⟨_, rfl⟩
      rw [← hQ, ← hP] at X0
      unfold ycells
      go_enter Try.func50, Try.ntmps50
      go_upto_region 1 with fail
      rw [← hQ, ← hP]
      generalize hw1 : (w.alloc (.cells #[.slice A n c, .int .i64 (p : Int), .bool true] 87)).alloc (.cells #[.slice none 0 0, .int .i64 0, .bool false] 87) = w1
      replace X0 := Lib.hid (show SP w w1 [.blk P 87 (ycells A n c p true), .blk Q 87 (ycells none 0 0 0 false)] by rw [← hw1]; exact X0.out)
      clear hP hQ hw1
      have x0 : w1.cell? ⟨P, 0, none⟩ = some (.slice A n c) := X0.out.cell 0 rfl 0 rfl
      have x1 : w1.cell? ⟨P, 1, none⟩ = some (.int .i64 (p : Int)) := X0.out.cell 0 rfl 1 rfl
      have x2 : w1.cell? ⟨P, 2, none⟩ = some (.bool true) := X0.out.cell 0 rfl 2 rfl
      have d2 : w1.frozen? ⟨P, 2, none⟩ = false := X0.out.free 0 rfl 2
      go_upto_region 3 with fail
      have X1 := Lib.hid (show SP w (w1.setCell ⟨P, 2, none⟩ (.bool true)) [.blk P 87 (ycells A n c p true), .blk Q 87 (ycells none 0 0 0 false)] from X0.out.setB 0 rfl 2 (.bool true))
      go_wp2_with (first | (refine wpList_load_row rfl 87 _ rfl P rfl 87 (ycells A n c p true) (0, 0) _ (X1.out.blk 0 rfl) Try.underlying87 rfl (by kernel_rfl) ?_) | (refine wpList_store_row rfl 87 _ _ rfl Q (ycells A n c p true) rfl rfl 87 (ycells none 0 0 0 false) (X1.out.blk 1 rfl) (by kernel_rfl) rfl (by unfold ycells; simp [Value.oneCell']) ?_))
      have X2 := Lib.hid (X1.out.setR 1 rfl (ycells A n c p true))
      refine bodyPost_ret (results_cell_tmp1r rfl _ _ Q 87 _ (0, 0) _ rfl (X2.out.blk 1 rfl) Try.underlying87 rfl (by kernel_rfl)) rfl ?_
      exact ⟨none, 0, 0, rfl, OWN.nil, X2.out.bel⟩
    case false =>
      obtain ⟨mm, rfl⟩ : ∃ mm : Nat, m = (mm : Int) := ⟨m.toNat, by omega⟩
      have hq : n < p + mm := by
        simp at hno
        omega
      clear hno
      by_cases h1 : n < mm
      · have t1 : (n : Int) < (mm : Int) := by omega
        have X0 := Lib.hid (((SP.start w).alloc' 87 (ycells A n c p false) (N := w.heap.size) rfl).alloc' 87 (ycells none 0 0 0 false) (N := w.heap.size + 1) (by simp))
        obtain ⟨P, hP⟩ : ∃ P, P = w.heap.size := ⟨_, rfl⟩
        obtain ⟨Q, hQ⟩ : ∃ Q, Q = w.heap.size + 1 := ⟨_, rfl⟩
        rw [← hQ, ← hP] at X0
        unfold ycells
        go_enter Try.func50, Try.ntmps50
        go_upto_region 1 with fail
        rw [← hQ, ← hP]
        generalize hw1 : (w.alloc (.cells #[.slice A n c, .int .i64 (p : Int), .bool false] 87)).alloc (.cells #[.slice none 0 0, .int .i64 0, .bool false] 87) = w1
        replace X0 := Lib.hid (show SP w w1 [.blk P 87 (ycells A n c p false), .blk Q 87 (ycells none 0 0 0 false)] by rw [← hw1]; exact X0.out)
        clear hP hQ hw1
        have x0 : w1.cell? ⟨P, 0, none⟩ = some (.slice A n c) := X0.out.cell 0 rfl 0 rfl
        have x1 : w1.cell? ⟨P, 1, none⟩ = some (.int .i64 (p : Int)) := X0.out.cell 0 rfl 1 rfl
        have x2 : w1.cell? ⟨P, 2, none⟩ = some (.bool false) := X0.out.cell 0 rfl 2 rfl
        have d2 : w1.frozen? ⟨P, 2, none⟩ = false := X0.out.free 0 rfl 2
        go_upto_region 3 with fail
        have X1 := Lib.hid (show SP w (w1.setCell ⟨P, 2, none⟩ (.bool true)) [.blk P 87 (ycells A n c p true), .blk Q 87 (ycells none 0 0 0 false)] from X0.out.setB 0 rfl 2 (.bool true))
        go_wp2_with (first | (refine wpList_load_row rfl 87 _ rfl P rfl 87 (ycells A n c p true) (0, 0) _ (X1.out.blk 0 rfl) Try.underlying87 rfl (by kernel_rfl) ?_) | (refine wpList_store_row rfl 87 _ _ rfl Q (ycells A n c p true) rfl rfl 87 (ycells none 0 0 0 false) (X1.out.blk 1 rfl) (by kernel_rfl) rfl (by unfold ycells; simp [Value.oneCell']) ?_))
        have X2 := Lib.hid (X1.out.setR 1 rfl (ycells A n c p true))
        refine bodyPost_ret (results_cell_tmp1r rfl _ _ Q 87 _ (0, 0) _ rfl (X2.out.blk 1 rfl) Try.underlying87 rfl (by kernel_rfl)) rfl ?_
        exact ⟨none, 0, 0, rfl, OWN.nil, X2.out.bel⟩
      · have t1 : ¬ (n : Int) < (mm : Int) := by omega
        have t2 : (n : Int) < (p : Int) + (mm : Int) := by omega
        have e0 : IntKind.i64.wrap ((p : Int) + (mm : Int)) = (p : Int) + (mm : Int) := IntWalk.i64_in _ (by omega)
        have X0 := Lib.hid (((SP.start w).alloc' 87 (ycells A n c p false) (N := w.heap.size) rfl).alloc' 87 (ycells none 0 0 0 false) (N := w.heap.size + 1) (by simp))
        obtain ⟨P, hP⟩ : ∃ P, P = w.heap.size := ⟨_, rfl⟩
        obtain ⟨Q, hQ⟩ : ∃ Q, Q = w.heap.size + 1 := ⟨_, rfl⟩
        rw [← hQ, ← hP] at X0
        unfold ycells
        go_enter Try.func50, Try.ntmps50
        go_upto_region 1 with fail
        rw [← hQ, ← hP]
        generalize hw1 : (w.alloc (.cells #[.slice A n c, .int .i64 (p : Int), .bool false] 87)).alloc (.cells #[.slice none 0 0, .int .i64 0, .bool false] 87) = w1
        replace X0 := Lib.hid (show SP w w1 [.blk P 87 (ycells A n c p false), .blk Q 87 (ycells none 0 0 0 false)] by rw [← hw1]; exact X0.out)
        clear hP hQ hw1
        have x0 : w1.cell? ⟨P, 0, none⟩ = some (.slice A n c) := X0.out.cell 0 rfl 0 rfl
        have x1 : w1.cell? ⟨P, 1, none⟩ = some (.int .i64 (p : Int)) := X0.out.cell 0 rfl 1 rfl
        have x2 : w1.cell? ⟨P, 2, none⟩ = some (.bool false) := X0.out.cell 0 rfl 2 rfl
        have d2 : w1.frozen? ⟨P, 2, none⟩ = false := X0.out.free 0 rfl 2
        go_upto_region 3 with fail
        have X1 := Lib.hid (show SP w (w1.setCell ⟨P, 2, none⟩ (.bool true)) [.blk P 87 (ycells A n c p true), .blk Q 87 (ycells none 0 0 0 false)] from X0.out.setB 0 rfl 2 (.bool true))
        go_wp2_with (first | (refine wpList_load_row rfl 87 _ rfl P rfl 87 (ycells A n c p true) (0, 0) _ (X1.out.blk 0 rfl) Try.underlying87 rfl (by kernel_rfl) ?_) | (refine wpList_store_row rfl 87 _ _ rfl Q (ycells A n c p true) rfl rfl 87 (ycells none 0 0 0 false) (X1.out.blk 1 rfl) (by kernel_rfl) rfl (by unfold ycells; simp [Value.oneCell']) ?_))
        have X2 := Lib.hid (X1.out.setR 1 rfl (ycells A n c p true))
        refine bodyPost_ret (results_cell_tmp1r rfl _ _ Q 87 _ (0, 0) _ rfl (X2.out.blk 1 rfl) Try.underlying87 rfl (by kernel_rfl)) rfl ?_
        exact ⟨none, 0, 0, rfl, OWN.nil, X2.out.bel⟩
  have hf : f = false ∧ 0 ≤ m ∧ m ≤ (n : Int) - (p : Int) := by
    unfold nxOk at hok
    simp at hok
    exact ⟨hok.1, hok.2.1, hok.2.2⟩
  obtain ⟨rfl, hm0, hm1⟩ := hf
  obtain ⟨mm, rfl⟩ : ∃ mm : Nat, m = (mm : Int) := ⟨m.toNat, by omega⟩
  have HO := Lib.hid (show nxAt n p false (mm : Int) = p + mm ∧ nxOk n p false (mm : Int) = true ∧ nxB zs p false (mm : Int) = (zs.drop p).take mm from ⟨by unfold nxAt; rw [hok]; simp, hok, by unfold nxB; rw [HZN.out, hok]; simp⟩)
  rw [HO.out.1, HO.out.2.1, HO.out.2.2]
  have t0 : ¬ (mm : Int) < 0 := by omega
  have t1 : ¬ (n : Int) < (mm : Int) := by omega
  have t2 : ¬ (n : Int) < (p : Int) + (mm : Int) := by omega
  have t3 : ¬ n < mm := by omega
  have t4 : ¬ n < p + mm := by omega
  have e0 : IntKind.i64.wrap ((p : Int) + (mm : Int)) = (p : Int) + (mm : Int) := IntWalk.i64_in _ (by omega)
  clear hok HO
  have X0 := Lib.hid (((SP.start w).alloc' 87 (ycells A n c p false) (N := w.heap.size) rfl).alloc' 87 (ycells none 0 0 0 false) (N := w.heap.size + 1) (by simp))
  obtain ⟨P, hP⟩ : ∃ P, P = w.heap.size := ⟨_, rfl⟩
  obtain ⟨Q, hQ⟩ : ∃ Q, Q = w.heap.size + 1 := ⟨_, rfl⟩
  rw [← hQ, ← hP] at X0
  unfold ycells
  go_enter Try.func50, Try.ntmps50
  go_upto_region 1 with fail
  rw [← hQ, ← hP]
  generalize hw1 : (w.alloc (.cells #[.slice A n c, .int .i64 (p : Int), .bool false] 87)).alloc (.cells #[.slice none 0 0, .int .i64 0, .bool false] 87) = w1
  replace X0 := Lib.hid (show SP w w1 [.blk P 87 (ycells A n c p false), .blk Q 87 (ycells none 0 0 0 false)] by rw [← hw1]; exact X0.out)
  clear hP hQ hw1
  have x0 : w1.cell? ⟨P, 0, none⟩ = some (.slice A n c) := X0.out.cell 0 rfl 0 rfl
  have x1 : w1.cell? ⟨P, 1, none⟩ = some (.int .i64 (p : Int)) := X0.out.cell 0 rfl 1 rfl
  have x2 : w1.cell? ⟨P, 2, none⟩ = some (.bool false) := X0.out.cell 0 rfl 2 rfl
  have d2 : w1.frozen? ⟨P, 2, none⟩ = false := X0.out.free 0 rfl 2
  go_upto_region 6 with fail
  clear x0 x1 x2 d2
  go_loopw [7, 6] (fun s7 s6 wr => ∃ (k : Nat) (B : Option Addr) (cc : Nat), k ≤ mm ∧ s7 = .int .i64 (k : Int) ∧ s6 = .slice B k cc ∧ SP w wr [.blk P 87 (ycells A n c p false), .blk Q 87 (ycells none 0 0 0 false), .own .u8 5 B k cc ((zs.drop p).take k)]) (fun s7 _ _ => mm - (intOf s7).toNat)
  case atStart => exact ⟨0, none, 0, by omega, rfl, rfl, by simpa using X0.out.pushOwn (Below.refl _ _) (OWN.nil (k := .u8) (e := 5))⟩
  case round =>
    obtain ⟨k, B, cc, hk, rfl, rfl, Z0⟩ := hrel
    obtain ⟨wp, rfl⟩ : ∃ wp : World, wp = wr := ⟨_, rfl⟩
    have Z := Lib.hid Z0
    clear Z0 X0
    have x0 : wp.cell? ⟨P, 0, none⟩ = some (.slice A n c) := Z.out.cell 0 rfl 0 rfl
    have x1 : wp.cell? ⟨P, 1, none⟩ = some (.int .i64 (p : Int)) := Z.out.cell 0 rfl 1 rfl
    by_cases hlt : k < mm
    case neg =>
      obtain rfl : k = mm := by omega
      have d1 : wp.frozen? ⟨P, 1, none⟩ = false := Z.out.free 0 rfl 1
      have t7 : ¬ (k : Int) < (k : Int) := by omega
      go_upto_region 10 with fail
      have X1 := Lib.hid (show SP w (wp.setCell ⟨P, 1, none⟩ (.int .i64 ((p : Int) + (k : Int)))) [.blk P 87 (ycells A n c (p + k) false), .blk Q 87 (ycells none 0 0 0 false), .own .u8 5 B k cc ((zs.drop p).take k)] from Z.out.setB 0 rfl 1 (.int .i64 ((p : Int) + (k : Int))))
      go_wp2_with (first | (refine wpList_load_row rfl 87 _ rfl P rfl 87 (ycells A n c (p + k) false) (0, 0) _ (X1.out.blk 0 rfl) Try.underlying87 rfl (by kernel_rfl) ?_) | (refine wpList_store_row rfl 87 _ _ rfl Q (ycells A n c (p + k) false) rfl rfl 87 (ycells none 0 0 0 false) (X1.out.blk 1 rfl) (by kernel_rfl) rfl (by unfold ycells; simp [Value.oneCell']) ?_))
      have X2 := Lib.hid (X1.out.setR 1 rfl (ycells A n c (p + k) false))
      refine bodyPost_ret (results_cell_tmp1r rfl _ _ Q 87 _ (0, 0) _ rfl (X2.out.blk 1 rfl) Try.underlying87 rfl (by kernel_rfl)) rfl ?_
      exact ⟨B, k, cc, rfl, X2.out.own 2 rfl, X2.out.bel⟩
    have t7 : (k : Int) < (mm : Int) := by omega
    obtain ⟨q, hq⟩ : ∃ q : Nat, q = p + k := ⟨_, rfl⟩
    have e5 : IntKind.i64.wrap ((p : Int) + (k : Int)) = (q : Int) := by rw [hq]; exact IntWalk.i64_in _ (by omega)
    have e6 : IntKind.i64.wrap ((k : Int) + 1) = (k : Int) + 1 := IntWalk.i64_in _ (by omega)
    have t5 : (0 : Int) ≤ (q : Int) := by omega
    have t6 : (q : Int) < (n : Int) := by omega
    obtain ⟨a, off, rfl, _, hcell⟩ := (RA.out _ Z.out.bel).2 (by omega)
    have x3 := hcell q (by omega)
    have HT := Lib.hid (show (zs.drop p).take (k + 1) = (zs.drop p).take k ++ [zs[q]?.getD 0] by
      rw [List.take_add_one, List.getElem?_drop, ← hq, List.getElem?_eq_getElem (by rw [HZN.out]; omega)]
      rfl)
    obtain ⟨x, hx⟩ : ∃ x, zs[q]?.getD 0 = x := ⟨_, rfl⟩
    rw [hx] at x3 HT
    have X2 := Lib.hid (Z.out.allocI' .u8 5 [x] (by simp [maxLen]) (N := wp.heap.size) rfl)
    clear hcell hx hq
    go_wp2_with (at_builtin; refine wpList_append_rd _ rfl _ _ _ rfl .u8 w.heap.size 5 i0 1 Try.underlying22 hi' hz0 hz1 hz2 B k cc ((zs.drop p).take k) rfl (X2.out.own 2 rfl) _ (some ⟨wp.heap.size, 0, none⟩) 1 1 [x] rfl (X2.out.rd 3 rfl) (by simp only [maxLen]; omega) (by omega) X2.out.size ?_; intro A9 c9 w9 happ; have X9 := Lib.hid (X2.out.app 2 rfl happ); clear happ X2)
    go_roundw
    case rel =>
      refine ⟨k + 1, A9, c9, by omega, by go_num, rfl, ?_⟩
      rw [HT.out]
      exact X9.out.pick [0, 1, 2] (by decide) rfl
    case measure => simp [intOf]; omega
end Go.Proofs.Ytcipgkpcaecjdaa
