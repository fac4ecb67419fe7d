import Derived.Test.YtcipgkpcaecjdaaWRef1W
import Derived.Test.YtcipgkpcaecjdaaWCopy
/- baffleref01: Zeros, Set, Bytes. (Printed by gen_ref1x.py.) -/
namespace Go.Proofs.Ytcipgkpcaecjdaa
open Go.RowKit
set_option linter.unusedVariables false
set_option linter.unusedSimpArgs false
theorem nameX {K : Act → World → Prop} {a : Act} {W : World} (h : ∀ W', W' = W → K a W') : K a W := h W rfl

set_option maxHeartbeats 2000000 in
set_option maxRecDepth 100000 in
theorem r1Zeros_any (lim : Nat) (B : Option Addr) (n c : Nat) (zs : List Int) (f : Bool) (q : Int) (w : World) (hB : RD .u8 w w.heap.size B n zs) (hn : n ≤ lim) (hl : lim ≤ 131072) :
    Calls Try.prog 55 #[.agg (xcells lim B n c f), .int .i64 q] w fun e w' => ∃ B' n' c', e = .returned (.agg (xcells lim B' n' c' (!wrOk lim n f q))) ∧ Below w.heap.size w w' ∧ XW w w' (wrOk lim n f q) B B' n n' c c' (zs ++ List.replicate q.toNat 0) := by
  obtain ⟨i0, hi', hz0, hz1, hz2⟩ := info_parts infoU8
  have RB := Lib.hid (fun (W : World) (hb : Below w.heap.size w W) => (show RD .u8 W W.heap.size B n zs from (hB.below hb).more hb.size))
  clear hB
  by_cases h0 : q < 0
  · have HO := Lib.hid (show wrOk lim n f q = false by unfold wrOk; rw [show decide (0 ≤ q) = false by simpa using h0]; simp)
    rw [HO.out]
    have X0 := Lib.hid (((SP.start w).alloc' 94 (xcells lim B n c f) (N := w.heap.size) rfl).alloc' 94 (xcells 0 none 0 0 false) (N := w.heap.size + 1) (by simp))
    obtain ⟨P, hP⟩ : ∃ P, P = w.heap.size := ⟨_, rfl⟩
    obtain ⟨Q, hQ⟩ : ∃ Q, Q = w.heap.size + 1 := ⟨_, rfl⟩
    rw [← hQ, ← hP] at X0
    unfold xcells
    go_enter Try.func55, Try.ntmps55
    go_upto_region 1 with fail
    rw [← hQ, ← hP]
    generalize hw1 : (w.alloc (.cells #[.int .i64 (lim : Int), .slice B n c, .bool f] 94)).alloc (.cells #[.int .i64 0, .slice none 0 0, .bool false] 94) = w1
    replace X0 := Lib.hid (show SP w w1 [.blk P 94 (xcells lim B n c f), .blk Q 94 (xcells 0 none 0 0 false)] by rw [← hw1]; exact X0.out)
    clear hP hQ hw1
    have x0 : w1.cell? ⟨P, 0, none⟩ = some (.int .i64 (lim : Int)) := X0.out.cell 0 rfl 0 rfl
    have x1 : w1.cell? ⟨P, 1, none⟩ = some (.slice B n c) := X0.out.cell 0 rfl 1 rfl
    have x2 : w1.cell? ⟨P, 2, none⟩ = some (.bool f) := X0.out.cell 0 rfl 2 rfl
    have d1 : w1.frozen? ⟨P, 1, none⟩ = false := X0.out.free 0 rfl 1
    have d2 : w1.frozen? ⟨P, 2, none⟩ = false := X0.out.free 0 rfl 2
    go_upto_region 3 with fail
    have X1 := Lib.hid (show SP w (w1.setCell ⟨P, 2, none⟩ (.bool true)) [.blk P 94 (xcells lim B n c true), .blk Q 94 (xcells 0 none 0 0 false)] from X0.out.setB 0 rfl 2 (.bool true))
    go_wp2_with (first | (refine wpList_load_row rfl 94 _ rfl P rfl 94 (xcells lim B n c true) (0, 0) _ (X1.out.blk 0 rfl) Try.underlying94 rfl (by kernel_rfl) ?_) | (refine wpList_store_row rfl 94 _ _ rfl Q (xcells lim B n c true) rfl rfl 94 (xcells 0 none 0 0 false) (X1.out.blk 1 rfl) (by kernel_rfl) rfl (by unfold xcells; simp [Value.oneCell']) ?_))
    have X2 := Lib.hid (X1.out.setR 1 rfl (xcells lim B n c true))
    refine bodyPost_ret (results_cell_row rfl _ _ Q 94 _ (0, 0) _ rfl (X2.out.blk 1 rfl) Try.underlying94 rfl (by kernel_rfl)) rfl ?_
    exact ⟨B, n, c, rfl, X2.out.bel, .inl ⟨rfl, rfl, rfl, rfl⟩⟩
  by_cases h1 : (lim : Int) < q
  · have HO := Lib.hid (show wrOk lim n f q = false by unfold wrOk; rw [show decide (q ≤ (lim : Int) - (n : Int)) = false by simp; omega]; simp)
    rw [HO.out]
    have X0 := Lib.hid (((SP.start w).alloc' 94 (xcells lim B n c f) (N := w.heap.size) rfl).alloc' 94 (xcells 0 none 0 0 false) (N := w.heap.size + 1) (by simp))
    obtain ⟨P, hP⟩ : ∃ P, P = w.heap.size := ⟨_, rfl⟩
    obtain ⟨Q, hQ⟩ : ∃ Q, Q = w.heap.size + 1 := ⟨_, rfl⟩
    rw [← hQ, ← hP] at X0
    unfold xcells
    go_enter Try.func55, Try.ntmps55
    go_upto_region 1 with fail
    rw [← hQ, ← hP]
    generalize hw1 : (w.alloc (.cells #[.int .i64 (lim : Int), .slice B n c, .bool f] 94)).alloc (.cells #[.int .i64 0, .slice none 0 0, .bool false] 94) = w1
    replace X0 := Lib.hid (show SP w w1 [.blk P 94 (xcells lim B n c f), .blk Q 94 (xcells 0 none 0 0 false)] by rw [← hw1]; exact X0.out)
    clear hP hQ hw1
    have x0 : w1.cell? ⟨P, 0, none⟩ = some (.int .i64 (lim : Int)) := X0.out.cell 0 rfl 0 rfl
    have x1 : w1.cell? ⟨P, 1, none⟩ = some (.slice B n c) := X0.out.cell 0 rfl 1 rfl
    have x2 : w1.cell? ⟨P, 2, none⟩ = some (.bool f) := X0.out.cell 0 rfl 2 rfl
    have d1 : w1.frozen? ⟨P, 1, none⟩ = false := X0.out.free 0 rfl 1
    have d2 : w1.frozen? ⟨P, 2, none⟩ = false := X0.out.free 0 rfl 2
    go_upto_region 3 with fail
    have X1 := Lib.hid (show SP w (w1.setCell ⟨P, 2, none⟩ (.bool true)) [.blk P 94 (xcells lim B n c true), .blk Q 94 (xcells 0 none 0 0 false)] from X0.out.setB 0 rfl 2 (.bool true))
    go_wp2_with (first | (refine wpList_load_row rfl 94 _ rfl P rfl 94 (xcells lim B n c true) (0, 0) _ (X1.out.blk 0 rfl) Try.underlying94 rfl (by kernel_rfl) ?_) | (refine wpList_store_row rfl 94 _ _ rfl Q (xcells lim B n c true) rfl rfl 94 (xcells 0 none 0 0 false) (X1.out.blk 1 rfl) (by kernel_rfl) rfl (by unfold xcells; simp [Value.oneCell']) ?_))
    have X2 := Lib.hid (X1.out.setR 1 rfl (xcells lim B n c true))
    refine bodyPost_ret (results_cell_row rfl _ _ Q 94 _ (0, 0) _ rfl (X2.out.blk 1 rfl) Try.underlying94 rfl (by kernel_rfl)) rfl ?_
    exact ⟨B, n, c, rfl, X2.out.bel, .inl ⟨rfl, rfl, rfl, rfl⟩⟩
  obtain ⟨m, rfl⟩ := Int.eq_ofNat_of_zero_le (show 0 ≤ q by omega)
  have hml : m ≤ lim := by omega
  have h0n : ¬ lim < m := by omega
  rw [show ((m : Int)).toNat = m from Int.toNat_natCast m]
  obtain ⟨ok, hok⟩ : ∃ ok, wrOk lim n f (m : Int) = ok := ⟨_, rfl⟩
  have HW := Lib.hid (fun W A hA hR => r1Write_any lim B n c zs f A m m (List.replicate m 0) W hR hA hn hl (by omega))
  rw [hok] at HW ⊢
  clear hok
  have X0 := Lib.hid (((SP.start w).alloc' 94 (xcells lim B n c f) (N := w.heap.size) rfl).alloc' 94 (xcells 0 none 0 0 false) (N := w.heap.size + 1) (by simp))
  obtain ⟨P, hP⟩ : ∃ P, P = w.heap.size := ⟨_, rfl⟩
  obtain ⟨Q, hQ⟩ : ∃ Q, Q = w.heap.size + 1 := ⟨_, rfl⟩
  rw [← hQ, ← hP] at X0
  unfold xcells
  go_enter Try.func55, Try.ntmps55
  go_upto_region 1 with fail
  rw [← hQ, ← hP]
  generalize hw1 : (w.alloc (.cells #[.int .i64 (lim : Int), .slice B n c, .bool f] 94)).alloc (.cells #[.int .i64 0, .slice none 0 0, .bool false] 94) = w1
  replace X0 := Lib.hid (show SP w w1 [.blk P 94 (xcells lim B n c f), .blk Q 94 (xcells 0 none 0 0 false)] by rw [← hw1]; exact X0.out)
  clear hP hQ hw1
  have x0 : w1.cell? ⟨P, 0, none⟩ = some (.int .i64 (lim : Int)) := X0.out.cell 0 rfl 0 rfl
  have x1 : w1.cell? ⟨P, 1, none⟩ = some (.slice B n c) := X0.out.cell 0 rfl 1 rfl
  have x2 : w1.cell? ⟨P, 2, none⟩ = some (.bool f) := X0.out.cell 0 rfl 2 rfl
  have d1 : w1.frozen? ⟨P, 1, none⟩ = false := X0.out.free 0 rfl 1
  have d2 : w1.frozen? ⟨P, 2, none⟩ = false := X0.out.free 0 rfl 2
  go_upto_region 4 with fail
  clear x0 x1 x2 d1 d2
  have XD := Lib.hid X0.out.drew
  cases ok
  case false =>
    refine wp_region_noPanic ?_
    refine wp_region_held_drew (S := fun W' => W'.heap[P]? = some (.cells (xcells lim B n c f) 94 (0, 0))) (by kernel_rfl) (by exact XD.out.blk 0 rfl) (fun hHeld => ?_)
    generalize w1.drew = v0 at XD hHeld ⊢
    refine' take_lit (i := 0) (v := .agg (xcells lim B n c f)) rfl (by kernel_rfl) (by kernel_rfl) (by kernel_rfl) (fun _ _ _ h => h) (Or.inl ⟨by rfl, ?yy1⟩) (by assumption) ?rr1
    case yy1 => intro w' hSw; exact exec_load_row 94 _ rfl P rfl 94 (xcells lim B n c f) (0, 0) _ (hSw) Try.underlying94 rfl (by kernel_rfl)
    (try simp only [Act.put]); (try simp only [List.setIfInBounds_toArray, List.set_cons_zero, List.set_cons_succ])
    refine' take_lit (i := 1) (v := _) rfl (by kernel_rfl) (by kernel_rfl) (by kernel_rfl) (fun _ _ _ h => h) (Or.inl ⟨by rfl, ?yy2⟩) (by assumption) ?rr2
    case yy2 => intro w' hSw; (try dsimp only at hSw); go_simp; try (with_reducible rfl)
    (try simp only [Act.put]); (try simp only [List.setIfInBounds_toArray, List.set_cons_zero, List.set_cons_succ])
    refine wpAnyH_ready (rs := [2]) (by kernel_rfl) (by simp) ?_
    refine cons_lit rfl (fun K hK => ?ss2x3) AllReadyH.nil
    case ss2x3 =>
      obtain ⟨v, hrun, own7, hb7, hs7⟩ := run_make_cap (P := Try.prog) (k := .u8) v0 22 i0 Try.underlying22 hi' hz0 hz1 (by omega) (m : Int) (m : Int) m m rfl rfl (Nat.le_refl _) (by omega)
      have Y := Lib.hid (show SP w v [.blk P 94 (xcells lim B n c f), .blk Q 94 (xcells 0 none 0 0 false), .own .u8 5 (some ⟨v0.heap.size, 0, none⟩) m m (List.replicate m 0)] from XD.out.pushOwn hb7 own7)
      clear own7 hb7 hs7
      go_simp
      clear hrun
      refine hK.out _ _ (by exact Y.out.blk 0 rfl) (fun hHeld => ?_)
      clear hK K
      (try simp only [Act.put]); (try simp only [List.setIfInBounds_toArray, List.set_cons_zero, List.set_cons_succ])
      refine wpAnyH_ready (rs := [3]) (by kernel_rfl) (by simp) ?_
      refine cons_lit rfl (fun K hK => ?ss3x4) AllReadyH.nil
      case ss3x4 =>
        go_simp
        refine (HW.out _ _ (Y.out.rd 2 rfl) (RB.out _ Y.out.bel)).mono ?_
        rintro e v2 ⟨B', n', c', rfl, hb2, hxw⟩
        have heq : B' = B ∧ n' = n ∧ c' = c := by
          rcases hxw with ⟨_, h⟩ | ⟨hx, _⟩
          · exact h
          · cases hx
        obtain ⟨rfl, rfl, rfl⟩ := heq
        have Y2 := Lib.hid (show SP w v2 [.blk P 94 (xcells lim B' n' c' f), .blk Q 94 (xcells 0 none 0 0 false)] from (Y.out.next hb2).pick [0, 1] (by decide) rfl)
        clear hxw hb2 Y
        refine hK.out _ _ (by exact Y2.out.blk 0 rfl) (fun hHeld => ?_)
        clear hK K
        (try simp only [Act.put]); (try simp only [List.setIfInBounds_toArray, List.set_cons_zero, List.set_cons_succ])
        refine wpAnyH_ready (rs := [4]) (by kernel_rfl) (by simp) ?_
        refine cons_lit rfl (fun K hK => ?ss4x5) AllReadyH.nil
        case ss4x5 =>
          refine step_store_row (by rfl) 94 _ _ (by rfl) Q (xcells lim B' n' c' true) (by rfl) (by rfl) 94 _ (Y2.out.blk 1 rfl) (by kernel_rfl) rfl (by unfold xcells; simp [Value.oneCell']) ?_
          refine nameX (fun v3 hv3 => ?_)
          have Y3 := Lib.hid (show SP w v3 [.blk P 94 (xcells lim B' n' c' f), .blk Q 94 (xcells lim B' n' c' true)] by rw [hv3]; exact Y2.out.setR 1 rfl (xcells lim B' n' c' true))
          clear hv3
          refine hK.out _ _ (by exact Y3.out.blk 0 rfl) (fun hHeld => ?_)
          clear hK K
          (try simp only [Act.put]); (try simp only [List.setIfInBounds_toArray, List.set_cons_zero, List.set_cons_succ])
          refine wpAnyH_done (by kernel_rfl) ?_ _
          refine NoPanic.normal ?_
          go_wp2_with fail
          refine bodyPost_ret (results_cell_row rfl _ _ Q 94 _ (0, 0) _ rfl (Y3.out.blk 1 rfl) Try.underlying94 rfl (by kernel_rfl)) rfl ?_
          exact ⟨B', n', c', rfl, Y3.out.bel, .inl ⟨rfl, rfl, rfl, rfl⟩⟩
  case true =>
    refine wp_region_noPanic ?_
    refine wp_region_held_drew (S := fun W' => W'.heap[P]? = some (.cells (xcells lim B n c f) 94 (0, 0))) (by kernel_rfl) (by exact XD.out.blk 0 rfl) (fun hHeld => ?_)
    generalize w1.drew = v0 at XD hHeld ⊢
    refine' take_lit (i := 0) (v := .agg (xcells lim B n c f)) rfl (by kernel_rfl) (by kernel_rfl) (by kernel_rfl) (fun _ _ _ h => h) (Or.inl ⟨by rfl, ?yy6⟩) (by assumption) ?rr6
    case yy6 => intro w' hSw; exact exec_load_row 94 _ rfl P rfl 94 (xcells lim B n c f) (0, 0) _ (hSw) Try.underlying94 rfl (by kernel_rfl)
    (try simp only [Act.put]); (try simp only [List.setIfInBounds_toArray, List.set_cons_zero, List.set_cons_succ])
    refine' take_lit (i := 1) (v := _) rfl (by kernel_rfl) (by kernel_rfl) (by kernel_rfl) (fun _ _ _ h => h) (Or.inl ⟨by rfl, ?yy7⟩) (by assumption) ?rr7
    case yy7 => intro w' hSw; (try dsimp only at hSw); go_simp; try (with_reducible rfl)
    (try simp only [Act.put]); (try simp only [List.setIfInBounds_toArray, List.set_cons_zero, List.set_cons_succ])
    refine wpAnyH_ready (rs := [2]) (by kernel_rfl) (by simp) ?_
    refine cons_lit rfl (fun K hK => ?ss2x8) AllReadyH.nil
    case ss2x8 =>
      obtain ⟨v, hrun, own7, hb7, hs7⟩ := run_make_cap (P := Try.prog) (k := .u8) v0 22 i0 Try.underlying22 hi' hz0 hz1 (by omega) (m : Int) (m : Int) m m rfl rfl (Nat.le_refl _) (by omega)
      have Y := Lib.hid (show SP w v [.blk P 94 (xcells lim B n c f), .blk Q 94 (xcells 0 none 0 0 false), .own .u8 5 (some ⟨v0.heap.size, 0, none⟩) m m (List.replicate m 0)] from XD.out.pushOwn hb7 own7)
      clear own7 hb7 hs7
      go_simp
      clear hrun
      refine hK.out _ _ (by exact Y.out.blk 0 rfl) (fun hHeld => ?_)
      clear hK K
      (try simp only [Act.put]); (try simp only [List.setIfInBounds_toArray, List.set_cons_zero, List.set_cons_succ])
      refine wpAnyH_ready (rs := [3]) (by kernel_rfl) (by simp) ?_
      refine cons_lit rfl (fun K hK => ?ss3x9) AllReadyH.nil
      case ss3x9 =>
        go_simp
        refine (HW.out _ _ (Y.out.rd 2 rfl) (RB.out _ Y.out.bel)).mono ?_
        rintro e v2 ⟨B', n', c', rfl, hb2, hxw⟩
        have how : OWN .u8 5 v2 v.heap.size B' n' c' (zs ++ List.replicate m 0) := by
          rcases hxw with ⟨hx, _⟩ | ⟨_, h⟩
          · cases hx
          · exact h
        have Y2 := Lib.hid (show SP w v2 [.blk P 94 (xcells lim B n c f), .blk Q 94 (xcells 0 none 0 0 false), .own .u8 5 B' n' c' (zs ++ List.replicate m 0)] from (Y.out.pushOwn hb2 how).pick [0, 1, 3] (by decide) rfl)
        clear hxw hb2 Y how
        refine hK.out _ _ (by exact Y2.out.blk 0 rfl) (fun hHeld => ?_)
        clear hK K
        (try simp only [Act.put]); (try simp only [List.setIfInBounds_toArray, List.set_cons_zero, List.set_cons_succ])
        refine wpAnyH_ready (rs := [4]) (by kernel_rfl) (by simp) ?_
        refine cons_lit rfl (fun K hK => ?ss4x10) AllReadyH.nil
        case ss4x10 =>
          refine step_store_row (by rfl) 94 _ _ (by rfl) Q (xcells lim B' n' c' false) (by rfl) (by rfl) 94 _ (Y2.out.blk 1 rfl) (by kernel_rfl) rfl (by unfold xcells; simp [Value.oneCell']) ?_
          refine nameX (fun v3 hv3 => ?_)
          have Y3 := Lib.hid (show SP w v3 [.blk P 94 (xcells lim B n c f), .blk Q 94 (xcells lim B' n' c' false), .own .u8 5 B' n' c' (zs ++ List.replicate m 0)] by rw [hv3]; exact Y2.out.setR 1 rfl (xcells lim B' n' c' false))
          clear hv3
          refine hK.out _ _ (by exact Y3.out.blk 0 rfl) (fun hHeld => ?_)
          clear hK K
          (try simp only [Act.put]); (try simp only [List.setIfInBounds_toArray, List.set_cons_zero, List.set_cons_succ])
          refine wpAnyH_done (by kernel_rfl) ?_ _
          refine NoPanic.normal ?_
          go_wp2_with fail
          refine bodyPost_ret (results_cell_row rfl _ _ Q 94 _ (0, 0) _ rfl (Y3.out.blk 1 rfl) Try.underlying94 rfl (by kernel_rfl)) rfl ?_
          exact ⟨B', n', c', rfl, Y3.out.bel, .inr ⟨rfl, Y3.out.own 2 rfl⟩⟩

set_option maxHeartbeats 2000000 in
set_option maxRecDepth 100000 in
theorem r1Set_any (lim : Nat) (B : Option Addr) (n c : Nat) (zs : List Int) (f : Bool) (q v : Int) (w : World) (hB : RD .u8 w w.heap.size B n zs) (hn : n ≤ lim) (hl : lim ≤ 131072) (hq : -9223372036854775808 ≤ q ∧ q ≤ 9223372036854775807) (hv : 0 ≤ v ∧ v ≤ 65535) :
    Calls Try.prog 56 #[.agg (xcells lim B n c f), .int .i64 q, .int .i64 v] w fun e w' => ∃ B' n' c', e = .returned (.agg (xcells lim B' n' c' (stF n f q))) ∧ Below w.heap.size w w' ∧ XW w w' (!f && stOk n q) B B' n n' c c' (stB zs f q v) := by
  obtain ⟨i0, hi', hz0, hz1, hz2⟩ := info_parts infoU8
  have RB := Lib.hid (fun (W : World) (hb : Below w.heap.size w W) => (show RD .u8 W W.heap.size B n zs from (hB.below hb).more hb.size))
  have hzl := hB.len
  clear hB
  cases f
  case true =>
    have HE := Lib.hid (show stF n true q = true from by unfold stF; simp)
    rw [HE.out, show (!true && stOk n q) = false from rfl]
    have X0 := Lib.hid (((SP.start w).alloc' 94 (xcells lim B n c true) (N := w.heap.size) rfl).alloc' 94 (xcells 0 none 0 0 false) (N := w.heap.size + 1) (by simp))
    obtain ⟨P, hP⟩ : ∃ P, P = w.heap.size := ⟨_, rfl⟩
    obtain ⟨Q, hQ⟩ : ∃ Q, Q = w.heap.size + 1 := ⟨_, rfl⟩
    rw [← hQ, ← hP] at X0
    unfold xcells
    go_enter Try.func56, Try.ntmps56
    go_upto_region 1 with fail
    rw [← hQ, ← hP]
    generalize hw1 : (w.alloc (.cells #[.int .i64 (lim : Int), .slice B n c, .bool true] 94)).alloc (.cells #[.int .i64 0, .slice none 0 0, .bool false] 94) = w1
    replace X0 := Lib.hid (show SP w w1 [.blk P 94 (xcells lim B n c true), .blk Q 94 (xcells 0 none 0 0 false)] by rw [← hw1]; exact X0.out)
    clear hP hQ hw1
    have x0 : w1.cell? ⟨P, 0, none⟩ = some (.int .i64 (lim : Int)) := X0.out.cell 0 rfl 0 rfl
    have x1 : w1.cell? ⟨P, 1, none⟩ = some (.slice B n c) := X0.out.cell 0 rfl 1 rfl
    have x2 : w1.cell? ⟨P, 2, none⟩ = some (.bool true) := X0.out.cell 0 rfl 2 rfl
    have d1 : w1.frozen? ⟨P, 1, none⟩ = false := X0.out.free 0 rfl 1
    have d2 : w1.frozen? ⟨P, 2, none⟩ = false := X0.out.free 0 rfl 2
    go_wp2_with (first | (refine wpList_load_row rfl 94 _ rfl P rfl 94 (xcells lim B n c true) (0, 0) _ (X0.out.blk 0 rfl) Try.underlying94 rfl (by kernel_rfl) ?_) | (refine wpList_store_row rfl 94 _ _ rfl Q (xcells lim B n c true) rfl rfl 94 (xcells 0 none 0 0 false) (X0.out.blk 1 rfl) (by kernel_rfl) rfl (by unfold xcells; simp [Value.oneCell']) ?_))
    have X9 := Lib.hid (X0.out.setR 1 rfl (xcells lim B n c true))
    refine bodyPost_ret (results_cell_row rfl _ _ Q 94 _ (0, 0) _ rfl (X9.out.blk 1 rfl) Try.underlying94 rfl (by kernel_rfl)) rfl ?_
    exact ⟨B, n, c, rfl, X9.out.bel, .inl ⟨rfl, rfl, rfl, rfl⟩⟩
  case false =>
    by_cases hbad : q < 0 ∨ (n : Int) - 2 < q
    · have HE := Lib.hid (show stF n false q = true ∧ (!false && stOk n q) = false from ⟨by unfold stF stOk; simp; omega, by unfold stOk; simp; omega⟩)
      rw [HE.out.1, HE.out.2]
      have X0 := Lib.hid (((SP.start w).alloc' 94 (xcells lim B n c false) (N := w.heap.size) rfl).alloc' 94 (xcells 0 none 0 0 false) (N := w.heap.size + 1) (by simp))
      obtain ⟨P, hP⟩ : ∃ P, P = w.heap.size := ⟨_, rfl⟩
      obtain ⟨Q, hQ⟩ : ∃ Q, Q = w.heap.size + 1 := ⟨_, rfl⟩
      rw [← hQ, ← hP] at X0
      unfold xcells
      go_enter Try.func56, Try.ntmps56
      go_upto_region 1 with fail
      rw [← hQ, ← hP]
      generalize hw1 : (w.alloc (.cells #[.int .i64 (lim : Int), .slice B n c, .bool false] 94)).alloc (.cells #[.int .i64 0, .slice none 0 0, .bool false] 94) = w1
      replace X0 := Lib.hid (show SP w w1 [.blk P 94 (xcells lim B n c false), .blk Q 94 (xcells 0 none 0 0 false)] by rw [← hw1]; exact X0.out)
      clear hP hQ hw1
      have x0 : w1.cell? ⟨P, 0, none⟩ = some (.int .i64 (lim : Int)) := X0.out.cell 0 rfl 0 rfl
      have x1 : w1.cell? ⟨P, 1, none⟩ = some (.slice B n c) := X0.out.cell 0 rfl 1 rfl
      have x2 : w1.cell? ⟨P, 2, none⟩ = some (.bool false) := X0.out.cell 0 rfl 2 rfl
      have d1 : w1.frozen? ⟨P, 1, none⟩ = false := X0.out.free 0 rfl 1
      have d2 : w1.frozen? ⟨P, 2, none⟩ = false := X0.out.free 0 rfl 2
      by_cases h0 : q < 0
      · clear hbad
        go_upto_region 5 with fail
        have X1 := Lib.hid (show SP w (w1.setCell ⟨P, 2, none⟩ (.bool true)) [.blk P 94 (xcells lim B n c true), .blk Q 94 (xcells 0 none 0 0 false)] from X0.out.setB 0 rfl 2 (.bool true))
        go_wp2_with (first | (refine wpList_load_row rfl 94 _ rfl P rfl 94 (xcells lim B n c true) (0, 0) _ (X1.out.blk 0 rfl) Try.underlying94 rfl (by kernel_rfl) ?_) | (refine wpList_store_row rfl 94 _ _ rfl Q (xcells lim B n c true) rfl rfl 94 (xcells 0 none 0 0 false) (X1.out.blk 1 rfl) (by kernel_rfl) rfl (by unfold xcells; simp [Value.oneCell']) ?_))
        have X9 := Lib.hid (X1.out.setR 1 rfl (xcells lim B n c true))
        refine bodyPost_ret (results_cell_row rfl _ _ Q 94 _ (0, 0) _ rfl (X9.out.blk 1 rfl) Try.underlying94 rfl (by kernel_rfl)) rfl ?_
        exact ⟨B, n, c, rfl, X9.out.bel, .inl ⟨rfl, rfl, rfl, rfl⟩⟩
      by_cases h1 : (n : Int) < q
      · clear hbad
        go_upto_region 5 with fail
        have X1 := Lib.hid (show SP w (w1.setCell ⟨P, 2, none⟩ (.bool true)) [.blk P 94 (xcells lim B n c true), .blk Q 94 (xcells 0 none 0 0 false)] from X0.out.setB 0 rfl 2 (.bool true))
        go_wp2_with (first | (refine wpList_load_row rfl 94 _ rfl P rfl 94 (xcells lim B n c true) (0, 0) _ (X1.out.blk 0 rfl) Try.underlying94 rfl (by kernel_rfl) ?_) | (refine wpList_store_row rfl 94 _ _ rfl Q (xcells lim B n c true) rfl rfl 94 (xcells 0 none 0 0 false) (X1.out.blk 1 rfl) (by kernel_rfl) rfl (by unfold xcells; simp [Value.oneCell']) ?_))
        have X9 := Lib.hid (X1.out.setR 1 rfl (xcells lim B n c true))
        refine bodyPost_ret (results_cell_row rfl _ _ Q 94 _ (0, 0) _ rfl (X9.out.blk 1 rfl) Try.underlying94 rfl (by kernel_rfl)) rfl ?_
        exact ⟨B, n, c, rfl, X9.out.bel, .inl ⟨rfl, rfl, rfl, rfl⟩⟩
      have h2 : (n : Int) < q + 2 := by omega
      have e2 : IntKind.i64.wrap (q + 2) = q + 2 := IntWalk.i64_in _ (by omega)
      go_upto_region 5 with fail
      have X1 := Lib.hid (show SP w (w1.setCell ⟨P, 2, none⟩ (.bool true)) [.blk P 94 (xcells lim B n c true), .blk Q 94 (xcells 0 none 0 0 false)] from X0.out.setB 0 rfl 2 (.bool true))
      go_wp2_with (first | (refine wpList_load_row rfl 94 _ rfl P rfl 94 (xcells lim B n c true) (0, 0) _ (X1.out.blk 0 rfl) Try.underlying94 rfl (by kernel_rfl) ?_) | (refine wpList_store_row rfl 94 _ _ rfl Q (xcells lim B n c true) rfl rfl 94 (xcells 0 none 0 0 false) (X1.out.blk 1 rfl) (by kernel_rfl) rfl (by unfold xcells; simp [Value.oneCell']) ?_))
      have X9 := Lib.hid (X1.out.setR 1 rfl (xcells lim B n c true))
      refine bodyPost_ret (results_cell_row rfl _ _ Q 94 _ (0, 0) _ rfl (X9.out.blk 1 rfl) Try.underlying94 rfl (by kernel_rfl)) rfl ?_
      exact ⟨B, n, c, rfl, X9.out.bel, .inl ⟨rfl, rfl, rfl, rfl⟩⟩
    obtain ⟨p, rfl⟩ := Int.eq_ofNat_of_zero_le (show 0 ≤ q by omega)
    have hp2 : p + 2 ≤ n := by omega
    have HE := Lib.hid (show stF n false (p : Int) = false ∧ (!false && stOk n (p : Int)) = true ∧ stB zs false (p : Int) v = (zs.set p (v / 256)).set (p + 1) (v % 256) from ⟨by unfold stF stOk; simp; omega, by unfold stOk; simp; omega, by unfold stB stOk; rw [if_pos (by simp; omega), Int.toNat_natCast]⟩)
    rw [HE.out.1, HE.out.2.1, HE.out.2.2]
    have h0n : ¬ n < p := by omega
    have h0i : ¬ (n : Int) < (p : Int) := by omega
    have h2n : ¬ n < p + 2 := by omega
    have h2i : ¬ (n : Int) < (p : Int) + 2 := by omega
    have e2 : IntKind.i64.wrap ((p : Int) + 2) = (p : Int) + 2 := IntWalk.i64_in _ (by omega)
    have X0 := Lib.hid (((SP.start w).alloc' 94 (xcells lim B n c false) (N := w.heap.size) rfl).alloc' 94 (xcells 0 none 0 0 false) (N := w.heap.size + 1) (by simp))
    obtain ⟨P, hP⟩ : ∃ P, P = w.heap.size := ⟨_, rfl⟩
    obtain ⟨Q, hQ⟩ : ∃ Q, Q = w.heap.size + 1 := ⟨_, rfl⟩
    rw [← hQ, ← hP] at X0
    unfold xcells
    go_enter Try.func56, Try.ntmps56
    go_upto_region 1 with fail
    rw [← hQ, ← hP]
    generalize hw1 : (w.alloc (.cells #[.int .i64 (lim : Int), .slice B n c, .bool false] 94)).alloc (.cells #[.int .i64 0, .slice none 0 0, .bool false] 94) = w1
    replace X0 := Lib.hid (show SP w w1 [.blk P 94 (xcells lim B n c false), .blk Q 94 (xcells 0 none 0 0 false)] by rw [← hw1]; exact X0.out)
    clear hP hQ hw1
    have x0 : w1.cell? ⟨P, 0, none⟩ = some (.int .i64 (lim : Int)) := X0.out.cell 0 rfl 0 rfl
    have x1 : w1.cell? ⟨P, 1, none⟩ = some (.slice B n c) := X0.out.cell 0 rfl 1 rfl
    have x2 : w1.cell? ⟨P, 2, none⟩ = some (.bool false) := X0.out.cell 0 rfl 2 rfl
    have d1 : w1.frozen? ⟨P, 1, none⟩ = false := X0.out.free 0 rfl 1
    have d2 : w1.frozen? ⟨P, 2, none⟩ = false := X0.out.free 0 rfl 2
    go_upto_region 6 with fail
    clear hbad e2 x0 x2 d2
    have XL := Lib.hid (X0.out.allocI' .u8 5 [] (by simp [maxLen]) (N := w1.heap.size) rfl)
    have hPlt : P < w1.heap.size := (X0.out.blk 0 rfl).lt
    have AFT := Lib.hid (show ∀ W A9 c9, SP w W [.blk P 94 (xcells lim B n c false), .blk Q 94 (xcells 0 none 0 0 false), .own .u8 5 A9 n c9 zs] → W.cell? ⟨P, 1, none⟩ = some (.slice B n c) ∧ W.frozen? ⟨P, 1, none⟩ = false ∧ SP w (W.setCell ⟨P, 1, none⟩ (.slice A9 n c9)) [.blk P 94 (xcells lim A9 n c9 false), .blk Q 94 (xcells 0 none 0 0 false), .own .u8 5 A9 n c9 zs] from fun W A9 c9 X => ⟨X.cell 0 rfl 1 rfl, X.free 0 rfl 1, X.setB 0 rfl 1 (.slice A9 n c9)⟩)
    go_upto_region 7 with (at_builtin; refine wpList_append_rd _ rfl _ _ _ rfl .u8 w.heap.size 5 i0 1 Try.underlying22 hi' hz0 hz1 hz2 (some ⟨w1.heap.size, 0, none⟩) 0 0 [] rfl (XL.out.own 2 rfl) _ B n c zs rfl (RB.out _ XL.out.bel) (by simp only [maxLen]; omega) (by omega) XL.out.size ?_; intro A3 c3 w3 happ; have X4 := Lib.hid (AFT.out w3 A3 c3 (by have hh := XL.out.app 2 rfl happ; rw [Nat.zero_add, List.nil_append] at hh; exact hh)); have f1 := X4.out.1; have f2 := X4.out.2.1; clear happ)
    have X5 := Lib.hid X4.out.2.2.drew
    obtain ⟨g, rfl, _, _⟩ := (X5.out.own 2 rfl).form (by omega)
    clear f1 f2 x1 d1 XL
    have e1 : IntKind.i64.wrap ((p : Int) + 1) = (p : Int) + 1 := IntWalk.i64_in _ (by omega)
    have q1 : v.tdiv 256 = v / 256 := Int.tdiv_eq_ediv_of_nonneg hv.1
    have q2 : v.tmod 256 = v % 256 := Int.tmod_eq_emod_of_nonneg hv.1
    have q3 : IntKind.i64.wrap (v / 256) = v / 256 := IntWalk.i64_in _ (by omega)
    have q4 : IntKind.i64.wrap (v % 256) = v % 256 := IntWalk.i64_in _ (by omega)
    have q5 : IntKind.u8.wrap (v / 256) = v / 256 := u8_in _ (by omega) (by omega)
    have q6 : IntKind.u8.wrap (v % 256) = v % 256 := u8_in _ (by omega) (by omega)
    have b1 : (0 : Int) ≤ (p : Int) := by omega
    have b2 : (p : Int) < (n : Int) := by omega
    have b3 : (0 : Int) ≤ (p : Int) + 1 := by omega
    have b4 : (p : Int) + 1 < (n : Int) := by omega
    refine wp_region_noPanic ?_
    refine wp_region_held_drew (S := fun W' => W'.cell? ⟨P, 1, none⟩ = some (.slice (some ⟨g, 0, none⟩) n c3)) (by kernel_rfl) (by exact X5.out.cell 0 rfl 1 rfl) (fun hHeld => ?_)
    generalize (w3.setCell ⟨P, 1, none⟩ (.slice (some ⟨g, 0, none⟩) n c3)).drew = v0 at X5 hHeld ⊢
    refine' take_lit (i := 0) (v := _) rfl (by kernel_rfl) (by kernel_rfl) (by kernel_rfl) (fun _ _ _ h => h) (Or.inl ⟨by rfl, ?yy11⟩) (by assumption) ?rr11
    case yy11 => intro w' hSw; (try dsimp only at hSw); go_simp; try (with_reducible rfl)
    (try simp only [Act.put]); (try simp only [List.setIfInBounds_toArray, List.set_cons_zero, List.set_cons_succ])
    refine' take_lit (i := 1) (v := _) rfl (by kernel_rfl) (by kernel_rfl) (by kernel_rfl) (fun _ _ _ h => h) (Or.inl ⟨by rfl, ?yy12⟩) (by assumption) ?rr12
    case yy12 => intro w' hSw; (try dsimp only at hSw); go_simp; try (with_reducible rfl)
    (try simp only [Act.put]); (try simp only [List.setIfInBounds_toArray, List.set_cons_zero, List.set_cons_succ])
    refine' take_lit (i := 2) (v := _) rfl (by kernel_rfl) (by kernel_rfl) (by kernel_rfl) (fun _ _ _ h => h) (Or.inl ⟨by rfl, ?yy13⟩) (by assumption) ?rr13
    case yy13 => intro w' hSw; (try dsimp only at hSw); go_simp; try (with_reducible rfl)
    (try simp only [Act.put]); (try simp only [List.setIfInBounds_toArray, List.set_cons_zero, List.set_cons_succ])
    refine' take_lit (i := 3) (v := _) rfl (by kernel_rfl) (by kernel_rfl) (by kernel_rfl) (fun _ _ _ h => h) (Or.inl ⟨by rfl, ?yy14⟩) (by assumption) ?rr14
    case yy14 => intro w' hSw; (try dsimp only at hSw); go_simp; try (with_reducible rfl)
    (try simp only [Act.put]); (try simp only [List.setIfInBounds_toArray, List.set_cons_zero, List.set_cons_succ])
    refine' take_lit (i := 4) (v := _) rfl (by kernel_rfl) (by kernel_rfl) (by kernel_rfl) (fun _ _ _ h => h) (Or.inl ⟨by rfl, ?yy15⟩) (by assumption) ?rr15
    case yy15 => intro w' hSw; (try dsimp only at hSw); go_simp; try (with_reducible rfl)
    (try simp only [Act.put]); (try simp only [List.setIfInBounds_toArray, List.set_cons_zero, List.set_cons_succ])
    refine' take_lit (i := 5) (v := _) rfl (by kernel_rfl) (by kernel_rfl) (by kernel_rfl) (fun _ _ _ h => h) (Or.inl ⟨by rfl, ?yy16⟩) (by assumption) ?rr16
    case yy16 => intro w' hSw; (try dsimp only at hSw); go_simp; try (with_reducible rfl)
    (try simp only [Act.put]); (try simp only [List.setIfInBounds_toArray, List.set_cons_zero, List.set_cons_succ])
    refine' take_lit (i := 6) (v := _) rfl (by kernel_rfl) (by kernel_rfl) (by kernel_rfl) (fun _ _ _ h => h) (Or.inl ⟨by rfl, ?yy17⟩) (by assumption) ?rr17
    case yy17 => intro w' hSw; (try dsimp only at hSw); go_simp; try (with_reducible rfl)
    (try simp only [Act.put]); (try simp only [List.setIfInBounds_toArray, List.set_cons_zero, List.set_cons_succ])
    refine' take_lit (i := 7) (v := _) rfl (by kernel_rfl) (by kernel_rfl) (by kernel_rfl) (fun _ _ _ h => h) (Or.inl ⟨by rfl, ?yy18⟩) (by assumption) ?rr18
    case yy18 => intro w' hSw; (try dsimp only at hSw); go_simp; try (with_reducible rfl)
    (try simp only [Act.put]); (try simp only [List.setIfInBounds_toArray, List.set_cons_zero, List.set_cons_succ])
    refine' take_lit (i := 8) (v := _) rfl (by kernel_rfl) (by kernel_rfl) (by kernel_rfl) (fun _ _ _ h => h) (Or.inl ⟨by rfl, ?yy19⟩) (by assumption) ?rr19
    case yy19 => intro w' hSw; (try dsimp only at hSw); go_simp; try (with_reducible rfl)
    (try simp only [Act.put]); (try simp only [List.setIfInBounds_toArray, List.set_cons_zero, List.set_cons_succ])
    refine' take_lit (i := 9) (v := _) rfl (by kernel_rfl) (by kernel_rfl) (by kernel_rfl) (fun _ _ _ h => h) (Or.inl ⟨by rfl, ?yy20⟩) (by assumption) ?rr20
    case yy20 => intro w' hSw; (try dsimp only at hSw); go_simp; try (with_reducible rfl)
    (try simp only [Act.put]); (try simp only [List.setIfInBounds_toArray, List.set_cons_zero, List.set_cons_succ])
    refine' take_lit (i := 10) (v := _) rfl (by kernel_rfl) (by kernel_rfl) (by kernel_rfl) (fun _ _ _ h => h) (Or.inl ⟨by rfl, ?yy21⟩) (by assumption) ?rr21
    case yy21 => intro w' hSw; (try dsimp only at hSw); go_simp; try (with_reducible rfl)
    (try simp only [Act.put]); (try simp only [List.setIfInBounds_toArray, List.set_cons_zero, List.set_cons_succ])
    refine' take_lit (i := 11) (v := _) rfl (by kernel_rfl) (by kernel_rfl) (by kernel_rfl) (fun _ _ _ h => h) (Or.inl ⟨by rfl, ?yy22⟩) (by assumption) ?rr22
    case yy22 => intro w' hSw; (try dsimp only at hSw); go_simp; try (with_reducible rfl)
    (try simp only [Act.put]); (try simp only [List.setIfInBounds_toArray, List.set_cons_zero, List.set_cons_succ])
    refine' take_lit (i := 12) (v := _) rfl (by kernel_rfl) (by kernel_rfl) (by kernel_rfl) (fun _ _ _ h => h) (Or.inl ⟨by rfl, ?yy23⟩) (by assumption) ?rr23
    case yy23 => intro w' hSw; (try dsimp only at hSw); go_simp; try (with_reducible rfl)
    (try simp only [Act.put]); (try simp only [List.setIfInBounds_toArray, List.set_cons_zero, List.set_cons_succ])
    refine' take_lit (i := 13) (v := _) rfl (by kernel_rfl) (by kernel_rfl) (by kernel_rfl) (fun _ _ _ h => h) (Or.inl ⟨by rfl, ?yy24⟩) (by assumption) ?rr24
    case yy24 => intro w' hSw; (try dsimp only at hSw); go_simp; try (with_reducible rfl)
    (try simp only [Act.put]); (try simp only [List.setIfInBounds_toArray, List.set_cons_zero, List.set_cons_succ])
    refine wpAnyH_ready (rs := [14]) (by kernel_rfl) (by simp) ?_
    refine cons_lit rfl (fun K hK => ?ss14x25) AllReadyH.nil
    case ss14x25 =>
      have s1 : v0.cell? ⟨g, p, none⟩ = some (.int .u8 (zs[p]?.getD 0)) := (X5.out.own 2 rfl).cell (i := p) (by omega)
      have s2 : v0.frozen? ⟨g, p, none⟩ = false := (X5.out.own 2 rfl).frozen p
      go_simp
      refine nameX (fun v1 hv1 => ?_)
      have Y1 := Lib.hid (show SP w v1 [.blk P 94 (xcells lim (some ⟨g, 0, none⟩) n c3 false), .blk Q 94 (xcells 0 none 0 0 false), .own .u8 5 (some ⟨g, 0, none⟩) n c3 (zs.set p (v / 256))] by rw [hv1]; exact X5.out.setO 2 rfl p (v / 256))
      clear s1 s2 hv1
      refine hK.out _ _ (by exact Y1.out.cell 0 rfl 1 rfl) (fun hHeld => ?_)
      clear hK K
      (try simp only [Act.put]); (try simp only [List.setIfInBounds_toArray, List.set_cons_zero, List.set_cons_succ])
      refine' take_lit (i := 15) (v := _) rfl (by kernel_rfl) (by kernel_rfl) (by kernel_rfl) (fun _ _ _ h => h) (Or.inl ⟨by rfl, ?yy26⟩) (by assumption) ?rr26
      case yy26 => intro w' hSw; (try dsimp only at hSw); go_simp; try (with_reducible rfl)
      (try simp only [Act.put]); (try simp only [List.setIfInBounds_toArray, List.set_cons_zero, List.set_cons_succ])
      refine wpAnyH_ready (rs := [16]) (by kernel_rfl) (by simp) ?_
      refine cons_lit rfl (fun K hK => ?ss16x27) AllReadyH.nil
      case ss16x27 =>
        have s1 : v1.cell? ⟨g, p + 1, none⟩ = some (.int .u8 ((zs.set p (v / 256))[p + 1]?.getD 0)) := (Y1.out.own 2 rfl).cell (i := p + 1) (by omega)
        have s2 : v1.frozen? ⟨g, p + 1, none⟩ = false := (Y1.out.own 2 rfl).frozen (p + 1)
        go_simp
        refine nameX (fun v2 hv2 => ?_)
        have Y2 := Lib.hid (show SP w v2 [.blk P 94 (xcells lim (some ⟨g, 0, none⟩) n c3 false), .blk Q 94 (xcells 0 none 0 0 false), .own .u8 5 (some ⟨g, 0, none⟩) n c3 ((zs.set p (v / 256)).set (p + 1) (v % 256))] by rw [hv2]; exact Y1.out.setO 2 rfl (p + 1) (v % 256))
        clear s1 s2 hv2
        refine hK.out _ _ (by exact Y2.out.cell 0 rfl 1 rfl) (fun hHeld => ?_)
        clear hK K
        (try simp only [Act.put]); (try simp only [List.setIfInBounds_toArray, List.set_cons_zero, List.set_cons_succ])
        refine wpAnyH_done (by kernel_rfl) ?_ _
        refine NoPanic.normal ?_
        go_wp2_with (first | (refine wpList_load_row rfl 94 _ rfl P rfl 94 (xcells lim (some ⟨g, 0, none⟩) n c3 false) (0, 0) _ (Y2.out.blk 0 rfl) Try.underlying94 rfl (by kernel_rfl) ?_) | (refine wpList_store_row rfl 94 _ _ rfl Q (xcells lim (some ⟨g, 0, none⟩) n c3 false) rfl rfl 94 (xcells 0 none 0 0 false) (Y2.out.blk 1 rfl) (by kernel_rfl) rfl (by unfold xcells; simp [Value.oneCell']) ?_))
        have X9 := Lib.hid (Y2.out.setR 1 rfl (xcells lim (some ⟨g, 0, none⟩) n c3 false))
        refine bodyPost_ret (results_cell_row rfl _ _ Q 94 _ (0, 0) _ rfl (X9.out.blk 1 rfl) Try.underlying94 rfl (by kernel_rfl)) rfl ?_
        exact ⟨some ⟨g, 0, none⟩, n, c3, rfl, X9.out.bel, .inr ⟨rfl, X9.out.own 2 rfl⟩⟩

set_option maxHeartbeats 2000000 in
set_option maxRecDepth 100000 in
theorem r1Bytes1_any (v : Int) (w : World) (hv : 0 ≤ v ∧ v ≤ 255) :
    Calls Try.prog 54 #[.int .i64 v, .int .i64 1] w fun e w' => ∃ A' c', e = .returned (.slice A' 1 c') ∧ OWN .u8 5 w' w.heap.size A' 1 c' ([v]) ∧ Below w.heap.size w w' := by
  obtain ⟨i0, hi', hz0, hz1, hz2⟩ := info_parts infoU8
  obtain ⟨w1, hrun, own7, hb7, hs7⟩ := run_make_cap (P := Try.prog) (k := .u8) w 22 i0 Try.underlying22 hi' hz0 hz1 (by omega) (1 : Int) (1 : Int) 1 1 rfl rfl (Nat.le_refl _) (by omega)
  have X0 := Lib.hid ((SP.start w).pushOwn hb7 own7)
  obtain ⟨G, hG⟩ : ∃ g, g = w.heap.size := ⟨_, rfl⟩
  rw [← hG] at hrun X0
  replace X0 := Lib.hid (show SP w w1 [.own .u8 5 (some ⟨G, 0, none⟩) 1 1 [0]] from X0.out)
  have HR := Lib.hid (show [v % 256] = [v] by simp; omega)
  have q0 : (v).tdiv 256 = v / 256 := by rw [Int.tdiv_eq_ediv_of_nonneg (by omega)]
  have m0 : (v).tmod 256 = v % 256 := Int.tmod_eq_emod_of_nonneg (by omega)
  have p0 : IntKind.u8.wrap (v % 256) = v % 256 := u8_in _ (by omega) (by omega)
  have r0 : IntKind.i64.wrap (v / 256) = v / 256 := IntWalk.i64_in _ (by omega)
  have t0 : IntKind.i64.wrap (v % 256) = v % 256 := IntWalk.i64_in _ (by omega)
  clear own7 hb7 hs7 hG
  go_enter Try.func54, Try.ntmps54
  go_upto_region 3 with fail
  clear hrun
  go_loopw [6, 0] (fun s6 s0 wr => (s6 = .int .i64 (0) ∧ s0 = .int .i64 (v) ∧ SP w wr [.own .u8 5 (some ⟨G, 0, none⟩) 1 1 [0]]) ∨ (s6 = .int .i64 (-1) ∧ s0 = .int .i64 (v / 256) ∧ SP w wr [.own .u8 5 (some ⟨G, 0, none⟩) 1 1 [v % 256]])) (fun s6 _ _ => (intOf s6 + 1).toNat)
  case atStart => exact .inl ⟨rfl, rfl, X0.out⟩
  case round =>
    obtain ⟨wo, rfl⟩ : ∃ wo : World, wo = wr := ⟨_, rfl⟩
    clear X0
    rcases hrel with ⟨rfl, rfl, Y0⟩ | ⟨rfl, rfl, Y0⟩
    · have Y := Lib.hid Y0
      clear Y0
      have x1 : wo.cell? ⟨G, 0, none⟩ = some (.int .u8 0) := (Y.out.own 0 rfl).cell (i := 0) (by omega)
      have d1 : wo.frozen? ⟨G, 0, none⟩ = false := (Y.out.own 0 rfl).frozen 0
      have Y2 := Lib.hid (show SP w (wo.setCell ⟨G, 0, none⟩ (.int .u8 (v % 256))) [.own .u8 5 (some ⟨G, 0, none⟩) 1 1 [v % 256]] from Y.out.setO 0 rfl 0 (v % 256))
      go_wp2_with fail
      go_roundw
      case rel => exact .inr (⟨by first | rfl | go_num, rfl, Y2.out⟩)
      case measure => simp [intOf]
    · have Y := Lib.hid Y0
      clear Y0
      go_wp2_with fail
      go_ret
      exact ⟨_, _, rfl, by rw [← HR.out]; exact Y.out.own 0 rfl, Y.out.bel⟩

set_option maxHeartbeats 2000000 in
set_option maxRecDepth 100000 in
theorem r1Bytes2_any (v : Int) (w : World) (hv : 0 ≤ v ∧ v ≤ 65535) :
    Calls Try.prog 54 #[.int .i64 v, .int .i64 2] w fun e w' => ∃ A' c', e = .returned (.slice A' 2 c') ∧ OWN .u8 5 w' w.heap.size A' 2 c' (by16 v) ∧ Below w.heap.size w w' := by
  obtain ⟨i0, hi', hz0, hz1, hz2⟩ := info_parts infoU8
  obtain ⟨w1, hrun, own7, hb7, hs7⟩ := run_make_cap (P := Try.prog) (k := .u8) w 22 i0 Try.underlying22 hi' hz0 hz1 (by omega) (2 : Int) (2 : Int) 2 2 rfl rfl (Nat.le_refl _) (by omega)
  have X0 := Lib.hid ((SP.start w).pushOwn hb7 own7)
  obtain ⟨G, hG⟩ : ∃ g, g = w.heap.size := ⟨_, rfl⟩
  rw [← hG] at hrun X0
  replace X0 := Lib.hid (show SP w w1 [.own .u8 5 (some ⟨G, 0, none⟩) 2 2 [0, 0]] from X0.out)
  have HR := Lib.hid (show [v / 256 % 256, v % 256] = by16 v by unfold by16; simp; omega)
  have q0 : (v).tdiv 256 = v / 256 := by rw [Int.tdiv_eq_ediv_of_nonneg (by omega)]
  have m0 : (v).tmod 256 = v % 256 := Int.tmod_eq_emod_of_nonneg (by omega)
  have p0 : IntKind.u8.wrap (v % 256) = v % 256 := u8_in _ (by omega) (by omega)
  have r0 : IntKind.i64.wrap (v / 256) = v / 256 := IntWalk.i64_in _ (by omega)
  have t0 : IntKind.i64.wrap (v % 256) = v % 256 := IntWalk.i64_in _ (by omega)
  have q1 : (v / 256).tdiv 256 = v / 65536 := by rw [Int.tdiv_eq_ediv_of_nonneg (by omega)]; omega
  have m1 : (v / 256).tmod 256 = v / 256 % 256 := Int.tmod_eq_emod_of_nonneg (by omega)
  have p1 : IntKind.u8.wrap (v / 256 % 256) = v / 256 % 256 := u8_in _ (by omega) (by omega)
  have r1 : IntKind.i64.wrap (v / 65536) = v / 65536 := IntWalk.i64_in _ (by omega)
  have t1 : IntKind.i64.wrap (v / 256 % 256) = v / 256 % 256 := IntWalk.i64_in _ (by omega)
  clear own7 hb7 hs7 hG
  go_enter Try.func54, Try.ntmps54
  go_upto_region 3 with fail
  clear hrun
  go_loopw [6, 0] (fun s6 s0 wr => (s6 = .int .i64 (1) ∧ s0 = .int .i64 (v) ∧ SP w wr [.own .u8 5 (some ⟨G, 0, none⟩) 2 2 [0, 0]]) ∨ (s6 = .int .i64 (0) ∧ s0 = .int .i64 (v / 256) ∧ SP w wr [.own .u8 5 (some ⟨G, 0, none⟩) 2 2 [0, v % 256]]) ∨ (s6 = .int .i64 (-1) ∧ s0 = .int .i64 (v / 65536) ∧ SP w wr [.own .u8 5 (some ⟨G, 0, none⟩) 2 2 [v / 256 % 256, v % 256]])) (fun s6 _ _ => (intOf s6 + 1).toNat)
  case atStart => exact .inl ⟨rfl, rfl, X0.out⟩
  case round =>
    obtain ⟨wo, rfl⟩ : ∃ wo : World, wo = wr := ⟨_, rfl⟩
    clear X0
    rcases hrel with ⟨rfl, rfl, Y0⟩ | ⟨rfl, rfl, Y0⟩ | ⟨rfl, rfl, Y0⟩
    · have Y := Lib.hid Y0
      clear Y0
      have x1 : wo.cell? ⟨G, 1, none⟩ = some (.int .u8 0) := (Y.out.own 0 rfl).cell (i := 1) (by omega)
      have d1 : wo.frozen? ⟨G, 1, none⟩ = false := (Y.out.own 0 rfl).frozen 1
      have Y2 := Lib.hid (show SP w (wo.setCell ⟨G, 1, none⟩ (.int .u8 (v % 256))) [.own .u8 5 (some ⟨G, 0, none⟩) 2 2 [0, v % 256]] from Y.out.setO 0 rfl 1 (v % 256))
      go_wp2_with fail
      go_roundw
      case rel => exact .inr (.inl ⟨by first | rfl | go_num, rfl, Y2.out⟩)
      case measure => simp [intOf]
    · have Y := Lib.hid Y0
      clear Y0
      have x1 : wo.cell? ⟨G, 0, none⟩ = some (.int .u8 0) := (Y.out.own 0 rfl).cell (i := 0) (by omega)
      have d1 : wo.frozen? ⟨G, 0, none⟩ = false := (Y.out.own 0 rfl).frozen 0
      have Y2 := Lib.hid (show SP w (wo.setCell ⟨G, 0, none⟩ (.int .u8 (v / 256 % 256))) [.own .u8 5 (some ⟨G, 0, none⟩) 2 2 [v / 256 % 256, v % 256]] from Y.out.setO 0 rfl 0 (v / 256 % 256))
      go_wp2_with fail
      go_roundw
      case rel => exact .inr (.inr (⟨by first | rfl | go_num, rfl, Y2.out⟩))
      case measure => simp [intOf]
    · have Y := Lib.hid Y0
      clear Y0
      go_wp2_with fail
      go_ret
      exact ⟨_, _, rfl, by rw [← HR.out]; exact Y.out.own 0 rfl, Y.out.bel⟩

set_option maxHeartbeats 2000000 in
set_option maxRecDepth 100000 in
theorem r1Bytes4_any (v : Int) (w : World) (hv : 0 ≤ v ∧ v ≤ 4294967295) :
    Calls Try.prog 54 #[.int .i64 v, .int .i64 4] w fun e w' => ∃ A' c', e = .returned (.slice A' 4 c') ∧ OWN .u8 5 w' w.heap.size A' 4 c' (by32 v) ∧ Below w.heap.size w w' := by
  obtain ⟨i0, hi', hz0, hz1, hz2⟩ := info_parts infoU8
  obtain ⟨w1, hrun, own7, hb7, hs7⟩ := run_make_cap (P := Try.prog) (k := .u8) w 22 i0 Try.underlying22 hi' hz0 hz1 (by omega) (4 : Int) (4 : Int) 4 4 rfl rfl (Nat.le_refl _) (by omega)
  have X0 := Lib.hid ((SP.start w).pushOwn hb7 own7)
  obtain ⟨G, hG⟩ : ∃ g, g = w.heap.size := ⟨_, rfl⟩
  rw [← hG] at hrun X0
  replace X0 := Lib.hid (show SP w w1 [.own .u8 5 (some ⟨G, 0, none⟩) 4 4 [0, 0, 0, 0]] from X0.out)
  have HR := Lib.hid (show [v / 16777216 % 256, v / 65536 % 256, v / 256 % 256, v % 256] = by32 v by unfold by32; simp; omega)
  have q0 : (v).tdiv 256 = v / 256 := by rw [Int.tdiv_eq_ediv_of_nonneg (by omega)]
  have m0 : (v).tmod 256 = v % 256 := Int.tmod_eq_emod_of_nonneg (by omega)
  have p0 : IntKind.u8.wrap (v % 256) = v % 256 := u8_in _ (by omega) (by omega)
  have r0 : IntKind.i64.wrap (v / 256) = v / 256 := IntWalk.i64_in _ (by omega)
  have t0 : IntKind.i64.wrap (v % 256) = v % 256 := IntWalk.i64_in _ (by omega)
  have q1 : (v / 256).tdiv 256 = v / 65536 := by rw [Int.tdiv_eq_ediv_of_nonneg (by omega)]; omega
  have m1 : (v / 256).tmod 256 = v / 256 % 256 := Int.tmod_eq_emod_of_nonneg (by omega)
  have p1 : IntKind.u8.wrap (v / 256 % 256) = v / 256 % 256 := u8_in _ (by omega) (by omega)
  have r1 : IntKind.i64.wrap (v / 65536) = v / 65536 := IntWalk.i64_in _ (by omega)
  have t1 : IntKind.i64.wrap (v / 256 % 256) = v / 256 % 256 := IntWalk.i64_in _ (by omega)
  have q2 : (v / 65536).tdiv 256 = v / 16777216 := by rw [Int.tdiv_eq_ediv_of_nonneg (by omega)]; omega
  have m2 : (v / 65536).tmod 256 = v / 65536 % 256 := Int.tmod_eq_emod_of_nonneg (by omega)
  have p2 : IntKind.u8.wrap (v / 65536 % 256) = v / 65536 % 256 := u8_in _ (by omega) (by omega)
  have r2 : IntKind.i64.wrap (v / 16777216) = v / 16777216 := IntWalk.i64_in _ (by omega)
  have t2 : IntKind.i64.wrap (v / 65536 % 256) = v / 65536 % 256 := IntWalk.i64_in _ (by omega)
  have q3 : (v / 16777216).tdiv 256 = v / 4294967296 := by rw [Int.tdiv_eq_ediv_of_nonneg (by omega)]; omega
  have m3 : (v / 16777216).tmod 256 = v / 16777216 % 256 := Int.tmod_eq_emod_of_nonneg (by omega)
  have p3 : IntKind.u8.wrap (v / 16777216 % 256) = v / 16777216 % 256 := u8_in _ (by omega) (by omega)
  have r3 : IntKind.i64.wrap (v / 4294967296) = v / 4294967296 := IntWalk.i64_in _ (by omega)
  have t3 : IntKind.i64.wrap (v / 16777216 % 256) = v / 16777216 % 256 := IntWalk.i64_in _ (by omega)
  clear own7 hb7 hs7 hG
  go_enter Try.func54, Try.ntmps54
  go_upto_region 3 with fail
  clear hrun
  go_loopw [6, 0] (fun s6 s0 wr => (s6 = .int .i64 (3) ∧ s0 = .int .i64 (v) ∧ SP w wr [.own .u8 5 (some ⟨G, 0, none⟩) 4 4 [0, 0, 0, 0]]) ∨ (s6 = .int .i64 (2) ∧ s0 = .int .i64 (v / 256) ∧ SP w wr [.own .u8 5 (some ⟨G, 0, none⟩) 4 4 [0, 0, 0, v % 256]]) ∨ (s6 = .int .i64 (1) ∧ s0 = .int .i64 (v / 65536) ∧ SP w wr [.own .u8 5 (some ⟨G, 0, none⟩) 4 4 [0, 0, v / 256 % 256, v % 256]]) ∨ (s6 = .int .i64 (0) ∧ s0 = .int .i64 (v / 16777216) ∧ SP w wr [.own .u8 5 (some ⟨G, 0, none⟩) 4 4 [0, v / 65536 % 256, v / 256 % 256, v % 256]]) ∨ (s6 = .int .i64 (-1) ∧ s0 = .int .i64 (v / 4294967296) ∧ SP w wr [.own .u8 5 (some ⟨G, 0, none⟩) 4 4 [v / 16777216 % 256, v / 65536 % 256, v / 256 % 256, v % 256]])) (fun s6 _ _ => (intOf s6 + 1).toNat)
  case atStart => exact .inl ⟨rfl, rfl, X0.out⟩
  case round =>
    obtain ⟨wo, rfl⟩ : ∃ wo : World, wo = wr := ⟨_, rfl⟩
    clear X0
    rcases hrel with ⟨rfl, rfl, Y0⟩ | ⟨rfl, rfl, Y0⟩ | ⟨rfl, rfl, Y0⟩ | ⟨rfl, rfl, Y0⟩ | ⟨rfl, rfl, Y0⟩
    · have Y := Lib.hid Y0
      clear Y0
      have x1 : wo.cell? ⟨G, 3, none⟩ = some (.int .u8 0) := (Y.out.own 0 rfl).cell (i := 3) (by omega)
      have d1 : wo.frozen? ⟨G, 3, none⟩ = false := (Y.out.own 0 rfl).frozen 3
      have Y2 := Lib.hid (show SP w (wo.setCell ⟨G, 3, none⟩ (.int .u8 (v % 256))) [.own .u8 5 (some ⟨G, 0, none⟩) 4 4 [0, 0, 0, v % 256]] from Y.out.setO 0 rfl 3 (v % 256))
      go_wp2_with fail
      go_roundw
      case rel => exact .inr (.inl ⟨by first | rfl | go_num, rfl, Y2.out⟩)
      case measure => simp [intOf]
    · have Y := Lib.hid Y0
      clear Y0
      have x1 : wo.cell? ⟨G, 2, none⟩ = some (.int .u8 0) := (Y.out.own 0 rfl).cell (i := 2) (by omega)
      have d1 : wo.frozen? ⟨G, 2, none⟩ = false := (Y.out.own 0 rfl).frozen 2
      have Y2 := Lib.hid (show SP w (wo.setCell ⟨G, 2, none⟩ (.int .u8 (v / 256 % 256))) [.own .u8 5 (some ⟨G, 0, none⟩) 4 4 [0, 0, v / 256 % 256, v % 256]] from Y.out.setO 0 rfl 2 (v / 256 % 256))
      go_wp2_with fail
      go_roundw
      case rel => exact .inr (.inr (.inl ⟨by first | rfl | go_num, rfl, Y2.out⟩))
      case measure => simp [intOf]
    · have Y := Lib.hid Y0
      clear Y0
      have x1 : wo.cell? ⟨G, 1, none⟩ = some (.int .u8 0) := (Y.out.own 0 rfl).cell (i := 1) (by omega)
      have d1 : wo.frozen? ⟨G, 1, none⟩ = false := (Y.out.own 0 rfl).frozen 1
      have Y2 := Lib.hid (show SP w (wo.setCell ⟨G, 1, none⟩ (.int .u8 (v / 65536 % 256))) [.own .u8 5 (some ⟨G, 0, none⟩) 4 4 [0, v / 65536 % 256, v / 256 % 256, v % 256]] from Y.out.setO 0 rfl 1 (v / 65536 % 256))
      go_wp2_with fail
      go_roundw
      case rel => exact .inr (.inr (.inr (.inl ⟨by first | rfl | go_num, rfl, Y2.out⟩)))
      case measure => simp [intOf]
    · have Y := Lib.hid Y0
      clear Y0
      have x1 : wo.cell? ⟨G, 0, none⟩ = some (.int .u8 0) := (Y.out.own 0 rfl).cell (i := 0) (by omega)
      have d1 : wo.frozen? ⟨G, 0, none⟩ = false := (Y.out.own 0 rfl).frozen 0
      have Y2 := Lib.hid (show SP w (wo.setCell ⟨G, 0, none⟩ (.int .u8 (v / 16777216 % 256))) [.own .u8 5 (some ⟨G, 0, none⟩) 4 4 [v / 16777216 % 256, v / 65536 % 256, v / 256 % 256, v % 256]] from Y.out.setO 0 rfl 0 (v / 16777216 % 256))
      go_wp2_with fail
      go_roundw
      case rel => exact .inr (.inr (.inr (.inr (⟨by first | rfl | go_num, rfl, Y2.out⟩))))
      case measure => simp [intOf]
    · have Y := Lib.hid Y0
      clear Y0
      go_wp2_with fail
      go_ret
      exact ⟨_, _, rfl, by rw [← HR.out]; exact Y.out.own 0 rfl, Y.out.bel⟩
end Go.Proofs.Ytcipgkpcaecjdaa
