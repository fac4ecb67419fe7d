/- package ip: the seven faults that Read looks for. -/
import Derived.Test.YtljbfnabnkkfeaaWIp
import Derived.Test.YtljbfnabnkkfeaaWIp3
namespace Go.Proofs.Ytljbfnabnkkfeaa
open Go.RowKit
set_option linter.unusedVariables false

/-- the variables of Read: the bytes, the result, the header, its size, the total length -/
structure ST (w0 : World) (N : Nat) (A : Option Addr) (n c : Nat) (zs : List Int) (sz tot : Int) (H : Array Value) (w : World) : Prop where
  b : BLOCK w N 23 #[.slice A n c]
  r : BLOCK w (N + 1) 49 (HD.zero.cells (.slice none 0 0))
  h : BLOCK w (N + 2) 49 H
  s : BLOCK w (N + 3) 3 #[.int .i64 sz]
  t : BLOCK w (N + 4) 3 #[.int .i64 tot]
  bel : Below N w0 w
  rd : RD .u8 w N A n zs
section
variable {w0 w w' : World} {N : Nat} {A : Option Addr} {n c : Nat} {zs : List Int} {sz tot : Int} {H : Array Value}
theorem ST.siz (h : ST w0 N A n c zs sz tot H w) : N + 5 ≤ w.heap.size := h.t.lt
theorem ST.next (h : ST w0 N A n c zs sz tot H w) (hb : Below w.heap.size w w') : ST w0 N A n c zs sz tot H w' :=
  have hs := h.siz
  ⟨h.b.next hb, h.r.next hb, h.h.next hb, h.s.next hb, h.t.next hb, h.bel.trans (hb.mono (by omega)), h.rd.below (hb.mono (by omega))⟩
theorem ST.setS (h : ST w0 N A n c zs sz tot H w) (x : Int) : ST w0 N A n c zs x tot H (w.setCell ⟨N + 3, 0, none⟩ (.int .i64 x)) :=
  ⟨h.b.other (by simp) _, h.r.other (by simp) _, h.h.other (by simp) _, h.s.set 0 _, h.t.other (by simp) _, h.bel.setCell (p := ⟨N + 3, 0, none⟩) (by simp) _, h.rd.setCell (p := ⟨N + 3, 0, none⟩) (by simp) _⟩
theorem ST.setT (h : ST w0 N A n c zs sz tot H w) (x : Int) : ST w0 N A n c zs sz x H (w.setCell ⟨N + 4, 0, none⟩ (.int .i64 x)) :=
  ⟨h.b.other (by simp) _, h.r.other (by simp) _, h.h.other (by simp) _, h.s.other (by simp) _, h.t.set 0 _, h.bel.setCell (p := ⟨N + 4, 0, none⟩) (by simp) _, h.rd.setCell (p := ⟨N + 4, 0, none⟩) (by simp) _⟩
theorem ST.setH (h : ST w0 N A n c zs sz tot H w) (hH : H.size = 10) (v0 v1 v2 v3 v4 v5 v6 v7 v8 v9 : Value) : ST w0 N A n c zs sz tot #[v0, v1, v2, v3, v4, v5, v6, v7, v8, v9] (set10 w (N + 2) v0 v1 v2 v3 v4 v5 v6 v7 v8 v9) :=
  ⟨(set10_heap v0 v1 v2 v3 v4 v5 v6 v7 v8 v9 (by omega)).trans h.b, (set10_heap v0 v1 v2 v3 v4 v5 v6 v7 v8 v9 (by omega)).trans h.r, set10_block v0 v1 v2 v3 v4 v5 v6 v7 v8 v9 h.h hH, (set10_heap v0 v1 v2 v3 v4 v5 v6 v7 v8 v9 (by omega)).trans h.s, (set10_heap v0 v1 v2 v3 v4 v5 v6 v7 v8 v9 (by omega)).trans h.t,
    set10_below v0 v1 v2 v3 v4 v5 v6 v7 v8 v9 h.bel (by omega), h.rd.keep fun p hp => World.cell?_of_block (set10_heap v0 v1 v2 v3 v4 v5 v6 v7 v8 v9 (by omega))⟩
theorem ST.more (h : ST w0 N A n c zs sz tot H w) : RD .u8 w w.heap.size A n zs := h.rd.more (by have := h.siz; omega)
end

/-- what a fault leaves of the other blocks -/
def OLD (N : Nat) (w w' : World) : Prop := ∀ b, N + 5 ≤ b → b < w.heap.size → w'.heap[b]? = w.heap[b]?
theorem OLD.refl (N : Nat) (w : World) : OLD N w w := fun _ _ _ => rfl
theorem OLD.below {N : Nat} {w w1 w2 : World} (h : OLD N w w1) (hs : w.heap.size ≤ w1.heap.size) (hb : Below w1.heap.size w1 w2) : OLD N w w2 := fun b h1 h2 => (hb.block b (by omega)).trans (h b h1 h2)
theorem OLD.setCell {N : Nat} {w w1 : World} (h : OLD N w w1) {p : Addr} (hp : p.block < N + 5) (v : Value) : OLD N w (w1.setCell p v) := fun b h1 h2 => (heap_setCell_other _ _ _ _ (by omega)).trans (h b h1 h2)

set_option maxHeartbeats 400000 in
theorem f1_any (w0 : World) (N : Nat) (A : Option Addr) (n c : Nat) (zs : List Int) (sz tot : Int) (H : Array Value) (w : World) (B : Bool) (h : ST w0 N A n c zs sz tot H w) (hn : n ≤ 140737488355328) (hB : decide (n < 20) = B) :
    Calls Try.prog 42 #[.pointer (some ⟨N, 0, none⟩)] w fun e w' => e = .returned (.bool B) ∧ w = w' := by
  have x1 : w.cell? ⟨N, 0, none⟩ = some (.slice A n c) := h.b.cell 0
  have hB' : decide ((n : Int) < 20) = B := by rw [← hB]; congr 1; simp; omega
  go_enter Try.func42, Try.ntmps42
  go_wp2_with fail
  go_ret
  exact ⟨by rw [← hB']; rfl, rfl⟩

set_option maxHeartbeats 400000 in
theorem f2_any (w0 : World) (N : Nat) (A : Option Addr) (n c : Nat) (zs : List Int) (sz tot : Int) (H : Array Value) (w : World) (B : Bool) (h : ST w0 N A n c zs sz tot H w) (hn : n ≤ 140737488355328) (h20 : 20 ≤ n) (hz : BD 255 zs) (hB : decide (byteAt zs 0 / 16 ≠ 4) = B) :
    Calls Try.prog 43 #[.pointer (some ⟨N, 0, none⟩)] w fun e w' => e = .returned (.bool B) ∧ w = w' := by
  have x1 : w.cell? ⟨N, 0, none⟩ = some (.slice A n c) := h.b.cell 0
  obtain ⟨b, off, rfl, hb, hc⟩ := h.rd.2 (by omega)
  have x2 : w.cell? ⟨b, off, none⟩ = some (.int .u8 (byteAt zs 0)) := hc 0 (by omega)
  obtain ⟨z1, z2⟩ := hz.get (by omega) 0
  rw [show zs[0]?.getD 0 = byteAt zs 0 from rfl] at z1 z2
  have hB' : (byteAt zs 0 / 16 != 4) = B := by rw [← hB]; simp only [bne, decide_not]; congr 1
  have i1 : (0 : Int) < (n : Int) := by omega
  clear hB hc
  go_enter Try.func43, Try.ntmps43
  go_wp2_with fail
  go_ret
  exact ⟨rfl, rfl⟩

set_option maxHeartbeats 400000 in
theorem f3_any (w0 : World) (N : Nat) (A : Option Addr) (n c : Nat) (zs : List Int) (sz tot : Int) (H : Array Value) (w : World) (B : Bool) (h : ST w0 N A n c zs sz tot H w) (hn : n ≤ 140737488355328) (h20 : 20 ≤ n) (hz : BD 255 zs) (hB : decide (sizeR zs < 20 ∨ n < sizeR zs) = B) :
    Calls Try.prog 44 #[.pointer (some ⟨N, 0, none⟩), .pointer (some ⟨N + 3, 0, none⟩)] w fun e w' => e = .returned (.bool B) ∧ ST w0 N A n c zs (sizeR zs) tot H w' ∧ OLD N w w' := by
  have x1 : w.cell? ⟨N, 0, none⟩ = some (.slice A n c) := h.b.cell 0
  have x3 : w.cell? ⟨N + 3, 0, none⟩ = some (.int .i64 sz) := h.s.cell 0
  have x4 : w.frozen? ⟨N + 3, 0, none⟩ = false := h.s.free 0
  obtain ⟨b, off, rfl, hb, hc⟩ := h.rd.2 (by omega)
  have x2 : w.cell? ⟨b, off, none⟩ = some (.int .u8 (byteAt zs 0)) := hc 0 (by omega)
  obtain ⟨z1, z2⟩ := hz.get (by omega) 0
  rw [show zs[0]?.getD 0 = byteAt zs 0 from rfl] at z1 z2
  have hs : (sizeR zs : Int) = 4 * (byteAt zs 0 % 16) := by unfold sizeR; omega
  have HS := Lib.hid hs
  have e1 : bits .and .u8 (byteAt zs 0) 15 = byteAt zs 0 % 16 := u8_and15 _ z1 (by omega)
  have e2 : IntKind.i64.wrap (byteAt zs 0 % 16) = byteAt zs 0 % 16 := IntWalk.i64_in _ (by omega)
  have e3 : IntKind.i64.wrap (4 * (byteAt zs 0 % 16)) = (sizeR zs : Int) := by rw [hs]; exact IntWalk.i64_in _ (by omega)
  have hq := h.setS (sizeR zs)
  have i1 : (0 : Int) < (n : Int) := by omega
  by_cases h1 : sizeR zs < 20
  · have hB' : true = B := by rw [← hB]; simp [h1]
    subst hB'
    have t1 : decide ((sizeR zs : Int) < 20) = true := by simp; omega
    clear hB hc h hs
    go_enter Try.func44, Try.ntmps44
    go_wp2_with fail
    go_ret
    exact ⟨rfl, hq, (OLD.refl N w).setCell (p := ⟨N + 3, 0, none⟩) (by simp) _⟩
  · have t1 : decide ((sizeR zs : Int) < 20) = false := by simp; omega
    have t2 : decide (n < sizeR zs) = B := by rw [← hB]; congr 1; simp [h1]
    clear hB hc h hs
    go_enter Try.func44, Try.ntmps44
    go_wp2_with fail
    go_ret
    exact ⟨rfl, hq, (OLD.refl N w).setCell (p := ⟨N + 3, 0, none⟩) (by simp) _⟩

set_option maxHeartbeats 1000000 in
theorem f4_any (w0 : World) (N : Nat) (A : Option Addr) (n c : Nat) (zs : List Int) (sz : Nat) (tot : Int) (H : Array Value) (w : World) (B : Bool) (h : ST w0 N A n c zs sz tot H w) (hn : n ≤ 140737488355328) (h20 : 20 ≤ n) (hz : BD 255 zs) (hB : decide (totalR zs < sz ∨ n < totalR zs) = B) :
    Calls Try.prog 45 #[.pointer (some ⟨N, 0, none⟩), .pointer (some ⟨N + 4, 0, none⟩), .pointer (some ⟨N + 3, 0, none⟩)] w fun e w' => e = .returned (.bool B) ∧ ST w0 N A n c zs sz (totalR zs) H w' ∧ OLD N w w' := by
  have x1 : w.cell? ⟨N, 0, none⟩ = some (.slice A n c) := h.b.cell 0
  have hw := wordAt_bd hz 2
  have ht : wordAt zs 2 = (totalR zs : Int) := by unfold totalR; omega
  have HT := Lib.hid ht
  clear hw ht
  go_enter Try.func45, Try.ntmps45
  go_wp2_with fail
  refine (word_any A n c zs _ 2 _ h.more hz hn rfl (by omega)).mono ?_
  rintro e w1 ⟨rfl, m, h1⟩
  replace h : ST w0 N A n c zs sz tot H w1 := h.next (h1 ▸ below_drewN (Below.refl _ _) m)
  rw [HT.out]
  have hO := ((OLD.refl N w).below (Nat.le_refl _) (w2 := w1) (by rw [h1]; exact below_drewN (Below.refl _ _) m)).setCell (p := ⟨N + 4, 0, none⟩) (by simp) (.int .i64 (totalR zs))
  have hq := h.setT (totalR zs)
  clear h1 x1
  have x1 : w1.cell? ⟨N, 0, none⟩ = some (.slice A n c) := h.b.cell 0
  have x3 : w1.cell? ⟨N + 3, 0, none⟩ = some (.int .i64 sz) := h.s.cell 0
  have x4 : w1.cell? ⟨N + 4, 0, none⟩ = some (.int .i64 tot) := h.t.cell 0
  have x5 : w1.frozen? ⟨N + 4, 0, none⟩ = false := h.t.free 0
  by_cases h1 : totalR zs < sz
  · have hB' : true = B := by rw [← hB]; simp [h1]
    subst hB'
    have t1 : decide ((totalR zs : Int) < (sz : Int)) = true := by simp; omega
    clear hB h
    go_wp2_with fail
    go_ret
    exact ⟨rfl, hq, hO⟩
  · have t1 : decide ((totalR zs : Int) < (sz : Int)) = false := by simp; omega
    have t2 : decide (n < totalR zs) = B := by rw [← hB]; congr 1; simp [h1]
    clear hB h
    go_wp2_with fail
    go_ret
    exact ⟨rfl, hq, hO⟩

set_option maxHeartbeats 1000000 in
theorem f5_any (w0 : World) (N : Nat) (A : Option Addr) (n c : Nat) (zs : List Int) (sz : Nat) (tot : Int) (H : Array Value) (w : World) (B : Bool) (h : ST w0 N A n c zs sz tot H w) (hn : n ≤ c) (hc : n ≤ 140737488355328) (hs : sz ≤ n) (hz : BD 255 zs) (hB : decide (sumOf (zs.take sz) ≠ 65535) = B) :
    Calls Try.prog 47 #[.pointer (some ⟨N, 0, none⟩), .pointer (some ⟨N + 3, 0, none⟩)] w fun e w' => e = .returned (.bool B) ∧ ST w0 N A n c zs sz tot H w' ∧ OLD N w w' := by
  have x1 : w.cell? ⟨N, 0, none⟩ = some (.slice A n c) := h.b.cell 0
  have x3 : w.cell? ⟨N + 3, 0, none⟩ = some (.int .i64 sz) := h.s.cell 0
  have hB' : (!(sumOf (zs.take sz) == 65535)) = B := by rw [← hB]; simp only [decide_not]; congr 1
  have i1 : (0 : Int) ≤ (sz : Int) := by omega
  have i2 : (sz : Int) ≤ (c : Int) := by omega
  clear hB
  go_enter Try.func47, Try.ntmps47
  go_wp2_with fail
  refine (right_any A sz c (zs.take sz) _ (h.more.take hs) (hz.take _) (by omega)).mono ?_
  rintro e w1 ⟨rfl, h1⟩
  go_wp2_with fail
  go_ret
  exact ⟨rfl, h.next h1, (OLD.refl N w).below (Nat.le_refl _) h1⟩

set_option maxHeartbeats 1000000 in
theorem f6_any (w0 : World) (N : Nat) (A : Option Addr) (n c : Nat) (zs : List Int) (sz : Nat) (tot : Int) (H : Array Value) (w : World) (B : Bool) (h : ST w0 N A n c zs sz tot H w) (hn : n ≤ 140737488355328) (h20 : 20 ≤ n) (hz : BD 255 zs) (hB : decide (32768 ≤ wordAt zs 6) = B) :
    Calls Try.prog 49 #[.pointer (some ⟨N, 0, none⟩)] w fun e w' => e = .returned (.bool B) ∧ ST w0 N A n c zs sz tot H w' ∧ OLD N w w' := by
  have x1 : w.cell? ⟨N, 0, none⟩ = some (.slice A n c) := h.b.cell 0
  obtain ⟨u1, u2⟩ := wordAt_bd hz 6
  have b1 := i64_and_one (wordAt zs 6) u1 (by omega) 15 (by omega)
  simp only [show ((2 : Int) ^ 15) = 32768 from rfl] at b1
  have hB' : (wordAt zs 6 / 32768 % 2 * 32768 != 0) = B := by rw [← hB]; rw [Bool.eq_iff_iff]; simp; omega
  clear hB
  go_enter Try.func49, Try.ntmps49
  go_wp2_with fail
  refine (word_any A n c zs _ 6 _ h.more hz hn rfl (by omega)).mono ?_
  rintro e w1 ⟨rfl, m, h1⟩
  have hq := h.next (w' := w1) (by rw [h1]; exact below_drewN (Below.refl _ _) m)
  have hO := (OLD.refl N w).below (Nat.le_refl _) (w2 := w1) (by rw [h1]; exact below_drewN (Below.refl _ _) m)
  clear h1
  go_wp2_with fail
  go_ret
  exact ⟨rfl, hq, hO⟩

/-- what the last fault leaves: the header -/
def F7P (w0 : World) (N : Nat) (A : Option Addr) (n c : Nat) (zs : List Int) (sz tot : Nat) (B : Bool) (w : World) (e : Ending) (w' : World) : Prop :=
  OLD N w w' ∧ ∃ A1 n1 c1, e = .returned (.bool B) ∧ ST w0 N A n c zs sz tot ((hdOf zs).cells (.slice A1 n1 c1)) w' ∧ OWN .u8 5 w' (N + 5) A1 n1 c1 (optsOf zs)

set_option maxHeartbeats 4000000 in
set_option maxRecDepth 100000 in
theorem f7_any (w0 : World) (N : Nat) (A : Option Addr) (n c : Nat) (zs : List Int) (tot : Nat) (w : World) (B : Bool) (h : ST w0 N A n c zs (sizeR zs) tot (HD.zero.cells (.slice none 0 0)) w) (hn : n ≤ c) (hc : n ≤ 140737488351232) (hs20 : 20 ≤ sizeR zs) (hs : sizeR zs ≤ n) (ht : sizeR zs ≤ tot) (ht2 : tot ≤ 65535) (hz : BD 255 zs)
    (hB : decide (rightB (hdOf zs).off (hdOf zs).mf (sizeR zs - 20) ((tot : Int) - sizeR zs) = false) = B) :
    Calls Try.prog 50 #[.pointer (some ⟨N, 0, none⟩), .pointer (some ⟨N + 3, 0, none⟩), .pointer (some ⟨N + 2, 0, none⟩), .pointer (some ⟨N + 4, 0, none⟩)] w (F7P w0 N A n c zs (sizeR zs) tot B w) := by
  have x1 : w.cell? ⟨N, 0, none⟩ = some (.slice A n c) := h.b.cell 0
  have x3 : w.cell? ⟨N + 3, 0, none⟩ = some (.int .i64 (sizeR zs)) := h.s.cell 0
  have hB' : (!(rightB (hdOf zs).off (hdOf zs).mf (sizeR zs - 20) ((tot : Int) - sizeR zs))) = B := by rw [← hB]; cases rightB (hdOf zs).off (hdOf zs).mf (sizeR zs - 20) ((tot : Int) - sizeR zs) <;> rfl
  have hwf := (hdOf_wf hz).off
  clear hB
  go_enter Try.func50, Try.ntmps50
  go_wp2_with fail
  refine (header_any A n c zs _ (sizeR zs) _ h.more hz hn (by omega) rfl hs20 hs).mono ?_
  rintro e w1 ⟨A1, n1, c1, rfl, own1, hb1⟩
  have hsz := h.siz
  replace h := h.next hb1
  replace own1 := own1.mono (base' := N + 5) hsz
  clear x1 x3
  have f0 := h.h.cell 0
  have f1 := h.h.cell 1
  have f2 := h.h.cell 2
  have f3 := h.h.cell 3
  have f4 := h.h.cell 4
  have f5 := h.h.cell 5
  have f6 := h.h.cell 6
  have f7 := h.h.cell 7
  have f8 := h.h.cell 8
  have f9 := h.h.cell 9
  have g0 := h.h.free 0
  have g1 := h.h.free 1
  have g2 := h.h.free 2
  have g3 := h.h.free 3
  have g4 := h.h.free 4
  have g5 := h.h.free 5
  have g6 := h.h.free 6
  have g7 := h.h.free 7
  have g8 := h.h.free 8
  have g9 := h.h.free 9
  simp only [HD.cells, HD.zero, List.getElem?_toArray, List.getElem?_cons_zero, List.getElem?_cons_succ] at f0 f1 f2 f3 f4 f5 f6 f7 f8 f9
  have x3 : w1.cell? ⟨N + 3, 0, none⟩ = some (.int .i64 (sizeR zs)) := h.s.cell 0
  have x4 : w1.cell? ⟨N + 4, 0, none⟩ = some (.int .i64 tot) := h.t.cell 0
  have e1 : IntKind.i64.wrap ((tot : Int) - (sizeR zs : Int)) = (tot : Int) - (sizeR zs : Int) := IntWalk.i64_in _ (by omega)
  unfold HD.val HD.cells
  go_wp2_with fail
  have hq := h.setH rfl (.int .u8 (hdOf zs).tos) (.int .u16 (hdOf zs).id) (.bool (hdOf zs).df) (.bool (hdOf zs).mf) (.int .i64 (hdOf zs).off) (.int .u8 (hdOf zs).ttl) (.int .u8 (hdOf zs).proto) (.int .u32 (hdOf zs).src) (.int .u32 (hdOf zs).dst) (.slice A1 n1 c1)
  have own2 := set10_own (.int .u8 (hdOf zs).tos) (.int .u16 (hdOf zs).id) (.bool (hdOf zs).df) (.bool (hdOf zs).mf) (.int .i64 (hdOf zs).off) (.int .u8 (hdOf zs).ttl) (.int .u8 (hdOf zs).proto) (.int .u32 (hdOf zs).src) (.int .u32 (hdOf zs).dst) (.slice A1 n1 c1) own1 (N := N + 2) (fun g hg => by have := (own1.lt g hg).1; omega)
  have hn1 : sizeR zs - 20 = n1 := by
    have h1 := own1.len
    have h2 := h.rd.len
    simp at h1
    omega
  rw [hn1] at hB'
  have hO : OLD N w (set10 w1 (N + 2) (.int .u8 (hdOf zs).tos) (.int .u16 (hdOf zs).id) (.bool (hdOf zs).df) (.bool (hdOf zs).mf) (.int .i64 (hdOf zs).off) (.int .u8 (hdOf zs).ttl) (.int .u8 (hdOf zs).proto) (.int .u32 (hdOf zs).src) (.int .u32 (hdOf zs).dst) (.slice A1 n1 c1)) := fun b h1 h2 => (set10_heap _ _ _ _ _ _ _ _ _ _ (by omega)).trans (hb1.block b h2)
  have hO2 := fun w2 (hb2 : Below _ _ w2) => hO.below (w2 := w2) (by rw [set10_size]; exact hb1.size) hb2
  clear hO
  clear f0 f1 f2 f3 f4 f5 f6 f7 f8 f9 g0 g1 g2 g3 g4 g5 g6 g7 g8 g9 h own1 x3 x4
  refine (right_any5 (hdOf zs) A1 n1 c1 _ _ hwf (by omega) (by omega)).mono ?_
  rintro e w2 ⟨rfl, hb2⟩
  have hq2 := hq.next hb2
  have own3 := own2.below hb2
  replace hO2 := hO2 _ hb2
  clear hq own2 hb2
  go_wp2_with fail
  go_ret
  exact ⟨hO2, A1, n1, c1, rfl, hq2, own3⟩
end Go.Proofs.Ytljbfnabnkkfeaa
