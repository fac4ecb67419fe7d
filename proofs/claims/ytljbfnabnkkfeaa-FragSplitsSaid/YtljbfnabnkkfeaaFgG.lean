import Derived.RangeFuncNested
import Derived.RangeFuncBound
import Derived.RangeFuncCalls
import Derived.RangeFuncLeaves
import Derived.Shelf.Abstract
import Derived.Shelf.RegionOpen
import Derived.WalkKit
import Derived.OwnWalkIn
import Derived.TacticsInMore
import Derived.LoopNIn
import Derived.LoopIn
import Derived.Test.YtljbfnabnkkfeaaWRng
import Derived.Test.YtljbfnabnkkfeaaWBase
import Derived.Test.YtljbfnabnkkfeaaFgSp
import Derived.Test.YtljbfnabnkkfeaaFgP
/- package frag: groups in memory; each, bytes. -/
namespace Go.Proofs.Ytljbfnabnkkfeaa
open Go.RowKit Go.Shelf
set_option linter.unusedVariables false
set_option linter.unusedSimpArgs false
attribute [local go_sem] Oper.semAt_some

/-- a part in memory -/
structure PM where
  b : Nat
  A : Option Addr
  n : Nat
  c : Nat
  d : List Int
def PM0 : PM := ⟨0, none, 0, 0, []⟩
def PM.a (p : PM) : Nat × List Int := (p.b, p.d)
def PM.cells (p : PM) : List Value := [.int .i64 (p.b : Int), .slice p.A p.n p.c]
def PM.it (p : PM) : IT := .own .u8 5 p.A p.n p.c p.d
/-- parts that can be read -/
def PARTS (w : World) (A : Option Addr) (n : Nat) (ps : List PM) : Prop :=
  ps.length = n ∧ (0 < n → ∃ g off, A = some ⟨g, off, none⟩ ∧ g < w.heap.size ∧ ∀ i, i < n → w.cell? ⟨g, off + i * 2, none⟩ = some (.int .i64 ((ps[i]?.getD PM0).b : Int)) ∧ w.cell? ⟨g, off + i * 2 + 1, none⟩ = some (.slice (ps[i]?.getD PM0).A (ps[i]?.getD PM0).n (ps[i]?.getD PM0).c))
theorem PARTS.below {w w' : World} {A : Option Addr} {n : Nat} {ps : List PM} (h : PARTS w A n ps) (hb : Below w.heap.size w w') : PARTS w' A n ps := by
  refine ⟨h.1, fun hn => ?_⟩
  obtain ⟨b, off, h1, h2, h3⟩ := h.2 hn
  exact ⟨b, off, h1, by have := hb.size; omega, fun i hi => ⟨(hb.cell h2).trans (h3 i hi).1, (hb.cell h2).trans (h3 i hi).2⟩⟩
theorem fm_get : ∀ (ps : List PM) (i : Nat), i < ps.length → (ps.flatMap PM.cells)[i * 2]? = some (.int .i64 ((ps[i]?.getD PM0).b : Int)) ∧ (ps.flatMap PM.cells)[i * 2 + 1]? = some (.slice (ps[i]?.getD PM0).A (ps[i]?.getD PM0).n (ps[i]?.getD PM0).c)
  | [], i, h => by simp at h
  | p :: ps, 0, _ => by simp [PM.cells]
  | p :: ps, i + 1, h => by
    have := fm_get ps i (by simp at h; omega)
    rw [show (i + 1) * 2 = i * 2 + 2 by omega]
    simp only [List.flatMap_cons, PM.cells, List.cons_append, List.nil_append, List.getElem?_cons_succ]
    exact this
theorem parts_of_row {w : World} {base n c : Nat} {A : Option Addr} {ps : List PM} (h : w.ownsRow base 93 2 (.slice A n c) n (ps.flatMap PM.cells)) : PARTS w A n ps := by
  have hl : ps.length = n := by
    have h1 := h.1
    have h2 : (ps.flatMap PM.cells).length = ps.length * 2 := by
      clear h h1
      induction ps with
      | nil => rfl
      | cons p ps ih => rw [List.flatMap_cons, List.length_append, ih, List.length_cons]; simp [PM.cells]; omega
    omega
  refine ⟨hl, fun hn => ?_⟩
  rcases h.2 with ⟨_, h2⟩ | ⟨g, cap, cur, h1, h2, h3, h4, h5, h6, h7⟩
  · omega
  · simp at h1
    obtain ⟨rfl, rfl⟩ := h1
    refine ⟨g, 0, rfl, (Array.getElem?_eq_some_iff.1 h3).1, fun i hi => ?_⟩
    have e := fm_get ps i (by omega)
    exact ⟨by rw [Nat.zero_add, World.ownsRow.cellAt h (i * 2) (by omega)]; exact e.1, by rw [Nat.zero_add, World.ownsRow.cellAt h (i * 2 + 1) (by omega)]; exact e.2⟩

/-- a group in memory -/
structure GM where
  N : Nat
  q : AG
  oA : Option Addr
  on : Nat
  oc : Nat
  pA : Option Addr
  pn : Nat
  pc : Nat
  ps : List PM
def GM.a (g : GM) : AG := { g.q with ps := g.ps.map PM.a }
def GM.cells (g : GM) : Array Value := #[.int .u32 g.q.src, .int .u32 g.q.dst, .int .u8 g.q.proto, .int .u16 g.q.id, .int .i64 g.q.begin_, .int .i64 g.q.total, .bool g.q.dead,
  .int .u8 g.q.h.tos, .int .u16 g.q.h.id, .bool g.q.h.df, .bool g.q.h.mf, .int .i64 g.q.h.off, .int .u8 g.q.h.ttl, .int .u8 g.q.h.proto, .int .u32 g.q.h.src, .int .u32 g.q.h.dst, .slice g.oA g.on g.oc, .slice g.pA g.pn g.pc]
def GM.its (g : GM) : List IT := .blk g.N 89 g.cells :: .row 93 2 g.pA g.pn g.pc (g.ps.flatMap PM.cells) :: .own .u8 5 g.oA g.on g.oc g.q.o :: g.ps.map PM.it

/-- how many bytes the first k parts have -/
def sumN (ps : List PM) (k : Nat) : Nat := ((ps.take k).map (·.n)).sum
theorem sumN_zero (ps : List PM) : sumN ps 0 = 0 := by simp [sumN]
theorem sumN_succ {ps : List PM} {k : Nat} (h : k < ps.length) : sumN ps (k + 1) = sumN ps k + (ps[k]?.getD PM0).n := by
  unfold sumN
  rw [List.take_add_one, List.getElem?_eq_getElem h, List.map_append, List.sum_append]
  simp

set_option maxHeartbeats 1000000 in
set_option maxRecDepth 100000 in
theorem each1_in (m l BV N : Nat) (hm : 1 ≤ m) (A : Option Addr) (n c : Nat) (ps : List PM) (hb : ∀ p ∈ ps, p.b ≤ 100000 ∧ p.n ≤ 100000) (hn : n ≤ 100000) (J : Nat → World → Prop) (Jx : World → Prop)
    (hJ : ∀ k W, J k W → W.cell? ⟨BV, 0, none⟩ = some (.pointer (some ⟨N, 0, none⟩)) ∧ W.cell? ⟨N, 17, none⟩ = some (.slice A n c) ∧ PARTS W A n ps)
    (hal : ∀ k W o, J k W → J k (W.alloc o))
    (hy : ∀ k W, k < n → J k W → YieldAt Fence.wide (m - 1) Try.prog l #[.int .i64 ((ps[k]?.getD PM0).b : Int), .int .i64 (((ps[k]?.getD PM0).b : Int) + ((ps[k]?.getD PM0).n : Int))] W fun e W' => (e = .returned (.bool true) ∧ J (k + 1) W') ∨ (e = .returned (.bool false) ∧ Jx W'))
    (W : World) (h0 : J 0 W) :
    CallsIn Fence.wide m Try.prog 84 #[.func (.yield l) #[] #[], .pointer (some ⟨BV, 0, none⟩)] W fun e W' => (∃ v, e = .returned v) ∧ (J n W' ∨ Jx W') := by
  obtain ⟨x0, x1, x2⟩ := hJ 0 W h0
  have hlen := x2.1
  refine callsIn_of_wp Try.func84 rfl trivial ?_ rfl
  simp only [Try.ntmps84, List.size_toArray, List.length_cons, List.length_nil, Nat.reduceAdd, Nat.reduceSub, Array.replicate_succ, Array.replicate_zero, List.push_toArray, List.append_toArray, List.nil_append, List.cons_append]
  gi_wp2
  clear x0 x1 x2
  gi_loopw [10] (fun s wr => ∃ k : Nat, k ≤ n ∧ s = .int .i64 (k : Int) ∧ J k wr) (fun s _ => n - (intOf s).toNat)
  case atStart => exact ⟨0, by omega, rfl, h0⟩
  case round =>
    obtain ⟨k, hk, rfl, hj⟩ := hrel
    obtain ⟨_, _, hparts⟩ := hJ k wr hj
    by_cases hlt : k < n
    · have t1 : (k : Int) < (n : Int) := by omega
      have t0 : (0 : Int) ≤ (k : Int) := by omega
      obtain ⟨g, off, rfl, _, hcells⟩ := hparts.2 (by omega)
      obtain ⟨x1, x2⟩ := hcells k hlt
      obtain ⟨p, hp⟩ : ∃ p, ps[k]?.getD PM0 = p := ⟨_, rfl⟩
      have hpm : p ∈ ps := by rw [← hp, List.getElem?_eq_getElem (by omega)]; exact List.getElem_mem _
      obtain ⟨b1, b2⟩ := hb p hpm
      rw [hp] at x1 x2
      obtain ⟨fn, tmps, assign, body, hyy, hR⟩ := hy k _ hlt (hal k wr (.cells #[.int .i64 (p.b : Int), .slice p.A p.n p.c] 93) hj)
      rw [hp] at hyy
      have e1 : IntKind.i64.wrap ((p.b : Int) + (p.n : Int)) = (p.b : Int) + (p.n : Int) := IntWalk.i64_in _ (by omega)
      clear hcells hp hpm hparts
      gi_wp2
      refine hR.mono ?_
      rintro e W3 (⟨rfl, hJ3⟩ | ⟨rfl, hx⟩)
      · gi_wp2
        go_roundw
        case rel => exact ⟨k + 1, by omega, by go_num, hJ3⟩
        case measure => simp [intOf]; omega
      · gi_wp2
        refine bodyPost_ret (results_none rfl _ _ _) rfl ?_
        exact ⟨⟨_, rfl⟩, .inr hx⟩
    · have t1 : ¬ (k : Int) < (n : Int) := by omega
      obtain rfl : k = n := by omega
      gi_wp2
      go_end0
      exact ⟨⟨_, rfl⟩, .inl hj⟩
theorem each_any (N : Nat) (w : World) :
    Calls Try.prog 69 #[.pointer (some ⟨N, 0, none⟩)] w fun e w' => e = .returned (.func (.func 84) #[] #[.pointer (some ⟨w.heap.size, 0, none⟩)]) ∧ w' = w.alloc (.cells #[.pointer (some ⟨N, 0, none⟩)] 83) := by
  go_enter Try.func69, Try.ntmps69
  go_wp2_with fail
  go_ret
  exact ⟨rfl, rfl⟩

set_option maxHeartbeats 1000000 in
set_option maxRecDepth 100000 in
theorem bytes_any (N : Nat) (A : Option Addr) (n c : Nat) (ps : List PM) (w : World) (hb : ∀ p ∈ ps, p.b ≤ 100000 ∧ p.n ≤ 100000) (hn : n ≤ 100000) (hs : sumN ps n ≤ 100000) (hsk : ∀ k, k ≤ n → sumN ps k ≤ 100000)
    (hN : N < w.heap.size) (h17 : w.cell? ⟨N, 17, none⟩ = some (.slice A n c)) (hp : PARTS w A n ps) :
    Calls Try.prog 41 #[.pointer (some ⟨N, 0, none⟩)] w fun e w' => e = .returned (.int .i64 (sumN ps n : Int)) ∧ Below w.heap.size w w' := by
  have HP := Lib.hid hp
  have HB := Lib.hid hb
  have HSK := Lib.hid hsk
  have H17 := Lib.hid (fun W (hb : Below w.heap.size w W) => (hb.cell (p := ⟨N, 17, none⟩) hN).trans h17)
  clear hp hb h17 hsk
  refine callsIn_wide.1 (callsIn_of_wp_marks (n := 2) Try.func41 rfl trivial ?_ rfl)
  simp only [Try.ntmps41, List.size_toArray, List.length_cons, List.length_nil, Nat.reduceAdd, Nat.reduceSub, Array.replicate_succ, Array.replicate_zero, List.push_toArray, List.append_toArray, List.nil_append, List.cons_append]
  refine wpIn_wide.2 ?_
  obtain ⟨S, hS⟩ : ∃ S, w.heap.size = S := ⟨_, rfl⟩
  have X1 := Lib.hid ((SP.start w).alloc' (N := S) 3 #[.int .i64 0] hS)
  go_wp2_with fail
  refine (each_any N _).mono ?_
  rintro e w2 ⟨rfl, hw2⟩
  rw [hS] at *
  obtain ⟨BV, hBV⟩ : ∃ B, B = (w.alloc (.cells #[.int .i64 0] 3)).heap.size := ⟨_, rfl⟩
  have X2 := Lib.hid (X1.out.alloc' (N := BV) 83 #[.pointer (some ⟨N, 0, none⟩)] hBV.symm)
  rw [← hw2] at X2
  rw [← hBV]
  replace X2 := Lib.hid (show SP w w2 [.blk S 3 #[.int .i64 0], .blk BV 83 #[.pointer (some ⟨N, 0, none⟩)]] from X2.out)
  clear hw2 hBV hS X1
  go_wp2_with fail
  obtain ⟨D, hD⟩ : ∃ D, w2.heap.size = D := ⟨_, rfl⟩
  refine (wpIn_wide (n := 2)).1 ?_
  refine wpIn_range_raw (gf := 84) (lb := #[.pointer (some ⟨BV, 0, none⟩)]) rfl (fun h => by cases h) rfl trivial (enters_of Try.func84 (by kernel_rfl) rfl)
    (fun W => ∃ r : Loop, SP w W [.blk S 3 #[.int .i64 (sumN ps n : Int)], .blk BV 83 #[.pointer (some ⟨N, 0, none⟩)], .obj D (.deferred (some [])), .obj (D + 1) (.loop r)]) (fun W => False) ?call ?done ?stop
  case call =>
    intro fn hfn W1 hW1 hbook
    rw [hD] at hbook ⊢
    generalize hrec : recOf fn _ _ _ _ D = rec at hbook ⊢
    have H3 := Lib.hid (show SP w W1 [.blk S 3 #[.int .i64 0], .blk BV 83 #[.pointer (some ⟨N, 0, none⟩)], .obj D (.deferred (some [])), .obj (D + 1) (.loop (rec .ready none))] by
      have h9 := ((X2.out.allocO (.deferred (some []))).allocO (.loop (rec .ready none)))
      rw [World.size_alloc, hD] at h9
      rw [hW1, hD, hrec]
      exact h9)
    clear hW1 X2
    refine (each1_in 1 (D + 1) BV N (by omega) A n c ps HB.out hn (fun k W => SP w W [.blk S 3 #[.int .i64 (sumN ps k : Int)], .blk BV 83 #[.pointer (some ⟨N, 0, none⟩)], .obj D (.deferred (some [])), .obj (D + 1) (.loop (rec .ready none))]) (fun _ => False) ?hJ ?hal ?hy W1 (by rw [sumN_zero]; exact H3.out)).mono ?_
    case hJ => exact fun k W X => ⟨X.cell 1 rfl 0 rfl, H17.out W X.bel, HP.out.below X.bel⟩
    case hal => exact fun k W o X => X.next ((Below.refl _ W).alloc (Nat.le_refl _) o)
    case hy =>
      intro k W hk X
      subst hrec
      refine yield_of_round trivial ⟨X.obj 3 rfl, X.obj 2 rfl⟩ rfl ?a1 ?assign ?body
      case assign =>
        intro W0 K0 hK0
        gi_wp2
        exact hK0
      case body =>
        intro hbusy
        have X2 := X.turn 3 rfl _ (grownBy_putObj' _ _ _) hbusy.loop
        clear hbook X
        generalize W.putObj (D + 1) _ = Wb at X2 hbusy ⊢
        generalize recOf fn _ _ _ _ D = rec at X2 hbusy ⊢
        have HX := Lib.hid X2
        clear X2 hbusy H3
        have c0 : Wb.cell? ⟨S, 0, none⟩ = some (.int .i64 (sumN ps k : Int)) := HX.out.cell 0 rfl 0 rfl
        have f0 := HX.out.free 0 rfl 0
        obtain ⟨p, hp⟩ : ∃ p, ps[k]?.getD PM0 = p := ⟨_, rfl⟩
        have hpm : p ∈ ps := by rw [← hp, List.getElem?_eq_getElem (by have := HP.out.1; omega)]; exact List.getElem_mem _
        obtain ⟨b1, b2⟩ := HB.out p hpm
        have hs1 := HSK.out k (by omega)
        have hs2 := sumN_succ (ps := ps) (k := k) (by have := HP.out.1; omega)
        rw [hp] at hs2 ⊢
        have HS := Lib.hid hs2
        have e1 : IntKind.i64.wrap (((p.b : Int) + (p.n : Int)) - (p.b : Int)) = (p.n : Int) := by rw [show ((p.b : Int) + (p.n : Int)) - (p.b : Int) = (p.n : Int) by omega]; exact IntWalk.i64_in _ (by omega)
        have e2 : IntKind.i64.wrap ((sumN ps k : Int) + (p.n : Int)) = (sumN ps k : Int) + (p.n : Int) := IntWalk.i64_in _ (by omega)
        have e3 : ((p.b : Int) + (p.n : Int)) - (p.b : Int) = (p.n : Int) := by omega
        clear hs2 hp hpm
        gi_wp2
        have Y := HX.out.setB 0 rfl 0 (.int .i64 ((sumN ps k : Int) + (p.n : Int)))
        have Y2 := Y.turn 3 rfl (.loop (rec .ready none)) (grownBy_putObj' _ _ _) (World.putObj_heap_same (Y.all 3 _ rfl |>.lt rfl).2)
        refine ⟨⟨Y.obj 3 rfl, Y.obj 2 rfl⟩, .inl ⟨rfl, ?_⟩⟩
        rw [show ((sumN ps (k + 1) : Nat) : Int) = (sumN ps k : Int) + (p.n : Int) by rw [HS.out]; simp]
        exact Y2
    rintro e W2 ⟨hv, X | hx⟩
    · exact ⟨hv, .inl ⟨⟨X.obj 3 rfl, X.obj 2 rfl⟩, _, X⟩⟩
    · exact hx.elim
  case done =>
    rintro W2 r r' hl2 hdf ⟨r0, X⟩
    rw [hD] at hl2 hdf ⊢
    have X2 := X.turn 3 rfl (.loop r') (grownBy_putObj' _ _ _) (World.putObj_heap_same (X.all 3 _ rfl |>.lt rfl).2)
    generalize W2.putObj (D + 1) (.loop r') = W3 at X2 ⊢
    have HX := Lib.hid X2
    clear X X2 hl2 hdf
    have c0 : W3.cell? ⟨S, 0, none⟩ = some (.int .i64 (sumN ps n : Int)) := HX.out.cell 0 rfl 0 rfl
    go_wp2_with fail
    refine ⟨by simp, .inl ⟨D, _, rfl, run_takeDeferred (HX.out.obj 2 rfl), ?_⟩⟩
    have Z := HX.out.turn 2 rfl (.deferred none) (grownBy_putObj' _ _ _) (World.putObj_heap_same (HX.out.all 2 _ rfl |>.lt rfl).2)
    exact ⟨_, results_tmp rfl _ _ _, rfl, Z.bel⟩
  case stop =>
    rintro W2 r r' hl2 hdf h
    exact h.elim
end Go.Proofs.Ytljbfnabnkkfeaa
