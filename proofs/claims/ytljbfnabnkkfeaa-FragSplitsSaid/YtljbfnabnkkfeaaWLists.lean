import Derived.Test.YtljbfnabnkkfeaaFgW
/- bafflekit.SameByteLists at lists that are the same. -/
namespace Go.Proofs.Ytljbfnabnkkfeaa
open Go.RowKit
set_option linter.unusedVariables false
set_option linter.unusedSimpArgs false

/-- a slice of slices of bytes, as it can be read -/
def RDL (W : World) (LA : Option Addr) (G : List (SD × List Int)) : Prop :=
  ∀ (i : Nat) (g : SD × List Int), G[i]? = some g → (∃ b off, LA = some ⟨b, off, none⟩ ∧ W.cell? ⟨b, off + i, none⟩ = some g.1.val) ∧ RD .u8 W W.heap.size g.1.A g.1.n g.2 ∧ g.1.n ≤ 140737488351232
theorem PKS.rdl {W : World} {LA : Option Addr} {G : List (SD × List Int)} (H : PKS W LA G) : RDL W LA G := fun i g hg => ⟨(H i g hg).1, (H i g hg).2.1, (H i g hg).2.2.2.2⟩
theorem RDL.drewN {W : World} {LA : Option Addr} {G : List (SD × List Int)} (H : RDL W LA G) (m : Nat) : RDL (W.drewN m) LA G := fun i g hg => by
  obtain ⟨h1, h2, h3⟩ := H i g hg
  exact ⟨h1, h2.later (below_drewN (Below.refl _ W) m), h3⟩
theorem rdl_row {w0 W : World} {R : List IT} {LA : Option Addr} {n c : Nat} {G : List (SD × List Int)} (H : SP w0 W R) (hr : .row 23 1 LA n c (G.map gV) ∈ R) (hG : ∀ g ∈ G, gIT g ∈ R) (hlen : ∀ g ∈ G, g.2.length ≤ 100000) : RDL W LA G := by
  intro i g hg
  have hm := List.mem_of_getElem? hg
  have h1 : W.ownsRow w0.heap.size 23 1 (.slice LA n c) n (G.map gV) := H.mem _ hr
  have h2 : OWN .u8 5 W w0.heap.size g.1.A g.1.n g.1.c g.2 := H.mem _ (hG g hm)
  have hgv : (G.map gV)[i]? = some g.1.val := by rw [List.getElem?_map, hg]; rfl
  have hn : n = G.length := by have := h1.1; simp at this; omega
  have hi : i < n := by rw [hn]; exact (List.getElem?_eq_some_iff.1 hg).1
  refine ⟨?_, h2.rd, by have := h2.len; have := hlen g hm; omega⟩
  rcases h1.2 with ⟨_, h3⟩ | ⟨b, cap, cur, h3, _⟩
  · omega
  · simp at h3
    obtain ⟨rfl, rfl⟩ := h3
    refine ⟨b, 0, rfl, ?_⟩
    rw [Nat.zero_add, World.ownsRow.cellAt h1 i (by omega)]
    exact hgv
theorem quiet_dN {P : Program} {f : FuncId} {args : Array Value} {w : World} {a n : Nat} {v : Value}
    (h : Calls P f args (w.drewN (a + n)) fun e w' => e = .returned v ∧ ∃ m, w' = (w.drewN (a + n)).drewN m) : Calls P f args (w.drewN (a + n)) fun e w'' => e = .returned v ∧ ∃ m, w'' = w.drewN (a + m) :=
  h.mono fun _ _ ⟨he, m, hm⟩ => ⟨he, n + m, by rw [hm, World.drewN_drewN, Nat.add_assoc]⟩
set_option maxHeartbeats 2000000 in
set_option maxRecDepth 100000 in
theorem samelists_yes (A1 A2 : Option Addr) (n c1 c2 : Nat) (G1 G2 : List (SD × List Int)) (w : World) (h1 : RDL w A1 G1) (h2 : RDL w A2 G2) (hl : G1.length = n) (he : G1.map (·.2) = G2.map (·.2)) (hn : n ≤ 100000) :
    Calls Try.prog 28 #[.slice A1 n c1, .slice A2 n c2] w fun e w' => e = .returned (.bool true) ∧ ∃ m, w' = w.drewN m := by
  have H1 := Lib.hid h1
  have H2 := Lib.hid h2
  have HL := Lib.hid (And.intro hl he)
  have ht : ((n : Int) != (n : Int)) = false := by simp
  clear h1 h2 hl he
  go_enter Try.func28, Try.ntmps28
  go_wp2
  go_loopw [5] (fun i wr => ∃ k : Nat, k ≤ n ∧ i = .int .i64 k ∧ ∃ m, wr = w.drewN m) (fun i _ => n - (intOf i).toNat)
  case atStart => exact ⟨0, Nat.zero_le _, rfl, 0, rfl⟩
  case round =>
    obtain ⟨k, hk, rfl, m, rfl⟩ := hrel
    by_cases hlt : k < n
    · obtain ⟨g1, hg1⟩ : ∃ g, G1[k]? = some g := ⟨_, List.getElem?_eq_getElem (by rw [HL.out.1]; exact hlt)⟩
      have hb : (G2.map (·.2))[k]? = some g1.2 := by rw [← HL.out.2, List.getElem?_map, hg1]; rfl
      rw [List.getElem?_map] at hb
      obtain ⟨g2, hg2, hb⟩ := Option.map_eq_some_iff.1 hb
      obtain ⟨⟨b1, o1, rfl, x1⟩, p1, q1⟩ := (H1.out.drewN m) k g1 hg1
      obtain ⟨⟨b2, o2, rfl, x2⟩, p2, q2⟩ := (H2.out.drewN m) k g2 hg2
      obtain ⟨⟨B1, m1, d1⟩, z1⟩ := g1
      obtain ⟨⟨B2, m2, d2⟩, z2⟩ := g2
      simp only at hb p1 p2 q1 q2
      subst hb
      replace x1 : w.cell? ⟨b1, o1 + k, none⟩ = some (.slice B1 m1 d1) := x1
      replace x2 : w.cell? ⟨b2, o2 + k, none⟩ = some (.slice B2 m2 d2) := x2
      have HS := Lib.hid (fun j : Nat => (show Calls Try.prog 17 #[.slice B1 m1 d1, .slice B2 m2 d2] (w.drewN j) (fun e w' => e = .returned (.bool true) ∧ ∃ m, w' = (w.drewN j).drewN m) by
        have h5 := same_any B1 B2 m1 d1 m2 d2 z2 z2 (w.drewN j) ((show RD .u8 w w.heap.size B1 m1 z2 from (H1.out k _ hg1).2.1).later (below_drewN (Below.refl _ w) j)) ((show RD .u8 w w.heap.size B2 m2 z2 from (H2.out k _ hg2).2.1).later (below_drewN (Below.refl _ w) j)) (by omega) (by omega)
        rw [show (z2 == z2) = true by simp] at h5
        exact h5))
      have i1 : (0 : Int) ≤ (k : Int) := by omega
      have i2 : (k : Int) < (n : Int) := by omega
      clear p1 p2 q1 q2 hg1 hg2 H1 H2 HL
      go_wp2_with fail
      go_quiet (first | (go_at_call 17; with_reducible exact quiet_dN (HS.out _)))
      have e6 : IntKind.i64.wrap ((k : Int) + 1) = (k : Int) + 1 := IntWalk.i64_in _ (by omega)
      go_wp2_with fail
      go_roundw
      case rel => exact ⟨k + 1, by omega, by go_num, _, rfl⟩
      case measure => simp [intOf]; omega
    · have t1 : ¬ (k : Int) < (n : Int) := by omega
      go_wp2
      go_ret
      exact ⟨rfl, _, rfl⟩
end Go.Proofs.Ytljbfnabnkkfeaa
