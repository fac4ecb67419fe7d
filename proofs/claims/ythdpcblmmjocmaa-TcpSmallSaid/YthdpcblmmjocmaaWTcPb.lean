import Derived.Test.YthdpcblmmjocmaaWTcPa
import Derived.Test.YthdpcblmmjocmaaWTcF
/- package tcp: Parse, any bytes. -/
namespace Go.Proofs.Ythdpcblmmjocmaa
open Go.RowKit
set_option linter.unusedVariables false
attribute [local go_sem ↓] Go.wp_at_zero Go.wp_at_succ

def parseE (zs : List Int) : Int := if 40 < zs.length then 3 else match parse zs kn0 with
  | none => 84
  | some _ => 0
def parseK (zs : List Int) : KN := if 40 < zs.length then knZ else (parse zs kn0).getD knZ
/-- what Parse gives -/
def TPars (w : World) (zs : List Int) (e : Ending) (w' : World) : Prop :=
  ∃ A nb cb, nb = (parseK zs).bl.length ∧ e = .returned (.tuple #[.agg (KNC (parseK zs) A nb cb), .int .i64 (parseE zs)]) ∧ SP w w' [.row 93 2 A nb cb (prs (parseK zs).bl)]
theorem prs_flat : ∀ l, prs l = (flatP l).map (Value.int .u32)
  | [] => rfl
  | p :: l => by simp [prs, flatP, prs_flat l]
theorem row_rd {w : World} {base : Nat} {e : TypeId} {A : Option Addr} {n c : Nat} {l : List (Int × Int)} (h : w.ownsRow base e 2 (.slice A n c) n (prs l)) : RD .u32 w w.heap.size A (2 * n) (flatP l) := by
  have hl : (flatP l).length = 2 * n := by
    have := h.1
    rw [prs_len] at this
    rw [flatP_len]; omega
  refine ⟨hl, fun hn => ?_⟩
  rcases h.2 with ⟨_, h0⟩ | ⟨g, cap, cur, hv, hbg, hg, hnc, hcm, hcs, htake⟩
  · omega
  · simp at hv
    obtain ⟨rfl, rfl⟩ := hv
    refine ⟨g, 0, rfl, (Array.getElem?_eq_some_iff.1 hg).1, fun i hi => ?_⟩
    rw [Nat.zero_add, cell_of_row w g i cur _ (0, 0) hg]
    have h1 : cur.toList[i]? = ((prs l))[i]? := by
      rw [← htake, List.getElem?_take_of_lt (by omega)]
    rw [← Array.getElem?_toList, h1, prs_flat]
    simp [hl, hi]

set_option maxHeartbeats 4000000 in
set_option maxRecDepth 100000 in
theorem parse_long (A : Option Addr) (n c : Nat) (w : World) (h40 : 40 < n) :
    Calls Try.prog 26 #[.slice A n c] w fun e w' => e = .returned (.tuple #[.agg (KNC knZ none 0 0), .int .i64 3]) ∧ Below w.heap.size w w' := by
  have o1 : (40 : Int) < (n : Int) := by omega
  have S0 := ((SP.start w).alloc 32 (KNC knZ none 0 0)).alloc 38 #[.int .i64 0]
  rw [World.size_alloc] at S0
  go_enter Try.func26, Try.ntmps26
  go_upto_region 1 with fail
  change Code.wp _ _ _ _ ((w.alloc (.cells (KNC knZ none 0 0) 32)).alloc (.cells #[.int .i64 0] 38))
  generalize (w.alloc (.cells (KNC knZ none 0 0) 32)).alloc (.cells #[.int .i64 0] 38) = w1 at S0 ⊢
  obtain ⟨N, hN⟩ : ∃ N, N = w.heap.size := ⟨_, rfl⟩
  rw [← hN] at S0 ⊢
  have HN := Lib.hid hN
  have X := Lib.hid S0
  clear hN S0
  have c0 : w1.cell? ⟨N + 1, 0, none⟩ = some (.int .i64 0) := X.out.cell 1 rfl 0 rfl
  have f0 := X.out.free 1 rfl 0
  have hne : N < w1.heap.size := (X.out.blk 0 rfl).lt
  go_upto_region 2 with fail
  have Y := Lib.hid (X.out.setR 0 rfl (KNC knZ none 0 0))
  have c0' : (w1.setRow N (KNC knZ none 0 0)).cell? ⟨N + 1, 0, none⟩ = some (.int .i64 0) := Y.out.cell 1 rfl 0 rfl
  have f0' := Y.out.free 1 rfl 0
  go_wp2_with (refine wpList_store_row rfl 32 _ _ rfl N (KNC knZ none 0 0) rfl rfl 32 (KNC knZ none 0 0) (X.out.blk 0 rfl) (by kernel_rfl) rfl (KNC.one _ _ _ _) ?_)
  have Z := Y.out.setB 1 rfl 0 (.int .i64 3)
  exact bodyPost_ret (results_cells rfl _ _ N (N + 1) 32 (KNC knZ none 0 0) _ _ rfl rfl (Z.blk 0 rfl) Try.underlying32 rfl (by kernel_rfl) Try.underlying38 (Z.cell 1 rfl 0 rfl)) rfl ⟨rfl, Z.bel⟩

theorem tcparse_any (A : Option Addr) (n c : Nat) (zs : List Int) (w : World) (R : RD .u8 w w.heap.size A n zs) (hz : BD 255 zs) (hnc : n ≤ c) (hc : c ≤ maxLen) :
    Calls Try.prog 26 #[.slice A n c] w (TPars w zs) := by
  have hl := R.len
  by_cases h : 40 < n
  · refine (parse_long A n c w h).mono ?_
    rintro e w' ⟨rfl, hb⟩
    have hk : parseK zs = knZ := by unfold parseK; rw [if_pos (by rw [hl]; exact h)]
    have he : parseE zs = 3 := by unfold parseE; rw [if_pos (by rw [hl]; exact h)]
    exact ⟨none, 0, 0, by rw [hk]; rfl, by rw [hk, he], by rw [hk]; exact ((SP.start w).next hb).pushRow _ _⟩
  · refine (parse_any A n c zs w R hz hnc hc (by omega)).mono ?_
    rintro e w' (⟨h1, rfl, hb⟩ | ⟨k, A', nb, cb, h1, h2, rfl, X⟩)
    · have h1' : parse zs kn0 = none := h1
      have hk : parseK zs = knZ := by unfold parseK; rw [if_neg (by rw [hl]; exact h), h1']; rfl
      have he : parseE zs = 84 := by unfold parseE; rw [if_neg (by rw [hl]; exact h), h1']
      exact ⟨none, 0, 0, by rw [hk]; rfl, by rw [hk, he], by rw [hk]; exact ((SP.start w).next hb).pushRow _ _⟩
    · have h1' : parse zs kn0 = some k := h1
      have hk : parseK zs = k := by unfold parseK; rw [if_neg (by rw [hl]; exact h), h1']; rfl
      have he : parseE zs = 0 := by unfold parseE; rw [if_neg (by rw [hl]; exact h), h1']
      exact ⟨A', nb, cb, by rw [hk]; exact h2, by rw [hk, he], by rw [hk]; exact X⟩
end Go.Proofs.Ythdpcblmmjocmaa
