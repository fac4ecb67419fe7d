import Derived.Test.YtcipgkpcaecjdaaWRowt
import Derived.Test.YtcipgkpcaecjdaaWRdr
import Derived.Test.YtcipgkpcaecjdaaWWrr
/- WireBack: what parts are written as (plain), and the size of a part. -/
namespace Go.Proofs.Ytcipgkpcaecjdaa
open Go.RowKit
set_option linter.unusedVariables false
set_option linter.unusedSimpArgs false

def psz (kd : Int) (n : Nat) : Nat := if kd % 4 = 0 then 1 else if kd % 4 = 1 then 2 else if kd % 4 = 2 then 4 else min n 40
/-- what a part is written as -/
def pB (p : PT) : List Int := if p.kd % 4 = 0 then [IntKind.u8.wrap p.N] else if p.kd % 4 = 1 then by16 (IntKind.u16.wrap p.N) else if p.kd % 4 = 2 then by32 p.N else p.zs.take (min p.n 40)
theorem pB_len {p : PT} (h : p.zs.length = p.n) : (pB p).length = psz p.kd p.n := by
  unfold pB psz
  split
  · rfl
  split
  · rfl
  split
  · rfl
  rw [List.length_take, h]; omega
theorem psz_le (kd : Int) (n : Nat) : psz kd n ≤ 40 := by unfold psz; split; omega; split; omega; split <;> omega
theorem w8_bd (x : Int) : 0 ≤ IntKind.u8.wrap x ∧ IntKind.u8.wrap x ≤ 255 := by rw [IntKind.wrap_u8]; omega
theorem w16_bd (x : Int) : 0 ≤ IntKind.u16.wrap x ∧ IntKind.u16.wrap x ≤ 65535 := by rw [IntKind.wrap_u16]; omega
theorem by16_bd {v : Int} (h : 0 ≤ v ∧ v ≤ 65535) : BD 255 (by16 v) := fun x hx => by
  simp [by16] at hx; rcases hx with rfl | rfl <;> omega
theorem by32_bd {v : Int} (h : 0 ≤ v ∧ v ≤ 4294967295) : BD 255 (by32 v) := fun x hx => by
  simp [by32] at hx; rcases hx with rfl | rfl | rfl | rfl <;> omega
theorem num8 (v : Int) : numZ [v] = v := by simp [numZ]
theorem num16 (v : Int) : numZ (by16 v) = v := by simp [numZ, by16]; omega
theorem num32 (v : Int) : numZ (by32 v) = v := by simp [numZ, by32]; omega
theorem pB_bd {p : PT} (h : POK p) : BD 255 (pB p) := by
  unfold pB
  split
  · intro x hx; simp at hx; subst hx; exact w8_bd _
  split
  · exact by16_bd (w16_bd _)
  split
  · exact by32_bd h.2.1
  · exact h.2.2.1.take _
/-- the first i parts, written -/
def cat (l : List PT) (i : Nat) : List Int := (l.take i).flatMap pB
def tot (l : List PT) (i : Nat) : Nat := (cat l i).length
theorem cat_zero (l : List PT) : cat l 0 = [] := by simp [cat]
theorem tot_zero (l : List PT) : tot l 0 = 0 := by simp [tot, cat_zero]
theorem cat_succ {l : List PT} {i : Nat} (h : i < l.length) : cat l (i + 1) = cat l i ++ pB (l[i]?.getD PT0) := by
  unfold cat
  have : l.take (i + 1) = l.take i ++ [l[i]?.getD PT0] := by rw [List.take_add_one, List.getElem?_eq_getElem h]; rfl
  rw [this, List.flatMap_append]
  simp
theorem tot_succ {l : List PT} {i : Nat} (h : i < l.length) (hz : ∀ p ∈ l, p.zs.length = p.n) : tot l (i + 1) = tot l i + psz (l[i]?.getD PT0).kd (l[i]?.getD PT0).n := by
  unfold tot
  rw [cat_succ h, List.length_append, pB_len]
  rw [List.getElem?_eq_getElem h]
  exact hz _ (List.getElem_mem h)
theorem tot_le {l : List PT} (hz : ∀ p ∈ l, p.zs.length = p.n) : ∀ i, i ≤ l.length → tot l i ≤ 40 * i := by
  intro i
  induction i with
  | zero => intro _; rw [tot_zero]; omega
  | succ i ih =>
    intro h
    rw [tot_succ (by omega) hz]
    have := ih (by omega)
    have := psz_le (l[i]?.getD PT0).kd (l[i]?.getD PT0).n
    omega
theorem cat_pre {l : List PT} {i j : Nat} (h : i ≤ j) : ∃ r, cat l j = cat l i ++ r := by
  refine ⟨((l.take j).drop i).flatMap pB, ?_⟩
  unfold cat
  have : l.take j = l.take i ++ (l.take j).drop i := by
    have := (List.take_append_drop i (l.take j)).symm
    rwa [List.take_take, Nat.min_eq_left h] at this
  conv => lhs; rw [this]
  rw [List.flatMap_append]
theorem tot_mono {l : List PT} {i j : Nat} (h : i ≤ j) : tot l i ≤ tot l j := by
  obtain ⟨r, hr⟩ := cat_pre (l := l) h
  unfold tot; rw [hr, List.length_append]; omega
theorem list_mid {a b r : List Int} {m : Nat} (h : a.length + b.length ≤ m) : (((a ++ (b ++ r)).take m).drop a.length).take b.length = b := by
  rw [List.drop_take, List.drop_left, List.take_take, Nat.min_eq_left (by omega), List.take_left]
/-- what stands behind the first i parts, in what is cut at m -/
theorem cat_mid {l : List PT} {i j m : Nat} (hi : i < j) (hj : j ≤ l.length) (hz : ∀ p ∈ l, p.zs.length = p.n) (hm : tot l (i + 1) ≤ m) :
    (((cat l j).take m).drop (tot l i)).take (psz (l[i]?.getD PT0).kd (l[i]?.getD PT0).n) = pB (l[i]?.getD PT0) := by
  obtain ⟨r, hr⟩ := cat_pre (l := l) (i := i + 1) (j := j) (by omega)
  have h1 := tot_succ (l := l) (i := i) (by omega) hz
  have hl : (pB (l[i]?.getD PT0)).length = psz (l[i]?.getD PT0).kd (l[i]?.getD PT0).n := pB_len (by rw [List.getElem?_eq_getElem (by omega)]; exact hz _ (List.getElem_mem (by omega)))
  rw [hr, cat_succ (by omega), List.append_assoc, ← hl]
  exact list_mid (a := cat l i) (by unfold tot at h1 hm; omega)
theorem cat_bd {l : List PT} (h : ∀ p ∈ l, POK p) (i : Nat) : BD 255 (cat l i) := fun x hx => by
  obtain ⟨p, hp, hx⟩ := List.mem_flatMap.1 hx
  exact pB_bd (h p (List.mem_of_mem_take hp)) x hx

set_option maxHeartbeats 1000000 in
set_option maxRecDepth 100000 in
theorem psize_any (p : PT) (w : World) (hk : 0 ≤ p.kd ∧ p.kd ≤ 255) (hc : p.n ≤ 9223372036854775807) :
    Calls Try.prog 36 #[.agg (ptv p)] w fun e w' => e = .returned (.int .i64 (psz p.kd p.n : Int)) ∧ Below w.heap.size w w' := by
  obtain ⟨kd, N, A, n, c, zs⟩ := p
  simp only at hk hc ⊢
  unfold ptv
  simp only
  obtain ⟨mm, hm, hm', hmm⟩ : ∃ mm : Nat, min (n : Int) 40 = (mm : Int) ∧ (if (40 : Int) < (n : Int) then (40 : Int) else (n : Int)) = (mm : Int) ∧ mm = min n 40 := by
    refine ⟨min n 40, by omega, ?_, rfl⟩
    split <;> omega
  obtain ⟨r, hr, hr4⟩ : ∃ r : Nat, kd % 4 = (r : Int) ∧ r < 4 := ⟨(kd % 4).toNat, by omega, by omega⟩
  have er : kd.tmod 4 = (r : Int) := by rw [Int.tmod_eq_emod_of_nonneg hk.1]; exact hr
  have er2 : IntKind.u8.wrap (r : Int) = (r : Int) := u8_in _ (by omega) (by omega)
  have HP := Lib.hid (show (psz kd n : Int) = [(1 : Int), 2, 4, mm][r]?.getD 0 by
    unfold psz
    rcases (show r = 0 ∨ r = 1 ∨ r = 2 ∨ r = 3 by omega) with rfl | rfl | rfl | rfl
    · rw [if_pos (by omega)]; rfl
    · rw [if_neg (by omega), if_pos (by omega)]; rfl
    · rw [if_neg (by omega), if_neg (by omega), if_pos (by omega)]; rfl
    · rw [if_neg (by omega), if_neg (by omega), if_neg (by omega), hmm]; simp)
  rw [HP.out]
  have XB := Lib.hid (((SP.start w).alloc' 60 #[.int .u8 kd, .int .u32 N, .slice A n c] (N := w.heap.size) rfl).allocI' .i64 3 [1, 2, 4, (mm : Int)] (by simp [maxLen]) (N := w.heap.size + 1) (by simp))
  have t0 : (0 : Int) ≤ (r : Int) := by omega
  have t1 : (r : Int) < 4 := by omega
  clear hmm hr
  rcases (show r = 0 ∨ r = 1 ∨ r = 2 ∨ r = 3 by omega) with rfl | rfl | rfl | rfl <;>
  · go_enter Try.func36, Try.ntmps36
    go_wp2_with fail
    go_ret
    exact ⟨rfl, XB.out.bel⟩
end Go.Proofs.Ytcipgkpcaecjdaa
