import Derived.Test.YtcipgkpcaecjdaaWBuild
/- Plain: texts and bytes belong to one another. No program in sight. -/
namespace Go.Proofs.Ytcipgkpcaecjdaa
open Go.RowKit
set_option linter.unusedVariables false
set_option linter.unusedSimpArgs false

theorem dg_hx : ∀ q : Nat, q < 16 → dg ((hxN q).toNat : Int) = (q : Int) := by decide
theorem hx_dg : ∀ n : Nat, n < 256 → 0 ≤ dg (n : Int) → (hxN (dg (n : Int)).toNat).toNat = n := by decide +kernel
theorem SB_UB (s : ByteArray) : SB s = UB s.data.toList := rfl
theorem SB_mk (l : List UInt8) : SB ⟨l.toArray⟩ = UB l := by simp [SB, UB]
theorem SB_hex (zs : List Int) : SB (hexS zs) = UB (hexL zs) := by unfold hexS; exact SB_mk _
theorem hexS_size (zs : List Int) : (hexS zs).size = 2 * zs.length := by rw [← SB_len, SB_hex, UB_len, hexL_len]
theorem unL_hex : ∀ zs : List Int, BD 255 zs → unL (UB (hexL zs)) = some zs := by
  intro zs
  induction zs with
  | nil => intro _; rfl
  | cons z r ih =>
    intro h
    have hz := h z (by simp)
    obtain ⟨x, rfl⟩ := Int.eq_ofNat_of_zero_le hz.1
    have hq : x / 16 < 16 := by omega
    have hr : x % 16 < 16 := by omega
    have h1 := dg_hx (x / 16) hq
    have h2 := dg_hx (x % 16) hr
    have e : UB (hexL ((x : Int) :: r)) = ((hxN (x / 16)).toNat : Int) :: ((hxN (x % 16)).toNat : Int) :: UB (hexL r) := by
      simp only [hexL, List.flatMap_cons, hxB, UB, List.map_append, List.map_cons, List.map_nil, List.cons_append, List.nil_append, Int.toNat_natCast]
    rw [e]
    simp only [unL]
    rw [h1, h2, if_neg (by omega), ih (fun y hy => h y (by simp [hy]))]
    simp only [Option.map_some, Option.some.injEq, List.cons.injEq, and_true]
    omega
theorem hex_unL : ∀ (m : Nat) (l : List UInt8) (z : List Int), l.length ≤ m → unL (UB l) = some z → hexL z = l := by
  intro m
  induction m with
  | zero => intro l z hl h; match l, hl with | [], _ => simp [UB, unL] at h; subst h; rfl
  | succ m ih =>
    intro l z hl h
    match l with
    | [] => simp [UB, unL] at h; subst h; rfl
    | [_] => simp [UB, unL] at h
    | a :: b :: r =>
      simp only [UB, List.map_cons, unL] at h
      split at h
      · cases h
      · rename_i hd
        cases hr : unL (r.map fun b => (b.toNat : Int)) with
        | none => rw [hr] at h; cases h
        | some y =>
          rw [hr] at h; simp at h; subst h
          have h1 := ih r y (by simp at hl; omega) hr
          have ba := dg_bd ((a.toNat : Int))
          have bb := dg_bd ((b.toNat : Int))
          have ha := hx_dg a.toNat a.toNat_lt (by omega)
          have hb := hx_dg b.toNat b.toNat_lt (by omega)
          have hA : hxN (dg (a.toNat : Int)).toNat = a := UInt8.toNat_inj.1 ha
          have hB : hxN (dg (b.toNat : Int)).toNat = b := UInt8.toNat_inj.1 hb
          have q1 : (16 * dg (a.toNat : Int) + dg (b.toNat : Int)).toNat / 16 = (dg (a.toNat : Int)).toNat := by omega
          have q2 : (16 * dg (a.toNat : Int) + dg (b.toNat : Int)).toNat % 16 = (dg (b.toNat : Int)).toNat := by omega
          simp only [hexL, List.flatMap_cons, hxB, q1, q2, hA, hB] at h1 ⊢
          rw [h1]; rfl
theorem unh_hex {zs : List Int} (h : BD 255 zs) (hl : zs.length ≤ 131072) : UNH (hexS zs) = (zs, 0) := by
  unfold UNH
  rw [hexS_size, if_neg (by omega), SB_hex, unL_hex zs h]
/-- what a text gives, as text -/
theorem hex_unh {s : ByteArray} {z : List Int} (h : UNH s = (z, 0)) : hexS z = s ∧ z.length ≤ 131072 ∧ BD 255 z := by
  unfold UNH at h
  split at h
  · simp at h
  · rename_i hb
    cases hu : unL (SB s) with
    | none => rw [hu] at h; simp at h
    | some l =>
      rw [hu] at h
      simp only [Prod.mk.injEq, and_true] at h
      subst h
      have h1 := unL_len _ _ _ (Nat.le_refl _) hu
      rw [SB_len] at h1
      refine ⟨?_, by omega, unL_bd _ _ _ (Nat.le_refl _) hu⟩
      unfold hexS
      rw [hex_unL _ s.data.toList l (Nat.le_refl _) hu]
/-- the error of a text -/
theorem unh_err (s : ByteArray) : (UNH s).2 = 0 ∨ ((UNH s).1 = [] ∧ ((UNH s).2 = 10 ∨ ((UNH s).2 = 3 ∧ 262144 < s.size))) := by
  unfold UNH
  split
  · rename_i h; exact .inr ⟨rfl, .inr ⟨rfl, h⟩⟩
  · cases unL (SB s) with
    | none => exact .inr ⟨rfl, .inl rfl⟩
    | some l => exact .inl rfl
theorem unL_all : ∀ (m : Nat) (l z : List Int), l.length ≤ m → unL l = some z → ∀ x ∈ l, 0 ≤ dg x := by
  intro m
  induction m with
  | zero => intro l z hl h; match l, hl with | [], _ => intro x hx; cases hx
  | succ m ih =>
    intro l z hl h
    match l with
    | [] => intro x hx; cases hx
    | [_] => simp [unL] at h
    | a :: b :: r =>
      simp only [unL] at h
      split at h
      · cases h
      · rename_i hd
        cases hr : unL r with
        | none => rw [hr] at h; cases h
        | some y =>
          intro x hx
          rcases List.mem_cons.1 hx with rfl | hx
          · omega
          rcases List.mem_cons.1 hx with rfl | hx
          · omega
          exact ih r y (by simp at hl; omega) hr x hx
/-- a text with a byte that is no digit, or of odd length -/
theorem unh_bad {s : ByteArray} (hs : s.size ≤ 262144) (h : s.size % 2 = 1 ∨ ∃ x ∈ SB s, dg x < 0) : UNH s = ([], 10) := by
  unfold UNH
  rw [if_neg (by omega)]
  have : unL (SB s) = none := by
    rcases h with h | ⟨x, hx, hd⟩
    · exact unL_odd _ _ (Nat.le_refl _) (by rw [SB_len]; exact h)
    · cases hu : unL (SB s) with
      | none => rfl
      | some z => have := unL_all _ _ _ (Nat.le_refl _) hu x hx; omega
  rw [this]
end Go.Proofs.Ytcipgkpcaecjdaa
