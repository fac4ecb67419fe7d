import Derived.Test.YtcipgkpcaecjdaaWBags
import Derived.Test.YtcipgkpcaecjdaaWOwnZ
import Derived.Deep.DeepCutAuto
/- bafflekit.OverBytes, in the words of Sep. -/
namespace Go.Proofs.Ytcipgkpcaecjdaa
open Go.RowKit
set_option linter.unusedVariables false
set_option linter.unusedSimpArgs false

theorem own_cell_any {w : World} {base g n c k : Nat} {zs : List Int} (h : OWN .u8 5 w base (some ⟨g, 0, none⟩) n c zs) (hk : k < c) : ∃ v, w.cell? ⟨g, k, none⟩ = some v := by
  obtain ⟨cur, h1, h2, h3, h4, h5, h6⟩ := h.block
  refine ⟨cur[k]'(by omega), ?_⟩
  rw [cell_of_row w g k cur 5 (0, 0) h1]
  simp [h2, hk]

set_option maxHeartbeats 1000000 in
set_option maxRecDepth 100000 in
theorem over1_any {w0 w : World} {L : List IT} {j n c m : Nat} {A : Option Addr} {zs : List Int} (H : SP w0 w L) (hj : L[j]? = some (.own .u8 5 A n c zs)) (hm : m ≤ n) (hmm : m ≤ 140737488351232) :
    Calls Try.prog 49 #[.slice A m c] w fun e w' => e = .returned (.tuple #[]) ∧ ∃ ys, SP w0 w' (L.set j (.own .u8 5 A n c ys)) := by
  have hle := (H.own j hj).le
  have hlm := hle.2
  unfold maxLen at hlm
  obtain ⟨K, hK, hK2, hKc, hKm⟩ : ∃ K : Nat, min (c : Int) ((m : Int) + 12) = (K : Int) ∧ (if (m : Int) + 12 < (c : Int) then (m : Int) + 12 else (c : Int)) = (K : Int) ∧ K ≤ c ∧ K ≤ m + 12 := ⟨min c (m + 12), by omega, by split <;> omega, by omega, by omega⟩
  have e1 : IntKind.i64.wrap ((m : Int) + 12) = (m : Int) + 12 := IntWalk.i64_in _ (by omega)
  have u1 : (0 : Int) ≤ (K : Int) := by omega
  have u2 : (K : Int) ≤ (c : Int) := by omega
  have HH := Lib.hid (show SP w0 w (L.set j (.own .u8 5 A n c zs)) by
    have : L.set j (.own .u8 5 A n c zs) = L := by
      apply List.ext_getElem?
      intro k
      by_cases hk : j = k
      · subst hk
        rw [List.getElem?_set_self (List.getElem?_eq_some_iff.1 hj).1, hj]
      · rw [List.getElem?_set_ne hk]
    rw [this]
    exact H)
  have HJ := Lib.hid (fun ys => (show (L.set j (.own .u8 5 A n c ys))[j]? = some (.own .u8 5 A n c ys) from List.getElem?_set_self (List.getElem?_eq_some_iff.1 hj).1))
  have HA := Lib.hid (H.own j hj).cases
  clear H hj
  go_enter Try.func49, Try.ntmps49
  go_upto_region 2 with fail
  clear e1 u1 hK hK2
  go_loopw [3] (fun s3 wr => ∃ (k : Nat) (ys : List Int), k ≤ K ∧ s3 = .int .i64 (k : Int) ∧ SP w0 wr (L.set j (.own .u8 5 A n c ys))) (fun s3 _ => K - (intOf s3).toNat)
  case atStart => exact ⟨0, zs, by omega, rfl, HH.out⟩
  case round =>
    obtain ⟨k, ys, hk, rfl, X0⟩ := hrel
    obtain ⟨wo, rfl⟩ : ∃ wo : World, wo = wr := ⟨_, rfl⟩
    have X := Lib.hid X0
    clear X0 HH
    by_cases hlt : k < K
    case neg =>
      have t1 : ¬ (k : Int) < (K : Int) := by omega
      go_wp2_with fail
      go_end0
      exact ⟨rfl, ys, X.out⟩
    have t1 : (k : Int) < (K : Int) := by omega
    have t0 : (0 : Int) ≤ (k : Int) := by omega
    obtain ⟨g, rfl⟩ : ∃ g, A = some ⟨g, 0, none⟩ := by
      rcases HA.out with ⟨_, _, h0, _⟩ | ⟨g, h, _⟩
      · omega
      · exact ⟨g, h⟩
    obtain ⟨v, x1⟩ := own_cell_any (X.out.own j (HJ.out ys)) (k := k) (by omega)
    have d1 : wo.frozen? ⟨g, k, none⟩ = false := (X.out.own j (HJ.out ys)).frozen k
    have X2 := Lib.hid (show SP w0 (wo.setCell ⟨g, k, none⟩ (.int .u8 (mk8 2 (k : Int)))) (L.set j (.own .u8 5 (some ⟨g, 0, none⟩) n c (ys.set k (mk8 2 (k : Int))))) by
      have h1 := X.out.setO j (HJ.out ys) k (mk8 2 (k : Int))
      rw [List.set_set] at h1
      exact h1)
    go_wp2_with (first | (go_at_call 70; refine (markByte_any _ _ _ (by omega) (by omega) (by omega) (by omega)).mono ?_; rintro e wo ⟨rfl, rfl⟩))
    go_roundw
    case rel => exact ⟨k + 1, _, by omega, by go_num, X2.out⟩
    case measure => simp [intOf]; omega
end Go.Proofs.Ytcipgkpcaecjdaa
