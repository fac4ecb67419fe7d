/- package ip: right, word, long, put, header. -/
import Derived.Test.YtljbfnabnkkfeaaIpP
import Derived.Test.YtljbfnabnkkfeaaWBase
import Derived.Deep.QuietTactic
import Derived.BigQuiet
import Derived.Deep.RegionHeld3
import Derived.Outline
namespace Go.Proofs.Ytljbfnabnkkfeaa
open Go.RowKit
set_option linter.unusedVariables false

theorem tmod_ne {a : Int} (k : Int) (hk : 0 < k) : (a.tmod k != 0) = decide (a % k ≠ 0) := by
  rw [Bool.eq_iff_iff]
  simp
  constructor
  · intro h1 h2; exact h1 (Int.tmod_eq_zero_of_dvd (Int.dvd_of_emod_eq_zero h2))
  · intro h1 h2; exact h1 (Int.emod_eq_zero_of_dvd (Int.dvd_of_tmod_eq_zero h2))

set_option maxHeartbeats 1000000 in
set_option maxRecDepth 100000 in
theorem right_yes (h : HD) (A : Option Addr) (n c : Nat) (q : Int) (w : World) (hr : Rightly h.off h.mf n q) :
    Calls Try.prog 52 #[h.val (.slice A n c), .int .i64 q] w fun e w' => e = .returned (.bool true) ∧ Below w.heap.size w w' := by
  obtain ⟨tos, id, df, mf, off, ttl, proto, src, dst⟩ := h
  obtain ⟨h1, h2, h3, h4, h5, h6, h7, h8, h9⟩ := hr
  dsimp only at h1 h2 h3 h8 h9
  unfold HD.val HD.cells
  have t1 : (off % 8 != 0) = false := by simp [h1]
  have t2 : ((n : Int) % 4 != 0) = false := by simp; omega
  have t4 : ¬ (40 : Int) < (n : Int) := by omega
  have t5 : ¬ (65535 : Int) < 20 + (n : Int) + q := by omega
  have t6 : ¬ (65515 : Int) < off + q := by omega
  cases mf
  · clear h1 h9 h5
    go_enter Try.func52, Try.ntmps52
    go_wp2_with fail
    go_ret
    exact ⟨rfl, (Below.refl _ _).alloc (Nat.le_refl _) _⟩
  · obtain ⟨h9, h10⟩ := h9 rfl
    have t7 : (q % 8 == 0) = true := by simp [h10]
    clear h1 h10 h5
    go_enter Try.func52, Try.ntmps52
    go_wp2_with fail
    go_ret
    exact ⟨rfl, (Below.refl _ _).alloc (Nat.le_refl _) _⟩

set_option maxHeartbeats 4000000 in
set_option maxRecDepth 100000 in
theorem right_no (h : HD) (A : Option Addr) (n c : Nat) (q : Int) (w : World) (h64 : -9223372036854775808 ≤ h.off ∧ h.off ≤ 9223372036854775807) (hq : -9223372036854775808 ≤ q ∧ q ≤ 9223372036854775807) (hn : n ≤ 140737488355328) (hr : ¬ Rightly h.off h.mf n q) :
    Calls Try.prog 52 #[h.val (.slice A n c), .int .i64 q] w fun e w' => e = .returned (.bool false) ∧ Below w.heap.size w w' := by
  obtain ⟨tos, id, df, mf, off, ttl, proto, src, dst⟩ := h
  dsimp only at h64 hr
  obtain ⟨o1, o2⟩ := h64
  obtain ⟨q1, q2⟩ := hq
  unfold HD.val HD.cells
  have t0 := tmod_ne (a := off) 8 (by omega)
  by_cases h1 : off % 8 = 0
  · have t1 : (off.tmod 8 != 0) = false := by rw [t0]; simp [h1]
    by_cases h2 : 0 ≤ off
    · have t1' : (off % 8 != 0) = false := by simp [h1]
      by_cases h3 : off ≤ 65528
      · by_cases h4 : (n : Int) ≤ 40
        · by_cases h5 : n % 4 = 0
          · have t2 : ((n : Int) % 4 != 0) = false := by simp; omega
            by_cases h6 : 0 ≤ q
            · by_cases h6' : q ≤ 65515
              · by_cases h7 : 20 + (n : Int) + q ≤ 65535
                · by_cases h8 : off + q ≤ 65515
                  · cases mf
                    · exact absurd ⟨h1, h2, h3, by omega, h5, h6, h7, h8, fun hh => by cases hh⟩ hr
                    · by_cases h9 : 0 < q
                      · have h10 : ¬ q % 8 = 0 := fun e => hr ⟨h1, h2, h3, by omega, h5, h6, h7, h8, fun _ => ⟨h9, e⟩⟩
                        have t7 : (q % 8 == 0) = false := by simp [h10]
                        clear t0 h1 h5 h10 hr t1
                        go_enter Try.func52, Try.ntmps52
                        go_wp2_with fail
                        go_ret
                        exact ⟨rfl, (Below.refl _ _).alloc (Nat.le_refl _) _⟩
                      · have h9' : q ≤ 0 := by omega
                        clear t0 h1 h5 hr t1
                        go_enter Try.func52, Try.ntmps52
                        go_wp2_with fail
                        go_ret
                        exact ⟨rfl, (Below.refl _ _).alloc (Nat.le_refl _) _⟩
                  · have h8' : 65515 < off + q := by omega
                    clear t0 h1 h5 hr t1 h8
                    go_enter Try.func52, Try.ntmps52
                    go_wp2_with fail
                    go_ret
                    exact ⟨rfl, (Below.refl _ _).alloc (Nat.le_refl _) _⟩
                · have h7' : 65535 < 20 + (n : Int) + q := by omega
                  clear t0 h1 h5 hr t1 h7
                  go_enter Try.func52, Try.ntmps52
                  go_wp2_with fail
                  go_ret
                  exact ⟨rfl, (Below.refl _ _).alloc (Nat.le_refl _) _⟩
              · have h6'' : 65515 < q := by omega
                clear t0 h1 h5 hr t1 h6'
                go_enter Try.func52, Try.ntmps52
                go_wp2_with fail
                go_ret
                exact ⟨rfl, (Below.refl _ _).alloc (Nat.le_refl _) _⟩
            · have h6' : q < 0 := by omega
              clear t0 h1 h5 hr t1 h6
              go_enter Try.func52, Try.ntmps52
              go_wp2_with fail
              go_ret
              exact ⟨rfl, (Below.refl _ _).alloc (Nat.le_refl _) _⟩
          · have t2 : ((n : Int) % 4 != 0) = true := by simp; omega
            clear t0 h1 h5 hr t1
            go_enter Try.func52, Try.ntmps52
            go_wp2_with fail
            go_ret
            exact ⟨rfl, (Below.refl _ _).alloc (Nat.le_refl _) _⟩
        · have h4' : 40 < (n : Int) := by omega
          clear t0 h1 hr t1 h4
          go_enter Try.func52, Try.ntmps52
          go_wp2_with fail
          go_ret
          exact ⟨rfl, (Below.refl _ _).alloc (Nat.le_refl _) _⟩
      · have h3' : 65528 < off := by omega
        clear t0 h1 hr t1 h3
        go_enter Try.func52, Try.ntmps52
        go_wp2_with fail
        go_ret
        exact ⟨rfl, (Below.refl _ _).alloc (Nat.le_refl _) _⟩
    · have h2' : off < 0 := by omega
      clear t0 h1 hr h2
      go_enter Try.func52, Try.ntmps52
      go_wp2_with fail
      go_ret
      exact ⟨rfl, (Below.refl _ _).alloc (Nat.le_refl _) _⟩
  · have t1 : (off.tmod 8 != 0) = true := by rw [t0]; simp [h1]
    have t1' : (off % 8 != 0) = true := by simp [h1]
    clear t0 h1 hr
    go_enter Try.func52, Try.ntmps52
    go_wp2_with fail
    go_ret
    exact ⟨rfl, (Below.refl _ _).alloc (Nat.le_refl _) _⟩

theorem right_any5 (h : HD) (A : Option Addr) (n c : Nat) (q : Int) (w : World) (h64 : -9223372036854775808 ≤ h.off ∧ h.off ≤ 9223372036854775807) (hq : -9223372036854775808 ≤ q ∧ q ≤ 9223372036854775807) (hn : n ≤ 140737488355328) :
    Calls Try.prog 52 #[h.val (.slice A n c), .int .i64 q] w fun e w' => e = .returned (.bool (rightB h.off h.mf n q)) ∧ Below w.heap.size w w' := by
  by_cases hr : Rightly h.off h.mf n q
  · rw [rightB_yes hr]; exact right_yes h A n c q w hr
  · rw [rightB_no hr]; exact right_no h A n c q w h64 hq hn hr
end Go.Proofs.Ytljbfnabnkkfeaa
