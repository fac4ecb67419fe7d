/- baffleref05.Right. (Printed by gen_r5right.py.) -/
import Derived.Test.YtljbfnabnkkfeaaWIp
namespace Go.Proofs.Ytljbfnabnkkfeaa
open Go.RowKit
set_option linter.unusedVariables false

set_option maxHeartbeats 4000000 in
set_option maxRecDepth 100000 in
theorem r5right_any (h : HD) (A : Option Addr) (n c : Nat) (q : Int) (w : World) (h64 : -9223372036854775808 ≤ h.off ∧ h.off ≤ 9223372036854775807) (hq : -9223372036854775808 ≤ q ∧ q ≤ 9223372036854775807) (hn : n ≤ 140737488355328) :
    Calls Try.prog 90 #[h.val (.slice A n c), .int .i64 q] w fun e w' => e = .returned (.bool (rightB h.off h.mf n q)) ∧ Below w.heap.size w w' := by
  obtain ⟨tos, id, df, mf, off, ttl, proto, src, dst⟩ := h
  dsimp only at h64 ⊢
  obtain ⟨o1, o2⟩ := h64
  obtain ⟨q1, q2⟩ := hq
  unfold HD.val HD.cells
  by_cases p0 : 0 ≤ off
  · by_cases p1 : off ≤ 65528
    · by_cases p2 : off % 8 = 0
      · have k2 : (off % 8 != 0) = false := by simp [p2]
        by_cases p3 : (n : Int) ≤ 40
        · by_cases p4 : n % 4 = 0
          · have k4 : ((n : Int) % 4 != 0) = false := by simp; omega
            by_cases p5 : 0 ≤ q
            · by_cases p6 : q ≤ 65515 - (n : Int)
              · by_cases p7 : q ≤ 65515 - off
                · have H := Lib.hid (And.intro p2 p4)
                  clear p2 p4
                  cases mf
                  · rw [rightB_yes (show Rightly off false n q from ⟨H.out.1, p0, p1, by omega, H.out.2, p5, by omega, by omega, fun hh => by cases hh⟩)]
                    go_enter Try.func90, Try.ntmps90
                    go_wp2_with fail
                    go_ret
                    exact ⟨rfl, (Below.refl _ _).alloc (Nat.le_refl _) _⟩
                  · by_cases r : 0 < q
                    · by_cases r2 : q % 8 = 0
                      · rw [rightB_yes (show Rightly off true n q from ⟨H.out.1, p0, p1, by omega, H.out.2, p5, by omega, by omega, fun _ => ⟨r, r2⟩⟩)]
                        have g : (q % 8 == 0) = true := by simp [r2]
                        clear r2
                        go_enter Try.func90, Try.ntmps90
                        go_wp2_with fail
                        go_ret
                        exact ⟨rfl, (Below.refl _ _).alloc (Nat.le_refl _) _⟩
                      · rw [rightB_no (show ¬ Rightly off true n q from fun hh => r2 (hh.2.2.2.2.2.2.2.2 rfl).2)]
                        have g : (q % 8 == 0) = false := by simp [r2]
                        clear r2
                        go_enter Try.func90, Try.ntmps90
                        go_wp2_with fail
                        go_ret
                        exact ⟨rfl, (Below.refl _ _).alloc (Nat.le_refl _) _⟩
                    · rw [rightB_no (show ¬ Rightly off true n q from fun hh => r (hh.2.2.2.2.2.2.2.2 rfl).1)]
                      have g : q ≤ 0 := by omega
                      go_enter Try.func90, Try.ntmps90
                      go_wp2_with fail
                      go_ret
                      exact ⟨rfl, (Below.refl _ _).alloc (Nat.le_refl _) _⟩
                · rw [rightB_no (show ¬ Rightly off mf n q from fun ⟨r1, r2, r3, r4, r5, r6, r7, r8, r9⟩ => p7 (by omega))]
                  have g : 65515 - off < q := by omega
                  clear p7 p2 p4
                  go_enter Try.func90, Try.ntmps90
                  go_wp2_with fail
                  go_ret
                  exact ⟨rfl, (Below.refl _ _).alloc (Nat.le_refl _) _⟩
              · rw [rightB_no (show ¬ Rightly off mf n q from fun ⟨r1, r2, r3, r4, r5, r6, r7, r8, r9⟩ => p6 (by omega))]
                have g : 65515 - (n : Int) < q := by omega
                clear p6 p2 p4
                go_enter Try.func90, Try.ntmps90
                go_wp2_with fail
                go_ret
                exact ⟨rfl, (Below.refl _ _).alloc (Nat.le_refl _) _⟩
            · rw [rightB_no (show ¬ Rightly off mf n q from fun ⟨r1, r2, r3, r4, r5, r6, r7, r8, r9⟩ => p5 (by omega))]
              have g : q < 0 := by omega
              clear p5 p2 p4
              go_enter Try.func90, Try.ntmps90
              go_wp2_with fail
              go_ret
              exact ⟨rfl, (Below.refl _ _).alloc (Nat.le_refl _) _⟩
          · rw [rightB_no (show ¬ Rightly off mf n q from fun ⟨r1, r2, r3, r4, r5, r6, r7, r8, r9⟩ => p4 (by omega))]
            have g : ((n : Int) % 4 != 0) = true := by simp; omega
            clear p4 p2
            go_enter Try.func90, Try.ntmps90
            go_wp2_with fail
            go_ret
            exact ⟨rfl, (Below.refl _ _).alloc (Nat.le_refl _) _⟩
        · rw [rightB_no (show ¬ Rightly off mf n q from fun ⟨r1, r2, r3, r4, r5, r6, r7, r8, r9⟩ => p3 (by omega))]
          have g : 40 < (n : Int) := by omega
          clear p3 p2
          go_enter Try.func90, Try.ntmps90
          go_wp2_with fail
          go_ret
          exact ⟨rfl, (Below.refl _ _).alloc (Nat.le_refl _) _⟩
      · rw [rightB_no (show ¬ Rightly off mf n q from fun ⟨r1, r2, r3, r4, r5, r6, r7, r8, r9⟩ => p2 (by omega))]
        have g : (off % 8 != 0) = true := by simp [p2]
        clear p2
        go_enter Try.func90, Try.ntmps90
        go_wp2_with fail
        go_ret
        exact ⟨rfl, (Below.refl _ _).alloc (Nat.le_refl _) _⟩
    · rw [rightB_no (show ¬ Rightly off mf n q from fun ⟨r1, r2, r3, r4, r5, r6, r7, r8, r9⟩ => p1 (by omega))]
      have g : 65528 < off := by omega
      clear p1
      go_enter Try.func90, Try.ntmps90
      go_wp2_with fail
      go_ret
      exact ⟨rfl, (Below.refl _ _).alloc (Nat.le_refl _) _⟩
  · rw [rightB_no (show ¬ Rightly off mf n q from fun ⟨r1, r2, r3, r4, r5, r6, r7, r8, r9⟩ => p0 (by omega))]
    have g : off < 0 := by omega
    clear p0
    go_enter Try.func90, Try.ntmps90
    go_wp2_with fail
    go_ret
    exact ⟨rfl, (Below.refl _ _).alloc (Nat.le_refl _) _⟩
end Go.Proofs.Ytljbfnabnkkfeaa
