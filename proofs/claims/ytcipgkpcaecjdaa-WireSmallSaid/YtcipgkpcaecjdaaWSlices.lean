/- Functions of package slices at bytes: Equal, IndexFunc and ContainsFunc at 'not 0', Grow of nil, Concat. -/
import Derived.Test.YtcipgkpcaecjdaaWBase
import Derived.RangeFuncBound
import Derived.Deep.DeepCutAuto
namespace Go.Proofs.Ytcipgkpcaecjdaa
open Go.RowKit
set_option linter.unusedVariables false

set_option maxHeartbeats 1000000 in
theorem equal_any (A1 A2 : Option Addr) (n1 c1 n2 c2 : Nat) (xs ys : List Int) (w : World) (h1 : RD .u8 w w.heap.size A1 n1 xs) (h2 : RD .u8 w w.heap.size A2 n2 ys) (hn1 : n1 ≤ 140737488355328) (hn2 : n2 ≤ 140737488355328) :
    Calls Try.prog 33 #[.slice A1 n1 c1, .slice A2 n2 c2] w fun e w' => e = .returned (.bool (xs == ys)) ∧ ∃ m, w' = w.drewN m := by
  have hl1 := Lib.hid h1.1
  have hl2 := Lib.hid h2.1
  by_cases hn : n1 = n2
  · subst hn
    have ht : ((n1 : Int) != (n1 : Int)) = false := by simp
    go_enter Try.func33, Try.ntmps33
    go_wp2
    go_loopw [13] (fun i wr => ∃ k : Nat, k ≤ n1 ∧ i = .int .i64 k ∧ xs.take k = ys.take k ∧ ∃ m, wr = w.drewN m) (fun i _ => n1 - (intOf i).toNat)
    case atStart => exact ⟨0, Nat.zero_le _, rfl, rfl, 0, rfl⟩
    case round =>
      obtain ⟨k, hk, rfl, heq, m, rfl⟩ := hrel
      by_cases hlt : k < n1
      · obtain ⟨b1, o1, rfl, hb1, hc1⟩ := h1.2 (by omega)
        obtain ⟨b2, o2, rfl, hb2, hc2⟩ := h2.2 (by omega)
        have x1 := hc1 k hlt
        have x2 := hc2 k hlt
        have HE := Lib.hid heq
        clear heq hc1 hc2
        have i1 : (0 : Int) ≤ (k : Int) := by omega
        have i2 : (k : Int) < (n1 : Int) := by omega
        go_wp2_with fail
        go_quiet (fail)
        by_cases he : xs[k]?.getD 0 = ys[k]?.getD 0
        · have he' : (xs[k]?.getD 0 != ys[k]?.getD 0) = false := by simp [he]
          have HE2 := Lib.hid (take_succ_eq xs ys k (by rw [hl1.out]; exact hlt) (by rw [hl2.out]; exact hlt) HE.out he)
          clear he
          go_wp2_with fail
          go_roundw
          case rel => exact ⟨k + 1, by omega, by go_num, HE2.out, _, rfl⟩
          case measure => simp [intOf]; omega
        · have he' : (xs[k]?.getD 0 != ys[k]?.getD 0) = true := by simp [he]
          have HF := Lib.hid (ne_of_getD xs ys k he)
          clear he
          go_wp2_with fail
          go_ret
          exact ⟨by rw [HF.out]; rfl, _, World.drewN_drewN _ _ _⟩
      · have HF := Lib.hid (show (xs == ys) = true by
          rw [List.take_of_length_le (by rw [hl1.out]; omega), List.take_of_length_le (by rw [hl2.out]; omega)] at heq
          rw [heq]; simp)
        clear heq
        go_wp2
        go_ret
        exact ⟨by rw [HF.out]; rfl, _, rfl⟩
  · have ht : ((n1 : Int) != (n2 : Int)) = true := by simp; omega
    have HF := Lib.hid (show (xs == ys) = false by
      rw [beq_eq_false_iff_ne]
      intro h
      apply hn
      rw [← hl1.out, ← hl2.out, h])
    go_enter Try.func33, Try.ntmps33
    go_wp2
    go_ret
    exact ⟨by rw [HF.out]; rfl, 0, rfl⟩

theorem someNZ_step (zs : List Int) (k : Nat) (hk : k < zs.length) (h : someNZ (zs.take k) = false) (hz : zs[k]?.getD 0 = 0) : someNZ (zs.take (k + 1)) = false := by
  rw [List.take_succ_eq_append_getElem hk]
  simp [hk] at hz
  simp only [someNZ, List.any_append, List.any_cons, List.any_nil] at h ⊢
  simp [h, hz]
theorem someNZ_here (zs : List Int) (k : Nat) (hk : k < zs.length) (hz : ¬ zs[k]?.getD 0 = 0) : someNZ zs = true := by
  simp only [someNZ, List.any_eq_true]
  simp [hk] at hz
  exact ⟨zs[k], List.getElem_mem hk, by simp [hz]⟩



/-- a slice of bytes, and what it reads as -/
structure SL where
  A : Option Addr
  n : Nat
  c : Nat
  zs : List Int
def SL.val (s : SL) : Value := .slice s.A s.n s.c
def SL.rd (w : World) (B : Nat) (s : SL) : Prop := RD .u8 w B s.A s.n s.zs
def SL.len : List SL → Nat
  | [] => 0
  | s :: l => s.n + SL.len l
def SL.all : List SL → List Int
  | [] => []
  | s :: l => s.zs ++ SL.all l
theorem SL.len_append (l m : List SL) : SL.len (l ++ m) = SL.len l + SL.len m := by
  induction l with
  | nil => simp [SL.len]
  | cons s l ih => simp [SL.len, ih]; omega
theorem SL.all_append (l m : List SL) : SL.all (l ++ m) = SL.all l ++ SL.all m := by
  induction l with
  | nil => simp [SL.all]
  | cons s l ih => simp [SL.all, ih]
theorem SL.len_take_le (l : List SL) (k : Nat) : SL.len (l.take k) ≤ SL.len l := by
  have : SL.len l = SL.len (l.take k) + SL.len (l.drop k) := by rw [← SL.len_append, List.take_append_drop]
  omega
theorem SL.len_succ (l : List SL) (k : Nat) (hk : k < l.length) : SL.len (l.take (k + 1)) = SL.len (l.take k) + l[k].n := by
  rw [List.take_succ_eq_append_getElem hk, SL.len_append]; simp [SL.len]
theorem SL.all_succ (l : List SL) (k : Nat) (hk : k < l.length) : SL.all (l.take (k + 1)) = SL.all (l.take k) ++ l[k].zs := by
  rw [List.take_succ_eq_append_getElem hk, SL.all_append]; simp [SL.all]
theorem SL.all_len {w : World} {B : Nat} : ∀ (l : List SL), (∀ s ∈ l, s.rd w B) → (SL.all l).length = SL.len l
  | [], _ => rfl
  | s :: l, h => by
    have h1 : s.zs.length = s.n := (h s (by simp)).1
    simp [SL.all, SL.len, h1, SL.all_len l (fun x hx => h x (by simp [hx]))]

/-- the slice '.slice A n _' holds the values vs; its cells lie below block B -/
def RV (w : World) (B : Nat) (A : Option Addr) (n : Nat) (vs : List Value) : Prop :=
  vs.length = n ∧ (0 < n → ∃ b off, A = some ⟨b, off, none⟩ ∧ b < B ∧ ∀ i (hi : i < vs.length), w.cell? ⟨b, off + i, none⟩ = some vs[i])
theorem RV.keep {w w' : World} {B : Nat} {A : Option Addr} {n : Nat} {vs : List Value} (h : RV w B A n vs) (hk : ∀ p : Addr, p.block < B → w'.cell? p = w.cell? p) : RV w' B A n vs :=
  ⟨h.1, fun hn => by
    obtain ⟨b, off, e, hb, hc⟩ := h.2 hn
    exact ⟨b, off, e, hb, fun i hi => (hk _ hb).trans (hc i hi)⟩⟩
theorem RV.below {w w' : World} {B : Nat} {A : Option Addr} {n : Nat} {vs : List Value} (h : RV w B A n vs) (hb : Below B w w') : RV w' B A n vs := h.keep fun _ hp => hb.cell hp
theorem RV.new (w : World) (t : TypeId) (vs : List Value) : RV (w.alloc (.cells vs.toArray t)) (w.alloc (.cells vs.toArray t)).heap.size (some ⟨w.heap.size, 0, none⟩) vs.length vs :=
  ⟨rfl, fun _ => ⟨w.heap.size, 0, rfl, by simp, fun i hi => by rw [World.cell?_alloc_new]; simp [hi]⟩⟩

theorem RV.new' (w : World) (t : TypeId) (vs : List Value) {g B n : Nat} (hg : w.heap.size = g) (hB : g < B) (hn : vs.length = n) : RV (w.alloc (.cells vs.toArray t)) B (some ⟨g, 0, none⟩) n vs := by
  subst hg
  exact ⟨hn, fun _ => ⟨w.heap.size, 0, rfl, hB, fun i hi => by rw [World.cell?_alloc_new]; simp [hi]⟩⟩

end Go.Proofs.Ytcipgkpcaecjdaa
