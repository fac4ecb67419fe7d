/- package ip: word, long, put. -/
import Derived.Test.YtljbfnabnkkfeaaIpP
import Derived.Test.YtljbfnabnkkfeaaWBase
import Derived.Deep.QuietTactic
import Derived.BigQuiet
import Derived.Deep.RegionHeld3
import Derived.Outline
namespace Go.Proofs.Ytljbfnabnkkfeaa
open Go.RowKit
set_option linter.unusedVariables false

set_option maxHeartbeats 1000000 in
set_option maxRecDepth 100000 in
theorem word_any (A : Option Addr) (n c : Nat) (zs : List Int) (q : Int) (p : Nat) (w : World) (h : RD .u8 w w.heap.size A n zs) (hz : BD 255 zs) (hn : n ≤ 140737488355328) (hq : q = p) (hp : p + 2 ≤ n) :
    Calls Try.prog 46 #[.slice A n c, .int .i64 q] w fun e w' => e = .returned (.int .i64 (wordAt zs p)) ∧ ∃ m, w' = w.drewN m := by
  subst hq
  obtain ⟨b, off, rfl, hb, hc⟩ := h.2 (by omega)
  have x1 := hc p (by omega)
  have x2 := hc (p + 1) (by omega)
  obtain ⟨z1, z1'⟩ := hz.get (by omega) p
  obtain ⟨z2, z2'⟩ := hz.get (by omega) (p + 1)
  have hw : wordAt zs p = zs[p]?.getD 0 * 256 + zs[p + 1]?.getD 0 := rfl
  rw [hw]
  generalize zs[p]?.getD 0 = u at *
  generalize zs[p + 1]?.getD 0 = v at *
  clear hc hw
  have i1 : (0 : Int) ≤ (p : Int) := by omega
  have i2 : (p : Int) < (n : Int) := by omega
  have i3 : (0 : Int) ≤ (p : Int) + 1 := by omega
  have i4 : (p : Int) + 1 < (n : Int) := by omega
  have e1 : IntKind.i64.wrap ((p : Int) + 1) = (p : Int) + 1 := IntWalk.i64_in _ (by omega)
  have e1' : ((p : Int) + 1).toNat = p + 1 := by omega
  have e2 : IntKind.i64.wrap (u * 256) = u * 256 := IntWalk.i64_in _ (by omega)
  have e3 : IntKind.i64.wrap u = u := IntWalk.i64_in _ (by omega)
  have e4 : IntKind.i64.wrap v = v := IntWalk.i64_in _ (by omega)
  have e5 : bits .or .i64 (u * 256) v = u * 256 + v := i64_or_byte u v z1 z1' z2 z2'
  go_enter Try.func46, Try.ntmps46
  go_wp2_with fail
  go_quiet (fail)
  go_wp2_with fail
  go_ret
  exact ⟨rfl, _, rfl⟩

set_option maxHeartbeats 1000000 in
set_option maxRecDepth 100000 in
theorem long_any (A : Option Addr) (n c : Nat) (zs : List Int) (q : Int) (p : Nat) (w : World) (h : RD .u8 w w.heap.size A n zs) (hz : BD 255 zs) (hn : n ≤ 140737488355328) (hq : q = p) (hp : p + 4 ≤ n) :
    Calls Try.prog 74 #[.slice A n c, .int .i64 q] w fun e w' => e = .returned (.int .u32 (longAt zs p)) ∧ ∃ m, w' = w.drewN m := by
  subst hq
  obtain ⟨u1, u2⟩ := wordAt_bd hz p
  obtain ⟨v1, v2⟩ := wordAt_bd hz (p + 2)
  have e1 : IntKind.i64.wrap ((p : Int) + 2) = (p : Int) + 2 := IntWalk.i64_in _ (by omega)
  have e2 : IntKind.u32.wrap (wordAt zs p) = wordAt zs p := u32_in _ (by omega) (by omega)
  have e3 : IntKind.u32.wrap (wordAt zs (p + 2)) = wordAt zs (p + 2) := u32_in _ (by omega) (by omega)
  have e4 : IntKind.u32.wrap (wordAt zs p * 65536) = wordAt zs p * 65536 := u32_in _ (by omega) (by omega)
  have e5 : bits .or .u32 (wordAt zs p * 65536) (wordAt zs (p + 2)) = wordAt zs p * 65536 + wordAt zs (p + 2) := u32_or_word _ _ u1 u2 v1 v2
  go_enter Try.func74, Try.ntmps74
  go_wp2_with fail
  refine (word_any A n c zs _ p w h hz hn rfl (by omega)).mono ?_
  rintro e w1 ⟨rfl, m, rfl⟩
  go_wp2_with fail
  refine (word_any A n c zs _ (p + 2) _ (h.drewN m) hz hn (by omega) (by omega)).mono ?_
  rintro e w1 ⟨rfl, m2, rfl⟩
  go_wp2_with fail
  go_ret
  exact ⟨rfl, _, rfl⟩

/-- a number of s bytes, put at an index -/
def putB (zs : List Int) (p : Nat) : Nat → Int → List Int
  | 0, _ => zs
  | s + 1, x => putB (zs.set (p + s) (x % 256)) p s (x / 256)
theorem putB_len (p : Nat) : ∀ (s : Nat) (zs : List Int) (x : Int), (putB zs p s x).length = zs.length
  | 0, _, _ => rfl
  | s + 1, zs, x => by rw [putB, putB_len p s]; simp
theorem putB_bd {p : Nat} : ∀ (s : Nat) {zs : List Int} (x : Int), BD 255 zs → BD 255 (putB zs p s x)
  | 0, _, _, h => h
  | s + 1, zs, x, h => putB_bd s _ (fun y hy => by
    rcases List.mem_or_eq_of_mem_set hy with hy | rfl
    · exact h y hy
    · omega)

set_option maxHeartbeats 1000000 in
set_option maxRecDepth 100000 in
theorem put_any (g n c base : Nat) (zs : List Int) (p s : Nat) (q r x : Int) (w : World) (h : OWN .u8 5 w base (some ⟨g, 0, none⟩) n c zs) (hn : n ≤ 140737488355328) (hq : q = p) (hr : r = s) (hp : p + s ≤ n) (hx : 0 ≤ x) (hx' : x ≤ 4294967295) :
    Calls Try.prog 53 #[.slice (some ⟨g, 0, none⟩) n c, .int .i64 q, .int .i64 r, .int .u32 x] w fun e w' => e = .returned (.tuple #[]) ∧ OWN .u8 5 w' base (some ⟨g, 0, none⟩) n c (putB zs p s x) ∧ Below g w w' := by
  subst hq hr
  go_enter Try.func53, Try.ntmps53
  go_wp2_with fail
  go_loopw [3, 8] (fun vx i wr => ∃ (k : Nat) (v : Int) (ys : List Int), k ≤ s ∧ i = .int .i64 ((k : Int) - 1) ∧ vx = .int .u32 v ∧ 0 ≤ v ∧ v ≤ 4294967295 ∧ Hid (putB ys p k v = putB zs p s x) ∧ OWN .u8 5 wr base (some ⟨g, 0, none⟩) n c ys ∧ Below g w wr) (fun _ i _ => (intOf i + 1).toNat)
  case atStart => exact ⟨s, x, zs, Nat.le_refl _, rfl, rfl, hx, hx', Lib.hid rfl, h, Below.refl _ _⟩
  case round =>
    obtain ⟨k, v, ys, hk, rfl, rfl, v1, v2, HE, own, hb⟩ := hrel
    rcases Nat.eq_zero_or_pos k with h0 | h0
    · subst h0
      have t1 : ¬ (0 : Int) ≤ (((0 : Nat) : Int) - 1) := by omega
      have OH := Lib.hid own
      clear own h
      go_wp2_with fail
      go_end0
      exact ⟨rfl, by have := HE.out; rw [← this]; exact OH.out, hb⟩
    · obtain ⟨j, rfl⟩ : ∃ j, k = j + 1 := ⟨k - 1, by omega⟩
      have ej : ((j + 1 : Nat) : Int) - 1 = (j : Int) := by omega
      rw [ej]
      have i1 : (0 : Int) ≤ (j : Int) := by omega
      have x1 := own.cell (i := p + j) (by omega)
      have x2 := own.frozen (p + j)
      have e2 := u8_mod v
      clear h0 ej h
      go_wp2_with fail
      go_roundw
      case rel => exact ⟨j, v / 256, _, by omega, by go_num, rfl, by omega, by omega, HE, own.stored (p + j) (v % 256), hb.setCell (p := ⟨g, p + j, none⟩) (Nat.le_refl _) _⟩
      case measure => simp [intOf]
end Go.Proofs.Ytljbfnabnkkfeaa
