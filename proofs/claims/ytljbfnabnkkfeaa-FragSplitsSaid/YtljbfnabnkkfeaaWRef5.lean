/- baffleref05: number, bytes, Right. -/
import Derived.Test.YtljbfnabnkkfeaaWIp2
import Derived.Test.YtljbfnabnkkfeaaWIp
import Derived.Test.YtljbfnabnkkfeaaWCopy
namespace Go.Proofs.Ytljbfnabnkkfeaa
open Go.RowKit
set_option linter.unusedVariables false

/-- a number of some bytes -/
def numB (zs : List Int) : Int := zs.foldl (fun a x => 256 * a + x) 0
theorem numB_snoc (zs : List Int) (x : Int) : numB (zs ++ [x]) = 256 * numB zs + x := by simp [numB]
theorem numB_bd : ∀ (k : Nat) (zs : List Int), BD 255 zs → zs.length ≤ k → k ≤ 4 → 0 ≤ numB zs ∧ numB zs ≤ 256 ^ zs.length - 1 := by
  intro k zs h hl hk
  match zs, hl with
  | [], _ => simp [numB]
  | [a], _ => have := h a (by simp); simp [numB]; omega
  | [a, b], _ => have := h a (by simp); have := h b (by simp); simp [numB]; omega
  | [a, b, c], _ => have := h a (by simp); have := h b (by simp); have := h c (by simp); simp [numB]; omega
  | [a, b, c, d], _ => have := h a (by simp); have := h b (by simp); have := h c (by simp); have := h d (by simp); simp [numB]; omega
  | a :: b :: c :: d :: e :: l, hl => simp at hl; omega
theorem numB_le {zs : List Int} (h : BD 255 zs) (hl : zs.length ≤ 4) : 0 ≤ numB zs ∧ numB zs ≤ 4294967295 := by
  have := numB_bd 4 zs h hl (Nat.le_refl _)
  have hp : (256 : Int) ^ zs.length ≤ 4294967296 := by
    rcases (show zs.length = 0 ∨ zs.length = 1 ∨ zs.length = 2 ∨ zs.length = 3 ∨ zs.length = 4 by omega) with e | e | e | e | e <;> rw [e] <;> decide
  omega

set_option maxHeartbeats 400000 in
theorem r5number_any (A : Option Addr) (n c : Nat) (zs : List Int) (w : World) (h : RD .u8 w w.heap.size A n zs) (hz : BD 255 zs) (hn : n ≤ 4) :
    Calls Try.prog 88 #[.slice A n c] w fun e w' => e = .returned (.int .i64 (numB zs)) ∧ w = w' := by
  have HL := Lib.hid h.1
  go_enter Try.func88, Try.ntmps88
  go_wp2_with fail
  go_loop [3, 4] (fun s i => ∃ k : Nat, k ≤ n ∧ i = .int .i64 k ∧ s = .int .i64 (numB (zs.take k))) (fun _ i => n - (intOf i).toNat)
  case atStart => exact ⟨0, Nat.zero_le _, rfl, rfl⟩
  case round =>
    obtain ⟨k, hk, rfl, rfl⟩ := hrel
    by_cases hlt : k < n
    · obtain ⟨b, off, rfl, hB, hc⟩ := h.2 (by omega)
      have hcell := hc k hlt
      obtain ⟨z1, z2⟩ := hz.get (by omega) k
      obtain ⟨u1, u2⟩ := numB_le (hz.take k) (by simp; omega)
      have hs : numB (zs.take (k + 1)) = 256 * numB (zs.take k) + zs[k]?.getD 0 := by
        rw [List.take_succ_eq_append_getElem (by rw [HL.out]; exact hlt), numB_snoc]
        simp [HL.out, hlt]
      have HS := Lib.hid hs
      clear hs hc
      go_wp2_with fail
      go_round
      case rel => exact ⟨k + 1, by omega, by go_num, by rw [HS.out]⟩
      case measure => simp [intOf]; omega
    · have HT := Lib.hid (show zs.take k = zs from List.take_of_length_le (by rw [HL.out]; omega))
      go_wp2_with fail
      go_ret
      exact ⟨by rw [HT.out]; rfl, rfl⟩

theorem numB_word {zs : List Int} (p : Nat) (h : p + 2 ≤ zs.length) : numB ((zs.drop p).take 2) = wordAt zs p := by
  have e : (zs.drop p).take 2 = [zs[p], zs[p + 1]] := by
    rw [List.drop_eq_getElem_cons (by omega), List.drop_eq_getElem_cons (by omega)]; rfl
  have e1 : zs[p]? = some zs[p] := List.getElem?_eq_getElem (by omega)
  have e2 : zs[p + 1]? = some zs[p + 1] := List.getElem?_eq_getElem (by omega)
  rw [e]
  simp [numB, wordAt, e1, e2]
  omega
theorem numB_long {zs : List Int} (p : Nat) (h : p + 4 ≤ zs.length) : numB ((zs.drop p).take 4) = longAt zs p := by
  have e : (zs.drop p).take 4 = [zs[p], zs[p + 1], zs[p + 2], zs[p + 3]] := by
    rw [List.drop_eq_getElem_cons (by omega), List.drop_eq_getElem_cons (by omega), List.drop_eq_getElem_cons (by omega), List.drop_eq_getElem_cons (by omega)]; rfl
  have e1 : zs[p]? = some zs[p] := List.getElem?_eq_getElem (by omega)
  have e2 : zs[p + 1]? = some zs[p + 1] := List.getElem?_eq_getElem (by omega)
  have e3 : zs[p + 2]? = some zs[p + 2] := List.getElem?_eq_getElem (by omega)
  have e4 : zs[p + 2 + 1]? = some zs[p + 3] := List.getElem?_eq_getElem (by omega)
  rw [e]
  simp [numB, longAt, wordAt, e1, e2, e3, e4]
  omega

set_option maxHeartbeats 1000000 in
set_option maxRecDepth 100000 in
theorem r5bytes_any (s : Nat) (q x : Int) (w : World) (hs : s ≤ 4) (hq : q = s) (hx : 0 ≤ x) (hx' : x ≤ 4294967295) :
    Calls Try.prog 91 #[.int .i64 x, .int .i64 q] w (Fresh w (putB (List.replicate s 0) 0 s x)) := by
  subst hq
  obtain ⟨i0, hi, hz0, hz1, hz2⟩ := info_parts infoU8
  obtain ⟨w2, hrun, own2, hb2, hs2⟩ := run_make_cap (P := Try.prog) (k := .u8) w 23 i0 Try.underlying23 hi hz0 hz1 (by omega) (s : Int) (s : Int) s s rfl rfl (Nat.le_refl _) (by omega)
  go_enter Try.func91, Try.ntmps91
  go_wp2_with fail
  clear hrun
  go_loopw [0, 6] (fun vx i wr => ∃ (k : Nat) (v : Int) (ys : List Int), k ≤ s ∧ i = .int .i64 ((k : Int) - 1) ∧ vx = .int .i64 v ∧ 0 ≤ v ∧ v ≤ 4294967295 ∧ Hid (putB ys 0 k v = putB (List.replicate s 0) 0 s x) ∧ OWN .u8 5 wr w.heap.size (some ⟨w.heap.size, 0, none⟩) s s ys ∧ Below w.heap.size w wr) (fun _ i _ => (intOf i + 1).toNat)
  case atStart => exact ⟨s, x, _, Nat.le_refl _, rfl, rfl, hx, hx', Lib.hid rfl, own2, hb2⟩
  case round =>
    obtain ⟨k, v, ys, hk, rfl, rfl, v1, v2, HE, own, hb⟩ := hrel
    clear own2 hb2 hs2
    rcases Nat.eq_zero_or_pos k with h0 | h0
    · subst h0
      have t1 : ¬ (0 : Int) ≤ (((0 : Nat) : Int) - 1) := by omega
      have OH := Lib.hid own
      clear own
      go_wp2_with fail
      go_ret
      exact ⟨_, s, s, rfl, by have := HE.out; rw [← this]; exact OH.out, hb⟩
    · obtain ⟨j, rfl⟩ : ∃ j, k = j + 1 := ⟨k - 1, by omega⟩
      have ej : ((j + 1 : Nat) : Int) - 1 = (j : Int) := by omega
      rw [ej]
      have i1 : (0 : Int) ≤ (j : Int) := by omega
      have i2 : (j : Int) < (s : Int) := by omega
      have x1 := own.cell (i := j) (by omega)
      have x2 := own.frozen j
      have e2 : IntKind.u8.wrap (v % 256) = v % 256 := u8_in _ (by omega) (by omega)
      clear h0 ej
      have HE' : Hid (putB (ys.set (0 + j) (v % 256)) 0 j (v / 256) = putB (List.replicate s 0) 0 s x) := HE
      rw [Nat.zero_add] at HE'
      clear HE
      go_wp2_with fail
      go_roundw
      case rel => exact ⟨j, v / 256, _, by omega, by go_num, rfl, by omega, by omega, HE', own.stored j (v % 256), hb.setCell (p := ⟨w.heap.size, j, none⟩) (Nat.le_refl _) _⟩
      case measure => simp [intOf]
end Go.Proofs.Ytljbfnabnkkfeaa
