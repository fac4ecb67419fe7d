import Derived.Test.YtcipgkpcaecjdaaWBuild
import Derived.Test.YtcipgkpcaecjdaaWBags
/- wire.Hex: what it returns. -/
namespace Go.Proofs.Ytcipgkpcaecjdaa
open Go.RowKit
set_option linter.unusedVariables false

theorem and15 : ∀ n : Nat, n < 256 → bits .and .u8 (n : Int) 15 = ((n % 16 : Nat) : Int) := by decide +kernel
theorem hxidx (k : Nat) (hk : k < 16) (W : World) : (Instr.index 9 (.string ⟨#[48, 49, 50, 51, 52, 53, 54, 55, 56, 57, 97, 98, 99, 100, 101, 102]⟩) (.int .u8 (k : Int))).run Try.prog W = .ok (.int .u8 ((hxN k).toNat : Int)) W := by
  rcases (show k = 0 ∨ k = 1 ∨ k = 2 ∨ k = 3 ∨ k = 4 ∨ k = 5 ∨ k = 6 ∨ k = 7 ∨ k = 8 ∨ k = 9 ∨ k = 10 ∨ k = 11 ∨ k = 12 ∨ k = 13 ∨ k = 14 ∨ k = 15 by omega) with rfl | rfl | rfl | rfl | rfl | rfl | rfl | rfl | rfl | rfl | rfl | rfl | rfl | rfl | rfl | rfl <;> kernel_rfl
/-- the text, and the error, of bytes -/
def HEXs (zs : List Int) : ByteArray := if 131072 < zs.length then ⟨#[]⟩ else hexS zs
def HEXe (zs : List Int) : Int := if 131072 < zs.length then 3 else 0

set_option maxHeartbeats 2000000 in
set_option maxRecDepth 100000 in
theorem hex_any (A : Option Addr) (n c : Nat) (zs : List Int) (w : World) (h : RD .u8 w w.heap.size A n zs) (hz : BD 255 zs) (hn : n ≤ c) (hc : n ≤ 9223372036854775807) :
    Calls Try.prog 14 #[.slice A n c] w fun e w' => e = .returned (.tuple #[.string (HEXs zs), .int .i64 (HEXe zs)]) ∧ Below w.heap.size w w' := by
  have hl := h.len
  by_cases hbig : 131072 < n
  · have t1 : (131072 : Int) < (n : Int) := by omega
    have HE := Lib.hid (show HEXs zs = ⟨#[]⟩ ∧ HEXe zs = 3 from ⟨by unfold HEXs; rw [if_pos (by omega)], by unfold HEXe; rw [if_pos (by omega)]⟩)
    rw [HE.out.1, HE.out.2]
    clear hbig h hz hl
    go_enter Try.func14, Try.ntmps14
    go_wp2_with fail
    go_ret2
    exact ⟨rfl, Below.refl _ w⟩
  have t1 : ¬ (131072 : Int) < (n : Int) := by omega
  have HE := Lib.hid (show HEXs zs = hexS zs ∧ HEXe zs = 0 from ⟨by unfold HEXs; rw [if_neg (by omega)], by unfold HEXe; rw [if_neg (by omega)]⟩)
  rw [HE.out.1, HE.out.2]
  clear HE
  have R := Lib.hid (fun (W : World) (hb : Below w.heap.size w W) => (show RD .u8 W W.heap.size A n zs from (h.below hb).more hb.size))
  have X0 := Lib.hid (((SP.start w).alloc' 80 #[.pointer none, .slice none 0 0] (N := w.heap.size) rfl).pushOwn (k := .u8) (e := 5) (Below.refl _ _) OWN.nil)
  have HL := Lib.hid hl
  obtain ⟨b, hb⟩ : ∃ b, b = w.heap.size := ⟨_, rfl⟩
  rw [← hb] at X0
  clear h hl
  go_enter Try.func14, Try.ntmps14
  go_upto_region 5 with fail
  rw [← hb]
  generalize w.alloc (.cells #[.pointer none, .slice none 0 0] 80) = w1 at X0 ⊢
  replace X0 := Lib.hid (show SP w w1 [.blk b 80 #[.pointer none, .slice none 0 0], .own .u8 5 none 0 0 []] from X0.out)
  clear hb
  go_loopw [12] (fun s12 wr => ∃ (k : Nat) (p : Value) (A1 : Option Addr) (c1 : Nat), k ≤ n ∧ s12 = .int .i64 (k : Int) ∧ (p = .pointer none ∨ p = .pointer (some ⟨b, 0, none⟩)) ∧ SP w wr [.blk b 80 #[p, .slice A1 (2 * k) c1], .own .u8 5 A1 (2 * k) c1 (UB (hexL (zs.take k)))]) (fun s12 _ => n - (intOf s12).toNat)
  case atStart => exact ⟨0, _, none, 0, by omega, rfl, .inl rfl, X0.out⟩
  case round =>
    obtain ⟨k, p, A1, c1, hk, rfl, hp, Y0⟩ := hrel
    obtain ⟨wo, rfl⟩ : ∃ wo : World, wo = wr := ⟨_, rfl⟩
    have Y := Lib.hid Y0
    clear Y0 X0
    by_cases hlt : k < n
    case neg =>
      have t2 : ¬ (k : Int) < (n : Int) := by omega
      obtain rfl : k = n := by omega
      have HT := Lib.hid (show zs.take k = zs from List.take_of_length_le (by rw [HL.out]; omega))
      rw [HT.out] at Y
      go_wp2_with fail
      refine (bstring_any w _ b p hp A1 (2 * k) c1 _ Y.out).mono ?_
      rintro e w2 ⟨rfl, hb2⟩
      go_wp2_with fail
      go_ret2
      exact ⟨rfl, hb2⟩
    have t2 : (k : Int) < (n : Int) := by omega
    have t3 : (0 : Int) ≤ (k : Int) := by omega
    obtain ⟨a, off, rfl, _, hcell⟩ := (R.out _ Y.out.bel).2 (by omega)
    have x1 := hcell k hlt
    obtain ⟨z1, z2⟩ := hz.get (by omega) k
    have HK := Lib.hid (hexL_take_succ (zs := zs) (k := k) (by rw [HL.out]; omega))
    obtain ⟨x, hx⟩ : ∃ x : Nat, zs[k]?.getD 0 = (x : Int) := ⟨(zs[k]?.getD 0).toNat, by omega⟩
    rw [hx] at x1 z2 HK
    have hx255 : x ≤ 255 := by omega
    obtain ⟨q, hq⟩ : ∃ q : Nat, x / 16 = q := ⟨_, rfl⟩
    obtain ⟨r, hr⟩ : ∃ r : Nat, x % 16 = r := ⟨_, rfl⟩
    have e1 : (x : Int) / 16 = (q : Int) := by omega
    have e2 : bits .and .u8 (x : Int) 15 = (r : Int) := by rw [and15 x (by omega), hr]
    have i1 := hxidx q (by omega)
    have i2 := hxidx r (by omega)
    have HB := Lib.hid (show hxB (x : Int) = [hxN q] ++ [hxN r] by unfold hxB; rw [show ((x : Int)).toNat = x by omega, hq, hr]; rfl)
    rw [HB.out] at HK
    clear hcell hx z1 z2 hq hr
    go_wp2_with fail
    refine (wbyte_any w _ b p hp A1 (2 * k) c1 _ ((hxN q).toNat : Int) (by omega) Y.out).mono ?_
    rintro e w2 ⟨rfl, A2, c2, hX2⟩
    have X2 := Lib.hid hX2
    clear hX2 Y hp
    go_wp2_with fail
    refine (wbyte_any w _ b _ (.inr rfl) A2 (2 * k + 1) c2 _ ((hxN r).toNat : Int) (by omega) X2.out).mono ?_
    rintro e w3 ⟨rfl, A3, c3, hX3⟩
    have X3 := Lib.hid hX3
    clear hX3 X2
    go_wp2_with fail
    go_roundw
    case rel =>
      refine ⟨k + 1, _, A3, c3, by omega, by go_num, .inr rfl, ?_⟩
      have hh := X3.out
      rw [HK.out, UB_append, UB_append, ← List.append_assoc]
      exact hh
    case measure => simp [intOf]; omega
end Go.Proofs.Ytcipgkpcaecjdaa
