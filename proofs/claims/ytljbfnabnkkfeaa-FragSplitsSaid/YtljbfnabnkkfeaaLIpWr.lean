/- Plain law: packets that are wrong. No program in sight. -/
import Derived.Test.YtljbfnabnkkfeaaLIpHp
namespace Go.Proofs.Ytljbfnabnkkfeaa
open Go.RowKit
set_option linter.unusedVariables false

/-- what a wrong packet reads as -/
theorem bad_read {zs : List Int} {k : Nat} (h : faultR zs = k) (hk : k < 7) : ipE zs = 50 + k ∧ hdR zs = HD.zero ∧ fromR zs = 0 ∧ toR zs = 0 ∧ optsR zs = [] ∧ hopE zs = 50 + k := by
  have hf : faultR zs ≠ 7 := by omega
  have e : ipE zs = 50 + k := by unfold ipE; rw [if_neg hf, h]
  refine ⟨e, ?_, ?_, ?_, ?_, ?_⟩
  · unfold hdR; rw [if_neg hf]
  · unfold fromR; rw [if_neg hf]
  · unfold toR; rw [if_neg hf]
  · unfold optsR; rw [if_neg hf]
  · unfold hopE; rw [if_neg hf, e]
theorem bad_short {zs : List Int} (h : zs.length < 20) : faultR zs = 0 := by unfold faultR; rw [if_pos h]
theorem bad_version {zs : List Int} (h : 20 ≤ zs.length) (h1 : byteAt zs 0 / 16 ≠ 4) : faultR zs = 1 := by unfold faultR; rw [if_neg (by omega), if_pos h1]
theorem bad_header {zs : List Int} (h : 20 ≤ zs.length) (h1 : byteAt zs 0 / 16 = 4) (h2 : sizeR zs < 20 ∨ zs.length < sizeR zs) : faultR zs = 2 := by
  unfold faultR; rw [if_neg (by omega), if_neg (by omega), if_pos h2]
theorem bad_total {zs : List Int} (h : 20 ≤ zs.length) (h1 : byteAt zs 0 / 16 = 4) (h2 : 20 ≤ sizeR zs ∧ sizeR zs ≤ zs.length) (h3 : totalR zs < sizeR zs ∨ zs.length < totalR zs) : faultR zs = 3 := by
  unfold faultR; rw [if_neg (by omega), if_neg (by omega), if_neg (by omega), if_pos h3]

section
variable {H : HD} {opts data : List Int} {on dn : Nat}
theorem pk_first (h1 : opts.length = on) (h4 : on % 4 = 0) (hon : on ≤ 40) : byteAt (pktB H opts data) 0 = 64 + (20 + (on : Int)) / 4 ∧ byteAt (pktB H opts data) 0 / 16 = 4 ∧ sizeR (pktB H opts data) = 20 + on := by
  have h0 := pkt_get (h := H) (opts := opts) (data := data) (more := []) 0 (by omega) (by omega) (by omega)
  rw [List.append_nil] at h0
  have e : byteAt (pktB H opts data) 0 = 64 + (20 + (on : Int)) / 4 := by rw [h0, ← h1]; simp [head20]
  refine ⟨e, by omega, ?_⟩
  unfold sizeR; omega
theorem take_byte {zs : List Int} {m i : Nat} (h : i < m) : byteAt (zs.take m) i = byteAt zs i := by unfold byteAt; rw [List.getElem?_take_of_lt h]
theorem set_byte {zs : List Int} {x : Int} {i j : Nat} (h : i ≠ j) : byteAt (zs.set i x) j = byteAt zs j := by unfold byteAt; rw [List.getElem?_set_ne h]
theorem set_self {zs : List Int} {x : Int} {i : Nat} (h : i < zs.length) : byteAt (zs.set i x) i = x := by unfold byteAt; rw [List.getElem?_set_self h]; rfl

theorem wr_version (hl : 20 ≤ (pktB H opts data).length) {x : Int} (hx : x / 16 ≠ 4) : faultR ((pktB H opts data).set 0 x) = 1 :=
  bad_version (by simpa using hl) (by rw [set_self (by omega)]; exact hx)
theorem wr_header (hl : 20 ≤ (pktB H opts data).length) {x : Int} (h0 : 64 ≤ x) (h1 : x < 69) : faultR ((pktB H opts data).set 0 x) = 2 :=
  bad_header (by simpa using hl) (by rw [set_self (by omega)]; omega) (.inl (by unfold sizeR; rw [set_self (by omega)]; omega))
theorem wr_cut (h1 : opts.length = on) (h4 : on % 4 = 0) (hon : on ≤ 40) {m : Nat} (hm : 20 ≤ m) (hms : m < 20 + on) (hl : m ≤ (pktB H opts data).length) : faultR ((pktB H opts data).take m) = 2 := by
  obtain ⟨e1, e2, e3⟩ := pk_first (H := H) (data := data) h1 h4 hon
  have hb : byteAt ((pktB H opts data).take m) 0 = byteAt (pktB H opts data) 0 := take_byte (by omega)
  have hs : sizeR ((pktB H opts data).take m) = 20 + on := by unfold sizeR at e3 ⊢; rw [hb]; exact e3
  have hlen : ((pktB H opts data).take m).length = m := by rw [List.length_take]; omega
  exact bad_header (by omega) (by rw [hb]; exact e2) (.inr (by omega))
theorem pk_total (h1 : opts.length = on) (h2 : data.length = dn) (ht : 20 + on + dn ≤ 65535) : wordAt (pktB H opts data) 2 = 20 + on + dn := by
  have a := pkt_get (h := H) (opts := opts) (data := data) (more := []) 2 (by omega) (by omega) (by omega)
  have b := pkt_get (h := H) (opts := opts) (data := data) (more := []) 3 (by omega) (by omega) (by omega)
  rw [List.append_nil] at a b
  have a' : (pktB H opts data)[2]?.getD 0 = (20 + (on : Int) + dn) / 256 % 256 := by
    have := a; unfold byteAt at this; rw [this, ← h1, ← h2]; simp [head20]
  have b' : (pktB H opts data)[3]?.getD 0 = (20 + (on : Int) + dn) % 256 := by
    have := b; unfold byteAt at this; rw [this, ← h1, ← h2]; simp [head20]
  unfold wordAt
  rw [a', show 2 + 1 = 3 from rfl, b']; omega
theorem wr_bare (h1 : opts.length = on) (h2 : data.length = dn) (h4 : on % 4 = 0) (hon : on ≤ 40) (hd : 0 < dn) (ht : 20 + on + dn ≤ 65535) : faultR ((pktB H opts data).take (20 + on)) = 3 := by
  obtain ⟨e1, e2, e3⟩ := pk_first (H := H) (data := data) h1 h4 hon
  have hp := pkt_len H opts data
  have hb : byteAt ((pktB H opts data).take (20 + on)) 0 = byteAt (pktB H opts data) 0 := take_byte (by omega)
  have hs : sizeR ((pktB H opts data).take (20 + on)) = 20 + on := by unfold sizeR at e3 ⊢; rw [hb]; exact e3
  have hlen : ((pktB H opts data).take (20 + on)).length = 20 + on := by rw [List.length_take]; omega
  have hw : wordAt ((pktB H opts data).take (20 + on)) 2 = 20 + on + dn := by
    rw [← pk_total (H := H) h1 h2 ht]
    unfold wordAt
    rw [List.getElem?_take_of_lt (by omega), List.getElem?_take_of_lt (by omega)]
  exact bad_total (by omega) (by rw [hb]; exact e2) (by omega) (.inr (by unfold totalR; rw [hw]; omega))
theorem wr_total (h1 : opts.length = on) (h2 : data.length = dn) (h4 : on % 4 = 0) (hon : on ≤ 40) {x y : Int} (hx : 0 ≤ x * 256 + y) (hxy : x * 256 + y < 20 + on ∨ 20 + (on : Int) + dn < x * 256 + y) : faultR (((pktB H opts data).set 2 x).set 3 y) = 3 := by
  obtain ⟨e1, e2, e3⟩ := pk_first (H := H) (data := data) h1 h4 hon
  have hp := pkt_len H opts data
  have hb : byteAt (((pktB H opts data).set 2 x).set 3 y) 0 = byteAt (pktB H opts data) 0 := by rw [set_byte (by omega), set_byte (by omega)]
  have hs : sizeR (((pktB H opts data).set 2 x).set 3 y) = 20 + on := by unfold sizeR at e3 ⊢; rw [hb]; exact e3
  have hlen : (((pktB H opts data).set 2 x).set 3 y).length = 20 + on + dn := by simp; omega
  have hw : wordAt (((pktB H opts data).set 2 x).set 3 y) 2 = x * 256 + y := by
    unfold wordAt
    rw [List.getElem?_set_ne (by omega), List.getElem?_set_self (by omega), List.getElem?_set_self (by simp; omega)]
    rfl
  exact bad_total (by omega) (by rw [hb]; exact e2) (by omega) (by unfold totalR; rw [hw]; omega)
end
theorem set_bd {m : Int} {zs : List Int} {x : Int} (i : Nat) (h : BD m zs) (hx : 0 ≤ x ∧ x ≤ m) : BD m (zs.set i x) := fun y hy => by
  rcases List.mem_or_eq_of_mem_set hy with hy | rfl
  · exact h y hy
  · exact hx
/-- the version flipped -/
theorem flip_version {x : Int} (h0 : 69 ≤ x) (h1 : x ≤ 79) {k : Nat} (hk : k < 4) : bits .xor .u8 x (16 * 2 ^ k) / 16 ≠ 4 ∧ 0 ≤ bits .xor .u8 x (16 * 2 ^ k) ∧ bits .xor .u8 x (16 * 2 ^ k) ≤ 255 := by
  rcases (show x = 69 ∨ x = 70 ∨ x = 71 ∨ x = 72 ∨ x = 73 ∨ x = 74 ∨ x = 75 ∨ x = 76 ∨ x = 77 ∨ x = 78 ∨ x = 79 by omega) with rfl | rfl | rfl | rfl | rfl | rfl | rfl | rfl | rfl | rfl | rfl <;>
  rcases (show k = 0 ∨ k = 1 ∨ k = 2 ∨ k = 3 by omega) with rfl | rfl | rfl | rfl <;> decide
/-- bits of an integer -/
theorem or_odd {a b : Int} (hb : b % 2 = 1) : bits .or .i64 a b % 2 = 1 ∧ -9223372036854775808 ≤ bits .or .i64 a b ∧ bits .or .i64 a b ≤ 9223372036854775807 := by
  have h1 : ((BitVec.ofInt 64 a ||| BitVec.ofInt 64 b).toNat) % 2 = 1 := by
    rw [BitVec.toNat_or]
    have := Nat.or_mod_two_pow (a := (BitVec.ofInt 64 a).toNat) (b := (BitVec.ofInt 64 b).toNat) (n := 1)
    simp only [Nat.pow_one] at this
    have hb' : (BitVec.ofInt 64 b).toNat % 2 = 1 := by
      rw [BitVec.toNat_ofInt]; omega
    rw [this, hb']
    rcases Nat.mod_two_eq_zero_or_one (BitVec.ofInt 64 a).toNat with h | h <;> rw [h] <;> rfl
  have h2 := (BitVec.ofInt 64 a ||| BitVec.ofInt 64 b).isLt
  show IntKind.i64.wrap ((BitVec.ofInt 64 a ||| BitVec.ofInt 64 b).toNat : Int) % 2 = 1 ∧ _ ≤ IntKind.i64.wrap ((BitVec.ofInt 64 a ||| BitVec.ofInt 64 b).toNat : Int) ∧ IntKind.i64.wrap ((BitVec.ofInt 64 a ||| BitVec.ofInt 64 b).toNat : Int) ≤ _
  rw [IntKind.wrap_i64]
  generalize (BitVec.ofInt 64 a ||| BitVec.ofInt 64 b).toNat = m at h1 h2
  omega
theorem and_small (a : Int) (m : Nat) (hm : m < 2 ^ 62) : 0 ≤ bits .and .i64 a m ∧ bits .and .i64 a m ≤ m ∧ ∃ j : Nat, bits .and .i64 a m = ((j &&& m : Nat) : Int) := by
  have e : (BitVec.ofInt 64 (m : Int)).toNat = m := by rw [BitVec.toNat_ofInt]; omega
  have h2 : (BitVec.ofInt 64 a &&& BitVec.ofInt 64 (m : Int)).toNat = (BitVec.ofInt 64 a).toNat &&& m := by rw [BitVec.toNat_and, e]
  have h3 : (BitVec.ofInt 64 a).toNat &&& m ≤ m := Nat.and_le_right
  have h4 : bits .and .i64 a m = (((BitVec.ofInt 64 a).toNat &&& m : Nat) : Int) := by
    show IntKind.i64.wrap ((BitVec.ofInt 64 a &&& BitVec.ofInt 64 (m : Int)).toNat : Int) = _
    rw [h2, IntKind.wrap_i64]; omega
  exact ⟨by omega, by omega, _, h4⟩
theorem and_six (a : Int) : bits .and .i64 a 6 % 2 = 0 ∧ 0 ≤ bits .and .i64 a 6 ∧ bits .and .i64 a 6 ≤ 6 := by
  obtain ⟨h1, h2, j, h3⟩ := and_small a 6 (by decide)
  have h4 : (j &&& 6) % 2 = 0 := by
    have := Nat.and_mod_two_pow (a := j) (b := 6) (n := 1)
    simp only [Nat.pow_one] at this
    rw [this]; simp
  have h1' : 0 ≤ bits .and .i64 a 6 := h1
  have h2' : bits .and .i64 a 6 ≤ 6 := h2
  have h3' : bits .and .i64 a 6 = ((j &&& 6 : Nat) : Int) := h3
  omega
end Go.Proofs.Ytljbfnabnkkfeaa
