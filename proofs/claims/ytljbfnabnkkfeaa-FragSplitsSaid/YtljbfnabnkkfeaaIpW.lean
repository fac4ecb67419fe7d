/- Plain law of what is written: the bytes of a header of IPv4. No program in sight. -/
import Derived.Test.YtljbfnabnkkfeaaIpP
import Derived.Test.YtljbfnabnkkfeaaWIp2
import Derived.Test.YtljbfnabnkkfeaaWCopy
namespace Go.Proofs.Ytljbfnabnkkfeaa
open Go.RowKit

/-- the word with the flags and the offset -/
def flagsW (h : HD) : Int := h.off / 8 + (if h.df then 16384 else 0) + (if h.mf then 8192 else 0)
/-- the bytes of the header before the options, the checksum 0 -/
def head20 (h : HD) (size : Nat) (L : Nat) : List Int :=
  [64 + (size : Int) / 4, h.tos, ((size : Int) + L) / 256 % 256, ((size : Int) + L) % 256, h.id / 256 % 256, h.id % 256, flagsW h / 256 % 256, flagsW h % 256, h.ttl, h.proto, 0, 0,
   h.src / 256 / 256 / 256 % 256, h.src / 256 / 256 % 256, h.src / 256 % 256, h.src % 256, h.dst / 256 / 256 / 256 % 256, h.dst / 256 / 256 % 256, h.dst / 256 % 256, h.dst % 256]
def headB (h : HD) (opts : List Int) (L : Nat) : List Int := head20 h (20 + opts.length) L ++ opts
/-- a packet -/
def pktB (h : HD) (opts data : List Int) : List Int := fixOf (headB h opts data.length) 10 ++ data
theorem head20_len (h : HD) (s L : Nat) : (head20 h s L).length = 20 := rfl
theorem headB_len (h : HD) (opts : List Int) (L : Nat) : (headB h opts L).length = 20 + opts.length := by simp [headB, head20_len]
theorem flagsW_bd {h : HD} {ol : Nat} {n : Int} (hr : Rightly h.off h.mf ol n) : 0 ≤ flagsW h ∧ flagsW h ≤ 32767 := by
  obtain ⟨h1, h2, h3, _⟩ := hr
  unfold flagsW
  split <;> split <;> omega
theorem headB_bd {h : HD} {opts : List Int} {L : Nat} (hw : h.WF) (ho : BD 255 opts) (hl : opts.length ≤ 40) : BD 255 (headB h opts L) := by
  refine BD.append ?_ ho
  have h1 := hw.tos
  have h2 := hw.ttl
  have h3 := hw.proto
  intro x hx
  simp only [head20, List.mem_cons, List.not_mem_nil, or_false] at hx
  rcases hx with rfl | rfl | rfl | rfl | rfl | rfl | rfl | rfl | rfl | rfl | rfl | rfl | rfl | rfl | rfl | rfl | rfl | rfl | rfl | rfl <;> omega

/-- what the program does -/
def made20 (h : HD) (ol L : Nat) : List Int :=
  putB (putB (putB (putB (putB ((((List.replicate (20 + ol) 0).set 0 (64 + ((20 + ol : Nat) : Int) / 4)).set 1 h.tos).set 8 h.ttl |>.set 9 h.proto) 2 2 (((20 + ol : Nat) : Int) + L)) 4 2 h.id) 6 2 (flagsW h)) 12 4 h.src) 16 4 h.dst
theorem made20_eq (h : HD) (opts : List Int) (L : Nat) : spliceZ (made20 h opts.length L) 20 opts = headB h opts L := by
  have e : made20 h opts.length L = head20 h (20 + opts.length) L ++ List.replicate opts.length 0 := by
    unfold made20
    rw [show List.replicate (20 + opts.length) (0 : Int) = [0, 0, 0, 0, 0, 0, 0, 0, 0, 0, 0, 0, 0, 0, 0, 0, 0, 0, 0, 0] ++ List.replicate opts.length 0 from List.replicate_append_replicate.symm]
    simp [putB, head20]
  rw [e]
  unfold spliceZ headB
  rw [List.take_left' (head20_len h _ _), List.drop_eq_nil_of_le (by simp [head20_len]), List.append_nil]

theorem i64_or_64 (x : Int) (h0 : 0 ≤ x) (h1 : x ≤ 15) : bits .or .i64 64 x = 64 + x :=
  bits_join .i64 16 (by decide) (fun n h0 h1 => by rw [IntKind.wrap_i64]; omega) 4 64 x (by omega) (by omega) (by omega) (by omega) (by omega) (by omega)
theorem u32_or_df (x : Int) (h0 : 0 ≤ x) (h1 : x ≤ 8191) : bits .or .u32 x 16384 = x + 16384 := by
  have := bits_join .u32 32 (by decide) (fun n h0 h1 => by rw [IntKind.wrap_u32]; omega) 14 16384 x (by omega) (by omega) (by omega) (by omega) (by omega) (by omega)
  rw [show bits .or .u32 x 16384 = bits .or .u32 16384 x by simp [bits, BitVec.or_comm], this]; omega
theorem u32_or_mf (x : Int) (h0 : 0 ≤ x) (h1 : x ≤ 8191) (b : Bool) : bits .or .u32 (x + if b then 16384 else 0) 8192 = x + (if b then 16384 else 0) + 8192 := by
  obtain ⟨n, rfl⟩ := Int.eq_ofNat_of_zero_le h0
  cases b
  · have := bits_join .u32 32 (by decide) (fun n h0 h1 => by rw [IntKind.wrap_u32]; omega) 13 8192 n (by omega) (by omega) (by omega) (by omega) (by omega) (by omega)
    simp only [Bool.false_eq_true, if_false, Int.add_zero]
    rw [show bits .or .u32 (n : Int) 8192 = bits .or .u32 8192 n by simp [bits, BitVec.or_comm], this]; omega
  · simp only [if_true]
    have hb := (bits_nat .u32 32 (by decide) (fun n h0 h1 => by rw [IntKind.wrap_u32]; omega) (n + 16384) 8192 (by omega) (by omega)).2
    rw [show ((n : Int) + 16384) = ((n + 16384 : Nat) : Int) by simp, show (8192 : Int) = ((8192 : Nat) : Int) from rfl, hb]
    have e1 : n + 16384 = 2 ^ 14 * 1 + n := by omega
    have e2 : n + 16384 ||| 8192 = n + 16384 + 8192 := by
      have h2 : (n + 16384) ||| 8192 = (n ||| 8192) + 16384 := by
        have a1 : (16384 ||| n) = 16384 + n := by have := (Nat.two_pow_add_eq_or_of_lt (show n < 2 ^ 14 by omega) 1).symm; simpa using this
        have a2 : (16384 ||| (n ||| 8192)) = 16384 + (n ||| 8192) := by
          have := (Nat.two_pow_add_eq_or_of_lt (show n ||| 8192 < 2 ^ 14 from Nat.or_lt_two_pow (by omega) (by omega)) 1).symm
          simpa using this
        rw [Nat.add_comm n, ← a1, Nat.or_assoc, a2, Nat.add_comm]
      have h3 : (8192 ||| n) = 8192 + n := by have := (Nat.two_pow_add_eq_or_of_lt (show n < 2 ^ 13 by omega) 1).symm; simpa using this
      rw [h2, Nat.or_comm, h3]; omega
    rw [e2]; omega
end Go.Proofs.Ytljbfnabnkkfeaa
