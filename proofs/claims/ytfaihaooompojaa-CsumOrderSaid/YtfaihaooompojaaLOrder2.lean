/- The walk of CsumOrder. -/
import Derived.Test.YtfaihaooompojaaWAwake2
import Derived.Test.YtfaihaooompojaaWSlices
import Derived.Test.YtfaihaooompojaaRow
import Derived.Test.YtfaihaooompojaaLaw2
import Derived.Deep.DeepCutAuto
import Derived.Deep.RegionLaw
import Derived.Deep.RegionWith
namespace Go.Proofs.Ytfaihaooompojaa
open Go.RowKit
set_option linter.unusedVariables false

/-- a slice of at most 3000 bytes -/
def Short (w : World) (A : Option Addr) (c : Nat) (v : Value) (zs : List Int) : Prop := ∃ n : Nat, n ≤ 3000 ∧ n ≤ c ∧ v = .slice A n c ∧ RD .u8 w w.heap.size A n zs ∧ BD 255 zs

set_option maxHeartbeats 4000000 in
set_option maxRecDepth 100000 in
theorem csumOrder_walk (A B : Option Addr) (na ca nb cb : Nat) (za zb : List Int) (by_ : Int) (w : World) (ha : ROW .u8 255 w A na ca za) (hb : ROW .u8 255 w B nb cb zb) (h1 : (Lit.int .u16 by_).wf = true) :
    Calls Try.prog 10 #[.slice A na ca, .slice B nb cb, .int .u16 by_] w fun e w' => e = .returned (.bool true) ∧ Below w.heap.size w w' := by
  obtain ⟨y1, y2⟩ := wf_u16 h1
  have hla := ha.le
  have hlb := hb.le
  have hca := ha.cap
  have hcb := hb.cap
  simp only [maxLen] at hca hcb
  go_enter Try.func10, Try.ntmps10
  go_upto_region 3 with (go_at_call 11; refine (awake2_any _).mono ?_; rintro e w1 ⟨rfl, hb1⟩)
  go_cut [0, 1] (fun s0 s1 wx => ∃ xa xb, Short w A ca s0 xa ∧ Short w B cb s1 xb ∧ Below w.heap.size w wx)
  case first =>
    have ra := ha.rd
    have rb := hb.rd
    have ba := ha.bd
    have bb := hb.bd
    have HLA := Lib.hid ra.1
    have HLB := Lib.hid rb.1
    clear ha hb
    by_cases hma : na ≤ 3000 <;> by_cases hmb : nb ≤ 3000
    · have t1 : ¬ (3000 : Int) < (na : Int) := by omega
      have t2 : ¬ (3000 : Int) < (nb : Int) := by omega
      go_quiet (fail)
      go_wp2_with fail
      go_meet
      exact ⟨_, _, ⟨na, hma, hla, rfl, ra, ba⟩, ⟨nb, hmb, hlb, rfl, rb, bb⟩, below_drewN hb1 _⟩
    · have t1 : ¬ (3000 : Int) < (na : Int) := by omega
      have t2 : (3000 : Int) < (nb : Int) := by omega
      have t3 : (3000 : Int) ≤ (cb : Int) := by omega
      go_quiet (fail)
      go_wp2_with fail
      go_meet
      exact ⟨_, _, ⟨na, hma, hla, rfl, ra, ba⟩, ⟨3000, by omega, by omega, rfl, rb.take (by omega), bb.take 3000⟩, below_drewN hb1 _⟩
    · have t1 : (3000 : Int) < (na : Int) := by omega
      have t2 : ¬ (3000 : Int) < (nb : Int) := by omega
      have t3 : (3000 : Int) ≤ (ca : Int) := by omega
      go_quiet (fail)
      go_wp2_with fail
      go_meet
      exact ⟨_, _, ⟨3000, by omega, by omega, rfl, ra.take (by omega), ba.take 3000⟩, ⟨nb, hmb, hlb, rfl, rb, bb⟩, below_drewN hb1 _⟩
    · have t1 : (3000 : Int) < (na : Int) := by omega
      have t2 : (3000 : Int) < (nb : Int) := by omega
      have t3 : (3000 : Int) ≤ (cb : Int) := by omega
      have t4 : (3000 : Int) ≤ (ca : Int) := by omega
      go_quiet (fail)
      go_wp2_with fail
      go_meet
      exact ⟨_, _, ⟨3000, by omega, by omega, rfl, ra.take (by omega), ba.take 3000⟩, ⟨3000, by omega, by omega, rfl, rb.take (by omega), bb.take 3000⟩, below_drewN hb1 _⟩
  case rest =>
    clear ha hb hb1
    obtain ⟨xa, xb, ⟨ma, ma1, ma2, rfl, ra, ba⟩, ⟨mb, mb1, mb2, rfl, rb, bb⟩, HB⟩ := hcut
    go_upto_region 4 with fail
    go_cut [7] (fun s7 wx => wx = wc ∧ ∃ me : Nat, me = ma / 2 * 2 ∧ s7 = .slice A me ca)
    case first =>
      go_wp2_with fail
      go_meet
      exact ⟨rfl, _, rfl, rfl⟩
    case rest =>
      obtain ⟨rfl, me, hme, rfl⟩ := hcut
      have me0 : me % 2 = 0 := by omega
      have me1 : me ≤ ma := by omega
      have HL := Lib.hid ra.1
      clear hme
      have re : RD .u8 w w.heap.size A me (xa.take me) := ra.take me1
      have be : BD 255 (xa.take me) := ba.take me
      have Hel := Lib.hid re.1
      have S1 := Lib.hid (sum_append be bb (by rw [Hel.out]; exact me0))
      obtain ⟨q1, q2⟩ := sumOf_bd _ be
      obtain ⟨q3, q4⟩ := sumOf_bd _ bb
      have S2 := Lib.hid (foldJ_two (sumOf (xa.take me)) (sumOf xb) q1 q2)
      go_upto_region 5 with fail
      go_cut [54] (fun s54 wx => s54 = .bool false ∧ Below w.heap.size w wx)
      case first =>
        go_wp2_with fail
        refine (concat2_any _ 2 A me ca (xa.take me) B mb cb xb _ (RV.new wc 22 _) (re.later (HB.alloc HB.size _)) (rb.later (HB.alloc HB.size _)) (by omega)).mono ?_
        rintro e w2 ⟨A2, n2, c2, rfl, own2, hb2⟩
        have HB2 : Below w.heap.size w w2 := (HB.alloc HB.size _).trans (hb2.mono (by have := HB.size; simp; omega))
        clear hb2
        have hn2 : (xa.take me ++ xb).length ≤ 6000 := by rw [List.length_append, Hel.out, show xb.length = mb from rb.1]; omega
        generalize hz2 : (xa.take me ++ xb) = z2 at own2 hn2 S1
        have hl2 := own2.len
        have bz2 : BD 255 z2 := by rw [← hz2]; exact be.append bb
        clear hz2
        have re1 := re.later HB2
        have rb1 := rb.later HB2
        go_wp2_with fail
        refine (sum_any A2 n2 c2 z2 w2 own2.rd bz2 (by omega)).mono ?_
        rintro e w3 ⟨rfl, hb3⟩
        rw [S1.out]
        clear hl2
        replace HB2 := HB2.trans (hb3.mono HB2.size)
        replace re1 := re1.later hb3
        replace rb1 := rb1.later hb3
        clear hb3 own2
        go_wp2_with fail
        refine (sum_any A me ca _ w3 re1 be (by omega)).mono ?_
        rintro e w4 ⟨rfl, hb3⟩
        replace HB2 := HB2.trans (hb3.mono HB2.size)
        replace rb1 := rb1.later hb3
        clear hb3 re1
        go_wp2_with fail
        refine (sum_any B mb cb _ w4 rb1 bb (by omega)).mono ?_
        rintro e w5 ⟨rfl, hb3⟩
        replace HB2 := HB2.trans (hb3.mono HB2.size)
        clear hb3 rb1
        go_wp2_with fail
        refine (join_any _ 2 2 [sumOf (xa.take me), sumOf xb] _ (RD.new w5 .u16 29 _) (fun y hy => by simp at hy; omega) (by omega)).mono ?_
        rintro e w6 ⟨rfl, rfl⟩
        rw [S2.out]
        replace HB2 := HB2.alloc HB2.size (.cells #[.int .u16 (sumOf (xa.take me)), .int .u16 (sumOf xb)] 29)
        simp only [List.map_cons, List.map_nil]
        generalize w5.alloc (.cells #[.int .u16 (sumOf (xa.take me)), .int .u16 (sumOf xb)] 29) = w6 at HB2 ⊢
        have e0 : (stepJ (sumOf (xa.take me)) (sumOf xb) != stepJ (sumOf (xa.take me)) (sumOf xb)) = false := by simp
        have ra1 := ra.later HB2
        go_wp2_with fail
        refine (concat2_any _ 2 A ma ca xa (some ⟨w6.heap.size, 0, none⟩) 1 1 [0] _ (RV.new' (w6.alloc (.cells #[.int .u8 0] 5)) 22 _ (by simp) (by simp) rfl) (ra1.later (((Below.refl _ w6).alloc (Nat.le_refl _) _).alloc (by simp) _)) ((RD.new w6 .u8 5 [0]).later ((Below.refl _ _).alloc (Nat.le_refl _) _)) (by omega)).mono ?_
        rintro e w7 ⟨A3, n3, c3, rfl, own3, hb3⟩
        replace HB2 : Below w.heap.size w w7 := ((HB2.alloc HB2.size _).alloc (by have := HB2.size; simp; omega) _).trans (hb3.mono (by have := HB2.size; simp; omega))
        replace ra1 := ra1.later ((((Below.refl _ w6).alloc (Nat.le_refl _) _).alloc (by simp) _).trans (hb3.mono (by simp; omega)))
        clear hb3
        have hn3 : (xa ++ [0]).length ≤ 6000 := by rw [List.length_append, HL.out]; simp; omega
        have bz3 : BD 255 (xa ++ [0]) := ba.append (fun x hx => by simp at hx; omega)
        have S3 := Lib.hid (sum_zero xa)
        generalize (xa ++ [0]) = z3 at own3 hn3 S3 bz3
        have hl3 := own3.len
        go_wp2_with fail
        refine (sum_any A3 n3 c3 z3 w7 own3.rd bz3 (by omega)).mono ?_
        rintro e w8 ⟨rfl, hb3⟩
        clear hl3
        replace HB2 := HB2.trans (hb3.mono HB2.size)
        replace ra1 := ra1.later hb3
        clear hb3 own3
        go_wp2_with fail
        refine (sum_any A ma ca xa w8 ra1 ba (by omega)).mono ?_
        rintro e w9 ⟨rfl, hb3⟩
        replace HB2 := HB2.trans (hb3.mono HB2.size)
        clear hb3 ra1
        by_cases hodd : ma % 2 = 1
        · have e1 : (sumOf z3 != sumOf xa) = false := by rw [S3.out (by rw [HL.out]; exact hodd)]; simp
          go_wp2_with fail
          go_meet
          exact ⟨rfl, HB2⟩
        · have e1 : ((ma : Int) % 2 == 1) = false := by simp; omega
          by_cases hs : sumOf z3 = sumOf xa
          · have e2 : (sumOf z3 != sumOf xa) = false := by rw [hs]; simp
            clear hs
            go_wp2_with fail
            go_meet
            exact ⟨rfl, HB2⟩
          · have e2 : (sumOf z3 != sumOf xa) = true := by simp [hs]
            clear hs
            go_wp2_with fail
            go_meet
            exact ⟨rfl, HB2⟩
      case rest =>
        obtain ⟨rfl, HB2⟩ := hcut
        clear HB S1 S2
        go_upto_if 57 with fail
        go_cut [8] (fun s8 wx => wx = wc ∧ ∃ k : Nat, k % 2 = 0 ∧ k ≤ me ∧ s8 = .int .i64 k)
        case first =>
          by_cases h0 : 0 < me
          · have g0 : (0 : Int) ≤ by_ % ((me : Int) / 2) := Int.emod_nonneg _ (by omega)
            have g1 : by_ % ((me : Int) / 2) < (me : Int) / 2 := Int.emod_lt_of_pos _ (by omega)
            go_wp2_with fail
            go_meet
            refine ⟨rfl, (by_ % ((me : Int) / 2) * 2).toNat, by omega, by omega, ?_⟩
            rw [Int.toNat_of_nonneg (by omega)]
          · go_wp2_with fail
            go_meet
            exact ⟨rfl, 0, rfl, by omega, rfl⟩
        case rest =>
          obtain ⟨rfl, k, hk0, hk1, rfl⟩ := hcut
          have S4 := Lib.hid (sum_turn be (by rw [Hel.out]; exact me0) k hk0 (by rw [Hel.out]; exact hk1))
          have rd1 := re.drop (lo := k) (c := ca) hk1 (by omega)
          have rd2 := re.take (m := k) hk1
          have i1 : (0 : Int) ≤ (k : Int) := by omega
          have i2 : (k : Int) ≤ (me : Int) := by omega
          have i3 : (k : Int) ≤ (ca : Int) := by omega
          have i4 : (me : Int) ≤ (ca : Int) := by omega
          have rd3 := rd1.later HB2
          have rd4 := rd2.later HB2
          have re1 := re.later HB2
          have bd1 := be.drop k
          have bd2 := be.take k
          have bz : BD 255 (List.drop k (List.take me xa) ++ List.take k (List.take me xa)) := bd1.append bd2
          have hl1 : (List.drop k (List.take me xa) ++ List.take k (List.take me xa)).length ≤ 6000 := by rw [List.length_append, rd1.1, rd2.1]; omega
          clear rd1 rd2 bd1 bd2 ra rb
          generalize List.drop k (List.take me xa) = y1' at rd3 S4 bz hl1
          generalize List.take k (List.take me xa) = y2' at rd4 S4 bz hl1
          go_wp2_with fail
          by_cases hck : ca = k
          · subst hck
            obtain rfl : ca = me := by omega
            rw [if_pos rfl, Nat.sub_self] at rd3
            go_region_with (first
              | (go_at_call 30; refine (concat2_any _ 2 A 0 0 y1' A ca ca y2' _ (by exact RV.new' wc 22 _ rfl (by simp) rfl) (by exact rd3.later (((Below.refl _ wc).alloc (Nat.le_refl _) _).drew)) (by exact rd4.later (((Below.refl _ wc).alloc (Nat.le_refl _) _).drew)) (by omega)).mono ?_
                 rintro e w2 ⟨A2, n2, c2, rfl, own2, hb2⟩
                 have HB3 : Below w.heap.size w w2 := ((HB2.alloc HB2.size _).drew).trans (hb2.mono (by have := HB2.size; simp; omega))
                 replace re1 := re.later HB3
                 clear hb2)
              | (go_at_call_of 18 (Value.slice A ca ca); refine (sum_any A ca ca _ _ (by exact re1) be (by omega)).mono ?_
                 rintro e w4 ⟨rfl, hb2⟩
                 have HB4 := HB3.trans (hb2.mono HB3.size))
              | (go_at_call 18; refine (sum_any _ _ _ (y1' ++ y2') _ (by exact own2.rd) bz (by have := own2.len; omega)).mono ?_
                 rintro e w3 ⟨rfl, hb2⟩
                 replace HB3 := HB3.trans (hb2.mono HB3.size)
                 replace re1 := re1.later hb2
                 clear hb2
                 rw [S4.out]))
            all_goals (go_wp2_with fail; go_ret; exact ⟨rfl, HB4⟩)
          · rw [if_neg hck] at rd3
            have hck' : ¬ k = ca := fun h => hck h.symm
            go_region_with (first
              | (go_at_call 30; refine (concat2_any _ 2 _ (me - k) (ca - k) y1' A k ca y2' _ (by exact RV.new' wc 22 _ rfl (by simp) rfl) (by exact rd3.later (((Below.refl _ wc).alloc (Nat.le_refl _) _).drew)) (by exact rd4.later (((Below.refl _ wc).alloc (Nat.le_refl _) _).drew)) (by omega)).mono ?_
                 rintro e w2 ⟨A2, n2, c2, rfl, own2, hb2⟩
                 have HB3 : Below w.heap.size w w2 := ((HB2.alloc HB2.size _).drew).trans (hb2.mono (by have := HB2.size; simp; omega))
                 replace re1 := re.later HB3
                 clear hb2)
              | (go_at_call_of 18 (Value.slice A me ca); refine (sum_any A me ca _ _ (by exact re1) be (by omega)).mono ?_
                 rintro e w4 ⟨rfl, hb2⟩
                 have HB4 := HB3.trans (hb2.mono HB3.size))
              | (go_at_call 18; refine (sum_any _ _ _ (y1' ++ y2') _ (by exact own2.rd) bz (by have := own2.len; omega)).mono ?_
                 rintro e w3 ⟨rfl, hb2⟩
                 replace HB3 := HB3.trans (hb2.mono HB3.size)
                 replace re1 := re1.later hb2
                 clear hb2
                 rw [S4.out]))
            all_goals (go_wp2_with fail; go_ret; exact ⟨rfl, HB4⟩)
end Go.Proofs.Ytfaihaooompojaa
