import Derived.Test.YtljbfnabnkkfeaaFgZ
import Derived.Deep.RegionLaw
import Derived.Test.YtljbfnabnkkfeaaLIpBt
/- bafflelaw07.FragWrong returns true. (Printed by gen_fglaws.py.) -/
namespace Go.Proofs.Ytljbfnabnkkfeaa
open Go.RowKit
set_option linter.unusedVariables false
set_option linter.unusedSimpArgs false

set_option maxHeartbeats 1000000 in
theorem pick7_any (q m : Int) (w : World) (hm : 0 < m ∧ m ≤ 1099511627776) (hq : -9223372036854775808 ≤ q ∧ q ≤ 9223372036854775807) :
    Calls Try.prog 13 #[.int .i64 q, .int .i64 m] w fun e w' => (∃ k : Nat, (k : Int) < m ∧ e = .returned (.int .i64 (k : Int))) ∧ w = w' := by
  obtain ⟨m0, m1⟩ := hm
  have h1 : q.tmod m < m := Int.tmod_lt_of_pos q m0
  have h2 : -m < q.tmod m := Int.lt_tmod_of_pos q m0
  obtain ⟨r, hr⟩ : ∃ r, q.tmod m = r := ⟨_, rfl⟩
  rw [hr] at h1 h2
  have hne : (m == 0) = false := by simp; omega
  have hw : IntKind.i64.wrap r = r := IntWalk.i64_in _ (by omega)
  have t1 : ¬ m < 1 := by omega
  by_cases hr0 : r < 0
  · go_enter Try.func13, Try.ntmps13
    go_wp2_with fail
    go_ret
    refine ⟨⟨(r + m).toNat, by omega, ?_⟩, rfl⟩
    rw [show (((r + m).toNat : Nat) : Int) = r + m by omega]; rfl
  · go_enter Try.func13, Try.ntmps13
    go_wp2_with fail
    go_ret
    refine ⟨⟨r.toNat, by omega, ?_⟩, rfl⟩
    rw [show ((r.toNat : Nat) : Int) = r by omega]; rfl
theorem split_bad {zs : List Int} {size : Int} (h : sizeOk size = false) : splitA zs size = ([], 2) := by unfold splitA; rw [if_pos h]
theorem split_fault {zs : List Int} (h : faultR zs ≠ 7) : splitA zs 8 = ([], ipE zs) := by unfold splitA; rw [if_neg (by simp [sizeOk]), if_pos h]
theorem split_df {h : HD} {o d : List Int} (W : WHOLE h o d) (hd : h.df = true) (hl : 8 < d.length) : splitA (pktB h o d) 8 = ([], 72) := by
  have P := W.parse
  unfold splitA
  rw [if_neg (by simp [sizeOk]), if_neg (by simp [P.fault]), W.fr, P.hdE, if_neg (by simp only; omega), if_pos hd]
theorem put_bad7 {T : AT} {now : Int} {zs : List Int} (hl : lateA T now = false) (hf : faultR zs ≠ 7) : putA T now zs = (T, [], ipE zs) := by
  unfold putA
  rw [hl, if_neg (by simp), if_pos hf]
theorem put_late7 {T : AT} {now : Int} {zs : List Int} (hl : lateA T now = true) : putA T now zs = (T, [], 70) := by
  unfold putA
  rw [hl, if_pos rfl]
theorem tick_late7 {T : AT} {now : Int} (hl : lateA T now = true) : tickA T now = (T, 70) := by
  unfold tickA
  rw [hl, if_pos rfl]
theorem late_yes {T : AT} {now : Int} (h : now < T.now ∨ 1099511627776 < now) : lateA T now = true := by unfold lateA; simp; omega
theorem tabsplit {w0 w : World} {TB : Nat} {a : AT} {R : List IT} (H : TAB w0 w TB a R) (A : Option Addr) (n c : Nat) (zs : List Int) (size : Int) (rd : ∀ W, SP w0 W R → RD .u8 W W.heap.size A n zs) (hz : BD 255 zs) (hnc : n ≤ c) (hn : n ≤ 140737488351232) (hsz : size ≤ 9223372036854775807) (hsz0 : -9223372036854775808 ≤ size) :
    Calls Try.prog 14 #[.slice A n c, .int .i64 size] w fun e w' => ∃ (A : Option Addr) (n c : Nat) (G : List (SD × List Int)), e = .returned (.tuple #[.slice A n c, .int .i64 (splitA zs size).2]) ∧ G.length = n ∧ G.map (·.2) = (splitA zs size).1 ∧ TAB w0 w' TB a (.row 23 1 A n c (G.map gV) :: (G.map gIT ++ R)) := by
  obtain ⟨T, h1, h2, h3, h4, h5⟩ := H
  refine (tsplit A n c zs size h5 (fun W hS => rd W hS.right) hz hnc hn hsz hsz0).mono ?_
  rintro e w' ⟨A', n', c', G, rfl, hl, hG, hS⟩
  refine ⟨A', n', c', G, rfl, hl, hG, T, h1, h2, h3, h4, ?_⟩
  have h6 : SP w0 w' ((.row 23 1 A' n' c' (G.map gV) :: G.map gIT) ++ (T.its ++ R)) := hS
  exact h6.swap
set_option maxHeartbeats 8000000 in
set_option maxRecDepth 100000 in
theorem fragWrong_walk (h0 h1 h2 h3 h4 h5 h6 h7 h8 h9 h10 h11 words far many : Int) (df mf : Bool) (A : Option Addr) (n c : Nat) (zs : List Int) (q v : Int) (w : World) (hb : BD 255 [h0, h1, h2, h3, h4, h5, h6, h7, h8, h9, h10, h11]) (hw : 0 ≤ words ∧ words ≤ 255) (hf : 0 ≤ far ∧ far ≤ 255) (hm : 0 ≤ many ∧ many ≤ 255) (h : ROW .u8 255 w A n c zs) (hq : -9223372036854775808 ≤ q ∧ q ≤ 9223372036854775807) (hv : 0 ≤ v ∧ v ≤ 255) :
    Calls Try.prog 3 #[.agg (sm18 h0 h1 h2 h3 h4 h5 h6 h7 h8 h9 h10 h11 words far many df mf (.slice A n c)), .int .i64 q, .int .u8 v] w fun e w' => e = .returned (.bool true) ∧ Below w.heap.size w w' := by
  obtain ⟨i0, hi, hz0, hz1, hz2⟩ := info_parts infoU8
  obtain ⟨SB, hSB⟩ : ∃ b, b = w.heap.size := ⟨_, rfl⟩
  have X1 := Lib.hid ((SP.start w).alloc' (N := SB) 25 (sm18 h0 h1 h2 h3 h4 h5 h6 h7 h8 h9 h10 h11 words far many df mf (.slice A n c)) hSB.symm)
  have HM := Lib.hid (fun W (hW : Below w.heap.size w W) => made7_any h0 h1 h2 h3 h4 h5 h6 h7 h8 h9 h10 h11 words far many df mf A n c zs W hb hw hf hm (h.rd.later hW) h.bd h.le h.cap)
  clear hb hw hf hm h
  unfold sm18 at X1 HM ⊢
  generalize hHH : HDM h0 h1 h2 h3 h4 h5 h6 h7 h8 h9 h10 false false 0 = h at HM
  go_enter Try.func3, Try.ntmps3
  go_wp2_with fail
  rw [← hSB]
  generalize hw1 : w.alloc (.cells #[.int .u8 h0, .int .u8 h1, .int .u8 h2, .int .u8 h3, .int .u8 h4, .int .u8 h5, .int .u8 h6, .int .u8 h7, .int .u8 h8, .int .u8 h9, .int .u8 h10, .int .u8 h11, .int .u8 words, .int .u8 far, .int .u8 many, .bool df, .bool mf, .slice A n c] 25) = w1 at X1 ⊢
  clear hw1 hSB
  refine (awake7_any _).mono ?_
  rintro e w2 ⟨rfl, hb2⟩
  have X2 := Lib.hid (X1.out.next hb2)
  clear hb2 X1
  have HK := Lib.hid (X2.out.blk 0 rfl)
  go_wp2_with (refine wpList_load_row rfl 25 _ rfl SB rfl 25 #[.int .u8 h0, .int .u8 h1, .int .u8 h2, .int .u8 h3, .int .u8 h4, .int .u8 h5, .int .u8 h6, .int .u8 h7, .int .u8 h8, .int .u8 h9, .int .u8 h10, .int .u8 h11, .int .u8 words, .int .u8 far, .int .u8 many, .bool df, .bool mf, .slice A n c] (0, 0) _ HK.out Try.underlying25 rfl (by kernel_rfl) ?_)
  refine (HM.out _ X2.out.bel).mono ?_
  rintro e w3 ⟨o, d, Ab, nb, cb, rfl, hp, ho, hbl⟩
  have X3 := Lib.hid (show SP w w3 [.blk SB 25 #[.int .u8 h0, .int .u8 h1, .int .u8 h2, .int .u8 h3, .int .u8 h4, .int .u8 h5, .int .u8 h6, .int .u8 h7, .int .u8 h8, .int .u8 h9, .int .u8 h10, .int .u8 h11, .int .u8 words, .int .u8 far, .int .u8 many, .bool df, .bool mf, .slice A n c], .own .u8 5 Ab nb cb (pktB h o d)] from X2.out.pushOwn hbl ho)
  have HP := Lib.hid hp
  obtain ⟨kb1, kb2⟩ := ho.le
  have HNB := Lib.hid ho.len
  have hnb : nb ≤ 156 := by
    have h1 := ho.len
    have h2 := hp.len
    have h3 := hp.right.2.2.2.1
    rw [pkt_len] at h1; omega
  have hdl : 16 ≤ d.length ∧ d.length ≤ 96 := hp.len
  clear hp ho hbl X2 HM HK
  clear hHH
  obtain ⟨vt, vi, vd, vm, vo, vl, vp, vs, vx⟩ := h
  obtain rfl : vm = false := HP.out.mf
  obtain rfl : vd = false := HP.out.df
  obtain rfl : vo = 0 := HP.out.off
  obtain ⟨mn, hmn⟩ : ∃ mn : Int, (if (7 : Int) < q then (7 : Int) else q) = mn := ⟨_, rfl⟩
  have hmn7 : mn ≤ 7 ∧ -9223372036854775808 ≤ mn := by rw [← hmn]; split <;> omega
  go_wp2_with fail
  refine (pick7_any q 1099511627776 _ ⟨by omega, by omega⟩ hq).mono ?_
  rintro e w4 ⟨⟨pk, hpk, rfl⟩, hw4⟩
  obtain rfl := hw4
  have a1 : v.tmod 7 = v % 7 := Int.tmod_eq_emod_of_nonneg (by omega)
  have a2 : IntKind.u8.wrap (v % 7) = v % 7 := u8_in _ (by omega) (by omega)
  have a3 : IntKind.i64.wrap (v % 7) = v % 7 := IntWalk.i64_in _ (by omega)
  have a4 : IntKind.i64.wrap (8 * (pk : Int)) = 8 * (pk : Int) := IntWalk.i64_in _ (by omega)
  have a5 : IntKind.i64.wrap (8 * (pk : Int) + 1) = 8 * (pk : Int) + 1 := IntWalk.i64_in _ (by omega)
  obtain ⟨b2, hb2⟩ : ∃ b2 : Int, 8 * (pk : Int) + 1 + v % 7 = b2 := ⟨_, rfl⟩
  have a6 : IntKind.i64.wrap (8 * (pk : Int) + 1 + v % 7) = b2 := by rw [IntWalk.i64_in _ (by omega)]; exact hb2
  have hb2m : b2 % 8 ≠ 0 ∧ 0 ≤ b2 ∧ b2 ≤ 9223372036854775807 := by omega
  clear hb2
  obtain ⟨LB, hLB⟩ : ∃ b, w3.heap.size = b := ⟨_, rfl⟩
  have X4 := Lib.hid (show SP w (w3.alloc (.cells #[.int .i64 mn, .int .i64 b2] 3)) (.own .i64 3 (some ⟨LB, 0, none⟩) 2 2 [mn, b2] :: [.blk SB 25 #[.int .u8 h0, .int .u8 h1, .int .u8 h2, .int .u8 h3, .int .u8 h4, .int .u8 h5, .int .u8 h6, .int .u8 h7, .int .u8 h8, .int .u8 h9, .int .u8 h10, .int .u8 h11, .int .u8 words, .int .u8 far, .int .u8 many, .bool df, .bool mf, .slice A n c], .own .u8 5 Ab nb cb (pktB (⟨vt, vi, false, false, 0, vl, vp, vs, vx⟩ : HD) o d)]) from (X3.out.allocI' .i64 3 [mn, b2] (by simp [maxLen]) hLB).rot)
  go_upto_region 5 with fail
  clear a1 a2 a3 a4 a5 a6 hmn
  try rw [hLB]
  generalize hw5 : w3.alloc (.cells #[.int .i64 mn, .int .i64 b2] 3) = w5 at X4 ⊢
  clear hw5 hLB X3
  have HBS := Lib.hid (show ∀ z, z = mn ∨ z = b2 → splitA (pktB (⟨vt, vi, false, false, 0, vl, vp, vs, vx⟩ : HD) o d) z = ([], 2) by
    intro z hz
    apply split_bad
    unfold sizeOk
    rcases hz with rfl | rfl
    · rw [decide_eq_false (by omega)]; rfl
    · rw [decide_eq_false (p := z % 8 = 0) (by omega)]; simp)
  go_loopw [9, 10, 11, 58] (fun _ _ _ s58 wr => ∃ (k : Nat), k ≤ 2 ∧ s58 = .int .i64 (k : Int) ∧ SP w wr (.own .i64 3 (some ⟨LB, 0, none⟩) 2 2 [mn, b2] :: [.blk SB 25 #[.int .u8 h0, .int .u8 h1, .int .u8 h2, .int .u8 h3, .int .u8 h4, .int .u8 h5, .int .u8 h6, .int .u8 h7, .int .u8 h8, .int .u8 h9, .int .u8 h10, .int .u8 h11, .int .u8 words, .int .u8 far, .int .u8 many, .bool df, .bool mf, .slice A n c], .own .u8 5 Ab nb cb (pktB (⟨vt, vi, false, false, 0, vl, vp, vs, vx⟩ : HD) o d)])) (fun _ _ _ s58 _ => 2 - (intOf s58).toNat)
  case atStart => exact ⟨0, by omega, rfl, X4.out⟩
  case round =>
    obtain ⟨k, hk, rfl, Y0⟩ := hrel
    have Y := Lib.hid Y0
    clear Y0 X4
    obtain ⟨_, _, hlb, _, hlc⟩ := (Y.out.rd 0 rfl).2 (by omega)
    cases hlb
    have hc0 : wr.cell? ⟨LB, 0, none⟩ = some (.int .i64 mn) := hlc 0 (by omega)
    have hc1 : wr.cell? ⟨LB, 1, none⟩ = some (.int .i64 b2) := hlc 1 (by omega)
    clear hlc
    have hk4 : k = 0 ∨ k = 1 ∨ k = 2 := by omega
    rcases hk4 with rfl | rfl | rfl
    · go_wp2_with fail
      refine (tsplit Ab nb cb (pktB (⟨vt, vi, false, false, 0, vl, vp, vs, vx⟩ : HD) o d) mn Y.out (fun W hS => hS.rd 2 rfl) HP.out.whole.bds kb1 (by omega) (by omega) (by omega)).mono ?_
      rintro e w6 ⟨A6, n6, c6, G6, rfl, hl6, hG6, hS⟩
      rw [HBS.out mn (.inl rfl)] at hG6 ⊢
      have hG6' : G6 = [] := List.map_eq_nil_iff.1 hG6
      subst hG6'
      replace hl6 : (0 : Nat) = n6 := hl6
      subst hl6
      have Z := Lib.hid (show SP w w6 (.own .i64 3 (some ⟨LB, 0, none⟩) 2 2 [mn, b2] :: [.blk SB 25 #[.int .u8 h0, .int .u8 h1, .int .u8 h2, .int .u8 h3, .int .u8 h4, .int .u8 h5, .int .u8 h6, .int .u8 h7, .int .u8 h8, .int .u8 h9, .int .u8 h10, .int .u8 h11, .int .u8 words, .int .u8 far, .int .u8 many, .bool df, .bool mf, .slice A n c], .own .u8 5 Ab nb cb (pktB (⟨vt, vi, false, false, 0, vl, vp, vs, vx⟩ : HD) o d)]) from hS.tail)
      clear hS hG6 hc0 hc1 Y
      go_wp2_with fail
      go_roundw
      case rel => exact ⟨1, by omega, rfl, Z.out⟩
      case measure => simp [intOf]
    · go_wp2_with fail
      refine (tsplit Ab nb cb (pktB (⟨vt, vi, false, false, 0, vl, vp, vs, vx⟩ : HD) o d) b2 Y.out (fun W hS => hS.rd 2 rfl) HP.out.whole.bds kb1 (by omega) (by omega) (by omega)).mono ?_
      rintro e w6 ⟨A6, n6, c6, G6, rfl, hl6, hG6, hS⟩
      rw [HBS.out b2 (.inr rfl)] at hG6 ⊢
      have hG6' : G6 = [] := List.map_eq_nil_iff.1 hG6
      subst hG6'
      replace hl6 : (0 : Nat) = n6 := hl6
      subst hl6
      have Z := Lib.hid (show SP w w6 (.own .i64 3 (some ⟨LB, 0, none⟩) 2 2 [mn, b2] :: [.blk SB 25 #[.int .u8 h0, .int .u8 h1, .int .u8 h2, .int .u8 h3, .int .u8 h4, .int .u8 h5, .int .u8 h6, .int .u8 h7, .int .u8 h8, .int .u8 h9, .int .u8 h10, .int .u8 h11, .int .u8 words, .int .u8 far, .int .u8 many, .bool df, .bool mf, .slice A n c], .own .u8 5 Ab nb cb (pktB (⟨vt, vi, false, false, 0, vl, vp, vs, vx⟩ : HD) o d)]) from hS.tail)
      clear hS hG6 hc0 hc1 Y
      go_wp2_with fail
      go_roundw
      case rel => exact ⟨2, by omega, rfl, Z.out⟩
      case measure => simp [intOf]
    · have X5 := Lib.hid Y.out.tail
      clear Y hc0 hc1 HBS
      go_wp2_with fail
      refine (tnew 3 8 X5.out ⟨by omega, by omega⟩ ⟨by omega, by omega⟩).mono ?_
      rintro e w6 ⟨TB, rfl, hT⟩
      have X6 := Lib.hid hT
      clear hT X5
      go_wp2_with fail
      refine (tput X6.out Ab nb cb (pktB (⟨vt, vi, false, false, 0, vl, vp, vs, vx⟩ : HD) o d) 20 (fun W hS => hS.rd 1 rfl) HP.out.whole.bds kb1 (by omega)).mono ?_
      rintro e w7 ⟨A7, n7, c7, rfl, hn7, hT⟩
      rw [whole_put HP.out.whole (late_no (by show (0 : Int) ≤ 20; omega) (by omega)), show passA ⟨3, 8, 0, []⟩ 20 = ⟨3, 8, 20, []⟩ from rfl] at hT hn7
      rw [whole_put HP.out.whole (late_no (by show (0 : Int) ≤ 20; omega) (by omega))]
      have hn7' : nb = n7 := by have := HNB.out; simp only at hn7; omega
      subst hn7'
      have X7 := Lib.hid hT
      clear hT hn7 X6
      go_wp2_with fail
      refine (same_any A7 Ab nb c7 nb cb (pktB (⟨vt, vi, false, false, 0, vl, vp, vs, vx⟩ : HD) o d) (pktB (⟨vt, vi, false, false, 0, vl, vp, vs, vx⟩ : HD) o d) _ (X7.out.right.rd 0 rfl) (X7.out.right.rd 2 rfl) (by omega) (by omega)).mono ?_
      rintro e w8 ⟨rfl, m8, rfl⟩
      rw [show (pktB (⟨vt, vi, false, false, 0, vl, vp, vs, vx⟩ : HD) o d == pktB (⟨vt, vi, false, false, 0, vl, vp, vs, vx⟩ : HD) o d) = true by simp]
      have X8 := Lib.hid (X7.out.tail.drewN m8)
      clear X7
      go_wp2_with fail
      refine (tgroups X8.out).mono ?_
      rintro e w9 ⟨GA, gc, rfl, hT⟩
      have X9 := Lib.hid hT.tail
      clear hT X8
      go_wp2_with fail
      refine (tnow X9.out).mono ?_
      rintro e wa ⟨rfl, hwa⟩
      subst hwa
      go_wp2_with fail
      refine (tabsplit X9.out Ab nb cb (pktB (⟨vt, vi, false, false, 0, vl, vp, vs, vx⟩ : HD) o d) 8 (fun W hS => hS.rd 1 rfl) HP.out.whole.bds kb1 (by omega) (by omega) (by omega)).mono ?_
      rintro e wb ⟨Al, nl, cl, G, rfl, hGl, hGM, hT⟩
      rw [show splitA (pktB (⟨vt, vi, false, false, 0, vl, vp, vs, vx⟩ : HD) o d) 8 = ((pieces ⟨(⟨vt, vi, false, false, 0, vl, vp, vs, vx⟩ : HD), o, d⟩ 8).map bytesF, 0) from split_whole (s := 8) HP.out.whole HP.out.df (by omega) (by omega)] at hGM ⊢
      have PI := Lib.hid (show PIECES (⟨vt, vi, false, false, 0, vl, vp, vs, vx⟩ : HD) o d 8 G from ⟨HP.out, by omega, by omega, by omega, hGM⟩)
      have hc12 := PI.out.cnt_le
      have HNL := Lib.hid (show G.length = nl ∧ nl = cnt d.length 8 from ⟨hGl, by rw [← hGl]; exact PI.out.len⟩)
      have hnl2 : 2 ≤ nl ∧ nl ≤ 12 := by
        have h2 := HNL.out.2
        have h3 := cnt_two (n := d.length) (s := 8) (by omega) (by omega)
        omega
      obtain ⟨lg, hlg, _⟩ := row_head (hT.right.row 0 rfl) (by omega)
      subst hlg
      have X10 := Lib.hid hT
      clear hT hGM hGl hc12 X9
      have RF := Lib.hid (fun (W : World) (hs : SP w W (.row 23 1 (some ⟨lg, 0, none⟩) nl cl (G.map gV) :: (G.map gIT ++ [.blk SB 25 #[.int .u8 h0, .int .u8 h1, .int .u8 h2, .int .u8 h3, .int .u8 h4, .int .u8 h5, .int .u8 h6, .int .u8 h7, .int .u8 h8, .int .u8 h9, .int .u8 h10, .int .u8 h11, .int .u8 words, .int .u8 far, .int .u8 many, .bool df, .bool mf, .slice A n c], .own .u8 5 Ab nb cb (pktB (⟨vt, vi, false, false, 0, vl, vp, vs, vx⟩ : HD) o d)]))) => (show PKS W (some ⟨lg, 0, none⟩) G ∧ RD .u8 W W.heap.size Ab nb (pktB (⟨vt, vi, false, false, 0, vl, vp, vs, vx⟩ : HD) o d) from ⟨pks_split PI.out hs, hs.tail.right.rd 1 rfl⟩))
      generalize hR0 : (.row 23 1 (some ⟨lg, 0, none⟩) nl cl (G.map gV) :: (G.map gIT ++ [.blk SB 25 #[.int .u8 h0, .int .u8 h1, .int .u8 h2, .int .u8 h3, .int .u8 h4, .int .u8 h5, .int .u8 h6, .int .u8 h7, .int .u8 h8, .int .u8 h9, .int .u8 h10, .int .u8 h11, .int .u8 words, .int .u8 far, .int .u8 many, .bool df, .bool mf, .slice A n c], .own .u8 5 Ab nb cb (pktB (⟨vt, vi, false, false, 0, vl, vp, vs, vx⟩ : HD) o d)]) : List IT) = R0 at X10 RF
      clear hR0
      have HPK := Lib.hid (fun (W : World) (hS : SP w W R0) (j : Nat) (hj : j < nl) => (show ∃ gA gn gc, W.cell? ⟨lg, j, none⟩ = some (.slice gA gn gc) ∧ G[j]? = some (⟨gA, gn, gc⟩, bytesF (pieceF ⟨(⟨vt, vi, false, false, 0, vl, vp, vs, vx⟩ : HD), o, d⟩ 8 j)) ∧ gn ≤ gc ∧ gn ≤ 140737488351232 from by
        obtain ⟨⟨gA, gn, gc⟩, hg⟩ := PI.out.at_ (j := j) (by have := HNL.out.2; omega)
        obtain ⟨⟨lb, lof, hlg, x1⟩, p2, p3, p4, p5⟩ := (RF.out W hS).1 j _ hg
        cases hlg
        rw [Nat.zero_add] at x1
        exact ⟨gA, gn, gc, x1, hg, p4, p5⟩))
      have t1 : ¬ (nl : Int) < 2 := by omega
      have t2 : (0 : Int) < (nl : Int) := by omega
      have t3 : (1 : Int) < (nl : Int) := by omega
      obtain ⟨A0, n0, c0, x0, hg0, k0, m0⟩ := HPK.out wb X10.out.right 0 (by omega)
      have H0P := Lib.hid (fun (W : World) (hS : SP w W R0) => (show RD .u8 W W.heap.size A0 n0 (bytesF (pieceF ⟨(⟨vt, vi, false, false, 0, vl, vp, vs, vx⟩ : HD), o, d⟩ 8 0)) from ((RF.out W hS).1 0 _ hg0).2.1))
      obtain ⟨A1, n1, c1, x1, hg1, k1, m1⟩ := HPK.out wb X10.out.right 1 (by omega)
      have H1P := Lib.hid (fun (W : World) (hS : SP w W R0) => (show RD .u8 W W.heap.size A1 n1 (bytesF (pieceF ⟨(⟨vt, vi, false, false, 0, vl, vp, vs, vx⟩ : HD), o, d⟩ 8 1)) ∧ W.cell? ⟨lg, 1, none⟩ = some (.slice A1 n1 c1) from by
        refine ⟨((RF.out W hS).1 1 _ hg1).2.1, ?_⟩
        obtain ⟨A', n', c', y1, y2, _⟩ := HPK.out W hS 1 (by omega)
        rw [hg1] at y2
        cases y2
        exact y1))
      have hf0 := PI.out.frg (j := 0) (by have := HNL.out.2; omega)
      have hf1 := PI.out.frg (j := 1) (by have := HNL.out.2; omega)
      have HF1 := Lib.hid hf1
      have hn1 : n1 = 20 + o.length + (pieceF ⟨(⟨vt, vi, false, false, 0, vl, vp, vs, vx⟩ : HD), o, d⟩ 8 1).d.length := by rw [← frg_len hf1]; exact ((RF.out wb X10.out.right).1 1 _ hg1).2.1.len.symm
      have HN1 := Lib.hid hn1
      have hn1b : 20 ≤ n1 ∧ n1 ≤ 100 := by
        have h2 := pieceF_len ⟨(⟨vt, vi, false, false, 0, vl, vp, vs, vx⟩ : HD), o, d⟩ 8 1
        have h3 := HP.out.right.2.2.2.1
        simp only at h2
        omega
      clear hn1
      have HPU0 := Lib.hid (tput X10.out A0 n0 c0 (bytesF (pieceF ⟨(⟨vt, vi, false, false, 0, vl, vp, vs, vx⟩ : HD), o, d⟩ 8 0)) 21 (fun W hS => H0P.out W hS) hf0.bds k0 m0)
      have hput := put_one HP.out.whole (s := 8) (by omega) (by omega) (σ := []) (iy := (List.range (nl - 1)).map (1 + ·)) (k := 0) (by rw [← HNL.out.2, show nl = 1 + (nl - 1) by omega, List.range_add, show 1 + (nl - 1) - 1 = nl - 1 by omega]; exact List.Perm.refl _) (by have := HNL.out.2; omega) (T := ⟨3, 8, 20, []⟩) (now := 21) (beg := 21) (m := none) (late_no (by show (20 : Int) ≤ 21; omega) (by omega)) rfl (.inl (GSTO.nil _ _ _ _)) (by show (0 : Int) < 3; omega)
      rw [if_neg (by intro e; have := congrArg List.length e; simp at this; omega)] at hput
      obtain ⟨g9, hput, hg9⟩ := hput
      have HPUT := Lib.hid (show putA ⟨3, 8, 20, []⟩ 21 (bytesF (pieceF ⟨(⟨vt, vi, false, false, 0, vl, vp, vs, vx⟩ : HD), o, d⟩ 8 0)) = (⟨3, 8, 21, [g9]⟩, [], 0) from hput)
      have HG9 := Lib.hid hg9
      have hp08 : (pieceF ⟨(⟨vt, vi, false, false, 0, vl, vp, vs, vx⟩ : HD), o, d⟩ 8 0).d.length = 8 := by
        have h2 := pieceF_len ⟨(⟨vt, vi, false, false, 0, vl, vp, vs, vx⟩ : HD), o, d⟩ 8 0
        simp only at h2
        omega
      have HP08 := Lib.hid hp08
      have HK1 := Lib.hid (And.intro k1 m1)
      have HMM := Lib.hid (And.intro hmn7 (And.intro hb2m hpk))
      clear hput hg9 hf0 hf1 hg0 hg1 hp08 k0 k1 m0 m1 hmn7 hb2m hpk
      go_wp2_with fail
      refine HPU0.out.mono ?_
      rintro e wc ⟨A8, n8, c8, rfl, hn8, hT⟩
      rw [HPUT.out] at hT hn8 ⊢
      have X11 := Lib.hid hT.tail
      clear hT hn8 HPU0 x0 x1
      obtain ⟨P1, hP1⟩ : ∃ z, bytesF (pieceF ⟨(⟨vt, vi, false, false, 0, vl, vp, vs, vx⟩ : HD), o, d⟩ 8 1) = z := ⟨_, rfl⟩
      have HP1 := Lib.hid hP1
      rw [hP1] at H1P
      have hbd1 : BD 255 P1 := by rw [← hP1]; exact HF1.out.bds
      have hp1l : P1.length = n1 := (H1P.out wc X11.out.right).1.len
      have y1 := (H1P.out wc X11.out.right).2
      have hlE : lg < wc.heap.size := World.block_lt_of_cell? _ _ y1
      obtain ⟨EB, hEB⟩ : ∃ b, wc.heap.size = b := ⟨_, rfl⟩
      have hlE2 : lg < EB := by rw [← hEB]; exact hlE
      have hlE3 : ¬ lg = EB := by omega
      have X12 := Lib.hid (show TAB w (wc.alloc (.cells #[] 5)) TB ⟨3, 8, 21, [g9]⟩ (.own .u8 5 (some ⟨EB, 0, none⟩) 0 0 [] :: R0) from X11.out.allocI .u8 5 [] (Nat.zero_le _) hEB)
      clear hP1
      go_upto_region 20 with (at_builtin; refine wpList_append_rd _ rfl _ _ 23 rfl .u8 w.heap.size 5 i0 1 Try.underlying23 hi hz0 hz1 hz2 (some ⟨EB, 0, none⟩) 0 0 [] rfl (X12.out.right.own 0 rfl) _ A1 n1 c1 P1 rfl (H1P.out _ X12.out.right.tail).1 (by simp only [maxLen]; omega) (by omega) X12.out.size ?_; intro A13 c13 w13 happ; have hX13 : TAB w w13 TB ⟨3, 8, 21, [g9]⟩ (.own .u8 5 A13 (0 + n1) c13 ([] ++ P1) :: R0) := X12.out.lift (fun B hS => SP.backOf (C := R0) ((SP.frontOf hS).app 0 rfl happ)); clear happ; rw [Nat.zero_add] at hX13 ⊢; rw [List.nil_append] at hX13; have X13 := Lib.hid hX13; clear hX13)
      clear hEB X12 X11 y1 hlE hlE2 hlE3
      obtain ⟨g13, hg13, _, _, h13c, _⟩ := (X13.out.right.own 0 rfl).form (by omega)
      subst hg13
      have z1 := (X13.out.right.own 0 rfl).cell (i := 11) (by omega)
      have z2 := (X13.out.right.own 0 rfl).frozen 11
      obtain ⟨v1, v2⟩ := hbd1.get (by omega) 11
      obtain ⟨vv, hvv⟩ : ∃ x, x = P1[11]?.getD 0 := ⟨_, rfl⟩
      rw [← hvv] at z1 v1 v2
      obtain ⟨jj, hjj⟩ : ∃ j : Nat, v % 8 = (j : Int) := ⟨(v % 8).toNat, by omega⟩
      have hj8 : jj < 8 := by omega
      have f1 : v.tmod 8 = (jj : Int) := by rw [Int.tmod_eq_emod_of_nonneg (by omega)]; exact hjj
      have f2 : IntKind.u8.wrap (jj : Int) = (jj : Int) := u8_in _ (by omega) (by omega)
      have f3 : (0 : Int) ≤ (jj : Int) := by omega
      have f4 : (jj : Int) ≤ 8 := by omega
      have f5 : IntKind.u8.wrap ((2 : Int) ^ jj) = 2 ^ jj := by
        have := (flipB_far vv hj8).2
        exact u8_in _ (by omega) (by omega)
      have f6 : bits .xor .u8 vv (2 ^ jj) = flipB vv jj := u8_xor_bit vv v1 v2 jj hj8
      have f7 : (11 : Int) < (n1 : Int) := by omega
      obtain ⟨BR, hBR⟩ : ∃ z, P1.set 11 (flipB vv jj) = z := ⟨_, rfl⟩
      have HBF := Lib.hid (show faultR BR = 4 ∧ BD 255 BR by
        constructor
        · have h2 := bit_head (h := (pieceF ⟨(⟨vt, vi, false, false, 0, vl, vp, vs, vx⟩ : HD), o, d⟩ 8 1).h) (opts := (pieceF ⟨(⟨vt, vi, false, false, 0, vl, vp, vs, vx⟩ : HD), o, d⟩ 8 1).o) (data := (pieceF ⟨(⟨vt, vi, false, false, 0, vl, vp, vs, vx⟩ : HD), o, d⟩ 8 1).d) HF1.out.ok.wf HF1.out.ok.op.1 HF1.out.right (k := 11) (j := jj) (by omega) (by omega) hj8
          have h3 : pktB (pieceF ⟨(⟨vt, vi, false, false, 0, vl, vp, vs, vx⟩ : HD), o, d⟩ 8 1).h (pieceF ⟨(⟨vt, vi, false, false, 0, vl, vp, vs, vx⟩ : HD), o, d⟩ 8 1).o (pieceF ⟨(⟨vt, vi, false, false, 0, vl, vp, vs, vx⟩ : HD), o, d⟩ 8 1).d = P1 := HP1.out
          rw [h3, ← hvv, hBR] at h2
          rcases h2 with h2 | h2
          · exact h2
          · omega
        · rw [← hBR]
          intro y hy
          rcases List.mem_or_eq_of_mem_set hy with hy | rfl
          · exact hbd1 y hy
          · have := flipB_bd v1 v2 hj8; omega)
      have X14 := Lib.hid (show TAB w (w13.setCell ⟨g13, 11, none⟩ (.int .u8 (flipB vv jj))) TB ⟨3, 8, 21, [g9]⟩ (.own .u8 5 (some ⟨g13, 0, none⟩) n1 c13 BR :: R0) from by
        rw [← hBR]
        exact X13.out.lift (fun B hS => SP.backOf (C := R0) ((SP.frontOf hS).setO 0 rfl 11 (flipB vv jj))))
      clear hjj hvv v1 v2 hBR hbd1
      go_upto_region 21 with fail
      generalize hw14 : w13.setCell ⟨g13, 11, none⟩ (.int .u8 (flipB vv jj)) = w14 at X14 ⊢
      clear hw14 X13 z1 z2 f1 f2 f3 f4 f5 f6 f7
      obtain ⟨lo, hlo⟩ : ∃ x : Int, (if (20 : Int) < q then (20 : Int) else q) = x := ⟨_, rfl⟩
      have HLO := Lib.hid (show lo ≤ 20 ∧ lo < 21 by rw [← hlo]; split <;> omega)
      have hy1 := (H1P.out _ X14.out.right.tail).2
      have HT1 := Lib.hid (fun (W : World) (x : Int) (hT : TAB w W TB ⟨3, 8, 21, [g9]⟩ (.own .u8 5 (some ⟨g13, 0, none⟩) n1 c13 BR :: R0)) => tput hT A1 n1 c1 P1 x (fun W hS => (H1P.out W hS.tail).1) (by rw [← HP1.out]; exact HF1.out.bds) HK1.out.1 HK1.out.2)
      go_wp2_with fail
      refine (HT1.out _ lo X14.out).mono ?_
      rintro e w15 ⟨A15, n15, c15, rfl, _, hT⟩
      rw [put_late7 (late_yes (.inl HLO.out.2))] at hT ⊢
      have X15 := Lib.hid hT.tail
      clear hT X14 hlo hy1
      have hy1 := (H1P.out _ X15.out.right.tail).2
      obtain ⟨hi2, hhi⟩ : ∃ x : Int, (if q < 1099511627777 then (1099511627777 : Int) else q) = x := ⟨_, rfl⟩
      have hhi' : (if (1099511627777 : Int) < q then q else (1099511627777 : Int)) = hi2 := by rw [← hhi]; split <;> split <;> omega
      have HHI := Lib.hid (show 1099511627776 < hi2 by rw [← hhi]; split <;> omega)
      go_wp2_with fail
      refine (HT1.out _ hi2 X15.out).mono ?_
      rintro e w16 ⟨A16, n16, c16, rfl, _, hT⟩
      rw [put_late7 (late_yes (.inr HHI.out))] at hT ⊢
      have X16 := Lib.hid hT.tail
      clear hT X15 hhi hhi' HT1 hy1
      go_wp2_with fail
      refine (tput X16.out (some ⟨g13, 0, none⟩) n1 c13 BR 25 (fun W hS => hS.rd 0 rfl) HBF.out.2 h13c (by omega)).mono ?_
      rintro e w17 ⟨A17, n17, c17, rfl, _, hT⟩
      have HIE := Lib.hid (show ipE BR = 54 by unfold ipE; rw [HBF.out.1]; rfl)
      rw [put_bad7 (late_no (by show (21 : Int) ≤ 25; omega) (by omega)) (by rw [HBF.out.1]; omega)] at hT
      rw [put_bad7 (late_no (by show (21 : Int) ≤ 25; omega) (by omega)) (by rw [HBF.out.1]; omega), HIE.out]
      have X17 := Lib.hid hT.tail
      clear hT X16
      obtain ⟨lo', hlo⟩ : ∃ x : Int, (if (20 : Int) < q then (20 : Int) else q) = x := ⟨_, rfl⟩
      have HLO2 := Lib.hid (show lo' < 21 by rw [← hlo]; split <;> omega)
      go_wp2_with fail
      refine (ttick X17.out lo').mono ?_
      rintro e w18 ⟨rfl, hT⟩
      rw [tick_late7 (late_yes (.inl HLO2.out))] at hT ⊢
      have X18 := Lib.hid hT
      clear hT X17 hlo
      obtain ⟨hi3, hhi⟩ : ∃ x : Int, (if q < 1099511627777 then (1099511627777 : Int) else q) = x := ⟨_, rfl⟩
      have hhi' : (if (1099511627777 : Int) < q then q else (1099511627777 : Int)) = hi3 := by rw [← hhi]; split <;> split <;> omega
      have HHI3 := Lib.hid (show 1099511627776 < hi3 by rw [← hhi]; split <;> omega)
      go_wp2_with fail
      refine (ttick X18.out hi3).mono ?_
      rintro e w19 ⟨rfl, hT⟩
      rw [tick_late7 (late_yes (.inr HHI3.out))] at hT ⊢
      have X19 := Lib.hid hT
      clear hT X18 hhi hhi'
      go_wp2_with fail
      refine (tgroups X19.out).mono ?_
      rintro e w20 ⟨GA2, gc2, rfl, hT⟩
      obtain ⟨gg, hgg, hgc⟩ := row_head (hT.right.row 0 rfl) (by show 0 < ([g9] : List AG).length; simp)
      subst hgg
      have HC := Lib.hid (show w20.cell? ⟨gg, 4, none⟩ = some (.int .i64 21) ∧ w20.cell? ⟨gg, 5, none⟩ = some (.int .i64 8) from by
        constructor
        · rw [hgc 4 (by show 4 < ([g9] : List AG).length * 7; simp)]
          show some (Value.int .i64 g9.begin_) = _
          rw [HG9.out.beg]; rfl
        · rw [hgc 5 (by show 5 < ([g9] : List AG).length * 7; simp)]
          show some (Value.int .i64 (bytesP g9.ps : Int)) = _
          rw [HG9.out.ps]
          show some (Value.int .i64 (sumF [pieceF ⟨(⟨vt, vi, false, false, 0, vl, vp, vs, vx⟩ : HD), o, d⟩ 8 0] : Int)) = _
          rw [sumF_one, HP08.out]; rfl)
      obtain ⟨gc4, gc5⟩ := HC.out
      have X20 := Lib.hid hT.tail
      clear hT X19 hgc HC
      go_wp2_with fail
      refine (tnow X20.out).mono ?_
      rintro e w21 ⟨rfl, hw21⟩
      subst hw21
      have ZB := Lib.hid (read_of HP.out.whole.parse)
      go_wp2_with fail
      refine (read_any Ab nb cb (pktB (⟨vt, vi, false, false, 0, vl, vp, vs, vx⟩ : HD) o d) _ (RF.out _ X20.out.right.tail).2 HP.out.whole.bds kb1 (by omega)).mono ?_
      rintro e w22 ⟨Ao, on, oc, rfl, owno, hbo⟩
      rw [ZB.out.1, ZB.out.2.1, ZB.out.2.2.1, ZB.out.2.2.2.1]
      rw [ZB.out.2.2.2.2] at owno
      have X21 := Lib.hid (X20.out.push hbo owno)
      have HON := Lib.hid owno.len
      clear hbo owno X20 gc4 gc5
      unfold HD.val HD.cells
      obtain ⟨HN, hHN⟩ : ∃ b, w22.heap.size = b := ⟨_, rfl⟩
      have X22 := Lib.hid (X21.out.alloc 49 #[.int .u8 vt, .int .u16 vi, .bool false, .bool false, .int .i64 0, .int .u8 vl, .int .u8 vp, .int .u32 vs, .int .u32 vx, .slice Ao on oc] hHN)
      obtain ⟨fr, hfr⟩ : ∃ fr, 20 + o.length = fr := ⟨_, rfl⟩
      have hnb2 : fr + d.length = nb := by rw [← HNB.out, pkt_len, hfr]
      rw [hfr, hnb2]
      have HFR := Lib.hid (And.intro hfr hnb2)
      clear hfr hnb2
      go_upto_region 30 with fail
      try rw [hHN]
      generalize hw23 : w22.alloc (.cells #[.int .u8 vt, .int .u16 vi, .bool false, .bool false, .int .i64 0, .int .u8 vl, .int .u8 vp, .int .u32 vs, .int .u32 vx, .slice Ao on oc] 49) = w23 at X22 ⊢
      clear hw23 hHN X21
      have q2 := X22.out.right.free 0 rfl 2
      have y2 := X22.out.right.cell 0 rfl 2 (v := .bool false) rfl
      have X23 := Lib.hid (show TAB w (w23.setCell ⟨HN, 2, none⟩ (.bool true)) TB ⟨3, 8, 21, [g9]⟩ (.blk HN 49 #[.int .u8 vt, .int .u16 vi, .bool true, .bool false, .int .i64 0, .int .u8 vl, .int .u8 vp, .int .u32 vs, .int .u32 vx, .slice Ao on oc] :: .own .u8 5 Ao on oc o :: .own .u8 5 (some ⟨g13, 0, none⟩) n1 c13 BR :: R0) from X22.out.lift (fun B hS => SP.backOf ((SP.frontOf hS).setB 0 rfl 2 (.bool true))))
      go_upto_region 31 with fail
      generalize hw24 : w23.setCell ⟨HN, 2, none⟩ (.bool true) = w24 at X23 ⊢
      clear hw24 X22 q2 y2
      have XD := Lib.hid X23.out.drew
      clear X23
      have hfrn : fr ≤ nb := by have := HFR.out.2; omega
      have s1 := fun W => run_slice_lo (P := Try.prog) W Try.underlying23 hi hz1 Ab nb cb (fr : Int) fr rfl hfrn
      refine wp_region_noPanic ?_
      refine wp_region_held_drew (S := fun W' => BLOCK W' HN 49 #[.int .u8 vt, .int .u16 vi, .bool true, .bool false, .int .i64 0, .int .u8 vl, .int .u8 vp, .int .u32 vs, .int .u32 vx, .slice Ao on oc]) (by kernel_rfl) (by exact XD.out.right.blk 0 rfl) (fun hHeld => ?_)
      generalize w24.drew = v1 at XD hHeld ⊢
      refine' take_lit (i := 0) (v := .agg (#[.int .u8 vt, .int .u16 vi, .bool true, .bool false, .int .i64 0, .int .u8 vl, .int .u8 vp, .int .u32 vs, .int .u32 vx, .slice Ao on oc])) rfl (by kernel_rfl) (by kernel_rfl) (by kernel_rfl) (fun _ _ _ h => h) (Or.inl ⟨by rfl, ?yy1⟩) (by assumption) ?rr1
      case yy1 => intro w' hSw; exact exec_load_row 49 _ rfl HN rfl 49 (#[.int .u8 vt, .int .u16 vi, .bool true, .bool false, .int .i64 0, .int .u8 vl, .int .u8 vp, .int .u32 vs, .int .u32 vx, .slice Ao on oc]) (0, 0) _ (hSw) Try.underlying49 rfl (by kernel_rfl)
      (try simp only [Act.put]); (try simp only [List.setIfInBounds_toArray, List.set_cons_zero, List.set_cons_succ])
      refine' take_lit (i := 1) (v := _) rfl (by kernel_rfl) (by kernel_rfl) (by kernel_rfl) (fun _ _ _ h => h) (Or.inl ⟨by rfl, ?yy2⟩) (by assumption) ?rr2
      case yy2 => intro w' hSw; (try dsimp only at hSw); go_simp; try (with_reducible rfl)
      (try simp only [Act.put]); (try simp only [List.setIfInBounds_toArray, List.set_cons_zero, List.set_cons_succ])
      refine' take_lit (i := 2) (v := _) rfl (by kernel_rfl) (by kernel_rfl) (by kernel_rfl) (fun _ _ _ h => h) (Or.inl ⟨by rfl, ?yy3⟩) (by assumption) ?rr3
      case yy3 => intro w' hSw; (try dsimp only at hSw); go_simp; try (with_reducible rfl)
      (try simp only [Act.put]); (try simp only [List.setIfInBounds_toArray, List.set_cons_zero, List.set_cons_succ])
      refine' take_lit (i := 3) (v := _) rfl (by kernel_rfl) (by kernel_rfl) (by kernel_rfl) (fun _ _ _ h => h) (Or.inl ⟨by rfl, ?yy4⟩) (by assumption) ?rr4
      case yy4 => intro w' hSw; (try dsimp only at hSw); go_simp; try (with_reducible rfl)
      (try simp only [Act.put]); (try simp only [List.setIfInBounds_toArray, List.set_cons_zero, List.set_cons_succ])
      refine wpAnyH_ready (rs := [4]) (by kernel_rfl) (by simp) ?_
      refine cons_lit rfl (fun K hK => ?ss4x5) AllReadyH.nil
      case ss4x5 =>
        go_simp
        refine (write_yes ⟨vt, vi, true, false, 0, vl, vp, vs, vx⟩ Ao on oc o (cutA Ab cb fr) (nb - fr) (cb - fr) d v1 ⟨HP.out.wf.tos, HP.out.wf.id, HP.out.wf.off, HP.out.wf.ttl, HP.out.wf.proto, HP.out.wf.src, HP.out.wf.dst⟩ (XD.out.right.rd 1 rfl) HP.out.op ?rdd ?rgt).mono ?_
        case rdd =>
          have h2 := (RF.out v1 XD.out.right.tail.tail.tail).2.cutA (lo := fr) hfrn kb1
          have h3 : (pktB (⟨vt, vi, false, false, 0, vl, vp, vs, vx⟩ : HD) o d).drop fr = d := by
            rw [← HFR.out.1]
            unfold pktB
            rw [List.drop_left' (by rw [fixOf_len, headB_len])]
          rw [h3] at h2
          exact h2
        case rgt =>
          have h2 := HP.out.right
          rw [HON.out] at h2
          have h4 : nb - fr = d.length := by have := HFR.out.2; omega
          rw [h4]
          exact h2
        rintro e v2 ⟨A9, n9, c9, rfl, ho9, hb9⟩
        have Y1 := Lib.hid (XD.out.push hb9 ho9)
        clear ho9 hb9 XD
        try simp only [Oper.upon_returned]
        refine hK.out _ _ (by exact Y1.out.right.blk 1 rfl) (fun hHeld => ?_)
        clear hK K
        (try simp only [Act.put]); (try simp only [List.setIfInBounds_toArray, List.set_cons_zero, List.set_cons_succ])
        refine' take_lit (i := 5) (v := _) rfl (by kernel_rfl) (by kernel_rfl) (by kernel_rfl) (fun _ _ _ h => h) (Or.inl ⟨by rfl, ?yy6⟩) (by assumption) ?rr6
        case yy6 => intro w' hSw; (try dsimp only at hSw); go_simp; try (with_reducible rfl)
        (try simp only [Act.put]); (try simp only [List.setIfInBounds_toArray, List.set_cons_zero, List.set_cons_succ])
        refine' take_lit (i := 6) (v := _) rfl (by kernel_rfl) (by kernel_rfl) (by kernel_rfl) (fun _ _ _ h => h) (Or.inl ⟨by rfl, ?yy7⟩) (by assumption) ?rr7
        case yy7 => intro w' hSw; (try dsimp only at hSw); go_simp; try (with_reducible rfl)
        (try simp only [Act.put]); (try simp only [List.setIfInBounds_toArray, List.set_cons_zero, List.set_cons_succ])
        refine' take_lit (i := 7) (v := _) rfl (by kernel_rfl) (by kernel_rfl) (by kernel_rfl) (fun _ _ _ h => h) (Or.inl ⟨by rfl, ?yy8⟩) (by assumption) ?rr8
        case yy8 => intro w' hSw; (try dsimp only at hSw); go_simp; try (with_reducible rfl)
        (try simp only [Act.put]); (try simp only [List.setIfInBounds_toArray, List.set_cons_zero, List.set_cons_succ])
        refine' take_lit (i := 8) (v := _) rfl (by kernel_rfl) (by kernel_rfl) (by kernel_rfl) (fun _ _ _ h => h) (Or.inl ⟨by rfl, ?yy9⟩) (by assumption) ?rr9
        case yy9 => intro w' hSw; (try dsimp only at hSw); go_simp; try (with_reducible rfl)
        (try simp only [Act.put]); (try simp only [List.setIfInBounds_toArray, List.set_cons_zero, List.set_cons_succ])
        refine' take_lit (i := 9) (v := _) rfl (by kernel_rfl) (by kernel_rfl) (by kernel_rfl) (fun _ _ _ h => h) (Or.inl ⟨by rfl, ?yy10⟩) (by assumption) ?rr10
        case yy10 => intro w' hSw; (try dsimp only at hSw); go_simp; try (with_reducible rfl)
        (try simp only [Act.put]); (try simp only [List.setIfInBounds_toArray, List.set_cons_zero, List.set_cons_succ])
        refine wpAnyH_done (by kernel_rfl) ?_ _
        refine NoPanic.normal ?_
        clear s1
        have hle9 := (Y1.out.right.own 0 rfl).le.1
        have hl9 := (Y1.out.right.own 0 rfl).len
        rw [pkt_len] at hl9
        have hn9 : n9 ≤ 200 := by have := HFR.out.1; have := HFR.out.2; omega
        have W2 := Lib.hid (show WHOLE ⟨vt, vi, true, false, 0, vl, vp, vs, vx⟩ o d from ⟨⟨HP.out.wf.tos, HP.out.wf.id, HP.out.wf.off, HP.out.wf.ttl, HP.out.wf.proto, HP.out.wf.src, HP.out.wf.dst⟩, rfl, rfl, HP.out.right, HP.out.op, HP.out.bd, by omega⟩)
        clear hl9
        go_wp2_with fail
        refine (tabsplit Y1.out A9 n9 c9 (pktB ⟨vt, vi, true, false, 0, vl, vp, vs, vx⟩ o d) 8 (fun W hS => hS.rd 0 rfl) W2.out.bds hle9 (by omega) (by omega) (by omega)).mono ?_
        rintro e w25 ⟨Al2, nl2, cl2, G2, rfl, hGl2, hG2, hT⟩
        rw [split_df W2.out rfl (by omega)] at hG2 ⊢
        have hG2' : G2 = [] := List.map_eq_nil_iff.1 hG2
        subst hG2'
        replace hGl2 : (0 : Nat) = nl2 := hGl2
        subst hGl2
        have Y2 := Lib.hid (show TAB w w25 TB ⟨3, 8, 21, [g9]⟩ (.own .u8 5 A9 n9 c9 (pktB ⟨vt, vi, true, false, 0, vl, vp, vs, vx⟩ o d) :: .blk HN 49 #[.int .u8 vt, .int .u16 vi, .bool true, .bool false, .int .i64 0, .int .u8 vl, .int .u8 vp, .int .u32 vs, .int .u32 vx, .slice Ao on oc] :: .own .u8 5 Ao on oc o :: .own .u8 5 (some ⟨g13, 0, none⟩) n1 c13 BR :: R0) from hT.tail)
        clear hT Y1 hG2
        go_wp2_with fail
        refine (tabsplit Y2.out (some ⟨g13, 0, none⟩) n1 c13 BR 8 (fun W hS => hS.rd 3 rfl) HBF.out.2 h13c (by omega) (by omega) (by omega)).mono ?_
        rintro e w26 ⟨Al3, nl3, cl3, G3, rfl, hGl3, hG3, hT⟩
        rw [split_fault (by rw [HBF.out.1]; omega), HIE.out]
        have Y3 := Lib.hid (show SP w w26 [] from hT.right.sub (List.nil_sublist _))
        clear hT Y2 hG3 hGl3
        obtain ⟨l0, hl0⟩ : ∃ x : Int, (if (0 : Int) < q then (0 : Int) else q) = x := ⟨_, rfl⟩
        obtain ⟨h65, hh65⟩ : ∃ x : Int, (if q < 65 then (65 : Int) else q) = x := ⟨_, rfl⟩
        have hh65' : (if (65 : Int) < q then q else (65 : Int)) = h65 := by rw [← hh65]; split <;> split <;> omega
        obtain ⟨h16, hh16⟩ : ∃ x : Int, (if q < 16777216 then (16777216 : Int) else q) = x := ⟨_, rfl⟩
        have hh16' : (if (16777216 : Int) < q then q else (16777216 : Int)) = h16 := by rw [← hh16]; split <;> split <;> omega
        have HLH := Lib.hid (show l0 ≤ 0 ∧ 65 ≤ h65 ∧ 16777216 ≤ h16 by
          rw [← hl0, ← hh65, ← hh16]
          refine ⟨?_, ?_, ?_⟩ <;> split <;> omega)
        obtain ⟨LB2, hLB2⟩ : ∃ b, w26.heap.size = b := ⟨_, rfl⟩
        have Y4 := Lib.hid (show SP w (w26.alloc (.cells #[.int .i64 l0, .int .i64 5, .int .i64 h65, .int .i64 5, .int .i64 5, .int .i64 l0, .int .i64 5, .int .i64 h16] 53)) [.blk LB2 53 #[.int .i64 l0, .int .i64 5, .int .i64 h65, .int .i64 5, .int .i64 5, .int .i64 l0, .int .i64 5, .int .i64 h16]] from Y3.out.alloc' 53 _ hLB2)
        go_upto_region 35 with fail
        clear hl0 hh65 hh65' hh16 hh16'
        try rw [hLB2]
        generalize hw27 : w26.alloc (.cells #[.int .i64 l0, .int .i64 5, .int .i64 h65, .int .i64 5, .int .i64 5, .int .i64 l0, .int .i64 5, .int .i64 h16] 53) = w27 at Y4 ⊢
        clear hw27 hLB2 Y3
        go_loopw [39, 40, 41, 258] (fun _ _ _ s258 wr => ∃ (k : Nat), k ≤ 4 ∧ s258 = .int .i64 (k : Int) ∧ SP w wr [.blk LB2 53 #[.int .i64 l0, .int .i64 5, .int .i64 h65, .int .i64 5, .int .i64 5, .int .i64 l0, .int .i64 5, .int .i64 h16]]) (fun _ _ _ s258 _ => 4 - (intOf s258).toNat)
        case atStart => exact ⟨0, by omega, rfl, Y4.out⟩
        case round =>
          obtain ⟨k, hk, rfl, V0⟩ := hrel
          have V := Lib.hid V0
          clear V0 Y4
          have b0 := V.out.cell 0 rfl 0 (v := .int .i64 l0) rfl
          have b1 := V.out.cell 0 rfl 1 (v := .int .i64 5) rfl
          have b2 := V.out.cell 0 rfl 2 (v := .int .i64 h65) rfl
          have b3 := V.out.cell 0 rfl 3 (v := .int .i64 5) rfl
          have b4 := V.out.cell 0 rfl 4 (v := .int .i64 5) rfl
          have b5 := V.out.cell 0 rfl 5 (v := .int .i64 l0) rfl
          have b6 := V.out.cell 0 rfl 6 (v := .int .i64 5) rfl
          have b7 := V.out.cell 0 rfl 7 (v := .int .i64 h16) rfl
          have hk4 : k = 0 ∨ k = 1 ∨ k = 2 ∨ k = 3 ∨ k = 4 := by omega
          rcases hk4 with rfl | rfl | rfl | rfl | rfl
          · go_wp2_with fail
            refine (new_no _ l0 5 (by have := HLH.out; omega)).mono ?_
            rintro e w28 ⟨rfl, hw28⟩
            have Z := Lib.hid (show SP w w28 [.blk LB2 53 #[.int .i64 l0, .int .i64 5, .int .i64 h65, .int .i64 5, .int .i64 5, .int .i64 l0, .int .i64 5, .int .i64 h16]] by rw [hw28]; exact V.out.next ((Below.refl _ _).alloc (Nat.le_refl _) _))
            clear hw28 V b0 b1 b2 b3 b4 b5 b6 b7
            go_wp2_with fail
            go_roundw
            case rel => exact ⟨1, by omega, rfl, Z.out⟩
            case measure => simp [intOf]
          · go_wp2_with fail
            refine (new_no _ h65 5 (by have := HLH.out; omega)).mono ?_
            rintro e w28 ⟨rfl, hw28⟩
            have Z := Lib.hid (show SP w w28 [.blk LB2 53 #[.int .i64 l0, .int .i64 5, .int .i64 h65, .int .i64 5, .int .i64 5, .int .i64 l0, .int .i64 5, .int .i64 h16]] by rw [hw28]; exact V.out.next ((Below.refl _ _).alloc (Nat.le_refl _) _))
            clear hw28 V b0 b1 b2 b3 b4 b5 b6 b7
            go_wp2_with fail
            go_roundw
            case rel => exact ⟨2, by omega, rfl, Z.out⟩
            case measure => simp [intOf]
          · go_wp2_with fail
            refine (new_no _ 5 l0 (by have := HLH.out; omega)).mono ?_
            rintro e w28 ⟨rfl, hw28⟩
            have Z := Lib.hid (show SP w w28 [.blk LB2 53 #[.int .i64 l0, .int .i64 5, .int .i64 h65, .int .i64 5, .int .i64 5, .int .i64 l0, .int .i64 5, .int .i64 h16]] by rw [hw28]; exact V.out.next ((Below.refl _ _).alloc (Nat.le_refl _) _))
            clear hw28 V b0 b1 b2 b3 b4 b5 b6 b7
            go_wp2_with fail
            go_roundw
            case rel => exact ⟨3, by omega, rfl, Z.out⟩
            case measure => simp [intOf]
          · go_wp2_with fail
            refine (new_no _ 5 h16 (by have := HLH.out; omega)).mono ?_
            rintro e w28 ⟨rfl, hw28⟩
            have Z := Lib.hid (show SP w w28 [.blk LB2 53 #[.int .i64 l0, .int .i64 5, .int .i64 h65, .int .i64 5, .int .i64 5, .int .i64 l0, .int .i64 5, .int .i64 h16]] by rw [hw28]; exact V.out.next ((Below.refl _ _).alloc (Nat.le_refl _) _))
            clear hw28 V b0 b1 b2 b3 b4 b5 b6 b7
            go_wp2_with fail
            go_roundw
            case rel => exact ⟨4, by omega, rfl, Z.out⟩
            case measure => simp [intOf]
          · have XE := Lib.hid V.out.bel
            clear b0 b1 b2 b3 b4 b5 b6 b7
            go_wp2_with fail
            go_ret
            exact ⟨rfl, XE.out⟩
end Go.Proofs.Ytljbfnabnkkfeaa
