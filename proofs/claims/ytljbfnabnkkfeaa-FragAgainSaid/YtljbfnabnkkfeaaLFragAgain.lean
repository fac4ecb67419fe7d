import Derived.Test.YtljbfnabnkkfeaaFgZ
import Derived.Test.YtljbfnabnkkfeaaWLists
/- bafflelaw07.FragAgain returns true. (Printed by gen_fglaws.py.) -/
namespace Go.Proofs.Ytljbfnabnkkfeaa
open Go.RowKit
set_option linter.unusedVariables false
set_option linter.unusedSimpArgs false

/-- what the pieces of the first j pieces are -/
def someP (f : FR) (s j : Nat) : List (List Int) := ((List.range j).map (pieceF f s)).flatMap (fun p => (splitA (bytesF p) 8).1)
theorem someP_next (f : FR) (s j : Nat) : someP f s (j + 1) = someP f s j ++ (splitA (bytesF (pieceF f s j)) 8).1 := by
  unfold someP
  rw [List.range_succ, List.map_append, List.flatMap_append]
  simp
theorem someP_all {h : HD} {o d : List Int} (W : WHOLE h o d) (hdf : h.df = false) {q : Nat} (hq : 1 ≤ q) : someP ⟨h, o, d⟩ (8 * q) (cnt d.length (8 * q)) = (pieces ⟨h, o, d⟩ 8).map bytesF := by
  rw [← pieces_pieces W hdf hq, List.flatMap_map]
  rfl
theorem someP_le (f : FR) (s : Nat) {j k : Nat} (h : j ≤ k) : (someP f s j).length ≤ (someP f s k).length := by
  unfold someP
  obtain ⟨m, rfl⟩ := Nat.exists_eq_add_of_le h
  rw [List.range_add, List.map_append, List.flatMap_append, List.length_append]
  omega
set_option maxHeartbeats 8000000 in
set_option maxRecDepth 100000 in
theorem fragAgain_walk (h0 h1 h2 h3 h4 h5 h6 h7 h8 h9 h10 h11 words far many : Int) (df mf : Bool) (A : Option Addr) (n c : Nat) (zs : List Int) (q : Int) (Bh : Option Addr) (bn bc : Nat) (ys : List Int) (w : World) (hb : BD 255 [h0, h1, h2, h3, h4, h5, h6, h7, h8, h9, h10, h11]) (hw : 0 ≤ words ∧ words ≤ 255) (hf : 0 ≤ far ∧ far ≤ 255) (hm : 0 ≤ many ∧ many ≤ 255) (h : ROW .u8 255 w A n c zs) (hq : 0 ≤ q ∧ q ≤ 255) (hB : ROW .u8 255 w Bh bn bc ys) :
    Calls Try.prog 9 #[.agg (sm18 h0 h1 h2 h3 h4 h5 h6 h7 h8 h9 h10 h11 words far many df mf (.slice A n c)), .int .u8 q, .slice Bh bn bc] w fun e w' => e = .returned (.bool true) ∧ Below w.heap.size w w' := by
  obtain ⟨i0, hi, hz0, hz1, hz2⟩ := info_parts infoU8
  obtain ⟨SB, hSB⟩ : ∃ b, b = w.heap.size := ⟨_, rfl⟩
  have X1 := Lib.hid ((SP.start w).alloc' (N := SB) 25 (sm18 h0 h1 h2 h3 h4 h5 h6 h7 h8 h9 h10 h11 words far many df mf (.slice A n c)) hSB.symm)
  have HM := Lib.hid (fun W (hW : Below w.heap.size w W) => made7_any h0 h1 h2 h3 h4 h5 h6 h7 h8 h9 h10 h11 words far many df mf A n c zs W hb hw hf hm (h.rd.later hW) h.bd h.le h.cap)
  have HBY := Lib.hid (fun W (hW : Below w.heap.size w W) => (hB.rd.below hW).more hW.size)
  have HBB := Lib.hid (And.intro hB.bd (And.intro hB.le hB.cap))
  clear hb hw hf hm h hB
  unfold sm18 at X1 HM ⊢
  generalize hHH : HDM h0 h1 h2 h3 h4 h5 h6 h7 h8 h9 h10 false false 0 = h at HM
  go_enter Try.func9, Try.ntmps9
  go_wp2_with fail
  rw [← hSB]
  generalize hw1 : w.alloc (.cells #[.int .u8 h0, .int .u8 h1, .int .u8 h2, .int .u8 h3, .int .u8 h4, .int .u8 h5, .int .u8 h6, .int .u8 h7, .int .u8 h8, .int .u8 h9, .int .u8 h10, .int .u8 h11, .int .u8 words, .int .u8 far, .int .u8 many, .bool df, .bool mf, .slice A n c] 25) = w1 at X1 ⊢
  clear hw1 hSB
  refine (awake7_any _).mono ?_
  rintro e w2 ⟨rfl, hb2⟩
  have X2 := Lib.hid (X1.out.next hb2)
  clear hb2 X1
  have HK := Lib.hid (X2.out.blk 0 rfl)
  go_wp2_with (refine wpList_load_row rfl 25 _ rfl SB rfl 25 #[.int .u8 h0, .int .u8 h1, .int .u8 h2, .int .u8 h3, .int .u8 h4, .int .u8 h5, .int .u8 h6, .int .u8 h7, .int .u8 h8, .int .u8 h9, .int .u8 h10, .int .u8 h11, .int .u8 words, .int .u8 far, .int .u8 many, .bool df, .bool mf, .slice A n c] (0, 0) _ HK.out Try.underlying25 rfl (by kernel_rfl) ?_)
  refine (HM.out _ X2.out.bel).mono ?_
  rintro e w3 ⟨o, d, Ab, nb, cb, rfl, hp, ho, hbl⟩
  have X3 := Lib.hid (show SP w w3 [.blk SB 25 #[.int .u8 h0, .int .u8 h1, .int .u8 h2, .int .u8 h3, .int .u8 h4, .int .u8 h5, .int .u8 h6, .int .u8 h7, .int .u8 h8, .int .u8 h9, .int .u8 h10, .int .u8 h11, .int .u8 words, .int .u8 far, .int .u8 many, .bool df, .bool mf, .slice A n c], .own .u8 5 Ab nb cb (pktB h o d)] from X2.out.pushOwn hbl ho)
  have HP := Lib.hid hp
  obtain ⟨kb1, kb2⟩ := ho.le
  have HNB := Lib.hid ho.len
  have hnb : nb ≤ 156 := by
    have h1 := ho.len
    have h2 := hp.len
    have h3 := hp.right.2.2.2.1
    rw [pkt_len] at h1; omega
  have hdl : 16 ≤ d.length ∧ d.length ≤ 96 := hp.len
  clear hp ho hbl X2 HM HK
  obtain ⟨s, hs, hs8, hs0, hs32⟩ := size_nat (1 + q % 3) (by omega)
  have a1 : q.tmod 3 = q % 3 := Int.tmod_eq_emod_of_nonneg (by omega)
  have a2 : IntKind.u8.wrap (q % 3) = q % 3 := u8_in _ (by omega) (by omega)
  have a3 : IntKind.u8.wrap (1 + q % 3) = 1 + q % 3 := u8_in _ (by omega) (by omega)
  go_wp2_with fail
  refine (size7s (1 + q % 3) (by omega) hs _).mono ?_
  rintro e w4 ⟨rfl, hw4⟩
  obtain rfl := hw4
  go_wp2_with fail
  refine (split7 HP.out hs8 hs0 hs32 Ab nb cb X3.out (fun W hS => hS.rd 1 rfl) kb1 (by omega)).mono ?_
  rintro e w5 ⟨lg, nl, cl, G, rfl, hGl, hnl, hPI, hS⟩
  have X4 := Lib.hid hS
  have PI := Lib.hid hPI
  have hc12 := hPI.cnt_le
  have HNL := Lib.hid (And.intro hGl hnl)
  have hnl12 : 1 ≤ nl ∧ nl ≤ 12 := by omega
  clear hS hPI hGl hnl X3 hs
  have RF := Lib.hid (fun (W : World) (hs : SP w W (.row 23 1 (some ⟨lg, 0, none⟩) nl cl (G.map gV) :: (G.map gIT ++ [.blk SB 25 #[.int .u8 h0, .int .u8 h1, .int .u8 h2, .int .u8 h3, .int .u8 h4, .int .u8 h5, .int .u8 h6, .int .u8 h7, .int .u8 h8, .int .u8 h9, .int .u8 h10, .int .u8 h11, .int .u8 words, .int .u8 far, .int .u8 many, .bool df, .bool mf, .slice A n c], .own .u8 5 Ab nb cb (pktB h o d)]))) => (show PKS W (some ⟨lg, 0, none⟩) G ∧ RD .u8 W W.heap.size Ab nb (pktB h o d) from ⟨pks_split PI.out hs, hs.tail.right.rd 1 rfl⟩))
  generalize hR0 : (.row 23 1 (some ⟨lg, 0, none⟩) nl cl (G.map gV) :: (G.map gIT ++ [.blk SB 25 #[.int .u8 h0, .int .u8 h1, .int .u8 h2, .int .u8 h3, .int .u8 h4, .int .u8 h5, .int .u8 h6, .int .u8 h7, .int .u8 h8, .int .u8 h9, .int .u8 h10, .int .u8 h11, .int .u8 words, .int .u8 far, .int .u8 many, .bool df, .bool mf, .slice A n c], .own .u8 5 Ab nb cb (pktB h o d)]) : List IT) = R0 at X4 RF
  clear hR0
  clear hc12
  obtain ⟨i9, hi9, hy0, hy1, hy2⟩ := info_parts (show (Try.prog.info? 23).map (fun i => (i.zero, i.size, i.bytes)) = some (some (.slice none 0 0), 1, 24) by kernel_rfl)
  obtain ⟨qq, hqq, hq1⟩ : ∃ qq : Nat, s = 8 * qq ∧ 1 ≤ qq := ⟨s / 8, by omega, by omega⟩
  subst hqq
  have HALL := Lib.hid (someP_all HP.out.whole HP.out.df hq1)
  have HN8 := Lib.hid (show ((pieces ⟨h, o, d⟩ 8).map bytesF).length ≤ 12 by unfold pieces; simp; rw [cnt8]; omega)
  have HD8 := Lib.hid HP.out.df
  go_upto_region 9 with fail
  go_loopw [10, 12, 13, 14, 37] (fun s10 _ _ _ s37 wr => ∃ (k : Nat) (A10 : Option Addr) (n10 c10 : Nat) (GA : List (SD × List Int)), k ≤ nl ∧ s10 = .slice A10 n10 c10 ∧ s37 = .int .i64 (k : Int) ∧ GA.length = n10 ∧ GA.map (·.2) = someP ⟨h, o, d⟩ (8 * qq) k ∧ SP w wr (.row 23 1 A10 n10 c10 (GA.map gV) :: (GA.map gIT ++ R0))) (fun _ _ _ _ s37 _ => nl - (intOf s37).toNat)
  case atStart => exact ⟨0, none, 0, 0, [], by omega, rfl, rfl, rfl, rfl, (X4.out.pushRow 23 1).rot⟩
  case round =>
    obtain ⟨k, A10, n10, c10, GA, hk, rfl, rfl, hGA, hGM, Y0⟩ := hrel
    have Y := Lib.hid Y0
    have HGA := Lib.hid (And.intro hGA hGM)
    clear Y0 X4 hGA hGM
    have hle12 : n10 ≤ 12 := by
      have h1 := someP_le ⟨h, o, d⟩ (8 * qq) (show k ≤ cnt d.length (8 * qq) by have := HNL.out.2; omega)
      rw [HALL.out, ← HGA.out.2, List.length_map] at h1
      have := HN8.out
      have := HGA.out.1
      omega
    have e6 : IntKind.i64.wrap ((k : Int) + 1) = (k : Int) + 1 := IntWalk.i64_in _ (by omega)
    by_cases hlt : k < nl
    · have i1 : (0 : Int) ≤ (k : Int) := by omega
      have i2 : (k : Int) < (nl : Int) := by omega
      obtain ⟨sd, hg⟩ := PI.out.at_ (j := k) (by have := HNL.out.2; omega)
      obtain ⟨⟨lb, lof, hlg, x1⟩, p2, p3, p4, p5⟩ := (RF.out wr Y.out.tail.right).1 k _ hg
      cases hlg
      obtain ⟨gA, gn, gc⟩ := sd
      have x2 : wr.cell? ⟨lg, k, none⟩ = some (.slice gA gn gc) := by rw [Nat.zero_add] at x1; exact x1
      have HSP := Lib.hid (split_piece HP.out.whole HD8.out hq1 ((lt_cnt (n := d.length) (k := k) (size := 8 * qq) (by omega)).1 (by have := HNL.out.2; omega)))
      have hfr := PI.out.frg (j := k) (by have := HNL.out.2; omega)
      have HS := Lib.hid (tsplit gA gn gc (bytesF (pieceF ⟨h, o, d⟩ (8 * qq) k)) 8 Y.out (fun W hS => ((RF.out W hS.tail.right).1 k _ hg).2.1) p3 p4 p5 (by omega) (by omega))
      have HPL := Lib.hid (cnt_pos (n := (pieceF ⟨h, o, d⟩ (8 * qq) k).d.length) (size := 8) (by omega) hfr.ne)
      clear p2 p3 p4 p5 hg hfr x1
      go_wp2_with fail
      refine HS.out.mono ?_
      rintro e w6 ⟨A13, n13, c13, GB, rfl, hl13, hGB, hS⟩
      rw [show (splitA (bytesF (pieceF ⟨h, o, d⟩ (8 * qq) k)) 8).2 = 0 by rw [HSP.out]]
      have hn13 : 1 ≤ n13 := by
        have h1 := congrArg List.length hGB
        rw [HSP.out] at h1
        simp at h1
        have := HPL.out
        omega
      have hsum : n10 + n13 ≤ 12 := by
        have h1 := someP_le ⟨h, o, d⟩ (8 * qq) (show k + 1 ≤ cnt d.length (8 * qq) by have := HNL.out.2; omega)
        rw [HALL.out, someP_next, ← HGA.out.2, ← hGB, List.length_append, List.length_map, List.length_map] at h1
        have := HN8.out
        have := HGA.out.1
        omega
      obtain ⟨g13, hg13, hgc⟩ := row_head (hS.row 0 rfl) (by omega)
      subst hg13
      have HG13 := Lib.hid hgc
      have HGB := Lib.hid (And.intro hl13 hGB)
      have X6 := Lib.hid (show SP w w6 (.row 23 1 A10 n10 c10 (GA.map gV) :: (.row 23 1 (some ⟨g13, 0, none⟩) n13 c13 (GB.map gV) :: (GB.map gIT ++ (GA.map gIT ++ R0)))) from SP.frontOf (A := .row 23 1 (some ⟨g13, 0, none⟩) n13 c13 (GB.map gV) :: GB.map gIT) (C := GA.map gIT ++ R0) hS)
      clear hS hgc hl13 hGB Y HS x2
      go_wp2_with (refine wpList_append_row1 _ rfl _ _ 30 rfl w.heap.size 23 i9 _ 1 24 Try.underlying30 hi9 hy0 hy1 hy2 (by rfl) (by decide) A10 n10 c10 (GA.map gV) rfl (X6.out.row 0 rfl) ⟨g13, 0, none⟩ n13 c13 (GB.map gV) rfl (by have := HGB.out.1; simp; omega) (by intro j u hu; have hj := (List.getElem?_eq_some_iff.1 hu).1; rw [List.length_map, HGB.out.1] at hj; rw [Addr.add_mid, Nat.zero_add, HG13.out j (by omega)]; exact hu) (by intro z hz; obtain ⟨gz, _, rfl⟩ := List.mem_map.1 hz; rfl) (by simp only [maxLen]; omega) (by omega) X6.out.size ?_; intro A9 c9 w9 hrow hgrow hat; have X9 := Lib.hid (X6.out.appRow 0 rfl hrow hgrow hat); clear hrow hgrow hat)
      have Z := Lib.hid (show SP w w9 (.row 23 1 A9 (n10 + n13) c9 ((GA ++ GB).map gV) :: ((GA ++ GB).map gIT ++ R0)) by
        have h1 : SP w w9 (.row 23 1 A9 (n10 + n13) c9 (GA.map gV ++ GB.map gV) :: (.row 23 1 (some ⟨g13, 0, none⟩) n13 c13 (GB.map gV) :: (GB.map gIT ++ (GA.map gIT ++ R0)))) := X9.out
        have h2 : SP w w9 (.row 23 1 A9 (n10 + n13) c9 (GA.map gV ++ GB.map gV) :: (GB.map gIT ++ (GA.map gIT ++ R0))) := h1.sub (List.Sublist.cons_cons _ (List.sublist_cons_self _ _))
        rw [List.map_append, List.map_append]
        refine h2.perm (List.Perm.cons _ ?_)
        rw [List.append_assoc, ← List.append_assoc, ← List.append_assoc (GA.map gIT)]
        exact List.perm_append_comm.append_right R0)
      clear X9 X6
      go_wp2_with fail
      go_roundw
      case rel => exact ⟨k + 1, A9, n10 + n13, c9, GA ++ GB, by omega, rfl, by go_num, by rw [List.length_append, HGA.out.1, HGB.out.1], by rw [List.map_append, HGA.out.2, HGB.out.2, someP_next], Z.out⟩
      case measure => simp [intOf]; omega
    · have t1 : ¬ (k : Int) < (nl : Int) := by omega
      obtain rfl : k = nl := by omega
      have HG2 := Lib.hid (show GA.map (·.2) = (pieces ⟨h, o, d⟩ 8).map bytesF by rw [HGA.out.2, ← HALL.out, HNL.out.2])
      have PA := Lib.hid (show PIECES h o d 8 GA from ⟨HP.out, by omega, by omega, by omega, HG2.out⟩)
      have hn10 : 1 ≤ n10 := by have := PA.out.cnt_le; have := PA.out.len; have := HGA.out.1; omega
      obtain ⟨g10, hg10, _⟩ := row_head (Y.out.row 0 rfl) (by omega)
      subst hg10
      go_wp2_with fail
      refine (split7 HP.out (s := 8) (by omega) (by omega) (by omega) Ab nb cb Y.out (fun W hS => (RF.out W hS.tail.right).2) kb1 (by omega)).mono ?_
      rintro e w5 ⟨lo, no, co, GO, rfl, hGl, hnl, hPI, hS⟩
      have hno : no = n10 := by rw [hnl]; have := PA.out.len; have := HGA.out.1; omega
      subst hno
      have PO := Lib.hid (And.intro hPI hGl)
      have RG := Lib.hid (fun (W : World) (hs : SP w W (.row 23 1 (some ⟨lo, 0, none⟩) no co (GO.map gV) :: (GO.map gIT ++ (.row 23 1 (some ⟨g10, 0, none⟩) no c10 (GA.map gV) :: (GA.map gIT ++ R0))))) => (show PKS W (some ⟨lo, 0, none⟩) GO ∧ PKS W (some ⟨g10, 0, none⟩) GA ∧ RD .u8 W W.heap.size Ab nb (pktB h o d) from ⟨pks_split PO.out.1 hs, pks_split PA.out hs.tail.right, (RF.out W hs.tail.right.tail.right).2⟩))
      generalize hR1 : (.row 23 1 (some ⟨lo, 0, none⟩) no co (GO.map gV) :: (GO.map gIT ++ (.row 23 1 (some ⟨g10, 0, none⟩) no c10 (GA.map gV) :: (GA.map gIT ++ R0))) : List IT) = R1 at hS RG
      clear hR1
      have X5 := Lib.hid hS
      clear hS hPI hGl hnl Y
      go_wp2_with fail
      refine (tnew 1 1 X5.out ⟨by omega, by omega⟩ ⟨by omega, by omega⟩).mono ?_
      rintro e w6 ⟨TB, rfl, hT⟩
      have X6 := Lib.hid hT
      clear hT X5
      go_wp2_with fail
      refine (shuf_any no (by omega) Bh bn bc ys w6 (HBY.out _ X6.out.bel) HBB.out.1 (by have := HBB.out.2; simp only [maxLen] at this; omega)).mono ?_
      rintro e w7 ⟨OA, oc, σ, rfl, hσ, ho, hbo⟩
      have X7 := Lib.hid (X6.out.push hbo ho)
      have HSG := Lib.hid hσ
      clear hσ ho hbo X6
      go_wp2_with fail
      refine (tputs X7.out 1099511627776 (some ⟨g10, 0, none⟩) no c10 GA OA no oc σ (by have := HGA.out.1; omega) (by omega) (fun W hS => (RG.out W hS.tail).2.1) (fun W hS => hS.rd 0 rfl) (fun i hi => by have := HSG.out.mem_iff.1 hi; have := HGA.out.1; simp at *; omega) (by omega)).mono ?_
      rintro e w8 ⟨A8, n8, c8, rfl, hn8, hT⟩
      obtain ⟨T9, hp1, hp2, _⟩ := puts_all (T := ⟨1, 1, 0, []⟩) (now := 1099511627776) HP.out.whole (s := 8) (by omega) (by omega) (σ := σ) (by have := PA.out.len; have := HGA.out.1; rw [show cnt d.length 8 = no by omega]; exact HSG.out) (by show (0 : Int) ≤ 1099511627776; omega) (by omega) (by show (0 : Int) < 1; omega) rfl (by show (0 : Int) < 1; omega)
      rw [PA.out.map (σ := σ) (fun i hi => by have := HSG.out.mem_iff.1 hi; have := PA.out.len; have := HGA.out.1; simp at *; omega), hp1] at hT hn8 ⊢
      have hn8' : n8 = nb := by have := HNB.out; simp only at hn8; omega
      subst hn8'
      have X8 := Lib.hid hT
      clear hT hn8 X7 hp1 hp2
      go_wp2_with fail
      refine (samelists_yes (some ⟨g10, 0, none⟩) (some ⟨lo, 0, none⟩) no c10 co GA GO w8 (RG.out w8 X8.out.right.tail.tail).2.1.rdl (RG.out w8 X8.out.right.tail.tail).1.rdl HGA.out.1 (by rw [HG2.out, PO.out.1.eq]) (by omega)).mono ?_
      rintro e w9 ⟨rfl, q9, rfl⟩
      have X9 := Lib.hid (X8.out.drewN q9)
      clear X8
      go_wp2_with fail
      refine (same_any A8 Ab n8 c8 n8 cb (pktB h o d) (pktB h o d) _ (X9.out.right.rd 0 rfl) (RG.out _ X9.out.right.tail.tail).2.2 (by omega) (by omega)).mono ?_
      rintro e wa ⟨rfl, qa, rfl⟩
      rw [show (pktB h o d == pktB h o d) = true by simp]
      have XA := Lib.hid (show Below w.heap.size w (w8.drewN (q9 + qa)) by have := (X9.out.drewN qa).bel; rwa [World.drewN_drewN] at this)
      clear X9
      go_wp2_with fail
      go_ret
      exact ⟨rfl, XA.out⟩
end Go.Proofs.Ytljbfnabnkkfeaa
