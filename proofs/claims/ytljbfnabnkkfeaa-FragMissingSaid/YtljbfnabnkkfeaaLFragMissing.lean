import Derived.Test.YtljbfnabnkkfeaaFgZ
import Derived.Deep.RegionLaw
/- bafflelaw07.FragMissing returns true. (Printed by gen_fglaws.py.) -/
namespace Go.Proofs.Ytljbfnabnkkfeaa
open Go.RowKit
set_option linter.unusedVariables false
set_option linter.unusedSimpArgs false

def skipI (k i : Nat) : Nat := if i < k then i else i + 1
theorem skip_perm {k m : Nat} (hk : k ≤ m) {σ : List Nat} (hσ : σ.Perm (List.range m)) : (σ.map (skipI k) ++ [k]).Perm (List.range (m + 1)) := by
  have h1 : ((List.range m).map (skipI k) ++ [k]).Perm (List.range (m + 1)) := by
    have e1 : List.range m = List.range k ++ (List.range (m - k)).map (k + ·) := by
      rw [← List.range_add]; congr 1; omega
    have e2 : List.range (m + 1) = List.range k ++ (k :: (List.range (m - k)).map (k + 1 + ·)) := by
      have : m + 1 = k + (1 + (m - k)) := by omega
      rw [this, List.range_add, List.range_add]
      simp [Nat.add_assoc]
    rw [e1, e2, List.map_append, List.append_assoc]
    have e3 : (List.range k).map (skipI k) = List.range k := by
      conv => rhs; rw [← List.map_id (List.range k)]
      apply List.map_congr_left
      intro i hi
      have : i < k := by simpa using hi
      unfold skipI; rw [if_pos this]; rfl
    have e4 : ((List.range (m - k)).map (k + ·)).map (skipI k) = (List.range (m - k)).map (k + 1 + ·) := by
      rw [List.map_map]
      apply List.map_congr_left
      intro i hi
      show skipI k (k + i) = _
      unfold skipI; rw [if_neg (by omega)]; omega
    rw [e3, e4]
    exact List.Perm.append_left _ (List.perm_append_singleton k _)
  exact ((hσ.map _).append_right [k]).trans h1
theorem gat_less {G : List (SD × List Int)} {k m : Nat} (hl : G.length = m + 1) (hk : k ≤ m) (i : Nat) (hi : i < m) : gat (G.take k ++ G.drop (k + 1)) i = gat G (skipI k i) := by
  unfold gat skipI
  congr 2
  by_cases h : i < k
  · rw [if_pos h, List.getElem?_append_left (by rw [List.length_take]; omega), List.getElem?_take_of_lt h]
  · rw [if_neg h, List.getElem?_append_right (by rw [List.length_take]; omega), List.length_take, List.getElem?_drop]
    congr 1; omega
set_option maxHeartbeats 8000000 in
set_option maxRecDepth 100000 in
theorem fragMissing_walk (h0 h1 h2 h3 h4 h5 h6 h7 h8 h9 h10 h11 words far many : Int) (df mf : Bool) (A : Option Addr) (n c : Nat) (zs : List Int) (q wi li : Int) (Bh : Option Addr) (bn bc : Nat) (ys : List Int) (w : World) (hb : BD 255 [h0, h1, h2, h3, h4, h5, h6, h7, h8, h9, h10, h11]) (hw : 0 ≤ words ∧ words ≤ 255) (hf : 0 ≤ far ∧ far ≤ 255) (hm : 0 ≤ many ∧ many ≤ 255) (h : ROW .u8 255 w A n c zs) (hq : 0 ≤ q ∧ q ≤ 255) (hwi : 0 ≤ wi ∧ wi ≤ 255) (hli : 0 ≤ li ∧ li ≤ 255) (hB : ROW .u8 255 w Bh bn bc ys) :
    Calls Try.prog 6 #[.agg (sm18 h0 h1 h2 h3 h4 h5 h6 h7 h8 h9 h10 h11 words far many df mf (.slice A n c)), .int .u8 q, .int .u8 wi, .int .u8 li, .slice Bh bn bc] w fun e w' => e = .returned (.bool true) ∧ Below w.heap.size w w' := by
  obtain ⟨i0, hi, hz0, hz1, hz2⟩ := info_parts infoU8
  obtain ⟨SB, hSB⟩ : ∃ b, b = w.heap.size := ⟨_, rfl⟩
  have X1 := Lib.hid ((SP.start w).alloc' (N := SB) 25 (sm18 h0 h1 h2 h3 h4 h5 h6 h7 h8 h9 h10 h11 words far many df mf (.slice A n c)) hSB.symm)
  have HM := Lib.hid (fun W (hW : Below w.heap.size w W) => made7_any h0 h1 h2 h3 h4 h5 h6 h7 h8 h9 h10 h11 words far many df mf A n c zs W hb hw hf hm (h.rd.later hW) h.bd h.le h.cap)
  have HBY := Lib.hid (fun W (hW : Below w.heap.size w W) => (hB.rd.below hW).more hW.size)
  have HBB := Lib.hid (And.intro hB.bd (And.intro hB.le hB.cap))
  clear hb hw hf hm h hB
  unfold sm18 at X1 HM ⊢
  generalize hHH : HDM h0 h1 h2 h3 h4 h5 h6 h7 h8 h9 h10 false false 0 = h at HM
  go_enter Try.func6, Try.ntmps6
  go_wp2_with fail
  rw [← hSB]
  generalize hw1 : w.alloc (.cells #[.int .u8 h0, .int .u8 h1, .int .u8 h2, .int .u8 h3, .int .u8 h4, .int .u8 h5, .int .u8 h6, .int .u8 h7, .int .u8 h8, .int .u8 h9, .int .u8 h10, .int .u8 h11, .int .u8 words, .int .u8 far, .int .u8 many, .bool df, .bool mf, .slice A n c] 25) = w1 at X1 ⊢
  clear hw1 hSB
  refine (awake7_any _).mono ?_
  rintro e w2 ⟨rfl, hb2⟩
  have X2 := Lib.hid (X1.out.next hb2)
  clear hb2 X1
  have HK := Lib.hid (X2.out.blk 0 rfl)
  go_wp2_with (refine wpList_load_row rfl 25 _ rfl SB rfl 25 #[.int .u8 h0, .int .u8 h1, .int .u8 h2, .int .u8 h3, .int .u8 h4, .int .u8 h5, .int .u8 h6, .int .u8 h7, .int .u8 h8, .int .u8 h9, .int .u8 h10, .int .u8 h11, .int .u8 words, .int .u8 far, .int .u8 many, .bool df, .bool mf, .slice A n c] (0, 0) _ HK.out Try.underlying25 rfl (by kernel_rfl) ?_)
  refine (HM.out _ X2.out.bel).mono ?_
  rintro e w3 ⟨o, d, Ab, nb, cb, rfl, hp, ho, hbl⟩
  have X3 := Lib.hid (show SP w w3 [.blk SB 25 #[.int .u8 h0, .int .u8 h1, .int .u8 h2, .int .u8 h3, .int .u8 h4, .int .u8 h5, .int .u8 h6, .int .u8 h7, .int .u8 h8, .int .u8 h9, .int .u8 h10, .int .u8 h11, .int .u8 words, .int .u8 far, .int .u8 many, .bool df, .bool mf, .slice A n c], .own .u8 5 Ab nb cb (pktB h o d)] from X2.out.pushOwn hbl ho)
  have HP := Lib.hid hp
  obtain ⟨kb1, kb2⟩ := ho.le
  have HNB := Lib.hid ho.len
  have hnb : nb ≤ 156 := by
    have h1 := ho.len
    have h2 := hp.len
    have h3 := hp.right.2.2.2.1
    rw [pkt_len] at h1; omega
  have hdl : 16 ≤ d.length ∧ d.length ≤ 96 := hp.len
  clear hp ho hbl X2 HM HK
  obtain ⟨s, hs, hs8, hs0, hs32⟩ := size_nat q hq
  go_wp2_with fail
  refine (size7s q hq hs _).mono ?_
  rintro e w4 ⟨rfl, hw4⟩
  obtain rfl := hw4
  go_wp2_with fail
  refine (split7 HP.out hs8 hs0 hs32 Ab nb cb X3.out (fun W hS => hS.rd 1 rfl) kb1 (by omega)).mono ?_
  rintro e w5 ⟨lg, nl, cl, G, rfl, hGl, hnl, hPI, hS⟩
  have X4 := Lib.hid hS
  have PI := Lib.hid hPI
  have hc12 := hPI.cnt_le
  have HNL := Lib.hid (And.intro hGl hnl)
  have hnl12 : 1 ≤ nl ∧ nl ≤ 12 := by omega
  have hncl : nl ≤ cl := by
    rcases (hS.row 0 rfl).2 with ⟨h1, _⟩ | ⟨g, cap, cur, h1, _, _, h2, h3, _⟩
    · cases h1
    · simp at h1; omega
  clear hS hPI hGl hnl X3 hs
  have RF := Lib.hid (fun (W : World) (hs : SP w W (.row 23 1 (some ⟨lg, 0, none⟩) nl cl (G.map gV) :: (G.map gIT ++ [.blk SB 25 #[.int .u8 h0, .int .u8 h1, .int .u8 h2, .int .u8 h3, .int .u8 h4, .int .u8 h5, .int .u8 h6, .int .u8 h7, .int .u8 h8, .int .u8 h9, .int .u8 h10, .int .u8 h11, .int .u8 words, .int .u8 far, .int .u8 many, .bool df, .bool mf, .slice A n c], .own .u8 5 Ab nb cb (pktB h o d)]))) => (show PKS W (some ⟨lg, 0, none⟩) G ∧ RD .u8 W W.heap.size Ab nb (pktB h o d) from ⟨pks_split PI.out hs, hs.tail.right.rd 1 rfl⟩))
  generalize hR0 : (.row 23 1 (some ⟨lg, 0, none⟩) nl cl (G.map gV) :: (G.map gIT ++ [.blk SB 25 #[.int .u8 h0, .int .u8 h1, .int .u8 h2, .int .u8 h3, .int .u8 h4, .int .u8 h5, .int .u8 h6, .int .u8 h7, .int .u8 h8, .int .u8 h9, .int .u8 h10, .int .u8 h11, .int .u8 words, .int .u8 far, .int .u8 many, .bool df, .bool mf, .slice A n c], .own .u8 5 Ab nb cb (pktB h o d)]) : List IT) = R0 at X4 RF
  clear hR0
  clear hc12
  by_cases h1 : nl = 1
  · have t1 : (nl : Int) < 2 := by omega
    have t2 : ((nl : Int) == 1) = true := by simp; omega
    obtain ⟨sd, hg⟩ := PI.out.at_ (j := 0) (by have := HNL.out.2; omega)
    obtain ⟨⟨lb, lof, hlg, x1⟩, p2, p3, p4, p5⟩ := (RF.out w5 X4.out).1 0 _ hg
    cases hlg
    obtain ⟨gA, gn, gc⟩ := sd
    have hone : bytesF (pieceF ⟨h, o, d⟩ s 0) = pktB h o d := by
      rw [one_piece HP.out.whole]
      · rfl
      · refine Nat.le_of_not_lt fun hlt => ?_
        have := cnt_two (n := d.length) (s := s) (by omega) hlt
        have := HNL.out.2
        omega
    rw [hone] at p2
    have HS := Lib.hid (same_any gA Ab gn gc nb cb (pktB h o d) (pktB h o d) w5 p2 (RF.out w5 X4.out).2 (by have : gn ≤ 140737488351232 := p5; omega) (by omega))
    have x2 : w5.cell? ⟨lg, 0, none⟩ = some (.slice gA gn gc) := x1
    have i3 : (0 : Int) < (nl : Int) := by omega
    clear x1 p2 p3 p4 p5 hg hone
    go_wp2_with fail
    refine HS.out.mono ?_
    rintro e w6 ⟨rfl, m6, rfl⟩
    rw [show (pktB h o d == pktB h o d) = true by simp]
    have Z := Lib.hid (X4.out.drewN m6).bel
    go_wp2_with fail
    go_ret
    exact ⟨rfl, Z.out⟩
  have t1 : ¬ (nl : Int) < 2 := by omega
  obtain ⟨nm, hnm⟩ : ∃ nm, nl = nm + 1 := ⟨nl - 1, by omega⟩
  subst hnm
  have hk0 : 0 ≤ wi % ((nm + 1 : Nat) : Int) := Int.emod_nonneg _ (by omega)
  have hk1 : wi % ((nm + 1 : Nat) : Int) < ((nm + 1 : Nat) : Int) := Int.emod_lt_of_pos _ (by omega)
  obtain ⟨k, hk⟩ : ∃ k : Nat, wi % ((nm + 1 : Nat) : Int) = (k : Int) := ⟨(wi % ((nm + 1 : Nat) : Int)).toNat, by omega⟩
  have hkm : k ≤ nm := by omega
  have c1 : IntKind.i64.wrap wi = wi := IntWalk.i64_in _ (by omega)
  have c2 : wi.tmod ((nm + 1 : Nat) : Int) = (k : Int) := by rw [Int.tmod_eq_emod_of_nonneg (by omega)]; exact hk
  have c2' : wi.tmod ((nm : Int) + 1) = (k : Int) := c2
  have c3 : IntKind.i64.wrap (k : Int) = (k : Int) := IntWalk.i64_in _ (by omega)
  have c4 : IntKind.i64.wrap li = li := IntWalk.i64_in _ (by omega)
  have c5 : li.tmod 100 = li % 100 := Int.tmod_eq_emod_of_nonneg (by omega)
  have c6 : IntKind.i64.wrap (li % 100) = li % 100 := IntWalk.i64_in _ (by omega)
  obtain ⟨lon, hlon⟩ : ∃ lon : Int, 1 + li % 100 = lon := ⟨_, rfl⟩
  have c7 : IntKind.i64.wrap (1 + li % 100) = lon := by rw [IntWalk.i64_in _ (by omega)]; exact hlon
  have hlon1 : 1 ≤ lon ∧ lon ≤ 100 := by omega
  have c8 : ((nm : Int) + 1) ≠ 0 := by omega
  clear hk hk0 hk1
  go_upto_region 8 with fail
  clear c1 c2 c2' c4 c5 c6 c7 hlon
  obtain ⟨i9, hi9, hy0, hy1, hy2⟩ := info_parts (show (Try.prog.info? 23).map (fun i => (i.zero, i.size, i.bytes)) = some (some (.slice none 0 0), 1, 24) by kernel_rfl)
  have PT := Lib.hid (fun (W : World) (hS : SP w W R0) => part_take (k := k) (RF.out W hS).1)
  have PD := Lib.hid (fun (W : World) (hS : SP w W R0) => part_cells (lo := k + 1) (RF.out W hS).1 HNL.out.1 hncl)
  have g1 : (0 : Int) ≤ (k : Int) := by omega
  have g2 : (k : Int) ≤ (cl : Int) := by omega
  have g3 : IntKind.i64.wrap ((k : Int) + 1) = ((k + 1 : Nat) : Int) := by rw [IntWalk.i64_in _ (by omega)]; omega
  have s1 := fun W => run_slice_lo (P := Try.prog) W Try.underlying30 hi9 hy1 (some ⟨lg, 0, none⟩) (nm + 1) cl ((k + 1 : Nat) : Int) (k + 1) rfl (by omega)
  have s2 := fun W => run_slice_lo (P := Try.prog) W Try.underlying30 hi9 hy1 (some ⟨lg, 0, none⟩) (nm + 1) cl ((k : Int) + 1) (k + 1) (by omega) (by omega)
  rw [cut_some] at s1 s2
  rw [show nm + 1 - (k + 1) = nm - k by omega] at s1 s2
  obtain ⟨ad, had⟩ : ∃ x, (if cl = k + 1 then 0 else k + 1) = x := ⟨_, rfl⟩
  rw [had] at s1 s2 PD
  clear had
  go_cut [16] (fun s16 wx => ∃ (g16 c16 : Nat), s16 = .slice (some ⟨g16, 0, none⟩) nm c16 ∧ SP w wx (.row 23 1 (some ⟨g16, 0, none⟩) nm c16 ((G.take k ++ G.drop (k + 1)).map gV) :: R0))
  case first =>
    obtain ⟨EB, hEB⟩ : ∃ b, w5.heap.size = b := ⟨_, rfl⟩
    have X5 := Lib.hid (show SP w (w5.alloc (.cells #[] 23)).drew (.row 23 1 (some ⟨EB, 0, none⟩) 0 0 [] :: R0) from (X4.out.allocRow7 23 1 0 #[] (Nat.zero_le _) rfl hEB).rot.drew)
    go_region_law (first
      | (refine step_append_row _ (by rfl) _ _ 30 (by rfl) w.heap.size 23 i9 _ 1 24 Try.underlying30 hi9 hy0 hy1 hy2 (by rfl) (by decide) Ax k cx ((G.take k).map gV) (by rfl) (by exact X6.out.row 0 rfl) ⟨lg, ad, none⟩ (nm - k) (cl - (k + 1)) ((G.drop (k + 1)).map gV) (by rfl) (by have := HNL.out.1; simp; omega) (by exact PD.out _ X6.out.tail) (gV_one _) (by simp only [maxLen]; omega) (by omega) (by exact X6.out.size) ?_
         intro Ay cy wY hrow hgrow hat
         have X7 := Lib.hid (X6.out.appRow 0 rfl hrow hgrow hat)
         clear hrow hgrow hat)
      | (refine step_append_row _ (by rfl) _ _ 30 (by rfl) w.heap.size 23 i9 _ 1 24 Try.underlying30 hi9 hy0 hy1 hy2 (by rfl) (by decide) (some ⟨EB, 0, none⟩) 0 0 [] (by rfl) (by exact X5.out.row 0 rfl) ⟨lg, 0, none⟩ k cl ((G.take k).map gV) (by rfl) (by have := HNL.out.1; simp; omega) (by exact PT.out _ X5.out.tail) (gV_one _) (by simp only [maxLen]; omega) (by omega) (by exact X5.out.size) ?_
         intro Ax cx wX hrow hgrow hat
         have hA := X5.out.appRow 0 rfl hrow hgrow hat
         rw [Nat.zero_add] at hA ⊢
         have X6 := Lib.hid (show SP w wX (.row 23 1 Ax k cx ((G.take k).map gV) :: R0) from hA)
         clear hrow hgrow hat hA))
    all_goals
      go_wp2_with fail
      go_meet
      have X8 : SP w wY (.row 23 1 Ay nm cy ((G.take k ++ G.drop (k + 1)).map gV) :: R0) := by
        have h9 := X7.out
        rw [show k + (nm - k) = nm by omega] at h9
        rw [List.map_append]
        exact h9
      obtain ⟨g16, hg16, _⟩ := row_head (X8.row 0 rfl) (by omega)
      subst hg16
      exact ⟨g16, cy, by first | rfl | rw [show k + (nm - k) = nm by omega], X8⟩
  case rest =>
  obtain ⟨g16, c16, rfl, hX⟩ := hcut
  have X5 := Lib.hid hX
  clear hX X4 s1 s2 PT PD
  have RG := Lib.hid (fun (W : World) (hs : SP w W (.row 23 1 (some ⟨g16, 0, none⟩) nm c16 ((G.take k ++ G.drop (k + 1)).map gV) :: R0)) => (show PKS W (some ⟨g16, 0, none⟩) (G.take k ++ G.drop (k + 1)) ∧ PKS W (some ⟨lg, 0, none⟩) G ∧ RD .u8 W W.heap.size Ab nb (pktB h o d) from ⟨pks_of hs List.mem_cons_self (RF.out W hs.tail).1 (fun g hg => by
    rcases List.mem_append.1 hg with h2 | h2
    · exact List.mem_of_mem_take h2
    · exact List.mem_of_mem_drop h2), RF.out W hs.tail⟩))
  generalize hR1 : (.row 23 1 (some ⟨g16, 0, none⟩) nm c16 ((G.take k ++ G.drop (k + 1)).map gV) :: R0 : List IT) = R1 at X5 RG
  clear hR1 RF
  have HGL := Lib.hid (show (G.take k ++ G.drop (k + 1)).length = nm by have := HNL.out.1; rw [List.length_append, List.length_take, List.length_drop]; omega)
  have gk1 : (k : Int) < ((nm + 1 : Nat) : Int) := by omega
  have gk2 : (k : Int) < (nm : Int) + 1 := by omega
  go_upto_region 10 with fail
  go_loopw [17, 18, 19, 20, 21, 22, 23, 24, 76] (fun _ _ _ _ _ _ _ _ s76 wr => ∃ (k2 : Nat), k2 ≤ 2 ∧ s76 = .int .i64 (k2 : Int) ∧ SP w wr R1) (fun _ _ _ _ _ _ _ _ s76 _ => 2 - (intOf s76).toNat)
  case atStart => exact ⟨0, by omega, rfl, X5.out⟩
  case round =>
    obtain ⟨k2, hk2, rfl, Y0⟩ := hrel
    have Y := Lib.hid Y0
    clear Y0 X5
    have hk4 : k2 = 0 ∨ k2 = 1 ∨ k2 = 2 := by omega
    rcases hk4 with rfl | rfl | rfl
    · have w1 : IntKind.i64.wrap (4 + lon) = 4 + lon := IntWalk.i64_in _ (by omega)
      have w2 : IntKind.i64.wrap (4 + lon + 1) = 5 + lon := by rw [IntWalk.i64_in _ (by omega)]; omega
      go_wp2_with fail
      refine (tnew 3 lon Y.out ⟨by omega, by omega⟩ ⟨by omega, by omega⟩).mono ?_
      rintro e w6 ⟨TB, rfl, hT⟩
      have X6 := Lib.hid hT
      clear hT Y
      go_wp2_with fail
      refine (shuf_any nm (by omega) Bh bn bc ys w6 (HBY.out _ X6.out.bel) HBB.out.1 (by have := HBB.out.2; simp only [maxLen] at this; omega)).mono ?_
      rintro e w7 ⟨OA, oc, σ, rfl, hσ, ho, hbo⟩
      have X7 := Lib.hid (X6.out.push hbo ho)
      have HSG := Lib.hid (skip_perm hkm hσ)
      have HSM := Lib.hid (show ∀ i ∈ σ, i < nm from fun i hi => by have := hσ.mem_iff.1 hi; simpa using this)
      have HNE := Lib.hid (show σ.map (skipI k) ≠ [] from fun e => by have h2 := hσ.length_eq; rw [List.map_eq_nil_iff.1 e] at h2; simp at h2; omega)
      clear hσ ho hbo X6
      go_wp2_with fail
      refine (tputs X7.out 5 (some ⟨g16, 0, none⟩) nm c16 (G.take k ++ G.drop (k + 1)) OA nm oc σ HGL.out.symm (by omega) (fun W hS => (RG.out W hS.tail).1) (fun W hS => hS.rd 0 rfl) (fun i hi => by rw [HGL.out]; exact HSM.out i hi) (by omega)).mono ?_
      rintro e w8 ⟨A8, n8, c8, rfl, hn8, hT⟩
      obtain ⟨T9, g9, hp1, hp2, hp3, hp4, hp5, hp6⟩ := puts_some (T := ⟨3, lon, 0, []⟩) (now := 5) HP.out.whole hs8 hs0 (σ := σ.map (skipI k)) (iy := [k]) (by rw [← HNL.out.2]; exact HSG.out) HNE.out (by simp) (by show (0 : Int) ≤ 5; omega) (by omega) (by show (0 : Int) < lon; omega) rfl (by show (0 : Int) < 3; omega)
      have hgl : σ.map (gat (G.take k ++ G.drop (k + 1))) = (σ.map (skipI k)).map (fun i => bytesF (pieceF ⟨h, o, d⟩ s i)) := by
        rw [List.map_map]
        apply List.map_congr_left
        intro i hi
        have h2 := HSM.out i hi
        rw [gat_less HNL.out.1 hkm i h2, PI.out.gat (by have := HNL.out.2; unfold skipI; split <;> omega)]
        rfl
      rw [hgl, hp1] at hT hn8 ⊢
      replace hn8 : (0 : Nat) = n8 := hn8
      subst hn8
      have X8 := Lib.hid hT.tail.tail
      replace hp4 : T9.limit = 3 := hp4
      replace hp5 : T9.life = lon := hp5
      have HPS := Lib.hid (show passA { T9 with now := 4 + lon } (4 + lon) = { T9 with now := 4 + lon } ∧ passA T9 (4 + lon) = { T9 with now := 4 + lon } from by
        have hv : ∀ g ∈ T9.gs.head?, overG T9.life (4 + lon) g = false := by
          rw [hp2]
          intro g hg
          simp at hg; subst hg
          unfold overG
          rw [hp3.beg, hp5]; simp
        exact ⟨pass_none (T := { T9 with now := 4 + lon }) hv, pass_none hv⟩)
      have HTI := Lib.hid (show tickA T9 (4 + lon) = ({ T9 with now := 4 + lon }, 0) from by
        unfold tickA
        rw [late_no (by rw [hp6]; omega) (by omega), HPS.out.2]; rfl)
      have hput := put_one HP.out.whole hs8 hs0 (σ := σ.map (skipI k)) (iy := []) (k := k) (by rw [← HNL.out.2]; exact HSG.out) (by have := HNL.out.2; omega) (T := { T9 with now := 4 + lon }) (now := 4 + lon) (beg := 5) (m := some g9) (late_no (by show 4 + lon ≤ 4 + lon; omega) (by omega)) (by rw [HPS.out.1]; exact hp2) (.inr ⟨g9, rfl, hp3, HNE.out⟩) (by show 0 < T9.limit; rw [hp4]; show (0 : Int) < 3; omega)
      rw [if_pos rfl, HPS.out.1] at hput
      have HPUT := Lib.hid hput
      clear hput
      have HGS := Lib.hid hp2
      clear hT X7 hp1 hp3 hp4 hp5 hp6 hgl hp2
      go_wp2_with fail
      refine (ttick X8.out (4 + lon)).mono ?_
      rintro e w9 ⟨rfl, hT⟩
      rw [HTI.out] at hT ⊢
      have X9 := Lib.hid hT
      clear hT X8
      go_wp2_with fail
      refine (tgroups X9.out).mono ?_
      rintro e wa ⟨GA0, gc0, rfl, hT⟩
      rw [show ({ T9 with now := 4 + lon } : AT).gs.length = 1 by show T9.gs.length = 1; rw [HGS.out]; rfl] at hT ⊢
      have XT := Lib.hid hT.tail
      clear hT X9
      obtain ⟨sd, hg⟩ := PI.out.at_ (j := k) (by have := HNL.out.2; omega)
      obtain ⟨⟨lb, lof, hlg, x1⟩, p2, p3, p4, p5⟩ := (RG.out wa XT.out.right).2.1 k _ hg
      cases hlg
      obtain ⟨gA, gn, gc⟩ := sd
      have x2 : wa.cell? ⟨lg, k, none⟩ = some (.slice gA gn gc) := by rw [Nat.zero_add] at x1; exact x1
      have HPT := Lib.hid (tput XT.out gA gn gc (bytesF (pieceF ⟨h, o, d⟩ s k)) (4 + lon) (fun W hS => ((RG.out W hS).2.1 k _ hg).2.1) p3 p4 p5)
      clear p2 p3 p4 p5 hg x1
      go_wp2_with fail
      refine HPT.out.mono ?_
      rintro e wb0 ⟨A9, n9, c9, rfl, hn9, hT⟩
      rw [HPUT.out] at hT hn9 ⊢
      clear HPT
      have hn9' : n9 = nb := by have := HNB.out; simp only at hn9; omega
      subst hn9'
      have X9 := Lib.hid hT
      clear hT hn9 XT x2
      go_wp2_with fail
      refine (tgroups X9.out).mono ?_
      rintro e wb ⟨GA, gc, rfl, hT⟩
      have XA := Lib.hid hT.tail
      clear hT X9
      go_wp2_with fail
      refine (same_any A9 Ab n9 c9 n9 cb (pktB h o d) (pktB h o d) _ (XA.out.right.rd 0 rfl) (RG.out _ XA.out.right.tail).2.2 (by omega) (by omega)).mono ?_
      rintro e wd ⟨rfl, qd, rfl⟩
      rw [show (pktB h o d == pktB h o d) = true by simp]
      have XB := Lib.hid (XA.out.drewN qd).right.tail
      clear XA
      go_wp2_with fail
      go_roundw
      case rel => exact ⟨1, by omega, rfl, XB.out⟩
      case measure => simp [intOf]
    · have w1 : IntKind.i64.wrap (4 + lon) = 4 + lon := IntWalk.i64_in _ (by omega)
      have w2 : IntKind.i64.wrap (4 + lon + 1) = 5 + lon := by rw [IntWalk.i64_in _ (by omega)]; omega
      go_wp2_with fail
      refine (tnew 3 lon Y.out ⟨by omega, by omega⟩ ⟨by omega, by omega⟩).mono ?_
      rintro e w6 ⟨TB, rfl, hT⟩
      have X6 := Lib.hid hT
      clear hT Y
      go_wp2_with fail
      refine (shuf_any nm (by omega) Bh bn bc ys w6 (HBY.out _ X6.out.bel) HBB.out.1 (by have := HBB.out.2; simp only [maxLen] at this; omega)).mono ?_
      rintro e w7 ⟨OA, oc, σ, rfl, hσ, ho, hbo⟩
      have X7 := Lib.hid (X6.out.push hbo ho)
      have HSG := Lib.hid (skip_perm hkm hσ)
      have HSM := Lib.hid (show ∀ i ∈ σ, i < nm from fun i hi => by have := hσ.mem_iff.1 hi; simpa using this)
      have HNE := Lib.hid (show σ.map (skipI k) ≠ [] from fun e => by have h2 := hσ.length_eq; rw [List.map_eq_nil_iff.1 e] at h2; simp at h2; omega)
      clear hσ ho hbo X6
      go_wp2_with fail
      refine (tputs X7.out 5 (some ⟨g16, 0, none⟩) nm c16 (G.take k ++ G.drop (k + 1)) OA nm oc σ HGL.out.symm (by omega) (fun W hS => (RG.out W hS.tail).1) (fun W hS => hS.rd 0 rfl) (fun i hi => by rw [HGL.out]; exact HSM.out i hi) (by omega)).mono ?_
      rintro e w8 ⟨A8, n8, c8, rfl, hn8, hT⟩
      obtain ⟨T9, g9, hp1, hp2, hp3, hp4, hp5, hp6⟩ := puts_some (T := ⟨3, lon, 0, []⟩) (now := 5) HP.out.whole hs8 hs0 (σ := σ.map (skipI k)) (iy := [k]) (by rw [← HNL.out.2]; exact HSG.out) HNE.out (by simp) (by show (0 : Int) ≤ 5; omega) (by omega) (by show (0 : Int) < lon; omega) rfl (by show (0 : Int) < 3; omega)
      have hgl : σ.map (gat (G.take k ++ G.drop (k + 1))) = (σ.map (skipI k)).map (fun i => bytesF (pieceF ⟨h, o, d⟩ s i)) := by
        rw [List.map_map]
        apply List.map_congr_left
        intro i hi
        have h2 := HSM.out i hi
        rw [gat_less HNL.out.1 hkm i h2, PI.out.gat (by have := HNL.out.2; unfold skipI; split <;> omega)]
        rfl
      rw [hgl, hp1] at hT hn8 ⊢
      replace hn8 : (0 : Nat) = n8 := hn8
      subst hn8
      have X8 := Lib.hid hT.tail.tail
      replace hp4 : T9.limit = 3 := hp4
      replace hp5 : T9.life = lon := hp5
      have HPS := Lib.hid (show passA { T9 with now := 4 + lon } (4 + lon) = { T9 with now := 4 + lon } ∧ passA T9 (4 + lon) = { T9 with now := 4 + lon } from by
        have hv : ∀ g ∈ T9.gs.head?, overG T9.life (4 + lon) g = false := by
          rw [hp2]
          intro g hg
          simp at hg; subst hg
          unfold overG
          rw [hp3.beg, hp5]; simp
        exact ⟨pass_none (T := { T9 with now := 4 + lon }) hv, pass_none hv⟩)
      have HTI := Lib.hid (show tickA T9 (4 + lon) = ({ T9 with now := 4 + lon }, 0) from by
        unfold tickA
        rw [late_no (by rw [hp6]; omega) (by omega), HPS.out.2]; rfl)
      have hput := put_one HP.out.whole hs8 hs0 (σ := []) (iy := σ.map (skipI k)) (k := k) (by rw [← HNL.out.2]; exact (List.perm_append_singleton k (σ.map (skipI k))).symm.trans HSG.out) (by have := HNL.out.2; omega) (T := { T9 with now := 4 + lon }) (now := 5 + lon) (beg := 5) (m := none) (late_no (by show 4 + lon ≤ 5 + lon; omega) (by omega)) (by unfold passA; show T9.gs.dropWhile _ = []; rw [hp2]; unfold overG; rw [List.dropWhile_cons, if_pos (by show decide (g9.begin_ + T9.life ≤ 5 + lon) = true; rw [hp5, hp3.beg]; simp)]; rfl) (.inl (GSTO.nil _ _ _ _)) (by show 0 < T9.limit; rw [hp4]; show (0 : Int) < 3; omega)
      rw [if_neg HNE.out] at hput
      obtain ⟨g2, hput, hg2⟩ := hput
      have HPUT := Lib.hid hput
      have HG2 := Lib.hid hg2
      clear hput hg2
      have HGS := Lib.hid hp2
      clear hT X7 hp1 hp3 hp4 hp5 hp6 hgl hp2
      go_wp2_with fail
      refine (ttick X8.out (4 + lon)).mono ?_
      rintro e w9 ⟨rfl, hT⟩
      rw [HTI.out] at hT ⊢
      have X9 := Lib.hid hT
      clear hT X8
      go_wp2_with fail
      refine (tgroups X9.out).mono ?_
      rintro e wa ⟨GA0, gc0, rfl, hT⟩
      rw [show ({ T9 with now := 4 + lon } : AT).gs.length = 1 by show T9.gs.length = 1; rw [HGS.out]; rfl] at hT ⊢
      have XT := Lib.hid hT.tail
      clear hT X9
      obtain ⟨sd, hg⟩ := PI.out.at_ (j := k) (by have := HNL.out.2; omega)
      obtain ⟨⟨lb, lof, hlg, x1⟩, p2, p3, p4, p5⟩ := (RG.out wa XT.out.right).2.1 k _ hg
      cases hlg
      obtain ⟨gA, gn, gc⟩ := sd
      have x2 : wa.cell? ⟨lg, k, none⟩ = some (.slice gA gn gc) := by rw [Nat.zero_add] at x1; exact x1
      have HPT := Lib.hid (tput XT.out gA gn gc (bytesF (pieceF ⟨h, o, d⟩ s k)) (5 + lon) (fun W hS => ((RG.out W hS).2.1 k _ hg).2.1) p3 p4 p5)
      clear p2 p3 p4 p5 hg x1
      go_wp2_with fail
      refine HPT.out.mono ?_
      rintro e wb0 ⟨A9, n9, c9, rfl, hn9, hT⟩
      rw [HPUT.out] at hT hn9 ⊢
      clear HPT
      replace hn9 : (0 : Nat) = n9 := hn9
      subst hn9
      have X9 := Lib.hid hT.tail
      clear hT XT x2
      go_wp2_with fail
      refine (tgroups X9.out).mono ?_
      rintro e wb ⟨GA, gc, rfl, hT⟩
      obtain ⟨gg, hgg, hgc⟩ := row_head (hT.right.row 0 rfl) (by show 0 < ([g2] : List AG).length; simp)
      subst hgg
      have gc4 : wb.cell? ⟨gg, 4, none⟩ = some (.int .i64 (5 + lon)) := by
        rw [hgc 4 (by show 4 < ([g2] : List AG).length * 7; simp)]
        show some (Value.int .i64 g2.begin_) = _
        rw [HG2.out.beg]; rfl
      have XB := Lib.hid hT.right.tail
      clear hT X9 hgc
      have w5 : IntKind.i64.wrap (5 + lon) = 5 + lon := IntWalk.i64_in _ (by omega)
      go_wp2_with fail
      go_roundw
      case rel => exact ⟨2, by omega, rfl, XB.out⟩
      case measure => simp [intOf]
    · have XE := Lib.hid Y.out.bel
      go_wp2_with fail
      go_ret
      exact ⟨rfl, XE.out⟩
end Go.Proofs.Ytljbfnabnkkfeaa
