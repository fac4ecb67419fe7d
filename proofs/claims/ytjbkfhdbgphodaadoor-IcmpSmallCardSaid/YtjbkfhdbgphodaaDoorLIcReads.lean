/- bafflelaw10.reads, writes and tells; the walks of IcmpReads, IcmpWrites and IcmpTells. -/
import Derived.Test.YtjbkfhdbgphodaaDoorWAwake10
import Derived.Test.YtjbkfhdbgphodaaDoorWBags
import Derived.Test.YtjbkfhdbgphodaaDoorBase
namespace Go.Proofs.YtjbkfhdbgphodaaDoor
open Go.RowKit
set_option linter.unusedVariables false
attribute [local go_sem ↓] Go.wp_at_zero Go.wp_at_succ

theorem icAB_len {zs : List Int} : (icAB zs).length ≤ zs.length := by
  unfold icAB
  split
  · rw [fixOf_len]; simp
  · simp
theorem icWB_len {t : Nat} {c id seq : Int} {zs : List Int} : (icWB t c id seq zs).length ≤ 8 + zs.length := by
  unfold icWB
  split
  · rw [fixOf_len]; simp [icHead]; omega
  · simp
theorem icM4 (zs : List Int) : ∃ u0 u1 u2 u3, icM zs = #[.int .u8 u0, .int .u8 u1, .int .u16 u2, .int .u16 u3] := by
  unfold icM
  split
  · exact ⟨_, _, _, _, rfl⟩
  · exact ⟨_, _, _, _, rfl⟩
theorem qKey5 (zs : List Int) : ∃ p s d sp dp, qKey zs = #[.int .u8 p, .int .u32 s, .int .u32 d, .int .u16 sp, .int .u16 dp] := by
  unfold qKey
  split
  · exact ⟨_, _, _, _, _, rfl⟩
  · exact ⟨_, _, _, _, _, rfl⟩

set_option maxHeartbeats 8000000 in
set_option maxRecDepth 100000 in
theorem reads10_any (A : Option Addr) (n c : Nat) (zs : List Int) (t : Nat) (cd : Int) (w : World) (h : RD .u8 w w.heap.size A n zs) (hz : BD 255 zs) (hn : n ≤ c) (ht : t ≤ 255) (hcd : 0 ≤ cd ∧ cd ≤ 255) (hS : SORTS w) :
    Calls Tryd.prog 12 #[.slice A n c, .int .u8 (t : Int), .int .u8 cd] w fun e w' => e = .returned (.bool true) ∧ Below w.heap.size w w' := by
  have HL := Lib.hid h.len
  have R := Lib.hid h
  have S0 := SP.start w
  have HS := Lib.hid (fun (W : World) (hb : Below w.heap.size w W) => hS.below hb)
  clear h hS
  by_cases hbig : 300 < n
  · have t1 : (300 : Int) < (n : Int) := by omega
    go_enter Tryd.func12, Tryd.ntmps12
    go_wp2_with fail
    go_ret
    exact ⟨rfl, Below.refl _ _⟩
  · have t1 : ¬ (300 : Int) < (n : Int) := by omega
    have hc : n ≤ 140737488351232 := by omega
    go_enter Tryd.func12, Tryd.ntmps12
    go_wp2_with fail
    refine (lent_any A n c zs w R.out hc).mono ?_
    rintro e w1 ⟨A1, n1, rfl, hn1, own1, hb1⟩
    obtain rfl : n = n1 := by rw [hn1, HL.out]
    clear hn1
    have own1' := own1.cut (m := n) (by omega)
    rw [List.take_left' HL.out] at own1'
    have H1 := Lib.hid (S0.pushOwn hb1 own1)
    have HC1 := Lib.hid own1'
    clear hb1 own1 own1' S0
    go_wp2_with fail
    refine (kind_any t cd _ ht hcd (HS.out _ H1.out.bel)).mono ?_
    rintro e w2 ⟨rfl, rfl⟩
    obtain ⟨kk, hkk⟩ : ∃ x, x = kK t cd := ⟨_, rfl⟩
    obtain ⟨ke, hke⟩ : ∃ x, x = kE t cd := ⟨_, rfl⟩
    have HKK := Lib.hid (And.intro hkk hke)
    rw [← hkk, ← hke]
    clear hkk hke
    go_wp2_with fail
    refine (r10Kind_any t cd _ hcd).mono ?_
    rintro e w2 ⟨rfl, rfl⟩
    rw [← HKK.out.1, ← HKK.out.2]
    go_wp2_with fail
    refine (icread_any A1 n (n + 12) zs _ HC1.out.rd hz (by omega) (by omega) (HS.out _ H1.out.bel)).mono ?_
    rintro e w2 ⟨rfl, hb2⟩
    have H2 := Lib.hid ((H1.out.next hb2).alloc 27 (icM zs))
    have HC2 := Lib.hid (HC1.out.below hb2)
    obtain ⟨u0, u1, u2, u3, hu⟩ := icM4 zs
    rw [hu]
    rw [hu] at H2
    obtain ⟨te, hte⟩ : ∃ x, x = icE zs := ⟨_, rfl⟩
    have HTE := Lib.hid hte
    rw [← hte]
    clear hb2 H1 HC1 hte
    go_upto_region 7 with fail
    have HC3 := Lib.hid (HC2.out.alloc (.cells #[.int .u8 u0, .int .u8 u1, .int .u16 u2, .int .u16 u3] 27))
    generalize hw3 : w2.alloc (.cells #[.int .u8 u0, .int .u8 u1, .int .u16 u2, .int .u16 u3] 27) = w3 at H2 HC3 ⊢
    clear hw3 HC2
    go_wp2_with fail
    refine (r10Read_any A n c zs _ ((R.out.below H2.out.bel).more H2.out.size) hz hn (by omega)).mono ?_
    rintro e w4 ⟨rfl, hb4⟩
    rw [hu, ← HTE.out]
    have H4 := Lib.hid ((H2.out.next hb4).alloc 65 #[.int .u8 u0, .int .u8 u1, .int .u16 u2, .int .u16 u3])
    have HC4 := Lib.hid ((HC3.out.below hb4).alloc (.cells #[.int .u8 u0, .int .u8 u1, .int .u16 u2, .int .u16 u3] 65))
    clear hb4 H2 HC3 hu
    go_upto_region 8 with fail
    generalize hw5 : w4.alloc (.cells #[.int .u8 u0, .int .u8 u1, .int .u16 u2, .int .u16 u3] 65) = w5 at H4 HC4 ⊢
    clear hw5
    go_wp2_with fail
    refine (icanswer_any A1 n (n + 12) zs _ HC4.out.rd hz (by omega) (by omega) (HS.out _ H4.out.bel)).mono ?_
    rintro e w8 ⟨A8, n8, c8, rfl, own8, hb8⟩
    have hl8 := own8.len
    have hlT := icAB_len (zs := zs)
    rw [HL.out] at hlT
    have hle8 := own8.le
    have H8 := Lib.hid (H4.out.pushOwn hb8 own8)
    have HC8 := Lib.hid (HC4.out.below hb8)
    clear hb8 own8 H4 HC4
    obtain ⟨ae, hae⟩ : ∃ x, x = icAE zs := ⟨_, rfl⟩
    have HAE := Lib.hid hae
    rw [← hae]
    clear hae
    go_wp2_with fail
    refine (r10Answer_any A n c zs _ ((R.out.below H8.out.bel).more H8.out.size) hz hn (by omega)).mono ?_
    rintro e w9 ⟨A9, n9, c9, rfl, own9, hb9⟩
    rw [← HAE.out]
    have hl9 := own9.len
    have H9 := Lib.hid (H8.out.pushOwn hb9 own9)
    have HC9 := Lib.hid (HC8.out.below hb9)
    clear hb9 own9 H8 HC8
    have f0 : w9.cell? ⟨w2.heap.size, 0, none⟩ = some (.int .u8 u0) := H9.out.cell 1 rfl 0 rfl
    have f1 : w9.cell? ⟨w2.heap.size, 1, none⟩ = some (.int .u8 u1) := H9.out.cell 1 rfl 1 rfl
    have f2 : w9.cell? ⟨w2.heap.size, 2, none⟩ = some (.int .u16 u2) := H9.out.cell 1 rfl 2 rfl
    have f3 : w9.cell? ⟨w2.heap.size, 3, none⟩ = some (.int .u16 u3) := H9.out.cell 1 rfl 3 rfl
    have g0 : w9.cell? ⟨w4.heap.size, 0, none⟩ = some (.int .u8 u0) := H9.out.cell 2 rfl 0 rfl
    have g1 : w9.cell? ⟨w4.heap.size, 1, none⟩ = some (.int .u8 u1) := H9.out.cell 2 rfl 1 rfl
    have g2 : w9.cell? ⟨w4.heap.size, 2, none⟩ = some (.int .u16 u2) := H9.out.cell 2 rfl 2 rfl
    have g3 : w9.cell? ⟨w4.heap.size, 3, none⟩ = some (.int .u16 u3) := H9.out.cell 2 rfl 3 rfl
    go_wp2_with fail
    refine (same_any A8 A9 n8 c8 n9 c9 _ _ _ (H9.out.rd 3 rfl) (H9.out.rd 4 rfl) (by omega) (by omega)).mono ?_
    rintro e wa ⟨rfl, ma, ha⟩
    rw [show (icAB zs == icAB zs) = true by simp]
    have HA := Lib.hid (ha ▸ H9.out.drewN ma)
    have HCA := Lib.hid (ha ▸ HC9.out.below (below_drewN (Below.refl _ _) ma))
    clear ha H9 f0 f1 f2 f3 g0 g1 g2 g3
    go_wp2_with fail
    refine (icverify_any A1 n (n + 12) zs _ HCA.out.rd hz (by omega)).mono ?_
    rintro e wb ⟨rfl, hbb⟩
    have HB := Lib.hid (HA.out.next hbb)
    clear hbb HA HCA
    obtain ⟨vv, hvv⟩ : ∃ x, x = icV zs := ⟨_, rfl⟩
    have HVV := Lib.hid hvv
    rw [← hvv]
    clear hvv
    go_wp2_with fail
    refine (r10Verify_any A n c zs _ ((R.out.below HB.out.bel).more HB.out.size) hz (by omega)).mono ?_
    rintro e w2' ⟨rfl, rfl⟩
    rw [← HVV.out]
    go_wp2_with fail
    refine (kept_any A1 n zs A c _ ((R.out.below HB.out.bel).more HB.out.size) (HB.out.rd 0 rfl) hc).mono ?_
    rintro e wc ⟨rfl, mc, hc'⟩
    have HD := Lib.hid (hc' ▸ HB.out.drewN mc)
    clear hc' HB
    go_wp2_with fail
    refine (sp_apart HD.out [0, 3] [⟨A1, n, n + 12⟩, ⟨A8, n8, c8⟩] (SPD.cons rfl (by omega) (by omega) (SPD.cons rfl (Nat.le_refl _) (by omega) SPD.nil)) (by decide) (by simp) (by simp) 2 2 rfl).mono ?_
    rintro e wd ⟨rfl, hbd⟩
    go_wp2_with fail
    go_ret
    exact ⟨rfl, HD.out.bel.trans hbd⟩

set_option maxHeartbeats 8000000 in
set_option maxRecDepth 100000 in
theorem icmpReads_walk (A : Option Addr) (n c : Nat) (zs : List Int) (t : Nat) (cd : Int) (w : World) (h : ROW .u8 255 w A n c zs) (ht : t ≤ 255) (hcd : 0 ≤ cd ∧ cd ≤ 255) (hS : SORTS w) :
    Calls Tryd.prog 3 #[.slice A n c, .int .u8 (t : Int), .int .u8 cd] w fun e w' => e = .returned (.bool true) ∧ Below w.heap.size w w' := by
  go_enter Tryd.func3, Tryd.ntmps3
  go_wp2_with fail
  refine (reads10_any A n c zs t cd w h.rd h.bd h.le ht hcd hS).mono ?_
  rintro e w1 ⟨rfl, hb1⟩
  go_wp2_with fail
  refine (awake10_any _ (hS.below hb1)).mono ?_
  rintro e w2 ⟨rfl, hb2⟩
  go_wp2_with fail
  go_ret
  exact ⟨rfl, hb1.trans (hb2.mono hb1.size)⟩

set_option maxHeartbeats 8000000 in
set_option maxRecDepth 100000 in
theorem writes10_any (t : Nat) (cd id seq : Int) (A : Option Addr) (n c : Nat) (zs : List Int) (w : World) (ht : t ≤ 255) (hcd : 0 ≤ cd ∧ cd ≤ 255) (hid : 0 ≤ id ∧ id ≤ 65535) (hseq : 0 ≤ seq ∧ seq ≤ 65535)
    (h : RD .u8 w w.heap.size A n zs) (hz : BD 255 zs) (hn : n ≤ c) (hS : SORTS w) :
    Calls Tryd.prog 14 #[.agg #[.int .u8 (t : Int), .int .u8 cd, .int .u16 id, .int .u16 seq], .slice A n c] w fun e w' => e = .returned (.bool true) ∧ Below w.heap.size w w' := by
  have HL := Lib.hid h.len
  have R := Lib.hid h
  have S0 := (SP.start w).alloc 27 #[.int .u8 (t : Int), .int .u8 cd, .int .u16 id, .int .u16 seq]
  have HS := Lib.hid (fun (W : World) (hb : Below w.heap.size w W) => hS.below hb)
  clear h hS
  by_cases hbig : 300 < n
  · have t1 : (300 : Int) < (n : Int) := by omega
    go_enter Tryd.func14, Tryd.ntmps14
    go_wp2_with fail
    go_ret
    exact ⟨rfl, S0.bel⟩
  · have t1 : ¬ (300 : Int) < (n : Int) := by omega
    have hc : n ≤ 140737488351232 := by omega
    go_enter Tryd.func14, Tryd.ntmps14
    go_upto_region 1 with fail
    generalize hw0 : w.alloc (.cells #[.int .u8 (t : Int), .int .u8 cd, .int .u16 id, .int .u16 seq] 27) = w0 at S0 ⊢
    clear hw0
    go_wp2_with fail
    refine (lent_any A n c zs w0 ((R.out.below S0.bel).more S0.size) hc).mono ?_
    rintro e w1 ⟨A1, n1, rfl, hn1, own1, hb1⟩
    obtain rfl : n = n1 := by rw [hn1, HL.out]
    clear hn1
    have own1' := own1.cut (m := n) (by omega)
    rw [List.take_left' HL.out] at own1'
    have H1 := Lib.hid (S0.pushOwn hb1 own1)
    have HC1 := Lib.hid own1'
    clear hb1 own1 own1' S0
    have f0 : w1.cell? ⟨w.heap.size, 0, none⟩ = some (.int .u8 (t : Int)) := H1.out.cell 0 rfl 0 rfl
    have f1 : w1.cell? ⟨w.heap.size, 1, none⟩ = some (.int .u8 cd) := H1.out.cell 0 rfl 1 rfl
    have f2 : w1.cell? ⟨w.heap.size, 2, none⟩ = some (.int .u16 id) := H1.out.cell 0 rfl 2 rfl
    have f3 : w1.cell? ⟨w.heap.size, 3, none⟩ = some (.int .u16 seq) := H1.out.cell 0 rfl 3 rfl
    go_wp2_with fail
    refine (icwrite_any t cd id seq A1 n (n + 12) zs _ ht hcd hid hseq HC1.out.rd hz (by omega) (HS.out _ H1.out.bel)).mono ?_
    rintro e w2 ⟨A2, n2, c2, rfl, own2, hb2⟩
    have hl2 := own2.len
    have hlB := icWB_len (t := t) (c := cd) (id := id) (seq := seq) (zs := zs)
    rw [HL.out] at hlB
    have hle2 := own2.le
    have H2 := Lib.hid (H1.out.pushOwn hb2 own2)
    clear hb2 own2 f0 f1 f2 f3 H1 HC1
    have f0 : w2.cell? ⟨w.heap.size, 0, none⟩ = some (.int .u8 (t : Int)) := H2.out.cell 0 rfl 0 rfl
    have f1 : w2.cell? ⟨w.heap.size, 1, none⟩ = some (.int .u8 cd) := H2.out.cell 0 rfl 1 rfl
    have f2 : w2.cell? ⟨w.heap.size, 2, none⟩ = some (.int .u16 id) := H2.out.cell 0 rfl 2 rfl
    have f3 : w2.cell? ⟨w.heap.size, 3, none⟩ = some (.int .u16 seq) := H2.out.cell 0 rfl 3 rfl
    go_wp2_with fail
    refine (r10Write_any t cd id seq A n c zs _ ht hcd hid hseq ((R.out.below H2.out.bel).more H2.out.size) hz (by omega)).mono ?_
    rintro e w3 ⟨A3, n3, c3, rfl, own3, hb3⟩
    have hl3 := own3.len
    have H3 := Lib.hid (H2.out.pushOwn hb3 own3)
    clear hb3 own3 f0 f1 f2 f3 H2
    obtain ⟨er, her⟩ : ∃ x, x = icWE t cd n := ⟨_, rfl⟩
    rw [← her]
    clear her
    have te : (er == er) = true := by simp
    go_wp2_with fail
    refine (same_any A2 A3 n2 c2 n3 c3 _ _ _ (H3.out.rd 2 rfl) (H3.out.rd 3 rfl) (by omega) (by omega)).mono ?_
    rintro e wa ⟨rfl, ma, ha⟩
    rw [show (icWB t cd id seq zs == icWB t cd id seq zs) = true by simp]
    have HA := Lib.hid (ha ▸ H3.out.drewN ma)
    clear ha H3
    go_wp2_with fail
    refine (kept_any A1 n zs A c _ ((R.out.below HA.out.bel).more HA.out.size) (HA.out.rd 1 rfl) hc).mono ?_
    rintro e wb ⟨rfl, mb, hb⟩
    have HB := Lib.hid (hb ▸ HA.out.drewN mb)
    clear hb HA
    go_wp2_with fail
    refine (sp_apart HB.out [1, 2] [⟨A1, n, n + 12⟩, ⟨A2, n2, c2⟩] (SPD.cons rfl (by omega) (by omega) (SPD.cons rfl (Nat.le_refl _) (by omega) SPD.nil)) (by decide) (by simp) (by simp) 2 2 rfl).mono ?_
    rintro e wc ⟨rfl, hbc⟩
    go_wp2_with fail
    go_ret
    exact ⟨rfl, HB.out.bel.trans hbc⟩

set_option maxHeartbeats 8000000 in
set_option maxRecDepth 100000 in
theorem icmpWrites_walk (t : Nat) (cd id seq : Int) (A : Option Addr) (n c : Nat) (zs : List Int) (w : World) (ht : t ≤ 255) (hcd : 0 ≤ cd ∧ cd ≤ 255) (hid : 0 ≤ id ∧ id ≤ 65535) (hseq : 0 ≤ seq ∧ seq ≤ 65535)
    (h : ROW .u8 255 w A n c zs) (hS : SORTS w) :
    Calls Tryd.prog 4 #[.agg #[.int .u8 (t : Int), .int .u8 cd, .int .u16 id, .int .u16 seq], .slice A n c] w fun e w' => e = .returned (.bool true) ∧ Below w.heap.size w w' := by
  have S0 := (SP.start w).alloc 27 #[.int .u8 (t : Int), .int .u8 cd, .int .u16 id, .int .u16 seq]
  have HS := Lib.hid (fun (W : World) (hb : Below w.heap.size w W) => hS.below hb)
  have hrd := h.rd
  have hz := h.bd
  have hn := h.le
  clear h hS
  go_enter Tryd.func4, Tryd.ntmps4
  go_upto_region 1 with fail
  generalize hw0 : w.alloc (.cells #[.int .u8 (t : Int), .int .u8 cd, .int .u16 id, .int .u16 seq] 27) = w0 at S0 ⊢
  clear hw0
  have f0 : w0.cell? ⟨w.heap.size, 0, none⟩ = some (.int .u8 (t : Int)) := S0.cell 0 rfl 0 rfl
  have f1 : w0.cell? ⟨w.heap.size, 1, none⟩ = some (.int .u8 cd) := S0.cell 0 rfl 1 rfl
  have f2 : w0.cell? ⟨w.heap.size, 2, none⟩ = some (.int .u16 id) := S0.cell 0 rfl 2 rfl
  have f3 : w0.cell? ⟨w.heap.size, 3, none⟩ = some (.int .u16 seq) := S0.cell 0 rfl 3 rfl
  go_wp2_with fail
  refine (writes10_any t cd id seq A n c zs _ ht hcd hid hseq ((hrd.below S0.bel).more S0.size) hz hn (HS.out _ S0.bel)).mono ?_
  rintro e w1 ⟨rfl, hb1⟩
  have S1 := Lib.hid (S0.next hb1)
  clear f0 f1 f2 f3 hb1
  go_wp2_with fail
  refine (awake10_any _ (HS.out _ S1.out.bel)).mono ?_
  rintro e w2 ⟨rfl, hb2⟩
  go_wp2_with fail
  go_ret
  exact ⟨rfl, (S1.out.next hb2).bel⟩

set_option maxHeartbeats 8000000 in
set_option maxRecDepth 100000 in
theorem tells10_any (A : Option Addr) (n c : Nat) (zs : List Int) (w : World) (h : RD .u8 w w.heap.size A n zs) (hz : BD 255 zs) (hn : n ≤ c) (hS : SORTS w) :
    Calls Tryd.prog 15 #[.slice A n c] w fun e w' => e = .returned (.bool true) ∧ Below w.heap.size w w' := by
  have HL := Lib.hid h.len
  have R := Lib.hid h
  have S0 := SP.start w
  have HS := Lib.hid (fun (W : World) (hb : Below w.heap.size w W) => hS.below hb)
  clear h hS
  by_cases hbig : 300 < n
  · have t1 : (300 : Int) < (n : Int) := by omega
    go_enter Tryd.func15, Tryd.ntmps15
    go_wp2_with fail
    go_ret
    exact ⟨rfl, Below.refl _ _⟩
  · have t1 : ¬ (300 : Int) < (n : Int) := by omega
    have hc : n ≤ 140737488351232 := by omega
    go_enter Tryd.func15, Tryd.ntmps15
    go_wp2_with fail
    refine (lent_any A n c zs w R.out hc).mono ?_
    rintro e w1 ⟨A1, n1, rfl, hn1, own1, hb1⟩
    obtain rfl : n = n1 := by rw [hn1, HL.out]
    clear hn1
    have own1' := own1.cut (m := n) (by omega)
    rw [List.take_left' HL.out] at own1'
    have H1 := Lib.hid (S0.pushOwn hb1 own1)
    have HC1 := Lib.hid own1'
    clear hb1 own1 own1' S0
    go_wp2_with fail
    refine (icquote_any A1 n (n + 12) zs _ HC1.out.rd hz (by omega) (by omega) (HS.out _ H1.out.bel)).mono ?_
    rintro e w2 ⟨rfl, hb2⟩
    obtain ⟨p, s, d, sp, dp, hu⟩ := qKey5 zs
    have H2 := (H1.out.next hb2).alloc 55 (qKey zs)
    rw [hu] at H2 ⊢
    have HU := Lib.hid hu
    obtain ⟨kk, hkk⟩ : ∃ x, x = qK zs := ⟨_, rfl⟩
    obtain ⟨ke, hke⟩ : ∃ x, x = qE zs := ⟨_, rfl⟩
    have HKK := Lib.hid (And.intro hkk hke)
    rw [← hkk, ← hke]
    clear hb2 H1 HC1 hkk hke hu
    go_upto_region 5 with fail
    generalize hw3 : w2.alloc (.cells #[.int .u8 p, .int .u32 s, .int .u32 d, .int .u16 sp, .int .u16 dp] 55) = w3 at H2 ⊢
    clear hw3
    have H3 := Lib.hid H2
    clear H2
    go_wp2_with fail
    refine (r10Quote_any A n c zs _ ((R.out.below H3.out.bel).more H3.out.size) hz hn (by omega)).mono ?_
    rintro e w4 ⟨rfl, hb4⟩
    rw [HU.out, ← HKK.out.1, ← HKK.out.2]
    have H4 := Lib.hid ((H3.out.next hb4).alloc 55 #[.int .u8 p, .int .u32 s, .int .u32 d, .int .u16 sp, .int .u16 dp])
    clear hb4 H3
    go_upto_region 6 with fail
    generalize hw5 : w4.alloc (.cells #[.int .u8 p, .int .u32 s, .int .u32 d, .int .u16 sp, .int .u16 dp] 55) = w5 at H4 ⊢
    clear hw5
    have f0 : w5.cell? ⟨w2.heap.size, 0, none⟩ = some (.int .u8 p) := H4.out.cell 1 rfl 0 rfl
    have f1 : w5.cell? ⟨w2.heap.size, 1, none⟩ = some (.int .u32 s) := H4.out.cell 1 rfl 1 rfl
    have f2 : w5.cell? ⟨w2.heap.size, 2, none⟩ = some (.int .u32 d) := H4.out.cell 1 rfl 2 rfl
    have f3 : w5.cell? ⟨w2.heap.size, 3, none⟩ = some (.int .u16 sp) := H4.out.cell 1 rfl 3 rfl
    have f4 : w5.cell? ⟨w2.heap.size, 4, none⟩ = some (.int .u16 dp) := H4.out.cell 1 rfl 4 rfl
    have g0 : w5.cell? ⟨w4.heap.size, 0, none⟩ = some (.int .u8 p) := H4.out.cell 2 rfl 0 rfl
    have g1 : w5.cell? ⟨w4.heap.size, 1, none⟩ = some (.int .u32 s) := H4.out.cell 2 rfl 1 rfl
    have g2 : w5.cell? ⟨w4.heap.size, 2, none⟩ = some (.int .u32 d) := H4.out.cell 2 rfl 2 rfl
    have g3 : w5.cell? ⟨w4.heap.size, 3, none⟩ = some (.int .u16 sp) := H4.out.cell 2 rfl 3 rfl
    have g4 : w5.cell? ⟨w4.heap.size, 4, none⟩ = some (.int .u16 dp) := H4.out.cell 2 rfl 4 rfl
    have tk : (kk == kk) = true := by simp
    have te : (ke == ke) = true := by simp
    go_wp2_with fail
    refine (kept_any A1 n zs A c _ ((R.out.below H4.out.bel).more H4.out.size) (H4.out.rd 0 rfl) hc).mono ?_
    rintro e wc ⟨rfl, mc, hc'⟩
    have HD := Lib.hid (hc' ▸ H4.out.drewN mc)
    clear hc' H4
    go_wp2_with fail
    go_ret
    exact ⟨rfl, HD.out.bel⟩

set_option maxHeartbeats 8000000 in
set_option maxRecDepth 100000 in
theorem icmpTells_walk (A : Option Addr) (n c : Nat) (zs : List Int) (w : World) (h : ROW .u8 255 w A n c zs) (hS : SORTS w) :
    Calls Tryd.prog 5 #[.slice A n c] w fun e w' => e = .returned (.bool true) ∧ Below w.heap.size w w' := by
  go_enter Tryd.func5, Tryd.ntmps5
  go_wp2_with fail
  refine (tells10_any A n c zs w h.rd h.bd h.le hS).mono ?_
  rintro e w1 ⟨rfl, hb1⟩
  go_wp2_with fail
  refine (awake10_any _ (hS.below hb1)).mono ?_
  rintro e w2 ⟨rfl, hb2⟩
  go_wp2_with fail
  go_ret
  exact ⟨rfl, hb1.trans (hb2.mono hb1.size)⟩

theorem icmpReads_walk2 (A : Option Addr) (n c : Nat) (zs : List Int) (t cd : Int) (w : World) (h : ROW .u8 255 w A n c zs) (ht : 0 ≤ t ∧ t ≤ 255) (hcd : 0 ≤ cd ∧ cd ≤ 255) (hS : SORTS w) :
    Calls Tryd.prog 3 #[.slice A n c, .int .u8 t, .int .u8 cd] w fun e w' => e = .returned (.bool true) ∧ Below w.heap.size w w' := by
  obtain ⟨u, rfl⟩ := Int.eq_ofNat_of_zero_le ht.1
  exact icmpReads_walk A n c zs u cd w h (by omega) hcd hS
theorem icmpWrites_walk2 (t cd id seq : Int) (A : Option Addr) (n c : Nat) (zs : List Int) (w : World) (ht : 0 ≤ t ∧ t ≤ 255) (hcd : 0 ≤ cd ∧ cd ≤ 255) (hid : 0 ≤ id ∧ id ≤ 65535) (hseq : 0 ≤ seq ∧ seq ≤ 65535)
    (h : ROW .u8 255 w A n c zs) (hS : SORTS w) :
    Calls Tryd.prog 4 #[.agg #[.int .u8 t, .int .u8 cd, .int .u16 id, .int .u16 seq], .slice A n c] w fun e w' => e = .returned (.bool true) ∧ Below w.heap.size w w' := by
  obtain ⟨u, rfl⟩ := Int.eq_ofNat_of_zero_le ht.1
  exact icmpWrites_walk u cd id seq A n c zs w (by omega) hcd hid hseq h hS
end Go.Proofs.YtjbkfhdbgphodaaDoor
