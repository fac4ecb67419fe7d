import Derived.Test.YtljbfnabnkkfeaaFgZ
import Derived.Deep.RegionLaw
/- bafflelaw07.FragMixed returns true. (Printed by gen_fglaws.py.) -/
namespace Go.Proofs.Ytljbfnabnkkfeaa
open Go.RowKit
set_option linter.unusedVariables false
set_option linter.unusedSimpArgs false

theorem u8_not7 (x : Int) (h0 : 0 ≤ x) (h1 : x ≤ 255) : bits .xor .u8 255 x = 255 - x := by
  obtain ⟨a, rfl⟩ := Int.eq_ofNat_of_zero_le h0
  have key : ∀ a : Nat, a < 256 → bits .xor .u8 255 (a : Int) = 255 - (a : Int) := by decide +kernel
  exact key a (by omega)
theorem put_evict {h : HD} {o d : List Int} {f : FR} {g : AG} {life t now : Int} (hl : lateA ⟨1, life, t, []⟩ now = false) (H : FRG h o d f) (hw : ¬ wholeF f) (hg : sameK h g = false) (hv : overG life now g = false) : putA ⟨1, life, t, [g]⟩ now (bytesF f) = putA ⟨1, life, t, []⟩ now (bytesF f) := by
  have hl2 : lateA ⟨1, life, t, [g]⟩ now = false := hl
  rw [put_as hl2 H hw, put_as hl H hw]
  have e1 : passA ⟨1, life, t, [g]⟩ now = ⟨1, life, now, [g]⟩ := pass_none (T := ⟨1, life, t, [g]⟩) (by intro x hx; simp at hx; subst hx; exact hv)
  have e2 : passA ⟨1, life, t, []⟩ now = ⟨1, life, now, []⟩ := rfl
  have e3 : ofA ⟨1, life, now, [g]⟩ h = ([newG now h], 0) := by
    unfold ofA
    rw [show ([g] : List AG).findIdx? (sameK h) = none from List.findIdx?_eq_none_iff.2 (fun x hx => by simp at hx; subst hx; exact hg)]
    rfl
  have e4 : ofA ⟨1, life, now, []⟩ h = ([newG now h], 0) := rfl
  rw [e1, e2, e3, e4]
/-- which of the pieces of one packet, of two that are mixed, were put, and are to come -/
def ixA (n1 : Nat) (l : List Nat) : List Nat := l.filter (fun x => decide (x < n1))
def ixB (n1 : Nat) (l : List Nat) : List Nat := (l.filter (fun x => !decide (x < n1))).map (fun x => x - n1)
theorem ixA_perm {n1 n2 : Nat} {σ : List Nat} (hσ : σ.Perm (List.range (n1 + n2))) (i : Nat) : (ixA n1 (σ.take i) ++ ixA n1 (σ.drop i)).Perm (List.range n1) := by
  unfold ixA
  rw [← List.filter_append, List.take_append_drop]
  refine (hσ.filter _).trans ?_
  rw [List.range_add, List.filter_append]
  have e1 : (List.range n1).filter (fun x => decide (x < n1)) = List.range n1 := List.filter_eq_self.2 (fun x hx => by simpa using hx)
  have e2 : ((List.range n2).map (n1 + ·)).filter (fun x => decide (x < n1)) = [] := List.filter_eq_nil_iff.2 (fun x hx => by obtain ⟨y, _, rfl⟩ := List.mem_map.1 hx; simp)
  rw [e1, e2, List.append_nil]
theorem ixB_perm {n1 n2 : Nat} {σ : List Nat} (hσ : σ.Perm (List.range (n1 + n2))) (i : Nat) : (ixB n1 (σ.take i) ++ ixB n1 (σ.drop i)).Perm (List.range n2) := by
  unfold ixB
  rw [← List.map_append, ← List.filter_append, List.take_append_drop]
  refine ((hσ.filter _).map _).trans ?_
  rw [List.range_add, List.filter_append]
  have e1 : (List.range n1).filter (fun x => !decide (x < n1)) = [] := List.filter_eq_nil_iff.2 (fun x hx => by simp at hx; simp [hx])
  have e2 : ((List.range n2).map (n1 + ·)).filter (fun x => !decide (x < n1)) = (List.range n2).map (n1 + ·) := List.filter_eq_self.2 (fun x hx => by obtain ⟨y, _, rfl⟩ := List.mem_map.1 hx; simp)
  rw [e1, e2, List.nil_append, List.map_map]
  have e3 : (List.range n2).map ((fun x => x - n1) ∘ fun x => n1 + x) = List.range n2 := by
    conv => rhs; rw [← List.map_id (List.range n2)]
    apply List.map_congr_left
    intro x _
    show n1 + x - n1 = x
    omega
  rw [e3]
theorem ix_lt {n1 : Nat} {σ : List Nat} {i a : Nat} (ha : σ[i]? = some a) (h : a < n1) : ixA n1 (σ.take (i + 1)) = ixA n1 (σ.take i) ++ [a] ∧ ixA n1 (σ.drop i) = a :: ixA n1 (σ.drop (i + 1)) ∧ ixB n1 (σ.take (i + 1)) = ixB n1 (σ.take i) ∧ ixB n1 (σ.drop i) = ixB n1 (σ.drop (i + 1)) := by
  obtain ⟨t1, t2⟩ := drop_at ha
  unfold ixA ixB
  rw [t1, t2, List.filter_append, List.filter_append, List.filter_cons, List.filter_cons, List.filter_cons, List.filter_cons]
  simp [h]
theorem ix_ge {n1 : Nat} {σ : List Nat} {i a : Nat} (ha : σ[i]? = some a) (h : ¬ a < n1) : ixA n1 (σ.take (i + 1)) = ixA n1 (σ.take i) ∧ ixA n1 (σ.drop i) = ixA n1 (σ.drop (i + 1)) ∧ ixB n1 (σ.take (i + 1)) = ixB n1 (σ.take i) ++ [a - n1] ∧ ixB n1 (σ.drop i) = (a - n1) :: ixB n1 (σ.drop (i + 1)) := by
  obtain ⟨t1, t2⟩ := drop_at ha
  unfold ixA ixB
  rw [t1, t2, List.filter_append, List.filter_append, List.filter_cons, List.filter_cons, List.filter_cons, List.filter_cons]
  simp [h]
theorem gat_left {G1 G2 : List (SD × List Int)} {j : Nat} (h : j < G1.length) : gat (G1 ++ G2) j = gat G1 j := by unfold gat; rw [List.getElem?_append_left h]
theorem gat_right {G1 G2 : List (SD × List Int)} {j : Nat} (h : G1.length ≤ j) : gat (G1 ++ G2) j = gat G2 (j - G1.length) := by unfold gat; rw [List.getElem?_append_right h]
set_option maxHeartbeats 8000000 in
set_option maxRecDepth 100000 in
theorem fragMixed_walk (h0 h1 h2 h3 h4 h5 h6 h7 h8 h9 h10 h11 words far many : Int) (df mf : Bool) (A : Option Addr) (n c : Nat) (zs : List Int) (g0 g1 g2 g3 g4 g5 g6 g7 g8 g9 g10 g11 words2 far2 many2 : Int) (df2 mf2 : Bool) (A2 : Option Addr) (n2 c2 : Nat) (zs2 : List Int) (q : Int) (Bh : Option Addr) (bn bc : Nat) (ys : List Int) (w : World) (hb : BD 255 [h0, h1, h2, h3, h4, h5, h6, h7, h8, h9, h10, h11]) (hw : 0 ≤ words ∧ words ≤ 255) (hf : 0 ≤ far ∧ far ≤ 255) (hm : 0 ≤ many ∧ many ≤ 255) (h : ROW .u8 255 w A n c zs) (hb2 : BD 255 [g0, g1, g2, g3, g4, g5, g6, g7, g8, g9, g10, g11]) (hw2 : 0 ≤ words2 ∧ words2 ≤ 255) (hf2 : 0 ≤ far2 ∧ far2 ≤ 255) (hm2 : 0 ≤ many2 ∧ many2 ≤ 255) (hz2 : ROW .u8 255 w A2 n2 c2 zs2) (hq : 0 ≤ q ∧ q ≤ 255) (hB : ROW .u8 255 w Bh bn bc ys) :
    Calls Try.prog 8 #[.agg (sm18 h0 h1 h2 h3 h4 h5 h6 h7 h8 h9 h10 h11 words far many df mf (.slice A n c)), .agg (sm18 g0 g1 g2 g3 g4 g5 g6 g7 g8 g9 g10 g11 words2 far2 many2 df2 mf2 (.slice A2 n2 c2)), .int .u8 q, .slice Bh bn bc] w fun e w' => e = .returned (.bool true) ∧ Below w.heap.size w w' := by
  obtain ⟨i0, hi, hz0, hz1, hz2'⟩ := info_parts infoU8
  obtain ⟨S1, hS1⟩ : ∃ b, b = w.heap.size := ⟨_, rfl⟩
  obtain ⟨S2, hS2⟩ : ∃ b, b = w.heap.size + 1 := ⟨_, rfl⟩
  have X1 := Lib.hid (show SP w _ [.blk S1 25 #[.int .u8 h0, .int .u8 h1, .int .u8 h2, .int .u8 h3, .int .u8 h4, .int .u8 h5, .int .u8 h6, .int .u8 h7, .int .u8 h8, .int .u8 h9, .int .u8 h10, .int .u8 h11, .int .u8 words, .int .u8 far, .int .u8 many, .bool df, .bool mf, .slice A n c], .blk S2 25 #[.int .u8 g0, .int .u8 g1, .int .u8 g2, .int .u8 g3, .int .u8 g4, .int .u8 g5, .int .u8 g6, .int .u8 g7, .int .u8 g8, .int .u8 g9, .int .u8 g10, .int .u8 g11, .int .u8 words2, .int .u8 far2, .int .u8 many2, .bool df2, .bool mf2, .slice A2 n2 c2]] from ((SP.start w).alloc' (N := S1) 25 #[.int .u8 h0, .int .u8 h1, .int .u8 h2, .int .u8 h3, .int .u8 h4, .int .u8 h5, .int .u8 h6, .int .u8 h7, .int .u8 h8, .int .u8 h9, .int .u8 h10, .int .u8 h11, .int .u8 words, .int .u8 far, .int .u8 many, .bool df, .bool mf, .slice A n c] hS1.symm).alloc' (N := S2) 25 #[.int .u8 g0, .int .u8 g1, .int .u8 g2, .int .u8 g3, .int .u8 g4, .int .u8 g5, .int .u8 g6, .int .u8 g7, .int .u8 g8, .int .u8 g9, .int .u8 g10, .int .u8 g11, .int .u8 words2, .int .u8 far2, .int .u8 many2, .bool df2, .bool mf2, .slice A2 n2 c2] (by rw [hS2]; simp))
  have hh2 : 0 ≤ h2 ∧ h2 ≤ 255 := hb h2 (by simp)
  have hh1 : 0 ≤ h1 ∧ h1 ≤ 255 := hb h1 (by simp)
  have hbY : BD 255 [h0, h1, 255 - h2, h3, h4, h5, h6, h7, h8, h9, h10, h11] := fun y hy => by
    simp only [List.mem_cons, List.not_mem_nil, or_false] at hy
    rcases hy with rfl | rfl | rfl | rfl | rfl | rfl | rfl | rfl | rfl | rfl | rfl | rfl
    all_goals first | omega | exact hb _ (by simp)
  have HM := Lib.hid (fun W (hW : Below w.heap.size w W) => made7_any h0 h1 h2 h3 h4 h5 h6 h7 h8 h9 h10 h11 words far many df mf A n c zs W hb hw hf hm (h.rd.later hW) h.bd h.le h.cap)
  have HMY := Lib.hid (fun W (hW : Below w.heap.size w W) => made7_any h0 h1 (255 - h2) h3 h4 h5 h6 h7 h8 h9 h10 h11 words2 far2 many2 df2 mf2 A2 n2 c2 zs2 W hbY hw2 hf2 hm2 (hz2.rd.later hW) hz2.bd hz2.le hz2.cap)
  have HBY := Lib.hid (fun W (hW : Below w.heap.size w W) => (hB.rd.below hW).more hW.size)
  have HBB := Lib.hid (And.intro hB.bd (And.intro hB.le hB.cap))
  clear hb hw hf hm h hB hb2 hw2 hf2 hm2 hz2 hbY
  unfold sm18 at HM HMY ⊢
  generalize hHX : HDM h0 h1 h2 h3 h4 h5 h6 h7 h8 h9 h10 false false 0 = h at HM
  generalize hHY : HDM h0 h1 (255 - h2) h3 h4 h5 h6 h7 h8 h9 h10 false false 0 = hY at HMY
  have hid : h.id = h1 * 256 + h2 := by rw [← hHX]; exact u16_or_low h1 h2 hh1.1 hh1.2 hh2.1 hh2.2
  have hidY : hY.id = h1 * 256 + (255 - h2) := by rw [← hHY]; exact u16_or_low h1 (255 - h2) hh1.1 hh1.2 (by omega) (by omega)
  have HKEY := Lib.hid (show (∀ g, sameK h g = true → sameK hY g = false) ∧ (∀ g, sameK hY g = true → sameK h g = false) from by
    constructor <;> intro g hg <;> unfold sameK at hg ⊢ <;> simp only [Bool.and_eq_true, beq_iff_eq] at hg <;> obtain ⟨_, _, _, hg4⟩ := hg <;> simp only [Bool.and_eq_false_iff, beq_eq_false_iff_ne] <;> right <;> right <;> right <;> omega)
  have HID := Lib.hid hid
  clear hHX hHY hid hidY
  go_enter Try.func8, Try.ntmps8
  go_wp2_with fail
  rw [← hS2, ← hS1]
  generalize hw1 : (w.alloc (.cells #[.int .u8 h0, .int .u8 h1, .int .u8 h2, .int .u8 h3, .int .u8 h4, .int .u8 h5, .int .u8 h6, .int .u8 h7, .int .u8 h8, .int .u8 h9, .int .u8 h10, .int .u8 h11, .int .u8 words, .int .u8 far, .int .u8 many, .bool df, .bool mf, .slice A n c] 25)).alloc (.cells #[.int .u8 g0, .int .u8 g1, .int .u8 g2, .int .u8 g3, .int .u8 g4, .int .u8 g5, .int .u8 g6, .int .u8 g7, .int .u8 g8, .int .u8 g9, .int .u8 g10, .int .u8 g11, .int .u8 words2, .int .u8 far2, .int .u8 many2, .bool df2, .bool mf2, .slice A2 n2 c2] 25) = w1 at X1 ⊢
  clear hw1 hS1 hS2
  refine (awake7_any _).mono ?_
  rintro e w2 ⟨rfl, hb2⟩
  have X2 := Lib.hid (X1.out.next hb2)
  clear hb2 X1
  have HRG := Lib.hid (show w2.rangeAt S1 0 [.int .u8 h0, .int .u8 h1, .int .u8 h2, .int .u8 h3, .int .u8 h4, .int .u8 h5, .int .u8 h6, .int .u8 h7, .int .u8 h8, .int .u8 h9, .int .u8 h10, .int .u8 h11] from (X2.out.blk 0 rfl).range 0 12)
  have HTH := Lib.hid (show w2.there S2 0 (#[.int .u8 h0, .int .u8 h1, .int .u8 h2, .int .u8 h3, .int .u8 h4, .int .u8 h5, .int .u8 h6, .int .u8 h7, .int .u8 h8, .int .u8 h9, .int .u8 h10, .int .u8 h11] : Array Value).size from (X2.out.blk 1 rfl).there 0 12 (by show (12 : Nat) ≤ 18; omega))
  have HIN := Lib.hid (show (Try.prog.info? 22).map (·.size) = some (#[.int .u8 h0, .int .u8 h1, .int .u8 h2, .int .u8 h3, .int .u8 h4, .int .u8 h5, .int .u8 h6, .int .u8 h7, .int .u8 h8, .int .u8 h9, .int .u8 h10, .int .u8 h11] : Array Value).size from by kernel_rfl)
  have HSET := Lib.hid (show setAll #[.int .u8 g0, .int .u8 g1, .int .u8 g2, .int .u8 g3, .int .u8 g4, .int .u8 g5, .int .u8 g6, .int .u8 g7, .int .u8 g8, .int .u8 g9, .int .u8 g10, .int .u8 g11, .int .u8 words2, .int .u8 far2, .int .u8 many2, .bool df2, .bool mf2, .slice A2 n2 c2] 0 [.int .u8 h0, .int .u8 h1, .int .u8 h2, .int .u8 h3, .int .u8 h4, .int .u8 h5, .int .u8 h6, .int .u8 h7, .int .u8 h8, .int .u8 h9, .int .u8 h10, .int .u8 h11] = #[.int .u8 h0, .int .u8 h1, .int .u8 h2, .int .u8 h3, .int .u8 h4, .int .u8 h5, .int .u8 h6, .int .u8 h7, .int .u8 h8, .int .u8 h9, .int .u8 h10, .int .u8 h11, .int .u8 words2, .int .u8 far2, .int .u8 many2, .bool df2, .bool mf2, .slice A2 n2 c2] by simp [setAll])
  go_upto_region 4 with (first
    | (refine wpList_load_mid rfl 22 _ rfl S1 0 rfl [.int .u8 h0, .int .u8 h1, .int .u8 h2, .int .u8 h3, .int .u8 h4, .int .u8 h5, .int .u8 h6, .int .u8 h7, .int .u8 h8, .int .u8 h9, .int .u8 h10, .int .u8 h11] _ HRG.out Try.underlying22 rfl (by kernel_rfl) ?_)
    | (refine wpList_store_mid rfl 22 _ _ rfl S2 0 #[.int .u8 h0, .int .u8 h1, .int .u8 h2, .int .u8 h3, .int .u8 h4, .int .u8 h5, .int .u8 h6, .int .u8 h7, .int .u8 h8, .int .u8 h9, .int .u8 h10, .int .u8 h11] rfl rfl HTH.out HIN.out (by simp [Value.oneCell']) ?_
       refine nameL' (fun w3 hw3 => ?_)
       have hX3 := X2.out.setM [.int .u8 h0, .int .u8 h1, .int .u8 h2, .int .u8 h3, .int .u8 h4, .int .u8 h5, .int .u8 h6, .int .u8 h7, .int .u8 h8, .int .u8 h9, .int .u8 h10, .int .u8 h11] 0 1 rfl
       rw [HSET.out] at hX3
       have X3 := Lib.hid (show SP w w3 [.blk S1 25 #[.int .u8 h0, .int .u8 h1, .int .u8 h2, .int .u8 h3, .int .u8 h4, .int .u8 h5, .int .u8 h6, .int .u8 h7, .int .u8 h8, .int .u8 h9, .int .u8 h10, .int .u8 h11, .int .u8 words, .int .u8 far, .int .u8 many, .bool df, .bool mf, .slice A n c], .blk S2 25 #[.int .u8 h0, .int .u8 h1, .int .u8 h2, .int .u8 h3, .int .u8 h4, .int .u8 h5, .int .u8 h6, .int .u8 h7, .int .u8 h8, .int .u8 h9, .int .u8 h10, .int .u8 h11, .int .u8 words2, .int .u8 far2, .int .u8 many2, .bool df2, .bool mf2, .slice A2 n2 c2]] by rw [hw3]; exact hX3)
       clear hX3 hw3))
  clear HRG HTH HIN X2
  have x2 := X3.out.cell 0 rfl 2 (v := .int .u8 h2) rfl
  have y2 := X3.out.cell 1 rfl 2 (v := .int .u8 h2) rfl
  have y3 := X3.out.free 1 rfl 2
  have e1 : bits .xor .u8 255 h2 = 255 - h2 := u8_not7 h2 hh2.1 hh2.2
  have e2 : bits .xor .u8 (if IntKind.u8.signed = true then -1 else IntKind.u8.max) h2 = 255 - h2 := u8_not7 h2 hh2.1 hh2.2
  have X4 := Lib.hid (show SP w (w3.setCell ⟨S2, 2, none⟩ (.int .u8 (255 - h2))) [.blk S1 25 #[.int .u8 h0, .int .u8 h1, .int .u8 h2, .int .u8 h3, .int .u8 h4, .int .u8 h5, .int .u8 h6, .int .u8 h7, .int .u8 h8, .int .u8 h9, .int .u8 h10, .int .u8 h11, .int .u8 words, .int .u8 far, .int .u8 many, .bool df, .bool mf, .slice A n c], .blk S2 25 #[.int .u8 h0, .int .u8 h1, .int .u8 (255 - h2), .int .u8 h3, .int .u8 h4, .int .u8 h5, .int .u8 h6, .int .u8 h7, .int .u8 h8, .int .u8 h9, .int .u8 h10, .int .u8 h11, .int .u8 words2, .int .u8 far2, .int .u8 many2, .bool df2, .bool mf2, .slice A2 n2 c2]] from X3.out.setB 1 rfl 2 (.int .u8 (255 - h2)))
  go_upto_region 5 with fail
  generalize hw4 : w3.setCell ⟨S2, 2, none⟩ (.int .u8 (255 - h2)) = w4 at X4 ⊢
  clear hw4 X3 x2 y2 y3 e1 e2
  have XD := Lib.hid X4.out.drew
  clear X4
  go_cut [9, 10] (fun s9 s10 wx => ∃ (o d o2 d2 : List Int) (Ab : Option Addr) (nb cb : Nat) (Ay : Option Addr) (ny cy : Nat), s9 = .slice Ab nb cb ∧ s10 = .slice Ay ny cy ∧ MPKT h o d ∧ MPKT hY o2 d2 ∧ SP w wx [.blk S1 25 #[.int .u8 h0, .int .u8 h1, .int .u8 h2, .int .u8 h3, .int .u8 h4, .int .u8 h5, .int .u8 h6, .int .u8 h7, .int .u8 h8, .int .u8 h9, .int .u8 h10, .int .u8 h11, .int .u8 words, .int .u8 far, .int .u8 many, .bool df, .bool mf, .slice A n c], .own .u8 5 Ab nb cb (pktB h o d), .own .u8 5 Ay ny cy (pktB hY o2 d2)])
  case first =>
    refine wp_region_noPanic ?_
    refine wp_region_held_drew (S := fun W' => BLOCK W' S1 25 #[.int .u8 h0, .int .u8 h1, .int .u8 h2, .int .u8 h3, .int .u8 h4, .int .u8 h5, .int .u8 h6, .int .u8 h7, .int .u8 h8, .int .u8 h9, .int .u8 h10, .int .u8 h11, .int .u8 words, .int .u8 far, .int .u8 many, .bool df, .bool mf, .slice A n c] ∧ BLOCK W' S2 25 #[.int .u8 h0, .int .u8 h1, .int .u8 (255 - h2), .int .u8 h3, .int .u8 h4, .int .u8 h5, .int .u8 h6, .int .u8 h7, .int .u8 h8, .int .u8 h9, .int .u8 h10, .int .u8 h11, .int .u8 words2, .int .u8 far2, .int .u8 many2, .bool df2, .bool mf2, .slice A2 n2 c2]) (by kernel_rfl) (by exact ⟨XD.out.blk 0 rfl, XD.out.blk 1 rfl⟩) (fun hHeld => ?_)
    generalize w4.drew = v1 at XD hHeld ⊢
    refine' take_lit (i := 0) (v := .agg (#[.int .u8 h0, .int .u8 h1, .int .u8 h2, .int .u8 h3, .int .u8 h4, .int .u8 h5, .int .u8 h6, .int .u8 h7, .int .u8 h8, .int .u8 h9, .int .u8 h10, .int .u8 h11, .int .u8 words, .int .u8 far, .int .u8 many, .bool df, .bool mf, .slice A n c])) rfl (by kernel_rfl) (by kernel_rfl) (by kernel_rfl) (fun _ _ _ h => h) (Or.inl ⟨by rfl, ?yy1⟩) (by assumption) ?rr1
    case yy1 => intro w' hSw; exact exec_load_row 25 _ rfl S1 rfl 25 (#[.int .u8 h0, .int .u8 h1, .int .u8 h2, .int .u8 h3, .int .u8 h4, .int .u8 h5, .int .u8 h6, .int .u8 h7, .int .u8 h8, .int .u8 h9, .int .u8 h10, .int .u8 h11, .int .u8 words, .int .u8 far, .int .u8 many, .bool df, .bool mf, .slice A n c]) (0, 0) _ (hSw.1) Try.underlying25 rfl (by kernel_rfl)
    (try simp only [Act.put]); (try simp only [List.setIfInBounds_toArray, List.set_cons_zero, List.set_cons_succ])
    refine' take_lit (i := 2) (v := .agg (#[.int .u8 h0, .int .u8 h1, .int .u8 (255 - h2), .int .u8 h3, .int .u8 h4, .int .u8 h5, .int .u8 h6, .int .u8 h7, .int .u8 h8, .int .u8 h9, .int .u8 h10, .int .u8 h11, .int .u8 words2, .int .u8 far2, .int .u8 many2, .bool df2, .bool mf2, .slice A2 n2 c2])) rfl (by kernel_rfl) (by kernel_rfl) (by kernel_rfl) (fun _ _ _ h => h) (Or.inl ⟨by rfl, ?yy2⟩) (by assumption) ?rr2
    case yy2 => intro w' hSw; exact exec_load_row 25 _ rfl S2 rfl 25 (#[.int .u8 h0, .int .u8 h1, .int .u8 (255 - h2), .int .u8 h3, .int .u8 h4, .int .u8 h5, .int .u8 h6, .int .u8 h7, .int .u8 h8, .int .u8 h9, .int .u8 h10, .int .u8 h11, .int .u8 words2, .int .u8 far2, .int .u8 many2, .bool df2, .bool mf2, .slice A2 n2 c2]) (0, 0) _ (hSw.2) Try.underlying25 rfl (by kernel_rfl)
    (try simp only [Act.put]); (try simp only [List.setIfInBounds_toArray, List.set_cons_zero, List.set_cons_succ])
    refine wpAnyH_ready (rs := [1]) (by kernel_rfl) (by simp) ?_
    refine cons_lit rfl (fun K hK => ?ss1x3) AllReadyH.nil
    case ss1x3 =>
      go_simp
      refine (HM.out v1 XD.out.bel).mono ?_
      rintro e v2 ⟨o, d, Ab, nb, cb, rfl, hp, ho, hbl⟩
      have Y1 := Lib.hid (show SP w v2 [.blk S1 25 #[.int .u8 h0, .int .u8 h1, .int .u8 h2, .int .u8 h3, .int .u8 h4, .int .u8 h5, .int .u8 h6, .int .u8 h7, .int .u8 h8, .int .u8 h9, .int .u8 h10, .int .u8 h11, .int .u8 words, .int .u8 far, .int .u8 many, .bool df, .bool mf, .slice A n c], .blk S2 25 #[.int .u8 h0, .int .u8 h1, .int .u8 (255 - h2), .int .u8 h3, .int .u8 h4, .int .u8 h5, .int .u8 h6, .int .u8 h7, .int .u8 h8, .int .u8 h9, .int .u8 h10, .int .u8 h11, .int .u8 words2, .int .u8 far2, .int .u8 many2, .bool df2, .bool mf2, .slice A2 n2 c2], .own .u8 5 Ab nb cb (pktB h o d)] from XD.out.pushOwn hbl ho)
      have HP := Lib.hid hp
      clear hp ho hbl XD
      try simp only [Oper.upon_returned]
      refine hK.out _ _ (by exact ⟨Y1.out.blk 0 rfl, Y1.out.blk 1 rfl⟩) (fun hHeld => ?_)
      clear hK K
      (try simp only [Act.put]); (try simp only [List.setIfInBounds_toArray, List.set_cons_zero, List.set_cons_succ])
      refine wpAnyH_ready (rs := [3]) (by kernel_rfl) (by simp) ?_
      refine cons_lit rfl (fun K hK => ?ss3x4) AllReadyH.nil
      case ss3x4 =>
        go_simp
        refine (HMY.out v2 Y1.out.bel).mono ?_
        rintro e v3 ⟨o2, d2, Ay, ny, cy, rfl, hp, ho, hbl⟩
        have Y2 := Lib.hid (show SP w v3 [.blk S1 25 #[.int .u8 h0, .int .u8 h1, .int .u8 h2, .int .u8 h3, .int .u8 h4, .int .u8 h5, .int .u8 h6, .int .u8 h7, .int .u8 h8, .int .u8 h9, .int .u8 h10, .int .u8 h11, .int .u8 words, .int .u8 far, .int .u8 many, .bool df, .bool mf, .slice A n c], .blk S2 25 #[.int .u8 h0, .int .u8 h1, .int .u8 (255 - h2), .int .u8 h3, .int .u8 h4, .int .u8 h5, .int .u8 h6, .int .u8 h7, .int .u8 h8, .int .u8 h9, .int .u8 h10, .int .u8 h11, .int .u8 words2, .int .u8 far2, .int .u8 many2, .bool df2, .bool mf2, .slice A2 n2 c2], .own .u8 5 Ab nb cb (pktB h o d), .own .u8 5 Ay ny cy (pktB hY o2 d2)] from Y1.out.pushOwn hbl ho)
        have HP2 := Lib.hid hp
        clear hp ho hbl Y1
        try simp only [Oper.upon_returned]
        refine hK.out _ _ (by exact ⟨Y2.out.blk 0 rfl, Y2.out.blk 1 rfl⟩) (fun hHeld => ?_)
        clear hK K
        (try simp only [Act.put]); (try simp only [List.setIfInBounds_toArray, List.set_cons_zero, List.set_cons_succ])
        refine' take_lit (i := 4) (v := _) rfl (by kernel_rfl) (by kernel_rfl) (by kernel_rfl) (fun _ _ _ h => h) (Or.inl ⟨by rfl, ?yy5⟩) (by assumption) ?rr5
        case yy5 => intro w' hSw; (try dsimp only at hSw); go_simp; try (with_reducible rfl)
        (try simp only [Act.put]); (try simp only [List.setIfInBounds_toArray, List.set_cons_zero, List.set_cons_succ])
        refine' take_lit (i := 5) (v := _) rfl (by kernel_rfl) (by kernel_rfl) (by kernel_rfl) (fun _ _ _ h => h) (Or.inl ⟨by rfl, ?yy6⟩) (by assumption) ?rr6
        case yy6 => intro w' hSw; (try dsimp only at hSw); go_simp; try (with_reducible rfl)
        (try simp only [Act.put]); (try simp only [List.setIfInBounds_toArray, List.set_cons_zero, List.set_cons_succ])
        refine wpAnyH_done (by kernel_rfl) ?_ _
        refine NoPanic.normal ?_
        go_wp2_with fail
        go_meet
        exact ⟨o, d, o2, d2, Ab, nb, cb, Ay, ny, cy, rfl, rfl, HP.out, HP2.out, Y2.out.pick [0, 2, 3] (by decide) rfl⟩
  case rest =>
  obtain ⟨o, d, o2, d2, Ab, nb, cb, Ay, ny, cy, rfl, rfl, hp, hp2, hX⟩ := hcut
  have X5 := Lib.hid hX
  have HP := Lib.hid hp
  have HP2 := Lib.hid hp2
  have HNB := Lib.hid (And.intro (hX.own 1 rfl).len (hX.own 2 rfl).len)
  obtain ⟨kb1, kb2⟩ := (hX.own 1 rfl).le
  obtain ⟨ky1, ky2⟩ := (hX.own 2 rfl).le
  have hnb : nb ≤ 156 ∧ 20 ≤ nb := by
    have h1 := (hX.own 1 rfl).len
    have h2 := hp.len
    have h3 := hp.right.2.2.2.1
    rw [pkt_len] at h1; omega
  have hny : ny ≤ 156 ∧ 20 ≤ ny := by
    have h1 := (hX.own 2 rfl).len
    have h2 := hp2.len
    have h3 := hp2.right.2.2.2.1
    rw [pkt_len] at h1; omega
  clear hp hp2 hX XD HM HMY
  obtain ⟨s, hs, hs8, hs0, hs32⟩ := size_nat q hq
  obtain ⟨s2, hs2, hs28, hs20, hs232⟩ := size_nat (q / 4) (by omega)
  have a1 : q.tdiv 4 = q / 4 := Int.tdiv_eq_ediv_of_nonneg (by omega)
  have a2 : IntKind.u8.wrap (q / 4) = q / 4 := u8_in _ (by omega) (by omega)
  go_wp2_with fail
  refine (size7s q hq hs _).mono ?_
  rintro e w6 ⟨rfl, hw6⟩
  obtain rfl := hw6
  go_wp2_with fail
  refine (split7 HP.out hs8 hs0 hs32 Ab nb cb X5.out (fun W hS => hS.rd 1 rfl) kb1 (by omega)).mono ?_
  rintro e w7 ⟨lg, nl, cl, G, rfl, hGl, hnl, hPI, hS⟩
  have X6 := Lib.hid hS
  have PI := Lib.hid hPI
  have HNL := Lib.hid (And.intro hGl hnl)
  have hnl12 : 1 ≤ nl ∧ nl ≤ 12 := by have := hPI.cnt_le; omega
  clear hS hPI hGl hnl X5
  go_wp2_with fail
  refine (size7s (q / 4) (by omega) hs2 _).mono ?_
  rintro e w8 ⟨rfl, hw8⟩
  obtain rfl := hw8
  go_wp2_with fail
  refine (split7 HP2.out hs28 hs20 hs232 Ay ny cy X6.out (fun W hS => hS.tail.right.rd 2 rfl) ky1 (by omega)).mono ?_
  rintro e w9 ⟨lg2, nl2, cl2, G2, rfl, hGl, hnl, hPI, hS⟩
  have X7 := Lib.hid hS
  have PI2 := Lib.hid hPI
  have HNL2 := Lib.hid (And.intro hGl hnl)
  have hnl212 : 1 ≤ nl2 ∧ nl2 ≤ 12 := by have := hPI.cnt_le; omega
  clear hS hPI hGl hnl X6 hs hs2 a1 a2
  have RF := Lib.hid (fun (W : World) (hs : SP w W (.row 23 1 (some ⟨lg2, 0, none⟩) nl2 cl2 (G2.map gV) :: (G2.map gIT ++ (.row 23 1 (some ⟨lg, 0, none⟩) nl cl (G.map gV) :: (G.map gIT ++ [.blk S1 25 #[.int .u8 h0, .int .u8 h1, .int .u8 h2, .int .u8 h3, .int .u8 h4, .int .u8 h5, .int .u8 h6, .int .u8 h7, .int .u8 h8, .int .u8 h9, .int .u8 h10, .int .u8 h11, .int .u8 words, .int .u8 far, .int .u8 many, .bool df, .bool mf, .slice A n c], .own .u8 5 Ab nb cb (pktB h o d), .own .u8 5 Ay ny cy (pktB hY o2 d2)]))))) => (show PKS W (some ⟨lg, 0, none⟩) G ∧ PKS W (some ⟨lg2, 0, none⟩) G2 ∧ RD .u8 W W.heap.size Ab nb (pktB h o d) ∧ RD .u8 W W.heap.size Ay ny (pktB hY o2 d2) ∧ W.cell? ⟨S1, 1, none⟩ = some (.int .u8 h1) ∧ W.cell? ⟨S1, 2, none⟩ = some (.int .u8 h2) from ⟨pks_split PI.out hs.tail.right, pks_split PI2.out hs, hs.tail.right.tail.right.rd 1 rfl, hs.tail.right.tail.right.rd 2 rfl, hs.tail.right.tail.right.cell 0 rfl 1 rfl, hs.tail.right.tail.right.cell 0 rfl 2 rfl⟩))
  generalize hR0 : (.row 23 1 (some ⟨lg2, 0, none⟩) nl2 cl2 (G2.map gV) :: (G2.map gIT ++ (.row 23 1 (some ⟨lg, 0, none⟩) nl cl (G.map gV) :: (G.map gIT ++ [.blk S1 25 #[.int .u8 h0, .int .u8 h1, .int .u8 h2, .int .u8 h3, .int .u8 h4, .int .u8 h5, .int .u8 h6, .int .u8 h7, .int .u8 h8, .int .u8 h9, .int .u8 h10, .int .u8 h11, .int .u8 words, .int .u8 far, .int .u8 many, .bool df, .bool mf, .slice A n c], .own .u8 5 Ab nb cb (pktB h o d), .own .u8 5 Ay ny cy (pktB hY o2 d2)]))) : List IT) = R0 at X7 RF
  clear hR0
  go_wp2_with fail
  refine (tnew 2 9 X7.out ⟨by omega, by omega⟩ ⟨by omega, by omega⟩).mono ?_
  rintro e wa ⟨TB, rfl, hT⟩
  have X8 := Lib.hid hT
  clear hT X7
  obtain ⟨i9, hi9, hy0, hy1, hy2⟩ := info_parts (show (Try.prog.info? 23).map (fun i => (i.zero, i.size, i.bytes)) = some (some (.slice none 0 0), 1, 24) by kernel_rfl)
  obtain ⟨na, hna⟩ : ∃ x, nl + nl2 = x := ⟨_, rfl⟩
  have HNA := Lib.hid hna
  have hna24 : na ≤ 24 := by omega
  clear hna
  obtain ⟨EB, hEB⟩ : ∃ b, wa.heap.size = b := ⟨_, rfl⟩
  have X9 := Lib.hid (show TAB w (wa.alloc (.cells #[] 23)) TB ⟨2, 9, 0, []⟩ (.row 23 1 (some ⟨EB, 0, none⟩) 0 0 [] :: R0) from X8.out.lift (fun B hS => SP.backOf (C := R0) (hS.allocRow7 23 1 0 #[] (Nat.zero_le _) rfl hEB).rot))
  go_upto_region 12 with (first
    | (at_builtin; refine wpList_append_row1 _ rfl _ _ 30 rfl w.heap.size 23 i9 _ 1 24 Try.underlying30 hi9 hy0 hy1 hy2 (by rfl) (by decide) Ax nl cx (G.map gV) rfl (X10.out.right.row 0 rfl) ⟨lg2, 0, none⟩ nl2 cl2 (G2.map gV) rfl (by have := HNL2.out.1; simp; omega) (all_cells (RF.out _ X10.out.right.tail).2.1) (gV_one _) (by simp only [maxLen]; omega) (by omega) X10.out.size ?_; intro Az cz wY hrow hgrow hat; have hX : TAB w wY TB ⟨2, 9, 0, []⟩ (.row 23 1 Az (nl + nl2) cz (G.map gV ++ G2.map gV) :: R0) := X10.out.lift (fun B hS => SP.backOf (C := R0) ((SP.frontOf hS).appRow 0 rfl hrow hgrow hat)); clear hrow hgrow hat; rw [HNA.out] at hX ⊢; have X11 := Lib.hid hX; clear hX)
    | (at_builtin; refine wpList_append_row1 _ rfl _ _ 30 rfl w.heap.size 23 i9 _ 1 24 Try.underlying30 hi9 hy0 hy1 hy2 (by rfl) (by decide) (some ⟨EB, 0, none⟩) 0 0 [] rfl (X9.out.right.row 0 rfl) ⟨lg, 0, none⟩ nl cl (G.map gV) rfl (by have := HNL.out.1; simp; omega) (all_cells (RF.out _ X9.out.right.tail).1) (gV_one _) (by simp only [maxLen]; omega) (by omega) X9.out.size ?_; intro Ax cx wX hrow hgrow hat; have hX : TAB w wX TB ⟨2, 9, 0, []⟩ (.row 23 1 Ax (0 + nl) cx ([] ++ G.map gV) :: R0) := X9.out.lift (fun B hS => SP.backOf (C := R0) ((SP.frontOf hS).appRow 0 rfl hrow hgrow hat)); clear hrow hgrow hat; rw [Nat.zero_add] at hX ⊢; have X10 := Lib.hid hX; clear hX))
  clear X8 X9 X10 hEB
  have X12 := Lib.hid (show TAB w wY TB ⟨2, 9, 0, []⟩ (.row 23 1 Az na cz ((G ++ G2).map gV) :: R0) by rw [List.map_append]; exact X11.out)
  obtain ⟨ag, hag, _⟩ := row_head (X12.out.right.row 0 rfl) (by have := HNA.out; omega)
  subst hag
  have RG := Lib.hid (fun (W : World) (hs : SP w W (.row 23 1 (some ⟨ag, 0, none⟩) na cz ((G ++ G2).map gV) :: R0)) => (show PKS W (some ⟨ag, 0, none⟩) (G ++ G2) ∧ _ from ⟨pks_mk hs List.mem_cons_self (fun g hg => by
    rcases List.mem_append.1 hg with h2 | h2
    · exact (RF.out W hs.tail).1.each g h2
    · exact (RF.out W hs.tail).2.1.each g h2), RF.out W hs.tail⟩))
  generalize hR2 : (.row 23 1 (some ⟨ag, 0, none⟩) na cz ((G ++ G2).map gV) :: R0 : List IT) = R2 at X12 RG
  clear hR2 X11 RF
  obtain ⟨LF, hLF⟩ : ∃ b, wY.heap.size = b := ⟨_, rfl⟩
  have X13 := Lib.hid (X12.out.alloc 53 #[.int .i64 (nl : Int), .int .i64 (nl2 : Int)] hLF)
  go_upto_region 13 with fail
  try rw [hLF]
  generalize hwb : wY.alloc (.cells #[.int .i64 (nl : Int), .int .i64 (nl2 : Int)] 53) = wb at X13 ⊢
  clear hwb hLF X12
  go_wp2_with fail
  refine (shuf_any na (by omega) Bh bn bc ys wb (HBY.out _ X13.out.bel) HBB.out.1 (by have := HBB.out.2; simp only [maxLen] at this; omega)).mono ?_
  rintro e wc ⟨OA, oc, σ, rfl, hσ, ho, hbo⟩
  have X14 := Lib.hid (X13.out.push hbo ho)
  have HSG := Lib.hid (show σ.Perm (List.range (nl + nl2)) by rw [HNA.out]; exact hσ)
  have HSL := Lib.hid (show σ.length = na by have := hσ.length_eq; simpa using this)
  clear hσ ho hbo X13
  go_upto_region 14 with fail
  have HW := Lib.hid (And.intro HP.out.whole HP2.out.whole)
  go_loopw [20, 21, 22, 23, 24, 87] (fun _ _ _ _ _ s87 wr => ∃ (i : Nat) (a : AT) (ma mb : Option AG) (ca cb2 : Nat), i ≤ na ∧ s87 = .int .i64 (i : Int) ∧ a.limit = 2 ∧ a.life = 9 ∧ MIX h hY a 0 ma mb ∧ MST 0 h o d s (ixA nl (σ.take i)) (ixA nl (σ.drop i)) ma ∧ MST 0 hY o2 d2 s2 (ixB nl (σ.take i)) (ixB nl (σ.drop i)) mb ∧ ca = (ixA nl (σ.drop i)).length ∧ cb2 = (ixB nl (σ.drop i)).length ∧ TAB w wr TB a (.blk LF 53 #[.int .i64 (ca : Int), .int .i64 (cb2 : Int)] :: .own .i64 3 OA na oc (σ.map (fun (i : Nat) => (i : Int))) :: R2)) (fun _ _ _ _ _ s87 _ => na - (intOf s87).toNat)
  case atStart => exact ⟨0, ⟨2, 9, 0, []⟩, none, none, nl, nl2, by omega, rfl, rfl, rfl, ⟨rfl, rfl, rfl, rfl, rfl, fun g hg => by cases hg⟩, by
      have h1 := (ixA_perm HSG.out 0).length_eq
      have h2 := PI.out.cnt_le
      unfold MST
      split
      · rfl
      · exact GSTO.nil _ _ _ _, by
      unfold MST
      split
      · rfl
      · exact GSTO.nil _ _ _ _, by
      have h1 := (ixA_perm HSG.out 0).length_eq
      rw [List.length_append, List.length_range, show ixA nl (σ.take 0) = [] from rfl, List.length_nil, Nat.zero_add] at h1
      exact h1.symm, by
      have h1 := (ixB_perm HSG.out 0).length_eq
      rw [List.length_append, List.length_range, show ixB nl (σ.take 0) = [] from rfl, List.length_nil, Nat.zero_add] at h1
      exact h1.symm, X14.out.perm (List.Perm.swap _ _ _)⟩
  case round =>
    obtain ⟨i, a, ma, mb, ca, cb2, hi2, rfl, ha1, ha2, hMX, hMA, hMB, hca, hcb, Y0⟩ := hrel
    have Y := Lib.hid Y0
    have HA := Lib.hid (And.intro ha1 ha2)
    have HMX := Lib.hid hMX
    have HMA := Lib.hid hMA
    have HMB := Lib.hid hMB
    have HCA := Lib.hid (And.intro hca hcb)
    have hca24 : ca ≤ 24 := by
      have h1 := (ixA_perm HSG.out i).length_eq
      simp at h1; omega
    have hcb24 : cb2 ≤ 24 := by
      have h1 := (ixB_perm HSG.out i).length_eq
      simp at h1; omega
    clear Y0 X14 ha1 ha2 hMX hMA hMB hca hcb
    have e6 : IntKind.i64.wrap ((i : Int) + 1) = (i : Int) + 1 := IntWalk.i64_in _ (by omega)
    by_cases hlt : i < na
    · have i3 : (0 : Int) ≤ (i : Int) := by omega
      have i4 : (i : Int) < (na : Int) := by omega
      obtain ⟨at_, hat⟩ : ∃ x, σ[i]? = some x := ⟨_, List.getElem?_eq_getElem (by rw [HSL.out]; exact hlt)⟩
      have hatl : at_ < na := by
        have h2 := HSG.out.mem_iff.1 (List.mem_of_getElem? hat)
        have h3 := HNA.out
        simp at h2; omega
      obtain ⟨ob, oof, rfl, _, hoc⟩ := (Y.out.right.rd 1 rfl).2 (by omega)
      have x1 := hoc i hlt
      rw [List.getElem?_map, hat] at x1
      replace x1 : wr.cell? ⟨ob, oof + i, none⟩ = some (.int .i64 (at_ : Int)) := x1
      obtain ⟨g, hg⟩ : ∃ g, (G ++ G2)[at_]? = some g := ⟨_, List.getElem?_eq_getElem (by have h3 := HNL.out.1; have h4 := HNL2.out.1; have h5 := HNA.out; rw [List.length_append]; omega)⟩
      have hgz0 : gat (G ++ G2) at_ = g.2 := by unfold gat; rw [hg]; rfl
      obtain ⟨⟨gA, gn, gc⟩, gz⟩ := g
      replace hgz0 : gat (G ++ G2) at_ = gz := hgz0
      obtain ⟨⟨lb, lof, hlg, x2⟩, p2, p3, p4, p5⟩ := (RG.out wr Y.out.right.tail.tail).1 at_ _ hg
      cases hlg
      replace x2 : wr.cell? ⟨ag, at_, none⟩ = some (.slice gA gn gc) := by rw [Nat.zero_add] at x2; exact x2
      have HCE := Lib.hid (fun (W : World) (hS : SP w W R2) => (show RD .u8 W W.heap.size gA gn gz ∧ W.cell? ⟨ag, at_, none⟩ = some (.slice gA gn gc) from by
        obtain ⟨⟨lb, lof, hlg, x3⟩, p2, _⟩ := (RG.out W hS).1 at_ _ hg
        cases hlg
        rw [Nat.zero_add] at x3
        exact ⟨p2, x3⟩))
      have HPB := Lib.hid (And.intro p3 (And.intro p4 p5))
      have i5 : (0 : Int) ≤ (at_ : Int) := by omega
      have i6 : (at_ : Int) < (na : Int) := by omega
      have k0 := Y.out.right.cell 0 rfl 0 (v := .int .i64 (ca : Int)) rfl
      have k1 := Y.out.right.cell 0 rfl 1 (v := .int .i64 (cb2 : Int)) rfl
      have f0 := Y.out.right.free 0 rfl 0
      have f1 := Y.out.right.free 0 rfl 1
      clear hoc p2 p3 p4 p5 hg
      by_cases hA : at_ < nl
      · have HIX := Lib.hid (ix_lt hat hA)
        have hgz : gz = bytesF (pieceF ⟨h, o, d⟩ s at_) := by
          rw [← hgz0, gat_left (by rw [HNL.out.1]; exact hA), PI.out.gat (by have := HNL.out.2; omega)]
        subst hgz
        obtain ⟨T', ma', hp, ht1, ht2, ht3, ht4⟩ := mix_step HW.out.1 hs8 hs0 HKEY.out.1 (by rw [← HNL.out.2]; have h2 := ixA_perm HSG.out i; rw [HIX.out.2.1] at h2; exact h2) HMX.out (by have h2 := HMA.out; rw [HIX.out.2.1] at h2; exact h2) (by omega) (by rw [HA.out.2]; omega) HA.out.1
        have HT1 := Lib.hid (And.intro ht1 (And.intro ht2 (And.intro ht3 ht4)))
        have hpos : 1 ≤ ca := by have h2 := HCA.out; rw [HIX.out.2.1] at h2; simp at h2; omega
        clear ht1 ht2 ht3 ht4 hat hgz0
        have w1 : ¬ (nl : Int) ≤ (at_ : Int) := by omega
        by_cases hem : (ixA nl (σ.drop (i + 1))) = []
        · rw [if_pos hem] at hp
          have HPP := Lib.hid hp
          clear hp
          have q1 : ca - 1 = 0 := by have h2 := HCA.out; rw [HIX.out.2.1] at h2; rw [hem] at h2; simp at h2; omega
          obtain ⟨cx, hcx⟩ : ∃ x, ca - 1 = x := ⟨_, rfl⟩
          obtain rfl : cx = 0 := by omega
          have HCX := Lib.hid hcx
          have q4 : IntKind.i64.wrap ((ca : Int) - 1) = 0 := by rw [IntWalk.i64_in _ (by omega)]; omega
          clear q1 hcx hem
          have Y8 := Lib.hid (show TAB w (wr.setCell ⟨LF, 0, none⟩ (.int .i64 0)) TB a (.blk LF 53 #[.int .i64 0, .int .i64 (cb2 : Int)] :: .own .i64 3 (some ⟨ob, oof, none⟩) na oc (σ.map (fun (i : Nat) => (i : Int))) :: R2) from Y.out.lift (fun B hS => SP.backOf ((SP.frontOf hS).setB 0 rfl 0 (.int .i64 0))))
          go_upto_region 20 with fail
          generalize hwq : wr.setCell ⟨LF, 0, none⟩ (.int .i64 0) = wq at Y8 ⊢
          clear hwq Y k0 k1 f0 f1 x1 x2
          have x2 := (HCE.out _ Y8.out.right.tail.tail).2
          have k0 := Y8.out.right.cell 0 rfl 0 rfl
          have k1 := Y8.out.right.cell 0 rfl 1 rfl
          replace k0 : wq.cell? ⟨LF, 0, none⟩ = some (.int .i64 0) := k0
          replace k1 : wq.cell? ⟨LF, 1, none⟩ = some (.int .i64 (cb2 : Int)) := k1
          have HPU := Lib.hid (tput Y8.out gA gn gc _ 0 (fun W hS => (HCE.out W hS.tail.tail).1) HPB.out.1 HPB.out.2.1 HPB.out.2.2)
          go_wp2_with fail
          refine HPU.out.mono ?_
          rintro e wy ⟨A8, n8, c8, rfl, hn8, hT⟩
          rw [HPP.out] at hT hn8 ⊢
          clear k0 k1
          have k0 := hT.right.tail.cell 0 rfl 0 rfl
          have k1 := hT.right.tail.cell 0 rfl 1 rfl
          replace k0 : wy.cell? ⟨LF, 0, none⟩ = some (.int .i64 0) := k0
          replace k1 : wy.cell? ⟨LF, 1, none⟩ = some (.int .i64 (cb2 : Int)) := k1
          have hn8' : nb = n8 := by have := HNB.out.1; simp only at hn8; omega
          subst hn8'
          have X9 := Lib.hid hT
          clear hT hn8 Y8 HPU
          go_wp2_with fail
          refine (same_any A8 Ab nb c8 nb cb (pktB h o d) (pktB h o d) _ (X9.out.right.rd 0 rfl) (RG.out _ X9.out.right.tail.tail.tail).2.2.2.1 (by omega) (by omega)).mono ?_
          rintro e wz ⟨rfl, qa, rfl⟩
          rw [show (pktB h o d == pktB h o d) = true by simp]
          have Z := Lib.hid (X9.out.drewN qa).tail
          clear X9
          go_wp2_with fail
          go_roundw
          case rel => exact ⟨i + 1, T', ma', mb, 0, cb2, by omega, by go_num, by rw [HT1.out.1, HA.out.1], by rw [HT1.out.2.1, HA.out.2], HT1.out.2.2.1, by rw [HIX.out.1]; exact HT1.out.2.2.2, by rw [HIX.out.2.2.1, ← HIX.out.2.2.2]; exact HMB.out, by rw [← HCX.out, HCA.out.1, HIX.out.2.1]; simp, by rw [HCA.out.2, HIX.out.2.2.2], Z.out⟩
          case measure => simp [intOf]; omega
        · rw [if_neg hem] at hp
          have HPP := Lib.hid hp
          clear hp
          have q1 : 0 < ca - 1 := by
            have h2 := HCA.out
            rw [HIX.out.2.1] at h2
            have h3 := List.length_pos_iff.2 hem
            simp at h2; omega
          obtain ⟨cx, hcx⟩ : ∃ x, ca - 1 = x := ⟨_, rfl⟩
          obtain ⟨yv, hyv⟩ : ∃ y : Int, (cx : Int) = y := ⟨_, rfl⟩
          have q3 : (0 : Int) < yv := by omega
          have q2 : (yv == 0) = false := by simp; omega
          have HYV := Lib.hid hyv
          have HCX := Lib.hid hcx
          have q4 : IntKind.i64.wrap ((ca : Int) - 1) = yv := by rw [IntWalk.i64_in _ (by omega)]; omega
          clear q1 hcx hem hyv
          have Y8 := Lib.hid (show TAB w (wr.setCell ⟨LF, 0, none⟩ (.int .i64 yv)) TB a (.blk LF 53 #[.int .i64 yv, .int .i64 (cb2 : Int)] :: .own .i64 3 (some ⟨ob, oof, none⟩) na oc (σ.map (fun (i : Nat) => (i : Int))) :: R2) from Y.out.lift (fun B hS => SP.backOf ((SP.frontOf hS).setB 0 rfl 0 (.int .i64 yv))))
          go_upto_region 20 with fail
          generalize hwq : wr.setCell ⟨LF, 0, none⟩ (.int .i64 yv) = wq at Y8 ⊢
          clear hwq Y k0 k1 f0 f1 x1 x2
          have x2 := (HCE.out _ Y8.out.right.tail.tail).2
          have k0 := Y8.out.right.cell 0 rfl 0 rfl
          have k1 := Y8.out.right.cell 0 rfl 1 rfl
          replace k0 : wq.cell? ⟨LF, 0, none⟩ = some (.int .i64 yv) := k0
          replace k1 : wq.cell? ⟨LF, 1, none⟩ = some (.int .i64 (cb2 : Int)) := k1
          have HPU := Lib.hid (tput Y8.out gA gn gc _ 0 (fun W hS => (HCE.out W hS.tail.tail).1) HPB.out.1 HPB.out.2.1 HPB.out.2.2)
          go_wp2_with fail
          refine HPU.out.mono ?_
          rintro e wy ⟨A8, n8, c8, rfl, hn8, hT⟩
          rw [HPP.out] at hT hn8 ⊢
          clear k0 k1
          have k0 := hT.right.tail.cell 0 rfl 0 rfl
          have k1 := hT.right.tail.cell 0 rfl 1 rfl
          replace k0 : wy.cell? ⟨LF, 0, none⟩ = some (.int .i64 yv) := k0
          replace k1 : wy.cell? ⟨LF, 1, none⟩ = some (.int .i64 (cb2 : Int)) := k1
          replace hn8 : (0 : Nat) = n8 := hn8
          subst hn8
          have Z := Lib.hid hT.tail
          clear hT Y8 HPU
          go_wp2_with fail
          go_roundw
          case rel => exact ⟨i + 1, T', ma', mb, cx, cb2, by omega, by go_num, by rw [HT1.out.1, HA.out.1], by rw [HT1.out.2.1, HA.out.2], HT1.out.2.2.1, by rw [HIX.out.1]; exact HT1.out.2.2.2, by rw [HIX.out.2.2.1, ← HIX.out.2.2.2]; exact HMB.out, by rw [← HCX.out, HCA.out.1, HIX.out.2.1]; simp, by rw [HCA.out.2, HIX.out.2.2.2], by rw [HYV.out]; exact Z.out⟩
          case measure => simp [intOf]; omega
      · have HIX := Lib.hid (ix_ge hat hA)
        have hgz : gz = bytesF (pieceF ⟨hY, o2, d2⟩ s2 (at_ - nl)) := by
          rw [← hgz0, gat_right (by rw [HNL.out.1]; omega), HNL.out.1, PI2.out.gat (by have := HNL2.out.2; have := HNA.out; omega)]
        subst hgz
        obtain ⟨T', ma', hp, ht1, ht2, ht3, ht4⟩ := mix_step HW.out.2 hs28 hs20 HKEY.out.2 (by rw [← HNL2.out.2]; have h2 := ixB_perm HSG.out i; rw [HIX.out.2.2.2] at h2; exact h2) HMX.out.symm (by have h2 := HMB.out; rw [HIX.out.2.2.2] at h2; exact h2) (by omega) (by rw [HA.out.2]; omega) HA.out.1
        have HT1 := Lib.hid (And.intro ht1 (And.intro ht2 (And.intro ht3 ht4)))
        have hpos : 1 ≤ cb2 := by have h2 := HCA.out; rw [HIX.out.2.2.2] at h2; simp at h2; omega
        clear ht1 ht2 ht3 ht4 hat hgz0
        have w1 : (nl : Int) ≤ (at_ : Int) := by omega
        by_cases hem : (ixB nl (σ.drop (i + 1))) = []
        · rw [if_pos hem] at hp
          have HPP := Lib.hid hp
          clear hp
          have q1 : cb2 - 1 = 0 := by have h2 := HCA.out; rw [HIX.out.2.2.2] at h2; rw [hem] at h2; simp at h2; omega
          obtain ⟨cx, hcx⟩ : ∃ x, cb2 - 1 = x := ⟨_, rfl⟩
          obtain rfl : cx = 0 := by omega
          have HCX := Lib.hid hcx
          have q4 : IntKind.i64.wrap ((cb2 : Int) - 1) = 0 := by rw [IntWalk.i64_in _ (by omega)]; omega
          clear q1 hcx hem
          have Y8 := Lib.hid (show TAB w (wr.setCell ⟨LF, 1, none⟩ (.int .i64 0)) TB a (.blk LF 53 #[.int .i64 (ca : Int), .int .i64 0] :: .own .i64 3 (some ⟨ob, oof, none⟩) na oc (σ.map (fun (i : Nat) => (i : Int))) :: R2) from Y.out.lift (fun B hS => SP.backOf ((SP.frontOf hS).setB 0 rfl 1 (.int .i64 0))))
          go_upto_region 20 with fail
          generalize hwq : wr.setCell ⟨LF, 1, none⟩ (.int .i64 0) = wq at Y8 ⊢
          clear hwq Y k0 k1 f0 f1 x1 x2
          have x2 := (HCE.out _ Y8.out.right.tail.tail).2
          have k0 := Y8.out.right.cell 0 rfl 0 rfl
          have k1 := Y8.out.right.cell 0 rfl 1 rfl
          replace k0 : wq.cell? ⟨LF, 0, none⟩ = some (.int .i64 (ca : Int)) := k0
          replace k1 : wq.cell? ⟨LF, 1, none⟩ = some (.int .i64 0) := k1
          have HPU := Lib.hid (tput Y8.out gA gn gc _ 0 (fun W hS => (HCE.out W hS.tail.tail).1) HPB.out.1 HPB.out.2.1 HPB.out.2.2)
          go_wp2_with fail
          refine HPU.out.mono ?_
          rintro e wy ⟨A8, n8, c8, rfl, hn8, hT⟩
          rw [HPP.out] at hT hn8 ⊢
          clear k0 k1
          have k0 := hT.right.tail.cell 0 rfl 0 rfl
          have k1 := hT.right.tail.cell 0 rfl 1 rfl
          replace k0 : wy.cell? ⟨LF, 0, none⟩ = some (.int .i64 (ca : Int)) := k0
          replace k1 : wy.cell? ⟨LF, 1, none⟩ = some (.int .i64 0) := k1
          have hn8' : ny = n8 := by have := HNB.out.2; simp only at hn8; omega
          subst hn8'
          have X9 := Lib.hid hT
          clear hT hn8 Y8 HPU
          go_wp2_with fail
          refine (same_any A8 Ay ny c8 ny cy (pktB hY o2 d2) (pktB hY o2 d2) _ (X9.out.right.rd 0 rfl) (RG.out _ X9.out.right.tail.tail.tail).2.2.2.2.1 (by omega) (by omega)).mono ?_
          rintro e wz ⟨rfl, qa, rfl⟩
          rw [show (pktB hY o2 d2 == pktB hY o2 d2) = true by simp]
          have Z := Lib.hid (X9.out.drewN qa).tail
          clear X9
          go_wp2_with fail
          go_roundw
          case rel => exact ⟨i + 1, T', ma, ma', ca, 0, by omega, by go_num, by rw [HT1.out.1, HA.out.1], by rw [HT1.out.2.1, HA.out.2], HT1.out.2.2.1.symm, by rw [HIX.out.1, ← HIX.out.2.1]; exact HMA.out, by rw [HIX.out.2.2.1]; exact HT1.out.2.2.2, by rw [HCA.out.1, HIX.out.2.1], by rw [← HCX.out, HCA.out.2, HIX.out.2.2.2]; simp, Z.out⟩
          case measure => simp [intOf]; omega
        · rw [if_neg hem] at hp
          have HPP := Lib.hid hp
          clear hp
          have q1 : 0 < cb2 - 1 := by
            have h2 := HCA.out
            rw [HIX.out.2.2.2] at h2
            have h3 := List.length_pos_iff.2 hem
            simp at h2; omega
          obtain ⟨cx, hcx⟩ : ∃ x, cb2 - 1 = x := ⟨_, rfl⟩
          obtain ⟨yv, hyv⟩ : ∃ y : Int, (cx : Int) = y := ⟨_, rfl⟩
          have q3 : (0 : Int) < yv := by omega
          have q2 : (yv == 0) = false := by simp; omega
          have HYV := Lib.hid hyv
          have HCX := Lib.hid hcx
          have q4 : IntKind.i64.wrap ((cb2 : Int) - 1) = yv := by rw [IntWalk.i64_in _ (by omega)]; omega
          clear q1 hcx hem hyv
          have Y8 := Lib.hid (show TAB w (wr.setCell ⟨LF, 1, none⟩ (.int .i64 yv)) TB a (.blk LF 53 #[.int .i64 (ca : Int), .int .i64 yv] :: .own .i64 3 (some ⟨ob, oof, none⟩) na oc (σ.map (fun (i : Nat) => (i : Int))) :: R2) from Y.out.lift (fun B hS => SP.backOf ((SP.frontOf hS).setB 0 rfl 1 (.int .i64 yv))))
          go_upto_region 20 with fail
          generalize hwq : wr.setCell ⟨LF, 1, none⟩ (.int .i64 yv) = wq at Y8 ⊢
          clear hwq Y k0 k1 f0 f1 x1 x2
          have x2 := (HCE.out _ Y8.out.right.tail.tail).2
          have k0 := Y8.out.right.cell 0 rfl 0 rfl
          have k1 := Y8.out.right.cell 0 rfl 1 rfl
          replace k0 : wq.cell? ⟨LF, 0, none⟩ = some (.int .i64 (ca : Int)) := k0
          replace k1 : wq.cell? ⟨LF, 1, none⟩ = some (.int .i64 yv) := k1
          have HPU := Lib.hid (tput Y8.out gA gn gc _ 0 (fun W hS => (HCE.out W hS.tail.tail).1) HPB.out.1 HPB.out.2.1 HPB.out.2.2)
          go_wp2_with fail
          refine HPU.out.mono ?_
          rintro e wy ⟨A8, n8, c8, rfl, hn8, hT⟩
          rw [HPP.out] at hT hn8 ⊢
          clear k0 k1
          have k0 := hT.right.tail.cell 0 rfl 0 rfl
          have k1 := hT.right.tail.cell 0 rfl 1 rfl
          replace k0 : wy.cell? ⟨LF, 0, none⟩ = some (.int .i64 (ca : Int)) := k0
          replace k1 : wy.cell? ⟨LF, 1, none⟩ = some (.int .i64 yv) := k1
          replace hn8 : (0 : Nat) = n8 := hn8
          subst hn8
          have Z := Lib.hid hT.tail
          clear hT Y8 HPU
          go_wp2_with fail
          go_roundw
          case rel => exact ⟨i + 1, T', ma, ma', ca, cx, by omega, by go_num, by rw [HT1.out.1, HA.out.1], by rw [HT1.out.2.1, HA.out.2], HT1.out.2.2.1.symm, by rw [HIX.out.1, ← HIX.out.2.1]; exact HMA.out, by rw [HIX.out.2.2.1]; exact HT1.out.2.2.2, by rw [HCA.out.1, HIX.out.2.1], by rw [← HCX.out, HCA.out.2, HIX.out.2.2.2]; simp, by rw [HYV.out]; exact Z.out⟩
          case measure => simp [intOf]; omega
    · have t2 : ¬ (i : Int) < (na : Int) := by omega
      obtain rfl : i = na := by omega
      have hgs : a.gs = [] := by
        have h1 := HMA.out
        have h2 := HMB.out
        have h3 : σ.drop i = [] := List.drop_eq_nil_of_le (by rw [HSL.out]; exact Nat.le_refl _)
        rw [h3] at h1 h2
        have h4 : ma = none := by simpa [MST, ixA] using h1
        have h5 : mb = none := by simpa [MST, ixB] using h2
        have h6 : oth h a.gs = [] := by rw [HMX.out.ab, HMX.out.b, h5]; rfl
        rw [oth_nil h6, HMX.out.a, h4]; rfl
      have HGS := Lib.hid hgs
      have X15 := Lib.hid Y.out.tail.tail
      clear hgs Y HMA HMB HMX HCA
      go_wp2_with fail
      refine (tgroups X15.out).mono ?_
      rintro e w8 ⟨GA, gc, rfl, hT⟩
      rw [HGS.out] at hT ⊢
      have X16 := Lib.hid hT.tail
      clear hT X15
      by_cases hsm : nl < 2 ∨ nl2 < 2
      · rcases (show nl < 2 ∨ (¬ nl < 2 ∧ nl2 < 2) by omega) with hc | ⟨hc, hc2⟩
        · have u1 : decide ((nl : Int) < 2) = true := by simp; omega
          go_wp2_with fail
          refine (tgroups X16.out).mono ?_
          rintro e w9 ⟨GA2, gc2, rfl, hT⟩
          rw [HGS.out] at hT ⊢
          have X17 := Lib.hid hT.bel
          clear hT X16
          go_wp2_with fail
          go_ret
          exact ⟨rfl, X17.out⟩
        · have u1 : decide ((nl : Int) < 2) = false := by simp; omega
          have u2 : decide ((nl2 : Int) < 2) = true := by simp; omega
          go_wp2_with fail
          refine (tgroups X16.out).mono ?_
          rintro e w9 ⟨GA2, gc2, rfl, hT⟩
          rw [HGS.out] at hT ⊢
          have X17 := Lib.hid hT.bel
          clear hT X16
          go_wp2_with fail
          go_ret
          exact ⟨rfl, X17.out⟩
      · have u1 : decide ((nl : Int) < 2) = false := by simp; omega
        have u2 : decide ((nl2 : Int) < 2) = false := by simp; omega
        have U3 := Lib.hid (show 2 ≤ nl ∧ 2 ≤ nl2 by omega)
        clear hsm
        have X17 := Lib.hid X16.out.right
        clear X16
        go_wp2_with fail
        refine (tnew 1 9 X17.out ⟨by omega, by omega⟩ ⟨by omega, by omega⟩).mono ?_
        rintro e w9 ⟨TB2, rfl, hT⟩
        have X18 := Lib.hid hT
        clear hT X17
        have u3 := U3.out
        clear u1 u2
        obtain ⟨sdA, hgA⟩ := PI.out.at_ (j := 0) (by have := HNL.out.2; omega)
        obtain ⟨sdB, hgB⟩ := PI2.out.at_ (j := 0) (by have := HNL2.out.2; omega)
        obtain ⟨A1, n1, c1⟩ := sdA
        obtain ⟨A2', n2', c2'⟩ := sdB
        have HLA := Lib.hid (fun (W : World) (hS : SP w W R2) => (show W.cell? ⟨lg, 0, none⟩ = some (.slice A1 n1 c1) ∧ RD .u8 W W.heap.size A1 n1 (bytesF (pieceF ⟨h, o, d⟩ s 0)) ∧ n1 ≤ c1 ∧ n1 ≤ 140737488351232 from by
          obtain ⟨⟨lb, lof, hlg, x3⟩, p2, p3, p4, p5⟩ := (RG.out W hS).2.1 0 _ hgA
          cases hlg
          exact ⟨x3, p2, p4, p5⟩))
        have HLB := Lib.hid (fun (W : World) (hS : SP w W R2) => (show W.cell? ⟨lg2, 0, none⟩ = some (.slice A2' n2' c2') ∧ RD .u8 W W.heap.size A2' n2' (bytesF (pieceF ⟨hY, o2, d2⟩ s2 0)) ∧ n2' ≤ c2' ∧ n2' ≤ 140737488351232 from by
          obtain ⟨⟨lb, lof, hlg, x3⟩, p2, p3, p4, p5⟩ := (RG.out W hS).2.2.1 0 _ hgB
          cases hlg
          exact ⟨x3, p2, p4, p5⟩))
        clear hgA hgB
        have v1 := (HLA.out _ X18.out.right).1
        have v2 : (0 : Int) < (nl : Int) := by omega
        have v3 : (0 : Int) < (nl2 : Int) := by omega
        have hf1 := PI.out.frg (j := 0) (by have := HNL.out.2; omega)
        have hf2 := PI2.out.frg (j := 0) (by have := HNL2.out.2; omega)
        have HPU1 := Lib.hid (tput X18.out A1 n1 c1 _ 1 (fun W hS => (HLA.out W hS).2.1) hf1.bds (HLA.out _ X18.out.right).2.2.1 (HLA.out _ X18.out.right).2.2.2)
        have hput := put_one HW.out.1 hs8 hs0 (σ := []) (iy := (List.range (nl - 1)).map (1 + ·)) (k := 0) (by rw [← HNL.out.2]; conv => { rhs; rw [show nl = 1 + (nl - 1) by omega, List.range_add] }; exact List.Perm.refl _) (by have := HNL.out.2; omega) (T := ⟨1, 9, 0, []⟩) (now := 1) (beg := 1) (m := none) (late_no (by show (0 : Int) ≤ 1; omega) (by omega)) rfl (.inl (GSTO.nil _ _ _ _)) (by show (0 : Int) < 1; omega)
        rw [if_neg (by intro e; have := congrArg List.length e; simp at this; omega)] at hput
        obtain ⟨g1, hput, hg1⟩ := hput
        have HPUT1 := Lib.hid (show putA ⟨1, 9, 0, []⟩ 1 (bytesF (pieceF ⟨h, o, d⟩ s 0)) = (⟨1, 9, 1, [g1]⟩, [], 0) from hput)
        have hput2 := put_one HW.out.2 hs28 hs20 (σ := []) (iy := (List.range (nl2 - 1)).map (1 + ·)) (k := 0) (by rw [← HNL2.out.2]; conv => { rhs; rw [show nl2 = 1 + (nl2 - 1) by omega, List.range_add] }; exact List.Perm.refl _) (by have := HNL2.out.2; omega) (T := ⟨1, 9, 1, []⟩) (now := 2) (beg := 2) (m := none) (late_no (by show (1 : Int) ≤ 2; omega) (by omega)) rfl (.inl (GSTO.nil _ _ _ _)) (by show (0 : Int) < 1; omega)
        rw [if_neg (by intro e; have := congrArg List.length e; simp at this; omega)] at hput2
        obtain ⟨g2, hput2, hg2⟩ := hput2
        have HPUT2 := Lib.hid (show putA ⟨1, 9, 1, [g1]⟩ 2 (bytesF (pieceF ⟨hY, o2, d2⟩ s2 0)) = (⟨1, 9, 2, [g2]⟩, [], 0) from by
          rw [put_evict (late_no (by show (1 : Int) ≤ 2; omega) (by omega)) hf2 (piece_whole HW.out.2 (by omega) (by have := HNL2.out.2; omega) (by have := HNL2.out.2; omega)) (HKEY.out.1 g1 hg1.same) (by unfold overG; rw [hg1.beg]; rfl)]
          exact hput2)
        have HG2 := Lib.hid hg2
        have HF2 := Lib.hid hf2
        clear hput hput2 hg1 hg2 hf1 hf2
        go_wp2_with fail
        refine HPU1.out.mono ?_
        rintro e wd ⟨A8, n8, c8, rfl, hn8, hT⟩
        rw [HPUT1.out] at hT ⊢
        have X19 := Lib.hid hT.tail
        clear hT hn8 HPU1 X18 v1
        have v1 := (HLB.out _ X19.out.right).1
        have HPU2 := Lib.hid (tput X19.out A2' n2' c2' _ 2 (fun W hS => (HLB.out W hS).2.1) HF2.out.bds (HLB.out _ X19.out.right).2.2.1 (HLB.out _ X19.out.right).2.2.2)
        go_wp2_with fail
        refine HPU2.out.mono ?_
        rintro e we ⟨A9, n9, c9, rfl, hn9, hT⟩
        rw [HPUT2.out] at hT ⊢
        have X20 := Lib.hid hT.tail
        clear hT hn9 HPU2 X19 v1
        obtain ⟨nm, hnm⟩ : ∃ nm, nl - 1 = nm := ⟨_, rfl⟩
        have hnm2 : 1 ≤ nm ∧ nm ≤ 11 := by omega
        have v4 : IntKind.i64.wrap ((nl : Int) - 1) = (nm : Int) := by rw [IntWalk.i64_in _ (by omega)]; omega
        have HNM := Lib.hid hnm
        clear hnm
        go_wp2_with fail
        refine (shuf_any nm (by omega) Bh bn bc ys we (HBY.out _ X20.out.bel) HBB.out.1 (by have := HBB.out.2; simp only [maxLen] at this; omega)).mono ?_
        rintro e wf ⟨OA2, oc2, σ2, rfl, hσ, ho, hbo⟩
        have X21 := Lib.hid (X20.out.push hbo ho)
        have HSG2 := Lib.hid hσ
        clear hσ ho hbo X20
        go_wp2_with fail
        refine (tputs X21.out 2 (some ⟨lg, 0, none⟩) nl cl G OA2 nm oc2 σ2 HNL.out.1.symm (by omega) (fun W hS => (RG.out W hS.tail).2.1) (fun W hS => hS.rd 0 rfl) (fun i hi => by have h2 := HSG2.out.mem_iff.1 hi; have h3 := HNL.out.1; have h4 := HNM.out; simp at h2; omega) (by omega)).mono ?_
        rintro e wg ⟨A10, n10, c10, rfl, hn10, hT⟩
        have hσ3 : (σ2 ++ [nm]).Perm (List.range (cnt d.length s)) := by
          rw [← HNL.out.2, show nl = nm + 1 by have := HNM.out; omega, List.range_succ]
          exact HSG2.out.append_right [nm]
        have hne2 : σ2 ≠ [] := fun e => by
          have h2 := HSG2.out.length_eq
          rw [e] at h2
          simp at h2; omega
        obtain ⟨T9, g9, hp1, hp2, hp3, _⟩ := puts_some (T := ⟨1, 9, 2, []⟩) (now := 2) HW.out.1 hs8 hs0 (σ := σ2) (iy := [nm]) hσ3 hne2 (by simp) (by show (2 : Int) ≤ 2; omega) (by omega) (by show (0 : Int) < 9; omega) rfl (by show (0 : Int) < 1; omega)
        have hev : putsA ⟨1, 9, 2, [g2]⟩ 2 [] (σ2.map (gat G)) = (T9, [], true) := by
          rw [PI.out.map (σ := σ2) (fun i hi => by have h2 := HSG2.out.mem_iff.1 hi; have h3 := HNL.out.2; have h4 := HNM.out; simp at h2; omega)]
          rw [← hp1]
          cases hs2 : σ2 with
          | nil => exact absurd hs2 hne2
          | cons j r =>
            have hj : j < cnt d.length s := by
              have h2 := hσ3.mem_iff.1 (show j ∈ σ2 ++ [nm] by rw [hs2]; simp)
              simpa using h2
            have h3 : putA ⟨1, 9, 2, [g2]⟩ 2 (bytesF (pieceF ⟨h, o, d⟩ s j)) = putA ⟨1, 9, 2, []⟩ 2 (bytesF (pieceF ⟨h, o, d⟩ s j)) := put_evict (late_no (by show (2 : Int) ≤ 2; omega) (by omega)) (PI.out.frg hj) (piece_whole HW.out.1 (by omega) (by have := HNL.out.2; omega) hj) (HKEY.out.2 g2 HG2.out.same) (by unfold overG; rw [HG2.out.beg]; rfl)
            show (if (putA ⟨1, 9, 2, [g2]⟩ 2 (bytesF (pieceF ⟨h, o, d⟩ s j))).2.2 ≠ 0 ∨ _ then _ else putsA (putA ⟨1, 9, 2, [g2]⟩ 2 (bytesF (pieceF ⟨h, o, d⟩ s j))).1 2 (putA ⟨1, 9, 2, [g2]⟩ 2 (bytesF (pieceF ⟨h, o, d⟩ s j))).2.1 _) = _
            rw [h3]
            rfl
        rw [hev] at hT hn10 ⊢
        replace hn10 : (0 : Nat) = n10 := hn10
        subst hn10
        have X22 := Lib.hid hT.tail.tail
        have HG9 := Lib.hid (And.intro hp2 hp3)
        clear hT X21 hp1 hp2 hp3 hev hσ3 hne2
        go_wp2_with fail
        refine (tgroups X22.out).mono ?_
        rintro e wh ⟨GA3, gc3, rfl, hT⟩
        rw [HG9.out.1] at hT ⊢
        obtain ⟨gg, hgg, hgc⟩ := row_head (hT.right.row 0 rfl) (by show 0 < ([g9] : List AG).length; simp)
        subst hgg
        have gc4 : wh.cell? ⟨gg, 4, none⟩ = some (.int .i64 2) := by
          rw [hgc 4 (by show 4 < ([g9] : List AG).length * 7; simp)]
          show some (Value.int .i64 g9.begin_) = _
          rw [HG9.out.2.beg]
        have gc3' : wh.cell? ⟨gg, 3, none⟩ = some (.int .u16 (h1 * 256 + h2)) := by
          rw [hgc 3 (by show 3 < ([g9] : List AG).length * 7; simp)]
          show some (Value.int .u16 g9.id) = _
          rw [HG9.out.2.id, HID.out]
        have b1 := (RG.out _ hT.right.tail).2.2.2.2.2.1
        have b2 := (RG.out _ hT.right.tail).2.2.2.2.2.2
        have X23 := Lib.hid hT.bel
        have d1 : IntKind.u16.wrap h1 = h1 := u16_in _ (by omega) (by omega)
        have d2' : IntKind.u16.wrap h2 = h2 := u16_in _ (by omega) (by omega)
        have d3 : IntKind.u16.wrap (h1 * 256) = h1 * 256 := u16_in _ (by omega) (by omega)
        have d4 : bits .or .u16 (h1 * 256) h2 = h1 * 256 + h2 := u16_or_low h1 h2 hh1.1 hh1.2 hh2.1 hh2.2
        clear hT X22 hgc
        go_upto_region 31 with fail
        go_quiet (fail)
        have X24 := Lib.hid (below_drewN X23.out nq)
        go_wp2_with fail
        go_ret
        exact ⟨rfl, X24.out⟩
end Go.Proofs.Ytljbfnabnkkfeaa
