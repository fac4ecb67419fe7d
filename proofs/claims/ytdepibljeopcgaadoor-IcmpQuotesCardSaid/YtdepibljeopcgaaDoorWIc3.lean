/- package icmp: Write. -/
import Derived.Test.YtdepibljeopcgaaDoorWIc2
namespace Go.Proofs.YtdepibljeopcgaaDoor
open Go.RowKit
set_option linter.unusedVariables false
attribute [local go_sem ↓] Go.wp_at_zero Go.wp_at_succ

/-- bytes and an error -/
def Gives (w : World) (zs : List Int) (er : Int) (e : Ending) (w' : World) : Prop :=
  ∃ A n c, e = .returned (.tuple #[.slice A n c, .int .i64 er]) ∧ OWN .u8 5 w' w.heap.size A n c zs ∧ Below w.heap.size w w'
theorem icHead_bd {t c id seq : Int} (h1 : 0 ≤ t ∧ t ≤ 255) (h2 : 0 ≤ c ∧ c ≤ 255) (h3 : 0 ≤ id ∧ id ≤ 65535) (h4 : 0 ≤ seq ∧ seq ≤ 65535) : BD 255 (icHead t c id seq) := fun x hx => by
  simp only [icHead, List.mem_cons, List.not_mem_nil, or_false] at hx
  omega

set_option maxHeartbeats 1000000 in
set_option maxRecDepth 100000 in
theorem icwrite_any (t : Nat) (c id seq : Int) (Ad : Option Addr) (dn dc : Nat) (data : List Int) (w : World) (ht : t ≤ 255) (hc : 0 ≤ c ∧ c ≤ 255) (hid : 0 ≤ id ∧ id ≤ 65535) (hseq : 0 ≤ seq ∧ seq ≤ 65535)
    (rd : RD .u8 w w.heap.size Ad dn data) (bd : BD 255 data) (hdn : dn ≤ 140737488351232) (hS : SORTS w) :
    Calls Tryd.prog 6 #[.agg (msg4 (t : Int) c id seq), .slice Ad dn dc] w (Gives w (icWB t c id seq data) (icWE t c dn)) := by
  have HLD := Lib.hid rd.len
  have RDD := Lib.hid rd
  have S0 := (SP.start w).alloc 38 (msg4 (t : Int) c id seq)
  have HS := Lib.hid hS
  have HI := Lib.hid (And.intro hid hseq)
  obtain ⟨d0, d1⟩ := hid
  obtain ⟨q0, q1⟩ := hseq
  clear rd hS
  unfold msg4
  go_enter Tryd.func6, Tryd.ntmps6
  go_upto_region 1 with fail
  rw [show w.alloc (.cells #[.int .u8 (t : Int), .int .u8 c, .int .u16 id, .int .u16 seq] 38) = w.alloc (.cells (msg4 (t : Int) c id seq) 38) from rfl]
  generalize hw1 : w.alloc (.cells (msg4 (t : Int) c id seq) 38) = w1 at S0 ⊢
  clear hw1
  have H1 := Lib.hid S0
  clear S0
  have f0 : w1.cell? ⟨w.heap.size, 0, none⟩ = some (.int .u8 (t : Int)) := H1.out.cell 0 rfl 0 rfl
  have f1 : w1.cell? ⟨w.heap.size, 1, none⟩ = some (.int .u8 c) := H1.out.cell 0 rfl 1 rfl
  have f2 : w1.cell? ⟨w.heap.size, 2, none⟩ = some (.int .u16 id) := H1.out.cell 0 rfl 2 rfl
  have f3 : w1.cell? ⟨w.heap.size, 3, none⟩ = some (.int .u16 seq) := H1.out.cell 0 rfl 3 rfl
  go_wp2_with fail
  refine (kind_any t c _ ht hc (HS.out.below H1.out.bel)).mono ?_
  rintro e w2 ⟨rfl, rfl⟩
  by_cases hk : kE t c = 0
  · have HK := Lib.hid hk
    rw [hk]
    clear hk
    by_cases hbig : 65507 < dn
    · have HE := Lib.hid (show icWE t c dn = 3 by unfold icWE; rw [if_pos HK.out, if_pos hbig])
      have HB := Lib.hid (show icWB t c id seq data = [] by unfold icWB; rw [HLD.out, if_neg (by rw [HE.out]; decide)])
      have i1 : (65515 : Int) < 8 + (dn : Int) := by omega
      go_wp2_with fail
      go_ret2
      exact ⟨none, 0, 0, by rw [HE.out]; rfl, by rw [HB.out]; exact OWN.nil, H1.out.bel⟩
    · have HE := Lib.hid (show icWE t c dn = 0 by unfold icWE; rw [if_pos HK.out, if_neg hbig])
      have HB := Lib.hid (show icWB t c id seq data = fixOf (icHead (t : Int) c id seq ++ data) 2 by unfold icWB; rw [HLD.out, if_pos HE.out])
      have i1 : ¬ (65515 : Int) < 8 + (dn : Int) := by omega
      have e1 : IntKind.u8.wrap (id / 256) = id / 256 := u8_in _ (by omega) (by omega)
      have e2 : IntKind.u8.wrap id = id % 256 := u8_mod id
      have e3 : IntKind.u8.wrap (seq / 256) = seq / 256 := u8_in _ (by omega) (by omega)
      have e4 : IntKind.u8.wrap seq = seq % 256 := u8_mod seq
      have H2 := Lib.hid (H1.out.allocI .u8 5 (icHead (t : Int) c id seq) (by simp [icHead, maxLen]))
      go_upto_region 7 with fail
      rw [show w1.alloc (.cells #[.int .u8 (t : Int), .int .u8 c, .int .u8 0, .int .u8 0, .int .u8 (id / 256), .int .u8 (id % 256), .int .u8 (seq / 256), .int .u8 (seq % 256)] 5) = w1.alloc (.cells ((icHead (t : Int) c id seq).map (Value.int .u8)).toArray 5) from rfl]
      generalize w1.alloc (.cells ((icHead (t : Int) c id seq).map (Value.int .u8)).toArray 5) = w2 at H2 ⊢
      generalize w1.heap.size = G at H2 ⊢
      clear f0 f1 f2 f3 e1 e2 e3 e4
      have H2' : SP w w2 [.blk w.heap.size 38 (msg4 (t : Int) c id seq), .own .u8 5 (some ⟨G, 0, none⟩) 8 8 (icHead (t : Int) c id seq)] := H2.out
      have H3 := Lib.hid (H2'.alloc 24 #[.slice (some ⟨G, 0, none⟩) 8 8, .slice Ad dn dc])
      have hbh : BD 255 (icHead (t : Int) c id seq ++ data) := (icHead_bd (by omega) hc HI.out.1 HI.out.2).append bd
      go_upto_region 7 with fail
      have hRV : RV (w2.alloc (.cells #[.slice (some ⟨G, 0, none⟩) 8 8, .slice Ad dn dc] 24)) (w2.alloc (.cells #[.slice (some ⟨G, 0, none⟩) 8 8, .slice Ad dn dc] 24)).heap.size (some ⟨w2.heap.size, 0, none⟩) 2 [.slice (some ⟨G, 0, none⟩) 8 8, .slice Ad dn dc] := RV.new w2 24 [.slice (some ⟨G, 0, none⟩) 8 8, .slice Ad dn dc]
      have H3' : SP w (w2.alloc (.cells #[.slice (some ⟨G, 0, none⟩) 8 8, .slice Ad dn dc] 24)) [.blk w.heap.size 38 (msg4 (t : Int) c id seq), .own .u8 5 (some ⟨G, 0, none⟩) 8 8 (icHead (t : Int) c id seq), .blk w2.heap.size 24 #[.slice (some ⟨G, 0, none⟩) 8 8, .slice Ad dn dc]] := H3.out
      have HRV := Lib.hid hRV
      clear hRV H3
      have H3 := Lib.hid H3'
      clear H3'
      obtain ⟨Z, hZ⟩ : ∃ Z, Z = icHead (t : Int) c id seq := ⟨_, rfl⟩
      rw [← hZ] at H3 hbh HB
      have hZl : Z.length = 8 := by rw [hZ]; rfl
      have HZL := Lib.hid hZl
      clear hZ hZl H2 H2'
      go_wp2_with fail
      generalize w2.alloc (.cells #[.slice (some ⟨G, 0, none⟩) 8 8, .slice Ad dn dc] 24) = w3 at H3 HRV ⊢
      have r1 := H3.out.rd 1 rfl
      have r2 := (RDD.out.below H3.out.bel).more H3.out.size
      refine (concat2_any (some ⟨w2.heap.size, 0, none⟩) 2 (some ⟨G, 0, none⟩) 8 8 Z Ad dn dc data w3 HRV.out r1 r2 (by omega)).mono ?_
      rintro e w4 ⟨A4, n4, c4, rfl, own4, hb4⟩
      have hn4 := own4.len
      rw [List.length_append, HLD.out, HZL.out] at hn4
      subst hn4
      have H4 := Lib.hid (H3.out.pushOwn hb4 own4)
      clear own4 hb4 H3 r1 r2
      go_wp2_with fail
      have hw4 : 2 + 2 ≤ 8 + dn := by omega
      have hw5 : 8 + dn ≤ 140737488355328 := by omega
      have r4 : RD .u8 w4 w4.heap.size A4 (8 + dn) (Z ++ data) := H4.out.rd 3 rfl
      have hff := fix_any A4 (8 + dn) c4 (Z ++ data) 2 2 w4 r4 hbh hw5 rfl (by decide) hw4
      refine hff.mono ?_
      rintro e w5 ⟨A5, n5, c5, rfl, own5, hb5⟩
      have H5 := Lib.hid (H4.out.pushOwn hb5 own5)
      go_wp2_with fail
      go_ret2
      exact ⟨A5, n5, c5, by rw [HE.out]; rfl, by rw [HB.out]; exact H5.out.own 4 rfl, H5.out.bel⟩
  · have hk' : (kE t c != 0) = true := by simp [hk]
    have HE := Lib.hid (show icWE t c dn = kE t c by unfold icWE; rw [if_neg hk])
    have HB := Lib.hid (show icWB t c id seq data = [] by unfold icWB; rw [HLD.out, if_neg (by rw [HE.out]; exact hk)])
    clear hk
    go_wp2_with fail
    go_ret2
    exact ⟨none, 0, 0, by rw [HE.out]; rfl, by rw [HB.out]; exact OWN.nil, H1.out.bel⟩
end Go.Proofs.YtdepibljeopcgaaDoor
