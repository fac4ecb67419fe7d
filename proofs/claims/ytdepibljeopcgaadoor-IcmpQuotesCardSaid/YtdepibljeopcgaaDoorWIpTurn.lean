/- package ip: Turn. -/
import Derived.Test.YtdepibljeopcgaaDoorWIpHop
namespace Go.Proofs.YtdepibljeopcgaaDoor
open Go.RowKit
set_option linter.unusedVariables false

def turnB (zs : List Int) : List Int := if faultR zs = 7 then putB (putB (zs.take (totalR zs)) 12 4 (longAt zs 16)) 16 4 (longAt zs 12) else []

set_option maxHeartbeats 2000000 in
set_option maxRecDepth 100000 in
theorem turn_any (A : Option Addr) (n c : Nat) (zs : List Int) (w : World) (h : RD .u8 w w.heap.size A n zs) (hz : BD 255 zs) (hn : n ≤ c) (hc : n ≤ 140737488351232) :
    Calls Tryd.prog 9 #[.slice A n c] w (WroteP w (turnB zs) (ipE zs)) := by
  obtain ⟨i0, hi, hz0, hz1, hz2⟩ := info_parts infoU8
  go_enter Tryd.func9, Tryd.ntmps9
  go_wp2_with fail
  refine (read_any A n c zs w h hz hn hc).mono ?_
  rintro e w1 ⟨A1, n1, c1, rfl, own1, hb1⟩
  by_cases hf : faultR zs = 7
  · obtain ⟨k1, k2, k3, k4, k5, k6, k7, k8⟩ := ok_facts hf
    have hl := h.len
    have e1 : ipE zs = 0 := ipE_eq hf
    have e2 : hdR zs = hdOf zs := by unfold hdR; rw [if_pos hf]
    have e3 : fromR zs = sizeR zs := by unfold fromR; rw [if_pos hf]
    have e4 : toR zs = totalR zs := by unfold toR; rw [if_pos hf]
    have hB : turnB zs = putB (putB (zs.take (totalR zs)) 12 4 (longAt zs 16)) 16 4 (longAt zs 12) := by unfold turnB; rw [if_pos hf]
    have HB := Lib.hid hB
    have HE := Lib.hid e1
    rw [e1, e2, e3, e4]
    unfold HD.val HD.cells
    rw [show (hdOf zs).src = longAt zs 12 from rfl, show (hdOf zs).dst = longAt zs 16 from rfl]
    obtain ⟨t1, t2⟩ := longAt_bd hz 12
    obtain ⟨t3, t4⟩ := longAt_bd hz 16
    have HL := Lib.hid hl
    have q1 : (0 : Int) ≤ (totalR zs : Int) := by omega
    have q2 : (totalR zs : Int) ≤ (c : Int) := by omega
    have q3 : totalR zs ≤ n := by omega
    have q4 : 20 ≤ totalR zs := by omega
    clear e1 e2 e3 e4 hB hf k1 k2 k3 k4 k5 k6 k7 k8 hl own1
    go_wp2_with fail
    have hblk := BLOCK.new w1 33 #[.int .u8 (hdOf zs).tos, .int .u16 (hdOf zs).id, .bool (hdOf zs).df, .bool (hdOf zs).mf, .int .i64 (hdOf zs).off, .int .u8 (hdOf zs).ttl, .int .u8 (hdOf zs).proto, .int .u32 (longAt zs 12), .int .u32 (longAt zs 16), .slice A1 n1 c1]
    have hw2 : Below w.heap.size w (w1.alloc (.cells #[.int .u8 (hdOf zs).tos, .int .u16 (hdOf zs).id, .bool (hdOf zs).df, .bool (hdOf zs).mf, .int .i64 (hdOf zs).off, .int .u8 (hdOf zs).ttl, .int .u8 (hdOf zs).proto, .int .u32 (longAt zs 12), .int .u32 (longAt zs 16), .slice A1 n1 c1] 33)) := hb1.alloc hb1.size _
    generalize w1.alloc (.cells #[.int .u8 (hdOf zs).tos, .int .u16 (hdOf zs).id, .bool (hdOf zs).df, .bool (hdOf zs).mf, .int .i64 (hdOf zs).off, .int .u8 (hdOf zs).ttl, .int .u8 (hdOf zs).proto, .int .u32 (longAt zs 12), .int .u32 (longAt zs 16), .slice A1 n1 c1] 33) = w2 at hblk hw2 ⊢
    generalize w1.heap.size = G at *
    have rd2 := ((h.below hw2).more hw2.size).take (m := totalR zs) q3
    refine (clone_any A (totalR zs) c (zs.take (totalR zs)) _ rd2 (by omega)).mono ?_
    rintro e w3 ⟨A3, n3, c3, rfl, own3, hb3⟩
    have hn3 := own3.len
    rw [List.length_take, Nat.min_eq_left (by rw [HL.out]; exact q3)] at hn3
    have HN3 := Lib.hid hn3
    obtain ⟨g, rfl, hg1, hg2, hnc, hcm⟩ := own3.form (by omega)
    have hblk3 := hblk.next hb3
    have f8 : w3.cell? ⟨G, 8, none⟩ = some (.int .u32 (longAt zs 16)) := hblk3.cell 8
    have hGl := hblk.lt
    have hw3 := hw2.trans (hb3.mono hw2.size)
    clear hn3 h rd2 hblk
    go_wp2_with fail
    refine (put_any g n3 c3 _ _ 12 4 _ _ _ _ own3 (by have := HN3.out; omega) rfl rfl (by have := HN3.out; omega) t3 t4).mono ?_
    rintro e w4 ⟨rfl, own4, hb4⟩
    have hblk4 := hblk3.below hb4 (by omega)
    have f7 : w4.cell? ⟨G, 7, none⟩ = some (.int .u32 (longAt zs 12)) := hblk4.cell 7
    have hw2s := hw2.size
    have hw4 := hw3.trans (hb4.mono (by omega))
    clear f8 hblk3 own3
    go_wp2_with fail
    refine (put_any g n3 c3 _ _ 16 4 _ _ _ _ own4 (by have := HN3.out; omega) rfl rfl (by have := HN3.out; omega) t1 t2).mono ?_
    rintro e w5 ⟨rfl, own5, hb5⟩
    have hw5 := hw4.trans (hb5.mono (by omega))
    clear f7 hblk4 own4
    go_wp2_with fail
    go_ret2
    exact ⟨_, n3, c3, by rw [HE.out]; rfl, by rw [HB.out]; exact own5.mono hw2s, hw5⟩
  · have e1 := ipE_ne hf
    have hB : turnB zs = [] := by unfold turnB; rw [if_neg hf]
    have HB := Lib.hid hB
    unfold HD.val HD.cells
    clear hB hf h
    go_wp2_with fail
    go_ret2
    exact ⟨none, 0, 0, rfl, by rw [HB.out]; exact OWN.nil, hb1.alloc hb1.size _⟩
end Go.Proofs.YtdepibljeopcgaaDoor
