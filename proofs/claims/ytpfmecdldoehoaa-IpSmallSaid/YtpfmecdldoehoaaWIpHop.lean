/- package ip: Hop, Turn, Right. -/
import Derived.Test.YtpfmecdldoehoaaWIpWrite
namespace Go.Proofs.Ytpfmecdldoehoaa
open Go.RowKit
set_option linter.unusedVariables false

/-- what Write gives -/
def wrE (h : HD) (ol dl : Nat) : Int := if Rightly h.off h.mf ol dl then 0 else 2
def wrB (h : HD) (opts data : List Int) : List Int := if Rightly h.off h.mf opts.length data.length then pktB h opts data else []
def WroteP (w : World) (zs : List Int) (er : Int) (e : Ending) (w' : World) : Prop :=
  ∃ A n c, e = .returned (.tuple #[.slice A n c, .int .i64 er]) ∧ OWN .u8 5 w' w.heap.size A n c zs ∧ Below w.heap.size w w'
theorem write_any (h : HD) (A : Option Addr) (n c : Nat) (opts : List Int) (Ad : Option Addr) (dn dc : Nat) (data : List Int) (w : World) (hwf : h.WF) (ro : RD .u8 w w.heap.size A n opts) (bo : BD 255 opts) (rd : RD .u8 w w.heap.size Ad dn data) (hn : n ≤ 140737488355328) (hdn : dn ≤ 140737488355328) :
    Calls Try.prog 14 #[h.val (.slice A n c), .slice Ad dn dc] w (WroteP w (wrB h opts data) (wrE h n dn)) := by
  have h1 := ro.len
  have h2 := rd.len
  by_cases hr : Rightly h.off h.mf n dn
  · refine (write_yes h A n c opts Ad dn dc data w hwf ro bo rd hr).mono ?_
    rintro e w' ⟨A', n', c', rfl, ho, hb⟩
    exact ⟨A', n', c', by rw [wrE, if_pos hr], by rw [wrB, h1, h2, if_pos hr]; exact ho, hb⟩
  · refine (write_no h A n c Ad dn dc w hwf.off hn hdn hr).mono ?_
    rintro e w' ⟨rfl, hb⟩
    exact ⟨none, 0, 0, by rw [wrE, if_neg hr], by rw [wrB, h1, h2, if_neg hr]; exact OWN.nil, hb⟩

set_option maxHeartbeats 400000 in
theorem ipRight_any (h : HD) (A : Option Addr) (n c : Nat) (q : Int) (w : World) (h64 : -9223372036854775808 ≤ h.off ∧ h.off ≤ 9223372036854775807) (hq : -9223372036854775808 ≤ q ∧ q ≤ 9223372036854775807) (hn : n ≤ 140737488355328) :
    Calls Try.prog 18 #[h.val (.slice A n c), .int .i64 q] w fun e w' => e = .returned (.bool (rightB h.off h.mf n q)) ∧ Below w.heap.size w w' := by
  unfold HD.val HD.cells
  go_enter Try.func18, Try.ntmps18
  go_wp2_with fail
  refine (right_any5 h A n c q _ h64 hq hn).mono ?_
  rintro e w' ⟨rfl, hb⟩
  go_wp2_with fail
  go_ret
  exact ⟨rfl, ((Below.refl _ w).alloc (Nat.le_refl _) _).trans (hb.mono (by simp))⟩

def dataR (zs : List Int) : List Int := (zs.drop (fromR zs)).take (toR zs - fromR zs)
/-- the header with a TTL that is 1 less -/
def hopH (zs : List Int) : HD := { hdOf zs with ttl := byteAt zs 8 - 1 }
def hopE (zs : List Int) : Int := if faultR zs = 7 then (if byteAt zs 8 < 2 then 57 else 0) else ipE zs
def hopB (zs : List Int) : List Int := if faultR zs = 7 ∧ ¬ byteAt zs 8 < 2 then pktB (hopH zs) (optsOf zs) (dataR zs) else []

theorem ok_facts {zs : List Int} (h : faultR zs = 7) : 20 ≤ sizeR zs ∧ sizeR zs ≤ totalR zs ∧ totalR zs ≤ zs.length ∧ Rightly (hdOf zs).off (hdOf zs).mf (sizeR zs - 20) ((totalR zs : Int) - sizeR zs) ∧ sizeR zs ≤ 60 ∧ sizeR zs % 4 = 0 ∧ (optsOf zs).length = sizeR zs - 20 ∧ (dataR zs).length = totalR zs - sizeR zs := by
  have h3 := fault_ge3 (zs := zs) (by omega)
  have h4 := fault_ge4 (zs := zs) (by omega)
  have h7 := fault_ge7 (zs := zs) (by omega)
  refine ⟨h3.1, h4.1, h4.2, rightB_iff.1 h7, ?_, ?_, ?_, ?_⟩
  · unfold sizeR; omega
  · unfold sizeR; omega
  · unfold optsOf; simp; omega
  · unfold dataR fromR toR; rw [if_pos h, if_pos h]; simp; omega
theorem optsR_bd {zs : List Int} (h : BD 255 zs) : BD 255 (optsR zs) := by
  unfold optsR
  split
  · exact (h.drop _).take _
  · intro x hx; cases hx
theorem hdR_wf {zs : List Int} (h : BD 255 zs) : (hdR zs).WF := by
  unfold hdR
  split
  · exact hdOf_wf h
  · exact HD.WF.zero
theorem ipE_ne {zs : List Int} (h : faultR zs ≠ 7) : (ipE zs != 0) = true := by
  unfold ipE
  rw [if_neg h]
  simp; omega
theorem ipE_eq {zs : List Int} (h : faultR zs = 7) : ipE zs = 0 := by unfold ipE; rw [if_pos h]

set_option maxHeartbeats 2000000 in
set_option maxRecDepth 100000 in
theorem hop_any (A : Option Addr) (n c : Nat) (zs : List Int) (w : World) (h : RD .u8 w w.heap.size A n zs) (hz : BD 255 zs) (hn : n ≤ c) (hc : n ≤ 140737488351232) :
    Calls Try.prog 21 #[.slice A n c] w (WroteP w (hopB zs) (hopE zs)) := by
  obtain ⟨i0, hi, hz0, hz1, hz2⟩ := info_parts infoU8
  go_enter Try.func21, Try.ntmps21
  go_wp2_with fail
  refine (read_any A n c zs w h hz hn hc).mono ?_
  rintro e w1 ⟨A1, n1, c1, rfl, own1, hb1⟩
  by_cases hf : faultR zs = 7
  · obtain ⟨k1, k2, k3, k4, k5, k6, k7, k8⟩ := ok_facts hf
    have hl := h.len
    have e1 : ipE zs = 0 := ipE_eq hf
    have e2 : hdR zs = hdOf zs := by unfold hdR; rw [if_pos hf]
    have e3 : fromR zs = sizeR zs := by unfold fromR; rw [if_pos hf]
    have e4 : toR zs = totalR zs := by unfold toR; rw [if_pos hf]
    have e5 : optsR zs = optsOf zs := by unfold optsR; rw [if_pos hf]
    have e6 : hopE zs = if byteAt zs 8 < 2 then 57 else 0 := by unfold hopE; rw [if_pos hf]
    rw [e1, e2, e3, e4]
    rw [e5] at own1
    have hwf := hdOf_wf hz
    unfold HD.val HD.cells
    rw [show (hdOf zs).ttl = byteAt zs 8 from rfl]
    obtain ⟨t1, t2⟩ := hz.get (by omega) 8
    rw [show zs[8]?.getD 0 = byteAt zs 8 from rfl] at t1 t2
    by_cases ht : byteAt zs 8 < 2
    · have hB : hopB zs = [] := by unfold hopB; rw [if_neg (fun hh => hh.2 ht)]
      rw [if_pos ht] at e6
      have HB := Lib.hid hB
      have HE := Lib.hid e6
      clear e1 e2 e3 e4 e5 e6 hB hf k4 k6 k7 k8 hl h
      go_wp2_with fail
      go_ret2
      exact ⟨none, 0, 0, by rw [HE.out]; rfl, by rw [HB.out]; exact OWN.nil, hb1.alloc hb1.size _⟩
    · have hB : hopB zs = pktB (hopH zs) (optsOf zs) (dataR zs) := by unfold hopB; rw [if_pos ⟨hf, ht⟩]
      rw [if_neg ht] at e6
      have HB := Lib.hid hB
      have HE := Lib.hid e6
      have ht' : ¬ byteAt zs 8 < 2 := ht
      have u1 : IntKind.u8.wrap (byteAt zs 8 - 1) = byteAt zs 8 - 1 := u8_in _ (by omega) (by omega)
      have HL := Lib.hid hl
      have E34 := Lib.hid (And.intro e3 e4)
      have K6 := Lib.hid k6
      have K7 := Lib.hid k7
      have K8 := Lib.hid k8
      have K4 := Lib.hid k4
      clear e1 e2 e3 e4 e5 e6 hB hf k4 k6 k7 k8 hl
      have hwf' : (hopH zs).WF := ⟨hwf.tos, hwf.id, hwf.off, by show 0 ≤ byteAt zs 8 - 1 ∧ byteAt zs 8 - 1 ≤ 255; omega, hwf.proto, hwf.src, hwf.dst⟩
      have s1 := fun W => run_slice_lohi (P := Try.prog) W Try.underlying23 hi hz1 A n c (sizeR zs : Int) (totalR zs : Int) (sizeR zs) (totalR zs) rfl rfl k2 (by have := HL.out; omega)
      go_wp2_with fail
      have hblk := BLOCK.new w1 30 ((hopH zs).cells (.slice A1 n1 c1))
      have hw2 : Below w.heap.size w (w1.alloc (.cells ((hopH zs).cells (.slice A1 n1 c1)) 30)) := hb1.alloc hb1.size _
      have own2 := own1.alloc (.cells ((hopH zs).cells (.slice A1 n1 c1)) 30)
      rw [show w1.alloc (.cells #[.int .u8 (hdOf zs).tos, .int .u16 (hdOf zs).id, .bool (hdOf zs).df, .bool (hdOf zs).mf, .int .i64 (hdOf zs).off, .int .u8 (byteAt zs 8 - 1), .int .u8 (hdOf zs).proto, .int .u32 (hdOf zs).src, .int .u32 (hdOf zs).dst, .slice A1 n1 c1] 30) = w1.alloc (.cells ((hopH zs).cells (.slice A1 n1 c1)) 30) from rfl]
      generalize w1.alloc (.cells ((hopH zs).cells (.slice A1 n1 c1)) 30) = w2 at hblk hw2 own2 ⊢
      generalize w1.heap.size = G at *
      have HKK := Lib.hid (fun (W' : World) (he : Below w2.heap.size w2 W') => (show Below w2.heap.size w2 W' ∧ W'.cell? ⟨G, 0, none⟩ = some (.int .u8 (hdOf zs).tos) ∧ W'.cell? ⟨G, 1, none⟩ = some (.int .u16 (hdOf zs).id) ∧ W'.cell? ⟨G, 2, none⟩ = some (.bool (hdOf zs).df) ∧ W'.cell? ⟨G, 3, none⟩ = some (.bool (hdOf zs).mf) ∧ W'.cell? ⟨G, 4, none⟩ = some (.int .i64 (hdOf zs).off) ∧ W'.cell? ⟨G, 5, none⟩ = some (.int .u8 (byteAt zs 8 - 1)) ∧ W'.cell? ⟨G, 6, none⟩ = some (.int .u8 (hdOf zs).proto) ∧ W'.cell? ⟨G, 7, none⟩ = some (.int .u32 (hdOf zs).src) ∧ W'.cell? ⟨G, 8, none⟩ = some (.int .u32 (hdOf zs).dst) ∧ W'.cell? ⟨G, 9, none⟩ = some (.slice A1 n1 c1) from ⟨he, (hblk.next he).cell 0, (hblk.next he).cell 1, (hblk.next he).cell 2, (hblk.next he).cell 3, (hblk.next he).cell 4, (hblk.next he).cell 5, (hblk.next he).cell 6, (hblk.next he).cell 7, (hblk.next he).cell 8, (hblk.next he).cell 9⟩))
      have rd2 : RD .u8 w2 w2.heap.size (cutA A c (sizeR zs)) (totalR zs - sizeR zs) (dataR zs) := by
        have h1 := ((h.below hw2).more hw2.size).mid (lo := sizeR zs) (hi := totalR zs) k2 (by have := HL.out; omega) hn
        rw [show dataR zs = (zs.drop (sizeR zs)).take (totalR zs - sizeR zs) by unfold dataR; rw [E34.out.1, E34.out.2]]
        exact h1
      have hn1 := own2.len
      rw [K7.out] at hn1
      have hr : Rightly (hopH zs).off (hopH zs).mf n1 ((totalR zs - sizeR zs : Nat) : Int) := by
        have := K4.out
        rw [hn1] at this
        rw [show ((totalR zs - sizeR zs : Nat) : Int) = (totalR zs : Int) - sizeR zs by omega]
        exact this
      have bo : BD 255 (optsOf zs) := (hz.drop _).take _
      clear hblk h hn1
      go_region_held3 (fun W' => Below w2.heap.size w2 W' ∧ W'.cell? ⟨G, 0, none⟩ = some (.int .u8 (hdOf zs).tos) ∧ W'.cell? ⟨G, 1, none⟩ = some (.int .u16 (hdOf zs).id) ∧ W'.cell? ⟨G, 2, none⟩ = some (.bool (hdOf zs).df) ∧ W'.cell? ⟨G, 3, none⟩ = some (.bool (hdOf zs).mf) ∧ W'.cell? ⟨G, 4, none⟩ = some (.int .i64 (hdOf zs).off) ∧ W'.cell? ⟨G, 5, none⟩ = some (.int .u8 (byteAt zs 8 - 1)) ∧ W'.cell? ⟨G, 6, none⟩ = some (.int .u8 (hdOf zs).proto) ∧ W'.cell? ⟨G, 7, none⟩ = some (.int .u32 (hdOf zs).src) ∧ W'.cell? ⟨G, 8, none⟩ = some (.int .u32 (hdOf zs).dst) ∧ W'.cell? ⟨G, 9, none⟩ = some (.slice A1 n1 c1)) ((with_reducible refine HKK.out _ ?_; first | (with_reducible exact (Below.refl _ _).drew) | assumption))
        ((go_at_call 14; refine (write_yes (hopH zs) A1 n1 c1 (optsOf zs) _ _ _ (dataR zs) _ hwf' (by exact own2.rd) bo (by exact rd2) hr).mono ?_; rintro e w3 ⟨A3, n3, c3, rfl, own3, hb3⟩; have hb3' : Below w2.heap.size w2 w3 := (Below.refl _ _).drew.trans hb3))
      go_wp2_with fail
      go_ret2
      exact ⟨A3, n3, c3, by rw [HE.out]; rfl, by rw [HB.out]; exact (show OWN .u8 5 w3 w2.heap.size A3 n3 c3 _ from own3).mono hw2.size, hw2.trans (hb3'.mono hw2.size)⟩
  · have e1 := ipE_ne hf
    have e6 : hopE zs = ipE zs := by unfold hopE; rw [if_neg hf]
    have hB : hopB zs = [] := by unfold hopB; rw [if_neg (fun hh => hf hh.1)]
    have HB := Lib.hid hB
    have HE := Lib.hid e6
    unfold HD.val HD.cells
    clear e6 hB hf h
    go_wp2_with fail
    go_ret2
    exact ⟨none, 0, 0, by rw [HE.out]; rfl, by rw [HB.out]; exact OWN.nil, hb1.alloc hb1.size _⟩
end Go.Proofs.Ytpfmecdldoehoaa
