/- package ip: Hop, Turn, Right. -/
import Derived.Test.YtljbfnabnkkfeaaWIpWrite
namespace Go.Proofs.Ytljbfnabnkkfeaa
open Go.RowKit
set_option linter.unusedVariables false

/-- what Write gives -/
def wrE (h : HD) (ol dl : Nat) : Int := if Rightly h.off h.mf ol dl then 0 else 2
def wrB (h : HD) (opts data : List Int) : List Int := if Rightly h.off h.mf opts.length data.length then pktB h opts data else []
def WroteP (w : World) (zs : List Int) (er : Int) (e : Ending) (w' : World) : Prop :=
  ∃ A n c, e = .returned (.tuple #[.slice A n c, .int .i64 er]) ∧ OWN .u8 5 w' w.heap.size A n c zs ∧ Below w.heap.size w w'
theorem write_any (h : HD) (A : Option Addr) (n c : Nat) (opts : List Int) (Ad : Option Addr) (dn dc : Nat) (data : List Int) (w : World) (hwf : h.WF) (ro : RD .u8 w w.heap.size A n opts) (bo : BD 255 opts) (rd : RD .u8 w w.heap.size Ad dn data) (hn : n ≤ 140737488355328) (hdn : dn ≤ 140737488355328) :
    Calls Try.prog 22 #[h.val (.slice A n c), .slice Ad dn dc] w (WroteP w (wrB h opts data) (wrE h n dn)) := by
  have h1 := ro.len
  have h2 := rd.len
  by_cases hr : Rightly h.off h.mf n dn
  · refine (write_yes h A n c opts Ad dn dc data w hwf ro bo rd hr).mono ?_
    rintro e w' ⟨A', n', c', rfl, ho, hb⟩
    exact ⟨A', n', c', by rw [wrE, if_pos hr], by rw [wrB, h1, h2, if_pos hr]; exact ho, hb⟩
  · refine (write_no h A n c Ad dn dc w hwf.off hn hdn hr).mono ?_
    rintro e w' ⟨rfl, hb⟩
    exact ⟨none, 0, 0, by rw [wrE, if_neg hr], by rw [wrB, h1, h2, if_neg hr]; exact OWN.nil, hb⟩

set_option maxHeartbeats 400000 in
theorem ipRight_any (h : HD) (A : Option Addr) (n c : Nat) (q : Int) (w : World) (h64 : -9223372036854775808 ≤ h.off ∧ h.off ≤ 9223372036854775807) (hq : -9223372036854775808 ≤ q ∧ q ≤ 9223372036854775807) (hn : n ≤ 140737488355328) :
    Calls Try.prog 70 #[h.val (.slice A n c), .int .i64 q] w fun e w' => e = .returned (.bool (rightB h.off h.mf n q)) ∧ Below w.heap.size w w' := by
  unfold HD.val HD.cells
  go_enter Try.func70, Try.ntmps70
  go_wp2_with fail
  refine (right_any5 h A n c q _ h64 hq hn).mono ?_
  rintro e w' ⟨rfl, hb⟩
  go_wp2_with fail
  go_ret
  exact ⟨rfl, ((Below.refl _ w).alloc (Nat.le_refl _) _).trans (hb.mono (by simp))⟩

def dataR (zs : List Int) : List Int := (zs.drop (fromR zs)).take (toR zs - fromR zs)
/-- the header with a TTL that is 1 less -/
def hopH (zs : List Int) : HD := { hdOf zs with ttl := byteAt zs 8 - 1 }
def hopE (zs : List Int) : Int := if faultR zs = 7 then (if byteAt zs 8 < 2 then 57 else 0) else ipE zs
def hopB (zs : List Int) : List Int := if faultR zs = 7 ∧ ¬ byteAt zs 8 < 2 then pktB (hopH zs) (optsOf zs) (dataR zs) else []

theorem ok_facts {zs : List Int} (h : faultR zs = 7) : 20 ≤ sizeR zs ∧ sizeR zs ≤ totalR zs ∧ totalR zs ≤ zs.length ∧ Rightly (hdOf zs).off (hdOf zs).mf (sizeR zs - 20) ((totalR zs : Int) - sizeR zs) ∧ sizeR zs ≤ 60 ∧ sizeR zs % 4 = 0 ∧ (optsOf zs).length = sizeR zs - 20 ∧ (dataR zs).length = totalR zs - sizeR zs := by
  have h3 := fault_ge3 (zs := zs) (by omega)
  have h4 := fault_ge4 (zs := zs) (by omega)
  have h7 := fault_ge7 (zs := zs) (by omega)
  refine ⟨h3.1, h4.1, h4.2, rightB_iff.1 h7, ?_, ?_, ?_, ?_⟩
  · unfold sizeR; omega
  · unfold sizeR; omega
  · unfold optsOf; simp; omega
  · unfold dataR fromR toR; rw [if_pos h, if_pos h]; simp; omega
theorem optsR_bd {zs : List Int} (h : BD 255 zs) : BD 255 (optsR zs) := by
  unfold optsR
  split
  · exact (h.drop _).take _
  · intro x hx; cases hx
theorem hdR_wf {zs : List Int} (h : BD 255 zs) : (hdR zs).WF := by
  unfold hdR
  split
  · exact hdOf_wf h
  · exact HD.WF.zero
theorem ipE_ne {zs : List Int} (h : faultR zs ≠ 7) : (ipE zs != 0) = true := by
  unfold ipE
  rw [if_neg h]
  simp; omega
theorem ipE_eq {zs : List Int} (h : faultR zs = 7) : ipE zs = 0 := by unfold ipE; rw [if_pos h]

end Go.Proofs.Ytljbfnabnkkfeaa
