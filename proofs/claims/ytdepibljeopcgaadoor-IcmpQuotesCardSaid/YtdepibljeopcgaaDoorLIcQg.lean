/- Plain law of ICMP: packets whose quote is right. No program in sight. -/
import Derived.Test.YtdepibljeopcgaaDoorLIcQk
import Derived.Test.YtdepibljeopcgaaDoorLIpTn
namespace Go.Proofs.YtdepibljeopcgaaDoor
open Go.RowKit
set_option linter.unusedVariables false

/-- data whose first bytes tell a kind and two ports -/
structure QDT (p : Int) (data : List Int) (kd sp dp : Int) : Prop where
  len : 8 ≤ data.length
  hkd : KDd p data = kd
  ne : kd ≠ 0
  ports : ((p = 6 ∨ p = 17) ∧ wordAt data 0 = sp ∧ wordAt data 2 = dp) ∨ (p = 1 ∧ wordAt data 4 = sp ∧ wordAt data 4 = dp)
theorem wordAt_app {data more : List Int} {i : Nat} (h : i + 1 < data.length) : wordAt (data ++ more) i = wordAt data i := by
  unfold wordAt
  rw [List.getElem?_append_left (by omega), List.getElem?_append_left (by omega)]
theorem QDT.app {p : Int} {data : List Int} {kd sp dp : Int} (h : QDT p data kd sp dp) (more : List Int) : QDT p (data ++ more) kd sp dp := by
  obtain ⟨h1, h2, h3, h4⟩ := h
  refine ⟨by simp; omega, ?_, h3, ?_⟩
  · rw [← h2]
    unfold KDd
    rw [wordAt_app (by omega), wordAt_app (by omega), List.getElem?_append_left (by omega), List.getElem?_append_left (by omega)]
  · rw [wordAt_app (by omega), wordAt_app (by omega), wordAt_app (by omega)]
    exact h4
/-- what a quote's parts give -/
theorem quote_of {p s d kd sp dp : Int} {data z : List Int} {o : Nat} (hq : QDT p data kd sp dp) (hb : qBad z = false) (hp : qP z = p) (hs : qS z = s) (hd : qD z = d) (ho : qH z = o) (hz : ∀ i, i < 8 → z[o + i]?.getD 0 = data[i]?.getD 0) :
    (kd = 5 → qE z = 104 ∧ qK z = 0 ∧ qKey z = key0) ∧ (kd ≠ 5 → qE z = 0 ∧ qK z = kd ∧ qKey z = key5 p s d sp dp) := by
  obtain ⟨h1, h2, h3, h4⟩ := hq
  have w : ∀ i, i + 1 < 8 → wordAt z (o + i) = wordAt data i := fun i hi => by
    unfold wordAt
    rw [hz i (by omega), Nat.add_assoc, hz (i + 1) (by omega)]
  have w0 := w 0 (by omega)
  rw [Nat.add_zero] at w0
  have hports : qsp z = sp ∧ qdp z = dp := by
    rcases h4 with ⟨h6, a, b⟩ | ⟨h6, a, b⟩
    · rw [(q_spdp (by rw [hp]; exact h6)).1, (q_spdp (by rw [hp]; exact h6)).2, ho, w0, w 2 (by omega)]
      exact ⟨a, b⟩
    · rw [(q_spdp1 (by rw [hp]; exact h6)).1, (q_spdp1 (by rw [hp]; exact h6)).2, ho, w 4 (by omega)]
      exact ⟨a, b⟩
  have hk : qKd z = kd := by
    rw [← h2]
    unfold qKd KDd
    rw [hp]
    rcases h4 with ⟨h6, a, b⟩ | ⟨h6, a, b⟩
    · rw [if_pos h6, if_pos h6, hports.1, hports.2, a, b]
    · have hn : ¬ (p = 6 ∨ p = 17) := by omega
      rw [if_neg hn, if_neg hn, if_pos h6, if_pos h6]
      unfold qT qC
      have a0 := hz 0 (by omega)
      have a1 := hz 1 (by omega)
      rw [Nat.add_zero] at a0
      rw [ho, a0, a1]
  refine ⟨fun h5 => q_kd5 hb (by rw [hk]; exact h5), fun h5 => ?_⟩
  have := q_kd hb (by rw [hk]; exact h3) (by rw [hk]; exact h5)
  rw [hk, hp, hs, hd, hports.1, hports.2] at this
  exact this
/-- the quote of a packet that is read whole -/
theorem quote_parsed {h : HD} {opts data z : List Int} (hP : PARSED h opts data z) (hz : BD 255 z) (hd : z.drop (20 + opts.length) = data) (ho : h.off = 0) (hl : 8 ≤ data.length) :
    qBad z = false ∧ qP z = h.proto ∧ qS z = h.src ∧ qD z = h.dst ∧ qH z = 20 + opts.length ∧ ∀ i, i < 8 → z[20 + opts.length + i]?.getD 0 = data[i]?.getD 0 := by
  obtain ⟨h1, h2, h3, h4, h5, h6⟩ := hP
  have b0 := hz.get (show (0 : Int) ≤ 255 by omega) 0
  have hq : qH z = 20 + opts.length := by rw [qH_size z b0.1, h4]
  have f2 := fault_ge2 (zs := z) (by omega)
  have f3 := fault_ge3 (zs := z) (by omega)
  have f4 := fault_ge4 (zs := z) (by omega)
  have f5 := fault_ge5 (zs := z) (by omega)
  have f6 := fault_ge6 (zs := z) (by omega)
  have hw2 := wordAt_bd hz 2
  have ht : wordAt z 2 = ((20 + opts.length + data.length : Nat) : Int) := by
    unfold totalR at h5; omega
  have hoff : 8 * (wordAt z 6 % 8192) = 0 := by
    have := congrArg HD.off h2
    rw [ho] at this
    exact this
  refine ⟨?_, congrArg HD.proto h2, congrArg HD.src h2, congrArg HD.dst h2, hq, fun i hi => ?_⟩
  · refine q_good (by omega) f2 (by rw [hq]; omega) ⟨by rw [hq, ← h4]; exact f5, by rw [hq, ht]; omega⟩ ⟨f6, by omega⟩
  · rw [← hd, List.getElem?_drop]
theorem quote_good {h : HD} {opts data : List Int} {kd sp dp : Int} (hq : QDT h.proto data kd sp dp) (hw : h.WF) (ho : BD 255 opts) (hr : Rightly h.off h.mf opts.length data.length) (hoff : h.off = 0) {m : Nat} (hm : 28 + opts.length ≤ m) (hml : m ≤ 20 + opts.length + data.length) {z : List Int} (hz : z = (pktB h opts data).take m) :
    (kd = 5 → qE z = 104 ∧ qK z = 0 ∧ qKey z = key0) ∧ (kd ≠ 5 → qE z = 0 ∧ qK z = kd ∧ qKey z = key5 h.proto h.src h.dst sp dp) := by
  obtain ⟨e1, e2, e3, e4, e5, e6⟩ := quote_pkt hw ho hr hq.len hm hml hz
  exact quote_of hq (by rw [e1, hoff]; rfl) e2 e3 e4 e5 e6
theorem quote_turn {h : HD} {opts data T : List Int} {kd sp dp : Int} (hq : QDT h.proto data kd sp dp) (hP : PARSED h.turn opts data T) (hT : BD 255 T) (hd : T.drop (20 + opts.length) = data) (hoff : h.off = 0) :
    (kd = 5 → qE T = 104 ∧ qK T = 0 ∧ qKey T = key0) ∧ (kd ≠ 5 → qE T = 0 ∧ qK T = kd ∧ qKey T = key5 h.proto h.dst h.src sp dp) := by
  obtain ⟨e1, e2, e3, e4, e5, e6⟩ := quote_parsed hP hT hd hoff hq.len
  exact quote_of hq e1 e2 e3 e4 e5 e6
end Go.Proofs.YtdepibljeopcgaaDoor
