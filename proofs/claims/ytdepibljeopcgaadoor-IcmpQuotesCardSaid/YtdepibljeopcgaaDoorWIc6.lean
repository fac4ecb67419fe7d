/- package icmp: Quote. (Printed by gen_icquote.py.) -/
import Derived.Test.YtdepibljeopcgaaDoorWIc5
import Derived.Maps.OwnOps
namespace Go.Proofs.YtdepibljeopcgaaDoor
open Go.RowKit
open Go.Maps (Keyed int_keyed keyOf_int_mk)
set_option linter.unusedVariables false
attribute [local go_sem ↓] Go.wp_at_zero Go.wp_at_succ

theorem wpList_insert_own {H : Type} {P : Program} (w : World) {ops : Array Oper} {rest : List Oper} {o : Oper} {a : Act} {Q : Exit → Act → World → Prop}
    (hg : o.guard = none) (m x v : Operand) (t : TypeId) (hop : o.op = Op.insert t m x v)
    (k e : TypeId) (K : Keyed P k) (ht : P.underlying t = some (.map k e)) (R : Value → Option (DataW H × List MemPlace)) (b n : Nat) (D : DataW H)
    (hm : a.eval m = .map (some b)) (hown : w.ownsMap P k R b n D) (hn : n < maxLen) (key val : Value) (kl : Lit) (hx : a.eval x = key) (hv : a.eval v = val) (hkey : keyOf P k key = some kl)
    (d : DataW H) (ps : List MemPlace) (hval : R val = some (d, ps))
    (hK : ∀ w', w'.ownsMap P k R b (n + 1) (D.put kl d) → w.grownBy w' (some b) → wpList P ops Q rest (a.put o.dst undef) w') :
    wpList P ops Q (o :: rest) a w := by
  refine wpList_plain hg fun K' hK' => ?_
  obtain ⟨w', hrun, r1, r2⟩ := hown.update K ht hn hkey hval
  unfold Oper.wp
  simp [execOp, hop, hm, hx, hv, hrun, Result.andThen]
  exact hK' _ _ (hK w' r1 r2)

theorem results_cell_tmp2' {P : Program} {fn : Func} {p u1 u2 : Tmp} {ty : TypeId} (h : fn.results = #[.cell p ty, .tmp u1, .tmp u2]) (tmps : Array Value) (w : World) (g : Nat) (t : TypeId) (cs : Array Value) (fr : Nat × Nat) (d : TypeDesc)
    (hp : tmps.getD p undef = .pointer (some ⟨g, 0, none⟩)) (hg : w.heap[g]? = some (.cells cs t fr))
    (hu : P.underlying ty = some d) (hd : (match d with | .struct _ | .array _ _ => true | _ => false) = true) (hi : (P.info? ty).map (·.size) = some cs.size) :
    (results fn tmps).run P w = .ok (.tuple #[.agg cs, tmps.getD u1 undef, tmps.getD u2 undef]) w := by
  have hp' : tmps[p]?.getD undef = .pointer (some ⟨g, 0, none⟩) := by simpa using hp
  simp [results, h, hp', asAddr, run_loadVar_row w g t ty cs fr d hg hu hd hi]
theorem key5_one (p s d sp dp : Int) : (key5 p s d sp dp).all (·.oneCell') = true := by unfold key5; simp [Value.oneCell']

/-- the closures of Quote -/
def FUS (N : Nat) : Array Value := #[.func (.func 20) #[] #[.pointer (some ⟨N, 0, none⟩)], .func (.func 21) #[] #[.pointer (some ⟨N, 0, none⟩), .pointer (some ⟨N + 2, 0, none⟩)], .func (.func 22) #[] #[.pointer (some ⟨N, 0, none⟩), .pointer (some ⟨N + 2, 0, none⟩)], .func (.func 25) #[] #[.pointer (some ⟨N, 0, none⟩)]]
/-- the variables of Quote -/
def QL (N : Nat) (A : Option Addr) (n c : Nat) (h : Int) : List IT := [.blk N 24 #[.slice A n c], .blk (N + 1) 35 key0, .blk (N + 2) 3 #[.int .i64 h], .blk (N + 3) 29 (FUS N)]
def QP (k : Nat) (zs : List Int) : Prop := (1 ≤ k → qF1 zs = false) ∧ (2 ≤ k → qF2 zs = false) ∧ (3 ≤ k → qF3 zs = false) ∧ (4 ≤ k → qF4 zs = false)
theorem QP.len {k : Nat} {zs : List Int} (h : QP k zs) (hk : 1 ≤ k) : 20 ≤ zs.length := by
  have := h.1 hk
  unfold qF1 at this
  simp at this; omega
theorem QP.head {k : Nat} {zs : List Int} (h : QP k zs) (hk : 2 ≤ k) : 20 ≤ qH zs ∧ qH zs + 8 ≤ zs.length := by
  have := h.2.1 hk
  unfold qF2 at this
  simp at this; omega
theorem q_bad {zs : List Int} (h : qBad zs = true) : qE zs = 103 ∧ qK zs = 0 ∧ qKey zs = key0 := by
  have h1 : qE zs = 103 := by unfold qE; rw [if_pos h]
  refine ⟨h1, ?_, ?_⟩
  · unfold qK; rw [if_neg (by rw [h1]; decide)]
  · unfold qKey; rw [if_neg (by rw [h1]; decide)]
theorem QP.good {zs : List Int} (h : QP 4 zs) : qBad zs = false := by
  unfold qBad; rw [h.1 (by omega), h.2.1 (by omega), h.2.2.1 (by omega), h.2.2.2 (by omega)]; rfl
theorem q_kd0 {zs : List Int} (hb : qBad zs = false) (h : qKd zs = 0) : qE zs = 103 ∧ qK zs = 0 ∧ qKey zs = key0 := by
  have h1 : qE zs = 103 := by unfold qE; rw [if_neg (by rw [hb]; decide), if_pos h]
  refine ⟨h1, ?_, ?_⟩
  · unfold qK; rw [if_neg (by rw [h1]; decide)]
  · unfold qKey; rw [if_neg (by rw [h1]; decide)]
theorem q_kd5 {zs : List Int} (hb : qBad zs = false) (h : qKd zs = 5) : qE zs = 104 ∧ qK zs = 0 ∧ qKey zs = key0 := by
  have h1 : qE zs = 104 := by unfold qE; rw [if_neg (by rw [hb]; decide), if_neg (by rw [h]; decide), if_pos h]
  refine ⟨h1, ?_, ?_⟩
  · unfold qK; rw [if_neg (by rw [h1]; decide)]
  · unfold qKey; rw [if_neg (by rw [h1]; decide)]
theorem q_kd {zs : List Int} (hb : qBad zs = false) (h0 : qKd zs ≠ 0) (h5 : qKd zs ≠ 5) : qE zs = 0 ∧ qK zs = qKd zs ∧ qKey zs = key5 (qP zs) (qS zs) (qD zs) (qsp zs) (qdp zs) := by
  have h1 : qE zs = 0 := by unfold qE; rw [if_neg (by rw [hb]; decide), if_neg h0, if_neg h5]
  refine ⟨h1, ?_, ?_⟩
  · unfold qK; rw [if_pos h1]
  · unfold qKey; rw [if_pos h1]
/-- what Quote gives -/
def QRes (zs : List Int) (w : World) (e : Ending) (w' : World) : Prop := e = .returned (.tuple #[.agg (qKey zs), .int .u8 (qK zs), .int .i64 (qE zs)]) ∧ Below w.heap.size w w'
theorem QRes.mk {zs : List Int} {w w' : World} {K : Array Value} {k er : Int} (h : qE zs = er ∧ qK zs = k ∧ qKey zs = K) (hb : Below w.heap.size w w') : QRes zs w (.returned (.tuple #[.agg K, .int .u8 k, .int .i64 er])) w' := by
  obtain ⟨rfl, rfl, rfl⟩ := h
  exact ⟨rfl, hb⟩
theorem zeroU8 (w : World) : (zeroValue 5).run Tryd.prog w = .ok (.int .u8 0) w := by kernel_rfl
theorem q_spdp {zs : List Int} (h : qP zs = 6 ∨ qP zs = 17) : qsp zs = wordAt zs (qH zs) ∧ qdp zs = wordAt zs (qH zs + 2) := by
  unfold qsp qdp; rw [if_pos h, if_pos h]; exact ⟨rfl, rfl⟩
theorem q_spdp1 {zs : List Int} (h : qP zs = 1) : qsp zs = wordAt zs (qH zs + 4) ∧ qdp zs = wordAt zs (qH zs + 4) := by
  refine ⟨?_, ?_⟩
  · unfold qsp; rw [if_neg (by omega), if_pos h]
  · unfold qdp; rw [if_neg (by omega), if_pos h]
def MP1 : DataW Unit := (DataW.map []).put (.int .u8 6) (.lit (.int .u8 1))
def MP2 : DataW Unit := MP1.put (.int .u8 17) (.lit (.int .u8 2))
theorem mp_6 {c : Int} (h : MP2.atKey (.int .u8 6) (.lit (.int .u8 0)) = .lit (.int .u8 c)) : c = 1 := by
  have h2 : MP2.atKey (.int .u8 6) (.lit (.int .u8 0)) = .lit (.int .u8 1) := by rfl
  rw [h2] at h; simp at h; exact h.symm
theorem mp_17 {c : Int} (h : MP2.atKey (.int .u8 17) (.lit (.int .u8 0)) = .lit (.int .u8 c)) : c = 2 := by
  have h2 : MP2.atKey (.int .u8 17) (.lit (.int .u8 0)) = .lit (.int .u8 2) := by rfl
  rw [h2] at h; simp at h; exact h.symm

set_option maxHeartbeats 16000000 in
set_option maxRecDepth 100000 in
theorem icquote_any (A : Option Addr) (n c : Nat) (zs : List Int) (w : World) (h : RD .u8 w w.heap.size A n zs) (hz : BD 255 zs) (hn : n ≤ c) (hc : n ≤ 140737488351232) (hS : SORTS w) :
    Calls Tryd.prog 8 #[.slice A n c] w (QRes zs w) := by
  obtain ⟨i0, hi, hz0, hz1, hz2⟩ := info_parts infoU8
  have HL := Lib.hid h.len
  have HSS := Lib.hid hS
  have R := Lib.hid (fun (W : World) (hb : Below w.heap.size w W) => (show RD .u8 W W.heap.size A n zs from (h.below hb).more hb.size))
  have hst := (((SP.start w).alloc 24 #[.slice A n c]).alloc' 35 key0 (N := w.heap.size + 1) (by simp)).alloc' 3 #[.int .i64 0] (N := w.heap.size + 2) (by simp)
  replace hst := hst.alloc' 29 (FUS w.heap.size) (N := w.heap.size + 3) (by simp)
  replace hst : SP w _ (QL w.heap.size A n c 0) := hst
  have HST := Lib.hid hst
  clear h hS hst
  go_enter Tryd.func8, Tryd.ntmps8
  go_wp2_with fail
  rw [show w.heap.size + 1 + 1 + 1 = w.heap.size + 3 from rfl, show w.heap.size + 1 + 1 = w.heap.size + 2 from rfl]
  rw [show ∀ W : World, W.alloc (.cells #[.func (.func 20) #[] #[.pointer (some ⟨w.heap.size, 0, none⟩)], .func (.func 21) #[] #[.pointer (some ⟨w.heap.size, 0, none⟩), .pointer (some ⟨w.heap.size + 2, 0, none⟩)], .func (.func 22) #[] #[.pointer (some ⟨w.heap.size, 0, none⟩), .pointer (some ⟨w.heap.size + 2, 0, none⟩)], .func (.func 25) #[] #[.pointer (some ⟨w.heap.size, 0, none⟩)]] 29) = W.alloc (.cells (FUS w.heap.size) 29) from fun _ => rfl]
  rw [show ∀ W : World, W.alloc (.cells #[.int .u8 0, .int .u32 0, .int .u32 0, .int .u16 0, .int .u16 0] 35) = W.alloc (.cells key0 35) from fun _ => rfl]
  generalize (((w.alloc (.cells #[.slice A n c] 24)).alloc (.cells key0 35)).alloc (.cells #[.int .i64 0] 3)).alloc (.cells (FUS w.heap.size) 29) = w1 at HST ⊢
  obtain ⟨N, hN⟩ : ∃ N, N = w.heap.size := ⟨_, rfl⟩
  rw [← hN] at HST ⊢
  have HN := Lib.hid hN
  clear hN
  go_loopw [17] (fun i wr => ∃ k : Nat, k ≤ 4 ∧ Hid (QP k zs) ∧ i = .int .i64 k ∧ Hid (SP w wr (QL N A n c (if k ≤ 1 then 0 else (qH zs : Int))))) (fun i _ => 4 - (intOf i).toNat)
  case atStart => exact ⟨0, by omega, Lib.hid ⟨fun h => by omega, fun h => by omega, fun h => by omega, fun h => by omega⟩, rfl, HST⟩
  case round =>
    obtain ⟨k, hk, HK, rfl, HS⟩ := hrel
    clear HST
    obtain ⟨wo, rfl⟩ : ∃ wo : World, wo = wr := ⟨_, rfl⟩
    rcases (show k = 0 ∨ k = 1 ∨ k = 2 ∨ k = 3 ∨ k = 4 by omega) with rfl | rfl | rfl | rfl | rfl
    · have x0 : wo.cell? ⟨N + 3, 0, none⟩ = some (.func (.func 20) #[] #[.pointer (some ⟨N, 0, none⟩)]) := HS.out.cell 3 rfl 0 rfl
      have x1 := HS.out.cell 0 rfl 0 rfl
      obtain ⟨BQ, hB⟩ : ∃ BQ, qF1 zs = BQ := ⟨_, rfl⟩
      have HB := Lib.hid hB
      clear hB
      go_wp2_with fail
      refine (q1_any N A n c zs _ BQ x1 (R.out _ HS.out.bel) hz (by omega) HB.out).mono ?_
      rintro e w2 ⟨rfl, rfl⟩
      have X := Lib.hid (show SP w _ (QL N A n c 0) from HS.out)
      clear x0 x1
      cases BQ
      · go_wp2_with fail
        go_roundw
        case rel => exact ⟨1, by omega, Lib.hid ⟨fun h => HB.out, fun h => by omega, fun h => by omega, fun h => by omega⟩, rfl, X⟩
        case measure => simp [intOf]
      · have HBAD := Lib.hid (q_bad (zs := zs) (by unfold qBad; rw [HB.out]; simp))
        have T := Lib.hid (X.out.setR 1 rfl key0)
        go_wp2_with (refine wpList_store_row rfl 35 _ _ rfl (N + 1) key0 rfl rfl 35 key0 (X.out.blk 1 rfl) (by kernel_rfl) rfl (key5_one 0 0 0 0 0) ?_)
        refine bodyPost_ret (results_cell_tmp2' rfl _ _ (N + 1) 35 key0 _ _ rfl (T.out.blk 1 rfl) Tryd.underlying35 rfl (by kernel_rfl)) rfl ?_
        exact QRes.mk HBAD.out T.out.bel
    · have x0 : wo.cell? ⟨N + 3, 1, none⟩ = some (.func (.func 21) #[] #[.pointer (some ⟨N, 0, none⟩), .pointer (some ⟨N + 2, 0, none⟩)]) := HS.out.cell 3 rfl 1 rfl
      have x1 := HS.out.cell 0 rfl 0 rfl
      have h20 : 20 ≤ n := by have := HK.out.len (by omega); have := HL.out; omega
      have x3 := HS.out.cell 2 rfl 0 rfl
      have x4 := HS.out.free 2 rfl 0
      simp only [Nat.le_refl, if_true] at x3

      obtain ⟨BQ, hB⟩ : ∃ BQ, qF2 zs = BQ := ⟨_, rfl⟩
      have HB := Lib.hid hB
      clear hB
      go_wp2_with fail
      refine (q2_any N (N + 2) A n c zs 0 _ BQ x1 x3 x4 (by omega) (R.out _ HS.out.bel) hz (by omega) h20 HB.out).mono ?_
      rintro e w2 ⟨rfl, rfl⟩
      have X := Lib.hid (show SP w _ (QL N A n c (qH zs : Int)) from HS.out.setB 2 rfl 0 (.int .i64 (qH zs : Int)))
      clear x0 x1 x3 x4
      cases BQ
      · go_wp2_with fail
        go_roundw
        case rel => exact ⟨2, by omega, Lib.hid ⟨fun h => HK.out.1 (by omega), fun h => HB.out, fun h => by omega, fun h => by omega⟩, rfl, X⟩
        case measure => simp [intOf]
      · have HBAD := Lib.hid (q_bad (zs := zs) (by unfold qBad; rw [HB.out]; simp))
        have T := Lib.hid (X.out.setR 1 rfl key0)
        go_wp2_with (refine wpList_store_row rfl 35 _ _ rfl (N + 1) key0 rfl rfl 35 key0 (X.out.blk 1 rfl) (by kernel_rfl) rfl (key5_one 0 0 0 0 0) ?_)
        refine bodyPost_ret (results_cell_tmp2' rfl _ _ (N + 1) 35 key0 _ _ rfl (T.out.blk 1 rfl) Tryd.underlying35 rfl (by kernel_rfl)) rfl ?_
        exact QRes.mk HBAD.out T.out.bel
    · have x0 : wo.cell? ⟨N + 3, 2, none⟩ = some (.func (.func 22) #[] #[.pointer (some ⟨N, 0, none⟩), .pointer (some ⟨N + 2, 0, none⟩)]) := HS.out.cell 3 rfl 2 rfl
      have x1 := HS.out.cell 0 rfl 0 rfl
      have h20 : 20 ≤ n := by have := HK.out.len (by omega); have := HL.out; omega
      have hq8 : qH zs + 8 ≤ n := by have := HK.out.head (by omega); have := HL.out; omega
      have x3 := HS.out.cell 2 rfl 0 rfl
      have x4 := HS.out.free 2 rfl 0
      simp only [Nat.reduceLeDiff, if_false] at x3

      obtain ⟨BQ, hB⟩ : ∃ BQ, qF3 zs = BQ := ⟨_, rfl⟩
      have HB := Lib.hid hB
      clear hB
      go_wp2_with fail
      refine (q3_any N (N + 2) A n c zs (qH zs) _ BQ x1 x3 (R.out _ HS.out.bel) hz hn (by omega) rfl hq8 h20 HB.out).mono ?_
      rintro e w2 ⟨rfl, hb⟩
      have X := Lib.hid (show SP w _ (QL N A n c (qH zs : Int)) from HS.out.next hb)
      clear hb
      clear x0 x1 x3 x4
      cases BQ
      · go_wp2_with fail
        go_roundw
        case rel => exact ⟨3, by omega, Lib.hid ⟨fun h => HK.out.1 (by omega), fun h => HK.out.2.1 (by omega), fun h => HB.out, fun h => by omega⟩, rfl, X⟩
        case measure => simp [intOf]
      · have HBAD := Lib.hid (q_bad (zs := zs) (by unfold qBad; rw [HB.out]; simp))
        have T := Lib.hid (X.out.setR 1 rfl key0)
        go_wp2_with (refine wpList_store_row rfl 35 _ _ rfl (N + 1) key0 rfl rfl 35 key0 (X.out.blk 1 rfl) (by kernel_rfl) rfl (key5_one 0 0 0 0 0) ?_)
        refine bodyPost_ret (results_cell_tmp2' rfl _ _ (N + 1) 35 key0 _ _ rfl (T.out.blk 1 rfl) Tryd.underlying35 rfl (by kernel_rfl)) rfl ?_
        exact QRes.mk HBAD.out T.out.bel
    · have x0 : wo.cell? ⟨N + 3, 3, none⟩ = some (.func (.func 25) #[] #[.pointer (some ⟨N, 0, none⟩)]) := HS.out.cell 3 rfl 3 rfl
      have x1 := HS.out.cell 0 rfl 0 rfl
      have h20 : 20 ≤ n := by have := HK.out.len (by omega); have := HL.out; omega
      obtain ⟨BQ, hB⟩ : ∃ BQ, qF4 zs = BQ := ⟨_, rfl⟩
      have HB := Lib.hid hB
      clear hB
      go_wp2_with fail
      refine (q4_any N A n c zs _ BQ x1 (R.out _ HS.out.bel) hz hn (by omega) h20 HB.out).mono ?_
      rintro e w2 ⟨rfl, m, hm⟩
      have X := Lib.hid (show SP w _ (QL N A n c (qH zs : Int)) from hm ▸ HS.out.drewN m)
      clear hm
      clear x0 x1
      cases BQ
      · go_wp2_with fail
        go_roundw
        case rel => exact ⟨4, by omega, Lib.hid ⟨fun h => HK.out.1 (by omega), fun h => HK.out.2.1 (by omega), fun h => HK.out.2.2.1 (by omega), fun h => HB.out⟩, rfl, X⟩
        case measure => simp [intOf]
      · have HBAD := Lib.hid (q_bad (zs := zs) (by unfold qBad; rw [HB.out]; simp))
        have T := Lib.hid (X.out.setR 1 rfl key0)
        go_wp2_with (refine wpList_store_row rfl 35 _ _ rfl (N + 1) key0 rfl rfl 35 key0 (X.out.blk 1 rfl) (by kernel_rfl) rfl (key5_one 0 0 0 0 0) ?_)
        refine bodyPost_ret (results_cell_tmp2' rfl _ _ (N + 1) 35 key0 _ _ rfl (T.out.blk 1 rfl) Tryd.underlying35 rfl (by kernel_rfl)) rfl ?_
        exact QRes.mk HBAD.out T.out.bel
    · have hh := HK.out.head (by omega)
      have HG := Lib.hid HK.out.good
      rw [HL.out] at hh
      obtain ⟨h20, hq8⟩ := hh
      obtain ⟨q, hq⟩ : ∃ q, q = qH zs := ⟨_, rfl⟩
      have HS' := Lib.hid (show SP w wo (QL N A n c (q : Int)) by rw [hq]; exact HS.out)
      have HQ := Lib.hid hq
      rw [← hq] at h20 hq8
      clear HS hq
      have hq60 : q ≤ 60 := by
        obtain ⟨z1, z2⟩ := hz.get (by omega) 0
        rw [HQ.out]; unfold qH; omega
      obtain ⟨b, off, rfl, hb, hcell⟩ := (R.out w (Below.refl _ _)).2 (by omega)
      have HX := Lib.hid (fun (W : World) (hb' : Below w.heap.size w W) => (show W.cell? ⟨b, off + 9, none⟩ = some (.int .u8 (qP zs)) from (hb'.cell (p := ⟨b, off + 9, none⟩) hb).trans (hcell 9 (by omega))))
      obtain ⟨p0, p1⟩ : 0 ≤ qP zs ∧ qP zs ≤ 255 := hz.get (by omega) 9
      have W0 := Lib.hid (fun (k : Nat) => (show wordAt (zs.drop k) 0 = wordAt zs k by unfold wordAt; rw [List.getElem?_drop, List.getElem?_drop]; rfl))
      have i9 : (9 : Int) < (n : Int) := by omega
      have j9 : 9 < n := by omega
      have s12 := fun W => run_slice_lo (P := Tryd.prog) W Tryd.underlying24 hi hz1 (some ⟨b, off, none⟩) n c 12 12 rfl (by omega)
      have s14 := fun W => run_slice_lo (P := Tryd.prog) W Tryd.underlying24 hi hz1 (some ⟨b, off, none⟩) n c 14 14 rfl (by omega)
      have s16 := fun W => run_slice_lo (P := Tryd.prog) W Tryd.underlying24 hi hz1 (some ⟨b, off, none⟩) n c 16 16 rfl (by omega)
      have s18 := fun W => run_slice_lo (P := Tryd.prog) W Tryd.underlying24 hi hz1 (some ⟨b, off, none⟩) n c 18 18 rfl (by omega)
      obtain ⟨a12, b12⟩ := wordAt_bd hz 12
      have e12 : IntKind.u32.wrap (wordAt zs 12) = wordAt zs 12 := u32_in _ (by omega) (by omega)
      obtain ⟨a14, b14⟩ := wordAt_bd hz 14
      have e14 : IntKind.u32.wrap (wordAt zs 14) = wordAt zs 14 := u32_in _ (by omega) (by omega)
      obtain ⟨a16, b16⟩ := wordAt_bd hz 16
      have e16 : IntKind.u32.wrap (wordAt zs 16) = wordAt zs 16 := u32_in _ (by omega) (by omega)
      obtain ⟨a18, b18⟩ := wordAt_bd hz 18
      have e18 : IntKind.u32.wrap (wordAt zs 18) = wordAt zs 18 := u32_in _ (by omega) (by omega)
      have f12 : IntKind.u32.wrap (wordAt zs 12 * 65536) = wordAt zs 12 * 65536 := u32_in _ (by omega) (by omega)
      have g12 : bits .or .u32 (wordAt zs 12 * 65536) (wordAt zs 14) = wordAt zs 12 * 65536 + wordAt zs 14 := u32_or_word _ _ a12 b12 a14 b14
      have f16 : IntKind.u32.wrap (wordAt zs 16 * 65536) = wordAt zs 16 * 65536 := u32_in _ (by omega) (by omega)
      have g16 : bits .or .u32 (wordAt zs 16 * 65536) (wordAt zs 18) = wordAt zs 16 * 65536 + wordAt zs 18 := u32_or_word _ _ a16 b16 a18 b18
      have y1 := HS'.out.cell 0 rfl 0 rfl
      go_upto_region 8 with fail
      clear y1
      go_cut [8] (fun s8 wx => ∃ M : Nat, s8 = .pointer (some ⟨M, 0, none⟩) ∧ SP w wx (QL N (some ⟨b, off, none⟩) n c (q : Int) ++ [.blk M 35 (key5 (qP zs) (qS zs) (qD zs) 0 0)]))
      case first =>
        have X0 := Lib.hid HS'.out.drew
        refine wp_region_noPanic ?_
        refine wp_region_held_drew (S := fun W => W.cell? ⟨N, 0, none⟩ = some (.slice (some ⟨b, off, none⟩) n c) ∧ W.cell? ⟨b, off + 9, none⟩ = some (.int .u8 (qP zs))) (by kernel_rfl) (by exact ⟨X0.out.cell 0 rfl 0 rfl, HX.out _ X0.out.bel⟩) (fun hHeld => ?_)
        refine' take_lit (i := 0) (v := _) rfl (by kernel_rfl) (by kernel_rfl) (by kernel_rfl) (fun _ _ _ h => h) (Or.inl ⟨by rfl, ?yy1⟩) (by assumption) ?rr1
        case yy1 => intro w' hSw; (try dsimp only at hSw); go_simp; try (with_reducible rfl)
        (try simp only [Act.put]); (try simp only [List.setIfInBounds_toArray, List.set_cons_zero, List.set_cons_succ])
        refine' take_lit (i := 1) (v := _) rfl (by kernel_rfl) (by kernel_rfl) (by kernel_rfl) (fun _ _ _ h => h) (Or.inl ⟨by rfl, ?yy2⟩) (by assumption) ?rr2
        case yy2 => intro w' hSw; (try dsimp only at hSw); go_simp; try (with_reducible rfl)
        (try simp only [Act.put]); (try simp only [List.setIfInBounds_toArray, List.set_cons_zero, List.set_cons_succ])
        refine' take_lit (i := 2) (v := _) rfl (by kernel_rfl) (by kernel_rfl) (by kernel_rfl) (fun _ _ _ h => h) (Or.inl ⟨by rfl, ?yy3⟩) (by assumption) ?rr3
        case yy3 => intro w' hSw; (try dsimp only at hSw); go_simp; try (with_reducible rfl)
        (try simp only [Act.put]); (try simp only [List.setIfInBounds_toArray, List.set_cons_zero, List.set_cons_succ])
        refine' take_lit (i := 3) (v := _) rfl (by kernel_rfl) (by kernel_rfl) (by kernel_rfl) (fun _ _ _ h => h) (Or.inl ⟨by rfl, ?yy4⟩) (by assumption) ?rr4
        case yy4 => intro w' hSw; (try dsimp only at hSw); go_simp; try (with_reducible rfl)
        (try simp only [Act.put]); (try simp only [List.setIfInBounds_toArray, List.set_cons_zero, List.set_cons_succ])
        refine' take_lit (i := 4) (v := _) rfl (by kernel_rfl) (by kernel_rfl) (by kernel_rfl) (fun _ _ _ h => h) (Or.inl ⟨by rfl, ?yy5⟩) (by assumption) ?rr5
        case yy5 => intro w' hSw; (try dsimp only at hSw); go_simp; try (with_reducible rfl)
        (try simp only [Act.put]); (try simp only [List.setIfInBounds_toArray, List.set_cons_zero, List.set_cons_succ])
        refine' take_lit (i := 8) (v := _) rfl (by kernel_rfl) (by kernel_rfl) (by kernel_rfl) (fun _ _ _ h => h) (Or.inl ⟨by rfl, ?yy6⟩) (by assumption) ?rr6
        case yy6 => intro w' hSw; (try dsimp only at hSw); go_simp; try (with_reducible rfl)
        (try simp only [Act.put]); (try simp only [List.setIfInBounds_toArray, List.set_cons_zero, List.set_cons_succ])
        refine' take_lit (i := 9) (v := _) rfl (by kernel_rfl) (by kernel_rfl) (by kernel_rfl) (fun _ _ _ h => h) (Or.inl ⟨by rfl, ?yy7⟩) (by assumption) ?rr7
        case yy7 => intro w' hSw; (try dsimp only at hSw); go_simp; try (with_reducible rfl)
        (try simp only [Act.put]); (try simp only [List.setIfInBounds_toArray, List.set_cons_zero, List.set_cons_succ])
        refine' take_lit (i := 13) (v := _) rfl (by kernel_rfl) (by kernel_rfl) (by kernel_rfl) (fun _ _ _ h => h) (Or.inl ⟨by rfl, ?yy8⟩) (by assumption) ?rr8
        case yy8 => intro w' hSw; (try dsimp only at hSw); go_simp; try (with_reducible rfl)
        (try simp only [Act.put]); (try simp only [List.setIfInBounds_toArray, List.set_cons_zero, List.set_cons_succ])
        refine' take_lit (i := 14) (v := _) rfl (by kernel_rfl) (by kernel_rfl) (by kernel_rfl) (fun _ _ _ h => h) (Or.inl ⟨by rfl, ?yy9⟩) (by assumption) ?rr9
        case yy9 => intro w' hSw; (try dsimp only at hSw); go_simp; try (with_reducible rfl)
        (try simp only [Act.put]); (try simp only [List.setIfInBounds_toArray, List.set_cons_zero, List.set_cons_succ])
        refine' take_lit (i := 18) (v := _) rfl (by kernel_rfl) (by kernel_rfl) (by kernel_rfl) (fun _ _ _ h => h) (Or.inl ⟨by rfl, ?yy10⟩) (by assumption) ?rr10
        case yy10 => intro w' hSw; (try dsimp only at hSw); go_simp; try (with_reducible rfl)
        (try simp only [Act.put]); (try simp only [List.setIfInBounds_toArray, List.set_cons_zero, List.set_cons_succ])
        refine' take_lit (i := 19) (v := _) rfl (by kernel_rfl) (by kernel_rfl) (by kernel_rfl) (fun _ _ _ h => h) (Or.inl ⟨by rfl, ?yy11⟩) (by assumption) ?rr11
        case yy11 => intro w' hSw; (try dsimp only at hSw); go_simp; try (with_reducible rfl)
        (try simp only [Act.put]); (try simp only [List.setIfInBounds_toArray, List.set_cons_zero, List.set_cons_succ])
        refine wpAnyH_ready (rs := [5, 24]) (by kernel_rfl) (by simp) ?_
        refine cons_lit rfl (fun K hK => ?ss5x12) (cons_lit rfl (fun K hK => ?ss24x12) AllReadyH.nil)
        case ss5x12 =>
          go_simp
          refine (icword_any (cutA (some ⟨b, off, none⟩) c 12) (n - 12) (c - 12) (zs.drop 12) _ ((R.out _ X0.out.bel).cutA (lo := 12) (by omega) hn) (hz.drop _) (by omega)).mono ?_
          rintro e v2 ⟨rfl, mv2, hv2⟩
          rw [W0.out 12]
          have X1 := Lib.hid (hv2 ▸ X0.out.drewN mv2)
          clear hv2
          refine hK.out _ _ (by exact ⟨X1.out.cell 0 rfl 0 rfl, HX.out _ X1.out.bel⟩) (fun hHeld => ?_)
          clear hK K
          (try simp only [Act.put]); (try simp only [List.setIfInBounds_toArray, List.set_cons_zero, List.set_cons_succ])
          refine' take_lit (i := 6) (v := _) rfl (by kernel_rfl) (by kernel_rfl) (by kernel_rfl) (fun _ _ _ h => h) (Or.inl ⟨by rfl, ?yy13⟩) (by assumption) ?rr13
          case yy13 => intro w' hSw; (try dsimp only at hSw); go_simp; try (with_reducible rfl)
          (try simp only [Act.put]); (try simp only [List.setIfInBounds_toArray, List.set_cons_zero, List.set_cons_succ])
          refine' take_lit (i := 7) (v := _) rfl (by kernel_rfl) (by kernel_rfl) (by kernel_rfl) (fun _ _ _ h => h) (Or.inl ⟨by rfl, ?yy14⟩) (by assumption) ?rr14
          case yy14 => intro w' hSw; (try dsimp only at hSw); go_simp; try (with_reducible rfl)
          (try simp only [Act.put]); (try simp only [List.setIfInBounds_toArray, List.set_cons_zero, List.set_cons_succ])
          refine wpAnyH_ready (rs := [10, 24]) (by kernel_rfl) (by simp) ?_
          refine cons_lit rfl (fun K hK => ?ss10x15) (cons_lit rfl (fun K hK => ?ss24x15) AllReadyH.nil)
          case ss10x15 =>
            go_simp
            refine (icword_any (cutA (some ⟨b, off, none⟩) c 14) (n - 14) (c - 14) (zs.drop 14) _ ((R.out _ X1.out.bel).cutA (lo := 14) (by omega) hn) (hz.drop _) (by omega)).mono ?_
            rintro e v4 ⟨rfl, mv4, hv4⟩
            rw [W0.out 14]
            have X3 := Lib.hid (hv4 ▸ X1.out.drewN mv4)
            clear hv4
            refine hK.out _ _ (by exact ⟨X3.out.cell 0 rfl 0 rfl, HX.out _ X3.out.bel⟩) (fun hHeld => ?_)
            clear hK K
            (try simp only [Act.put]); (try simp only [List.setIfInBounds_toArray, List.set_cons_zero, List.set_cons_succ])
            refine' take_lit (i := 11) (v := _) rfl (by kernel_rfl) (by kernel_rfl) (by kernel_rfl) (fun _ _ _ h => h) (Or.inl ⟨by rfl, ?yy16⟩) (by assumption) ?rr16
            case yy16 => intro w' hSw; (try dsimp only at hSw); go_simp; try (with_reducible rfl)
            (try simp only [Act.put]); (try simp only [List.setIfInBounds_toArray, List.set_cons_zero, List.set_cons_succ])
            refine' take_lit (i := 12) (v := _) rfl (by kernel_rfl) (by kernel_rfl) (by kernel_rfl) (fun _ _ _ h => h) (Or.inl ⟨by rfl, ?yy17⟩) (by assumption) ?rr17
            case yy17 => intro w' hSw; (try dsimp only at hSw); go_simp; try (with_reducible rfl)
            (try simp only [Act.put]); (try simp only [List.setIfInBounds_toArray, List.set_cons_zero, List.set_cons_succ])
            refine wpAnyH_ready (rs := [15, 24]) (by kernel_rfl) (by simp) ?_
            refine cons_lit rfl (fun K hK => ?ss15x18) (cons_lit rfl (fun K hK => ?ss24x18) AllReadyH.nil)
            case ss15x18 =>
              go_simp
              refine (icword_any (cutA (some ⟨b, off, none⟩) c 16) (n - 16) (c - 16) (zs.drop 16) _ ((R.out _ X3.out.bel).cutA (lo := 16) (by omega) hn) (hz.drop _) (by omega)).mono ?_
              rintro e v6 ⟨rfl, mv6, hv6⟩
              rw [W0.out 16]
              have X5 := Lib.hid (hv6 ▸ X3.out.drewN mv6)
              clear hv6
              refine hK.out _ _ (by exact ⟨X5.out.cell 0 rfl 0 rfl, HX.out _ X5.out.bel⟩) (fun hHeld => ?_)
              clear hK K
              (try simp only [Act.put]); (try simp only [List.setIfInBounds_toArray, List.set_cons_zero, List.set_cons_succ])
              refine' take_lit (i := 16) (v := _) rfl (by kernel_rfl) (by kernel_rfl) (by kernel_rfl) (fun _ _ _ h => h) (Or.inl ⟨by rfl, ?yy19⟩) (by assumption) ?rr19
              case yy19 => intro w' hSw; (try dsimp only at hSw); go_simp; try (with_reducible rfl)
              (try simp only [Act.put]); (try simp only [List.setIfInBounds_toArray, List.set_cons_zero, List.set_cons_succ])
              refine' take_lit (i := 17) (v := _) rfl (by kernel_rfl) (by kernel_rfl) (by kernel_rfl) (fun _ _ _ h => h) (Or.inl ⟨by rfl, ?yy20⟩) (by assumption) ?rr20
              case yy20 => intro w' hSw; (try dsimp only at hSw); go_simp; try (with_reducible rfl)
              (try simp only [Act.put]); (try simp only [List.setIfInBounds_toArray, List.set_cons_zero, List.set_cons_succ])
              refine wpAnyH_ready (rs := [20, 24]) (by kernel_rfl) (by simp) ?_
              refine cons_lit rfl (fun K hK => ?ss20x21) (cons_lit rfl (fun K hK => ?ss24x21) AllReadyH.nil)
              case ss20x21 =>
                go_simp
                refine (icword_any (cutA (some ⟨b, off, none⟩) c 18) (n - 18) (c - 18) (zs.drop 18) _ ((R.out _ X5.out.bel).cutA (lo := 18) (by omega) hn) (hz.drop _) (by omega)).mono ?_
                rintro e v8 ⟨rfl, mv8, hv8⟩
                rw [W0.out 18]
                have X7 := Lib.hid (hv8 ▸ X5.out.drewN mv8)
                clear hv8
                refine hK.out _ _ (by exact ⟨X7.out.cell 0 rfl 0 rfl, HX.out _ X7.out.bel⟩) (fun hHeld => ?_)
                clear hK K
                (try simp only [Act.put]); (try simp only [List.setIfInBounds_toArray, List.set_cons_zero, List.set_cons_succ])
                refine' take_lit (i := 21) (v := _) rfl (by kernel_rfl) (by kernel_rfl) (by kernel_rfl) (fun _ _ _ h => h) (Or.inl ⟨by rfl, ?yy22⟩) (by assumption) ?rr22
                case yy22 => intro w' hSw; (try dsimp only at hSw); go_simp; try (with_reducible rfl)
                (try simp only [Act.put]); (try simp only [List.setIfInBounds_toArray, List.set_cons_zero, List.set_cons_succ])
                refine' take_lit (i := 22) (v := _) rfl (by kernel_rfl) (by kernel_rfl) (by kernel_rfl) (fun _ _ _ h => h) (Or.inl ⟨by rfl, ?yy23⟩) (by assumption) ?rr23
                case yy23 => intro w' hSw; (try dsimp only at hSw); go_simp; try (with_reducible rfl)
                (try simp only [Act.put]); (try simp only [List.setIfInBounds_toArray, List.set_cons_zero, List.set_cons_succ])
                refine' take_lit (i := 23) (v := _) rfl (by kernel_rfl) (by kernel_rfl) (by kernel_rfl) (fun _ _ _ h => h) (Or.inl ⟨by rfl, ?yy24⟩) (by assumption) ?rr24
                case yy24 => intro w' hSw; (try dsimp only at hSw); go_simp; try (with_reducible rfl)
                (try simp only [Act.put]); (try simp only [List.setIfInBounds_toArray, List.set_cons_zero, List.set_cons_succ])
                refine wpAnyH_ready (rs := [24]) (by kernel_rfl) (by simp) ?_
                refine cons_lit rfl (fun K hK => ?ss24x25) AllReadyH.nil
                case ss24x25 =>
                  go_simp
                  have X9a := Lib.hid (X7.out.alloc 35 key0)
                  refine hK.out _ _ (by exact ⟨X9a.out.cell 0 rfl 0 rfl, HX.out _ X9a.out.bel⟩) (fun hHeld => ?_)
                  clear hK K
                  (try simp only [Act.put]); (try simp only [List.setIfInBounds_toArray, List.set_cons_zero, List.set_cons_succ])
                  refine wpAnyH_ready (rs := [25]) (by kernel_rfl) (by simp) ?_
                  refine cons_lit rfl (fun K hK => ?ss25x26) AllReadyH.nil
                  case ss25x26 =>
                    refine step_store_row (by rfl) 35 _ _ (by rfl) _ (key5 (qP zs) (qS zs) (qD zs) 0 0) (by rfl) (by rfl) 35 key0 (X9a.out.blk 4 rfl) (by kernel_rfl) rfl (key5_one _ _ _ _ _) ?_
                    have X10 := Lib.hid (X9a.out.setR 4 rfl (key5 (qP zs) (qS zs) (qD zs) 0 0))
                    refine hK.out _ _ (by exact ⟨X10.out.cell 0 rfl 0 rfl, HX.out _ X10.out.bel⟩) (fun hHeld => ?_)
                    clear hK K
                    (try simp only [Act.put]); (try simp only [List.setIfInBounds_toArray, List.set_cons_zero, List.set_cons_succ])
                    refine wpAnyH_done (by kernel_rfl) ?_ _
                    refine NoPanic.normal ?_
                    go_wp2_with fail
                    go_meet
                    exact ⟨_, rfl, X10.out⟩
              case ss24x21 =>
                go_simp
                have X7a := Lib.hid (X5.out.alloc 35 key0)
                refine hK.out _ _ (by exact ⟨X7a.out.cell 0 rfl 0 rfl, HX.out _ X7a.out.bel⟩) (fun hHeld => ?_)
                clear hK K
                (try simp only [Act.put]); (try simp only [List.setIfInBounds_toArray, List.set_cons_zero, List.set_cons_succ])
                refine wpAnyH_ready (rs := [20]) (by kernel_rfl) (by simp) ?_
                refine cons_lit rfl (fun K hK => ?ss20x27) AllReadyH.nil
                case ss20x27 =>
                  go_simp
                  refine (icword_any (cutA (some ⟨b, off, none⟩) c 18) (n - 18) (c - 18) (zs.drop 18) _ ((R.out _ X7a.out.bel).cutA (lo := 18) (by omega) hn) (hz.drop _) (by omega)).mono ?_
                  rintro e v12 ⟨rfl, mv12, hv12⟩
                  rw [W0.out 18]
                  have X11 := Lib.hid (hv12 ▸ X7a.out.drewN mv12)
                  clear hv12
                  refine hK.out _ _ (by exact ⟨X11.out.cell 0 rfl 0 rfl, HX.out _ X11.out.bel⟩) (fun hHeld => ?_)
                  clear hK K
                  (try simp only [Act.put]); (try simp only [List.setIfInBounds_toArray, List.set_cons_zero, List.set_cons_succ])
                  refine' take_lit (i := 21) (v := _) rfl (by kernel_rfl) (by kernel_rfl) (by kernel_rfl) (fun _ _ _ h => h) (Or.inl ⟨by rfl, ?yy28⟩) (by assumption) ?rr28
                  case yy28 => intro w' hSw; (try dsimp only at hSw); go_simp; try (with_reducible rfl)
                  (try simp only [Act.put]); (try simp only [List.setIfInBounds_toArray, List.set_cons_zero, List.set_cons_succ])
                  refine' take_lit (i := 22) (v := _) rfl (by kernel_rfl) (by kernel_rfl) (by kernel_rfl) (fun _ _ _ h => h) (Or.inl ⟨by rfl, ?yy29⟩) (by assumption) ?rr29
                  case yy29 => intro w' hSw; (try dsimp only at hSw); go_simp; try (with_reducible rfl)
                  (try simp only [Act.put]); (try simp only [List.setIfInBounds_toArray, List.set_cons_zero, List.set_cons_succ])
                  refine' take_lit (i := 23) (v := _) rfl (by kernel_rfl) (by kernel_rfl) (by kernel_rfl) (fun _ _ _ h => h) (Or.inl ⟨by rfl, ?yy30⟩) (by assumption) ?rr30
                  case yy30 => intro w' hSw; (try dsimp only at hSw); go_simp; try (with_reducible rfl)
                  (try simp only [Act.put]); (try simp only [List.setIfInBounds_toArray, List.set_cons_zero, List.set_cons_succ])
                  refine wpAnyH_ready (rs := [25]) (by kernel_rfl) (by simp) ?_
                  refine cons_lit rfl (fun K hK => ?ss25x31) AllReadyH.nil
                  case ss25x31 =>
                    refine step_store_row (by rfl) 35 _ _ (by rfl) _ (key5 (qP zs) (qS zs) (qD zs) 0 0) (by rfl) (by rfl) 35 key0 (X11.out.blk 4 rfl) (by kernel_rfl) rfl (key5_one _ _ _ _ _) ?_
                    have X13 := Lib.hid (X11.out.setR 4 rfl (key5 (qP zs) (qS zs) (qD zs) 0 0))
                    refine hK.out _ _ (by exact ⟨X13.out.cell 0 rfl 0 rfl, HX.out _ X13.out.bel⟩) (fun hHeld => ?_)
                    clear hK K
                    (try simp only [Act.put]); (try simp only [List.setIfInBounds_toArray, List.set_cons_zero, List.set_cons_succ])
                    refine wpAnyH_done (by kernel_rfl) ?_ _
                    refine NoPanic.normal ?_
                    go_wp2_with fail
                    go_meet
                    exact ⟨_, rfl, X13.out⟩
            case ss24x18 =>
              go_simp
              have X5a := Lib.hid (X3.out.alloc 35 key0)
              refine hK.out _ _ (by exact ⟨X5a.out.cell 0 rfl 0 rfl, HX.out _ X5a.out.bel⟩) (fun hHeld => ?_)
              clear hK K
              (try simp only [Act.put]); (try simp only [List.setIfInBounds_toArray, List.set_cons_zero, List.set_cons_succ])
              refine wpAnyH_ready (rs := [15]) (by kernel_rfl) (by simp) ?_
              refine cons_lit rfl (fun K hK => ?ss15x32) AllReadyH.nil
              case ss15x32 =>
                go_simp
                refine (icword_any (cutA (some ⟨b, off, none⟩) c 16) (n - 16) (c - 16) (zs.drop 16) _ ((R.out _ X5a.out.bel).cutA (lo := 16) (by omega) hn) (hz.drop _) (by omega)).mono ?_
                rintro e v15 ⟨rfl, mv15, hv15⟩
                rw [W0.out 16]
                have X14 := Lib.hid (hv15 ▸ X5a.out.drewN mv15)
                clear hv15
                refine hK.out _ _ (by exact ⟨X14.out.cell 0 rfl 0 rfl, HX.out _ X14.out.bel⟩) (fun hHeld => ?_)
                clear hK K
                (try simp only [Act.put]); (try simp only [List.setIfInBounds_toArray, List.set_cons_zero, List.set_cons_succ])
                refine' take_lit (i := 16) (v := _) rfl (by kernel_rfl) (by kernel_rfl) (by kernel_rfl) (fun _ _ _ h => h) (Or.inl ⟨by rfl, ?yy33⟩) (by assumption) ?rr33
                case yy33 => intro w' hSw; (try dsimp only at hSw); go_simp; try (with_reducible rfl)
                (try simp only [Act.put]); (try simp only [List.setIfInBounds_toArray, List.set_cons_zero, List.set_cons_succ])
                refine' take_lit (i := 17) (v := _) rfl (by kernel_rfl) (by kernel_rfl) (by kernel_rfl) (fun _ _ _ h => h) (Or.inl ⟨by rfl, ?yy34⟩) (by assumption) ?rr34
                case yy34 => intro w' hSw; (try dsimp only at hSw); go_simp; try (with_reducible rfl)
                (try simp only [Act.put]); (try simp only [List.setIfInBounds_toArray, List.set_cons_zero, List.set_cons_succ])
                refine wpAnyH_ready (rs := [20]) (by kernel_rfl) (by simp) ?_
                refine cons_lit rfl (fun K hK => ?ss20x35) AllReadyH.nil
                case ss20x35 =>
                  go_simp
                  refine (icword_any (cutA (some ⟨b, off, none⟩) c 18) (n - 18) (c - 18) (zs.drop 18) _ ((R.out _ X14.out.bel).cutA (lo := 18) (by omega) hn) (hz.drop _) (by omega)).mono ?_
                  rintro e v17 ⟨rfl, mv17, hv17⟩
                  rw [W0.out 18]
                  have X16 := Lib.hid (hv17 ▸ X14.out.drewN mv17)
                  clear hv17
                  refine hK.out _ _ (by exact ⟨X16.out.cell 0 rfl 0 rfl, HX.out _ X16.out.bel⟩) (fun hHeld => ?_)
                  clear hK K
                  (try simp only [Act.put]); (try simp only [List.setIfInBounds_toArray, List.set_cons_zero, List.set_cons_succ])
                  refine' take_lit (i := 21) (v := _) rfl (by kernel_rfl) (by kernel_rfl) (by kernel_rfl) (fun _ _ _ h => h) (Or.inl ⟨by rfl, ?yy36⟩) (by assumption) ?rr36
                  case yy36 => intro w' hSw; (try dsimp only at hSw); go_simp; try (with_reducible rfl)
                  (try simp only [Act.put]); (try simp only [List.setIfInBounds_toArray, List.set_cons_zero, List.set_cons_succ])
                  refine' take_lit (i := 22) (v := _) rfl (by kernel_rfl) (by kernel_rfl) (by kernel_rfl) (fun _ _ _ h => h) (Or.inl ⟨by rfl, ?yy37⟩) (by assumption) ?rr37
                  case yy37 => intro w' hSw; (try dsimp only at hSw); go_simp; try (with_reducible rfl)
                  (try simp only [Act.put]); (try simp only [List.setIfInBounds_toArray, List.set_cons_zero, List.set_cons_succ])
                  refine' take_lit (i := 23) (v := _) rfl (by kernel_rfl) (by kernel_rfl) (by kernel_rfl) (fun _ _ _ h => h) (Or.inl ⟨by rfl, ?yy38⟩) (by assumption) ?rr38
                  case yy38 => intro w' hSw; (try dsimp only at hSw); go_simp; try (with_reducible rfl)
                  (try simp only [Act.put]); (try simp only [List.setIfInBounds_toArray, List.set_cons_zero, List.set_cons_succ])
                  refine wpAnyH_ready (rs := [25]) (by kernel_rfl) (by simp) ?_
                  refine cons_lit rfl (fun K hK => ?ss25x39) AllReadyH.nil
                  case ss25x39 =>
                    refine step_store_row (by rfl) 35 _ _ (by rfl) _ (key5 (qP zs) (qS zs) (qD zs) 0 0) (by rfl) (by rfl) 35 key0 (X16.out.blk 4 rfl) (by kernel_rfl) rfl (key5_one _ _ _ _ _) ?_
                    have X18 := Lib.hid (X16.out.setR 4 rfl (key5 (qP zs) (qS zs) (qD zs) 0 0))
                    refine hK.out _ _ (by exact ⟨X18.out.cell 0 rfl 0 rfl, HX.out _ X18.out.bel⟩) (fun hHeld => ?_)
                    clear hK K
                    (try simp only [Act.put]); (try simp only [List.setIfInBounds_toArray, List.set_cons_zero, List.set_cons_succ])
                    refine wpAnyH_done (by kernel_rfl) ?_ _
                    refine NoPanic.normal ?_
                    go_wp2_with fail
                    go_meet
                    exact ⟨_, rfl, X18.out⟩
          case ss24x15 =>
            go_simp
            have X3a := Lib.hid (X1.out.alloc 35 key0)
            refine hK.out _ _ (by exact ⟨X3a.out.cell 0 rfl 0 rfl, HX.out _ X3a.out.bel⟩) (fun hHeld => ?_)
            clear hK K
            (try simp only [Act.put]); (try simp only [List.setIfInBounds_toArray, List.set_cons_zero, List.set_cons_succ])
            refine wpAnyH_ready (rs := [10]) (by kernel_rfl) (by simp) ?_
            refine cons_lit rfl (fun K hK => ?ss10x40) AllReadyH.nil
            case ss10x40 =>
              go_simp
              refine (icword_any (cutA (some ⟨b, off, none⟩) c 14) (n - 14) (c - 14) (zs.drop 14) _ ((R.out _ X3a.out.bel).cutA (lo := 14) (by omega) hn) (hz.drop _) (by omega)).mono ?_
              rintro e v20 ⟨rfl, mv20, hv20⟩
              rw [W0.out 14]
              have X19 := Lib.hid (hv20 ▸ X3a.out.drewN mv20)
              clear hv20
              refine hK.out _ _ (by exact ⟨X19.out.cell 0 rfl 0 rfl, HX.out _ X19.out.bel⟩) (fun hHeld => ?_)
              clear hK K
              (try simp only [Act.put]); (try simp only [List.setIfInBounds_toArray, List.set_cons_zero, List.set_cons_succ])
              refine' take_lit (i := 11) (v := _) rfl (by kernel_rfl) (by kernel_rfl) (by kernel_rfl) (fun _ _ _ h => h) (Or.inl ⟨by rfl, ?yy41⟩) (by assumption) ?rr41
              case yy41 => intro w' hSw; (try dsimp only at hSw); go_simp; try (with_reducible rfl)
              (try simp only [Act.put]); (try simp only [List.setIfInBounds_toArray, List.set_cons_zero, List.set_cons_succ])
              refine' take_lit (i := 12) (v := _) rfl (by kernel_rfl) (by kernel_rfl) (by kernel_rfl) (fun _ _ _ h => h) (Or.inl ⟨by rfl, ?yy42⟩) (by assumption) ?rr42
              case yy42 => intro w' hSw; (try dsimp only at hSw); go_simp; try (with_reducible rfl)
              (try simp only [Act.put]); (try simp only [List.setIfInBounds_toArray, List.set_cons_zero, List.set_cons_succ])
              refine wpAnyH_ready (rs := [15]) (by kernel_rfl) (by simp) ?_
              refine cons_lit rfl (fun K hK => ?ss15x43) AllReadyH.nil
              case ss15x43 =>
                go_simp
                refine (icword_any (cutA (some ⟨b, off, none⟩) c 16) (n - 16) (c - 16) (zs.drop 16) _ ((R.out _ X19.out.bel).cutA (lo := 16) (by omega) hn) (hz.drop _) (by omega)).mono ?_
                rintro e v22 ⟨rfl, mv22, hv22⟩
                rw [W0.out 16]
                have X21 := Lib.hid (hv22 ▸ X19.out.drewN mv22)
                clear hv22
                refine hK.out _ _ (by exact ⟨X21.out.cell 0 rfl 0 rfl, HX.out _ X21.out.bel⟩) (fun hHeld => ?_)
                clear hK K
                (try simp only [Act.put]); (try simp only [List.setIfInBounds_toArray, List.set_cons_zero, List.set_cons_succ])
                refine' take_lit (i := 16) (v := _) rfl (by kernel_rfl) (by kernel_rfl) (by kernel_rfl) (fun _ _ _ h => h) (Or.inl ⟨by rfl, ?yy44⟩) (by assumption) ?rr44
                case yy44 => intro w' hSw; (try dsimp only at hSw); go_simp; try (with_reducible rfl)
                (try simp only [Act.put]); (try simp only [List.setIfInBounds_toArray, List.set_cons_zero, List.set_cons_succ])
                refine' take_lit (i := 17) (v := _) rfl (by kernel_rfl) (by kernel_rfl) (by kernel_rfl) (fun _ _ _ h => h) (Or.inl ⟨by rfl, ?yy45⟩) (by assumption) ?rr45
                case yy45 => intro w' hSw; (try dsimp only at hSw); go_simp; try (with_reducible rfl)
                (try simp only [Act.put]); (try simp only [List.setIfInBounds_toArray, List.set_cons_zero, List.set_cons_succ])
                refine wpAnyH_ready (rs := [20]) (by kernel_rfl) (by simp) ?_
                refine cons_lit rfl (fun K hK => ?ss20x46) AllReadyH.nil
                case ss20x46 =>
                  go_simp
                  refine (icword_any (cutA (some ⟨b, off, none⟩) c 18) (n - 18) (c - 18) (zs.drop 18) _ ((R.out _ X21.out.bel).cutA (lo := 18) (by omega) hn) (hz.drop _) (by omega)).mono ?_
                  rintro e v24 ⟨rfl, mv24, hv24⟩
                  rw [W0.out 18]
                  have X23 := Lib.hid (hv24 ▸ X21.out.drewN mv24)
                  clear hv24
                  refine hK.out _ _ (by exact ⟨X23.out.cell 0 rfl 0 rfl, HX.out _ X23.out.bel⟩) (fun hHeld => ?_)
                  clear hK K
                  (try simp only [Act.put]); (try simp only [List.setIfInBounds_toArray, List.set_cons_zero, List.set_cons_succ])
                  refine' take_lit (i := 21) (v := _) rfl (by kernel_rfl) (by kernel_rfl) (by kernel_rfl) (fun _ _ _ h => h) (Or.inl ⟨by rfl, ?yy47⟩) (by assumption) ?rr47
                  case yy47 => intro w' hSw; (try dsimp only at hSw); go_simp; try (with_reducible rfl)
                  (try simp only [Act.put]); (try simp only [List.setIfInBounds_toArray, List.set_cons_zero, List.set_cons_succ])
                  refine' take_lit (i := 22) (v := _) rfl (by kernel_rfl) (by kernel_rfl) (by kernel_rfl) (fun _ _ _ h => h) (Or.inl ⟨by rfl, ?yy48⟩) (by assumption) ?rr48
                  case yy48 => intro w' hSw; (try dsimp only at hSw); go_simp; try (with_reducible rfl)
                  (try simp only [Act.put]); (try simp only [List.setIfInBounds_toArray, List.set_cons_zero, List.set_cons_succ])
                  refine' take_lit (i := 23) (v := _) rfl (by kernel_rfl) (by kernel_rfl) (by kernel_rfl) (fun _ _ _ h => h) (Or.inl ⟨by rfl, ?yy49⟩) (by assumption) ?rr49
                  case yy49 => intro w' hSw; (try dsimp only at hSw); go_simp; try (with_reducible rfl)
                  (try simp only [Act.put]); (try simp only [List.setIfInBounds_toArray, List.set_cons_zero, List.set_cons_succ])
                  refine wpAnyH_ready (rs := [25]) (by kernel_rfl) (by simp) ?_
                  refine cons_lit rfl (fun K hK => ?ss25x50) AllReadyH.nil
                  case ss25x50 =>
                    refine step_store_row (by rfl) 35 _ _ (by rfl) _ (key5 (qP zs) (qS zs) (qD zs) 0 0) (by rfl) (by rfl) 35 key0 (X23.out.blk 4 rfl) (by kernel_rfl) rfl (key5_one _ _ _ _ _) ?_
                    have X25 := Lib.hid (X23.out.setR 4 rfl (key5 (qP zs) (qS zs) (qD zs) 0 0))
                    refine hK.out _ _ (by exact ⟨X25.out.cell 0 rfl 0 rfl, HX.out _ X25.out.bel⟩) (fun hHeld => ?_)
                    clear hK K
                    (try simp only [Act.put]); (try simp only [List.setIfInBounds_toArray, List.set_cons_zero, List.set_cons_succ])
                    refine wpAnyH_done (by kernel_rfl) ?_ _
                    refine NoPanic.normal ?_
                    go_wp2_with fail
                    go_meet
                    exact ⟨_, rfl, X25.out⟩
        case ss24x12 =>
          go_simp
          have X1a := Lib.hid (X0.out.alloc 35 key0)
          refine hK.out _ _ (by exact ⟨X1a.out.cell 0 rfl 0 rfl, HX.out _ X1a.out.bel⟩) (fun hHeld => ?_)
          clear hK K
          (try simp only [Act.put]); (try simp only [List.setIfInBounds_toArray, List.set_cons_zero, List.set_cons_succ])
          refine wpAnyH_ready (rs := [5]) (by kernel_rfl) (by simp) ?_
          refine cons_lit rfl (fun K hK => ?ss5x51) AllReadyH.nil
          case ss5x51 =>
            go_simp
            refine (icword_any (cutA (some ⟨b, off, none⟩) c 12) (n - 12) (c - 12) (zs.drop 12) _ ((R.out _ X1a.out.bel).cutA (lo := 12) (by omega) hn) (hz.drop _) (by omega)).mono ?_
            rintro e v27 ⟨rfl, mv27, hv27⟩
            rw [W0.out 12]
            have X26 := Lib.hid (hv27 ▸ X1a.out.drewN mv27)
            clear hv27
            refine hK.out _ _ (by exact ⟨X26.out.cell 0 rfl 0 rfl, HX.out _ X26.out.bel⟩) (fun hHeld => ?_)
            clear hK K
            (try simp only [Act.put]); (try simp only [List.setIfInBounds_toArray, List.set_cons_zero, List.set_cons_succ])
            refine' take_lit (i := 6) (v := _) rfl (by kernel_rfl) (by kernel_rfl) (by kernel_rfl) (fun _ _ _ h => h) (Or.inl ⟨by rfl, ?yy52⟩) (by assumption) ?rr52
            case yy52 => intro w' hSw; (try dsimp only at hSw); go_simp; try (with_reducible rfl)
            (try simp only [Act.put]); (try simp only [List.setIfInBounds_toArray, List.set_cons_zero, List.set_cons_succ])
            refine' take_lit (i := 7) (v := _) rfl (by kernel_rfl) (by kernel_rfl) (by kernel_rfl) (fun _ _ _ h => h) (Or.inl ⟨by rfl, ?yy53⟩) (by assumption) ?rr53
            case yy53 => intro w' hSw; (try dsimp only at hSw); go_simp; try (with_reducible rfl)
            (try simp only [Act.put]); (try simp only [List.setIfInBounds_toArray, List.set_cons_zero, List.set_cons_succ])
            refine wpAnyH_ready (rs := [10]) (by kernel_rfl) (by simp) ?_
            refine cons_lit rfl (fun K hK => ?ss10x54) AllReadyH.nil
            case ss10x54 =>
              go_simp
              refine (icword_any (cutA (some ⟨b, off, none⟩) c 14) (n - 14) (c - 14) (zs.drop 14) _ ((R.out _ X26.out.bel).cutA (lo := 14) (by omega) hn) (hz.drop _) (by omega)).mono ?_
              rintro e v29 ⟨rfl, mv29, hv29⟩
              rw [W0.out 14]
              have X28 := Lib.hid (hv29 ▸ X26.out.drewN mv29)
              clear hv29
              refine hK.out _ _ (by exact ⟨X28.out.cell 0 rfl 0 rfl, HX.out _ X28.out.bel⟩) (fun hHeld => ?_)
              clear hK K
              (try simp only [Act.put]); (try simp only [List.setIfInBounds_toArray, List.set_cons_zero, List.set_cons_succ])
              refine' take_lit (i := 11) (v := _) rfl (by kernel_rfl) (by kernel_rfl) (by kernel_rfl) (fun _ _ _ h => h) (Or.inl ⟨by rfl, ?yy55⟩) (by assumption) ?rr55
              case yy55 => intro w' hSw; (try dsimp only at hSw); go_simp; try (with_reducible rfl)
              (try simp only [Act.put]); (try simp only [List.setIfInBounds_toArray, List.set_cons_zero, List.set_cons_succ])
              refine' take_lit (i := 12) (v := _) rfl (by kernel_rfl) (by kernel_rfl) (by kernel_rfl) (fun _ _ _ h => h) (Or.inl ⟨by rfl, ?yy56⟩) (by assumption) ?rr56
              case yy56 => intro w' hSw; (try dsimp only at hSw); go_simp; try (with_reducible rfl)
              (try simp only [Act.put]); (try simp only [List.setIfInBounds_toArray, List.set_cons_zero, List.set_cons_succ])
              refine wpAnyH_ready (rs := [15]) (by kernel_rfl) (by simp) ?_
              refine cons_lit rfl (fun K hK => ?ss15x57) AllReadyH.nil
              case ss15x57 =>
                go_simp
                refine (icword_any (cutA (some ⟨b, off, none⟩) c 16) (n - 16) (c - 16) (zs.drop 16) _ ((R.out _ X28.out.bel).cutA (lo := 16) (by omega) hn) (hz.drop _) (by omega)).mono ?_
                rintro e v31 ⟨rfl, mv31, hv31⟩
                rw [W0.out 16]
                have X30 := Lib.hid (hv31 ▸ X28.out.drewN mv31)
                clear hv31
                refine hK.out _ _ (by exact ⟨X30.out.cell 0 rfl 0 rfl, HX.out _ X30.out.bel⟩) (fun hHeld => ?_)
                clear hK K
                (try simp only [Act.put]); (try simp only [List.setIfInBounds_toArray, List.set_cons_zero, List.set_cons_succ])
                refine' take_lit (i := 16) (v := _) rfl (by kernel_rfl) (by kernel_rfl) (by kernel_rfl) (fun _ _ _ h => h) (Or.inl ⟨by rfl, ?yy58⟩) (by assumption) ?rr58
                case yy58 => intro w' hSw; (try dsimp only at hSw); go_simp; try (with_reducible rfl)
                (try simp only [Act.put]); (try simp only [List.setIfInBounds_toArray, List.set_cons_zero, List.set_cons_succ])
                refine' take_lit (i := 17) (v := _) rfl (by kernel_rfl) (by kernel_rfl) (by kernel_rfl) (fun _ _ _ h => h) (Or.inl ⟨by rfl, ?yy59⟩) (by assumption) ?rr59
                case yy59 => intro w' hSw; (try dsimp only at hSw); go_simp; try (with_reducible rfl)
                (try simp only [Act.put]); (try simp only [List.setIfInBounds_toArray, List.set_cons_zero, List.set_cons_succ])
                refine wpAnyH_ready (rs := [20]) (by kernel_rfl) (by simp) ?_
                refine cons_lit rfl (fun K hK => ?ss20x60) AllReadyH.nil
                case ss20x60 =>
                  go_simp
                  refine (icword_any (cutA (some ⟨b, off, none⟩) c 18) (n - 18) (c - 18) (zs.drop 18) _ ((R.out _ X30.out.bel).cutA (lo := 18) (by omega) hn) (hz.drop _) (by omega)).mono ?_
                  rintro e v33 ⟨rfl, mv33, hv33⟩
                  rw [W0.out 18]
                  have X32 := Lib.hid (hv33 ▸ X30.out.drewN mv33)
                  clear hv33
                  refine hK.out _ _ (by exact ⟨X32.out.cell 0 rfl 0 rfl, HX.out _ X32.out.bel⟩) (fun hHeld => ?_)
                  clear hK K
                  (try simp only [Act.put]); (try simp only [List.setIfInBounds_toArray, List.set_cons_zero, List.set_cons_succ])
                  refine' take_lit (i := 21) (v := _) rfl (by kernel_rfl) (by kernel_rfl) (by kernel_rfl) (fun _ _ _ h => h) (Or.inl ⟨by rfl, ?yy61⟩) (by assumption) ?rr61
                  case yy61 => intro w' hSw; (try dsimp only at hSw); go_simp; try (with_reducible rfl)
                  (try simp only [Act.put]); (try simp only [List.setIfInBounds_toArray, List.set_cons_zero, List.set_cons_succ])
                  refine' take_lit (i := 22) (v := _) rfl (by kernel_rfl) (by kernel_rfl) (by kernel_rfl) (fun _ _ _ h => h) (Or.inl ⟨by rfl, ?yy62⟩) (by assumption) ?rr62
                  case yy62 => intro w' hSw; (try dsimp only at hSw); go_simp; try (with_reducible rfl)
                  (try simp only [Act.put]); (try simp only [List.setIfInBounds_toArray, List.set_cons_zero, List.set_cons_succ])
                  refine' take_lit (i := 23) (v := _) rfl (by kernel_rfl) (by kernel_rfl) (by kernel_rfl) (fun _ _ _ h => h) (Or.inl ⟨by rfl, ?yy63⟩) (by assumption) ?rr63
                  case yy63 => intro w' hSw; (try dsimp only at hSw); go_simp; try (with_reducible rfl)
                  (try simp only [Act.put]); (try simp only [List.setIfInBounds_toArray, List.set_cons_zero, List.set_cons_succ])
                  refine wpAnyH_ready (rs := [25]) (by kernel_rfl) (by simp) ?_
                  refine cons_lit rfl (fun K hK => ?ss25x64) AllReadyH.nil
                  case ss25x64 =>
                    refine step_store_row (by rfl) 35 _ _ (by rfl) _ (key5 (qP zs) (qS zs) (qD zs) 0 0) (by rfl) (by rfl) 35 key0 (X32.out.blk 4 rfl) (by kernel_rfl) rfl (key5_one _ _ _ _ _) ?_
                    have X34 := Lib.hid (X32.out.setR 4 rfl (key5 (qP zs) (qS zs) (qD zs) 0 0))
                    refine hK.out _ _ (by exact ⟨X34.out.cell 0 rfl 0 rfl, HX.out _ X34.out.bel⟩) (fun hHeld => ?_)
                    clear hK K
                    (try simp only [Act.put]); (try simp only [List.setIfInBounds_toArray, List.set_cons_zero, List.set_cons_succ])
                    refine wpAnyH_done (by kernel_rfl) ?_ _
                    refine NoPanic.normal ?_
                    go_wp2_with fail
                    go_meet
                    exact ⟨_, rfl, X34.out⟩
      case rest =>
        obtain ⟨M, rfl, hZ⟩ := hcut
        have Z := Lib.hid hZ
        have sq := fun W => run_slice_lo (P := Tryd.prog) W Tryd.underlying24 hi hz1 (some ⟨b, off, none⟩) n c (q : Int) q rfl (by omega)
        clear hZ s12 s14 s16 s18 e12 e14 e16 e18 f12 f16 g12 g16 i9 j9 HS'
        have y1 := Z.out.cell 0 rfl 0 rfl
        have y2 := Z.out.cell 2 rfl 0 rfl
        have k0 : wc.cell? ⟨M, 0, none⟩ = some (.int .u8 (qP zs)) := Z.out.cell 4 rfl 0 rfl
        rcases (show qP zs = 6 ∨ qP zs = 17 ∨ qP zs = 1 ∨ (qP zs ≠ 6 ∧ qP zs ≠ 17 ∧ qP zs ≠ 1) by omega) with hp | hp | hp | hp
        · have HP := Lib.hid hp
          have HSD := Lib.hid (q_spdp (zs := zs) (.inl hp))
          rw [hp] at k0
          have Z1 := Lib.hid (show SP w wc (QL N (some ⟨b, off, none⟩) n c (q : Int) ++ [.blk M 35 (key5 6 (qS zs) (qD zs) 0 0)]) by rw [← hp]; exact Z.out)
          clear Z hp p0 p1
          have s2 := fun W => run_slice_lo (P := Tryd.prog) W Tryd.underlying24 hi hz1 (cutA (some ⟨b, off, none⟩) c q) (n - q) (c - q) 2 2 rfl (by omega)
          go_upto_region 14 with fail
          clear y1 y2 k0 sq
          have X0 := Lib.hid Z1.out.drew
          refine wp_region_noPanic ?_
          refine wp_region_held_drew (S := fun _ => True) (by kernel_rfl) (by trivial) (fun hHeld => ?_)
          refine' take_lit (i := 0) (v := _) rfl (by kernel_rfl) (by kernel_rfl) (by kernel_rfl) (fun _ _ _ h => h) (Or.inl ⟨by rfl, ?yy65⟩) (by assumption) ?rr65
          case yy65 => intro w' hSw; (try dsimp only at hSw); go_simp; try (with_reducible rfl)
          (try simp only [Act.put]); (try simp only [List.setIfInBounds_toArray, List.set_cons_zero, List.set_cons_succ])
          refine' take_lit (i := 2) (v := _) rfl (by kernel_rfl) (by kernel_rfl) (by kernel_rfl) (fun _ _ _ h => h) (Or.inl ⟨by rfl, ?yy66⟩) (by assumption) ?rr66
          case yy66 => intro w' hSw; (try dsimp only at hSw); go_simp; try (with_reducible rfl)
          (try simp only [Act.put]); (try simp only [List.setIfInBounds_toArray, List.set_cons_zero, List.set_cons_succ])
          refine' take_lit (i := 3) (v := _) rfl (by kernel_rfl) (by kernel_rfl) (by kernel_rfl) (fun _ _ _ h => h) (Or.inl ⟨by rfl, ?yy67⟩) (by assumption) ?rr67
          case yy67 => intro w' hSw; (try dsimp only at hSw); go_simp; try (with_reducible rfl)
          (try simp only [Act.put]); (try simp only [List.setIfInBounds_toArray, List.set_cons_zero, List.set_cons_succ])
          refine wpAnyH_ready (rs := [1]) (by kernel_rfl) (by simp) ?_
          refine cons_lit rfl (fun K hK => ?ss1x68) AllReadyH.nil
          case ss1x68 =>
            go_simp
            refine (icword_any (cutA (some ⟨b, off, none⟩) c q) (n - q) (c - q) (zs.drop q) _ ((R.out _ X0.out.bel).cutA (lo := q) (by omega) hn) (hz.drop _) (by omega)).mono ?_
            rintro e v1 ⟨rfl, m1, h1⟩
            rw [W0.out q]
            have X1 := Lib.hid (h1 ▸ X0.out.drewN m1)
            clear h1
            refine hK.out _ _ (by trivial) (fun hHeld => ?_)
            clear hK K
            (try simp only [Act.put]); (try simp only [List.setIfInBounds_toArray, List.set_cons_zero, List.set_cons_succ])
            refine' take_lit (i := 5) (v := _) rfl (by kernel_rfl) (by kernel_rfl) (by kernel_rfl) (fun _ _ _ h => h) (Or.inl ⟨by rfl, ?yy69⟩) (by assumption) ?rr69
            case yy69 => intro w' hSw; (try dsimp only at hSw); go_simp; try (with_reducible rfl)
            (try simp only [Act.put]); (try simp only [List.setIfInBounds_toArray, List.set_cons_zero, List.set_cons_succ])
            refine wpAnyH_ready (rs := [4]) (by kernel_rfl) (by simp) ?_
            refine cons_lit rfl (fun K hK => ?ss4x70) AllReadyH.nil
            case ss4x70 =>
              go_simp
              refine (icword_any (cutA (cutA (some ⟨b, off, none⟩) c q) (c - q) 2) (n - q - 2) (c - q - 2) ((zs.drop q).drop 2) _ (((R.out _ X1.out.bel).cutA (lo := q) (by omega) hn).cutA (lo := 2) (by omega) (by omega)) ((hz.drop _).drop _) (by omega)).mono ?_
              rintro e v2 ⟨rfl, m2, h2⟩
              rw [List.drop_drop, W0.out (q + 2)]
              have X2 := Lib.hid (h2 ▸ X1.out.drewN m2)
              clear h2
              have c3 : v2.cell? ⟨M, 3, none⟩ = some (.int .u16 0) := X2.out.cell 4 rfl 3 rfl
              have d3 := X2.out.free 4 rfl 3
              refine hK.out _ _ (by trivial) (fun hHeld => ?_)
              clear hK K
              (try simp only [Act.put]); (try simp only [List.setIfInBounds_toArray, List.set_cons_zero, List.set_cons_succ])
              refine wpAnyH_ready (rs := [6]) (by kernel_rfl) (by simp) ?_
              refine cons_lit rfl (fun K hK => ?ss6x71) AllReadyH.nil
              case ss6x71 =>
                go_simp
                have X3 := Lib.hid (X2.out.setB 4 rfl 3 (.int .u16 (wordAt zs q)))
                have c4 : World.cell? _ ⟨M, 4, none⟩ = some (.int .u16 0) := X3.out.cell 4 rfl 4 rfl
                have d4 := X3.out.free 4 rfl 4
                refine hK.out _ _ (by trivial) (fun hHeld => ?_)
                clear hK K
                (try simp only [Act.put]); (try simp only [List.setIfInBounds_toArray, List.set_cons_zero, List.set_cons_succ])
                refine' take_lit (i := 7) (v := _) rfl (by kernel_rfl) (by kernel_rfl) (by kernel_rfl) (fun _ _ _ h => h) (Or.inl ⟨by rfl, ?yy72⟩) (by assumption) ?rr72
                case yy72 => intro w' hSw; (try dsimp only at hSw); go_simp; try (with_reducible rfl)
                (try simp only [Act.put]); (try simp only [List.setIfInBounds_toArray, List.set_cons_zero, List.set_cons_succ])
                refine wpAnyH_ready (rs := [8]) (by kernel_rfl) (by simp) ?_
                refine cons_lit rfl (fun K hK => ?ss8x73) AllReadyH.nil
                case ss8x73 =>
                  go_simp
                  have X4 := Lib.hid (show SP w _ (QL N (some ⟨b, off, none⟩) n c (q : Int) ++ [.blk M 35 (key5 6 (qS zs) (qD zs) (wordAt zs q) (wordAt zs (q + 2)))]) from X3.out.setB 4 rfl 4 (.int .u16 (wordAt zs (q + 2))))
                  clear X0 X1 X2 X3 c3 d3 c4 d4
                  refine hK.out _ _ (by trivial) (fun hHeld => ?_)
                  clear hK K
                  (try simp only [Act.put]); (try simp only [List.setIfInBounds_toArray, List.set_cons_zero, List.set_cons_succ])
                  refine wpAnyH_done (by kernel_rfl) ?_ _
                  refine NoPanic.normal ?_
                  obtain ⟨sp, hsp⟩ : ∃ sp, sp = wordAt zs q := ⟨_, rfl⟩
                  obtain ⟨dp, hdp⟩ : ∃ dp, dp = wordAt zs (q + 2) := ⟨_, rfl⟩
                  rw [← hsp, ← hdp] at X4 ⊢
                  have HSP := Lib.hid hsp
                  have HDP := Lib.hid hdp
                  clear hsp hdp
                  generalize (v2.setCell ⟨M, 3, none⟩ (.int .u16 sp)).setCell ⟨M, 4, none⟩ (.int .u16 dp) = v5 at X4 ⊢
                  have hmm := @run_makeMap Tryd.prog
                  have hown0 := World.ownsMap_made v5 Tryd.prog 5 (plainElem (H := Unit) Tryd.prog 5)
                  have hb0 : Below v5.heap.size v5 (v5.alloc (.map #[] 0)) := (Below.refl _ _).alloc (Nat.le_refl _) _
                  go_upto_region 16 with (first
                    | (refine wpList_lookup_own_int _ rfl _ _ 64 rfl 5 5 .u8 (int_keyed Tryd.underlying5) Tryd.underlying64 Tryd.underlying5 (zeroU8 _) v5.heap.size 2 MP2 rfl hown2 _ _ rfl (keyOf_int_mk Tryd.underlying5 (a := 6) (by rfl)) ?_; intro cc hat hwc; obtain rfl : cc = 1 := mp_6 hat; clear hat hwc hown2 k0)
                    | (refine wpList_insert_own _ rfl _ _ _ 64 rfl 5 5 (int_keyed Tryd.underlying5) Tryd.underlying64 _ v5.heap.size 1 MP1 rfl hown1 (by unfold maxLen; omega) _ _ _ rfl rfl (keyOf_int_mk Tryd.underlying5 (a := 17) (by rfl)) _ [] (plainElem_int Tryd.underlying5 (a := 2) (by rfl)) ?_; intro v7 hown2 hg2; have hb2 := hb1.grown hg2 hb1.size (fun j hj => by cases hj; exact Nat.le_refl _); have X5 := Lib.hid (X4.out.next hb2); have k0 : v7.cell? ⟨M, 0, none⟩ = some (.int .u8 6) := X5.out.cell 4 rfl 0 rfl; clear hown1 hg2 hb1 hb2 X4)
                    | (refine wpList_insert_own _ rfl _ _ _ 64 rfl 5 5 (int_keyed Tryd.underlying5) Tryd.underlying64 _ v5.heap.size 0 (.map []) rfl hown0 (by unfold maxLen; omega) _ _ _ rfl rfl (keyOf_int_mk Tryd.underlying5 (a := 6) (by rfl)) _ [] (plainElem_int Tryd.underlying5 (a := 1) (by rfl)) ?_; intro v6 hown1 hg1; have hb1 := hb0.grown hg1 hb0.size (fun j hj => by cases hj; exact Nat.le_refl _); clear hown0 hg1 hb0))
                  clear hmm
                  have c3 : v7.cell? ⟨M, 3, none⟩ = some (.int .u16 sp) := X5.out.cell 4 rfl 3 rfl
                  have c4 : v7.cell? ⟨M, 4, none⟩ = some (.int .u16 dp) := X5.out.cell 4 rfl 4 rfl
                  by_cases h3 : sp = 0
                  · have t3 : (sp == 0) = true := by simp [h3]
                    have HZ := Lib.hid (q_kd0 (zs := zs) HG.out (by unfold qKd; rw [if_pos (.inl HP.out), if_pos (.inl (by rw [HSD.out.1, ← HQ.out, ← HSP.out]; exact h3))]))
                    clear h3
                    have T := Lib.hid (X5.out.setR 1 rfl key0)
                    go_wp2_with (refine wpList_store_row rfl 35 _ _ rfl (N + 1) key0 rfl rfl 35 key0 (X5.out.blk 1 rfl) (by kernel_rfl) rfl (key5_one 0 0 0 0 0) ?_)
                    refine bodyPost_ret (results_cell_tmp2' rfl _ _ (N + 1) 35 key0 _ _ rfl (T.out.blk 1 rfl) Tryd.underlying35 rfl (by kernel_rfl)) rfl ?_
                    exact QRes.mk HZ.out T.out.bel
                  · have t3 : (sp == 0) = false := by simp [h3]
                    by_cases h4 : dp = 0
                    · have t4 : (dp == 0) = true := by simp [h4]
                      have HZ := Lib.hid (q_kd0 (zs := zs) HG.out (by unfold qKd; rw [if_pos (.inl HP.out), if_pos (.inr (by rw [HSD.out.2, ← HQ.out, ← HDP.out]; exact h4))]))
                      clear h3 h4
                      have T := Lib.hid (X5.out.setR 1 rfl key0)
                      go_wp2_with (refine wpList_store_row rfl 35 _ _ rfl (N + 1) key0 rfl rfl 35 key0 (X5.out.blk 1 rfl) (by kernel_rfl) rfl (key5_one 0 0 0 0 0) ?_)
                      refine bodyPost_ret (results_cell_tmp2' rfl _ _ (N + 1) 35 key0 _ _ rfl (T.out.blk 1 rfl) Tryd.underlying35 rfl (by kernel_rfl)) rfl ?_
                      exact QRes.mk HZ.out T.out.bel
                    · have t4 : (dp == 0) = false := by simp [h4]
                      have hk : qKd zs = 1 := by
                        unfold qKd
                        rw [if_pos (.inl HP.out), if_neg (by rw [HSD.out.1, HSD.out.2, ← HQ.out, ← HSP.out, ← HDP.out]; omega), HP.out]; rfl
                      have HZ := q_kd (zs := zs) HG.out (by rw [hk]; decide) (by rw [hk]; decide)
                      rw [hk, HP.out, HSD.out.1, HSD.out.2, ← HQ.out, ← HSP.out, ← HDP.out] at HZ
                      have X6 := X5
                      have HZZ := Lib.hid HZ
                      clear h3 h4 hk HZ X5
                      have T := Lib.hid (X6.out.setR 1 rfl (key5 6 (qS zs) (qD zs) sp dp))
                      go_wp2_with (first | (refine wpList_load_row rfl 35 _ rfl M rfl 35 (key5 6 (qS zs) (qD zs) sp dp) _ _ (X6.out.blk 4 rfl) Tryd.underlying35 rfl (by kernel_rfl) ?_) | (refine wpList_store_row rfl 35 _ _ rfl (N + 1) (key5 6 (qS zs) (qD zs) sp dp) rfl rfl 35 key0 (X6.out.blk 1 rfl) (by kernel_rfl) rfl (key5_one _ _ _ _ _) ?_))
                      refine bodyPost_ret (results_cell_tmp2' rfl _ _ (N + 1) 35 (key5 6 (qS zs) (qD zs) sp dp) _ _ rfl (T.out.blk 1 rfl) Tryd.underlying35 rfl (by kernel_rfl)) rfl ?_
                      exact QRes.mk HZZ.out T.out.bel
        · have HP := Lib.hid hp
          have HSD := Lib.hid (q_spdp (zs := zs) (.inr hp))
          rw [hp] at k0
          have Z1 := Lib.hid (show SP w wc (QL N (some ⟨b, off, none⟩) n c (q : Int) ++ [.blk M 35 (key5 17 (qS zs) (qD zs) 0 0)]) by rw [← hp]; exact Z.out)
          clear Z hp p0 p1
          have s2 := fun W => run_slice_lo (P := Tryd.prog) W Tryd.underlying24 hi hz1 (cutA (some ⟨b, off, none⟩) c q) (n - q) (c - q) 2 2 rfl (by omega)
          go_upto_region 14 with fail
          clear y1 y2 k0 sq
          have X0 := Lib.hid Z1.out.drew
          refine wp_region_noPanic ?_
          refine wp_region_held_drew (S := fun _ => True) (by kernel_rfl) (by trivial) (fun hHeld => ?_)
          refine' take_lit (i := 0) (v := _) rfl (by kernel_rfl) (by kernel_rfl) (by kernel_rfl) (fun _ _ _ h => h) (Or.inl ⟨by rfl, ?yy74⟩) (by assumption) ?rr74
          case yy74 => intro w' hSw; (try dsimp only at hSw); go_simp; try (with_reducible rfl)
          (try simp only [Act.put]); (try simp only [List.setIfInBounds_toArray, List.set_cons_zero, List.set_cons_succ])
          refine' take_lit (i := 2) (v := _) rfl (by kernel_rfl) (by kernel_rfl) (by kernel_rfl) (fun _ _ _ h => h) (Or.inl ⟨by rfl, ?yy75⟩) (by assumption) ?rr75
          case yy75 => intro w' hSw; (try dsimp only at hSw); go_simp; try (with_reducible rfl)
          (try simp only [Act.put]); (try simp only [List.setIfInBounds_toArray, List.set_cons_zero, List.set_cons_succ])
          refine' take_lit (i := 3) (v := _) rfl (by kernel_rfl) (by kernel_rfl) (by kernel_rfl) (fun _ _ _ h => h) (Or.inl ⟨by rfl, ?yy76⟩) (by assumption) ?rr76
          case yy76 => intro w' hSw; (try dsimp only at hSw); go_simp; try (with_reducible rfl)
          (try simp only [Act.put]); (try simp only [List.setIfInBounds_toArray, List.set_cons_zero, List.set_cons_succ])
          refine wpAnyH_ready (rs := [1]) (by kernel_rfl) (by simp) ?_
          refine cons_lit rfl (fun K hK => ?ss1x77) AllReadyH.nil
          case ss1x77 =>
            go_simp
            refine (icword_any (cutA (some ⟨b, off, none⟩) c q) (n - q) (c - q) (zs.drop q) _ ((R.out _ X0.out.bel).cutA (lo := q) (by omega) hn) (hz.drop _) (by omega)).mono ?_
            rintro e v1 ⟨rfl, m1, h1⟩
            rw [W0.out q]
            have X1 := Lib.hid (h1 ▸ X0.out.drewN m1)
            clear h1
            refine hK.out _ _ (by trivial) (fun hHeld => ?_)
            clear hK K
            (try simp only [Act.put]); (try simp only [List.setIfInBounds_toArray, List.set_cons_zero, List.set_cons_succ])
            refine' take_lit (i := 5) (v := _) rfl (by kernel_rfl) (by kernel_rfl) (by kernel_rfl) (fun _ _ _ h => h) (Or.inl ⟨by rfl, ?yy78⟩) (by assumption) ?rr78
            case yy78 => intro w' hSw; (try dsimp only at hSw); go_simp; try (with_reducible rfl)
            (try simp only [Act.put]); (try simp only [List.setIfInBounds_toArray, List.set_cons_zero, List.set_cons_succ])
            refine wpAnyH_ready (rs := [4]) (by kernel_rfl) (by simp) ?_
            refine cons_lit rfl (fun K hK => ?ss4x79) AllReadyH.nil
            case ss4x79 =>
              go_simp
              refine (icword_any (cutA (cutA (some ⟨b, off, none⟩) c q) (c - q) 2) (n - q - 2) (c - q - 2) ((zs.drop q).drop 2) _ (((R.out _ X1.out.bel).cutA (lo := q) (by omega) hn).cutA (lo := 2) (by omega) (by omega)) ((hz.drop _).drop _) (by omega)).mono ?_
              rintro e v2 ⟨rfl, m2, h2⟩
              rw [List.drop_drop, W0.out (q + 2)]
              have X2 := Lib.hid (h2 ▸ X1.out.drewN m2)
              clear h2
              have c3 : v2.cell? ⟨M, 3, none⟩ = some (.int .u16 0) := X2.out.cell 4 rfl 3 rfl
              have d3 := X2.out.free 4 rfl 3
              refine hK.out _ _ (by trivial) (fun hHeld => ?_)
              clear hK K
              (try simp only [Act.put]); (try simp only [List.setIfInBounds_toArray, List.set_cons_zero, List.set_cons_succ])
              refine wpAnyH_ready (rs := [6]) (by kernel_rfl) (by simp) ?_
              refine cons_lit rfl (fun K hK => ?ss6x80) AllReadyH.nil
              case ss6x80 =>
                go_simp
                have X3 := Lib.hid (X2.out.setB 4 rfl 3 (.int .u16 (wordAt zs q)))
                have c4 : World.cell? _ ⟨M, 4, none⟩ = some (.int .u16 0) := X3.out.cell 4 rfl 4 rfl
                have d4 := X3.out.free 4 rfl 4
                refine hK.out _ _ (by trivial) (fun hHeld => ?_)
                clear hK K
                (try simp only [Act.put]); (try simp only [List.setIfInBounds_toArray, List.set_cons_zero, List.set_cons_succ])
                refine' take_lit (i := 7) (v := _) rfl (by kernel_rfl) (by kernel_rfl) (by kernel_rfl) (fun _ _ _ h => h) (Or.inl ⟨by rfl, ?yy81⟩) (by assumption) ?rr81
                case yy81 => intro w' hSw; (try dsimp only at hSw); go_simp; try (with_reducible rfl)
                (try simp only [Act.put]); (try simp only [List.setIfInBounds_toArray, List.set_cons_zero, List.set_cons_succ])
                refine wpAnyH_ready (rs := [8]) (by kernel_rfl) (by simp) ?_
                refine cons_lit rfl (fun K hK => ?ss8x82) AllReadyH.nil
                case ss8x82 =>
                  go_simp
                  have X4 := Lib.hid (show SP w _ (QL N (some ⟨b, off, none⟩) n c (q : Int) ++ [.blk M 35 (key5 17 (qS zs) (qD zs) (wordAt zs q) (wordAt zs (q + 2)))]) from X3.out.setB 4 rfl 4 (.int .u16 (wordAt zs (q + 2))))
                  clear X0 X1 X2 X3 c3 d3 c4 d4
                  refine hK.out _ _ (by trivial) (fun hHeld => ?_)
                  clear hK K
                  (try simp only [Act.put]); (try simp only [List.setIfInBounds_toArray, List.set_cons_zero, List.set_cons_succ])
                  refine wpAnyH_done (by kernel_rfl) ?_ _
                  refine NoPanic.normal ?_
                  obtain ⟨sp, hsp⟩ : ∃ sp, sp = wordAt zs q := ⟨_, rfl⟩
                  obtain ⟨dp, hdp⟩ : ∃ dp, dp = wordAt zs (q + 2) := ⟨_, rfl⟩
                  rw [← hsp, ← hdp] at X4 ⊢
                  have HSP := Lib.hid hsp
                  have HDP := Lib.hid hdp
                  clear hsp hdp
                  generalize (v2.setCell ⟨M, 3, none⟩ (.int .u16 sp)).setCell ⟨M, 4, none⟩ (.int .u16 dp) = v5 at X4 ⊢
                  have hmm := @run_makeMap Tryd.prog
                  have hown0 := World.ownsMap_made v5 Tryd.prog 5 (plainElem (H := Unit) Tryd.prog 5)
                  have hb0 : Below v5.heap.size v5 (v5.alloc (.map #[] 0)) := (Below.refl _ _).alloc (Nat.le_refl _) _
                  go_upto_region 16 with (first
                    | (refine wpList_lookup_own_int _ rfl _ _ 64 rfl 5 5 .u8 (int_keyed Tryd.underlying5) Tryd.underlying64 Tryd.underlying5 (zeroU8 _) v5.heap.size 2 MP2 rfl hown2 _ _ rfl (keyOf_int_mk Tryd.underlying5 (a := 17) (by rfl)) ?_; intro cc hat hwc; obtain rfl : cc = 2 := mp_17 hat; clear hat hwc hown2 k0)
                    | (refine wpList_insert_own _ rfl _ _ _ 64 rfl 5 5 (int_keyed Tryd.underlying5) Tryd.underlying64 _ v5.heap.size 1 MP1 rfl hown1 (by unfold maxLen; omega) _ _ _ rfl rfl (keyOf_int_mk Tryd.underlying5 (a := 17) (by rfl)) _ [] (plainElem_int Tryd.underlying5 (a := 2) (by rfl)) ?_; intro v7 hown2 hg2; have hb2 := hb1.grown hg2 hb1.size (fun j hj => by cases hj; exact Nat.le_refl _); have X5 := Lib.hid (X4.out.next hb2); have k0 : v7.cell? ⟨M, 0, none⟩ = some (.int .u8 17) := X5.out.cell 4 rfl 0 rfl; clear hown1 hg2 hb1 hb2 X4)
                    | (refine wpList_insert_own _ rfl _ _ _ 64 rfl 5 5 (int_keyed Tryd.underlying5) Tryd.underlying64 _ v5.heap.size 0 (.map []) rfl hown0 (by unfold maxLen; omega) _ _ _ rfl rfl (keyOf_int_mk Tryd.underlying5 (a := 6) (by rfl)) _ [] (plainElem_int Tryd.underlying5 (a := 1) (by rfl)) ?_; intro v6 hown1 hg1; have hb1 := hb0.grown hg1 hb0.size (fun j hj => by cases hj; exact Nat.le_refl _); clear hown0 hg1 hb0))
                  clear hmm
                  have c3 : v7.cell? ⟨M, 3, none⟩ = some (.int .u16 sp) := X5.out.cell 4 rfl 3 rfl
                  have c4 : v7.cell? ⟨M, 4, none⟩ = some (.int .u16 dp) := X5.out.cell 4 rfl 4 rfl
                  by_cases h3 : sp = 0
                  · have t3 : (sp == 0) = true := by simp [h3]
                    have HZ := Lib.hid (q_kd0 (zs := zs) HG.out (by unfold qKd; rw [if_pos (.inr HP.out), if_pos (.inl (by rw [HSD.out.1, ← HQ.out, ← HSP.out]; exact h3))]))
                    clear h3
                    have T := Lib.hid (X5.out.setR 1 rfl key0)
                    go_wp2_with (refine wpList_store_row rfl 35 _ _ rfl (N + 1) key0 rfl rfl 35 key0 (X5.out.blk 1 rfl) (by kernel_rfl) rfl (key5_one 0 0 0 0 0) ?_)
                    refine bodyPost_ret (results_cell_tmp2' rfl _ _ (N + 1) 35 key0 _ _ rfl (T.out.blk 1 rfl) Tryd.underlying35 rfl (by kernel_rfl)) rfl ?_
                    exact QRes.mk HZ.out T.out.bel
                  · have t3 : (sp == 0) = false := by simp [h3]
                    by_cases h4 : dp = 0
                    · have t4 : (dp == 0) = true := by simp [h4]
                      have HZ := Lib.hid (q_kd0 (zs := zs) HG.out (by unfold qKd; rw [if_pos (.inr HP.out), if_pos (.inr (by rw [HSD.out.2, ← HQ.out, ← HDP.out]; exact h4))]))
                      clear h3 h4
                      have T := Lib.hid (X5.out.setR 1 rfl key0)
                      go_wp2_with (refine wpList_store_row rfl 35 _ _ rfl (N + 1) key0 rfl rfl 35 key0 (X5.out.blk 1 rfl) (by kernel_rfl) rfl (key5_one 0 0 0 0 0) ?_)
                      refine bodyPost_ret (results_cell_tmp2' rfl _ _ (N + 1) 35 key0 _ _ rfl (T.out.blk 1 rfl) Tryd.underlying35 rfl (by kernel_rfl)) rfl ?_
                      exact QRes.mk HZ.out T.out.bel
                    · have t4 : (dp == 0) = false := by simp [h4]
                      have hk : qKd zs = 2 := by
                        unfold qKd
                        rw [if_pos (.inr HP.out), if_neg (by rw [HSD.out.1, HSD.out.2, ← HQ.out, ← HSP.out, ← HDP.out]; omega), HP.out]; rfl
                      have HZ := q_kd (zs := zs) HG.out (by rw [hk]; decide) (by rw [hk]; decide)
                      rw [hk, HP.out, HSD.out.1, HSD.out.2, ← HQ.out, ← HSP.out, ← HDP.out] at HZ
                      have X6 := X5
                      have HZZ := Lib.hid HZ
                      clear h3 h4 hk HZ X5
                      have T := Lib.hid (X6.out.setR 1 rfl (key5 17 (qS zs) (qD zs) sp dp))
                      go_wp2_with (first | (refine wpList_load_row rfl 35 _ rfl M rfl 35 (key5 17 (qS zs) (qD zs) sp dp) _ _ (X6.out.blk 4 rfl) Tryd.underlying35 rfl (by kernel_rfl) ?_) | (refine wpList_store_row rfl 35 _ _ rfl (N + 1) (key5 17 (qS zs) (qD zs) sp dp) rfl rfl 35 key0 (X6.out.blk 1 rfl) (by kernel_rfl) rfl (key5_one _ _ _ _ _) ?_))
                      refine bodyPost_ret (results_cell_tmp2' rfl _ _ (N + 1) 35 (key5 17 (qS zs) (qD zs) sp dp) _ _ rfl (T.out.blk 1 rfl) Tryd.underlying35 rfl (by kernel_rfl)) rfl ?_
                      exact QRes.mk HZZ.out T.out.bel
        · have HP := Lib.hid hp
          rw [hp] at k0
          have Z1 := Lib.hid (show SP w wc (QL N (some ⟨b, off, none⟩) n c (q : Int) ++ [.blk M 35 (key5 1 (qS zs) (qD zs) 0 0)]) by rw [← hp]; exact Z.out)
          clear Z hp p0 p1
          have s4 := fun W => run_slice_lo (P := Tryd.prog) W Tryd.underlying24 hi hz1 (cutA (some ⟨b, off, none⟩) c q) (n - q) (c - q) 4 4 rfl (by omega)
          have YX := Lib.hid (fun (W : World) (hb' : Below w.heap.size w W) => (show W.cell? ⟨b, off + q, none⟩ = some (.int .u8 (zs[q]?.getD 0)) ∧ W.cell? ⟨b, off + q + 1, none⟩ = some (.int .u8 (zs[q + 1]?.getD 0)) from ⟨(hb'.cell (p := ⟨b, off + q, none⟩) hb).trans (hcell q (by omega)), (hb'.cell (p := ⟨b, off + q + 1, none⟩) hb).trans (hcell (q + 1) (by omega))⟩))
          have hcut : cutA (some ⟨b, off, none⟩) c q = some ⟨b, off + q, none⟩ := by unfold cutA; rw [if_neg (by omega)]; simp [Addr.add]; omega
          have HCUT := Lib.hid hcut
          clear hcut hcell
          obtain ⟨a0, a1⟩ := hz.get (by omega) q
          obtain ⟨b0, b1⟩ := hz.get (by omega) (q + 1)
          obtain ⟨t, ht⟩ : ∃ t : Nat, zs[q]?.getD 0 = (t : Int) := ⟨(zs[q]?.getD 0).toNat, by omega⟩
          obtain ⟨cc, hcc⟩ : ∃ cc : Int, zs[q + 1]?.getD 0 = cc := ⟨_, rfl⟩
          rw [ht] at a0 a1 YX
          rw [hcc] at b0 b1 YX
          have HTC := Lib.hid (show qT zs = t ∧ qC zs = cc by unfold qT qC; rw [← HQ.out, ht, hcc]; exact ⟨by omega, rfl⟩)
          clear ht hcc
          go_upto_region 19 with fail
          clear y1 y2 k0 sq
          have X0 := Lib.hid Z1.out.drew
          refine wp_region_noPanic ?_
          refine wp_region_held_drew (S := fun _ => True) (by kernel_rfl) (by trivial) (fun hHeld => ?_)
          refine' take_lit (i := 0) (v := _) rfl (by kernel_rfl) (by kernel_rfl) (by kernel_rfl) (fun _ _ _ h => h) (Or.inl ⟨by rfl, ?yy83⟩) (by assumption) ?rr83
          case yy83 => intro w' hSw; (try dsimp only at hSw); go_simp; try (with_reducible rfl)
          (try simp only [Act.put]); (try simp only [List.setIfInBounds_toArray, List.set_cons_zero, List.set_cons_succ])
          refine' take_lit (i := 1) (v := _) rfl (by kernel_rfl) (by kernel_rfl) (by kernel_rfl) (fun _ _ _ h => h) (Or.inl ⟨by rfl, ?yy84⟩) (by assumption) ?rr84
          case yy84 => intro w' hSw; (try dsimp only at hSw); go_simp; try (with_reducible rfl)
          (try simp only [Act.put]); (try simp only [List.setIfInBounds_toArray, List.set_cons_zero, List.set_cons_succ])
          refine' take_lit (i := 3) (v := _) rfl (by kernel_rfl) (by kernel_rfl) (by kernel_rfl) (fun _ _ _ h => h) (Or.inl ⟨by rfl, ?yy85⟩) (by assumption) ?rr85
          case yy85 => intro w' hSw; (try dsimp only at hSw); go_simp; try (with_reducible rfl)
          (try simp only [Act.put]); (try simp only [List.setIfInBounds_toArray, List.set_cons_zero, List.set_cons_succ])
          refine' take_lit (i := 4) (v := _) rfl (by kernel_rfl) (by kernel_rfl) (by kernel_rfl) (fun _ _ _ h => h) (Or.inl ⟨by rfl, ?yy86⟩) (by assumption) ?rr86
          case yy86 => intro w' hSw; (try dsimp only at hSw); go_simp; try (with_reducible rfl)
          (try simp only [Act.put]); (try simp only [List.setIfInBounds_toArray, List.set_cons_zero, List.set_cons_succ])
          refine wpAnyH_ready (rs := [2]) (by kernel_rfl) (by simp) ?_
          refine cons_lit rfl (fun K hK => ?ss2x87) AllReadyH.nil
          case ss2x87 =>
            go_simp
            refine (icword_any (cutA (cutA (some ⟨b, off, none⟩) c q) (c - q) 4) (n - q - 4) (c - q - 4) ((zs.drop q).drop 4) _ (((R.out _ X0.out.bel).cutA (lo := q) (by omega) hn).cutA (lo := 4) (by omega) (by omega)) ((hz.drop _).drop _) (by omega)).mono ?_
            rintro e v1 ⟨rfl, mv1, hv1⟩
            rw [List.drop_drop, W0.out (q + 4)]
            have X1 := Lib.hid (hv1 ▸ X0.out.drewN mv1)
            clear hv1
            refine hK.out _ _ (by trivial) (fun hHeld => ?_)
            clear hK K
            (try simp only [Act.put]); (try simp only [List.setIfInBounds_toArray, List.set_cons_zero, List.set_cons_succ])
            refine' take_lit (i := 6) (v := _) rfl (by kernel_rfl) (by kernel_rfl) (by kernel_rfl) (fun _ _ _ h => h) (Or.inl ⟨by rfl, ?yy88⟩) (by assumption) ?rr88
            case yy88 => intro w' hSw; (try dsimp only at hSw); go_simp; try (with_reducible rfl)
            (try simp only [Act.put]); (try simp only [List.setIfInBounds_toArray, List.set_cons_zero, List.set_cons_succ])
            refine wpAnyH_ready (rs := [5]) (by kernel_rfl) (by simp) ?_
            refine cons_lit rfl (fun K hK => ?ss5x89) AllReadyH.nil
            case ss5x89 =>
              go_simp
              refine (icword_any (cutA (cutA (some ⟨b, off, none⟩) c q) (c - q) 4) (n - q - 4) (c - q - 4) ((zs.drop q).drop 4) _ (((R.out _ X1.out.bel).cutA (lo := q) (by omega) hn).cutA (lo := 4) (by omega) (by omega)) ((hz.drop _).drop _) (by omega)).mono ?_
              rintro e v2 ⟨rfl, mv2, hv2⟩
              rw [List.drop_drop, W0.out (q + 4)]
              have X2 := Lib.hid (hv2 ▸ X1.out.drewN mv2)
              clear hv2
              have c3 : v2.cell? ⟨M, 3, none⟩ = some (.int .u16 0) := X2.out.cell 4 rfl 3 rfl
              have d3 := X2.out.free 4 rfl 3
              refine hK.out _ _ (by trivial) (fun hHeld => ?_)
              clear hK K
              (try simp only [Act.put]); (try simp only [List.setIfInBounds_toArray, List.set_cons_zero, List.set_cons_succ])
              refine wpAnyH_ready (rs := [7]) (by kernel_rfl) (by simp) ?_
              refine cons_lit rfl (fun K hK => ?ss7x90) AllReadyH.nil
              case ss7x90 =>
                go_simp
                have X3 := Lib.hid (X2.out.setB 4 rfl 3 (.int .u16 (wordAt zs (q + 4))))
                have c4 : World.cell? _ ⟨M, 4, none⟩ = some (.int .u16 0) := X3.out.cell 4 rfl 4 rfl
                have d4 := X3.out.free 4 rfl 4
                refine hK.out _ _ (by trivial) (fun hHeld => ?_)
                clear hK K
                (try simp only [Act.put]); (try simp only [List.setIfInBounds_toArray, List.set_cons_zero, List.set_cons_succ])
                refine' take_lit (i := 8) (v := _) rfl (by kernel_rfl) (by kernel_rfl) (by kernel_rfl) (fun _ _ _ h => h) (Or.inl ⟨by rfl, ?yy91⟩) (by assumption) ?rr91
                case yy91 => intro w' hSw; (try dsimp only at hSw); go_simp; try (with_reducible rfl)
                (try simp only [Act.put]); (try simp only [List.setIfInBounds_toArray, List.set_cons_zero, List.set_cons_succ])
                refine wpAnyH_ready (rs := [9]) (by kernel_rfl) (by simp) ?_
                refine cons_lit rfl (fun K hK => ?ss9x92) AllReadyH.nil
                case ss9x92 =>
                  go_simp
                  have X4 := Lib.hid (show SP w _ (QL N (some ⟨b, off, none⟩) n c (q : Int) ++ [.blk M 35 (key5 1 (qS zs) (qD zs) (wordAt zs (q + 4)) (wordAt zs (q + 4)))]) from X3.out.setB 4 rfl 4 (.int .u16 (wordAt zs (q + 4))))
                  clear X0 X1 X2 X3 c3 d3 c4 d4
                  refine hK.out _ _ (by trivial) (fun hHeld => ?_)
                  clear hK K
                  (try simp only [Act.put]); (try simp only [List.setIfInBounds_toArray, List.set_cons_zero, List.set_cons_succ])
                  refine wpAnyH_done (by kernel_rfl) ?_ _
                  refine NoPanic.normal ?_
                  generalize (v2.setCell ⟨M, 3, none⟩ (.int .u16 (wordAt zs (q + 4)))).setCell ⟨M, 4, none⟩ (.int .u16 (wordAt zs (q + 4))) = v5 at X4 ⊢
                  rw [HCUT.out]
                  have iq0 : (0 : Int) < ((n - q : Nat) : Int) := by omega
                  have iq1 : (1 : Int) < ((n - q : Nat) : Int) := by omega
                  have jq0 : 0 < n - q := by omega
                  obtain ⟨y3, y4⟩ := YX.out v5 X4.out.bel
                  go_upto_region 20 with fail
                  clear y3 y4
                  have X5 := Lib.hid X4.out.drew
                  refine wp_region_noPanic ?_
                  refine wp_region_held_drew (S := fun W => W.cell? ⟨b, off + q, none⟩ = some (.int .u8 (t : Int)) ∧ W.cell? ⟨b, off + q + 1, none⟩ = some (.int .u8 cc)) (by kernel_rfl) (by exact YX.out _ X5.out.bel) (fun hHeld => ?_)
                  refine' take_lit (i := 0) (v := _) rfl (by kernel_rfl) (by kernel_rfl) (by kernel_rfl) (fun _ _ _ h => h) (Or.inl ⟨by rfl, ?yy93⟩) (by assumption) ?rr93
                  case yy93 => intro w' hSw; (try dsimp only at hSw); go_simp; try (with_reducible rfl)
                  (try simp only [Act.put]); (try simp only [List.setIfInBounds_toArray, List.set_cons_zero, List.set_cons_succ])
                  refine' take_lit (i := 1) (v := _) rfl (by kernel_rfl) (by kernel_rfl) (by kernel_rfl) (fun _ _ _ h => h) (Or.inl ⟨by rfl, ?yy94⟩) (by assumption) ?rr94
                  case yy94 => intro w' hSw; (try dsimp only at hSw); go_simp; try (with_reducible rfl)
                  (try simp only [Act.put]); (try simp only [List.setIfInBounds_toArray, List.set_cons_zero, List.set_cons_succ])
                  refine' take_lit (i := 2) (v := _) rfl (by kernel_rfl) (by kernel_rfl) (by kernel_rfl) (fun _ _ _ h => h) (Or.inl ⟨by rfl, ?yy95⟩) (by assumption) ?rr95
                  case yy95 => intro w' hSw; (try dsimp only at hSw); go_simp; try (with_reducible rfl)
                  (try simp only [Act.put]); (try simp only [List.setIfInBounds_toArray, List.set_cons_zero, List.set_cons_succ])
                  refine' take_lit (i := 3) (v := _) rfl (by kernel_rfl) (by kernel_rfl) (by kernel_rfl) (fun _ _ _ h => h) (Or.inl ⟨by rfl, ?yy96⟩) (by assumption) ?rr96
                  case yy96 => intro w' hSw; (try dsimp only at hSw); go_simp; try (with_reducible rfl)
                  (try simp only [Act.put]); (try simp only [List.setIfInBounds_toArray, List.set_cons_zero, List.set_cons_succ])
                  refine' take_lit (i := 4) (v := _) rfl (by kernel_rfl) (by kernel_rfl) (by kernel_rfl) (fun _ _ _ h => h) (Or.inl ⟨by rfl, ?yy97⟩) (by assumption) ?rr97
                  case yy97 => intro w' hSw; (try dsimp only at hSw); go_simp; try (with_reducible rfl)
                  (try simp only [Act.put]); (try simp only [List.setIfInBounds_toArray, List.set_cons_zero, List.set_cons_succ])
                  refine' take_lit (i := 5) (v := _) rfl (by kernel_rfl) (by kernel_rfl) (by kernel_rfl) (fun _ _ _ h => h) (Or.inl ⟨by rfl, ?yy98⟩) (by assumption) ?rr98
                  case yy98 => intro w' hSw; (try dsimp only at hSw); go_simp; try (with_reducible rfl)
                  (try simp only [Act.put]); (try simp only [List.setIfInBounds_toArray, List.set_cons_zero, List.set_cons_succ])
                  refine wpAnyH_ready (rs := [6]) (by kernel_rfl) (by simp) ?_
                  refine cons_lit rfl (fun K hK => ?ss6x99) AllReadyH.nil
                  case ss6x99 =>
                    go_simp
                    refine (kind_any t cc _ (by omega) ⟨b0, b1⟩ (HSS.out.below X5.out.bel)).mono ?_
                    rintro e v6 ⟨rfl, rfl⟩
                    refine hK.out _ _ (by exact YX.out _ X5.out.bel) (fun hHeld => ?_)
                    clear hK K
                    (try simp only [Act.put]); (try simp only [List.setIfInBounds_toArray, List.set_cons_zero, List.set_cons_succ])
                    refine' take_lit (i := 7) (v := _) rfl (by kernel_rfl) (by kernel_rfl) (by kernel_rfl) (fun _ _ _ h => h) (Or.inl ⟨by rfl, ?yy100⟩) (by assumption) ?rr100
                    case yy100 => intro w' hSw; (try dsimp only at hSw); go_simp; try (with_reducible rfl)
                    (try simp only [Act.put]); (try simp only [List.setIfInBounds_toArray, List.set_cons_zero, List.set_cons_succ])
                    refine' take_lit (i := 8) (v := _) rfl (by kernel_rfl) (by kernel_rfl) (by kernel_rfl) (fun _ _ _ h => h) (Or.inl ⟨by rfl, ?yy101⟩) (by assumption) ?rr101
                    case yy101 => intro w' hSw; (try dsimp only at hSw); go_simp; try (with_reducible rfl)
                    (try simp only [Act.put]); (try simp only [List.setIfInBounds_toArray, List.set_cons_zero, List.set_cons_succ])
                    refine' take_lit (i := 9) (v := _) rfl (by kernel_rfl) (by kernel_rfl) (by kernel_rfl) (fun _ _ _ h => h) (Or.inl ⟨by rfl, ?yy102⟩) (by assumption) ?rr102
                    case yy102 => intro w' hSw; (try dsimp only at hSw); go_simp; try (with_reducible rfl)
                    (try simp only [Act.put]); (try simp only [List.setIfInBounds_toArray, List.set_cons_zero, List.set_cons_succ])
                    refine' take_lit (i := 10) (v := _) rfl (by kernel_rfl) (by kernel_rfl) (by kernel_rfl) (fun _ _ _ h => h) (Or.inl ⟨by rfl, ?yy103⟩) (by assumption) ?rr103
                    case yy103 => intro w' hSw; (try dsimp only at hSw); go_simp; try (with_reducible rfl)
                    (try simp only [Act.put]); (try simp only [List.setIfInBounds_toArray, List.set_cons_zero, List.set_cons_succ])
                    refine wpAnyH_done (by kernel_rfl) ?_ _
                    refine NoPanic.normal ?_
                    have hk : qKd zs = kK t cc := by
                      unfold qKd
                      rw [if_neg (by rw [HP.out]; decide), if_pos HP.out, HTC.out.1, HTC.out.2]
                    have hs : qsp zs = wordAt zs (q + 4) ∧ qdp zs = wordAt zs (q + 4) := by
                      rw [HQ.out]; exact q_spdp1 HP.out
                    have HK := Lib.hid hk
                    have HSD := Lib.hid hs
                    clear hk hs iq0 iq1 jq0
                    generalize v5.drew = v7 at X5 ⊢
                    obtain ⟨kd, hkd⟩ : ∃ kd, kd = kK t cc := ⟨_, rfl⟩
                    rw [← hkd] at HK ⊢
                    clear hkd
                    by_cases h3 : kd = 0
                    · have HZ := Lib.hid (q_kd0 (zs := zs) HG.out (by rw [HK.out]; exact h3))
                      subst h3
                      have T := Lib.hid (X5.out.setR 1 rfl key0)
                      go_wp2_with (refine wpList_store_row rfl 35 _ _ rfl (N + 1) key0 rfl rfl 35 key0 (X5.out.blk 1 rfl) (by kernel_rfl) rfl (key5_one 0 0 0 0 0) ?_)
                      refine bodyPost_ret (results_cell_tmp2' rfl _ _ (N + 1) 35 key0 _ _ rfl (T.out.blk 1 rfl) Tryd.underlying35 rfl (by kernel_rfl)) rfl ?_
                      exact QRes.mk HZ.out T.out.bel
                    · have t3 : (kd == 0) = false := by simp [h3]
                      by_cases h4 : kd = 5
                      · have HZ := Lib.hid (q_kd5 (zs := zs) HG.out (by rw [HK.out]; exact h4))
                        subst h4
                        clear h3 t3
                        have T := Lib.hid (X5.out.setR 1 rfl key0)
                        go_wp2_with (refine wpList_store_row rfl 35 _ _ rfl (N + 1) key0 rfl rfl 35 key0 (X5.out.blk 1 rfl) (by kernel_rfl) rfl (key5_one 0 0 0 0 0) ?_)
                        refine bodyPost_ret (results_cell_tmp2' rfl _ _ (N + 1) 35 key0 _ _ rfl (T.out.blk 1 rfl) Tryd.underlying35 rfl (by kernel_rfl)) rfl ?_
                        exact QRes.mk HZ.out T.out.bel
                      · have t4 : (kd == 5) = false := by simp [h4]
                        have HZ := q_kd (zs := zs) HG.out (by rw [HK.out]; exact h3) (by rw [HK.out]; exact h4)
                        rw [HK.out, HP.out, HSD.out.1, HSD.out.2] at HZ
                        have HZZ := Lib.hid HZ
                        clear h3 h4 HZ
                        have T := Lib.hid (X5.out.setR 1 rfl (key5 1 (qS zs) (qD zs) (wordAt zs (q + 4)) (wordAt zs (q + 4))))
                        go_wp2_with (first | (refine wpList_load_row rfl 35 _ rfl M rfl 35 (key5 1 (qS zs) (qD zs) (wordAt zs (q + 4)) (wordAt zs (q + 4))) _ _ (X5.out.blk 4 rfl) Tryd.underlying35 rfl (by kernel_rfl) ?_) | (refine wpList_store_row rfl 35 _ _ rfl (N + 1) (key5 1 (qS zs) (qD zs) (wordAt zs (q + 4)) (wordAt zs (q + 4))) rfl rfl 35 key0 (X5.out.blk 1 rfl) (by kernel_rfl) rfl (key5_one _ _ _ _ _) ?_))
                        refine bodyPost_ret (results_cell_tmp2' rfl _ _ (N + 1) 35 (key5 1 (qS zs) (qD zs) (wordAt zs (q + 4)) (wordAt zs (q + 4))) _ _ rfl (T.out.blk 1 rfl) Tryd.underlying35 rfl (by kernel_rfl)) rfl ?_
                        exact QRes.mk HZZ.out T.out.bel
        · have t6 : (qP zs == 6) = false := by simp [hp.1]
          have t17 : (qP zs == 17) = false := by simp [hp.2.1]
          have t1 : (qP zs == 1) = false := by simp [hp.2.2]
          have HZ := Lib.hid (q_kd0 (zs := zs) HG.out (by unfold qKd; rw [if_neg (by omega), if_neg hp.2.2]))
          clear hp hcell
          have T := Lib.hid (Z.out.setR 1 rfl key0)
          go_wp2_with (refine wpList_store_row rfl 35 _ _ rfl (N + 1) key0 rfl rfl 35 key0 (Z.out.blk 1 rfl) (by kernel_rfl) rfl (key5_one 0 0 0 0 0) ?_)
          refine bodyPost_ret (results_cell_tmp2' rfl _ _ (N + 1) 35 key0 _ _ rfl (T.out.blk 1 rfl) Tryd.underlying35 rfl (by kernel_rfl)) rfl ?_
          exact QRes.mk HZ.out T.out.bel
end Go.Proofs.YtdepibljeopcgaaDoor
