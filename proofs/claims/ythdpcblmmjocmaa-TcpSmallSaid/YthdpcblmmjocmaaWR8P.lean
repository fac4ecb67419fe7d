import Derived.Test.YthdpcblmmjocmaaWRef8
import Derived.Test.YthdpcblmmjocmaaWTcPb
/- package baffleref08: Parse. (Printed by gen_r8parse.py.) -/
namespace Go.Proofs.Ythdpcblmmjocmaa
open Go.RowKit
set_option linter.unusedVariables false

theorem results_cell_tmp1r {P : Program} {fn : Func} {p u1 : Tmp} {ty : TypeId} (h : fn.results = #[.cell p ty, .tmp u1]) (tmps : Array Value) (w : World) (g : Nat) (t : TypeId) (cs : Array Value) (fr : Nat × Nat) (d : TypeDesc)
    (hp : tmps.getD p undef = .pointer (some ⟨g, 0, none⟩)) (hg : w.heap[g]? = some (.cells cs t fr))
    (hu : P.underlying ty = some d) (hd : (match d with | .struct _ | .array _ _ => true | _ => false) = true) (hi : (P.info? ty).map (·.size) = some cs.size) :
    (results fn tmps).run P w = .ok (.tuple #[.agg cs, tmps.getD u1 undef]) w := by
  have hp' : tmps[p]?.getD undef = .pointer (some ⟨g, 0, none⟩) := by simpa using hp
  simp [results, h, hp', asAddr, run_loadVar_row w g t ty cs fr d hg hu hd hi]

/-- which known kinds have been seen -/
def seenA (S : List Bool) : Array Value := (S.map Value.bool).toArray
structure SEEN (k : KN) (S : List Bool) : Prop where
  len : S.length = 256
  s2 : S[2]?.getD false = decide (0 < k.mss)
  s3 : S[3]?.getD false = decide (0 ≤ k.sc)
  s4 : S[4]?.getD false = k.sel
  s5 : S[5]?.getD false = decide (k.bl ≠ [])
  s8 : S[8]?.getD false = k.st
theorem seenA_get {S : List Bool} (h : S.length = 256) (i : Nat) (hi : i < 256) : (seenA S)[i]? = some (.bool (S[i]?.getD false)) := by
  unfold seenA
  simp [h, hi]
theorem seenA_set (S : List Bool) (i : Nat) (b : Bool) : (seenA S).setIfInBounds i (.bool b) = seenA (S.set i b) := by
  unfold seenA
  simp [List.map_set]
theorem seen_get (S : List Bool) (i j : Nat) (b : Bool) (h : i ≠ j) : (S.set i b)[j]?.getD false = S[j]?.getD false := by rw [List.getElem?_set_ne h]
theorem seen_self {S : List Bool} (h : S.length = 256) (i : Nat) (b : Bool) (hi : i < 256) : (S.set i b)[i]?.getD false = b := by rw [List.getElem?_set_self (by omega)]; rfl
def seen0 : List Bool := List.replicate 256 false
theorem seen0_get (i : Nat) : seen0[i]?.getD false = false := by unfold seen0; rw [List.getElem?_replicate]; split <;> rfl
theorem seen0_ok : SEEN kn0 seen0 := ⟨List.length_replicate .., seen0_get 2, seen0_get 3, seen0_get 4, seen0_get 5, seen0_get 8⟩

/-- a round of Parse at byte i -/
theorem atEnd_at {zs : List Int} {i : Nat} (h : i < zs.length) (h0 : zs[i]?.getD 0 ≠ 0) : atEnd (zs.drop i) = false := by
  cases ha : atEnd (zs.drop i) with
  | false => rfl
  | true =>
    rcases atEnd_iff.1 ha with h1 | h1
    · have := congrArg List.length h1; simp at this; omega
    · rw [List.getElem?_drop] at h1; exact absurd h1 h0
theorem atEnd_at0 {zs : List Int} {i : Nat} (h : zs.length ≤ i ∨ zs[i]?.getD 0 = 0) : atEnd (zs.drop i) = true := by
  rw [atEnd_iff]
  rcases h with h | h
  · left; exact List.drop_eq_nil_of_le h
  · right; rw [List.getElem?_drop]; exact h
theorem drop_get (zs : List Int) (i j : Nat) : (zs.drop i)[j]?.getD 0 = zs[i + j]?.getD 0 := by rw [List.getElem?_drop]

theorem run_slice_hi8 {P : Program} (w : World) {t e : TypeId} {i : TypeInfo} (ht : P.underlying t = some (.slice e)) (hi : P.info? e = some i) (hs : i.size = 1) (A : Option Addr) (n c : Nat) (r : Int) (hi' : Nat) (hr : r = hi') (h2 : hi' ≤ c) :
    (Instr.slice t (.slice A n c) none (some (.int .i64 r)) none).run P w = .ok (.slice A hi' c) w := by
  subst hr
  have hA : A.map (·.add 0) = A := by cases A <;> simp [Addr.add]
  simp [Instr.slice, run_underlying ht, Instr.sliceBounds, Instr.sliceBound, asIntOf, sizeOf, typeInfo, hi, h2, hA]
theorem SEEN.two {k : KN} {S : List Bool} (h : SEEN k S) {v : Int} (hv : 0 < v) : SEEN { k with mss := v } (S.set 2 true) :=
  ⟨by simp [h.len], by rw [seen_self h.len 2 true (by omega)]; simp [hv], by rw [seen_get _ 2 3 _ (by decide)]; exact h.s3, by rw [seen_get _ 2 4 _ (by decide)]; exact h.s4, by rw [seen_get _ 2 5 _ (by decide)]; exact h.s5, by rw [seen_get _ 2 8 _ (by decide)]; exact h.s8⟩
theorem SEEN.three {k : KN} {S : List Bool} (h : SEEN k S) {v : Int} (hv : 0 ≤ v) : SEEN { k with sc := v } (S.set 3 true) :=
  ⟨by simp [h.len], by rw [seen_get _ 3 2 _ (by decide)]; exact h.s2, by rw [seen_self h.len 3 true (by omega)]; simp [hv], by rw [seen_get _ 3 4 _ (by decide)]; exact h.s4, by rw [seen_get _ 3 5 _ (by decide)]; exact h.s5, by rw [seen_get _ 3 8 _ (by decide)]; exact h.s8⟩
theorem SEEN.four {k : KN} {S : List Bool} (h : SEEN k S) : SEEN { k with sel := true } (S.set 4 true) :=
  ⟨by simp [h.len], by rw [seen_get _ 4 2 _ (by decide)]; exact h.s2, by rw [seen_get _ 4 3 _ (by decide)]; exact h.s3, by rw [seen_self h.len 4 true (by omega)], by rw [seen_get _ 4 5 _ (by decide)]; exact h.s5, by rw [seen_get _ 4 8 _ (by decide)]; exact h.s8⟩
theorem SEEN.five {k : KN} {S : List Bool} (h : SEEN k S) {l : List (Int × Int)} (hv : l ≠ []) : SEEN { k with bl := l } (S.set 5 true) :=
  ⟨by simp [h.len], by rw [seen_get _ 5 2 _ (by decide)]; exact h.s2, by rw [seen_get _ 5 3 _ (by decide)]; exact h.s3, by rw [seen_get _ 5 4 _ (by decide)]; exact h.s4, by rw [seen_self h.len 5 true (by omega)]; simp [hv], by rw [seen_get _ 5 8 _ (by decide)]; exact h.s8⟩
theorem SEEN.eight {k : KN} {S : List Bool} (h : SEEN k S) {a b : Int} : SEEN { k with st := true, ts := a, ec := b } (S.set 8 true) :=
  ⟨by simp [h.len], by rw [seen_get _ 8 2 _ (by decide)]; exact h.s2, by rw [seen_get _ 8 3 _ (by decide)]; exact h.s3, by rw [seen_get _ 8 4 _ (by decide)]; exact h.s4, by rw [seen_get _ 8 5 _ (by decide)]; exact h.s5, by rw [seen_self h.len 8 true (by omega)]⟩
theorem SEEN.other {k : KN} {S : List Bool} (h : SEEN k S) {x : Nat} (h2 : x ≠ 2) (h3 : x ≠ 3) (h4 : x ≠ 4) (h5 : x ≠ 5) (h8 : x ≠ 8) : SEEN k (S.set x true) :=
  ⟨by simp [h.len], by rw [seen_get _ _ 2 _ h2]; exact h.s2, by rw [seen_get _ _ 3 _ h3]; exact h.s3, by rw [seen_get _ _ 4 _ h4]; exact h.s4, by rw [seen_get _ _ 5 _ h5]; exact h.s5, by rw [seen_get _ _ 8 _ h8]; exact h.s8⟩
theorem wordAt_take {l : List Int} {i m : Nat} (h : i + 1 < m) : wordAt (l.take m) i = wordAt l i := by
  unfold wordAt
  rw [List.getElem?_take_of_lt (by omega), List.getElem?_take_of_lt h]
theorem lng_take {l : List Int} {i m : Nat} (h : i + 3 < m) : lng (l.take m) i = lng l i := by
  unfold lng
  rw [wordAt_take (by omega), wordAt_take (by omega)]
theorem word_bd {l : List Int} (h : BD 255 l) (i : Nat) : 0 ≤ wordAt l i ∧ wordAt l i ≤ 65535 := by
  have a0 := h.get (by omega) i
  have a1 := h.get (by omega) (i + 1)
  unfold wordAt
  omega

set_option maxHeartbeats 16000000 in
set_option maxRecDepth 100000 in
theorem r8Parse_any (A : Option Addr) (n c : Nat) (zs : List Int) (w : World) (R : RD .u8 w w.heap.size A n zs) (hz : BD 255 zs) (hnc : n ≤ c) (hcm : c ≤ maxLen) :
    Calls Try.prog 40 #[.slice A n c] w (TPars w zs) := by
  obtain ⟨i0, hi, hz0, hz1, hz2⟩ := info_parts infoU8
  have hl := R.len
  have HR := Lib.hid (fun (W : World) (hb : Below w.heap.size w W) => (show RD .u8 W W.heap.size A n zs from (R.below hb).more hb.size))
  have S0 := (SP.start w).alloc 76 (KNC knZ none 0 0)
  clear R
  go_enter Try.func40, Try.ntmps40
  go_upto_region 1 with fail
  change Code.wp _ _ _ _ (w.alloc (.cells (KNC knZ none 0 0) 76))
  generalize w.alloc (.cells (KNC knZ none 0 0) 76) = w1 at S0 ⊢
  obtain ⟨M, hM⟩ : ∃ M, M = w.heap.size := ⟨_, rfl⟩
  rw [← hM] at S0 ⊢
  have HM := Lib.hid hM
  have X := Lib.hid S0
  clear hM S0
  by_cases h40 : 40 < n
  · have HK := Lib.hid (And.intro (show parseK zs = knZ by unfold parseK; rw [if_pos (by rw [hl]; exact h40)]) (show parseE zs = 3 by unfold parseE; rw [if_pos (by rw [hl]; exact h40)]))
    have o1 : (40 : Int) < (n : Int) := by omega
    have Y := Lib.hid (X.out.setR 0 rfl (KNC knZ none 0 0))
    go_wp2_with (refine wpList_store_row rfl 76 _ _ rfl M (KNC knZ none 0 0) rfl rfl 76 (KNC knZ none 0 0) (X.out.blk 0 rfl) (by kernel_rfl) rfl (KNC.one _ _ _ _) ?_)
    refine bodyPost_ret (results_cell_tmp1r rfl _ _ M 76 (KNC knZ none 0 0) _ _ rfl (Y.out.blk 0 rfl) Try.underlying76 rfl (by kernel_rfl)) rfl ?_
    exact ⟨none, 0, 0, by rw [HK.out.1]; rfl, by rw [HK.out.1, HK.out.2]; rfl, by rw [HK.out.1]; exact ((SP.start w).next Y.out.bel).pushRow _ _⟩
  have o1 : ¬ (40 : Int) < (n : Int) := by omega
  have HE : ∀ k, parse zs kn0 = some k → parseK zs = k ∧ parseE zs = 0 := fun k h => ⟨by unfold parseK; rw [if_neg (by rw [hl]; exact h40), h]; rfl, by unfold parseE; rw [if_neg (by rw [hl]; exact h40), h]⟩
  have HN : parse zs kn0 = none → parseK zs = knZ ∧ parseE zs = 84 := fun h => ⟨by unfold parseK; rw [if_neg (by rw [hl]; exact h40), h]; rfl, by unfold parseE; rw [if_neg (by rw [hl]; exact h40), h]⟩
  have HES := Lib.hid HE
  have HNO := Lib.hid HN
  clear HE HN
  have X2 := Lib.hid (X.out.alloc 76 (KNC kn0 none 0 0))
  obtain ⟨KB, hK⟩ : ∃ K, K = w1.heap.size := ⟨_, rfl⟩
  rw [← hK] at X2
  go_upto_region 4 with fail
  rw [← hK]
  change Code.wp _ _ _ _ (w1.alloc (.cells (KNC kn0 none 0 0) 76))
  generalize w1.alloc (.cells (KNC kn0 none 0 0) 76) = w2 at X2 ⊢
  clear X hK
  have Y3 := Lib.hid (X2.out.alloc 124 (seenA seen0))
  go_upto_region 5 with fail
  change Code.wp _ _ _ _ (w2.alloc (.cells (seenA seen0) 124))
  generalize w2.alloc (.cells (seenA seen0) 124) = w3 at Y3 ⊢
  obtain ⟨E, hE⟩ : ∃ E, E = w2.heap.size := ⟨_, rfl⟩
  rw [← hE] at Y3 ⊢
  have Z := Lib.hid (show SP w w3 [.blk M 76 (KNC knZ none 0 0), .blk KB 76 (KNC kn0 none 0 0), .blk E 124 (seenA seen0), .row 93 2 none 0 0 (prs kn0.bl)] from Y3.out.pushRow _ _)
  clear hE X2 Y3
  go_wp2_with fail
  go_loopw [6] (fun s6 wr => ∃ (i : Nat) (k : KN) (Ab : Option Addr) (nb cb : Nat) (S : List Bool), i ≤ n ∧ s6 = .int .i64 i ∧ nb = k.bl.length ∧ parse zs kn0 = parse (zs.drop i) k ∧ SEEN k S ∧ SP w wr [.blk M 76 (KNC knZ none 0 0), .blk KB 76 (KNC k Ab nb cb), .blk E 124 (seenA S), .row 93 2 Ab nb cb (prs k.bl)]) (fun s6 _ => n - (intOf s6).toNat)
  case atStart => exact ⟨0, kn0, none, 0, 0, seen0, by omega, rfl, rfl, rfl, seen0_ok, Z.out⟩
  case round =>
    obtain ⟨i, k, Ab, nb, cb, S, hin, rfl, hnb, hp, hs, hX⟩ := hrel
    have X := Lib.hid hX
    have HP := Lib.hid hp
    have HS := Lib.hid hs
    have HNB := Lib.hid hnb
    clear hX hp hs hnb Z
    obtain ⟨q, hq⟩ : ∃ q, zs[i]?.getD 0 = q := ⟨_, rfl⟩
    have HQ := Lib.hid hq
    have hqb : 0 ≤ q ∧ q ≤ 255 := by rw [← hq]; exact hz.get (by omega) i
    clear hq
    obtain ⟨q0, q255⟩ := hqb
    by_cases hlt : i < n
    case neg =>
      have o2 : ¬ (i : Int) < (n : Int) := by omega
      have HF := Lib.hid (HES.out k (by rw [HP.out]; exact parse_end (atEnd_at0 (.inl (by omega)))))
      go_wp2_with (first
        | (refine wpList_load_row rfl 76 _ rfl KB rfl 76 (KNC k Ab nb cb) (0, 0) _ (X.out.blk 1 rfl) Try.underlying76 rfl (by kernel_rfl) ?_)
        | (refine wpList_store_row rfl 76 _ _ rfl M (KNC k Ab nb cb) rfl rfl 76 (KNC knZ none 0 0) (X.out.blk 0 rfl) (by kernel_rfl) rfl (KNC.one _ _ _ _) ?_))
      have Y := Lib.hid (X.out.setR 0 rfl (KNC k Ab nb cb))
      refine bodyPost_ret (results_cell_tmp1r rfl _ _ M 76 (KNC k Ab nb cb) _ _ rfl (Y.out.blk 0 rfl) Try.underlying76 rfl (by kernel_rfl)) rfl ?_
      exact ⟨Ab, nb, cb, by rw [HF.out.1]; exact HNB.out, by rw [HF.out.1, HF.out.2]; rfl, by rw [HF.out.1]; exact Y.out.pick [3] (by decide) rfl⟩
    obtain ⟨b, off, rfl, hbb, hcell0⟩ := (HR.out _ X.out.bel).2 (by omega)
    have HCE := Lib.hid hcell0
    clear hcell0
    have z0 : wr.cell? ⟨b, off + i, none⟩ = some (.int .u8 q) := by rw [← HQ.out]; exact HCE.out i hlt
    have o2 : (i : Int) < (n : Int) := by omega
    have o3 : (0 : Int) ≤ (i : Int) := by omega
    by_cases hq0 : q = 0
    case pos =>
      subst hq0
      have HF := Lib.hid (HES.out k (by rw [HP.out]; exact parse_end (atEnd_at0 (.inr HQ.out))))
      go_wp2_with (first
        | (refine wpList_load_row rfl 76 _ rfl KB rfl 76 (KNC k Ab nb cb) (0, 0) _ (X.out.blk 1 rfl) Try.underlying76 rfl (by kernel_rfl) ?_)
        | (refine wpList_store_row rfl 76 _ _ rfl M (KNC k Ab nb cb) rfl rfl 76 (KNC knZ none 0 0) (X.out.blk 0 rfl) (by kernel_rfl) rfl (KNC.one _ _ _ _) ?_))
      have Y := Lib.hid (X.out.setR 0 rfl (KNC k Ab nb cb))
      refine bodyPost_ret (results_cell_tmp1r rfl _ _ M 76 (KNC k Ab nb cb) _ _ rfl (Y.out.blk 0 rfl) Try.underlying76 rfl (by kernel_rfl)) rfl ?_
      exact ⟨Ab, nb, cb, by rw [HF.out.1]; exact HNB.out, by rw [HF.out.1, HF.out.2]; rfl, by rw [HF.out.1]; exact Y.out.pick [3] (by decide) rfl⟩
    have HA := Lib.hid (atEnd_at (zs := zs) (i := i) (by omega) (by rw [HQ.out]; exact hq0))
    have t0 : (q != 0) = true := by simp [hq0]
    have t0' : (q == 0) = false := by simp [hq0]
    by_cases hq1 : q = 1
    case pos =>
      subst hq1
      have HG := Lib.hid (show parse zs kn0 = parse (zs.drop (i + 1)) k by
        rw [HP.out, parse_more (m := 1) (k' := k) HA.out (optLen_one (by rw [drop_get]; exact HQ.out)) (by rw [drop_get, Nat.add_zero, HQ.out]; unfold take1; simp), List.drop_drop])
      go_wp2_with fail
      go_roundw
      case rel => exact ⟨i + 1, k, Ab, nb, cb, S, by omega, by go_num, HNB.out, HG.out, HS.out, X.out⟩
      case measure => simp [intOf]; omega
    have t1 : (q == 1) = false := by simp [hq1]
    have e1 : IntKind.i64.wrap ((i : Int) + 1) = (i : Int) + 1 := IntWalk.i64_in _ (by omega)
    obtain ⟨Lz, hLz⟩ : ∃ L, zs[i + 1]?.getD 0 = L := ⟨_, rfl⟩
    have HLZ := Lib.hid hLz
    have hLb : 0 ≤ Lz ∧ Lz ≤ 255 := by rw [← hLz]; exact hz.get (by omega) (i + 1)
    obtain ⟨m, hm⟩ : ∃ m : Nat, Lz = (m : Int) := ⟨Lz.toNat, by omega⟩
    have HOB := Lib.hid (fun (h : n < i + 2 ∨ m < 2 ∨ n < i + m) => (show parse zs kn0 = none by
      rw [HP.out]
      refine parse_bad HA.out (optLen_bad (by rw [drop_get, Nat.add_zero, HQ.out]; exact hq1) ?_)
      rw [drop_get, HLZ.out, List.length_drop, hl, hm]
      omega))
    have HOG := Lib.hid (fun (h1 : i + 2 ≤ n) (h2 : 2 ≤ m) (h3 : i + m ≤ n) => (show optLen (zs.drop i) = some m by
      rw [optLen_more (by rw [drop_get, Nat.add_zero, HQ.out]; exact hq1) (by rw [drop_get, HLZ.out, List.length_drop, hl, hm]; omega), drop_get, HLZ.out, hm]
      simp))
    subst hm
    clear hLz
    by_cases c1 : i + 1 = n
    case pos =>
      have t2 : (((i : Int) + 1) == (n : Int)) = true := by simp; omega
      have HF := Lib.hid (HNO.out (HOB.out (by omega)))
      go_wp2_with (refine wpList_store_row rfl 76 _ _ rfl M (KNC knZ none 0 0) rfl rfl 76 (KNC knZ none 0 0) (X.out.blk 0 rfl) (by kernel_rfl) rfl (KNC.one _ _ _ _) ?_)
      have YB := Lib.hid (X.out.setR 0 rfl (KNC knZ none 0 0))
      refine bodyPost_ret (results_cell_tmp1r rfl _ _ M 76 (KNC knZ none 0 0) _ _ rfl (YB.out.blk 0 rfl) Try.underlying76 rfl (by kernel_rfl)) rfl ?_
      exact ⟨none, 0, 0, by rw [HF.out.1]; rfl, by rw [HF.out.1, HF.out.2]; rfl, by rw [HF.out.1]; exact ((SP.start w).next YB.out.bel).pushRow _ _⟩
    have t2 : (((i : Int) + 1) == (n : Int)) = false := by simp; omega
    have z1 : wr.cell? ⟨b, off + (i + 1), none⟩ = some (.int .u8 (m : Int)) := by have := HCE.out (i + 1) (by omega); rwa [HLZ.out] at this
    have o4 : (i : Int) + 1 < (n : Int) := by omega
    have o5 : (0 : Int) ≤ (i : Int) + 1 := by omega
    by_cases c2 : m < 2
    case pos =>
      have t3 : (m : Int) < 2 := by omega
      have HF := Lib.hid (HNO.out (HOB.out (.inr (.inl c2))))
      go_wp2_with (refine wpList_store_row rfl 76 _ _ rfl M (KNC knZ none 0 0) rfl rfl 76 (KNC knZ none 0 0) (X.out.blk 0 rfl) (by kernel_rfl) rfl (KNC.one _ _ _ _) ?_)
      have YB := Lib.hid (X.out.setR 0 rfl (KNC knZ none 0 0))
      refine bodyPost_ret (results_cell_tmp1r rfl _ _ M 76 (KNC knZ none 0 0) _ _ rfl (YB.out.blk 0 rfl) Try.underlying76 rfl (by kernel_rfl)) rfl ?_
      exact ⟨none, 0, 0, by rw [HF.out.1]; rfl, by rw [HF.out.1, HF.out.2]; rfl, by rw [HF.out.1]; exact ((SP.start w).next YB.out.bel).pushRow _ _⟩
    have t3 : ¬ (m : Int) < 2 := by omega
    have e2 : IntKind.i64.wrap (m : Int) = (m : Int) := IntWalk.i64_in _ (by omega)
    have e3 : IntKind.i64.wrap ((i : Int) + (m : Int)) = (i : Int) + (m : Int) := IntWalk.i64_in _ (by omega)
    by_cases c3 : n < i + m
    case pos =>
      have t4 : (n : Int) < (i : Int) + (m : Int) := by omega
      have HF := Lib.hid (HNO.out (HOB.out (.inr (.inr c3))))
      go_wp2_with (refine wpList_store_row rfl 76 _ _ rfl M (KNC knZ none 0 0) rfl rfl 76 (KNC knZ none 0 0) (X.out.blk 0 rfl) (by kernel_rfl) rfl (KNC.one _ _ _ _) ?_)
      have YB := Lib.hid (X.out.setR 0 rfl (KNC knZ none 0 0))
      refine bodyPost_ret (results_cell_tmp1r rfl _ _ M 76 (KNC knZ none 0 0) _ _ rfl (YB.out.blk 0 rfl) Try.underlying76 rfl (by kernel_rfl)) rfl ?_
      exact ⟨none, 0, 0, by rw [HF.out.1]; rfl, by rw [HF.out.1, HF.out.2]; rfl, by rw [HF.out.1]; exact ((SP.start w).next YB.out.bel).pushRow _ _⟩
    have t4 : ¬ (n : Int) < (i : Int) + (m : Int) := by omega
    have e4 : IntKind.i64.wrap ((i : Int) + 2) = (i : Int) + 2 := IntWalk.i64_in _ (by omega)
    have HOL := Lib.hid (HOG.out (by omega) (by omega) (by omega))
    clear HOB HOG
    obtain ⟨Cz, hC⟩ : ∃ C, ((zs.drop i).take m).drop 2 = C := ⟨_, rfl⟩
    have HGO := Lib.hid (fun (k' : KN) (h : take1 q Cz k = some k') => (show parse zs kn0 = parse (zs.drop (i + m)) k' by
      rw [HP.out, parse_more (m := m) (k' := k') HA.out HOL.out (by rw [drop_get, Nat.add_zero, HQ.out, hC]; exact h), List.drop_drop]))
    have HBAD := Lib.hid (fun (h : take1 q Cz k = none) => (show parse zs kn0 = none by
      rw [HP.out]; exact parse_take HA.out HOL.out (by rw [drop_get, Nat.add_zero, HQ.out, hC]; exact h)))
    have sl0 := fun W => run_slice_lohi (P := Try.prog) W Try.underlying22 hi hz1 (some ⟨b, off, none⟩) n c ((i : Int) + 2) ((i : Int) + (m : Int)) (i + 2) (i + m) (by omega) (by omega) (by omega) (by omega)
    have RC := Lib.hid (fun (W : World) (hb : Below w.heap.size w W) => (show RD .u8 W W.heap.size (cutA (some ⟨b, off, none⟩) c (i + 2)) (m - 2) Cz by
      have h := (HR.out W hb).mid (lo := i + 2) (hi := i + m) (by omega) (by omega) (by omega)
      rw [show i + m - (i + 2) = m - 2 by omega] at h
      rw [← hC, List.drop_take, List.drop_drop]; exact h))
    have HCB := Lib.hid (show BD 255 Cz by rw [← hC]; exact ((hz.drop _).take _).drop _)
    rw [show i + m - (i + 2) = m - 2 by omega] at sl0
    obtain ⟨cn, hcn⟩ : ∃ cn, m - 2 = cn := ⟨_, rfl⟩
    obtain ⟨Ac, hAc⟩ : ∃ x, cutA (some ⟨b, off, none⟩) c (i + 2) = x := ⟨_, rfl⟩
    obtain ⟨cc, hcc⟩ : ∃ x, c - (i + 2) = x := ⟨_, rfl⟩
    rw [hcn, hAc, hcc] at sl0
    rw [hcn, hAc] at RC
    have HCL := Lib.hid (show Cz.length = cn by have := (RC.out _ X.out.bel).len; exact this)
    have hcnc : cn ≤ cc := by omega
    have HMC := Lib.hid (show m = cn + 2 by omega)
    clear hC hAc hcc hcn HOL HCE
    by_cases hqq : q = 2
    case pos =>
      subst hqq
      have zs_ : wr.cell? ⟨E, 2, none⟩ = some (.bool (S[2]?.getD false)) := ((X.out.blk 2 rfl).cell 2).trans (seenA_get HS.out.len 2 (by omega))
      have ds_ := X.out.free 2 rfl 2
      obtain ⟨sb, hsb⟩ : ∃ sb, S[2]?.getD false = sb := ⟨_, rfl⟩
      rw [hsb] at zs_
      cases sb with
      | true =>
        have hsv : 0 < k.mss := of_decide_eq_true (HS.out.s2.symm.trans hsb)
        have HB := Lib.hid (HBAD.out (by unfold take1; rw [if_pos rfl]; exact if_neg (fun h => h.2.1 hsv)))
        clear hsb hsv HGO HBAD
        have HF := Lib.hid (HNO.out (HB.out))
        go_wp2_with (refine wpList_store_row rfl 76 _ _ rfl M (KNC knZ none 0 0) rfl rfl 76 (KNC knZ none 0 0) (X.out.blk 0 rfl) (by kernel_rfl) rfl (KNC.one _ _ _ _) ?_)
        have YB := Lib.hid (X.out.setR 0 rfl (KNC knZ none 0 0))
        refine bodyPost_ret (results_cell_tmp1r rfl _ _ M 76 (KNC knZ none 0 0) _ _ rfl (YB.out.blk 0 rfl) Try.underlying76 rfl (by kernel_rfl)) rfl ?_
        exact ⟨none, 0, 0, by rw [HF.out.1]; rfl, by rw [HF.out.1, HF.out.2]; rfl, by rw [HF.out.1]; exact ((SP.start w).next YB.out.bel).pushRow _ _⟩
      | false =>
        have HSV := Lib.hid (show ¬ 0 < k.mss from of_decide_eq_false (HS.out.s2.symm.trans hsb))
        have Y := Lib.hid (show SP w (wr.setCell ⟨E, 2, none⟩ (.bool true)) [.blk M 76 (KNC knZ none 0 0), .blk KB 76 (KNC k Ab nb cb), .blk E 124 (seenA (S.set 2 true)), .row 93 2 Ab nb cb (prs k.bl)] by have h := X.out.setB 2 rfl 2 (.bool true); rw [seenA_set] at h; exact h)
        clear hsb
        go_upto_region 17 with fail
        generalize wr.setCell ⟨E, 2, none⟩ (.bool true) = wv at Y ⊢
        clear zs_ ds_ X z0 z1
        go_upto_region 20 with fail
        clear sl0 e1 e2 e3 e4 t2 t3 t4 o4 o5
        by_cases hm : m = 4
        case neg =>
          have HB := Lib.hid (HBAD.out (by unfold take1; rw [if_pos rfl]; exact if_neg (fun h => by have := HCL.out; have := HMC.out; omega)))
          have t9 : ((m : Int) == 4) = false := by simp; omega
          clear HGO HBAD
          have HF := Lib.hid (HNO.out (HB.out))
          go_wp2_with (refine wpList_store_row rfl 76 _ _ rfl M (KNC knZ none 0 0) rfl rfl 76 (KNC knZ none 0 0) (Y.out.blk 0 rfl) (by kernel_rfl) rfl (KNC.one _ _ _ _) ?_)
          have YB := Lib.hid (Y.out.setR 0 rfl (KNC knZ none 0 0))
          refine bodyPost_ret (results_cell_tmp1r rfl _ _ M 76 (KNC knZ none 0 0) _ _ rfl (YB.out.blk 0 rfl) Try.underlying76 rfl (by kernel_rfl)) rfl ?_
          exact ⟨none, 0, 0, by rw [HF.out.1]; rfl, by rw [HF.out.1, HF.out.2]; rfl, by rw [HF.out.1]; exact ((SP.start w).next YB.out.bel).pushRow _ _⟩
        have hcn2 : cn = 2 := by have := HMC.out; omega
        subst hm hcn2
        clear HMC
        have hv2 := word_bd HCB.out 0
        have HNZ := Lib.hid (numZ2 HCL.out)
        have HT := Lib.hid (show take1 2 Cz k = if 0 < wordAt Cz 0 then some (KN.mk (wordAt Cz 0) k.sc k.sel k.st k.ts k.ec k.bl) else none by
          unfold take1; rw [if_pos rfl]
          by_cases h : 0 < wordAt Cz 0
          · rw [if_pos ⟨HCL.out, HSV.out, h⟩, if_pos h]
          · rw [if_neg (fun x => h x.2.2), if_neg h])
        obtain ⟨v, hv⟩ : ∃ v, wordAt Cz 0 = v := ⟨_, rfl⟩
        rw [hv] at HNZ HT hv2
        clear hv
        go_wp2_with fail
        refine (r8number_any Ac 2 cc Cz _ (RC.out _ Y.out.bel) HCB.out (by decide)).mono ?_
        rintro e wv' ⟨rfl, hwv⟩
        subst hwv
        rw [HNZ.out]
        by_cases h : 0 < v
        case neg =>
          have HB := Lib.hid (HBAD.out (by rw [HT.out, if_neg h]))
          have h' : decide (0 < v) = false := decide_eq_false h
          clear HGO HBAD
          have HF := Lib.hid (HNO.out (HB.out))
          go_wp2_with (refine wpList_store_row rfl 76 _ _ rfl M (KNC knZ none 0 0) rfl rfl 76 (KNC knZ none 0 0) (Y.out.blk 0 rfl) (by kernel_rfl) rfl (KNC.one _ _ _ _) ?_)
          have YB := Lib.hid (Y.out.setR 0 rfl (KNC knZ none 0 0))
          refine bodyPost_ret (results_cell_tmp1r rfl _ _ M 76 (KNC knZ none 0 0) _ _ rfl (YB.out.blk 0 rfl) Try.underlying76 rfl (by kernel_rfl)) rfl ?_
          exact ⟨none, 0, 0, by rw [HF.out.1]; rfl, by rw [HF.out.1, HF.out.2]; rfl, by rw [HF.out.1]; exact ((SP.start w).next YB.out.bel).pushRow _ _⟩
        have HG := Lib.hid (HGO.out _ (by rw [HT.out, if_pos h]))
        have HSE := Lib.hid (HS.out.two h)
        clear HGO HBAD
        have yk : wv.cell? ⟨KB, 0, none⟩ = some (.int .i64 k.mss) := Y.out.cell 1 rfl 0 rfl
        have dk := Y.out.free 1 rfl 0
        have Z := Lib.hid (show SP w (wv.setCell ⟨KB, 0, none⟩ (.int .i64 v)) [.blk M 76 (KNC knZ none 0 0), .blk KB 76 (KNC (KN.mk v k.sc k.sel k.st k.ts k.ec k.bl) Ab nb cb), .blk E 124 (seenA (S.set 2 true)), .row 93 2 Ab nb cb (prs (KN.mk v k.sc k.sel k.st k.ts k.ec k.bl).bl)] from Y.out.setB 1 rfl 0 (.int .i64 v))
        go_wp2_with fail
        refine (r8number_any Ac 2 cc Cz _ (RC.out _ Y.out.bel) HCB.out (by decide)).mono ?_
        rintro e wv' ⟨rfl, hwv⟩
        subst hwv
        rw [HNZ.out]
        go_wp2_with fail
        go_roundw
        case rel => exact ⟨i + 4, (KN.mk v k.sc k.sel k.st k.ts k.ec k.bl), Ab, nb, cb, S.set 2 true, by omega, by go_num, HNB.out, HG.out, HSE.out, Z.out⟩
        case measure => simp [intOf]; omega
    have n2 := hqq
    clear hqq
    by_cases hqq : q = 3
    case pos =>
      subst hqq
      have zs_ : wr.cell? ⟨E, 3, none⟩ = some (.bool (S[3]?.getD false)) := ((X.out.blk 2 rfl).cell 3).trans (seenA_get HS.out.len 3 (by omega))
      have ds_ := X.out.free 2 rfl 3
      obtain ⟨sb, hsb⟩ : ∃ sb, S[3]?.getD false = sb := ⟨_, rfl⟩
      rw [hsb] at zs_
      cases sb with
      | true =>
        have hsv : 0 ≤ k.sc := of_decide_eq_true (HS.out.s3.symm.trans hsb)
        have HB := Lib.hid (HBAD.out (by unfold take1; rw [if_neg (by decide), if_pos rfl]; exact if_neg (fun h => h.2.1 hsv)))
        clear hsb hsv HGO HBAD
        have HF := Lib.hid (HNO.out (HB.out))
        go_wp2_with (refine wpList_store_row rfl 76 _ _ rfl M (KNC knZ none 0 0) rfl rfl 76 (KNC knZ none 0 0) (X.out.blk 0 rfl) (by kernel_rfl) rfl (KNC.one _ _ _ _) ?_)
        have YB := Lib.hid (X.out.setR 0 rfl (KNC knZ none 0 0))
        refine bodyPost_ret (results_cell_tmp1r rfl _ _ M 76 (KNC knZ none 0 0) _ _ rfl (YB.out.blk 0 rfl) Try.underlying76 rfl (by kernel_rfl)) rfl ?_
        exact ⟨none, 0, 0, by rw [HF.out.1]; rfl, by rw [HF.out.1, HF.out.2]; rfl, by rw [HF.out.1]; exact ((SP.start w).next YB.out.bel).pushRow _ _⟩
      | false =>
        have HSV := Lib.hid (show ¬ 0 ≤ k.sc from of_decide_eq_false (HS.out.s3.symm.trans hsb))
        have Y := Lib.hid (show SP w (wr.setCell ⟨E, 3, none⟩ (.bool true)) [.blk M 76 (KNC knZ none 0 0), .blk KB 76 (KNC k Ab nb cb), .blk E 124 (seenA (S.set 3 true)), .row 93 2 Ab nb cb (prs k.bl)] by have h := X.out.setB 2 rfl 3 (.bool true); rw [seenA_set] at h; exact h)
        clear hsb
        go_upto_region 17 with fail
        generalize wr.setCell ⟨E, 3, none⟩ (.bool true) = wv at Y ⊢
        clear zs_ ds_ X z0 z1
        go_upto_region 20 with fail
        clear sl0 e1 e2 e3 e4 t2 t3 t4 o4 o5
        by_cases hm : m = 3
        case neg =>
          have HB := Lib.hid (HBAD.out (by unfold take1; rw [if_neg (by decide), if_pos rfl]; exact if_neg (fun h => by have := HCL.out; have := HMC.out; omega)))
          have t9 : ((m : Int) == 3) = false := by simp; omega
          clear HGO HBAD
          have HF := Lib.hid (HNO.out (HB.out))
          go_wp2_with (refine wpList_store_row rfl 76 _ _ rfl M (KNC knZ none 0 0) rfl rfl 76 (KNC knZ none 0 0) (Y.out.blk 0 rfl) (by kernel_rfl) rfl (KNC.one _ _ _ _) ?_)
          have YB := Lib.hid (Y.out.setR 0 rfl (KNC knZ none 0 0))
          refine bodyPost_ret (results_cell_tmp1r rfl _ _ M 76 (KNC knZ none 0 0) _ _ rfl (YB.out.blk 0 rfl) Try.underlying76 rfl (by kernel_rfl)) rfl ?_
          exact ⟨none, 0, 0, by rw [HF.out.1]; rfl, by rw [HF.out.1, HF.out.2]; rfl, by rw [HF.out.1]; exact ((SP.start w).next YB.out.bel).pushRow _ _⟩
        have hcn2 : cn = 1 := by have := HMC.out; omega
        subst hm hcn2
        clear HMC
        have hv2 := HCB.out.get (by omega) 0
        have HNZ := Lib.hid (numZ1 HCL.out)
        have HT := Lib.hid (show take1 3 Cz k = if Cz[0]?.getD 0 < 15 then some (KN.mk k.mss (Cz[0]?.getD 0) k.sel k.st k.ts k.ec k.bl) else none by
          unfold take1; rw [if_neg (by decide), if_pos rfl]
          by_cases h : Cz[0]?.getD 0 < 15
          · rw [if_pos ⟨HCL.out, HSV.out, h⟩, if_pos h]
          · rw [if_neg (fun x => h x.2.2), if_neg h])
        obtain ⟨v, hv⟩ : ∃ v, Cz[0]?.getD 0 = v := ⟨_, rfl⟩
        rw [hv] at HNZ HT hv2
        clear hv
        go_wp2_with fail
        refine (r8number_any Ac 1 cc Cz _ (RC.out _ Y.out.bel) HCB.out (by decide)).mono ?_
        rintro e wv' ⟨rfl, hwv⟩
        subst hwv
        rw [HNZ.out]
        by_cases h : v < 15
        case neg =>
          have HB := Lib.hid (HBAD.out (by rw [HT.out, if_neg h]))
          have h' : decide (v < 15) = false := decide_eq_false h
          clear HGO HBAD
          have HF := Lib.hid (HNO.out (HB.out))
          go_wp2_with (refine wpList_store_row rfl 76 _ _ rfl M (KNC knZ none 0 0) rfl rfl 76 (KNC knZ none 0 0) (Y.out.blk 0 rfl) (by kernel_rfl) rfl (KNC.one _ _ _ _) ?_)
          have YB := Lib.hid (Y.out.setR 0 rfl (KNC knZ none 0 0))
          refine bodyPost_ret (results_cell_tmp1r rfl _ _ M 76 (KNC knZ none 0 0) _ _ rfl (YB.out.blk 0 rfl) Try.underlying76 rfl (by kernel_rfl)) rfl ?_
          exact ⟨none, 0, 0, by rw [HF.out.1]; rfl, by rw [HF.out.1, HF.out.2]; rfl, by rw [HF.out.1]; exact ((SP.start w).next YB.out.bel).pushRow _ _⟩
        have HG := Lib.hid (HGO.out _ (by rw [HT.out, if_pos h]))
        have HSE := Lib.hid (HS.out.three hv2.1)
        clear HGO HBAD
        have yk : wv.cell? ⟨KB, 1, none⟩ = some (.int .i64 k.sc) := Y.out.cell 1 rfl 1 rfl
        have dk := Y.out.free 1 rfl 1
        have Z := Lib.hid (show SP w (wv.setCell ⟨KB, 1, none⟩ (.int .i64 v)) [.blk M 76 (KNC knZ none 0 0), .blk KB 76 (KNC (KN.mk k.mss v k.sel k.st k.ts k.ec k.bl) Ab nb cb), .blk E 124 (seenA (S.set 3 true)), .row 93 2 Ab nb cb (prs (KN.mk k.mss v k.sel k.st k.ts k.ec k.bl).bl)] from Y.out.setB 1 rfl 1 (.int .i64 v))
        go_wp2_with fail
        refine (r8number_any Ac 1 cc Cz _ (RC.out _ Y.out.bel) HCB.out (by decide)).mono ?_
        rintro e wv' ⟨rfl, hwv⟩
        subst hwv
        rw [HNZ.out]
        go_wp2_with fail
        go_roundw
        case rel => exact ⟨i + 3, (KN.mk k.mss v k.sel k.st k.ts k.ec k.bl), Ab, nb, cb, S.set 3 true, by omega, by go_num, HNB.out, HG.out, HSE.out, Z.out⟩
        case measure => simp [intOf]; omega
    have n3 := hqq
    clear hqq
    by_cases hqq : q = 4
    case pos =>
      subst hqq
      have zs_ : wr.cell? ⟨E, 4, none⟩ = some (.bool (S[4]?.getD false)) := ((X.out.blk 2 rfl).cell 4).trans (seenA_get HS.out.len 4 (by omega))
      have ds_ := X.out.free 2 rfl 4
      obtain ⟨sb, hsb⟩ : ∃ sb, S[4]?.getD false = sb := ⟨_, rfl⟩
      rw [hsb] at zs_
      cases sb with
      | true =>
        have hsv : k.sel = true := HS.out.s4.symm.trans hsb
        have HB := Lib.hid (HBAD.out (by unfold take1; rw [if_neg (by decide), if_neg (by decide), if_pos rfl]; exact if_neg (fun h => by rw [hsv] at h; exact Bool.noConfusion h.2)))
        clear hsb hsv HGO HBAD
        have HF := Lib.hid (HNO.out (HB.out))
        go_wp2_with (refine wpList_store_row rfl 76 _ _ rfl M (KNC knZ none 0 0) rfl rfl 76 (KNC knZ none 0 0) (X.out.blk 0 rfl) (by kernel_rfl) rfl (KNC.one _ _ _ _) ?_)
        have YB := Lib.hid (X.out.setR 0 rfl (KNC knZ none 0 0))
        refine bodyPost_ret (results_cell_tmp1r rfl _ _ M 76 (KNC knZ none 0 0) _ _ rfl (YB.out.blk 0 rfl) Try.underlying76 rfl (by kernel_rfl)) rfl ?_
        exact ⟨none, 0, 0, by rw [HF.out.1]; rfl, by rw [HF.out.1, HF.out.2]; rfl, by rw [HF.out.1]; exact ((SP.start w).next YB.out.bel).pushRow _ _⟩
      | false =>
        have HSV := Lib.hid (show k.sel = false from HS.out.s4.symm.trans hsb)
        have Y := Lib.hid (show SP w (wr.setCell ⟨E, 4, none⟩ (.bool true)) [.blk M 76 (KNC knZ none 0 0), .blk KB 76 (KNC k Ab nb cb), .blk E 124 (seenA (S.set 4 true)), .row 93 2 Ab nb cb (prs k.bl)] by have h := X.out.setB 2 rfl 4 (.bool true); rw [seenA_set] at h; exact h)
        clear hsb
        go_upto_region 17 with fail
        generalize wr.setCell ⟨E, 4, none⟩ (.bool true) = wv at Y ⊢
        clear zs_ ds_ X z0 z1
        go_upto_region 20 with fail
        clear sl0 e1 e2 e3 e4 t2 t3 t4 o4 o5
        have yk : wv.cell? ⟨KB, 2, none⟩ = some (.bool k.sel) := Y.out.cell 1 rfl 2 rfl
        have dk := Y.out.free 1 rfl 2
        have Z := Lib.hid (show SP w (wv.setCell ⟨KB, 2, none⟩ (.bool true)) [.blk M 76 (KNC knZ none 0 0), .blk KB 76 (KNC (KN.mk k.mss k.sc true k.st k.ts k.ec k.bl) Ab nb cb), .blk E 124 (seenA (S.set 4 true)), .row 93 2 Ab nb cb (prs (KN.mk k.mss k.sc true k.st k.ts k.ec k.bl).bl)] from Y.out.setB 1 rfl 2 (.bool true))
        by_cases hm : m = 2
        case neg =>
          have HB := Lib.hid (HBAD.out (by unfold take1; rw [if_neg (by decide), if_neg (by decide), if_pos rfl]; exact if_neg (fun h => by have := HCL.out; have := HMC.out; omega)))
          have t9 : ((m : Int) == 2) = false := by simp; omega
          clear HGO HBAD
          have HF := Lib.hid (HNO.out (HB.out))
          go_wp2_with (refine wpList_store_row rfl 76 _ _ rfl M (KNC knZ none 0 0) rfl rfl 76 (KNC knZ none 0 0) (Z.out.blk 0 rfl) (by kernel_rfl) rfl (KNC.one _ _ _ _) ?_)
          have YB := Lib.hid (Z.out.setR 0 rfl (KNC knZ none 0 0))
          refine bodyPost_ret (results_cell_tmp1r rfl _ _ M 76 (KNC knZ none 0 0) _ _ rfl (YB.out.blk 0 rfl) Try.underlying76 rfl (by kernel_rfl)) rfl ?_
          exact ⟨none, 0, 0, by rw [HF.out.1]; rfl, by rw [HF.out.1, HF.out.2]; rfl, by rw [HF.out.1]; exact ((SP.start w).next YB.out.bel).pushRow _ _⟩
        have hcn2 : cn = 0 := by have := HMC.out; omega
        subst hm hcn2
        clear HMC
        have HG := Lib.hid (HGO.out (KN.mk k.mss k.sc true k.st k.ts k.ec k.bl) (by unfold take1; rw [if_neg (by decide), if_neg (by decide), if_pos rfl]; exact if_pos ⟨HCL.out, HSV.out⟩))
        have HSE := Lib.hid HS.out.four
        clear HGO HBAD
        go_wp2_with fail
        go_roundw
        case rel => exact ⟨i + 2, (KN.mk k.mss k.sc true k.st k.ts k.ec k.bl), Ab, nb, cb, S.set 4 true, by omega, by go_num, HNB.out, HG.out, HSE.out, Z.out⟩
        case measure => simp [intOf]; omega
    have n4 := hqq
    clear hqq
    by_cases hqq : q = 5
    case pos =>
      subst hqq
      have zs_ : wr.cell? ⟨E, 5, none⟩ = some (.bool (S[5]?.getD false)) := ((X.out.blk 2 rfl).cell 5).trans (seenA_get HS.out.len 5 (by omega))
      have ds_ := X.out.free 2 rfl 5
      obtain ⟨sb, hsb⟩ : ∃ sb, S[5]?.getD false = sb := ⟨_, rfl⟩
      rw [hsb] at zs_
      cases sb with
      | true =>
        have hsv : k.bl ≠ [] := of_decide_eq_true (HS.out.s5.symm.trans hsb)
        have HB := Lib.hid (HBAD.out (by unfold take1; rw [if_neg (by decide), if_neg (by decide), if_neg (by decide), if_pos rfl]; exact if_neg (fun h => hsv h.2.2.2)))
        clear hsb hsv HGO HBAD
        have HF := Lib.hid (HNO.out (HB.out))
        go_wp2_with (refine wpList_store_row rfl 76 _ _ rfl M (KNC knZ none 0 0) rfl rfl 76 (KNC knZ none 0 0) (X.out.blk 0 rfl) (by kernel_rfl) rfl (KNC.one _ _ _ _) ?_)
        have YB := Lib.hid (X.out.setR 0 rfl (KNC knZ none 0 0))
        refine bodyPost_ret (results_cell_tmp1r rfl _ _ M 76 (KNC knZ none 0 0) _ _ rfl (YB.out.blk 0 rfl) Try.underlying76 rfl (by kernel_rfl)) rfl ?_
        exact ⟨none, 0, 0, by rw [HF.out.1]; rfl, by rw [HF.out.1, HF.out.2]; rfl, by rw [HF.out.1]; exact ((SP.start w).next YB.out.bel).pushRow _ _⟩
      | false =>
        have HSV := Lib.hid (show k.bl = [] from Decidable.not_not.1 (of_decide_eq_false (HS.out.s5.symm.trans hsb)))
        have Y := Lib.hid (show SP w (wr.setCell ⟨E, 5, none⟩ (.bool true)) [.blk M 76 (KNC knZ none 0 0), .blk KB 76 (KNC k Ab nb cb), .blk E 124 (seenA (S.set 5 true)), .row 93 2 Ab nb cb (prs k.bl)] by have h := X.out.setB 2 rfl 5 (.bool true); rw [seenA_set] at h; exact h)
        clear hsb
        go_upto_region 17 with fail
        generalize wr.setCell ⟨E, 5, none⟩ (.bool true) = wv at Y ⊢
        clear zs_ ds_ X z0 z1
        go_upto_region 20 with fail
        clear sl0 e1 e2 e3 e4 t2 t3 t4 o4 o5
        have HT := Lib.hid (show take1 5 Cz k = if cn ≠ 0 ∧ cn % 8 = 0 ∧ cn ≤ 32 then some (KN.mk k.mss k.sc k.sel k.st k.ts k.ec (blocksOf (cn / 8) Cz)) else none by
          unfold take1; rw [if_neg (by decide), if_neg (by decide), if_neg (by decide), if_pos rfl, HCL.out]
          by_cases h : cn ≠ 0 ∧ cn % 8 = 0 ∧ cn ≤ 32
          · rw [if_pos ⟨h.1, h.2.1, h.2.2, HSV.out⟩, if_pos h]
          · rw [if_neg (fun x => h ⟨x.1, x.2.1, x.2.2.1⟩), if_neg h])
        have em : IntKind.i64.wrap ((m : Int) - 2) = (cn : Int) := by rw [show (m : Int) - 2 = (cn : Int) by have := HMC.out; omega]; exact IntWalk.i64_in _ (by have := HMC.out; omega)
        have emd : (cn : Int).tmod 8 = ((cn % 8 : Nat) : Int) := by rw [Int.tmod_eq_emod_of_nonneg (by omega)]; omega
        have emd' : (cn : Int) % 8 = ((cn % 8 : Nat) : Int) := by omega
        have emm : (m : Int) - 2 = (cn : Int) := by have := HMC.out; omega
        obtain ⟨r8, hr8⟩ : ∃ r, cn % 8 = r := ⟨_, rfl⟩
        rw [hr8] at emd emd'
        by_cases hm : 2 < m
        case neg =>
          have HB := Lib.hid (HBAD.out (by rw [HT.out]; exact if_neg (fun x => by have := HMC.out; omega)))
          have t9 : ¬ (2 : Int) < (m : Int) := by omega
          clear HGO HBAD hr8
          go_wp2_with fail
          go_loopw [] (fun wr2 => SP w wr2 [.blk M 76 (KNC knZ none 0 0), .blk KB 76 (KNC k Ab nb cb), .blk E 124 (seenA (S.set 5 true)), .row 93 2 Ab nb cb (prs k.bl)]) (fun _ => 0)
          case atStart => exact Y.out
          case round =>
            have Y2 := Lib.hid hrel
            clear hrel Y
            have HF := Lib.hid (HNO.out (HB.out))
            go_wp2_with (refine wpList_store_row rfl 76 _ _ rfl M (KNC knZ none 0 0) rfl rfl 76 (KNC knZ none 0 0) (Y2.out.blk 0 rfl) (by kernel_rfl) rfl (KNC.one _ _ _ _) ?_)
            have YB := Lib.hid (Y2.out.setR 0 rfl (KNC knZ none 0 0))
            refine bodyPost_ret (results_cell_tmp1r rfl _ _ M 76 (KNC knZ none 0 0) _ _ rfl (YB.out.blk 0 rfl) Try.underlying76 rfl (by kernel_rfl)) rfl ?_
            exact ⟨none, 0, 0, by rw [HF.out.1]; rfl, by rw [HF.out.1, HF.out.2]; rfl, by rw [HF.out.1]; exact ((SP.start w).next YB.out.bel).pushRow _ _⟩
        have t5 : (2 : Int) < (m : Int) := by omega
        by_cases hm2 : m ≤ 34
        case neg =>
          have HB := Lib.hid (HBAD.out (by rw [HT.out]; exact if_neg (fun x => by have := HMC.out; omega)))
          have t9 : ¬ (m : Int) ≤ 34 := by omega
          clear HGO HBAD hr8
          go_wp2_with fail
          go_loopw [] (fun wr2 => SP w wr2 [.blk M 76 (KNC knZ none 0 0), .blk KB 76 (KNC k Ab nb cb), .blk E 124 (seenA (S.set 5 true)), .row 93 2 Ab nb cb (prs k.bl)]) (fun _ => 0)
          case atStart => exact Y.out
          case round =>
            have Y2 := Lib.hid hrel
            clear hrel Y
            have HF := Lib.hid (HNO.out (HB.out))
            go_wp2_with (refine wpList_store_row rfl 76 _ _ rfl M (KNC knZ none 0 0) rfl rfl 76 (KNC knZ none 0 0) (Y2.out.blk 0 rfl) (by kernel_rfl) rfl (KNC.one _ _ _ _) ?_)
            have YB := Lib.hid (Y2.out.setR 0 rfl (KNC knZ none 0 0))
            refine bodyPost_ret (results_cell_tmp1r rfl _ _ M 76 (KNC knZ none 0 0) _ _ rfl (YB.out.blk 0 rfl) Try.underlying76 rfl (by kernel_rfl)) rfl ?_
            exact ⟨none, 0, 0, by rw [HF.out.1]; rfl, by rw [HF.out.1, HF.out.2]; rfl, by rw [HF.out.1]; exact ((SP.start w).next YB.out.bel).pushRow _ _⟩
        have t6 : (m : Int) ≤ 34 := by omega
        by_cases hm3 : r8 = 0
        case neg =>
          have HB := Lib.hid (HBAD.out (by rw [HT.out]; exact if_neg (fun x => by have := HMC.out; omega)))
          have t9 : ((r8 : Int) == 0) = false := by simp; omega
          clear HGO HBAD hr8
          go_wp2_with fail
          go_loopw [] (fun wr2 => SP w wr2 [.blk M 76 (KNC knZ none 0 0), .blk KB 76 (KNC k Ab nb cb), .blk E 124 (seenA (S.set 5 true)), .row 93 2 Ab nb cb (prs k.bl)]) (fun _ => 0)
          case atStart => exact Y.out
          case round =>
            have Y2 := Lib.hid hrel
            clear hrel Y
            have HF := Lib.hid (HNO.out (HB.out))
            go_wp2_with (refine wpList_store_row rfl 76 _ _ rfl M (KNC knZ none 0 0) rfl rfl 76 (KNC knZ none 0 0) (Y2.out.blk 0 rfl) (by kernel_rfl) rfl (KNC.one _ _ _ _) ?_)
            have YB := Lib.hid (Y2.out.setR 0 rfl (KNC knZ none 0 0))
            refine bodyPost_ret (results_cell_tmp1r rfl _ _ M 76 (KNC knZ none 0 0) _ _ rfl (YB.out.blk 0 rfl) Try.underlying76 rfl (by kernel_rfl)) rfl ?_
            exact ⟨none, 0, 0, by rw [HF.out.1]; rfl, by rw [HF.out.1, HF.out.2]; rfl, by rw [HF.out.1]; exact ((SP.start w).next YB.out.bel).pushRow _ _⟩
        subst hm3
        obtain ⟨Q, hQ⟩ : ∃ Q, cn = 8 * Q := ⟨cn / 8, by omega⟩
        have HG := Lib.hid (HGO.out (KN.mk k.mss k.sc k.sel k.st k.ts k.ec (blocksOf Q Cz)) (by rw [HT.out, if_pos ⟨by have := HMC.out; omega, hr8, by have := HMC.out; omega⟩, show cn / 8 = Q by omega]))
        have HSE := Lib.hid (show SEEN (KN.mk k.mss k.sc k.sel k.st k.ts k.ec (blocksOf Q Cz)) (S.set 5 true) from HS.out.five (fun h => by have := congrArg List.length h; rw [blocksOf_len] at this; simp at this; have := HMC.out; omega))
        have HNB0 := Lib.hid (show nb = 0 by rw [HNB.out, HSV.out]; rfl)
        have Y0 := Lib.hid (show SP w wv [.blk M 76 (KNC knZ none 0 0), .blk KB 76 (KNC (KN.mk k.mss k.sc k.sel k.st k.ts k.ec (blocksOf 0 Cz)) Ab 0 cb), .blk E 124 (seenA (S.set 5 true)), .row 93 2 Ab 0 cb (prs (KN.mk k.mss k.sc k.sel k.st k.ts k.ec (blocksOf 0 Cz)).bl)] by
          have h0 : nb = 0 := HNB0.out
          have h := Y.out
          rw [h0] at h
          have hk : ((KN.mk k.mss k.sc k.sel k.st k.ts k.ec (blocksOf 0 Cz)) : KN) = k := by
            have := HSV.out
            cases k; simp at this; subst this; rfl
          rw [hk]; exact h)
        have hQ4 : Q ≤ 4 := by have := HMC.out; omega
        have HQC := Lib.hid hQ
        clear HGO HBAD hr8 HT Y HNB0 hQ
        go_wp2_with fail
        go_loopw [12] (fun s12 wr2 => ∃ (j : Nat) (Ar : Option Addr) (cr : Nat), j ≤ Q ∧ s12 = .int .i64 (8 * (j : Int)) ∧ SP w wr2 [.blk M 76 (KNC knZ none 0 0), .blk KB 76 (KNC (KN.mk k.mss k.sc k.sel k.st k.ts k.ec (blocksOf j Cz)) Ar j cr), .blk E 124 (seenA (S.set 5 true)), .row 93 2 Ar j cr (prs (KN.mk k.mss k.sc k.sel k.st k.ts k.ec (blocksOf j Cz)).bl)]) (fun s12 _ => (8 * (Q : Int) - intOf s12).toNat)
        case atStart => exact ⟨0, Ab, cb, by omega, rfl, Y0.out⟩
        case round =>
          obtain ⟨j, Ar, cr, hj, rfl, hX⟩ := hrel
          have X := Lib.hid hX
          clear hX Y0
          by_cases hjq : j = Q
          · subst hjq
            have o5 : ¬ (8 * (j : Int)) < (cn : Int) := by have := HQC.out; omega
            go_wp2_with fail
            go_roundw
            case rel => exact ⟨i + m, (KN.mk k.mss k.sc k.sel k.st k.ts k.ec (blocksOf j Cz)), Ar, j, cr, S.set 5 true, by omega, by go_num, (blocksOf_len j Cz).symm, HG.out, HSE.out, X.out⟩
            case measure => simp [intOf]; omega
          have o5 : (8 * (j : Int)) < (cn : Int) := by have := HQC.out; omega
          have o7 : 8 * j + 8 ≤ cn := by have := HQC.out; omega
          have o6 : (0 : Int) ≤ 8 * (j : Int) := by omega
          have e84 : IntKind.i64.wrap (8 * (j : Int) + 4) = 8 * (j : Int) + 4 := IntWalk.i64_in _ (by omega)
          have e88 : IntKind.i64.wrap (8 * (j : Int) + 8) = 8 * (j : Int) + 8 := IntWalk.i64_in _ (by omega)
          have s1 : ∀ W, (Instr.slice 22 (.slice Ac cn cc) (some (.int .i64 (8 * (j : Int)))) (some (.int .i64 (8 * (j : Int) + 4))) none).run Try.prog W = .ok (.slice (cutA Ac cc (8 * j)) 4 (cc - 8 * j)) W := fun W => by
            have h := run_slice_lohi (P := Try.prog) W Try.underlying22 hi hz1 Ac cn cc (8 * (j : Int)) (8 * (j : Int) + 4) (8 * j) (8 * j + 4) (by omega) (by omega) (by omega) (by omega)
            rwa [show 8 * j + 4 - 8 * j = 4 by omega] at h
          have s2 : ∀ W, (Instr.slice 22 (.slice Ac cn cc) (some (.int .i64 (8 * (j : Int) + 4))) (some (.int .i64 (8 * (j : Int) + 8))) none).run Try.prog W = .ok (.slice (cutA Ac cc (8 * j + 4)) 4 (cc - (8 * j + 4))) W := fun W => by
            have h := run_slice_lohi (P := Try.prog) W Try.underlying22 hi hz1 Ac cn cc (8 * (j : Int) + 4) (8 * (j : Int) + 8) (8 * j + 4) (8 * j + 8) (by omega) (by omega) (by omega) (by omega)
            rwa [show 8 * j + 8 - (8 * j + 4) = 4 by omega] at h
          have RC1 := Lib.hid (fun (W : World) (hb : Below w.heap.size w W) => (show RD .u8 W W.heap.size (cutA Ac cc (8 * j)) 4 ((Cz.drop (8 * j)).take 4) by
            have h := (RC.out W hb).mid (lo := 8 * j) (hi := 8 * j + 4) (by omega) (by omega) (by omega)
            rwa [show 8 * j + 4 - 8 * j = 4 by omega] at h))
          have RC2 := Lib.hid (fun (W : World) (hb : Below w.heap.size w W) => (show RD .u8 W W.heap.size (cutA Ac cc (8 * j + 4)) 4 ((Cz.drop (8 * j + 4)).take 4) by
            have h := (RC.out W hb).mid (lo := 8 * j + 4) (hi := 8 * j + 8) (by omega) (by omega) (by omega)
            rwa [show 8 * j + 8 - (8 * j + 4) = 4 by omega] at h))
          have hu := lng_bd HCB.out (8 * j)
          have hv := lng_bd HCB.out (8 * j + 4)
          have HN1 := Lib.hid (show numZ ((Cz.drop (8 * j)).take 4) = lng Cz (8 * j) by rw [numZ4 (by have := HCL.out; simp; omega), lng_take (by omega), lng_drop, Nat.add_zero])
          have HN2 := Lib.hid (show numZ ((Cz.drop (8 * j + 4)).take 4) = lng Cz (8 * j + 4) by rw [numZ4 (by have := HCL.out; simp; omega), lng_take (by omega), lng_drop, Nat.add_zero])
          have HBS := Lib.hid (blocksOf_snoc j Cz)
          generalize lng Cz (8 * j) = u at *
          generalize lng Cz (8 * j + 4) = v at *
          obtain ⟨A1, hA1⟩ : ∃ x, cutA Ac cc (8 * j) = x := ⟨_, rfl⟩
          obtain ⟨A2, hA2⟩ : ∃ x, cutA Ac cc (8 * j + 4) = x := ⟨_, rfl⟩
          obtain ⟨c1, hc1⟩ : ∃ x, cc - 8 * j = x := ⟨_, rfl⟩
          obtain ⟨c2, hc2⟩ : ∃ x, cc - (8 * j + 4) = x := ⟨_, rfl⟩
          rw [hA1, hc1] at s1
          rw [hA1] at RC1
          rw [hA2, hc2] at s2
          rw [hA2] at RC2
          have e8 : IntKind.u32.wrap u = u := u32_in _ (by omega) (by omega)
          have e9 : IntKind.u32.wrap v = v := u32_in _ (by omega) (by omega)
          obtain ⟨i2, hi2, hy0, hy1, hy2⟩ := info_parts infoPair
          clear hA1 hA2 hc1 hc2 hu hv
          go_upto_region 37 with fail
          refine wp_region_noPanic ?_
          refine wp_region_held_drew (S := fun _ => True) (by kernel_rfl) (by trivial) (fun hHeld => ?_)
          have X0 := Lib.hid X.out.drew
          generalize wr.drew = v0 at X0 hHeld ⊢
          refine' take_lit (i := 0) (v := _) rfl (by kernel_rfl) (by kernel_rfl) (by kernel_rfl) (fun _ _ _ h => h) (Or.inl ⟨by rfl, ?yy1⟩) (by assumption) ?rr1
          case yy1 => intro w' hSw; (try dsimp only at hSw); go_simp; try (with_reducible rfl)
          (try simp only [Act.put]); (try simp only [List.setIfInBounds_toArray, List.set_cons_zero, List.set_cons_succ])
          refine' take_lit (i := 2) (v := _) rfl (by kernel_rfl) (by kernel_rfl) (by kernel_rfl) (fun _ _ _ h => h) (Or.inl ⟨by rfl, ?yy2⟩) (by assumption) ?rr2
          case yy2 => intro w' hSw; (try dsimp only at hSw); go_simp; try (with_reducible rfl)
          (try simp only [Act.put]); (try simp only [List.setIfInBounds_toArray, List.set_cons_zero, List.set_cons_succ])
          refine' take_lit (i := 3) (v := _) rfl (by kernel_rfl) (by kernel_rfl) (by kernel_rfl) (fun _ _ _ h => h) (Or.inl ⟨by rfl, ?yy3⟩) (by assumption) ?rr3
          case yy3 => intro w' hSw; (try dsimp only at hSw); go_simp; try (with_reducible rfl)
          (try simp only [Act.put]); (try simp only [List.setIfInBounds_toArray, List.set_cons_zero, List.set_cons_succ])
          refine' take_lit (i := 4) (v := _) rfl (by kernel_rfl) (by kernel_rfl) (by kernel_rfl) (fun _ _ _ h => h) (Or.inl ⟨by rfl, ?yy4⟩) (by assumption) ?rr4
          case yy4 => intro w' hSw; (try dsimp only at hSw); go_simp; try (with_reducible rfl)
          (try simp only [Act.put]); (try simp only [List.setIfInBounds_toArray, List.set_cons_zero, List.set_cons_succ])
          refine' take_lit (i := 5) (v := _) rfl (by kernel_rfl) (by kernel_rfl) (by kernel_rfl) (fun _ _ _ h => h) (Or.inl ⟨by rfl, ?yy5⟩) (by assumption) ?rr5
          case yy5 => intro w' hSw; (try dsimp only at hSw); go_simp; try (with_reducible rfl)
          (try simp only [Act.put]); (try simp only [List.setIfInBounds_toArray, List.set_cons_zero, List.set_cons_succ])
          refine' take_lit (i := 6) (v := _) rfl (by kernel_rfl) (by kernel_rfl) (by kernel_rfl) (fun _ _ _ h => h) (Or.inl ⟨by rfl, ?yy6⟩) (by assumption) ?rr6
          case yy6 => intro w' hSw; (try dsimp only at hSw); go_simp; try (with_reducible rfl)
          (try simp only [Act.put]); (try simp only [List.setIfInBounds_toArray, List.set_cons_zero, List.set_cons_succ])
          refine' take_lit (i := 9) (v := _) rfl (by kernel_rfl) (by kernel_rfl) (by kernel_rfl) (fun _ _ _ h => h) (Or.inl ⟨by rfl, ?yy7⟩) (by assumption) ?rr7
          case yy7 => intro w' hSw; (try dsimp only at hSw); go_simp; try (with_reducible rfl)
          (try simp only [Act.put]); (try simp only [List.setIfInBounds_toArray, List.set_cons_zero, List.set_cons_succ])
          refine' take_lit (i := 10) (v := _) rfl (by kernel_rfl) (by kernel_rfl) (by kernel_rfl) (fun _ _ _ h => h) (Or.inl ⟨by rfl, ?yy8⟩) (by assumption) ?rr8
          case yy8 => intro w' hSw; (try dsimp only at hSw); go_simp; try (with_reducible rfl)
          (try simp only [Act.put]); (try simp only [List.setIfInBounds_toArray, List.set_cons_zero, List.set_cons_succ])
          refine' take_lit (i := 11) (v := _) rfl (by kernel_rfl) (by kernel_rfl) (by kernel_rfl) (fun _ _ _ h => h) (Or.inl ⟨by rfl, ?yy9⟩) (by assumption) ?rr9
          case yy9 => intro w' hSw; (try dsimp only at hSw); go_simp; try (with_reducible rfl)
          (try simp only [Act.put]); (try simp only [List.setIfInBounds_toArray, List.set_cons_zero, List.set_cons_succ])
          refine' take_lit (i := 12) (v := _) rfl (by kernel_rfl) (by kernel_rfl) (by kernel_rfl) (fun _ _ _ h => h) (Or.inl ⟨by rfl, ?yy10⟩) (by assumption) ?rr10
          case yy10 => intro w' hSw; (try dsimp only at hSw); go_simp; try (with_reducible rfl)
          (try simp only [Act.put]); (try simp only [List.setIfInBounds_toArray, List.set_cons_zero, List.set_cons_succ])
          refine' take_lit (i := 13) (v := _) rfl (by kernel_rfl) (by kernel_rfl) (by kernel_rfl) (fun _ _ _ h => h) (Or.inl ⟨by rfl, ?yy11⟩) (by assumption) ?rr11
          case yy11 => intro w' hSw; (try dsimp only at hSw); go_simp; try (with_reducible rfl)
          (try simp only [Act.put]); (try simp only [List.setIfInBounds_toArray, List.set_cons_zero, List.set_cons_succ])
          refine' take_lit (i := 14) (v := _) rfl (by kernel_rfl) (by kernel_rfl) (by kernel_rfl) (fun _ _ _ h => h) (Or.inl ⟨by rfl, ?yy12⟩) (by assumption) ?rr12
          case yy12 => intro w' hSw; (try dsimp only at hSw); go_simp; try (with_reducible rfl)
          (try simp only [Act.put]); (try simp only [List.setIfInBounds_toArray, List.set_cons_zero, List.set_cons_succ])
          refine wpAnyH_ready (rs := [1, 7]) (by kernel_rfl) (by simp) ?_
          refine cons_lit rfl (fun K hK => ?ss1x13) (cons_lit rfl (fun K hK => ?ss7x13) AllReadyH.nil)
          case ss1x13 =>
            have y1 : v0.cell? ⟨KB, 6, none⟩ = some (.slice Ar j cr) := X0.out.cell 1 rfl 6 rfl
            go_simp
            clear y1
            refine hK.out _ _ (by trivial) (fun hHeld => ?_)
            clear hK K
            (try simp only [Act.put]); (try simp only [List.setIfInBounds_toArray, List.set_cons_zero, List.set_cons_succ])
            refine wpAnyH_ready (rs := [7]) (by kernel_rfl) (by simp) ?_
            refine cons_lit rfl (fun K hK => ?ss7x14) AllReadyH.nil
            case ss7x14 =>
              go_simp
              refine (r8number_any A1 4 c1 ((Cz.drop (8 * j)).take 4) _ (RC1.out _ X0.out.bel) ((HCB.out.drop _).take _) (by decide)).mono ?_
              rintro e vx ⟨rfl, hvx⟩
              subst hvx
              rw [HN1.out]
              refine hK.out _ _ (by trivial) (fun hHeld => ?_)
              clear hK K
              (try simp only [Act.put]); (try simp only [List.setIfInBounds_toArray, List.set_cons_zero, List.set_cons_succ])
              refine' take_lit (i := 8) (v := _) rfl (by kernel_rfl) (by kernel_rfl) (by kernel_rfl) (fun _ _ _ h => h) (Or.inl ⟨by rfl, ?yy15⟩) (by assumption) ?rr15
              case yy15 => intro w' hSw; (try dsimp only at hSw); go_simp; try (with_reducible rfl)
              (try simp only [Act.put]); (try simp only [List.setIfInBounds_toArray, List.set_cons_zero, List.set_cons_succ])
              refine wpAnyH_ready (rs := [15]) (by kernel_rfl) (by simp) ?_
              refine cons_lit rfl (fun K hK => ?ss15x16) AllReadyH.nil
              case ss15x16 =>
                go_simp
                refine (r8number_any A2 4 c2 ((Cz.drop (8 * j + 4)).take 4) _ (RC2.out _ X0.out.bel) ((HCB.out.drop _).take _) (by decide)).mono ?_
                rintro e vx ⟨rfl, hvx⟩
                subst hvx
                rw [HN2.out]
                refine hK.out _ _ (by trivial) (fun hHeld => ?_)
                clear hK K
                (try simp only [Act.put]); (try simp only [List.setIfInBounds_toArray, List.set_cons_zero, List.set_cons_succ])
                refine' take_lit (i := 16) (v := _) rfl (by kernel_rfl) (by kernel_rfl) (by kernel_rfl) (fun _ _ _ h => h) (Or.inl ⟨by rfl, ?yy17⟩) (by assumption) ?rr17
                case yy17 => intro w' hSw; (try dsimp only at hSw); go_simp; try (with_reducible rfl)
                (try simp only [Act.put]); (try simp only [List.setIfInBounds_toArray, List.set_cons_zero, List.set_cons_succ])
                refine' take_lit (i := 17) (v := _) rfl (by kernel_rfl) (by kernel_rfl) (by kernel_rfl) (fun _ _ _ h => h) (Or.inl ⟨by rfl, ?yy18⟩) (by assumption) ?rr18
                case yy18 => intro w' hSw; (try dsimp only at hSw); go_simp; try (with_reducible rfl)
                (try simp only [Act.put]); (try simp only [List.setIfInBounds_toArray, List.set_cons_zero, List.set_cons_succ])
                refine wpAnyH_ready (rs := [18]) (by kernel_rfl) (by simp) ?_
                refine cons_lit rfl (fun K hK => ?ss18x19) AllReadyH.nil
                case ss18x19 =>
                  go_simp
                  obtain ⟨gp, hgp⟩ : ∃ g, g = v0.heap.size := ⟨_, rfl⟩
                  rw [← hgp]
                  refine nameW (fun v4 hv => ?_)
                  have X4 := Lib.hid (show SP w v4 _ by rw [hv]; exact X0.out.next ((Below.refl _ v0).alloc (Nat.le_refl _) _))
                  have BP := Lib.hid (show ∀ (j : Nat) (x : Value), [Value.int .u32 u, .int .u32 v][j]? = some x → v4.cell? ((⟨gp, 0, none⟩ : Addr).add j) = some x by
                    intro j x hx
                    have hb : BLOCK v4 gp 93 #[.int .u32 u, .int .u32 v] := by rw [hv]; exact BLOCK.new' v0 93 _ hgp.symm
                    exact pair_cells hb j x hx)
                  clear hv hgp
                  refine hK.out _ _ (by trivial) (fun hHeld => ?_)
                  clear hK K
                  (try simp only [Act.put]); (try simp only [List.setIfInBounds_toArray, List.set_cons_zero, List.set_cons_succ])
                  refine wpAnyH_ready (rs := [19]) (by kernel_rfl) (by simp) ?_
                  refine cons_lit rfl (fun K hK => ?ss19x20) AllReadyH.nil
                  case ss19x20 =>
                    refine step_append_row _ (by rfl) _ _ 30 (by rfl) w.heap.size 93 i2 _ 2 8 Try.underlying30 hi2 hy0 hy1 hy2 (by rfl) (by decide) Ar j cr (prs (blocksOf j Cz)) (by rfl) (by exact X4.out.row 3 rfl) ⟨gp, 0, none⟩ 1 1 [.int .u32 u, .int .u32 v] (by rfl) (by rfl) (by exact BP.out) (by intro z hz; simp at hz; rcases hz with rfl | rfl <;> rfl) (by simp only [maxLen]; omega) (by omega) (by exact X4.out.size) ?_
                    intro Ar' cr' v5 hrow hgrow hat
                    have X5 := Lib.hid (X4.out.appRow 3 rfl hrow hgrow hat)
                    clear hrow hgrow hat
                    refine hK.out _ _ (by trivial) (fun hHeld => ?_)
                    clear hK K
                    (try simp only [Act.put]); (try simp only [List.setIfInBounds_toArray, List.set_cons_zero, List.set_cons_succ])
                    refine' take_lit (i := 20) (v := _) rfl (by kernel_rfl) (by kernel_rfl) (by kernel_rfl) (fun _ _ _ h => h) (Or.inl ⟨by rfl, ?yy21⟩) (by assumption) ?rr21
                    case yy21 => intro w' hSw; (try dsimp only at hSw); go_simp; try (with_reducible rfl)
                    (try simp only [Act.put]); (try simp only [List.setIfInBounds_toArray, List.set_cons_zero, List.set_cons_succ])
                    refine wpAnyH_ready (rs := [21]) (by kernel_rfl) (by simp) ?_
                    refine cons_lit rfl (fun K hK => ?ss21x22) AllReadyH.nil
                    case ss21x22 =>
                      have yk : v5.cell? ⟨KB, 6, none⟩ = some (.slice Ar j cr) := X5.out.cell 1 rfl 6 rfl
                      have fk := X5.out.free 1 rfl 6
                      go_simp
                      have Z := Lib.hid (X5.out.setB 1 rfl 6 (.slice Ar' (j + 1) cr'))
                      clear yk fk
                      refine hK.out _ _ (by trivial) (fun hHeld => ?_)
                      clear hK K
                      (try simp only [Act.put]); (try simp only [List.setIfInBounds_toArray, List.set_cons_zero, List.set_cons_succ])
                      refine wpAnyH_done (by kernel_rfl) ?_ _
                      refine NoPanic.normal ?_
                      go_wp2_with fail
                      go_roundw
                      case rel => exact ⟨j + 1, Ar', cr', by omega, by go_num, by rw [HBS.out, prs_append]; exact Z.out⟩
                      case measure => simp [intOf]; omega
          case ss7x13 =>
            go_simp
            refine (r8number_any A1 4 c1 ((Cz.drop (8 * j)).take 4) _ (RC1.out _ X0.out.bel) ((HCB.out.drop _).take _) (by decide)).mono ?_
            rintro e vx ⟨rfl, hvx⟩
            subst hvx
            rw [HN1.out]
            refine hK.out _ _ (by trivial) (fun hHeld => ?_)
            clear hK K
            (try simp only [Act.put]); (try simp only [List.setIfInBounds_toArray, List.set_cons_zero, List.set_cons_succ])
            refine' take_lit (i := 8) (v := _) rfl (by kernel_rfl) (by kernel_rfl) (by kernel_rfl) (fun _ _ _ h => h) (Or.inl ⟨by rfl, ?yy23⟩) (by assumption) ?rr23
            case yy23 => intro w' hSw; (try dsimp only at hSw); go_simp; try (with_reducible rfl)
            (try simp only [Act.put]); (try simp only [List.setIfInBounds_toArray, List.set_cons_zero, List.set_cons_succ])
            refine wpAnyH_ready (rs := [1, 15]) (by kernel_rfl) (by simp) ?_
            refine cons_lit rfl (fun K hK => ?ss1x24) (cons_lit rfl (fun K hK => ?ss15x24) AllReadyH.nil)
            case ss1x24 =>
              have y6 : v0.cell? ⟨KB, 6, none⟩ = some (.slice Ar j cr) := X0.out.cell 1 rfl 6 rfl
              go_simp
              clear y6
              refine hK.out _ _ (by trivial) (fun hHeld => ?_)
              clear hK K
              (try simp only [Act.put]); (try simp only [List.setIfInBounds_toArray, List.set_cons_zero, List.set_cons_succ])
              refine wpAnyH_ready (rs := [15]) (by kernel_rfl) (by simp) ?_
              refine cons_lit rfl (fun K hK => ?ss15x25) AllReadyH.nil
              case ss15x25 =>
                go_simp
                refine (r8number_any A2 4 c2 ((Cz.drop (8 * j + 4)).take 4) _ (RC2.out _ X0.out.bel) ((HCB.out.drop _).take _) (by decide)).mono ?_
                rintro e vx ⟨rfl, hvx⟩
                subst hvx
                rw [HN2.out]
                refine hK.out _ _ (by trivial) (fun hHeld => ?_)
                clear hK K
                (try simp only [Act.put]); (try simp only [List.setIfInBounds_toArray, List.set_cons_zero, List.set_cons_succ])
                refine' take_lit (i := 16) (v := _) rfl (by kernel_rfl) (by kernel_rfl) (by kernel_rfl) (fun _ _ _ h => h) (Or.inl ⟨by rfl, ?yy26⟩) (by assumption) ?rr26
                case yy26 => intro w' hSw; (try dsimp only at hSw); go_simp; try (with_reducible rfl)
                (try simp only [Act.put]); (try simp only [List.setIfInBounds_toArray, List.set_cons_zero, List.set_cons_succ])
                refine' take_lit (i := 17) (v := _) rfl (by kernel_rfl) (by kernel_rfl) (by kernel_rfl) (fun _ _ _ h => h) (Or.inl ⟨by rfl, ?yy27⟩) (by assumption) ?rr27
                case yy27 => intro w' hSw; (try dsimp only at hSw); go_simp; try (with_reducible rfl)
                (try simp only [Act.put]); (try simp only [List.setIfInBounds_toArray, List.set_cons_zero, List.set_cons_succ])
                refine wpAnyH_ready (rs := [18]) (by kernel_rfl) (by simp) ?_
                refine cons_lit rfl (fun K hK => ?ss18x28) AllReadyH.nil
                case ss18x28 =>
                  go_simp
                  obtain ⟨gp, hgp⟩ : ∃ g, g = v0.heap.size := ⟨_, rfl⟩
                  rw [← hgp]
                  refine nameW (fun v8 hv => ?_)
                  have X8 := Lib.hid (show SP w v8 _ by rw [hv]; exact X0.out.next ((Below.refl _ v0).alloc (Nat.le_refl _) _))
                  have BP := Lib.hid (show ∀ (j : Nat) (x : Value), [Value.int .u32 u, .int .u32 v][j]? = some x → v8.cell? ((⟨gp, 0, none⟩ : Addr).add j) = some x by
                    intro j x hx
                    have hb : BLOCK v8 gp 93 #[.int .u32 u, .int .u32 v] := by rw [hv]; exact BLOCK.new' v0 93 _ hgp.symm
                    exact pair_cells hb j x hx)
                  clear hv hgp
                  refine hK.out _ _ (by trivial) (fun hHeld => ?_)
                  clear hK K
                  (try simp only [Act.put]); (try simp only [List.setIfInBounds_toArray, List.set_cons_zero, List.set_cons_succ])
                  refine wpAnyH_ready (rs := [19]) (by kernel_rfl) (by simp) ?_
                  refine cons_lit rfl (fun K hK => ?ss19x29) AllReadyH.nil
                  case ss19x29 =>
                    refine step_append_row _ (by rfl) _ _ 30 (by rfl) w.heap.size 93 i2 _ 2 8 Try.underlying30 hi2 hy0 hy1 hy2 (by rfl) (by decide) Ar j cr (prs (blocksOf j Cz)) (by rfl) (by exact X8.out.row 3 rfl) ⟨gp, 0, none⟩ 1 1 [.int .u32 u, .int .u32 v] (by rfl) (by rfl) (by exact BP.out) (by intro z hz; simp at hz; rcases hz with rfl | rfl <;> rfl) (by simp only [maxLen]; omega) (by omega) (by exact X8.out.size) ?_
                    intro Ar' cr' v9 hrow hgrow hat
                    have X9 := Lib.hid (X8.out.appRow 3 rfl hrow hgrow hat)
                    clear hrow hgrow hat
                    refine hK.out _ _ (by trivial) (fun hHeld => ?_)
                    clear hK K
                    (try simp only [Act.put]); (try simp only [List.setIfInBounds_toArray, List.set_cons_zero, List.set_cons_succ])
                    refine' take_lit (i := 20) (v := _) rfl (by kernel_rfl) (by kernel_rfl) (by kernel_rfl) (fun _ _ _ h => h) (Or.inl ⟨by rfl, ?yy30⟩) (by assumption) ?rr30
                    case yy30 => intro w' hSw; (try dsimp only at hSw); go_simp; try (with_reducible rfl)
                    (try simp only [Act.put]); (try simp only [List.setIfInBounds_toArray, List.set_cons_zero, List.set_cons_succ])
                    refine wpAnyH_ready (rs := [21]) (by kernel_rfl) (by simp) ?_
                    refine cons_lit rfl (fun K hK => ?ss21x31) AllReadyH.nil
                    case ss21x31 =>
                      have yk : v9.cell? ⟨KB, 6, none⟩ = some (.slice Ar j cr) := X9.out.cell 1 rfl 6 rfl
                      have fk := X9.out.free 1 rfl 6
                      go_simp
                      have Z := Lib.hid (X9.out.setB 1 rfl 6 (.slice Ar' (j + 1) cr'))
                      clear yk fk
                      refine hK.out _ _ (by trivial) (fun hHeld => ?_)
                      clear hK K
                      (try simp only [Act.put]); (try simp only [List.setIfInBounds_toArray, List.set_cons_zero, List.set_cons_succ])
                      refine wpAnyH_done (by kernel_rfl) ?_ _
                      refine NoPanic.normal ?_
                      go_wp2_with fail
                      go_roundw
                      case rel => exact ⟨j + 1, Ar', cr', by omega, by go_num, by rw [HBS.out, prs_append]; exact Z.out⟩
                      case measure => simp [intOf]; omega
            case ss15x24 =>
              go_simp
              refine (r8number_any A2 4 c2 ((Cz.drop (8 * j + 4)).take 4) _ (RC2.out _ X0.out.bel) ((HCB.out.drop _).take _) (by decide)).mono ?_
              rintro e vx ⟨rfl, hvx⟩
              subst hvx
              rw [HN2.out]
              refine hK.out _ _ (by trivial) (fun hHeld => ?_)
              clear hK K
              (try simp only [Act.put]); (try simp only [List.setIfInBounds_toArray, List.set_cons_zero, List.set_cons_succ])
              refine' take_lit (i := 16) (v := _) rfl (by kernel_rfl) (by kernel_rfl) (by kernel_rfl) (fun _ _ _ h => h) (Or.inl ⟨by rfl, ?yy32⟩) (by assumption) ?rr32
              case yy32 => intro w' hSw; (try dsimp only at hSw); go_simp; try (with_reducible rfl)
              (try simp only [Act.put]); (try simp only [List.setIfInBounds_toArray, List.set_cons_zero, List.set_cons_succ])
              refine' take_lit (i := 17) (v := _) rfl (by kernel_rfl) (by kernel_rfl) (by kernel_rfl) (fun _ _ _ h => h) (Or.inl ⟨by rfl, ?yy33⟩) (by assumption) ?rr33
              case yy33 => intro w' hSw; (try dsimp only at hSw); go_simp; try (with_reducible rfl)
              (try simp only [Act.put]); (try simp only [List.setIfInBounds_toArray, List.set_cons_zero, List.set_cons_succ])
              refine wpAnyH_ready (rs := [1, 18]) (by kernel_rfl) (by simp) ?_
              refine cons_lit rfl (fun K hK => ?ss1x34) (cons_lit rfl (fun K hK => ?ss18x34) AllReadyH.nil)
              case ss1x34 =>
                have y10 : v0.cell? ⟨KB, 6, none⟩ = some (.slice Ar j cr) := X0.out.cell 1 rfl 6 rfl
                go_simp
                clear y10
                refine hK.out _ _ (by trivial) (fun hHeld => ?_)
                clear hK K
                (try simp only [Act.put]); (try simp only [List.setIfInBounds_toArray, List.set_cons_zero, List.set_cons_succ])
                refine wpAnyH_ready (rs := [18]) (by kernel_rfl) (by simp) ?_
                refine cons_lit rfl (fun K hK => ?ss18x35) AllReadyH.nil
                case ss18x35 =>
                  go_simp
                  obtain ⟨gp, hgp⟩ : ∃ g, g = v0.heap.size := ⟨_, rfl⟩
                  rw [← hgp]
                  refine nameW (fun v11 hv => ?_)
                  have X11 := Lib.hid (show SP w v11 _ by rw [hv]; exact X0.out.next ((Below.refl _ v0).alloc (Nat.le_refl _) _))
                  have BP := Lib.hid (show ∀ (j : Nat) (x : Value), [Value.int .u32 u, .int .u32 v][j]? = some x → v11.cell? ((⟨gp, 0, none⟩ : Addr).add j) = some x by
                    intro j x hx
                    have hb : BLOCK v11 gp 93 #[.int .u32 u, .int .u32 v] := by rw [hv]; exact BLOCK.new' v0 93 _ hgp.symm
                    exact pair_cells hb j x hx)
                  clear hv hgp
                  refine hK.out _ _ (by trivial) (fun hHeld => ?_)
                  clear hK K
                  (try simp only [Act.put]); (try simp only [List.setIfInBounds_toArray, List.set_cons_zero, List.set_cons_succ])
                  refine wpAnyH_ready (rs := [19]) (by kernel_rfl) (by simp) ?_
                  refine cons_lit rfl (fun K hK => ?ss19x36) AllReadyH.nil
                  case ss19x36 =>
                    refine step_append_row _ (by rfl) _ _ 30 (by rfl) w.heap.size 93 i2 _ 2 8 Try.underlying30 hi2 hy0 hy1 hy2 (by rfl) (by decide) Ar j cr (prs (blocksOf j Cz)) (by rfl) (by exact X11.out.row 3 rfl) ⟨gp, 0, none⟩ 1 1 [.int .u32 u, .int .u32 v] (by rfl) (by rfl) (by exact BP.out) (by intro z hz; simp at hz; rcases hz with rfl | rfl <;> rfl) (by simp only [maxLen]; omega) (by omega) (by exact X11.out.size) ?_
                    intro Ar' cr' v12 hrow hgrow hat
                    have X12 := Lib.hid (X11.out.appRow 3 rfl hrow hgrow hat)
                    clear hrow hgrow hat
                    refine hK.out _ _ (by trivial) (fun hHeld => ?_)
                    clear hK K
                    (try simp only [Act.put]); (try simp only [List.setIfInBounds_toArray, List.set_cons_zero, List.set_cons_succ])
                    refine' take_lit (i := 20) (v := _) rfl (by kernel_rfl) (by kernel_rfl) (by kernel_rfl) (fun _ _ _ h => h) (Or.inl ⟨by rfl, ?yy37⟩) (by assumption) ?rr37
                    case yy37 => intro w' hSw; (try dsimp only at hSw); go_simp; try (with_reducible rfl)
                    (try simp only [Act.put]); (try simp only [List.setIfInBounds_toArray, List.set_cons_zero, List.set_cons_succ])
                    refine wpAnyH_ready (rs := [21]) (by kernel_rfl) (by simp) ?_
                    refine cons_lit rfl (fun K hK => ?ss21x38) AllReadyH.nil
                    case ss21x38 =>
                      have yk : v12.cell? ⟨KB, 6, none⟩ = some (.slice Ar j cr) := X12.out.cell 1 rfl 6 rfl
                      have fk := X12.out.free 1 rfl 6
                      go_simp
                      have Z := Lib.hid (X12.out.setB 1 rfl 6 (.slice Ar' (j + 1) cr'))
                      clear yk fk
                      refine hK.out _ _ (by trivial) (fun hHeld => ?_)
                      clear hK K
                      (try simp only [Act.put]); (try simp only [List.setIfInBounds_toArray, List.set_cons_zero, List.set_cons_succ])
                      refine wpAnyH_done (by kernel_rfl) ?_ _
                      refine NoPanic.normal ?_
                      go_wp2_with fail
                      go_roundw
                      case rel => exact ⟨j + 1, Ar', cr', by omega, by go_num, by rw [HBS.out, prs_append]; exact Z.out⟩
                      case measure => simp [intOf]; omega
              case ss18x34 =>
                go_simp
                obtain ⟨gp, hgp⟩ : ∃ g, g = v0.heap.size := ⟨_, rfl⟩
                rw [← hgp]
                refine nameW (fun v10 hv => ?_)
                have X10 := Lib.hid (show SP w v10 _ by rw [hv]; exact X0.out.next ((Below.refl _ v0).alloc (Nat.le_refl _) _))
                have BP := Lib.hid (show ∀ (j : Nat) (x : Value), [Value.int .u32 u, .int .u32 v][j]? = some x → v10.cell? ((⟨gp, 0, none⟩ : Addr).add j) = some x by
                  intro j x hx
                  have hb : BLOCK v10 gp 93 #[.int .u32 u, .int .u32 v] := by rw [hv]; exact BLOCK.new' v0 93 _ hgp.symm
                  exact pair_cells hb j x hx)
                clear hv hgp
                refine hK.out _ _ (by trivial) (fun hHeld => ?_)
                clear hK K
                (try simp only [Act.put]); (try simp only [List.setIfInBounds_toArray, List.set_cons_zero, List.set_cons_succ])
                refine wpAnyH_ready (rs := [1]) (by kernel_rfl) (by simp) ?_
                refine cons_lit rfl (fun K hK => ?ss1x39) AllReadyH.nil
                case ss1x39 =>
                  have y13 : v10.cell? ⟨KB, 6, none⟩ = some (.slice Ar j cr) := X10.out.cell 1 rfl 6 rfl
                  go_simp
                  clear y13
                  refine hK.out _ _ (by trivial) (fun hHeld => ?_)
                  clear hK K
                  (try simp only [Act.put]); (try simp only [List.setIfInBounds_toArray, List.set_cons_zero, List.set_cons_succ])
                  refine wpAnyH_ready (rs := [19]) (by kernel_rfl) (by simp) ?_
                  refine cons_lit rfl (fun K hK => ?ss19x40) AllReadyH.nil
                  case ss19x40 =>
                    refine step_append_row _ (by rfl) _ _ 30 (by rfl) w.heap.size 93 i2 _ 2 8 Try.underlying30 hi2 hy0 hy1 hy2 (by rfl) (by decide) Ar j cr (prs (blocksOf j Cz)) (by rfl) (by exact X10.out.row 3 rfl) ⟨gp, 0, none⟩ 1 1 [.int .u32 u, .int .u32 v] (by rfl) (by rfl) (by exact BP.out) (by intro z hz; simp at hz; rcases hz with rfl | rfl <;> rfl) (by simp only [maxLen]; omega) (by omega) (by exact X10.out.size) ?_
                    intro Ar' cr' v14 hrow hgrow hat
                    have X14 := Lib.hid (X10.out.appRow 3 rfl hrow hgrow hat)
                    clear hrow hgrow hat
                    refine hK.out _ _ (by trivial) (fun hHeld => ?_)
                    clear hK K
                    (try simp only [Act.put]); (try simp only [List.setIfInBounds_toArray, List.set_cons_zero, List.set_cons_succ])
                    refine' take_lit (i := 20) (v := _) rfl (by kernel_rfl) (by kernel_rfl) (by kernel_rfl) (fun _ _ _ h => h) (Or.inl ⟨by rfl, ?yy41⟩) (by assumption) ?rr41
                    case yy41 => intro w' hSw; (try dsimp only at hSw); go_simp; try (with_reducible rfl)
                    (try simp only [Act.put]); (try simp only [List.setIfInBounds_toArray, List.set_cons_zero, List.set_cons_succ])
                    refine wpAnyH_ready (rs := [21]) (by kernel_rfl) (by simp) ?_
                    refine cons_lit rfl (fun K hK => ?ss21x42) AllReadyH.nil
                    case ss21x42 =>
                      have yk : v14.cell? ⟨KB, 6, none⟩ = some (.slice Ar j cr) := X14.out.cell 1 rfl 6 rfl
                      have fk := X14.out.free 1 rfl 6
                      go_simp
                      have Z := Lib.hid (X14.out.setB 1 rfl 6 (.slice Ar' (j + 1) cr'))
                      clear yk fk
                      refine hK.out _ _ (by trivial) (fun hHeld => ?_)
                      clear hK K
                      (try simp only [Act.put]); (try simp only [List.setIfInBounds_toArray, List.set_cons_zero, List.set_cons_succ])
                      refine wpAnyH_done (by kernel_rfl) ?_ _
                      refine NoPanic.normal ?_
                      go_wp2_with fail
                      go_roundw
                      case rel => exact ⟨j + 1, Ar', cr', by omega, by go_num, by rw [HBS.out, prs_append]; exact Z.out⟩
                      case measure => simp [intOf]; omega
    have n5 := hqq
    clear hqq
    by_cases hqq : q = 8
    case pos =>
      subst hqq
      have zs_ : wr.cell? ⟨E, 8, none⟩ = some (.bool (S[8]?.getD false)) := ((X.out.blk 2 rfl).cell 8).trans (seenA_get HS.out.len 8 (by omega))
      have ds_ := X.out.free 2 rfl 8
      obtain ⟨sb, hsb⟩ : ∃ sb, S[8]?.getD false = sb := ⟨_, rfl⟩
      rw [hsb] at zs_
      cases sb with
      | true =>
        have hsv : k.st = true := HS.out.s8.symm.trans hsb
        have HB := Lib.hid (HBAD.out (by unfold take1; rw [if_neg (by decide), if_neg (by decide), if_neg (by decide), if_neg (by decide), if_pos rfl]; exact if_neg (fun h => by rw [hsv] at h; exact Bool.noConfusion h.2)))
        clear hsb hsv HGO HBAD
        have HF := Lib.hid (HNO.out (HB.out))
        go_wp2_with (refine wpList_store_row rfl 76 _ _ rfl M (KNC knZ none 0 0) rfl rfl 76 (KNC knZ none 0 0) (X.out.blk 0 rfl) (by kernel_rfl) rfl (KNC.one _ _ _ _) ?_)
        have YB := Lib.hid (X.out.setR 0 rfl (KNC knZ none 0 0))
        refine bodyPost_ret (results_cell_tmp1r rfl _ _ M 76 (KNC knZ none 0 0) _ _ rfl (YB.out.blk 0 rfl) Try.underlying76 rfl (by kernel_rfl)) rfl ?_
        exact ⟨none, 0, 0, by rw [HF.out.1]; rfl, by rw [HF.out.1, HF.out.2]; rfl, by rw [HF.out.1]; exact ((SP.start w).next YB.out.bel).pushRow _ _⟩
      | false =>
        have HSV := Lib.hid (show k.st = false from HS.out.s8.symm.trans hsb)
        have Y := Lib.hid (show SP w (wr.setCell ⟨E, 8, none⟩ (.bool true)) [.blk M 76 (KNC knZ none 0 0), .blk KB 76 (KNC k Ab nb cb), .blk E 124 (seenA (S.set 8 true)), .row 93 2 Ab nb cb (prs k.bl)] by have h := X.out.setB 2 rfl 8 (.bool true); rw [seenA_set] at h; exact h)
        clear hsb
        go_upto_region 17 with fail
        generalize wr.setCell ⟨E, 8, none⟩ (.bool true) = wv at Y ⊢
        clear zs_ ds_ X z0 z1
        go_upto_region 20 with fail
        clear sl0 e1 e2 e3 e4 t2 t3 t4 o4 o5
        by_cases hm : m = 10
        case neg =>
          have HB := Lib.hid (HBAD.out (by unfold take1; rw [if_neg (by decide), if_neg (by decide), if_neg (by decide), if_neg (by decide), if_pos rfl]; exact if_neg (fun h => by have := HCL.out; have := HMC.out; omega)))
          have t9 : ((m : Int) == 10) = false := by simp; omega
          clear HGO HBAD
          have HF := Lib.hid (HNO.out (HB.out))
          go_wp2_with (refine wpList_store_row rfl 76 _ _ rfl M (KNC knZ none 0 0) rfl rfl 76 (KNC knZ none 0 0) (Y.out.blk 0 rfl) (by kernel_rfl) rfl (KNC.one _ _ _ _) ?_)
          have YB := Lib.hid (Y.out.setR 0 rfl (KNC knZ none 0 0))
          refine bodyPost_ret (results_cell_tmp1r rfl _ _ M 76 (KNC knZ none 0 0) _ _ rfl (YB.out.blk 0 rfl) Try.underlying76 rfl (by kernel_rfl)) rfl ?_
          exact ⟨none, 0, 0, by rw [HF.out.1]; rfl, by rw [HF.out.1, HF.out.2]; rfl, by rw [HF.out.1]; exact ((SP.start w).next YB.out.bel).pushRow _ _⟩
        have hcn2 : cn = 8 := by have := HMC.out; omega
        subst hm hcn2
        clear HMC
        have HG := Lib.hid (HGO.out (KN.mk k.mss k.sc k.sel true (lng Cz 0) (lng Cz 4) k.bl) (by unfold take1; rw [if_neg (by decide), if_neg (by decide), if_neg (by decide), if_neg (by decide), if_pos rfl]; exact if_pos ⟨HCL.out, HSV.out⟩))
        have HSE := Lib.hid (HS.out.eight (a := lng Cz 0) (b := lng Cz 4))
        have hu := lng_bd HCB.out 0
        have hv := lng_bd HCB.out 4
        have HN1 := Lib.hid (show numZ (Cz.take 4) = lng Cz 0 by rw [numZ4 (by have := HCL.out; simp; omega)]; exact lng_take (by omega))
        have HN2 := Lib.hid (show numZ (Cz.drop 4) = lng Cz 4 by rw [numZ4 (by have := HCL.out; simp; omega), lng_drop])
        have s4 := fun W => run_slice_lo (P := Try.prog) W Try.underlying22 hi hz1 Ac 8 cc 4 4 rfl (by omega)
        have s0 := fun W => run_slice_hi8 (P := Try.prog) W Try.underlying22 hi hz1 Ac 8 cc 4 4 rfl (by omega)
        have RC1 := Lib.hid (fun (W : World) (hb : Below w.heap.size w W) => (RC.out W hb).take (m := 4) (by omega))
        have RC2 := Lib.hid (fun (W : World) (hb : Below w.heap.size w W) => (RC.out W hb).cutA (lo := 4) (by omega) (by omega))
        generalize lng Cz 0 = u at *
        generalize lng Cz 4 = v at *
        obtain ⟨A4, hA4⟩ : ∃ x, cutA Ac cc 4 = x := ⟨_, rfl⟩
        rw [hA4] at s4 RC2
        obtain ⟨c4, hc4⟩ : ∃ x, cc - 4 = x := ⟨_, rfl⟩
        rw [hc4] at s4
        have e8 : IntKind.u32.wrap u = u := u32_in _ (by omega) (by omega)
        have e9 : IntKind.u32.wrap v = v := u32_in _ (by omega) (by omega)
        clear HGO HBAD hA4 hc4 hu hv
        go_upto_region 41 with fail
        refine wp_region_noPanic ?_
        refine wp_region_held_drew (S := fun _ => True) (by kernel_rfl) (by trivial) (fun hHeld => ?_)
        have Y0 := Lib.hid Y.out.drew
        generalize wv.drew = v0 at Y0 hHeld ⊢
        refine' take_lit (i := 0) (v := _) rfl (by kernel_rfl) (by kernel_rfl) (by kernel_rfl) (fun _ _ _ h => h) (Or.inl ⟨by rfl, ?yy43⟩) (by assumption) ?rr43
        case yy43 => intro w' hSw; (try dsimp only at hSw); go_simp; try (with_reducible rfl)
        (try simp only [Act.put]); (try simp only [List.setIfInBounds_toArray, List.set_cons_zero, List.set_cons_succ])
        refine' take_lit (i := 1) (v := _) rfl (by kernel_rfl) (by kernel_rfl) (by kernel_rfl) (fun _ _ _ h => h) (Or.inl ⟨by rfl, ?yy44⟩) (by assumption) ?rr44
        case yy44 => intro w' hSw; (try dsimp only at hSw); go_simp; try (with_reducible rfl)
        (try simp only [Act.put]); (try simp only [List.setIfInBounds_toArray, List.set_cons_zero, List.set_cons_succ])
        refine' take_lit (i := 4) (v := _) rfl (by kernel_rfl) (by kernel_rfl) (by kernel_rfl) (fun _ _ _ h => h) (Or.inl ⟨by rfl, ?yy45⟩) (by assumption) ?rr45
        case yy45 => intro w' hSw; (try dsimp only at hSw); go_simp; try (with_reducible rfl)
        (try simp only [Act.put]); (try simp only [List.setIfInBounds_toArray, List.set_cons_zero, List.set_cons_succ])
        refine' take_lit (i := 5) (v := _) rfl (by kernel_rfl) (by kernel_rfl) (by kernel_rfl) (fun _ _ _ h => h) (Or.inl ⟨by rfl, ?yy46⟩) (by assumption) ?rr46
        case yy46 => intro w' hSw; (try dsimp only at hSw); go_simp; try (with_reducible rfl)
        (try simp only [Act.put]); (try simp only [List.setIfInBounds_toArray, List.set_cons_zero, List.set_cons_succ])
        refine' take_lit (i := 8) (v := _) rfl (by kernel_rfl) (by kernel_rfl) (by kernel_rfl) (fun _ _ _ h => h) (Or.inl ⟨by rfl, ?yy47⟩) (by assumption) ?rr47
        case yy47 => intro w' hSw; (try dsimp only at hSw); go_simp; try (with_reducible rfl)
        (try simp only [Act.put]); (try simp only [List.setIfInBounds_toArray, List.set_cons_zero, List.set_cons_succ])
        refine wpAnyH_ready (rs := [2]) (by kernel_rfl) (by simp) ?_
        refine cons_lit rfl (fun K hK => ?ss2x48) AllReadyH.nil
        case ss2x48 =>
          go_simp
          refine (r8number_any Ac 4 cc (Cz.take 4) _ (RC1.out _ Y0.out.bel) (HCB.out.take _) (by decide)).mono ?_
          rintro e v1 ⟨rfl, hv1⟩
          subst hv1
          rw [HN1.out]
          refine hK.out _ _ (by trivial) (fun hHeld => ?_)
          clear hK K
          (try simp only [Act.put]); (try simp only [List.setIfInBounds_toArray, List.set_cons_zero, List.set_cons_succ])
          refine' take_lit (i := 3) (v := _) rfl (by kernel_rfl) (by kernel_rfl) (by kernel_rfl) (fun _ _ _ h => h) (Or.inl ⟨by rfl, ?yy49⟩) (by assumption) ?rr49
          case yy49 => intro w' hSw; (try dsimp only at hSw); go_simp; try (with_reducible rfl)
          (try simp only [Act.put]); (try simp only [List.setIfInBounds_toArray, List.set_cons_zero, List.set_cons_succ])
          refine wpAnyH_ready (rs := [6]) (by kernel_rfl) (by simp) ?_
          refine cons_lit rfl (fun K hK => ?ss6x50) AllReadyH.nil
          case ss6x50 =>
            go_simp
            refine (r8number_any A4 4 c4 (Cz.drop 4) _ (RC2.out _ Y0.out.bel) (HCB.out.drop _) (by decide)).mono ?_
            rintro e v1 ⟨rfl, hv1⟩
            subst hv1
            rw [HN2.out]
            refine hK.out _ _ (by trivial) (fun hHeld => ?_)
            clear hK K
            (try simp only [Act.put]); (try simp only [List.setIfInBounds_toArray, List.set_cons_zero, List.set_cons_succ])
            refine' take_lit (i := 7) (v := _) rfl (by kernel_rfl) (by kernel_rfl) (by kernel_rfl) (fun _ _ _ h => h) (Or.inl ⟨by rfl, ?yy51⟩) (by assumption) ?rr51
            case yy51 => intro w' hSw; (try dsimp only at hSw); go_simp; try (with_reducible rfl)
            (try simp only [Act.put]); (try simp only [List.setIfInBounds_toArray, List.set_cons_zero, List.set_cons_succ])
            refine wpAnyH_ready (rs := [9]) (by kernel_rfl) (by simp) ?_
            refine cons_lit rfl (fun K hK => ?ss9x52) AllReadyH.nil
            case ss9x52 =>
              have yk : v0.cell? ⟨KB, 3, none⟩ = some (.bool k.st) := Y0.out.cell 1 rfl 3 rfl
              have dk := Y0.out.free 1 rfl 3
              go_simp
              refine nameW (fun v1 hvv1 => ?_)
              have Y1 := Lib.hid (show SP w v1 _ by rw [hvv1]; exact Y0.out.setB 1 rfl 3 (.bool true))
              clear yk dk hvv1
              refine hK.out _ _ (by trivial) (fun hHeld => ?_)
              clear hK K
              (try simp only [Act.put]); (try simp only [List.setIfInBounds_toArray, List.set_cons_zero, List.set_cons_succ])
              refine' take_lit (i := 10) (v := _) rfl (by kernel_rfl) (by kernel_rfl) (by kernel_rfl) (fun _ _ _ h => h) (Or.inl ⟨by rfl, ?yy53⟩) (by assumption) ?rr53
              case yy53 => intro w' hSw; (try dsimp only at hSw); go_simp; try (with_reducible rfl)
              (try simp only [Act.put]); (try simp only [List.setIfInBounds_toArray, List.set_cons_zero, List.set_cons_succ])
              refine wpAnyH_ready (rs := [11]) (by kernel_rfl) (by simp) ?_
              refine cons_lit rfl (fun K hK => ?ss11x54) AllReadyH.nil
              case ss11x54 =>
                have yk : v1.cell? ⟨KB, 4, none⟩ = some (.int .u32 k.ts) := Y1.out.cell 1 rfl 4 rfl
                have dk := Y1.out.free 1 rfl 4
                go_simp
                refine nameW (fun v2 hvv2 => ?_)
                have Y2 := Lib.hid (show SP w v2 _ by rw [hvv2]; exact Y1.out.setB 1 rfl 4 (.int .u32 u))
                clear yk dk hvv2
                refine hK.out _ _ (by trivial) (fun hHeld => ?_)
                clear hK K
                (try simp only [Act.put]); (try simp only [List.setIfInBounds_toArray, List.set_cons_zero, List.set_cons_succ])
                refine' take_lit (i := 12) (v := _) rfl (by kernel_rfl) (by kernel_rfl) (by kernel_rfl) (fun _ _ _ h => h) (Or.inl ⟨by rfl, ?yy55⟩) (by assumption) ?rr55
                case yy55 => intro w' hSw; (try dsimp only at hSw); go_simp; try (with_reducible rfl)
                (try simp only [Act.put]); (try simp only [List.setIfInBounds_toArray, List.set_cons_zero, List.set_cons_succ])
                refine wpAnyH_ready (rs := [13]) (by kernel_rfl) (by simp) ?_
                refine cons_lit rfl (fun K hK => ?ss13x56) AllReadyH.nil
                case ss13x56 =>
                  have yk : v2.cell? ⟨KB, 5, none⟩ = some (.int .u32 k.ec) := Y2.out.cell 1 rfl 5 rfl
                  have dk := Y2.out.free 1 rfl 5
                  go_simp
                  refine nameW (fun v3 hvv3 => ?_)
                  have Y3 := Lib.hid (show SP w v3 _ by rw [hvv3]; exact Y2.out.setB 1 rfl 5 (.int .u32 v))
                  clear yk dk hvv3
                  refine hK.out _ _ (by trivial) (fun hHeld => ?_)
                  clear hK K
                  (try simp only [Act.put]); (try simp only [List.setIfInBounds_toArray, List.set_cons_zero, List.set_cons_succ])
                  refine wpAnyH_done (by kernel_rfl) ?_ _
                  refine NoPanic.normal ?_
                  have Z := Lib.hid (show SP w v3 [.blk M 76 (KNC knZ none 0 0), .blk KB 76 (KNC (KN.mk k.mss k.sc k.sel true u v k.bl) Ab nb cb), .blk E 124 (seenA (S.set 8 true)), .row 93 2 Ab nb cb (prs (KN.mk k.mss k.sc k.sel true u v k.bl).bl)] from Y3.out)
                  clear Y0 Y1 Y2 Y3
                  go_wp2_with fail
                  go_roundw
                  case rel => exact ⟨i + 10, (KN.mk k.mss k.sc k.sel true u v k.bl), Ab, nb, cb, S.set 8 true, by omega, by go_num, HNB.out, HG.out, HSE.out, Z.out⟩
                  case measure => simp [intOf]; omega
    have n8 := hqq
    clear hqq
    obtain ⟨x, hx⟩ : ∃ x : Nat, q = (x : Int) := ⟨q.toNat, by omega⟩
    subst hx
    have hx2 : x ≠ 2 := by omega
    have hx3 : x ≠ 3 := by omega
    have hx4 : x ≠ 4 := by omega
    have hx5 : x ≠ 5 := by omega
    have hx8 : x ≠ 8 := by omega
    have hx256 : x < 256 := by omega
    have zs_ : wr.cell? ⟨E, x, none⟩ = some (.bool (S[x]?.getD false)) := ((X.out.blk 2 rfl).cell x).trans (seenA_get HS.out.len x hx256)
    have ds_ := X.out.free 2 rfl x
    have Y := Lib.hid (show SP w (wr.setCell ⟨E, x, none⟩ (.bool true)) [.blk M 76 (KNC knZ none 0 0), .blk KB 76 (KNC k Ab nb cb), .blk E 124 (seenA (S.set x true)), .row 93 2 Ab nb cb (prs k.bl)] by have h := X.out.setB 2 rfl x (.bool true); rw [seenA_set] at h; exact h)
    have HG := Lib.hid (HGO.out k (by unfold take1; rw [if_neg n2, if_neg n3, if_neg n4, if_neg n5, if_neg n8]))
    have HSE := Lib.hid (HS.out.other hx2 hx3 hx4 hx5 hx8)
    have b2 : ((x : Int) == 2) = false := by simp; omega
    have b3 : ((x : Int) == 3) = false := by simp; omega
    have b4 : ((x : Int) == 4) = false := by simp; omega
    have b5 : ((x : Int) == 5) = false := by simp; omega
    have b8 : ((x : Int) == 8) = false := by simp; omega
    have g1 : (2 : Int) ≤ (x : Int) := by omega
    have g2 : ¬ (x : Int) ≤ 5 := by omega
    have g3 : (0 : Int) ≤ (x : Int) := by omega
    have g4 : (x : Int) < 256 := by omega
    clear HGO HBAD n2 n3 n4 n5 n8 hx2 hx3 hx4 hx5 hx8
    go_wp2_with fail
    go_roundw
    case rel => exact ⟨i + m, k, Ab, nb, cb, S.set x true, by omega, by go_num, HNB.out, HG.out, HSE.out, Y.out⟩
    case measure => simp [intOf]; omega
end Go.Proofs.Ythdpcblmmjocmaa
