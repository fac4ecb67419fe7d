import Derived.Test.YthdpcblmmjocmaaWOf8
import Derived.Test.YthdpcblmmjocmaaWTcPb
/- Lists of options that are whole, plain. No program in sight. -/
namespace Go.Proofs.Ythdpcblmmjocmaa
open Go.RowKit
set_option linter.unusedVariables false

/-- whole options: what is known ahead of them, and behind them -/
inductive OPTS : List Int → KN → KN → Prop
  | nil (k : KN) : OPTS [] k k
  | one {zs : List Int} {k k' : KN} (h : OPTS zs k k') : OPTS (1 :: zs) k k'
  | opt {kind : Int} {c zs : List Int} {k k1 k' : KN} (h0 : kind ≠ 0) (h1 : kind ≠ 1) (ht : take1 kind c k = some k1) (h : OPTS zs k1 k') : OPTS ([kind, 2 + (c.length : Int)] ++ c ++ zs) k k'

theorem OPTS.append {zs ys : List Int} {k k1 k2 : KN} (h : OPTS zs k k1) (g : OPTS ys k1 k2) : OPTS (zs ++ ys) k k2 := by
  induction h with
  | nil k => exact g
  | one h ih => exact .one (ih g)
  | opt h0 h1 ht h ih =>
    rw [List.append_assoc]
    exact .opt h0 h1 ht (ih g)
theorem OPTS.ones (k : KN) : ∀ n, OPTS (List.replicate n 1) k k
  | 0 => .nil k
  | n + 1 => .one (OPTS.ones k n)
theorem OPTS.parse {zs : List Int} {k k1 : KN} (h : OPTS zs k k1) (r : List Int) : parse (zs ++ r) k = parse r k1 := by
  induction h with
  | nil k => rfl
  | one h ih => exact (parse_one _ _).trans ih
  | opt h0 h1 ht h ih =>
    rw [List.append_assoc, parse_opt _ _ _ h0 h1, ht]
    exact ih
theorem OPTS.whole {zs : List Int} {k k1 : KN} (h : OPTS zs k k1) : Go.Proofs.Ythdpcblmmjocmaa.parse zs k = some k1 := by
  have := h.parse []
  rwa [List.append_nil, parse_nil] at this
theorem OPTS.optB {zs c : List Int} {k k1 k2 : KN} {kind : Int} (h : OPTS zs k k1) (h0 : kind ≠ 0) (h1 : kind ≠ 1) (ht : take1 kind c k1 = some k2) : OPTS (optB zs kind c) k k2 := by
  have := (h.append (OPTS.ones k1 (padN c.length))).append (OPTS.opt h0 h1 ht (.nil k2))
  simpa [Go.Proofs.Ythdpcblmmjocmaa.optB, List.append_assoc] using this
/-- the head of whole options -/
theorem OPTS.head {zs : List Int} {k k' : KN} (h : OPTS zs k k') (hz : zs ≠ []) :
    (∃ ys, zs = 1 :: ys ∧ OPTS ys k k') ∨ ∃ kind c ys k1, kind ≠ 0 ∧ kind ≠ 1 ∧ take1 kind c k = some k1 ∧ zs = [kind, 2 + (c.length : Int)] ++ c ++ ys ∧ OPTS ys k1 k' := by
  cases h with
  | nil => exact absurd rfl hz
  | one h => exact .inl ⟨_, rfl, h⟩
  | opt h0 h1 ht h => exact .inr ⟨_, _, _, _, h0, h1, ht, rfl, h⟩

/-- what is known lies within its bounds -/
structure KN.WF (k : KN) : Prop where
  m0 : 0 ≤ k.mss
  m1 : k.mss ≤ 65535
  s0 : -1 ≤ k.sc
  s1 : k.sc ≤ 14
  ts : 0 ≤ k.ts ∧ k.ts ≤ 4294967295
  ec : 0 ≤ k.ec ∧ k.ec ≤ 4294967295
  st : k.st = true ∨ k.ts = 0 ∧ k.ec = 0
  bl : k.bl.length ≤ 4
  bb : ∀ p ∈ k.bl, (0 ≤ p.1 ∧ p.1 ≤ 4294967295) ∧ (0 ≤ p.2 ∧ p.2 ≤ 4294967295)
theorem KN.WF.right {k : KN} (h : k.WF) : rightK k = true := rightK_yes ⟨h.m0, h.m1, h.s0, h.s1, h.st, h.bl⟩
theorem flatP_bd : ∀ {l : List (Int × Int)}, (∀ p ∈ l, (0 ≤ p.1 ∧ p.1 ≤ 4294967295) ∧ (0 ≤ p.2 ∧ p.2 ≤ 4294967295)) → BD 4294967295 (flatP l)
  | [], _ => fun y hy => by simp [flatP] at hy
  | p :: l, h => fun y hy => by
    have h1 := h p (.head _)
    simp only [flatP, List.mem_cons] at hy
    rcases hy with rfl | rfl | hy
    · exact h1.1
    · exact h1.2
    · exact flatP_bd (fun q hq => h q (.tail _ hq)) y hy
theorem pairB_bd : ∀ {l : List (Int × Int)}, (∀ p ∈ l, (0 ≤ p.1 ∧ p.1 ≤ 4294967295) ∧ (0 ≤ p.2 ∧ p.2 ≤ 4294967295)) → BD 255 (pairB l)
  | [], _ => fun y hy => by simp [pairB] at hy
  | p :: l, h => ((w4_bd (h p (.head _)).1).append (w4_bd (h p (.head _)).2)).append (pairB_bd fun q hq => h q (.tail _ hq))
theorem lng4 {x : Int} (a r : List Int) (ha : a.length = 4) (h : 0 ≤ x ∧ x ≤ 4294967295) : lng (a ++ (w4 x ++ r)) 4 = x := by
  match a, ha with
  | [a0, a1, a2, a3], _ => simp [lng, wordAt, w4, w2]; omega
theorem blocks_pairB : ∀ {l : List (Int × Int)}, (∀ p ∈ l, (0 ≤ p.1 ∧ p.1 ≤ 4294967295) ∧ (0 ≤ p.2 ∧ p.2 ≤ 4294967295)) → blocksOf l.length (pairB l) = l
  | [], _ => rfl
  | p :: l, h => by
    have h1 := h p (.head _)
    have e1 : lng (pairB (p :: l)) 0 = p.1 := by rw [pairB, List.append_assoc]; exact lng_w4 _ h1.1
    have e2 : lng (pairB (p :: l)) 4 = p.2 := by rw [pairB, List.append_assoc]; exact lng4 _ _ (by simp [w4, w2]) h1.2
    have e3 : (pairB (p :: l)).drop 8 = pairB l := by
      rw [pairB]
      exact List.drop_left' (by simp [w4, w2])
    rw [List.length_cons, blocksOf, e1, e2, e3, blocks_pairB fun q hq => h q (.tail _ hq)]

/-- what Format writes, Parse reads back -/
theorem opts_fmt {k : KN} (h : k.WF) : OPTS (fmt5 k) kn0 k := by
  obtain ⟨m, sc, sel, st, ts, ec, bl⟩ := k
  obtain ⟨m0, m1, s0, s1, hts, hec, hst, hbl, hbb⟩ := h
  simp only at m0 m1 s0 s1 hts hec hst hbl hbb
  have a1 : OPTS (fmt1 ⟨m, sc, sel, st, ts, ec, bl⟩) kn0 ⟨m, -1, false, false, 0, 0, []⟩ := by
    unfold fmt1
    by_cases hm : 0 < m
    · rw [if_pos hm]
      refine (OPTS.nil kn0).optB (by decide) (by decide) ?_
      unfold take1
      have := word_w2 [] ⟨m0, m1⟩
      rw [List.append_nil] at this
      rw [if_pos rfl, if_pos ⟨by simp [w2], by decide, by rw [this]; exact hm⟩, this]; rfl
    · rw [if_neg hm, show m = 0 by omega]; exact .nil _
  have a2 : OPTS (fmt2 ⟨m, sc, sel, st, ts, ec, bl⟩) kn0 ⟨m, sc, false, false, 0, 0, []⟩ := by
    unfold fmt2
    by_cases hm : 0 ≤ sc
    · rw [if_pos hm]
      refine a1.optB (by decide) (by decide) ?_
      unfold take1
      rw [if_neg (by decide), if_pos rfl, if_pos ⟨by simp, by simp, by simp; omega⟩]; rfl
    · rw [if_neg hm, show sc = -1 by omega]; exact a1
  have a3 : OPTS (fmt3 ⟨m, sc, sel, st, ts, ec, bl⟩) kn0 ⟨m, sc, sel, false, 0, 0, []⟩ := by
    unfold fmt3
    cases sel
    · rw [if_neg (by simp)]; exact a2
    · rw [if_pos rfl]
      exact a2.optB (by decide) (by decide) rfl
  have a4 : OPTS (fmt4 ⟨m, sc, sel, st, ts, ec, bl⟩) kn0 ⟨m, sc, sel, st, ts, ec, []⟩ := by
    unfold fmt4
    cases st
    · rw [if_neg (by simp)]
      obtain ⟨e1, e2⟩ : ts = 0 ∧ ec = 0 := by simpa using hst
      rw [e1, e2] at a3 ⊢
      exact a3
    · rw [if_pos rfl]
      refine a3.optB (by decide) (by decide) ?_
      unfold take1
      have e1 : lng (w4s [ts, ec]) 0 = ts := lng_w4 _ hts
      have e2 : lng (w4s [ts, ec]) 4 = ec := lng4 (w4 ts) [] (by simp [w4, w2]) hec
      rw [if_neg (by decide), if_neg (by decide), if_neg (by decide), if_neg (by decide), if_pos rfl, if_pos ⟨by simp [w4s, w4, w2], rfl⟩, e1, e2]
  unfold fmt5
  by_cases hm : bl = []
  · rw [if_neg (by simp [hm]), hm]
    rw [hm] at a4
    exact a4
  · rw [if_pos hm]
    refine a4.optB (by decide) (by decide) ?_
    unfold take1
    have hl := pairB_len bl
    have hp : 0 < bl.length := List.length_pos_iff.2 hm
    have hb := blocks_pairB hbb
    rw [if_neg (by decide), if_neg (by decide), if_neg (by decide), if_pos rfl, if_pos ⟨by rw [hl]; omega, by rw [hl]; omega, by rw [hl]; omega, rfl⟩, hl, show 8 * bl.length / 8 = bl.length by omega, hb]

theorem cost_len (b : Bool) (P : Prop) [Decidable P] (hb : b = decide P) (zs : List Int) (kind : Int) (c : List Int) (n : Nat) (hn : padN c.length + 2 + c.length = n) : (if P then optB zs kind c else zs).length = zs.length + cost b n := by
  subst hb
  by_cases h : P
  · rw [if_pos h, optB_len]; simp [cost, h]; omega
  · rw [if_neg h]; simp [cost, h]
theorem fmt5_len (k : KN) : (fmt5 k).length = cost (decide (0 < k.mss)) 4 + cost (decide (0 ≤ k.sc)) 4 + cost k.sel 4 + cost k.st 12 + cost (decide (k.bl ≠ [])) (4 + 8 * k.bl.length) := by
  have h1 : (fmt1 k).length = cost (decide (0 < k.mss)) 4 := by
    have := cost_len (decide (0 < k.mss)) (0 < k.mss) rfl [] 2 (w2 k.mss) 4 (by simp [w2, padN])
    simpa [fmt1] using this
  have h2 : (fmt2 k).length = (fmt1 k).length + cost (decide (0 ≤ k.sc)) 4 := cost_len _ _ rfl _ _ _ 4 (by simp [padN])
  have h3 : (fmt3 k).length = (fmt2 k).length + cost k.sel 4 := cost_len _ _ (by simp) _ _ _ 4 (by simp [padN])
  have h4 : (fmt4 k).length = (fmt3 k).length + cost k.st 12 := cost_len _ _ (by simp) _ _ _ 12 (by simp [padN, w4s, w4, w2])
  have h5 : (fmt5 k).length = (fmt4 k).length + cost (decide (k.bl ≠ [])) (4 + 8 * k.bl.length) := cost_len _ _ rfl _ _ _ _ (by rw [pairB_len]; unfold padN; omega)
  omega
theorem fmt5_four (k : KN) : (fmt5 k).length % 4 = 0 := by
  have c4 : ∀ (b : Bool) (n : Nat), cost b (4 * n) % 4 = 0 := fun b n => by unfold cost; split <;> omega
  have := fmt5_len k
  have h1 : cost (decide (0 < k.mss)) 4 % 4 = 0 := c4 _ 1
  have h2 : cost (decide (0 ≤ k.sc)) 4 % 4 = 0 := c4 _ 1
  have h3 : cost k.sel 4 % 4 = 0 := c4 _ 1
  have h4 : cost k.st 12 % 4 = 0 := c4 _ 3
  have h5 := c4 (decide (k.bl ≠ [])) (1 + 2 * k.bl.length)
  rw [show 4 * (1 + 2 * k.bl.length) = 4 + 8 * k.bl.length by omega] at h5
  omega
theorem optB_bd {zs c : List Int} {kind : Int} (hz : BD 255 zs) (hc : BD 255 c) (hk : 0 ≤ kind ∧ kind ≤ 255) (hl : c.length ≤ 200) : BD 255 (optB zs kind c) := by
  unfold optB
  refine ((hz.append ?_).append ?_).append hc
  · intro y hy
    have := List.eq_of_mem_replicate hy
    omega
  · intro y hy
    simp at hy
    rcases hy with rfl | rfl <;> omega
theorem fmt5_bd {k : KN} (h : k.WF) : BD 255 (fmt5 k) := by
  have h1 : BD 255 (fmt1 k) := by
    unfold fmt1; split
    · exact optB_bd (fun y hy => by simp at hy) (w2_bd ⟨h.m0, h.m1⟩) (by omega) (by simp [w2])
    · exact fun y hy => by simp at hy
  have h2 : BD 255 (fmt2 k) := by
    unfold fmt2; split
    · refine optB_bd h1 (fun y hy => ?_) (by omega) (by simp)
      simp at hy; have := h.s1; omega
    · exact h1
  have h3 : BD 255 (fmt3 k) := by
    unfold fmt3; split
    · exact optB_bd h2 (fun y hy => by simp at hy) (by omega) (by simp)
    · exact h2
  have h4 : BD 255 (fmt4 k) := by
    unfold fmt4; split
    · exact optB_bd h3 (w4s_bd fun y hy => by simp at hy; rcases hy with rfl | rfl; exact h.ts; exact h.ec) (by omega) (by simp [w4s, w4, w2])
    · exact h3
  unfold fmt5; split
  · exact optB_bd h4 (pairB_bd h.bb) (by omega) (by rw [pairB_len]; have := h.bl; omega)
  · exact h4

/-- what Of gives lies within its bounds, and has room -/
theorem xor32_bd {b : Int} (h : 0 ≤ b ∧ b ≤ 4294967295) (m : Nat) (hm : m ≤ 100) : 0 ≤ bits .xor .u32 b (m : Int) ∧ bits .xor .u32 b (m : Int) ≤ 4294967295 := by
  rw [u32_xor b m (by omega) (by omega) (by omega) (by omega)]
  have : b.toNat ^^^ (m : Int).toNat < 2 ^ 32 := Nat.xor_lt_two_pow (by omega) (by omega)
  omega
theorem blkK_bd {a b : Int} (ha : 0 ≤ a ∧ a ≤ 4294967295) (hb : 0 ≤ b ∧ b ≤ 4294967295) : ∀ m, m ≤ 100 → ∀ p ∈ blkK a b m, (0 ≤ p.1 ∧ p.1 ≤ 4294967295) ∧ (0 ≤ p.2 ∧ p.2 ≤ 4294967295)
  | 0, _, p, hp => by simp [blkK] at hp
  | m + 1, hm, p, hp => by
    simp only [blkK, List.mem_append, List.mem_singleton] at hp
    rcases hp with hp | rfl
    · exact blkK_bd ha hb m (by omega) p hp
    · exact ⟨by simp only; omega, xor32_bd hb m (by omega)⟩
theorem manyK_le (x y : Int) : manyK x y ≤ 4 := by unfold manyK; omega
theorem ofK_wf {x0 x1 x2 x3 x4 x5 : Int} (h1 : 0 ≤ x1 ∧ x1 ≤ 65535) (h2 : 0 ≤ x2 ∧ x2 ≤ 255) (h3 : 0 ≤ x3 ∧ x3 ≤ 4294967295) (h4 : 0 ≤ x4 ∧ x4 ≤ 4294967295) : (ofK x0 x1 x2 x3 x4 x5).WF := by
  have hm := manyK_le x0 x5
  refine ⟨?_, ?_, ?_, ?_, ?_, ?_, ?_, ?_, ?_⟩
  · simp only [ofK]
    split
    · split <;> omega
    · omega
  · simp only [ofK]
    split
    · split <;> omega
    · omega
  · simp only [ofK]; split <;> omega
  · simp only [ofK]; split <;> omega
  · simp only [ofK]; split <;> omega
  · simp only [ofK]; split <;> omega
  · simp only [ofK]
    cases hb x0 8 <;> simp
  · simp only [ofK, blkK_len]; exact hm
  · simp only [ofK]; exact blkK_bd h3 h4 _ (by omega)
theorem ofK_mss {x0 x1 x2 x3 x4 x5 : Int} (h1 : 0 ≤ x1) : 0 < (ofK x0 x1 x2 x3 x4 x5).mss ↔ hb x0 1 = true := by
  show 0 < (if hb x0 1 = true then (if x1 < 1 then (1 : Int) else x1) else 0) ↔ _
  by_cases h : hb x0 1 = true
  · rw [if_pos h]; simp only [h, iff_true]; split <;> omega
  · rw [if_neg h]; simp [h]
theorem ofK_sc {x0 x1 x2 x3 x4 x5 : Int} (h1 : 0 ≤ x2) : 0 ≤ (ofK x0 x1 x2 x3 x4 x5).sc ↔ hb x0 2 = true := by
  show 0 ≤ (if hb x0 2 = true then x2 % 15 else -1) ↔ _
  by_cases h : hb x0 2 = true
  · rw [if_pos h]; simp only [h, iff_true]; omega
  · rw [if_neg h]; simp [h]
theorem ofK_len {x0 x1 x2 x3 x4 x5 : Int} (h1 : 0 ≤ x1) (h2 : 0 ≤ x2 ∧ x2 ≤ 255) : (fmt5 (ofK x0 x1 x2 x3 x4 x5)).length ≤ 40 := by
  rw [fmt5_len]
  have e1 : cost (decide (0 < (ofK x0 x1 x2 x3 x4 x5).mss)) 4 = cost (hb x0 1) 4 := congrArg (cost · 4) (Bool.eq_iff_iff.2 (decide_eq_true_iff.trans (ofK_mss h1)))
  have e2 : cost (decide (0 ≤ (ofK x0 x1 x2 x3 x4 x5).sc)) 4 = cost (hb x0 2) 4 := congrArg (cost · 4) (Bool.eq_iff_iff.2 (decide_eq_true_iff.trans (ofK_sc h2.1)))
  rw [e1, e2]
  have hr : roomK x0 4 = 40 - cost (hb x0 1) 4 - cost (hb x0 2) 4 - cost (hb x0 4) 4 - cost (hb x0 8) 12 := by simp [roomK]
  have hl := cost_le (hb x0 1) 4
  have hl2 := cost_le (hb x0 2) 4
  have hl3 := cost_le (hb x0 4) 4
  have hl4 := cost_le (hb x0 8) 12
  have hn : (ofK x0 x1 x2 x3 x4 x5).bl.length = manyK x0 x5 := by simp only [ofK, blkK_len]
  have hm : manyK x0 x5 ≤ (roomK x0 4 - 4) / 8 := Nat.min_le_right _ _
  have h5 := cost_le (decide ((ofK x0 x1 x2 x3 x4 x5).bl ≠ [])) (4 + 8 * (ofK x0 x1 x2 x3 x4 x5).bl.length)
  show cost (hb x0 1) 4 + cost (hb x0 2) 4 + cost (hb x0 4) 4 + cost (hb x0 8) 12 + _ ≤ 40
  rw [hn] at h5 ⊢
  omega
theorem fmt_ok {k : KN} (h : k.WF) (hl : (fmt5 k).length ≤ 40) : fmtB k = fmt5 k ∧ fmtE k = 0 := by
  unfold fmtB fmtE
  rw [if_pos ⟨h.right, hl⟩, if_pos h.right, if_pos hl]
  exact ⟨rfl, rfl⟩
theorem parse_fmt {k : KN} (h : k.WF) (hl : (fmt5 k).length ≤ 40) : parseK (fmt5 k) = k ∧ parseE (fmt5 k) = 0 := by
  unfold parseK parseE
  rw [if_neg (by omega), if_neg (by omega), (opts_fmt h).whole]
  exact ⟨rfl, rfl⟩
end Go.Proofs.Ythdpcblmmjocmaa
