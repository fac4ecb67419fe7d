/- Two parts of the walk of IcmpQuotes. (Printed by gen_icquotes.py.) -/
import Derived.Test.YtdepibljeopcgaaDoorLIcQa
import Derived.Deep.DeepCutAuto
namespace Go.Proofs.YtdepibljeopcgaaDoor
open Go.RowKit
set_option linter.unusedVariables false
set_option linter.unusedSimpArgs false
attribute [local go_sem ↓] Go.wp_at_zero Go.wp_at_succ
theorem nameW {K : Act → World → Prop} {a : Act} {W : World} (h : ∀ W', W' = W → K a W') : K a W := h W rfl

set_option maxHeartbeats 8000000 in
set_option maxRecDepth 100000 in
theorem icqb {u0 u1 u3 u4 u9 u10 u11 u12 u13 u14 u15 u16 u17 u18 u19 u20 u21 u22 u23 u24 u25 u26 u27 u28 u29 u30 u31 u32 u33 u34 u35 u36 u37 u38 u39 u40 u41 u42 u43 u44 u45 u46 u47 u48 u49 u50 u51 u52 u53 u54 u55 u56 u57 u58 u59 u60 u61 u62 u63 u64 u65 u66 u67 u68 u69 u70 u71 u72 u73 u74 u75 u76 u77 u78 u79 u80 u81 u82 u83 u84 u85 u86 u87 u88 u89 u90 u91 u92 u93 u94 u95 u96 u97 u98 u99 u100 u101 u102 u103 u104 u105 u106 u107 u109 u110 u111 u112 u113 u114 u115 u116 u117 u118 u119 u120 u121 u122 u123 u124 u125 u126 u127 u128 u129 u130 u131 u132 u133 u134 u135 u136 u137 u138 u139 u140 u141 u142 u143 u144 u145 u146 u147 u148 u149 u150 u151 u152 u153 u154 u155 u156 u157 u158 u159 u160 u161 u162 u163 u164 u165 u166 u167 u168 u169 u170 u171 u172 u173 u174 u175 u176 u177 u178 u179 u180 u181 u182 u183 u184 u185 u186 u187 u188 u189 u190 u191 u192 u193 u194 u195 u196 u197 u198 u199 u200 u201 u202 u203 u204 u205 u206 u207 u208 u209 u210 u211 u212 u213 u214 u215 u216 u217 u218 u219 u220 u221 u222 u223 u224 u225 u226 u227 u228 u229 u230 u231 u232 u233 u234 u235 u236 u237 u238 u239 u240 u241 u242 u243 u244 u245 u246 : Value} {Q : Exit → Act → World → Prop} (w : World) (N M KB : Nat) (x0 x1 x2 x3 x4 x5 x6 x7 x8 x9 x10 x11 wd fr tp : Int) (df mf : Bool) (T cd id seq : Int) (A : Option Addr) (n c : Nat) (zs : List Int) (ct src dst pr m1 m2 : Int) (Ao : Option Addr) (on jp : Nat) (Ad : Option Addr) (cd0 : Nat) (h1 : pr = 1) (hT : 0 ≤ T ∧ T ≤ 255) (hcd : 0 ≤ cd ∧ cd ≤ 255) (hid : 0 ≤ id ∧ id ≤ 65535) (hseq : 0 ≤ seq ∧ seq ≤ 65535) (hz : BD 255 zs) (hn : n ≤ c) (hcm : c ≤ maxLen) (R : Hid (∀ W : World, Below w.heap.size w W → RD .u8 W W.heap.size A n zs)) (HS : Hid (∀ W : World, Below w.heap.size w W → TABS W)) (v2 : World)
    (X2 : Hid (SP w v2 [.blk N 28 #[.int .u8 x0, .int .u8 x1, .int .u8 x2, .int .u8 x3, .int .u8 x4, .int .u8 x5, .int .u8 x6, .int .u8 x7, .int .u8 x8, .int .u8 x9, .int .u8 x10, .int .u8 x11, .int .u8 wd, .int .u16 fr, .int .u16 tp, .bool df, .bool mf, .int .u8 T, .int .u8 cd, .int .u16 id, .int .u16 seq, .slice A n c, .int .u8 ct], .blk M 33 ((qHD x0 x1 x2 pr src dst df false).cells (.slice Ao on on)), .own .u8 5 Ao on on (List.replicate on 0), .blk KB 35 (key5 pr src dst m1 m2), .own .u8 5 Ad 12 cd0 ([m1 / 256, m1 % 256, m2 / 256, m2 % 256] ++ [x4, x5, x6, x7, x8, x9, x10, x11])]))
    (HQQ : Hid (∀ (y9 y10 y11 y109 y110 y111 y112 y113 y114 y115 y116 y117 y118 y119 y120 y121 y122 y123 y124 y125 y126 y127 y128 : Value) (kd : Int) (A5 : Option Addr) (n5 c5 : Nat) (P : List Int) (w' : World), QDT pr P kd id id → BD 255 P → n5 ≤ 88 → kd ≤ 5 → 0 ≤ kd → SP w w' [.blk N 28 #[.int .u8 x0, .int .u8 x1, .int .u8 x2, .int .u8 x3, .int .u8 x4, .int .u8 x5, .int .u8 x6, .int .u8 x7, .int .u8 x8, .int .u8 x9, .int .u8 x10, .int .u8 x11, .int .u8 wd, .int .u16 fr, .int .u16 tp, .bool df, .bool mf, .int .u8 T, .int .u8 cd, .int .u16 id, .int .u16 seq, .slice A n c, .int .u8 ct], .blk M 33 ((qHD x0 x1 x2 pr src dst df false).cells (.slice Ao on on)), .own .u8 5 Ao on on (List.replicate on 0), .blk KB 35 (key5 pr src dst id id), .own .u8 5 A5 n5 c5 P] → Q .normal ⟨List.toArray (u0 :: u1 :: .pointer (some ⟨N, 0, none⟩) :: u3 :: u4 :: .pointer (some ⟨M, 0, none⟩) :: .pointer (some ⟨KB, 0, none⟩) :: .int .u8 kd :: .slice A5 n5 c5 :: y9 :: y10 :: y11 :: u12 :: u13 :: u14 :: u15 :: u16 :: u17 :: u18 :: u19 :: u20 :: u21 :: u22 :: u23 :: u24 :: u25 :: u26 :: u27 :: u28 :: u29 :: u30 :: u31 :: u32 :: u33 :: u34 :: u35 :: u36 :: u37 :: u38 :: u39 :: u40 :: u41 :: u42 :: u43 :: u44 :: u45 :: u46 :: u47 :: u48 :: u49 :: u50 :: u51 :: u52 :: u53 :: u54 :: u55 :: u56 :: u57 :: u58 :: u59 :: u60 :: u61 :: u62 :: u63 :: u64 :: u65 :: u66 :: u67 :: u68 :: u69 :: u70 :: u71 :: u72 :: u73 :: u74 :: u75 :: u76 :: u77 :: u78 :: u79 :: u80 :: u81 :: u82 :: u83 :: u84 :: u85 :: u86 :: u87 :: u88 :: u89 :: u90 :: u91 :: u92 :: u93 :: u94 :: u95 :: u96 :: u97 :: u98 :: u99 :: u100 :: u101 :: u102 :: u103 :: u104 :: u105 :: u106 :: u107 :: .bool true :: y109 :: y110 :: y111 :: y112 :: y113 :: y114 :: y115 :: y116 :: y117 :: y118 :: y119 :: y120 :: y121 :: y122 :: y123 :: y124 :: y125 :: y126 :: y127 :: y128 :: u129 :: u130 :: u131 :: u132 :: u133 :: u134 :: u135 :: u136 :: u137 :: u138 :: u139 :: u140 :: u141 :: u142 :: u143 :: u144 :: u145 :: u146 :: u147 :: u148 :: u149 :: u150 :: u151 :: u152 :: u153 :: u154 :: u155 :: u156 :: u157 :: u158 :: u159 :: u160 :: u161 :: u162 :: u163 :: u164 :: u165 :: u166 :: u167 :: u168 :: u169 :: u170 :: u171 :: u172 :: u173 :: u174 :: u175 :: u176 :: u177 :: u178 :: u179 :: u180 :: u181 :: u182 :: u183 :: u184 :: u185 :: u186 :: u187 :: u188 :: u189 :: u190 :: u191 :: u192 :: u193 :: u194 :: u195 :: u196 :: u197 :: u198 :: u199 :: u200 :: u201 :: u202 :: u203 :: u204 :: u205 :: u206 :: u207 :: u208 :: u209 :: u210 :: u211 :: u212 :: u213 :: u214 :: u215 :: u216 :: u217 :: u218 :: u219 :: u220 :: u221 :: u222 :: u223 :: u224 :: u225 :: u226 :: u227 :: u228 :: u229 :: u230 :: u231 :: u232 :: u233 :: u234 :: u235 :: u236 :: u237 :: u238 :: u239 :: u240 :: u241 :: u242 :: u243 :: u244 :: u245 :: u246 :: []), []⟩ w')) :
    Code.wp Tryd.prog (condAt Tryd.f3 108) Q ⟨List.toArray (u0 :: u1 :: .pointer (some ⟨N, 0, none⟩) :: u3 :: u4 :: .pointer (some ⟨M, 0, none⟩) :: .pointer (some ⟨KB, 0, none⟩) :: .int .u8 (jp : Int) :: .slice Ad 12 cd0 :: u9 :: u10 :: u11 :: u12 :: u13 :: u14 :: u15 :: u16 :: u17 :: u18 :: u19 :: u20 :: u21 :: u22 :: u23 :: u24 :: u25 :: u26 :: u27 :: u28 :: u29 :: u30 :: u31 :: u32 :: u33 :: u34 :: u35 :: u36 :: u37 :: u38 :: u39 :: u40 :: u41 :: u42 :: u43 :: u44 :: u45 :: u46 :: u47 :: u48 :: u49 :: u50 :: u51 :: u52 :: u53 :: u54 :: u55 :: u56 :: u57 :: u58 :: u59 :: u60 :: u61 :: u62 :: u63 :: u64 :: u65 :: u66 :: u67 :: u68 :: u69 :: u70 :: u71 :: u72 :: u73 :: u74 :: u75 :: u76 :: u77 :: u78 :: u79 :: u80 :: u81 :: u82 :: u83 :: u84 :: u85 :: u86 :: u87 :: u88 :: u89 :: u90 :: u91 :: u92 :: u93 :: u94 :: u95 :: u96 :: u97 :: u98 :: u99 :: u100 :: u101 :: u102 :: u103 :: u104 :: u105 :: u106 :: u107 :: .bool true :: u109 :: u110 :: u111 :: u112 :: u113 :: u114 :: u115 :: u116 :: u117 :: u118 :: u119 :: u120 :: u121 :: u122 :: u123 :: u124 :: u125 :: u126 :: u127 :: u128 :: u129 :: u130 :: u131 :: u132 :: u133 :: u134 :: u135 :: u136 :: u137 :: u138 :: u139 :: u140 :: u141 :: u142 :: u143 :: u144 :: u145 :: u146 :: u147 :: u148 :: u149 :: u150 :: u151 :: u152 :: u153 :: u154 :: u155 :: u156 :: u157 :: u158 :: u159 :: u160 :: u161 :: u162 :: u163 :: u164 :: u165 :: u166 :: u167 :: u168 :: u169 :: u170 :: u171 :: u172 :: u173 :: u174 :: u175 :: u176 :: u177 :: u178 :: u179 :: u180 :: u181 :: u182 :: u183 :: u184 :: u185 :: u186 :: u187 :: u188 :: u189 :: u190 :: u191 :: u192 :: u193 :: u194 :: u195 :: u196 :: u197 :: u198 :: u199 :: u200 :: u201 :: u202 :: u203 :: u204 :: u205 :: u206 :: u207 :: u208 :: u209 :: u210 :: u211 :: u212 :: u213 :: u214 :: u215 :: u216 :: u217 :: u218 :: u219 :: u220 :: u221 :: u222 :: u223 :: u224 :: u225 :: u226 :: u227 :: u228 :: u229 :: u230 :: u231 :: u232 :: u233 :: u234 :: u235 :: u236 :: u237 :: u238 :: u239 :: u240 :: u241 :: u242 :: u243 :: u244 :: u245 :: u246 :: []), []⟩ v2 := by
  obtain ⟨i0, hi, hz0, hz1, hz2⟩ := info_parts infoU8
  conv => arg 2; whnf
  have c17 : v2.cell? ⟨N, 17, none⟩ = some (.int .u8 T) := X2.out.cell 0 rfl 17 rfl
  have c18 : v2.cell? ⟨N, 18, none⟩ = some (.int .u8 cd) := X2.out.cell 0 rfl 18 rfl
  have c19 : v2.cell? ⟨N, 19, none⟩ = some (.int .u16 id) := X2.out.cell 0 rfl 19 rfl
  have c20 : v2.cell? ⟨N, 20, none⟩ = some (.int .u16 seq) := X2.out.cell 0 rfl 20 rfl
  have c21 : v2.cell? ⟨N, 21, none⟩ = some (.slice A n c) := X2.out.cell 0 rfl 21 rfl
  go_wp2_with fail
  refine (madeU_any T cd id seq A n c zs _ hT hcd (R.out _ X2.out.bel) hz hn hcm (HS.out _ X2.out.bel)).mono ?_
  rintro e v3 ⟨ty, cv, kd, A3, n3, c3, ys, rfl, ok, own3, hys, h80, hb3⟩
  have hyl := own3.len
  have hl3 := own3.le
  have X3 := Lib.hid ((X2.out.pushOwn hb3 own3).alloc 38 (msg4 (ty : Int) cv id seq))
  clear own3 hb3 c17 c18 c19 c20 c21
  obtain ⟨o1, o2, o3, o4, o5, o6, o7, o8⟩ := ok
  obtain ⟨hwE, P, hP, hPl, hPB, hPE, hPM, hPD, hPV, hPS, hP0, hP1, hP4, hP6⟩ := ic_pkt (ys := ys) o4 (by omega) ⟨o2, by omega⟩ hid hseq hys (by omega)
  have hqd : QDT pr P kd id id := by
    refine ⟨by omega, ?_, by omega, .inr ⟨h1, hP4, hP4⟩⟩
    unfold KDd
    rw [if_neg (by omega), if_pos h1, hP0, hP1, show ((ty : Int)).toNat = ty by omega]; exact o5
  have HP := Lib.hid (And.intro hwE (And.intro hP (And.intro hqd (And.intro hPB hPl))))
  have HYL := Lib.hid hyl
  clear hwE hP hPl hPE hPM hPD hPV hPS hP0 hP1 hP4 hP6 o4 o5 o6 hyl hqd hPB h1
  unfold msg4
  go_upto_region 9 with fail
  rw [show v3.alloc (.cells #[.int .u8 (ty : Int), .int .u8 cv, .int .u16 id, .int .u16 seq] 38) = v3.alloc (.cells (msg4 (ty : Int) cv id seq) 38) from rfl]
  generalize v3.alloc (.cells (msg4 (ty : Int) cv id seq) 38) = v4 at X3 ⊢
  obtain ⟨MB, hMB⟩ : ∃ K, K = v3.heap.size := ⟨_, rfl⟩
  rw [← hMB] at X3 ⊢
  clear hMB
  have f0 : v4.cell? ⟨MB, 0, none⟩ = some (.int .u8 (ty : Int)) := X3.out.cell 6 rfl 0 rfl
  have f1 : v4.cell? ⟨MB, 1, none⟩ = some (.int .u8 cv) := X3.out.cell 6 rfl 1 rfl
  have f2 : v4.cell? ⟨MB, 2, none⟩ = some (.int .u16 id) := X3.out.cell 6 rfl 2 rfl
  have f3 : v4.cell? ⟨MB, 3, none⟩ = some (.int .u16 seq) := X3.out.cell 6 rfl 3 rfl
  go_wp2_with fail
  refine (icwrite_any ty cv id seq A3 n3 c3 ys _ (by omega) ⟨o2, by omega⟩ hid hseq (X3.out.rd 5 rfl) hys (by omega) (HS.out _ X3.out.bel).s).mono ?_
  rintro e v5 ⟨A5, n5, c5, rfl, own5, hb5⟩
  rw [← HYL.out, HP.out.1, HYL.out]
  rw [HP.out.2.1] at own5
  have hn5 : n5 = 8 + n3 := by have := own5.len; rw [HP.out.2.2.2.2, HYL.out] at this; omega
  have hn5b : n5 ≤ 88 := by omega
  have X5 := Lib.hid (show SP w v5 [.blk N 28 #[.int .u8 x0, .int .u8 x1, .int .u8 x2, .int .u8 x3, .int .u8 x4, .int .u8 x5, .int .u8 x6, .int .u8 x7, .int .u8 x8, .int .u8 x9, .int .u8 x10, .int .u8 x11, .int .u8 wd, .int .u16 fr, .int .u16 tp, .bool df, .bool mf, .int .u8 T, .int .u8 cd, .int .u16 id, .int .u16 seq, .slice A n c, .int .u8 ct], .blk M 33 ((qHD x0 x1 x2 pr src dst df false).cells (.slice Ao on on)), .own .u8 5 Ao on on (List.replicate on 0), .blk KB 35 (key5 pr src dst m1 m2), .own .u8 5 A5 n5 c5 P, .blk MB 38 (msg4 (ty : Int) cv id seq)] from (X3.out.pushOwn hb5 own5).pick [0, 1, 2, 3, 7, 6] (by decide) rfl)
  clear own5 hb5 X3 f0 f1 f2 f3 hn5
  go_upto_region 10 with fail
  have Y0 := Lib.hid X5.out.drew
  refine wp_region_noPanic ?_
  refine wp_region_held_drew (S := fun W => W.cell? ⟨MB, 2, none⟩ = some (.int .u16 id)) (by kernel_rfl) (by exact Y0.out.cell 5 rfl 2 rfl) (fun hHeld => ?_)
  generalize v5.drew = v6 at Y0 hHeld ⊢
  refine' take_lit (i := 0) (v := _) rfl (by kernel_rfl) (by kernel_rfl) (by kernel_rfl) (fun _ _ _ h => h) (Or.inl ⟨by rfl, ?yy20⟩) (by assumption) ?rr20
  case yy20 => intro w' hSw; (try dsimp only at hSw); go_simp; try (with_reducible rfl)
  (try simp only [Act.put]); (try simp only [List.setIfInBounds_toArray, List.set_cons_zero, List.set_cons_succ])
  refine' take_lit (i := 1) (v := _) rfl (by kernel_rfl) (by kernel_rfl) (by kernel_rfl) (fun _ _ _ h => h) (Or.inl ⟨by rfl, ?yy21⟩) (by assumption) ?rr21
  case yy21 => intro w' hSw; (try dsimp only at hSw); go_simp; try (with_reducible rfl)
  (try simp only [Act.put]); (try simp only [List.setIfInBounds_toArray, List.set_cons_zero, List.set_cons_succ])
  refine' take_lit (i := 2) (v := _) rfl (by kernel_rfl) (by kernel_rfl) (by kernel_rfl) (fun _ _ _ h => h) (Or.inl ⟨by rfl, ?yy22⟩) (by assumption) ?rr22
  case yy22 => intro w' hSw; (try dsimp only at hSw); go_simp; try (with_reducible rfl)
  (try simp only [Act.put]); (try simp only [List.setIfInBounds_toArray, List.set_cons_zero, List.set_cons_succ])
  refine' take_lit (i := 4) (v := _) rfl (by kernel_rfl) (by kernel_rfl) (by kernel_rfl) (fun _ _ _ h => h) (Or.inl ⟨by rfl, ?yy23⟩) (by assumption) ?rr23
  case yy23 => intro w' hSw; (try dsimp only at hSw); go_simp; try (with_reducible rfl)
  (try simp only [Act.put]); (try simp only [List.setIfInBounds_toArray, List.set_cons_zero, List.set_cons_succ])
  refine' take_lit (i := 5) (v := _) rfl (by kernel_rfl) (by kernel_rfl) (by kernel_rfl) (fun _ _ _ h => h) (Or.inl ⟨by rfl, ?yy24⟩) (by assumption) ?rr24
  case yy24 => intro w' hSw; (try dsimp only at hSw); go_simp; try (with_reducible rfl)
  (try simp only [Act.put]); (try simp only [List.setIfInBounds_toArray, List.set_cons_zero, List.set_cons_succ])
  refine wpAnyH_ready (rs := [3, 6]) (by kernel_rfl) (by simp) ?_
  refine cons_lit rfl (fun K hK => ?ss3x25) (cons_lit rfl (fun K hK => ?ss6x25) AllReadyH.nil)
  case ss3x25 =>
    have c2 : v6.cell? ⟨MB, 2, none⟩ = some (.int .u16 id) := Y0.out.cell 5 rfl 2 rfl
    go_simp
    clear c2
    refine hK.out _ _ (by exact Y0.out.cell 5 rfl 2 rfl) (fun hHeld => ?_)
    clear hK K
    (try simp only [Act.put]); (try simp only [List.setIfInBounds_toArray, List.set_cons_zero, List.set_cons_succ])
    refine wpAnyH_ready (rs := [6]) (by kernel_rfl) (by simp) ?_
    refine cons_lit rfl (fun K hK => ?ss6x26) AllReadyH.nil
    case ss6x26 =>
      have c2 : v6.cell? ⟨KB, 3, none⟩ = some (.int .u16 m1) := Y0.out.cell 3 rfl 3 rfl
      have d2 := Y0.out.free 3 rfl 3
      go_simp
      refine nameW (fun v7 hv7 => ?_)
      have Y1 := Lib.hid (show SP w v7 [.blk N 28 #[.int .u8 x0, .int .u8 x1, .int .u8 x2, .int .u8 x3, .int .u8 x4, .int .u8 x5, .int .u8 x6, .int .u8 x7, .int .u8 x8, .int .u8 x9, .int .u8 x10, .int .u8 x11, .int .u8 wd, .int .u16 fr, .int .u16 tp, .bool df, .bool mf, .int .u8 T, .int .u8 cd, .int .u16 id, .int .u16 seq, .slice A n c, .int .u8 ct], .blk M 33 ((qHD x0 x1 x2 pr src dst df false).cells (.slice Ao on on)), .own .u8 5 Ao on on (List.replicate on 0), .blk KB 35 (key5 pr src dst id m2), .own .u8 5 A5 n5 c5 P, .blk MB 38 (msg4 (ty : Int) cv id seq)] by rw [hv7]; exact Y0.out.setB 3 rfl 3 (.int .u16 id))
      clear c2 d2 hv7
      refine hK.out _ _ (by exact Y1.out.cell 5 rfl 2 rfl) (fun hHeld => ?_)
      clear hK K
      (try simp only [Act.put]); (try simp only [List.setIfInBounds_toArray, List.set_cons_zero, List.set_cons_succ])
      refine' take_lit (i := 7) (v := _) rfl (by kernel_rfl) (by kernel_rfl) (by kernel_rfl) (fun _ _ _ h => h) (Or.inl ⟨by rfl, ?yy27⟩) (by assumption) ?rr27
      case yy27 => intro w' hSw; (try dsimp only at hSw); go_simp; try (with_reducible rfl)
      (try simp only [Act.put]); (try simp only [List.setIfInBounds_toArray, List.set_cons_zero, List.set_cons_succ])
      refine wpAnyH_ready (rs := [8]) (by kernel_rfl) (by simp) ?_
      refine cons_lit rfl (fun K hK => ?ss8x28) AllReadyH.nil
      case ss8x28 =>
        have c2 : v7.cell? ⟨KB, 4, none⟩ = some (.int .u16 m2) := Y1.out.cell 3 rfl 4 rfl
        have d2 := Y1.out.free 3 rfl 4
        go_simp
        refine nameW (fun v8 hv8 => ?_)
        have Y2 := Lib.hid (show SP w v8 [.blk N 28 #[.int .u8 x0, .int .u8 x1, .int .u8 x2, .int .u8 x3, .int .u8 x4, .int .u8 x5, .int .u8 x6, .int .u8 x7, .int .u8 x8, .int .u8 x9, .int .u8 x10, .int .u8 x11, .int .u8 wd, .int .u16 fr, .int .u16 tp, .bool df, .bool mf, .int .u8 T, .int .u8 cd, .int .u16 id, .int .u16 seq, .slice A n c, .int .u8 ct], .blk M 33 ((qHD x0 x1 x2 pr src dst df false).cells (.slice Ao on on)), .own .u8 5 Ao on on (List.replicate on 0), .blk KB 35 (key5 pr src dst id id), .own .u8 5 A5 n5 c5 P, .blk MB 38 (msg4 (ty : Int) cv id seq)] by rw [hv8]; exact Y1.out.setB 3 rfl 4 (.int .u16 id))
        clear c2 d2 hv8
        refine hK.out _ _ (by exact Y2.out.cell 5 rfl 2 rfl) (fun hHeld => ?_)
        clear hK K
        (try simp only [Act.put]); (try simp only [List.setIfInBounds_toArray, List.set_cons_zero, List.set_cons_succ])
        refine' take_lit (i := 9) (v := _) rfl (by kernel_rfl) (by kernel_rfl) (by kernel_rfl) (fun _ _ _ h => h) (Or.inl ⟨by rfl, ?yy29⟩) (by assumption) ?rr29
        case yy29 => intro w' hSw; (try dsimp only at hSw); go_simp; try (with_reducible rfl)
        (try simp only [Act.put]); (try simp only [List.setIfInBounds_toArray, List.set_cons_zero, List.set_cons_succ])
        refine wpAnyH_done (by kernel_rfl) ?_ _
        refine NoPanic.normal ?_
        go_wp2_with fail
        exact HQQ.out _ _ _ _ _ _ _ _ _ _ _ _ _ _ _ _ _ _ _ _ _ _ _ kd A5 n5 c5 P _ HP.out.2.2.1 HP.out.2.2.2.1 hn5b o8 (by omega) (Y2.out.pick [0, 1, 2, 3, 4] (by decide) rfl)
  case ss6x25 =>
    have c2 : v6.cell? ⟨KB, 3, none⟩ = some (.int .u16 m1) := Y0.out.cell 3 rfl 3 rfl
    have d2 := Y0.out.free 3 rfl 3
    go_simp
    refine nameW (fun v7 hv7 => ?_)
    have Y1 := Lib.hid (show SP w v7 [.blk N 28 #[.int .u8 x0, .int .u8 x1, .int .u8 x2, .int .u8 x3, .int .u8 x4, .int .u8 x5, .int .u8 x6, .int .u8 x7, .int .u8 x8, .int .u8 x9, .int .u8 x10, .int .u8 x11, .int .u8 wd, .int .u16 fr, .int .u16 tp, .bool df, .bool mf, .int .u8 T, .int .u8 cd, .int .u16 id, .int .u16 seq, .slice A n c, .int .u8 ct], .blk M 33 ((qHD x0 x1 x2 pr src dst df false).cells (.slice Ao on on)), .own .u8 5 Ao on on (List.replicate on 0), .blk KB 35 (key5 pr src dst id m2), .own .u8 5 A5 n5 c5 P, .blk MB 38 (msg4 (ty : Int) cv id seq)] by rw [hv7]; exact Y0.out.setB 3 rfl 3 (.int .u16 id))
    clear c2 d2 hv7
    refine hK.out _ _ (by exact Y1.out.cell 5 rfl 2 rfl) (fun hHeld => ?_)
    clear hK K
    (try simp only [Act.put]); (try simp only [List.setIfInBounds_toArray, List.set_cons_zero, List.set_cons_succ])
    refine' take_lit (i := 3) (v := _) rfl (by kernel_rfl) (by kernel_rfl) (by kernel_rfl) (fun _ _ _ h => h) (Or.inl ⟨by rfl, ?yy30⟩) (by assumption) ?rr30
    case yy30 => intro w' hSw; (try dsimp only at hSw); go_simp; try (with_reducible rfl)
    (try simp only [Act.put]); (try simp only [List.setIfInBounds_toArray, List.set_cons_zero, List.set_cons_succ])
    refine' take_lit (i := 7) (v := _) rfl (by kernel_rfl) (by kernel_rfl) (by kernel_rfl) (fun _ _ _ h => h) (Or.inl ⟨by rfl, ?yy31⟩) (by assumption) ?rr31
    case yy31 => intro w' hSw; (try dsimp only at hSw); go_simp; try (with_reducible rfl)
    (try simp only [Act.put]); (try simp only [List.setIfInBounds_toArray, List.set_cons_zero, List.set_cons_succ])
    refine wpAnyH_ready (rs := [8]) (by kernel_rfl) (by simp) ?_
    refine cons_lit rfl (fun K hK => ?ss8x32) AllReadyH.nil
    case ss8x32 =>
      have c2 : v7.cell? ⟨KB, 4, none⟩ = some (.int .u16 m2) := Y1.out.cell 3 rfl 4 rfl
      have d2 := Y1.out.free 3 rfl 4
      go_simp
      refine nameW (fun v8 hv8 => ?_)
      have Y2 := Lib.hid (show SP w v8 [.blk N 28 #[.int .u8 x0, .int .u8 x1, .int .u8 x2, .int .u8 x3, .int .u8 x4, .int .u8 x5, .int .u8 x6, .int .u8 x7, .int .u8 x8, .int .u8 x9, .int .u8 x10, .int .u8 x11, .int .u8 wd, .int .u16 fr, .int .u16 tp, .bool df, .bool mf, .int .u8 T, .int .u8 cd, .int .u16 id, .int .u16 seq, .slice A n c, .int .u8 ct], .blk M 33 ((qHD x0 x1 x2 pr src dst df false).cells (.slice Ao on on)), .own .u8 5 Ao on on (List.replicate on 0), .blk KB 35 (key5 pr src dst id id), .own .u8 5 A5 n5 c5 P, .blk MB 38 (msg4 (ty : Int) cv id seq)] by rw [hv8]; exact Y1.out.setB 3 rfl 4 (.int .u16 id))
      clear c2 d2 hv8
      refine hK.out _ _ (by exact Y2.out.cell 5 rfl 2 rfl) (fun hHeld => ?_)
      clear hK K
      (try simp only [Act.put]); (try simp only [List.setIfInBounds_toArray, List.set_cons_zero, List.set_cons_succ])
      refine' take_lit (i := 9) (v := _) rfl (by kernel_rfl) (by kernel_rfl) (by kernel_rfl) (fun _ _ _ h => h) (Or.inl ⟨by rfl, ?yy33⟩) (by assumption) ?rr33
      case yy33 => intro w' hSw; (try dsimp only at hSw); go_simp; try (with_reducible rfl)
      (try simp only [Act.put]); (try simp only [List.setIfInBounds_toArray, List.set_cons_zero, List.set_cons_succ])
      refine wpAnyH_done (by kernel_rfl) ?_ _
      refine NoPanic.normal ?_
      go_wp2_with fail
      exact HQQ.out _ _ _ _ _ _ _ _ _ _ _ _ _ _ _ _ _ _ _ _ _ _ _ kd A5 n5 c5 P _ HP.out.2.2.1 HP.out.2.2.2.1 hn5b o8 (by omega) (Y2.out.pick [0, 1, 2, 3, 4] (by decide) rfl)

set_option maxHeartbeats 8000000 in
set_option maxRecDepth 100000 in
theorem icqc {u0 u1 u2 u3 u4 u5 u6 u7 u9 u10 u11 u12 u13 u14 u15 u16 u17 u18 u19 u20 u21 u22 u23 u24 u25 u26 u27 u28 u29 u30 u31 u32 u33 u34 u35 u36 u37 u38 u39 u40 u41 u42 u43 u44 u45 u46 u47 u48 u49 u50 u51 u52 u53 u54 u55 u56 u57 u58 u59 u60 u61 u62 u63 u64 u65 u66 u67 u68 u69 u70 u71 u72 u73 u74 u75 u76 u77 u78 u79 u80 u81 u82 u83 u84 u85 u86 u87 u88 u89 u90 u91 u92 u93 u94 u95 u96 u97 u98 u99 u100 u101 u102 u103 u104 u105 u106 u107 u108 u109 u110 u111 u112 u113 u114 u115 u116 u117 u118 u119 u120 u121 u122 u123 u124 u125 u126 u127 u128 u129 u130 u131 u132 u133 u134 u135 u136 u137 u138 u139 u140 u141 u142 u143 u144 u145 u146 u147 u148 u149 u150 u151 u152 u153 u154 u155 u156 u157 u158 u159 u160 u161 u162 u163 u164 u165 u166 u167 u168 u169 u170 u171 u172 u173 u174 u175 u176 u177 u178 u179 u180 u181 u182 u183 u184 u185 u186 u187 u188 u189 u190 u191 u192 u193 u194 u195 u196 u197 u198 u199 u200 u201 u202 u203 u204 u205 u206 u207 u208 u209 u210 u211 u212 u213 u214 u215 u216 u217 u218 u219 u220 u221 u222 u223 u224 u225 u226 u227 u228 u229 u230 u231 u232 u233 u234 u235 u236 u237 u238 u239 u240 u241 u242 u243 u244 u245 u246 : Value} {Q : Exit → Act → World → Prop} (w : World) (N M KB : Nat) (x0 x1 x2 x3 x4 x5 x6 x7 x8 x9 x10 x11 wd fr tp : Int) (df : Bool) (T cd id seq : Int) (A : Option Addr) (n c : Nat) (ct src dst pr sp dp kd : Int) (Ao : Option Addr) (on : Nat) (Ad3 : Option Addr) (dn dc : Nat) (D : List Int) (hdn : dn ≤ 88) (wr : World)
    (HD0 : Hid (QDT pr D kd sp dp ∧ BD 255 D ∧ SP w wr [.blk N 28 #[.int .u8 x0, .int .u8 x1, .int .u8 x2, .int .u8 x3, .int .u8 x4, .int .u8 x5, .int .u8 x6, .int .u8 x7, .int .u8 x8, .int .u8 x9, .int .u8 x10, .int .u8 x11, .int .u8 wd, .int .u16 fr, .int .u16 tp, .bool df, .bool true, .int .u8 T, .int .u8 cd, .int .u16 id, .int .u16 seq, .slice A n c, .int .u8 ct], .blk M 33 ((qHD x0 x1 x2 pr src dst df false).cells (.slice Ao on on)), .own .u8 5 Ao on on (List.replicate on 0), .blk KB 35 (key5 pr src dst sp dp), .own .u8 5 Ad3 dn dc D]))
    (HQQ : Hid (∀ (y131 y132 y133 y134 y135 y136 y137 : Value) (Ad4 : Option Addr) (dm dc4 : Nat) (D4 : List Int) (w' : World), dm ≤ 96 → dm % 8 = 0 → QDT pr D4 kd sp dp → BD 255 D4 → SP w w' [.blk N 28 #[.int .u8 x0, .int .u8 x1, .int .u8 x2, .int .u8 x3, .int .u8 x4, .int .u8 x5, .int .u8 x6, .int .u8 x7, .int .u8 x8, .int .u8 x9, .int .u8 x10, .int .u8 x11, .int .u8 wd, .int .u16 fr, .int .u16 tp, .bool df, .bool true, .int .u8 T, .int .u8 cd, .int .u16 id, .int .u16 seq, .slice A n c, .int .u8 ct], .blk M 33 ((qHD x0 x1 x2 pr src dst df false).cells (.slice Ao on on)), .own .u8 5 Ao on on (List.replicate on 0), .blk KB 35 (key5 pr src dst sp dp), .own .u8 5 Ad4 dm dc4 D4] → Q (.exit 0) ⟨List.toArray (u0 :: u1 :: u2 :: u3 :: u4 :: u5 :: u6 :: u7 :: .slice Ad4 dm dc4 :: u9 :: u10 :: u11 :: u12 :: u13 :: u14 :: u15 :: u16 :: u17 :: u18 :: u19 :: u20 :: u21 :: u22 :: u23 :: u24 :: u25 :: u26 :: u27 :: u28 :: u29 :: u30 :: u31 :: u32 :: u33 :: u34 :: u35 :: u36 :: u37 :: u38 :: u39 :: u40 :: u41 :: u42 :: u43 :: u44 :: u45 :: u46 :: u47 :: u48 :: u49 :: u50 :: u51 :: u52 :: u53 :: u54 :: u55 :: u56 :: u57 :: u58 :: u59 :: u60 :: u61 :: u62 :: u63 :: u64 :: u65 :: u66 :: u67 :: u68 :: u69 :: u70 :: u71 :: u72 :: u73 :: u74 :: u75 :: u76 :: u77 :: u78 :: u79 :: u80 :: u81 :: u82 :: u83 :: u84 :: u85 :: u86 :: u87 :: u88 :: u89 :: u90 :: u91 :: u92 :: u93 :: u94 :: u95 :: u96 :: u97 :: u98 :: u99 :: u100 :: u101 :: u102 :: u103 :: u104 :: u105 :: u106 :: u107 :: u108 :: u109 :: u110 :: u111 :: u112 :: u113 :: u114 :: u115 :: u116 :: u117 :: u118 :: u119 :: u120 :: u121 :: u122 :: u123 :: u124 :: u125 :: u126 :: u127 :: u128 :: u129 :: u130 :: y131 :: y132 :: y133 :: y134 :: y135 :: y136 :: y137 :: u138 :: u139 :: u140 :: u141 :: u142 :: u143 :: u144 :: u145 :: u146 :: u147 :: u148 :: u149 :: u150 :: u151 :: u152 :: u153 :: u154 :: u155 :: u156 :: u157 :: u158 :: u159 :: u160 :: u161 :: u162 :: u163 :: u164 :: u165 :: u166 :: u167 :: u168 :: u169 :: u170 :: u171 :: u172 :: u173 :: u174 :: u175 :: u176 :: u177 :: u178 :: u179 :: u180 :: u181 :: u182 :: u183 :: u184 :: u185 :: u186 :: u187 :: u188 :: u189 :: u190 :: u191 :: u192 :: u193 :: u194 :: u195 :: u196 :: u197 :: u198 :: u199 :: u200 :: u201 :: u202 :: u203 :: u204 :: u205 :: u206 :: u207 :: u208 :: u209 :: u210 :: u211 :: u212 :: u213 :: u214 :: u215 :: u216 :: u217 :: u218 :: u219 :: u220 :: u221 :: u222 :: u223 :: u224 :: u225 :: u226 :: u227 :: u228 :: u229 :: u230 :: u231 :: u232 :: u233 :: u234 :: u235 :: u236 :: u237 :: u238 :: u239 :: u240 :: u241 :: u242 :: u243 :: u244 :: u245 :: u246 :: []), []⟩ w')) :
    Code.wp Tryd.prog (loopAt Tryd.f3 12) Q ⟨List.toArray (u0 :: u1 :: u2 :: u3 :: u4 :: u5 :: u6 :: u7 :: .slice Ad3 dn dc :: u9 :: u10 :: u11 :: u12 :: u13 :: u14 :: u15 :: u16 :: u17 :: u18 :: u19 :: u20 :: u21 :: u22 :: u23 :: u24 :: u25 :: u26 :: u27 :: u28 :: u29 :: u30 :: u31 :: u32 :: u33 :: u34 :: u35 :: u36 :: u37 :: u38 :: u39 :: u40 :: u41 :: u42 :: u43 :: u44 :: u45 :: u46 :: u47 :: u48 :: u49 :: u50 :: u51 :: u52 :: u53 :: u54 :: u55 :: u56 :: u57 :: u58 :: u59 :: u60 :: u61 :: u62 :: u63 :: u64 :: u65 :: u66 :: u67 :: u68 :: u69 :: u70 :: u71 :: u72 :: u73 :: u74 :: u75 :: u76 :: u77 :: u78 :: u79 :: u80 :: u81 :: u82 :: u83 :: u84 :: u85 :: u86 :: u87 :: u88 :: u89 :: u90 :: u91 :: u92 :: u93 :: u94 :: u95 :: u96 :: u97 :: u98 :: u99 :: u100 :: u101 :: u102 :: u103 :: u104 :: u105 :: u106 :: u107 :: u108 :: u109 :: u110 :: u111 :: u112 :: u113 :: u114 :: u115 :: u116 :: u117 :: u118 :: u119 :: u120 :: u121 :: u122 :: u123 :: u124 :: u125 :: u126 :: u127 :: u128 :: u129 :: u130 :: u131 :: u132 :: u133 :: u134 :: u135 :: u136 :: u137 :: u138 :: u139 :: u140 :: u141 :: u142 :: u143 :: u144 :: u145 :: u146 :: u147 :: u148 :: u149 :: u150 :: u151 :: u152 :: u153 :: u154 :: u155 :: u156 :: u157 :: u158 :: u159 :: u160 :: u161 :: u162 :: u163 :: u164 :: u165 :: u166 :: u167 :: u168 :: u169 :: u170 :: u171 :: u172 :: u173 :: u174 :: u175 :: u176 :: u177 :: u178 :: u179 :: u180 :: u181 :: u182 :: u183 :: u184 :: u185 :: u186 :: u187 :: u188 :: u189 :: u190 :: u191 :: u192 :: u193 :: u194 :: u195 :: u196 :: u197 :: u198 :: u199 :: u200 :: u201 :: u202 :: u203 :: u204 :: u205 :: u206 :: u207 :: u208 :: u209 :: u210 :: u211 :: u212 :: u213 :: u214 :: u215 :: u216 :: u217 :: u218 :: u219 :: u220 :: u221 :: u222 :: u223 :: u224 :: u225 :: u226 :: u227 :: u228 :: u229 :: u230 :: u231 :: u232 :: u233 :: u234 :: u235 :: u236 :: u237 :: u238 :: u239 :: u240 :: u241 :: u242 :: u243 :: u244 :: u245 :: u246 :: []), []⟩ wr := by
  obtain ⟨i0, hi, hz0, hz1, hz2⟩ := info_parts infoU8
  conv => arg 2; whnf
  go_loopw [8] (fun s8 wr => ∃ (Ad : Option Addr) (dn dc : Nat) (D : List Int), s8 = .slice Ad dn dc ∧ dn ≤ 96 ∧ Hid (QDT pr D kd sp dp ∧ BD 255 D ∧ SP w wr [.blk N 28 #[.int .u8 x0, .int .u8 x1, .int .u8 x2, .int .u8 x3, .int .u8 x4, .int .u8 x5, .int .u8 x6, .int .u8 x7, .int .u8 x8, .int .u8 x9, .int .u8 x10, .int .u8 x11, .int .u8 wd, .int .u16 fr, .int .u16 tp, .bool df, .bool true, .int .u8 T, .int .u8 cd, .int .u16 id, .int .u16 seq, .slice A n c, .int .u8 ct], .blk M 33 ((qHD x0 x1 x2 pr src dst df false).cells (.slice Ao on on)), .own .u8 5 Ao on on (List.replicate on 0), .blk KB 35 (key5 pr src dst sp dp), .own .u8 5 Ad dn dc D])) (fun s8 _ => match s8 with | .slice _ n _ => (8 - n % 8) % 8 | _ => 0)
  case atStart => exact ⟨Ad3, dn, dc, D, rfl, by omega, HD0⟩
  case round =>
    obtain ⟨Ad4, dm, dc4, D4, rfl, hdm, HX⟩ := hrel
    obtain ⟨wo, rfl⟩ : ∃ wo : World, wo = wr := ⟨_, rfl⟩
    clear HD0
    by_cases h0 : dm % 8 = 0
    · have i0' : (dm : Int) % 8 = 0 := by omega
      go_wp2_with fail
      exact HQQ.out _ _ _ _ _ _ _ Ad4 dm dc4 D4 _ hdm h0 HX.out.1 HX.out.2.1 HX.out.2.2
    · have i0' : (0 : Int) < (dm : Int) % 8 := by omega
      have hd95 : dm ≤ 95 := by omega
      have H0 := Lib.hid h0
      have Y4 := Lib.hid (HX.out.2.2.allocI' .u8 5 [0] (by decide) (N := wo.heap.size) rfl)
      have hlt : ∀ g, Ad4 = some ⟨g, 0, none⟩ → g < wo.heap.size := fun g hg => by
        have := (HX.out.2.2.own 4 rfl)
        rw [hg] at this
        exact (this.lt g rfl).2
      clear h0 hlt
      go_wp2_with (at_builtin; refine wpList_append_rd _ rfl _ _ _ rfl .u8 w.heap.size 5 i0 1 Tryd.underlying24 hi hz0 hz1 hz2 Ad4 dm dc4 D4 rfl (Y4.out.own 4 rfl) _ (some ⟨wo.heap.size, 0, none⟩) 1 1 [0] rfl (Y4.out.rd 5 rfl) (by simp only [maxLen]; omega) (by omega) Y4.out.size ?_; intro A9 c9 w9 happ; have Y9 := Lib.hid (Y4.out.app 4 rfl happ); clear happ Y4)
      go_roundw
      case rel => exact ⟨A9, dm + 1, c9, D4 ++ [0], rfl, by omega, Lib.hid ⟨HX.out.1.app [0], HX.out.2.1.append (bd_all (by decide)), Y9.out.pick [0, 1, 2, 3, 4] (by decide) rfl⟩⟩
      case measure => have := H0.out; show (8 - (dm + 1) % 8) % 8 < (8 - dm % 8) % 8; omega
end Go.Proofs.YtdepibljeopcgaaDoor
