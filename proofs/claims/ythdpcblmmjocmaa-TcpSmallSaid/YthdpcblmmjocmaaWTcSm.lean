import Derived.Test.YthdpcblmmjocmaaLTcOptions
import Derived.Test.YthdpcblmmjocmaaLTcReads
import Derived.Test.YthdpcblmmjocmaaWPairs
import Derived.Test.YthdpcblmmjocmaaWCopy
import Derived.Test.YthdpcblmmjocmaaTcBk
import Derived.Test.YthdpcblmmjocmaaCuts
import Derived.Deep.DeepCutAuto
/- bafflelaw08.TcpSmall. (Printed by gen_tcsmall.py.) -/
namespace Go.Proofs.Ythdpcblmmjocmaa
open Go.RowKit
set_option linter.unusedVariables false

theorem bits_or8 (a b : Int) : 0 ≤ bits .or .u8 a b ∧ bits .or .u8 a b ≤ 255 := by
  unfold bits
  simp only []
  have h : ∀ x : Int, 0 ≤ IntKind.u8.wrap x ∧ IntKind.u8.wrap x ≤ 255 := fun x => by
    have : IntKind.u8.wrap x = x % 256 := by simp [IntKind.wrap, IntKind.signed, IntKind.bits]
    omega
  exact h _
theorem wrap8_bd (x : Int) : 0 ≤ IntKind.u8.wrap x ∧ IntKind.u8.wrap x ≤ 255 := by
  have : IntKind.u8.wrap x = x % 256 := by simp [IntKind.wrap, IntKind.signed, IntKind.bits]
  omega
theorem bd_set {zs : List Int} (h : BD 255 zs) (k : Nat) {y : Int} (hy : 0 ≤ y ∧ y ≤ 255) : BD 255 (zs.set k y) := fun z hz => by
  rcases List.mem_or_eq_of_mem_set hz with hz | rfl
  · exact h z hz
  · exact hy
theorem th_wf {p q x : Int} (hp : 0 ≤ p ∧ p ≤ 65535) (hq : 0 ≤ q ∧ q ≤ 65535) (hx : 0 ≤ x ∧ x ≤ 255) : (TH.mk p q 0 0 x 0 0).WF :=
  ⟨hp, hq, (show (0 : Int) ≤ 0 ∧ (0 : Int) ≤ 4294967295 from by decide), (show (0 : Int) ≤ 0 ∧ (0 : Int) ≤ 4294967295 from by decide), hx, (show (0 : Int) ≤ 0 ∧ (0 : Int) ≤ 65535 from by decide), (show (0 : Int) ≤ 0 ∧ (0 : Int) ≤ 65535 from by decide)⟩
theorem zeros_bd8 (n : Nat) : BD 255 (List.replicate n (0 : Int)) := fun x hx => by have := List.eq_of_mem_replicate hx; omega
theorem ROWP.none (w : World) : ROWP w none 0 0 [] := ⟨⟨rfl, fun h => absurd h (by omega)⟩, (fun p hp => by cases hp), rfl, Nat.le_refl _, Nat.zero_le _, fun _ => rfl⟩
theorem ROWP.of_row {w : World} {base : Nat} {e : TypeId} {A : Option Addr} {n c : Nat} {l : List (Int × Int)} (h : w.ownsRow base e 2 (.slice A n c) n (prs l)) (hb : ∀ p ∈ l, (0 ≤ p.1 ∧ p.1 ≤ 4294967295) ∧ (0 ≤ p.2 ∧ p.2 ≤ 4294967295)) (hl : l.length = n) (hnc : n ≤ c) (hc : c ≤ maxLen) : ROWP w A n c l := by
  refine ⟨row_rd h, hb, hl, hnc, hc, fun hA => ?_⟩
  rcases h.2 with ⟨_, h0⟩ | ⟨g, cap, cur, hv, _⟩
  · omega
  · subst hA; simp at hv
theorem zpairs_bd (n : Nat) : ∀ p ∈ List.replicate n ((0 : Int), (0 : Int)), (0 ≤ p.1 ∧ p.1 ≤ 4294967295) ∧ (0 ≤ p.2 ∧ p.2 ≤ 4294967295) := fun p hp => by rw [List.eq_of_mem_replicate hp]; simp

set_option maxHeartbeats 8000000 in
set_option maxRecDepth 100000 in
theorem small8_1 {u0 u4 u5 u6 u7 u8 u9 u10 u11 u12 u13 u14 u15 u16 u17 u18 u19 u20 u21 u22 u23 u24 u25 u26 u27 u28 u30 u31 u32 u33 u34 u35 u36 u37 u38 u39 u40 u41 u42 u43 u44 u45 u46 u47 u48 u49 u50 u51 u52 u53 u54 u55 u56 u57 u58 u59 u60 u61 u62 u63 u64 u65 u66 u67 u68 u69 u70 u71 u72 u73 u74 u75 u76 u77 u78 u79 u80 u81 u82 u83 u84 u85 u86 u87 u88 u89 u90 u91 u92 u93 u94 u95 u96 u97 u98 u99 u100 u101 u102 u103 u104 u105 u106 u107 u108 u109 u110 u111 u112 u113 u114 u115 u116 u117 u118 u119 u120 u121 u122 u123 u124 u125 u126 u127 u128 u129 u130 u131 u132 u133 u134 u135 u136 u137 u138 u139 u140 u141 u142 u143 u144 u145 u146 u147 u148 u149 u150 u151 u152 u153 u154 u155 u156 u157 u158 u159 u160 u161 u162 u163 u164 u165 u166 u167 u168 u169 u170 u171 u172 u173 u174 u175 u176 u177 u178 u179 u180 u181 u182 u183 u184 u185 u186 u187 u188 u189 u190 u191 u192 u193 u194 u195 u196 u197 u198 u199 u200 u201 u202 u203 u204 u205 u206 u207 u208 u209 u210 u211 u212 u213 u214 u215 u216 u217 u218 u219 u220 u221 u222 u223 u224 u225 u226 u227 u228 u229 u230 u231 u232 u233 u234 u235 u236 u237 u238 u239 u240 u241 u242 u243 u244 u245 u246 u247 u248 u249 u250 u251 u252 u253 u254 u255 u256 u257 u258 u259 u260 u261 u262 u263 u264 u265 u266 u267 u268 u269 u270 u271 u272 u273 u274 u275 u276 u277 u278 u279 u280 u281 u282 : Value} {Q : Exit → Act → World → Prop} (w0 w : World) (G : Nat)  (hG : w0.heap.size = G) (X : SP w0 w [.own .u8 5 (some ⟨G, 0, none⟩) 20 20 EX8])
    (HQ : ∀ (y0 y4 y5 y6 y29 y30 y31 y32 y33 y34 y35 y36 y37 y38 y39 y40 y41 y42 y43 y44 y45 y46 y47 y48 y49 y50 y51 y52 y53 y54 y55 y56 y57 y58 y59 y60 y61 y62 y63 y64 y65 y66 y67 y68 y69 y70 y71 y72 y73 y74 y75 y76 y77 y78 y79 y80 y81 y82 y83 y84 y85 y86 y87 y88 y89 y90 y91 y92 y93 y94 y95 y96 y97 y98 y99 y100 y101 y102 y103 y104 y105 y106 y107 y108 : Value) (w' : World), SP w0 w' [.own .u8 5 (some ⟨G, 0, none⟩) 20 20 EX8] → Q (.exit 0) ⟨List.toArray (y0 :: .slice (some ⟨G, 0, none⟩) 20 20 :: .int .u32 167772161 :: .int .u32 167772162 :: y4 :: y5 :: y6 :: u7 :: u8 :: u9 :: u10 :: u11 :: u12 :: u13 :: u14 :: u15 :: u16 :: u17 :: u18 :: u19 :: u20 :: u21 :: u22 :: u23 :: u24 :: u25 :: u26 :: u27 :: u28 :: y29 :: y30 :: y31 :: y32 :: y33 :: y34 :: y35 :: y36 :: y37 :: y38 :: y39 :: y40 :: y41 :: y42 :: y43 :: y44 :: y45 :: y46 :: y47 :: y48 :: y49 :: y50 :: y51 :: y52 :: y53 :: y54 :: y55 :: y56 :: y57 :: y58 :: y59 :: y60 :: y61 :: y62 :: y63 :: y64 :: y65 :: y66 :: y67 :: y68 :: y69 :: y70 :: y71 :: y72 :: y73 :: y74 :: y75 :: y76 :: y77 :: y78 :: y79 :: y80 :: y81 :: y82 :: y83 :: y84 :: y85 :: y86 :: y87 :: y88 :: y89 :: y90 :: y91 :: y92 :: y93 :: y94 :: y95 :: y96 :: y97 :: y98 :: y99 :: y100 :: y101 :: y102 :: y103 :: y104 :: y105 :: y106 :: y107 :: y108 :: u109 :: u110 :: u111 :: u112 :: u113 :: u114 :: u115 :: u116 :: u117 :: u118 :: u119 :: u120 :: u121 :: u122 :: u123 :: u124 :: u125 :: u126 :: u127 :: u128 :: u129 :: u130 :: u131 :: u132 :: u133 :: u134 :: u135 :: u136 :: u137 :: u138 :: u139 :: u140 :: u141 :: u142 :: u143 :: u144 :: u145 :: u146 :: u147 :: u148 :: u149 :: u150 :: u151 :: u152 :: u153 :: u154 :: u155 :: u156 :: u157 :: u158 :: u159 :: u160 :: u161 :: u162 :: u163 :: u164 :: u165 :: u166 :: u167 :: u168 :: u169 :: u170 :: u171 :: u172 :: u173 :: u174 :: u175 :: u176 :: u177 :: u178 :: u179 :: u180 :: u181 :: u182 :: u183 :: u184 :: u185 :: u186 :: u187 :: u188 :: u189 :: u190 :: u191 :: u192 :: u193 :: u194 :: u195 :: u196 :: u197 :: u198 :: u199 :: u200 :: u201 :: u202 :: u203 :: u204 :: u205 :: u206 :: u207 :: u208 :: u209 :: u210 :: u211 :: u212 :: u213 :: u214 :: u215 :: u216 :: u217 :: u218 :: u219 :: u220 :: u221 :: u222 :: u223 :: u224 :: u225 :: u226 :: u227 :: u228 :: u229 :: u230 :: u231 :: u232 :: u233 :: u234 :: u235 :: u236 :: u237 :: u238 :: u239 :: u240 :: u241 :: u242 :: u243 :: u244 :: u245 :: u246 :: u247 :: u248 :: u249 :: u250 :: u251 :: u252 :: u253 :: u254 :: u255 :: u256 :: u257 :: u258 :: u259 :: u260 :: u261 :: u262 :: u263 :: u264 :: u265 :: u266 :: u267 :: u268 :: u269 :: u270 :: u271 :: u272 :: u273 :: u274 :: u275 :: u276 :: u277 :: u278 :: u279 :: u280 :: u281 :: u282 :: []), []⟩ w') :
    Code.wp Try.prog (loopAt Try.f6 3) Q ⟨List.toArray (u0 :: .slice (some ⟨G, 0, none⟩) 20 20 :: .int .u32 167772161 :: .int .u32 167772162 :: u4 :: u5 :: u6 :: u7 :: u8 :: u9 :: u10 :: u11 :: u12 :: u13 :: u14 :: u15 :: u16 :: u17 :: u18 :: u19 :: u20 :: u21 :: u22 :: u23 :: u24 :: u25 :: u26 :: u27 :: u28 :: .int .i64 0 :: u30 :: u31 :: u32 :: u33 :: u34 :: u35 :: u36 :: u37 :: u38 :: u39 :: u40 :: u41 :: u42 :: u43 :: u44 :: u45 :: u46 :: u47 :: u48 :: u49 :: u50 :: u51 :: u52 :: u53 :: u54 :: u55 :: u56 :: u57 :: u58 :: u59 :: u60 :: u61 :: u62 :: u63 :: u64 :: u65 :: u66 :: u67 :: u68 :: u69 :: u70 :: u71 :: u72 :: u73 :: u74 :: u75 :: u76 :: u77 :: u78 :: u79 :: u80 :: u81 :: u82 :: u83 :: u84 :: u85 :: u86 :: u87 :: u88 :: u89 :: u90 :: u91 :: u92 :: u93 :: u94 :: u95 :: u96 :: u97 :: u98 :: u99 :: u100 :: u101 :: u102 :: u103 :: u104 :: u105 :: u106 :: u107 :: u108 :: u109 :: u110 :: u111 :: u112 :: u113 :: u114 :: u115 :: u116 :: u117 :: u118 :: u119 :: u120 :: u121 :: u122 :: u123 :: u124 :: u125 :: u126 :: u127 :: u128 :: u129 :: u130 :: u131 :: u132 :: u133 :: u134 :: u135 :: u136 :: u137 :: u138 :: u139 :: u140 :: u141 :: u142 :: u143 :: u144 :: u145 :: u146 :: u147 :: u148 :: u149 :: u150 :: u151 :: u152 :: u153 :: u154 :: u155 :: u156 :: u157 :: u158 :: u159 :: u160 :: u161 :: u162 :: u163 :: u164 :: u165 :: u166 :: u167 :: u168 :: u169 :: u170 :: u171 :: u172 :: u173 :: u174 :: u175 :: u176 :: u177 :: u178 :: u179 :: u180 :: u181 :: u182 :: u183 :: u184 :: u185 :: u186 :: u187 :: u188 :: u189 :: u190 :: u191 :: u192 :: u193 :: u194 :: u195 :: u196 :: u197 :: u198 :: u199 :: u200 :: u201 :: u202 :: u203 :: u204 :: u205 :: u206 :: u207 :: u208 :: u209 :: u210 :: u211 :: u212 :: u213 :: u214 :: u215 :: u216 :: u217 :: u218 :: u219 :: u220 :: u221 :: u222 :: u223 :: u224 :: u225 :: u226 :: u227 :: u228 :: u229 :: u230 :: u231 :: u232 :: u233 :: u234 :: u235 :: u236 :: u237 :: u238 :: u239 :: u240 :: u241 :: u242 :: u243 :: u244 :: u245 :: u246 :: u247 :: u248 :: u249 :: u250 :: u251 :: u252 :: u253 :: u254 :: u255 :: u256 :: u257 :: u258 :: u259 :: u260 :: u261 :: u262 :: u263 :: u264 :: u265 :: u266 :: u267 :: u268 :: u269 :: u270 :: u271 :: u272 :: u273 :: u274 :: u275 :: u276 :: u277 :: u278 :: u279 :: u280 :: u281 :: u282 :: []), []⟩ w := by
  obtain ⟨i0, hi, hz0, hz1, hz2⟩ := info_parts infoU8
  have HQH := Lib.hid HQ
  clear HQ
  have HX := Lib.hid X
  clear X
  conv => arg 2; whnf
  go_loopw [29] (fun s29 wr => ∃ k : Nat, k ≤ 256 ∧ s29 = .int .i64 (k : Int) ∧ SP w0 wr [.own .u8 5 (some ⟨G, 0, none⟩) 20 20 EX8]) (fun s29 _ => 256 - (intOf s29).toNat)
  case atStart => exact ⟨0, by omega, rfl, HX.out⟩
  case round =>
    obtain ⟨k, hk, rfl, X0⟩ := hrel
    obtain ⟨wo, rfl⟩ : ∃ wo : World, wo = wr := ⟨_, rfl⟩
    have X := Lib.hid X0
    clear X0 HX
    by_cases hlt : k < 256
    case neg =>
      have t1 : ¬ (k : Int) < 256 := by omega
      go_wp2_with fail
      exact HQH.out _ _ _ _ _ _ _ _ _ _ _ _ _ _ _ _ _ _ _ _ _ _ _ _ _ _ _ _ _ _ _ _ _ _ _ _ _ _ _ _ _ _ _ _ _ _ _ _ _ _ _ _ _ _ _ _ _ _ _ _ _ _ _ _ _ _ _ _ _ _ _ _ _ _ _ _ _ _ _ _ _ _ _ _ _ X.out
    have t1 : (k : Int) < 256 := by omega
    have e1 : IntKind.u8.wrap (k : Int) = (k : Int) := u8_in _ (by omega) (by omega)
    have HT := Lib.hid (X.out.allocI .u8 5 [] (by simp [maxLen]))
    go_upto_region 6 with (first
      | (at_builtin; refine wpList_append_rd _ rfl _ _ _ rfl .u8 w0.heap.size 5 i0 1 Try.underlying22 hi hz0 hz1 hz2 A3 20 c3 (EX8) rfl (HL.out.own 1 rfl) _ (some ⟨w3.heap.size, 0, none⟩) 5 5 ([1, 3, 3, 9, 7]) rfl (HL.out.rd 2 rfl) (by simp only [maxLen]; omega) (by omega) HL.out.size ?_; intro A4 c4 w4 happ; have H4 := Lib.hid (HL.out.app 1 rfl happ); clear happ)
      | (at_builtin; refine wpList_append_rd _ rfl _ _ _ rfl .u8 w0.heap.size 5 i0 1 Try.underlying22 hi hz0 hz1 hz2 (some ⟨wo.heap.size, 0, none⟩) 0 0 ([]) rfl (HT.out.own 1 rfl) _ (some ⟨G, 0, none⟩) 20 20 (EX8) rfl (HT.out.rd 0 rfl) (by simp only [maxLen]; omega) (by omega) HT.out.size ?_; intro A3 c3 w3 happ; have H3 := Lib.hid (HT.out.app 1 rfl happ); have HL := Lib.hid (H3.out.allocI .u8 5 [1, 3, 3, 9, 7] (by simp [maxLen])); clear happ))
    obtain ⟨g4, rfl, hg4, _⟩ := (H4.out.own 1 rfl).form (by omega)
    have hle4 := (H4.out.own 1 rfl).le
    have xa := (H4.out.own 1 rfl).cell (i := 12) (by omega)
    have xb := (H4.out.own 1 rfl).cell (i := 13) (by omega)
    have za := (H4.out.own 1 rfl).frozen 12
    have zb := (H4.out.own 1 rfl).frozen 13
    have H5 := Lib.hid ((H4.out.setO 1 rfl 12 96).setO 1 rfl 13 (k : Int))
    clear HT H3 HL
    go_upto_region 7 with fail
    generalize ((w4.setCell ⟨g4, 12, none⟩ (.int .u8 96)).setCell ⟨g4, 13, none⟩ (.int .u8 (k : Int))) = w5 at H5 ⊢
    have hb5 : BD 255 (((EX8 ++ [1, 3, 3, 9, 7]).set 12 96).set 13 (k : Int)) := bd_set (bd_set (EX8_bd.append (bd_all (by decide))) 12 (by decide)) 13 (by omega)
    have H6 := Lib.hid (show SP w0 w5 [.own .u8 5 (some ⟨G, 0, none⟩) 20 20 EX8, .own .u8 5 (some ⟨g4, 0, none⟩) 25 c4 (((EX8 ++ [1, 3, 3, 9, 7]).set 12 96).set 13 (k : Int))] from H5.out.pick [0, 1] (by decide) rfl)
    clear xa xb za zb H4 H5
    go_wp2_with fail
    refine (reads8_any _ 25 c4 _ 167772161 167772162 (k : Int) _ _ (H6.out.rd 1 rfl) hb5 hle4.1 (by decide) (by decide) (by omega)).mono ?_
    rintro e w6 ⟨rfl, hb6⟩
    have H7 := Lib.hid (show SP w0 w6 [.own .u8 5 (some ⟨G, 0, none⟩) 20 20 EX8] from (H6.out.next hb6).pick [0] (by decide) rfl)
    clear hb6 H6
    obtain ⟨mm, hmm, hm20⟩ : ∃ mm : Nat, (if (20 : Int) < (k : Int) then (20 : Int) else (k : Int)) = (mm : Int) ∧ mm ≤ 20 := by
      by_cases h : 20 < k
      · exact ⟨20, by rw [if_pos (by omega)]; rfl, by omega⟩
      · exact ⟨k, by rw [if_neg (by omega)], by omega⟩
    have u1 : (0 : Int) ≤ (mm : Int) := by omega
    have u2 : (mm : Int) ≤ 20 := by omega
    go_wp2_with fail
    refine (reads8_any _ mm 20 (EX8.take mm) 167772161 167772162 (k : Int) _ _ ((H7.out.rd 0 rfl).take hm20) (EX8_bd.take _) hm20 (by decide) (by decide) (by omega)).mono ?_
    rintro e w7 ⟨rfl, hb7⟩
    have H8 := Lib.hid (H7.out.next hb7)
    clear hb7 H7 hmm u1 u2
    obtain ⟨r, hr⟩ : ∃ r : Nat, (k : Int) % 20 = (r : Int) := ⟨k % 20, by omega⟩
    have hr20 : r < 20 := by omega
    have hrt : (k : Int).tmod 20 = (r : Int) := by rw [Int.tmod_eq_emod_of_nonneg (by omega)]; exact hr
    have u1 : (0 : Int) ≤ (r : Int) := by omega
    have u2 : (r : Int) ≤ 20 := by omega
    have u3 : (r : Int) < 20 := by omega
    go_wp2_with fail
    refine (writes8_any ⟨1, 2, 0, 0, (k : Int), 0, 0⟩ (th_wf (by decide) (by decide) (by omega)) none 0 0 [] 167772161 167772162 (some ⟨G, 0, none⟩) r 20 (EX8.take r) _ RD.nil (fun x hx => by cases hx) (by decide) (by decide) ((H8.out.rd 0 rfl).take (by omega)) (EX8_bd.take _)).mono ?_
    rintro e w8 ⟨rfl, hb8⟩
    have H9 := Lib.hid (H8.out.next hb8)
    clear hb8 H8
    have HT := Lib.hid (H9.out.allocI .u8 5 [] (by simp [maxLen]))
    go_upto_region 10 with (at_builtin; refine wpList_append_rd _ rfl _ _ _ rfl .u8 w0.heap.size 5 i0 1 Try.underlying22 hi hz0 hz1 hz2 (some ⟨w8.heap.size, 0, none⟩) 0 0 ([]) rfl (HT.out.own 1 rfl) _ (some ⟨G, 0, none⟩) 20 20 (EX8) rfl (HT.out.rd 0 rfl) (by simp only [maxLen]; omega) (by omega) HT.out.size ?_; intro A3 c3 w3 happ; have HA := Lib.hid (HT.out.app 1 rfl happ); clear happ)
    obtain ⟨g3, rfl, hg3, _⟩ := (HA.out.own 1 rfl).form (by omega)
    have hle3 := (HA.out.own 1 rfl).le
    have xa := (HA.out.own 1 rfl).cell (i := r) hr20
    have za := (HA.out.own 1 rfl).frozen r
    obtain ⟨v, hv⟩ : ∃ v, IntKind.u8.wrap ((k : Int) * 7) = v := ⟨_, rfl⟩
    have hvb : 0 ≤ v ∧ v ≤ 255 := hv ▸ wrap8_bd _
    have e7 : IntKind.i64.wrap ((k : Int) * 7) = (k : Int) * 7 := IntWalk.i64_in _ (by omega)
    have HB := Lib.hid (show SP w0 (w3.setCell ⟨g3, r, none⟩ (.int .u8 v)) [.own .u8 5 (some ⟨G, 0, none⟩) 20 20 EX8, .own .u8 5 (some ⟨g3, 0, none⟩) 20 c3 (EX8.set r v)] from HA.out.setO 1 rfl r v)
    have hbx : BD 255 (EX8.set r v) := bd_set EX8_bd r hvb
    clear HT H9
    go_upto_region 11 with fail
    generalize w3.setCell ⟨g3, r, none⟩ (.int .u8 v) = w9 at HB ⊢
    clear xa za hv e7 HA hr hrt u1 u2 u3
    go_wp2_with fail
    refine (reads8_any _ 20 c3 (EX8.set r v) 167772161 167772162 0 _ _ (HB.out.rd 1 rfl) hbx hle3.1 (by decide) (by decide) (by decide)).mono ?_
    rintro e wa ⟨rfl, hba⟩
    have HC := Lib.hid (HB.out.next hba)
    clear hba HB
    have HT := Lib.hid (HC.out.allocI .u8 5 [] (by simp [maxLen]))
    go_wp2_with (refine wpList_append_rd_w _ (.tmp 98) (.tmp 99) 22 rfl (by rfl) .u8 w0.heap.size 5 i0 1 Try.underlying22 hi hz0 hz1 hz2 (some ⟨wa.heap.size, 0, none⟩) 0 0 ([]) rfl (HT.out.own 2 rfl) _ (some ⟨g3, 0, none⟩) 20 c3 (EX8.set r v) rfl (HT.out.rd 1 rfl) (by simp only [maxLen]; omega) (by omega) HT.out.size ?_; intro A7 c7 wb happ; have HD := Lib.hid (HT.out.app 2 rfl happ); clear happ)
    refine (reads8_any A7 20 c7 (EX8.set r v) 167772162 167772161 0 _ _ (HD.out.rd 2 rfl) hbx (HD.out.own 2 rfl).le.1 (by decide) (by decide) (by decide)).mono ?_
    rintro e wc ⟨rfl, hbc⟩
    have HE := Lib.hid (HD.out.next hbc)
    clear hbc HD HT HC
    go_wp2_with fail
    go_roundw
    case rel => exact ⟨k + 1, by omega, by go_num, HE.out.pick [0] (by decide) rfl⟩
    case measure => simp [intOf]; omega

set_option maxHeartbeats 8000000 in
set_option maxRecDepth 100000 in
theorem small8_2 {u0 u4 u5 u6 u9 u10 u11 u12 u13 u14 u15 u16 u17 u18 u19 u20 u21 u22 u23 u24 u25 u26 u27 u28 u29 u30 u31 u32 u33 u34 u35 u36 u37 u38 u39 u40 u41 u42 u43 u44 u45 u46 u47 u48 u49 u50 u51 u52 u53 u54 u55 u56 u57 u58 u59 u60 u61 u62 u63 u64 u65 u66 u67 u68 u69 u70 u71 u72 u73 u74 u75 u76 u77 u78 u79 u80 u81 u82 u83 u84 u85 u86 u87 u88 u89 u90 u91 u92 u93 u94 u95 u96 u97 u98 u99 u100 u101 u102 u103 u104 u105 u106 u107 u108 u109 u110 u111 u112 u113 u114 u115 u116 u117 u118 u119 u120 u121 u122 u123 u124 u125 u126 u127 u128 u129 u130 u131 u132 u133 u134 u135 u136 u137 u138 u139 u140 u141 u142 u143 u144 u145 u146 u147 u148 u149 u150 u151 u152 u153 u154 u155 u156 u157 u158 u159 u160 u161 u162 u163 u164 u165 u166 u167 u168 u169 u170 u171 u172 u173 u174 u175 u176 u177 u178 u179 u180 u181 u182 u183 u184 u185 u186 u187 u188 u189 u190 u191 u192 u193 u194 u195 u196 u197 u198 u199 u200 u201 u202 u203 u204 u205 u206 u207 u208 u209 u210 u211 u212 u213 u214 u215 u216 u217 u218 u219 u220 u221 u222 u223 u224 u225 u226 u227 u228 u229 u230 u231 u232 u233 u234 u235 u236 u237 u238 u239 u240 u241 u242 u243 u244 u245 u246 u247 u248 u249 u250 u251 u252 u253 u254 u255 u256 u257 u258 u259 u260 u261 u262 u263 u264 u265 u266 u267 u268 u269 u270 u271 u272 u273 u274 u275 u276 u277 u278 u279 u280 u281 u282 : Value} {Q : Exit → Act → World → Prop} (w0 w : World) (G : Nat) (G2 : Nat) (hG : w0.heap.size = G) (X : SP w0 w [.own .u8 5 (some ⟨G, 0, none⟩) 20 20 EX8, .own .u8 5 (some ⟨G2, 0, none⟩) 9 9 [0, 1, 2, 3, 4, 5, 8, 10, 14]])
    (HQ : ∀ (y0 y8 y9 y110 y111 y112 y113 y114 y115 y116 y117 y118 y119 y120 y121 y122 y123 y124 y125 y126 y127 y128 y129 y130 y131 y132 y133 y134 y135 y136 y137 y138 y139 y140 : Value) (w' : World), SP w0 w' [.own .u8 5 (some ⟨G, 0, none⟩) 20 20 EX8, .own .u8 5 (some ⟨G2, 0, none⟩) 9 9 [0, 1, 2, 3, 4, 5, 8, 10, 14]] → Q (.exit 2) ⟨List.toArray (y0 :: .slice (some ⟨G, 0, none⟩) 20 20 :: .int .u32 167772161 :: .int .u32 167772162 :: u4 :: u5 :: u6 :: .slice (some ⟨G2, 0, none⟩) 9 9 :: y8 :: y9 :: u10 :: u11 :: u12 :: u13 :: u14 :: u15 :: u16 :: u17 :: u18 :: u19 :: u20 :: u21 :: u22 :: u23 :: u24 :: u25 :: u26 :: u27 :: u28 :: u29 :: u30 :: u31 :: u32 :: u33 :: u34 :: u35 :: u36 :: u37 :: u38 :: u39 :: u40 :: u41 :: u42 :: u43 :: u44 :: u45 :: u46 :: u47 :: u48 :: u49 :: u50 :: u51 :: u52 :: u53 :: u54 :: u55 :: u56 :: u57 :: u58 :: u59 :: u60 :: u61 :: u62 :: u63 :: u64 :: u65 :: u66 :: u67 :: u68 :: u69 :: u70 :: u71 :: u72 :: u73 :: u74 :: u75 :: u76 :: u77 :: u78 :: u79 :: u80 :: u81 :: u82 :: u83 :: u84 :: u85 :: u86 :: u87 :: u88 :: u89 :: u90 :: u91 :: u92 :: u93 :: u94 :: u95 :: u96 :: u97 :: u98 :: u99 :: u100 :: u101 :: u102 :: u103 :: u104 :: u105 :: u106 :: u107 :: u108 :: u109 :: y110 :: y111 :: y112 :: y113 :: y114 :: y115 :: y116 :: y117 :: y118 :: y119 :: y120 :: y121 :: y122 :: y123 :: y124 :: y125 :: y126 :: y127 :: y128 :: y129 :: y130 :: y131 :: y132 :: y133 :: y134 :: y135 :: y136 :: y137 :: y138 :: y139 :: y140 :: u141 :: u142 :: u143 :: u144 :: u145 :: u146 :: u147 :: u148 :: u149 :: u150 :: u151 :: u152 :: u153 :: u154 :: u155 :: u156 :: u157 :: u158 :: u159 :: u160 :: u161 :: u162 :: u163 :: u164 :: u165 :: u166 :: u167 :: u168 :: u169 :: u170 :: u171 :: u172 :: u173 :: u174 :: u175 :: u176 :: u177 :: u178 :: u179 :: u180 :: u181 :: u182 :: u183 :: u184 :: u185 :: u186 :: u187 :: u188 :: u189 :: u190 :: u191 :: u192 :: u193 :: u194 :: u195 :: u196 :: u197 :: u198 :: u199 :: u200 :: u201 :: u202 :: u203 :: u204 :: u205 :: u206 :: u207 :: u208 :: u209 :: u210 :: u211 :: u212 :: u213 :: u214 :: u215 :: u216 :: u217 :: u218 :: u219 :: u220 :: u221 :: u222 :: u223 :: u224 :: u225 :: u226 :: u227 :: u228 :: u229 :: u230 :: u231 :: u232 :: u233 :: u234 :: u235 :: u236 :: u237 :: u238 :: u239 :: u240 :: u241 :: u242 :: u243 :: u244 :: u245 :: u246 :: u247 :: u248 :: u249 :: u250 :: u251 :: u252 :: u253 :: u254 :: u255 :: u256 :: u257 :: u258 :: u259 :: u260 :: u261 :: u262 :: u263 :: u264 :: u265 :: u266 :: u267 :: u268 :: u269 :: u270 :: u271 :: u272 :: u273 :: u274 :: u275 :: u276 :: u277 :: u278 :: u279 :: u280 :: u281 :: u282 :: []), []⟩ w') :
    Code.wp Try.prog (loopAt Try.f6 16) Q ⟨List.toArray (u0 :: .slice (some ⟨G, 0, none⟩) 20 20 :: .int .u32 167772161 :: .int .u32 167772162 :: u4 :: u5 :: u6 :: .slice (some ⟨G2, 0, none⟩) 9 9 :: .int .i64 0 :: u9 :: u10 :: u11 :: u12 :: u13 :: u14 :: u15 :: u16 :: u17 :: u18 :: u19 :: u20 :: u21 :: u22 :: u23 :: u24 :: u25 :: u26 :: u27 :: u28 :: u29 :: u30 :: u31 :: u32 :: u33 :: u34 :: u35 :: u36 :: u37 :: u38 :: u39 :: u40 :: u41 :: u42 :: u43 :: u44 :: u45 :: u46 :: u47 :: u48 :: u49 :: u50 :: u51 :: u52 :: u53 :: u54 :: u55 :: u56 :: u57 :: u58 :: u59 :: u60 :: u61 :: u62 :: u63 :: u64 :: u65 :: u66 :: u67 :: u68 :: u69 :: u70 :: u71 :: u72 :: u73 :: u74 :: u75 :: u76 :: u77 :: u78 :: u79 :: u80 :: u81 :: u82 :: u83 :: u84 :: u85 :: u86 :: u87 :: u88 :: u89 :: u90 :: u91 :: u92 :: u93 :: u94 :: u95 :: u96 :: u97 :: u98 :: u99 :: u100 :: u101 :: u102 :: u103 :: u104 :: u105 :: u106 :: u107 :: u108 :: u109 :: u110 :: u111 :: u112 :: u113 :: u114 :: u115 :: u116 :: u117 :: u118 :: u119 :: u120 :: u121 :: u122 :: u123 :: u124 :: u125 :: u126 :: u127 :: u128 :: u129 :: u130 :: u131 :: u132 :: u133 :: u134 :: u135 :: u136 :: u137 :: u138 :: u139 :: u140 :: u141 :: u142 :: u143 :: u144 :: u145 :: u146 :: u147 :: u148 :: u149 :: u150 :: u151 :: u152 :: u153 :: u154 :: u155 :: u156 :: u157 :: u158 :: u159 :: u160 :: u161 :: u162 :: u163 :: u164 :: u165 :: u166 :: u167 :: u168 :: u169 :: u170 :: u171 :: u172 :: u173 :: u174 :: u175 :: u176 :: u177 :: u178 :: u179 :: u180 :: u181 :: u182 :: u183 :: u184 :: u185 :: u186 :: u187 :: u188 :: u189 :: u190 :: u191 :: u192 :: u193 :: u194 :: u195 :: u196 :: u197 :: u198 :: u199 :: u200 :: u201 :: u202 :: u203 :: u204 :: u205 :: u206 :: u207 :: u208 :: u209 :: u210 :: u211 :: u212 :: u213 :: u214 :: u215 :: u216 :: u217 :: u218 :: u219 :: u220 :: u221 :: u222 :: u223 :: u224 :: u225 :: u226 :: u227 :: u228 :: u229 :: u230 :: u231 :: u232 :: u233 :: u234 :: u235 :: u236 :: u237 :: u238 :: u239 :: u240 :: u241 :: u242 :: u243 :: u244 :: u245 :: u246 :: u247 :: u248 :: u249 :: u250 :: u251 :: u252 :: u253 :: u254 :: u255 :: u256 :: u257 :: u258 :: u259 :: u260 :: u261 :: u262 :: u263 :: u264 :: u265 :: u266 :: u267 :: u268 :: u269 :: u270 :: u271 :: u272 :: u273 :: u274 :: u275 :: u276 :: u277 :: u278 :: u279 :: u280 :: u281 :: u282 :: []), []⟩ w := by
  obtain ⟨i0, hi, hz0, hz1, hz2⟩ := info_parts infoU8
  have HQH := Lib.hid HQ
  clear HQ
  have HX := Lib.hid X
  clear X
  conv => arg 2; whnf
  go_loopw [8] (fun s8 wr => ∃ k : Nat, k ≤ 6561 ∧ s8 = .int .i64 (k : Int) ∧ SP w0 wr [.own .u8 5 (some ⟨G, 0, none⟩) 20 20 EX8, .own .u8 5 (some ⟨G2, 0, none⟩) 9 9 [0, 1, 2, 3, 4, 5, 8, 10, 14]]) (fun s8 _ => 6561 - (intOf s8).toNat)
  case atStart => exact ⟨0, by omega, rfl, HX.out⟩
  case round =>
    obtain ⟨k, hk, rfl, X0⟩ := hrel
    obtain ⟨wo, rfl⟩ : ∃ wo : World, wo = wr := ⟨_, rfl⟩
    have X := Lib.hid X0
    clear X0 HX
    by_cases hlt : k < 6561
    case neg =>
      have t1 : ¬ (k : Int) < 6561 := by omega
      go_wp2_with fail
      exact HQH.out _ _ _ _ _ _ _ _ _ _ _ _ _ _ _ _ _ _ _ _ _ _ _ _ _ _ _ _ _ _ _ _ _ _ _ X.out
    have t1 : (k : Int) < 6561 := by omega
    obtain ⟨d0, h0, b0⟩ : ∃ d : Nat, (k : Int) % 9 = (d : Int) ∧ d < 9 := ⟨k % 9, by omega, by omega⟩
    obtain ⟨d1, h1, b1⟩ : ∃ d : Nat, (k : Int) / 9 % 9 = (d : Int) ∧ d < 9 := ⟨k / 9 % 9, by omega, by omega⟩
    obtain ⟨d2, h2, b2⟩ : ∃ d : Nat, (k : Int) / 81 % 9 = (d : Int) ∧ d < 9 := ⟨k / 81 % 9, by omega, by omega⟩
    obtain ⟨d3, h3, b3⟩ : ∃ d : Nat, (k : Int) / 729 = (d : Int) ∧ d < 9 := ⟨k / 729, by omega, by omega⟩
    have q1 : (k : Int).tdiv 9 = (k : Int) / 9 := Int.tdiv_eq_ediv_of_nonneg (by omega)
    have q2 : (k : Int).tdiv 81 = (k : Int) / 81 := Int.tdiv_eq_ediv_of_nonneg (by omega)
    have q3 : (k : Int).tdiv 729 = (d3 : Int) := by rw [Int.tdiv_eq_ediv_of_nonneg (by omega)]; exact h3
    have p0 : (k : Int).tmod 9 = (d0 : Int) := by rw [Int.tmod_eq_emod_of_nonneg (by omega)]; exact h0
    have p1 : ((k : Int) / 9).tmod 9 = (d1 : Int) := by rw [Int.tmod_eq_emod_of_nonneg (by omega)]; exact h1
    have p2 : ((k : Int) / 81).tmod 9 = (d2 : Int) := by rw [Int.tmod_eq_emod_of_nonneg (by omega)]; exact h2
    have w1 : IntKind.i64.wrap ((k : Int) / 9) = (k : Int) / 9 := IntWalk.i64_in _ (by omega)
    have w2 : IntKind.i64.wrap ((k : Int) / 81) = (k : Int) / 81 := IntWalk.i64_in _ (by omega)
    have w3 : IntKind.i64.wrap (d3 : Int) = (d3 : Int) := IntWalk.i64_in _ (by omega)
    have w4 : IntKind.i64.wrap (d0 : Int) = (d0 : Int) := IntWalk.i64_in _ (by omega)
    have w5 : IntKind.i64.wrap (d1 : Int) = (d1 : Int) := IntWalk.i64_in _ (by omega)
    have w6 : IntKind.i64.wrap (d2 : Int) = (d2 : Int) := IntWalk.i64_in _ (by omega)
    have z0 : (0 : Int) ≤ (d0 : Int) ∧ (d0 : Int) < 9 := by omega
    have z1 : (0 : Int) ≤ (d1 : Int) ∧ (d1 : Int) < 9 := by omega
    have z2 : (0 : Int) ≤ (d2 : Int) ∧ (d2 : Int) < 9 := by omega
    have z3 : (0 : Int) ≤ (d3 : Int) ∧ (d3 : Int) < 9 := by omega
    obtain ⟨z00, z01⟩ := z0
    obtain ⟨z10, z11⟩ := z1
    obtain ⟨z20, z21⟩ := z2
    obtain ⟨z30, z31⟩ := z3
    have HV := Lib.hid (fun (d : Nat) (hd : d < 9) => (show 0 ≤ [(0 : Int), 1, 2, 3, 4, 5, 8, 10, 14][d]?.getD 0 ∧ [(0 : Int), 1, 2, 3, 4, 5, 8, 10, 14][d]?.getD 0 ≤ 255 from (show BD 255 [(0 : Int), 1, 2, 3, 4, 5, 8, 10, 14] from bd_all (by decide)).get (by omega) d))
    have v0 := HV.out d0 b0
    have v1 := HV.out d1 b1
    have v2 := HV.out d2 b2
    have v3 := HV.out d3 b3
    have c0 := (X.out.drew.own 1 rfl).cell (i := d0) b0
    have c1 := (X.out.drew.own 1 rfl).cell (i := d1) b1
    have c2 := (X.out.drew.own 1 rfl).cell (i := d2) b2
    have c3 := (X.out.drew.own 1 rfl).cell (i := d3) b3
    generalize [(0 : Int), 1, 2, 3, 4, 5, 8, 10, 14][d0]?.getD 0 = y0 at c0 v0
    generalize [(0 : Int), 1, 2, 3, 4, 5, 8, 10, 14][d1]?.getD 0 = y1 at c1 v1
    generalize [(0 : Int), 1, 2, 3, 4, 5, 8, 10, 14][d2]?.getD 0 = y2 at c2 v2
    generalize [(0 : Int), 1, 2, 3, 4, 5, 8, 10, 14][d3]?.getD 0 = y3 at c3 v3
    clear hlt h0 h1 h2 h3
    go_upto_region 18 with fail
    refine wp_region_noPanic ?_
    refine wp_region_held_drew (S := fun W => W.cell? ⟨G2, d0, none⟩ = some (.int .u8 y0) ∧ W.cell? ⟨G2, d1, none⟩ = some (.int .u8 y1) ∧ W.cell? ⟨G2, d2, none⟩ = some (.int .u8 y2) ∧ W.cell? ⟨G2, d3, none⟩ = some (.int .u8 y3)) (by kernel_rfl) (by exact ⟨c0, c1, c2, c3⟩) (fun hHeld => ?_)
    have X1 := Lib.hid X.out.drew
    clear c0 c1 c2 c3
    generalize wo.drew = x0 at X1 hHeld ⊢
    refine' take_lit (i := 0) (v := _) rfl (by kernel_rfl) (by kernel_rfl) (by kernel_rfl) (fun _ _ _ h => h) (Or.inl ⟨by rfl, ?yy1⟩) (by assumption) ?rr1
    case yy1 => intro w' hSw; (try dsimp only at hSw); go_simp; try (with_reducible rfl)
    (try simp only [Act.put]); (try simp only [List.setIfInBounds_toArray, List.set_cons_zero, List.set_cons_succ])
    refine' take_lit (i := 1) (v := _) rfl (by kernel_rfl) (by kernel_rfl) (by kernel_rfl) (fun _ _ _ h => h) (Or.inl ⟨by rfl, ?yy2⟩) (by assumption) ?rr2
    case yy2 => intro w' hSw; (try dsimp only at hSw); go_simp; try (with_reducible rfl)
    (try simp only [Act.put]); (try simp only [List.setIfInBounds_toArray, List.set_cons_zero, List.set_cons_succ])
    refine' take_lit (i := 2) (v := _) rfl (by kernel_rfl) (by kernel_rfl) (by kernel_rfl) (fun _ _ _ h => h) (Or.inl ⟨by rfl, ?yy3⟩) (by assumption) ?rr3
    case yy3 => intro w' hSw; (try dsimp only at hSw); go_simp; try (with_reducible rfl)
    (try simp only [Act.put]); (try simp only [List.setIfInBounds_toArray, List.set_cons_zero, List.set_cons_succ])
    refine' take_lit (i := 3) (v := _) rfl (by kernel_rfl) (by kernel_rfl) (by kernel_rfl) (fun _ _ _ h => h) (Or.inl ⟨by rfl, ?yy4⟩) (by assumption) ?rr4
    case yy4 => intro w' hSw; (try dsimp only at hSw); go_simp; try (with_reducible rfl)
    (try simp only [Act.put]); (try simp only [List.setIfInBounds_toArray, List.set_cons_zero, List.set_cons_succ])
    refine' take_lit (i := 4) (v := _) rfl (by kernel_rfl) (by kernel_rfl) (by kernel_rfl) (fun _ _ _ h => h) (Or.inl ⟨by rfl, ?yy5⟩) (by assumption) ?rr5
    case yy5 => intro w' hSw; (try dsimp only at hSw); go_simp; try (with_reducible rfl)
    (try simp only [Act.put]); (try simp only [List.setIfInBounds_toArray, List.set_cons_zero, List.set_cons_succ])
    refine' take_lit (i := 5) (v := _) rfl (by kernel_rfl) (by kernel_rfl) (by kernel_rfl) (fun _ _ _ h => h) (Or.inl ⟨by rfl, ?yy6⟩) (by assumption) ?rr6
    case yy6 => intro w' hSw; (try dsimp only at hSw); go_simp; try (with_reducible rfl)
    (try simp only [Act.put]); (try simp only [List.setIfInBounds_toArray, List.set_cons_zero, List.set_cons_succ])
    refine' take_lit (i := 6) (v := _) rfl (by kernel_rfl) (by kernel_rfl) (by kernel_rfl) (fun _ _ _ h => h) (Or.inl ⟨by rfl, ?yy7⟩) (by assumption) ?rr7
    case yy7 => intro w' hSw; (try dsimp only at hSw); go_simp; try (with_reducible rfl)
    (try simp only [Act.put]); (try simp only [List.setIfInBounds_toArray, List.set_cons_zero, List.set_cons_succ])
    refine' take_lit (i := 7) (v := _) rfl (by kernel_rfl) (by kernel_rfl) (by kernel_rfl) (fun _ _ _ h => h) (Or.inl ⟨by rfl, ?yy8⟩) (by assumption) ?rr8
    case yy8 => intro w' hSw; (try dsimp only at hSw); go_simp; try (with_reducible rfl)
    (try simp only [Act.put]); (try simp only [List.setIfInBounds_toArray, List.set_cons_zero, List.set_cons_succ])
    refine' take_lit (i := 8) (v := _) rfl (by kernel_rfl) (by kernel_rfl) (by kernel_rfl) (fun _ _ _ h => h) (Or.inl ⟨by rfl, ?yy9⟩) (by assumption) ?rr9
    case yy9 => intro w' hSw; (try dsimp only at hSw); go_simp; try (with_reducible rfl)
    (try simp only [Act.put]); (try simp only [List.setIfInBounds_toArray, List.set_cons_zero, List.set_cons_succ])
    refine' take_lit (i := 9) (v := _) rfl (by kernel_rfl) (by kernel_rfl) (by kernel_rfl) (fun _ _ _ h => h) (Or.inl ⟨by rfl, ?yy10⟩) (by assumption) ?rr10
    case yy10 => intro w' hSw; (try dsimp only at hSw); go_simp; try (with_reducible rfl)
    (try simp only [Act.put]); (try simp only [List.setIfInBounds_toArray, List.set_cons_zero, List.set_cons_succ])
    refine' take_lit (i := 10) (v := _) rfl (by kernel_rfl) (by kernel_rfl) (by kernel_rfl) (fun _ _ _ h => h) (Or.inl ⟨by rfl, ?yy11⟩) (by assumption) ?rr11
    case yy11 => intro w' hSw; (try dsimp only at hSw); go_simp; try (with_reducible rfl)
    (try simp only [Act.put]); (try simp only [List.setIfInBounds_toArray, List.set_cons_zero, List.set_cons_succ])
    refine' take_lit (i := 11) (v := _) rfl (by kernel_rfl) (by kernel_rfl) (by kernel_rfl) (fun _ _ _ h => h) (Or.inl ⟨by rfl, ?yy12⟩) (by assumption) ?rr12
    case yy12 => intro w' hSw; (try dsimp only at hSw); go_simp; try (with_reducible rfl)
    (try simp only [Act.put]); (try simp only [List.setIfInBounds_toArray, List.set_cons_zero, List.set_cons_succ])
    refine' take_lit (i := 12) (v := _) rfl (by kernel_rfl) (by kernel_rfl) (by kernel_rfl) (fun _ _ _ h => h) (Or.inl ⟨by rfl, ?yy13⟩) (by assumption) ?rr13
    case yy13 => intro w' hSw; (try dsimp only at hSw); go_simp; try (with_reducible rfl)
    (try simp only [Act.put]); (try simp only [List.setIfInBounds_toArray, List.set_cons_zero, List.set_cons_succ])
    refine' take_lit (i := 13) (v := _) rfl (by kernel_rfl) (by kernel_rfl) (by kernel_rfl) (fun _ _ _ h => h) (Or.inl ⟨by rfl, ?yy14⟩) (by assumption) ?rr14
    case yy14 => intro w' hSw; (try dsimp only at hSw); go_simp; try (with_reducible rfl)
    (try simp only [Act.put]); (try simp only [List.setIfInBounds_toArray, List.set_cons_zero, List.set_cons_succ])
    refine' take_lit (i := 14) (v := _) rfl (by kernel_rfl) (by kernel_rfl) (by kernel_rfl) (fun _ _ _ h => h) (Or.inl ⟨by rfl, ?yy15⟩) (by assumption) ?rr15
    case yy15 => intro w' hSw; (try dsimp only at hSw); go_simp; try (with_reducible rfl)
    (try simp only [Act.put]); (try simp only [List.setIfInBounds_toArray, List.set_cons_zero, List.set_cons_succ])
    refine' take_lit (i := 15) (v := _) rfl (by kernel_rfl) (by kernel_rfl) (by kernel_rfl) (fun _ _ _ h => h) (Or.inl ⟨by rfl, ?yy16⟩) (by assumption) ?rr16
    case yy16 => intro w' hSw; (try dsimp only at hSw); go_simp; try (with_reducible rfl)
    (try simp only [Act.put]); (try simp only [List.setIfInBounds_toArray, List.set_cons_zero, List.set_cons_succ])
    refine' take_lit (i := 16) (v := _) rfl (by kernel_rfl) (by kernel_rfl) (by kernel_rfl) (fun _ _ _ h => h) (Or.inl ⟨by rfl, ?yy17⟩) (by assumption) ?rr17
    case yy17 => intro w' hSw; (try dsimp only at hSw); go_simp; try (with_reducible rfl)
    (try simp only [Act.put]); (try simp only [List.setIfInBounds_toArray, List.set_cons_zero, List.set_cons_succ])
    refine' take_lit (i := 17) (v := _) rfl (by kernel_rfl) (by kernel_rfl) (by kernel_rfl) (fun _ _ _ h => h) (Or.inl ⟨by rfl, ?yy18⟩) (by assumption) ?rr18
    case yy18 => intro w' hSw; (try dsimp only at hSw); go_simp; try (with_reducible rfl)
    (try simp only [Act.put]); (try simp only [List.setIfInBounds_toArray, List.set_cons_zero, List.set_cons_succ])
    refine' take_lit (i := 18) (v := _) rfl (by kernel_rfl) (by kernel_rfl) (by kernel_rfl) (fun _ _ _ h => h) (Or.inl ⟨by rfl, ?yy19⟩) (by assumption) ?rr19
    case yy19 => intro w' hSw; (try dsimp only at hSw); go_simp; try (with_reducible rfl)
    (try simp only [Act.put]); (try simp only [List.setIfInBounds_toArray, List.set_cons_zero, List.set_cons_succ])
    refine' take_lit (i := 19) (v := _) rfl (by kernel_rfl) (by kernel_rfl) (by kernel_rfl) (fun _ _ _ h => h) (Or.inl ⟨by rfl, ?yy20⟩) (by assumption) ?rr20
    case yy20 => intro w' hSw; (try dsimp only at hSw); go_simp; try (with_reducible rfl)
    (try simp only [Act.put]); (try simp only [List.setIfInBounds_toArray, List.set_cons_zero, List.set_cons_succ])
    refine' take_lit (i := 20) (v := _) rfl (by kernel_rfl) (by kernel_rfl) (by kernel_rfl) (fun _ _ _ h => h) (Or.inl ⟨by rfl, ?yy21⟩) (by assumption) ?rr21
    case yy21 => intro w' hSw; (try dsimp only at hSw); go_simp; try (with_reducible rfl)
    (try simp only [Act.put]); (try simp only [List.setIfInBounds_toArray, List.set_cons_zero, List.set_cons_succ])
    refine' take_lit (i := 21) (v := _) rfl (by kernel_rfl) (by kernel_rfl) (by kernel_rfl) (fun _ _ _ h => h) (Or.inl ⟨by rfl, ?yy22⟩) (by assumption) ?rr22
    case yy22 => intro w' hSw; (try dsimp only at hSw); go_simp; try (with_reducible rfl)
    (try simp only [Act.put]); (try simp only [List.setIfInBounds_toArray, List.set_cons_zero, List.set_cons_succ])
    refine wpAnyH_ready (rs := [22]) (by kernel_rfl) (by simp) ?_
    refine cons_lit rfl (fun K hK => ?ss22x23) AllReadyH.nil
    case ss22x23 =>
      go_simp
      obtain ⟨gl, hgl⟩ : ∃ g, g = x0.heap.size := ⟨_, rfl⟩
      rw [← hgl]
      refine nameW (fun x1 hv => ?_)
      have X2 := Lib.hid (show SP w0 x1 _ by rw [hv]; exact X1.out.allocI' .u8 5 [y0, y1, y2, y3] (by simp [maxLen]) hgl.symm)
      have HH := hHeld
      have HK := Lib.hid (show (fun W => W.cell? ⟨G2, d0, none⟩ = some (.int .u8 y0) ∧ W.cell? ⟨G2, d1, none⟩ = some (.int .u8 y1) ∧ W.cell? ⟨G2, d2, none⟩ = some (.int .u8 y2) ∧ W.cell? ⟨G2, d3, none⟩ = some (.int .u8 y3)) x1 by
        rw [hv]
        obtain ⟨k0, k1, k2, k3⟩ := HH
        have hlt := World.block_lt_of_cell? x0 _ k0
        exact ⟨by rw [World.cell?_alloc_past _ _ _ hlt]; exact k0, by rw [World.cell?_alloc_past _ _ _ hlt]; exact k1, by rw [World.cell?_alloc_past _ _ _ hlt]; exact k2, by rw [World.cell?_alloc_past _ _ _ hlt]; exact k3⟩)
      clear HH hv hgl
      refine hK.out _ _ (by exact HK.out) (fun hHeld => ?_)
      clear hK K
      (try simp only [Act.put]); (try simp only [List.setIfInBounds_toArray, List.set_cons_zero, List.set_cons_succ])
      refine' take_lit (i := 23) (v := _) rfl (by kernel_rfl) (by kernel_rfl) (by kernel_rfl) (fun _ _ _ h => h) (Or.inl ⟨by rfl, ?yy24⟩) (by assumption) ?rr24
      case yy24 => intro w' hSw; (try dsimp only at hSw); go_simp; try (with_reducible rfl)
      (try simp only [Act.put]); (try simp only [List.setIfInBounds_toArray, List.set_cons_zero, List.set_cons_succ])
      refine wpAnyH_done (by kernel_rfl) ?_ _
      refine NoPanic.normal ?_
      clear X1 HK
      have hb : BD 255 [y0, y1, y2, y3] := fun z hz => by
        simp only [List.mem_cons, List.not_mem_nil, or_false] at hz
        rcases hz with rfl | rfl | rfl | rfl <;> assumption
      go_wp2_with fail
      refine (options8_any knZ (some ⟨gl, 0, none⟩) 4 4 [y0, y1, y2, y3] none 0 0 _ (X2.out.rd 2 rfl) hb (Nat.le_refl _) (by simp [maxLen]) (ROWP.none _) (by decide) (by decide)).mono ?_
      rintro e x2 ⟨rfl, hbx⟩
      have X3 := Lib.hid (X2.out.next hbx)
      clear hbx X2
      go_wp2_with fail
      go_roundw
      case rel => exact ⟨k + 1, by omega, by go_num, X3.out.pick [0, 1] (by decide) rfl⟩
      case measure => simp [intOf]; omega

set_option maxHeartbeats 8000000 in
set_option maxRecDepth 100000 in
theorem small8_3 {u0 u4 u5 u6 u7 u8 u9 u10 u11 u12 u13 u14 u15 u16 u17 u18 u19 u20 u21 u22 u23 u24 u25 u26 u27 u28 u29 u30 u31 u32 u33 u34 u35 u36 u37 u38 u39 u40 u41 u42 u43 u44 u45 u46 u47 u48 u49 u50 u51 u52 u53 u54 u55 u56 u57 u58 u59 u60 u61 u62 u63 u64 u65 u66 u67 u68 u69 u70 u71 u72 u73 u74 u75 u76 u77 u78 u79 u80 u81 u82 u83 u84 u85 u86 u87 u88 u89 u90 u91 u92 u93 u94 u95 u96 u97 u98 u99 u100 u101 u102 u103 u104 u105 u106 u107 u108 u109 u110 u111 u112 u113 u114 u115 u116 u117 u118 u119 u120 u121 u122 u123 u124 u125 u126 u127 u128 u129 u130 u131 u132 u133 u134 u135 u136 u137 u138 u139 u140 u142 u143 u144 u145 u146 u147 u148 u149 u150 u151 u152 u153 u154 u155 u156 u157 u158 u159 u160 u161 u162 u163 u164 u165 u166 u167 u168 u169 u170 u171 u172 u173 u174 u175 u176 u177 u178 u179 u180 u181 u182 u183 u184 u185 u186 u187 u188 u189 u190 u191 u192 u193 u194 u195 u196 u197 u198 u199 u200 u201 u202 u203 u204 u205 u206 u207 u208 u209 u210 u211 u212 u213 u214 u215 u216 u217 u218 u219 u220 u221 u222 u223 u224 u225 u226 u227 u228 u229 u230 u231 u232 u233 u234 u235 u236 u237 u238 u239 u240 u241 u242 u243 u244 u245 u246 u247 u248 u249 u250 u251 u252 u253 u254 u255 u256 u257 u258 u259 u260 u261 u262 u263 u264 u265 u266 u267 u268 u269 u270 u271 u272 u273 u274 u275 u276 u277 u278 u279 u280 u281 u282 : Value} {Q : Exit → Act → World → Prop} (w0 w : World) (G : Nat)  (hG : w0.heap.size = G) (X : SP w0 w [.own .u8 5 (some ⟨G, 0, none⟩) 20 20 EX8])
    (HQ : ∀ (y0 y10 y11 y12 y141 y142 y143 y144 y145 y146 y147 y148 y149 y150 y151 y152 y153 y154 y155 y156 y157 y158 y159 y160 y161 y162 y163 y164 y165 y166 y167 y168 y169 y170 y171 y172 y173 y174 y175 y176 y177 y178 y179 y180 y181 y182 y183 y184 y185 y186 y187 y188 y189 y190 y191 y192 y193 y194 y195 y196 y197 : Value) (w' : World), SP w0 w' [.own .u8 5 (some ⟨G, 0, none⟩) 20 20 EX8] → Q (.exit 4) ⟨List.toArray (y0 :: .slice (some ⟨G, 0, none⟩) 20 20 :: .int .u32 167772161 :: .int .u32 167772162 :: u4 :: u5 :: u6 :: u7 :: u8 :: u9 :: y10 :: y11 :: y12 :: u13 :: u14 :: u15 :: u16 :: u17 :: u18 :: u19 :: u20 :: u21 :: u22 :: u23 :: u24 :: u25 :: u26 :: u27 :: u28 :: u29 :: u30 :: u31 :: u32 :: u33 :: u34 :: u35 :: u36 :: u37 :: u38 :: u39 :: u40 :: u41 :: u42 :: u43 :: u44 :: u45 :: u46 :: u47 :: u48 :: u49 :: u50 :: u51 :: u52 :: u53 :: u54 :: u55 :: u56 :: u57 :: u58 :: u59 :: u60 :: u61 :: u62 :: u63 :: u64 :: u65 :: u66 :: u67 :: u68 :: u69 :: u70 :: u71 :: u72 :: u73 :: u74 :: u75 :: u76 :: u77 :: u78 :: u79 :: u80 :: u81 :: u82 :: u83 :: u84 :: u85 :: u86 :: u87 :: u88 :: u89 :: u90 :: u91 :: u92 :: u93 :: u94 :: u95 :: u96 :: u97 :: u98 :: u99 :: u100 :: u101 :: u102 :: u103 :: u104 :: u105 :: u106 :: u107 :: u108 :: u109 :: u110 :: u111 :: u112 :: u113 :: u114 :: u115 :: u116 :: u117 :: u118 :: u119 :: u120 :: u121 :: u122 :: u123 :: u124 :: u125 :: u126 :: u127 :: u128 :: u129 :: u130 :: u131 :: u132 :: u133 :: u134 :: u135 :: u136 :: u137 :: u138 :: u139 :: u140 :: y141 :: y142 :: y143 :: y144 :: y145 :: y146 :: y147 :: y148 :: y149 :: y150 :: y151 :: y152 :: y153 :: y154 :: y155 :: y156 :: y157 :: y158 :: y159 :: y160 :: y161 :: y162 :: y163 :: y164 :: y165 :: y166 :: y167 :: y168 :: y169 :: y170 :: y171 :: y172 :: y173 :: y174 :: y175 :: y176 :: y177 :: y178 :: y179 :: y180 :: y181 :: y182 :: y183 :: y184 :: y185 :: y186 :: y187 :: y188 :: y189 :: y190 :: y191 :: y192 :: y193 :: y194 :: y195 :: y196 :: y197 :: u198 :: u199 :: u200 :: u201 :: u202 :: u203 :: u204 :: u205 :: u206 :: u207 :: u208 :: u209 :: u210 :: u211 :: u212 :: u213 :: u214 :: u215 :: u216 :: u217 :: u218 :: u219 :: u220 :: u221 :: u222 :: u223 :: u224 :: u225 :: u226 :: u227 :: u228 :: u229 :: u230 :: u231 :: u232 :: u233 :: u234 :: u235 :: u236 :: u237 :: u238 :: u239 :: u240 :: u241 :: u242 :: u243 :: u244 :: u245 :: u246 :: u247 :: u248 :: u249 :: u250 :: u251 :: u252 :: u253 :: u254 :: u255 :: u256 :: u257 :: u258 :: u259 :: u260 :: u261 :: u262 :: u263 :: u264 :: u265 :: u266 :: u267 :: u268 :: u269 :: u270 :: u271 :: u272 :: u273 :: u274 :: u275 :: u276 :: u277 :: u278 :: u279 :: u280 :: u281 :: u282 :: []), []⟩ w') :
    Code.wp Try.prog (loopAt Try.f6 22) Q ⟨List.toArray (u0 :: .slice (some ⟨G, 0, none⟩) 20 20 :: .int .u32 167772161 :: .int .u32 167772162 :: u4 :: u5 :: u6 :: u7 :: u8 :: u9 :: u10 :: u11 :: u12 :: u13 :: u14 :: u15 :: u16 :: u17 :: u18 :: u19 :: u20 :: u21 :: u22 :: u23 :: u24 :: u25 :: u26 :: u27 :: u28 :: u29 :: u30 :: u31 :: u32 :: u33 :: u34 :: u35 :: u36 :: u37 :: u38 :: u39 :: u40 :: u41 :: u42 :: u43 :: u44 :: u45 :: u46 :: u47 :: u48 :: u49 :: u50 :: u51 :: u52 :: u53 :: u54 :: u55 :: u56 :: u57 :: u58 :: u59 :: u60 :: u61 :: u62 :: u63 :: u64 :: u65 :: u66 :: u67 :: u68 :: u69 :: u70 :: u71 :: u72 :: u73 :: u74 :: u75 :: u76 :: u77 :: u78 :: u79 :: u80 :: u81 :: u82 :: u83 :: u84 :: u85 :: u86 :: u87 :: u88 :: u89 :: u90 :: u91 :: u92 :: u93 :: u94 :: u95 :: u96 :: u97 :: u98 :: u99 :: u100 :: u101 :: u102 :: u103 :: u104 :: u105 :: u106 :: u107 :: u108 :: u109 :: u110 :: u111 :: u112 :: u113 :: u114 :: u115 :: u116 :: u117 :: u118 :: u119 :: u120 :: u121 :: u122 :: u123 :: u124 :: u125 :: u126 :: u127 :: u128 :: u129 :: u130 :: u131 :: u132 :: u133 :: u134 :: u135 :: u136 :: u137 :: u138 :: u139 :: u140 :: .int .i64 0 :: u142 :: u143 :: u144 :: u145 :: u146 :: u147 :: u148 :: u149 :: u150 :: u151 :: u152 :: u153 :: u154 :: u155 :: u156 :: u157 :: u158 :: u159 :: u160 :: u161 :: u162 :: u163 :: u164 :: u165 :: u166 :: u167 :: u168 :: u169 :: u170 :: u171 :: u172 :: u173 :: u174 :: u175 :: u176 :: u177 :: u178 :: u179 :: u180 :: u181 :: u182 :: u183 :: u184 :: u185 :: u186 :: u187 :: u188 :: u189 :: u190 :: u191 :: u192 :: u193 :: u194 :: u195 :: u196 :: u197 :: u198 :: u199 :: u200 :: u201 :: u202 :: u203 :: u204 :: u205 :: u206 :: u207 :: u208 :: u209 :: u210 :: u211 :: u212 :: u213 :: u214 :: u215 :: u216 :: u217 :: u218 :: u219 :: u220 :: u221 :: u222 :: u223 :: u224 :: u225 :: u226 :: u227 :: u228 :: u229 :: u230 :: u231 :: u232 :: u233 :: u234 :: u235 :: u236 :: u237 :: u238 :: u239 :: u240 :: u241 :: u242 :: u243 :: u244 :: u245 :: u246 :: u247 :: u248 :: u249 :: u250 :: u251 :: u252 :: u253 :: u254 :: u255 :: u256 :: u257 :: u258 :: u259 :: u260 :: u261 :: u262 :: u263 :: u264 :: u265 :: u266 :: u267 :: u268 :: u269 :: u270 :: u271 :: u272 :: u273 :: u274 :: u275 :: u276 :: u277 :: u278 :: u279 :: u280 :: u281 :: u282 :: []), []⟩ w := by
  obtain ⟨i0, hi, hz0, hz1, hz2⟩ := info_parts infoU8
  have HQH := Lib.hid HQ
  clear HQ
  have HX := Lib.hid X
  clear X
  conv => arg 2; whnf
  go_loopw [141] (fun s141 wr => ∃ k : Nat, k ≤ 12 ∧ s141 = .int .i64 (k : Int) ∧ SP w0 wr [.own .u8 5 (some ⟨G, 0, none⟩) 20 20 EX8]) (fun s141 _ => 12 - (intOf s141).toNat)
  case atStart => exact ⟨0, by omega, rfl, HX.out⟩
  case round =>
    obtain ⟨k, hk, rfl, X0⟩ := hrel
    obtain ⟨wo, rfl⟩ : ∃ wo : World, wo = wr := ⟨_, rfl⟩
    have X := Lib.hid X0
    clear X0 HX
    by_cases hlt : k < 12
    case neg =>
      have t1 : ¬ (k : Int) < 12 := by omega
      go_wp2_with fail
      exact HQH.out _ _ _ _ _ _ _ _ _ _ _ _ _ _ _ _ _ _ _ _ _ _ _ _ _ _ _ _ _ _ _ _ _ _ _ _ _ _ _ _ _ _ _ _ _ _ _ _ _ _ _ _ _ _ _ _ _ _ _ _ _ _ X.out
    have t1 : (k : Int) < 12 := by omega
    go_wp2_with fail
    go_loopw [144] (fun s144 wr => ∃ n : Nat, n ≤ 42 ∧ s144 = .int .i64 (n : Int) ∧ SP w0 wr [.own .u8 5 (some ⟨G, 0, none⟩) 20 20 EX8]) (fun s144 _ => 42 - (intOf s144).toNat)
    case atStart => exact ⟨0, by omega, rfl, X.out⟩
    case round =>
      obtain ⟨n, hn, rfl, Y0⟩ := hrel
      obtain ⟨wp, rfl⟩ : ∃ wp : World, wp = wr := ⟨_, rfl⟩
      have Y := Lib.hid Y0
      clear Y0 X
      by_cases hln : n < 42
      case neg =>
        have t2 : ¬ (n : Int) < 42 := by omega
        go_wp2_with fail
        go_roundw
        case rel => exact ⟨k + 1, by omega, by go_num, Y.out⟩
        case measure => simp [intOf]; omega
      have t2 : (n : Int) < 42 := by omega
      obtain ⟨M, hM, hM2, hM42⟩ : ∃ M : Nat, (if (n : Int) < 2 then (2 : Int) else (n : Int)) = (M : Int) ∧ 2 ≤ M ∧ M ≤ 42 := by
        by_cases h : n < 2
        · exact ⟨2, by rw [if_pos (by omega)]; rfl, by omega, by omega⟩
        · exact ⟨n, by rw [if_neg (by omega)], by omega, by omega⟩
      obtain ⟨w2, hrun, own2, hb2, hs2⟩ := run_make_cap (P := Try.prog) (k := .u8) wp 22 i0 Try.underlying22 hi hz0 hz1 (by omega) (M : Int) (M : Int) M M rfl rfl (Nat.le_refl _) (by omega)
      have X2 := Y.out.pushOwn hb2 own2
      obtain ⟨gc, hgc⟩ : ∃ g, g = wp.heap.size := ⟨_, rfl⟩
      rw [← hgc] at hrun X2
      replace X2 := Lib.hid X2
      clear own2 hb2 hs2 Y hgc
      go_upto_region 28 with fail
      clear hrun hM
      have e1 : IntKind.u8.wrap (k : Int) = (k : Int) := u8_in _ (by omega) (by omega)
      have e2 : IntKind.u8.wrap (n : Int) = (n : Int) := u8_in _ (by omega) (by omega)
      have u1 : (1 : Int) < (M : Int) := by omega
      have u0 : (0 : Int) < (M : Int) := by omega
      have xa := (X2.out.own 1 rfl).cell (i := 0) (by omega)
      have xb := (X2.out.own 1 rfl).cell (i := 1) (by omega)
      have za := (X2.out.own 1 rfl).frozen 0
      have zb := (X2.out.own 1 rfl).frozen 1
      have X3 := Lib.hid (show SP w0 ((w2.setCell ⟨gc, 0, none⟩ (.int .u8 (k : Int))).setCell ⟨gc, 1, none⟩ (.int .u8 (n : Int))) [.own .u8 5 (some ⟨G, 0, none⟩) 20 20 EX8, .own .u8 5 (some ⟨gc, 0, none⟩) M M (((List.replicate M 0).set 0 (k : Int)).set 1 (n : Int))] from (X2.out.setO 1 rfl 0 (k : Int)).setO 1 rfl 1 (n : Int))
      have hz3 : BD 255 (((List.replicate M 0).set 0 (k : Int)).set 1 (n : Int)) := bd_set (bd_set (zeros_bd8 M) 0 (by omega)) 1 (by omega)
      go_upto_region 29 with fail
      generalize ((w2.setCell ⟨gc, 0, none⟩ (.int .u8 (k : Int))).setCell ⟨gc, 1, none⟩ (.int .u8 (n : Int))) = w3 at X3 ⊢
      generalize (((List.replicate M 0).set 0 (k : Int)).set 1 (n : Int)) = z3 at X3 hz3
      clear xa xb za zb X2
      obtain ⟨m1, hm1⟩ : ∃ m1 : Nat, M = m1 + 1 := ⟨M - 1, by omega⟩
      subst hm1
      have e3 : IntKind.i64.wrap (((m1 + 1 : Nat) : Int) - 1) = (m1 : Int) := by rw [show (((m1 + 1 : Nat) : Int) - 1) = (m1 : Int) by omega]; exact IntWalk.i64_in _ (by omega)
      have e3' : (((m1 : Int) + 1) - 1) = (m1 : Int) := by omega
      have e3'' : IntKind.i64.wrap (m1 : Int) = (m1 : Int) := IntWalk.i64_in _ (by omega)
      have u3 : (0 : Int) ≤ (m1 : Int) := by omega
      have u4 : (m1 : Int) < (m1 : Int) + 1 := by omega
      have xc := (X3.out.own 1 rfl).cell (i := m1) (by omega)
      have zc := (X3.out.own 1 rfl).frozen m1
      generalize z3[m1]?.getD 0 = x at xc
      obtain ⟨v, hv⟩ : ∃ v, bits .or .u8 x (n : Int) = v := ⟨_, rfl⟩
      have hvb : 0 ≤ v ∧ v ≤ 255 := hv ▸ bits_or8 _ _
      have X4 := Lib.hid (show SP w0 (w3.setCell ⟨gc, m1, none⟩ (.int .u8 v)) [.own .u8 5 (some ⟨G, 0, none⟩) 20 20 EX8, .own .u8 5 (some ⟨gc, 0, none⟩) (m1 + 1) (m1 + 1) (z3.set m1 v)] from X3.out.setO 1 rfl m1 v)
      have hz4 : BD 255 (z3.set m1 v) := bd_set hz3 m1 hvb
      go_upto_region 30 with fail
      generalize w3.setCell ⟨gc, m1, none⟩ (.int .u8 v) = w4 at X4 ⊢
      generalize z3.set m1 v = z4 at X4 hz4
      clear xc zc X3 hv e3 e3' e3'' u4 e1 e2
      obtain ⟨r, hr⟩ : ∃ r : Nat, (n : Int) % 6 = (r : Int) := ⟨n % 6, by omega⟩
      have hr6 : r < 6 := by omega
      have hrt : (n : Int).tmod 6 = (r : Int) := by rw [Int.tmod_eq_emod_of_nonneg (by omega)]; exact hr
      obtain ⟨v1, hrun, hown, hb1⟩ := run_make_pairs w4 (r : Int) (r : Int) r r rfl rfl (Nat.le_refl _) (by omega)
      have X5 := X4.out.push hb1 hown
      obtain ⟨gp, hgp⟩ : ∃ g, g = w4.heap.size := ⟨_, rfl⟩
      rw [← hgp] at hrun X5
      replace X5 := Lib.hid X5
      have e4 : IntKind.i64.wrap (16383 * (k : Int)) = 16383 * (k : Int) := IntWalk.i64_in _ (by omega)
      have e5 : IntKind.i64.wrap ((n : Int) - 2) = (n : Int) - 2 := IntWalk.i64_in _ (by omega)
      clear hown hb1 hgp X4
      go_wp2_with fail
      refine (options8_any ⟨16383 * (k : Int), (n : Int) - 2, false, false, 0, 0, List.replicate r (0, 0)⟩ (some ⟨gc, 0, none⟩) (m1 + 1) (m1 + 1) z4 (some ⟨gp, 0, none⟩) r r _ (X5.out.rd 1 rfl) hz4 (Nat.le_refl _) (by simp only [maxLen]; omega) (ROWP.of_row (X5.out.row 2 rfl) (zpairs_bd r) (List.length_replicate ..) (Nat.le_refl _) (by simp only [maxLen]; omega)) (show (0 : Int) ≤ 0 ∧ (0 : Int) ≤ 4294967295 by decide) (show (0 : Int) ≤ 0 ∧ (0 : Int) ≤ 4294967295 by decide)).mono ?_
      rintro e w6 ⟨rfl, hb6⟩
      have X6 := Lib.hid (show SP w0 w6 [.own .u8 5 (some ⟨G, 0, none⟩) 20 20 EX8, .own .u8 5 (some ⟨gc, 0, none⟩) (m1 + 1) (m1 + 1) z4] from (X5.out.next hb6).pick [0, 1] (by decide) rfl)
      clear hb6 X5 hrun hr hrt e4 e5
      have XL := Lib.hid (X6.out.allocI .u8 5 [0, 9] (by simp [maxLen]))
      obtain ⟨p2, hp2⟩ : ∃ p : Nat, (k : Int) % 2 = (p : Int) := ⟨k % 2, by omega⟩
      have hp2' : (k : Int).tmod 2 = (p2 : Int) := by rw [Int.tmod_eq_emod_of_nonneg (by omega)]; exact hp2
      obtain ⟨p3, hp3⟩ : ∃ p : Nat, (n : Int) % 3 = (p : Int) := ⟨n % 3, by omega⟩
      have hp3' : (n : Int).tmod 3 = (p3 : Int) := by rw [Int.tmod_eq_emod_of_nonneg (by omega)]; exact hp3
      have hp2b : p2 < 2 := by omega
      have hp3b : p3 < 3 := by omega
      have f1 : IntKind.u32.wrap (p2 : Int) = (p2 : Int) := u32_in _ (by omega) (by omega)
      have f2 : IntKind.u32.wrap (p3 : Int) = (p3 : Int) := u32_in _ (by omega) (by omega)
      go_wp2_with (refine wpList_append_rd_w _ (.tmp 180) (.tmp 181) 22 rfl (by rfl) .u8 w0.heap.size 5 i0 1 Try.underlying22 hi hz0 hz1 hz2 (some ⟨gc, 0, none⟩) (m1 + 1) (m1 + 1) (z4) rfl (XL.out.own 1 rfl) _ (some ⟨w6.heap.size, 0, none⟩) 2 2 ([0, 9]) rfl (XL.out.rd 2 rfl) (by simp only [maxLen]; omega) (by omega) XL.out.size ?_; intro A7 c7 w7 happ; have X7 := Lib.hid (XL.out.app 1 rfl happ); clear happ)
      refine (options8_any (KN.mk 0 14 true _ (p2 : Int) (p3 : Int) []) A7 (m1 + 1 + 2) c7 (z4 ++ [0, 9]) none 0 0 _ (X7.out.rd 1 rfl) (hz4.append (bd_all (by decide))) (X7.out.own 1 rfl).le.1 (X7.out.own 1 rfl).le.2 (ROWP.none _) (show 0 ≤ (p2 : Int) ∧ (p2 : Int) ≤ 4294967295 by omega) (show 0 ≤ (p3 : Int) ∧ (p3 : Int) ≤ 4294967295 by omega)).mono ?_
      rintro e w8 ⟨rfl, hb8⟩
      have X8 := Lib.hid (X7.out.next hb8)
      clear hb8 X7 XL X6
      go_wp2_with fail
      go_roundw
      case rel => exact ⟨n + 1, by omega, by go_num, X8.out.pick [0] (by decide) rfl⟩
      case measure => simp [intOf]; omega

set_option maxHeartbeats 8000000 in
set_option maxRecDepth 100000 in
theorem small8_5 {u0 u4 u5 u6 u7 u8 u9 u10 u11 u12 u14 u15 u16 u17 u18 u19 u20 u21 u22 u23 u24 u25 u26 u27 u28 u29 u30 u31 u32 u33 u34 u35 u36 u37 u38 u39 u40 u41 u42 u43 u44 u45 u46 u47 u48 u49 u50 u51 u52 u53 u54 u55 u56 u57 u58 u59 u60 u61 u62 u63 u64 u65 u66 u67 u68 u69 u70 u71 u72 u73 u74 u75 u76 u77 u78 u79 u80 u81 u82 u83 u84 u85 u86 u87 u88 u89 u90 u91 u92 u93 u94 u95 u96 u97 u98 u99 u100 u101 u102 u103 u104 u105 u106 u107 u108 u109 u110 u111 u112 u113 u114 u115 u116 u117 u118 u119 u120 u121 u122 u123 u124 u125 u126 u127 u128 u129 u130 u131 u132 u133 u134 u135 u136 u137 u138 u139 u140 u141 u142 u143 u144 u145 u146 u147 u148 u149 u150 u151 u152 u153 u154 u155 u156 u157 u158 u159 u160 u161 u162 u163 u164 u165 u166 u167 u168 u169 u170 u171 u172 u173 u174 u175 u176 u177 u178 u179 u180 u181 u182 u183 u184 u185 u186 u187 u188 u189 u190 u191 u192 u193 u194 u195 u196 u197 u198 u199 u200 u201 u202 u203 u204 u205 u206 u207 u208 u209 u210 u211 u212 u213 u214 u215 u216 u217 u218 u219 u220 u221 u222 u223 u224 u225 u226 u227 u228 u229 u230 u231 u232 u233 u234 u235 u236 u237 u238 u239 u240 u241 u242 u243 u244 u245 u246 u247 u248 u249 u250 u251 u252 u253 u254 u255 u256 u257 u258 u259 u260 u261 u262 u263 u264 u265 u266 u267 u268 u269 u270 u271 u272 u273 u274 u275 u276 u277 u278 u279 u280 u281 u282 : Value} {Q : Exit → Act → World → Prop} (w0 w : World) (G : Nat)  (hG : w0.heap.size = G) (X : SP w0 w [.own .u8 5 (some ⟨G, 0, none⟩) 20 20 EX8])
    (HQ : ∀ (y0 y13 y15 y198 y199 y200 y201 y202 y203 y204 y205 y206 y207 y208 y209 y210 y211 y212 y213 y214 y215 y216 y217 y218 y219 y220 y221 y222 y223 y224 y225 y226 : Value) (w' : World), SP w0 w' [.own .u8 5 (some ⟨G, 0, none⟩) 20 20 EX8] → Q (.exit 8) ⟨List.toArray (y0 :: .slice (some ⟨G, 0, none⟩) 20 20 :: .int .u32 167772161 :: .int .u32 167772162 :: u4 :: u5 :: u6 :: u7 :: u8 :: u9 :: u10 :: u11 :: u12 :: y13 :: u14 :: y15 :: u16 :: u17 :: u18 :: u19 :: u20 :: u21 :: u22 :: u23 :: u24 :: u25 :: u26 :: u27 :: u28 :: u29 :: u30 :: u31 :: u32 :: u33 :: u34 :: u35 :: u36 :: u37 :: u38 :: u39 :: u40 :: u41 :: u42 :: u43 :: u44 :: u45 :: u46 :: u47 :: u48 :: u49 :: u50 :: u51 :: u52 :: u53 :: u54 :: u55 :: u56 :: u57 :: u58 :: u59 :: u60 :: u61 :: u62 :: u63 :: u64 :: u65 :: u66 :: u67 :: u68 :: u69 :: u70 :: u71 :: u72 :: u73 :: u74 :: u75 :: u76 :: u77 :: u78 :: u79 :: u80 :: u81 :: u82 :: u83 :: u84 :: u85 :: u86 :: u87 :: u88 :: u89 :: u90 :: u91 :: u92 :: u93 :: u94 :: u95 :: u96 :: u97 :: u98 :: u99 :: u100 :: u101 :: u102 :: u103 :: u104 :: u105 :: u106 :: u107 :: u108 :: u109 :: u110 :: u111 :: u112 :: u113 :: u114 :: u115 :: u116 :: u117 :: u118 :: u119 :: u120 :: u121 :: u122 :: u123 :: u124 :: u125 :: u126 :: u127 :: u128 :: u129 :: u130 :: u131 :: u132 :: u133 :: u134 :: u135 :: u136 :: u137 :: u138 :: u139 :: u140 :: u141 :: u142 :: u143 :: u144 :: u145 :: u146 :: u147 :: u148 :: u149 :: u150 :: u151 :: u152 :: u153 :: u154 :: u155 :: u156 :: u157 :: u158 :: u159 :: u160 :: u161 :: u162 :: u163 :: u164 :: u165 :: u166 :: u167 :: u168 :: u169 :: u170 :: u171 :: u172 :: u173 :: u174 :: u175 :: u176 :: u177 :: u178 :: u179 :: u180 :: u181 :: u182 :: u183 :: u184 :: u185 :: u186 :: u187 :: u188 :: u189 :: u190 :: u191 :: u192 :: u193 :: u194 :: u195 :: u196 :: u197 :: y198 :: y199 :: y200 :: y201 :: y202 :: y203 :: y204 :: y205 :: y206 :: y207 :: y208 :: y209 :: y210 :: y211 :: y212 :: y213 :: y214 :: y215 :: y216 :: y217 :: y218 :: y219 :: y220 :: y221 :: y222 :: y223 :: y224 :: y225 :: y226 :: u227 :: u228 :: u229 :: u230 :: u231 :: u232 :: u233 :: u234 :: u235 :: u236 :: u237 :: u238 :: u239 :: u240 :: u241 :: u242 :: u243 :: u244 :: u245 :: u246 :: u247 :: u248 :: u249 :: u250 :: u251 :: u252 :: u253 :: u254 :: u255 :: u256 :: u257 :: u258 :: u259 :: u260 :: u261 :: u262 :: u263 :: u264 :: u265 :: u266 :: u267 :: u268 :: u269 :: u270 :: u271 :: u272 :: u273 :: u274 :: u275 :: u276 :: u277 :: u278 :: u279 :: u280 :: u281 :: u282 :: []), []⟩ w') :
    Code.wp Try.prog (loopAt Try.f6 35) Q ⟨List.toArray (u0 :: .slice (some ⟨G, 0, none⟩) 20 20 :: .int .u32 167772161 :: .int .u32 167772162 :: u4 :: u5 :: u6 :: u7 :: u8 :: u9 :: u10 :: u11 :: u12 :: .int .i64 0 :: u14 :: u15 :: u16 :: u17 :: u18 :: u19 :: u20 :: u21 :: u22 :: u23 :: u24 :: u25 :: u26 :: u27 :: u28 :: u29 :: u30 :: u31 :: u32 :: u33 :: u34 :: u35 :: u36 :: u37 :: u38 :: u39 :: u40 :: u41 :: u42 :: u43 :: u44 :: u45 :: u46 :: u47 :: u48 :: u49 :: u50 :: u51 :: u52 :: u53 :: u54 :: u55 :: u56 :: u57 :: u58 :: u59 :: u60 :: u61 :: u62 :: u63 :: u64 :: u65 :: u66 :: u67 :: u68 :: u69 :: u70 :: u71 :: u72 :: u73 :: u74 :: u75 :: u76 :: u77 :: u78 :: u79 :: u80 :: u81 :: u82 :: u83 :: u84 :: u85 :: u86 :: u87 :: u88 :: u89 :: u90 :: u91 :: u92 :: u93 :: u94 :: u95 :: u96 :: u97 :: u98 :: u99 :: u100 :: u101 :: u102 :: u103 :: u104 :: u105 :: u106 :: u107 :: u108 :: u109 :: u110 :: u111 :: u112 :: u113 :: u114 :: u115 :: u116 :: u117 :: u118 :: u119 :: u120 :: u121 :: u122 :: u123 :: u124 :: u125 :: u126 :: u127 :: u128 :: u129 :: u130 :: u131 :: u132 :: u133 :: u134 :: u135 :: u136 :: u137 :: u138 :: u139 :: u140 :: u141 :: u142 :: u143 :: u144 :: u145 :: u146 :: u147 :: u148 :: u149 :: u150 :: u151 :: u152 :: u153 :: u154 :: u155 :: u156 :: u157 :: u158 :: u159 :: u160 :: u161 :: u162 :: u163 :: u164 :: u165 :: u166 :: u167 :: u168 :: u169 :: u170 :: u171 :: u172 :: u173 :: u174 :: u175 :: u176 :: u177 :: u178 :: u179 :: u180 :: u181 :: u182 :: u183 :: u184 :: u185 :: u186 :: u187 :: u188 :: u189 :: u190 :: u191 :: u192 :: u193 :: u194 :: u195 :: u196 :: u197 :: u198 :: u199 :: u200 :: u201 :: u202 :: u203 :: u204 :: u205 :: u206 :: u207 :: u208 :: u209 :: u210 :: u211 :: u212 :: u213 :: u214 :: u215 :: u216 :: u217 :: u218 :: u219 :: u220 :: u221 :: u222 :: u223 :: u224 :: u225 :: u226 :: u227 :: u228 :: u229 :: u230 :: u231 :: u232 :: u233 :: u234 :: u235 :: u236 :: u237 :: u238 :: u239 :: u240 :: u241 :: u242 :: u243 :: u244 :: u245 :: u246 :: u247 :: u248 :: u249 :: u250 :: u251 :: u252 :: u253 :: u254 :: u255 :: u256 :: u257 :: u258 :: u259 :: u260 :: u261 :: u262 :: u263 :: u264 :: u265 :: u266 :: u267 :: u268 :: u269 :: u270 :: u271 :: u272 :: u273 :: u274 :: u275 :: u276 :: u277 :: u278 :: u279 :: u280 :: u281 :: u282 :: []), []⟩ w := by
  obtain ⟨i0, hi, hz0, hz1, hz2⟩ := info_parts infoU8
  have HQH := Lib.hid HQ
  clear HQ
  have HX := Lib.hid X
  clear X
  conv => arg 2; whnf
  go_loopw [13] (fun s13 wr => ∃ k : Nat, k ≤ 50 ∧ s13 = .int .i64 (k : Int) ∧ SP w0 wr [.own .u8 5 (some ⟨G, 0, none⟩) 20 20 EX8]) (fun s13 _ => 50 - (intOf s13).toNat)
  case atStart => exact ⟨0, by omega, rfl, HX.out⟩
  case round =>
    obtain ⟨k, hk, rfl, X0⟩ := hrel
    obtain ⟨wo, rfl⟩ : ∃ wo : World, wo = wr := ⟨_, rfl⟩
    have X := Lib.hid X0
    clear X0 HX
    by_cases hlt : k < 50
    case neg =>
      have t1 : ¬ (k : Int) < 50 := by omega
      go_wp2_with fail
      exact HQH.out _ _ _ _ _ _ _ _ _ _ _ _ _ _ _ _ _ _ _ _ _ _ _ _ _ _ _ _ _ _ _ _ _ X.out
    have t1 : (k : Int) < 50 := by omega
    have XP := Lib.hid (X.out.alloc 36 #[.int .u16 0, .int .u16 1, .int .u16 1, .int .u16 0, .int .u16 65535, .int .u16 65535])
    go_upto_region 38 with fail
    generalize w_gen : wo.alloc (.cells #[.int .u16 0, .int .u16 1, .int .u16 1, .int .u16 0, .int .u16 65535, .int .u16 65535] 36) = w1 at XP ⊢
    obtain ⟨G3, hG3⟩ : ∃ g, g = wo.heap.size := ⟨_, rfl⟩
    rw [← hG3] at XP ⊢
    replace XP := Lib.hid (show SP w0 w1 [.own .u8 5 (some ⟨G, 0, none⟩) 20 20 EX8, .blk G3 36 #[.int .u16 0, .int .u16 1, .int .u16 1, .int .u16 0, .int .u16 65535, .int .u16 65535]] from XP.out)
    clear hG3 w_gen X
    go_loopw [207] (fun s207 wr => ∃ j : Nat, j ≤ 3 ∧ s207 = .int .i64 (j : Int) ∧ SP w0 wr [.own .u8 5 (some ⟨G, 0, none⟩) 20 20 EX8, .blk G3 36 #[.int .u16 0, .int .u16 1, .int .u16 1, .int .u16 0, .int .u16 65535, .int .u16 65535]]) (fun s207 _ => 3 - (intOf s207).toNat)
    case atStart => exact ⟨0, by omega, rfl, XP.out⟩
    case round =>
      obtain ⟨j, hj, rfl, Y0⟩ := hrel
      obtain ⟨wp, rfl⟩ : ∃ wp : World, wp = wr := ⟨_, rfl⟩
      have Y := Lib.hid Y0
      clear Y0 XP
      by_cases hln : j < 3
      case neg =>
        have t2 : ¬ (j : Int) < 3 := by omega
        go_wp2_with fail
        go_roundw
        case rel => exact ⟨k + 1, by omega, by go_num, Y.out.pick [0] (by decide) rfl⟩
        case measure => simp [intOf]; omega
      have t2 : (j : Int) < 3 := by omega
      have u0 : (0 : Int) ≤ (j : Int) := by omega
      obtain ⟨p, q, hp, hq, xa, xb⟩ : ∃ p q : Int, (0 ≤ p ∧ p ≤ 65535) ∧ (0 ≤ q ∧ q ≤ 65535) ∧ wp.cell? ⟨G3, j * 2, none⟩ = some (.int .u16 p) ∧ wp.cell? ⟨G3, j * 2 + 1, none⟩ = some (.int .u16 q) := by
        rcases (show j = 0 ∨ j = 1 ∨ j = 2 by omega) with rfl | rfl | rfl
        · exact ⟨0, 1, by decide, by decide, Y.out.cell 1 rfl 0 rfl, Y.out.cell 1 rfl 1 rfl⟩
        · exact ⟨1, 0, by decide, by decide, Y.out.cell 1 rfl 2 rfl, Y.out.cell 1 rfl 3 rfl⟩
        · exact ⟨65535, 65535, by decide, by decide, Y.out.cell 1 rfl 4 rfl, Y.out.cell 1 rfl 5 rfl⟩
      have Y1 := Lib.hid (Y.out.alloc 36 #[.int .u16 p, .int .u16 q])
      go_upto_region 40 with fail
      generalize w_gen : wp.alloc (.cells #[.int .u16 p, .int .u16 q] 36) = w2 at Y1 ⊢
      obtain ⟨GB, hGB⟩ : ∃ g, g = wp.heap.size := ⟨_, rfl⟩
      rw [← hGB] at Y1 ⊢
      replace Y1 := Lib.hid (show SP w0 w2 [.own .u8 5 (some ⟨G, 0, none⟩) 20 20 EX8, .blk G3 36 #[.int .u16 0, .int .u16 1, .int .u16 1, .int .u16 0, .int .u16 65535, .int .u16 65535], .blk GB 36 #[.int .u16 p, .int .u16 q]] from Y1.out)
      clear hGB w_gen xa xb Y
      obtain ⟨r, hr⟩ : ∃ r : Nat, (k : Int) % 20 = (r : Int) := ⟨k % 20, by omega⟩
      have hr20 : r ≤ 20 := by omega
      have hrt : (k : Int).tmod 20 = (r : Int) := by rw [Int.tmod_eq_emod_of_nonneg (by omega)]; exact hr
      have u1 : (0 : Int) ≤ (r : Int) := by omega
      have u2 : (r : Int) ≤ 20 := by omega
      have er : IntKind.i64.wrap (r : Int) = (r : Int) := IntWalk.i64_in _ (by omega)
      have HSL := Lib.hid (fun W => run_slice_hi8 (P := Try.prog) W Try.underlying22 hi hz1 (some ⟨G, 0, none⟩) 20 20 (r : Int) r rfl hr20)
      have sl := HSL.out
      clear hr
      refine wp_region_noPanic ?_
      refine wp_region_held_drew (S := fun W => W.cell? ⟨GB, 0, none⟩ = some (.int .u16 p) ∧ W.cell? ⟨GB, 1, none⟩ = some (.int .u16 q)) (by kernel_rfl) (by exact ⟨Y1.out.drew.cell 2 rfl 0 rfl, Y1.out.drew.cell 2 rfl 1 rfl⟩) (fun hHeld => ?_)
      have Y2 := Lib.hid Y1.out.drew
      generalize w2.drew = x0 at Y2 hHeld ⊢
      refine' take_lit (i := 0) (v := _) rfl (by kernel_rfl) (by kernel_rfl) (by kernel_rfl) (fun _ _ _ h => h) (Or.inl ⟨by rfl, ?yy25⟩) (by assumption) ?rr25
      case yy25 => intro w' hSw; (try dsimp only at hSw); go_simp; try (with_reducible rfl)
      (try simp only [Act.put]); (try simp only [List.setIfInBounds_toArray, List.set_cons_zero, List.set_cons_succ])
      refine' take_lit (i := 1) (v := _) rfl (by kernel_rfl) (by kernel_rfl) (by kernel_rfl) (fun _ _ _ h => h) (Or.inl ⟨by rfl, ?yy26⟩) (by assumption) ?rr26
      case yy26 => intro w' hSw; (try dsimp only at hSw); go_simp; try (with_reducible rfl)
      (try simp only [Act.put]); (try simp only [List.setIfInBounds_toArray, List.set_cons_zero, List.set_cons_succ])
      refine' take_lit (i := 2) (v := _) rfl (by kernel_rfl) (by kernel_rfl) (by kernel_rfl) (fun _ _ _ h => h) (Or.inl ⟨by rfl, ?yy27⟩) (by assumption) ?rr27
      case yy27 => intro w' hSw; (try dsimp only at hSw); go_simp; try (with_reducible rfl)
      (try simp only [Act.put]); (try simp only [List.setIfInBounds_toArray, List.set_cons_zero, List.set_cons_succ])
      refine' take_lit (i := 3) (v := _) rfl (by kernel_rfl) (by kernel_rfl) (by kernel_rfl) (fun _ _ _ h => h) (Or.inl ⟨by rfl, ?yy28⟩) (by assumption) ?rr28
      case yy28 => intro w' hSw; (try dsimp only at hSw); go_simp; try (with_reducible rfl)
      (try simp only [Act.put]); (try simp only [List.setIfInBounds_toArray, List.set_cons_zero, List.set_cons_succ])
      refine' take_lit (i := 4) (v := _) rfl (by kernel_rfl) (by kernel_rfl) (by kernel_rfl) (fun _ _ _ h => h) (Or.inl ⟨by rfl, ?yy29⟩) (by assumption) ?rr29
      case yy29 => intro w' hSw; (try dsimp only at hSw); go_simp; try (with_reducible rfl)
      (try simp only [Act.put]); (try simp only [List.setIfInBounds_toArray, List.set_cons_zero, List.set_cons_succ])
      refine' take_lit (i := 7) (v := _) rfl (by kernel_rfl) (by kernel_rfl) (by kernel_rfl) (fun _ _ _ h => h) (Or.inl ⟨by rfl, ?yy30⟩) (by assumption) ?rr30
      case yy30 => intro w' hSw; (try dsimp only at hSw); go_simp; try (with_reducible rfl)
      (try simp only [Act.put]); (try simp only [List.setIfInBounds_toArray, List.set_cons_zero, List.set_cons_succ])
      refine' take_lit (i := 8) (v := _) rfl (by kernel_rfl) (by kernel_rfl) (by kernel_rfl) (fun _ _ _ h => h) (Or.inl ⟨by rfl, ?yy31⟩) (by assumption) ?rr31
      case yy31 => intro w' hSw; (try dsimp only at hSw); go_simp; try (with_reducible rfl)
      (try simp only [Act.put]); (try simp only [List.setIfInBounds_toArray, List.set_cons_zero, List.set_cons_succ])
      refine' take_lit (i := 9) (v := _) rfl (by kernel_rfl) (by kernel_rfl) (by kernel_rfl) (fun _ _ _ h => h) (Or.inl ⟨by rfl, ?yy32⟩) (by assumption) ?rr32
      case yy32 => intro w' hSw; (try dsimp only at hSw); go_simp; try (with_reducible rfl)
      (try simp only [Act.put]); (try simp only [List.setIfInBounds_toArray, List.set_cons_zero, List.set_cons_succ])
      refine' take_lit (i := 10) (v := _) rfl (by kernel_rfl) (by kernel_rfl) (by kernel_rfl) (fun _ _ _ h => h) (Or.inl ⟨by rfl, ?yy33⟩) (by assumption) ?rr33
      case yy33 => intro w' hSw; (try dsimp only at hSw); go_simp; try (with_reducible rfl)
      (try simp only [Act.put]); (try simp only [List.setIfInBounds_toArray, List.set_cons_zero, List.set_cons_succ])
      refine' take_lit (i := 11) (v := _) rfl (by kernel_rfl) (by kernel_rfl) (by kernel_rfl) (fun _ _ _ h => h) (Or.inl ⟨by rfl, ?yy34⟩) (by assumption) ?rr34
      case yy34 => intro w' hSw; (try dsimp only at hSw); go_simp; try (with_reducible rfl)
      (try simp only [Act.put]); (try simp only [List.setIfInBounds_toArray, List.set_cons_zero, List.set_cons_succ])
      refine' take_lit (i := 12) (v := _) rfl (by kernel_rfl) (by kernel_rfl) (by kernel_rfl) (fun _ _ _ h => h) (Or.inl ⟨by rfl, ?yy35⟩) (by assumption) ?rr35
      case yy35 => intro w' hSw; (try dsimp only at hSw); go_simp; try (with_reducible rfl)
      (try simp only [Act.put]); (try simp only [List.setIfInBounds_toArray, List.set_cons_zero, List.set_cons_succ])
      refine wpAnyH_ready (rs := [5]) (by kernel_rfl) (by simp) ?_
      refine cons_lit rfl (fun K hK => ?ss5x36) AllReadyH.nil
      case ss5x36 =>
        obtain ⟨x1, hrun, own1, hb1, hs1⟩ := run_make_cap (P := Try.prog) (k := .u8) x0 22 i0 Try.underlying22 hi hz0 hz1 (by omega) (k : Int) (k : Int) k k rfl rfl (Nat.le_refl _) (by omega)
        have Y3 := Y2.out.pushOwn hb1 own1
        obtain ⟨go, hgo⟩ : ∃ g, g = x0.heap.size := ⟨_, rfl⟩
        rw [← hgo] at hrun Y3
        replace Y3 := Lib.hid Y3
        clear own1 hb1 hs1 hgo
        go_simp
        clear hrun
        refine hK.out _ _ (by exact ⟨Y3.out.cell 2 rfl 0 rfl, Y3.out.cell 2 rfl 1 rfl⟩) (fun hHeld => ?_)
        clear hK K
        (try simp only [Act.put]); (try simp only [List.setIfInBounds_toArray, List.set_cons_zero, List.set_cons_succ])
        refine' take_lit (i := 6) (v := _) rfl (by kernel_rfl) (by kernel_rfl) (by kernel_rfl) (fun _ _ _ h => h) (Or.inl ⟨by rfl, ?yy37⟩) (by assumption) ?rr37
        case yy37 => intro w' hSw; (try dsimp only at hSw); go_simp; try (with_reducible rfl)
        (try simp only [Act.put]); (try simp only [List.setIfInBounds_toArray, List.set_cons_zero, List.set_cons_succ])
        refine wpAnyH_ready (rs := [13]) (by kernel_rfl) (by simp) ?_
        refine cons_lit rfl (fun K hK => ?ss13x38) AllReadyH.nil
        case ss13x38 =>
          go_simp
          refine (writes8_any ⟨p, q, 0, 0, 16, 0, 0⟩ (th_wf hp hq (by decide)) (some ⟨go, 0, none⟩) k k (List.replicate k 0) 167772161 167772162 (some ⟨G, 0, none⟩) r 20 (EX8.take r) _ (Y3.out.rd 3 rfl) (zeros_bd8 k) (by decide) (by decide) ((Y3.out.rd 0 rfl).take hr20) (EX8_bd.take _)).mono ?_
          rintro e x2 ⟨rfl, hb2⟩
          have Y4 := Lib.hid (Y3.out.next hb2)
          clear hb2
          refine hK.out _ _ (by exact ⟨Y4.out.cell 2 rfl 0 rfl, Y4.out.cell 2 rfl 1 rfl⟩) (fun hHeld => ?_)
          clear hK K
          (try simp only [Act.put]); (try simp only [List.setIfInBounds_toArray, List.set_cons_zero, List.set_cons_succ])
          refine' take_lit (i := 14) (v := _) rfl (by kernel_rfl) (by kernel_rfl) (by kernel_rfl) (fun _ _ _ h => h) (Or.inl ⟨by rfl, ?yy39⟩) (by assumption) ?rr39
          case yy39 => intro w' hSw; (try dsimp only at hSw); go_simp; try (with_reducible rfl)
          (try simp only [Act.put]); (try simp only [List.setIfInBounds_toArray, List.set_cons_zero, List.set_cons_succ])
          refine wpAnyH_done (by kernel_rfl) ?_ _
          refine NoPanic.normal ?_
          clear Y1 Y2 Y3 hHeld sl hrt er
          go_wp2_with fail
          go_roundw
          case rel => exact ⟨j + 1, by omega, by go_num, Y4.out.pick [0, 1] (by decide) rfl⟩
          case measure => simp [intOf]; omega
end Go.Proofs.Ythdpcblmmjocmaa
