import Derived.Test.YtcipgkpcaecjdaaLWireBackC
import Derived.Test.YtcipgkpcaecjdaaLWireBackD
import Derived.Test.YtcipgkpcaecjdaaLWireBackE
/- WireBack: the loops over the parts. (Printed by gen_wback.py.) -/
namespace Go.Proofs.Ytcipgkpcaecjdaa
open Go.RowKit
set_option linter.unusedVariables false
set_option linter.unusedSimpArgs false

/-- the innermost loop that holds region r -/
def findLoopIn (r : Nat) : Code → Option Code
  | .loop c => match findLoopIn r c with
    | some o => some o
    | none => if (regOps r c).isSome then some (.loop c) else none
  | .seq a b => match findLoopIn r a with
    | some o => some o
    | none => findLoopIn r b
  | .cond _ a b => match findLoopIn r a with
    | some o => some o
    | none => findLoopIn r b
  | .block _ c => findLoopIn r c
  | .scope c => findLoopIn r c
  | .rangeFunc _ _ a b => match findLoopIn r a with
    | some o => some o
    | none => findLoopIn r b
  | _ => none
noncomputable def loopIn (f : Func) (r : Nat) : Code := (f.body.bind (findLoopIn r)).getD .skip

/-- a writer that has got the first i parts -/
def WST (l : List PT) (lim i : Nat) (ys : List Int) (f : Bool) : Prop := ys.length ≤ lim ∧ ((tot l i ≤ lim ∧ ys = cat l i ∧ f = false) ∨ (lim < tot l i ∧ f = true))
/-- a reader that has read the first i parts -/
def RST (l : List PT) (m i p : Nat) (f : Bool) : Prop := p ≤ m ∧ ((tot l i ≤ m ∧ p = tot l i ∧ f = false) ∨ (m < tot l i ∧ f = true))
theorem wst_zero (l : List PT) (lim : Nat) : WST l lim 0 [] false := ⟨by simp, .inl ⟨by rw [tot_zero]; omega, by rw [cat_zero], rfl⟩⟩
theorem rst_zero (l : List PT) (m : Nat) : RST l m 0 0 false := ⟨by omega, .inl ⟨by rw [tot_zero]; omega, by rw [tot_zero], rfl⟩⟩
theorem wst_step {l : List PT} {lim i n : Nat} {ys bs : List Int} {f : Bool} {m : Int} (h : WST l lim i ys f) (hi : i < l.length) (hb : pB (l[i]?.getD PT0) = bs) (hm : (bs.length : Int) = m) (hn : ys.length = n) :
    WST l lim (i + 1) (wrB lim ys f bs) (!wrOk lim n f m) := by
  subst hn hm
  refine ⟨(wrB_len h.1 f bs).1, ?_⟩
  have ht : tot l (i + 1) = tot l i + bs.length := by unfold tot; rw [cat_succ hi, hb, List.length_append]
  rcases h.2 with ⟨h1, h2, rfl⟩ | ⟨h1, rfl⟩
  · have hl : ys.length = tot l i := by rw [h2]; rfl
    by_cases hf : tot l (i + 1) ≤ lim
    · have hok : wrOk lim ys.length false (bs.length : Int) = true := by unfold wrOk; simp; omega
      refine .inl ⟨hf, ?_, by rw [hok]; rfl⟩
      unfold wrB; rw [if_pos hok, cat_succ hi, hb, h2]
    · have hok : wrOk lim ys.length false (bs.length : Int) = false := by unfold wrOk; simp; omega
      exact .inr ⟨by omega, by rw [hok]; rfl⟩
  · have hok : wrOk lim ys.length true (bs.length : Int) = false := by unfold wrOk; simp
    exact .inr ⟨by omega, by rw [hok]; rfl⟩
theorem rst_step {l : List PT} {m i p s : Nat} {f : Bool} (h : RST l m i p f) (hi : i < l.length) (hz : ∀ p ∈ l, p.zs.length = p.n) (hs : psz (l[i]?.getD PT0).kd (l[i]?.getD PT0).n = s) :
    RST l m (i + 1) (nxAt m p f (s : Int)) (!nxOk m p f (s : Int)) := by
  have ht := tot_succ hi hz
  rw [hs] at ht
  refine ⟨(nxAt_le h.1 f _).1, ?_⟩
  rcases h.2 with ⟨h1, rfl, rfl⟩ | ⟨h1, rfl⟩
  · by_cases hf : tot l (i + 1) ≤ m
    · have hok : nxOk m (tot l i) false (s : Int) = true := by unfold nxOk; simp; omega
      refine .inl ⟨hf, ?_, by rw [hok]; rfl⟩
      unfold nxAt; rw [if_pos hok]; simp; omega
    · have hok : nxOk m (tot l i) false (s : Int) = false := by unfold nxOk; simp; omega
      exact .inr ⟨by omega, by rw [hok]; rfl⟩
  · have hok : nxOk m p true (s : Int) = false := by unfold nxOk; simp
    exact .inr ⟨by omega, by rw [hok]; rfl⟩
theorem rst_read {l : List PT} {m i p s j : Nat} {f : Bool} (h : RST l m i p f) (hi : i < j) (hj : j ≤ l.length) (hz : ∀ p ∈ l, p.zs.length = p.n) (hs : psz (l[i]?.getD PT0).kd (l[i]?.getD PT0).n = s) (hm : tot l (i + 1) ≤ m) (hmj : m ≤ tot l j) :
    nxB ((cat l j).take m) p f (s : Int) = pB (l[i]?.getD PT0) := by
  have ht := tot_succ (l := l) (i := i) (by omega) hz
  rw [hs] at ht
  rcases h.2 with ⟨h1, rfl, rfl⟩ | ⟨h1, _⟩
  · have hl : ((cat l j).take m).length = m := by rw [List.length_take]; unfold tot at hmj; omega
    have hok : nxOk m (tot l i) false (s : Int) = true := by unfold nxOk; simp; omega
    unfold nxB
    rw [hl, if_pos hok, ← cat_mid hi hj hz hm, hs]
    rfl
  · omega
theorem rst_old {l : List PT} {m i p : Nat} {f : Bool} (h : RST l m i p f) (hm : tot l (i + 1) ≤ m) : f = false := by
  rcases h.2 with ⟨_, _, h⟩ | ⟨h1, _⟩
  · exact h
  · have := tot_mono (l := l) (i := i) (j := i + 1) (by omega); omega
theorem rst_new {l : List PT} {m i p : Nat} {f : Bool} (h : RST l m i p f) (hm : ¬ tot l i ≤ m) : f = true := by
  rcases h.2 with ⟨h1, _⟩ | ⟨_, h⟩
  · omega
  · exact h
theorem rst_ok {l : List PT} {m i p : Nat} {f : Bool} (h : RST l m i p f) (hm : tot l i ≤ m) : f = false ∧ p = tot l i := by
  rcases h.2 with ⟨_, h1, h2⟩ | ⟨h, _⟩
  · exact ⟨h2, h1⟩
  · omega

set_option maxHeartbeats 1000000 in
set_option maxRecDepth 100000 in
theorem back6 {u0 u1 u2 u4 u5 u6 u7 u8 u9 u10 u11 u12 u13 u14 u15 u16 u17 u18 u19 u20 u21 u22 u23 u24 u25 u26 u27 u28 u32 u33 u34 u35 u36 u37 u38 u39 u40 u41 u42 u43 u44 u45 u46 u47 u48 u49 u50 u51 u52 u53 u54 u55 u56 u57 u58 u59 u60 u61 u62 u63 u64 u65 u66 u67 u68 u69 u70 u71 u72 u73 u74 u75 u76 u77 u78 u79 u80 u81 u82 u83 u84 u85 u86 u87 u88 u89 u90 u91 u92 u93 u94 u95 u96 u97 u98 u99 u100 u101 u102 u103 u104 u105 u106 u107 u108 u109 u110 u111 u112 u113 u114 u115 u116 u117 u118 u119 u120 u121 u122 u123 u124 u125 u126 u127 u128 u129 u130 u131 u132 u133 u134 u135 u136 u137 u138 u139 u140 u141 u142 u143 u144 u145 u146 u147 u148 u149 u150 u151 u152 u153 u154 u155 u156 u157 u158 u159 u160 u161 u162 u163 u164 u165 u166 u167 u168 u169 u170 u171 u172 u173 u174 u175 u176 u177 u178 u179 u180 u181 u182 u183 u184 u185 u186 u187 u188 u189 u190 u191 u192 u193 u194 u195 u196 u197 u198 u199 u200 u201 u202 u203 u204 u205 u206 u207 u208 u209 u210 u211 u212 u213 u214 u215 u216 u217 u218 u219 u220 u221 u222 u223 u224 u225 u226 u227 u228 u229 u230 u231 u232 u233 u234 u235 u236 u237 u238 u239 u240 u241 u242 u243 u244 u245 u246 u247 u248 u249 u250 u251 u252 u253 u254 u255 u256 u257 u258 : Value} {Q : Exit → Act → World → Prop} (w : World) (AL : Option Addr) (nl cl : Nat) (l : List PT) (hl50 : nl ≤ 50) (RL : Hid (∀ W', Below w.heap.size w W' → PTS W' AL nl l)) (HOK : Hid (∀ p ∈ l, POK p)) (w1 : World) (S1 : Hid (SP w w1 []))
    (HQ : Hid (∀ (y5 y31 y32 y33 y34 y35 y36 y37 y38 y39 : Value) (w' : World), SP w w' [] → Q (.exit 0) ⟨List.toArray (u0 :: u1 :: u2 :: .int .i64 (tot l nl : Int) :: u4 :: y5 :: u6 :: u7 :: u8 :: u9 :: u10 :: u11 :: u12 :: u13 :: u14 :: u15 :: u16 :: u17 :: u18 :: u19 :: u20 :: u21 :: u22 :: u23 :: u24 :: u25 :: u26 :: u27 :: u28 :: .slice AL nl cl :: .int .i64 (nl : Int) :: y31 :: y32 :: y33 :: y34 :: y35 :: y36 :: y37 :: y38 :: y39 :: u40 :: u41 :: u42 :: u43 :: u44 :: u45 :: u46 :: u47 :: u48 :: u49 :: u50 :: u51 :: u52 :: u53 :: u54 :: u55 :: u56 :: u57 :: u58 :: u59 :: u60 :: u61 :: u62 :: u63 :: u64 :: u65 :: u66 :: u67 :: u68 :: u69 :: u70 :: u71 :: u72 :: u73 :: u74 :: u75 :: u76 :: u77 :: u78 :: u79 :: u80 :: u81 :: u82 :: u83 :: u84 :: u85 :: u86 :: u87 :: u88 :: u89 :: u90 :: u91 :: u92 :: u93 :: u94 :: u95 :: u96 :: u97 :: u98 :: u99 :: u100 :: u101 :: u102 :: u103 :: u104 :: u105 :: u106 :: u107 :: u108 :: u109 :: u110 :: u111 :: u112 :: u113 :: u114 :: u115 :: u116 :: u117 :: u118 :: u119 :: u120 :: u121 :: u122 :: u123 :: u124 :: u125 :: u126 :: u127 :: u128 :: u129 :: u130 :: u131 :: u132 :: u133 :: u134 :: u135 :: u136 :: u137 :: u138 :: u139 :: u140 :: u141 :: u142 :: u143 :: u144 :: u145 :: u146 :: u147 :: u148 :: u149 :: u150 :: u151 :: u152 :: u153 :: u154 :: u155 :: u156 :: u157 :: u158 :: u159 :: u160 :: u161 :: u162 :: u163 :: u164 :: u165 :: u166 :: u167 :: u168 :: u169 :: u170 :: u171 :: u172 :: u173 :: u174 :: u175 :: u176 :: u177 :: u178 :: u179 :: u180 :: u181 :: u182 :: u183 :: u184 :: u185 :: u186 :: u187 :: u188 :: u189 :: u190 :: u191 :: u192 :: u193 :: u194 :: u195 :: u196 :: u197 :: u198 :: u199 :: u200 :: u201 :: u202 :: u203 :: u204 :: u205 :: u206 :: u207 :: u208 :: u209 :: u210 :: u211 :: u212 :: u213 :: u214 :: u215 :: u216 :: u217 :: u218 :: u219 :: u220 :: u221 :: u222 :: u223 :: u224 :: u225 :: u226 :: u227 :: u228 :: u229 :: u230 :: u231 :: u232 :: u233 :: u234 :: u235 :: u236 :: u237 :: u238 :: u239 :: u240 :: u241 :: u242 :: u243 :: u244 :: u245 :: u246 :: u247 :: u248 :: u249 :: u250 :: u251 :: u252 :: u253 :: u254 :: u255 :: u256 :: u257 :: u258 :: []), []⟩ w')) :
    Code.wp Try.prog (loopIn Try.f10 6) Q ⟨List.toArray (u0 :: u1 :: u2 :: .int .i64 0 :: u4 :: u5 :: u6 :: u7 :: u8 :: u9 :: u10 :: u11 :: u12 :: u13 :: u14 :: u15 :: u16 :: u17 :: u18 :: u19 :: u20 :: u21 :: u22 :: u23 :: u24 :: u25 :: u26 :: u27 :: u28 :: .slice AL nl cl :: .int .i64 (nl : Int) :: .int .i64 0 :: u32 :: u33 :: u34 :: u35 :: u36 :: u37 :: u38 :: u39 :: u40 :: u41 :: u42 :: u43 :: u44 :: u45 :: u46 :: u47 :: u48 :: u49 :: u50 :: u51 :: u52 :: u53 :: u54 :: u55 :: u56 :: u57 :: u58 :: u59 :: u60 :: u61 :: u62 :: u63 :: u64 :: u65 :: u66 :: u67 :: u68 :: u69 :: u70 :: u71 :: u72 :: u73 :: u74 :: u75 :: u76 :: u77 :: u78 :: u79 :: u80 :: u81 :: u82 :: u83 :: u84 :: u85 :: u86 :: u87 :: u88 :: u89 :: u90 :: u91 :: u92 :: u93 :: u94 :: u95 :: u96 :: u97 :: u98 :: u99 :: u100 :: u101 :: u102 :: u103 :: u104 :: u105 :: u106 :: u107 :: u108 :: u109 :: u110 :: u111 :: u112 :: u113 :: u114 :: u115 :: u116 :: u117 :: u118 :: u119 :: u120 :: u121 :: u122 :: u123 :: u124 :: u125 :: u126 :: u127 :: u128 :: u129 :: u130 :: u131 :: u132 :: u133 :: u134 :: u135 :: u136 :: u137 :: u138 :: u139 :: u140 :: u141 :: u142 :: u143 :: u144 :: u145 :: u146 :: u147 :: u148 :: u149 :: u150 :: u151 :: u152 :: u153 :: u154 :: u155 :: u156 :: u157 :: u158 :: u159 :: u160 :: u161 :: u162 :: u163 :: u164 :: u165 :: u166 :: u167 :: u168 :: u169 :: u170 :: u171 :: u172 :: u173 :: u174 :: u175 :: u176 :: u177 :: u178 :: u179 :: u180 :: u181 :: u182 :: u183 :: u184 :: u185 :: u186 :: u187 :: u188 :: u189 :: u190 :: u191 :: u192 :: u193 :: u194 :: u195 :: u196 :: u197 :: u198 :: u199 :: u200 :: u201 :: u202 :: u203 :: u204 :: u205 :: u206 :: u207 :: u208 :: u209 :: u210 :: u211 :: u212 :: u213 :: u214 :: u215 :: u216 :: u217 :: u218 :: u219 :: u220 :: u221 :: u222 :: u223 :: u224 :: u225 :: u226 :: u227 :: u228 :: u229 :: u230 :: u231 :: u232 :: u233 :: u234 :: u235 :: u236 :: u237 :: u238 :: u239 :: u240 :: u241 :: u242 :: u243 :: u244 :: u245 :: u246 :: u247 :: u248 :: u249 :: u250 :: u251 :: u252 :: u253 :: u254 :: u255 :: u256 :: u257 :: u258 :: []), []⟩ w1 := by
  conv => arg 2; whnf
  go_loopw [31, 3] (fun s31 s3 wr => ∃ i : Nat, i ≤ nl ∧ s31 = .int .i64 (i : Int) ∧ s3 = .int .i64 (tot l i : Int) ∧ SP w wr []) (fun s31 _ _ => nl - (intOf s31).toNat)
  case atStart => exact ⟨0, by omega, rfl, by rw [tot_zero]; rfl, S1.out⟩
  case round =>
    obtain ⟨i, hi, rfl, rfl, Y0⟩ := hrel
    obtain ⟨wo, rfl⟩ : ∃ wo : World, wo = wr := ⟨_, rfl⟩
    have Y := Lib.hid Y0
    clear Y0 S1
    by_cases hlt : i < nl
    case neg =>
      obtain rfl : i = nl := by omega
      have t1 : ¬ (i : Int) < (i : Int) := by omega
      go_wp2_with fail
      exact HQ.out _ _ _ _ _ _ _ _ _ _ _ Y.out
    have t1 : (i : Int) < (nl : Int) := by omega
    have t0 : (0 : Int) ≤ (i : Int) := by omega
    have hpt := RL.out _ Y.out.bel
    have hll := hpt.1
    obtain ⟨ba, oa, rfl, _, hcells⟩ := hpt.2.1 (by omega)
    obtain ⟨x1, x2, x3⟩ := hcells i hlt
    obtain ⟨p, hp⟩ : ∃ p, l[i]?.getD PT0 = p := ⟨_, rfl⟩
    have hmem : p ∈ l := by rw [← hp, List.getElem?_eq_getElem (by omega)]; exact List.getElem_mem (by omega)
    have HP := Lib.hid hp
    have HK := Lib.hid (HOK.out p hmem)
    have RP := Lib.hid (fun W' (hb : Below w.heap.size w W') => (RL.out W' hb).2.2 p hmem)
    have HZ := Lib.hid (fun q (hq : q ∈ l) => (hpt.2.2 q hq).len)
    have htm := tot_le HZ.out (i + 1) (by omega)
    have hts := tot_succ (l := l) (i := i) (by omega) HZ.out
    rw [hp] at x1 x2 x3 hts
    obtain ⟨s, hs⟩ : ∃ s, psz p.kd p.n = s := ⟨_, rfl⟩
    have HS := Lib.hid hs
    have hs40 : s ≤ 40 := by rw [← hs]; exact psz_le _ _
    rw [hs] at hts
    have hpm := HK.out.2.2.2.2
    have hpnc := HK.out.2.2.2.1
    unfold maxLen at hpm
    have e9 : IntKind.i64.wrap ((i : Int) + 1) = (i : Int) + 1 := IntWalk.i64_in _ (by omega)
    have XB := Lib.hid (Y.out.alloc' 60 (ptv p) (N := wo.heap.size) rfl)
    clear hpt hcells hp hmem hs
    go_upto_region 8 with fail
    obtain ⟨bx, hbx⟩ : ∃ g, g = wo.heap.size := ⟨_, rfl⟩
    rw [← hbx] at XB ⊢
    unfold ptv at XB
    generalize wo.alloc (.cells #[.int .u8 p.kd, .int .u32 p.N, .slice p.A p.n p.c] 60) = v0 at XB ⊢
    replace XB := Lib.hid (show SP w v0 [.blk bx 60 (ptv p)] from XB.out)
    clear hbx Y x1 x2 x3
    go_wp2_with (refine wpList_load_row rfl 60 _ rfl bx rfl 60 (ptv p) (0, 0) _ (XB.out.blk 0 rfl) Try.underlying60 rfl (by kernel_rfl) ?_)
    refine (psize_any p _ HK.out.1 (by omega)).mono ?_
    rw [HS.out]
    rintro e v1 ⟨rfl, hb⟩
    have X1 := Lib.hid (XB.out.next hb)
    clear hb XB
    have e1 : IntKind.i64.wrap ((tot l i : Int) + (s : Int)) = (tot l (i + 1) : Int) := by rw [show (tot l i : Int) + (s : Int) = (tot l (i + 1) : Int) by omega]; exact IntWalk.i64_in _ (by omega)
    have HTS := Lib.hid hts
    clear hts htm
    go_wp2_with fail
    go_roundw
    case rel => exact ⟨i + 1, by omega, by go_num, rfl, X1.out.tail⟩
    case measure => simp [intOf]; omega

set_option maxHeartbeats 1000000 in
set_option maxRecDepth 100000 in
theorem back17 {u0 u1 u2 u3 u4 u5 u6 u7 u9 u10 u11 u12 u13 u14 u15 u16 u17 u18 u19 u20 u21 u22 u23 u24 u25 u26 u27 u28 u29 u30 u31 u32 u33 u34 u35 u36 u37 u38 u39 u40 u41 u42 u43 u44 u45 u46 u47 u48 u49 u50 u51 u52 u53 u54 u55 u59 u60 u61 u62 u63 u64 u65 u66 u67 u68 u69 u70 u71 u72 u73 u74 u75 u76 u77 u78 u79 u80 u81 u82 u83 u84 u85 u86 u87 u88 u89 u90 u91 u92 u93 u94 u95 u96 u97 u98 u99 u100 u101 u102 u103 u104 u105 u106 u107 u108 u109 u110 u111 u112 u113 u114 u115 u116 u117 u118 u119 u120 u121 u122 u123 u124 u125 u126 u127 u128 u129 u130 u131 u132 u133 u134 u135 u136 u137 u138 u139 u140 u141 u142 u143 u144 u145 u146 u147 u148 u149 u150 u151 u152 u153 u154 u155 u156 u157 u158 u159 u160 u161 u162 u163 u164 u165 u166 u167 u168 u169 u170 u171 u172 u173 u174 u175 u176 u177 u178 u179 u180 u181 u182 u183 u184 u185 u186 u187 u188 u189 u190 u191 u192 u193 u194 u195 u196 u197 u198 u199 u200 u201 u202 u203 u204 u205 u206 u207 u208 u209 u210 u211 u212 u213 u214 u215 u216 u217 u218 u219 u220 u221 u222 u223 u224 u225 u226 u227 u228 u229 u230 u231 u232 u233 u234 u235 u236 u237 u238 u239 u240 u241 u242 u243 u244 u245 u246 u247 u248 u249 u250 u251 u252 u253 u254 u255 u256 u257 u258 : Value} {Q : Exit → Act → World → Prop} (w : World) (AL : Option Addr) (nl cl : Nat) (l : List PT) (hl50 : nl ≤ 50) (RL : Hid (∀ W', Below w.heap.size w W' → PTS W' AL nl l)) (HOK : Hid (∀ p ∈ l, POK p)) (lim W G : Nat) (hlim : lim ≤ 131072) (w1 : World) (S1 : Hid (SP w w1 [.own .i64 3 (some ⟨G, 0, none⟩) 2 2 [0, 1], .own .u8 5 none 0 0 [], .blk W 71 (wcells W lim none 0 0 false)]))
    (HQ : Hid (∀ (y11 y58 y59 y60 y61 y62 y63 y64 y65 y66 y67 y68 y69 y70 y71 y72 y73 y74 y75 y76 y77 y78 y79 y80 y81 y82 y83 y84 y85 y86 y87 y88 y89 y90 y91 y92 : Value) (B : Option Addr) (n c : Nat) (ys : List Int) (f : Bool) (w' : World), WST l lim nl ys f → SP w w' [.own .i64 3 (some ⟨G, 0, none⟩) 2 2 [0, 1], .own .u8 5 B n c ys, .blk W 71 (wcells W lim B n c f)] → Q (.exit 4) ⟨List.toArray (u0 :: u1 :: u2 :: u3 :: u4 :: u5 :: u6 :: u7 :: .pointer (some ⟨W, 0, none⟩) :: u9 :: u10 :: y11 :: u12 :: u13 :: u14 :: u15 :: u16 :: u17 :: u18 :: u19 :: u20 :: u21 :: u22 :: u23 :: u24 :: u25 :: u26 :: u27 :: u28 :: u29 :: u30 :: u31 :: u32 :: u33 :: u34 :: u35 :: u36 :: u37 :: u38 :: u39 :: u40 :: u41 :: u42 :: u43 :: u44 :: u45 :: u46 :: u47 :: u48 :: u49 :: u50 :: u51 :: u52 :: u53 :: u54 :: u55 :: .slice AL nl cl :: .int .i64 (nl : Int) :: y58 :: y59 :: y60 :: y61 :: y62 :: y63 :: y64 :: y65 :: y66 :: y67 :: y68 :: y69 :: y70 :: y71 :: y72 :: y73 :: y74 :: y75 :: y76 :: y77 :: y78 :: y79 :: y80 :: y81 :: y82 :: y83 :: y84 :: y85 :: y86 :: y87 :: y88 :: y89 :: y90 :: y91 :: y92 :: u93 :: u94 :: u95 :: u96 :: u97 :: u98 :: u99 :: u100 :: u101 :: u102 :: u103 :: u104 :: u105 :: u106 :: u107 :: u108 :: u109 :: u110 :: u111 :: u112 :: u113 :: u114 :: u115 :: u116 :: u117 :: u118 :: u119 :: u120 :: u121 :: u122 :: u123 :: u124 :: u125 :: u126 :: u127 :: u128 :: u129 :: u130 :: u131 :: u132 :: u133 :: u134 :: u135 :: u136 :: u137 :: u138 :: u139 :: u140 :: u141 :: u142 :: u143 :: u144 :: u145 :: u146 :: u147 :: u148 :: u149 :: u150 :: u151 :: u152 :: u153 :: u154 :: u155 :: u156 :: u157 :: u158 :: u159 :: u160 :: u161 :: u162 :: u163 :: u164 :: u165 :: u166 :: u167 :: u168 :: u169 :: u170 :: u171 :: u172 :: u173 :: u174 :: u175 :: u176 :: u177 :: u178 :: u179 :: u180 :: u181 :: u182 :: u183 :: u184 :: u185 :: u186 :: u187 :: u188 :: u189 :: u190 :: u191 :: u192 :: u193 :: u194 :: u195 :: u196 :: u197 :: u198 :: u199 :: u200 :: u201 :: u202 :: u203 :: u204 :: u205 :: u206 :: u207 :: u208 :: u209 :: u210 :: u211 :: u212 :: u213 :: u214 :: u215 :: u216 :: u217 :: u218 :: u219 :: u220 :: u221 :: u222 :: u223 :: u224 :: u225 :: u226 :: u227 :: u228 :: u229 :: u230 :: u231 :: u232 :: u233 :: u234 :: u235 :: u236 :: u237 :: u238 :: u239 :: u240 :: u241 :: u242 :: u243 :: u244 :: u245 :: u246 :: u247 :: u248 :: u249 :: u250 :: u251 :: u252 :: u253 :: u254 :: u255 :: u256 :: u257 :: u258 :: []), []⟩ w')) :
    Code.wp Try.prog (loopIn Try.f10 17) Q ⟨List.toArray (u0 :: u1 :: u2 :: u3 :: u4 :: u5 :: u6 :: u7 :: .pointer (some ⟨W, 0, none⟩) :: u9 :: u10 :: u11 :: u12 :: u13 :: u14 :: u15 :: u16 :: u17 :: u18 :: u19 :: u20 :: u21 :: u22 :: u23 :: u24 :: u25 :: u26 :: u27 :: u28 :: u29 :: u30 :: u31 :: u32 :: u33 :: u34 :: u35 :: u36 :: u37 :: u38 :: u39 :: u40 :: u41 :: u42 :: u43 :: u44 :: u45 :: u46 :: u47 :: u48 :: u49 :: u50 :: u51 :: u52 :: u53 :: u54 :: u55 :: .slice AL nl cl :: .int .i64 (nl : Int) :: .int .i64 0 :: u59 :: u60 :: u61 :: u62 :: u63 :: u64 :: u65 :: u66 :: u67 :: u68 :: u69 :: u70 :: u71 :: u72 :: u73 :: u74 :: u75 :: u76 :: u77 :: u78 :: u79 :: u80 :: u81 :: u82 :: u83 :: u84 :: u85 :: u86 :: u87 :: u88 :: u89 :: u90 :: u91 :: u92 :: u93 :: u94 :: u95 :: u96 :: u97 :: u98 :: u99 :: u100 :: u101 :: u102 :: u103 :: u104 :: u105 :: u106 :: u107 :: u108 :: u109 :: u110 :: u111 :: u112 :: u113 :: u114 :: u115 :: u116 :: u117 :: u118 :: u119 :: u120 :: u121 :: u122 :: u123 :: u124 :: u125 :: u126 :: u127 :: u128 :: u129 :: u130 :: u131 :: u132 :: u133 :: u134 :: u135 :: u136 :: u137 :: u138 :: u139 :: u140 :: u141 :: u142 :: u143 :: u144 :: u145 :: u146 :: u147 :: u148 :: u149 :: u150 :: u151 :: u152 :: u153 :: u154 :: u155 :: u156 :: u157 :: u158 :: u159 :: u160 :: u161 :: u162 :: u163 :: u164 :: u165 :: u166 :: u167 :: u168 :: u169 :: u170 :: u171 :: u172 :: u173 :: u174 :: u175 :: u176 :: u177 :: u178 :: u179 :: u180 :: u181 :: u182 :: u183 :: u184 :: u185 :: u186 :: u187 :: u188 :: u189 :: u190 :: u191 :: u192 :: u193 :: u194 :: u195 :: u196 :: u197 :: u198 :: u199 :: u200 :: u201 :: u202 :: u203 :: u204 :: u205 :: u206 :: u207 :: u208 :: u209 :: u210 :: u211 :: u212 :: u213 :: u214 :: u215 :: u216 :: u217 :: u218 :: u219 :: u220 :: u221 :: u222 :: u223 :: u224 :: u225 :: u226 :: u227 :: u228 :: u229 :: u230 :: u231 :: u232 :: u233 :: u234 :: u235 :: u236 :: u237 :: u238 :: u239 :: u240 :: u241 :: u242 :: u243 :: u244 :: u245 :: u246 :: u247 :: u248 :: u249 :: u250 :: u251 :: u252 :: u253 :: u254 :: u255 :: u256 :: u257 :: u258 :: []), []⟩ w1 := by
  conv => arg 2; whnf
  go_loopw [58] (fun s58 wr => ∃ (i : Nat) (B : Option Addr) (n c : Nat) (ys : List Int) (f : Bool), i ≤ nl ∧ s58 = .int .i64 (i : Int) ∧ WST l lim i ys f ∧ SP w wr [.own .i64 3 (some ⟨G, 0, none⟩) 2 2 [0, 1], .own .u8 5 B n c ys, .blk W 71 (wcells W lim B n c f)]) (fun s58 _ => nl - (intOf s58).toNat)
  case atStart => exact ⟨0, none, 0, 0, [], false, by omega, rfl, wst_zero l lim, S1.out⟩
  case round =>
    obtain ⟨i, B, n, c, ys, f, hi, rfl, hW, Y0⟩ := hrel
    obtain ⟨wo, rfl⟩ : ∃ wo : World, wo = wr := ⟨_, rfl⟩
    have Y := Lib.hid Y0
    have HW := Lib.hid hW
    clear Y0 S1 hW
    by_cases hlt : i < nl
    case neg =>
      obtain rfl : i = nl := by omega
      have t1 : ¬ (i : Int) < (i : Int) := by omega
      go_wp2_with fail
      exact HQ.out _ _ _ _ _ _ _ _ _ _ _ _ _ _ _ _ _ _ _ _ _ _ _ _ _ _ _ _ _ _ _ _ _ _ _ _ B n c ys f _ HW.out Y.out
    have HYN := Lib.hid (Y.out.own 1 rfl).len
    have hn : n ≤ lim := by have := HW.out.1; have := HYN.out; omega
    have t1 : (i : Int) < (nl : Int) := by omega
    have t0 : (0 : Int) ≤ (i : Int) := by omega
    have hpt := RL.out _ Y.out.bel
    have hll := hpt.1
    obtain ⟨ba, oa, rfl, _, hcells⟩ := hpt.2.1 (by omega)
    obtain ⟨x1, x2, x3⟩ := hcells i hlt
    obtain ⟨p, hp⟩ : ∃ p, l[i]?.getD PT0 = p := ⟨_, rfl⟩
    have hmem : p ∈ l := by rw [← hp, List.getElem?_eq_getElem (by omega)]; exact List.getElem_mem (by omega)
    have HP := Lib.hid hp
    have HK := Lib.hid (HOK.out p hmem)
    have RP := Lib.hid (fun W' (hb : Below w.heap.size w W') => (RL.out W' hb).2.2 p hmem)
    have HZ := Lib.hid (fun q (hq : q ∈ l) => (hpt.2.2 q hq).len)
    have htm := tot_le HZ.out (i + 1) (by omega)
    have hts := tot_succ (l := l) (i := i) (by omega) HZ.out
    rw [hp] at x1 x2 x3 hts
    obtain ⟨s, hs⟩ : ∃ s, psz p.kd p.n = s := ⟨_, rfl⟩
    have HS := Lib.hid hs
    have hs40 : s ≤ 40 := by rw [← hs]; exact psz_le _ _
    rw [hs] at hts
    have hpm := HK.out.2.2.2.2
    have hpnc := HK.out.2.2.2.1
    unfold maxLen at hpm
    have e9 : IntKind.i64.wrap ((i : Int) + 1) = (i : Int) + 1 := IntWalk.i64_in _ (by omega)
    have XB := Lib.hid (Y.out.alloc' 60 (ptv p) (N := wo.heap.size) rfl)
    clear hpt hcells hp hmem hs
    go_upto_region 19 with fail
    obtain ⟨bx, hbx⟩ : ∃ g, g = wo.heap.size := ⟨_, rfl⟩
    rw [← hbx] at XB ⊢
    unfold ptv at XB
    generalize wo.alloc (.cells #[.int .u8 p.kd, .int .u32 p.N, .slice p.A p.n p.c] 60) = v0 at XB ⊢
    replace XB := Lib.hid (show SP w v0 [.own .i64 3 (some ⟨G, 0, none⟩) 2 2 [0, 1], .own .u8 5 B n c ys, .blk W 71 (wcells W lim B n c f), .blk bx 60 (ptv p)] from XB.out)
    clear hbx Y x1 x2 x3
    have z0 : v0.cell? ⟨bx, 0, none⟩ = some (.int .u8 p.kd) := XB.out.cell 3 rfl 0 rfl
    obtain ⟨r, hr, hr3⟩ : ∃ r : Nat, p.kd % 4 = (r : Int) ∧ r < 4 := ⟨(p.kd % 4).toNat, by omega, by omega⟩
    have er : p.kd.tmod 4 = (r : Int) := by rw [Int.tmod_eq_emod_of_nonneg HK.out.1.1]; exact hr
    have er2 : IntKind.u8.wrap (r : Int) = (r : Int) := u8_in _ (by omega) (by omega)
    go_cut [64] from 59 to 92 (fun sT wx => sT = .int .u8 (r : Int) ∧ wx = v0)
    case first =>
      go_wp2_with fail
      go_meet
      exact ⟨rfl, rfl⟩
    case rest =>
    obtain ⟨rfl, hwc⟩ := hcut
    rw [hwc]
    clear hwc wc z0 er er2
    have HR := Lib.hid hr
    clear hr
    go_step
    have HTS := Lib.hid (And.intro hts htm)
    clear hts htm
    rcases (show r = 0 ∨ r = 1 ∨ r = 2 ∨ r = 3 by omega) with rfl | rfl | rfl | rfl
    · have hr := HR.out
      have z1 : v0.cell? ⟨bx, 1, none⟩ = some (.int .u32 p.N) := XB.out.cell 3 rfl 1 rfl
      have HPB := Lib.hid (show pB (l[i]?.getD PT0) = [IntKind.u8.wrap p.N] by rw [HP.out]; unfold pB; rw [if_pos (by omega)])
      go_wp2_with fail
      clear z1
      refine (wU8_any XB.out (i := 2) (j := 1) rfl rfl (by decide) hn hlim (IntKind.u8.wrap p.N) (w8_bd p.N)).mono ?_
      rintro e v1 ⟨rfl, B', n', c', hS⟩
      have Y1 := Lib.hid (show SP w v1 [.own .i64 3 (some ⟨G, 0, none⟩) 2 2 [0, 1], .own .u8 5 B' n' c' (wrB lim ys f [IntKind.u8.wrap p.N]), .blk W 71 (wcells W lim B' n' c' (!wrOk lim n f 1)), .blk bx 60 (ptv p)] from hS)
      clear hS XB
      go_wp2_with fail
      go_roundw
      case rel => exact ⟨i + 1, B', n', c', _, _, by omega, by go_num, wst_step HW.out (by omega) HPB.out rfl HYN.out, Y1.out.pick [0, 1, 2] (by decide) rfl⟩
      case measure => simp [intOf]; omega
    · have hr := HR.out
      have z1 : v0.cell? ⟨bx, 1, none⟩ = some (.int .u32 p.N) := XB.out.cell 3 rfl 1 rfl
      have HPB := Lib.hid (show pB (l[i]?.getD PT0) = (by16 (IntKind.u16.wrap p.N)) by rw [HP.out]; unfold pB; rw [if_neg (by omega)]; rw [if_pos (by omega)])
      go_wp2_with fail
      clear z1
      refine (wU16_any XB.out (i := 2) (j := 1) rfl rfl (by decide) hn hlim (IntKind.u16.wrap p.N) (w16_bd p.N)).mono ?_
      rintro e v1 ⟨rfl, B', n', c', hS⟩
      have Y1 := Lib.hid (show SP w v1 [.own .i64 3 (some ⟨G, 0, none⟩) 2 2 [0, 1], .own .u8 5 B' n' c' (wrB lim ys f (by16 (IntKind.u16.wrap p.N))), .blk W 71 (wcells W lim B' n' c' (!wrOk lim n f 2)), .blk bx 60 (ptv p)] from hS)
      clear hS XB
      go_wp2_with fail
      go_roundw
      case rel => exact ⟨i + 1, B', n', c', _, _, by omega, by go_num, wst_step HW.out (by omega) HPB.out rfl HYN.out, Y1.out.pick [0, 1, 2] (by decide) rfl⟩
      case measure => simp [intOf]; omega
    · have hr := HR.out
      have z1 : v0.cell? ⟨bx, 1, none⟩ = some (.int .u32 p.N) := XB.out.cell 3 rfl 1 rfl
      have HPB := Lib.hid (show pB (l[i]?.getD PT0) = (by32 p.N) by rw [HP.out]; unfold pB; rw [if_neg (by omega)]; rw [if_neg (by omega)]; rw [if_pos (by omega)])
      go_wp2_with fail
      clear z1
      refine (wU32_any XB.out (i := 2) (j := 1) rfl rfl (by decide) hn hlim (p.N) HK.out.2.1).mono ?_
      rintro e v1 ⟨rfl, B', n', c', hS⟩
      have Y1 := Lib.hid (show SP w v1 [.own .i64 3 (some ⟨G, 0, none⟩) 2 2 [0, 1], .own .u8 5 B' n' c' (wrB lim ys f (by32 p.N)), .blk W 71 (wcells W lim B' n' c' (!wrOk lim n f 4)), .blk bx 60 (ptv p)] from hS)
      clear hS XB
      go_wp2_with fail
      go_roundw
      case rel => exact ⟨i + 1, B', n', c', _, _, by omega, by go_num, wst_step HW.out (by omega) HPB.out rfl HYN.out, Y1.out.pick [0, 1, 2] (by decide) rfl⟩
      case measure => simp [intOf]; omega
    · have hr := HR.out
      have hk3 : s = min p.n 40 := by rw [← HS.out]; unfold psz; rw [if_neg (by omega), if_neg (by omega), if_neg (by omega)]
      have HPB := Lib.hid (show pB (l[i]?.getD PT0) = p.zs.take s by rw [HP.out, hk3]; unfold pB; rw [if_neg (by omega), if_neg (by omega), if_neg (by omega)])
      have HLN := Lib.hid (show ((p.zs.take s).length : Int) = (s : Int) by rw [List.length_take, (RP.out _ XB.out.bel).len]; omega)
      go_upto_region 20 with fail
      refine back20 w lim W bx B n c ys f p s [.own .i64 3 (some ⟨G, 0, none⟩) 2 2 [0, 1], .own .u8 5 B n c ys, .blk W 71 (wcells W lim B n c f), .blk bx 60 (ptv p)] _ rfl rfl rfl hn hlim HK.out HS.out (by omega) RP XB (Lib.hid ?_)
      intro _ _ _ _ _ _ _ B' n' c' v1 hS
      have Y1 := Lib.hid (show SP w v1 [.own .i64 3 (some ⟨G, 0, none⟩) 2 2 [0, 1], .own .u8 5 B' n' c' (wrB lim ys f (p.zs.take s)), .blk W 71 (wcells W lim B' n' c' (!wrOk lim n f (s : Int))), .blk bx 60 (ptv p)] from hS)
      clear hS XB hk3
      go_wp2_with fail
      go_roundw
      case rel => exact ⟨i + 1, B', n', c', _, _, by omega, by go_num, wst_step HW.out (by omega) HPB.out HLN.out HYN.out, Y1.out.pick [0, 1, 2] (by decide) rfl⟩
      case measure => simp [intOf]; omega

set_option maxHeartbeats 1000000 in
set_option maxRecDepth 100000 in
theorem back42 {u0 u1 u2 u4 u5 u6 u7 u8 u9 u10 u11 u12 u15 u17 u18 u19 u20 u21 u22 u23 u24 u25 u26 u27 u28 u29 u30 u31 u32 u33 u34 u35 u36 u37 u38 u39 u40 u41 u42 u43 u44 u45 u46 u47 u48 u49 u50 u51 u52 u53 u54 u55 u56 u57 u58 u59 u60 u61 u62 u63 u64 u65 u66 u67 u68 u69 u70 u71 u72 u73 u74 u75 u76 u77 u78 u79 u80 u81 u82 u83 u84 u85 u86 u87 u88 u89 u90 u91 u92 u93 u94 u95 u96 u97 u98 u99 u100 u101 u102 u103 u104 u105 u106 u107 u108 u109 u110 u111 u112 u113 u114 u115 u116 u117 u118 u119 u120 u121 u122 u123 u124 u125 u126 u127 u128 u129 u130 u131 u132 u133 u134 u135 u136 u137 u138 u139 u143 u144 u145 u146 u147 u148 u149 u150 u151 u152 u153 u154 u155 u156 u157 u158 u159 u160 u161 u162 u163 u164 u165 u166 u167 u168 u169 u170 u171 u172 u173 u174 u175 u176 u177 u178 u179 u180 u181 u182 u183 u184 u185 u186 u187 u188 u189 u190 u191 u192 u193 u194 u195 u196 u197 u198 u199 u200 u201 u202 u203 u204 u205 u206 u207 u208 u209 u210 u211 u212 u213 u214 u215 u216 u217 u218 u219 u220 u221 u222 u223 u224 u225 u226 u227 u228 u229 u230 u231 u232 u233 u234 u235 u236 u237 u238 u239 u240 u241 u242 u243 u244 u245 u246 u247 u248 u249 u250 u251 u252 u253 u254 u255 u256 u257 u258 : Value} {Q : Exit → Act → World → Prop} (w : World) (AL : Option Addr) (nl cl : Nat) (l : List PT) (hl50 : nl ≤ 50) (RL : Hid (∀ W', Below w.heap.size w W' → PTS W' AL nl l)) (HOK : Hid (∀ p ∈ l, POK p)) (hll0 : l.length = nl) (q m R : Nat) (Br : Option Addr) (cr : Nat) (L : List IT) (hq : q ≤ 1) (hm : m = tot l nl - q) (hm5 : m ≤ 131072) (w1 : World) (S1 : Hid (SP w w1 (.own .u8 5 Br m cr ((cat l nl).take m) :: .blk R 68 (rcells R Br m cr 0 false) :: L)))
    (HQ : Hid (∀ (y2 y16 y18 y19 y20 y21 y142 y143 y144 y145 y146 y147 y148 y149 y150 y151 y152 y153 y154 y155 y156 y157 y158 y159 y160 y161 y162 y163 y164 y165 y166 y167 y168 y169 y170 y171 y172 y173 y174 y175 y176 y177 y178 y179 y180 y181 y182 y183 y184 y185 y186 y187 y188 y189 y190 y191 y192 y193 y194 y195 y196 y197 y198 y199 y200 y201 y202 y203 y204 y205 y206 y207 y208 y209 y210 y211 y212 y213 y214 y215 y216 y217 y218 y219 y220 y221 y222 y223 y224 y225 y226 y227 y228 : Value) (p' : Nat) (f : Bool) (w' : World), RST l m nl p' f → SP w w' (.own .u8 5 Br m cr ((cat l nl).take m) :: .blk R 68 (rcells R Br m cr p' f) :: L) → Q (.exit 9) ⟨List.toArray (u0 :: u1 :: y2 :: .int .i64 (tot l nl : Int) :: u4 :: u5 :: u6 :: u7 :: u8 :: u9 :: u10 :: u11 :: u12 :: .int .i64 (q : Int) :: .pointer (some ⟨R, 0, none⟩) :: u15 :: y16 :: u17 :: y18 :: y19 :: y20 :: y21 :: u22 :: u23 :: u24 :: u25 :: u26 :: u27 :: u28 :: u29 :: u30 :: u31 :: u32 :: u33 :: u34 :: u35 :: u36 :: u37 :: u38 :: u39 :: u40 :: u41 :: u42 :: u43 :: u44 :: u45 :: u46 :: u47 :: u48 :: u49 :: u50 :: u51 :: u52 :: u53 :: u54 :: u55 :: u56 :: u57 :: u58 :: u59 :: u60 :: u61 :: u62 :: u63 :: u64 :: u65 :: u66 :: u67 :: u68 :: u69 :: u70 :: u71 :: u72 :: u73 :: u74 :: u75 :: u76 :: u77 :: u78 :: u79 :: u80 :: u81 :: u82 :: u83 :: u84 :: u85 :: u86 :: u87 :: u88 :: u89 :: u90 :: u91 :: u92 :: u93 :: u94 :: u95 :: u96 :: u97 :: u98 :: u99 :: u100 :: u101 :: u102 :: u103 :: u104 :: u105 :: u106 :: u107 :: u108 :: u109 :: u110 :: u111 :: u112 :: u113 :: u114 :: u115 :: u116 :: u117 :: u118 :: u119 :: u120 :: u121 :: u122 :: u123 :: u124 :: u125 :: u126 :: u127 :: u128 :: u129 :: u130 :: u131 :: u132 :: u133 :: u134 :: u135 :: u136 :: u137 :: u138 :: u139 :: .slice AL nl cl :: .int .i64 (nl : Int) :: y142 :: y143 :: y144 :: y145 :: y146 :: y147 :: y148 :: y149 :: y150 :: y151 :: y152 :: y153 :: y154 :: y155 :: y156 :: y157 :: y158 :: y159 :: y160 :: y161 :: y162 :: y163 :: y164 :: y165 :: y166 :: y167 :: y168 :: y169 :: y170 :: y171 :: y172 :: y173 :: y174 :: y175 :: y176 :: y177 :: y178 :: y179 :: y180 :: y181 :: y182 :: y183 :: y184 :: y185 :: y186 :: y187 :: y188 :: y189 :: y190 :: y191 :: y192 :: y193 :: y194 :: y195 :: y196 :: y197 :: y198 :: y199 :: y200 :: y201 :: y202 :: y203 :: y204 :: y205 :: y206 :: y207 :: y208 :: y209 :: y210 :: y211 :: y212 :: y213 :: y214 :: y215 :: y216 :: y217 :: y218 :: y219 :: y220 :: y221 :: y222 :: y223 :: y224 :: y225 :: y226 :: y227 :: y228 :: u229 :: u230 :: u231 :: u232 :: u233 :: u234 :: u235 :: u236 :: u237 :: u238 :: u239 :: u240 :: u241 :: u242 :: u243 :: u244 :: u245 :: u246 :: u247 :: u248 :: u249 :: u250 :: u251 :: u252 :: u253 :: u254 :: u255 :: u256 :: u257 :: u258 :: []), []⟩ w')) :
    Code.wp Try.prog (loopIn Try.f10 42) Q ⟨List.toArray (u0 :: u1 :: u2 :: .int .i64 (tot l nl : Int) :: u4 :: u5 :: u6 :: u7 :: u8 :: u9 :: u10 :: u11 :: u12 :: .int .i64 (q : Int) :: .pointer (some ⟨R, 0, none⟩) :: u15 :: .int .i64 0 :: u17 :: u18 :: u19 :: u20 :: u21 :: u22 :: u23 :: u24 :: u25 :: u26 :: u27 :: u28 :: u29 :: u30 :: u31 :: u32 :: u33 :: u34 :: u35 :: u36 :: u37 :: u38 :: u39 :: u40 :: u41 :: u42 :: u43 :: u44 :: u45 :: u46 :: u47 :: u48 :: u49 :: u50 :: u51 :: u52 :: u53 :: u54 :: u55 :: u56 :: u57 :: u58 :: u59 :: u60 :: u61 :: u62 :: u63 :: u64 :: u65 :: u66 :: u67 :: u68 :: u69 :: u70 :: u71 :: u72 :: u73 :: u74 :: u75 :: u76 :: u77 :: u78 :: u79 :: u80 :: u81 :: u82 :: u83 :: u84 :: u85 :: u86 :: u87 :: u88 :: u89 :: u90 :: u91 :: u92 :: u93 :: u94 :: u95 :: u96 :: u97 :: u98 :: u99 :: u100 :: u101 :: u102 :: u103 :: u104 :: u105 :: u106 :: u107 :: u108 :: u109 :: u110 :: u111 :: u112 :: u113 :: u114 :: u115 :: u116 :: u117 :: u118 :: u119 :: u120 :: u121 :: u122 :: u123 :: u124 :: u125 :: u126 :: u127 :: u128 :: u129 :: u130 :: u131 :: u132 :: u133 :: u134 :: u135 :: u136 :: u137 :: u138 :: u139 :: .slice AL nl cl :: .int .i64 (nl : Int) :: .int .i64 0 :: u143 :: u144 :: u145 :: u146 :: u147 :: u148 :: u149 :: u150 :: u151 :: u152 :: u153 :: u154 :: u155 :: u156 :: u157 :: u158 :: u159 :: u160 :: u161 :: u162 :: u163 :: u164 :: u165 :: u166 :: u167 :: u168 :: u169 :: u170 :: u171 :: u172 :: u173 :: u174 :: u175 :: u176 :: u177 :: u178 :: u179 :: u180 :: u181 :: u182 :: u183 :: u184 :: u185 :: u186 :: u187 :: u188 :: u189 :: u190 :: u191 :: u192 :: u193 :: u194 :: u195 :: u196 :: u197 :: u198 :: u199 :: u200 :: u201 :: u202 :: u203 :: u204 :: u205 :: u206 :: u207 :: u208 :: u209 :: u210 :: u211 :: u212 :: u213 :: u214 :: u215 :: u216 :: u217 :: u218 :: u219 :: u220 :: u221 :: u222 :: u223 :: u224 :: u225 :: u226 :: u227 :: u228 :: u229 :: u230 :: u231 :: u232 :: u233 :: u234 :: u235 :: u236 :: u237 :: u238 :: u239 :: u240 :: u241 :: u242 :: u243 :: u244 :: u245 :: u246 :: u247 :: u248 :: u249 :: u250 :: u251 :: u252 :: u253 :: u254 :: u255 :: u256 :: u257 :: u258 :: []), []⟩ w1 := by
  have HBD := Lib.hid (show BD 255 ((cat l nl).take m) from (cat_bd HOK.out nl).take m)
  have hmt : m ≤ tot l nl := by omega
  have HM := Lib.hid hm
  clear hm
  conv => arg 2; whnf
  go_loopw [142, 16] (fun s142 s16 wr => ∃ (i p' : Nat) (f : Bool), i ≤ nl ∧ s142 = .int .i64 (i : Int) ∧ s16 = .int .i64 (tot l i : Int) ∧ RST l m i p' f ∧ SP w wr (.own .u8 5 Br m cr ((cat l nl).take m) :: .blk R 68 (rcells R Br m cr p' f) :: L)) (fun s142 _ _ => nl - (intOf s142).toNat)
  case atStart => exact ⟨0, 0, false, by omega, rfl, by rw [tot_zero]; rfl, rst_zero l m, S1.out⟩
  case round =>
    obtain ⟨i, p', f, hi, rfl, rfl, hRS, Y0⟩ := hrel
    obtain ⟨wo, rfl⟩ : ∃ wo : World, wo = wr := ⟨_, rfl⟩
    have Y := Lib.hid Y0
    have HRS := Lib.hid hRS
    have hpm' := hRS.1
    clear Y0 S1 hRS
    by_cases hlt : i < nl
    case neg =>
      obtain rfl : i = nl := by omega
      have t1 : ¬ (i : Int) < (i : Int) := by omega
      go_wp2_with fail
      exact HQ.out _ _ _ _ _ _ _ _ _ _ _ _ _ _ _ _ _ _ _ _ _ _ _ _ _ _ _ _ _ _ _ _ _ _ _ _ _ _ _ _ _ _ _ _ _ _ _ _ _ _ _ _ _ _ _ _ _ _ _ _ _ _ _ _ _ _ _ _ _ _ _ _ _ _ _ _ _ _ _ _ _ _ _ _ _ _ _ _ _ _ _ _ _ p' f _ HRS.out Y.out
    have t1 : (i : Int) < (nl : Int) := by omega
    have t0 : (0 : Int) ≤ (i : Int) := by omega
    have hpt := RL.out _ Y.out.bel
    have hll := hpt.1
    obtain ⟨ba, oa, rfl, _, hcells⟩ := hpt.2.1 (by omega)
    obtain ⟨x1, x2, x3⟩ := hcells i hlt
    obtain ⟨p, hp⟩ : ∃ p, l[i]?.getD PT0 = p := ⟨_, rfl⟩
    have hmem : p ∈ l := by rw [← hp, List.getElem?_eq_getElem (by omega)]; exact List.getElem_mem (by omega)
    have HP := Lib.hid hp
    have HK := Lib.hid (HOK.out p hmem)
    have RP := Lib.hid (fun W' (hb : Below w.heap.size w W') => (RL.out W' hb).2.2 p hmem)
    have HZ := Lib.hid (fun q (hq : q ∈ l) => (hpt.2.2 q hq).len)
    have htm := tot_le HZ.out (i + 1) (by omega)
    have hts := tot_succ (l := l) (i := i) (by omega) HZ.out
    rw [hp] at x1 x2 x3 hts
    obtain ⟨s, hs⟩ : ∃ s, psz p.kd p.n = s := ⟨_, rfl⟩
    have HS := Lib.hid hs
    have hs40 : s ≤ 40 := by rw [← hs]; exact psz_le _ _
    rw [hs] at hts
    have hpm := HK.out.2.2.2.2
    have hpnc := HK.out.2.2.2.1
    unfold maxLen at hpm
    have e9 : IntKind.i64.wrap ((i : Int) + 1) = (i : Int) + 1 := IntWalk.i64_in _ (by omega)
    have XB := Lib.hid ((Y.out.alloc' 60 (ptv p) (N := wo.heap.size) rfl).rot)
    clear hpt hcells hp hmem hs
    go_upto_region 44 with fail
    obtain ⟨bx, hbx⟩ : ∃ g, g = wo.heap.size := ⟨_, rfl⟩
    rw [← hbx] at XB ⊢
    unfold ptv at XB
    generalize wo.alloc (.cells #[.int .u8 p.kd, .int .u32 p.N, .slice p.A p.n p.c] 60) = v0 at XB ⊢
    replace XB := Lib.hid (show SP w v0 (.blk bx 60 (ptv p) :: .own .u8 5 Br m cr ((cat l nl).take m) :: .blk R 68 (rcells R Br m cr p' f) :: L) from XB.out)
    clear hbx Y x1 x2 x3
    have htT : tot l (i + 1) ≤ tot l nl := tot_mono (by omega)
    have htT2 := tot_le HZ.out nl (by omega)
    have e1 : IntKind.i64.wrap ((tot l i : Int) + (s : Int)) = (tot l i : Int) + (s : Int) := IntWalk.i64_in _ (by omega)
    have e2 : IntKind.i64.wrap ((tot l nl : Int) - (q : Int)) = (tot l nl : Int) - (q : Int) := IntWalk.i64_in _ (by omega)
    have HC := Lib.hid (show (decide (tot l (i + 1) ≤ m) = true ∧ (tot l i : Int) + (s : Int) ≤ (tot l nl : Int) - (q : Int) ∧ f = false) ∨ (decide (tot l (i + 1) ≤ m) = true ∧ ¬ (tot l i : Int) + (s : Int) ≤ (tot l nl : Int) - (q : Int) ∧ s = 0 ∧ f = false) ∨
        (decide (tot l (i + 1) ≤ m) = false ∧ ¬ (tot l i : Int) + (s : Int) ≤ (tot l nl : Int) - (q : Int) ∧ ((s : Int) == 0) = false) ∨ (decide (tot l (i + 1) ≤ m) = false ∧ ¬ (tot l i : Int) + (s : Int) ≤ (tot l nl : Int) - (q : Int) ∧ s = 0 ∧ f = true) from by
      have hm := HM.out
      by_cases h1 : tot l (i + 1) ≤ m
      · have hf := rst_old HRS.out h1
        by_cases h2 : (tot l i : Int) + (s : Int) ≤ (tot l nl : Int) - (q : Int)
        · exact .inl ⟨by simpa using h1, h2, hf⟩
        · exact .inr (.inl ⟨by simpa using h1, h2, by omega, hf⟩)
      · have h2 : ¬ (tot l i : Int) + (s : Int) ≤ (tot l nl : Int) - (q : Int) := by omega
        by_cases h3 : s = 0
        · exact .inr (.inr (.inr ⟨by simpa using h1, h2, h3, rst_new HRS.out (by omega)⟩))
        · exact .inr (.inr (.inl ⟨by simpa using h1, h2, by simp; omega⟩)))
    have HTS := Lib.hid (And.intro hts (And.intro htm (And.intro htT htT2)))
    clear hts htm htT htT2
    go_cut [19] from 143 to 228 (fun s19 wx => s19 = .bool (decide (tot l (i + 1) ≤ m)) ∧ SP w wx (.blk bx 60 (ptv p) :: .own .u8 5 Br m cr ((cat l nl).take m) :: .blk R 68 (rcells R Br m cr p' f) :: L))
    case first =>
      rcases HC.out with ⟨h1, h2, _⟩ | ⟨h1, h2, rfl, rfl⟩ | ⟨h1, h2, h3⟩ | ⟨h1, h2, rfl, rfl⟩
      · refine back44a w R bx Br m cr p' (tot l i) (tot l nl) q s f p (.blk bx 60 (ptv p) :: .own .u8 5 Br m cr ((cat l nl).take m) :: .blk R 68 (rcells R Br m cr p' f) :: L) _ HK.out HS.out (by have := HTS.out; omega) (by have := HTS.out; omega) hq rfl rfl h2 XB (Lib.hid ?_)
        intro _ _ _ _ _ _ _ _ _ _ _ _ _ _ _ _ _ _ v1 hS
        try simp only [Exit.then]
        go_wp2_with fail
        go_meet
        exact ⟨by rw [h1], hS⟩
      · refine back44b w R bx Br m cr p' (tot l i) (tot l nl) q  p (.blk bx 60 (ptv p) :: .own .u8 5 Br m cr ((cat l nl).take m) :: .blk R 68 (rcells R Br m cr p' false) :: L) _ HK.out HS.out (by have := HTS.out; omega) (by have := HTS.out; omega) hq rfl rfl (by omega) XB (Lib.hid ?_)
        intro _ _ _ _ _ _ _ _ _ _ _ _ _ _ _ _ _ _ v1 hS
        try simp only [Exit.then]
        go_wp2_with fail
        go_meet
        exact ⟨by rw [h1], hS⟩
      · refine back44c w R bx Br m cr p' (tot l i) (tot l nl) q s f p (.blk bx 60 (ptv p) :: .own .u8 5 Br m cr ((cat l nl).take m) :: .blk R 68 (rcells R Br m cr p' f) :: L) _ HK.out HS.out (by have := HTS.out; omega) (by have := HTS.out; omega) hq rfl rfl h2 h3 XB (Lib.hid ?_)
        intro _ _ _ _ _ _ _ _ _ _ _ _ _ _ _ _ _ _ v1 hS
        try simp only [Exit.then]
        go_wp2_with fail
        go_meet
        exact ⟨by rw [h1], hS⟩
      · refine back44d w R bx Br m cr p' (tot l i) (tot l nl) q  p (.blk bx 60 (ptv p) :: .own .u8 5 Br m cr ((cat l nl).take m) :: .blk R 68 (rcells R Br m cr p' true) :: L) _ HK.out HS.out (by have := HTS.out; omega) (by have := HTS.out; omega) hq rfl rfl (by omega) XB (Lib.hid ?_)
        intro _ _ _ _ _ _ _ _ _ _ _ _ _ _ _ _ _ _ v1 hS
        try simp only [Exit.then]
        go_wp2_with fail
        go_meet
        exact ⟨by rw [h1], hS⟩
    case rest =>
    obtain ⟨rfl, hX⟩ := hcut
    have XB := Lib.hid hX
    clear hX HC
    go_wp2_with fail
    refine (rFailed_any XB.out (i := 2) rfl).mono ?_
    rintro e v1 ⟨rfl, hS⟩
    replace XB := Lib.hid hS
    clear hS
    go_upto_region 47 with fail
    have z0 : v1.cell? ⟨bx, 0, none⟩ = some (.int .u8 p.kd) := XB.out.cell 0 rfl 0 rfl
    obtain ⟨r, hr, hr3⟩ : ∃ r : Nat, p.kd % 4 = (r : Int) ∧ r < 4 := ⟨(p.kd % 4).toNat, by omega, by omega⟩
    have er : p.kd.tmod 4 = (r : Int) := by rw [Int.tmod_eq_emod_of_nonneg HK.out.1.1]; exact hr
    have er2 : IntKind.u8.wrap (r : Int) = (r : Int) := u8_in _ (by omega) (by omega)
    go_cut [168] from 143 to 228 (fun sT wx => sT = .int .u8 (r : Int) ∧ wx = v1)
    case first =>
      go_wp2_with fail
      go_meet
      exact ⟨rfl, rfl⟩
    case rest =>
    obtain ⟨rfl, hwc⟩ := hcut
    rw [hwc]
    clear hwc wc z0 er er2
    have HR := Lib.hid hr
    clear hr
    go_step
    go_cut [21] from 143 to 228 (fun s21 wx => ∃ (sm : Bool) (p2 : Nat) (f2 : Bool), s21 = .bool sm ∧ RST l m (i + 1) p2 f2 ∧ (tot l (i + 1) ≤ m → sm = true) ∧ SP w wx (.blk bx 60 (ptv p) :: .own .u8 5 Br m cr ((cat l nl).take m) :: .blk R 68 (rcells R Br m cr p2 f2) :: L))
    case first =>
      rcases (show r = 0 ∨ r = 1 ∨ r = 2 ∨ r = 3 by omega) with rfl | rfl | rfl | rfl
      · have hr := HR.out
        have HSZ := Lib.hid (show s = 1 by rw [← HS.out]; unfold psz; rw [if_pos (by omega)])
        have HPB := Lib.hid (show pB (l[i]?.getD PT0) = [IntKind.u8.wrap p.N] by rw [HP.out]; unfold pB; rw [if_pos (by omega)])
        go_upto_region 50 with fail
        refine back50 w R bx Br m cr p' ((cat l nl).take m) f p (.blk bx 60 (ptv p) :: .own .u8 5 Br m cr ((cat l nl).take m) :: .blk R 68 (rcells R Br m cr p' f) :: L) _ rfl rfl rfl hpm' hm5 HBD.out XB (Lib.hid ?_)
        intro _ _ _ _ _ _ v1 hS
        go_wp2_with fail
        go_meet
        refine ⟨_, _, _, rfl, by have := rst_step (s := 1) HRS.out (by omega) HZ.out (by rw [HP.out, HS.out, HSZ.out]); exact this, fun ht => ?_, hS⟩
        have hrd := rst_read HRS.out hlt (by omega) HZ.out (s := 1) (by rw [HP.out, HS.out, HSZ.out]) ht hmt
        rw [HPB.out] at hrd
        rw [show ((1 : Nat) : Int) = 1 from rfl] at hrd
        rw [hrd, num8]
        simp
      · have hr := HR.out
        have HSZ := Lib.hid (show s = 2 by rw [← HS.out]; unfold psz; rw [if_neg (by omega)]; rw [if_pos (by omega)])
        have HPB := Lib.hid (show pB (l[i]?.getD PT0) = by16 (IntKind.u16.wrap p.N) by rw [HP.out]; unfold pB; rw [if_neg (by omega)]; rw [if_pos (by omega)])
        go_upto_region 52 with fail
        refine back52 w R bx Br m cr p' ((cat l nl).take m) f p (.blk bx 60 (ptv p) :: .own .u8 5 Br m cr ((cat l nl).take m) :: .blk R 68 (rcells R Br m cr p' f) :: L) _ rfl rfl rfl hpm' hm5 HBD.out XB (Lib.hid ?_)
        intro _ _ _ _ _ _ v1 hS
        go_wp2_with fail
        go_meet
        refine ⟨_, _, _, rfl, by have := rst_step (s := 2) HRS.out (by omega) HZ.out (by rw [HP.out, HS.out, HSZ.out]); exact this, fun ht => ?_, hS⟩
        have hrd := rst_read HRS.out hlt (by omega) HZ.out (s := 2) (by rw [HP.out, HS.out, HSZ.out]) ht hmt
        rw [HPB.out] at hrd
        rw [show ((2 : Nat) : Int) = 2 from rfl] at hrd
        rw [hrd, num16]
        simp
      · have hr := HR.out
        have HSZ := Lib.hid (show s = 4 by rw [← HS.out]; unfold psz; rw [if_neg (by omega)]; rw [if_neg (by omega)]; rw [if_pos (by omega)])
        have HPB := Lib.hid (show pB (l[i]?.getD PT0) = by32 p.N by rw [HP.out]; unfold pB; rw [if_neg (by omega)]; rw [if_neg (by omega)]; rw [if_pos (by omega)])
        go_upto_region 54 with fail
        refine back54 w R bx Br m cr p' ((cat l nl).take m) f p (.blk bx 60 (ptv p) :: .own .u8 5 Br m cr ((cat l nl).take m) :: .blk R 68 (rcells R Br m cr p' f) :: L) _ rfl rfl rfl hpm' hm5 HBD.out XB (Lib.hid ?_)
        intro _ _ _ _ _ v1 hS
        go_wp2_with fail
        go_meet
        refine ⟨_, _, _, rfl, by have := rst_step (s := 4) HRS.out (by omega) HZ.out (by rw [HP.out, HS.out, HSZ.out]); exact this, fun ht => ?_, hS⟩
        have hrd := rst_read HRS.out hlt (by omega) HZ.out (s := 4) (by rw [HP.out, HS.out, HSZ.out]) ht hmt
        rw [HPB.out] at hrd
        rw [show ((4 : Nat) : Int) = 4 from rfl] at hrd
        rw [hrd, num32]
        simp
      · have hr := HR.out
        have hk3 : s = min p.n 40 := by rw [← HS.out]; unfold psz; rw [if_neg (by omega), if_neg (by omega), if_neg (by omega)]
        have HPB := Lib.hid (show pB (l[i]?.getD PT0) = p.zs.take s by rw [HP.out, hk3]; unfold pB; rw [if_neg (by omega), if_neg (by omega), if_neg (by omega)])
        go_upto_region 48 with fail
        refine back48 w R bx Br m cr p' ((cat l nl).take m) f p s (.blk bx 60 (ptv p) :: .own .u8 5 Br m cr ((cat l nl).take m) :: .blk R 68 (rcells R Br m cr p' f) :: L) _ rfl rfl rfl hpm' hm5 HK.out HS.out (by omega) hs40 RP XB (Lib.hid ?_)
        intro _ _ _ _ _ _ _ _ _ _ v1 hS
        go_wp2_with fail
        go_meet
        refine ⟨_, _, _, rfl, by have := rst_step (s := s) HRS.out (by omega) HZ.out (by rw [HP.out, HS.out]); exact this, fun ht => ?_, hS⟩
        have hrd := rst_read HRS.out hlt (by omega) HZ.out (s := s) (by rw [HP.out, HS.out]) ht hmt
        rw [HPB.out] at hrd
        rw [hrd]
        simp
    case rest =>
    obtain ⟨sm, p2, f2, rfl, hRS2, hsm, hX⟩ := hcut
    have Z := Lib.hid hX
    have HRS2 := Lib.hid hRS2
    have HSM := Lib.hid hsm
    clear hX hRS2 hsm XB
    go_upto_region 55 with fail
    go_cut [19, 223] from 143 to 228 (fun s19 s223 wx => s19 = .bool (decide (tot l (i + 1) ≤ m)) ∧ s223 = .bool false ∧ SP w wx (.blk bx 60 (ptv p) :: .own .u8 5 Br m cr ((cat l nl).take m) :: .blk R 68 (rcells R Br m cr p2 f2) :: L))
    case first =>
      by_cases h1 : tot l (i + 1) ≤ m
      · obtain rfl := rst_old HRS.out h1
        obtain ⟨rfl, h2⟩ := rst_ok HRS2.out h1
        obtain rfl := HSM.out h1
        have hd : decide (tot l (i + 1) ≤ m) = true := by simpa using h1
        rw [hd]
        refine back55a w R Br m cr p2 (.blk bx 60 (ptv p) :: .own .u8 5 Br m cr ((cat l nl).take m) :: .blk R 68 (rcells R Br m cr p2 false) :: L) _ rfl Z (Lib.hid ?_)
        intro _ _ _ _ _ _ _ _ _ _ _ _ _ _ _ _ _ _ _ _ _ v2 hS
        go_wp2_with fail
        go_meet
        exact ⟨by rw [hd], rfl, hS⟩
      · obtain rfl := rst_new HRS2.out h1
        have hd : decide (tot l (i + 1) ≤ m) = false := by simpa using h1
        rw [hd]
        refine back55b w R Br m cr p2 f sm (.blk bx 60 (ptv p) :: .own .u8 5 Br m cr ((cat l nl).take m) :: .blk R 68 (rcells R Br m cr p2 true) :: L) _ rfl Z (Lib.hid ?_)
        intro _ _ _ _ _ _ _ _ _ _ _ _ _ _ _ _ _ _ _ _ _ v2 hS
        go_wp2_with fail
        go_meet
        exact ⟨by rw [hd], rfl, hS⟩
    case rest =>
    obtain ⟨rfl, rfl, hX⟩ := hcut
    replace Z := Lib.hid hX
    clear hX
    have e3 : IntKind.i64.wrap ((tot l i : Int) + (s : Int)) = (tot l (i + 1) : Int) := by rw [e1]; have := HTS.out.1; omega
    clear e1 e2
    go_wp2_with (refine wpList_load_row rfl 60 _ rfl bx rfl 60 (ptv p) (0, 0) _ (Z.out.blk 0 rfl) Try.underlying60 rfl (by kernel_rfl) ?_)
    refine (psize_any p _ HK.out.1 (by omega)).mono ?_
    rw [HS.out]
    rintro e v1 ⟨rfl, hb⟩
    have X1 := Lib.hid (Z.out.next hb)
    clear hb Z
    go_wp2_with fail
    go_roundw
    case rel => exact ⟨i + 1, p2, f2, by omega, by go_num, rfl, HRS2.out, X1.out.tail⟩
    case measure => simp [intOf]; omega
end Go.Proofs.Ytcipgkpcaecjdaa
