import Derived.WalkKit
import Derived.Lib.Hide
import Derived.Below
import Derived.Laws.OwnMore
import Derived.Deep.AppendLies
import Derived.Deep.Draws
import Derived.Maps.AppendAt
import Derived.OwnWalk
import Derived.RegionTactic
import Derived.Laws.Rows
import Derived.Laws.Tables
import Derived.Deep.RegionHeld3
import Derived.Deep.DrawnRows
import Derived.BigFrame
import Derived.ProofKit
import Derived.OpenShut
import Derived.RangeFuncNested
import Derived.RangeFuncBound
import Derived.RangeFuncCalls
import Derived.RangeFuncLeaves
import Derived.Shelf.Abstract
import Derived.Shelf.RegionOpen
import Derived.OwnWalkIn
import Derived.TacticsInMore
import Derived.LoopNIn
import Derived.LoopIn
import Derived.WalkSpells
import Derived.Deep.QuietTactic
import Derived.BigQuiet
import Derived.Deep.DeepCutAuto
import Derived.Deep.MidRow
import Derived.Laws.BitsLemmas
import Derived.Laws.BitsAllLaws
import Derived.Outline
import Derived.Laws.CopyOwn
import Derived.Deep.RegionLaw
import Derived.Laws.MakeOwn
import Derived.Maps.Keyed
import Derived.DeepKeys3
import Derived.DeepKeys4
import Derived.Laws.ResultCell
import Derived.Laws.EntriesVeiled
import Derived.BigRegion
import Derived.Lib.SliceRun
import Derived.LaidEql
import Derived.Maps.OwnIn
import Derived.Test.YtljbfnabnkkfeaaProg
import Derived.Test.YtljbfnabnkkfeaaTL01
import Derived.Test.YtljbfnabnkkfeaaTL02
import Derived.Test.YtljbfnabnkkfeaaTL03
import Derived.Test.YtljbfnabnkkfeaaTL04
import Derived.Test.YtljbfnabnkkfeaaTL05
import Derived.Test.YtljbfnabnkkfeaaTL06
import Derived.Test.YtljbfnabnkkfeaaTL07
import Derived.Test.YtljbfnabnkkfeaaTL08
import Derived.Test.YtljbfnabnkkfeaaTL09
import Derived.Test.YtljbfnabnkkfeaaTL10
import Derived.Test.YtljbfnabnkkfeaaTL11
import Derived.Test.YtljbfnabnkkfeaaTL12
import Derived.Test.YtljbfnabnkkfeaaTL13
import Derived.Test.YtljbfnabnkkfeaaTL14
import Derived.Test.YtljbfnabnkkfeaaTL15
import Derived.Test.YtljbfnabnkkfeaaTL16
import Derived.Test.YtljbfnabnkkfeaaTL17
import Derived.Test.YtljbfnabnkkfeaaTL22
/- Joined by program: FgYI. -/
namespace Go.Proofs.Ytljbfnabnkkfeaa
open Go.RowKit
set_option linter.unusedVariables false
set_option linter.unusedSimpArgs false
set_option maxHeartbeats 4000000 in
set_option maxRecDepth 100000 in
theorem r7put_45 {u0 u1 u2 u4 u5 u7 u8 u9 u10 u11 u12 u14 u15 u17 u18 u19 u20 u21 u22 u23 u24 u25 u26 u27 u28 u29 u30 u31 u32 u33 u34 u35 u36 u37 u38 u39 u40 u41 u42 u43 u44 u45 u46 u47 u48 u49 u50 u51 u52 u53 u54 u55 u56 u57 u58 u59 u60 u61 u62 u63 u64 u65 u66 u67 u68 u69 u70 u71 u72 u73 u74 u75 u76 u77 u78 u79 u80 u81 u82 u83 u84 u85 u86 u87 u88 u89 u90 u91 u92 u93 u94 u95 u96 u97 u98 u99 u100 u101 u102 u103 u104 u105 u106 u107 u108 u109 u110 u111 u112 u113 u114 u115 u116 u117 u118 u119 u120 u121 u122 u123 u124 u125 u126 u127 u128 u129 u130 u131 u132 u133 u134 u135 u136 u137 u138 u139 u140 u141 u142 u143 u144 u145 u146 u147 u148 u149 u150 u151 u152 u153 u154 u155 u156 u157 u158 u159 u160 u161 u162 u163 u164 u165 u166 u167 u168 u169 u170 u171 u172 u173 u174 u175 u176 u177 u178 u179 u180 u181 u182 u183 u184 u185 u186 u187 u188 u189 u190 u191 u192 u193 u194 u195 u196 u197 u198 u199 u200 u201 u202 u203 u204 u205 u206 u207 u208 u209 u210 u211 u212 u213 u214 u215 u216 u217 u218 u219 u220 u221 u222 u223 u224 u225 u226 u227 u228 u229 u230 u231 u232 u233 u234 u235 u236 u237 u238 u239 u240 u241 u242 u243 u244 u245 u246 u247 u248 u249 u250 u251 u252 u253 u254 u255 u256 u257 u258 u259 u260 u261 u262 u263 u264 u265 u266 u267 u268 u269 u270 u271 u272 u273 u274 u275 u276 u277 : Value} (w : World) (a : AT) (r : RT) (now : Int) (zs : List Int) (K : Nat) (A : Option Addr) (n : Nat) (l : List EM) (k : Nat) (A3 : Option Addr) (n3 c3 : Nat) (l3 : List EM) (RQ : List IT) (x xm : EM) (gs : List AG) (ag : AG) (lm lf : Int) (TB RB HB XB : Nat) (HC : Array Value)
    (HA : Hid (ADDF w a r now zs K A n l k A3 n3 c3 l3 RQ x xm gs ag lm lf)) (SZ : Nat) (sp fu dd : Bool) (hsz : Hid (sizeF (x.e.fs ++ [frOf zs]) = SZ)) (hsp : Hid (decide (¬ GOODF (x.e.fs ++ [frOf zs])) = sp)) (hfu : Hid ((!sp && decide ((totF (x.e.fs ++ [frOf zs])).1 = (SZ : Int))) = fu))
    (hdd : Hid ((dd = true → fu = true ∧ addA gs k (frOf zs) = (gs.set k (deadG ag), [], 71) ∧ RELS (gs.set k (deadG ag)) ((l3.map EM.e).set k (deadE x.e))) ∧ (dd = false → fu = false))) (w1 : World) (X1 : Hid (SP w w1 ([.blk XB 154 #[.int .u32 x.e.src, .int .u32 x.e.dst, .int .u8 x.e.proto, .int .u16 x.e.id, .int .i64 x.e.begin_, .int .i64 (SZ : Int), .bool dd, .slice xm.fA xm.fn xm.fc], .blk TB 109 #[.int .i64 lm, .int .i64 lf, .int .i64 now, .slice A3 n3 c3], .blk RB 109 #[.int .i64 0, .int .i64 0, .int .i64 0, .slice none 0 0], .blk HB 129 HC] ++ RQ))) :
    Code.wp Try.prog (sufAt Try.f62 45) (bodyPost Try.prog Try.f62 (PUTE a now zs K A n l w)) ⟨List.toArray (u0 :: u1 :: u2 :: .pointer (some ⟨TB, 0, none⟩) :: u4 :: u5 :: .pointer (some ⟨RB, 0, none⟩) :: u7 :: u8 :: u9 :: u10 :: u11 :: u12 :: .int .i64 (k : Int) :: u14 :: u15 :: .pointer (some ⟨XB, 0, none⟩) :: u17 :: u18 :: u19 :: u20 :: u21 :: u22 :: u23 :: u24 :: u25 :: u26 :: u27 :: u28 :: u29 :: u30 :: u31 :: u32 :: u33 :: u34 :: u35 :: u36 :: u37 :: u38 :: u39 :: u40 :: u41 :: u42 :: u43 :: u44 :: u45 :: u46 :: u47 :: u48 :: u49 :: u50 :: u51 :: u52 :: u53 :: u54 :: u55 :: u56 :: u57 :: u58 :: u59 :: u60 :: u61 :: u62 :: u63 :: u64 :: u65 :: u66 :: u67 :: u68 :: u69 :: u70 :: u71 :: u72 :: u73 :: u74 :: u75 :: u76 :: u77 :: u78 :: u79 :: u80 :: u81 :: u82 :: u83 :: u84 :: u85 :: u86 :: u87 :: u88 :: u89 :: u90 :: u91 :: u92 :: u93 :: u94 :: u95 :: u96 :: u97 :: u98 :: u99 :: u100 :: u101 :: u102 :: u103 :: u104 :: u105 :: u106 :: u107 :: u108 :: u109 :: u110 :: u111 :: u112 :: u113 :: u114 :: u115 :: u116 :: u117 :: u118 :: u119 :: u120 :: u121 :: u122 :: u123 :: u124 :: u125 :: u126 :: u127 :: u128 :: u129 :: u130 :: u131 :: u132 :: u133 :: u134 :: u135 :: u136 :: u137 :: u138 :: u139 :: u140 :: u141 :: u142 :: u143 :: u144 :: u145 :: u146 :: u147 :: u148 :: u149 :: u150 :: u151 :: u152 :: u153 :: u154 :: u155 :: u156 :: u157 :: u158 :: u159 :: u160 :: u161 :: u162 :: u163 :: u164 :: u165 :: u166 :: u167 :: u168 :: u169 :: u170 :: u171 :: u172 :: u173 :: u174 :: u175 :: u176 :: u177 :: u178 :: u179 :: u180 :: u181 :: u182 :: u183 :: u184 :: u185 :: u186 :: u187 :: u188 :: u189 :: u190 :: u191 :: u192 :: u193 :: u194 :: u195 :: u196 :: u197 :: u198 :: u199 :: u200 :: u201 :: u202 :: u203 :: u204 :: u205 :: u206 :: u207 :: u208 :: u209 :: u210 :: u211 :: u212 :: u213 :: u214 :: u215 :: u216 :: u217 :: u218 :: u219 :: u220 :: u221 :: u222 :: u223 :: u224 :: u225 :: u226 :: u227 :: u228 :: u229 :: u230 :: u231 :: u232 :: u233 :: u234 :: u235 :: u236 :: u237 :: u238 :: u239 :: u240 :: u241 :: u242 :: u243 :: u244 :: u245 :: u246 :: u247 :: u248 :: u249 :: u250 :: u251 :: u252 :: u253 :: u254 :: u255 :: u256 :: u257 :: u258 :: u259 :: u260 :: u261 :: u262 :: u263 :: u264 :: u265 :: u266 :: u267 :: u268 :: u269 :: u270 :: u271 :: u272 :: u273 :: u274 :: u275 :: u276 :: u277 :: []), []⟩ w1 := by
  conv => arg 2; whnf
  have hk := HA.out.hk
  have hm3 := HA.out.hm
  have hcap := HA.out.cap
  have hnK := HA.out.hn
  have hKK := HA.out.hK
  have hxfn := HA.out.xfn
  obtain ⟨FL, hFL⟩ : ∃ v, x.e.fs ++ [frOf zs] = v := ⟨_, rfl⟩
  have HFL := Lib.hid hFL
  rw [hFL] at hsz hsp hfu
  clear hFL
  have HSP := Lib.hid (show ∀ W, SP w W RQ → Calls Try.prog 83 #[.slice xm.fA xm.fn xm.fc] W (fun e w' => e = .returned (.bool sp) ∧ ∃ m, w' = W.drewN m) from fun W h => by
    have h2 := r7spoilt_any xm.fA xm.fn xm.fc xm.fs W (HA.out.frow W h) (by omega)
    rw [HA.out.xfs, HFL.out, hsp.out] at h2
    exact h2)
  obtain ⟨sd, hsd⟩ : ∃ b, (sp || dd) = b := ⟨_, rfl⟩
  have HSD := Lib.hid hsd
  clear hsd
  go_upto_region 45 with fail
  go_cut [251] (fun s251 wx => s251 = .bool sd ∧ SP w wx ([.blk XB 154 #[.int .u32 x.e.src, .int .u32 x.e.dst, .int .u8 x.e.proto, .int .u16 x.e.id, .int .i64 x.e.begin_, .int .i64 (SZ : Int), .bool dd, .slice xm.fA xm.fn xm.fc], .blk TB 109 #[.int .i64 lm, .int .i64 lf, .int .i64 now, .slice A3 n3 c3], .blk RB 109 #[.int .i64 0, .int .i64 0, .int .i64 0, .slice none 0 0], .blk HB 129 HC] ++ RQ))
  case first =>
    have x7 : w1.cell? ⟨XB, 7, none⟩ = some (.slice xm.fA xm.fn xm.fc) := X1.out.cell 0 rfl 7 rfl
    have x6 : w1.cell? ⟨XB, 6, none⟩ = some (.bool dd) := X1.out.cell 0 rfl 6 rfl
    go_wp2_with fail
    refine (HSP.out _ X1.out.right).mono ?_
    rintro e wa ⟨rfl, m3, rfl⟩
    have X2 := Lib.hid (X1.out.drewN m3)
    cases sp
    · go_wp2_with fail
      go_meet
      exact ⟨by rw [← HSD.out]; rfl, X2.out⟩
    · go_wp2_with fail
      go_meet
      exact ⟨by rw [← HSD.out]; rfl, X2.out⟩
  case rest =>
  obtain ⟨rfl, hX⟩ := hcut
  have X3 := Lib.hid hX
  clear hX X1 HSP
  cases sd
  case true =>
    have q6 : wc.frozen? ⟨XB, 6, none⟩ = false := X3.out.free 0 rfl 6
    have q5 : wc.frozen? ⟨XB, 5, none⟩ = false := X3.out.free 0 rfl 5
    have q7 : wc.frozen? ⟨XB, 7, none⟩ = false := X3.out.free 0 rfl 7
    have x6 : wc.cell? ⟨XB, 6, none⟩ = some (.bool dd) := X3.out.cell 0 rfl 6 rfl
    have x5 : wc.cell? ⟨XB, 5, none⟩ = some (.int .i64 (SZ : Int)) := X3.out.cell 0 rfl 5 rfl
    have x7 : wc.cell? ⟨XB, 7, none⟩ = some (.slice xm.fA xm.fn xm.fc) := X3.out.cell 0 rfl 7 rfl
    have X4 := Lib.hid (((X3.out.setB 0 rfl 6 (.bool true)).setB 0 rfl 5 (.int .i64 0)).setB 0 rfl 7 (.slice none 0 0))
    go_upto_region 47 with fail
    have X5 := Lib.hid (show SP w (((wc.setCell ⟨XB, 6, none⟩ (.bool true)).setCell ⟨XB, 5, none⟩ (.int .i64 0)).setCell ⟨XB, 7, none⟩ (.slice none 0 0)) ([.blk XB 154 #[.int .u32 (deadE x.e).src, .int .u32 (deadE x.e).dst, .int .u8 (deadE x.e).proto, .int .u16 (deadE x.e).id, .int .i64 (deadE x.e).begin_, .int .i64 ((deadE x.e).bytes : Int), .bool (deadE x.e).dead, .slice none 0 0], .blk TB 109 #[.int .i64 lm, .int .i64 lf, .int .i64 now, .slice A3 n3 c3], .blk RB 109 #[.int .i64 0, .int .i64 0, .int .i64 0, .slice none 0 0], .blk HB 129 HC] ++ RQ) from X4.out)
    generalize ((wc.setCell ⟨XB, 6, none⟩ (.bool true)).setCell ⟨XB, 5, none⟩ (.int .i64 0)).setCell ⟨XB, 7, none⟩ (.slice none 0 0) = wd at X5 ⊢
    clear X3 X4 q5 q6 q7 x5 x6 x7
    have Z1 := Lib.hid (show SP w _ ([.blk TB 109 #[.int .i64 lm, .int .i64 lf, .int .i64 now, .slice A3 n3 c3], .blk XB 154 #[.int .u32 (deadE x.e).src, .int .u32 (deadE x.e).dst, .int .u8 (deadE x.e).proto, .int .u16 (deadE x.e).id, .int .i64 (deadE x.e).begin_, .int .i64 ((deadE x.e).bytes : Int), .bool (deadE x.e).dead, .slice none 0 0]] ++ ([.blk RB 109 #[.int .i64 0, .int .i64 0, .int .i64 0, .slice none 0 0], .blk HB 129 HC] ++ RQ)) from SP.pickT (A := [_, _, _, _]) (B := [_, _, _, _]) (C := RQ) X5.out [1, 0, 2, 3] rfl (by decide))
    refine wp_region_noPanic ?_
    refine wp_region_held_drew (S := r7zS w TB XB lm lf now A3 n3 c3 l3 k ((deadE x.e)) none 0 0 ([.blk RB 109 #[.int .i64 0, .int .i64 0, .int .i64 0, .slice none 0 0], .blk HB 129 HC] ++ RQ)) (by kernel_rfl) (Z1.out.drew.blk 1 rfl) (fun hHeld => ?_)
    clear hHeld
    refine r7z_0 (Lib.hid ⟨fun W h => HA.out.er W h.right, by omega, hcap, hk⟩) (Lib.hid ?_) _ (Lib.hid Z1.out.drew)
    intro y257 y258 y259 y260 y261 y262 y263 y264 y265 y266 y267 y268 y269 y270 y271 y272 g257 A262 c262 g264 A265 c265 A271 c271 w12 hX12
    have Z2 := Lib.hid (SP.pickT (A := [_, _, _, _, _]) (B := [.blk TB 109 #[.int .i64 lm, .int .i64 lf, .int .i64 now, .slice A271 (k + 1 + (n3 - (k + 1))) c271], .blk RB 109 #[.int .i64 0, .int .i64 0, .int .i64 0, .slice none 0 0], .row 154 8 A271 (k + 1 + (n3 - (k + 1))) c271 _, .blk XB 154 #[.int .u32 (deadE x.e).src, .int .u32 (deadE x.e).dst, .int .u8 (deadE x.e).proto, .int .u16 (deadE x.e).id, .int .i64 (deadE x.e).begin_, .int .i64 ((deadE x.e).bytes : Int), .bool (deadE x.e).dead, .slice none 0 0]]) (C := RQ) (show SP w w12 ([_, _, _, _, _] ++ RQ) from SP.pickT (A := [_, _, _, _, _]) (B := [_, _, _, _, _]) (C := RQ) hX12 [0, 1, 2, 3, 4] rfl (by decide)) [0, 3, 2, 1] rfl (by decide))
    clear hX12 Z1 X5
    have z6 : w12.cell? ⟨XB, 6, none⟩ = some (.bool true) := Z2.out.cell 3 rfl 6 rfl
    go_wp2_with (first
      | (refine wpList_load_row rfl 109 _ rfl TB rfl 109 #[.int .i64 lm, .int .i64 lf, .int .i64 now, .slice A271 (k + 1 + (n3 - (k + 1))) c271] (0, 0) _ (Z2.out.blk 0 rfl) Try.underlying109 rfl (by kernel_rfl) ?_)
      | (refine wpList_store_row rfl 109 _ _ rfl RB #[.int .i64 lm, .int .i64 lf, .int .i64 now, .slice A271 (k + 1 + (n3 - (k + 1))) c271] rfl rfl 109 #[.int .i64 0, .int .i64 0, .int .i64 0, .slice none 0 0] (Z2.out.blk 1 rfl) (by kernel_rfl) rfl (by simp [Value.oneCell']) ?_))
    have Z3 := Lib.hid (Z2.out.setR 1 rfl #[.int .i64 lm, .int .i64 lf, .int .i64 now, .slice A271 (k + 1 + (n3 - (k + 1))) c271])
    refine bodyPost_ret (results_cell_tmp27 rfl _ _ RB 109 _ (0, 0) _ rfl (Z3.out.blk 1 rfl) Try.underlying109 rfl (by kernel_rfl)) rfl ?_
    have hRQ := (show SP w _ (([_, _, _, _] : List IT) ++ RQ) from Z3.out).right
    have hrow := Z3.out.row 2 rfl
    have hcells : (l3.take k).flatMap EM.cells ++ [.int .u32 (deadE x.e).src, .int .u32 (deadE x.e).dst, .int .u8 (deadE x.e).proto, .int .u16 (deadE x.e).id, .int .i64 (deadE x.e).begin_, .int .i64 ((deadE x.e).bytes : Int), .bool (deadE x.e).dead, .slice none 0 0] ++ (l3.drop (k + 1)).flatMap EM.cells = (l3.take k ++ [x.dead] ++ l3.drop (k + 1)).flatMap EM.cells := by
      rw [List.flatMap_append, List.flatMap_append]
      congr 2
    rw [hcells] at hrow
    have hes := ems_set (l := l3) (k := k) (by rw [HA.out.len]; exact hk) (x.dead)
    have hlen : (l3.take k ++ [x.dead] ++ l3.drop (k + 1)).length = k + 1 + (n3 - (k + 1)) := by
      rw [List.length_append, List.length_append, List.length_take, List.length_drop, HA.out.len]
      simp only [List.length_cons, List.length_nil]
      omega
    have hok : ∀ y ∈ l3.take k ++ [x.dead] ++ l3.drop (k + 1), EMOK _ y := fun y hy => by
      rcases set_mem hy with h | rfl
      · exact (HA.out.er _ hRQ).ok y h
      · exact em_dead_ok _ _
    have hadd := (show addA gs k (frOf zs) = (gs.set k (deadG ag), [], 71) ∧ RELS (gs.set k (deadG ag)) ((l3.map EM.e).set k (deadE x.e)) from by
      cases dd
      · have hs : sp = true := by have := HSD.out; simpa using this
        have hG : ¬ GOODF (x.e.fs ++ [frOf zs]) := of_decide_eq_true (by rw [HFL.out, hsp.out, hs])
        exact addR_spoilt HA.out.rels HA.out.hag HA.out.he HA.out.dead HA.out.ok hG
      · exact (hdd.out.1 (by first | rfl | trivial)).2)
    refine ⟨_, A271, _, c271, _, none, 0, 0, ?_, HA.out.ended Z3.out.bel hadd.1 (by rw [hes]; exact hadd.2) hrow hlen (by omega) hok (fun y hy => ?_) (fun p hp => ?_) RD.nil (fun h => absurd h (Nat.lt_irrefl 0))⟩
    · rw [HA.out.val, HA.out.put, hadd.1]; rfl
    · rcases set_mem hy with h | rfl
      · exact .inl h
      · exact .inr (.inr rfl)
    · subst hp
      exact (Z3.out.ltm (x := .row 154 8 (some p) _ c271 _) (List.mem_of_getElem? (i := 2) rfl) rfl).1
  case false =>
    have hs : sp = false ∧ dd = false := by have := HSD.out; simpa using this
    obtain ⟨rfl, rfl⟩ := hs
    have X5 := Lib.hid (show SP w wc ([.blk XB 154 #[.int .u32 xm.e.src, .int .u32 xm.e.dst, .int .u8 xm.e.proto, .int .u16 xm.e.id, .int .i64 xm.e.begin_, .int .i64 (xm.e.bytes : Int), .bool xm.e.dead, .slice xm.fA xm.fn xm.fc], .blk TB 109 #[.int .i64 lm, .int .i64 lf, .int .i64 now, .slice A3 n3 c3], .blk RB 109 #[.int .i64 0, .int .i64 0, .int .i64 0, .slice none 0 0], .blk HB 129 HC] ++ RQ) from by
      have h1 := X3.out
      have e1 : xm.e.src = x.e.src := by rw [HA.out.xe]; rfl
      have e2 : xm.e.dst = x.e.dst := by rw [HA.out.xe]; rfl
      have e3 : xm.e.proto = x.e.proto := by rw [HA.out.xe]; rfl
      have e4 : xm.e.id = x.e.id := by rw [HA.out.xe]; rfl
      have e5 : xm.e.begin_ = x.e.begin_ := by rw [HA.out.xe]; rfl
      have e6 : xm.e.bytes = SZ := by rw [HA.out.xe, ← hsz.out, ← HFL.out]; rfl
      have e7 : xm.e.dead = false := by rw [HA.out.xe]; exact HA.out.dead
      rw [e1, e2, e3, e4, e5, e6, e7]
      exact h1)
    have HDX := Lib.hid (show xm.e.dead = false by rw [HA.out.xe]; exact HA.out.dead)
    clear X3
    go_upto_region 47 with fail
    have Z1 := Lib.hid (show SP w _ ([.blk TB 109 #[.int .i64 lm, .int .i64 lf, .int .i64 now, .slice A3 n3 c3], .blk XB 154 #[.int .u32 xm.e.src, .int .u32 xm.e.dst, .int .u8 xm.e.proto, .int .u16 xm.e.id, .int .i64 xm.e.begin_, .int .i64 (xm.e.bytes : Int), .bool xm.e.dead, .slice xm.fA xm.fn xm.fc]] ++ ([.blk RB 109 #[.int .i64 0, .int .i64 0, .int .i64 0, .slice none 0 0], .blk HB 129 HC] ++ RQ)) from SP.pickT (A := [_, _, _, _]) (B := [_, _, _, _]) (C := RQ) X5.out [1, 0, 2, 3] rfl (by decide))
    refine wp_region_noPanic ?_
    refine wp_region_held_drew (S := r7zS w TB XB lm lf now A3 n3 c3 l3 k (xm.e) xm.fA xm.fn xm.fc ([.blk RB 109 #[.int .i64 0, .int .i64 0, .int .i64 0, .slice none 0 0], .blk HB 129 HC] ++ RQ)) (by kernel_rfl) (Z1.out.drew.blk 1 rfl) (fun hHeld => ?_)
    clear hHeld
    refine r7z_0 (Lib.hid ⟨fun W h => HA.out.er W h.right, by omega, hcap, hk⟩) (Lib.hid ?_) _ (Lib.hid Z1.out.drew)
    intro y257 y258 y259 y260 y261 y262 y263 y264 y265 y266 y267 y268 y269 y270 y271 y272 g257 A262 c262 g264 A265 c265 A271 c271 w12 hX12
    have Z2 := Lib.hid (SP.pickT (A := [_, _, _, _, _]) (B := [.blk TB 109 #[.int .i64 lm, .int .i64 lf, .int .i64 now, .slice A271 (k + 1 + (n3 - (k + 1))) c271], .blk RB 109 #[.int .i64 0, .int .i64 0, .int .i64 0, .slice none 0 0], .row 154 8 A271 (k + 1 + (n3 - (k + 1))) c271 _, .blk XB 154 #[.int .u32 xm.e.src, .int .u32 xm.e.dst, .int .u8 xm.e.proto, .int .u16 xm.e.id, .int .i64 xm.e.begin_, .int .i64 (xm.e.bytes : Int), .bool xm.e.dead, .slice xm.fA xm.fn xm.fc]]) (C := RQ) (show SP w w12 ([_, _, _, _, _] ++ RQ) from SP.pickT (A := [_, _, _, _, _]) (B := [_, _, _, _, _]) (C := RQ) hX12 [0, 1, 2, 3, 4] rfl (by decide)) [0, 3, 2, 1] rfl (by decide))
    clear hX12 Z1 X5
    have z6 : w12.cell? ⟨XB, 6, none⟩ = some (.bool false) := by rw [← HDX.out]; exact Z2.out.cell 3 rfl 6 rfl
    go_wp2_with (first
      | (refine wpList_load_row rfl 109 _ rfl TB rfl 109 #[.int .i64 lm, .int .i64 lf, .int .i64 now, .slice A271 (k + 1 + (n3 - (k + 1))) c271] (0, 0) _ (Z2.out.blk 0 rfl) Try.underlying109 rfl (by kernel_rfl) ?_)
      | (refine wpList_store_row rfl 109 _ _ rfl RB #[.int .i64 lm, .int .i64 lf, .int .i64 now, .slice A271 (k + 1 + (n3 - (k + 1))) c271] rfl rfl 109 #[.int .i64 0, .int .i64 0, .int .i64 0, .slice none 0 0] (Z2.out.blk 1 rfl) (by kernel_rfl) rfl (by simp [Value.oneCell']) ?_))
    have Z3 := Lib.hid (Z2.out.setR 1 rfl #[.int .i64 lm, .int .i64 lf, .int .i64 now, .slice A271 (k + 1 + (n3 - (k + 1))) c271])
    refine bodyPost_ret (results_cell_tmp27 rfl _ _ RB 109 _ (0, 0) _ rfl (Z3.out.blk 1 rfl) Try.underlying109 rfl (by kernel_rfl)) rfl ?_
    have hRQ := (show SP w _ (([_, _, _, _] : List IT) ++ RQ) from Z3.out).right
    have hrow := Z3.out.row 2 rfl
    have hcells : (l3.take k).flatMap EM.cells ++ [.int .u32 xm.e.src, .int .u32 xm.e.dst, .int .u8 xm.e.proto, .int .u16 xm.e.id, .int .i64 xm.e.begin_, .int .i64 (xm.e.bytes : Int), .bool xm.e.dead, .slice xm.fA xm.fn xm.fc] ++ (l3.drop (k + 1)).flatMap EM.cells = (l3.take k ++ [xm] ++ l3.drop (k + 1)).flatMap EM.cells := by
      rw [List.flatMap_append, List.flatMap_append]
      congr 2
    rw [hcells] at hrow
    have hes := ems_set (l := l3) (k := k) (by rw [HA.out.len]; exact hk) (xm)
    have hlen : (l3.take k ++ [xm] ++ l3.drop (k + 1)).length = k + 1 + (n3 - (k + 1)) := by
      rw [List.length_append, List.length_append, List.length_take, List.length_drop, HA.out.len]
      simp only [List.length_cons, List.length_nil]
      omega
    have hok : ∀ y ∈ l3.take k ++ [xm] ++ l3.drop (k + 1), EMOK _ y := fun y hy => by
      rcases set_mem hy with h | rfl
      · exact (HA.out.er _ hRQ).ok y h
      · exact HA.out.em _ hRQ
    have hadd := (show addA gs k (frOf zs) = (gs.set k (putG ag (frOf zs)), [], 0) ∧ RELS (gs.set k (putG ag (frOf zs))) ((l3.map EM.e).set k xm.e) from by
      have hG : GOODF (x.e.fs ++ [frOf zs]) := by
        have h1 := hsp.out
        rw [← HFL.out] at h1
        exact Classical.not_not.1 (of_decide_eq_false h1)
      have hne : (totF (x.e.fs ++ [frOf zs])).1 ≠ (sizeF (x.e.fs ++ [frOf zs]) : Int) := by
        have h1 := hfu.out
        rw [hdd.out.2 (by first | rfl | trivial)] at h1
        have h2 : decide ((totF FL).1 = (SZ : Int)) = false := by simpa using h1
        rw [HFL.out, hsz.out]
        exact of_decide_eq_false h2
      rw [HA.out.xe]
      exact addR_more HA.out.rels HA.out.hag HA.out.he HA.out.dead HA.out.ok HA.out.part hG hne)
    refine ⟨_, A271, _, c271, _, none, 0, 0, ?_, HA.out.ended Z3.out.bel hadd.1 (by rw [hes]; exact hadd.2) hrow hlen (by omega) hok (fun y hy => ?_) (fun p hp => ?_) RD.nil (fun h => absurd h (Nat.lt_irrefl 0))⟩
    · rw [HA.out.val, HA.out.put, hadd.1]; rfl
    · rcases set_mem hy with h | rfl
      · exact .inl h
      · exact .inr (.inl rfl)
    · subst hp
      exact (Z3.out.ltm (x := .row 154 8 (some p) _ c271 _) (List.mem_of_getElem? (i := 2) rfl) rfl).1
end Go.Proofs.Ytljbfnabnkkfeaa
