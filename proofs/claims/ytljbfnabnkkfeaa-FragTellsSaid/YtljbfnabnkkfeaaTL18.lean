import Derived.WalkKit
import Derived.Lib.Hide
import Derived.Below
import Derived.Laws.OwnMore
import Derived.Deep.AppendLies
import Derived.Deep.Draws
import Derived.Maps.AppendAt
import Derived.OwnWalk
import Derived.RegionTactic
import Derived.Laws.Rows
import Derived.Laws.Tables
import Derived.Deep.RegionHeld3
import Derived.Deep.DrawnRows
import Derived.BigFrame
import Derived.ProofKit
import Derived.OpenShut
import Derived.RangeFuncNested
import Derived.RangeFuncBound
import Derived.RangeFuncCalls
import Derived.RangeFuncLeaves
import Derived.Shelf.Abstract
import Derived.Shelf.RegionOpen
import Derived.OwnWalkIn
import Derived.TacticsInMore
import Derived.LoopNIn
import Derived.LoopIn
import Derived.WalkSpells
import Derived.Deep.QuietTactic
import Derived.BigQuiet
import Derived.Deep.DeepCutAuto
import Derived.Deep.MidRow
import Derived.Laws.BitsLemmas
import Derived.Laws.BitsAllLaws
import Derived.Outline
import Derived.Laws.CopyOwn
import Derived.Deep.RegionLaw
import Derived.Laws.MakeOwn
import Derived.Maps.Keyed
import Derived.DeepKeys3
import Derived.DeepKeys4
import Derived.Laws.ResultCell
import Derived.Laws.EntriesVeiled
import Derived.BigRegion
import Derived.Lib.SliceRun
import Derived.LaidEql
import Derived.Maps.OwnIn
import Derived.Laws.StructEq
import Derived.Test.YtljbfnabnkkfeaaProg
import Derived.Test.YtljbfnabnkkfeaaTL01
import Derived.Test.YtljbfnabnkkfeaaTL02
import Derived.Test.YtljbfnabnkkfeaaTL03
import Derived.Test.YtljbfnabnkkfeaaTL04
import Derived.Test.YtljbfnabnkkfeaaTL05
import Derived.Test.YtljbfnabnkkfeaaTL06
import Derived.Test.YtljbfnabnkkfeaaTL07
import Derived.Test.YtljbfnabnkkfeaaTL08
import Derived.Test.YtljbfnabnkkfeaaTL09
import Derived.Test.YtljbfnabnkkfeaaTL10
import Derived.Test.YtljbfnabnkkfeaaTL11
import Derived.Test.YtljbfnabnkkfeaaTL12
import Derived.Test.YtljbfnabnkkfeaaTL13
import Derived.Test.YtljbfnabnkkfeaaTL14
import Derived.Test.YtljbfnabnkkfeaaTL15
import Derived.Test.YtljbfnabnkkfeaaTL16
/- Joined by program: FgTA, FgTB. -/
namespace Go.Proofs.Ytljbfnabnkkfeaa
open Go.RowKit
set_option linter.unusedVariables false
set_option linter.unusedSimpArgs false
set_option maxHeartbeats 1000000 in
set_option maxRecDepth 100000 in
theorem copybytes_any (A : Option Addr) (n c : Nat) (zs : List Int) (w : World) (rd : RD .u8 w w.heap.size A n zs) (hn : n ≤ 140737488351232) :
    Calls Try.prog 63 #[.slice A n c] w fun e w' => ∃ B d, e = .returned (.slice B n d) ∧ OWN .u8 5 w' w.heap.size B n d zs ∧ Below w.heap.size w w' := by
  obtain ⟨i0, hi, hz0, hz1, hz2⟩ := info_parts infoU8
  have RDD := Lib.hid rd
  have X0 := Lib.hid (show SP w w [.own .u8 5 none 0 0 []] from (SP.start w).pushOwn (Below.refl _ _) OWN.nil)
  clear rd
  go_enter Try.func63, Try.ntmps63
  go_wp2_with (refine wpList_append_rd _ rfl _ _ _ rfl .u8 w.heap.size 5 i0 1 Try.underlying23 hi hz0 hz1 hz2 none 0 0 [] rfl (X0.out.own 0 rfl) _ A n c zs rfl RDD.out (by simp only [maxLen]; omega) (by omega) X0.out.size ?_; intro A7 c7 w7 happ; have hX : SP w w7 [.own .u8 5 A7 (0 + n) c7 ([] ++ zs)] := X0.out.app 0 rfl happ; clear happ; rw [Nat.zero_add, List.nil_append] at hX; rw [Nat.zero_add]; have X1 := Lib.hid hX; clear hX)
  go_ret
  exact ⟨A7, c7, rfl, X1.out.own 0 rfl, X1.out.bel⟩
def GROW (w : World) (A : Option Addr) (l : List EM) : Prop := ∀ i x, l[i]? = some x → ∃ g off, A = some ⟨g, off, none⟩ ∧ ∀ j v, x.gcells[j]? = some v → w.cell? ⟨g, off + i * 7 + j, none⟩ = some v
theorem GROW.drewN {w : World} {A : Option Addr} {l : List EM} (h : GROW w A l) (m : Nat) : GROW (w.drewN m) A l := h
theorem gc_len (x : EM) : x.gcells.length = 7 := rfl
theorem grow_of {w : World} {base n c : Nat} {B : Option Addr} {e : TypeId} {l : List EM} (h : w.ownsRow base e 7 (.slice B n c) n (l.flatMap EM.gcells)) (hl : l.length = n) : GROW w B l := fun i x hx => by
  have hi : i < n := by rw [← hl]; exact (List.getElem?_eq_some_iff.1 hx).1
  obtain ⟨g, rfl, hg⟩ := row_head h (by omega)
  refine ⟨g, 0, rfl, fun j v hv => ?_⟩
  have hj : j < 7 := (List.getElem?_eq_some_iff.1 hv).1
  rw [Nat.zero_add, hg (i * 7 + j) (by omega), flat_get EM.gcells 7 gc_len l i x hx j hj]
  exact hv
set_option maxHeartbeats 1000000 in
set_option maxRecDepth 100000 in
theorem groups7_yes (A1 A2 : Option Addr) (n c1 c2 : Nat) (l : List EM) (w : World) (h1 : GROW w A1 l) (h2 : GROW w A2 l) (hl : l.length = n) (hn : n ≤ 100000) :
    Calls Try.prog 64 #[.slice A1 n c1, .slice A2 n c2] w fun e w' => e = .returned (.bool true) ∧ ∃ m, w' = w.drewN m := by
  have H1 := Lib.hid h1
  have H2 := Lib.hid h2
  have HL := Lib.hid hl
  have ht : ((n : Int) != (n : Int)) = false := by simp
  clear h1 h2 hl
  go_enter Try.func64, Try.ntmps64
  go_wp2
  go_loopw [5, 13] (fun _ s13 wr => ∃ k : Nat, k ≤ n ∧ s13 = .int .i64 k ∧ ∃ m, wr = w.drewN m) (fun _ s13 _ => n - (intOf s13).toNat)
  case atStart => exact ⟨0, Nat.zero_le _, rfl, 0, rfl⟩
  case round =>
    obtain ⟨k, hk, rfl, m, rfl⟩ := hrel
    by_cases hlt : k < n
    · have t1 : (k : Int) < (n : Int) := by omega
      have t0 : (0 : Int) ≤ (k : Int) := by omega
      obtain ⟨x, hx⟩ : ∃ x, l[k]? = some x := ⟨_, List.getElem?_eq_getElem (by rw [HL.out]; exact hlt)⟩
      obtain ⟨g1, o1, rfl, hc1⟩ := H1.out k x hx
      obtain ⟨g2, o2, rfl, hc2⟩ := H2.out k x hx
      have R1 := Lib.hid (show (w.drewN m).rangeAt g1 (o1 + k * 7) [.int .u32 x.e.src, .int .u32 x.e.dst, .int .u8 x.e.proto, .int .u16 x.e.id, .int .i64 x.e.begin_, .int .i64 (x.e.bytes : Int), .bool x.e.dead] from fun j v hv => hc1 j v hv)
      have R2 := Lib.hid (show (w.drewN m).rangeAt g2 (o2 + k * 7) [.int .u32 x.e.src, .int .u32 x.e.dst, .int .u8 x.e.proto, .int .u16 x.e.id, .int .i64 x.e.begin_, .int .i64 (x.e.bytes : Int), .bool x.e.dead] from fun j v hv => hc2 j v hv)
      have e6 : IntKind.i64.wrap ((k : Int) + 1) = (k : Int) + 1 := IntWalk.i64_in _ (by omega)
      clear hc1 hc2 hx
      go_upto_region 6 with fail
      refine wp_region_noPanic ?_
      refine wp_region_held_drew (S := (fun W => W.rangeAt g1 (o1 + k * 7) [.int .u32 x.e.src, .int .u32 x.e.dst, .int .u8 x.e.proto, .int .u16 x.e.id, .int .i64 x.e.begin_, .int .i64 (x.e.bytes : Int), .bool x.e.dead] ∧ W.rangeAt g2 (o2 + k * 7) [.int .u32 x.e.src, .int .u32 x.e.dst, .int .u8 x.e.proto, .int .u16 x.e.id, .int .i64 x.e.begin_, .int .i64 (x.e.bytes : Int), .bool x.e.dead])) (by kernel_rfl) ⟨R1.out, R2.out⟩ (fun hHeld => ?_)
      refine' take_lit (i := 0) (v := _) rfl (by kernel_rfl) (by kernel_rfl) (by kernel_rfl) (fun _ _ _ h => h) (Or.inl ⟨by rfl, ?yy1⟩) (by assumption) ?rr1
      case yy1 => intro w' hSw; (try dsimp only at hSw); go_simp; try (with_reducible rfl)
      (try simp only [Act.put]); (try simp only [List.setIfInBounds_toArray, List.set_cons_zero, List.set_cons_succ])
      refine' take_lit (i := 1) (v := _) rfl (by kernel_rfl) (by kernel_rfl) (by kernel_rfl) (fun _ _ _ h => h) (Or.inl ⟨by rfl, ?yy2⟩) (by assumption) ?rr2
      case yy2 => intro w' hSw; (try dsimp only at hSw); go_simp; try (with_reducible rfl)
      (try simp only [Act.put]); (try simp only [List.setIfInBounds_toArray, List.set_cons_zero, List.set_cons_succ])
      refine' take_lit (i := 2) (v := _) rfl (by kernel_rfl) (by kernel_rfl) (by kernel_rfl) (fun _ _ _ h => h) (Or.inl ⟨by rfl, ?yy3⟩) (by assumption) ?rr3
      case yy3 => intro w' hSw; (try dsimp only at hSw); go_simp; try (with_reducible rfl)
      (try simp only [Act.put]); (try simp only [List.setIfInBounds_toArray, List.set_cons_zero, List.set_cons_succ])
      refine' take_lit (i := 3) (v := .agg (List.toArray [.int .u32 x.e.src, .int .u32 x.e.dst, .int .u8 x.e.proto, .int .u16 x.e.id, .int .i64 x.e.begin_, .int .i64 (x.e.bytes : Int), .bool x.e.dead])) rfl (by kernel_rfl) (by kernel_rfl) (by kernel_rfl) (fun _ _ _ h => h) (Or.inl ⟨by rfl, ?yy4⟩) (by assumption) ?rr4
      case yy4 => intro w' hSw; exact exec_load_mid 47 _ rfl g1 (o1 + k * 7) rfl [.int .u32 x.e.src, .int .u32 x.e.dst, .int .u8 x.e.proto, .int .u16 x.e.id, .int .i64 x.e.begin_, .int .i64 (x.e.bytes : Int), .bool x.e.dead] _ (hSw.1) Try.underlying47 rfl (by kernel_rfl)
      (try simp only [Act.put]); (try simp only [List.setIfInBounds_toArray, List.set_cons_zero, List.set_cons_succ])
      refine' take_lit (i := 4) (v := _) rfl (by kernel_rfl) (by kernel_rfl) (by kernel_rfl) (fun _ _ _ h => h) (Or.inl ⟨by rfl, ?yy5⟩) (by assumption) ?rr5
      case yy5 => intro w' hSw; (try dsimp only at hSw); go_simp; try (with_reducible rfl)
      (try simp only [Act.put]); (try simp only [List.setIfInBounds_toArray, List.set_cons_zero, List.set_cons_succ])
      refine' take_lit (i := 5) (v := _) rfl (by kernel_rfl) (by kernel_rfl) (by kernel_rfl) (fun _ _ _ h => h) (Or.inl ⟨by rfl, ?yy6⟩) (by assumption) ?rr6
      case yy6 => intro w' hSw; (try dsimp only at hSw); go_simp; try (with_reducible rfl)
      (try simp only [Act.put]); (try simp only [List.setIfInBounds_toArray, List.set_cons_zero, List.set_cons_succ])
      refine' take_lit (i := 6) (v := _) rfl (by kernel_rfl) (by kernel_rfl) (by kernel_rfl) (fun _ _ _ h => h) (Or.inl ⟨by rfl, ?yy7⟩) (by assumption) ?rr7
      case yy7 => intro w' hSw; (try dsimp only at hSw); go_simp; try (with_reducible rfl)
      (try simp only [Act.put]); (try simp only [List.setIfInBounds_toArray, List.set_cons_zero, List.set_cons_succ])
      refine' take_lit (i := 7) (v := .agg (List.toArray [.int .u32 x.e.src, .int .u32 x.e.dst, .int .u8 x.e.proto, .int .u16 x.e.id, .int .i64 x.e.begin_, .int .i64 (x.e.bytes : Int), .bool x.e.dead])) rfl (by kernel_rfl) (by kernel_rfl) (by kernel_rfl) (fun _ _ _ h => h) (Or.inl ⟨by rfl, ?yy8⟩) (by assumption) ?rr8
      case yy8 => intro w' hSw; exact exec_load_mid 151 _ rfl g2 (o2 + k * 7) rfl [.int .u32 x.e.src, .int .u32 x.e.dst, .int .u8 x.e.proto, .int .u16 x.e.id, .int .i64 x.e.begin_, .int .i64 (x.e.bytes : Int), .bool x.e.dead] _ (hSw.2) Try.underlying151 rfl (by kernel_rfl)
      (try simp only [Act.put]); (try simp only [List.setIfInBounds_toArray, List.set_cons_zero, List.set_cons_succ])
      refine' take_lit (i := 8) (v := .bool false) rfl (by kernel_rfl) (by kernel_rfl) (by kernel_rfl) (fun _ _ _ h => h) (Or.inl ⟨by rfl, ?yy9⟩) (by assumption) ?rr9
      case yy9 => intro w' hSw; (try dsimp only at hSw); go_simp
      (try simp only [Act.put]); (try simp only [List.setIfInBounds_toArray, List.set_cons_zero, List.set_cons_succ])
      refine wpAnyH_done (by kernel_rfl) ?_ _
      refine NoPanic.normal ?_
      go_wp2_with fail
      go_roundw
      case rel => exact ⟨k + 1, by omega, by go_num, _, rfl⟩
      case measure => simp [intOf]; omega
    · have t1 : ¬ (k : Int) < (n : Int) := by omega
      go_wp2
      go_ret
      exact ⟨rfl, _, rfl⟩
end Go.Proofs.Ytljbfnabnkkfeaa
namespace Go.Proofs.Ytljbfnabnkkfeaa
open Go.RowKit
set_option linter.unusedVariables false
set_option linter.unusedSimpArgs false
theorem row_at {w : World} {base : Nat} {e : TypeId} {g n c i : Nat} {vs : List Value} {v : Value} (h : w.ownsRow base e 1 (.slice (some ⟨g, 0, none⟩) n c) n vs) (hv : vs[i]? = some v) : w.cell? ⟨g, i, none⟩ = some v := by
  obtain ⟨ad, h1, h2⟩ := row_news h i v hv
  cases h1
  rw [Addr.add_mid, Nat.zero_add] at h2
  exact h2
set_option maxHeartbeats 1000000 in
set_option maxRecDepth 100000 in
theorem tells_inv {u0 u1 u2 u3 u4 u5 u6 u7 u8 u9 u10 u11 u12 u13 u14 u15 u16 u17 u18 u20 u21 u22 u23 u24 u25 u26 u27 u28 u29 u30 u31 u32 u33 u34 u35 u36 u37 u38 u39 u40 u41 u42 u43 u44 u45 u46 u47 u48 u49 u50 u51 u52 u53 u54 u55 u56 u57 u58 u59 u60 u61 u62 u63 u64 u65 u66 u67 u68 u69 u70 u71 u72 u73 u74 u75 u76 u77 u78 u79 u80 u81 u82 u83 u84 u85 u86 u87 u88 u89 u90 u91 u92 u93 u94 u95 u96 u97 u98 u99 u100 u101 u102 u103 u104 u105 u106 u107 u108 u109 u110 u111 u112 u113 u114 u115 u116 u117 u118 u119 u120 u121 u122 u123 u127 u128 u129 u130 u131 u132 u133 u134 u135 u136 u137 u138 u139 u140 u141 u142 u143 u144 u145 u146 u147 u148 u149 u150 u151 u152 u153 u154 u155 u156 u157 u158 u159 u160 u161 u162 u163 u164 u165 u166 u167 u168 u169 u170 u171 u172 u173 u174 u175 u176 u177 u178 u179 u180 u181 u182 u183 u184 u185 u186 u187 u188 u189 u190 u191 u192 u193 u194 u195 : Value} {Q : Exit → Act → World → Prop} (w : World) (g n1 N c c1 : Nat) (zs : List Int) (RO : List IT) (hn : n1 ≤ N) (hN : N ≤ 100000) (w1 : World) (X1 : Hid (SP w w1 ([.own .u8 5 (some ⟨g, 0, none⟩) N c zs] ++ RO)))
    (HQ : Hid (∀ (y24 y126 y127 y128 y129 y130 y131 y132 y133 y134 y135 y136 y137 : Value) (zs' : List Int) (w' : World), SP w w' ([.own .u8 5 (some ⟨g, 0, none⟩) N c zs'] ++ RO) → Q (.exit 4) ⟨List.toArray (u0 :: u1 :: u2 :: u3 :: u4 :: u5 :: u6 :: u7 :: u8 :: u9 :: u10 :: u11 :: u12 :: u13 :: u14 :: u15 :: u16 :: u17 :: u18 :: .slice (some ⟨g, 0, none⟩) n1 c1 :: u20 :: u21 :: u22 :: u23 :: y24 :: u25 :: u26 :: u27 :: u28 :: u29 :: u30 :: u31 :: u32 :: u33 :: u34 :: u35 :: u36 :: u37 :: u38 :: u39 :: u40 :: u41 :: u42 :: u43 :: u44 :: u45 :: u46 :: u47 :: u48 :: u49 :: u50 :: u51 :: u52 :: u53 :: u54 :: u55 :: u56 :: u57 :: u58 :: u59 :: u60 :: u61 :: u62 :: u63 :: u64 :: u65 :: u66 :: u67 :: u68 :: u69 :: u70 :: u71 :: u72 :: u73 :: u74 :: u75 :: u76 :: u77 :: u78 :: u79 :: u80 :: u81 :: u82 :: u83 :: u84 :: u85 :: u86 :: u87 :: u88 :: u89 :: u90 :: u91 :: u92 :: u93 :: u94 :: u95 :: u96 :: u97 :: u98 :: u99 :: u100 :: u101 :: u102 :: u103 :: u104 :: u105 :: u106 :: u107 :: u108 :: u109 :: u110 :: u111 :: u112 :: u113 :: u114 :: u115 :: u116 :: u117 :: u118 :: u119 :: u120 :: u121 :: u122 :: u123 :: .slice (some ⟨g, 0, none⟩) n1 c1 :: .int .i64 (n1 : Int) :: y126 :: y127 :: y128 :: y129 :: y130 :: y131 :: y132 :: y133 :: y134 :: y135 :: y136 :: y137 :: u138 :: u139 :: u140 :: u141 :: u142 :: u143 :: u144 :: u145 :: u146 :: u147 :: u148 :: u149 :: u150 :: u151 :: u152 :: u153 :: u154 :: u155 :: u156 :: u157 :: u158 :: u159 :: u160 :: u161 :: u162 :: u163 :: u164 :: u165 :: u166 :: u167 :: u168 :: u169 :: u170 :: u171 :: u172 :: u173 :: u174 :: u175 :: u176 :: u177 :: u178 :: u179 :: u180 :: u181 :: u182 :: u183 :: u184 :: u185 :: u186 :: u187 :: u188 :: u189 :: u190 :: u191 :: u192 :: u193 :: u194 :: u195 :: []), []⟩ w')) :
    Code.wp Try.prog (loopIn Try.f29 34) Q ⟨List.toArray (u0 :: u1 :: u2 :: u3 :: u4 :: u5 :: u6 :: u7 :: u8 :: u9 :: u10 :: u11 :: u12 :: u13 :: u14 :: u15 :: u16 :: u17 :: u18 :: .slice (some ⟨g, 0, none⟩) n1 c1 :: u20 :: u21 :: u22 :: u23 :: u24 :: u25 :: u26 :: u27 :: u28 :: u29 :: u30 :: u31 :: u32 :: u33 :: u34 :: u35 :: u36 :: u37 :: u38 :: u39 :: u40 :: u41 :: u42 :: u43 :: u44 :: u45 :: u46 :: u47 :: u48 :: u49 :: u50 :: u51 :: u52 :: u53 :: u54 :: u55 :: u56 :: u57 :: u58 :: u59 :: u60 :: u61 :: u62 :: u63 :: u64 :: u65 :: u66 :: u67 :: u68 :: u69 :: u70 :: u71 :: u72 :: u73 :: u74 :: u75 :: u76 :: u77 :: u78 :: u79 :: u80 :: u81 :: u82 :: u83 :: u84 :: u85 :: u86 :: u87 :: u88 :: u89 :: u90 :: u91 :: u92 :: u93 :: u94 :: u95 :: u96 :: u97 :: u98 :: u99 :: u100 :: u101 :: u102 :: u103 :: u104 :: u105 :: u106 :: u107 :: u108 :: u109 :: u110 :: u111 :: u112 :: u113 :: u114 :: u115 :: u116 :: u117 :: u118 :: u119 :: u120 :: u121 :: u122 :: u123 :: .slice (some ⟨g, 0, none⟩) n1 c1 :: .int .i64 (n1 : Int) :: .int .i64 0 :: u127 :: u128 :: u129 :: u130 :: u131 :: u132 :: u133 :: u134 :: u135 :: u136 :: u137 :: u138 :: u139 :: u140 :: u141 :: u142 :: u143 :: u144 :: u145 :: u146 :: u147 :: u148 :: u149 :: u150 :: u151 :: u152 :: u153 :: u154 :: u155 :: u156 :: u157 :: u158 :: u159 :: u160 :: u161 :: u162 :: u163 :: u164 :: u165 :: u166 :: u167 :: u168 :: u169 :: u170 :: u171 :: u172 :: u173 :: u174 :: u175 :: u176 :: u177 :: u178 :: u179 :: u180 :: u181 :: u182 :: u183 :: u184 :: u185 :: u186 :: u187 :: u188 :: u189 :: u190 :: u191 :: u192 :: u193 :: u194 :: u195 :: []), []⟩ w1 := by
  conv => arg 2; whnf
  go_loopw [24, 126] (fun _ s126 wr => ∃ (i : Nat) (zs' : List Int), i ≤ n1 ∧ s126 = .int .i64 (i : Int) ∧ SP w wr ([.own .u8 5 (some ⟨g, 0, none⟩) N c zs'] ++ RO)) (fun _ s126 _ => n1 - (intOf s126).toNat)
  case atStart => exact ⟨0, zs, Nat.zero_le _, rfl, X1.out⟩
  case round =>
    obtain ⟨i, z2, hi, rfl, Y0⟩ := hrel
    have Y := Lib.hid Y0
    clear Y0 X1
    by_cases hlt : i < n1
    · have t1 : (i : Int) < (n1 : Int) := by omega
      have t0 : (0 : Int) ≤ (i : Int) := by omega
      have xc := (Y.out.own 0 rfl).cell (show i < N by omega)
      have xf := (Y.out.own 0 rfl).frozen i
      have e6 : IntKind.i64.wrap ((i : Int) + 1) = (i : Int) + 1 := IntWalk.i64_in _ (by omega)
      go_wp2_with fail
      go_roundw
      case rel => exact ⟨i + 1, _, by omega, by go_num, Y.out.setO 0 rfl i _⟩
      case measure => simp [intOf]; omega
    · have t1 : ¬ (i : Int) < (n1 : Int) := by omega
      obtain rfl : i = n1 := by omega
      go_wp2_with fail
      exact HQ.out _ _ _ _ _ _ _ _ _ _ _ _ _ z2 _ Y.out
attribute [local go_sem ↓] Go.wp_at_zero Go.wp_at_succ
structure tliP (w0 : World) (gg g1 g2 k kk gc m bc cc i : Nat) (vs : List Value) (z : List Int) (RO : List IT) : Prop where
  hk : kk + 1 = k
  hk2 : k ≤ 100000
  hi : i < m
  hm : m ≤ 100000
  hv : vs[kk]? = some (.slice (some ⟨g2, 0, none⟩) m cc)
def tliS (w0 : World) (gg g1 g2 k kk gc m bc cc i : Nat) (vs : List Value) (z : List Int) (RO : List IT) : World → Prop := fun W => W.cell? ⟨gg, kk, none⟩ = some (.slice (some ⟨g2, 0, none⟩) m cc)
set_option maxRecDepth 100000 in
def tliF (w0 : World) (gg g1 g2 k kk gc m bc cc i : Nat) (vs : List Value) (z : List Int) (RO : List IT) (Fr : Value → Value → Value → Value → Value → Value → Value → Value → Value → Value → Value → Value → Value → Value → Value → Value → Value → Value → Value → Value → Value → Value → Value → Value → Value → Value → Act) : Prop := ∃ u : Nat → Value, ∀ y152 y153 y154 y155 y156 y157 y158 y159 y160 y161 y162 y163 y164 y165 y166 y167 y168 y169 y170 y171 y172 y173 y174 y175 y176 y177, Fr y152 y153 y154 y155 y156 y157 y158 y159 y160 y161 y162 y163 y164 y165 y166 y167 y168 y169 y170 y171 y172 y173 y174 y175 y176 y177 = ⟨List.toArray (u 0 :: u 1 :: u 2 :: u 3 :: u 4 :: u 5 :: u 6 :: u 7 :: u 8 :: u 9 :: u 10 :: u 11 :: u 12 :: u 13 :: .slice (some ⟨gg, 0, none⟩) k gc :: u 15 :: u 16 :: u 17 :: u 18 :: u 19 :: .slice (some ⟨g1, 0, none⟩) m bc :: u 21 :: u 22 :: u 23 :: u 24 :: .int .i64 (i : Int) :: u 26 :: u 27 :: u 28 :: u 29 :: u 30 :: u 31 :: u 32 :: u 33 :: u 34 :: u 35 :: u 36 :: u 37 :: u 38 :: u 39 :: u 40 :: u 41 :: u 42 :: u 43 :: u 44 :: u 45 :: u 46 :: u 47 :: u 48 :: u 49 :: u 50 :: u 51 :: u 52 :: u 53 :: u 54 :: u 55 :: u 56 :: u 57 :: u 58 :: u 59 :: u 60 :: u 61 :: u 62 :: u 63 :: u 64 :: u 65 :: u 66 :: u 67 :: u 68 :: u 69 :: u 70 :: u 71 :: u 72 :: u 73 :: u 74 :: u 75 :: u 76 :: u 77 :: u 78 :: u 79 :: u 80 :: u 81 :: u 82 :: u 83 :: u 84 :: u 85 :: u 86 :: u 87 :: u 88 :: u 89 :: u 90 :: u 91 :: u 92 :: u 93 :: u 94 :: u 95 :: u 96 :: u 97 :: u 98 :: u 99 :: u 100 :: u 101 :: u 102 :: u 103 :: u 104 :: u 105 :: u 106 :: u 107 :: u 108 :: u 109 :: u 110 :: u 111 :: u 112 :: u 113 :: u 114 :: u 115 :: u 116 :: u 117 :: u 118 :: u 119 :: u 120 :: u 121 :: u 122 :: u 123 :: u 124 :: u 125 :: u 126 :: u 127 :: u 128 :: u 129 :: u 130 :: u 131 :: u 132 :: u 133 :: u 134 :: u 135 :: u 136 :: u 137 :: u 138 :: u 139 :: u 140 :: u 141 :: u 142 :: u 143 :: u 144 :: u 145 :: u 146 :: u 147 :: u 148 :: u 149 :: u 150 :: u 151 :: y152 :: y153 :: y154 :: y155 :: y156 :: y157 :: y158 :: y159 :: y160 :: y161 :: y162 :: y163 :: y164 :: y165 :: y166 :: y167 :: y168 :: y169 :: y170 :: y171 :: y172 :: y173 :: y174 :: y175 :: y176 :: y177 :: u 178 :: u 179 :: u 180 :: u 181 :: u 182 :: u 183 :: u 184 :: u 185 :: u 186 :: u 187 :: u 188 :: u 189 :: u 190 :: u 191 :: u 192 :: u 193 :: u 194 :: u 195 :: []), []⟩
def tliR (w0 : World) (gg g1 g2 k kk gc m bc cc i : Nat) (vs : List Value) (z : List Int) (RO : List IT) (Q : Exit → Act → World → Prop) (Fr : Value → Value → Value → Value → Value → Value → Value → Value → Value → Value → Value → Value → Value → Value → Value → Value → Value → Value → Value → Value → Value → Value → Value → Value → Value → Value → Act) : Prop := ∀ (y152 y153 y154 y155 y156 y157 y158 y159 y160 y161 y162 y163 y164 y165 y166 y167 y168 y169 y170 y171 y172 y173 y174 y175 y176 y177 : Value) (w' : World), SP w0 w' ([.row 23 1 (some ⟨gg, 0, none⟩) k gc vs, .own .u8 5 (some ⟨g1, 0, none⟩) m bc (z.set i (IntKind.u8.wrap (z[i]?.getD 0 + 1))), .own .u8 5 (some ⟨g2, 0, none⟩) m cc (z.set i (IntKind.u8.wrap (z[i]?.getD 0 + 1)))] ++ RO) → Q .normal (Fr y152 y153 y154 y155 y156 y157 y158 y159 y160 y161 y162 y163 y164 y165 y166 y167 y168 y169 y170 y171 y172 y173 y174 y175 y176 y177) w'
def tliH (w0 : World) (gg g1 g2 k kk gc m bc cc i : Nat) (vs : List Value) (z : List Int) (RO : List IT) (Q : Exit → Act → World → Prop) (Fr : Value → Value → Value → Value → Value → Value → Value → Value → Value → Value → Value → Value → Value → Value → Value → Value → Value → Value → Value → Value → Value → Value → Value → Value → Value → Value → Act) : Prop := Hid (tliP w0 gg g1 g2 k kk gc m bc cc i vs z RO) ∧ tliF w0 gg g1 g2 k kk gc m bc cc i vs z RO Fr ∧ Hid (tliR w0 gg g1 g2 k kk gc m bc cc i vs z RO Q Fr)
set_option maxRecDepth 100000 in
def tliQ {u0 u1 u2 u3 u4 u5 u6 u7 u8 u9 u10 u11 u12 u13 u15 u16 u17 u18 u19 u21 u22 u23 u24 u26 u27 u28 u29 u30 u31 u32 u33 u34 u35 u36 u37 u38 u39 u40 u41 u42 u43 u44 u45 u46 u47 u48 u49 u50 u51 u52 u53 u54 u55 u56 u57 u58 u59 u60 u61 u62 u63 u64 u65 u66 u67 u68 u69 u70 u71 u72 u73 u74 u75 u76 u77 u78 u79 u80 u81 u82 u83 u84 u85 u86 u87 u88 u89 u90 u91 u92 u93 u94 u95 u96 u97 u98 u99 u100 u101 u102 u103 u104 u105 u106 u107 u108 u109 u110 u111 u112 u113 u114 u115 u116 u117 u118 u119 u120 u121 u122 u123 u124 u125 u126 u127 u128 u129 u130 u131 u132 u133 u134 u135 u136 u137 u138 u139 u140 u141 u142 u143 u144 u145 u146 u147 u148 u149 u150 u151 u178 u179 u180 u181 u182 u183 u184 u185 u186 u187 u188 u189 u190 u191 u192 u193 u194 u195 : Value} (Q : Exit → Act → World → Prop) (w0 : World) (gg g1 g2 k kk gc m bc cc i : Nat) (vs : List Value) (z : List Int) (RO : List IT) : Prop := ∀ (y152 y153 y154 y155 y156 y157 y158 y159 y160 y161 y162 y163 y164 y165 y166 y167 y168 y169 y170 y171 y172 y173 y174 y175 y176 y177 : Value) (w' : World), SP w0 w' ([.row 23 1 (some ⟨gg, 0, none⟩) k gc vs, .own .u8 5 (some ⟨g1, 0, none⟩) m bc (z.set i (IntKind.u8.wrap (z[i]?.getD 0 + 1))), .own .u8 5 (some ⟨g2, 0, none⟩) m cc (z.set i (IntKind.u8.wrap (z[i]?.getD 0 + 1)))] ++ RO) → Q .normal ⟨List.toArray (u0 :: u1 :: u2 :: u3 :: u4 :: u5 :: u6 :: u7 :: u8 :: u9 :: u10 :: u11 :: u12 :: u13 :: .slice (some ⟨gg, 0, none⟩) k gc :: u15 :: u16 :: u17 :: u18 :: u19 :: .slice (some ⟨g1, 0, none⟩) m bc :: u21 :: u22 :: u23 :: u24 :: .int .i64 (i : Int) :: u26 :: u27 :: u28 :: u29 :: u30 :: u31 :: u32 :: u33 :: u34 :: u35 :: u36 :: u37 :: u38 :: u39 :: u40 :: u41 :: u42 :: u43 :: u44 :: u45 :: u46 :: u47 :: u48 :: u49 :: u50 :: u51 :: u52 :: u53 :: u54 :: u55 :: u56 :: u57 :: u58 :: u59 :: u60 :: u61 :: u62 :: u63 :: u64 :: u65 :: u66 :: u67 :: u68 :: u69 :: u70 :: u71 :: u72 :: u73 :: u74 :: u75 :: u76 :: u77 :: u78 :: u79 :: u80 :: u81 :: u82 :: u83 :: u84 :: u85 :: u86 :: u87 :: u88 :: u89 :: u90 :: u91 :: u92 :: u93 :: u94 :: u95 :: u96 :: u97 :: u98 :: u99 :: u100 :: u101 :: u102 :: u103 :: u104 :: u105 :: u106 :: u107 :: u108 :: u109 :: u110 :: u111 :: u112 :: u113 :: u114 :: u115 :: u116 :: u117 :: u118 :: u119 :: u120 :: u121 :: u122 :: u123 :: u124 :: u125 :: u126 :: u127 :: u128 :: u129 :: u130 :: u131 :: u132 :: u133 :: u134 :: u135 :: u136 :: u137 :: u138 :: u139 :: u140 :: u141 :: u142 :: u143 :: u144 :: u145 :: u146 :: u147 :: u148 :: u149 :: u150 :: u151 :: y152 :: y153 :: y154 :: y155 :: y156 :: y157 :: y158 :: y159 :: y160 :: y161 :: y162 :: y163 :: y164 :: y165 :: y166 :: y167 :: y168 :: y169 :: y170 :: y171 :: y172 :: y173 :: y174 :: y175 :: y176 :: y177 :: u178 :: u179 :: u180 :: u181 :: u182 :: u183 :: u184 :: u185 :: u186 :: u187 :: u188 :: u189 :: u190 :: u191 :: u192 :: u193 :: u194 :: u195 :: []), []⟩ w'
section
variable {Q : Exit → Act → World → Prop} {y152 y153 y154 y155 y156 y157 y158 y159 y160 y161 y162 y163 y164 y165 y166 y167 y168 y169 y170 y171 y172 y173 y174 y175 y176 y177 : Value} {w0 : World} {gg g1 g2 k kk gc m bc cc i : Nat} {vs : List Value} {z : List Int} {RO : List IT} {Fr : Value → Value → Value → Value → Value → Value → Value → Value → Value → Value → Value → Value → Value → Value → Value → Value → Value → Value → Value → Value → Value → Value → Value → Value → Value → Value → Act}
set_option maxHeartbeats 1000000 in
set_option maxRecDepth 100000 in
theorem tlis4 (H0 : tliH w0 gg g1 g2 k kk gc m bc cc i vs z RO Q Fr) (w : World) (X : Hid (SP w0 w ([.row 23 1 (some ⟨gg, 0, none⟩) k gc vs, .own .u8 5 (some ⟨g1, 0, none⟩) m bc (z.set i (IntKind.u8.wrap (z[i]?.getD 0 + 1))), .own .u8 5 (some ⟨g2, 0, none⟩) m cc (z.set i (IntKind.u8.wrap (z[i]?.getD 0 + 1)))] ++ RO))) :
    wpAnyH Try.prog .any (opsAt Try.f29 41) (NoPanic Q) (tliS w0 gg g1 g2 k kk gc m bc cc i vs z RO) 0 #[true, true, true, true, true, true, true, true, true, true, true, true, true, true, true, true, true, true, true, true, true, true, true, true, true, true, true, true] (Fr y152 y153 y154 y155 y156 y157 y158 y159 y160 y161 y162 y163 y164 y165 y166 y167 y168 y169 y170 y171 y172 y173 y174 y175 y176 y177) w := by
  have H1 := Lib.hid H0
  obtain ⟨HP, ⟨u, hF⟩, HQ⟩ := H0
  rw [hF]
  have hk := HP.out.hk
  have hk2 := HP.out.hk2
  have hi := HP.out.hi
  have t1 : (i : Int) < (m : Int) := by omega
  have t0 : (0 : Int) ≤ (i : Int) := by omega
  have s1 : (kk : Int) < (k : Int) := by omega
  have s0 : (0 : Int) ≤ (kk : Int) := by omega
  have e1 : IntKind.i64.wrap ((k : Int) - 1) = (kk : Int) := by rw [IntWalk.i64_in _ (by omega)]; omega
  have hHeld : (tliS w0 gg g1 g2 k kk gc m bc cc i vs z RO) w := by exact row_at (X.out.row 0 rfl) HP.out.hv
  refine wpAnyH_done (by kernel_rfl) ?_ _
  refine NoPanic.normal ?_
  rw [← hF]
  exact HQ.out _ _ _ _ _ _ _ _ _ _ _ _ _ _ _ _ _ _ _ _ _ _ _ _ _ _  _ X.out
set_option maxHeartbeats 1000000 in
set_option maxRecDepth 100000 in
theorem tlis3 (H0 : tliH w0 gg g1 g2 k kk gc m bc cc i vs z RO Q Fr) (w : World) (X : Hid (SP w0 w ([.row 23 1 (some ⟨gg, 0, none⟩) k gc vs, .own .u8 5 (some ⟨g1, 0, none⟩) m bc (z.set i (IntKind.u8.wrap (z[i]?.getD 0 + 1))), .own .u8 5 (some ⟨g2, 0, none⟩) m cc z] ++ RO))) :
    wpAnyH Try.prog .any (opsAt Try.f29 41) (NoPanic Q) (tliS w0 gg g1 g2 k kk gc m bc cc i vs z RO) 1 #[true, true, true, true, true, true, true, true, true, true, true, true, true, true, true, true, true, true, true, true, true, true, true, true, true, true, true, false] (Fr y152 y153 y154 y155 y156 y157 y158 y159 y160 y161 y162 y163 y164 y165 y166 y167 y168 y169 y170 y171 y172 y173 y174 (.int .u8 (IntKind.u8.wrap (z[i]?.getD 0 + 1))) y176 (.pointer (some ⟨g2, i, none⟩))) w := by
  have H1 := Lib.hid H0
  obtain ⟨HP, ⟨u, hF⟩, HQ⟩ := H0
  rw [hF]
  have hk := HP.out.hk
  have hk2 := HP.out.hk2
  have hi := HP.out.hi
  have t1 : (i : Int) < (m : Int) := by omega
  have t0 : (0 : Int) ≤ (i : Int) := by omega
  have s1 : (kk : Int) < (k : Int) := by omega
  have s0 : (0 : Int) ≤ (kk : Int) := by omega
  have e1 : IntKind.i64.wrap ((k : Int) - 1) = (kk : Int) := by rw [IntWalk.i64_in _ (by omega)]; omega
  have hHeld : (tliS w0 gg g1 g2 k kk gc m bc cc i vs z RO) w := by exact row_at (X.out.row 0 rfl) HP.out.hv
  refine wpAnyH_ready (rs := [27]) (by kernel_rfl) (by simp) ?_
  refine cons_lit rfl (fun K hK => ?ss27x28) AllReadyH.nil
  case ss27x28 =>
    have xc := (X.out.own 2 rfl).cell hi
    have xf := (X.out.own 2 rfl).frozen i
    go_simp
    clear xc xf
    refine nameW' (fun v hv => ?_)
    have Y := Lib.hid (show SP w0 v ([.row 23 1 (some ⟨gg, 0, none⟩) k gc vs, .own .u8 5 (some ⟨g1, 0, none⟩) m bc (z.set i (IntKind.u8.wrap (z[i]?.getD 0 + 1))), .own .u8 5 (some ⟨g2, 0, none⟩) m cc (z.set i (IntKind.u8.wrap (z[i]?.getD 0 + 1)))] ++ RO) by rw [hv]; exact X.out.setO 2 rfl i (IntKind.u8.wrap (z[i]?.getD 0 + 1)))
    clear hv
    refine hK.out _ _ (by exact row_at (Y.out.row 0 rfl) HP.out.hv) (fun hHeld => ?_)
    clear hK K
    (try simp only [Act.put]); (try simp only [sA, sB, sC])
    rw [← hF]
    exact tlis4 H1.out  _ Y
set_option maxHeartbeats 1000000 in
set_option maxRecDepth 100000 in
theorem tlis2 (H0 : tliH w0 gg g1 g2 k kk gc m bc cc i vs z RO Q Fr) (w : World) (X : Hid (SP w0 w ([.row 23 1 (some ⟨gg, 0, none⟩) k gc vs, .own .u8 5 (some ⟨g1, 0, none⟩) m bc z, .own .u8 5 (some ⟨g2, 0, none⟩) m cc z] ++ RO))) :
    wpAnyH Try.prog .any (opsAt Try.f29 41) (NoPanic Q) (tliS w0 gg g1 g2 k kk gc m bc cc i vs z RO) 3 #[true, true, true, true, true, true, true, true, true, true, true, true, true, true, true, true, true, true, true, true, true, true, true, true, true, false, false, false] (Fr y152 y153 y154 y155 y156 y157 y158 (.slice (some ⟨g2, 0, none⟩) m cc) (.int .i64 (i : Int)) y161 y162 y163 y164 (.int .u8 (IntKind.u8.wrap (z[i]?.getD 0 + 1))) y166 y167 y168 y169 y170 y171 y172 y173 y174 (.int .u8 (IntKind.u8.wrap (z[i]?.getD 0 + 1))) (.pointer (some ⟨g1, i, none⟩)) y177) w := by
  have H1 := Lib.hid H0
  obtain ⟨HP, ⟨u, hF⟩, HQ⟩ := H0
  rw [hF]
  have hk := HP.out.hk
  have hk2 := HP.out.hk2
  have hi := HP.out.hi
  have t1 : (i : Int) < (m : Int) := by omega
  have t0 : (0 : Int) ≤ (i : Int) := by omega
  have s1 : (kk : Int) < (k : Int) := by omega
  have s0 : (0 : Int) ≤ (kk : Int) := by omega
  have e1 : IntKind.i64.wrap ((k : Int) - 1) = (kk : Int) := by rw [IntWalk.i64_in _ (by omega)]; omega
  have hHeld : (tliS w0 gg g1 g2 k kk gc m bc cc i vs z RO) w := by exact row_at (X.out.row 0 rfl) HP.out.hv
  refine wpAnyH_ready (rs := [25]) (by kernel_rfl) (by simp) ?_
  refine cons_lit rfl (fun K hK => ?ss25x26) AllReadyH.nil
  case ss25x26 =>
    have xc := (X.out.own 1 rfl).cell hi
    have xf := (X.out.own 1 rfl).frozen i
    go_simp
    clear xc xf
    refine nameW' (fun v hv => ?_)
    have Y := Lib.hid (show SP w0 v ([.row 23 1 (some ⟨gg, 0, none⟩) k gc vs, .own .u8 5 (some ⟨g1, 0, none⟩) m bc (z.set i (IntKind.u8.wrap (z[i]?.getD 0 + 1))), .own .u8 5 (some ⟨g2, 0, none⟩) m cc z] ++ RO) by rw [hv]; exact X.out.setO 1 rfl i (IntKind.u8.wrap (z[i]?.getD 0 + 1)))
    clear hv
    refine hK.out _ _ (by exact row_at (Y.out.row 0 rfl) HP.out.hv) (fun hHeld => ?_)
    clear hK K
    (try simp only [Act.put]); (try simp only [sA, sB, sC])
    refine' take_lit (i := 26) (v := _) rfl (by kernel_rfl) (by kernel_rfl) (by kernel_rfl) (fun _ _ _ h => h) (Or.inl ⟨by rfl, ?yy27⟩) (by assumption) ?rr27
    case yy27 => intro w' hSw; go_simp; try (with_reducible rfl)
    (try simp only [Act.put]); (try simp only [sA, sB, sC])
    rw [← hF]
    exact tlis3 H1.out  _ Y
set_option maxHeartbeats 1000000 in
set_option maxRecDepth 100000 in
theorem tlis1 (H0 : tliH w0 gg g1 g2 k kk gc m bc cc i vs z RO Q Fr) (w : World) (X : Hid (SP w0 w ([.row 23 1 (some ⟨gg, 0, none⟩) k gc vs, .own .u8 5 (some ⟨g1, 0, none⟩) m bc z, .own .u8 5 (some ⟨g2, 0, none⟩) m cc z] ++ RO))) :
    wpAnyH Try.prog .any (opsAt Try.f29 41) (NoPanic Q) (tliS w0 gg g1 g2 k kk gc m bc cc i vs z RO) 6 #[true, true, true, true, true, true, true, true, true, true, true, true, true, true, true, true, true, true, true, true, true, true, false, false, false, false, false, false] (Fr (.slice (some ⟨g1, 0, none⟩) m bc) (.int .i64 (i : Int)) y154 y155 y156 y157 y158 (.slice (some ⟨g2, 0, none⟩) m cc) (.int .i64 (i : Int)) y161 y162 y163 y164 (.int .u8 (IntKind.u8.wrap (z[i]?.getD 0 + 1))) y166 y167 y168 y169 y170 y171 y172 (.pointer (some ⟨g2, i, none⟩)) y174 y175 y176 y177) w := by
  have H1 := Lib.hid H0
  obtain ⟨HP, ⟨u, hF⟩, HQ⟩ := H0
  rw [hF]
  have hk := HP.out.hk
  have hk2 := HP.out.hk2
  have hi := HP.out.hi
  have t1 : (i : Int) < (m : Int) := by omega
  have t0 : (0 : Int) ≤ (i : Int) := by omega
  have s1 : (kk : Int) < (k : Int) := by omega
  have s0 : (0 : Int) ≤ (kk : Int) := by omega
  have e1 : IntKind.i64.wrap ((k : Int) - 1) = (kk : Int) := by rw [IntWalk.i64_in _ (by omega)]; omega
  have hHeld : (tliS w0 gg g1 g2 k kk gc m bc cc i vs z RO) w := by exact row_at (X.out.row 0 rfl) HP.out.hv
  refine wpAnyH_ready (rs := [22]) (by kernel_rfl) (by simp) ?_
  refine cons_lit rfl (fun K hK => ?ss22x23) AllReadyH.nil
  case ss22x23 =>
    have xc := (X.out.own 2 rfl).cell hi
    go_simp
    clear xc
    have Y := X
    refine hK.out _ _ (by exact row_at (Y.out.row 0 rfl) HP.out.hv) (fun hHeld => ?_)
    clear hK K
    (try simp only [Act.put]); (try simp only [sA, sB, sC])
    refine' take_lit (i := 23) (v := _) rfl (by kernel_rfl) (by kernel_rfl) (by kernel_rfl) (fun _ _ _ h => h) (Or.inl ⟨by rfl, ?yy24⟩) (by assumption) ?rr24
    case yy24 => intro w' hSw; go_simp; try (with_reducible rfl)
    (try simp only [Act.put]); (try simp only [sA, sB, sC])
    refine' take_lit (i := 24) (v := _) rfl (by kernel_rfl) (by kernel_rfl) (by kernel_rfl) (fun _ _ _ h => h) (Or.inl ⟨by rfl, ?yy25⟩) (by assumption) ?rr25
    case yy25 => intro w' hSw; go_simp; try (with_reducible rfl)
    (try simp only [Act.put]); (try simp only [sA, sB, sC])
    rw [← hF]
    exact tlis2 H1.out  _ Y
set_option maxHeartbeats 1000000 in
set_option maxRecDepth 100000 in
theorem tlis5 (H0 : tliH w0 gg g1 g2 k kk gc m bc cc i vs z RO Q Fr) (w : World) (X : Hid (SP w0 w ([.row 23 1 (some ⟨gg, 0, none⟩) k gc vs, .own .u8 5 (some ⟨g1, 0, none⟩) m bc z, .own .u8 5 (some ⟨g2, 0, none⟩) m cc z] ++ RO))) :
    wpAnyH Try.prog .any (opsAt Try.f29 41) (NoPanic Q) (tliS w0 gg g1 g2 k kk gc m bc cc i vs z RO) 6 #[true, true, true, true, true, true, true, true, true, true, true, true, false, false, true, true, true, true, true, true, true, true, true, true, false, false, false, false] (Fr (.slice (some ⟨g1, 0, none⟩) m bc) (.int .i64 (i : Int)) y154 y155 y156 y157 y158 (.slice (some ⟨g2, 0, none⟩) m cc) (.int .i64 (i : Int)) y161 y162 (.pointer (some ⟨g1, i, none⟩)) y164 y165 y166 y167 y168 y169 y170 y171 y172 y173 y174 (.int .u8 (IntKind.u8.wrap (z[i]?.getD 0 + 1))) y176 y177) w := by
  have H1 := Lib.hid H0
  obtain ⟨HP, ⟨u, hF⟩, HQ⟩ := H0
  rw [hF]
  have hk := HP.out.hk
  have hk2 := HP.out.hk2
  have hi := HP.out.hi
  have t1 : (i : Int) < (m : Int) := by omega
  have t0 : (0 : Int) ≤ (i : Int) := by omega
  have s1 : (kk : Int) < (k : Int) := by omega
  have s0 : (0 : Int) ≤ (kk : Int) := by omega
  have e1 : IntKind.i64.wrap ((k : Int) - 1) = (kk : Int) := by rw [IntWalk.i64_in _ (by omega)]; omega
  have hHeld : (tliS w0 gg g1 g2 k kk gc m bc cc i vs z RO) w := by exact row_at (X.out.row 0 rfl) HP.out.hv
  refine wpAnyH_ready (rs := [12]) (by kernel_rfl) (by simp) ?_
  refine cons_lit rfl (fun K hK => ?ss12x30) AllReadyH.nil
  case ss12x30 =>
    have xc := (X.out.own 1 rfl).cell hi
    go_simp
    clear xc
    have Y := X
    refine hK.out _ _ (by exact row_at (Y.out.row 0 rfl) HP.out.hv) (fun hHeld => ?_)
    clear hK K
    (try simp only [Act.put]); (try simp only [sA, sB, sC])
    refine' take_lit (i := 13) (v := _) rfl (by kernel_rfl) (by kernel_rfl) (by kernel_rfl) (fun _ _ _ h => h) (Or.inl ⟨by rfl, ?yy31⟩) (by assumption) ?rr31
    case yy31 => intro w' hSw; go_simp; try (with_reducible rfl)
    (try simp only [Act.put]); (try simp only [sA, sB, sC])
    refine' take_lit (i := 24) (v := _) rfl (by kernel_rfl) (by kernel_rfl) (by kernel_rfl) (fun _ _ _ h => h) (Or.inl ⟨by rfl, ?yy32⟩) (by assumption) ?rr32
    case yy32 => intro w' hSw; go_simp; try (with_reducible rfl)
    (try simp only [Act.put]); (try simp only [sA, sB, sC])
    rw [← hF]
    exact tlis2 H1.out  _ Y
set_option maxHeartbeats 1000000 in
set_option maxRecDepth 100000 in
theorem tlis0 (H0 : tliH w0 gg g1 g2 k kk gc m bc cc i vs z RO Q Fr) (w : World) (X : Hid (SP w0 w ([.row 23 1 (some ⟨gg, 0, none⟩) k gc vs, .own .u8 5 (some ⟨g1, 0, none⟩) m bc z, .own .u8 5 (some ⟨g2, 0, none⟩) m cc z] ++ RO))) :
    wpAnyH Try.prog .any (opsAt Try.f29 41) (NoPanic Q) (tliS w0 gg g1 g2 k kk gc m bc cc i vs z RO) 28 #[false, false, false, false, false, false, false, false, false, false, false, false, false, false, false, false, false, false, false, false, false, false, false, false, false, false, false, false] (Fr y152 y153 y154 y155 y156 y157 y158 y159 y160 y161 y162 y163 y164 y165 y166 y167 y168 y169 y170 y171 y172 y173 y174 y175 y176 y177) w := by
  have H1 := Lib.hid H0
  obtain ⟨HP, ⟨u, hF⟩, HQ⟩ := H0
  rw [hF]
  have hk := HP.out.hk
  have hk2 := HP.out.hk2
  have hi := HP.out.hi
  have t1 : (i : Int) < (m : Int) := by omega
  have t0 : (0 : Int) ≤ (i : Int) := by omega
  have s1 : (kk : Int) < (k : Int) := by omega
  have s0 : (0 : Int) ≤ (kk : Int) := by omega
  have e1 : IntKind.i64.wrap ((k : Int) - 1) = (kk : Int) := by rw [IntWalk.i64_in _ (by omega)]; omega
  have hHeld : (tliS w0 gg g1 g2 k kk gc m bc cc i vs z RO) w := by exact row_at (X.out.row 0 rfl) HP.out.hv
  refine' take_lit (i := 0) (v := _) rfl (by kernel_rfl) (by kernel_rfl) (by kernel_rfl) (fun _ _ _ h => h) (Or.inl ⟨by rfl, ?yy1⟩) (by assumption) ?rr1
  case yy1 => intro w' hSw; go_simp; try (with_reducible rfl)
  (try simp only [Act.put]); (try simp only [sA, sB, sC])
  refine' take_lit (i := 1) (v := _) rfl (by kernel_rfl) (by kernel_rfl) (by kernel_rfl) (fun _ _ _ h => h) (Or.inl ⟨by rfl, ?yy2⟩) (by assumption) ?rr2
  case yy2 => intro w' hSw; go_simp; try (with_reducible rfl)
  (try simp only [Act.put]); (try simp only [sA, sB, sC])
  refine' take_lit (i := 2) (v := _) rfl (by kernel_rfl) (by kernel_rfl) (by kernel_rfl) (fun _ _ _ h => h) (Or.inl ⟨by rfl, ?yy3⟩) (by assumption) ?rr3
  case yy3 => intro w' hSw; go_simp; try (with_reducible rfl)
  (try simp only [Act.put]); (try simp only [sA, sB, sC])
  refine' take_lit (i := 3) (v := _) rfl (by kernel_rfl) (by kernel_rfl) (by kernel_rfl) (fun _ _ _ h => h) (Or.inl ⟨by rfl, ?yy4⟩) (by assumption) ?rr4
  case yy4 => intro w' hSw; go_simp; try (with_reducible rfl)
  (try simp only [Act.put]); (try simp only [sA, sB, sC])
  refine' take_lit (i := 4) (v := _) rfl (by kernel_rfl) (by kernel_rfl) (by kernel_rfl) (fun _ _ _ h => h) (Or.inl ⟨by rfl, ?yy5⟩) (by assumption) ?rr5
  case yy5 => intro w' hSw; go_simp; try (with_reducible rfl)
  (try simp only [Act.put]); (try simp only [sA, sB, sC])
  refine' take_lit (i := 5) (v := _) rfl (by kernel_rfl) (by kernel_rfl) (by kernel_rfl) (fun _ _ _ h => h) (Or.inl ⟨by rfl, ?yy6⟩) (by assumption) ?rr6
  case yy6 => intro w' hSw; go_simp; try (with_reducible rfl)
  (try simp only [Act.put]); (try simp only [sA, sB, sC])
  refine' take_lit (i := 6) (v := _) rfl (by kernel_rfl) (by kernel_rfl) (by kernel_rfl) (fun _ _ _ h => h) (Or.inl ⟨by rfl, ?yy7⟩) (by assumption) ?rr7
  case yy7 => intro w' hSw; go_simp; try (with_reducible rfl)
  (try simp only [Act.put]); (try simp only [sA, sB, sC])
  refine' take_lit (i := 7) (v := _) rfl (by kernel_rfl) (by kernel_rfl) (by kernel_rfl) (fun _ _ _ h => h) (Or.inl ⟨by rfl, ?yy8⟩) (by assumption) ?rr8
  case yy8 => intro w' hSw; unfold tliS at hSw; (try dsimp only at hSw); go_simp; try (with_reducible rfl)
  (try simp only [Act.put]); (try simp only [sA, sB, sC])
  refine' take_lit (i := 8) (v := _) rfl (by kernel_rfl) (by kernel_rfl) (by kernel_rfl) (fun _ _ _ h => h) (Or.inl ⟨by rfl, ?yy9⟩) (by assumption) ?rr9
  case yy9 => intro w' hSw; go_simp; try (with_reducible rfl)
  (try simp only [Act.put]); (try simp only [sA, sB, sC])
  refine' take_lit (i := 9) (v := _) rfl (by kernel_rfl) (by kernel_rfl) (by kernel_rfl) (fun _ _ _ h => h) (Or.inl ⟨by rfl, ?yy10⟩) (by assumption) ?rr10
  case yy10 => intro w' hSw; go_simp; try (with_reducible rfl)
  (try simp only [Act.put]); (try simp only [sA, sB, sC])
  refine' take_lit (i := 10) (v := _) rfl (by kernel_rfl) (by kernel_rfl) (by kernel_rfl) (fun _ _ _ h => h) (Or.inl ⟨by rfl, ?yy11⟩) (by assumption) ?rr11
  case yy11 => intro w' hSw; go_simp; try (with_reducible rfl)
  (try simp only [Act.put]); (try simp only [sA, sB, sC])
  refine' take_lit (i := 11) (v := _) rfl (by kernel_rfl) (by kernel_rfl) (by kernel_rfl) (fun _ _ _ h => h) (Or.inl ⟨by rfl, ?yy12⟩) (by assumption) ?rr12
  case yy12 => intro w' hSw; go_simp; try (with_reducible rfl)
  (try simp only [Act.put]); (try simp only [sA, sB, sC])
  refine' take_lit (i := 14) (v := _) rfl (by kernel_rfl) (by kernel_rfl) (by kernel_rfl) (fun _ _ _ h => h) (Or.inl ⟨by rfl, ?yy13⟩) (by assumption) ?rr13
  case yy13 => intro w' hSw; go_simp; try (with_reducible rfl)
  (try simp only [Act.put]); (try simp only [sA, sB, sC])
  refine' take_lit (i := 15) (v := _) rfl (by kernel_rfl) (by kernel_rfl) (by kernel_rfl) (fun _ _ _ h => h) (Or.inl ⟨by rfl, ?yy14⟩) (by assumption) ?rr14
  case yy14 => intro w' hSw; go_simp; try (with_reducible rfl)
  (try simp only [Act.put]); (try simp only [sA, sB, sC])
  refine' take_lit (i := 16) (v := _) rfl (by kernel_rfl) (by kernel_rfl) (by kernel_rfl) (fun _ _ _ h => h) (Or.inl ⟨by rfl, ?yy15⟩) (by assumption) ?rr15
  case yy15 => intro w' hSw; go_simp; try (with_reducible rfl)
  (try simp only [Act.put]); (try simp only [sA, sB, sC])
  refine' take_lit (i := 17) (v := _) rfl (by kernel_rfl) (by kernel_rfl) (by kernel_rfl) (fun _ _ _ h => h) (Or.inl ⟨by rfl, ?yy16⟩) (by assumption) ?rr16
  case yy16 => intro w' hSw; go_simp; try (with_reducible rfl)
  (try simp only [Act.put]); (try simp only [sA, sB, sC])
  refine' take_lit (i := 18) (v := _) rfl (by kernel_rfl) (by kernel_rfl) (by kernel_rfl) (fun _ _ _ h => h) (Or.inl ⟨by rfl, ?yy17⟩) (by assumption) ?rr17
  case yy17 => intro w' hSw; go_simp; try (with_reducible rfl)
  (try simp only [Act.put]); (try simp only [sA, sB, sC])
  refine' take_lit (i := 19) (v := _) rfl (by kernel_rfl) (by kernel_rfl) (by kernel_rfl) (fun _ _ _ h => h) (Or.inl ⟨by rfl, ?yy18⟩) (by assumption) ?rr18
  case yy18 => intro w' hSw; unfold tliS at hSw; (try dsimp only at hSw); go_simp; try (with_reducible rfl)
  (try simp only [Act.put]); (try simp only [sA, sB, sC])
  refine' take_lit (i := 20) (v := _) rfl (by kernel_rfl) (by kernel_rfl) (by kernel_rfl) (fun _ _ _ h => h) (Or.inl ⟨by rfl, ?yy19⟩) (by assumption) ?rr19
  case yy19 => intro w' hSw; go_simp; try (with_reducible rfl)
  (try simp only [Act.put]); (try simp only [sA, sB, sC])
  refine' take_lit (i := 21) (v := _) rfl (by kernel_rfl) (by kernel_rfl) (by kernel_rfl) (fun _ _ _ h => h) (Or.inl ⟨by rfl, ?yy20⟩) (by assumption) ?rr20
  case yy20 => intro w' hSw; go_simp; try (with_reducible rfl)
  (try simp only [Act.put]); (try simp only [sA, sB, sC])
  refine wpAnyH_ready (rs := [12, 22]) (by kernel_rfl) (by simp) ?_
  refine cons_lit rfl (fun K hK => ?ss12x21) (cons_lit rfl (fun K hK => ?ss22x21) AllReadyH.nil)
  case ss12x21 =>
    have xc := (X.out.own 1 rfl).cell hi
    go_simp
    clear xc
    have Y := X
    refine hK.out _ _ (by exact row_at (Y.out.row 0 rfl) HP.out.hv) (fun hHeld => ?_)
    clear hK K
    (try simp only [Act.put]); (try simp only [sA, sB, sC])
    refine' take_lit (i := 13) (v := _) rfl (by kernel_rfl) (by kernel_rfl) (by kernel_rfl) (fun _ _ _ h => h) (Or.inl ⟨by rfl, ?yy22⟩) (by assumption) ?rr22
    case yy22 => intro w' hSw; go_simp; try (with_reducible rfl)
    (try simp only [Act.put]); (try simp only [sA, sB, sC])
    rw [← hF]
    exact tlis1 H1.out  _ Y
  case ss22x21 =>
    have xc := (X.out.own 2 rfl).cell hi
    go_simp
    clear xc
    have Y := X
    refine hK.out _ _ (by exact row_at (Y.out.row 0 rfl) HP.out.hv) (fun hHeld => ?_)
    clear hK K
    (try simp only [Act.put]); (try simp only [sA, sB, sC])
    refine' take_lit (i := 23) (v := _) rfl (by kernel_rfl) (by kernel_rfl) (by kernel_rfl) (fun _ _ _ h => h) (Or.inl ⟨by rfl, ?yy29⟩) (by assumption) ?rr29
    case yy29 => intro w' hSw; go_simp; try (with_reducible rfl)
    (try simp only [Act.put]); (try simp only [sA, sB, sC])
    rw [← hF]
    exact tlis5 H1.out  _ Y
end
set_option maxRecDepth 100000 in
theorem tli_0 {u0 u1 u2 u3 u4 u5 u6 u7 u8 u9 u10 u11 u12 u13 u15 u16 u17 u18 u19 u21 u22 u23 u24 u26 u27 u28 u29 u30 u31 u32 u33 u34 u35 u36 u37 u38 u39 u40 u41 u42 u43 u44 u45 u46 u47 u48 u49 u50 u51 u52 u53 u54 u55 u56 u57 u58 u59 u60 u61 u62 u63 u64 u65 u66 u67 u68 u69 u70 u71 u72 u73 u74 u75 u76 u77 u78 u79 u80 u81 u82 u83 u84 u85 u86 u87 u88 u89 u90 u91 u92 u93 u94 u95 u96 u97 u98 u99 u100 u101 u102 u103 u104 u105 u106 u107 u108 u109 u110 u111 u112 u113 u114 u115 u116 u117 u118 u119 u120 u121 u122 u123 u124 u125 u126 u127 u128 u129 u130 u131 u132 u133 u134 u135 u136 u137 u138 u139 u140 u141 u142 u143 u144 u145 u146 u147 u148 u149 u150 u151 u152 u153 u154 u155 u156 u157 u158 u159 u160 u161 u162 u163 u164 u165 u166 u167 u168 u169 u170 u171 u172 u173 u174 u175 u176 u177 u178 u179 u180 u181 u182 u183 u184 u185 u186 u187 u188 u189 u190 u191 u192 u193 u194 u195 : Value} {Q : Exit → Act → World → Prop} {w0 : World} {gg g1 g2 k kk gc m bc cc i : Nat} {vs : List Value} {z : List Int} {RO : List IT} (HP : Hid (tliP w0 gg g1 g2 k kk gc m bc cc i vs z RO)) (HQ : Hid (@tliQ u0 u1 u2 u3 u4 u5 u6 u7 u8 u9 u10 u11 u12 u13 u15 u16 u17 u18 u19 u21 u22 u23 u24 u26 u27 u28 u29 u30 u31 u32 u33 u34 u35 u36 u37 u38 u39 u40 u41 u42 u43 u44 u45 u46 u47 u48 u49 u50 u51 u52 u53 u54 u55 u56 u57 u58 u59 u60 u61 u62 u63 u64 u65 u66 u67 u68 u69 u70 u71 u72 u73 u74 u75 u76 u77 u78 u79 u80 u81 u82 u83 u84 u85 u86 u87 u88 u89 u90 u91 u92 u93 u94 u95 u96 u97 u98 u99 u100 u101 u102 u103 u104 u105 u106 u107 u108 u109 u110 u111 u112 u113 u114 u115 u116 u117 u118 u119 u120 u121 u122 u123 u124 u125 u126 u127 u128 u129 u130 u131 u132 u133 u134 u135 u136 u137 u138 u139 u140 u141 u142 u143 u144 u145 u146 u147 u148 u149 u150 u151 u178 u179 u180 u181 u182 u183 u184 u185 u186 u187 u188 u189 u190 u191 u192 u193 u194 u195 Q w0 gg g1 g2 k kk gc m bc cc i vs z RO)) (w : World) (X : Hid (SP w0 w ([.row 23 1 (some ⟨gg, 0, none⟩) k gc vs, .own .u8 5 (some ⟨g1, 0, none⟩) m bc z, .own .u8 5 (some ⟨g2, 0, none⟩) m cc z] ++ RO))) :
    wpAnyH Try.prog .any (opsAt Try.f29 41) (NoPanic Q) (tliS w0 gg g1 g2 k kk gc m bc cc i vs z RO) 28 #[false, false, false, false, false, false, false, false, false, false, false, false, false, false, false, false, false, false, false, false, false, false, false, false, false, false, false, false] ⟨List.toArray (u0 :: u1 :: u2 :: u3 :: u4 :: u5 :: u6 :: u7 :: u8 :: u9 :: u10 :: u11 :: u12 :: u13 :: .slice (some ⟨gg, 0, none⟩) k gc :: u15 :: u16 :: u17 :: u18 :: u19 :: .slice (some ⟨g1, 0, none⟩) m bc :: u21 :: u22 :: u23 :: u24 :: .int .i64 (i : Int) :: u26 :: u27 :: u28 :: u29 :: u30 :: u31 :: u32 :: u33 :: u34 :: u35 :: u36 :: u37 :: u38 :: u39 :: u40 :: u41 :: u42 :: u43 :: u44 :: u45 :: u46 :: u47 :: u48 :: u49 :: u50 :: u51 :: u52 :: u53 :: u54 :: u55 :: u56 :: u57 :: u58 :: u59 :: u60 :: u61 :: u62 :: u63 :: u64 :: u65 :: u66 :: u67 :: u68 :: u69 :: u70 :: u71 :: u72 :: u73 :: u74 :: u75 :: u76 :: u77 :: u78 :: u79 :: u80 :: u81 :: u82 :: u83 :: u84 :: u85 :: u86 :: u87 :: u88 :: u89 :: u90 :: u91 :: u92 :: u93 :: u94 :: u95 :: u96 :: u97 :: u98 :: u99 :: u100 :: u101 :: u102 :: u103 :: u104 :: u105 :: u106 :: u107 :: u108 :: u109 :: u110 :: u111 :: u112 :: u113 :: u114 :: u115 :: u116 :: u117 :: u118 :: u119 :: u120 :: u121 :: u122 :: u123 :: u124 :: u125 :: u126 :: u127 :: u128 :: u129 :: u130 :: u131 :: u132 :: u133 :: u134 :: u135 :: u136 :: u137 :: u138 :: u139 :: u140 :: u141 :: u142 :: u143 :: u144 :: u145 :: u146 :: u147 :: u148 :: u149 :: u150 :: u151 :: u152 :: u153 :: u154 :: u155 :: u156 :: u157 :: u158 :: u159 :: u160 :: u161 :: u162 :: u163 :: u164 :: u165 :: u166 :: u167 :: u168 :: u169 :: u170 :: u171 :: u172 :: u173 :: u174 :: u175 :: u176 :: u177 :: u178 :: u179 :: u180 :: u181 :: u182 :: u183 :: u184 :: u185 :: u186 :: u187 :: u188 :: u189 :: u190 :: u191 :: u192 :: u193 :: u194 :: u195 :: []), []⟩ w :=
  tlis0 (Fr := (fun y152 y153 y154 y155 y156 y157 y158 y159 y160 y161 y162 y163 y164 y165 y166 y167 y168 y169 y170 y171 y172 y173 y174 y175 y176 y177 => ⟨List.toArray (u0 :: u1 :: u2 :: u3 :: u4 :: u5 :: u6 :: u7 :: u8 :: u9 :: u10 :: u11 :: u12 :: u13 :: .slice (some ⟨gg, 0, none⟩) k gc :: u15 :: u16 :: u17 :: u18 :: u19 :: .slice (some ⟨g1, 0, none⟩) m bc :: u21 :: u22 :: u23 :: u24 :: .int .i64 (i : Int) :: u26 :: u27 :: u28 :: u29 :: u30 :: u31 :: u32 :: u33 :: u34 :: u35 :: u36 :: u37 :: u38 :: u39 :: u40 :: u41 :: u42 :: u43 :: u44 :: u45 :: u46 :: u47 :: u48 :: u49 :: u50 :: u51 :: u52 :: u53 :: u54 :: u55 :: u56 :: u57 :: u58 :: u59 :: u60 :: u61 :: u62 :: u63 :: u64 :: u65 :: u66 :: u67 :: u68 :: u69 :: u70 :: u71 :: u72 :: u73 :: u74 :: u75 :: u76 :: u77 :: u78 :: u79 :: u80 :: u81 :: u82 :: u83 :: u84 :: u85 :: u86 :: u87 :: u88 :: u89 :: u90 :: u91 :: u92 :: u93 :: u94 :: u95 :: u96 :: u97 :: u98 :: u99 :: u100 :: u101 :: u102 :: u103 :: u104 :: u105 :: u106 :: u107 :: u108 :: u109 :: u110 :: u111 :: u112 :: u113 :: u114 :: u115 :: u116 :: u117 :: u118 :: u119 :: u120 :: u121 :: u122 :: u123 :: u124 :: u125 :: u126 :: u127 :: u128 :: u129 :: u130 :: u131 :: u132 :: u133 :: u134 :: u135 :: u136 :: u137 :: u138 :: u139 :: u140 :: u141 :: u142 :: u143 :: u144 :: u145 :: u146 :: u147 :: u148 :: u149 :: u150 :: u151 :: y152 :: y153 :: y154 :: y155 :: y156 :: y157 :: y158 :: y159 :: y160 :: y161 :: y162 :: y163 :: y164 :: y165 :: y166 :: y167 :: y168 :: y169 :: y170 :: y171 :: y172 :: y173 :: y174 :: y175 :: y176 :: y177 :: u178 :: u179 :: u180 :: u181 :: u182 :: u183 :: u184 :: u185 :: u186 :: u187 :: u188 :: u189 :: u190 :: u191 :: u192 :: u193 :: u194 :: u195 :: []), []⟩)) ⟨HP, ⟨fun i => ([u0, u1, u2, u3, u4, u5, u6, u7, u8, u9, u10, u11, u12, u13, undef, u15, u16, u17, u18, u19, undef, u21, u22, u23, u24, undef, u26, u27, u28, u29, u30, u31, u32, u33, u34, u35, u36, u37, u38, u39, u40, u41, u42, u43, u44, u45, u46, u47, u48, u49, u50, u51, u52, u53, u54, u55, u56, u57, u58, u59, u60, u61, u62, u63, u64, u65, u66, u67, u68, u69, u70, u71, u72, u73, u74, u75, u76, u77, u78, u79, u80, u81, u82, u83, u84, u85, u86, u87, u88, u89, u90, u91, u92, u93, u94, u95, u96, u97, u98, u99, u100, u101, u102, u103, u104, u105, u106, u107, u108, u109, u110, u111, u112, u113, u114, u115, u116, u117, u118, u119, u120, u121, u122, u123, u124, u125, u126, u127, u128, u129, u130, u131, u132, u133, u134, u135, u136, u137, u138, u139, u140, u141, u142, u143, u144, u145, u146, u147, u148, u149, u150, u151, u152, u153, u154, u155, u156, u157, u158, u159, u160, u161, u162, u163, u164, u165, u166, u167, u168, u169, u170, u171, u172, u173, u174, u175, u176, u177, u178, u179, u180, u181, u182, u183, u184, u185, u186, u187, u188, u189, u190, u191, u192, u193, u194, u195] : List Value)[i]?.getD undef, fun _ _ _ _ _ _ _ _ _ _ _ _ _ _ _ _ _ _ _ _ _ _ _ _ _ _ => rfl⟩, Lib.hid HQ.out⟩ w X
set_option maxHeartbeats 1000000 in
set_option maxRecDepth 100000 in
theorem tells_inc {u0 u1 u2 u3 u4 u5 u6 u7 u8 u9 u10 u11 u12 u13 u15 u16 u17 u18 u19 u21 u22 u23 u24 u25 u26 u27 u28 u29 u30 u31 u32 u33 u34 u35 u36 u37 u38 u39 u40 u41 u42 u43 u44 u45 u46 u47 u48 u49 u50 u51 u52 u53 u54 u55 u56 u57 u58 u59 u60 u61 u62 u63 u64 u65 u66 u67 u68 u69 u70 u71 u72 u73 u74 u75 u76 u77 u78 u79 u80 u81 u82 u83 u84 u85 u86 u87 u88 u89 u90 u91 u92 u93 u94 u95 u96 u97 u98 u99 u100 u101 u102 u103 u104 u105 u106 u107 u108 u109 u110 u111 u112 u113 u114 u115 u116 u117 u118 u119 u120 u121 u122 u123 u124 u125 u126 u127 u128 u129 u130 u131 u132 u133 u134 u135 u136 u137 u138 u139 u140 u141 u142 u143 u144 u145 u146 u150 u151 u152 u153 u154 u155 u156 u157 u158 u159 u160 u161 u162 u163 u164 u165 u166 u167 u168 u169 u170 u171 u172 u173 u174 u175 u176 u177 u178 u179 u180 u181 u182 u183 u184 u185 u186 u187 u188 u189 u190 u191 u192 u193 u194 u195 : Value} {Q : Exit → Act → World → Prop} (w : World) (gA bA cA : Option Addr) (k kk gc m bc cc : Nat) (vs : List Value) (z : List Int) (RO : List IT) (hk : kk + 1 = k) (hk2 : k ≤ 100000) (hm : m ≤ 100000) (hv : Hid (vs[kk]? = some (.slice cA m cc))) (w1 : World) (X1 : Hid (SP w w1 ([.row 23 1 gA k gc vs, .own .u8 5 bA m bc z, .own .u8 5 cA m cc z] ++ RO)))
    (HQ : Hid (∀ (y25 y149 y150 y151 y152 y153 y154 y155 y156 y157 y158 y159 y160 y161 y162 y163 y164 y165 y166 y167 y168 y169 y170 y171 y172 y173 y174 y175 y176 y177 y178 : Value) (z' : List Int) (w' : World), SP w w' ([.row 23 1 gA k gc vs, .own .u8 5 bA m bc z', .own .u8 5 cA m cc z'] ++ RO) → Q (.exit 6) ⟨List.toArray (u0 :: u1 :: u2 :: u3 :: u4 :: u5 :: u6 :: u7 :: u8 :: u9 :: u10 :: u11 :: u12 :: u13 :: .slice gA k gc :: u15 :: u16 :: u17 :: u18 :: u19 :: .slice bA m bc :: u21 :: u22 :: u23 :: u24 :: y25 :: u26 :: u27 :: u28 :: u29 :: u30 :: u31 :: u32 :: u33 :: u34 :: u35 :: u36 :: u37 :: u38 :: u39 :: u40 :: u41 :: u42 :: u43 :: u44 :: u45 :: u46 :: u47 :: u48 :: u49 :: u50 :: u51 :: u52 :: u53 :: u54 :: u55 :: u56 :: u57 :: u58 :: u59 :: u60 :: u61 :: u62 :: u63 :: u64 :: u65 :: u66 :: u67 :: u68 :: u69 :: u70 :: u71 :: u72 :: u73 :: u74 :: u75 :: u76 :: u77 :: u78 :: u79 :: u80 :: u81 :: u82 :: u83 :: u84 :: u85 :: u86 :: u87 :: u88 :: u89 :: u90 :: u91 :: u92 :: u93 :: u94 :: u95 :: u96 :: u97 :: u98 :: u99 :: u100 :: u101 :: u102 :: u103 :: u104 :: u105 :: u106 :: u107 :: u108 :: u109 :: u110 :: u111 :: u112 :: u113 :: u114 :: u115 :: u116 :: u117 :: u118 :: u119 :: u120 :: u121 :: u122 :: u123 :: u124 :: u125 :: u126 :: u127 :: u128 :: u129 :: u130 :: u131 :: u132 :: u133 :: u134 :: u135 :: u136 :: u137 :: u138 :: u139 :: u140 :: u141 :: u142 :: u143 :: u144 :: u145 :: u146 :: .slice bA m bc :: .int .i64 (m : Int) :: y149 :: y150 :: y151 :: y152 :: y153 :: y154 :: y155 :: y156 :: y157 :: y158 :: y159 :: y160 :: y161 :: y162 :: y163 :: y164 :: y165 :: y166 :: y167 :: y168 :: y169 :: y170 :: y171 :: y172 :: y173 :: y174 :: y175 :: y176 :: y177 :: y178 :: u179 :: u180 :: u181 :: u182 :: u183 :: u184 :: u185 :: u186 :: u187 :: u188 :: u189 :: u190 :: u191 :: u192 :: u193 :: u194 :: u195 :: []), []⟩ w')) :
    Code.wp Try.prog (loopIn Try.f29 40) Q ⟨List.toArray (u0 :: u1 :: u2 :: u3 :: u4 :: u5 :: u6 :: u7 :: u8 :: u9 :: u10 :: u11 :: u12 :: u13 :: .slice gA k gc :: u15 :: u16 :: u17 :: u18 :: u19 :: .slice bA m bc :: u21 :: u22 :: u23 :: u24 :: u25 :: u26 :: u27 :: u28 :: u29 :: u30 :: u31 :: u32 :: u33 :: u34 :: u35 :: u36 :: u37 :: u38 :: u39 :: u40 :: u41 :: u42 :: u43 :: u44 :: u45 :: u46 :: u47 :: u48 :: u49 :: u50 :: u51 :: u52 :: u53 :: u54 :: u55 :: u56 :: u57 :: u58 :: u59 :: u60 :: u61 :: u62 :: u63 :: u64 :: u65 :: u66 :: u67 :: u68 :: u69 :: u70 :: u71 :: u72 :: u73 :: u74 :: u75 :: u76 :: u77 :: u78 :: u79 :: u80 :: u81 :: u82 :: u83 :: u84 :: u85 :: u86 :: u87 :: u88 :: u89 :: u90 :: u91 :: u92 :: u93 :: u94 :: u95 :: u96 :: u97 :: u98 :: u99 :: u100 :: u101 :: u102 :: u103 :: u104 :: u105 :: u106 :: u107 :: u108 :: u109 :: u110 :: u111 :: u112 :: u113 :: u114 :: u115 :: u116 :: u117 :: u118 :: u119 :: u120 :: u121 :: u122 :: u123 :: u124 :: u125 :: u126 :: u127 :: u128 :: u129 :: u130 :: u131 :: u132 :: u133 :: u134 :: u135 :: u136 :: u137 :: u138 :: u139 :: u140 :: u141 :: u142 :: u143 :: u144 :: u145 :: u146 :: .slice bA m bc :: .int .i64 (m : Int) :: .int .i64 0 :: u150 :: u151 :: u152 :: u153 :: u154 :: u155 :: u156 :: u157 :: u158 :: u159 :: u160 :: u161 :: u162 :: u163 :: u164 :: u165 :: u166 :: u167 :: u168 :: u169 :: u170 :: u171 :: u172 :: u173 :: u174 :: u175 :: u176 :: u177 :: u178 :: u179 :: u180 :: u181 :: u182 :: u183 :: u184 :: u185 :: u186 :: u187 :: u188 :: u189 :: u190 :: u191 :: u192 :: u193 :: u194 :: u195 :: []), []⟩ w1 := by
  conv => arg 2; whnf
  go_loopw [25, 149] (fun _ s149 wr => ∃ (i : Nat) (z' : List Int), i ≤ m ∧ s149 = .int .i64 (i : Int) ∧ SP w wr ([.row 23 1 gA k gc vs, .own .u8 5 bA m bc z', .own .u8 5 cA m cc z'] ++ RO)) (fun _ s149 _ => m - (intOf s149).toNat)
  case atStart => exact ⟨0, z, Nat.zero_le _, rfl, X1.out⟩
  case round =>
    obtain ⟨i, z2, hi, rfl, Y0⟩ := hrel
    have Y := Lib.hid Y0
    clear Y0 X1
    by_cases hlt : i < m
    · have t1 : (i : Int) < (m : Int) := by omega
      have t0 : (0 : Int) ≤ (i : Int) := by omega
      have e6 : IntKind.i64.wrap ((i : Int) + 1) = (i : Int) + 1 := IntWalk.i64_in _ (by omega)
      obtain ⟨gg, hgg, _⟩ := row_head (Y.out.row 0 rfl) (by omega)
      obtain ⟨g1, hg1, _⟩ := (Y.out.own 1 rfl).form (by omega)
      obtain ⟨g2, hg2, _⟩ := (Y.out.own 2 rfl).form (by omega)
      subst hgg hg1 hg2
      go_upto_region 41 with fail
      refine wp_region_noPanic ?_
      refine wp_region_held_drew (S := tliS w gg g1 g2 k kk gc m bc cc i vs z2 RO) (by kernel_rfl) (row_at (Y.out.drew.row 0 rfl) hv.out) (fun hHeld => ?_)
      clear hHeld
      refine tli_0 (Lib.hid ⟨hk, hk2, hlt, hm, hv.out⟩) (Lib.hid ?_) _ (Lib.hid Y.out.drew)
      intro y152 y153 y154 y155 y156 y157 y158 y159 y160 y161 y162 y163 y164 y165 y166 y167 y168 y169 y170 y171 y172 y173 y174 y175 y176 y177 w2 hX2
      have Z := Lib.hid hX2
      clear hX2 Y
      go_wp2_with fail
      go_roundw
      case rel => exact ⟨i + 1, _, by omega, by go_num, Z.out⟩
      case measure => simp [intOf]; omega
    · have t1 : ¬ (i : Int) < (m : Int) := by omega
      obtain rfl : i = m := by omega
      go_wp2_with fail
      exact HQ.out _ _ _ _ _ _ _ _ _ _ _ _ _ _ _ _ _ _ _ _ _ _ _ _ _ _ _ _ _ _ _ z2 _ Y.out
end Go.Proofs.Ytljbfnabnkkfeaa
