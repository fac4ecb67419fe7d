import Derived.WalkKit
import Derived.Lib.Hide
import Derived.Below
import Derived.Laws.OwnMore
import Derived.Deep.AppendLies
import Derived.Deep.Draws
import Derived.Maps.AppendAt
import Derived.OwnWalk
import Derived.RegionTactic
import Derived.Laws.Rows
import Derived.Laws.Tables
import Derived.Deep.RegionHeld3
import Derived.Deep.DrawnRows
import Derived.BigFrame
import Derived.ProofKit
import Derived.OpenShut
import Derived.RangeFuncNested
import Derived.RangeFuncBound
import Derived.RangeFuncCalls
import Derived.RangeFuncLeaves
import Derived.Shelf.Abstract
import Derived.Shelf.RegionOpen
import Derived.OwnWalkIn
import Derived.TacticsInMore
import Derived.LoopNIn
import Derived.LoopIn
import Derived.WalkSpells
import Derived.Deep.QuietTactic
import Derived.BigQuiet
import Derived.Deep.DeepCutAuto
import Derived.Deep.MidRow
import Derived.Laws.BitsLemmas
import Derived.Laws.BitsAllLaws
import Derived.Outline
import Derived.Laws.CopyOwn
import Derived.Deep.RegionLaw
import Derived.Laws.MakeOwn
import Derived.Maps.Keyed
import Derived.DeepKeys3
import Derived.DeepKeys4
import Derived.Laws.ResultCell
import Derived.Laws.EntriesVeiled
import Derived.BigRegion
import Derived.Lib.SliceRun
import Derived.LaidEql
import Derived.Maps.OwnIn
import Derived.Deep.Slices
import Derived.Deep.Strs
import Derived.ChangeSame
import Derived.Laws.StructEq
import Derived.BigGuardPart
import Derived.Test.YtljbfnabnkkfeaaProg
import Derived.Test.YtljbfnabnkkfeaaTL01
import Derived.Test.YtljbfnabnkkfeaaTL02
import Derived.Test.YtljbfnabnkkfeaaTL03
import Derived.Test.YtljbfnabnkkfeaaTL04
import Derived.Test.YtljbfnabnkkfeaaTL05
import Derived.Test.YtljbfnabnkkfeaaTL06
import Derived.Test.YtljbfnabnkkfeaaTL07
import Derived.Test.YtljbfnabnkkfeaaTL08
import Derived.Test.YtljbfnabnkkfeaaTL09
import Derived.Test.YtljbfnabnkkfeaaTL10
import Derived.Test.YtljbfnabnkkfeaaTL11
import Derived.Test.YtljbfnabnkkfeaaTL12
import Derived.Test.YtljbfnabnkkfeaaTL13
import Derived.Test.YtljbfnabnkkfeaaTL14
import Derived.Test.YtljbfnabnkkfeaaTL15
import Derived.Test.YtljbfnabnkkfeaaTL16
import Derived.Test.YtljbfnabnkkfeaaTL17
import Derived.Test.YtljbfnabnkkfeaaTL18
import Derived.Test.YtljbfnabnkkfeaaTL19
import Derived.Test.YtljbfnabnkkfeaaTL20
import Derived.Test.YtljbfnabnkkfeaaTL21
import Derived.Test.YtljbfnabnkkfeaaTL22
import Derived.Test.YtljbfnabnkkfeaaTL23
import Derived.Test.YtljbfnabnkkfeaaTL24
import Derived.Test.YtljbfnabnkkfeaaTL25
import Derived.Test.YtljbfnabnkkfeaaTL26
/- Joined by program: FgTF, FgTG, FgTH. -/
namespace Go.Proofs.Ytljbfnabnkkfeaa
open Go.RowKit
set_option linter.unusedVariables false
set_option linter.unusedSimpArgs false
attribute [local go_sem ↓] Go.wp_at_zero Go.wp_at_succ
set_option maxHeartbeats 4000000 in
set_option maxRecDepth 100000 in
theorem tells_43 {u0 u1 u2 u3 u4 u5 u6 u7 u8 u10 u12 u13 u14 u15 u16 u17 u18 u19 u20 u21 u22 u23 u24 u25 u26 u27 u28 u29 u30 u31 u32 u33 u34 u35 u36 u37 u38 u39 u40 u41 u42 u43 u44 u45 u46 u47 u48 u49 u50 u51 u52 u53 u54 u55 u56 u57 u58 u59 u60 u61 u62 u63 u64 u65 u66 u67 u68 u69 u70 u71 u72 u73 u74 u75 u76 u77 u78 u79 u80 u81 u82 u83 u84 u85 u86 u87 u88 u89 u90 u91 u92 u93 u94 u95 u96 u97 u98 u99 u100 u101 u102 u103 u104 u105 u106 u107 u108 u109 u110 u111 u112 u113 u114 u115 u116 u117 u118 u119 u120 u121 u122 u123 u124 u125 u126 u127 u128 u129 u130 u131 u132 u133 u134 u135 u136 u137 u138 u139 u140 u141 u142 u143 u144 u145 u146 u147 u148 u149 u150 u151 u152 u153 u154 u155 u156 u157 u158 u159 u160 u161 u162 u163 u164 u165 u166 u167 u168 u169 u170 u171 u172 u173 u174 u175 u176 u177 u178 u179 u180 u181 u182 u183 u184 u185 u186 u187 u188 u189 u190 u192 u193 u194 u195 u191 : Value} {Q : Exit → Act → World → Prop} (w : World) (TB MB : Nat) (E : List IT) (hE : ∃ y, E = [y]) (kA : Option Addr) (k kc : Nat) (gA : Option Addr) (gc i : Nat) (hi : i ≤ 41) (w1 : World) (HT : Hid (TSTE w w1 TB MB E kA k kc gA gc i))
    (HQ : Hid (∀ (y179 y180 y181 y182 y183 y184 y185 y186 y187 y188 y189 y190 : Value) (w' : World), TSTE w w' TB MB E kA k kc gA gc i → Q .normal ⟨List.toArray (u0 :: u1 :: u2 :: u3 :: u4 :: u5 :: u6 :: u7 :: u8 :: .pointer (some ⟨TB, 0, none⟩) :: u10 :: .pointer (some ⟨MB, 0, none⟩) :: u12 :: u13 :: u14 :: u15 :: u16 :: u17 :: u18 :: u19 :: u20 :: u21 :: u22 :: u23 :: u24 :: u25 :: u26 :: u27 :: u28 :: u29 :: u30 :: u31 :: u32 :: u33 :: u34 :: u35 :: u36 :: u37 :: u38 :: u39 :: u40 :: u41 :: u42 :: u43 :: u44 :: u45 :: u46 :: u47 :: u48 :: u49 :: u50 :: u51 :: u52 :: u53 :: u54 :: u55 :: u56 :: u57 :: u58 :: u59 :: u60 :: u61 :: u62 :: u63 :: u64 :: u65 :: u66 :: u67 :: u68 :: u69 :: u70 :: u71 :: u72 :: u73 :: u74 :: u75 :: u76 :: u77 :: u78 :: u79 :: u80 :: u81 :: u82 :: u83 :: u84 :: u85 :: u86 :: u87 :: u88 :: u89 :: u90 :: u91 :: u92 :: u93 :: u94 :: u95 :: u96 :: u97 :: u98 :: u99 :: u100 :: u101 :: u102 :: u103 :: u104 :: u105 :: u106 :: u107 :: u108 :: u109 :: u110 :: u111 :: u112 :: u113 :: u114 :: u115 :: u116 :: u117 :: u118 :: u119 :: u120 :: u121 :: u122 :: u123 :: u124 :: u125 :: u126 :: u127 :: u128 :: u129 :: u130 :: u131 :: u132 :: u133 :: u134 :: u135 :: u136 :: u137 :: u138 :: u139 :: u140 :: u141 :: u142 :: u143 :: u144 :: u145 :: u146 :: u147 :: u148 :: u149 :: u150 :: u151 :: u152 :: u153 :: u154 :: u155 :: u156 :: u157 :: u158 :: u159 :: u160 :: u161 :: u162 :: u163 :: u164 :: u165 :: u166 :: u167 :: u168 :: u169 :: u170 :: u171 :: u172 :: u173 :: u174 :: u175 :: u176 :: u177 :: u178 :: y179 :: y180 :: y181 :: y182 :: y183 :: y184 :: y185 :: y186 :: y187 :: y188 :: y189 :: y190 :: .bool false :: u192 :: u193 :: u194 :: u195 :: []), []⟩ w')) :
    Code.wp Try.prog (regAt Try.f29 43) Q ⟨List.toArray (u0 :: u1 :: u2 :: u3 :: u4 :: u5 :: u6 :: u7 :: u8 :: .pointer (some ⟨TB, 0, none⟩) :: u10 :: .pointer (some ⟨MB, 0, none⟩) :: u12 :: u13 :: u14 :: u15 :: u16 :: u17 :: u18 :: u19 :: u20 :: u21 :: u22 :: u23 :: u24 :: u25 :: u26 :: u27 :: u28 :: u29 :: u30 :: u31 :: u32 :: u33 :: u34 :: u35 :: u36 :: u37 :: u38 :: u39 :: u40 :: u41 :: u42 :: u43 :: u44 :: u45 :: u46 :: u47 :: u48 :: u49 :: u50 :: u51 :: u52 :: u53 :: u54 :: u55 :: u56 :: u57 :: u58 :: u59 :: u60 :: u61 :: u62 :: u63 :: u64 :: u65 :: u66 :: u67 :: u68 :: u69 :: u70 :: u71 :: u72 :: u73 :: u74 :: u75 :: u76 :: u77 :: u78 :: u79 :: u80 :: u81 :: u82 :: u83 :: u84 :: u85 :: u86 :: u87 :: u88 :: u89 :: u90 :: u91 :: u92 :: u93 :: u94 :: u95 :: u96 :: u97 :: u98 :: u99 :: u100 :: u101 :: u102 :: u103 :: u104 :: u105 :: u106 :: u107 :: u108 :: u109 :: u110 :: u111 :: u112 :: u113 :: u114 :: u115 :: u116 :: u117 :: u118 :: u119 :: u120 :: u121 :: u122 :: u123 :: u124 :: u125 :: u126 :: u127 :: u128 :: u129 :: u130 :: u131 :: u132 :: u133 :: u134 :: u135 :: u136 :: u137 :: u138 :: u139 :: u140 :: u141 :: u142 :: u143 :: u144 :: u145 :: u146 :: u147 :: u148 :: u149 :: u150 :: u151 :: u152 :: u153 :: u154 :: u155 :: u156 :: u157 :: u158 :: u159 :: u160 :: u161 :: u162 :: u163 :: u164 :: u165 :: u166 :: u167 :: u168 :: u169 :: u170 :: u171 :: u172 :: u173 :: u174 :: u175 :: u176 :: u177 :: u178 :: u179 :: u180 :: u181 :: u182 :: u183 :: u184 :: u185 :: u186 :: u187 :: u188 :: u189 :: u190 :: u191 :: u192 :: u193 :: u194 :: u195 :: []), []⟩ w1 := by
  conv => arg 2; whnf
  obtain ⟨y, rfl⟩ := hE
  obtain ⟨a, r, A, m, d, l, G1, G2, RO, hT⟩ := HT.out
  have HST := Lib.hid hT
  have H1 := Lib.hid (show TAB w w1 TB a (([y] ++ ([.blk MB 109 (rcells r A m d), .row 23 1 kA k kc (G1.map gV), .row 23 1 gA k gc (G2.map gV)] ++ (G1.map gIT ++ G2.map gIT))) ++ RO) from hT.tab)
  have HM := Lib.hid hT.refs
  have HNOW := Lib.hid hT.refs.rel.now
  have hes := hT.refs.rel.gs
  rw [← hT.refs.mem.es] at hes
  have HGV := Lib.hid (gvs_rel hes)
  have HLM := Lib.hid hT.refs.mem.row.len
  have HGL := Lib.hid (show a.gs.length = m by rw [hes.len, List.length_map]; exact HLM.out)
  have HB := Lib.hid (show ∀ W, SP w W (([y] ++ ([.blk MB 109 (rcells r A m d), .row 23 1 kA k kc (G1.map gV), .row 23 1 gA k gc (G2.map gV)] ++ (G1.map gIT ++ G2.map gIT))) ++ RO) → BLOCK W MB 109 (rcells r A m d) from fun W h => h.blk 1 rfl)
  clear hT hes HT
  refine wp_region_noPanic ?_
  refine wp_region_held_drew (S := (fun W => BLOCK W MB 109 (rcells r A m d))) (by kernel_rfl) (HB.out _ H1.out.drew.right) (fun hHeld => ?_)
  have H2 := Lib.hid H1.out.drew
  have HM2 := Lib.hid (HM.out.keep (show SP w w1 RO from H1.out.right.right) (show SP w w1.drew RO from H2.out.right.right) (fun y hy => hy) (Nat.le_refl _))
  generalize w1.drew = w2 at H2 HM2 hHeld ⊢
  clear H1 HM
  refine' take_lit (i := 0) (v := _) rfl (by kernel_rfl) (by kernel_rfl) (by kernel_rfl) (fun _ _ _ h => h) (Or.inl ⟨by rfl, ?yy1⟩) (by assumption) ?rr1
  case yy1 => intro w' hSw; (try dsimp only at hSw); go_simp; try (with_reducible rfl)
  (try simp only [Act.put]); (try simp only [List.setIfInBounds_toArray, List.set_cons_zero, List.set_cons_succ])
  refine' take_lit (i := 2) (v := _) rfl (by kernel_rfl) (by kernel_rfl) (by kernel_rfl) (fun _ _ _ h => h) (Or.inl ⟨by rfl, ?yy2⟩) (by assumption) ?rr2
  case yy2 => intro w' hSw; (try dsimp only at hSw); go_simp; try (with_reducible rfl)
  (try simp only [Act.put]); (try simp only [List.setIfInBounds_toArray, List.set_cons_zero, List.set_cons_succ])
  refine' take_lit (i := 3) (v := .int .i64 r.now) rfl (by kernel_rfl) (by kernel_rfl) (by kernel_rfl) (fun _ _ _ h => h) (Or.inl ⟨by rfl, ?yy3⟩) (by assumption) ?rr3
  case yy3 => intro w' hSw; have x2 : w'.cell? ⟨MB, 2, none⟩ = some (.int .i64 r.now) := BLOCK.cell hSw 2; go_simp
  (try simp only [Act.put]); (try simp only [List.setIfInBounds_toArray, List.set_cons_zero, List.set_cons_succ])
  refine wpAnyH_ready (rs := [1]) (by kernel_rfl) (by simp) ?_
  refine cons_lit rfl (fun K hK => ?ss1x4) AllReadyH.nil
  case ss1x4 =>
    go_simp
    refine (tnow H2.out).mono ?_
    rintro e v ⟨rfl, hv⟩
    rw [hv, HNOW.out]
    clear hv v
    refine hK.out _ _ (by exact hHeld) (fun hHeld => ?_)
    clear hK K
    (try simp only [Act.put]); (try simp only [List.setIfInBounds_toArray, List.set_cons_zero, List.set_cons_succ])
    refine' take_lit (i := 4) (v := .bool false) rfl (by kernel_rfl) (by kernel_rfl) (by kernel_rfl) (fun _ _ _ h => h) (Or.inl ⟨by rfl, ?yy5⟩) (by assumption) ?rr5
    case yy5 => intro w' hSw; go_simp
    (try simp only [Act.put]); (try simp only [List.setIfInBounds_toArray, List.set_cons_zero, List.set_cons_succ])
    refine' take_lit (i := 5) (v := _) rfl (by kernel_rfl) (by kernel_rfl) (by kernel_rfl) (fun _ _ _ h => h) (Or.inl ⟨by rfl, ?yy7⟩) (by assumption) ?rr7
    case yy7 => intro w' hSw; (try dsimp only at hSw); go_simp; try (with_reducible rfl)
    (try simp only [Act.put]); (try simp only [List.setIfInBounds_toArray, List.set_cons_zero, List.set_cons_succ])
    refine' take_lit (i := 6) (v := _) rfl (by kernel_rfl) (by kernel_rfl) (by kernel_rfl) (fun _ _ _ h => h) (Or.inl ⟨by rfl, ?yy8⟩) (by assumption) ?rr8
    case yy8 => intro w' hSw; (try dsimp only at hSw); go_simp; try (with_reducible rfl)
    (try simp only [Act.put]); (try simp only [List.setIfInBounds_toArray, List.set_cons_zero, List.set_cons_succ])
    refine' take_lit (i := 8) (v := .agg (rcells r A m d)) rfl (by kernel_rfl) (by kernel_rfl) (by kernel_rfl) (fun _ _ _ h => h) (Or.inl ⟨by rfl, ?yy6⟩) (by assumption) ?rr6
    case yy6 => intro w' hSw; exact exec_load_row 109 _ rfl MB rfl 109 (rcells r A m d) (0, 0) _ hSw Try.underlying109 rfl (by kernel_rfl)
    (try simp only [Act.put]); (try simp only [List.setIfInBounds_toArray, List.set_cons_zero, List.set_cons_succ])
    refine wpAnyH_ready (rs := [7]) (by kernel_rfl) (by simp) ?_
    refine cons_lit rfl (fun K hK => ?ss7x9) AllReadyH.nil
    case ss7x9 =>
      go_simp
      refine (tgroups H2.out).mono ?_
      rintro e w3 ⟨GA, gcp, rfl, H3⟩
      have HM3 := Lib.hid (HM2.out.keep (show SP w w2 RO from H2.out.right.right) (show SP w w3 RO from H3.right.tail.right) (fun y hy => hy) (Nat.le_refl _))
      rw [HGL.out] at H3 ⊢
      have H3 := Lib.hid H3
      clear H2 HM2
      refine hK.out _ _ (by exact HB.out _ H3.out.right.tail) (fun hHeld => ?_)
      clear hK K
      (try simp only [Act.put]); (try simp only [List.setIfInBounds_toArray, List.set_cons_zero, List.set_cons_succ])
      refine wpAnyH_ready (rs := [9]) (by kernel_rfl) (by simp) ?_
      refine cons_lit rfl (fun K hK => ?ss9x10) AllReadyH.nil
      case ss9x10 =>
        go_simp
        have hgr := r7groups_any r A m d l w3 HM3.out.mem (by have := HM3.out.hm; omega)
        rw [val_rcells] at hgr
        refine hgr.mono ?_
        rintro e w4 ⟨GB, gd, rfl, hS⟩
        have H4 := Lib.hid (H3.out.next hS.bel)
        have HM4 := Lib.hid (HM3.out.keep (show SP w w3 RO from H3.out.right.tail.right) (show SP w w4 RO from H4.out.right.tail.right) (fun y hy => hy) (Nat.le_refl _))
        have HGR := Lib.hid (And.intro (show GROW w4 GA l from grow_of (by have h1 := H4.out.right.row 0 rfl; rw [HGV.out] at h1; exact h1) HLM.out) (show GROW w4 GB l from grow_of (hS.row 0 rfl) HLM.out))
        clear hgr hS H3 HM3
        refine hK.out _ _ (by exact HB.out _ H4.out.right.tail) (fun hHeld => ?_)
        clear hK K
        (try simp only [Act.put]); (try simp only [List.setIfInBounds_toArray, List.set_cons_zero, List.set_cons_succ])
        refine wpAnyH_ready (rs := [10]) (by kernel_rfl) (by simp) ?_
        refine cons_lit rfl (fun K hK => ?ss10x11) AllReadyH.nil
        case ss10x11 =>
          go_simp
          refine (groups7_yes GA GB m gcp gd l w4 HGR.out.1 HGR.out.2 HLM.out (by have := HM4.out.hm; omega)).mono ?_
          rintro e w5 ⟨rfl, mm, rfl⟩
          have H5 := Lib.hid (H4.out.tail.drewN mm)
          have HM5 := Lib.hid (HM4.out.keep (show SP w w4 RO from H4.out.right.tail.right) (show SP w (w4.drewN mm) RO from H5.out.right.right) (fun y hy => hy) (Nat.le_refl _))
          generalize w4.drewN mm = w6 at H5 HM5 ⊢
          clear H4 HM4 HGR
          refine hK.out _ _ (by exact HB.out _ H5.out.right) (fun hHeld => ?_)
          clear hK K
          (try simp only [Act.put]); (try simp only [List.setIfInBounds_toArray, List.set_cons_zero, List.set_cons_succ])
          refine' take_lit (i := 11) (v := _) rfl (by kernel_rfl) (by kernel_rfl) (by kernel_rfl) (fun _ _ _ h => h) (Or.inl ⟨by rfl, ?yy12⟩) (by assumption) ?rr12
          case yy12 => intro w' hSw; (try dsimp only at hSw); go_simp; try (with_reducible rfl)
          (try simp only [Act.put]); (try simp only [List.setIfInBounds_toArray, List.set_cons_zero, List.set_cons_succ])
          refine' take_lit (i := 12) (v := _) rfl (by kernel_rfl) (by kernel_rfl) (by kernel_rfl) (fun _ _ _ h => h) (Or.inl ⟨by rfl, ?yy13⟩) (by assumption) ?rr13
          case yy13 => intro w' hSw; (try dsimp only at hSw); go_simp; try (with_reducible rfl)
          (try simp only [Act.put]); (try simp only [List.setIfInBounds_toArray, List.set_cons_zero, List.set_cons_succ])
          refine wpAnyH_done (by kernel_rfl) ?_ _
          refine NoPanic.normal ?_
          exact HQ.out _ _ _ _ _ _ _ _ _ _ _ _ _ ⟨a, r, A, m, d, l, G1, G2, RO, H5.out, HM5.out, HST.out.k1, HST.out.k2, HST.out.same, HST.out.len, HST.out.hk⟩
end Go.Proofs.Ytljbfnabnkkfeaa
namespace Go.Proofs.Ytljbfnabnkkfeaa
open Go.RowKit
set_option linter.unusedVariables false
set_option linter.unusedSimpArgs false
set_option maxHeartbeats 4000000 in
set_option maxRecDepth 100000 in
theorem tells_16 {u0 u1 u3 u4 u5 u6 u7 u8 u10 u12 u15 u16 u17 u18 u19 u20 u21 u22 u23 u24 u25 u26 u27 u28 u29 u30 u31 u32 u33 u34 u35 u36 u37 u38 u39 u40 u41 u42 u43 u44 u45 u46 u47 u48 u49 u50 u51 u52 u53 u54 u55 u56 u57 u58 u59 u60 u61 u62 u63 u64 u65 u66 u67 u68 u69 u70 u71 u72 u73 u74 u75 u76 u77 u78 u79 u80 u81 u82 u83 u84 u85 u86 u87 u88 u89 u90 u91 u92 u93 u94 u95 u96 u97 u98 u99 u100 u101 u102 u103 u104 u105 u106 u107 u108 u109 u110 u111 u112 u113 u114 u115 u116 u117 u118 u119 u120 u121 u122 u123 u124 u125 u126 u127 u128 u129 u130 u131 u132 u133 u134 u135 u136 u137 u138 u139 u140 u141 u142 u143 u144 u145 u146 u147 u148 u149 u150 u151 u152 u153 u154 u155 u156 u157 u158 u159 u160 u161 u162 u163 u164 u165 u166 u167 u168 u169 u170 u171 u172 u173 u174 u175 u176 u177 u178 u179 u180 u181 u182 u183 u184 u185 u186 u187 u188 u189 u190 u191 u192 u193 u194 u195 : Value} (w : World) (TB MB : Nat) (LA : Option Addr) (ln lc : Nat) (lo : List OP) (HO : Hid (∀ W, Below w.heap.size w W → OPS W LA ln lo)) (hln : ln ≤ 40) (HX4 : Hid (∀ x ∈ lo, x.n ≤ 400)) (w1 : World) (HT : Hid (TSTE w w1 TB MB [] none 0 0 none 0 0)) :
    Code.wp Try.prog (sufAt Try.f29 16) (bodyPost Try.prog Try.f29 (fun e w' => e = .returned (.bool true) ∧ Below w.heap.size w w')) ⟨List.toArray (u0 :: u1 :: .slice LA ln lc :: u3 :: u4 :: u5 :: u6 :: u7 :: u8 :: .pointer (some ⟨TB, 0, none⟩) :: u10 :: .pointer (some ⟨MB, 0, none⟩) :: u12 :: .slice none 0 0 :: .slice none 0 0 :: u15 :: u16 :: u17 :: u18 :: u19 :: u20 :: u21 :: u22 :: u23 :: u24 :: u25 :: u26 :: u27 :: u28 :: u29 :: u30 :: u31 :: u32 :: u33 :: u34 :: u35 :: u36 :: u37 :: u38 :: u39 :: u40 :: u41 :: u42 :: u43 :: u44 :: u45 :: u46 :: u47 :: u48 :: u49 :: u50 :: u51 :: u52 :: u53 :: u54 :: u55 :: u56 :: u57 :: u58 :: u59 :: u60 :: u61 :: u62 :: u63 :: u64 :: u65 :: u66 :: u67 :: u68 :: u69 :: u70 :: u71 :: u72 :: u73 :: u74 :: u75 :: u76 :: u77 :: u78 :: u79 :: u80 :: u81 :: u82 :: u83 :: u84 :: u85 :: u86 :: u87 :: u88 :: u89 :: u90 :: u91 :: u92 :: u93 :: u94 :: u95 :: u96 :: u97 :: u98 :: u99 :: u100 :: u101 :: u102 :: u103 :: u104 :: u105 :: u106 :: u107 :: u108 :: u109 :: u110 :: u111 :: u112 :: u113 :: u114 :: u115 :: u116 :: u117 :: u118 :: u119 :: u120 :: u121 :: u122 :: u123 :: u124 :: u125 :: u126 :: u127 :: u128 :: u129 :: u130 :: u131 :: u132 :: u133 :: u134 :: u135 :: u136 :: u137 :: u138 :: u139 :: u140 :: u141 :: u142 :: u143 :: u144 :: u145 :: u146 :: u147 :: u148 :: u149 :: u150 :: u151 :: u152 :: u153 :: u154 :: u155 :: u156 :: u157 :: u158 :: u159 :: u160 :: u161 :: u162 :: u163 :: u164 :: u165 :: u166 :: u167 :: u168 :: u169 :: u170 :: u171 :: u172 :: u173 :: u174 :: u175 :: u176 :: u177 :: u178 :: u179 :: u180 :: u181 :: u182 :: u183 :: u184 :: u185 :: u186 :: u187 :: u188 :: u189 :: u190 :: u191 :: u192 :: u193 :: u194 :: u195 :: []), []⟩ w1 := by
  conv => arg 2; whnf
  go_wp2_with fail
  go_loopw [13, 14, 16, 17, 18, 19, 20, 21, 22, 23, 24, 25, 66] (fun s13 s14 _ _ _ _ _ _ _ _ _ _ s66 wr => ∃ (i : Nat) (kA : Option Addr) (k kc : Nat) (gA : Option Addr) (gc : Nat), i ≤ ln ∧ s13 = .slice kA k kc ∧ s14 = .slice gA k gc ∧ s66 = .int .i64 (i : Int) ∧ TSTE w wr TB MB [] kA k kc gA gc i) (fun _ _ _ _ _ _ _ _ _ _ _ _ s66 _ => ln - (intOf s66).toNat)
  case atStart => exact ⟨0, none, 0, 0, none, 0, Nat.zero_le _, rfl, rfl, rfl, HT.out⟩
  case round =>
    obtain ⟨i, kA, k, kc, gA, gc, hi, rfl, rfl, rfl, hT0⟩ := hrel
    have H1 := Lib.hid hT0
    clear hT0 HT
    by_cases hlt : i < ln
    case neg =>
      have t1 : ¬ (i : Int) < (ln : Int) := by omega
      obtain ⟨a, r, A, m, d, l, G1, G2, RO, hT⟩ := H1.out
      have hsp := hT.tab.right
      have hlen2 : ∀ g ∈ G2, g.2.length ≤ 100000 := fun g hg => by
        have h1 : g.2 ∈ G2.map (·.2) := List.mem_map.2 ⟨g, hg, rfl⟩
        rw [← hT.same] at h1
        obtain ⟨q, hq, e⟩ := List.mem_map.1 h1
        rw [← e]; exact hT.len q hq
      have hR1 := rdl_row (G := G1) hsp (LA := kA) (n := k) (c := kc) (by simp) (fun g hg => by simp only [List.nil_append, List.cons_append, List.mem_cons, List.mem_append]; exact .inr (.inr (.inr (.inl (.inl (List.mem_map.2 ⟨g, hg, rfl⟩)))))) hT.len
      have hR2 := rdl_row (G := G2) hsp (LA := gA) (n := k) (c := gc) (by simp) (fun g hg => by simp only [List.nil_append, List.cons_append, List.mem_cons, List.mem_append]; exact .inr (.inr (.inr (.inl (.inr (List.mem_map.2 ⟨g, hg, rfl⟩)))))) hlen2
      have HLI := Lib.hid (lists7_yes kA gA k kc gc G1 G2 wr hR1 hR2 hT.k1 hT.same (by have := hT.hk; omega))
      have HB := Lib.hid hsp.bel
      clear hR1 hR2 hlen2 hsp hT
      go_wp2_with fail
      refine HLI.out.mono ?_
      rintro e w4 ⟨rfl, m4, rfl⟩
      go_wp2_with fail
      go_ret
      exact ⟨rfl, below_drewN HB.out _⟩
    have t1 : (i : Int) < (ln : Int) := by omega
    have t0 : (0 : Int) ≤ (i : Int) := by omega
    obtain ⟨a, r, A, m, d, l, G1, G2, RO, hT⟩ := H1.out
    have hops := HO.out wr hT.tab.bel
    obtain ⟨x, hx⟩ : ∃ x, lo[i]? = some x := ⟨_, List.getElem?_eq_getElem (by rw [hops.len]; exact hlt)⟩
    obtain ⟨g, off, rfl, hg, hc⟩ := hops.at_ i x hx
    have RA := Lib.hid (show wr.rangeAt g (off + i * 3) [.bool x.put, .int .i64 x.now, .slice x.A x.n x.c] from fun j v hv => hc j v hv)
    have HX := Lib.hid (show ∀ W, Below w.heap.size w W → OPOK W x from fun W h => (HO.out W h).ok x (List.mem_of_getElem? hx))
    have hx4 := HX4.out x (List.mem_of_getElem? hx)
    have e6 : IntKind.i64.wrap ((i : Int) + 1) = (i : Int) + 1 := IntWalk.i64_in _ (by omega)
    obtain ⟨XB, hXB⟩ : ∃ b, wr.heap.size = b := ⟨_, rfl⟩
    have H2 := Lib.hid (show TSTE w (wr.alloc (.cells #[.bool x.put, .int .i64 x.now, .slice x.A x.n x.c] 106)) TB MB [.blk XB 106 #[.bool x.put, .int .i64 x.now, .slice x.A x.n x.c]] kA k kc gA gc i from
      ⟨a, r, A, m, d, l, G1, G2, RO, hT.tab.alloc 106 #[.bool x.put, .int .i64 x.now, .slice x.A x.n x.c] hXB, hT.refs.keep (show SP w wr RO from hT.tab.right.right) (show SP w _ RO from hT.tab.right.right.next ((Below.refl _ wr).alloc (Nat.le_refl _) _)) (fun y hy => hy) (Nat.le_refl _), hT.k1, hT.k2, hT.same, hT.len, hT.hk⟩)
    have HXC := Lib.hid (show (wr.alloc (.cells #[.bool x.put, .int .i64 x.now, .slice x.A x.n x.c] 106)).cell? ⟨XB, 0, none⟩ = some (.bool x.put) from (hT.tab.alloc 106 #[.bool x.put, .int .i64 x.now, .slice x.A x.n x.c] hXB).right.cell 0 rfl 0 rfl)
    clear hT hops hc hx hg H1
    go_upto_region 19 with (refine wpList_load_mid (by rfl) 106 _ (by rfl) g (off + i * 3) (by rfl) [.bool x.put, .int .i64 x.now, .slice x.A x.n x.c] _ RA.out Try.underlying106 rfl (by kernel_rfl) ?_)
    try rw [hXB]
    generalize hwz : wr.alloc (.cells #[.bool x.put, .int .i64 x.now, .slice x.A x.n x.c] 106) = wz at H2 HXC ⊢
    clear hwz hXB RA
    obtain ⟨pb, hpb⟩ : ∃ b, x.put = b := ⟨_, rfl⟩
    have x0 : wz.cell? ⟨XB, 0, none⟩ = some (.bool pb) := by rw [← hpb]; exact HXC.out
    clear hpb HXC
    cases pb
    case false =>
      go_upto_if 72 with fail
      refine tells_tick w TB MB XB x HX kA k kc gA gc i (by omega) hx4 _ H2 (Lib.hid ?_)
      intro y17 y18 y73 y74 y75 y76 y77 y78 y79 y80 y81 y82 y83 y84 y85 y86 kA2 k2 kc2 gA2 gc2 w3 hT3
      have H3 := Lib.hid hT3
      clear hT3 H2
      go_upto_region 43 with fail
      refine tells_43 w TB MB [.blk XB 106 #[.bool x.put, .int .i64 x.now, .slice x.A x.n x.c]] ⟨_, rfl⟩ kA2 k2 kc2 gA2 gc2 (i + 1) (by omega) _ H3 (Lib.hid ?_)
      intro y179 y180 y181 y182 y183 y184 y185 y186 y187 y188 y189 y190 w4 hT4
      have H4 := Lib.hid hT4
      clear hT4 H3
      go_wp2_with fail
      go_roundw
      case rel =>
        obtain ⟨a, r, A, m, d, l, G1, G2, RO, hT⟩ := H4.out
        exact ⟨i + 1, kA2, k2, kc2, gA2, gc2, by omega, rfl, rfl, by go_num, a, r, A, m, d, l, G1, G2, RO, hT.tab.tail, hT.refs, hT.k1, hT.k2, hT.same, hT.len, hT.hk⟩
      case measure => simp [intOf]; omega
    case true =>
      go_upto_if 72 with fail
      refine tells_put w TB MB XB x HX kA k kc gA gc i (by omega) hx4 _ H2 (Lib.hid ?_)
      intro y19 y20 y21 y22 y23 y24 y25 y87 y88 y89 y90 y91 y92 y93 y94 y95 y96 y97 y98 y99 y100 y101 y102 y103 y104 y105 y106 y107 y108 y109 y110 y111 y112 y113 y114 y115 y116 y117 y118 y119 y120 y121 y122 y123 y124 y125 y126 y127 y128 y129 y130 y131 y132 y133 y134 y135 y136 y137 y138 y139 y140 y141 y142 y143 y144 y145 y146 y147 y148 y149 y150 y151 y152 y153 y154 y155 y156 y157 y158 y159 y160 y161 y162 y163 y164 y165 y166 y167 y168 y169 y170 y171 y172 y173 y174 y175 y176 y177 y178 kA2 k2 kc2 gA2 gc2 w3 hT3
      have H3 := Lib.hid hT3
      clear hT3 H2
      go_upto_region 43 with fail
      refine tells_43 w TB MB [.blk XB 106 #[.bool x.put, .int .i64 x.now, .slice x.A x.n x.c]] ⟨_, rfl⟩ kA2 k2 kc2 gA2 gc2 (i + 1) (by omega) _ H3 (Lib.hid ?_)
      intro y179 y180 y181 y182 y183 y184 y185 y186 y187 y188 y189 y190 w4 hT4
      have H4 := Lib.hid hT4
      clear hT4 H3
      go_wp2_with fail
      go_roundw
      case rel =>
        obtain ⟨a, r, A, m, d, l, G1, G2, RO, hT⟩ := H4.out
        exact ⟨i + 1, kA2, k2, kc2, gA2, gc2, by omega, rfl, rfl, by go_num, a, r, A, m, d, l, G1, G2, RO, hT.tab.tail, hT.refs, hT.k1, hT.k2, hT.same, hT.len, hT.hk⟩
      case measure => simp [intOf]; omega
end Go.Proofs.Ytljbfnabnkkfeaa
namespace Go.Proofs.Ytljbfnabnkkfeaa
open Go.RowKit
set_option linter.unusedVariables false
set_option linter.unusedSimpArgs false
theorem relt_new (limit life : Int) : RELT ⟨limit, life, 0, []⟩ ⟨limit, life, 0, []⟩ := ⟨rfl, rfl, rfl, trivial⟩
set_option maxHeartbeats 4000000 in
set_option maxRecDepth 100000 in
theorem tells7_any (limit life : Int) (LA : Option Addr) (ln lc : Nat) (lo : List OP) (w : World) (h : OPS w LA ln lo) :
    Calls Try.prog 29 #[.int .i64 limit, .int .i64 life, .slice LA ln lc] w fun e w' => e = .returned (.bool true) ∧ Below w.heap.size w w' := by
  have HO := Lib.hid (show ∀ W, Below w.heap.size w W → OPS W LA ln lo from fun W hb => h.later hb)
  have HLN := Lib.hid h.len
  clear h
  by_cases hln : 40 < ln
  · have t1 : (40 : Int) < (ln : Int) := by omega
    go_enter Try.func29, Try.ntmps29
    go_wp2_with fail
    go_ret
    exact ⟨rfl, Below.refl _ _⟩
  have t1 : ¬ (40 : Int) < (ln : Int) := by omega
  have hln4 : ln ≤ 40 := by omega
  clear hln
  go_enter Try.func29, Try.ntmps29
  go_wp2_with fail
  clear t1
  go_loopw [8, 31] (fun _ s31 wr => ∃ i : Nat, i ≤ ln ∧ s31 = .int .i64 (i : Int) ∧ (∀ j, j < i → ∀ x, lo[j]? = some x → x.n ≤ 400) ∧ Below w.heap.size w wr) (fun _ s31 _ => ln - (intOf s31).toNat)
  case atStart => exact ⟨0, Nat.zero_le _, rfl, fun j hj => absurd hj (Nat.not_lt_zero _), Below.refl _ _⟩
  case round =>
    obtain ⟨i, hi, rfl, hno, hb⟩ := hrel
    have HNO := Lib.hid hno
    have HB := Lib.hid hb
    clear hno hb
    by_cases hlt : i < ln
    · have t1 : (i : Int) < (ln : Int) := by omega
      have t0 : (0 : Int) ≤ (i : Int) := by omega
      have hops := HO.out wr HB.out
      obtain ⟨x, hx⟩ : ∃ x, lo[i]? = some x := ⟨_, List.getElem?_eq_getElem (by rw [HLN.out]; exact hlt)⟩
      obtain ⟨g, off, rfl, hg, hc⟩ := hops.at_ i x hx
      have HX := Lib.hid hx
      have RA := Lib.hid (show wr.rangeAt g (off + i * 3) [.bool x.put, .int .i64 x.now, .slice x.A x.n x.c] from fun j v hv => hc j v hv)
      have e6 : IntKind.i64.wrap ((i : Int) + 1) = (i : Int) + 1 := IntWalk.i64_in _ (by omega)
      obtain ⟨XB, hXB⟩ : ∃ b, wr.heap.size = b := ⟨_, rfl⟩
      have X1 := Lib.hid ((SP.start wr).alloc' 106 #[.bool x.put, .int .i64 x.now, .slice x.A x.n x.c] hXB)
      clear hc hx hg hops
      go_upto_region 6 with (refine wpList_load_mid (by rfl) 106 _ (by rfl) g (off + i * 3) (by rfl) [.bool x.put, .int .i64 x.now, .slice x.A x.n x.c] _ RA.out Try.underlying106 rfl (by kernel_rfl) ?_)
      try rw [hXB]
      have HB2 := Lib.hid (HB.out.trans (((Below.refl _ wr).alloc (Nat.le_refl _) (.cells #[.bool x.put, .int .i64 x.now, .slice x.A x.n x.c] 106)).mono HB.out.size))
      generalize hwz : wr.alloc (.cells #[.bool x.put, .int .i64 x.now, .slice x.A x.n x.c] 106) = wz at X1 HB2 ⊢
      clear hwz hXB RA
      have x2 : wz.cell? ⟨XB, 2, none⟩ = some (.slice x.A x.n x.c) := X1.out.cell 0 rfl 2 rfl
      by_cases h4 : x.n ≤ 400
      · have t4 : ¬ (400 : Int) < (x.n : Int) := by omega
        go_wp2_with fail
        go_roundw
        case rel =>
          refine ⟨i + 1, by omega, by go_num, fun j hj y hy => ?_, HB2.out⟩
          by_cases hji : j = i
          · subst hji
            obtain rfl : x = y := Option.some.inj (HX.out.symm.trans hy)
            exact h4
          · exact HNO.out j (by omega) y hy
        case measure => simp [intOf]; omega
      · have t4 : (400 : Int) < (x.n : Int) := by omega
        go_wp2_with fail
        go_ret
        exact ⟨rfl, HB2.out⟩
    · have t1 : ¬ (i : Int) < (ln : Int) := by omega
      obtain rfl : i = ln := by omega
      have HX4 := Lib.hid (show ∀ x ∈ lo, x.n ≤ 400 from fun x hx => by
        obtain ⟨j, hj, rfl⟩ := List.mem_iff_getElem.1 hx
        exact HNO.out j (by have := HLN.out; omega) _ (List.getElem?_eq_getElem hj))
      clear HNO
      have X0 := Lib.hid (show SP w wr [] from SP.mk' HB.out (fun x hx => by cases hx) List.Pairwise.nil)
      by_cases hok : (1 ≤ limit ∧ limit ≤ 64) ∧ 1 ≤ life ∧ life ≤ 16777215
      · go_wp2_with fail
        refine (tnew limit life X0.out hok.1 hok.2).mono ?_
        rintro e w2 ⟨TB, rfl, hT⟩
        have H2 := Lib.hid hT
        clear hT X0
        go_wp2_with fail
        refine (r7new_yes limit life w2 hok.1 hok.2).mono ?_
        rintro e w3 ⟨rfl, hb⟩
        have H3 := Lib.hid (H2.out.next hb)
        clear hb H2
        obtain ⟨MB, hMB⟩ : ∃ b, w3.heap.size = b := ⟨_, rfl⟩
        have H4 := Lib.hid (H3.out.alloc 109 #[.int .i64 limit, .int .i64 life, .int .i64 0, .slice none 0 0] hMB)
        have H5 := Lib.hid (show TSTE w (w3.alloc (.cells #[.int .i64 limit, .int .i64 life, .int .i64 0, .slice none 0 0] 109)) TB MB [] none 0 0 none 0 0 from
          ⟨⟨limit, life, 0, []⟩, ⟨limit, life, 0, []⟩, none, 0, 0, [], [], [], [],
            (H4.out.liftF (R' := [.blk MB 109 (rcells ⟨limit, life, 0, []⟩ none 0 0), .row 23 1 none 0 0 [], .row 23 1 none 0 0 []]) (fun C h => by
              have h1 := ((h.pushRow 23 1).rot.pushRow 23 1).rot
              exact SP.pickT (A := [_, _, _]) (B := [_, _, _]) (C := C) h1 [2, 0, 1] rfl (by decide))),
            ⟨relt_new limit life, ⟨EROW.nil _, rfl⟩, EFT.nil _ _, Nat.zero_le _, (fun x hx => by cases hx)⟩, rfl, rfl, rfl, (fun x hx => by cases hx), Nat.le_refl _⟩)
        go_upto_region 11 with fail
        try rw [hMB]
        generalize w3.alloc (.cells #[.int .i64 limit, .int .i64 life, .int .i64 0, .slice none 0 0] 109) = w4 at H5 ⊢
        clear H3 H4 hMB
        go_upto_region 15 with fail
        go_cut [13, 14] (fun s13 s14 wx => s13 = .slice none 0 0 ∧ s14 = .slice none 0 0 ∧ wx = w4)
        case first =>
          go_wp2_with fail
          go_meet
          exact ⟨rfl, rfl, rfl⟩
        case rest =>
        obtain ⟨rfl, rfl, hwc⟩ := hcut
        rw [hwc]
        clear hwc wc
        go_step
        exact tells_16 w TB MB LA i lc lo HO hln4 HX4 _ H5
      · go_wp2_with fail
        refine (new_no wr limit life hok).mono ?_
        rintro e w2 ⟨rfl, hw⟩
        obtain rfl := hw
        go_wp2_with fail
        refine (r7new_no limit life _ hok).mono ?_
        rintro e w3 ⟨rfl, hb⟩
        have HB3 := Lib.hid (HB.out.trans (hb.mono HB.out.size))
        clear hb
        go_wp2_with fail
        go_ret
        exact ⟨rfl, HB3.out.trans (((Below.refl _ w3).alloc (Nat.le_refl _) _).mono HB3.out.size)⟩
set_option maxHeartbeats 1000000 in
set_option maxRecDepth 100000 in
theorem fragTells_walk (limit life : Int) (LA : Option Addr) (ln lc : Nat) (lo : List OP) (w : World) (h : ROWO w LA ln lc lo) :
    Calls Try.prog 10 #[.int .i64 limit, .int .i64 life, .slice LA ln lc] w fun e w' => e = .returned (.bool true) ∧ Below w.heap.size w w' := by
  have HS := Lib.hid (tells7_any limit life LA ln lc lo w h.ops)
  clear h
  go_enter Try.func10, Try.ntmps10
  go_wp2_with fail
  refine HS.out.mono ?_
  rintro e w1 ⟨rfl, hb⟩
  have HB := Lib.hid hb
  clear hb HS
  go_wp2_with fail
  refine (awake7_any _).mono ?_
  rintro e w2 ⟨rfl, hb2⟩
  have HB2 := Lib.hid (HB.out.trans (hb2.mono HB.out.size))
  clear hb2
  go_wp2_with fail
  go_ret
  exact ⟨rfl, HB2.out⟩
end Go.Proofs.Ytljbfnabnkkfeaa
