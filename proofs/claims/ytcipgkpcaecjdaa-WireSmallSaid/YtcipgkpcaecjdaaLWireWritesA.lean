import Derived.Test.YtcipgkpcaecjdaaWAwake1
import Derived.Test.YtcipgkpcaecjdaaWRef1X
import Derived.Test.YtcipgkpcaecjdaaWRowa
import Derived.Test.YtcipgkpcaecjdaaCuts
import Derived.Deep.RegionHeld3
import Derived.Deep.DeepCutAuto
import Derived.BigGuardPart
/- bafflelaw01.writes. (Printed by gen_wwrites.py.) -/
namespace Go.Proofs.Ytcipgkpcaecjdaa
open Go.RowKit
set_option linter.unusedVariables false
set_option linter.unusedSimpArgs false

theorem XW.sp {w v v' : World} {a b : IT} {L : List IT} {ok : Bool} {B B' : Option Addr} {n n' c c' : Nat} {ys zs : List Int} (Z : SP w v (a :: b :: .own .u8 5 B n c ys :: L)) (hb : Below v.heap.size v v') (h : XW v v' ok B B' n n' c c' zs) :
    SP w v' (a :: b :: .own .u8 5 B' n' c' (if ok = true then zs else ys) :: L) := by
  rcases h with ⟨rfl, rfl, rfl, rfl⟩ | ⟨rfl, h⟩
  · rw [if_neg (by simp)]; exact Z.next hb
  · rw [if_pos rfl]
    have hz : w.heap.size ≤ v.heap.size := Z.size
    have := Z.upd (i := 2) (it' := .own .u8 5 B' n' c' zs) rfl (hb.mono hz) (OWN.mono h hz) (.inr fun g hg => (IT.Holds.lt (it := .own .u8 5 B' n' c' zs) (base := v.heap.size) h hg).1) (fun k hk _ => hb.block k hk)
    exact this
theorem wr_merge (lim : Nat) (ys : List Int) (g : Bool) (bs : List Int) {n : Nat} (hn : ys.length = n) : (if wrOk lim n g (bs.length : Int) = true then ys ++ bs else ys) = wrB lim ys g bs := by unfold wrB; rw [hn]
theorem wr_mergeZ (lim : Nat) (ys : List Int) (g : Bool) (q : Int) {n : Nat} (hn : ys.length = n) : (if wrOk lim n g q = true then ys ++ List.replicate q.toNat 0 else ys) = wrZ lim ys g q := by unfold wrZ; rw [hn]
theorem st_merge (ys : List Int) (g : Bool) (q v : Int) {n : Nat} (hn : ys.length = n) : (if (!g && stOk n q) = true then stB ys g q v else ys) = stB ys g q v := by
  split
  · rfl
  · rename_i h
    unfold stB
    rw [if_neg (fun hh => h (by rw [← hn, hh.1, hh.2]; rfl))]
theorem wLen_eq {w0 w : World} {L : List IT} {i W lim : Nat} {B : Option Addr} {n c : Nat} {f : Bool} (H : SP w0 w L) (hi : L[i]? = some (.blk W 71 (wcells W lim B n c f))) :
    Calls Try.prog 22 #[.pointer (some ⟨W, 0, none⟩)] w fun e w' => e = .returned (.int .i64 (n : Int)) ∧ w' = w := by
  have x0 : w.cell? ⟨W, 0, none⟩ = some (.pointer (some ⟨W, 0, none⟩)) := H.cell i hi 0 rfl
  have x2 : w.cell? ⟨W, 2, none⟩ = some (.slice B n c) := H.cell i hi 2 rfl
  have HRDY := Lib.hid (fun W' h => wready_any W' W h)
  clear H
  go_enter Try.func22, Try.ntmps22
  go_wp2_with (go_at_call 59; refine (HRDY.out _ x0).mono ?_; rintro e w2 ⟨rfl, rfl⟩)
  go_ret
  exact ⟨rfl, rfl⟩
theorem wFailed_eq {w0 w : World} {L : List IT} {i W lim : Nat} {B : Option Addr} {n c : Nat} {f : Bool} (H : SP w0 w L) (hi : L[i]? = some (.blk W 71 (wcells W lim B n c f))) :
    Calls Try.prog 23 #[.pointer (some ⟨W, 0, none⟩)] w fun e w' => e = .returned (.bool f) ∧ w' = w := by
  have x0 : w.cell? ⟨W, 0, none⟩ = some (.pointer (some ⟨W, 0, none⟩)) := H.cell i hi 0 rfl
  have x2 : w.cell? ⟨W, 3, none⟩ = some (.bool f) := H.cell i hi 3 rfl
  have HRDY := Lib.hid (fun W' h => wready_any W' W h)
  clear H
  go_enter Try.func23, Try.ntmps23
  go_wp2_with (go_at_call 59; refine (HRDY.out _ x0).mono ?_; rintro e w2 ⟨rfl, rfl⟩)
  go_ret
  exact ⟨rfl, rfl⟩
theorem step_load_row1 {P : Program} {w : World} {ops : Array Oper} {o : Oper} {a : Act} {K : Act → World → Prop} {Q : Exit → Act → World → Prop} {E : Prop} (hgd : o.guard = none) (ty : TypeId) (x : Operand) (ho : o.op = .load ty x)
    (g : Nat) (hx : a.eval x = .pointer (some ⟨g, 0, none⟩)) (t : TypeId) (cs : Array Value) (fr : Nat × Nat) (d : TypeDesc) (hg : w.heap[g]? = some (.cells cs t fr))
    (hu : P.underlying ty = some d) (hd : (match d with | .struct _ | .array _ _ => true | _ => false) = true) (hi : (P.info? ty).map (·.size) = some cs.size) (h : K (a.put o.dst (.agg cs)) w) :
    if Region.wanted o (yielded ops a.tmps) = true then Oper.wp P o a w K Q else E := by
  rw [if_pos (by simp [Region.wanted, hgd])]
  unfold Oper.wp
  rw [exec_load_row ty x ho g hx t cs fr d hg hu hd hi]
  exact h
theorem u16_wb (x : Int) : 0 ≤ IntKind.u16.wrap x ∧ IntKind.u16.wrap x ≤ 65535 := by rw [IntKind.wrap_u16]; omega
theorem u8_wb (x : Int) : 0 ≤ IntKind.u8.wrap x ∧ IntKind.u8.wrap x ≤ 255 := by rw [IntKind.wrap_u8]; omega
theorem u32_wb1 (x : Int) : 0 ≤ IntKind.u32.wrap x ∧ IntKind.u32.wrap x ≤ 4294967295 := by rw [IntKind.wrap_u32]; omega

set_option maxHeartbeats 4000000 in
set_option maxRecDepth 100000 in
theorem wreg17 {u0 u1 u2 u3 u4 u5 u6 u7 u8 u10 u12 u13 u14 u15 u16 u17 u18 u19 u20 u21 u22 u23 u24 u25 u26 u27 u28 u29 u30 u31 u32 u33 u34 u35 u36 u37 u38 u39 u40 u41 u42 u43 u44 u45 u46 u47 u48 u49 u50 u51 u52 u53 u54 u55 u56 u57 u58 u59 u60 u61 u62 u63 u64 u65 u66 u67 u68 u69 u70 u71 u72 u73 u74 u75 u76 u77 u78 u79 u80 u81 u82 u83 u84 u85 u86 u87 u88 u89 u90 u91 u92 u93 u94 u95 u96 u97 u98 u99 u100 u101 u102 u103 u104 u105 u106 u107 u108 u109 u110 u111 u112 u113 u114 u115 u116 u117 u118 u119 u120 u121 u122 u123 u124 u125 u126 u127 u128 u129 u130 u131 u132 u133 u134 u135 u136 u137 u138 u139 u140 u141 u142 u143 u144 u145 u146 u147 u148 u149 u150 u151 u152 u153 u154 u155 u156 u157 u158 u159 u160 u161 u162 u163 u164 u165 u166 u167 u168 u169 u170 u171 u172 u173 u174 u175 u176 u177 u178 u179 u180 u181 u182 u183 u184 u185 u186 u187 u188 u189 u190 : Value} {Q : Exit → Act → World → Prop} (w : World) (lim W X bx : Nat) (B : Option Addr) (n c : Nat) (zw : List Int) (gw : Bool) (Bx : Option Addr) (n0 cx : Nat) (ys : List Int) (g : Bool) (kd N nv : Int) (hnv : IntKind.u8.wrap N = nv) (hb : 0 ≤ nv ∧ nv ≤ 255) (hn : n0 ≤ lim) (hl : lim ≤ 131072) (w1 : World) (Z : Hid (SP w w1 [.own .u8 5 B n c zw, .blk W 71 (wcells W lim B n c gw), .own .u8 5 Bx n0 cx ys, .blk X 94 (xcells lim Bx n0 cx g), .blk bx 43 #[.int .u8 kd, .int .i64 N]]))
    (HQ : Hid (∀ (y84 y85 y86 y87 y88 y89 y90 : Value) (B' : Option Addr) (n' c' : Nat) (w' : World), SP w w' [.own .u8 5 B n c zw, .blk W 71 (wcells W lim B n c gw), .own .u8 5 B' n' c' (wrB lim ys g [nv]), .blk X 94 (xcells lim B' n' c' (!wrOk lim n0 g 1)), .blk bx 43 #[.int .u8 kd, .int .i64 N]] → Q .normal ⟨List.toArray (u0 :: u1 :: u2 :: u3 :: u4 :: u5 :: u6 :: u7 :: u8 :: .pointer (some ⟨X, 0, none⟩) :: u10 :: .pointer (some ⟨bx, 0, none⟩) :: u12 :: u13 :: u14 :: u15 :: u16 :: u17 :: u18 :: u19 :: u20 :: u21 :: u22 :: u23 :: u24 :: u25 :: u26 :: u27 :: u28 :: u29 :: u30 :: u31 :: u32 :: u33 :: u34 :: u35 :: u36 :: u37 :: u38 :: u39 :: u40 :: u41 :: u42 :: u43 :: u44 :: u45 :: u46 :: u47 :: u48 :: u49 :: u50 :: u51 :: u52 :: u53 :: u54 :: u55 :: u56 :: u57 :: u58 :: u59 :: u60 :: u61 :: u62 :: u63 :: u64 :: u65 :: u66 :: u67 :: u68 :: u69 :: u70 :: u71 :: u72 :: u73 :: u74 :: u75 :: u76 :: u77 :: u78 :: u79 :: u80 :: u81 :: u82 :: u83 :: y84 :: y85 :: y86 :: y87 :: y88 :: y89 :: y90 :: u91 :: u92 :: u93 :: u94 :: u95 :: u96 :: u97 :: u98 :: u99 :: u100 :: u101 :: u102 :: u103 :: u104 :: u105 :: u106 :: u107 :: u108 :: u109 :: u110 :: u111 :: u112 :: u113 :: u114 :: u115 :: u116 :: u117 :: u118 :: u119 :: u120 :: u121 :: u122 :: u123 :: u124 :: u125 :: u126 :: u127 :: u128 :: u129 :: u130 :: u131 :: u132 :: u133 :: u134 :: u135 :: u136 :: u137 :: u138 :: u139 :: u140 :: u141 :: u142 :: u143 :: u144 :: u145 :: u146 :: u147 :: u148 :: u149 :: u150 :: u151 :: u152 :: u153 :: u154 :: u155 :: u156 :: u157 :: u158 :: u159 :: u160 :: u161 :: u162 :: u163 :: u164 :: u165 :: u166 :: u167 :: u168 :: u169 :: u170 :: u171 :: u172 :: u173 :: u174 :: u175 :: u176 :: u177 :: u178 :: u179 :: u180 :: u181 :: u182 :: u183 :: u184 :: u185 :: u186 :: u187 :: u188 :: u189 :: u190 :: []), []⟩ w')) :
    Code.wp Try.prog (regAt Try.f17 17) Q ⟨List.toArray (u0 :: u1 :: u2 :: u3 :: u4 :: u5 :: u6 :: u7 :: u8 :: .pointer (some ⟨X, 0, none⟩) :: u10 :: .pointer (some ⟨bx, 0, none⟩) :: u12 :: u13 :: u14 :: u15 :: u16 :: u17 :: u18 :: u19 :: u20 :: u21 :: u22 :: u23 :: u24 :: u25 :: u26 :: u27 :: u28 :: u29 :: u30 :: u31 :: u32 :: u33 :: u34 :: u35 :: u36 :: u37 :: u38 :: u39 :: u40 :: u41 :: u42 :: u43 :: u44 :: u45 :: u46 :: u47 :: u48 :: u49 :: u50 :: u51 :: u52 :: u53 :: u54 :: u55 :: u56 :: u57 :: u58 :: u59 :: u60 :: u61 :: u62 :: u63 :: u64 :: u65 :: u66 :: u67 :: u68 :: u69 :: u70 :: u71 :: u72 :: u73 :: u74 :: u75 :: u76 :: u77 :: u78 :: u79 :: u80 :: u81 :: u82 :: u83 :: u84 :: u85 :: u86 :: u87 :: u88 :: u89 :: u90 :: u91 :: u92 :: u93 :: u94 :: u95 :: u96 :: u97 :: u98 :: u99 :: u100 :: u101 :: u102 :: u103 :: u104 :: u105 :: u106 :: u107 :: u108 :: u109 :: u110 :: u111 :: u112 :: u113 :: u114 :: u115 :: u116 :: u117 :: u118 :: u119 :: u120 :: u121 :: u122 :: u123 :: u124 :: u125 :: u126 :: u127 :: u128 :: u129 :: u130 :: u131 :: u132 :: u133 :: u134 :: u135 :: u136 :: u137 :: u138 :: u139 :: u140 :: u141 :: u142 :: u143 :: u144 :: u145 :: u146 :: u147 :: u148 :: u149 :: u150 :: u151 :: u152 :: u153 :: u154 :: u155 :: u156 :: u157 :: u158 :: u159 :: u160 :: u161 :: u162 :: u163 :: u164 :: u165 :: u166 :: u167 :: u168 :: u169 :: u170 :: u171 :: u172 :: u173 :: u174 :: u175 :: u176 :: u177 :: u178 :: u179 :: u180 :: u181 :: u182 :: u183 :: u184 :: u185 :: u186 :: u187 :: u188 :: u189 :: u190 :: []), []⟩ w1 := by
  have e1 : IntKind.i64.wrap nv = nv := IntWalk.i64_in _ (by omega)
  have hyl := (Z.out.own 2 rfl).len
  have HM := Lib.hid (wr_merge lim ys g [nv] hyl)
  have XD := Lib.hid Z.out.drew
  clear Z hyl
  conv => arg 2; whnf
  refine wp_region_noPanic ?_
  refine wp_region_held_drew (S := fun W' => W'.cell? ⟨bx, 1, none⟩ = some (.int .i64 N)) (by kernel_rfl) (by exact XD.out.cell 4 rfl 1 rfl) (fun hHeld => ?_)
  generalize w1.drew = v0 at XD hHeld ⊢
  refine' take_lit (i := 1) (v := _) rfl (by kernel_rfl) (by kernel_rfl) (by kernel_rfl) (fun _ _ _ h => h) (Or.inl ⟨by rfl, ?yy1⟩) (by assumption) ?rr1
  case yy1 => intro w' hSw; (try dsimp only at hSw); go_simp; try (with_reducible rfl)
  (try simp only [Act.put]); (try simp only [List.setIfInBounds_toArray, List.set_cons_zero, List.set_cons_succ])
  refine' take_lit (i := 2) (v := _) rfl (by kernel_rfl) (by kernel_rfl) (by kernel_rfl) (fun _ _ _ h => h) (Or.inl ⟨by rfl, ?yy2⟩) (by assumption) ?rr2
  case yy2 => intro w' hSw; (try dsimp only at hSw); go_simp; try (with_reducible rfl)
  (try simp only [Act.put]); (try simp only [List.setIfInBounds_toArray, List.set_cons_zero, List.set_cons_succ])
  refine' take_lit (i := 3) (v := _) rfl (by kernel_rfl) (by kernel_rfl) (by kernel_rfl) (fun _ _ _ h => h) (Or.inl ⟨by rfl, ?yy3⟩) (by assumption) ?rr3
  case yy3 => intro w' hSw; (try dsimp only at hSw); go_simp; try (with_reducible rfl)
  (try simp only [Act.put]); (try simp only [List.setIfInBounds_toArray, List.set_cons_zero, List.set_cons_succ])
  refine' take_lit (i := 4) (v := _) rfl (by kernel_rfl) (by kernel_rfl) (by kernel_rfl) (fun _ _ _ h => h) (Or.inl ⟨by rfl, ?yy4⟩) (by assumption) ?rr4
  case yy4 => intro w' hSw; (try dsimp only at hSw); go_simp; try (with_reducible rfl)
  (try simp only [Act.put]); (try simp only [List.setIfInBounds_toArray, List.set_cons_zero, List.set_cons_succ])
  refine wpAnyH_ready (rs := [0, 5]) (by kernel_rfl) (by simp) ?_
  refine cons_lit rfl (fun K hK => ?ss0x5) (cons_lit rfl (fun K hK => ?ss5x5) AllReadyH.nil)
  case ss0x5 =>
    have y0 : v0.cell? ⟨X, 0, none⟩ = some (.int .i64 (lim : Int)) := XD.out.cell 3 rfl 0 rfl
    have y1 : v0.cell? ⟨X, 1, none⟩ = some (.slice Bx n0 cx) := XD.out.cell 3 rfl 1 rfl
    have y2 : v0.cell? ⟨X, 2, none⟩ = some (.bool g) := XD.out.cell 3 rfl 2 rfl
    refine step_load_row1 (by rfl) 94 _ (by rfl) X (by rfl) 94 (xcells lim Bx n0 cx g) (0, 0) _ (XD.out.blk 3 rfl) Try.underlying94 rfl (by kernel_rfl) ?_
    clear y0 y1 y2
    refine hK.out _ _ (by exact XD.out.cell 4 rfl 1 rfl) (fun hHeld => ?_)
    clear hK K
    (try simp only [Act.put]); (try simp only [List.setIfInBounds_toArray, List.set_cons_zero, List.set_cons_succ])
    refine wpAnyH_ready (rs := [5]) (by kernel_rfl) (by simp) ?_
    refine cons_lit rfl (fun K hK => ?ss5x6) AllReadyH.nil
    case ss5x6 =>
      go_simp
      refine (r1Bytes1_any nv _ hb).mono ?_
      rintro e v1 ⟨A1, c1, rfl, ho1, hb1⟩
      have X1 := Lib.hid (XD.out.pushOwn hb1 ho1)
      clear ho1 hb1
      try simp only [Oper.upon_returned]
      refine hK.out _ _ (by exact X1.out.cell 4 rfl 1 rfl) (fun hHeld => ?_)
      clear hK K
      (try simp only [Act.put]); (try simp only [List.setIfInBounds_toArray, List.set_cons_zero, List.set_cons_succ])
      refine wpAnyH_ready (rs := [6]) (by kernel_rfl) (by simp) ?_
      refine cons_lit rfl (fun K hK => ?ss6x7) AllReadyH.nil
      case ss6x7 =>
        go_simp
        refine (r1Write_any lim Bx n0 cx ys g A1 1 c1 [nv] _ (X1.out.rd 2 rfl) (X1.out.rd 5 rfl) hn hl (by omega)).mono ?_
        rintro e v2 ⟨B', n', c', rfl, hb2, hxw⟩
        have X2 := Lib.hid (show SP w v2 [.own .u8 5 B n c zw, .blk W 71 (wcells W lim B n c gw), .own .u8 5 B' n' c' (wrB lim ys g [nv]), .blk X 94 (xcells lim Bx n0 cx g), .blk bx 43 #[.int .u8 kd, .int .i64 N]] by
          have hh := (XW.sp X1.out hb2 hxw).pick [0, 1, 2, 3, 4] (by decide) (L' := [.own .u8 5 B n c zw, .blk W 71 (wcells W lim B n c gw), .own .u8 5 B' n' c' (if wrOk lim n0 g (([nv]).length : Int) = true then ys ++ [nv] else ys), .blk X 94 (xcells lim Bx n0 cx g), .blk bx 43 #[.int .u8 kd, .int .i64 N]]) rfl
          rw [HM.out] at hh
          exact hh)
        clear hb2 hxw X1
        try simp only [Oper.upon_returned]
        refine hK.out _ _ (by exact X2.out.cell 4 rfl 1 rfl) (fun hHeld => ?_)
        clear hK K
        (try simp only [Act.put]); (try simp only [List.setIfInBounds_toArray, List.set_cons_zero, List.set_cons_succ])
        refine wpAnyH_ready (rs := [7]) (by kernel_rfl) (by simp) ?_
        refine cons_lit rfl (fun K hK => ?ss7x8) AllReadyH.nil
        case ss7x8 =>
          refine step_store_row (by rfl) 94 _ _ (by rfl) X (xcells lim B' n' c' (!wrOk lim n0 g 1)) (by rfl) (by rfl) 94 _ (X2.out.blk 3 rfl) (by kernel_rfl) rfl (by unfold xcells; simp [Value.oneCell']) ?_
          refine nameX (fun v3 hv3 => ?_)
          have X3 := Lib.hid (show SP w v3 [.own .u8 5 B n c zw, .blk W 71 (wcells W lim B n c gw), .own .u8 5 B' n' c' (wrB lim ys g [nv]), .blk X 94 (xcells lim B' n' c' (!wrOk lim n0 g 1)), .blk bx 43 #[.int .u8 kd, .int .i64 N]] by rw [hv3]; exact X2.out.setR 3 rfl (xcells lim B' n' c' (!wrOk lim n0 g 1)))
          clear hv3
          refine hK.out _ _ (by exact X3.out.cell 4 rfl 1 rfl) (fun hHeld => ?_)
          clear hK K
          (try simp only [Act.put]); (try simp only [List.setIfInBounds_toArray, List.set_cons_zero, List.set_cons_succ])
          refine wpAnyH_done (by kernel_rfl) ?_ _
          refine NoPanic.normal ?_
          exact HQ.out _ _ _ _ _ _ _ B' n' c' _ X3.out
  case ss5x5 =>
    go_simp
    refine (r1Bytes1_any nv _ hb).mono ?_
    rintro e v1 ⟨A1, c1, rfl, ho1, hb1⟩
    have X1 := Lib.hid (XD.out.pushOwn hb1 ho1)
    clear ho1 hb1
    try simp only [Oper.upon_returned]
    refine hK.out _ _ (by exact X1.out.cell 4 rfl 1 rfl) (fun hHeld => ?_)
    clear hK K
    (try simp only [Act.put]); (try simp only [List.setIfInBounds_toArray, List.set_cons_zero, List.set_cons_succ])
    refine wpAnyH_ready (rs := [0]) (by kernel_rfl) (by simp) ?_
    refine cons_lit rfl (fun K hK => ?ss0x9) AllReadyH.nil
    case ss0x9 =>
      have y0 : v1.cell? ⟨X, 0, none⟩ = some (.int .i64 (lim : Int)) := X1.out.cell 3 rfl 0 rfl
      have y1 : v1.cell? ⟨X, 1, none⟩ = some (.slice Bx n0 cx) := X1.out.cell 3 rfl 1 rfl
      have y2 : v1.cell? ⟨X, 2, none⟩ = some (.bool g) := X1.out.cell 3 rfl 2 rfl
      refine step_load_row1 (by rfl) 94 _ (by rfl) X (by rfl) 94 (xcells lim Bx n0 cx g) (0, 0) _ (X1.out.blk 3 rfl) Try.underlying94 rfl (by kernel_rfl) ?_
      clear y0 y1 y2
      refine hK.out _ _ (by exact X1.out.cell 4 rfl 1 rfl) (fun hHeld => ?_)
      clear hK K
      (try simp only [Act.put]); (try simp only [List.setIfInBounds_toArray, List.set_cons_zero, List.set_cons_succ])
      refine wpAnyH_ready (rs := [6]) (by kernel_rfl) (by simp) ?_
      refine cons_lit rfl (fun K hK => ?ss6x10) AllReadyH.nil
      case ss6x10 =>
        go_simp
        refine (r1Write_any lim Bx n0 cx ys g A1 1 c1 [nv] _ (X1.out.rd 2 rfl) (X1.out.rd 5 rfl) hn hl (by omega)).mono ?_
        rintro e v2 ⟨B', n', c', rfl, hb2, hxw⟩
        have X2 := Lib.hid (show SP w v2 [.own .u8 5 B n c zw, .blk W 71 (wcells W lim B n c gw), .own .u8 5 B' n' c' (wrB lim ys g [nv]), .blk X 94 (xcells lim Bx n0 cx g), .blk bx 43 #[.int .u8 kd, .int .i64 N]] by
          have hh := (XW.sp X1.out hb2 hxw).pick [0, 1, 2, 3, 4] (by decide) (L' := [.own .u8 5 B n c zw, .blk W 71 (wcells W lim B n c gw), .own .u8 5 B' n' c' (if wrOk lim n0 g (([nv]).length : Int) = true then ys ++ [nv] else ys), .blk X 94 (xcells lim Bx n0 cx g), .blk bx 43 #[.int .u8 kd, .int .i64 N]]) rfl
          rw [HM.out] at hh
          exact hh)
        clear hb2 hxw X1
        try simp only [Oper.upon_returned]
        refine hK.out _ _ (by exact X2.out.cell 4 rfl 1 rfl) (fun hHeld => ?_)
        clear hK K
        (try simp only [Act.put]); (try simp only [List.setIfInBounds_toArray, List.set_cons_zero, List.set_cons_succ])
        refine wpAnyH_ready (rs := [7]) (by kernel_rfl) (by simp) ?_
        refine cons_lit rfl (fun K hK => ?ss7x11) AllReadyH.nil
        case ss7x11 =>
          refine step_store_row (by rfl) 94 _ _ (by rfl) X (xcells lim B' n' c' (!wrOk lim n0 g 1)) (by rfl) (by rfl) 94 _ (X2.out.blk 3 rfl) (by kernel_rfl) rfl (by unfold xcells; simp [Value.oneCell']) ?_
          refine nameX (fun v3 hv3 => ?_)
          have X3 := Lib.hid (show SP w v3 [.own .u8 5 B n c zw, .blk W 71 (wcells W lim B n c gw), .own .u8 5 B' n' c' (wrB lim ys g [nv]), .blk X 94 (xcells lim B' n' c' (!wrOk lim n0 g 1)), .blk bx 43 #[.int .u8 kd, .int .i64 N]] by rw [hv3]; exact X2.out.setR 3 rfl (xcells lim B' n' c' (!wrOk lim n0 g 1)))
          clear hv3
          refine hK.out _ _ (by exact X3.out.cell 4 rfl 1 rfl) (fun hHeld => ?_)
          clear hK K
          (try simp only [Act.put]); (try simp only [List.setIfInBounds_toArray, List.set_cons_zero, List.set_cons_succ])
          refine wpAnyH_done (by kernel_rfl) ?_ _
          refine NoPanic.normal ?_
          exact HQ.out _ _ _ _ _ _ _ B' n' c' _ X3.out

set_option maxHeartbeats 4000000 in
set_option maxRecDepth 100000 in
theorem wreg20 {u0 u1 u2 u3 u4 u5 u6 u7 u8 u10 u12 u13 u14 u15 u16 u17 u18 u19 u20 u21 u22 u23 u24 u25 u26 u27 u28 u29 u30 u31 u32 u33 u34 u35 u36 u37 u38 u39 u40 u41 u42 u43 u44 u45 u46 u47 u48 u49 u50 u51 u52 u53 u54 u55 u56 u57 u58 u59 u60 u61 u62 u63 u64 u65 u66 u67 u68 u69 u70 u71 u72 u73 u74 u75 u76 u77 u78 u79 u80 u81 u82 u83 u84 u85 u86 u87 u88 u89 u90 u91 u92 u93 u94 u95 u96 u97 u98 u99 u100 u101 u102 u103 u104 u105 u106 u107 u108 u109 u110 u111 u112 u113 u114 u115 u116 u117 u118 u119 u120 u121 u122 u123 u124 u125 u126 u127 u128 u129 u130 u131 u132 u133 u134 u135 u136 u137 u138 u139 u140 u141 u142 u143 u144 u145 u146 u147 u148 u149 u150 u151 u152 u153 u154 u155 u156 u157 u158 u159 u160 u161 u162 u163 u164 u165 u166 u167 u168 u169 u170 u171 u172 u173 u174 u175 u176 u177 u178 u179 u180 u181 u182 u183 u184 u185 u186 u187 u188 u189 u190 : Value} {Q : Exit → Act → World → Prop} (w : World) (lim W X bx : Nat) (B : Option Addr) (n c : Nat) (zw : List Int) (gw : Bool) (Bx : Option Addr) (n0 cx : Nat) (ys : List Int) (g : Bool) (kd N nv : Int) (hnv : IntKind.u16.wrap N = nv) (hb : 0 ≤ nv ∧ nv ≤ 65535) (hn : n0 ≤ lim) (hl : lim ≤ 131072) (w1 : World) (Z : Hid (SP w w1 [.own .u8 5 B n c zw, .blk W 71 (wcells W lim B n c gw), .own .u8 5 Bx n0 cx ys, .blk X 94 (xcells lim Bx n0 cx g), .blk bx 43 #[.int .u8 kd, .int .i64 N]]))
    (HQ : Hid (∀ (y98 y99 y100 y101 y102 y103 y104 : Value) (B' : Option Addr) (n' c' : Nat) (w' : World), SP w w' [.own .u8 5 B n c zw, .blk W 71 (wcells W lim B n c gw), .own .u8 5 B' n' c' (wrB lim ys g (by16 nv)), .blk X 94 (xcells lim B' n' c' (!wrOk lim n0 g 2)), .blk bx 43 #[.int .u8 kd, .int .i64 N]] → Q .normal ⟨List.toArray (u0 :: u1 :: u2 :: u3 :: u4 :: u5 :: u6 :: u7 :: u8 :: .pointer (some ⟨X, 0, none⟩) :: u10 :: .pointer (some ⟨bx, 0, none⟩) :: u12 :: u13 :: u14 :: u15 :: u16 :: u17 :: u18 :: u19 :: u20 :: u21 :: u22 :: u23 :: u24 :: u25 :: u26 :: u27 :: u28 :: u29 :: u30 :: u31 :: u32 :: u33 :: u34 :: u35 :: u36 :: u37 :: u38 :: u39 :: u40 :: u41 :: u42 :: u43 :: u44 :: u45 :: u46 :: u47 :: u48 :: u49 :: u50 :: u51 :: u52 :: u53 :: u54 :: u55 :: u56 :: u57 :: u58 :: u59 :: u60 :: u61 :: u62 :: u63 :: u64 :: u65 :: u66 :: u67 :: u68 :: u69 :: u70 :: u71 :: u72 :: u73 :: u74 :: u75 :: u76 :: u77 :: u78 :: u79 :: u80 :: u81 :: u82 :: u83 :: u84 :: u85 :: u86 :: u87 :: u88 :: u89 :: u90 :: u91 :: u92 :: u93 :: u94 :: u95 :: u96 :: u97 :: y98 :: y99 :: y100 :: y101 :: y102 :: y103 :: y104 :: u105 :: u106 :: u107 :: u108 :: u109 :: u110 :: u111 :: u112 :: u113 :: u114 :: u115 :: u116 :: u117 :: u118 :: u119 :: u120 :: u121 :: u122 :: u123 :: u124 :: u125 :: u126 :: u127 :: u128 :: u129 :: u130 :: u131 :: u132 :: u133 :: u134 :: u135 :: u136 :: u137 :: u138 :: u139 :: u140 :: u141 :: u142 :: u143 :: u144 :: u145 :: u146 :: u147 :: u148 :: u149 :: u150 :: u151 :: u152 :: u153 :: u154 :: u155 :: u156 :: u157 :: u158 :: u159 :: u160 :: u161 :: u162 :: u163 :: u164 :: u165 :: u166 :: u167 :: u168 :: u169 :: u170 :: u171 :: u172 :: u173 :: u174 :: u175 :: u176 :: u177 :: u178 :: u179 :: u180 :: u181 :: u182 :: u183 :: u184 :: u185 :: u186 :: u187 :: u188 :: u189 :: u190 :: []), []⟩ w')) :
    Code.wp Try.prog (regAt Try.f17 20) Q ⟨List.toArray (u0 :: u1 :: u2 :: u3 :: u4 :: u5 :: u6 :: u7 :: u8 :: .pointer (some ⟨X, 0, none⟩) :: u10 :: .pointer (some ⟨bx, 0, none⟩) :: u12 :: u13 :: u14 :: u15 :: u16 :: u17 :: u18 :: u19 :: u20 :: u21 :: u22 :: u23 :: u24 :: u25 :: u26 :: u27 :: u28 :: u29 :: u30 :: u31 :: u32 :: u33 :: u34 :: u35 :: u36 :: u37 :: u38 :: u39 :: u40 :: u41 :: u42 :: u43 :: u44 :: u45 :: u46 :: u47 :: u48 :: u49 :: u50 :: u51 :: u52 :: u53 :: u54 :: u55 :: u56 :: u57 :: u58 :: u59 :: u60 :: u61 :: u62 :: u63 :: u64 :: u65 :: u66 :: u67 :: u68 :: u69 :: u70 :: u71 :: u72 :: u73 :: u74 :: u75 :: u76 :: u77 :: u78 :: u79 :: u80 :: u81 :: u82 :: u83 :: u84 :: u85 :: u86 :: u87 :: u88 :: u89 :: u90 :: u91 :: u92 :: u93 :: u94 :: u95 :: u96 :: u97 :: u98 :: u99 :: u100 :: u101 :: u102 :: u103 :: u104 :: u105 :: u106 :: u107 :: u108 :: u109 :: u110 :: u111 :: u112 :: u113 :: u114 :: u115 :: u116 :: u117 :: u118 :: u119 :: u120 :: u121 :: u122 :: u123 :: u124 :: u125 :: u126 :: u127 :: u128 :: u129 :: u130 :: u131 :: u132 :: u133 :: u134 :: u135 :: u136 :: u137 :: u138 :: u139 :: u140 :: u141 :: u142 :: u143 :: u144 :: u145 :: u146 :: u147 :: u148 :: u149 :: u150 :: u151 :: u152 :: u153 :: u154 :: u155 :: u156 :: u157 :: u158 :: u159 :: u160 :: u161 :: u162 :: u163 :: u164 :: u165 :: u166 :: u167 :: u168 :: u169 :: u170 :: u171 :: u172 :: u173 :: u174 :: u175 :: u176 :: u177 :: u178 :: u179 :: u180 :: u181 :: u182 :: u183 :: u184 :: u185 :: u186 :: u187 :: u188 :: u189 :: u190 :: []), []⟩ w1 := by
  have e1 : IntKind.i64.wrap nv = nv := IntWalk.i64_in _ (by omega)
  have hyl := (Z.out.own 2 rfl).len
  have HM := Lib.hid (wr_merge lim ys g (by16 nv) hyl)
  have XD := Lib.hid Z.out.drew
  clear Z hyl
  conv => arg 2; whnf
  refine wp_region_noPanic ?_
  refine wp_region_held_drew (S := fun W' => W'.cell? ⟨bx, 1, none⟩ = some (.int .i64 N)) (by kernel_rfl) (by exact XD.out.cell 4 rfl 1 rfl) (fun hHeld => ?_)
  generalize w1.drew = v0 at XD hHeld ⊢
  refine' take_lit (i := 1) (v := _) rfl (by kernel_rfl) (by kernel_rfl) (by kernel_rfl) (fun _ _ _ h => h) (Or.inl ⟨by rfl, ?yy12⟩) (by assumption) ?rr12
  case yy12 => intro w' hSw; (try dsimp only at hSw); go_simp; try (with_reducible rfl)
  (try simp only [Act.put]); (try simp only [List.setIfInBounds_toArray, List.set_cons_zero, List.set_cons_succ])
  refine' take_lit (i := 2) (v := _) rfl (by kernel_rfl) (by kernel_rfl) (by kernel_rfl) (fun _ _ _ h => h) (Or.inl ⟨by rfl, ?yy13⟩) (by assumption) ?rr13
  case yy13 => intro w' hSw; (try dsimp only at hSw); go_simp; try (with_reducible rfl)
  (try simp only [Act.put]); (try simp only [List.setIfInBounds_toArray, List.set_cons_zero, List.set_cons_succ])
  refine' take_lit (i := 3) (v := _) rfl (by kernel_rfl) (by kernel_rfl) (by kernel_rfl) (fun _ _ _ h => h) (Or.inl ⟨by rfl, ?yy14⟩) (by assumption) ?rr14
  case yy14 => intro w' hSw; (try dsimp only at hSw); go_simp; try (with_reducible rfl)
  (try simp only [Act.put]); (try simp only [List.setIfInBounds_toArray, List.set_cons_zero, List.set_cons_succ])
  refine' take_lit (i := 4) (v := _) rfl (by kernel_rfl) (by kernel_rfl) (by kernel_rfl) (fun _ _ _ h => h) (Or.inl ⟨by rfl, ?yy15⟩) (by assumption) ?rr15
  case yy15 => intro w' hSw; (try dsimp only at hSw); go_simp; try (with_reducible rfl)
  (try simp only [Act.put]); (try simp only [List.setIfInBounds_toArray, List.set_cons_zero, List.set_cons_succ])
  refine wpAnyH_ready (rs := [0, 5]) (by kernel_rfl) (by simp) ?_
  refine cons_lit rfl (fun K hK => ?ss0x16) (cons_lit rfl (fun K hK => ?ss5x16) AllReadyH.nil)
  case ss0x16 =>
    have y0 : v0.cell? ⟨X, 0, none⟩ = some (.int .i64 (lim : Int)) := XD.out.cell 3 rfl 0 rfl
    have y1 : v0.cell? ⟨X, 1, none⟩ = some (.slice Bx n0 cx) := XD.out.cell 3 rfl 1 rfl
    have y2 : v0.cell? ⟨X, 2, none⟩ = some (.bool g) := XD.out.cell 3 rfl 2 rfl
    refine step_load_row1 (by rfl) 94 _ (by rfl) X (by rfl) 94 (xcells lim Bx n0 cx g) (0, 0) _ (XD.out.blk 3 rfl) Try.underlying94 rfl (by kernel_rfl) ?_
    clear y0 y1 y2
    refine hK.out _ _ (by exact XD.out.cell 4 rfl 1 rfl) (fun hHeld => ?_)
    clear hK K
    (try simp only [Act.put]); (try simp only [List.setIfInBounds_toArray, List.set_cons_zero, List.set_cons_succ])
    refine wpAnyH_ready (rs := [5]) (by kernel_rfl) (by simp) ?_
    refine cons_lit rfl (fun K hK => ?ss5x17) AllReadyH.nil
    case ss5x17 =>
      go_simp
      refine (r1Bytes2_any nv _ hb).mono ?_
      rintro e v1 ⟨A1, c1, rfl, ho1, hb1⟩
      have X1 := Lib.hid (XD.out.pushOwn hb1 ho1)
      clear ho1 hb1
      try simp only [Oper.upon_returned]
      refine hK.out _ _ (by exact X1.out.cell 4 rfl 1 rfl) (fun hHeld => ?_)
      clear hK K
      (try simp only [Act.put]); (try simp only [List.setIfInBounds_toArray, List.set_cons_zero, List.set_cons_succ])
      refine wpAnyH_ready (rs := [6]) (by kernel_rfl) (by simp) ?_
      refine cons_lit rfl (fun K hK => ?ss6x18) AllReadyH.nil
      case ss6x18 =>
        go_simp
        refine (r1Write_any lim Bx n0 cx ys g A1 2 c1 (by16 nv) _ (X1.out.rd 2 rfl) (X1.out.rd 5 rfl) hn hl (by omega)).mono ?_
        rintro e v2 ⟨B', n', c', rfl, hb2, hxw⟩
        have X2 := Lib.hid (show SP w v2 [.own .u8 5 B n c zw, .blk W 71 (wcells W lim B n c gw), .own .u8 5 B' n' c' (wrB lim ys g (by16 nv)), .blk X 94 (xcells lim Bx n0 cx g), .blk bx 43 #[.int .u8 kd, .int .i64 N]] by
          have hh := (XW.sp X1.out hb2 hxw).pick [0, 1, 2, 3, 4] (by decide) (L' := [.own .u8 5 B n c zw, .blk W 71 (wcells W lim B n c gw), .own .u8 5 B' n' c' (if wrOk lim n0 g (((by16 nv)).length : Int) = true then ys ++ (by16 nv) else ys), .blk X 94 (xcells lim Bx n0 cx g), .blk bx 43 #[.int .u8 kd, .int .i64 N]]) rfl
          rw [HM.out] at hh
          exact hh)
        clear hb2 hxw X1
        try simp only [Oper.upon_returned]
        refine hK.out _ _ (by exact X2.out.cell 4 rfl 1 rfl) (fun hHeld => ?_)
        clear hK K
        (try simp only [Act.put]); (try simp only [List.setIfInBounds_toArray, List.set_cons_zero, List.set_cons_succ])
        refine wpAnyH_ready (rs := [7]) (by kernel_rfl) (by simp) ?_
        refine cons_lit rfl (fun K hK => ?ss7x19) AllReadyH.nil
        case ss7x19 =>
          refine step_store_row (by rfl) 94 _ _ (by rfl) X (xcells lim B' n' c' (!wrOk lim n0 g 2)) (by rfl) (by rfl) 94 _ (X2.out.blk 3 rfl) (by kernel_rfl) rfl (by unfold xcells; simp [Value.oneCell']) ?_
          refine nameX (fun v3 hv3 => ?_)
          have X3 := Lib.hid (show SP w v3 [.own .u8 5 B n c zw, .blk W 71 (wcells W lim B n c gw), .own .u8 5 B' n' c' (wrB lim ys g (by16 nv)), .blk X 94 (xcells lim B' n' c' (!wrOk lim n0 g 2)), .blk bx 43 #[.int .u8 kd, .int .i64 N]] by rw [hv3]; exact X2.out.setR 3 rfl (xcells lim B' n' c' (!wrOk lim n0 g 2)))
          clear hv3
          refine hK.out _ _ (by exact X3.out.cell 4 rfl 1 rfl) (fun hHeld => ?_)
          clear hK K
          (try simp only [Act.put]); (try simp only [List.setIfInBounds_toArray, List.set_cons_zero, List.set_cons_succ])
          refine wpAnyH_done (by kernel_rfl) ?_ _
          refine NoPanic.normal ?_
          exact HQ.out _ _ _ _ _ _ _ B' n' c' _ X3.out
  case ss5x16 =>
    go_simp
    refine (r1Bytes2_any nv _ hb).mono ?_
    rintro e v1 ⟨A1, c1, rfl, ho1, hb1⟩
    have X1 := Lib.hid (XD.out.pushOwn hb1 ho1)
    clear ho1 hb1
    try simp only [Oper.upon_returned]
    refine hK.out _ _ (by exact X1.out.cell 4 rfl 1 rfl) (fun hHeld => ?_)
    clear hK K
    (try simp only [Act.put]); (try simp only [List.setIfInBounds_toArray, List.set_cons_zero, List.set_cons_succ])
    refine wpAnyH_ready (rs := [0]) (by kernel_rfl) (by simp) ?_
    refine cons_lit rfl (fun K hK => ?ss0x20) AllReadyH.nil
    case ss0x20 =>
      have y0 : v1.cell? ⟨X, 0, none⟩ = some (.int .i64 (lim : Int)) := X1.out.cell 3 rfl 0 rfl
      have y1 : v1.cell? ⟨X, 1, none⟩ = some (.slice Bx n0 cx) := X1.out.cell 3 rfl 1 rfl
      have y2 : v1.cell? ⟨X, 2, none⟩ = some (.bool g) := X1.out.cell 3 rfl 2 rfl
      refine step_load_row1 (by rfl) 94 _ (by rfl) X (by rfl) 94 (xcells lim Bx n0 cx g) (0, 0) _ (X1.out.blk 3 rfl) Try.underlying94 rfl (by kernel_rfl) ?_
      clear y0 y1 y2
      refine hK.out _ _ (by exact X1.out.cell 4 rfl 1 rfl) (fun hHeld => ?_)
      clear hK K
      (try simp only [Act.put]); (try simp only [List.setIfInBounds_toArray, List.set_cons_zero, List.set_cons_succ])
      refine wpAnyH_ready (rs := [6]) (by kernel_rfl) (by simp) ?_
      refine cons_lit rfl (fun K hK => ?ss6x21) AllReadyH.nil
      case ss6x21 =>
        go_simp
        refine (r1Write_any lim Bx n0 cx ys g A1 2 c1 (by16 nv) _ (X1.out.rd 2 rfl) (X1.out.rd 5 rfl) hn hl (by omega)).mono ?_
        rintro e v2 ⟨B', n', c', rfl, hb2, hxw⟩
        have X2 := Lib.hid (show SP w v2 [.own .u8 5 B n c zw, .blk W 71 (wcells W lim B n c gw), .own .u8 5 B' n' c' (wrB lim ys g (by16 nv)), .blk X 94 (xcells lim Bx n0 cx g), .blk bx 43 #[.int .u8 kd, .int .i64 N]] by
          have hh := (XW.sp X1.out hb2 hxw).pick [0, 1, 2, 3, 4] (by decide) (L' := [.own .u8 5 B n c zw, .blk W 71 (wcells W lim B n c gw), .own .u8 5 B' n' c' (if wrOk lim n0 g (((by16 nv)).length : Int) = true then ys ++ (by16 nv) else ys), .blk X 94 (xcells lim Bx n0 cx g), .blk bx 43 #[.int .u8 kd, .int .i64 N]]) rfl
          rw [HM.out] at hh
          exact hh)
        clear hb2 hxw X1
        try simp only [Oper.upon_returned]
        refine hK.out _ _ (by exact X2.out.cell 4 rfl 1 rfl) (fun hHeld => ?_)
        clear hK K
        (try simp only [Act.put]); (try simp only [List.setIfInBounds_toArray, List.set_cons_zero, List.set_cons_succ])
        refine wpAnyH_ready (rs := [7]) (by kernel_rfl) (by simp) ?_
        refine cons_lit rfl (fun K hK => ?ss7x22) AllReadyH.nil
        case ss7x22 =>
          refine step_store_row (by rfl) 94 _ _ (by rfl) X (xcells lim B' n' c' (!wrOk lim n0 g 2)) (by rfl) (by rfl) 94 _ (X2.out.blk 3 rfl) (by kernel_rfl) rfl (by unfold xcells; simp [Value.oneCell']) ?_
          refine nameX (fun v3 hv3 => ?_)
          have X3 := Lib.hid (show SP w v3 [.own .u8 5 B n c zw, .blk W 71 (wcells W lim B n c gw), .own .u8 5 B' n' c' (wrB lim ys g (by16 nv)), .blk X 94 (xcells lim B' n' c' (!wrOk lim n0 g 2)), .blk bx 43 #[.int .u8 kd, .int .i64 N]] by rw [hv3]; exact X2.out.setR 3 rfl (xcells lim B' n' c' (!wrOk lim n0 g 2)))
          clear hv3
          refine hK.out _ _ (by exact X3.out.cell 4 rfl 1 rfl) (fun hHeld => ?_)
          clear hK K
          (try simp only [Act.put]); (try simp only [List.setIfInBounds_toArray, List.set_cons_zero, List.set_cons_succ])
          refine wpAnyH_done (by kernel_rfl) ?_ _
          refine NoPanic.normal ?_
          exact HQ.out _ _ _ _ _ _ _ B' n' c' _ X3.out

set_option maxHeartbeats 4000000 in
set_option maxRecDepth 100000 in
theorem wreg23 {u0 u1 u2 u3 u4 u5 u6 u7 u8 u10 u12 u13 u14 u15 u16 u17 u18 u19 u20 u21 u22 u23 u24 u25 u26 u27 u28 u29 u30 u31 u32 u33 u34 u35 u36 u37 u38 u39 u40 u41 u42 u43 u44 u45 u46 u47 u48 u49 u50 u51 u52 u53 u54 u55 u56 u57 u58 u59 u60 u61 u62 u63 u64 u65 u66 u67 u68 u69 u70 u71 u72 u73 u74 u75 u76 u77 u78 u79 u80 u81 u82 u83 u84 u85 u86 u87 u88 u89 u90 u91 u92 u93 u94 u95 u96 u97 u98 u99 u100 u101 u102 u103 u104 u105 u106 u107 u108 u109 u110 u111 u112 u113 u114 u115 u116 u117 u118 u119 u120 u121 u122 u123 u124 u125 u126 u127 u128 u129 u130 u131 u132 u133 u134 u135 u136 u137 u138 u139 u140 u141 u142 u143 u144 u145 u146 u147 u148 u149 u150 u151 u152 u153 u154 u155 u156 u157 u158 u159 u160 u161 u162 u163 u164 u165 u166 u167 u168 u169 u170 u171 u172 u173 u174 u175 u176 u177 u178 u179 u180 u181 u182 u183 u184 u185 u186 u187 u188 u189 u190 : Value} {Q : Exit → Act → World → Prop} (w : World) (lim W X bx : Nat) (B : Option Addr) (n c : Nat) (zw : List Int) (gw : Bool) (Bx : Option Addr) (n0 cx : Nat) (ys : List Int) (g : Bool) (kd N nv : Int) (hnv : IntKind.u32.wrap N = nv) (hb : 0 ≤ nv ∧ nv ≤ 4294967295) (hn : n0 ≤ lim) (hl : lim ≤ 131072) (w1 : World) (Z : Hid (SP w w1 [.own .u8 5 B n c zw, .blk W 71 (wcells W lim B n c gw), .own .u8 5 Bx n0 cx ys, .blk X 94 (xcells lim Bx n0 cx g), .blk bx 43 #[.int .u8 kd, .int .i64 N]]))
    (HQ : Hid (∀ (y112 y113 y114 y115 y116 y117 y118 : Value) (B' : Option Addr) (n' c' : Nat) (w' : World), SP w w' [.own .u8 5 B n c zw, .blk W 71 (wcells W lim B n c gw), .own .u8 5 B' n' c' (wrB lim ys g (by32 nv)), .blk X 94 (xcells lim B' n' c' (!wrOk lim n0 g 4)), .blk bx 43 #[.int .u8 kd, .int .i64 N]] → Q .normal ⟨List.toArray (u0 :: u1 :: u2 :: u3 :: u4 :: u5 :: u6 :: u7 :: u8 :: .pointer (some ⟨X, 0, none⟩) :: u10 :: .pointer (some ⟨bx, 0, none⟩) :: u12 :: u13 :: u14 :: u15 :: u16 :: u17 :: u18 :: u19 :: u20 :: u21 :: u22 :: u23 :: u24 :: u25 :: u26 :: u27 :: u28 :: u29 :: u30 :: u31 :: u32 :: u33 :: u34 :: u35 :: u36 :: u37 :: u38 :: u39 :: u40 :: u41 :: u42 :: u43 :: u44 :: u45 :: u46 :: u47 :: u48 :: u49 :: u50 :: u51 :: u52 :: u53 :: u54 :: u55 :: u56 :: u57 :: u58 :: u59 :: u60 :: u61 :: u62 :: u63 :: u64 :: u65 :: u66 :: u67 :: u68 :: u69 :: u70 :: u71 :: u72 :: u73 :: u74 :: u75 :: u76 :: u77 :: u78 :: u79 :: u80 :: u81 :: u82 :: u83 :: u84 :: u85 :: u86 :: u87 :: u88 :: u89 :: u90 :: u91 :: u92 :: u93 :: u94 :: u95 :: u96 :: u97 :: u98 :: u99 :: u100 :: u101 :: u102 :: u103 :: u104 :: u105 :: u106 :: u107 :: u108 :: u109 :: u110 :: u111 :: y112 :: y113 :: y114 :: y115 :: y116 :: y117 :: y118 :: u119 :: u120 :: u121 :: u122 :: u123 :: u124 :: u125 :: u126 :: u127 :: u128 :: u129 :: u130 :: u131 :: u132 :: u133 :: u134 :: u135 :: u136 :: u137 :: u138 :: u139 :: u140 :: u141 :: u142 :: u143 :: u144 :: u145 :: u146 :: u147 :: u148 :: u149 :: u150 :: u151 :: u152 :: u153 :: u154 :: u155 :: u156 :: u157 :: u158 :: u159 :: u160 :: u161 :: u162 :: u163 :: u164 :: u165 :: u166 :: u167 :: u168 :: u169 :: u170 :: u171 :: u172 :: u173 :: u174 :: u175 :: u176 :: u177 :: u178 :: u179 :: u180 :: u181 :: u182 :: u183 :: u184 :: u185 :: u186 :: u187 :: u188 :: u189 :: u190 :: []), []⟩ w')) :
    Code.wp Try.prog (regAt Try.f17 23) Q ⟨List.toArray (u0 :: u1 :: u2 :: u3 :: u4 :: u5 :: u6 :: u7 :: u8 :: .pointer (some ⟨X, 0, none⟩) :: u10 :: .pointer (some ⟨bx, 0, none⟩) :: u12 :: u13 :: u14 :: u15 :: u16 :: u17 :: u18 :: u19 :: u20 :: u21 :: u22 :: u23 :: u24 :: u25 :: u26 :: u27 :: u28 :: u29 :: u30 :: u31 :: u32 :: u33 :: u34 :: u35 :: u36 :: u37 :: u38 :: u39 :: u40 :: u41 :: u42 :: u43 :: u44 :: u45 :: u46 :: u47 :: u48 :: u49 :: u50 :: u51 :: u52 :: u53 :: u54 :: u55 :: u56 :: u57 :: u58 :: u59 :: u60 :: u61 :: u62 :: u63 :: u64 :: u65 :: u66 :: u67 :: u68 :: u69 :: u70 :: u71 :: u72 :: u73 :: u74 :: u75 :: u76 :: u77 :: u78 :: u79 :: u80 :: u81 :: u82 :: u83 :: u84 :: u85 :: u86 :: u87 :: u88 :: u89 :: u90 :: u91 :: u92 :: u93 :: u94 :: u95 :: u96 :: u97 :: u98 :: u99 :: u100 :: u101 :: u102 :: u103 :: u104 :: u105 :: u106 :: u107 :: u108 :: u109 :: u110 :: u111 :: u112 :: u113 :: u114 :: u115 :: u116 :: u117 :: u118 :: u119 :: u120 :: u121 :: u122 :: u123 :: u124 :: u125 :: u126 :: u127 :: u128 :: u129 :: u130 :: u131 :: u132 :: u133 :: u134 :: u135 :: u136 :: u137 :: u138 :: u139 :: u140 :: u141 :: u142 :: u143 :: u144 :: u145 :: u146 :: u147 :: u148 :: u149 :: u150 :: u151 :: u152 :: u153 :: u154 :: u155 :: u156 :: u157 :: u158 :: u159 :: u160 :: u161 :: u162 :: u163 :: u164 :: u165 :: u166 :: u167 :: u168 :: u169 :: u170 :: u171 :: u172 :: u173 :: u174 :: u175 :: u176 :: u177 :: u178 :: u179 :: u180 :: u181 :: u182 :: u183 :: u184 :: u185 :: u186 :: u187 :: u188 :: u189 :: u190 :: []), []⟩ w1 := by
  have e1 : IntKind.i64.wrap nv = nv := IntWalk.i64_in _ (by omega)
  have hyl := (Z.out.own 2 rfl).len
  have HM := Lib.hid (wr_merge lim ys g (by32 nv) hyl)
  have XD := Lib.hid Z.out.drew
  clear Z hyl
  conv => arg 2; whnf
  refine wp_region_noPanic ?_
  refine wp_region_held_drew (S := fun W' => W'.cell? ⟨bx, 1, none⟩ = some (.int .i64 N)) (by kernel_rfl) (by exact XD.out.cell 4 rfl 1 rfl) (fun hHeld => ?_)
  generalize w1.drew = v0 at XD hHeld ⊢
  refine' take_lit (i := 1) (v := _) rfl (by kernel_rfl) (by kernel_rfl) (by kernel_rfl) (fun _ _ _ h => h) (Or.inl ⟨by rfl, ?yy23⟩) (by assumption) ?rr23
  case yy23 => intro w' hSw; (try dsimp only at hSw); go_simp; try (with_reducible rfl)
  (try simp only [Act.put]); (try simp only [List.setIfInBounds_toArray, List.set_cons_zero, List.set_cons_succ])
  refine' take_lit (i := 2) (v := _) rfl (by kernel_rfl) (by kernel_rfl) (by kernel_rfl) (fun _ _ _ h => h) (Or.inl ⟨by rfl, ?yy24⟩) (by assumption) ?rr24
  case yy24 => intro w' hSw; (try dsimp only at hSw); go_simp; try (with_reducible rfl)
  (try simp only [Act.put]); (try simp only [List.setIfInBounds_toArray, List.set_cons_zero, List.set_cons_succ])
  refine' take_lit (i := 3) (v := _) rfl (by kernel_rfl) (by kernel_rfl) (by kernel_rfl) (fun _ _ _ h => h) (Or.inl ⟨by rfl, ?yy25⟩) (by assumption) ?rr25
  case yy25 => intro w' hSw; (try dsimp only at hSw); go_simp; try (with_reducible rfl)
  (try simp only [Act.put]); (try simp only [List.setIfInBounds_toArray, List.set_cons_zero, List.set_cons_succ])
  refine' take_lit (i := 4) (v := _) rfl (by kernel_rfl) (by kernel_rfl) (by kernel_rfl) (fun _ _ _ h => h) (Or.inl ⟨by rfl, ?yy26⟩) (by assumption) ?rr26
  case yy26 => intro w' hSw; (try dsimp only at hSw); go_simp; try (with_reducible rfl)
  (try simp only [Act.put]); (try simp only [List.setIfInBounds_toArray, List.set_cons_zero, List.set_cons_succ])
  refine wpAnyH_ready (rs := [0, 5]) (by kernel_rfl) (by simp) ?_
  refine cons_lit rfl (fun K hK => ?ss0x27) (cons_lit rfl (fun K hK => ?ss5x27) AllReadyH.nil)
  case ss0x27 =>
    have y0 : v0.cell? ⟨X, 0, none⟩ = some (.int .i64 (lim : Int)) := XD.out.cell 3 rfl 0 rfl
    have y1 : v0.cell? ⟨X, 1, none⟩ = some (.slice Bx n0 cx) := XD.out.cell 3 rfl 1 rfl
    have y2 : v0.cell? ⟨X, 2, none⟩ = some (.bool g) := XD.out.cell 3 rfl 2 rfl
    refine step_load_row1 (by rfl) 94 _ (by rfl) X (by rfl) 94 (xcells lim Bx n0 cx g) (0, 0) _ (XD.out.blk 3 rfl) Try.underlying94 rfl (by kernel_rfl) ?_
    clear y0 y1 y2
    refine hK.out _ _ (by exact XD.out.cell 4 rfl 1 rfl) (fun hHeld => ?_)
    clear hK K
    (try simp only [Act.put]); (try simp only [List.setIfInBounds_toArray, List.set_cons_zero, List.set_cons_succ])
    refine wpAnyH_ready (rs := [5]) (by kernel_rfl) (by simp) ?_
    refine cons_lit rfl (fun K hK => ?ss5x28) AllReadyH.nil
    case ss5x28 =>
      go_simp
      refine (r1Bytes4_any nv _ hb).mono ?_
      rintro e v1 ⟨A1, c1, rfl, ho1, hb1⟩
      have X1 := Lib.hid (XD.out.pushOwn hb1 ho1)
      clear ho1 hb1
      try simp only [Oper.upon_returned]
      refine hK.out _ _ (by exact X1.out.cell 4 rfl 1 rfl) (fun hHeld => ?_)
      clear hK K
      (try simp only [Act.put]); (try simp only [List.setIfInBounds_toArray, List.set_cons_zero, List.set_cons_succ])
      refine wpAnyH_ready (rs := [6]) (by kernel_rfl) (by simp) ?_
      refine cons_lit rfl (fun K hK => ?ss6x29) AllReadyH.nil
      case ss6x29 =>
        go_simp
        refine (r1Write_any lim Bx n0 cx ys g A1 4 c1 (by32 nv) _ (X1.out.rd 2 rfl) (X1.out.rd 5 rfl) hn hl (by omega)).mono ?_
        rintro e v2 ⟨B', n', c', rfl, hb2, hxw⟩
        have X2 := Lib.hid (show SP w v2 [.own .u8 5 B n c zw, .blk W 71 (wcells W lim B n c gw), .own .u8 5 B' n' c' (wrB lim ys g (by32 nv)), .blk X 94 (xcells lim Bx n0 cx g), .blk bx 43 #[.int .u8 kd, .int .i64 N]] by
          have hh := (XW.sp X1.out hb2 hxw).pick [0, 1, 2, 3, 4] (by decide) (L' := [.own .u8 5 B n c zw, .blk W 71 (wcells W lim B n c gw), .own .u8 5 B' n' c' (if wrOk lim n0 g (((by32 nv)).length : Int) = true then ys ++ (by32 nv) else ys), .blk X 94 (xcells lim Bx n0 cx g), .blk bx 43 #[.int .u8 kd, .int .i64 N]]) rfl
          rw [HM.out] at hh
          exact hh)
        clear hb2 hxw X1
        try simp only [Oper.upon_returned]
        refine hK.out _ _ (by exact X2.out.cell 4 rfl 1 rfl) (fun hHeld => ?_)
        clear hK K
        (try simp only [Act.put]); (try simp only [List.setIfInBounds_toArray, List.set_cons_zero, List.set_cons_succ])
        refine wpAnyH_ready (rs := [7]) (by kernel_rfl) (by simp) ?_
        refine cons_lit rfl (fun K hK => ?ss7x30) AllReadyH.nil
        case ss7x30 =>
          refine step_store_row (by rfl) 94 _ _ (by rfl) X (xcells lim B' n' c' (!wrOk lim n0 g 4)) (by rfl) (by rfl) 94 _ (X2.out.blk 3 rfl) (by kernel_rfl) rfl (by unfold xcells; simp [Value.oneCell']) ?_
          refine nameX (fun v3 hv3 => ?_)
          have X3 := Lib.hid (show SP w v3 [.own .u8 5 B n c zw, .blk W 71 (wcells W lim B n c gw), .own .u8 5 B' n' c' (wrB lim ys g (by32 nv)), .blk X 94 (xcells lim B' n' c' (!wrOk lim n0 g 4)), .blk bx 43 #[.int .u8 kd, .int .i64 N]] by rw [hv3]; exact X2.out.setR 3 rfl (xcells lim B' n' c' (!wrOk lim n0 g 4)))
          clear hv3
          refine hK.out _ _ (by exact X3.out.cell 4 rfl 1 rfl) (fun hHeld => ?_)
          clear hK K
          (try simp only [Act.put]); (try simp only [List.setIfInBounds_toArray, List.set_cons_zero, List.set_cons_succ])
          refine wpAnyH_done (by kernel_rfl) ?_ _
          refine NoPanic.normal ?_
          exact HQ.out _ _ _ _ _ _ _ B' n' c' _ X3.out
  case ss5x27 =>
    go_simp
    refine (r1Bytes4_any nv _ hb).mono ?_
    rintro e v1 ⟨A1, c1, rfl, ho1, hb1⟩
    have X1 := Lib.hid (XD.out.pushOwn hb1 ho1)
    clear ho1 hb1
    try simp only [Oper.upon_returned]
    refine hK.out _ _ (by exact X1.out.cell 4 rfl 1 rfl) (fun hHeld => ?_)
    clear hK K
    (try simp only [Act.put]); (try simp only [List.setIfInBounds_toArray, List.set_cons_zero, List.set_cons_succ])
    refine wpAnyH_ready (rs := [0]) (by kernel_rfl) (by simp) ?_
    refine cons_lit rfl (fun K hK => ?ss0x31) AllReadyH.nil
    case ss0x31 =>
      have y0 : v1.cell? ⟨X, 0, none⟩ = some (.int .i64 (lim : Int)) := X1.out.cell 3 rfl 0 rfl
      have y1 : v1.cell? ⟨X, 1, none⟩ = some (.slice Bx n0 cx) := X1.out.cell 3 rfl 1 rfl
      have y2 : v1.cell? ⟨X, 2, none⟩ = some (.bool g) := X1.out.cell 3 rfl 2 rfl
      refine step_load_row1 (by rfl) 94 _ (by rfl) X (by rfl) 94 (xcells lim Bx n0 cx g) (0, 0) _ (X1.out.blk 3 rfl) Try.underlying94 rfl (by kernel_rfl) ?_
      clear y0 y1 y2
      refine hK.out _ _ (by exact X1.out.cell 4 rfl 1 rfl) (fun hHeld => ?_)
      clear hK K
      (try simp only [Act.put]); (try simp only [List.setIfInBounds_toArray, List.set_cons_zero, List.set_cons_succ])
      refine wpAnyH_ready (rs := [6]) (by kernel_rfl) (by simp) ?_
      refine cons_lit rfl (fun K hK => ?ss6x32) AllReadyH.nil
      case ss6x32 =>
        go_simp
        refine (r1Write_any lim Bx n0 cx ys g A1 4 c1 (by32 nv) _ (X1.out.rd 2 rfl) (X1.out.rd 5 rfl) hn hl (by omega)).mono ?_
        rintro e v2 ⟨B', n', c', rfl, hb2, hxw⟩
        have X2 := Lib.hid (show SP w v2 [.own .u8 5 B n c zw, .blk W 71 (wcells W lim B n c gw), .own .u8 5 B' n' c' (wrB lim ys g (by32 nv)), .blk X 94 (xcells lim Bx n0 cx g), .blk bx 43 #[.int .u8 kd, .int .i64 N]] by
          have hh := (XW.sp X1.out hb2 hxw).pick [0, 1, 2, 3, 4] (by decide) (L' := [.own .u8 5 B n c zw, .blk W 71 (wcells W lim B n c gw), .own .u8 5 B' n' c' (if wrOk lim n0 g (((by32 nv)).length : Int) = true then ys ++ (by32 nv) else ys), .blk X 94 (xcells lim Bx n0 cx g), .blk bx 43 #[.int .u8 kd, .int .i64 N]]) rfl
          rw [HM.out] at hh
          exact hh)
        clear hb2 hxw X1
        try simp only [Oper.upon_returned]
        refine hK.out _ _ (by exact X2.out.cell 4 rfl 1 rfl) (fun hHeld => ?_)
        clear hK K
        (try simp only [Act.put]); (try simp only [List.setIfInBounds_toArray, List.set_cons_zero, List.set_cons_succ])
        refine wpAnyH_ready (rs := [7]) (by kernel_rfl) (by simp) ?_
        refine cons_lit rfl (fun K hK => ?ss7x33) AllReadyH.nil
        case ss7x33 =>
          refine step_store_row (by rfl) 94 _ _ (by rfl) X (xcells lim B' n' c' (!wrOk lim n0 g 4)) (by rfl) (by rfl) 94 _ (X2.out.blk 3 rfl) (by kernel_rfl) rfl (by unfold xcells; simp [Value.oneCell']) ?_
          refine nameX (fun v3 hv3 => ?_)
          have X3 := Lib.hid (show SP w v3 [.own .u8 5 B n c zw, .blk W 71 (wcells W lim B n c gw), .own .u8 5 B' n' c' (wrB lim ys g (by32 nv)), .blk X 94 (xcells lim B' n' c' (!wrOk lim n0 g 4)), .blk bx 43 #[.int .u8 kd, .int .i64 N]] by rw [hv3]; exact X2.out.setR 3 rfl (xcells lim B' n' c' (!wrOk lim n0 g 4)))
          clear hv3
          refine hK.out _ _ (by exact X3.out.cell 4 rfl 1 rfl) (fun hHeld => ?_)
          clear hK K
          (try simp only [Act.put]); (try simp only [List.setIfInBounds_toArray, List.set_cons_zero, List.set_cons_succ])
          refine wpAnyH_done (by kernel_rfl) ?_ _
          refine NoPanic.normal ?_
          exact HQ.out _ _ _ _ _ _ _ B' n' c' _ X3.out
end Go.Proofs.Ytcipgkpcaecjdaa
