import Derived.Test.YtcipgkpcaecjdaaWAwake1
import Derived.Test.YtcipgkpcaecjdaaCuts
import Derived.Deep.DeepCutAuto
import Derived.BigGuardPart
/- The great condition of WireStays. (Printed by gen_wstays.py.) -/
namespace Go.Proofs.Ytcipgkpcaecjdaa
open Go.RowKit
set_option linter.unusedVariables false
set_option linter.unusedSimpArgs false

set_option maxHeartbeats 2000000 in
set_option maxRecDepth 100000 in
theorem stays25 {u1 u3 u4 u5 u6 u8 u10 u11 u12 u18 u19 u20 u21 u22 u23 u24 u25 u26 u27 u28 u29 u30 u31 u32 u33 u34 u35 u36 u37 u38 u39 u40 u41 u42 u43 u44 u45 u46 u47 u48 u49 u50 u51 u52 u53 u54 u55 u56 u57 u58 u59 u60 u61 u62 u63 u64 u65 u66 u67 u68 u69 u70 u71 u72 u73 u74 u75 u76 u77 u78 u79 u80 u81 u82 u83 u84 u85 u86 u87 u88 u89 u90 u91 u92 u93 u94 u95 u96 u97 u98 u99 u100 u101 u102 u103 u104 u105 u106 u107 u108 u109 u110 u111 u112 u113 u114 u115 u116 u117 u118 u119 u120 u121 u122 u123 u124 u125 u126 u127 u128 u129 u130 u131 u132 u133 u134 u135 u136 u137 u138 u139 u140 u141 u142 u143 u144 u145 u146 u147 u148 u149 u150 u151 u152 u153 u154 u155 u156 u157 u158 u159 u160 u161 u162 u163 u164 u165 u166 u167 u168 u169 u170 u171 u172 u173 : Value} {Q : Exit → Act → World → Prop} (w : World) (Rd : Nat) (B2 : Option Addr) (n2 c2 : Nat) (bs : List Int) (A : Option Addr) (c : Nat) (lm : Int) (lim W p nb : Nat) (f g : Bool) (p' n' : Nat) (f' g' : Bool) (B' : Option Addr) (c' : Nat) (ys' : List Int) (got : Int)
    (ELM : Hid (IntKind.i64.wrap lm = lm ∧ lm.tmod 101 = (lim : Int))) (hp : p ≤ n2) (HF : Hid (p ≤ p' ∧ p' ≤ n2 ∧ (f = true → (p' = p ∧ f' = true) ∧ got = 0) ∧ (f' = true → p' = p) ∧ nb ≤ n' ∧ n' ≤ lim ∧ (g = true → n' = nb ∧ g' = true))) (w1 : World) (Z : Hid (SP w w1 [.own .u8 5 B2 n2 c2 bs, .blk Rd 68 (rcells Rd B2 n2 c2 p' f'), .own .u8 5 B' n' c' ys', .blk W 71 (wcells W lim B' n' c' g')]))
    (HQ : Hid (∀ (y99 y100 y101 y102 y103 y104 y105 y106 y107 y108 y109 y110 y111 y112 y113 y114 y115 y116 y117 y118 y119 y120 y121 y122 y123 y124 y125 y126 y127 y128 y129 y130 y131 y132 y133 y134 y135 y136 y137 y138 y139 y140 y141 y142 y143 y144 y145 y146 y147 y148 y149 y150 y151 y152 y153 y154 y155 y156 y157 y158 y159 y160 y161 y162 y163 y164 y165 y166 y167 y168 y169 y170 y171 : Value) (w' : World), SP w w' [.own .u8 5 B2 n2 c2 bs, .blk Rd 68 (rcells Rd B2 n2 c2 p' f'), .own .u8 5 B' n' c' ys', .blk W 71 (wcells W lim B' n' c' g')] → Q .normal ⟨List.toArray (.slice A n2 c :: u1 :: .int .u8 lm :: u3 :: u4 :: u5 :: u6 :: .pointer (some ⟨Rd, 0, none⟩) :: u8 :: .pointer (some ⟨W, 0, none⟩) :: u10 :: u11 :: u12 :: .int .i64 (p : Int) :: .bool f :: .int .i64 (nb : Int) :: .bool g :: .int .i64 got :: u18 :: u19 :: u20 :: u21 :: u22 :: u23 :: u24 :: u25 :: u26 :: u27 :: u28 :: u29 :: u30 :: u31 :: u32 :: u33 :: u34 :: u35 :: u36 :: u37 :: u38 :: u39 :: u40 :: u41 :: u42 :: u43 :: u44 :: u45 :: u46 :: u47 :: u48 :: u49 :: u50 :: u51 :: u52 :: u53 :: u54 :: u55 :: u56 :: u57 :: u58 :: u59 :: u60 :: u61 :: u62 :: u63 :: u64 :: u65 :: u66 :: u67 :: u68 :: u69 :: u70 :: u71 :: u72 :: u73 :: u74 :: u75 :: u76 :: u77 :: u78 :: u79 :: u80 :: u81 :: u82 :: u83 :: u84 :: u85 :: u86 :: u87 :: u88 :: u89 :: u90 :: u91 :: u92 :: u93 :: u94 :: u95 :: u96 :: u97 :: u98 :: y99 :: y100 :: y101 :: y102 :: y103 :: y104 :: y105 :: y106 :: y107 :: y108 :: y109 :: y110 :: y111 :: y112 :: y113 :: y114 :: y115 :: y116 :: y117 :: y118 :: y119 :: y120 :: y121 :: y122 :: y123 :: y124 :: y125 :: y126 :: y127 :: y128 :: y129 :: y130 :: y131 :: y132 :: y133 :: y134 :: y135 :: y136 :: y137 :: y138 :: y139 :: y140 :: y141 :: y142 :: y143 :: y144 :: y145 :: y146 :: y147 :: y148 :: y149 :: y150 :: y151 :: y152 :: y153 :: y154 :: y155 :: y156 :: y157 :: y158 :: y159 :: y160 :: y161 :: y162 :: y163 :: y164 :: y165 :: y166 :: y167 :: y168 :: y169 :: y170 :: y171 :: .bool false :: u173 :: []), []⟩ w')) (hn2 : n2 ≤ 131072 := by omega) (hlim : lim ≤ 100 := by omega) :
    Code.wp Try.prog (regAt Try.f7 25) Q ⟨List.toArray (.slice A n2 c :: u1 :: .int .u8 lm :: u3 :: u4 :: u5 :: u6 :: .pointer (some ⟨Rd, 0, none⟩) :: u8 :: .pointer (some ⟨W, 0, none⟩) :: u10 :: u11 :: u12 :: .int .i64 (p : Int) :: .bool f :: .int .i64 (nb : Int) :: .bool g :: .int .i64 got :: u18 :: u19 :: u20 :: u21 :: u22 :: u23 :: u24 :: u25 :: u26 :: u27 :: u28 :: u29 :: u30 :: u31 :: u32 :: u33 :: u34 :: u35 :: u36 :: u37 :: u38 :: u39 :: u40 :: u41 :: u42 :: u43 :: u44 :: u45 :: u46 :: u47 :: u48 :: u49 :: u50 :: u51 :: u52 :: u53 :: u54 :: u55 :: u56 :: u57 :: u58 :: u59 :: u60 :: u61 :: u62 :: u63 :: u64 :: u65 :: u66 :: u67 :: u68 :: u69 :: u70 :: u71 :: u72 :: u73 :: u74 :: u75 :: u76 :: u77 :: u78 :: u79 :: u80 :: u81 :: u82 :: u83 :: u84 :: u85 :: u86 :: u87 :: u88 :: u89 :: u90 :: u91 :: u92 :: u93 :: u94 :: u95 :: u96 :: u97 :: u98 :: u99 :: u100 :: u101 :: u102 :: u103 :: u104 :: u105 :: u106 :: u107 :: u108 :: u109 :: u110 :: u111 :: u112 :: u113 :: u114 :: u115 :: u116 :: u117 :: u118 :: u119 :: u120 :: u121 :: u122 :: u123 :: u124 :: u125 :: u126 :: u127 :: u128 :: u129 :: u130 :: u131 :: u132 :: u133 :: u134 :: u135 :: u136 :: u137 :: u138 :: u139 :: u140 :: u141 :: u142 :: u143 :: u144 :: u145 :: u146 :: u147 :: u148 :: u149 :: u150 :: u151 :: u152 :: u153 :: u154 :: u155 :: u156 :: u157 :: u158 :: u159 :: u160 :: u161 :: u162 :: u163 :: u164 :: u165 :: u166 :: u167 :: u168 :: u169 :: u170 :: u171 :: u172 :: u173 :: []), []⟩ w1 := by
  have e1 : IntKind.i64.wrap ((p' : Int) + ((n2 : Int) - (p' : Int))) = (n2 : Int) := by rw [show (p' : Int) + ((n2 : Int) - (p' : Int)) = (n2 : Int) by omega]; exact IntWalk.i64_in _ (by omega)
  have e2 : IntKind.i64.wrap (n2 : Int) = (n2 : Int) := IntWalk.i64_in _ (by omega)
  have e3 : ((n2 : Int) != (n2 : Int)) = false := by simp
  have e4 : (p' : Int) + ((n2 : Int) - (p' : Int)) = (n2 : Int) := by omega
  have t2 : ¬ (p' : Int) < (p : Int) := by have := HF.out.1; omega
  have t3 : ¬ (n' : Int) < (nb : Int) := by have := HF.out.2.2.2.2.1; omega
  have t4 : ¬ (lim : Int) < (n' : Int) := by have := HF.out.2.2.2.2.2.1; omega
  have t2n : p ≤ p' := HF.out.1
  have t2m : ¬ p' < p := by omega
  have t3m : ¬ n' < nb := by have := HF.out.2.2.2.2.1; omega
  have t4m : ¬ lim < n' := by have := HF.out.2.2.2.2.2.1; omega
  have t3n : nb ≤ n' := HF.out.2.2.2.2.1
  have t4n : n' ≤ lim := HF.out.2.2.2.2.2.1
  have e5 := ELM.out.1
  have e6 := ELM.out.2
  have e7 : IntKind.i64.wrap (lim : Int) = (lim : Int) := IntWalk.i64_in _ (by omega)
  have HPQ := Lib.hid (show p' ≤ n2 from HF.out.2.1)
  have WR := Lib.hid (fun W' hs => rAt_any (w0 := w) (w := W') (i := 1) (L := [.own .u8 5 B2 n2 c2 bs, .blk Rd 68 (rcells Rd B2 n2 c2 p' f'), .own .u8 5 B' n' c' ys', .blk W 71 (wcells W lim B' n' c' g')]) (R := Rd) (B := B2) (n := n2) (c := c2) (p := p') (f := f') hs rfl)
  have WF := Lib.hid (fun W' hs => rFailed_any (w0 := w) (w := W') (i := 1) (L := [.own .u8 5 B2 n2 c2 bs, .blk Rd 68 (rcells Rd B2 n2 c2 p' f'), .own .u8 5 B' n' c' ys', .blk W 71 (wcells W lim B' n' c' g')]) (R := Rd) (B := B2) (n := n2) (c := c2) (p := p') (f := f') hs rfl)
  have WL := Lib.hid (fun W' hs => rLeft_any (w0 := w) (w := W') (i := 1) (L := [.own .u8 5 B2 n2 c2 bs, .blk Rd 68 (rcells Rd B2 n2 c2 p' f'), .own .u8 5 B' n' c' ys', .blk W 71 (wcells W lim B' n' c' g')]) (R := Rd) (B := B2) (n := n2) (c := c2) (p := p') (f := f') hs rfl HPQ.out (by omega))
  have VL := Lib.hid (fun W' hs => wLen_any (w0 := w) (w := W') (i := 3) (L := [.own .u8 5 B2 n2 c2 bs, .blk Rd 68 (rcells Rd B2 n2 c2 p' f'), .own .u8 5 B' n' c' ys', .blk W 71 (wcells W lim B' n' c' g')]) (W := W) (lim := lim) (B := B') (n := n') (c := c') (f := g') hs rfl)
  have VF := Lib.hid (fun W' hs => wFailed_any (w0 := w) (w := W') (i := 3) (L := [.own .u8 5 B2 n2 c2 bs, .blk Rd 68 (rcells Rd B2 n2 c2 p' f'), .own .u8 5 B' n' c' ys', .blk W 71 (wcells W lim B' n' c' g')]) (W := W) (lim := lim) (B := B') (n := n') (c := c') (f := g') hs rfl)
  have HC := Lib.hid (show (f = false ∨ (f = true ∧ p' = p ∧ f' = true ∧ got = 0)) ∧ (f' = false ∨ (f' = true ∧ p' = p)) ∧ (g = false ∨ (g = true ∧ n' = nb ∧ g' = true)) from by
    refine ⟨?_, ?_, ?_⟩
    · cases f
      · exact .inl rfl
      · have := HF.out.2.2.1 rfl; exact .inr ⟨rfl, this.1.1, this.1.2, this.2⟩
    · cases f'
      · exact .inl rfl
      · exact .inr ⟨rfl, HF.out.2.2.2.1 rfl⟩
    · cases g
      · exact .inl rfl
      · exact .inr ⟨rfl, HF.out.2.2.2.2.2.2 rfl⟩)
  clear HF
  have e8 : ((p : Int) != (p : Int)) = false := by simp
  have e9 : ((nb : Int) != (nb : Int)) = false := by simp
  obtain ⟨hc1, hc2, hc3⟩ := HC.out
  clear HC
  conv => arg 2; whnf
  simp only [List.append]
  rcases hc1 with rfl | ⟨rfl, rfl, rfl, rfl⟩
  · rcases hc3 with rfl | ⟨rfl, rfl, rfl⟩
    · rcases hc2 with rfl | ⟨rfl, rfl⟩
      · go_wp2_with fail
        refine (WR.out _ Z.out).mono ?_
        rintro e v9 ⟨rfl, hS⟩
        replace Z := Lib.hid hS
        clear hS
        go_wp2_with fail
        refine (WL.out _ Z.out).mono ?_
        rintro e v9 ⟨rfl, hS⟩
        replace Z := Lib.hid hS
        clear hS
        go_wp2_with fail
        refine (WR.out _ Z.out).mono ?_
        rintro e v9 ⟨rfl, hS⟩
        replace Z := Lib.hid hS
        clear hS
        go_wp2_with fail
        refine (VL.out _ Z.out).mono ?_
        rintro e v9 ⟨rfl, hS⟩
        replace Z := Lib.hid hS
        clear hS
        go_wp2_with fail
        refine (VL.out _ Z.out).mono ?_
        rintro e v9 ⟨rfl, hS⟩
        replace Z := Lib.hid hS
        clear hS
        go_wp2_with fail
        refine (WF.out _ Z.out).mono ?_
        rintro e v9 ⟨rfl, hS⟩
        replace Z := Lib.hid hS
        clear hS
        go_wp2_with fail
        exact HQ.out _ _ _ _ _ _ _ _ _ _ _ _ _ _ _ _ _ _ _ _ _ _ _ _ _ _ _ _ _ _ _ _ _ _ _ _ _ _ _ _ _ _ _ _ _ _ _ _ _ _ _ _ _ _ _ _ _ _ _ _ _ _ _ _ _ _ _ _ _ _ _ _ _ _ Z.out
      · go_wp2_with fail
        refine (WR.out _ Z.out).mono ?_
        rintro e v9 ⟨rfl, hS⟩
        replace Z := Lib.hid hS
        clear hS
        go_wp2_with fail
        refine (WL.out _ Z.out).mono ?_
        rintro e v9 ⟨rfl, hS⟩
        replace Z := Lib.hid hS
        clear hS
        go_wp2_with fail
        refine (WR.out _ Z.out).mono ?_
        rintro e v9 ⟨rfl, hS⟩
        replace Z := Lib.hid hS
        clear hS
        go_wp2_with fail
        refine (VL.out _ Z.out).mono ?_
        rintro e v9 ⟨rfl, hS⟩
        replace Z := Lib.hid hS
        clear hS
        go_wp2_with fail
        refine (VL.out _ Z.out).mono ?_
        rintro e v9 ⟨rfl, hS⟩
        replace Z := Lib.hid hS
        clear hS
        go_wp2_with fail
        refine (WF.out _ Z.out).mono ?_
        rintro e v9 ⟨rfl, hS⟩
        replace Z := Lib.hid hS
        clear hS
        go_wp2_with fail
        refine (WR.out _ Z.out).mono ?_
        rintro e v9 ⟨rfl, hS⟩
        replace Z := Lib.hid hS
        clear hS
        go_wp2_with fail
        exact HQ.out _ _ _ _ _ _ _ _ _ _ _ _ _ _ _ _ _ _ _ _ _ _ _ _ _ _ _ _ _ _ _ _ _ _ _ _ _ _ _ _ _ _ _ _ _ _ _ _ _ _ _ _ _ _ _ _ _ _ _ _ _ _ _ _ _ _ _ _ _ _ _ _ _ _ Z.out
    · rcases hc2 with rfl | ⟨rfl, rfl⟩
      · go_wp2_with fail
        refine (WR.out _ Z.out).mono ?_
        rintro e v9 ⟨rfl, hS⟩
        replace Z := Lib.hid hS
        clear hS
        go_wp2_with fail
        refine (WL.out _ Z.out).mono ?_
        rintro e v9 ⟨rfl, hS⟩
        replace Z := Lib.hid hS
        clear hS
        go_wp2_with fail
        refine (WR.out _ Z.out).mono ?_
        rintro e v9 ⟨rfl, hS⟩
        replace Z := Lib.hid hS
        clear hS
        go_wp2_with fail
        refine (VL.out _ Z.out).mono ?_
        rintro e v9 ⟨rfl, hS⟩
        replace Z := Lib.hid hS
        clear hS
        go_wp2_with fail
        refine (VL.out _ Z.out).mono ?_
        rintro e v9 ⟨rfl, hS⟩
        replace Z := Lib.hid hS
        clear hS
        go_wp2_with fail
        refine (VL.out _ Z.out).mono ?_
        rintro e v9 ⟨rfl, hS⟩
        replace Z := Lib.hid hS
        clear hS
        go_wp2_with fail
        refine (VF.out _ Z.out).mono ?_
        rintro e v9 ⟨rfl, hS⟩
        replace Z := Lib.hid hS
        clear hS
        go_wp2_with fail
        refine (WF.out _ Z.out).mono ?_
        rintro e v9 ⟨rfl, hS⟩
        replace Z := Lib.hid hS
        clear hS
        go_wp2_with fail
        exact HQ.out _ _ _ _ _ _ _ _ _ _ _ _ _ _ _ _ _ _ _ _ _ _ _ _ _ _ _ _ _ _ _ _ _ _ _ _ _ _ _ _ _ _ _ _ _ _ _ _ _ _ _ _ _ _ _ _ _ _ _ _ _ _ _ _ _ _ _ _ _ _ _ _ _ _ Z.out
      · go_wp2_with fail
        refine (WR.out _ Z.out).mono ?_
        rintro e v9 ⟨rfl, hS⟩
        replace Z := Lib.hid hS
        clear hS
        go_wp2_with fail
        refine (WL.out _ Z.out).mono ?_
        rintro e v9 ⟨rfl, hS⟩
        replace Z := Lib.hid hS
        clear hS
        go_wp2_with fail
        refine (WR.out _ Z.out).mono ?_
        rintro e v9 ⟨rfl, hS⟩
        replace Z := Lib.hid hS
        clear hS
        go_wp2_with fail
        refine (VL.out _ Z.out).mono ?_
        rintro e v9 ⟨rfl, hS⟩
        replace Z := Lib.hid hS
        clear hS
        go_wp2_with fail
        refine (VL.out _ Z.out).mono ?_
        rintro e v9 ⟨rfl, hS⟩
        replace Z := Lib.hid hS
        clear hS
        go_wp2_with fail
        refine (VL.out _ Z.out).mono ?_
        rintro e v9 ⟨rfl, hS⟩
        replace Z := Lib.hid hS
        clear hS
        go_wp2_with fail
        refine (VF.out _ Z.out).mono ?_
        rintro e v9 ⟨rfl, hS⟩
        replace Z := Lib.hid hS
        clear hS
        go_wp2_with fail
        refine (WF.out _ Z.out).mono ?_
        rintro e v9 ⟨rfl, hS⟩
        replace Z := Lib.hid hS
        clear hS
        go_wp2_with fail
        refine (WR.out _ Z.out).mono ?_
        rintro e v9 ⟨rfl, hS⟩
        replace Z := Lib.hid hS
        clear hS
        go_wp2_with fail
        exact HQ.out _ _ _ _ _ _ _ _ _ _ _ _ _ _ _ _ _ _ _ _ _ _ _ _ _ _ _ _ _ _ _ _ _ _ _ _ _ _ _ _ _ _ _ _ _ _ _ _ _ _ _ _ _ _ _ _ _ _ _ _ _ _ _ _ _ _ _ _ _ _ _ _ _ _ Z.out
  · clear hc2
    rcases hc3 with rfl | ⟨rfl, rfl, rfl⟩
    · go_wp2_with fail
      refine (WR.out _ Z.out).mono ?_
      rintro e v9 ⟨rfl, hS⟩
      replace Z := Lib.hid hS
      clear hS
      go_wp2_with fail
      refine (WL.out _ Z.out).mono ?_
      rintro e v9 ⟨rfl, hS⟩
      replace Z := Lib.hid hS
      clear hS
      go_wp2_with fail
      refine (WR.out _ Z.out).mono ?_
      rintro e v9 ⟨rfl, hS⟩
      replace Z := Lib.hid hS
      clear hS
      go_wp2_with fail
      refine (WR.out _ Z.out).mono ?_
      rintro e v9 ⟨rfl, hS⟩
      replace Z := Lib.hid hS
      clear hS
      go_wp2_with fail
      refine (WF.out _ Z.out).mono ?_
      rintro e v9 ⟨rfl, hS⟩
      replace Z := Lib.hid hS
      clear hS
      go_wp2_with fail
      refine (VL.out _ Z.out).mono ?_
      rintro e v9 ⟨rfl, hS⟩
      replace Z := Lib.hid hS
      clear hS
      go_wp2_with fail
      refine (VL.out _ Z.out).mono ?_
      rintro e v9 ⟨rfl, hS⟩
      replace Z := Lib.hid hS
      clear hS
      go_wp2_with fail
      refine (WF.out _ Z.out).mono ?_
      rintro e v9 ⟨rfl, hS⟩
      replace Z := Lib.hid hS
      clear hS
      go_wp2_with fail
      refine (WR.out _ Z.out).mono ?_
      rintro e v9 ⟨rfl, hS⟩
      replace Z := Lib.hid hS
      clear hS
      go_wp2_with fail
      exact HQ.out _ _ _ _ _ _ _ _ _ _ _ _ _ _ _ _ _ _ _ _ _ _ _ _ _ _ _ _ _ _ _ _ _ _ _ _ _ _ _ _ _ _ _ _ _ _ _ _ _ _ _ _ _ _ _ _ _ _ _ _ _ _ _ _ _ _ _ _ _ _ _ _ _ _ Z.out
    · go_wp2_with fail
      refine (WR.out _ Z.out).mono ?_
      rintro e v9 ⟨rfl, hS⟩
      replace Z := Lib.hid hS
      clear hS
      go_wp2_with fail
      refine (WL.out _ Z.out).mono ?_
      rintro e v9 ⟨rfl, hS⟩
      replace Z := Lib.hid hS
      clear hS
      go_wp2_with fail
      refine (WR.out _ Z.out).mono ?_
      rintro e v9 ⟨rfl, hS⟩
      replace Z := Lib.hid hS
      clear hS
      go_wp2_with fail
      refine (WR.out _ Z.out).mono ?_
      rintro e v9 ⟨rfl, hS⟩
      replace Z := Lib.hid hS
      clear hS
      go_wp2_with fail
      refine (WF.out _ Z.out).mono ?_
      rintro e v9 ⟨rfl, hS⟩
      replace Z := Lib.hid hS
      clear hS
      go_wp2_with fail
      refine (VL.out _ Z.out).mono ?_
      rintro e v9 ⟨rfl, hS⟩
      replace Z := Lib.hid hS
      clear hS
      go_wp2_with fail
      refine (VL.out _ Z.out).mono ?_
      rintro e v9 ⟨rfl, hS⟩
      replace Z := Lib.hid hS
      clear hS
      go_wp2_with fail
      refine (VL.out _ Z.out).mono ?_
      rintro e v9 ⟨rfl, hS⟩
      replace Z := Lib.hid hS
      clear hS
      go_wp2_with fail
      refine (VF.out _ Z.out).mono ?_
      rintro e v9 ⟨rfl, hS⟩
      replace Z := Lib.hid hS
      clear hS
      go_wp2_with fail
      refine (WF.out _ Z.out).mono ?_
      rintro e v9 ⟨rfl, hS⟩
      replace Z := Lib.hid hS
      clear hS
      go_wp2_with fail
      refine (WR.out _ Z.out).mono ?_
      rintro e v9 ⟨rfl, hS⟩
      replace Z := Lib.hid hS
      clear hS
      go_wp2_with fail
      exact HQ.out _ _ _ _ _ _ _ _ _ _ _ _ _ _ _ _ _ _ _ _ _ _ _ _ _ _ _ _ _ _ _ _ _ _ _ _ _ _ _ _ _ _ _ _ _ _ _ _ _ _ _ _ _ _ _ _ _ _ _ _ _ _ _ _ _ _ _ _ _ _ _ _ _ _ Z.out
end Go.Proofs.Ytcipgkpcaecjdaa
