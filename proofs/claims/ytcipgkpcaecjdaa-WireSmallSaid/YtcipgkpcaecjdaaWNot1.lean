import Derived.Test.YtcipgkpcaecjdaaWRdr
import Derived.Test.YtcipgkpcaecjdaaWWrr
/- wire: the methods on a reader or a writer that is none. (Printed by gen_wnot.py.) -/
namespace Go.Proofs.Ytcipgkpcaecjdaa
open Go.RowKit
set_option linter.unusedVariables false
set_option linter.unusedSimpArgs false

theorem run_eql_ptr_none {P : Program} (w : World) {tp te : TypeId} (a : Addr) (hp : P.underlying tp = some (.pointer te)) :
    (binOp .eql tp (.pointer none) (.pointer (some a))).run P w = .ok (.bool false) w := by
  have h : ∀ d : Nat, (Op.equalIn (d + 1) tp (.pointer none) (.pointer (some a))).run P w = .ok false w := fun d => by
    simp [Op.equalIn, run_underlying hp]
  simp only [binOp]
  simp [Op.equal, Op.maxDepth, h 9999]
theorem run_eql_ptr_other' {P : Program} (w : World) {tp te : TypeId} {j : TypeInfo} {a b : Addr} {ca cb : Array Value} {ta tb : TypeId} (hp : P.underlying tp = some (.pointer te)) (hte : P.info? te = some j) (hsz : j.size ≠ 0)
    (hne : a ≠ b) (ha : w.heap[a.block]? = some (.cells ca ta (0, 0))) (hb : w.heap[b.block]? = some (.cells cb tb (0, 0))) :
    (binOp .eql tp (.pointer (some a)) (.pointer (some b))).run P w = .ok (.bool false) w := by
  have h : ∀ d : Nat, (Op.equalIn (d + 1) tp (.pointer (some a)) (.pointer (some b))).run P w = .ok false w := fun d => by
    simp [Op.equalIn, run_underlying hp, sizeOf, typeInfo, hte, hsz, run_sameAddr_other w hne ha hb]
  simp only [binOp]
  simp [Op.equal, Op.maxDepth, h 9999]

/-- a pointer to no object: nil, or to one whose own field points elsewhere -/
def NOBJ (w : World) (v : Value) : Prop := v = .pointer none ∨ ∃ N cs t, v = .pointer (some ⟨N, 0, none⟩) ∧ BLOCK w N t cs ∧ (cs[0]? = some (.pointer none) ∨ ∃ R cs' t', cs[0]? = some (.pointer (some ⟨R, 0, none⟩)) ∧ R ≠ N ∧ BLOCK w R t' cs')
theorem NOBJ.next {w w' : World} {v : Value} (h : NOBJ w v) (hb : Below w.heap.size w w') : NOBJ w' v := by
  rcases h with h | ⟨N, cs, t, h1, h2, h3⟩
  · exact .inl h
  · refine .inr ⟨N, cs, t, h1, h2.next hb, ?_⟩
    rcases h3 with h3 | ⟨R, cs', t', h4, h5, h6⟩
    · exact .inl h3
    · exact .inr ⟨R, cs', t', h4, h5, h6.next hb⟩

set_option maxHeartbeats 400000 in
theorem rdready_not (v : Value) (w : World) (h : NOBJ w v) : Calls Try.prog 58 #[v] w fun e w' => e = .returned (.bool false) ∧ w' = w := by
  obtain ⟨j, hj, hj4⟩ := Option.map_eq_some_iff.1 (show (Try.prog.info? 68).map (·.size) = some 4 by kernel_rfl)
  rcases h with rfl | ⟨N, cs, t, rfl, hb, hc⟩
  · go_enter Try.func58, Try.ntmps58
    go_wp2_with fail
    go_ret
    exact ⟨rfl, rfl⟩
  · rcases hc with hc | ⟨R, cs', t', hc, hne, hR⟩
    · have x0 : w.cell? ⟨N, 0, none⟩ = some (.pointer none) := (hb.cell 0).trans hc
      have k0 : (binOp .eql 36 (.pointer none) (.pointer (some ⟨N, 0, none⟩))).run Try.prog w = .ok (.bool false) w := run_eql_ptr_none w _ Try.underlying36
      clear hb hc
      go_enter Try.func58, Try.ntmps58
      go_wp2_with fail
      go_ret
      exact ⟨rfl, rfl⟩
    · have x0 : w.cell? ⟨N, 0, none⟩ = some (.pointer (some ⟨R, 0, none⟩)) := (hb.cell 0).trans hc
      have k0 : (binOp .eql 36 (.pointer (some ⟨R, 0, none⟩)) (.pointer (some ⟨N, 0, none⟩))).run Try.prog w = .ok (.bool false) w := run_eql_ptr_other' w Try.underlying36 hj (by omega) (fun h => by cases h; exact hne rfl) hR hb
      clear hb hc hR
      go_enter Try.func58, Try.ntmps58
      go_wp2_with fail
      go_ret
      exact ⟨rfl, rfl⟩

set_option maxHeartbeats 400000 in
theorem wrready_not (v : Value) (w : World) (h : NOBJ w v) : Calls Try.prog 59 #[v] w fun e w' => e = .returned (.bool false) ∧ w' = w := by
  obtain ⟨j, hj, hj4⟩ := Option.map_eq_some_iff.1 (show (Try.prog.info? 71).map (·.size) = some 4 by kernel_rfl)
  rcases h with rfl | ⟨N, cs, t, rfl, hb, hc⟩
  · go_enter Try.func59, Try.ntmps59
    go_wp2_with fail
    go_ret
    exact ⟨rfl, rfl⟩
  · rcases hc with hc | ⟨R, cs', t', hc, hne, hR⟩
    · have x0 : w.cell? ⟨N, 0, none⟩ = some (.pointer none) := (hb.cell 0).trans hc
      have k0 : (binOp .eql 39 (.pointer none) (.pointer (some ⟨N, 0, none⟩))).run Try.prog w = .ok (.bool false) w := run_eql_ptr_none w _ Try.underlying39
      clear hb hc
      go_enter Try.func59, Try.ntmps59
      go_wp2_with fail
      go_ret
      exact ⟨rfl, rfl⟩
    · have x0 : w.cell? ⟨N, 0, none⟩ = some (.pointer (some ⟨R, 0, none⟩)) := (hb.cell 0).trans hc
      have k0 : (binOp .eql 39 (.pointer (some ⟨R, 0, none⟩)) (.pointer (some ⟨N, 0, none⟩))).run Try.prog w = .ok (.bool false) w := run_eql_ptr_other' w Try.underlying39 hj (by omega) (fun h => by cases h; exact hne rfl) hR hb
      clear hb hc hR
      go_enter Try.func59, Try.ntmps59
      go_wp2_with fail
      go_ret
      exact ⟨rfl, rfl⟩

set_option maxHeartbeats 1000000 in
set_option maxRecDepth 100000 in
theorem next_not (v : Value) (w : World) (h : NOBJ w v) (m : Value) : Calls Try.prog 61 #[v, m] w fun e w' => e = .returned (.slice none 0 0) ∧ w' = w := by
  have HN := Lib.hid h
  clear h
  go_enter Try.func61, Try.ntmps61
  go_wp2_with fail
  refine (rdready_not v w HN.out).mono ?_
  rintro e w1 ⟨rfl, rfl⟩
  go_wp2_with fail
  go_ret
  exact ⟨rfl, rfl⟩

set_option maxHeartbeats 1000000 in
set_option maxRecDepth 100000 in
theorem rU8_not (v : Value) (w : World) (h : NOBJ w v) : Calls Try.prog 24 #[v] w fun e w' => e = .returned (.int .u8 0) ∧ w' = w := by
  have HN := Lib.hid h
  clear h
  go_enter Try.func24, Try.ntmps24
  go_wp2_with fail
  refine (next_not v _ HN.out _).mono ?_
  rintro e w1 ⟨rfl, rfl⟩
  go_wp2_with fail
  refine (numu8_any none 0 0 [] _ RD.nil (fun x hx => by cases hx) (by omega)).mono ?_
  rintro e w3 ⟨rfl, rfl⟩
  go_wp2_with fail
  go_ret
  exact ⟨rfl, rfl⟩

set_option maxHeartbeats 1000000 in
set_option maxRecDepth 100000 in
theorem rU16_not (v : Value) (w : World) (h : NOBJ w v) : Calls Try.prog 26 #[v] w fun e w' => e = .returned (.int .u16 0) ∧ w' = w := by
  have HN := Lib.hid h
  clear h
  go_enter Try.func26, Try.ntmps26
  go_wp2_with fail
  refine (next_not v _ HN.out _).mono ?_
  rintro e w1 ⟨rfl, rfl⟩
  go_wp2_with fail
  refine (numu16_any none 0 0 [] _ RD.nil (fun x hx => by cases hx) (by omega)).mono ?_
  rintro e w3 ⟨rfl, rfl⟩
  go_wp2_with fail
  go_ret
  exact ⟨rfl, rfl⟩

set_option maxHeartbeats 1000000 in
set_option maxRecDepth 100000 in
theorem rU32_not (v : Value) (w : World) (h : NOBJ w v) : Calls Try.prog 38 #[v] w fun e w' => e = .returned (.int .u32 0) ∧ w' = w := by
  have HN := Lib.hid h
  clear h
  go_enter Try.func38, Try.ntmps38
  go_wp2_with fail
  refine (next_not v _ HN.out _).mono ?_
  rintro e w1 ⟨rfl, rfl⟩
  go_wp2_with fail
  refine (numu32_any none 0 0 [] _ RD.nil (fun x hx => by cases hx) (by omega)).mono ?_
  rintro e w3 ⟨rfl, rfl⟩
  go_wp2_with fail
  go_ret
  exact ⟨rfl, rfl⟩

set_option maxHeartbeats 1000000 in
set_option maxRecDepth 100000 in
theorem rBytes_not (v : Value) (w : World) (h : NOBJ w v) : Calls Try.prog 28 #[v, .int .i64 1] w fun e w' => ∃ A c, e = .returned (.slice A 0 c) ∧ Below w.heap.size w w' := by
  have HN := Lib.hid h
  clear h
  go_enter Try.func28, Try.ntmps28
  go_wp2_with fail
  refine (next_not v _ HN.out _).mono ?_
  rintro e w1 ⟨rfl, rfl⟩
  go_wp2_with fail
  refine (clone_any none 0 0 [] _ RD.nil (by omega)).mono ?_
  rintro e w3 ⟨A3, n3, c3, rfl, ho, hb⟩
  obtain rfl : n3 = 0 := ho.len.symm
  have HB := Lib.hid hb
  clear ho hb
  go_wp2_with fail
  go_ret
  exact ⟨A3, c3, rfl, HB.out⟩

set_option maxHeartbeats 1000000 in
set_option maxRecDepth 100000 in
theorem rSkip_not (v : Value) (w : World) (h : NOBJ w v) : Calls Try.prog 30 #[v, .int .i64 1] w fun e w' => e = .returned (.tuple #[]) ∧ w' = w := by
  have HN := Lib.hid h
  clear h
  go_enter Try.func30, Try.ntmps30
  go_wp2_with fail
  refine (next_not v _ HN.out _).mono ?_
  rintro e w1 ⟨rfl, rfl⟩
  go_wp2_with fail
  go_end0
  exact ⟨rfl, rfl⟩

set_option maxHeartbeats 1000000 in
set_option maxRecDepth 100000 in
theorem rLeft_not (v : Value) (w : World) (h : NOBJ w v) : Calls Try.prog 32 #[v] w fun e w' => e = .returned (.int .i64 0) ∧ w' = w := by
  have HN := Lib.hid h
  clear h
  go_enter Try.func32, Try.ntmps32
  go_wp2_with fail
  refine (rdready_not v w HN.out).mono ?_
  rintro e w1 ⟨rfl, rfl⟩
  go_wp2_with fail
  go_ret
  exact ⟨rfl, rfl⟩

set_option maxHeartbeats 1000000 in
set_option maxRecDepth 100000 in
theorem rAt_not (v : Value) (w : World) (h : NOBJ w v) : Calls Try.prog 20 #[v] w fun e w' => e = .returned (.int .i64 0) ∧ w' = w := by
  have HN := Lib.hid h
  clear h
  go_enter Try.func20, Try.ntmps20
  go_wp2_with fail
  refine (rdready_not v w HN.out).mono ?_
  rintro e w1 ⟨rfl, rfl⟩
  go_wp2_with fail
  go_ret
  exact ⟨rfl, rfl⟩

set_option maxHeartbeats 1000000 in
set_option maxRecDepth 100000 in
theorem rFailed_not (v : Value) (w : World) (h : NOBJ w v) : Calls Try.prog 21 #[v] w fun e w' => e = .returned (.bool true) ∧ w' = w := by
  have HN := Lib.hid h
  clear h
  go_enter Try.func21, Try.ntmps21
  go_wp2_with fail
  refine (rdready_not v w HN.out).mono ?_
  rintro e w1 ⟨rfl, rfl⟩
  go_wp2_with fail
  go_ret
  exact ⟨rfl, rfl⟩

set_option maxHeartbeats 1000000 in
set_option maxRecDepth 100000 in
theorem room_not (v : Value) (w : World) (h : NOBJ w v) (m : Value) : Calls Try.prog 63 #[v, m] w fun e w' => e = .returned (.bool false) ∧ w' = w := by
  have HN := Lib.hid h
  clear h
  go_enter Try.func63, Try.ntmps63
  go_wp2_with fail
  refine (wrready_not v w HN.out).mono ?_
  rintro e w1 ⟨rfl, rfl⟩
  go_wp2_with fail
  go_ret
  exact ⟨rfl, rfl⟩

set_option maxHeartbeats 1000000 in
set_option maxRecDepth 100000 in
theorem wBytes_not (v : Value) (w : World) (h : NOBJ w v) (A : Option Addr) (n c : Nat) : Calls Try.prog 34 #[v, .slice A n c] w fun e w' => e = .returned (.tuple #[]) ∧ w' = w := by
  have HN := Lib.hid h
  clear h
  go_enter Try.func34, Try.ntmps34
  go_wp2_with fail
  refine (room_not v _ HN.out _).mono ?_
  rintro e w1 ⟨rfl, rfl⟩
  go_wp2_with fail
  go_end0
  exact ⟨rfl, rfl⟩

set_option maxHeartbeats 1000000 in
set_option maxRecDepth 100000 in
theorem wU8_not (v : Value) (w : World) (h : NOBJ w v) : Calls Try.prog 25 #[v, .int .u8 1] w fun e w' => e = .returned (.tuple #[]) ∧ Below w.heap.size w w' := by
  have HN := Lib.hid h
  clear h
  go_enter Try.func25, Try.ntmps25
  go_wp2_with fail
  refine (wBytes_not v _ (HN.out.next ((Below.refl _ w).alloc (Nat.le_refl _) _)) _ _ _).mono ?_
  rintro e w1 ⟨rfl, rfl⟩
  go_wp2_with fail
  go_end0
  exact ⟨rfl, (Below.refl _ w).alloc (Nat.le_refl _) _⟩

set_option maxHeartbeats 1000000 in
set_option maxRecDepth 100000 in
theorem wU16_not (v : Value) (w : World) (h : NOBJ w v) : Calls Try.prog 37 #[v, .int .u16 1] w fun e w' => e = .returned (.tuple #[]) ∧ Below w.heap.size w w' := by
  have HN := Lib.hid h
  clear h
  go_enter Try.func37, Try.ntmps37
  go_wp2_with fail
  refine (wBytes_not v _ (HN.out.next ((Below.refl _ w).alloc (Nat.le_refl _) _)) _ _ _).mono ?_
  rintro e w1 ⟨rfl, rfl⟩
  go_wp2_with fail
  go_end0
  exact ⟨rfl, (Below.refl _ w).alloc (Nat.le_refl _) _⟩

set_option maxHeartbeats 1000000 in
set_option maxRecDepth 100000 in
theorem wU32_not (v : Value) (w : World) (h : NOBJ w v) : Calls Try.prog 27 #[v, .int .u32 1] w fun e w' => e = .returned (.tuple #[]) ∧ Below w.heap.size w w' := by
  have HN := Lib.hid h
  clear h
  go_enter Try.func27, Try.ntmps27
  go_wp2_with fail
  refine (wBytes_not v _ (HN.out.next ((Below.refl _ w).alloc (Nat.le_refl _) _)) _ _ _).mono ?_
  rintro e w1 ⟨rfl, rfl⟩
  go_wp2_with fail
  go_end0
  exact ⟨rfl, (Below.refl _ w).alloc (Nat.le_refl _) _⟩

set_option maxHeartbeats 1000000 in
set_option maxRecDepth 100000 in
theorem wZeros_not (v : Value) (w : World) (h : NOBJ w v) : Calls Try.prog 29 #[v, .int .i64 1] w fun e w' => e = .returned (.tuple #[]) ∧ w' = w := by
  have HN := Lib.hid h
  clear h
  go_enter Try.func29, Try.ntmps29
  go_wp2_with fail
  refine (room_not v _ HN.out _).mono ?_
  rintro e w1 ⟨rfl, rfl⟩
  go_wp2_with fail
  go_end0
  exact ⟨rfl, rfl⟩

set_option maxHeartbeats 1000000 in
set_option maxRecDepth 100000 in
theorem wSet16_not (v : Value) (w : World) (h : NOBJ w v) : Calls Try.prog 31 #[v, .int .i64 0, .int .u16 1] w fun e w' => e = .returned (.tuple #[]) ∧ w' = w := by
  have HN := Lib.hid h
  clear h
  go_enter Try.func31, Try.ntmps31
  go_wp2_with fail
  refine (wrready_not v w HN.out).mono ?_
  rintro e w1 ⟨rfl, rfl⟩
  go_wp2_with fail
  refine bodyPost_ret (results_none rfl _ _ _) rfl ?_
  exact ⟨rfl, rfl⟩

set_option maxHeartbeats 1000000 in
set_option maxRecDepth 100000 in
theorem wLen_not (v : Value) (w : World) (h : NOBJ w v) : Calls Try.prog 22 #[v] w fun e w' => e = .returned (.int .i64 0) ∧ w' = w := by
  have HN := Lib.hid h
  clear h
  go_enter Try.func22, Try.ntmps22
  go_wp2_with fail
  refine (wrready_not v w HN.out).mono ?_
  rintro e w1 ⟨rfl, rfl⟩
  go_wp2_with fail
  go_ret
  exact ⟨rfl, rfl⟩

set_option maxHeartbeats 1000000 in
set_option maxRecDepth 100000 in
theorem wFailed_not (v : Value) (w : World) (h : NOBJ w v) : Calls Try.prog 23 #[v] w fun e w' => e = .returned (.bool true) ∧ w' = w := by
  have HN := Lib.hid h
  clear h
  go_enter Try.func23, Try.ntmps23
  go_wp2_with fail
  refine (wrready_not v w HN.out).mono ?_
  rintro e w1 ⟨rfl, rfl⟩
  go_wp2_with fail
  go_ret
  exact ⟨rfl, rfl⟩

set_option maxHeartbeats 1000000 in
set_option maxRecDepth 100000 in
theorem wDone_not (v : Value) (w : World) (h : NOBJ w v) : Calls Try.prog 35 #[v] w fun e w' => e = .returned (.tuple #[.slice none 0 0, .int .i64 1]) ∧ w' = w := by
  have HN := Lib.hid h
  clear h
  go_enter Try.func35, Try.ntmps35
  go_wp2_with fail
  refine (wrready_not v w HN.out).mono ?_
  rintro e w1 ⟨rfl, rfl⟩
  go_wp2_with fail
  go_ret2
  exact ⟨rfl, rfl⟩
end Go.Proofs.Ytcipgkpcaecjdaa
