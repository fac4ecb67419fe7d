import Derived.Test.YtcipgkpcaecjdaaWBuild
import Derived.Test.YtcipgkpcaecjdaaWSlices
import Derived.Test.YtcipgkpcaecjdaaWBags
import Derived.Deep.QuietTactic
import Derived.BigQuiet
import Derived.Outline
/- wire.Reader: what its methods do. (Printed by gen_rdr.py.) -/
namespace Go.Proofs.Ytcipgkpcaecjdaa
open Go.RowKit
set_option linter.unusedVariables false
set_option linter.unusedSimpArgs false

theorem run_eql_ptr_same {P : Program} (w : World) {tp te : TypeId} {j : TypeInfo} (a : Addr) (hp : P.underlying tp = some (.pointer te)) (hte : P.info? te = some j) :
    (binOp .eql tp (.pointer (some a)) (.pointer (some a))).run P w = .ok (.bool true) w := by
  have h : ∀ d : Nat, (Op.equalIn (d + 1) tp (.pointer (some a)) (.pointer (some a))).run P w = .ok true w := fun d => by
    simp [Op.equalIn, run_underlying hp, sizeOf, typeInfo, hte, run_sameAddr_same]
  simp only [binOp]
  simp [Op.equal, Op.maxDepth, h 9999]

/-- a reader's cells -/
def rcells (R : Nat) (B : Option Addr) (n c p : Nat) (f : Bool) : Array Value := #[.pointer (some ⟨R, 0, none⟩), .slice B n c, .int .i64 (p : Int), .bool f]
def nxOk (n p : Nat) (f : Bool) (m : Int) : Bool := !f && (decide (0 ≤ m) && decide (m ≤ (n : Int) - (p : Int)))
def nxAt (n p : Nat) (f : Bool) (m : Int) : Nat := if nxOk n p f m = true then p + m.toNat else p
def nxB (zs : List Int) (p : Nat) (f : Bool) (m : Int) : List Int := if nxOk zs.length p f m = true then (zs.drop p).take m.toNat else []
theorem nxB_bd {zs : List Int} (h : BD 255 zs) (p : Nat) (f : Bool) (m : Int) : BD 255 (nxB zs p f m) := by
  unfold nxB; split
  · exact (h.drop _).take _
  · intro x hx; cases hx
theorem nxB_len (zs : List Int) (p : Nat) (f : Bool) (m : Int) : ((nxB zs p f m).length : Int) ≤ max m 0 := by
  unfold nxB; split
  · rw [List.length_take]; omega
  · simp; omega
theorem nxAt_le {n p : Nat} (h : p ≤ n) (f : Bool) (m : Int) : nxAt n p f m ≤ n ∧ p ≤ nxAt n p f m := by
  unfold nxAt nxOk
  split
  · rename_i hh
    simp only [Bool.and_eq_true, decide_eq_true_eq] at hh
    omega
  · omega

theorem rready_any (w : World) (R : Nat) (h : w.cell? ⟨R, 0, none⟩ = some (.pointer (some ⟨R, 0, none⟩))) : Calls Try.prog 58 #[.pointer (some ⟨R, 0, none⟩)] w fun e w' => e = .returned (.bool true) ∧ w' = w := by
  obtain ⟨j, hj, _⟩ := Option.map_eq_some_iff.1 (show (Try.prog.info? 68).map (·.size) = some 4 by kernel_rfl)
  have k0 : (binOp .eql 36 (.pointer (some ⟨R, 0, none⟩)) (.pointer (some ⟨R, 0, none⟩))).run Try.prog w = .ok (.bool true) w := run_eql_ptr_same w _ Try.underlying36 hj
  go_enter Try.func58, Try.ntmps58
  go_wp2_with fail
  go_ret
  exact ⟨rfl, rfl⟩

/-- the number of bytes -/
def numZ (l : List Int) : Int := l.foldl (fun n x => n * 256 + x) 0
theorem numZ_snoc (l : List Int) (x : Int) : numZ (l ++ [x]) = numZ l * 256 + x := by simp [numZ]
theorem numZ_from : ∀ (l : List Int) (a : Int) (k : Nat), BD 255 l → 0 ≤ a → a < 256 ^ k → 0 ≤ l.foldl (fun n x => n * 256 + x) a ∧ l.foldl (fun n x => n * 256 + x) a < 256 ^ (k + l.length) := by
  intro l
  induction l with
  | nil => intro a k _ h0 h1; exact ⟨h0, h1⟩
  | cons x r ih =>
    intro a k h h0 h1
    have hx := h x (by simp)
    have := ih (a * 256 + x) (k + 1) (fun y hy => h y (by simp [hy])) (by omega) (by rw [Int.pow_succ]; omega)
    rw [List.foldl_cons, List.length_cons, show k + (r.length + 1) = k + 1 + r.length by omega]
    exact this
theorem numZ_bd (l : List Int) (h : BD 255 l) : 0 ≤ numZ l ∧ numZ l < 256 ^ l.length := by
  have := numZ_from l 0 0 h (by omega) (by decide)
  rw [Nat.zero_add] at this
  exact this
theorem num_join (v x : Int) (hv : 0 ≤ v ∧ v ≤ 16777215) (hx : 0 ≤ x ∧ x ≤ 255) : bits .or .u32 (v * 256) x = v * 256 + x :=
  bits_join .u32 32 (by decide) (fun n h0 h1 => by rw [IntKind.wrap_u32]; omega) 8 (v * 256) x (by omega) (by omega) (by omega) (by omega) (by omega) (by omega)

set_option maxHeartbeats 1000000 in
set_option maxRecDepth 100000 in
theorem numu8_any (A : Option Addr) (n c : Nat) (zs : List Int) (w : World) (h : RD .u8 w w.heap.size A n zs) (hz : BD 255 zs) (hn : n ≤ 1) :
    Calls Try.prog 60 #[.slice A n c] w fun e w' => e = .returned (.int .u8 (numZ zs)) ∧ w' = w := by
  have hl := h.len
  have HB := Lib.hid (fun k => numZ_bd (zs.take k) (hz.take k))
  have HR := Lib.hid h
  have HL := Lib.hid hl
  clear h hl
  go_enter Try.func60, Try.ntmps60
  go_upto_region 3 with fail
  go_loopw [8, 3] (fun s8 s3 wr => ∃ k : Nat, k ≤ n ∧ s8 = .int .i64 (k : Int) ∧ s3 = .int .u32 (numZ (zs.take k)) ∧ wr = w) (fun s8 _ _ => n - (intOf s8).toNat)
  case atStart => exact ⟨0, by omega, rfl, rfl, rfl⟩
  case round =>
    obtain ⟨k, hk, rfl, rfl, rfl⟩ := hrel
    have hb := HB.out k
    have hlk : (zs.take k).length = k := by rw [List.length_take, HL.out]; omega
    rw [hlk] at hb
    have hb4 : (256 : Int) ^ k ≤ 256 ^ 1 := by
      rcases (show k = 0 ∨ k = 1 by omega) with rfl | rfl <;> decide
    by_cases hlt : k < n
    case neg =>
      obtain rfl : k = n := by omega
      have t1 : ¬ (k : Int) < (k : Int) := by omega
      have HT := Lib.hid (show zs.take k = zs from List.take_of_length_le (by rw [HL.out]; omega))
      rw [HT.out] at hb ⊢
      have e1 : IntKind.u8.wrap (numZ zs) = numZ zs := u8_in _ (by omega) (by omega)
      clear hb4
      obtain ⟨v, hv⟩ : ∃ v, numZ zs = v := ⟨_, rfl⟩
      rw [hv] at e1 hb ⊢
      go_wp2_with fail
      go_ret
      exact ⟨rfl, rfl⟩
    have t1 : (k : Int) < (n : Int) := by omega
    have t3 : (0 : Int) ≤ (k : Int) := by omega
    have hb3 : (256 : Int) ^ k ≤ 256 ^ 3 := by
      rcases (show k = 0 by omega) with rfl <;> decide
    obtain ⟨a, off, rfl, _, hcell⟩ := HR.out.2 (by omega)
    have x1 := hcell k hlt
    obtain ⟨z1, z2⟩ := hz.get (by omega) k
    have HK := Lib.hid (show numZ (zs.take (k + 1)) = numZ (zs.take k) * 256 + zs[k]?.getD 0 by
      rw [List.take_add_one, List.getElem?_eq_getElem (by rw [HL.out]; omega)]
      exact numZ_snoc _ _)
    obtain ⟨x, hx⟩ : ∃ x, zs[k]?.getD 0 = x := ⟨_, rfl⟩
    obtain ⟨v, hv⟩ : ∃ v, numZ (zs.take k) = v := ⟨_, rfl⟩
    rw [hx] at x1 z1 z2 HK
    rw [hv] at hb HK ⊢
    have e1 : IntKind.u32.wrap (v * 256) = v * 256 := u32_in _ (by omega) (by omega)
    have e2 : IntKind.u32.wrap x = x := u32_in _ (by omega) (by omega)
    have e3 := num_join v x ⟨by omega, by omega⟩ ⟨z1, z2⟩
    clear hcell hx hv hb hb4 hb3 hlk
    go_wp2_with fail
    go_roundw
    case rel => exact ⟨k + 1, by omega, by go_num, by rw [HK.out], by trivial⟩
    case measure => simp [intOf]; omega

set_option maxHeartbeats 1000000 in
set_option maxRecDepth 100000 in
theorem numu16_any (A : Option Addr) (n c : Nat) (zs : List Int) (w : World) (h : RD .u8 w w.heap.size A n zs) (hz : BD 255 zs) (hn : n ≤ 2) :
    Calls Try.prog 62 #[.slice A n c] w fun e w' => e = .returned (.int .u16 (numZ zs)) ∧ w' = w := by
  have hl := h.len
  have HB := Lib.hid (fun k => numZ_bd (zs.take k) (hz.take k))
  have HR := Lib.hid h
  have HL := Lib.hid hl
  clear h hl
  go_enter Try.func62, Try.ntmps62
  go_upto_region 3 with fail
  go_loopw [8, 3] (fun s8 s3 wr => ∃ k : Nat, k ≤ n ∧ s8 = .int .i64 (k : Int) ∧ s3 = .int .u32 (numZ (zs.take k)) ∧ wr = w) (fun s8 _ _ => n - (intOf s8).toNat)
  case atStart => exact ⟨0, by omega, rfl, rfl, rfl⟩
  case round =>
    obtain ⟨k, hk, rfl, rfl, rfl⟩ := hrel
    have hb := HB.out k
    have hlk : (zs.take k).length = k := by rw [List.length_take, HL.out]; omega
    rw [hlk] at hb
    have hb4 : (256 : Int) ^ k ≤ 256 ^ 2 := by
      rcases (show k = 0 ∨ k = 1 ∨ k = 2 by omega) with rfl | rfl | rfl <;> decide
    by_cases hlt : k < n
    case neg =>
      obtain rfl : k = n := by omega
      have t1 : ¬ (k : Int) < (k : Int) := by omega
      have HT := Lib.hid (show zs.take k = zs from List.take_of_length_le (by rw [HL.out]; omega))
      rw [HT.out] at hb ⊢
      have e1 : IntKind.u16.wrap (numZ zs) = numZ zs := u16_in _ (by omega) (by omega)
      clear hb4
      obtain ⟨v, hv⟩ : ∃ v, numZ zs = v := ⟨_, rfl⟩
      rw [hv] at e1 hb ⊢
      go_wp2_with fail
      go_ret
      exact ⟨rfl, rfl⟩
    have t1 : (k : Int) < (n : Int) := by omega
    have t3 : (0 : Int) ≤ (k : Int) := by omega
    have hb3 : (256 : Int) ^ k ≤ 256 ^ 3 := by
      rcases (show k = 0 ∨ k = 1 by omega) with rfl | rfl <;> decide
    obtain ⟨a, off, rfl, _, hcell⟩ := HR.out.2 (by omega)
    have x1 := hcell k hlt
    obtain ⟨z1, z2⟩ := hz.get (by omega) k
    have HK := Lib.hid (show numZ (zs.take (k + 1)) = numZ (zs.take k) * 256 + zs[k]?.getD 0 by
      rw [List.take_add_one, List.getElem?_eq_getElem (by rw [HL.out]; omega)]
      exact numZ_snoc _ _)
    obtain ⟨x, hx⟩ : ∃ x, zs[k]?.getD 0 = x := ⟨_, rfl⟩
    obtain ⟨v, hv⟩ : ∃ v, numZ (zs.take k) = v := ⟨_, rfl⟩
    rw [hx] at x1 z1 z2 HK
    rw [hv] at hb HK ⊢
    have e1 : IntKind.u32.wrap (v * 256) = v * 256 := u32_in _ (by omega) (by omega)
    have e2 : IntKind.u32.wrap x = x := u32_in _ (by omega) (by omega)
    have e3 := num_join v x ⟨by omega, by omega⟩ ⟨z1, z2⟩
    clear hcell hx hv hb hb4 hb3 hlk
    go_wp2_with fail
    go_roundw
    case rel => exact ⟨k + 1, by omega, by go_num, by rw [HK.out], by trivial⟩
    case measure => simp [intOf]; omega

set_option maxHeartbeats 1000000 in
set_option maxRecDepth 100000 in
theorem numu32_any (A : Option Addr) (n c : Nat) (zs : List Int) (w : World) (h : RD .u8 w w.heap.size A n zs) (hz : BD 255 zs) (hn : n ≤ 4) :
    Calls Try.prog 64 #[.slice A n c] w fun e w' => e = .returned (.int .u32 (numZ zs)) ∧ w' = w := by
  have hl := h.len
  have HB := Lib.hid (fun k => numZ_bd (zs.take k) (hz.take k))
  have HR := Lib.hid h
  have HL := Lib.hid hl
  clear h hl
  go_enter Try.func64, Try.ntmps64
  go_upto_region 3 with fail
  go_loopw [8, 3] (fun s8 s3 wr => ∃ k : Nat, k ≤ n ∧ s8 = .int .i64 (k : Int) ∧ s3 = .int .u32 (numZ (zs.take k)) ∧ wr = w) (fun s8 _ _ => n - (intOf s8).toNat)
  case atStart => exact ⟨0, by omega, rfl, rfl, rfl⟩
  case round =>
    obtain ⟨k, hk, rfl, rfl, rfl⟩ := hrel
    have hb := HB.out k
    have hlk : (zs.take k).length = k := by rw [List.length_take, HL.out]; omega
    rw [hlk] at hb
    have hb4 : (256 : Int) ^ k ≤ 256 ^ 4 := by
      rcases (show k = 0 ∨ k = 1 ∨ k = 2 ∨ k = 3 ∨ k = 4 by omega) with rfl | rfl | rfl | rfl | rfl <;> decide
    by_cases hlt : k < n
    case neg =>
      obtain rfl : k = n := by omega
      have t1 : ¬ (k : Int) < (k : Int) := by omega
      have HT := Lib.hid (show zs.take k = zs from List.take_of_length_le (by rw [HL.out]; omega))
      rw [HT.out] at hb ⊢
      have e1 : IntKind.u32.wrap (numZ zs) = numZ zs := u32_in _ (by omega) (by omega)
      clear hb4
      obtain ⟨v, hv⟩ : ∃ v, numZ zs = v := ⟨_, rfl⟩
      rw [hv] at e1 hb ⊢
      go_wp2_with fail
      go_ret
      exact ⟨rfl, rfl⟩
    have t1 : (k : Int) < (n : Int) := by omega
    have t3 : (0 : Int) ≤ (k : Int) := by omega
    have hb3 : (256 : Int) ^ k ≤ 256 ^ 3 := by
      rcases (show k = 0 ∨ k = 1 ∨ k = 2 ∨ k = 3 by omega) with rfl | rfl | rfl | rfl <;> decide
    obtain ⟨a, off, rfl, _, hcell⟩ := HR.out.2 (by omega)
    have x1 := hcell k hlt
    obtain ⟨z1, z2⟩ := hz.get (by omega) k
    have HK := Lib.hid (show numZ (zs.take (k + 1)) = numZ (zs.take k) * 256 + zs[k]?.getD 0 by
      rw [List.take_add_one, List.getElem?_eq_getElem (by rw [HL.out]; omega)]
      exact numZ_snoc _ _)
    obtain ⟨x, hx⟩ : ∃ x, zs[k]?.getD 0 = x := ⟨_, rfl⟩
    obtain ⟨v, hv⟩ : ∃ v, numZ (zs.take k) = v := ⟨_, rfl⟩
    rw [hx] at x1 z1 z2 HK
    rw [hv] at hb HK ⊢
    have e1 : IntKind.u32.wrap (v * 256) = v * 256 := u32_in _ (by omega) (by omega)
    have e2 : IntKind.u32.wrap x = x := u32_in _ (by omega) (by omega)
    have e3 := num_join v x ⟨by omega, by omega⟩ ⟨z1, z2⟩
    clear hcell hx hv hb hb4 hb3 hlk
    go_wp2_with fail
    go_roundw
    case rel => exact ⟨k + 1, by omega, by go_num, by rw [HK.out], by trivial⟩
    case measure => simp [intOf]; omega

section
variable {w0 w : World} {L : List IT} {i j R : Nat} {B : Option Addr} {n c p : Nat} {f : Bool} {zs : List Int}

set_option maxHeartbeats 2000000 in
set_option maxRecDepth 100000 in
theorem next_any (H : SP w0 w L) (hi : L[i]? = some (.blk R 68 (rcells R B n c p f))) (hj : L[j]? = some (.own .u8 5 B n c zs)) (hij : i ≠ j) (hp : p ≤ n) (hn : n ≤ 131072) (m : Int) (hm : -9223372036854775808 ≤ m ∧ m ≤ 9223372036854775807) :
    Calls Try.prog 61 #[.pointer (some ⟨R, 0, none⟩), .int .i64 m] w fun e w' => ∃ A' n' c', e = .returned (.slice A' n' c') ∧ n' ≤ c' ∧ (n' : Int) ≤ max m 0 ∧ n' ≤ n ∧ RD .u8 w' w'.heap.size A' n' (nxB zs p f m) ∧ SP w0 w' (L.set i (.blk R 68 (rcells R B n c (nxAt n p f m) (!nxOk n p f m)))) := by
  obtain ⟨i0, hi', hz0, hz1, hz2⟩ := info_parts infoU8
  have HH := Lib.hid H
  have hle := (H.own j hj).le
  have hzn := (H.own j hj).len
  have x0 : w.cell? ⟨R, 0, none⟩ = some (.pointer (some ⟨R, 0, none⟩)) := H.cell i hi 0 rfl
  have x1 : w.cell? ⟨R, 1, none⟩ = some (.slice B n c) := H.cell i hi 1 rfl
  have x2 : w.cell? ⟨R, 2, none⟩ = some (.int .i64 (p : Int)) := H.cell i hi 2 rfl
  have x3 : w.cell? ⟨R, 3, none⟩ = some (.bool f) := H.cell i hi 3 rfl
  have d2 : w.frozen? ⟨R, 2, none⟩ = false := H.free i hi 2
  have d3 : w.frozen? ⟨R, 3, none⟩ = false := H.free i hi 3
  have e0 : IntKind.i64.wrap ((n : Int) - (p : Int)) = (n : Int) - (p : Int) := IntWalk.i64_in _ (by omega)
  obtain ⟨q, hq⟩ : ∃ q, (n : Int) - (p : Int) = q := ⟨_, rfl⟩
  have HRDY := Lib.hid (fun W h => rready_any W R h)
  have HFAIL := Lib.hid (show nxOk n p f m = false → nxB zs p f m = [] ∧ nxAt n p f m = p from fun h => ⟨by unfold nxB; rw [hzn, h]; rfl, by unfold nxAt; rw [h]; rfl⟩)
  clear H
  by_cases hok : nxOk n p f m = true
  case neg =>
    have hno : nxOk n p f m = false := by simpa using hok
    rw [(HFAIL.out hno).1, (HFAIL.out hno).2, hno]
    have HS := Lib.hid (show ∀ a, SP w0 ((w.setCell ⟨R, 3, none⟩ (.bool true)).drewN a) (L.set i (.blk R 68 (rcells R B n c p true))) from fun a => (HH.out.setB i hi 3 (.bool true)).drewN a)
    clear HFAIL hok
    unfold nxOk at hno
    rw [hq] at hno e0
    cases f
    case true =>
      clear hno
      go_enter Try.func61, Try.ntmps61
      go_wp2_with (go_at_call 58; refine (HRDY.out _ x0).mono ?_; rintro e w2 ⟨rfl, rfl⟩)
      go_quiet (fail)
      go_wp2_with fail
      go_ret
      exact ⟨none, 0, 0, rfl, by omega, by omega, by omega, RD.nil, HS.out _⟩
    case false =>
      by_cases h0 : m < 0
      · clear hno
        go_enter Try.func61, Try.ntmps61
        go_wp2_with (go_at_call 58; refine (HRDY.out _ x0).mono ?_; rintro e w2 ⟨rfl, rfl⟩)
        go_quiet (fail)
        go_wp2_with fail
        go_ret
        exact ⟨none, 0, 0, rfl, by omega, by omega, by omega, RD.nil, HS.out _⟩
      · have h1 : q < m := by
          simp only [Bool.not_false, Bool.true_and, Bool.and_eq_false_iff, decide_eq_false_iff_not] at hno
          omega
        clear hno
        go_enter Try.func61, Try.ntmps61
        go_wp2_with (go_at_call 58; refine (HRDY.out _ x0).mono ?_; rintro e w2 ⟨rfl, rfl⟩)
        go_quiet (fail)
        go_wp2_with fail
        go_ret
        exact ⟨none, 0, 0, rfl, by omega, by omega, by omega, RD.nil, HS.out _⟩
  case pos =>
    have hh := hok
    unfold nxOk at hh
    simp only [Bool.and_eq_true, decide_eq_true_eq, Bool.not_eq_true'] at hh
    obtain ⟨rfl, h0, h1⟩ := hh
    obtain ⟨a, rfl⟩ := Int.eq_ofNat_of_zero_le h0
    have ha : p + a ≤ n := by omega
    have HB := Lib.hid (show nxB zs p false (a : Int) = (zs.drop p).take a by unfold nxB; rw [hzn, hok, if_pos rfl, Int.toNat_natCast])
    have HA := Lib.hid (show nxAt n p false (a : Int) = p + a by unfold nxAt; rw [hok, if_pos rfl, Int.toNat_natCast])
    rw [HB.out, HA.out, hok]
    have HS := Lib.hid (show ∀ a1 b, SP w0 (((w.drewN a1).setCell ⟨R, 2, none⟩ (.int .i64 ((p : Int) + (a : Int)))).drewN b) (L.set i (.blk R 68 (rcells R B n c (p + a) false))) from fun a1 b => ((HH.out.drewN a1).setB i hi 2 (.int .i64 ((p : Int) + (a : Int)))).drewN b)
    have HJ := Lib.hid (show (L.set i (.blk R 68 (rcells R B n c (p + a) false)))[j]? = some (.own .u8 5 B n c zs) by rw [List.getElem?_set_ne hij]; exact hj)
    have y2 : (w.setCell ⟨R, 2, none⟩ (.int .i64 ((p : Int) + (a : Int)))).cell? ⟨R, 2, none⟩ = some (.int .i64 ((p : Int) + (a : Int))) := by
      have := (HS.out 0 0).cell i (by rw [List.getElem?_set_self (List.getElem?_eq_some_iff.1 hi).1]) 2 rfl
      exact this
    have y1 : (w.setCell ⟨R, 2, none⟩ (.int .i64 ((p : Int) + (a : Int)))).cell? ⟨R, 1, none⟩ = some (.slice B n c) := (HS.out 0 0).cell i (by rw [List.getElem?_set_self (List.getElem?_eq_some_iff.1 hi).1]) 1 rfl
    have e1 : IntKind.i64.wrap ((p : Int) + (a : Int)) = (p : Int) + (a : Int) := IntWalk.i64_in _ (by omega)
    have e2 : IntKind.i64.wrap (p : Int) = (p : Int) := IntWalk.i64_in _ (by omega)
    have h3 : ¬ (a : Int) < 0 := by omega
    have h2 : ¬ q < (a : Int) := by omega
    have e4 : (p : Int) + (a : Int) - (a : Int) = (p : Int) := by omega
    have s1 := fun W => run_slice_lohi (P := Try.prog) W Try.underlying22 hi' hz1 B n c (p : Int) ((p : Int) + (a : Int)) p (p + a) rfl (by omega) (by omega) (by omega)
    rw [hq] at e0
    clear hok h1 HFAIL
    go_enter Try.func61, Try.ntmps61
    go_wp2_with (go_at_call 58; refine (HRDY.out _ x0).mono ?_; rintro e w2 ⟨rfl, rfl⟩)
    go_quiet (fail)
    go_wp2_with fail
    go_quiet (fail)
    go_wp2_with fail
    go_ret
    have hr := fun a1 b => ((HS.out a1 b).rd j HJ.out).mid (lo := p) (hi := p + a) (by omega) (by omega) hle.1
    rw [show p + a - p = a by omega] at hr
    exact ⟨_, _, _, rfl, by omega, by omega, by omega, hr _ _, HS.out _ _⟩

set_option maxHeartbeats 1000000 in
theorem rU8_any (H : SP w0 w L) (hi : L[i]? = some (.blk R 68 (rcells R B n c p f))) (hj : L[j]? = some (.own .u8 5 B n c zs)) (hij : i ≠ j) (hp : p ≤ n) (hn : n ≤ 131072) (hz : BD 255 zs) :
    Calls Try.prog 24 #[.pointer (some ⟨R, 0, none⟩)] w fun e w' => e = .returned (.int .u8 (numZ (nxB zs p f 1))) ∧ SP w0 w' (L.set i (.blk R 68 (rcells R B n c (nxAt n p f 1) (!nxOk n p f 1)))) := by
  have HN := Lib.hid (next_any H hi hj hij hp hn 1 (by omega))
  have HB := Lib.hid (nxB_bd hz p f 1)
  clear H hi hj
  go_enter Try.func24, Try.ntmps24
  go_wp2_with fail
  refine HN.out.mono ?_
  rintro e w2 ⟨A', n', c', rfl, hn', hm', hnn, hr, hS⟩
  have HS := Lib.hid hS
  have HR := Lib.hid hr
  clear hS hr
  go_wp2_with fail
  refine (numu8_any A' n' c' _ _ HR.out HB.out (by omega)).mono ?_
  rintro e w3 ⟨rfl, rfl⟩
  go_wp2_with fail
  go_ret
  exact ⟨rfl, HS.out⟩

set_option maxHeartbeats 1000000 in
theorem rU16_any (H : SP w0 w L) (hi : L[i]? = some (.blk R 68 (rcells R B n c p f))) (hj : L[j]? = some (.own .u8 5 B n c zs)) (hij : i ≠ j) (hp : p ≤ n) (hn : n ≤ 131072) (hz : BD 255 zs) :
    Calls Try.prog 26 #[.pointer (some ⟨R, 0, none⟩)] w fun e w' => e = .returned (.int .u16 (numZ (nxB zs p f 2))) ∧ SP w0 w' (L.set i (.blk R 68 (rcells R B n c (nxAt n p f 2) (!nxOk n p f 2)))) := by
  have HN := Lib.hid (next_any H hi hj hij hp hn 2 (by omega))
  have HB := Lib.hid (nxB_bd hz p f 2)
  clear H hi hj
  go_enter Try.func26, Try.ntmps26
  go_wp2_with fail
  refine HN.out.mono ?_
  rintro e w2 ⟨A', n', c', rfl, hn', hm', hnn, hr, hS⟩
  have HS := Lib.hid hS
  have HR := Lib.hid hr
  clear hS hr
  go_wp2_with fail
  refine (numu16_any A' n' c' _ _ HR.out HB.out (by omega)).mono ?_
  rintro e w3 ⟨rfl, rfl⟩
  go_wp2_with fail
  go_ret
  exact ⟨rfl, HS.out⟩

set_option maxHeartbeats 1000000 in
theorem rU32_any (H : SP w0 w L) (hi : L[i]? = some (.blk R 68 (rcells R B n c p f))) (hj : L[j]? = some (.own .u8 5 B n c zs)) (hij : i ≠ j) (hp : p ≤ n) (hn : n ≤ 131072) (hz : BD 255 zs) :
    Calls Try.prog 38 #[.pointer (some ⟨R, 0, none⟩)] w fun e w' => e = .returned (.int .u32 (numZ (nxB zs p f 4))) ∧ SP w0 w' (L.set i (.blk R 68 (rcells R B n c (nxAt n p f 4) (!nxOk n p f 4)))) := by
  have HN := Lib.hid (next_any H hi hj hij hp hn 4 (by omega))
  have HB := Lib.hid (nxB_bd hz p f 4)
  clear H hi hj
  go_enter Try.func38, Try.ntmps38
  go_wp2_with fail
  refine HN.out.mono ?_
  rintro e w2 ⟨A', n', c', rfl, hn', hm', hnn, hr, hS⟩
  have HS := Lib.hid hS
  have HR := Lib.hid hr
  clear hS hr
  go_wp2_with fail
  refine (numu32_any A' n' c' _ _ HR.out HB.out (by omega)).mono ?_
  rintro e w3 ⟨rfl, rfl⟩
  go_wp2_with fail
  go_ret
  exact ⟨rfl, HS.out⟩

set_option maxHeartbeats 1000000 in
theorem rBytes_any (H : SP w0 w L) (hi : L[i]? = some (.blk R 68 (rcells R B n c p f))) (hj : L[j]? = some (.own .u8 5 B n c zs)) (hij : i ≠ j) (hp : p ≤ n) (hn : n ≤ 131072) (m : Int) (hm : -9223372036854775808 ≤ m ∧ m ≤ 9223372036854775807) :
    Calls Try.prog 28 #[.pointer (some ⟨R, 0, none⟩), .int .i64 m] w fun e w' => ∃ A' n' c', e = .returned (.slice A' n' c') ∧ SP w0 w' (L.set i (.blk R 68 (rcells R B n c (nxAt n p f m) (!nxOk n p f m))) ++ [.own .u8 5 A' n' c' (nxB zs p f m)]) := by
  have HN := Lib.hid (next_any H hi hj hij hp hn m hm)
  clear H hi hj
  go_enter Try.func28, Try.ntmps28
  go_wp2_with fail
  refine HN.out.mono ?_
  rintro e w2 ⟨A', n', c', rfl, hn', hm', hnn, hr, hS⟩
  have HS := Lib.hid hS
  have HR := Lib.hid hr
  clear hS hr
  go_wp2_with fail
  refine (clone_any A' n' c' _ _ HR.out (by omega)).mono ?_
  rintro e w3 ⟨A3, n3, c3, rfl, ho, hb⟩
  have HX := Lib.hid (HS.out.pushOwn hb ho)
  clear ho hb
  go_wp2_with fail
  go_ret
  exact ⟨A3, n3, c3, rfl, HX.out⟩

set_option maxHeartbeats 1000000 in
theorem rSkip_any (H : SP w0 w L) (hi : L[i]? = some (.blk R 68 (rcells R B n c p f))) (hj : L[j]? = some (.own .u8 5 B n c zs)) (hij : i ≠ j) (hp : p ≤ n) (hn : n ≤ 131072) (m : Int) (hm : -9223372036854775808 ≤ m ∧ m ≤ 9223372036854775807) :
    Calls Try.prog 30 #[.pointer (some ⟨R, 0, none⟩), .int .i64 m] w fun e w' => e = .returned (.tuple #[]) ∧ SP w0 w' (L.set i (.blk R 68 (rcells R B n c (nxAt n p f m) (!nxOk n p f m)))) := by
  have HN := Lib.hid (next_any H hi hj hij hp hn m hm)
  clear H hi hj
  go_enter Try.func30, Try.ntmps30
  go_wp2_with fail
  refine HN.out.mono ?_
  rintro e w2 ⟨A', n', c', rfl, hn', hm', hnn, hr, hS⟩
  have HS := Lib.hid hS
  clear hS hr
  go_wp2_with fail
  go_end0
  exact ⟨rfl, HS.out⟩

set_option maxHeartbeats 1000000 in
theorem rAt_any (H : SP w0 w L) (hi : L[i]? = some (.blk R 68 (rcells R B n c p f))) :
    Calls Try.prog 20 #[.pointer (some ⟨R, 0, none⟩)] w fun e w' => e = .returned (.int .i64 (p : Int)) ∧ SP w0 w' L := by
  have HH := Lib.hid H
  have x0 : w.cell? ⟨R, 0, none⟩ = some (.pointer (some ⟨R, 0, none⟩)) := H.cell i hi 0 rfl
  have x2 : w.cell? ⟨R, 2, none⟩ = some (.int .i64 (p : Int)) := H.cell i hi 2 rfl
  have HRDY := Lib.hid (fun W h => rready_any W R h)
  clear H
  go_enter Try.func20, Try.ntmps20
  go_wp2_with (go_at_call 58; refine (HRDY.out _ x0).mono ?_; rintro e w2 ⟨rfl, rfl⟩)
  go_ret
  exact ⟨rfl, HH.out⟩

set_option maxHeartbeats 1000000 in
theorem rFailed_any (H : SP w0 w L) (hi : L[i]? = some (.blk R 68 (rcells R B n c p f))) :
    Calls Try.prog 21 #[.pointer (some ⟨R, 0, none⟩)] w fun e w' => e = .returned (.bool f) ∧ SP w0 w' L := by
  have HH := Lib.hid H
  have x0 : w.cell? ⟨R, 0, none⟩ = some (.pointer (some ⟨R, 0, none⟩)) := H.cell i hi 0 rfl
  have x2 : w.cell? ⟨R, 3, none⟩ = some (.bool f) := H.cell i hi 3 rfl
  have HRDY := Lib.hid (fun W h => rready_any W R h)
  clear H
  go_enter Try.func21, Try.ntmps21
  go_wp2_with (go_at_call 58; refine (HRDY.out _ x0).mono ?_; rintro e w2 ⟨rfl, rfl⟩)
  go_ret
  exact ⟨rfl, HH.out⟩

set_option maxHeartbeats 1000000 in
theorem rLeft_any (H : SP w0 w L) (hi : L[i]? = some (.blk R 68 (rcells R B n c p f))) (hp : p ≤ n) (hn : n ≤ 131072) :
    Calls Try.prog 32 #[.pointer (some ⟨R, 0, none⟩)] w fun e w' => e = .returned (.int .i64 ((n : Int) - (p : Int))) ∧ SP w0 w' L := by
  have HH := Lib.hid H
  have x0 : w.cell? ⟨R, 0, none⟩ = some (.pointer (some ⟨R, 0, none⟩)) := H.cell i hi 0 rfl
  have x1 : w.cell? ⟨R, 1, none⟩ = some (.slice B n c) := H.cell i hi 1 rfl
  have x2 : w.cell? ⟨R, 2, none⟩ = some (.int .i64 (p : Int)) := H.cell i hi 2 rfl
  have e0 : IntKind.i64.wrap ((n : Int) - (p : Int)) = (n : Int) - (p : Int) := IntWalk.i64_in _ (by omega)
  have HRDY := Lib.hid (fun W h => rready_any W R h)
  clear H
  go_enter Try.func32, Try.ntmps32
  go_wp2_with (go_at_call 58; refine (HRDY.out _ x0).mono ?_; rintro e w2 ⟨rfl, rfl⟩)
  go_quiet (fail)
  go_wp2_with fail
  go_ret
  exact ⟨rfl, HH.out.drewN _⟩

set_option maxHeartbeats 1000000 in
theorem newReader_any (H : SP w0 w L) (A : Option Addr) (m cm : Nat) (bs : List Int) (h : RD .u8 w w.heap.size A m bs) (hm : m ≤ 131072) :
    Calls Try.prog 18 #[.slice A m cm] w fun e w' => ∃ R B n c, e = .returned (.tuple #[.pointer (some ⟨R, 0, none⟩), .int .i64 0]) ∧ SP w0 w' (L ++ [.own .u8 5 B n c bs] ++ [.blk R 68 (rcells R B n c 0 false)]) := by
  have HH := Lib.hid H
  have t1 : ¬ (131072 : Int) < (m : Int) := by omega
  have HC := Lib.hid (clone_any A m cm bs w h (by omega))
  clear H h
  go_enter Try.func18, Try.ntmps18
  go_wp2_with fail
  refine HC.out.mono ?_
  rintro e w1 ⟨B, n, c, rfl, ho, hb⟩
  have X := Lib.hid (HH.out.pushOwn hb ho)
  obtain ⟨R, hR⟩ : ∃ R, R = w1.heap.size := ⟨_, rfl⟩
  have X2 := Lib.hid (show SP w0 (w1.alloc (.cells (rcells R B n c 0 false) 68)) (L ++ [.own .u8 5 B n c bs] ++ [.blk R 68 (rcells R B n c 0 false)]) from X.out.alloc' 68 _ hR.symm)
  clear ho hb
  go_wp2_with fail
  go_ret2
  rw [← hR]
  exact ⟨R, B, n, c, rfl, X2.out⟩
end
theorem newReader_no (w : World) (A : Option Addr) (m cm : Nat) (hm : 131072 < m) :
    Calls Try.prog 18 #[.slice A m cm] w fun e w' => e = .returned (.tuple #[.pointer none, .int .i64 3]) ∧ w' = w := by
  have t1 : (131072 : Int) < (m : Int) := by omega
  go_enter Try.func18, Try.ntmps18
  go_wp2_with fail
  go_ret2
  exact ⟨rfl, rfl⟩
end Go.Proofs.Ytcipgkpcaecjdaa
