/- package udp: Write. (Printed by gen_udpw.py.) -/
import Derived.Test.YtnocbpagdoihmaaWUdpR
import Derived.Test.YtnocbpagdoihmaaWCopy
namespace Go.Proofs.Ytnocbpagdoihmaa
open Go.RowKit
set_option linter.unusedVariables false
attribute [local go_sem ↓] Go.wp_at_zero Go.wp_at_succ

/-- the head of a datagram when k of its numbers are there -/
def upK (sp dp L : Int) (k : Nat) : List Int := [if 0 < k then sp / 256 else 0, if 0 < k then sp % 256 else 0, if 1 < k then dp / 256 else 0, if 1 < k then dp % 256 else 0, if 2 < k then L / 256 else 0, if 2 < k then L % 256 else 0, 0, 0]
def uHead (sp dp L c : Int) : List Int := [sp / 256, sp % 256, dp / 256, dp % 256, L / 256, L % 256, c / 256, c % 256]
def wrPs (s d L : Int) : Int := foldJ 0 [s / 65536, s % 65536, d / 65536, d % 65536, 17, L]
def neverZ (x : Int) : Int := if x = 0 then 65535 else x
def wrC (sp dp s d : Int) (data : List Int) : Int := neverZ (65535 - stepJ (wrPs s d (8 + data.length)) (sumOf (uHead sp dp (8 + data.length) 0 ++ data)))
/-- the datagram that Write gives -/
def uPkt (sp dp : Int) (ck : Bool) (s d : Int) (data : List Int) : List Int := uHead sp dp (8 + data.length) (if ck then wrC sp dp s d data else 0) ++ data
def UWrong (dp : Int) (dn : Nat) : Prop := dp = 0 ∨ 65507 < dn
instance (dp : Int) (dn : Nat) : Decidable (UWrong dp dn) := by unfold UWrong; infer_instance
def uwE (dp : Int) (dn : Nat) : Int := if UWrong dp dn then 2 else 0
def uwB (sp dp : Int) (ck : Bool) (s d : Int) (data : List Int) : List Int := if UWrong dp data.length then [] else uPkt sp dp ck s d data
def UWroteP (w : World) (zs : List Int) (er : Int) (e : Ending) (w' : World) : Prop :=
  ∃ A n c, e = .returned (.tuple #[.slice A n c, .int .i64 er]) ∧ OWN .u8 5 w' w.heap.size A n c zs ∧ Below w.heap.size w w'

theorem uHead_bd {sp dp L c : Int} (h1 : 0 ≤ sp ∧ sp ≤ 65535) (h2 : 0 ≤ dp ∧ dp ≤ 65535) (h3 : 0 ≤ L ∧ L ≤ 65535) (h4 : 0 ≤ c ∧ c ≤ 65535) : BD 255 (uHead sp dp L c) := by
  intro x hx
  simp only [uHead, List.mem_cons, List.not_mem_nil, or_false] at hx
  omega
theorem wrC_bd {sp dp s d : Int} {data : List Int} (h1 : 0 ≤ sp ∧ sp ≤ 65535) (h2 : 0 ≤ dp ∧ dp ≤ 65535) (h3 : data.length ≤ 65507) (hs : 0 ≤ s ∧ s ≤ 4294967295) (hd : 0 ≤ d ∧ d ≤ 4294967295) (bd : BD 255 data) : 0 ≤ wrC sp dp s d data ∧ wrC sp dp s d data ≤ 65535 := by
  have a := foldJ_bd [s / 65536, s % 65536, d / 65536, d % 65536, 17, 8 + (data.length : Int)] (s := 0) (by omega) (by omega) (fun y hy => by simp at hy; omega)
  have b := sumOf_bd (uHead sp dp (8 + data.length) 0 ++ data) (BD.append (uHead_bd h1 h2 (by omega) (by omega)) bd)
  have c := stepJ_bd (s := wrPs s d (8 + data.length)) a.1 a.2 b.1 b.2
  unfold wrC neverZ
  split <;> omega
theorem uPkt_len (sp dp : Int) (ck : Bool) (s d : Int) (data : List Int) : (uPkt sp dp ck s d data).length = 8 + data.length := by unfold uPkt; simp [uHead]; omega

set_option maxHeartbeats 1000000 in
set_option maxRecDepth 100000 in
theorem uwrite_no (sp dp : Int) (ck : Bool) (s d : Int) (Ad : Option Addr) (dn dc : Nat) (w : World) (hp : 0 ≤ dp) (hdn : dn ≤ 140737488351232) (hw : UWrong dp dn) :
    Calls Try.prog 14 #[.agg #[.int .u16 sp, .int .u16 dp, .bool ck], .int .u32 s, .int .u32 d, .slice Ad dn dc] w fun e w' => e = .returned (.tuple #[.slice none 0 0, .int .i64 2]) ∧ Below w.heap.size w w' := by
  by_cases h0 : dp = 0
  · have t0 : (dp == 0) = true := by simp [h0]
    clear hw h0
    go_enter Try.func14, Try.ntmps14
    go_wp2_with fail
    go_ret2
    exact ⟨rfl, (Below.refl _ _).alloc (Nat.le_refl _) _⟩
  · have t0 : (dp == 0) = false := by simp [h0]
    have t1 : (65515 : Int) < 8 + (dn : Int) := by rcases hw with h | h <;> omega
    clear hw h0
    go_enter Try.func14, Try.ntmps14
    go_wp2_with fail
    go_ret2
    exact ⟨rfl, (Below.refl _ _).alloc (Nat.le_refl _) _⟩

set_option maxHeartbeats 4000000 in
set_option maxRecDepth 100000 in
theorem uwrite_yes (sp dp : Int) (ck : Bool) (s d : Int) (Ad : Option Addr) (dn dc : Nat) (data : List Int) (w : World) (h1 : 0 ≤ sp ∧ sp ≤ 65535) (h2 : 0 ≤ dp ∧ dp ≤ 65535) (hs : 0 ≤ s ∧ s ≤ 4294967295) (hd : 0 ≤ d ∧ d ≤ 4294967295)
    (rd : RD .u8 w w.heap.size Ad dn data) (bd : BD 255 data) (hw : ¬ UWrong dp dn) :
    Calls Try.prog 14 #[.agg #[.int .u16 sp, .int .u16 dp, .bool ck], .int .u32 s, .int .u32 d, .slice Ad dn dc] w (UWroteP w (uPkt sp dp ck s d data) 0) := by
  obtain ⟨i0, hi, hz0, hz1, hz2⟩ := info_parts infoU8
  have DL := Lib.hid rd.len
  have t0 : (dp == 0) = false := by simp only [beq_eq_false_iff_ne, ne_eq]; intro h; exact hw (.inl h)
  have hdn : dn ≤ 65507 := by rcases Nat.lt_or_ge 65507 dn with h | h; exact absurd (.inr h) hw; exact h
  have S := (SP.start w).alloc 28 #[.int .u16 sp, .int .u16 dp, .bool ck]
  have R := Lib.hid rd
  obtain ⟨sp0, sp1⟩ := h1
  obtain ⟨dp0, dp1⟩ := h2
  obtain ⟨s0, s1⟩ := hs
  obtain ⟨d0, d1⟩ := hd
  clear rd hw
  have t1 : ¬ (65515 : Int) < 8 + (dn : Int) := by omega
  have eL : IntKind.u16.wrap (8 + (dn : Int)) = 8 + (dn : Int) := u16_in _ (by omega) (by omega)
  go_enter Try.func14, Try.ntmps14
  go_upto_region 1 with fail
  generalize hW1 : w.alloc (.cells #[.int .u16 sp, .int .u16 dp, .bool ck] 28) = W1 at S ⊢
  clear hW1
  have f0 : W1.cell? ⟨w.heap.size, 0, none⟩ = some (.int .u16 sp) := S.cell 0 rfl 0 rfl
  have f1 : W1.cell? ⟨w.heap.size, 1, none⟩ = some (.int .u16 dp) := S.cell 0 rfl 1 rfl
  obtain ⟨w2, hrun, own2, hb2, hs2⟩ := run_make_cap (P := Try.prog) (k := .u8) W1 22 i0 Try.underlying22 hi hz0 hz1 (by omega) 8 (8 + (dn : Int)) 8 (8 + dn) (by omega) (by omega) (by omega) (by omega)
  have S2 := S.pushOwn hb2 own2
  generalize hG : W1.heap.size = G at *
  have f0' : w2.cell? ⟨w.heap.size, 0, none⟩ = some (.int .u16 sp) := S2.cell 0 rfl 0 rfl
  have f1' : w2.cell? ⟨w.heap.size, 1, none⟩ = some (.int .u16 dp) := S2.cell 0 rfl 1 rfl
  have HS := Lib.hid S2
  clear S S2 own2 hb2
  go_wp2_with fail
  have a0 : ∀ W, (Instr.index 60 (.agg #[.int .u16 sp, .int .u16 dp, .int .u16 (8 + (dn : Int)), .int .u16 0]) (.int .i64 0)).run Try.prog W = .ok (.int .u16 sp) W := fun _ => by kernel_rfl
  have a1 : ∀ W, (Instr.index 60 (.agg #[.int .u16 sp, .int .u16 dp, .int .u16 (8 + (dn : Int)), .int .u16 0]) (.int .i64 1)).run Try.prog W = .ok (.int .u16 dp) W := fun _ => by kernel_rfl
  have a2 : ∀ W, (Instr.index 60 (.agg #[.int .u16 sp, .int .u16 dp, .int .u16 (8 + (dn : Int)), .int .u16 0]) (.int .i64 2)).run Try.prog W = .ok (.int .u16 (8 + (dn : Int))) W := fun _ => by kernel_rfl
  have a3 : ∀ W, (Instr.index 60 (.agg #[.int .u16 sp, .int .u16 dp, .int .u16 (8 + (dn : Int)), .int .u16 0]) (.int .i64 3)).run Try.prog W = .ok (.int .u16 0) W := fun _ => by kernel_rfl
  clear f0 f1 f0' f1' hrun
  go_loopw [36] (fun i wr => ∃ k : Nat, k ≤ 4 ∧ i = .int .i64 k ∧ SP w wr [.blk w.heap.size 28 #[.int .u16 sp, .int .u16 dp, .bool ck], .own .u8 5 (some ⟨G, 0, none⟩) 8 (8 + dn) (upK sp dp (8 + (dn : Int)) k)]) (fun i _ => 4 - (intOf i).toNat)
  case atStart => exact ⟨0, by omega, rfl, HS.out⟩
  case round =>
    obtain ⟨k, hk, rfl, S⟩ := hrel
    clear HS
    have HS := Lib.hid S
    clear S
    rcases (show k = 0 ∨ k = 1 ∨ k = 2 ∨ k = 3 ∨ k = 4 by omega) with rfl | rfl | rfl | rfl | rfl
    · have x0 := (HS.out.own 1 rfl).cell (i := 0) (by omega)
      have x1 := (HS.out.own 1 rfl).cell (i := 1) (by omega)
      have z0 := (HS.out.own 1 rfl).frozen 0
      have z1 := (HS.out.own 1 rfl).frozen 1
      have T := (HS.out.setO 1 rfl 0 (sp / 256)).setO 1 rfl 1 (sp % 256)
      have e1 : IntKind.u8.wrap (sp / 256) = sp / 256 := u8_in _ (by omega) (by omega)
      have e2 := u8_mod sp
      have i1 : (1 : Int) < 8 := by omega
      have HT := Lib.hid T
      clear T
      go_wp2_with fail
      go_roundw
      case rel => exact ⟨1, by omega, by go_num, HT.out⟩
      case measure => simp [intOf]
    · have x0 := (HS.out.own 1 rfl).cell (i := 2) (by omega)
      have x1 := (HS.out.own 1 rfl).cell (i := 3) (by omega)
      have z0 := (HS.out.own 1 rfl).frozen 2
      have z1 := (HS.out.own 1 rfl).frozen 3
      have T := (HS.out.setO 1 rfl 2 (dp / 256)).setO 1 rfl 3 (dp % 256)
      have e1 : IntKind.u8.wrap (dp / 256) = dp / 256 := u8_in _ (by omega) (by omega)
      have e2 := u8_mod dp
      have i1 : (3 : Int) < 8 := by omega
      have HT := Lib.hid T
      clear T
      go_wp2_with fail
      go_roundw
      case rel => exact ⟨2, by omega, by go_num, HT.out⟩
      case measure => simp [intOf]
    · have x0 := (HS.out.own 1 rfl).cell (i := 4) (by omega)
      have x1 := (HS.out.own 1 rfl).cell (i := 5) (by omega)
      have z0 := (HS.out.own 1 rfl).frozen 4
      have z1 := (HS.out.own 1 rfl).frozen 5
      have T := (HS.out.setO 1 rfl 4 ((8 + (dn : Int)) / 256)).setO 1 rfl 5 ((8 + (dn : Int)) % 256)
      have e1 : IntKind.u8.wrap ((8 + (dn : Int)) / 256) = (8 + (dn : Int)) / 256 := u8_in _ (by omega) (by omega)
      have e2 := u8_mod (8 + (dn : Int))
      have i1 : (5 : Int) < 8 := by omega
      have HT := Lib.hid T
      clear T
      go_wp2_with fail
      go_roundw
      case rel => exact ⟨3, by omega, by go_num, HT.out⟩
      case measure => simp [intOf]
    · have x0 := (HS.out.own 1 rfl).cell (i := 6) (by omega)
      have x1 := (HS.out.own 1 rfl).cell (i := 7) (by omega)
      have z0 := (HS.out.own 1 rfl).frozen 6
      have z1 := (HS.out.own 1 rfl).frozen 7
      have T := (HS.out.setO 1 rfl 6 (0 / 256)).setO 1 rfl 7 (0 % 256)
      have i1 : (7 : Int) < 8 := by omega
      have HT := Lib.hid T
      clear T
      go_wp2_with fail
      go_roundw
      case rel => exact ⟨4, by omega, by go_num, HT.out⟩
      case measure => simp [intOf]
    · clear a0 a1 a2 a3
      have own1 := HS.out.own 1 rfl
      have hup : upK sp dp (8 + (dn : Int)) 4 = uHead sp dp (8 + (dn : Int)) 0 := by simp [upK, uHead]
      rw [hup] at own1
      have HS1 := HS.out
      rw [hup] at HS1
      have HS2 := Lib.hid HS1
      have r' := (R.out.below HS1.bel).more HS1.size
      clear HS1 hup HS
      go_upto_if 60 with (at_builtin; refine wpList_append_rd _ rfl _ _ _ rfl .u8 w.heap.size 5 i0 1 Try.underlying22 hi hz0 hz1 hz2 (some ⟨G, 0, none⟩) 8 (8 + dn) (uHead sp dp (8 + (dn : Int)) 0) rfl own1 _ Ad dn dc data rfl r' (by simp only [maxLen]; omega) (by omega) HS2.out.size ?_; intro A2 c2 w3 happ; have S3 := HS2.out.app 1 rfl happ; have x2 : w3.cell? ⟨w.heap.size, 2, none⟩ = some (.bool ck) := S3.cell 0 rfl 2 rfl; clear happ own1 HS2 r')
      have own3 := S3.own 1 rfl
      obtain ⟨g, rfl, hg1, hg2, hnc, hcm⟩ := own3.form (by omega)
      have HS3 := Lib.hid S3
      have HD := Lib.hid hdn
      clear S3
      cases ck
      · go_wp2_with fail
        go_ret2
        exact ⟨_, _, c2, rfl, by unfold uPkt; rw [DL.out]; exact HS3.out.own 1 rfl, HS3.out.bel⟩
      · have hbd : BD 255 (uHead sp dp (8 + (dn : Int)) 0 ++ data) := (uHead_bd ⟨sp0, sp1⟩ ⟨dp0, dp1⟩ (by omega) (by omega)).append bd
        have hps : 0 ≤ wrPs s d (8 + (dn : Int)) ∧ wrPs s d (8 + (dn : Int)) ≤ 65535 := foldJ_bd _ (by omega) (by omega) (fun y hy => by simp at hy; omega)
        obtain ⟨p1, p2⟩ := hps
        go_wp2_with fail
        refine (pseudo_any s d 17 (8 + (dn : Int)) _ s0 s1 d0 d1 (by omega) (by omega) (by omega) (by omega)).mono ?_
        rintro e w4 ⟨rfl, hb4⟩
        have HS4 := Lib.hid (HS3.out.next hb4)
        rw [show foldJ 0 [s / 65536, s % 65536, d / 65536, d % 65536, 17, 8 + (dn : Int)] = wrPs s d (8 + (dn : Int)) from rfl]
        clear hb4 x2 own3
        go_wp2_with fail
        refine (over_any (wrPs s d (8 + (dn : Int))) p1 p2 _ (8 + dn) c2 (uHead sp dp (8 + (dn : Int)) 0 ++ data) _ (HS4.out.rd 1 rfl) hbd (by omega)).mono ?_
        rintro e w5 ⟨rfl, hb5⟩
        have HS5 := Lib.hid (HS4.out.next hb5)
        clear hb5 HS4
        go_wp2_with fail
        refine (never_any _ _).mono ?_
        rintro e w6 ⟨rfl, rfl⟩
        have hc := wrC_bd (data := data) ⟨sp0, sp1⟩ ⟨dp0, dp1⟩ (by rw [DL.out]; exact HD.out) ⟨s0, s1⟩ ⟨d0, d1⟩ bd
        have hcE : (if 65535 - stepJ (wrPs s d (8 + (dn : Int))) (sumOf (uHead sp dp (8 + (dn : Int)) 0 ++ data)) = 0 then 65535 else 65535 - stepJ (wrPs s d (8 + (dn : Int))) (sumOf (uHead sp dp (8 + (dn : Int)) 0 ++ data))) = wrC sp dp s d data := by
          unfold wrC neverZ; rw [DL.out]
        rw [hcE]
        obtain ⟨c, hcc⟩ : ∃ c, c = wrC sp dp s d data := ⟨_, rfl⟩
        rw [← hcc] at hc ⊢
        have HC := Lib.hid hcc
        obtain ⟨q1, q2⟩ := hc
        clear hcE hcc
        have x0 := (HS5.out.own 1 rfl).cell (i := 6) (by omega)
        have x1 := (HS5.out.own 1 rfl).cell (i := 7) (by omega)
        have z0 := (HS5.out.own 1 rfl).frozen 6
        have z1 := (HS5.out.own 1 rfl).frozen 7
        have T := (HS5.out.setO 1 rfl 6 (c / 256)).setO 1 rfl 7 (c % 256)
        have e1 : IntKind.u8.wrap (c / 256) = c / 256 := u8_in _ (by omega) (by omega)
        have e2 := u8_mod c
        have i1 : (6 : Int) < 8 + (dn : Int) := by omega
        have i2 : (7 : Int) < 8 + (dn : Int) := by omega
        have HT := Lib.hid T
        clear T
        go_wp2_with fail
        go_ret2
        refine ⟨_, _, c2, rfl, ?_, HT.out.bel⟩
        have := HT.out.own 1 rfl
        unfold uPkt
        rw [if_pos rfl, DL.out, ← HC.out]
        exact this

theorem uwrite_any (sp dp : Int) (ck : Bool) (s d : Int) (Ad : Option Addr) (dn dc : Nat) (data : List Int) (w : World) (h1 : 0 ≤ sp ∧ sp ≤ 65535) (h2 : 0 ≤ dp ∧ dp ≤ 65535) (hs : 0 ≤ s ∧ s ≤ 4294967295) (hd : 0 ≤ d ∧ d ≤ 4294967295)
    (rd : RD .u8 w w.heap.size Ad dn data) (bd : BD 255 data) (hdn : dn ≤ 140737488351232) :
    Calls Try.prog 14 #[.agg #[.int .u16 sp, .int .u16 dp, .bool ck], .int .u32 s, .int .u32 d, .slice Ad dn dc] w (UWroteP w (uwB sp dp ck s d data) (uwE dp dn)) := by
  have hl := rd.len
  by_cases hw : UWrong dp dn
  · refine (uwrite_no sp dp ck s d Ad dn dc w h2.1 hdn hw).mono ?_
    rintro e w' ⟨rfl, hb⟩
    exact ⟨none, 0, 0, by rw [uwE, if_pos hw], by rw [uwB, hl, if_pos hw]; exact OWN.nil, hb⟩
  · refine (uwrite_yes sp dp ck s d Ad dn dc data w h1 h2 hs hd rd bd hw).mono ?_
    rintro e w' ⟨A', n', c', rfl, ho, hb⟩
    exact ⟨A', n', c', by rw [uwE, if_neg hw], by rw [uwB, hl, if_neg hw]; exact ho, hb⟩
end Go.Proofs.Ytnocbpagdoihmaa
