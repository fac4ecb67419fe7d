import Derived.WalkKit
import Derived.Lib.Hide
import Derived.Below
import Derived.Laws.OwnMore
import Derived.Deep.AppendLies
import Derived.Deep.Draws
import Derived.Maps.AppendAt
import Derived.OwnWalk
import Derived.RegionTactic
import Derived.Laws.Rows
import Derived.Laws.Tables
import Derived.Deep.RegionHeld3
import Derived.Deep.DrawnRows
import Derived.BigFrame
import Derived.ProofKit
import Derived.OpenShut
import Derived.RangeFuncNested
import Derived.RangeFuncBound
import Derived.RangeFuncCalls
import Derived.RangeFuncLeaves
import Derived.Shelf.Abstract
import Derived.Shelf.RegionOpen
import Derived.OwnWalkIn
import Derived.TacticsInMore
import Derived.LoopNIn
import Derived.LoopIn
import Derived.WalkSpells
import Derived.Deep.QuietTactic
import Derived.BigQuiet
import Derived.Laws.BitsLemmas
import Derived.Laws.BitsAllLaws
import Derived.Outline
import Derived.Laws.CopyOwn
import Derived.Deep.RegionLaw
import Derived.Laws.MakeOwn
import Derived.Laws.ResultCell
import Derived.Deep.MidRow
import Derived.Laws.EntriesVeiled
import Derived.BigRegion
import Derived.Deep.DeepCutAuto
import Derived.Test.YtljbfnabnkkfeaaProg
import Derived.Test.YtljbfnabnkkfeaaTL01
import Derived.Test.YtljbfnabnkkfeaaTL02
import Derived.Test.YtljbfnabnkkfeaaTL03
import Derived.Test.YtljbfnabnkkfeaaTL04
import Derived.Test.YtljbfnabnkkfeaaTL05
/- Joined by program: WIpWrite, WIpHop, Dag, Cuts. -/
namespace Go.Proofs.Ytljbfnabnkkfeaa
open Go.RowKit
set_option linter.unusedVariables false
set_option maxHeartbeats 1000000 in
set_option maxRecDepth 100000 in
theorem write_no (h : HD) (A : Option Addr) (n c : Nat) (Ad : Option Addr) (dn dc : Nat) (w : World) (h64 : -9223372036854775808 ≤ h.off ∧ h.off ≤ 9223372036854775807) (hn : n ≤ 140737488355328) (hdn : dn ≤ 140737488355328) (hr : ¬ Rightly h.off h.mf n dn) :
    Calls Try.prog 22 #[h.val (.slice A n c), .slice Ad dn dc] w fun e w' => e = .returned (.tuple #[.slice none 0 0, .int .i64 2]) ∧ Below w.heap.size w w' := by
  unfold HD.val HD.cells
  go_enter Try.func22, Try.ntmps22
  go_wp2_with fail
  refine (right_no h A n c dn _ h64 (by omega) hn hr).mono ?_
  rintro e w1 ⟨rfl, hb⟩
  go_wp2_with fail
  go_ret2
  exact ⟨rfl, ((Below.refl _ w).alloc (Nat.le_refl _) _).trans (hb.mono (by simp))⟩
structure WS (w0 : World) (N G : Nat) (h : HD) (A : Option Addr) (n c : Nat) (opts : List Int) (Ad : Option Addr) (dn : Nat) (data : List Int) (zs : List Int) (w : World) : Prop where
  own : OWN .u8 5 w G (some ⟨G, 0, none⟩) (20 + n) (20 + n + dn) zs
  hd : BLOCK w N 49 (h.cells (.slice A n c))
  bel : Below N w0 w
  ro : RD .u8 w N A n opts
  rd : RD .u8 w N Ad dn data
  lt : N < G
theorem WS.next {w0 w w' : World} {N G : Nat} {h : HD} {A : Option Addr} {n c : Nat} {opts : List Int} {Ad : Option Addr} {dn : Nat} {data zs zs' : List Int} (H : WS w0 N G h A n c opts Ad dn data zs w)
    (ho : OWN .u8 5 w' G (some ⟨G, 0, none⟩) (20 + n) (20 + n + dn) zs') (hb : Below G w w') : WS w0 N G h A n c opts Ad dn data zs' w' :=
  ⟨ho, H.hd.below hb H.lt, H.bel.trans (hb.mono (Nat.le_of_lt H.lt)), H.ro.below (hb.mono (Nat.le_of_lt H.lt)), H.rd.below (hb.mono (Nat.le_of_lt H.lt)), H.lt⟩
theorem WS.more {w0 w : World} {N G : Nat} {h : HD} {A : Option Addr} {n c : Nat} {opts : List Int} {Ad : Option Addr} {dn : Nat} {data zs : List Int} (H : WS w0 N G h A n c opts Ad dn data zs w) : N ≤ w.heap.size := Nat.le_of_lt H.hd.lt
set_option maxHeartbeats 4000000 in
set_option maxRecDepth 100000 in
theorem write_yes (h : HD) (A : Option Addr) (n c : Nat) (opts : List Int) (Ad : Option Addr) (dn dc : Nat) (data : List Int) (w : World) (hwf : h.WF) (ro : RD .u8 w w.heap.size A n opts) (bo : BD 255 opts) (rd : RD .u8 w w.heap.size Ad dn data) (hr : Rightly h.off h.mf n dn) :
    Calls Try.prog 22 #[h.val (.slice A n c), .slice Ad dn dc] w (Fixed w (pktB h opts data)) := by
  obtain ⟨i0, hi, hz0, hz1, hz2⟩ := info_parts infoU8
  have RL := Lib.hid ro.len
  have DL := Lib.hid rd.len
  have hq := hr
  obtain ⟨r1, r2, r3, r4, r5, r6, r7, r8, r9⟩ := hr
  have hb0 : Below w.heap.size w (w.alloc (.cells (h.cells (.slice A n c)) 49)) := (Below.refl _ w).alloc (Nat.le_refl _) _
  have hB0 : BLOCK (w.alloc (.cells (h.cells (.slice A n c)) 49)) w.heap.size 49 (h.cells (.slice A n c)) := BLOCK.new w _ _
  have hs0 : (w.alloc (.cells (h.cells (.slice A n c)) 49)).heap.size = w.heap.size + 1 := by simp
  unfold HD.val
  go_enter Try.func22, Try.ntmps22
  unfold HD.cells
  go_wp2_with fail
  refine (right_yes h A n c dn _ hq).mono ?_
  rintro e w1 ⟨rfl, hb⟩
  have hB1 : BLOCK w1 w.heap.size 49 (h.cells (.slice A n c)) := hB0.next hb
  have hb1 : Below w.heap.size w w1 := hb0.trans (hb.mono hb0.size)
  have hs1 : w.heap.size + 1 ≤ w1.heap.size := hB1.lt
  clear hb hb0 hB0 hs0
  have f9 : w1.cell? ⟨w.heap.size, 9, none⟩ = some (.slice A n c) := hB1.cell 9
  have f0 : w1.cell? ⟨w.heap.size, 0, none⟩ = some (.int .u8 h.tos) := hB1.cell 0
  have f5 : w1.cell? ⟨w.heap.size, 5, none⟩ = some (.int .u8 h.ttl) := hB1.cell 5
  have f6 : w1.cell? ⟨w.heap.size, 6, none⟩ = some (.int .u8 h.proto) := hB1.cell 6
  obtain ⟨w2, hrun, own2, hb2, hs2⟩ := run_make_cap (P := Try.prog) (k := .u8) w1 23 i0 Try.underlying23 hi hz0 hz1 (by omega) (20 + (n : Int)) (20 + (n : Int) + (dn : Int)) (20 + n) (20 + n + dn) (by omega) (by omega) (by omega) (by omega)
  have hN := hs1
  generalize hG : w1.heap.size = G at *
  have hB2 : BLOCK w2 w.heap.size 49 (h.cells (.slice A n c)) := hB1.below hb2 (by omega)
  have HBel : Below w.heap.size w w2 := hb1.trans (hb2.mono (by omega))
  go_wp2_with fail
  clear hrun f9 f0 f5 f6
  have f0 : w2.cell? ⟨w.heap.size, 0, none⟩ = some (.int .u8 h.tos) := hB2.cell 0
  have f5 : w2.cell? ⟨w.heap.size, 5, none⟩ = some (.int .u8 h.ttl) := hB2.cell 5
  have f6 : w2.cell? ⟨w.heap.size, 6, none⟩ = some (.int .u8 h.proto) := hB2.cell 6
  have y0 := own2.cell (i := 0) (by omega)
  have y1 := own2.cell (i := 1) (by omega)
  have y8 := own2.cell (i := 8) (by omega)
  have y9 := own2.cell (i := 9) (by omega)
  have z0 := own2.frozen 0
  have z1 := own2.frozen 1
  have z8 := own2.frozen 8
  have z9 := own2.frozen 9
  obtain ⟨q, hq4⟩ : ∃ q : Nat, n + 20 = 4 * q := ⟨(n + 20) / 4, by omega⟩
  have m1 : (20 + (n : Int)).tdiv 4 = (q : Int) := by rw [Int.tdiv_eq_ediv_of_nonneg (by omega)]; omega
  have m2 : IntKind.i64.wrap (q : Int) = (q : Int) := IntWalk.i64_in _ (by omega)
  have m3 : bits .or .i64 64 (q : Int) = 64 + (q : Int) := i64_or_64 _ (by omega) (by omega)
  have m4 : IntKind.u8.wrap (64 + (q : Int)) = 64 + (q : Int) := u8_in _ (by omega) (by omega)
  have i0 : (0 : Int) < 20 + (n : Int) := by omega
  have i1 : (1 : Int) < 20 + (n : Int) := by omega
  have i8 : (8 : Int) < 20 + (n : Int) := by omega
  have i9 : (9 : Int) < 20 + (n : Int) := by omega
  have HKK := Lib.hid (fun (W' : World) (he : EXC w2 G W') => (show EXC w2 G W' ∧ W'.cell? ⟨w.heap.size, 0, none⟩ = some (.int .u8 h.tos) ∧ W'.cell? ⟨w.heap.size, 5, none⟩ = some (.int .u8 h.ttl) ∧ W'.cell? ⟨w.heap.size, 6, none⟩ = some (.int .u8 h.proto) from
    ⟨he, (he.block hB2 (by omega)).cell 0, (he.block hB2 (by omega)).cell 5, (he.block hB2 (by omega)).cell 6⟩))
  have HQ := Lib.hid hq4
  have HQ2 := Lib.hid hq
  clear hq4 hq r1 r5
  go_region_held3 (fun W' => EXC w2 G W' ∧ W'.cell? ⟨w.heap.size, 0, none⟩ = some (.int .u8 h.tos) ∧ W'.cell? ⟨w.heap.size, 5, none⟩ = some (.int .u8 h.ttl) ∧ W'.cell? ⟨w.heap.size, 6, none⟩ = some (.int .u8 h.proto))
    ((with_reducible refine HKK.out _ ?_; (repeat' (first | (with_reducible exact EXC.refl _ _) | (with_reducible refine EXC.drew ?_) | (with_reducible refine EXC.setCell ?_ (by rfl) _))))) (fail)
  clear f0 f5 f6 y0 y1 y8 y9 z0 z1 z8 z9 m1 m2 m3 m4 i0 i1 i8 i9
  have hws : WS w w.heap.size G h A n c opts Ad dn data ((((List.replicate (20 + n) 0).set 0 (64 + (q : Int))).set 1 h.tos).set 8 h.ttl |>.set 9 h.proto) (((((w2.setCell ⟨G, 0, none⟩ (.int .u8 (64 + (q : Int)))).setCell ⟨G, 1, none⟩ (.int .u8 h.tos)).setCell ⟨G, 8, none⟩ (.int .u8 h.ttl)).setCell ⟨G, 9, none⟩ (.int .u8 h.proto)).drew) := by
    have hws0 : WS w w.heap.size G h A n c opts Ad dn data (List.replicate (20 + n) 0) w2 := ⟨own2, hB2, HBel, ro.below HBel, rd.below HBel, hN⟩
    refine hws0.next (((((own2.stored 0 _).stored 1 _).stored 8 _).stored 9 _).drewN 1) ?_
    exact (((((Below.refl G w2).setCell (p := ⟨G, 0, none⟩) (Nat.le_refl _) _).setCell (p := ⟨G, 1, none⟩) (Nat.le_refl _) _).setCell (p := ⟨G, 8, none⟩) (Nat.le_refl _) _).setCell (p := ⟨G, 9, none⟩) (Nat.le_refl _) _).drew
  clear own2 hB2 HBel HKK hb1 hB1 hs1 hb2 hs2 ro rd
  have u1 : IntKind.u32.wrap (20 + (n : Int) + (dn : Int)) = 20 + (n : Int) + (dn : Int) := u32_in _ (by omega) (by omega)
  have id1 := hwf.id
  have sr1 := hwf.src
  have ds1 := hwf.dst
  have fl := flagsW_bd HQ2.out
  go_wp2_with fail
  refine (put_any G _ _ G _ 2 2 _ _ _ _ hws.own (by omega) rfl rfl (by omega) (by omega) (by omega)).mono ?_
  rintro e w4 ⟨rfl, own4, hb4⟩
  replace hws := hws.next own4 hb4
  clear own4 hb4
  have f1 : w4.cell? ⟨w.heap.size, 1, none⟩ = some (.int .u16 h.id) := hws.hd.cell 1
  have u2 : IntKind.u32.wrap h.id = h.id := u32_in _ (by omega) (by omega)
  go_wp2_with fail
  refine (put_any G _ _ G _ 4 2 _ _ _ _ hws.own (by omega) rfl rfl (by omega) (by omega) (by omega)).mono ?_
  rintro e w5 ⟨rfl, own4, hb4⟩
  replace hws := hws.next own4 hb4
  clear own4 hb4 f1 u2
  have f2 : w5.cell? ⟨w.heap.size, 2, none⟩ = some (.bool h.df) := hws.hd.cell 2
  have f3 : w5.cell? ⟨w.heap.size, 3, none⟩ = some (.bool h.mf) := hws.hd.cell 3
  have f4 : w5.cell? ⟨w.heap.size, 4, none⟩ = some (.int .i64 h.off) := hws.hd.cell 4
  have u2 : IntKind.u32.wrap (h.off / 8) = h.off / 8 := u32_in _ (by omega) (by omega)
  have u3 : bits .or .u32 (h.off / 8) 16384 = h.off / 8 + 16384 := u32_or_df _ (by omega) (by omega)
  go_upto_if 63 with fail
  go_cut [9] (fun s9 wx => wx = w5 ∧ s9 = .int .u32 (h.off / 8 + if h.df then 16384 else 0))
  case first =>
    go_wp2_with fail
    all_goals
      go_meet
      exact ⟨rfl, by first | (have e : h.df = true := by assumption
                              rw [e]; simp; done) | (have e : h.df = false := by (first | assumption | simpa using ‹¬ h.df = true›)
                                                     rw [e]; simp)⟩
  case rest =>
    obtain ⟨rfl, rfl⟩ := hcut
    have u5 := u32_or_mf (h.off / 8) (by omega) (by omega) h.df
    clear u3
    go_upto_if 67 with fail
    go_cut [9] (fun s9 wx => wx = wc ∧ s9 = .int .u32 (flagsW h))
    case first =>
      have hfl : flagsW h = h.off / 8 + (if h.df then 16384 else 0) + (if h.mf then 8192 else 0) := rfl
      have HFL := Lib.hid hfl
      clear hfl
      generalize h.off / 8 + (if h.df then 16384 else 0) = v at *
      go_wp2_with fail
      all_goals
        go_meet
        exact ⟨rfl, by first | (have e : h.mf = true := by assumption
                                rw [HFL.out, e]; simp; done) | (have e : h.mf = false := by (first | assumption | simpa using ‹¬ h.mf = true›)
                                                                rw [HFL.out, e]; simp)⟩
    obtain ⟨rfl, rfl⟩ := hcut
    clear f2 f3 f4 u2 u5
    go_wp2_with fail
    refine (put_any G _ _ G _ 6 2 _ _ _ _ hws.own (by omega) rfl rfl (by omega) (by omega) (by omega)).mono ?_
    rintro e w6 ⟨rfl, own4, hb4⟩
    replace hws := hws.next own4 hb4
    clear own4 hb4
    have f7 : w6.cell? ⟨w.heap.size, 7, none⟩ = some (.int .u32 h.src) := hws.hd.cell 7
    go_wp2_with fail
    refine (put_any G _ _ G _ 12 4 _ _ _ _ hws.own (by omega) rfl rfl (by omega) (by omega) (by omega)).mono ?_
    rintro e w7 ⟨rfl, own4, hb4⟩
    replace hws := hws.next own4 hb4
    clear own4 hb4 f7
    have f8 : w7.cell? ⟨w.heap.size, 8, none⟩ = some (.int .u32 h.dst) := hws.hd.cell 8
    go_wp2_with fail
    refine (put_any G _ _ G _ 16 4 _ _ _ _ hws.own (by omega) rfl rfl (by omega) (by omega) (by omega)).mono ?_
    rintro e w8 ⟨rfl, own4, hb4⟩
    replace hws := hws.next own4 hb4
    clear own4 hb4 f8
    have f9 : w8.cell? ⟨w.heap.size, 9, none⟩ = some (.slice A n c) := hws.hd.cell 9
    have hwd : WS w w.heap.size G h A n c opts Ad dn data _ w8.drew := hws.next (hws.own.drewN 1) (Below.refl _ _).drew
    have s1 := fun W => run_slice_lo (P := Try.prog) W Try.underlying23 hi hz1 (some ⟨G, 0, none⟩) (20 + n) (20 + n + dn) 20 20 rfl (by omega)
    have hsz1 : (Try.prog.info? 5).map (·.size) = some 1 := by rw [hi]; exact congrArg some hz1
    go_wp2_with fail
    go_region_held3 (fun W' => W'.cell? ⟨w.heap.size, 9, none⟩ = some (.slice A n c)) (first | assumption | exact hws9.hd.cell 9)
      ((refine step_copy_rd rfl (.tmp 82) (.tmp 84) 23 23 rfl Try.underlying23 hsz1 hwd.own (lo := 20) (by omega) (by rfl) (by omega) (by rfl) hwd.ro (by omega) ?_; intro w9 own9 hb9; have hws9 := hwd.next own9 hb9; clear own9 hb9))
    have ro_len := RL.out
    have rd_len := DL.out
    have e20 : (((20 + n : Nat) : Int)) = 20 + (n : Int) := by omega
    have hq' : (20 + (n : Int)) / 4 = (q : Int) := by have := HQ.out; omega
    have hz9 : spliceZ (putB (putB (putB (putB (putB (((((List.replicate (20 + n) 0).set 0 (64 + (q : Int))).set 1 h.tos).set 8 h.ttl).set 9 h.proto) 2 2 (20 + (n : Int) + (dn : Int))) 4 2 h.id) 6 2 (flagsW h)) 12 4 h.src) 16 4 h.dst) 20 opts = headB h opts data.length := by
      rw [← made20_eq, ro_len, rd_len]
      unfold made20
      rw [e20, hq']
    rw [hz9] at hws9
    have HD9 := Lib.hid hws9
    have own9 := hws9.own
    have hbd9 := headB_bd (L := data.length) hwf bo (by rw [ro_len]; exact r4)
    have hsz9 := hws9.more
    clear hz9 e20 hq' hws hwd hws9 s1 f9
    go_wp2_with fail
    refine (fix_any _ (20 + n) (20 + n + dn) (headB h opts data.length) 10 10 _ own9.rd hbd9 (by omega) rfl rfl (by omega)).mono ?_
    rintro e w10 ⟨A1, n1, c1, rfl, own1, hb1⟩
    have hB10 : Below w.heap.size w w10 := HD9.out.bel.trans (hb1.mono hsz9)
    have rd10 : RD .u8 w10 w.heap.size Ad dn data := HD9.out.rd.below (hb1.mono hsz9)
    have hl1 := own1.len
    rw [fixOf_len, headB_len, ro_len] at hl1
    subst hl1
    replace own1 := own1.mono (base' := w.heap.size) hsz9
    have hc1 := own1.le
    go_wp2_with (at_builtin; refine wpList_append_rd _ rfl _ _ _ rfl .u8 w.heap.size 5 i0 1 Try.underlying23 hi hz0 hz1 hz2 A1 (20 + n) c1 (fixOf (headB h opts data.length) 10) rfl own1 w.heap.size Ad dn dc data rfl rd10 (by simp only [maxLen]; omega) (by omega) hB10.size ?_; intro A2 c2 w11 happ)
    go_ret2
    exact ⟨A2, _, c2, rfl, happ.own, hB10.trans (happ.keepBelow (fun g hg => by
      rcases own1.cases with ⟨rfl, _⟩ | ⟨g', rfl, hg', _⟩
      · simp at hg
      · simp at hg; subst hg; exact hg') hB10.size)⟩
end Go.Proofs.Ytljbfnabnkkfeaa
namespace Go.Proofs.Ytljbfnabnkkfeaa
open Go.RowKit
set_option linter.unusedVariables false
def wrE (h : HD) (ol dl : Nat) : Int := if Rightly h.off h.mf ol dl then 0 else 2
def wrB (h : HD) (opts data : List Int) : List Int := if Rightly h.off h.mf opts.length data.length then pktB h opts data else []
def WroteP (w : World) (zs : List Int) (er : Int) (e : Ending) (w' : World) : Prop :=
  ∃ A n c, e = .returned (.tuple #[.slice A n c, .int .i64 er]) ∧ OWN .u8 5 w' w.heap.size A n c zs ∧ Below w.heap.size w w'
theorem write_any (h : HD) (A : Option Addr) (n c : Nat) (opts : List Int) (Ad : Option Addr) (dn dc : Nat) (data : List Int) (w : World) (hwf : h.WF) (ro : RD .u8 w w.heap.size A n opts) (bo : BD 255 opts) (rd : RD .u8 w w.heap.size Ad dn data) (hn : n ≤ 140737488355328) (hdn : dn ≤ 140737488355328) :
    Calls Try.prog 22 #[h.val (.slice A n c), .slice Ad dn dc] w (WroteP w (wrB h opts data) (wrE h n dn)) := by
  have h1 := ro.len
  have h2 := rd.len
  by_cases hr : Rightly h.off h.mf n dn
  · refine (write_yes h A n c opts Ad dn dc data w hwf ro bo rd hr).mono ?_
    rintro e w' ⟨A', n', c', rfl, ho, hb⟩
    exact ⟨A', n', c', by rw [wrE, if_pos hr], by rw [wrB, h1, h2, if_pos hr]; exact ho, hb⟩
  · refine (write_no h A n c Ad dn dc w hwf.off hn hdn hr).mono ?_
    rintro e w' ⟨rfl, hb⟩
    exact ⟨none, 0, 0, by rw [wrE, if_neg hr], by rw [wrB, h1, h2, if_neg hr]; exact OWN.nil, hb⟩
set_option maxHeartbeats 400000 in
theorem ipRight_any (h : HD) (A : Option Addr) (n c : Nat) (q : Int) (w : World) (h64 : -9223372036854775808 ≤ h.off ∧ h.off ≤ 9223372036854775807) (hq : -9223372036854775808 ≤ q ∧ q ≤ 9223372036854775807) (hn : n ≤ 140737488355328) :
    Calls Try.prog 70 #[h.val (.slice A n c), .int .i64 q] w fun e w' => e = .returned (.bool (rightB h.off h.mf n q)) ∧ Below w.heap.size w w' := by
  unfold HD.val HD.cells
  go_enter Try.func70, Try.ntmps70
  go_wp2_with fail
  refine (right_any5 h A n c q _ h64 hq hn).mono ?_
  rintro e w' ⟨rfl, hb⟩
  go_wp2_with fail
  go_ret
  exact ⟨rfl, ((Below.refl _ w).alloc (Nat.le_refl _) _).trans (hb.mono (by simp))⟩
end Go.Proofs.Ytljbfnabnkkfeaa
namespace Go.Proofs.Ytljbfnabnkkfeaa
open Go.RowKit
set_option linter.unusedVariables false
def regOps (k : Nat) : Code → Option (Array Oper)
  | .region id ops _ => if id == k then some ops else none
  | .seq a b => match regOps k a with
    | some o => some o
    | none => regOps k b
  | .cond _ a b => match regOps k a with
    | some o => some o
    | none => regOps k b
  | .block _ c => regOps k c
  | .loop c => regOps k c
  | .scope c => regOps k c
  | .rangeFunc _ _ a b => match regOps k a with
    | some o => some o
    | none => regOps k b
  | _ => none
noncomputable def opsAt (f : Func) (k : Nat) : Array Oper := (f.body.bind (regOps k)).getD #[]
theorem nameW' {K : Act → World → Prop} {a : Act} {W : World} (h : ∀ W', W' = W → K a W') : K a W := h W rfl
end Go.Proofs.Ytljbfnabnkkfeaa
namespace Go.Proofs.Ytljbfnabnkkfeaa
open Go.RowKit
set_option linter.unusedVariables false
def findLoop (r : Nat) : Code → Option Code
  | .loop c => if (regOps r c).isSome then some (.loop c) else none
  | .seq a b => match findLoop r a with
    | some o => some o
    | none => findLoop r b
  | .cond _ a b => match findLoop r a with
    | some o => some o
    | none => findLoop r b
  | .block _ c => findLoop r c
  | .scope c => findLoop r c
  | .rangeFunc _ _ a b => match findLoop r a with
    | some o => some o
    | none => findLoop r b
  | _ => none
noncomputable def loopAt (f : Func) (r : Nat) : Code := (f.body.bind (findLoop r)).getD .skip
def findCond (t : Nat) : Code → Option Code
  | .cond (.tmp u) a b => if u == t then some (.cond (.tmp u) a b) else match findCond t a with
    | some o => some o
    | none => findCond t b
  | .cond _ a b => match findCond t a with
    | some o => some o
    | none => findCond t b
  | .seq a b => match findCond t a with
    | some o => some o
    | none => findCond t b
  | .block _ c => findCond t c
  | .loop c => findCond t c
  | .scope c => findCond t c
  | .rangeFunc _ _ a b => match findCond t a with
    | some o => some o
    | none => findCond t b
  | _ => none
noncomputable def condAt (f : Func) (t : Nat) : Code := (f.body.bind (findCond t)).getD .skip
def findReg (r : Nat) : Code → Option Code
  | .region id ops d => if id == r then some (.region id ops d) else none
  | .seq a b => match findReg r a with
    | some o => some o
    | none => findReg r b
  | .cond _ a b => match findReg r a with
    | some o => some o
    | none => findReg r b
  | .block _ c => findReg r c
  | .loop c => findReg r c
  | .scope c => findReg r c
  | .rangeFunc _ _ a b => match findReg r a with
    | some o => some o
    | none => findReg r b
  | _ => none
noncomputable def regAt (f : Func) (r : Nat) : Code := (f.body.bind (findReg r)).getD .skip
end Go.Proofs.Ytljbfnabnkkfeaa
