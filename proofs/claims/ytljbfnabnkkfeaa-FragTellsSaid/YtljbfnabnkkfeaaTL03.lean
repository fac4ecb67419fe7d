import Derived.WalkKit
import Derived.Lib.Hide
import Derived.Below
import Derived.Laws.OwnMore
import Derived.Deep.AppendLies
import Derived.Deep.Draws
import Derived.Maps.AppendAt
import Derived.OwnWalk
import Derived.RegionTactic
import Derived.Laws.Rows
import Derived.Laws.Tables
import Derived.Deep.RegionHeld3
import Derived.Deep.DrawnRows
import Derived.BigFrame
import Derived.ProofKit
import Derived.OpenShut
import Derived.Laws.BitsLemmas
import Derived.Laws.BitsAllLaws
import Derived.RangeFuncNested
import Derived.RangeFuncBound
import Derived.RangeFuncCalls
import Derived.RangeFuncLeaves
import Derived.Shelf.Abstract
import Derived.Shelf.RegionOpen
import Derived.OwnWalkIn
import Derived.TacticsInMore
import Derived.LoopNIn
import Derived.LoopIn
import Derived.WalkSpells
import Derived.Deep.QuietTactic
import Derived.BigQuiet
import Derived.Outline
import Derived.Laws.CopyOwn
import Derived.Deep.RegionLaw
import Derived.Laws.MakeOwn
import Derived.Deep.DeepCutAuto
import Derived.Deep.MidRow
import Derived.Maps.Keyed
import Derived.DeepKeys3
import Derived.DeepKeys4
import Derived.Test.YtljbfnabnkkfeaaProg
import Derived.Test.YtljbfnabnkkfeaaTL01
import Derived.Test.YtljbfnabnkkfeaaTL02
/- Joined by program: IpP, WIp2, WCopy, IpW, FgP, FgG, FgMap. -/
namespace Go.Proofs.Ytljbfnabnkkfeaa
open Go.RowKit
structure HD where
  tos : Int
  id : Int
  df : Bool
  mf : Bool
  off : Int
  ttl : Int
  proto : Int
  src : Int
  dst : Int
def HD.zero : HD := ⟨0, 0, false, false, 0, 0, 0, 0, 0⟩
def HD.cells (h : HD) (o : Value) : Array Value := #[.int .u8 h.tos, .int .u16 h.id, .bool h.df, .bool h.mf, .int .i64 h.off, .int .u8 h.ttl, .int .u8 h.proto, .int .u32 h.src, .int .u32 h.dst, o]
def HD.val (h : HD) (o : Value) : Value := .agg (h.cells o)
structure HD.WF (h : HD) : Prop where
  tos : 0 ≤ h.tos ∧ h.tos ≤ 255
  id : 0 ≤ h.id ∧ h.id ≤ 65535
  off : -9223372036854775808 ≤ h.off ∧ h.off ≤ 9223372036854775807
  ttl : 0 ≤ h.ttl ∧ h.ttl ≤ 255
  proto : 0 ≤ h.proto ∧ h.proto ≤ 255
  src : 0 ≤ h.src ∧ h.src ≤ 4294967295
  dst : 0 ≤ h.dst ∧ h.dst ≤ 4294967295
theorem HD.WF.zero : HD.WF HD.zero := ⟨by simp [HD.zero], by simp [HD.zero], by simp [HD.zero], by simp [HD.zero], by simp [HD.zero], by simp [HD.zero], by simp [HD.zero]⟩
def Rightly (off : Int) (mf : Bool) (ol : Nat) (n : Int) : Prop := off % 8 = 0 ∧ 0 ≤ off ∧ off ≤ 65528 ∧ ol ≤ 40 ∧ ol % 4 = 0 ∧ 0 ≤ n ∧ 20 + (ol : Int) + n ≤ 65535 ∧ off + n ≤ 65515 ∧ (mf = true → 0 < n ∧ n % 8 = 0)
instance (off : Int) (mf : Bool) (ol : Nat) (n : Int) : Decidable (Rightly off mf ol n) := by unfold Rightly; infer_instance
def rightB (off : Int) (mf : Bool) (ol : Nat) (n : Int) : Bool := decide (Rightly off mf ol n)
theorem rightB_yes {off : Int} {mf : Bool} {ol : Nat} {n : Int} (h : Rightly off mf ol n) : rightB off mf ol n = true := decide_eq_true h
theorem rightB_no {off : Int} {mf : Bool} {ol : Nat} {n : Int} (h : ¬ Rightly off mf ol n) : rightB off mf ol n = false := decide_eq_false h
theorem rightB_iff {off : Int} {mf : Bool} {ol : Nat} {n : Int} : rightB off mf ol n = true ↔ Rightly off mf ol n := decide_eq_true_iff
def byteAt (zs : List Int) (i : Nat) : Int := zs[i]?.getD 0
def longAt (zs : List Int) (i : Nat) : Int := wordAt zs i * 65536 + wordAt zs (i + 2)
theorem longAt_bd {zs : List Int} (h : BD 255 zs) (i : Nat) : 0 ≤ longAt zs i ∧ longAt zs i ≤ 4294967295 := by
  have h1 := wordAt_bd h i
  have h2 := wordAt_bd h (i + 2)
  unfold longAt; omega
def sizeR (zs : List Int) : Nat := 4 * (byteAt zs 0 % 16).toNat
def totalR (zs : List Int) : Nat := (wordAt zs 2).toNat
def hdOf (zs : List Int) : HD where
  tos := byteAt zs 1
  id := wordAt zs 4
  df := decide (wordAt zs 6 / 16384 % 2 = 1)
  mf := decide (wordAt zs 6 / 8192 % 2 = 1)
  off := 8 * (wordAt zs 6 % 8192)
  ttl := byteAt zs 8
  proto := byteAt zs 9
  src := longAt zs 12
  dst := longAt zs 16
def optsOf (zs : List Int) : List Int := (zs.drop 20).take (sizeR zs - 20)
theorem hdOf_wf {zs : List Int} (h : BD 255 zs) : (hdOf zs).WF := by
  have b1 := h.get (by omega) 1
  have b2 := h.get (by omega) 8
  have b3 := h.get (by omega) 9
  have b4 := wordAt_bd h 4
  have b5 := longAt_bd h 12
  have b6 := longAt_bd h 16
  have b7 := wordAt_bd h 6
  exact ⟨b1, b4, by simp only [hdOf]; omega, b2, b3, b5, b6⟩
def faultR (zs : List Int) : Nat :=
  if zs.length < 20 then 0
  else if byteAt zs 0 / 16 ≠ 4 then 1
  else if sizeR zs < 20 ∨ zs.length < sizeR zs then 2
  else if totalR zs < sizeR zs ∨ zs.length < totalR zs then 3
  else if sumOf (zs.take (sizeR zs)) ≠ 65535 then 4
  else if 32768 ≤ wordAt zs 6 then 5
  else if rightB (hdOf zs).off (hdOf zs).mf (sizeR zs - 20) ((totalR zs : Int) - sizeR zs) = false then 6
  else 7
def ipE (zs : List Int) : Int := if faultR zs = 7 then 0 else 50 + faultR zs
def hdR (zs : List Int) : HD := if faultR zs = 7 then hdOf zs else HD.zero
def optsR (zs : List Int) : List Int := if faultR zs = 7 then optsOf zs else []
def fromR (zs : List Int) : Nat := if faultR zs = 7 then sizeR zs else 0
def toR (zs : List Int) : Nat := if faultR zs = 7 then totalR zs else 0
theorem faultR_le (zs : List Int) : faultR zs ≤ 7 := by
  unfold faultR
  repeat' split
  all_goals omega
theorem nat_and_pow (n i : Nat) : n &&& 2 ^ i = n / 2 ^ i % 2 * 2 ^ i := by
  have hb : n.testBit i = decide (n / 2 ^ i % 2 = 1) := Nat.testBit_eq_decide_div_mod_eq
  rcases Nat.mod_two_eq_zero_or_one (n / 2 ^ i) with h | h
  · rw [h] at hb ⊢
    apply Nat.eq_of_testBit_eq
    intro j
    rw [Nat.testBit_and, Nat.testBit_two_pow]
    by_cases e : i = j
    · subst e; simp [hb]
    · simp [e]
  · rw [h] at hb ⊢
    apply Nat.eq_of_testBit_eq
    intro j
    rw [Nat.testBit_and, Nat.one_mul, Nat.testBit_two_pow]
    by_cases e : i = j
    · subst e; simp [hb]
    · simp [e]
theorem i64_and_one (a : Int) (h0 : 0 ≤ a) (h1 : a < 65536) (i : Nat) (hi : i < 16) : bits .and .i64 a (2 ^ i) = a / 2 ^ i % 2 * 2 ^ i := by
  obtain ⟨n, rfl⟩ := Int.eq_ofNat_of_zero_le h0
  have hw : ∀ n : Int, 0 ≤ n → n < 2 ^ 16 → IntKind.i64.wrap n = n := fun n h0 h1 => by rw [IntKind.wrap_i64]; omega
  have hp : (2 : Nat) ^ i < 2 ^ 16 := Nat.pow_lt_pow_right (by omega) hi
  have := (bits_nat .i64 16 (by decide) hw n (2 ^ i) (by omega) hp).1
  rw [show ((2 : Int) ^ i) = ((2 ^ i : Nat) : Int) by simp, this]
  rw [nat_and_pow]
  simp
theorem i64_and_low (a : Int) (h0 : 0 ≤ a) (h1 : a < 65536) (i : Nat) (hi : i ≤ 16) : bits .and .i64 a (2 ^ i - 1) = a % 2 ^ i :=
  bits_mask .i64 16 (by decide) (fun n h0 h1 => by rw [IntKind.wrap_i64]; omega) i hi a h0 (by omega)
theorem i64_or_byte (x y : Int) (hx0 : 0 ≤ x) (hx : x ≤ 255) (hy0 : 0 ≤ y) (hy : y ≤ 255) : bits .or .i64 (x * 256) y = x * 256 + y :=
  bits_join .i64 16 (by decide) (fun n h0 h1 => by rw [IntKind.wrap_i64]; omega) 8 (x * 256) y (by omega) (by omega) (by omega) (by omega) (by omega) (by omega)
theorem u32_or_word (x y : Int) (hx0 : 0 ≤ x) (hx : x ≤ 65535) (hy0 : 0 ≤ y) (hy : y ≤ 65535) : bits .or .u32 (x * 65536) y = x * 65536 + y :=
  bits_join .u32 32 (by decide) (fun n h0 h1 => by rw [IntKind.wrap_u32]; omega) 16 (x * 65536) y (by omega) (by omega) (by omega) (by omega) (by omega) (by omega)
end Go.Proofs.Ytljbfnabnkkfeaa
namespace Go.Proofs.Ytljbfnabnkkfeaa
open Go.RowKit
set_option linter.unusedVariables false
set_option maxHeartbeats 1000000 in
set_option maxRecDepth 100000 in
theorem word_any (A : Option Addr) (n c : Nat) (zs : List Int) (q : Int) (p : Nat) (w : World) (h : RD .u8 w w.heap.size A n zs) (hz : BD 255 zs) (hn : n ≤ 140737488355328) (hq : q = p) (hp : p + 2 ≤ n) :
    Calls Try.prog 46 #[.slice A n c, .int .i64 q] w fun e w' => e = .returned (.int .i64 (wordAt zs p)) ∧ ∃ m, w' = w.drewN m := by
  subst hq
  obtain ⟨b, off, rfl, hb, hc⟩ := h.2 (by omega)
  have x1 := hc p (by omega)
  have x2 := hc (p + 1) (by omega)
  obtain ⟨z1, z1'⟩ := hz.get (by omega) p
  obtain ⟨z2, z2'⟩ := hz.get (by omega) (p + 1)
  have hw : wordAt zs p = zs[p]?.getD 0 * 256 + zs[p + 1]?.getD 0 := rfl
  rw [hw]
  generalize zs[p]?.getD 0 = u at *
  generalize zs[p + 1]?.getD 0 = v at *
  clear hc hw
  have i1 : (0 : Int) ≤ (p : Int) := by omega
  have i2 : (p : Int) < (n : Int) := by omega
  have i3 : (0 : Int) ≤ (p : Int) + 1 := by omega
  have i4 : (p : Int) + 1 < (n : Int) := by omega
  have e1 : IntKind.i64.wrap ((p : Int) + 1) = (p : Int) + 1 := IntWalk.i64_in _ (by omega)
  have e1' : ((p : Int) + 1).toNat = p + 1 := by omega
  have e2 : IntKind.i64.wrap (u * 256) = u * 256 := IntWalk.i64_in _ (by omega)
  have e3 : IntKind.i64.wrap u = u := IntWalk.i64_in _ (by omega)
  have e4 : IntKind.i64.wrap v = v := IntWalk.i64_in _ (by omega)
  have e5 : bits .or .i64 (u * 256) v = u * 256 + v := i64_or_byte u v z1 z1' z2 z2'
  go_enter Try.func46, Try.ntmps46
  go_wp2_with fail
  go_quiet (fail)
  go_wp2_with fail
  go_ret
  exact ⟨rfl, _, rfl⟩
set_option maxHeartbeats 1000000 in
set_option maxRecDepth 100000 in
theorem long_any (A : Option Addr) (n c : Nat) (zs : List Int) (q : Int) (p : Nat) (w : World) (h : RD .u8 w w.heap.size A n zs) (hz : BD 255 zs) (hn : n ≤ 140737488355328) (hq : q = p) (hp : p + 4 ≤ n) :
    Calls Try.prog 74 #[.slice A n c, .int .i64 q] w fun e w' => e = .returned (.int .u32 (longAt zs p)) ∧ ∃ m, w' = w.drewN m := by
  subst hq
  obtain ⟨u1, u2⟩ := wordAt_bd hz p
  obtain ⟨v1, v2⟩ := wordAt_bd hz (p + 2)
  have e1 : IntKind.i64.wrap ((p : Int) + 2) = (p : Int) + 2 := IntWalk.i64_in _ (by omega)
  have e2 : IntKind.u32.wrap (wordAt zs p) = wordAt zs p := u32_in _ (by omega) (by omega)
  have e3 : IntKind.u32.wrap (wordAt zs (p + 2)) = wordAt zs (p + 2) := u32_in _ (by omega) (by omega)
  have e4 : IntKind.u32.wrap (wordAt zs p * 65536) = wordAt zs p * 65536 := u32_in _ (by omega) (by omega)
  have e5 : bits .or .u32 (wordAt zs p * 65536) (wordAt zs (p + 2)) = wordAt zs p * 65536 + wordAt zs (p + 2) := u32_or_word _ _ u1 u2 v1 v2
  go_enter Try.func74, Try.ntmps74
  go_wp2_with fail
  refine (word_any A n c zs _ p w h hz hn rfl (by omega)).mono ?_
  rintro e w1 ⟨rfl, m, rfl⟩
  go_wp2_with fail
  refine (word_any A n c zs _ (p + 2) _ (h.drewN m) hz hn (by omega) (by omega)).mono ?_
  rintro e w1 ⟨rfl, m2, rfl⟩
  go_wp2_with fail
  go_ret
  exact ⟨rfl, _, rfl⟩
def putB (zs : List Int) (p : Nat) : Nat → Int → List Int
  | 0, _ => zs
  | s + 1, x => putB (zs.set (p + s) (x % 256)) p s (x / 256)
theorem putB_len (p : Nat) : ∀ (s : Nat) (zs : List Int) (x : Int), (putB zs p s x).length = zs.length
  | 0, _, _ => rfl
  | s + 1, zs, x => by rw [putB, putB_len p s]; simp
set_option maxHeartbeats 1000000 in
set_option maxRecDepth 100000 in
theorem put_any (g n c base : Nat) (zs : List Int) (p s : Nat) (q r x : Int) (w : World) (h : OWN .u8 5 w base (some ⟨g, 0, none⟩) n c zs) (hn : n ≤ 140737488355328) (hq : q = p) (hr : r = s) (hp : p + s ≤ n) (hx : 0 ≤ x) (hx' : x ≤ 4294967295) :
    Calls Try.prog 53 #[.slice (some ⟨g, 0, none⟩) n c, .int .i64 q, .int .i64 r, .int .u32 x] w fun e w' => e = .returned (.tuple #[]) ∧ OWN .u8 5 w' base (some ⟨g, 0, none⟩) n c (putB zs p s x) ∧ Below g w w' := by
  subst hq hr
  go_enter Try.func53, Try.ntmps53
  go_wp2_with fail
  go_loopw [3, 8] (fun vx i wr => ∃ (k : Nat) (v : Int) (ys : List Int), k ≤ s ∧ i = .int .i64 ((k : Int) - 1) ∧ vx = .int .u32 v ∧ 0 ≤ v ∧ v ≤ 4294967295 ∧ Hid (putB ys p k v = putB zs p s x) ∧ OWN .u8 5 wr base (some ⟨g, 0, none⟩) n c ys ∧ Below g w wr) (fun _ i _ => (intOf i + 1).toNat)
  case atStart => exact ⟨s, x, zs, Nat.le_refl _, rfl, rfl, hx, hx', Lib.hid rfl, h, Below.refl _ _⟩
  case round =>
    obtain ⟨k, v, ys, hk, rfl, rfl, v1, v2, HE, own, hb⟩ := hrel
    rcases Nat.eq_zero_or_pos k with h0 | h0
    · subst h0
      have t1 : ¬ (0 : Int) ≤ (((0 : Nat) : Int) - 1) := by omega
      have OH := Lib.hid own
      clear own h
      go_wp2_with fail
      go_end0
      exact ⟨rfl, by have := HE.out; rw [← this]; exact OH.out, hb⟩
    · obtain ⟨j, rfl⟩ : ∃ j, k = j + 1 := ⟨k - 1, by omega⟩
      have ej : ((j + 1 : Nat) : Int) - 1 = (j : Int) := by omega
      rw [ej]
      have i1 : (0 : Int) ≤ (j : Int) := by omega
      have x1 := own.cell (i := p + j) (by omega)
      have x2 := own.frozen (p + j)
      have e2 := u8_mod v
      clear h0 ej h
      go_wp2_with fail
      go_roundw
      case rel => exact ⟨j, v / 256, _, by omega, by go_num, rfl, by omega, by omega, HE, own.stored (p + j) (v % 256), hb.setCell (p := ⟨g, p + j, none⟩) (Nat.le_refl _) _⟩
      case measure => simp [intOf]
end Go.Proofs.Ytljbfnabnkkfeaa
namespace Go.Proofs.Ytljbfnabnkkfeaa
open Go.RowKit
def spliceZ (zs : List Int) (lo : Nat) (ys : List Int) : List Int := zs.take lo ++ (ys ++ zs.drop (lo + ys.length))
section
variable {k : IntKind} {e : TypeId} {w w' : World} {base n c g lo : Nat} {zs ys : List Int}
theorem OWN.block (h : OWN k e w base (some ⟨g, 0, none⟩) n c zs) : ∃ cur : Array Value, w.heap[g]? = some (.cells cur e (0, 0)) ∧ cur.size = c ∧ cur.toList.take n = zs.map (Value.int k) ∧ n ≤ c ∧ c ≤ maxLen ∧ base ≤ g := by
  rcases h.2 with ⟨h1, _⟩ | ⟨g', cap, cur, h1, h2, h3, h4, h5, h6, h7⟩
  · cases h1
  · simp at h1
    obtain ⟨rfl, rfl⟩ := h1
    exact ⟨cur, h3, by omega, by simpa using h7, h4, h5, h2⟩
theorem OWN.of_block {cur : Array Value} (h : w.heap[g]? = some (.cells cur e (0, 0))) (hs : cur.size = c) (ht : cur.toList.take n = zs.map (Value.int k)) (hn : n ≤ c) (hc : c ≤ maxLen) (hb : base ≤ g) : OWN k e w base (some ⟨g, 0, none⟩) n c zs := by
  have hl : (zs.map (Value.int k)).length = n := by rw [← ht]; simp; omega
  exact ⟨by simpa using hl, .inr ⟨g, c, cur, rfl, hb, h, hn, hc, by omega, by simpa using ht⟩⟩
theorem OWN.spliced {cur : Array Value} (h : OWN k e w base (some ⟨g, 0, none⟩) n c zs) (hcur : w.heap[g]? = some (.cells cur e (0, 0))) (hfit : lo + ys.length ≤ n) (hw : w'.heap[g]? = some (.cells (splice cur.toList lo (ys.map (Value.int k))).toArray e (0, 0))) :
    OWN k e w' base (some ⟨g, 0, none⟩) n c (spliceZ zs lo ys) := by
  obtain ⟨cur', h1, h2, h3, h4, h5, h6⟩ := h.block
  rw [hcur] at h1
  simp only [Option.some.injEq, Obj.cells.injEq, and_true] at h1
  obtain rfl := h1
  have hcl : cur.toList.length = c := by simpa using h2
  refine OWN.of_block hw (by simp only [List.size_toArray]; rw [length_splice _ _ _ (by simp; omega)]; simpa using h2) ?_ h4 h5 h6
  rw [← List.take_append_drop n cur.toList, h3]
  have hl : (zs.map (Value.int k)).length = n := by rw [← h3]; simp; omega
  have hyl : (ys.map (Value.int k)).length = ys.length := by simp
  have e1 : (zs.map (Value.int k) ++ cur.toList.drop n).take lo = (zs.map (Value.int k)).take lo := List.take_append_of_le_length (by omega)
  have e2 : (zs.map (Value.int k) ++ cur.toList.drop n).drop (lo + (ys.map (Value.int k)).length) = (zs.map (Value.int k)).drop (lo + (ys.map (Value.int k)).length) ++ cur.toList.drop n := List.drop_append_of_le_length (by omega)
  have e3 : splice (zs.map (Value.int k) ++ cur.toList.drop n) lo (ys.map (Value.int k)) = splice (zs.map (Value.int k)) lo (ys.map (Value.int k)) ++ cur.toList.drop n := by
    unfold splice
    rw [e1, e2]
    simp only [List.append_assoc]
  rw [e3]
  show (splice (zs.map (Value.int k)) lo (ys.map (Value.int k)) ++ cur.toList.drop n).take n = _
  rw [List.take_left' (by rw [length_splice _ _ _ (by omega)]; exact hl)]
  unfold splice spliceZ
  simp [List.map_take, List.map_drop]
theorem step_copy_rd {P : Program} {ops : Array Oper} {o : Oper} {a : Act} {K : Act → World → Prop} {Q : Exit → Act → World → Prop} {E : Prop} (hgd : o.guard = none) (d s : Operand) (dT sT : TypeId)
    (ho : o.op = .call { callee := .builtin .copy, args := #[d, s], argTypes := #[dT, sT] }) (hu : P.underlying dT = some (.slice e)) (hsz : (P.info? e).map (·.size) = some 1)
    (own : OWN k e w base (some ⟨g, 0, none⟩) n c zs) (hlo : lo ≤ n) {D C : Nat} (hd : a.eval d = .slice (cutA (some ⟨g, 0, none⟩) c lo) D C) (hD : D = n - lo)
    {A2 : Option Addr} {m c2 B : Nat} (hs : a.eval s = .slice A2 m c2) (hr : RD k w B A2 m ys) (hm : m ≤ n - lo)
    (h : ∀ w', OWN k e w' base (some ⟨g, 0, none⟩) n c (spliceZ zs lo ys) → Below g w w' → K (a.put o.dst (goInt m)) w') :
    if Region.wanted o (yielded ops a.tmps) = true then Oper.wp P o a w K Q else E := by
  subst hD
  obtain ⟨cur, h1, h2, h3, h4, h5, h6⟩ := own.block
  have hyl := hr.1
  have hcl : (ys.map (Value.int k)).length = m := by simpa using hyl
  refine step_copy_splice hgd d s dT sT ho e hu hsz _ _ _ _ _ _ hd hs g lo cur.toList e (by simpa using h1) (ys.map (Value.int k)) (by rw [hcl]; exact (Nat.min_eq_left hm).symm) (fun h0 => ?_) (by rw [hcl]; simp; omega) (ints_oneCell k ys) g w (Below.refl _ _) (Nat.le_refl _) (fun w' H hb => ?_)
  · rw [hcl] at h0
    refine ⟨?_, ?_⟩
    · unfold cutA
      rw [if_neg (by omega)]
      simp [Addr.add]
      omega
    · obtain ⟨b, off, rfl, hb, hc⟩ := hr.2 h0
      refine ⟨_, rfl, fun j v hv => ?_⟩
      have hj : j < m := by have := (List.getElem?_eq_some_iff.1 hv).1; omega
      have hadd : (⟨b, off, none⟩ : Addr).add j = ⟨b, off + j, none⟩ := by unfold Addr.add; split <;> simp_all
      rw [hadd, hc j hj, ← hv]
      simp [hyl, hj]
  · rw [hcl]
    exact h w' (own.spliced h1 (by omega) H.out) hb
theorem run_make_cap {P : Program} (w : World) (t : TypeId) (i : TypeInfo) (ht : P.underlying t = some (.slice e)) (hi : P.info? e = some i) (hz : i.zero = some (.int k 0)) (hs : i.size = 1) (hby : i.bytes ≤ 8) (l q : Int) (n c : Nat) (hl : l = n) (hq : q = c) (hnc : n ≤ c) (hc : c ≤ 35184372088832) :
    ∃ w', (Instr.makeSlice t (.int .i64 l) (.int .i64 q)).run P w = .ok (.slice (some ⟨w.heap.size, 0, none⟩) n c) w' ∧ OWN k e w' w.heap.size (some ⟨w.heap.size, 0, none⟩) n c (List.replicate n 0) ∧ Below w.heap.size w w' ∧ w'.heap.size = w.heap.size + 1 := by
  subst hl hq
  have hb : (i.bytes : Int) * (c : Int) ≤ 281474976710656 := by
    have : i.bytes * c ≤ 8 * c := Nat.mul_le_mul_right c hby
    have h2 : ((i.bytes * c : Nat) : Int) ≤ 281474976710656 := by omega
    rwa [Int.natCast_mul] at h2
  have hr := run_make (P := P) w t e i (.int k 0) ht hi hz .i64 .i64 n c (by omega) (by omega) hb (by omega)
  simp only [Int.toNat_natCast] at hr
  refine ⟨_, hr, ?_, (Below.refl _ _).alloc (Nat.le_refl _) _, by simp⟩
  have e1 : madeCells (Value.cells (.int k 0)) (c * i.size) = (List.replicate c (Value.int k 0)).toArray := by
    rw [hs, Nat.mul_one]
    apply Array.toList_inj.1
    exact toList_madeCells_one _ _
  refine OWN.of_block (heap_alloc_new w _) (by rw [e1]; simp) ?_ hnc (by simp only [maxLen]; omega) (Nat.le_refl _)
  rw [e1]
  simp [List.take_replicate, Nat.min_eq_left hnc]
end
end Go.Proofs.Ytljbfnabnkkfeaa
namespace Go.Proofs.Ytljbfnabnkkfeaa
open Go.RowKit
def flagsW (h : HD) : Int := h.off / 8 + (if h.df then 16384 else 0) + (if h.mf then 8192 else 0)
def head20 (h : HD) (size : Nat) (L : Nat) : List Int :=
  [64 + (size : Int) / 4, h.tos, ((size : Int) + L) / 256 % 256, ((size : Int) + L) % 256, h.id / 256 % 256, h.id % 256, flagsW h / 256 % 256, flagsW h % 256, h.ttl, h.proto, 0, 0,
   h.src / 256 / 256 / 256 % 256, h.src / 256 / 256 % 256, h.src / 256 % 256, h.src % 256, h.dst / 256 / 256 / 256 % 256, h.dst / 256 / 256 % 256, h.dst / 256 % 256, h.dst % 256]
def headB (h : HD) (opts : List Int) (L : Nat) : List Int := head20 h (20 + opts.length) L ++ opts
def pktB (h : HD) (opts data : List Int) : List Int := fixOf (headB h opts data.length) 10 ++ data
theorem head20_len (h : HD) (s L : Nat) : (head20 h s L).length = 20 := rfl
theorem headB_len (h : HD) (opts : List Int) (L : Nat) : (headB h opts L).length = 20 + opts.length := by simp [headB, head20_len]
theorem flagsW_bd {h : HD} {ol : Nat} {n : Int} (hr : Rightly h.off h.mf ol n) : 0 ≤ flagsW h ∧ flagsW h ≤ 32767 := by
  obtain ⟨h1, h2, h3, _⟩ := hr
  unfold flagsW
  split <;> split <;> omega
theorem headB_bd {h : HD} {opts : List Int} {L : Nat} (hw : h.WF) (ho : BD 255 opts) (hl : opts.length ≤ 40) : BD 255 (headB h opts L) := by
  refine BD.append ?_ ho
  have h1 := hw.tos
  have h2 := hw.ttl
  have h3 := hw.proto
  intro x hx
  simp only [head20, List.mem_cons, List.not_mem_nil, or_false] at hx
  rcases hx with rfl | rfl | rfl | rfl | rfl | rfl | rfl | rfl | rfl | rfl | rfl | rfl | rfl | rfl | rfl | rfl | rfl | rfl | rfl | rfl <;> omega
def made20 (h : HD) (ol L : Nat) : List Int :=
  putB (putB (putB (putB (putB ((((List.replicate (20 + ol) 0).set 0 (64 + ((20 + ol : Nat) : Int) / 4)).set 1 h.tos).set 8 h.ttl |>.set 9 h.proto) 2 2 (((20 + ol : Nat) : Int) + L)) 4 2 h.id) 6 2 (flagsW h)) 12 4 h.src) 16 4 h.dst
theorem made20_eq (h : HD) (opts : List Int) (L : Nat) : spliceZ (made20 h opts.length L) 20 opts = headB h opts L := by
  have e : made20 h opts.length L = head20 h (20 + opts.length) L ++ List.replicate opts.length 0 := by
    unfold made20
    rw [show List.replicate (20 + opts.length) (0 : Int) = [0, 0, 0, 0, 0, 0, 0, 0, 0, 0, 0, 0, 0, 0, 0, 0, 0, 0, 0, 0] ++ List.replicate opts.length 0 from List.replicate_append_replicate.symm]
    simp [putB, head20]
  rw [e]
  unfold spliceZ headB
  rw [List.take_left' (head20_len h _ _), List.drop_eq_nil_of_le (by simp [head20_len]), List.append_nil]
theorem i64_or_64 (x : Int) (h0 : 0 ≤ x) (h1 : x ≤ 15) : bits .or .i64 64 x = 64 + x :=
  bits_join .i64 16 (by decide) (fun n h0 h1 => by rw [IntKind.wrap_i64]; omega) 4 64 x (by omega) (by omega) (by omega) (by omega) (by omega) (by omega)
theorem u32_or_df (x : Int) (h0 : 0 ≤ x) (h1 : x ≤ 8191) : bits .or .u32 x 16384 = x + 16384 := by
  have := bits_join .u32 32 (by decide) (fun n h0 h1 => by rw [IntKind.wrap_u32]; omega) 14 16384 x (by omega) (by omega) (by omega) (by omega) (by omega) (by omega)
  rw [show bits .or .u32 x 16384 = bits .or .u32 16384 x by simp [bits, BitVec.or_comm], this]; omega
theorem u32_or_mf (x : Int) (h0 : 0 ≤ x) (h1 : x ≤ 8191) (b : Bool) : bits .or .u32 (x + if b then 16384 else 0) 8192 = x + (if b then 16384 else 0) + 8192 := by
  obtain ⟨n, rfl⟩ := Int.eq_ofNat_of_zero_le h0
  cases b
  · have := bits_join .u32 32 (by decide) (fun n h0 h1 => by rw [IntKind.wrap_u32]; omega) 13 8192 n (by omega) (by omega) (by omega) (by omega) (by omega) (by omega)
    simp only [Bool.false_eq_true, if_false, Int.add_zero]
    rw [show bits .or .u32 (n : Int) 8192 = bits .or .u32 8192 n by simp [bits, BitVec.or_comm], this]; omega
  · simp only [if_true]
    have hb := (bits_nat .u32 32 (by decide) (fun n h0 h1 => by rw [IntKind.wrap_u32]; omega) (n + 16384) 8192 (by omega) (by omega)).2
    rw [show ((n : Int) + 16384) = ((n + 16384 : Nat) : Int) by simp, show (8192 : Int) = ((8192 : Nat) : Int) from rfl, hb]
    have e1 : n + 16384 = 2 ^ 14 * 1 + n := by omega
    have e2 : n + 16384 ||| 8192 = n + 16384 + 8192 := by
      have h2 : (n + 16384) ||| 8192 = (n ||| 8192) + 16384 := by
        have a1 : (16384 ||| n) = 16384 + n := by have := (Nat.two_pow_add_eq_or_of_lt (show n < 2 ^ 14 by omega) 1).symm; simpa using this
        have a2 : (16384 ||| (n ||| 8192)) = 16384 + (n ||| 8192) := by
          have := (Nat.two_pow_add_eq_or_of_lt (show n ||| 8192 < 2 ^ 14 from Nat.or_lt_two_pow (by omega) (by omega)) 1).symm
          simpa using this
        rw [Nat.add_comm n, ← a1, Nat.or_assoc, a2, Nat.add_comm]
      have h3 : (8192 ||| n) = 8192 + n := by have := (Nat.two_pow_add_eq_or_of_lt (show n < 2 ^ 13 by omega) 1).symm; simpa using this
      rw [h2, Nat.or_comm, h3]; omega
    rw [e2]; omega
end Go.Proofs.Ytljbfnabnkkfeaa
namespace Go.Proofs.Ytljbfnabnkkfeaa
open Go.RowKit
set_option linter.unusedVariables false
set_option linter.unusedSimpArgs false
structure FR where
  h : HD
  o : List Int
  d : List Int
def FR.b (f : FR) : Nat := f.h.off.toNat
def FR.e (f : FR) : Nat := f.b + f.d.length
structure AG where
  src : Int
  dst : Int
  proto : Int
  id : Int
  begin_ : Int
  total : Int
  dead : Bool
  h : HD
  o : List Int
  ps : List (Nat × List Int)
def pe (p : Nat × List Int) : Nat := p.1 + p.2.length
def bytesP (ps : List (Nat × List Int)) : Nat := (ps.map (fun p => p.2.length)).sum
theorem bytesP_cons (p : Nat × List Int) (ps : List (Nat × List Int)) : bytesP (p :: ps) = p.2.length + bytesP ps := by simp [bytesP]
def dies1 (total : Int) (mf : Bool) (e : Nat) : Bool := (!mf && decide (0 ≤ total)) || (decide (0 ≤ total) && decide (total < (e : Int)))
def dies2 (mf : Bool) (b e : Nat) (p : Nat × List Int) : Bool := (decide (p.1 < e) && decide (b < pe p)) || (!mf && decide (e < pe p))
def diesG (g : AG) (f : FR) : Bool := dies1 g.total f.h.mf f.e || g.ps.any (dies2 f.h.mf f.b f.e)
def putG (g : AG) (f : FR) : AG :=
  { g with ps := if f.d = [] then g.ps else g.ps ++ [(f.b, f.d)], total := if f.h.mf then g.total else (f.e : Int),
           h := if f.b = 0 then { f.h with mf := false } else g.h, o := if f.b = 0 then f.o else g.o }
def doneG (g : AG) : Bool := decide (0 ≤ g.total) && decide ((bytesP g.ps : Int) = g.total)
def okG (g : AG) : Bool := !doneG g || rightB g.h.off g.h.mf g.o.length g.total
def addG (g : AG) (f : FR) : Option AG := if diesG g f then none else if okG (putG g f) then some (putG g f) else none
def splice (zs : List Int) (p : Nat × List Int) : List Int := zs.take p.1 ++ (p.2.take (zs.length - p.1) ++ zs.drop (p.1 + p.2.length))
def asmP (n : Nat) (ps : List (Nat × List Int)) : List Int := ps.foldl splice (List.replicate n 0)
def deadG (g : AG) : AG := { g with total := 0, dead := true, h := HD.zero, o := [], ps := [] }
structure AT where
  limit : Int
  life : Int
  now : Int
  gs : List AG
def overG (life now : Int) (g : AG) : Bool := decide (g.begin_ + life ≤ now)
def passA (T : AT) (now : Int) : AT := { T with now := now, gs := T.gs.dropWhile (overG T.life now) }
def sameK (h : HD) (g : AG) : Bool := g.src == h.src && (g.dst == h.dst && (g.proto == h.proto && g.id == h.id))
def newG (now : Int) (h : HD) : AG := ⟨h.src, h.dst, h.proto, h.id, now, -1, false, HD.zero, [], []⟩
def ofA (T : AT) (h : HD) : List AG × Nat :=
  match T.gs.findIdx? (sameK h) with
  | some k => (T.gs, k)
  | none => ((if (T.gs.length : Int) = T.limit then T.gs.tail else T.gs) ++ [newG T.now h], (if (T.gs.length : Int) = T.limit then T.gs.tail else T.gs).length)
def frOf (zs : List Int) : FR := ⟨hdOf zs, optsOf zs, (zs.drop (sizeR zs)).take (totalR zs - sizeR zs)⟩
def addA (gs : List AG) (k : Nat) (f : FR) : List AG × List Int × Int :=
  match gs[k]? with
  | none => (gs, [], 0)
  | some g =>
    if g.dead then (gs, [], 71)
    else match addG g f with
      | none => (gs.set k (deadG g), [], 71)
      | some g' => if doneG g' then (gs.eraseIdx k, pktB g'.h g'.o (asmP g'.total.toNat g'.ps), 0) else (gs.set k g', [], 0)
def lateA (T : AT) (now : Int) : Bool := decide (now < T.now) || decide (1099511627776 < now)
def putA (T : AT) (now : Int) (zs : List Int) : AT × List Int × Int :=
  if lateA T now then (T, [], 70)
  else if faultR zs ≠ 7 then (T, [], ipE zs)
  else if (hdOf zs).mf = false ∧ (hdOf zs).off = 0 then (passA T now, zs.take (totalR zs), 0)
  else let r := addA (ofA (passA T now) (hdOf zs)).1 (ofA (passA T now) (hdOf zs)).2 (frOf zs)
    ({ passA T now with gs := r.1 }, r.2.1, r.2.2)
def tickA (T : AT) (now : Int) : AT × Int := if lateA T now then (T, 70) else (passA T now, 0)
def apartP (p q : Nat × List Int) : Prop := pe p ≤ q.1 ∨ pe q ≤ p.1
theorem apartP.symm {p q : Nat × List Int} (h : apartP p q) : apartP q p := h.elim .inr .inl
structure GOKP (ps : List (Nat × List Int)) : Prop where
  ne : ∀ p ∈ ps, 0 < p.2.length
  le : ∀ p ∈ ps, pe p ≤ 65515
  bd : ∀ p ∈ ps, BD 255 p.2
  pw : ps.Pairwise apartP
structure GOK (g : AG) : Prop where
  src : 0 ≤ g.src ∧ g.src ≤ 4294967295
  dst : 0 ≤ g.dst ∧ g.dst ≤ 4294967295
  proto : 0 ≤ g.proto ∧ g.proto ≤ 255
  id : 0 ≤ g.id ∧ g.id ≤ 65535
  beg : 0 ≤ g.begin_ ∧ g.begin_ ≤ 1099511627776
  tot : -1 ≤ g.total ∧ g.total ≤ 65515
  hd : g.h.WF
  op : BD 255 g.o ∧ g.o.length ≤ 40
  ps : GOKP g.ps
  in_ : 0 ≤ g.total → ∀ p ∈ g.ps, (pe p : Int) ≤ g.total
def ind (p : Nat × List Int) (x : Nat) : Nat := if p.1 ≤ x ∧ x < pe p then 1 else 0
def cov (ps : List (Nat × List Int)) (x : Nat) : Nat := (ps.map (fun p => ind p x)).sum
theorem cov_nil (x : Nat) : cov [] x = 0 := rfl
theorem cov_cons (p : Nat × List Int) (ps : List (Nat × List Int)) (x : Nat) : cov (p :: ps) x = ind p x + cov ps x := by simp [cov]
def upsum (f : Nat → Nat) : Nat → Nat
  | 0 => 0
  | n + 1 => upsum f n + f n
theorem upsum_add (f g : Nat → Nat) : ∀ n, upsum (fun x => f x + g x) n = upsum f n + upsum g n
  | 0 => rfl
  | n + 1 => by simp only [upsum]; rw [upsum_add f g n]; omega
theorem upsum_ind (p : Nat × List Int) : ∀ n, upsum (ind p) n = if n ≤ p.1 then 0 else if n ≤ pe p then n - p.1 else p.2.length
  | 0 => by simp [upsum]
  | n + 1 => by
    simp only [upsum]
    rw [upsum_ind p n]
    unfold ind pe
    repeat' split
    all_goals omega
theorem upsum_zero : ∀ n, upsum (fun _ => 0) n = 0
  | 0 => rfl
  | n + 1 => by simp only [upsum]; rw [upsum_zero n]
theorem upsum_cov : ∀ (ps : List (Nat × List Int)) (n : Nat), (∀ p ∈ ps, pe p ≤ n) → upsum (cov ps) n = bytesP ps
  | [], n, _ => by
    have : cov [] = fun _ => 0 := by funext x; rfl
    rw [this, upsum_zero]; rfl
  | p :: ps, n, h => by
    have : cov (p :: ps) = fun x => ind p x + cov ps x := by funext x; exact cov_cons p ps x
    rw [this, upsum_add, upsum_cov ps n (fun q hq => h q (by simp [hq])), upsum_ind, bytesP_cons]
    have h1 := h p (by simp)
    unfold pe at *
    repeat' split
    all_goals omega
theorem cov_zero {ps : List (Nat × List Int)} {x : Nat} (h : ∀ p ∈ ps, ¬ (p.1 ≤ x ∧ x < pe p)) : cov ps x = 0 := by
  induction ps with
  | nil => rfl
  | cons p ps ih =>
    rw [cov_cons, ih (fun q hq => h q (by simp [hq]))]
    have := h p (by simp)
    unfold ind; rw [if_neg this]
theorem cov_le : ∀ {ps : List (Nat × List Int)}, ps.Pairwise apartP → ∀ x, cov ps x ≤ 1
  | [], _, x => by rw [cov_nil]; omega
  | p :: ps, h, x => by
    obtain ⟨h1, h2⟩ := List.pairwise_cons.1 h
    rw [cov_cons]
    by_cases hp : p.1 ≤ x ∧ x < pe p
    · rw [cov_zero (fun q hq hx => by rcases h1 q hq with h3 | h3 <;> omega)]
      unfold ind; rw [if_pos hp]; omega
    · have := cov_le h2 x
      unfold ind; rw [if_neg hp]; omega
theorem upsum_le {f : Nat → Nat} (h : ∀ x, f x ≤ 1) : ∀ n, upsum f n ≤ n
  | 0 => Nat.le_refl _
  | n + 1 => by simp only [upsum]; have := upsum_le h n; have := h n; omega
theorem upsum_full {f : Nat → Nat} (h : ∀ x, f x ≤ 1) : ∀ n, upsum f n = n → ∀ x, x < n → f x = 1
  | 0, _, x, hx => by omega
  | n + 1, e, x, hx => by
    simp only [upsum] at e
    have h1 := upsum_le h n
    have h2 := h n
    by_cases hn : x = n
    · subst hn; omega
    · exact upsum_full h n (by omega) x (by omega)
theorem bytesP_le {ps : List (Nat × List Int)} {n : Nat} (hp : ps.Pairwise apartP) (hn : ∀ p ∈ ps, pe p ≤ n) : bytesP ps ≤ n := by
  rw [← upsum_cov ps n hn]; exact upsum_le (cov_le hp) n
theorem length_le_bytesP : ∀ {ps : List (Nat × List Int)}, (∀ p ∈ ps, 0 < p.2.length) → ps.length ≤ bytesP ps
  | [], _ => by simp [bytesP]
  | p :: ps, h => by
    have h1 := h p (by simp)
    have h2 := length_le_bytesP (ps := ps) (fun q hq => h q (List.mem_cons_of_mem _ hq))
    rw [bytesP_cons, List.length_cons]; omega
theorem GOKP.bytes {ps : List (Nat × List Int)} (h : GOKP ps) : bytesP ps ≤ 65515 := bytesP_le h.pw h.le
theorem GOKP.len {ps : List (Nat × List Int)} (h : GOKP ps) : ps.length ≤ 65515 := Nat.le_trans (length_le_bytesP h.ne) h.bytes
theorem GOKP.nil : GOKP [] := ⟨(fun p h => by cases h), (fun p h => by cases h), (fun p h => by cases h), List.Pairwise.nil⟩
structure FOK (f : FR) : Prop where
  wf : f.h.WF
  off : 0 ≤ f.h.off ∧ f.h.off % 8 = 0 ∧ f.h.off ≤ 65528
  op : BD 255 f.o ∧ f.o.length ≤ 40
  bd : BD 255 f.d
  e : f.e ≤ 65515
  mf : f.h.mf = true → 0 < f.d.length ∧ f.d.length % 8 = 0
theorem FOK.b {f : FR} (h : FOK f) : (f.b : Int) = f.h.off := by unfold FR.b; have := h.off; omega
theorem putG_ok {g : AG} {f : FR} (h : GOK g) (hf : FOK f) (hd : diesG g f = false) : GOK (putG g f) := by
  unfold diesG at hd
  simp only [Bool.or_eq_false_iff, List.any_eq_false] at hd
  obtain ⟨hd1, hd2⟩ := hd
  have hdp : ∀ p ∈ g.ps, ¬ (p.1 < f.e ∧ f.b < pe p) ∧ (f.h.mf = false → pe p ≤ f.e) := fun p hp => by
    have := hd2 p hp
    unfold dies2 at this
    simp only [Bool.or_eq_true, Bool.and_eq_true, decide_eq_true_eq, Bool.not_eq_true', not_or] at this
    exact ⟨this.1, fun hm => by have := this.2; simp only [hm, true_and] at this; omega⟩
  unfold dies1 at hd1
  simp only [Bool.or_eq_false_iff, Bool.and_eq_false_iff, decide_eq_false_iff_not, Bool.not_eq_false'] at hd1
  have he := hf.e
  have ho := hf.off
  have hps : GOKP (putG g f).ps := by
    unfold putG
    simp only
    split
    · exact h.ps
    · rename_i hne
      have hl : 0 < f.d.length := by cases hq : f.d with
        | nil => exact absurd hq hne
        | cons a r => simp
      refine ⟨fun p hp => ?_, fun p hp => ?_, fun p hp => ?_, List.pairwise_append.2 ⟨h.ps.pw, List.pairwise_singleton _ _, fun p hp q hq => ?_⟩⟩
      · rcases List.mem_append.1 hp with hp | hp
        · exact h.ps.ne p hp
        · simp at hp; subst hp; exact hl
      · rcases List.mem_append.1 hp with hp | hp
        · exact h.ps.le p hp
        · simp at hp; subst hp; exact he
      · rcases List.mem_append.1 hp with hp | hp
        · exact h.ps.bd p hp
        · simp at hp; subst hp; exact hf.bd
      · simp at hq; subst hq
        have := (hdp p hp).1
        unfold apartP pe at *
        simp only
        unfold FR.e at *
        have := h.ps.ne p hp
        omega
  refine ⟨h.src, h.dst, h.proto, h.id, h.beg, ?_, ?_, ?_, hps, ?_⟩
  · unfold putG; simp only; have := h.tot; split <;> omega
  · unfold putG; simp only; split
    · exact ⟨hf.wf.tos, hf.wf.id, hf.wf.off, hf.wf.ttl, hf.wf.proto, hf.wf.src, hf.wf.dst⟩
    · exact h.hd
  · unfold putG; simp only; split
    · exact hf.op
    · exact h.op
  · unfold putG
    simp only
    intro h0 p hp
    by_cases hm : f.h.mf = true
    · simp only [hm, if_true] at h0 ⊢
      split at hp
      · exact h.in_ h0 p hp
      · rcases List.mem_append.1 hp with hp | hp
        · exact h.in_ h0 p hp
        · simp at hp; subst hp
          have := hd1.2
          unfold pe; simp only
          unfold FR.e at *
          omega
    · simp only [hm] at h0 ⊢
      simp only [Bool.not_eq_true] at hm
      split at hp
      · have := (hdp p hp).2 hm; simp; omega
      · rcases List.mem_append.1 hp with hp | hp
        · have := (hdp p hp).2 hm; simp; omega
        · simp at hp; subst hp; unfold pe FR.e; simp
end Go.Proofs.Ytljbfnabnkkfeaa
namespace Go.Proofs.Ytljbfnabnkkfeaa
open Go.RowKit Go.Shelf
set_option linter.unusedVariables false
set_option linter.unusedSimpArgs false
attribute [local go_sem] Oper.semAt_some
structure PM where
  b : Nat
  A : Option Addr
  n : Nat
  c : Nat
  d : List Int
def PM0 : PM := ⟨0, none, 0, 0, []⟩
def PM.a (p : PM) : Nat × List Int := (p.b, p.d)
def PM.cells (p : PM) : List Value := [.int .i64 (p.b : Int), .slice p.A p.n p.c]
def PM.it (p : PM) : IT := .own .u8 5 p.A p.n p.c p.d
def PARTS (w : World) (A : Option Addr) (n : Nat) (ps : List PM) : Prop :=
  ps.length = n ∧ (0 < n → ∃ g off, A = some ⟨g, off, none⟩ ∧ g < w.heap.size ∧ ∀ i, i < n → w.cell? ⟨g, off + i * 2, none⟩ = some (.int .i64 ((ps[i]?.getD PM0).b : Int)) ∧ w.cell? ⟨g, off + i * 2 + 1, none⟩ = some (.slice (ps[i]?.getD PM0).A (ps[i]?.getD PM0).n (ps[i]?.getD PM0).c))
theorem PARTS.below {w w' : World} {A : Option Addr} {n : Nat} {ps : List PM} (h : PARTS w A n ps) (hb : Below w.heap.size w w') : PARTS w' A n ps := by
  refine ⟨h.1, fun hn => ?_⟩
  obtain ⟨b, off, h1, h2, h3⟩ := h.2 hn
  exact ⟨b, off, h1, by have := hb.size; omega, fun i hi => ⟨(hb.cell h2).trans (h3 i hi).1, (hb.cell h2).trans (h3 i hi).2⟩⟩
theorem fm_get : ∀ (ps : List PM) (i : Nat), i < ps.length → (ps.flatMap PM.cells)[i * 2]? = some (.int .i64 ((ps[i]?.getD PM0).b : Int)) ∧ (ps.flatMap PM.cells)[i * 2 + 1]? = some (.slice (ps[i]?.getD PM0).A (ps[i]?.getD PM0).n (ps[i]?.getD PM0).c)
  | [], i, h => by simp at h
  | p :: ps, 0, _ => by simp [PM.cells]
  | p :: ps, i + 1, h => by
    have := fm_get ps i (by simp at h; omega)
    rw [show (i + 1) * 2 = i * 2 + 2 by omega]
    simp only [List.flatMap_cons, PM.cells, List.cons_append, List.nil_append, List.getElem?_cons_succ]
    exact this
theorem parts_of_row {w : World} {base n c : Nat} {A : Option Addr} {ps : List PM} (h : w.ownsRow base 93 2 (.slice A n c) n (ps.flatMap PM.cells)) : PARTS w A n ps := by
  have hl : ps.length = n := by
    have h1 := h.1
    have h2 : (ps.flatMap PM.cells).length = ps.length * 2 := by
      clear h h1
      induction ps with
      | nil => rfl
      | cons p ps ih => rw [List.flatMap_cons, List.length_append, ih, List.length_cons]; simp [PM.cells]; omega
    omega
  refine ⟨hl, fun hn => ?_⟩
  rcases h.2 with ⟨_, h2⟩ | ⟨g, cap, cur, h1, h2, h3, h4, h5, h6, h7⟩
  · omega
  · simp at h1
    obtain ⟨rfl, rfl⟩ := h1
    refine ⟨g, 0, rfl, (Array.getElem?_eq_some_iff.1 h3).1, fun i hi => ?_⟩
    have e := fm_get ps i (by omega)
    exact ⟨by rw [Nat.zero_add, World.ownsRow.cellAt h (i * 2) (by omega)]; exact e.1, by rw [Nat.zero_add, World.ownsRow.cellAt h (i * 2 + 1) (by omega)]; exact e.2⟩
structure GM where
  N : Nat
  q : AG
  oA : Option Addr
  on : Nat
  oc : Nat
  pA : Option Addr
  pn : Nat
  pc : Nat
  ps : List PM
def GM.a (g : GM) : AG := { g.q with ps := g.ps.map PM.a }
def GM.cells (g : GM) : Array Value := #[.int .u32 g.q.src, .int .u32 g.q.dst, .int .u8 g.q.proto, .int .u16 g.q.id, .int .i64 g.q.begin_, .int .i64 g.q.total, .bool g.q.dead,
  .int .u8 g.q.h.tos, .int .u16 g.q.h.id, .bool g.q.h.df, .bool g.q.h.mf, .int .i64 g.q.h.off, .int .u8 g.q.h.ttl, .int .u8 g.q.h.proto, .int .u32 g.q.h.src, .int .u32 g.q.h.dst, .slice g.oA g.on g.oc, .slice g.pA g.pn g.pc]
def GM.its (g : GM) : List IT := .blk g.N 89 g.cells :: .row 93 2 g.pA g.pn g.pc (g.ps.flatMap PM.cells) :: .own .u8 5 g.oA g.on g.oc g.q.o :: g.ps.map PM.it
def sumN (ps : List PM) (k : Nat) : Nat := ((ps.take k).map (·.n)).sum
theorem sumN_zero (ps : List PM) : sumN ps 0 = 0 := by simp [sumN]
theorem sumN_succ {ps : List PM} {k : Nat} (h : k < ps.length) : sumN ps (k + 1) = sumN ps k + (ps[k]?.getD PM0).n := by
  unfold sumN
  rw [List.take_add_one, List.getElem?_eq_getElem h, List.map_append, List.sum_append]
  simp
set_option maxHeartbeats 1000000 in
set_option maxRecDepth 100000 in
theorem each1_in (m l BV N : Nat) (hm : 1 ≤ m) (A : Option Addr) (n c : Nat) (ps : List PM) (hb : ∀ p ∈ ps, p.b ≤ 100000 ∧ p.n ≤ 100000) (hn : n ≤ 100000) (J : Nat → World → Prop) (Jx : World → Prop)
    (hJ : ∀ k W, J k W → W.cell? ⟨BV, 0, none⟩ = some (.pointer (some ⟨N, 0, none⟩)) ∧ W.cell? ⟨N, 17, none⟩ = some (.slice A n c) ∧ PARTS W A n ps)
    (hal : ∀ k W o, J k W → J k (W.alloc o))
    (hy : ∀ k W, k < n → J k W → YieldAt Fence.wide (m - 1) Try.prog l #[.int .i64 ((ps[k]?.getD PM0).b : Int), .int .i64 (((ps[k]?.getD PM0).b : Int) + ((ps[k]?.getD PM0).n : Int))] W fun e W' => (e = .returned (.bool true) ∧ J (k + 1) W') ∨ (e = .returned (.bool false) ∧ Jx W'))
    (W : World) (h0 : J 0 W) :
    CallsIn Fence.wide m Try.prog 84 #[.func (.yield l) #[] #[], .pointer (some ⟨BV, 0, none⟩)] W fun e W' => (∃ v, e = .returned v) ∧ (J n W' ∨ Jx W') := by
  obtain ⟨x0, x1, x2⟩ := hJ 0 W h0
  have hlen := x2.1
  refine callsIn_of_wp Try.func84 rfl trivial ?_ rfl
  simp only [Try.ntmps84, List.size_toArray, List.length_cons, List.length_nil, Nat.reduceAdd, Nat.reduceSub, Array.replicate_succ, Array.replicate_zero, List.push_toArray, List.append_toArray, List.nil_append, List.cons_append]
  gi_wp2
  clear x0 x1 x2
  gi_loopw [10] (fun s wr => ∃ k : Nat, k ≤ n ∧ s = .int .i64 (k : Int) ∧ J k wr) (fun s _ => n - (intOf s).toNat)
  case atStart => exact ⟨0, by omega, rfl, h0⟩
  case round =>
    obtain ⟨k, hk, rfl, hj⟩ := hrel
    obtain ⟨_, _, hparts⟩ := hJ k wr hj
    by_cases hlt : k < n
    · have t1 : (k : Int) < (n : Int) := by omega
      have t0 : (0 : Int) ≤ (k : Int) := by omega
      obtain ⟨g, off, rfl, _, hcells⟩ := hparts.2 (by omega)
      obtain ⟨x1, x2⟩ := hcells k hlt
      obtain ⟨p, hp⟩ : ∃ p, ps[k]?.getD PM0 = p := ⟨_, rfl⟩
      have hpm : p ∈ ps := by rw [← hp, List.getElem?_eq_getElem (by omega)]; exact List.getElem_mem _
      obtain ⟨b1, b2⟩ := hb p hpm
      rw [hp] at x1 x2
      obtain ⟨fn, tmps, assign, body, hyy, hR⟩ := hy k _ hlt (hal k wr (.cells #[.int .i64 (p.b : Int), .slice p.A p.n p.c] 93) hj)
      rw [hp] at hyy
      have e1 : IntKind.i64.wrap ((p.b : Int) + (p.n : Int)) = (p.b : Int) + (p.n : Int) := IntWalk.i64_in _ (by omega)
      clear hcells hp hpm hparts
      gi_wp2
      refine hR.mono ?_
      rintro e W3 (⟨rfl, hJ3⟩ | ⟨rfl, hx⟩)
      · gi_wp2
        go_roundw
        case rel => exact ⟨k + 1, by omega, by go_num, hJ3⟩
        case measure => simp [intOf]; omega
      · gi_wp2
        refine bodyPost_ret (results_none rfl _ _ _) rfl ?_
        exact ⟨⟨_, rfl⟩, .inr hx⟩
    · have t1 : ¬ (k : Int) < (n : Int) := by omega
      obtain rfl : k = n := by omega
      gi_wp2
      go_end0
      exact ⟨⟨_, rfl⟩, .inl hj⟩
theorem each_any (N : Nat) (w : World) :
    Calls Try.prog 69 #[.pointer (some ⟨N, 0, none⟩)] w fun e w' => e = .returned (.func (.func 84) #[] #[.pointer (some ⟨w.heap.size, 0, none⟩)]) ∧ w' = w.alloc (.cells #[.pointer (some ⟨N, 0, none⟩)] 83) := by
  go_enter Try.func69, Try.ntmps69
  go_wp2_with fail
  go_ret
  exact ⟨rfl, rfl⟩
set_option maxHeartbeats 1000000 in
set_option maxRecDepth 100000 in
theorem bytes_any (N : Nat) (A : Option Addr) (n c : Nat) (ps : List PM) (w : World) (hb : ∀ p ∈ ps, p.b ≤ 100000 ∧ p.n ≤ 100000) (hn : n ≤ 100000) (hs : sumN ps n ≤ 100000) (hsk : ∀ k, k ≤ n → sumN ps k ≤ 100000)
    (hN : N < w.heap.size) (h17 : w.cell? ⟨N, 17, none⟩ = some (.slice A n c)) (hp : PARTS w A n ps) :
    Calls Try.prog 41 #[.pointer (some ⟨N, 0, none⟩)] w fun e w' => e = .returned (.int .i64 (sumN ps n : Int)) ∧ Below w.heap.size w w' := by
  have HP := Lib.hid hp
  have HB := Lib.hid hb
  have HSK := Lib.hid hsk
  have H17 := Lib.hid (fun W (hb : Below w.heap.size w W) => (hb.cell (p := ⟨N, 17, none⟩) hN).trans h17)
  clear hp hb h17 hsk
  refine callsIn_wide.1 (callsIn_of_wp_marks (n := 2) Try.func41 rfl trivial ?_ rfl)
  simp only [Try.ntmps41, List.size_toArray, List.length_cons, List.length_nil, Nat.reduceAdd, Nat.reduceSub, Array.replicate_succ, Array.replicate_zero, List.push_toArray, List.append_toArray, List.nil_append, List.cons_append]
  refine wpIn_wide.2 ?_
  obtain ⟨S, hS⟩ : ∃ S, w.heap.size = S := ⟨_, rfl⟩
  have X1 := Lib.hid ((SP.start w).alloc' (N := S) 3 #[.int .i64 0] hS)
  go_wp2_with fail
  refine (each_any N _).mono ?_
  rintro e w2 ⟨rfl, hw2⟩
  rw [hS] at *
  obtain ⟨BV, hBV⟩ : ∃ B, B = (w.alloc (.cells #[.int .i64 0] 3)).heap.size := ⟨_, rfl⟩
  have X2 := Lib.hid (X1.out.alloc' (N := BV) 83 #[.pointer (some ⟨N, 0, none⟩)] hBV.symm)
  rw [← hw2] at X2
  rw [← hBV]
  replace X2 := Lib.hid (show SP w w2 [.blk S 3 #[.int .i64 0], .blk BV 83 #[.pointer (some ⟨N, 0, none⟩)]] from X2.out)
  clear hw2 hBV hS X1
  go_wp2_with fail
  obtain ⟨D, hD⟩ : ∃ D, w2.heap.size = D := ⟨_, rfl⟩
  refine (wpIn_wide (n := 2)).1 ?_
  refine wpIn_range_raw (gf := 84) (lb := #[.pointer (some ⟨BV, 0, none⟩)]) rfl (fun h => by cases h) rfl trivial (enters_of Try.func84 (by kernel_rfl) rfl)
    (fun W => ∃ r : Loop, SP w W [.blk S 3 #[.int .i64 (sumN ps n : Int)], .blk BV 83 #[.pointer (some ⟨N, 0, none⟩)], .obj D (.deferred (some [])), .obj (D + 1) (.loop r)]) (fun W => False) ?call ?done ?stop
  case call =>
    intro fn hfn W1 hW1 hbook
    rw [hD] at hbook ⊢
    generalize hrec : recOf fn _ _ _ _ D = rec at hbook ⊢
    have H3 := Lib.hid (show SP w W1 [.blk S 3 #[.int .i64 0], .blk BV 83 #[.pointer (some ⟨N, 0, none⟩)], .obj D (.deferred (some [])), .obj (D + 1) (.loop (rec .ready none))] by
      have h9 := ((X2.out.allocO (.deferred (some []))).allocO (.loop (rec .ready none)))
      rw [World.size_alloc, hD] at h9
      rw [hW1, hD, hrec]
      exact h9)
    clear hW1 X2
    refine (each1_in 1 (D + 1) BV N (by omega) A n c ps HB.out hn (fun k W => SP w W [.blk S 3 #[.int .i64 (sumN ps k : Int)], .blk BV 83 #[.pointer (some ⟨N, 0, none⟩)], .obj D (.deferred (some [])), .obj (D + 1) (.loop (rec .ready none))]) (fun _ => False) ?hJ ?hal ?hy W1 (by rw [sumN_zero]; exact H3.out)).mono ?_
    case hJ => exact fun k W X => ⟨X.cell 1 rfl 0 rfl, H17.out W X.bel, HP.out.below X.bel⟩
    case hal => exact fun k W o X => X.next ((Below.refl _ W).alloc (Nat.le_refl _) o)
    case hy =>
      intro k W hk X
      subst hrec
      refine yield_of_round trivial ⟨X.obj 3 rfl, X.obj 2 rfl⟩ rfl ?a1 ?assign ?body
      case assign =>
        intro W0 K0 hK0
        gi_wp2
        exact hK0
      case body =>
        intro hbusy
        have X2 := X.turn 3 rfl _ (grownBy_putObj' _ _ _) hbusy.loop
        clear hbook X
        generalize W.putObj (D + 1) _ = Wb at X2 hbusy ⊢
        generalize recOf fn _ _ _ _ D = rec at X2 hbusy ⊢
        have HX := Lib.hid X2
        clear X2 hbusy H3
        have c0 : Wb.cell? ⟨S, 0, none⟩ = some (.int .i64 (sumN ps k : Int)) := HX.out.cell 0 rfl 0 rfl
        have f0 := HX.out.free 0 rfl 0
        obtain ⟨p, hp⟩ : ∃ p, ps[k]?.getD PM0 = p := ⟨_, rfl⟩
        have hpm : p ∈ ps := by rw [← hp, List.getElem?_eq_getElem (by have := HP.out.1; omega)]; exact List.getElem_mem _
        obtain ⟨b1, b2⟩ := HB.out p hpm
        have hs1 := HSK.out k (by omega)
        have hs2 := sumN_succ (ps := ps) (k := k) (by have := HP.out.1; omega)
        rw [hp] at hs2 ⊢
        have HS := Lib.hid hs2
        have e1 : IntKind.i64.wrap (((p.b : Int) + (p.n : Int)) - (p.b : Int)) = (p.n : Int) := by rw [show ((p.b : Int) + (p.n : Int)) - (p.b : Int) = (p.n : Int) by omega]; exact IntWalk.i64_in _ (by omega)
        have e2 : IntKind.i64.wrap ((sumN ps k : Int) + (p.n : Int)) = (sumN ps k : Int) + (p.n : Int) := IntWalk.i64_in _ (by omega)
        have e3 : ((p.b : Int) + (p.n : Int)) - (p.b : Int) = (p.n : Int) := by omega
        clear hs2 hp hpm
        gi_wp2
        have Y := HX.out.setB 0 rfl 0 (.int .i64 ((sumN ps k : Int) + (p.n : Int)))
        have Y2 := Y.turn 3 rfl (.loop (rec .ready none)) (grownBy_putObj' _ _ _) (World.putObj_heap_same (Y.all 3 _ rfl |>.lt rfl).2)
        refine ⟨⟨Y.obj 3 rfl, Y.obj 2 rfl⟩, .inl ⟨rfl, ?_⟩⟩
        rw [show ((sumN ps (k + 1) : Nat) : Int) = (sumN ps k : Int) + (p.n : Int) by rw [HS.out]; simp]
        exact Y2
    rintro e W2 ⟨hv, X | hx⟩
    · exact ⟨hv, .inl ⟨⟨X.obj 3 rfl, X.obj 2 rfl⟩, _, X⟩⟩
    · exact hx.elim
  case done =>
    rintro W2 r r' hl2 hdf ⟨r0, X⟩
    rw [hD] at hl2 hdf ⊢
    have X2 := X.turn 3 rfl (.loop r') (grownBy_putObj' _ _ _) (World.putObj_heap_same (X.all 3 _ rfl |>.lt rfl).2)
    generalize W2.putObj (D + 1) (.loop r') = W3 at X2 ⊢
    have HX := Lib.hid X2
    clear X X2 hl2 hdf
    have c0 : W3.cell? ⟨S, 0, none⟩ = some (.int .i64 (sumN ps n : Int)) := HX.out.cell 0 rfl 0 rfl
    go_wp2_with fail
    refine ⟨by simp, .inl ⟨D, _, rfl, run_takeDeferred (HX.out.obj 2 rfl), ?_⟩⟩
    have Z := HX.out.turn 2 rfl (.deferred none) (grownBy_putObj' _ _ _) (World.putObj_heap_same (HX.out.all 2 _ rfl |>.lt rfl).2)
    exact ⟨_, results_tmp rfl _ _ _, rfl, Z.bel⟩
  case stop =>
    rintro W2 r r' hl2 hdf h
    exact h.elim
end Go.Proofs.Ytljbfnabnkkfeaa
namespace Go.Proofs.Ytljbfnabnkkfeaa
open Go.RowKit Go.Maps
set_option linter.unusedVariables false
set_option linter.unusedSimpArgs false
def idV (s d p i : Int) : Value := .agg #[.int .u32 s, .int .u32 d, .int .u8 p, .int .u16 i]
theorem fidWide : (match Try.prog.underlying 86 with | some (.array _ _) | some (.struct _) => true | _ => false) = true := by kernel_rfl
theorem fidKey : Try.prog.keyTypeAt 2 86 = true := by kernel_rfl
theorem fidTiled : Try.prog.tiled 2 86 = true := by kernel_rfl
set_option maxRecDepth 100000 in
theorem fidLaw : WideMaps.KeyLaw Try.prog 86 := deep_law (m := 2) (by omega) fidKey fidTiled fidWide
theorem fidKeyed : Keyed Try.prog 86 := Keyed.of_law fidLaw
theorem fidType : Try.prog.keyType 86 = true := by kernel_rfl
theorem fidFormed (s d p i : Int) : (idV s d p i).formed Try.prog 86 = true := by kernel_rfl
theorem fid_lits (n : Nat) (s d p i : Int) (hs : 0 ≤ s ∧ s ≤ 4294967295) (hd : 0 ≤ d ∧ d ≤ 4294967295) (hp : 0 ≤ p ∧ p ≤ 255) (hi : 0 ≤ i ∧ i ≤ 65535) :
    Try.prog.keyLits (n + 1 + 1) 86 [.int .u32 s, .int .u32 d, .int .u8 p, .int .u16 i] = some [.int .u32 s, .int .u32 d, .int .u8 p, .int .u16 i] := by
  have w1 : (Lit.int .u32 s).wf = true := by simp [Lit.wf, IntKind.min, IntKind.max, IntKind.signed, IntKind.bits]; omega
  have w2 : (Lit.int .u32 d).wf = true := by simp [Lit.wf, IntKind.min, IntKind.max, IntKind.signed, IntKind.bits]; omega
  have w3 : (Lit.int .u8 p).wf = true := by simp [Lit.wf, IntKind.min, IntKind.max, IntKind.signed, IntKind.bits]; omega
  have w4 : (Lit.int .u16 i).wf = true := by simp [Lit.wf, IntKind.min, IntKind.max, IntKind.signed, IntKind.bits]; omega
  have c1 : Try.prog.cellsOf 86 = 4 := by kernel_rfl
  have c2 : Try.prog.cellsOf 44 = 1 := by kernel_rfl
  have c3 : Try.prog.cellsOf 5 = 1 := by kernel_rfl
  have c4 : Try.prog.cellsOf 45 = 1 := by kernel_rfl
  unfold Program.keyLits
  rw [Try.underlying86]
  simp only [List.length_cons, List.length_nil, c1]
  simp [c2, c3, c4, Program.keyLits, Try.underlying44, Try.underlying5, Try.underlying45, w1, w2, w3, w4]
theorem fid_some (s d p i : Int) (hs : 0 ≤ s ∧ s ≤ 4294967295) (hd : 0 ≤ d ∧ d ≤ 4294967295) (hp : 0 ≤ p ∧ p ≤ 255) (hi : 0 ≤ i ∧ i ≤ 65535) : ∃ l, keyOf Try.prog 86 (idV s d p i) = some l := by
  obtain ⟨n, hn⟩ : ∃ n, Try.prog.types.size = n + 1 := ⟨Try.prog.types.size - 1, by have : 0 < Try.prog.types.size := of_decide_eq_true (by kernel_rfl); omega⟩
  unfold keyOf
  rw [Try.underlying86]
  simp only [fidType, fidFormed, Bool.and_self, if_true]
  rw [hn, show (idV s d p i).cells.toList = [.int .u32 s, .int .u32 d, .int .u8 p, .int .u16 i] from rfl, fid_lits n s d p i hs hd hp hi]
  exact ⟨_, rfl⟩
def pv (N : Nat) : Value := .pointer (some ⟨N, 0, none⟩)
def GM.key (g : GM) : Value := idV g.q.src g.q.dst g.q.proto g.q.id
def ENT (es : Array MapEntry) (gs : List GM) : Prop := es.toList.map (fun e => (e.key, e.val)) = gs.map (fun g => (g.key, pv g.N))
def KOK (s d p i : Int) : Prop := (0 ≤ s ∧ s ≤ 4294967295) ∧ (0 ≤ d ∧ d ≤ 4294967295) ∧ (0 ≤ p ∧ p ≤ 255) ∧ (0 ≤ i ∧ i ≤ 65535)
def GKEYS (gs : List GM) : Prop := (∀ g ∈ gs, KOK g.q.src g.q.dst g.q.proto g.q.id) ∧ gs.Pairwise (fun a b => a.key ≠ b.key)
section
variable {w : World} {r : Nat} {es : Array MapEntry} {clock : Nat} {gs : List GM}
theorem ent_get (hE : ENT es gs) (k : Nat) : (es.toList[k]?).map (fun e => (e.key, e.val)) = (gs[k]?).map (fun g => (g.key, pv g.N)) := by
  have := congrArg (fun l => l[k]?) hE
  simpa [ENT] using this
theorem ent_keys (hE : ENT es gs) (hK : GKEYS gs) : ∀ e ∈ es.toList, ∃ l, keyOf Try.prog 86 e.key = some l := by
  intro e he
  obtain ⟨k, hk, rfl⟩ := List.getElem_of_mem he
  have h1 := ent_get hE k
  rw [List.getElem?_eq_getElem hk] at h1
  cases hg : gs[k]? with
  | none => rw [hg] at h1; simp at h1
  | some g =>
    rw [hg] at h1
    simp at h1
    obtain ⟨a, b, c, d⟩ := hK.1 g (List.mem_of_getElem? hg)
    have h2 : es.toList[k].key = g.key := by simpa using h1.1
    rw [h2]
    exact fid_some _ _ _ _ a b c d
theorem find_yes (hE : ENT es gs) (hK : GKEYS gs) {k : Nat} {g : GM} (hg : gs[k]? = some g) : (Instr.findKey 86 g.key es.toList).run Try.prog w = .ok (some (k, pv g.N)) w := by
  obtain ⟨a, b, c, d⟩ := hK.1 g (List.mem_of_getElem? hg)
  obtain ⟨l, hl⟩ := fid_some _ _ _ _ a b c d
  rcases fidKeyed.find w hl es.toList (ent_keys hE hK) with ⟨_, h2⟩ | ⟨j, e, h1, h2, h3⟩
  · have h1 := ent_get hE k
    rw [hg] at h1
    cases he : es.toList[k]? with
    | none => rw [he] at h1; simp at h1
    | some e =>
      rw [he] at h1; simp at h1
      exact absurd h1.1 (h2 e (List.mem_of_getElem? he))
  · have h4 := ent_get hE j
    rw [h2] at h4
    cases hj : gs[j]? with
    | none => rw [hj] at h4; simp at h4
    | some g2 =>
      rw [hj] at h4; simp at h4
      have hkj : k = j := by
        obtain ⟨hk1, hk2⟩ := List.getElem?_eq_some_iff.1 hg
        obtain ⟨hj1, hj2⟩ := List.getElem?_eq_some_iff.1 hj
        have hp := List.pairwise_iff_getElem.1 hK.2
        have e1 : g.key = g2.key := h3.symm.trans h4.1
        rcases Nat.lt_trichotomy k j with h | h | h
        · exact absurd (by rw [hk2, hj2]; exact e1) (hp k j hk1 hj1 h)
        · exact h
        · exact absurd (by rw [hk2, hj2]; exact e1.symm) (hp j k hj1 hk1 h)
      subst hkj
      rw [hg] at hj
      cases hj
      rw [← h4.2]; exact h1
theorem find_no (hE : ENT es gs) (hK : GKEYS gs) {s d p i : Int} (ho : KOK s d p i) (hno : ∀ g ∈ gs, g.key ≠ idV s d p i) : (Instr.findKey 86 (idV s d p i) es.toList).run Try.prog w = .ok none w := by
  obtain ⟨a, b, c, e⟩ := ho
  obtain ⟨l, hl⟩ := fid_some s d p i a b c e
  rcases fidKeyed.find w hl es.toList (ent_keys hE hK) with ⟨h1, _⟩ | ⟨j, e, h1, h2, h3⟩
  · exact h1
  · have h4 := ent_get hE j
    rw [h2] at h4
    cases hj : gs[j]? with
    | none => rw [hj] at h4; simp at h4
    | some g2 =>
      rw [hj] at h4; simp at h4
      exact absurd (h4.1.symm.trans h3) (hno g2 (List.mem_of_getElem? hj))
theorem check_fid (b : Bool) {s d p i : Int} (ho : KOK s d p i) : (Instr.checkKey b 10000 86 (idV s d p i)).run Try.prog w = .ok () w := by
  obtain ⟨a, b', c, e⟩ := ho
  obtain ⟨l, hl⟩ := fid_some s d p i a b' c e
  exact fidKeyed.check w b hl
theorem look_yes (h : w.heap[r]? = some (.map es clock)) (hE : ENT es gs) (hK : GKEYS gs) {k : Nat} {g : GM} (hg : gs[k]? = some g) :
    (Instr.lookup 77 (.map (some r)) g.key true).run Try.prog w = .ok (.tuple #[pv g.N, .bool true]) w := by
  have hgo : (getObj r).run Try.prog w = .ok (.map es clock) w := by simp [getObj, Sem.run, h]
  have hc := check_fid (w := w) es.isEmpty (hK.1 g (List.mem_of_getElem? hg))
  have hf := find_yes (w := w) hE hK hg
  unfold GM.key at hf ⊢
  simp [Instr.lookup, run_underlying Try.underlying77, hgo, hc, hf]
theorem look_no (h : w.heap[r]? = some (.map es clock)) (hE : ENT es gs) (hK : GKEYS gs) {s d p i : Int} (ho : KOK s d p i) (hno : ∀ g ∈ gs, g.key ≠ idV s d p i) :
    (Instr.lookup 77 (.map (some r)) (idV s d p i) true).run Try.prog w = .ok (.tuple #[.pointer none, .bool false]) w := by
  have hgo : (getObj r).run Try.prog w = .ok (.map es clock) w := by simp [getObj, Sem.run, h]
  have hz : (zeroValue 83).run Try.prog w = .ok (.pointer none) w := by kernel_rfl
  simp [Instr.lookup, run_underlying Try.underlying77, hgo, check_fid (w := w) es.isEmpty ho, find_no (w := w) hE hK ho hno, hz]
theorem put_new (h : w.heap[r]? = some (.map es clock)) (hE : ENT es gs) (hK : GKEYS gs) {s d p i : Int} (ho : KOK s d p i) (hno : ∀ g ∈ gs, g.key ≠ idV s d p i) (v : Value) :
    (Instr.mapUpdate 77 (.map (some r)) (idV s d p i) v).run Try.prog w = .ok () (w.putObj r (.map (es.push { key := idV s d p i, val := v, born := clock }) (clock + 1))) := by
  have hgo : (getObj r).run Try.prog w = .ok (.map es clock) w := by simp [getObj, Sem.run, h]
  have hs : ∀ o, (setObj r o).run Try.prog w = .ok () (w.putObj r o) := fun o => by simp [setObj, Sem.run, h, World.putObj]
  simp [Instr.mapUpdate, run_underlying Try.underlying77, hgo, hs, check_fid (w := w) false ho, find_no (w := w) hE hK ho hno]
theorem del_at (h : w.heap[r]? = some (.map es clock)) (hE : ENT es gs) (hK : GKEYS gs) {k : Nat} {g : GM} (hg : gs[k]? = some g) (ty : TypeId) :
    (Builtin.delete_ #[77, 86] ty #[.map (some r), g.key]).run Try.prog w = .ok (.tuple #[]) (w.putObj r (.map (es.eraseIdxIfInBounds k) clock)) := by
  have hgo : (getObj r).run Try.prog w = .ok (.map es clock) w := by simp [getObj, Sem.run, h]
  have hs : ∀ o, (setObj r o).run Try.prog w = .ok () (w.putObj r o) := fun o => by simp [setObj, Sem.run, h, World.putObj]
  have hc := check_fid (w := w) es.isEmpty (hK.1 g (List.mem_of_getElem? hg))
  have hf := find_yes (w := w) hE hK hg
  unfold GM.key at hf ⊢
  simp [Builtin.delete_, run_underlying Try.underlying77, hgo, hs, hc, hf]
theorem ENT.push (hE : ENT es gs) (g : GM) (b : Nat) : ENT (es.push { key := g.key, val := pv g.N, born := b }) (gs ++ [g]) := by
  unfold ENT at *
  simp [hE]
theorem map_er {α β : Type} (f : α → β) : ∀ (l : List α) (k : Nat), (l.eraseIdx k).map f = (l.map f).eraseIdx k
  | [], _ => rfl
  | a :: l, 0 => rfl
  | a :: l, k + 1 => by simp [map_er f l k]
theorem ENT.erase (hE : ENT es gs) (k : Nat) (hk : k < gs.length) : ENT (es.eraseIdxIfInBounds k) (gs.eraseIdx k) := by
  have hl : es.size = gs.length := by have := congrArg List.length hE; simpa using this
  unfold ENT at *
  have h1 : (es.eraseIdxIfInBounds k).toList = es.toList.eraseIdx k := by
    unfold Array.eraseIdxIfInBounds
    rw [dif_pos (by omega)]
    simp
  rw [h1, map_er, map_er, hE]
end
end Go.Proofs.Ytljbfnabnkkfeaa
