import Derived.WalkKit
import Derived.Lib.Hide
import Derived.Below
import Derived.Laws.OwnMore
import Derived.Deep.AppendLies
import Derived.Deep.Draws
import Derived.Maps.AppendAt
import Derived.OwnWalk
import Derived.RegionTactic
import Derived.Laws.Rows
import Derived.Laws.Tables
import Derived.Deep.RegionHeld3
import Derived.Deep.DrawnRows
import Derived.BigFrame
import Derived.ProofKit
import Derived.OpenShut
import Derived.RangeFuncNested
import Derived.RangeFuncBound
import Derived.RangeFuncCalls
import Derived.RangeFuncLeaves
import Derived.Shelf.Abstract
import Derived.Shelf.RegionOpen
import Derived.OwnWalkIn
import Derived.TacticsInMore
import Derived.LoopNIn
import Derived.LoopIn
import Derived.WalkSpells
import Derived.Deep.QuietTactic
import Derived.BigQuiet
import Derived.Deep.DeepCutAuto
import Derived.Deep.MidRow
import Derived.Laws.BitsLemmas
import Derived.Laws.BitsAllLaws
import Derived.Outline
import Derived.Laws.CopyOwn
import Derived.Deep.RegionLaw
import Derived.Laws.MakeOwn
import Derived.Maps.Keyed
import Derived.DeepKeys3
import Derived.DeepKeys4
import Derived.Laws.ResultCell
import Derived.Laws.EntriesVeiled
import Derived.BigRegion
import Derived.Lib.SliceRun
import Derived.LaidEql
import Derived.Maps.OwnIn
import Derived.Test.YtljbfnabnkkfeaaProg
import Derived.Test.YtljbfnabnkkfeaaTL01
import Derived.Test.YtljbfnabnkkfeaaTL02
import Derived.Test.YtljbfnabnkkfeaaTL03
import Derived.Test.YtljbfnabnkkfeaaTL04
import Derived.Test.YtljbfnabnkkfeaaTL05
import Derived.Test.YtljbfnabnkkfeaaTL06
import Derived.Test.YtljbfnabnkkfeaaTL07
import Derived.Test.YtljbfnabnkkfeaaTL08
import Derived.Test.YtljbfnabnkkfeaaTL09
import Derived.Test.YtljbfnabnkkfeaaTL10
import Derived.Test.YtljbfnabnkkfeaaTL11
import Derived.Test.YtljbfnabnkkfeaaTL12
import Derived.Test.YtljbfnabnkkfeaaTL13
import Derived.Test.YtljbfnabnkkfeaaTL14
import Derived.Test.YtljbfnabnkkfeaaTL15
/- Joined by program: FgQG, FgQR, FgQV, Cuts2, FgQD, FgQWd. -/
namespace Go.Proofs.Ytljbfnabnkkfeaa
open Go.RowKit
set_option linter.unusedVariables false
set_option linter.unusedSimpArgs false
set_option maxHeartbeats 1000000 in
set_option maxRecDepth 100000 in
theorem r7groups_any (r : RT) (A : Option Addr) (n c : Nat) (l : List EM) (w : World) (h : RTM w r A n c l) (hn : n ≤ 100000) :
    Calls Try.prog 65 #[r.val A n c] w fun e w' => ∃ B d, e = .returned (.slice B n d) ∧ SP w w' [.row 151 7 B n d (l.flatMap EM.gcells)] := by
  have H := Lib.hid h.row
  obtain ⟨S, hS⟩ : ∃ b, w.heap.size = b := ⟨_, rfl⟩
  have X0 := Lib.hid ((SP.start w).alloc' (N := S) 109 #[.int .i64 r.limit, .int .i64 r.life, .int .i64 r.now, .slice A n c] hS)
  clear h
  unfold RT.val
  go_enter Try.func65, Try.ntmps65
  go_upto_region 3 with fail
  obtain ⟨w1, hw1⟩ : ∃ w1, w1 = w.alloc (.cells #[.int .i64 r.limit, .int .i64 r.life, .int .i64 r.now, .slice A n c] 109) := ⟨_, rfl⟩
  rw [← hw1] at X0 ⊢
  clear hw1
  obtain ⟨TC, hTC⟩ : ∃ v : Array Value, #[.int .i64 r.limit, .int .i64 r.life, .int .i64 r.now, .slice A n c] = v := ⟨_, rfl⟩
  have HTC := Lib.hid hTC
  rw [hTC] at X0
  clear hTC
  have X1 := Lib.hid (show SP w w1 (.row 151 7 none 0 0 (([] : List EM).flatMap EM.gcells) :: [.blk S 109 TC]) from (X0.out.pushRow 151 7).rot)
  obtain ⟨i0, hi0, hz0, hz1, hz2⟩ := info_parts (show (Try.prog.info? 151).map (fun i => (i.zero, i.size, i.bytes)) = some (some (.agg #[.int .u32 0, .int .u32 0, .int .u8 0, .int .u16 0, .int .i64 0, .int .i64 0, .bool false]), 7, 40) by kernel_rfl)
  clear X0
  go_loopw [3, 4] (fun s3 s4 wr => ∃ (k : Nat) (B : Option Addr) (d : Nat), k ≤ n ∧ s3 = .slice B k d ∧ s4 = .int .i64 (k : Int) ∧ SP w wr (.row 151 7 B k d ((l.take k).flatMap EM.gcells) :: [.blk S 109 TC])) (fun _ s4 _ => n - (intOf s4).toNat)
  case atStart => exact ⟨0, none, 0, Nat.zero_le _, rfl, rfl, by rw [List.take_zero]; exact X1.out⟩
  case round =>
    obtain ⟨k, B, d, hk, rfl, rfl, Y0⟩ := hrel
    have Y := Lib.hid Y0
    clear Y0 X1
    have k3 : wr.cell? ⟨S, 3, none⟩ = some (.slice A n c) := Y.out.cell 1 rfl 3 (by rw [← HTC.out]; rfl)
    by_cases hlt : k < n
    · have t1 : (k : Int) < (n : Int) := by omega
      have t0 : (0 : Int) ≤ (k : Int) := by omega
      obtain ⟨x, hx⟩ : ∃ x, l[k]? = some x := ⟨_, List.getElem?_eq_getElem (by rw [H.out.len]; exact hlt)⟩
      have HX := Lib.hid hx
      obtain ⟨g, off, rfl, hg, hc⟩ := H.out.at_ k x hx
      have HC := Lib.hid (show ∀ W, Below w.heap.size w W → W.rangeAt g (off + k * 8) x.gcells from fun W hb j v hv => by
        have hj : j < x.gcells.length := (List.getElem?_eq_some_iff.1 hv).1
        exact (hb.cell (p := ⟨g, _, none⟩) hg).trans (hc j v (by unfold EM.cells; rw [List.getElem?_append_left hj]; exact hv)))
      have e6 : IntKind.i64.wrap ((k : Int) + 1) = (k : Int) + 1 := IntWalk.i64_in _ (by omega)
      clear hc hx hg
      obtain ⟨gs0, hgs0⟩ : ∃ gs0, l.take k = gs0 := ⟨_, rfl⟩
      have HGS := Lib.hid hgs0
      rw [hgs0] at Y
      clear hgs0
      have RA := Lib.hid (show wr.rangeAt g (off + k * 8) [.int .u32 x.e.src, .int .u32 x.e.dst, .int .u8 x.e.proto, .int .u16 x.e.id, .int .i64 x.e.begin_, .int .i64 (x.e.bytes : Int), .bool x.e.dead] from HC.out wr Y.out.bel)
      obtain ⟨EB, hEB⟩ : ∃ b, wr.heap.size = b := ⟨_, rfl⟩
      have X8 := Lib.hid (Y.out.next ((Below.refl _ wr).alloc (Nat.le_refl _) (.cells #[.int .u32 x.e.src, .int .u32 x.e.dst, .int .u8 x.e.proto, .int .u16 x.e.id, .int .i64 x.e.begin_, .int .i64 (x.e.bytes : Int), .bool x.e.dead] 151)))
      have HN1 := Lib.hid (fun (jj : Nat) (u : Value) (hu : ([.int .u32 x.e.src, .int .u32 x.e.dst, .int .u8 x.e.proto, .int .u16 x.e.id, .int .i64 x.e.begin_, .int .i64 (x.e.bytes : Int), .bool x.e.dead] : List Value)[jj]? = some u) => (show (wr.alloc (.cells #[.int .u32 x.e.src, .int .u32 x.e.dst, .int .u8 x.e.proto, .int .u16 x.e.id, .int .i64 x.e.begin_, .int .i64 (x.e.bytes : Int), .bool x.e.dead] 151)).cell? ((⟨EB, 0, none⟩ : Addr).add jj) = some u from by
        have h2 := many_new wr 151 [.int .u32 x.e.src, .int .u32 x.e.dst, .int .u8 x.e.proto, .int .u16 x.e.id, .int .i64 x.e.begin_, .int .i64 (x.e.bytes : Int), .bool x.e.dead] jj u hu
        rw [hEB] at h2
        exact h2))
      go_upto_region 5 with fail
      go_wp2_with (first
        | (refine wpList_load_mid (by rfl) 151 _ (by rfl) g (off + k * 8) (by rfl) [.int .u32 x.e.src, .int .u32 x.e.dst, .int .u8 x.e.proto, .int .u16 x.e.id, .int .i64 x.e.begin_, .int .i64 (x.e.bytes : Int), .bool x.e.dead] _ RA.out Try.underlying151 rfl (by kernel_rfl) ?_)
        | (refine wpList_append_row1_w _ (by rfl) _ _ 116 rfl w.heap.size 151 i0 _ 7 40 Try.underlying116 hi0 hz0 hz1 hz2 (by rfl) (by decide) B k d (gs0.flatMap EM.gcells) rfl (X8.out.row 0 rfl) ⟨EB, 0, none⟩ 1 1 [.int .u32 x.e.src, .int .u32 x.e.dst, .int .u8 x.e.proto, .int .u16 x.e.id, .int .i64 x.e.begin_, .int .i64 (x.e.bytes : Int), .bool x.e.dead] rfl rfl HN1.out (by intro z hz; simp at hz; rcases hz with rfl | rfl | rfl | rfl | rfl | rfl | rfl <;> rfl) (by simp only [maxLen]; omega) (by omega) X8.out.size ?_; intro Ay cy wY hrow hgrow hat; have X9 := Lib.hid (X8.out.appRow 0 rfl hrow hgrow hat); clear hrow hgrow hat))
      go_roundw
      case rel =>
        refine ⟨k + 1, Ay, cy, by omega, rfl, by go_num, ?_⟩
        have e1 : (l.take (k + 1)).flatMap EM.gcells = gs0.flatMap EM.gcells ++ x.gcells := by
          rw [List.take_add_one, HX.out, HGS.out, List.flatMap_append]
          simp
        rw [e1]
        exact X9.out
      case measure => simp [intOf]; omega
    · have t1 : ¬ (k : Int) < (n : Int) := by omega
      obtain rfl : k = n := by omega
      have hs : l.take k = l := List.take_of_length_le (by have := H.out.len; omega)
      rw [hs] at Y
      go_wp2_with fail
      go_ret
      exact ⟨B, d, rfl, Y.out.sub (by simp)⟩
end Go.Proofs.Ytljbfnabnkkfeaa
namespace Go.Proofs.Ytljbfnabnkkfeaa
open Go.RowKit
set_option linter.unusedVariables false
set_option linter.unusedSimpArgs false
theorem flat_get {α : Type} (f : α → List Value) (m : Nat) (hf : ∀ x, (f x).length = m) : ∀ (l : List α) (i : Nat) (x : α), l[i]? = some x → ∀ j, j < m → (l.flatMap f)[i * m + j]? = (f x)[j]?
  | [], i, x, h, j, hj => by simp at h
  | y :: l, 0, x, h, j, hj => by
    simp at h; subst h
    rw [List.flatMap_cons, Nat.zero_mul, Nat.zero_add, List.getElem?_append_left (by rw [hf]; exact hj)]
  | y :: l, i + 1, x, h, j, hj => by
    rw [List.getElem?_cons_succ] at h
    have hm : (i + 1) * m = i * m + m := Nat.succ_mul i m
    rw [List.flatMap_cons, List.getElem?_append_right (by rw [hf]; omega), hf, show (i + 1) * m + j - m = i * m + j by omega]
    exact flat_get f m hf l i x h j hj
theorem em_len (x : EM) : x.cells.length = 8 := rfl
theorem fm_len (x : FM) : x.cells.length = 11 := rfl
theorem erow_of_row {w : World} {base n c : Nat} {B : Option Addr} {e : TypeId} {l : List EM} (h : w.ownsRow base e 8 (.slice B n c) n (l.flatMap EM.cells)) (hl : l.length = n) (hc : n ≤ c) (hok : ∀ x ∈ l, EMOK w x) : EROW w B n c l where
  len := hl
  cap := hc
  at_ := fun i x hx => by
    have hi : i < n := by rw [← hl]; exact (List.getElem?_eq_some_iff.1 hx).1
    obtain ⟨g, rfl, hg⟩ := row_head h (by omega)
    refine ⟨g, 0, rfl, ?_, fun j v hv => ?_⟩
    · have h1 := hg (i * 8) (by omega)
      rw [show i * 8 = i * 8 + 0 by rfl, flat_get EM.cells 8 em_len l i x hx 0 (by omega)] at h1
      refine Classical.byContradiction fun hn => ?_
      have h2 : w.heap[g]? = none := Array.getElem?_eq_none (by omega)
      unfold World.cell? at h1
      rw [h2] at h1
      cases h1
    · have hj : j < 8 := (List.getElem?_eq_some_iff.1 hv).1
      rw [Nat.zero_add, hg (i * 8 + j) (by omega), flat_get EM.cells 8 em_len l i x hx j hj]
      exact hv
  ok := hok
theorem frow_of_row {w : World} {base n c : Nat} {B : Option Addr} {e : TypeId} {l : List FM} (h : w.ownsRow base e 11 (.slice B n c) n (l.flatMap FM.cells)) (hl : l.length = n) (hok : ∀ x ∈ l, FMOK w x) : FROW w B n l where
  len := hl
  at_ := fun i x hx => by
    have hi : i < n := by rw [← hl]; exact (List.getElem?_eq_some_iff.1 hx).1
    obtain ⟨g, rfl, hg⟩ := row_head h (by omega)
    refine ⟨g, 0, rfl, ?_, fun j v hv => ?_⟩
    · have h1 := hg (i * 11) (by omega)
      rw [show i * 11 = i * 11 + 0 by rfl, flat_get FM.cells 11 fm_len l i x hx 0 (by omega)] at h1
      refine Classical.byContradiction fun hn => ?_
      have h2 : w.heap[g]? = none := Array.getElem?_eq_none (by omega)
      unfold World.cell? at h1
      rw [h2] at h1
      cases h1
    · have hj : j < 11 := (List.getElem?_eq_some_iff.1 hv).1
      rw [Nat.zero_add, hg (i * 11 + j) (by omega), flat_get FM.cells 11 fm_len l i x hx j hj]
      exact hv
  ok := hok
end Go.Proofs.Ytljbfnabnkkfeaa
namespace Go.Proofs.Ytljbfnabnkkfeaa
open Go.RowKit
set_option linter.unusedVariables false
set_option linter.unusedSimpArgs false
theorem cell_of_heap {w w' : World} {p : Addr} (h : w'.heap[p.block]? = w.heap[p.block]?) : w'.cell? p = w.cell? p := by
  unfold World.cell?
  rw [h]
structure EFT (X : Nat → Prop) (A : Option Addr) (l : List EM) : Prop where
  a : l ≠ [] → ∀ p, A = some p → X p.block
  fr : ∀ x ∈ l, x.fs ≠ [] → ∀ p, x.fA = some p → X p.block
  o : ∀ x ∈ l, ∀ f ∈ x.fs, 0 < f.on → ∀ p, f.oA = some p → X p.block
  d : ∀ x ∈ l, ∀ f ∈ x.fs, 0 < f.dn → ∀ p, f.dA = some p → X p.block
theorem EFT.nil (X : Nat → Prop) (A : Option Addr) : EFT X A [] := ⟨fun h => absurd rfl h, fun x h => (by cases h), fun x h => (by cases h), fun x h => (by cases h)⟩
theorem EFT.mono {X Y : Nat → Prop} {A : Option Addr} {l : List EM} (h : EFT X A l) (hx : ∀ g, X g → Y g) : EFT Y A l :=
  ⟨fun hn p hp => hx _ (h.a hn p hp), fun x hm hn p hp => hx _ (h.fr x hm hn p hp), fun x hm f hf hn p hp => hx _ (h.o x hm f hf hn p hp), fun x hm f hf hn p hp => hx _ (h.d x hm f hf hn p hp)⟩
theorem EFT.sub {X : Nat → Prop} {A B : Option Addr} {l l' : List EM} (h : EFT X A l) (hs : ∀ x ∈ l', x ∈ l) (hB : l' ≠ [] → ∀ p, B = some p → X p.block) : EFT X B l' :=
  ⟨hB, fun x hm => h.fr x (hs x hm), fun x hm => h.o x (hs x hm), fun x hm => h.d x (hs x hm)⟩
def EFE (X : Nat → Prop) (x : EM) : Prop := EFT X none [x]
theorem EFT.each {X : Nat → Prop} {A : Option Addr} {l : List EM} (h : EFT X A l) {x : EM} (hx : x ∈ l) : EFE X x := h.sub (fun y hy => by simp at hy; subst hy; exact hx) (fun _ p hp => by cases hp)
theorem EFT.of {X : Nat → Prop} {A : Option Addr} {l : List EM} (h : ∀ x ∈ l, EFE X x) (hA : l ≠ [] → ∀ p, A = some p → X p.block) : EFT X A l :=
  ⟨hA, fun x hm => (h x hm).fr x (by simp), fun x hm => (h x hm).o x (by simp), fun x hm => (h x hm).d x (by simp)⟩
section
variable {w w' : World} {X : Nat → Prop} {k : IntKind} {A : Option Addr} {n c : Nat}
theorem lt_of_same {g : Nat} (h : w'.heap[g]? = w.heap[g]?) (hg : g < w.heap.size) : g < w'.heap.size := by
  rw [Array.getElem?_eq_getElem hg] at h
  exact (Array.getElem?_eq_some_iff.1 h).1
theorem RD.keepX {zs : List Int} (h : RD k w w.heap.size A n zs) (hX : 0 < n → ∀ p, A = some p → X p.block) (hk : ∀ g, X g → w'.heap[g]? = w.heap[g]?) : RD k w' w'.heap.size A n zs :=
  ⟨h.1, fun hn => by
    obtain ⟨b, off, e, hb, hc⟩ := h.2 hn
    have h2 := hk b (hX hn _ e)
    exact ⟨b, off, e, lt_of_same h2 hb, fun i hi => (cell_of_heap (p := ⟨b, off + i, none⟩) h2).trans (hc i hi)⟩⟩
theorem FROW.keepX {l : List FM} (h : FROW w A n l) (hA : l ≠ [] → ∀ p, A = some p → X p.block) (ho : ∀ f ∈ l, 0 < f.on → ∀ p, f.oA = some p → X p.block) (hd : ∀ f ∈ l, 0 < f.dn → ∀ p, f.dA = some p → X p.block) (hk : ∀ g, X g → w'.heap[g]? = w.heap[g]?) : FROW w' A n l where
  len := h.len
  at_ := fun i x hx => by
    obtain ⟨g, off, h1, h2, h3⟩ := h.at_ i x hx
    have h4 := hk g (hA (List.ne_nil_of_mem (List.mem_of_getElem? hx)) _ h1)
    exact ⟨g, off, h1, lt_of_same h4 h2, fun j v hv => (cell_of_heap (p := ⟨g, off + i * 11 + j, none⟩) h4).trans (h3 j v hv)⟩
  ok := fun x hx => ⟨(h.ok x hx).o.keepX (ho x hx) hk, (h.ok x hx).d.keepX (hd x hx) hk, (h.ok x hx).oc, (h.ok x hx).dc, (h.ok x hx).ok⟩
theorem EMOK.keepX {x : EM} (h : EMOK w x) (hF : EFE X x) (hk : ∀ g, X g → w'.heap[g]? = w.heap[g]?) : EMOK w' x :=
  ⟨h.row.keepX (hF.fr x (by simp)) (hF.o x (by simp)) (hF.d x (by simp)) hk, h.fs, h.fc, h.fn⟩
theorem EROW.keepX {l : List EM} (h : EROW w A n c l) (hF : EFT X A l) (hk : ∀ g, X g → w'.heap[g]? = w.heap[g]?) : EROW w' A n c l where
  len := h.len
  cap := h.cap
  at_ := fun i x hx => by
    obtain ⟨g, off, h1, h2, h3⟩ := h.at_ i x hx
    have h4 := hk g (hF.a (List.ne_nil_of_mem (List.mem_of_getElem? hx)) _ h1)
    exact ⟨g, off, h1, lt_of_same h4 h2, fun j v hv => (cell_of_heap (p := ⟨g, off + i * 8 + j, none⟩) h4).trans (h3 j v hv)⟩
  ok := fun x hx => (h.ok x hx).keepX (hF.each hx) hk
theorem RD.foot {zs : List Int} (h : RD k w w.heap.size A n zs) (hn : 0 < n) : ∀ p, A = some p → p.block < w.heap.size := fun p hp => by
  obtain ⟨b, off, e, hb, _⟩ := h.2 hn
  rw [e] at hp; cases hp; exact hb
theorem FROW.foot {l : List FM} (h : FROW w A n l) (hn : l ≠ []) : ∀ p, A = some p → p.block < w.heap.size := fun p hp => by
  obtain ⟨x, l', rfl⟩ := List.exists_cons_of_ne_nil hn
  obtain ⟨g, off, e, hb, _⟩ := h.at_ 0 x rfl
  rw [e] at hp; cases hp; exact hb
theorem EMOK.foot {x : EM} (h : EMOK w x) : EFE (· < w.heap.size) x := by
  refine ⟨fun _ p hp => (by cases hp), fun y hy hn => ?_, fun y hy f hf hn => ?_, fun y hy f hf hn => ?_⟩
  all_goals (simp at hy; subst hy)
  · exact h.row.foot hn
  · exact (h.row.ok f hf).o.foot hn
  · exact (h.row.ok f hf).d.foot hn
theorem EROW.foot {l : List EM} (h : EROW w A n c l) : EFT (· < w.heap.size) A l := by
  refine EFT.of (fun x hx => (h.ok x hx).foot) (fun hn p hp => ?_)
  obtain ⟨x, l', rfl⟩ := List.exists_cons_of_ne_nil hn
  obtain ⟨g, off, e, hb, _⟩ := h.at_ 0 x rfl
  rw [e] at hp; cases hp; exact hb
end
def cutM (m : Nat) (A : Option Addr) (c lo : Nat) : Option Addr := if c = lo then A else A.map (·.add (lo * m))
theorem run_slice_loM {P : Program} (w : World) {t e : TypeId} {i : TypeInfo} {m : Nat} (ht : P.underlying t = some (.slice e)) (hi : P.info? e = some i) (hs : i.size = m) (A : Option Addr) (n c : Nat) (q : Int) (lo : Nat) (hq : q = lo) (h1 : lo ≤ n) :
    (Instr.slice t (.slice A n c) (some (.int .i64 q)) none none).run P w = .ok (.slice (cutM m A c lo) (n - lo) (c - lo)) w := by
  subst hq
  have h2 : (0 : Int) ≤ (lo : Int) ∧ (lo : Int) ≤ (n : Int) := by omega
  simp [Instr.slice, run_underlying ht, Instr.sliceBounds, Instr.sliceBound, asIntOf, sizeOf, typeInfo, hi, hs, h1, cutM]
section
variable {w w' : World} {A : Option Addr} {n c : Nat} {l : List EM}
theorem EROW.take (h : EROW w A n c l) {m : Nat} (hm : m ≤ n) : EROW w A m c (l.take m) where
  len := by rw [List.length_take, h.len]; omega
  cap := Nat.le_trans hm h.cap
  at_ := fun i x hx => by
    rw [List.getElem?_take] at hx
    split at hx
    · exact h.at_ i x hx
    · cases hx
  ok := fun x hx => h.ok x (List.mem_of_mem_take hx)
theorem EROW.drop (h : EROW w A n c l) {lo : Nat} (hlo : lo ≤ n) : EROW w (cutM 8 A c lo) (n - lo) (c - lo) (l.drop lo) where
  len := by rw [List.length_drop, h.len]
  cap := by have := h.cap; omega
  at_ := fun i x hx => by
    rw [List.getElem?_drop] at hx
    obtain ⟨g, off, rfl, h2, h3⟩ := h.at_ (lo + i) x hx
    have hlt := (List.getElem?_eq_some_iff.1 hx).1
    have hl := h.len
    have hc := h.cap
    refine ⟨g, off + lo * 8, ?_, h2, fun j v hv => ?_⟩
    · unfold cutM
      rw [if_neg (by omega)]
      show some ((⟨g, off, none⟩ : Addr).add (lo * 8)) = _
      rw [Addr.add_mid]
    · rw [show off + lo * 8 + i * 8 + j = off + (lo + i) * 8 + j by omega]
      exact h3 j v hv
  ok := fun x hx => h.ok x (List.mem_of_mem_drop hx)
theorem EFT.take {X : Nat → Prop} (h : EFT X A l) (m : Nat) : EFT X A (l.take m) := h.sub (fun x hx => List.mem_of_mem_take hx) (fun hn => h.a (fun e => hn (by rw [e]; simp)))
theorem EFT.drop {X : Nat → Prop} (h : EFT X A l) (c m : Nat) : EFT X (cutM 8 A c m) (l.drop m) := h.sub (fun x hx => List.mem_of_mem_drop hx) (fun hn p hp => by
  have hn2 : l ≠ [] := fun e => hn (by rw [e]; simp)
  unfold cutM at hp
  split at hp
  · exact h.a hn2 p hp
  · cases A with
    | none => cases hp
    | some q =>
      simp only [Option.map_some, Option.some.injEq] at hp
      subst hp
      have := h.a hn2 q rfl
      unfold Addr.add
      split <;> exact this)
theorem flat_inv {α : Type} (f : α → List Value) (m : Nat) (hm : 0 < m) (hf : ∀ x, (f x).length = m) (l : List α) (q : Nat) (v : Value) (h : (l.flatMap f)[q]? = some v) : ∃ i x j, l[i]? = some x ∧ j < m ∧ q = i * m + j ∧ (f x)[j]? = some v := by
  have hl : (l.flatMap f).length = l.length * m := by
    rw [List.length_flatMap]
    have : l.map (fun x => (f x).length) = List.replicate l.length m := by
      rw [List.eq_replicate_iff]
      exact ⟨by rw [List.length_map], fun b hb => by obtain ⟨x, _, rfl⟩ := List.mem_map.1 hb; exact hf x⟩
    rw [this, List.sum_replicate_nat]
  have hq : q < l.length * m := by rw [← hl]; exact (List.getElem?_eq_some_iff.1 h).1
  have hi : q / m < l.length := (Nat.div_lt_iff_lt_mul hm).2 hq
  have hj : q % m < m := Nat.mod_lt _ hm
  have e : q = q / m * m + q % m := by rw [Nat.mul_comm]; exact (Nat.div_add_mod q m).symm
  refine ⟨q / m, l[q / m], q % m, List.getElem?_eq_getElem hi, hj, e, ?_⟩
  have h2 := flat_get f m hf l (q / m) _ (List.getElem?_eq_getElem hi) (q % m) hj
  rw [← e] at h2
  rw [← h2]; exact h
theorem EROW.news (h : EROW w A n c l) : ∀ j u, (l.flatMap EM.cells)[j]? = some u → ∃ ad, A = some ad ∧ w.cell? (ad.add j) = some u := fun q u hu => by
  obtain ⟨i, x, j, h1, h2, rfl, h3⟩ := flat_inv EM.cells 8 (by omega) em_len l q u hu
  obtain ⟨g, off, rfl, _, h4⟩ := h.at_ i x h1
  refine ⟨_, rfl, ?_⟩
  rw [Addr.add_mid, ← Nat.add_assoc]
  exact h4 j u h3
theorem FROW.news {l : List FM} (h : FROW w A n l) : ∀ j u, (l.flatMap FM.cells)[j]? = some u → ∃ ad, A = some ad ∧ w.cell? (ad.add j) = some u := fun q u hu => by
  obtain ⟨i, x, j, h1, h2, rfl, h3⟩ := flat_inv FM.cells 11 (by omega) fm_len l q u hu
  obtain ⟨g, off, rfl, _, h4⟩ := h.at_ i x h1
  refine ⟨_, rfl, ?_⟩
  rw [Addr.add_mid, ← Nat.add_assoc]
  exact h4 j u h3
theorem em_one (x : EM) : ∀ u ∈ x.cells, u.oneCell' = true := fun u hu => by
  unfold EM.cells EM.gcells at hu
  simp at hu
  rcases hu with rfl | rfl | rfl | rfl | rfl | rfl | rfl | rfl <;> rfl
theorem fm_one (x : FM) : ∀ u ∈ x.cells, u.oneCell' = true := fun u hu => by
  unfold FM.cells at hu
  simp at hu
  rcases hu with rfl | rfl | rfl | rfl | rfl | rfl | rfl | rfl | rfl | rfl | rfl <;> rfl
theorem ems_one (l : List EM) : ∀ u ∈ l.flatMap EM.cells, u.oneCell' = true := fun u hu => by
  obtain ⟨x, _, h⟩ := List.mem_flatMap.1 hu
  exact em_one x u h
theorem fms_one (l : List FM) : ∀ u ∈ l.flatMap FM.cells, u.oneCell' = true := fun u hu => by
  obtain ⟨x, _, h⟩ := List.mem_flatMap.1 hu
  exact fm_one x u h
theorem flat_len {α : Type} (f : α → List Value) (m : Nat) (hf : ∀ x, (f x).length = m) : ∀ (l : List α), (l.flatMap f).length = l.length * m
  | [] => by simp
  | x :: l => by rw [List.flatMap_cons, List.length_append, flat_len f m hf l, hf, List.length_cons, Nat.succ_mul]; omega
end
def objsOf (w : World) (a m : Nat) : List IT := (List.range m).map fun i => match w.heap[a + i]? with
  | some o => .obj (a + i) o
  | none => .gone
theorem objs_at {w : World} {a m i : Nat} (h : a + m ≤ w.heap.size) (hi : i < m) : ∃ o, w.heap[a + i]? = some o ∧ (match w.heap[a + i]? with | some o => IT.obj (a + i) o | none => .gone) = .obj (a + i) o := by
  have : a + i < w.heap.size := by omega
  exact ⟨w.heap[a + i], Array.getElem?_eq_getElem this, by rw [Array.getElem?_eq_getElem this]⟩
theorem objs_mem {w : World} {a m : Nat} (h : a + m ≤ w.heap.size) {x : IT} (hx : x ∈ objsOf w a m) : ∃ i o, i < m ∧ w.heap[a + i]? = some o ∧ x = .obj (a + i) o := by
  obtain ⟨i, hi, rfl⟩ := List.mem_map.1 hx
  rw [List.mem_range] at hi
  obtain ⟨o, h1, h2⟩ := objs_at h hi
  exact ⟨i, o, hi, h1, h2⟩
theorem objs_has {w : World} {a m i : Nat} (h : a + m ≤ w.heap.size) (hi : i < m) : ∃ o, w.heap[a + i]? = some o ∧ IT.obj (a + i) o ∈ objsOf w a m := by
  obtain ⟨o, h1, h2⟩ := objs_at h hi
  exact ⟨o, h1, List.mem_map.2 ⟨i, List.mem_range.2 hi, h2⟩⟩
theorem SP.pushAll {w0 w w' : World} {L : List IT} (H : SP w0 w L) (hb : Below w.heap.size w w') : SP w0 w' (objsOf w' w.heap.size (w'.heap.size - w.heap.size) ++ L) := by
  have hs := hb.size
  have h0 := H.size
  have hle : w.heap.size + (w'.heap.size - w.heap.size) ≤ w'.heap.size := by omega
  have H' := H.next hb
  refine SP.mk' H'.bel (fun x hx => ?_) ?_
  · rcases List.mem_append.1 hx with hx | hx
    · obtain ⟨i, o, hi, h1, rfl⟩ := objs_mem hle hx
      exact ⟨by omega, h1⟩
    · exact H'.mem x hx
  · refine List.pairwise_append.2 ⟨?_, H'.pw, fun x hx y hy g gx gy => ?_⟩
    · unfold objsOf
      rw [List.pairwise_map]
      refine List.nodup_range.imp_of_mem ?_
      intro i j hi hj hij g gx gy
      rw [List.mem_range] at hi hj
      obtain ⟨o, h1, h2⟩ := objs_at hle hi
      obtain ⟨o', h3, h4⟩ := objs_at hle hj
      rw [h2] at gx
      rw [h4] at gy
      simp only [IT.at_, Option.some.injEq] at gx gy
      omega
    · obtain ⟨i, o, hi, h1, rfl⟩ := objs_mem hle hx
      simp only [IT.at_, Option.some.injEq] at gx
      have := (H.ltm hy gy).2
      omega
theorem TAB.pushAll {w0 w w' : World} {TB : Nat} {a : AT} {R : List IT} (H : TAB w0 w TB a R) (hb : Below w.heap.size w w') : TAB w0 w' TB a (objsOf w' w.heap.size (w'.heap.size - w.heap.size) ++ R) := by
  obtain ⟨T, h1, h2, h3, h4, h5⟩ := H
  exact ⟨T, h1, h2, h3, h4, SP.swap (h5.pushAll hb)⟩
def KEPT (R : List IT) (g : Nat) : Prop := ∃ o, IT.obj g o ∈ R
theorem kept_same {w0 w w' : World} {R R' : List IT} (H : SP w0 w R) (H' : SP w0 w' R') (hs : ∀ g o, IT.obj g o ∈ R → IT.obj g o ∈ R') {g : Nat} (hg : KEPT R g) : w'.heap[g]? = w.heap[g]? := by
  obtain ⟨o, h⟩ := hg
  have h1 : w.heap[g]? = some o := (H.mem _ h).2
  have h2 : w'.heap[g]? = some o := (H'.mem _ (hs g o h)).2
  rw [h1, h2]
theorem kept_new {w w' : World} {R : List IT} (hs : w.heap.size ≤ w'.heap.size) {g : Nat} (h : KEPT R g ∨ w.heap.size ≤ g ∧ g < w'.heap.size) : KEPT (objsOf w' w.heap.size (w'.heap.size - w.heap.size) ++ R) g := by
  rcases h with ⟨o, h⟩ | ⟨h1, h2⟩
  · exact ⟨o, List.mem_append_right _ h⟩
  · obtain ⟨o, _, h3⟩ := objs_has (w := w') (a := w.heap.size) (m := w'.heap.size - w.heap.size) (i := g - w.heap.size) (by omega) (by omega)
    rw [show w.heap.size + (g - w.heap.size) = g by omega] at h3
    exact ⟨o, List.mem_append_left _ h3⟩
structure ABND (a : AT) : Prop where
  lim : 1 ≤ a.limit ∧ a.limit ≤ 64
  life : 1 ≤ a.life ∧ a.life ≤ 16777215
  now : 0 ≤ a.now ∧ a.now ≤ 1099511627776
  beg : ∀ g ∈ a.gs, 0 ≤ g.begin_ ∧ g.begin_ ≤ a.now
theorem TAB.bnd {w0 w : World} {TB : Nat} {a : AT} {R : List IT} (H : TAB w0 w TB a R) : ABND a := by
  obtain ⟨T, _, rfl, hi, _, _⟩ := H
  refine ⟨hi.lim, hi.life, hi.now, fun g hg => ?_⟩
  obtain ⟨x, hx, rfl⟩ := List.mem_map.1 hg
  rw [absG_begin]
  exact ⟨(hi.ok x hx).beg.1, hi.beg x hx⟩
theorem dropWhile_drop {α : Type} (p : α → Bool) : ∀ l : List α, ∃ k, l.dropWhile p = l.drop k
  | [] => ⟨0, rfl⟩
  | x :: l => by
    by_cases h : p x = true
    · rw [List.dropWhile_cons_of_pos h]
      obtain ⟨k, hk⟩ := dropWhile_drop p l
      exact ⟨k + 1, hk⟩
    · rw [List.dropWhile_cons_of_neg h]
      exact ⟨0, rfl⟩
theorem AINV.pass {a : AT} (I : AINV a) (now : Int) : AINV (passA a now) := by
  constructor
  · exact I.srt.sublist (List.dropWhile_sublist _)
  · intro h i j x y hx hy sx sy
    obtain ⟨k, hk⟩ := dropWhile_drop (overG a.life now) a.gs
    have e : (passA a now).gs = a.gs.drop k := hk
    rw [e, List.getElem?_drop] at hx hy
    have := I.keys h _ _ x y hx hy sx sy
    omega
theorem ABND.pass {a : AT} (B : ABND a) {now : Int} (h : a.now ≤ now) (h2 : now ≤ 1099511627776) : ABND (passA a now) := by
  refine ⟨B.lim, B.life, ⟨?_, h2⟩, fun g hg => ?_⟩
  · show 0 ≤ now
    have := B.now; omega
  · have := B.beg g ((List.dropWhile_sublist _).subset hg)
    show _ ∧ _ ≤ now
    omega
theorem RELT.bnd {a : AT} {r : RT} (R : RELT a r) (B : ABND a) : ∀ e ∈ r.es, 0 ≤ e.begin_ ∧ e.begin_ ≤ 1099511627776 := fun e he => by
  obtain ⟨k, hk, rfl⟩ := List.mem_iff_getElem.1 he
  have hl := R.gs.len
  have h1 := R.gs.get (List.getElem?_eq_getElem (show k < a.gs.length by omega)) (List.getElem?_eq_getElem hk)
  have h2 := B.beg _ (List.getElem_mem (show k < a.gs.length by omega))
  have := B.now
  rw [← h1.beg]; omega
end Go.Proofs.Ytljbfnabnkkfeaa
namespace Go.Proofs.Ytljbfnabnkkfeaa
open Go.RowKit
set_option linter.unusedVariables false
def findLoopIn (r : Nat) : Code → Option Code
  | .loop c => match findLoopIn r c with
    | some o => some o
    | none => if (regOps r c).isSome then some (.loop c) else none
  | .seq a b => match findLoopIn r a with
    | some o => some o
    | none => findLoopIn r b
  | .cond _ a b => match findLoopIn r a with
    | some o => some o
    | none => findLoopIn r b
  | .block _ c => findLoopIn r c
  | .scope c => findLoopIn r c
  | .rangeFunc _ _ a b => match findLoopIn r a with
    | some o => some o
    | none => findLoopIn r b
  | _ => none
noncomputable def loopIn (f : Func) (r : Nat) : Code := (f.body.bind (findLoopIn r)).getD .skip
end Go.Proofs.Ytljbfnabnkkfeaa
namespace Go.Proofs.Ytljbfnabnkkfeaa
open Go.RowKit
set_option linter.unusedVariables false
set_option linter.unusedSimpArgs false
theorem info7E : (Try.prog.info? 154).map (fun i => (i.zero, i.size, i.bytes)) = some (some (.agg #[.int .u32 0, .int .u32 0, .int .u8 0, .int .u16 0, .int .i64 0, .int .i64 0, .bool false, .slice none 0 0]), 8, 64) := by kernel_rfl
theorem info7F : (Try.prog.info? 156).map (fun i => (i.zero, i.size, i.bytes)) = some (some (.agg #[.int .u8 0, .int .u16 0, .bool false, .bool false, .int .i64 0, .int .u8 0, .int .u8 0, .int .u32 0, .int .u32 0, .slice none 0 0, .slice none 0 0]), 11, 80) := by kernel_rfl
theorem sA {α : Type} (l : List α) (i : Nat) (a : α) : l.toArray.setIfInBounds i a = (l.set i a).toArray := by simp
theorem sB {α : Type} (a b : α) (l : List α) : (a :: l).set 0 b = b :: l := rfl
theorem sC {α : Type} (a b : α) (l : List α) (n : Nat) : (a :: l).set (n + 1) b = a :: l.set n b := rfl
theorem run_append_nil0 {P : Program} (w : World) (base : Nat) (t ty e : TypeId) (i : TypeInfo) (size : Nat) (ht : P.underlying t = some (.slice e)) (hi : P.info? e = some i)
    (v : Value) (n : Nat) (xs : List Value) (hown : w.ownsRow base e size v n xs) (c : Nat) :
    (Builtin.append_ #[t, t] ty #[v, .slice none 0 c]).run P w = .ok v w := by
  rcases hown.2 with ⟨rfl, rfl⟩ | ⟨g, cap, cur, rfl, _, _, hnc, _⟩
  · simp [Builtin.append_, run_underlying ht, sizeOf, typeInfo, hi, Builtin.lenOf, Builtin.firstCells]
  · simp [Builtin.append_, run_underlying ht, sizeOf, typeInfo, hi, Builtin.lenOf, Builtin.firstCells, hnc, storeCells]
theorem grownBy_refl (w : World) (r : Option Nat) : w.grownBy w r := ⟨rfl, rfl, rfl, Nat.le_refl _, fun _ _ _ => rfl⟩
theorem run_append_rowO {P : Program} (w : World) (t ty : TypeId)
    (base : Nat) (e : TypeId) (i : TypeInfo) (z : Value) (size bytes : Nat) (ht : P.underlying t = some (.slice e)) (hi : P.info? e = some i) (hz : i.zero = some z)
    (hsize : i.size = size) (hby : i.bytes = bytes) (hzs : z.cells.size = size) (hsz : 0 < size)
    (A : Option Addr) (n c : Nat) (xs : List Value) (hown : w.ownsRow base e size (.slice A n c) n xs)
    (A2 : Option Addr) (m c2 : Nat) (news : List Value) (hl : news.length = m * size) (hnews : ∀ j u, news[j]? = some u → ∃ ad, A2 = some ad ∧ w.cell? (ad.add j) = some u) (h1 : ∀ u ∈ news, u.oneCell' = true)
    (h63 : n + m ≤ maxLen) (hbytes : (n + m) * bytes ≤ 140737488355328) (hbase : base ≤ w.heap.size) :
    ∃ A' c' w', (Builtin.append_ #[t, t] ty #[.slice A n c, .slice A2 m c2]).run P w = .ok (.slice A' (n + m) c') w' ∧ w'.ownsRow base e size (.slice A' (n + m) c') (n + m) (xs ++ news) ∧ w.grownBy w' (A.map (·.block)) ∧ (A'.map (·.block) = A.map (·.block) ∨ A'.map (·.block) = some w.heap.size) := by
  have blk : ∀ (A : Option Addr) (n c : Nat), Value.ownBlock (.slice A n c) = A.map (·.block) := fun A n c => by cases A <;> rfl
  cases A2 with
  | none =>
    obtain rfl : news = [] := by
      cases news with
      | nil => rfl
      | cons u r => obtain ⟨ad, h, _⟩ := hnews 0 u rfl; cases h
    obtain rfl : m = 0 := by
      rcases Nat.eq_zero_or_pos m with h | h
      · exact h
      · have := Nat.mul_pos h hsz; simp at hl; omega
    have hr := run_append_nil0 (P := P) w base t ty e i size ht hi (.slice A n c) n xs hown c2
    refine ⟨A, c, w, hr, ?_, grownBy_refl _ _, .inl rfl⟩
    rw [Nat.add_zero, List.append_nil]; exact hown
  | some ad =>
    obtain ⟨v', w', hr, h2, h3, h4, h5⟩ := run_append_own_at (P := P) w base t ty e i z size bytes ht hi hz hsize hby hzs hsz (.slice A n c) n xs hown ad m c2 news hl (fun j u hu => by obtain ⟨a', h, h'⟩ := hnews j u hu; cases h; exact h') h1 h63 hbytes hbase
    obtain ⟨A', c', rfl⟩ : ∃ A' c', v' = .slice A' (n + m) c' := by
      rcases h2.2 with ⟨rfl, e0⟩ | ⟨g, cap, cur, rfl, _⟩
      · exact ⟨none, 0, by rw [e0]⟩
      · exact ⟨_, _, rfl⟩
    rw [blk] at h3
    rw [blk, blk] at h5
    exact ⟨A', c', w', hr, h2, h3, h5⟩
theorem step_append_rowO {P : Program} (w : World) {ops : Array Oper} {o : Oper} {a : Act} {K : Act → World → Prop} {Q : Exit → Act → World → Prop} {E : Prop} (hgd : o.guard = none) (s x : Operand) (t : TypeId)
    (ho : o.op = .call { callee := .builtin .append, args := #[s, x], argTypes := #[t, t] })
    (base : Nat) (e : TypeId) (i : TypeInfo) (z : Value) (size bytes : Nat) (ht : P.underlying t = some (.slice e)) (hi : P.info? e = some i) (hz : i.zero = some z)
    (hsize : i.size = size) (hby : i.bytes = bytes) (hzs : z.cells.size = size) (hsz : 0 < size)
    (A : Option Addr) (n c : Nat) (xs : List Value) (hs : a.eval s = .slice A n c) (hown : w.ownsRow base e size (.slice A n c) n xs)
    (A2 : Option Addr) (m c2 : Nat) (news : List Value) (hx : a.eval x = .slice A2 m c2) (hl : news.length = m * size) (hnews : ∀ j u, news[j]? = some u → ∃ ad, A2 = some ad ∧ w.cell? (ad.add j) = some u) (h1 : ∀ u ∈ news, u.oneCell' = true)
    (h63 : n + m ≤ maxLen) (hbytes : (n + m) * bytes ≤ 140737488355328) (hbase : base ≤ w.heap.size)
    (h : ∀ A' c' w', w'.ownsRow base e size (.slice A' (n + m) c') (n + m) (xs ++ news) → w.grownBy w' (A.map (·.block)) → (A'.map (·.block) = A.map (·.block) ∨ A'.map (·.block) = some w.heap.size) → K (a.put o.dst (.slice A' (n + m) c')) w') :
    if Region.wanted o (yielded ops a.tmps) = true then Oper.wp P o a w K Q else E := by
  have hw : Region.wanted o (yielded ops a.tmps) = true := by simp [Region.wanted, hgd]
  rw [if_pos hw]
  obtain ⟨A', c', w', hr, h2, h3, h5⟩ := run_append_rowO (P := P) w t o.type base e i z size bytes ht hi hz hsize hby hzs hsz A n c xs hown A2 m c2 news hl hnews h1 h63 hbytes hbase
  unfold Oper.wp execOp
  simp only [ho, resolve, invoke, builtin, Sem.run_bind, Sem.run_pure, Result.andThen_ok, List.map_toArray, List.map_cons, List.map_nil, hs, hx, hr]
  exact h A' c' w' h2 h3 h5
theorem row_news {w : World} {base : Nat} {e : TypeId} {m g n c : Nat} {vs : List Value} (h : w.ownsRow base e m (.slice (some ⟨g, 0, none⟩) n c) n vs) : ∀ j u, vs[j]? = some u → ∃ ad, (some ⟨g, 0, none⟩ : Option Addr) = some ad ∧ w.cell? (ad.add j) = some u := by
  intro j u hu
  have hl := h.1
  have hj := (List.getElem?_eq_some_iff.1 hu).1
  refine ⟨_, rfl, ?_⟩
  rw [Addr.add_mid, Nat.zero_add, World.ownsRow.cellAt h j (by omega)]
  exact hu
end Go.Proofs.Ytljbfnabnkkfeaa
namespace Go.Proofs.Ytljbfnabnkkfeaa
open Go.RowKit
set_option linter.unusedVariables false
attribute [local go_sem ↓] Go.wp_at_zero Go.wp_at_succ
structure r7pP (w0 : World) (SB OB g off n c k m : Nat) (limit life now0 now : Int) (B : Option Addr) (d : Nat) (vs : List Value) (x : EM) (RO : List IT) : Prop where
  hk : k < n
  hm : m ≤ 100000
  ra : ∀ W, Below w0.heap.size w0 W → W.rangeAt g (off + k * 8) [.int .u32 x.e.src, .int .u32 x.e.dst, .int .u8 x.e.proto, .int .u16 x.e.id, .int .i64 x.e.begin_, .int .i64 (x.e.bytes : Int), .bool x.e.dead, .slice x.fA x.fn x.fc]
def r7pS (w0 : World) (SB OB g off n c k m : Nat) (limit life now0 now : Int) (B : Option Addr) (d : Nat) (vs : List Value) (x : EM) (RO : List IT) : World → Prop := fun W => W.cell? ⟨SB, 3, none⟩ = some (.slice (some ⟨g, off, none⟩) n c) ∧ W.rangeAt g (off + k * 8) [.int .u32 x.e.src, .int .u32 x.e.dst, .int .u8 x.e.proto, .int .u16 x.e.id, .int .i64 x.e.begin_, .int .i64 (x.e.bytes : Int), .bool x.e.dead, .slice x.fA x.fn x.fc]
set_option maxRecDepth 100000 in
def r7pF (w0 : World) (SB OB g off n c k m : Nat) (limit life now0 now : Int) (B : Option Addr) (d : Nat) (vs : List Value) (x : EM) (RO : List IT) (Fr : Value → Value → Value → Value → Value → Value → Value → Value → Value → Value → Act) : Prop := ∃ u : Nat → Value, ∀ y32 y33 y34 y35 y36 y37 y38 y39 y40 y41, Fr y32 y33 y34 y35 y36 y37 y38 y39 y40 y41 = ⟨List.toArray (u 0 :: u 1 :: .pointer (some ⟨SB, 0, none⟩) :: u 3 :: u 4 :: .pointer (some ⟨OB, 0, none⟩) :: .int .i64 (k : Int) :: u 7 :: u 8 :: u 9 :: u 10 :: u 11 :: u 12 :: u 13 :: u 14 :: u 15 :: u 16 :: u 17 :: u 18 :: u 19 :: u 20 :: u 21 :: u 22 :: u 23 :: u 24 :: u 25 :: u 26 :: u 27 :: u 28 :: u 29 :: u 30 :: u 31 :: y32 :: y33 :: y34 :: y35 :: y36 :: y37 :: y38 :: y39 :: y40 :: y41 :: u 42 :: []), []⟩
def r7pR (w0 : World) (SB OB g off n c k m : Nat) (limit life now0 now : Int) (B : Option Addr) (d : Nat) (vs : List Value) (x : EM) (RO : List IT) (Q : Exit → Act → World → Prop) (Fr : Value → Value → Value → Value → Value → Value → Value → Value → Value → Value → Act) : Prop := ∀ (y32 y33 y34 y35 y36 y37 y38 y39 y40 y41 : Value) (g39 : Nat) (A40 : Option Addr) (c40 : Nat) (w' : World), SP w0 w' ([.blk OB 109 #[.int .i64 limit, .int .i64 life, .int .i64 now, .slice A40 (m + 1) c40], .row 154 8 A40 (m + 1) c40 (vs ++ [.int .u32 x.e.src, .int .u32 x.e.dst, .int .u8 x.e.proto, .int .u16 x.e.id, .int .i64 x.e.begin_, .int .i64 (x.e.bytes : Int), .bool x.e.dead, .slice x.fA x.fn x.fc]), .blk SB 109 #[.int .i64 limit, .int .i64 life, .int .i64 now0, .slice (some ⟨g, off, none⟩) n c]] ++ RO) → Q .normal (Fr y32 y33 y34 y35 y36 y37 y38 y39 y40 y41) w'
def r7pH (w0 : World) (SB OB g off n c k m : Nat) (limit life now0 now : Int) (B : Option Addr) (d : Nat) (vs : List Value) (x : EM) (RO : List IT) (Q : Exit → Act → World → Prop) (Fr : Value → Value → Value → Value → Value → Value → Value → Value → Value → Value → Act) : Prop := Hid (r7pP w0 SB OB g off n c k m limit life now0 now B d vs x RO) ∧ r7pF w0 SB OB g off n c k m limit life now0 now B d vs x RO Fr ∧ Hid (r7pR w0 SB OB g off n c k m limit life now0 now B d vs x RO Q Fr)
set_option maxRecDepth 100000 in
def r7pQ {u0 u1 u3 u4 u7 u8 u9 u10 u11 u12 u13 u14 u15 u16 u17 u18 u19 u20 u21 u22 u23 u24 u25 u26 u27 u28 u29 u30 u31 u42 : Value} (Q : Exit → Act → World → Prop) (w0 : World) (SB OB g off n c k m : Nat) (limit life now0 now : Int) (B : Option Addr) (d : Nat) (vs : List Value) (x : EM) (RO : List IT) : Prop := ∀ (y32 y33 y34 y35 y36 y37 y38 y39 y40 y41 : Value) (g39 : Nat) (A40 : Option Addr) (c40 : Nat) (w' : World), SP w0 w' ([.blk OB 109 #[.int .i64 limit, .int .i64 life, .int .i64 now, .slice A40 (m + 1) c40], .row 154 8 A40 (m + 1) c40 (vs ++ [.int .u32 x.e.src, .int .u32 x.e.dst, .int .u8 x.e.proto, .int .u16 x.e.id, .int .i64 x.e.begin_, .int .i64 (x.e.bytes : Int), .bool x.e.dead, .slice x.fA x.fn x.fc]), .blk SB 109 #[.int .i64 limit, .int .i64 life, .int .i64 now0, .slice (some ⟨g, off, none⟩) n c]] ++ RO) → Q .normal ⟨List.toArray (u0 :: u1 :: .pointer (some ⟨SB, 0, none⟩) :: u3 :: u4 :: .pointer (some ⟨OB, 0, none⟩) :: .int .i64 (k : Int) :: u7 :: u8 :: u9 :: u10 :: u11 :: u12 :: u13 :: u14 :: u15 :: u16 :: u17 :: u18 :: u19 :: u20 :: u21 :: u22 :: u23 :: u24 :: u25 :: u26 :: u27 :: u28 :: u29 :: u30 :: u31 :: y32 :: y33 :: y34 :: y35 :: y36 :: y37 :: y38 :: y39 :: y40 :: y41 :: u42 :: []), []⟩ w'
section
variable {Q : Exit → Act → World → Prop} {y32 y33 y34 y35 y36 y37 y38 y39 y40 y41 : Value} {w0 : World} {SB OB g off n c k m : Nat} {limit life now0 now : Int} {B : Option Addr} {d : Nat} {vs : List Value} {x : EM} {RO : List IT} {Fr : Value → Value → Value → Value → Value → Value → Value → Value → Value → Value → Act}
set_option maxHeartbeats 1000000 in
set_option maxRecDepth 100000 in
theorem r7ps4 (H0 : r7pH w0 SB OB g off n c k m limit life now0 now B d vs x RO Q Fr) (g39 : Nat) (A40 : Option Addr) (c40 : Nat) (w : World) (X : Hid (SP w0 w ([.blk OB 109 #[.int .i64 limit, .int .i64 life, .int .i64 now, .slice A40 (m + 1) c40], .row 154 8 A40 (m + 1) c40 (vs ++ [.int .u32 x.e.src, .int .u32 x.e.dst, .int .u8 x.e.proto, .int .u16 x.e.id, .int .i64 x.e.begin_, .int .i64 (x.e.bytes : Int), .bool x.e.dead, .slice x.fA x.fn x.fc]), .blk SB 109 #[.int .i64 limit, .int .i64 life, .int .i64 now0, .slice (some ⟨g, off, none⟩) n c]] ++ RO))) :
    wpAnyH Try.prog .any (opsAt Try.f80 6) (NoPanic Q) (r7pS w0 SB OB g off n c k m limit life now0 now B d vs x RO) 0 #[true, true, true, true, true, true, true, true, true, true, true] (Fr y32 y33 y34 y35 y36 y37 y38 y39 y40 y41) w := by
  have H1 := Lib.hid H0
  obtain ⟨HP, ⟨u, hF⟩, HQ⟩ := H0
  rw [hF]
  obtain ⟨i0, hi0, hz0, hz1, hz2⟩ := info_parts info7E
  have hk := HP.out.hk
  have hm := HP.out.hm
  have t1 : (k : Int) < (n : Int) := by omega
  have t0 : (0 : Int) ≤ (k : Int) := by omega
  have hHeld : (r7pS w0 SB OB g off n c k m limit life now0 now B d vs x RO) w := by exact ⟨X.out.cell 2 rfl 3 rfl, HP.out.ra _ X.out.bel⟩
  refine wpAnyH_done (by kernel_rfl) ?_ _
  refine NoPanic.normal ?_
  rw [← hF]
  exact HQ.out _ _ _ _ _ _ _ _ _ _ g39 A40 c40 _ X.out
set_option maxHeartbeats 1000000 in
set_option maxRecDepth 100000 in
theorem r7ps3 (H0 : r7pH w0 SB OB g off n c k m limit life now0 now B d vs x RO Q Fr) (g39 : Nat) (A40 : Option Addr) (c40 : Nat) (w : World) (X : Hid (SP w0 w ([.blk OB 109 #[.int .i64 limit, .int .i64 life, .int .i64 now, .slice B m d], .row 154 8 A40 (m + 1) c40 (vs ++ [.int .u32 x.e.src, .int .u32 x.e.dst, .int .u8 x.e.proto, .int .u16 x.e.id, .int .i64 x.e.begin_, .int .i64 (x.e.bytes : Int), .bool x.e.dead, .slice x.fA x.fn x.fc]), .blk SB 109 #[.int .i64 limit, .int .i64 life, .int .i64 now0, .slice (some ⟨g, off, none⟩) n c]] ++ RO))) :
    wpAnyH Try.prog .any (opsAt Try.f80 6) (NoPanic Q) (r7pS w0 SB OB g off n c k m limit life now0 now B d vs x RO) 1 #[true, true, true, true, true, true, true, true, true, true, false] (Fr y32 y33 y34 y35 y36 y37 y38 y39 (.slice A40 (m + 1) c40) (.pointer (some ⟨OB, 3, none⟩))) w := by
  have H1 := Lib.hid H0
  obtain ⟨HP, ⟨u, hF⟩, HQ⟩ := H0
  rw [hF]
  obtain ⟨i0, hi0, hz0, hz1, hz2⟩ := info_parts info7E
  have hk := HP.out.hk
  have hm := HP.out.hm
  have t1 : (k : Int) < (n : Int) := by omega
  have t0 : (0 : Int) ≤ (k : Int) := by omega
  have hHeld : (r7pS w0 SB OB g off n c k m limit life now0 now B d vs x RO) w := by exact ⟨X.out.cell 2 rfl 3 rfl, HP.out.ra _ X.out.bel⟩
  refine wpAnyH_ready (rs := [10]) (by kernel_rfl) (by simp) ?_
  refine cons_lit rfl (fun K hK => ?ss10x11) AllReadyH.nil
  case ss10x11 =>
    have xc := X.out.cell 0 rfl 3 rfl
    have xf := X.out.free 0 rfl 3
    go_simp
    clear xc xf
    refine nameW' (fun v hv => ?_)
    have Y := Lib.hid (show SP w0 v ([.blk OB 109 #[.int .i64 limit, .int .i64 life, .int .i64 now, .slice A40 (m + 1) c40], .row 154 8 A40 (m + 1) c40 (vs ++ [.int .u32 x.e.src, .int .u32 x.e.dst, .int .u8 x.e.proto, .int .u16 x.e.id, .int .i64 x.e.begin_, .int .i64 (x.e.bytes : Int), .bool x.e.dead, .slice x.fA x.fn x.fc]), .blk SB 109 #[.int .i64 limit, .int .i64 life, .int .i64 now0, .slice (some ⟨g, off, none⟩) n c]] ++ RO) by rw [hv]; exact SP.pickT (A := [_, _, _]) (B := [_, _, _]) (C := RO) (X.out.setB 0 rfl 3 (.slice A40 (m + 1) c40)) [0, 1, 2] rfl (by decide))
    clear hv
    refine hK.out _ _ (by exact ⟨Y.out.cell 2 rfl 3 rfl, HP.out.ra _ Y.out.bel⟩) (fun hHeld => ?_)
    clear hK K
    (try simp only [Act.put]); (try simp only [sA, sB, sC])
    rw [← hF]
    exact r7ps4 H1.out g39 A40 c40 _ Y
set_option maxHeartbeats 1000000 in
set_option maxRecDepth 100000 in
theorem r7ps2 (H0 : r7pH w0 SB OB g off n c k m limit life now0 now B d vs x RO Q Fr) (g39 : Nat) (w : World) (X : Hid (SP w0 w ([.blk OB 109 #[.int .i64 limit, .int .i64 life, .int .i64 now, .slice B m d], .row 154 8 B m d vs, .blk SB 109 #[.int .i64 limit, .int .i64 life, .int .i64 now0, .slice (some ⟨g, off, none⟩) n c], .row 154 8 (some ⟨g39, 0, none⟩) 1 1 [.int .u32 x.e.src, .int .u32 x.e.dst, .int .u8 x.e.proto, .int .u16 x.e.id, .int .i64 x.e.begin_, .int .i64 (x.e.bytes : Int), .bool x.e.dead, .slice x.fA x.fn x.fc]] ++ RO))) :
    wpAnyH Try.prog .any (opsAt Try.f80 6) (NoPanic Q) (r7pS w0 SB OB g off n c k m limit life now0 now B d vs x RO) 3 #[true, true, true, true, true, true, true, true, false, false, false] (Fr y32 (.slice B m d) y34 y35 y36 y37 y38 (.slice (some ⟨g39, 0, none⟩) 1 1) y40 y41) w := by
  have H1 := Lib.hid H0
  obtain ⟨HP, ⟨u, hF⟩, HQ⟩ := H0
  rw [hF]
  obtain ⟨i0, hi0, hz0, hz1, hz2⟩ := info_parts info7E
  have hk := HP.out.hk
  have hm := HP.out.hm
  have t1 : (k : Int) < (n : Int) := by omega
  have t0 : (0 : Int) ≤ (k : Int) := by omega
  have hHeld : (r7pS w0 SB OB g off n c k m limit life now0 now B d vs x RO) w := by exact ⟨X.out.cell 2 rfl 3 rfl, HP.out.ra _ X.out.bel⟩
  refine wpAnyH_ready (rs := [8]) (by kernel_rfl) (by simp) ?_
  refine cons_lit rfl (fun K hK => ?ss8x9) AllReadyH.nil
  case ss8x9 =>
    refine step_append_rowO _ (by rfl) _ _ 107 (by rfl) w0.heap.size 154 i0 _ 8 64 Try.underlying107 hi0 hz0 hz1 hz2 (by rfl) (by decide) B m d vs (by rfl) (by exact X.out.row 1 rfl) (some ⟨g39, 0, none⟩) 1 1 [.int .u32 x.e.src, .int .u32 x.e.dst, .int .u8 x.e.proto, .int .u16 x.e.id, .int .i64 x.e.begin_, .int .i64 (x.e.bytes : Int), .bool x.e.dead, .slice x.fA x.fn x.fc] (by rfl) (by rfl) (row_news (X.out.row 3 rfl)) (em_one x) (by simp only [maxLen]; omega) (by omega) X.out.size ?_
    intro A40 c40 v hrow hgrow hat
    have Y := Lib.hid (show SP w0 v ([.blk OB 109 #[.int .i64 limit, .int .i64 life, .int .i64 now, .slice B m d], .row 154 8 A40 (m + 1) c40 (vs ++ [.int .u32 x.e.src, .int .u32 x.e.dst, .int .u8 x.e.proto, .int .u16 x.e.id, .int .i64 x.e.begin_, .int .i64 (x.e.bytes : Int), .bool x.e.dead, .slice x.fA x.fn x.fc]), .blk SB 109 #[.int .i64 limit, .int .i64 life, .int .i64 now0, .slice (some ⟨g, off, none⟩) n c]] ++ RO) from SP.pickT (A := [_, _, _, _]) (B := [_, _, _]) (C := RO) (X.out.appRow 1 rfl hrow hgrow hat) [0, 1, 2] rfl (by decide))
    clear hrow hgrow hat
    refine hK.out _ _ (by exact ⟨Y.out.cell 2 rfl 3 rfl, HP.out.ra _ Y.out.bel⟩) (fun hHeld => ?_)
    clear hK K
    (try simp only [Act.put]); (try simp only [sA, sB, sC])
    refine' take_lit (i := 9) (v := _) rfl (by kernel_rfl) (by kernel_rfl) (by kernel_rfl) (fun _ _ _ h => h) (Or.inl ⟨by rfl, ?yy10⟩) (by assumption) ?rr10
    case yy10 => intro w' hSw; go_simp; try (with_reducible rfl)
    (try simp only [Act.put]); (try simp only [sA, sB, sC])
    rw [← hF]
    exact r7ps3 H1.out g39 A40 c40 _ Y
set_option maxHeartbeats 1000000 in
set_option maxRecDepth 100000 in
theorem r7ps1 (H0 : r7pH w0 SB OB g off n c k m limit life now0 now B d vs x RO Q Fr) (w : World) (X : Hid (SP w0 w ([.blk OB 109 #[.int .i64 limit, .int .i64 life, .int .i64 now, .slice B m d], .row 154 8 B m d vs, .blk SB 109 #[.int .i64 limit, .int .i64 life, .int .i64 now0, .slice (some ⟨g, off, none⟩) n c]] ++ RO))) :
    wpAnyH Try.prog .any (opsAt Try.f80 6) (NoPanic Q) (r7pS w0 SB OB g off n c k m limit life now0 now B d vs x RO) 4 #[true, true, true, true, true, true, true, false, false, false, false] (Fr y32 (.slice B m d) y34 y35 y36 y37 (.agg (List.toArray [.int .u32 x.e.src, .int .u32 x.e.dst, .int .u8 x.e.proto, .int .u16 x.e.id, .int .i64 x.e.begin_, .int .i64 (x.e.bytes : Int), .bool x.e.dead, .slice x.fA x.fn x.fc])) y39 y40 y41) w := by
  have H1 := Lib.hid H0
  obtain ⟨HP, ⟨u, hF⟩, HQ⟩ := H0
  rw [hF]
  obtain ⟨i0, hi0, hz0, hz1, hz2⟩ := info_parts info7E
  have hk := HP.out.hk
  have hm := HP.out.hm
  have t1 : (k : Int) < (n : Int) := by omega
  have t0 : (0 : Int) ≤ (k : Int) := by omega
  have hHeld : (r7pS w0 SB OB g off n c k m limit life now0 now B d vs x RO) w := by exact ⟨X.out.cell 2 rfl 3 rfl, HP.out.ra _ X.out.bel⟩
  refine wpAnyH_ready (rs := [7]) (by kernel_rfl) (by simp) ?_
  refine cons_lit rfl (fun K hK => ?ss7x8) AllReadyH.nil
  case ss7x8 =>
    go_simp
    obtain ⟨g39, hg39⟩ : ∃ g, g = w.heap.size := ⟨_, rfl⟩
    rw [← hg39]
    refine nameW' (fun v hv => ?_)
    have Y := Lib.hid (show SP w0 v ([.blk OB 109 #[.int .i64 limit, .int .i64 life, .int .i64 now, .slice B m d], .row 154 8 B m d vs, .blk SB 109 #[.int .i64 limit, .int .i64 life, .int .i64 now0, .slice (some ⟨g, off, none⟩) n c], .row 154 8 (some ⟨g39, 0, none⟩) 1 1 [.int .u32 x.e.src, .int .u32 x.e.dst, .int .u8 x.e.proto, .int .u16 x.e.id, .int .i64 x.e.begin_, .int .i64 (x.e.bytes : Int), .bool x.e.dead, .slice x.fA x.fn x.fc]] ++ RO) by rw [hv]; exact SP.pickT (A := [_, _, _, _]) (B := [_, _, _, _]) (C := RO) (SP.rot (X.out.allocRow7 154 8 1 #[.int .u32 x.e.src, .int .u32 x.e.dst, .int .u8 x.e.proto, .int .u16 x.e.id, .int .i64 x.e.begin_, .int .i64 (x.e.bytes : Int), .bool x.e.dead, .slice x.fA x.fn x.fc] (by simp [maxLen]) rfl hg39.symm)) [1, 2, 3, 0] rfl (by decide))
    clear hv hg39
    refine hK.out _ _ (by exact ⟨Y.out.cell 2 rfl 3 rfl, HP.out.ra _ Y.out.bel⟩) (fun hHeld => ?_)
    clear hK K
    (try simp only [Act.put]); (try simp only [sA, sB, sC])
    rw [← hF]
    exact r7ps2 H1.out g39 _ Y
set_option maxHeartbeats 1000000 in
set_option maxRecDepth 100000 in
theorem r7ps5 (H0 : r7pH w0 SB OB g off n c k m limit life now0 now B d vs x RO Q Fr) (g39 : Nat) (w : World) (X : Hid (SP w0 w ([.blk OB 109 #[.int .i64 limit, .int .i64 life, .int .i64 now, .slice B m d], .row 154 8 B m d vs, .blk SB 109 #[.int .i64 limit, .int .i64 life, .int .i64 now0, .slice (some ⟨g, off, none⟩) n c], .row 154 8 (some ⟨g39, 0, none⟩) 1 1 [.int .u32 x.e.src, .int .u32 x.e.dst, .int .u8 x.e.proto, .int .u16 x.e.id, .int .i64 x.e.begin_, .int .i64 (x.e.bytes : Int), .bool x.e.dead, .slice x.fA x.fn x.fc]] ++ RO))) :
    wpAnyH Try.prog .any (opsAt Try.f80 6) (NoPanic Q) (r7pS w0 SB OB g off n c k m limit life now0 now B d vs x RO) 4 #[true, false, true, true, true, true, true, true, false, false, false] (Fr (.pointer (some ⟨OB, 3, none⟩)) y33 y34 y35 y36 y37 y38 (.slice (some ⟨g39, 0, none⟩) 1 1) y40 y41) w := by
  have H1 := Lib.hid H0
  obtain ⟨HP, ⟨u, hF⟩, HQ⟩ := H0
  rw [hF]
  obtain ⟨i0, hi0, hz0, hz1, hz2⟩ := info_parts info7E
  have hk := HP.out.hk
  have hm := HP.out.hm
  have t1 : (k : Int) < (n : Int) := by omega
  have t0 : (0 : Int) ≤ (k : Int) := by omega
  have hHeld : (r7pS w0 SB OB g off n c k m limit life now0 now B d vs x RO) w := by exact ⟨X.out.cell 2 rfl 3 rfl, HP.out.ra _ X.out.bel⟩
  refine wpAnyH_ready (rs := [1]) (by kernel_rfl) (by simp) ?_
  refine cons_lit rfl (fun K hK => ?ss1x12) AllReadyH.nil
  case ss1x12 =>
    have xc := X.out.cell 0 rfl 3 rfl
    go_simp
    clear xc
    have Y := X
    refine hK.out _ _ (by exact ⟨Y.out.cell 2 rfl 3 rfl, HP.out.ra _ Y.out.bel⟩) (fun hHeld => ?_)
    clear hK K
    (try simp only [Act.put]); (try simp only [sA, sB, sC])
    rw [← hF]
    exact r7ps2 H1.out g39 _ Y
set_option maxHeartbeats 1000000 in
set_option maxRecDepth 100000 in
theorem r7ps0 (H0 : r7pH w0 SB OB g off n c k m limit life now0 now B d vs x RO Q Fr) (w : World) (X : Hid (SP w0 w ([.blk OB 109 #[.int .i64 limit, .int .i64 life, .int .i64 now, .slice B m d], .row 154 8 B m d vs, .blk SB 109 #[.int .i64 limit, .int .i64 life, .int .i64 now0, .slice (some ⟨g, off, none⟩) n c]] ++ RO))) :
    wpAnyH Try.prog .any (opsAt Try.f80 6) (NoPanic Q) (r7pS w0 SB OB g off n c k m limit life now0 now B d vs x RO) 11 #[false, false, false, false, false, false, false, false, false, false, false] (Fr y32 y33 y34 y35 y36 y37 y38 y39 y40 y41) w := by
  have H1 := Lib.hid H0
  obtain ⟨HP, ⟨u, hF⟩, HQ⟩ := H0
  rw [hF]
  obtain ⟨i0, hi0, hz0, hz1, hz2⟩ := info_parts info7E
  have hk := HP.out.hk
  have hm := HP.out.hm
  have t1 : (k : Int) < (n : Int) := by omega
  have t0 : (0 : Int) ≤ (k : Int) := by omega
  have hHeld : (r7pS w0 SB OB g off n c k m limit life now0 now B d vs x RO) w := by exact ⟨X.out.cell 2 rfl 3 rfl, HP.out.ra _ X.out.bel⟩
  refine' take_lit (i := 0) (v := _) rfl (by kernel_rfl) (by kernel_rfl) (by kernel_rfl) (fun _ _ _ h => h) (Or.inl ⟨by rfl, ?yy1⟩) (by assumption) ?rr1
  case yy1 => intro w' hSw; go_simp; try (with_reducible rfl)
  (try simp only [Act.put]); (try simp only [sA, sB, sC])
  refine' take_lit (i := 2) (v := _) rfl (by kernel_rfl) (by kernel_rfl) (by kernel_rfl) (fun _ _ _ h => h) (Or.inl ⟨by rfl, ?yy2⟩) (by assumption) ?rr2
  case yy2 => intro w' hSw; go_simp; try (with_reducible rfl)
  (try simp only [Act.put]); (try simp only [sA, sB, sC])
  refine' take_lit (i := 3) (v := _) rfl (by kernel_rfl) (by kernel_rfl) (by kernel_rfl) (fun _ _ _ h => h) (Or.inl ⟨by rfl, ?yy3⟩) (by assumption) ?rr3
  case yy3 => intro w' hSw; unfold r7pS at hSw; (try dsimp only at hSw); go_simp; try (with_reducible rfl)
  (try simp only [Act.put]); (try simp only [sA, sB, sC])
  refine' take_lit (i := 4) (v := _) rfl (by kernel_rfl) (by kernel_rfl) (by kernel_rfl) (fun _ _ _ h => h) (Or.inl ⟨by rfl, ?yy4⟩) (by assumption) ?rr4
  case yy4 => intro w' hSw; go_simp; try (with_reducible rfl)
  (try simp only [Act.put]); (try simp only [sA, sB, sC])
  refine' take_lit (i := 5) (v := _) rfl (by kernel_rfl) (by kernel_rfl) (by kernel_rfl) (fun _ _ _ h => h) (Or.inl ⟨by rfl, ?yy5⟩) (by assumption) ?rr5
  case yy5 => intro w' hSw; go_simp; try (with_reducible rfl)
  (try simp only [Act.put]); (try simp only [sA, sB, sC])
  refine' take_lit (i := 6) (v := .agg (List.toArray [.int .u32 x.e.src, .int .u32 x.e.dst, .int .u8 x.e.proto, .int .u16 x.e.id, .int .i64 x.e.begin_, .int .i64 (x.e.bytes : Int), .bool x.e.dead, .slice x.fA x.fn x.fc])) rfl (by kernel_rfl) (by kernel_rfl) (by kernel_rfl) (fun _ _ _ h => h) (Or.inl ⟨by rfl, ?yy6⟩) (by assumption) ?rr6
  case yy6 => intro w' hSw; exact exec_load_mid 154 _ rfl g (off + k * 8) rfl [.int .u32 x.e.src, .int .u32 x.e.dst, .int .u8 x.e.proto, .int .u16 x.e.id, .int .i64 x.e.begin_, .int .i64 (x.e.bytes : Int), .bool x.e.dead, .slice x.fA x.fn x.fc] _ (hSw.2) Try.underlying154 rfl (by kernel_rfl)
  (try simp only [Act.put]); (try simp only [sA, sB, sC])
  refine wpAnyH_ready (rs := [1, 7]) (by kernel_rfl) (by simp) ?_
  refine cons_lit rfl (fun K hK => ?ss1x7) (cons_lit rfl (fun K hK => ?ss7x7) AllReadyH.nil)
  case ss1x7 =>
    have xc := X.out.cell 0 rfl 3 rfl
    go_simp
    clear xc
    have Y := X
    refine hK.out _ _ (by exact ⟨Y.out.cell 2 rfl 3 rfl, HP.out.ra _ Y.out.bel⟩) (fun hHeld => ?_)
    clear hK K
    (try simp only [Act.put]); (try simp only [sA, sB, sC])
    rw [← hF]
    exact r7ps1 H1.out  _ Y
  case ss7x7 =>
    go_simp
    obtain ⟨g39, hg39⟩ : ∃ g, g = w.heap.size := ⟨_, rfl⟩
    rw [← hg39]
    refine nameW' (fun v hv => ?_)
    have Y := Lib.hid (show SP w0 v ([.blk OB 109 #[.int .i64 limit, .int .i64 life, .int .i64 now, .slice B m d], .row 154 8 B m d vs, .blk SB 109 #[.int .i64 limit, .int .i64 life, .int .i64 now0, .slice (some ⟨g, off, none⟩) n c], .row 154 8 (some ⟨g39, 0, none⟩) 1 1 [.int .u32 x.e.src, .int .u32 x.e.dst, .int .u8 x.e.proto, .int .u16 x.e.id, .int .i64 x.e.begin_, .int .i64 (x.e.bytes : Int), .bool x.e.dead, .slice x.fA x.fn x.fc]] ++ RO) by rw [hv]; exact SP.pickT (A := [_, _, _, _]) (B := [_, _, _, _]) (C := RO) (SP.rot (X.out.allocRow7 154 8 1 #[.int .u32 x.e.src, .int .u32 x.e.dst, .int .u8 x.e.proto, .int .u16 x.e.id, .int .i64 x.e.begin_, .int .i64 (x.e.bytes : Int), .bool x.e.dead, .slice x.fA x.fn x.fc] (by simp [maxLen]) rfl hg39.symm)) [1, 2, 3, 0] rfl (by decide))
    clear hv hg39
    refine hK.out _ _ (by exact ⟨Y.out.cell 2 rfl 3 rfl, HP.out.ra _ Y.out.bel⟩) (fun hHeld => ?_)
    clear hK K
    (try simp only [Act.put]); (try simp only [sA, sB, sC])
    rw [← hF]
    exact r7ps5 H1.out g39 _ Y
end
set_option maxRecDepth 100000 in
theorem r7p_0 {u0 u1 u3 u4 u7 u8 u9 u10 u11 u12 u13 u14 u15 u16 u17 u18 u19 u20 u21 u22 u23 u24 u25 u26 u27 u28 u29 u30 u31 u32 u33 u34 u35 u36 u37 u38 u39 u40 u41 u42 : Value} {Q : Exit → Act → World → Prop} {w0 : World} {SB OB g off n c k m : Nat} {limit life now0 now : Int} {B : Option Addr} {d : Nat} {vs : List Value} {x : EM} {RO : List IT} (HP : Hid (r7pP w0 SB OB g off n c k m limit life now0 now B d vs x RO)) (HQ : Hid (@r7pQ u0 u1 u3 u4 u7 u8 u9 u10 u11 u12 u13 u14 u15 u16 u17 u18 u19 u20 u21 u22 u23 u24 u25 u26 u27 u28 u29 u30 u31 u42 Q w0 SB OB g off n c k m limit life now0 now B d vs x RO)) (w : World) (X : Hid (SP w0 w ([.blk OB 109 #[.int .i64 limit, .int .i64 life, .int .i64 now, .slice B m d], .row 154 8 B m d vs, .blk SB 109 #[.int .i64 limit, .int .i64 life, .int .i64 now0, .slice (some ⟨g, off, none⟩) n c]] ++ RO))) :
    wpAnyH Try.prog .any (opsAt Try.f80 6) (NoPanic Q) (r7pS w0 SB OB g off n c k m limit life now0 now B d vs x RO) 11 #[false, false, false, false, false, false, false, false, false, false, false] ⟨List.toArray (u0 :: u1 :: .pointer (some ⟨SB, 0, none⟩) :: u3 :: u4 :: .pointer (some ⟨OB, 0, none⟩) :: .int .i64 (k : Int) :: u7 :: u8 :: u9 :: u10 :: u11 :: u12 :: u13 :: u14 :: u15 :: u16 :: u17 :: u18 :: u19 :: u20 :: u21 :: u22 :: u23 :: u24 :: u25 :: u26 :: u27 :: u28 :: u29 :: u30 :: u31 :: u32 :: u33 :: u34 :: u35 :: u36 :: u37 :: u38 :: u39 :: u40 :: u41 :: u42 :: []), []⟩ w :=
  r7ps0 (Fr := (fun y32 y33 y34 y35 y36 y37 y38 y39 y40 y41 => ⟨List.toArray (u0 :: u1 :: .pointer (some ⟨SB, 0, none⟩) :: u3 :: u4 :: .pointer (some ⟨OB, 0, none⟩) :: .int .i64 (k : Int) :: u7 :: u8 :: u9 :: u10 :: u11 :: u12 :: u13 :: u14 :: u15 :: u16 :: u17 :: u18 :: u19 :: u20 :: u21 :: u22 :: u23 :: u24 :: u25 :: u26 :: u27 :: u28 :: u29 :: u30 :: u31 :: y32 :: y33 :: y34 :: y35 :: y36 :: y37 :: y38 :: y39 :: y40 :: y41 :: u42 :: []), []⟩)) ⟨HP, ⟨fun i => ([u0, u1, undef, u3, u4, undef, undef, u7, u8, u9, u10, u11, u12, u13, u14, u15, u16, u17, u18, u19, u20, u21, u22, u23, u24, u25, u26, u27, u28, u29, u30, u31, u32, u33, u34, u35, u36, u37, u38, u39, u40, u41, u42] : List Value)[i]?.getD undef, fun _ _ _ _ _ _ _ _ _ _ => rfl⟩, Lib.hid HQ.out⟩ w X
end Go.Proofs.Ytljbfnabnkkfeaa
