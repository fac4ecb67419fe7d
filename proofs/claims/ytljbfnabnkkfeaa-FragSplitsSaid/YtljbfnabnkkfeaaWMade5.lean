/- bafflelaw05.Made: a header, and data that it is right for. -/
import Derived.Test.YtljbfnabnkkfeaaWIpRead
import Derived.Deep.RegionLaw
import Derived.Deep.DeepCutAuto
namespace Go.Proofs.Ytljbfnabnkkfeaa
open Go.RowKit
set_option linter.unusedVariables false

theorem bits32' (o : BinOp) (a b : Int) : 0 ≤ bits o .u32 a b ∧ bits o .u32 a b ≤ 4294967295 := by
  unfold bits
  simp only []
  have h : ∀ x : Int, 0 ≤ IntKind.u32.wrap x ∧ IntKind.u32.wrap x ≤ 4294967295 := fun x => by
    have : IntKind.u32.wrap x = x % 4294967296 := by simp [IntKind.wrap, IntKind.signed, IntKind.bits]
    omega
  exact h _
theorem bits16' (o : BinOp) (a b : Int) : 0 ≤ bits o .u16 a b ∧ bits o .u16 a b ≤ 65535 := by
  unfold bits
  simp only []
  have h : ∀ x : Int, 0 ≤ IntKind.u16.wrap x ∧ IntKind.u16.wrap x ≤ 65535 := fun x => by
    have : IntKind.u16.wrap x = x % 65536 := by simp [IntKind.wrap, IntKind.signed, IntKind.bits]
    omega
  exact h _

/-- the twelve bytes, and all of a packet in small numbers -/
def arr12 (h0 h1 h2 h3 h4 h5 h6 h7 h8 h9 h10 h11 : Int) : Array Value := #[.int .u8 h0, .int .u8 h1, .int .u8 h2, .int .u8 h3, .int .u8 h4, .int .u8 h5, .int .u8 h6, .int .u8 h7, .int .u8 h8, .int .u8 h9, .int .u8 h10, .int .u8 h11]
def sm18 (h0 h1 h2 h3 h4 h5 h6 h7 h8 h9 h10 h11 words far many : Int) (df mf : Bool) (d : Value) : Array Value :=
  #[.int .u8 h0, .int .u8 h1, .int .u8 h2, .int .u8 h3, .int .u8 h4, .int .u8 h5, .int .u8 h6, .int .u8 h7, .int .u8 h8, .int .u8 h9, .int .u8 h10, .int .u8 h11, .int .u8 words, .int .u8 far, .int .u8 many, .bool df, .bool mf, d]
theorem arr12_get (h0 h1 h2 h3 h4 h5 h6 h7 h8 h9 h10 h11 : Int) (i : Nat) (hi : i < 12) : (arr12 h0 h1 h2 h3 h4 h5 h6 h7 h8 h9 h10 h11)[i]? = some (.int .u8 ([h0, h1, h2, h3, h4, h5, h6, h7, h8, h9, h10, h11][i]?.getD 0)) := by
  rcases (show i = 0 ∨ i = 1 ∨ i = 2 ∨ i = 3 ∨ i = 4 ∨ i = 5 ∨ i = 6 ∨ i = 7 ∨ i = 8 ∨ i = 9 ∨ i = 10 ∨ i = 11 by omega) with rfl | rfl | rfl | rfl | rfl | rfl | rfl | rfl | rfl | rfl | rfl | rfl
  all_goals rfl

/-- what Made gives -/
def MadeP (w : World) (e : Ending) (w' : World) : Prop :=
  ∃ (h : HD) (Ao : Option Addr) (on oc : Nat) (opts : List Int) (Ad : Option Addr) (dn dc : Nat) (data : List Int), e = .returned (.tuple #[h.val (.slice Ao on oc), .slice Ad dn dc]) ∧ h.WF ∧ Rightly h.off h.mf on dn ∧
    OWN .u8 5 w' w.heap.size Ao on oc opts ∧ BD 255 opts ∧ OWN .u8 5 w' w.heap.size Ad dn dc data ∧ BD 255 data ∧ dn ≤ 80 ∧ Below w.heap.size w w'

theorem results_cell_tmp1 {P : Program} {fn : Func} {p u1 : Tmp} {ty : TypeId} (h : fn.results = #[.cell p ty, .tmp u1]) (tmps : Array Value) (w : World) (g : Nat) (t : TypeId) (cs : Array Value) (fr : Nat × Nat) (d : TypeDesc)
    (hp : tmps.getD p undef = .pointer (some ⟨g, 0, none⟩)) (hg : w.heap[g]? = some (.cells cs t fr))
    (hu : P.underlying ty = some d) (hd : (match d with | .struct _ | .array _ _ => true | _ => false) = true) (hi : (P.info? ty).map (·.size) = some cs.size) :
    (results fn tmps).run P w = .ok (.tuple #[.agg cs, tmps.getD u1 undef]) w := by
  have hp' : tmps[p]?.getD undef = .pointer (some ⟨g, 0, none⟩) := by simpa using hp
  simp [results, h, hp', asAddr, run_loadVar_row w g t ty cs fr d hg hu hd hi]
theorem own_ge {k : IntKind} {e : TypeId} {w : World} {base n c : Nat} {A : Option Addr} {zs : List Int} (h : OWN k e w base A n c zs) : ∀ g, A.map (·.block) = some g → base ≤ g := fun g hg => by
  rcases h.cases with ⟨rfl, _⟩ | ⟨g', rfl, hg', _⟩
  · simp at hg
  · simp at hg; subst hg; exact hg'
/-- the state of Made -/
structure MS (w0 : World) (N : Nat) (bx ar : Array Value) (H : HD) (A : Option Addr) (n : Nat) (zs : List Int) (Ao : Option Addr) (on oc : Nat) (opts : List Int) (w : World) : Prop where
  bx : BLOCK w N 25 bx
  rs : BLOCK w (N + 1) 49 (HD.zero.cells (.slice none 0 0))
  ar : BLOCK w (N + 2) 22 ar
  hd : BLOCK w (N + 3) 49 (H.cells (.slice Ao on oc))
  own : OWN .u8 5 w (N + 4) Ao on oc opts
  bd : BD 255 opts
  bel : Below N w0 w
  rd : RD .u8 w N A n zs
section
variable {w0 w w' : World} {N : Nat} {bx ar : Array Value} {H : HD} {A : Option Addr} {n : Nat} {zs : List Int} {Ao : Option Addr} {on oc : Nat} {opts : List Int}
theorem MS.siz (h : MS w0 N bx ar H A n zs Ao on oc opts w) : N + 4 ≤ w.heap.size := h.hd.lt
theorem MS.next (h : MS w0 N bx ar H A n zs Ao on oc opts w) (hb : Below w.heap.size w w') : MS w0 N bx ar H A n zs Ao on oc opts w' :=
  have hs := h.siz
  ⟨h.bx.next hb, h.rs.next hb, h.ar.next hb, h.hd.next hb, h.own.below hb, h.bd, h.bel.trans (hb.mono (by omega)), h.rd.below (hb.mono (by omega))⟩
theorem MS.setO (h : MS w0 N bx ar H A n zs Ao on oc opts w) (x : Int) : MS w0 N bx ar { H with off := x } A n zs Ao on oc opts (w.setCell ⟨N + 3, 4, none⟩ (.int .i64 x)) :=
  ⟨h.bx.other (by simp) _, h.rs.other (by simp) _, h.ar.other (by simp) _, h.hd.set 4 _, h.own.setCell (fun g hg => by have := (h.own.lt g hg).1; simp; omega) _, h.bd, h.bel.setCell (p := ⟨N + 3, 4, none⟩) (by simp) _, h.rd.setCell (p := ⟨N + 3, 4, none⟩) (by simp) _⟩
/-- an option more -/
theorem MS.append {A2 : Option Addr} {n2 c2 : Nat} {x : Int} (h : MS w0 N bx ar H A n zs Ao on oc opts w) (hb : Below (N + 4) w w') (ho : OWN .u8 5 w' (N + 4) A2 n2 c2 (opts ++ [x])) (hx : 0 ≤ x ∧ x ≤ 255) :
    MS w0 N bx ar H A n zs A2 n2 c2 (opts ++ [x]) (w'.setCell ⟨N + 3, 9, none⟩ (.slice A2 n2 c2)) :=
  ⟨(h.bx.below hb (by omega)).other (by simp) _, (h.rs.below hb (by omega)).other (by simp) _, (h.ar.below hb (by omega)).other (by simp) _, (h.hd.below hb (by omega)).set 9 _, ho.setCell (fun g hg => by have := (ho.lt g hg).1; simp; omega) _, h.bd.append (fun y hy => by simp at hy; subst hy; exact hx),
    (h.bel.trans (hb.mono (by omega))).setCell (p := ⟨N + 3, 9, none⟩) (by simp) _, (h.rd.below (hb.mono (by omega))).setCell (p := ⟨N + 3, 9, none⟩) (by simp) _⟩
end

set_option maxHeartbeats 8000000 in
set_option maxRecDepth 100000 in
theorem made5_any (h0 h1 h2 h3 h4 h5 h6 h7 h8 h9 h10 h11 words far many : Int) (df mf : Bool) (A : Option Addr) (n c : Nat) (zs : List Int) (w : World) (hb : BD 255 [h0, h1, h2, h3, h4, h5, h6, h7, h8, h9, h10, h11]) (hw : 0 ≤ words ∧ words ≤ 255) (hf : 0 ≤ far ∧ far ≤ 255) (hm : 0 ≤ many ∧ many ≤ 255)
    (h : RD .u8 w w.heap.size A n zs) (hz : BD 255 zs) (hn : n ≤ c) (hc : c ≤ maxLen) :
    Calls Try.prog 31 #[.agg (sm18 h0 h1 h2 h3 h4 h5 h6 h7 h8 h9 h10 h11 words far many df mf (.slice A n c))] w (MadeP w) := by
  obtain ⟨a0, a0'⟩ : 0 ≤ h0 ∧ h0 ≤ 255 := hb h0 (by simp)
  obtain ⟨a1, a1'⟩ : 0 ≤ h1 ∧ h1 ≤ 255 := hb h1 (by simp)
  obtain ⟨a2, a2'⟩ : 0 ≤ h2 ∧ h2 ≤ 255 := hb h2 (by simp)
  obtain ⟨a3, a3'⟩ : 0 ≤ h3 ∧ h3 ≤ 255 := hb h3 (by simp)
  obtain ⟨a4, a4'⟩ : 0 ≤ h4 ∧ h4 ≤ 255 := hb h4 (by simp)
  obtain ⟨a5, a5'⟩ : 0 ≤ h5 ∧ h5 ≤ 255 := hb h5 (by simp)
  obtain ⟨a6, a6'⟩ : 0 ≤ h6 ∧ h6 ≤ 255 := hb h6 (by simp)
  obtain ⟨a7, a7'⟩ : 0 ≤ h7 ∧ h7 ≤ 255 := hb h7 (by simp)
  obtain ⟨a8, a8'⟩ : 0 ≤ h8 ∧ h8 ≤ 255 := hb h8 (by simp)
  obtain ⟨a9, a9'⟩ : 0 ≤ h9 ∧ h9 ≤ 255 := hb h9 (by simp)
  obtain ⟨a10, a10'⟩ : 0 ≤ h10 ∧ h10 ≤ 255 := hb h10 (by simp)
  obtain ⟨w1, w2⟩ := hw
  obtain ⟨f1, f2⟩ := hf
  obtain ⟨m1, m2⟩ := hm
  obtain ⟨i0, hi, hz0, hz1, hz2⟩ := info_parts infoU8
  unfold sm18
  go_enter Try.func31, Try.ntmps31
  go_wp2_with fail
  obtain ⟨H, hH⟩ : ∃ H : HD, H = ⟨h0, bits .or .u16 (h1 * 256) h2, df, mf, 0, h3, h4, bits .or .u32 (bits .or .u32 (h5 * 16777216) (h6 * 256)) h7, bits .or .u32 (bits .or .u32 (h8 * 16777216) (h9 * 256)) h10⟩ := ⟨_, rfl⟩
  have hW0 : MS w w.heap.size (sm18 h0 h1 h2 h3 h4 h5 h6 h7 h8 h9 h10 h11 words far many df mf (.slice A n c)) (arr12 h0 h1 h2 h3 h4 h5 h6 h7 h8 h9 h10 h11) H A n zs none 0 0 []
      ((((w.alloc (.cells (sm18 h0 h1 h2 h3 h4 h5 h6 h7 h8 h9 h10 h11 words far many df mf (.slice A n c)) 25)).alloc (.cells (HD.zero.cells (.slice none 0 0)) 49)).alloc (.cells (arr12 h0 h1 h2 h3 h4 h5 h6 h7 h8 h9 h10 h11) 22)).alloc (.cells (H.cells (.slice none 0 0)) 49)) :=
    ⟨(((BLOCK.new w _ _).alloc _).alloc _).alloc _, ((BLOCK.new' _ _ _ (by simp)).alloc _).alloc _, (BLOCK.new' _ _ _ (by simp)).alloc _, BLOCK.new' _ _ _ (by simp), OWN.nil, (fun x hx => by cases hx),
      ((((Below.refl _ w).alloc (Nat.le_refl _) _).alloc (by simp) _).alloc (by simp; omega) _).alloc (by simp; omega) _,
      (((h.alloc (Nat.le_refl _) _).alloc (by simp) _).alloc (by simp; omega) _).alloc (by simp; omega) _⟩
  have hwf : H.WF := by
    subst hH
    exact ⟨⟨a0, a0'⟩, by dsimp only; exact bits16' _ _ _, by simp, ⟨a3, a3'⟩, ⟨a4, a4'⟩, by dsimp only; exact bits32' _ _ _, by dsimp only; exact bits32' _ _ _⟩
  have hmf : H.mf = mf := by rw [hH]
  have hoff : H.off = 0 := by rw [hH]
  rw [show (((w.alloc (.cells #[.int .u8 h0, .int .u8 h1, .int .u8 h2, .int .u8 h3, .int .u8 h4, .int .u8 h5, .int .u8 h6, .int .u8 h7, .int .u8 h8, .int .u8 h9, .int .u8 h10, .int .u8 h11, .int .u8 words, .int .u8 far, .int .u8 many, .bool df, .bool mf, .slice A n c] 25)).alloc (.cells #[.int .u8 0, .int .u16 0, .bool false, .bool false, .int .i64 0, .int .u8 0, .int .u8 0, .int .u32 0, .int .u32 0, .slice none 0 0] 49)).alloc (.cells #[.int .u8 h0, .int .u8 h1, .int .u8 h2, .int .u8 h3, .int .u8 h4, .int .u8 h5, .int .u8 h6, .int .u8 h7, .int .u8 h8, .int .u8 h9, .int .u8 h10, .int .u8 h11] 22)).alloc (.cells #[.int .u8 h0, .int .u16 (bits .or .u16 (h1 * 256) h2), .bool df, .bool mf, .int .i64 0, .int .u8 h3, .int .u8 h4, .int .u32 (bits .or .u32 (bits .or .u32 (h5 * 16777216) (h6 * 256)) h7), .int .u32 (bits .or .u32 (bits .or .u32 (h8 * 16777216) (h9 * 256)) h10), .slice none 0 0] 49)
    = ((((w.alloc (.cells (sm18 h0 h1 h2 h3 h4 h5 h6 h7 h8 h9 h10 h11 words far many df mf (.slice A n c)) 25)).alloc (.cells (HD.zero.cells (.slice none 0 0)) 49)).alloc (.cells (arr12 h0 h1 h2 h3 h4 h5 h6 h7 h8 h9 h10 h11) 22)).alloc (.cells (H.cells (.slice none 0 0)) 49)) by rw [hH]; rfl]
  generalize ((((w.alloc (.cells (sm18 h0 h1 h2 h3 h4 h5 h6 h7 h8 h9 h10 h11 words far many df mf (.slice A n c)) 25)).alloc (.cells (HD.zero.cells (.slice none 0 0)) 49)).alloc (.cells (arr12 h0 h1 h2 h3 h4 h5 h6 h7 h8 h9 h10 h11) 22)).alloc (.cells (H.cells (.slice none 0 0)) 49)) = wx at hW0 ⊢
  rw [show w.heap.size + 1 + 1 + 1 = w.heap.size + 3 from rfl, show w.heap.size + 1 + 1 = w.heap.size + 2 from rfl]
  obtain ⟨N, hN⟩ : ∃ N, N = w.heap.size := ⟨_, rfl⟩
  rw [← hN] at hW0 ⊢
  have HN := Lib.hid hN
  have HB := Lib.hid hb
  obtain ⟨K, hK⟩ : ∃ K : Nat, 4 * (words % 11) = (K : Int) := ⟨(4 * (words % 11)).toNat, by omega⟩
  have hK10 : K ≤ 40 := by omega
  have hK4 : K % 4 = 0 := by omega
  rw [hK]
  clear hb hN hH a1 a1' a2 a2' a5 a5' a6 a6' a7 a7' a8 a8' a9 a9' a10 a10' a0 a0' a3 a3' a4 a4' h hK
  go_loopw [60] (fun i wr => ∃ (k : Nat) (Ao : Option Addr) (oc : Nat) (opts : List Int), k ≤ K ∧ i = .int .i64 k ∧ Hid (MS w N (sm18 h0 h1 h2 h3 h4 h5 h6 h7 h8 h9 h10 h11 words far many df mf (.slice A n c)) (arr12 h0 h1 h2 h3 h4 h5 h6 h7 h8 h9 h10 h11) H A n zs Ao k oc opts wr)) (fun i _ => K - (intOf i).toNat)
  case atStart => exact ⟨0, none, 0, [], Nat.zero_le _, rfl, Lib.hid hW0⟩
  case round =>
    obtain ⟨k, Ao, oc, opts, hk, rfl, HM⟩ := hrel
    clear hW0
    by_cases hlt : k < K
    · have hms := HM.out
      have hsz := hms.siz
      obtain ⟨a, ha⟩ : ∃ a, a = k % 12 := ⟨_, rfl⟩
      have m1 : (k : Int).tmod 12 = (a : Int) := by rw [Int.tmod_eq_emod_of_nonneg (by omega)]; omega
      have ha12 : a < 12 := by omega
      have x1 : wr.cell? ⟨N + 2, a, none⟩ = some (.int .u8 ([h0, h1, h2, h3, h4, h5, h6, h7, h8, h9, h10, h11][a]?.getD 0)) := (hms.ar.cell a).trans (arr12_get _ _ _ _ _ _ _ _ _ _ _ _ a ha12)
      obtain ⟨u1, u2⟩ := HB.out.get (by omega) a
      generalize ([h0, h1, h2, h3, h4, h5, h6, h7, h8, h9, h10, h11] : List Int)[a]?.getD 0 = xa at *
      have x9 : wr.cell? ⟨N + 3, 9, none⟩ = some (.slice Ao k oc) := hms.hd.cell 9
      have x9f : wr.frozen? ⟨N + 3, 9, none⟩ = false := hms.hd.free 9
      have own := hms.own
      have ia : (0 : Int) ≤ (a : Int) := by omega
      have ja : (a : Int) < 12 := by omega
      have e1 : IntKind.u8.wrap (k : Int) = (k : Int) := u8_in _ (by omega) (by omega)
      have e2 := u8_mod (xa + (k : Int))
      have nx1 : N + 2 < wr.heap.size := by omega
      have nx9 : N + 3 < wr.heap.size := by omega
      clear ha hms
      go_wp2_with fail
      go_region_law ((refine step_append_rd _ (by rfl) _ _ 23 (by rfl) .u8 (N + 4) 5 i0 1 Try.underlying23 hi hz0 hz1 hz2 Ao k oc opts (by rfl) (by exact (own.alloc _)) (wr.heap.size + 1) (some ⟨wr.heap.size, 0, none⟩) 1 1 [(xa + (k : Int)) % 256] (by rfl) (by exact RD.new' _ .u8 5 _ rfl (by omega) rfl) (by simp only [maxLen]; omega) (by omega) (by simp; omega) ?_; intro A2 c2 w2 happ; have hb2 : Below (N + 4) wr w2 := (((Below.refl (N + 4) wr).alloc (by omega) _).drew).trans (happ.keepBelow (own_ge own) (by show N + 4 ≤ (wr.alloc _).heap.size; simp; omega)); have own2 := happ.own; have y9 : w2.cell? ⟨N + 3, 9, none⟩ = some (.slice Ao k oc) := (hb2.cell (p := ⟨N + 3, 9, none⟩) (by simp)).trans x9; have y9f : w2.frozen? ⟨N + 3, 9, none⟩ = false := (hb2.frozen (p := ⟨N + 3, 9, none⟩) (by simp)).trans x9f; clear happ))
      all_goals
        have HM2 := Lib.hid (HM.out.append hb2 own2 (by omega))
        clear hb2 own2 y9 y9f own x9 x9f x1 nx1 nx9
        go_wp2_with fail
        go_roundw
        case rel => exact ⟨k + 1, A2, c2, _, by omega, by go_num, HM2⟩
        case measure => simp [intOf]; omega
    · obtain rfl : K = k := by omega
      have hms := HM.out
      have hsz := hms.siz
      have q1 : wr.cell? ⟨N, 17, none⟩ = some (.slice A n c) := hms.bx.cell 17
      have nq1 : N < wr.heap.size := by omega
      have rd := hms.rd
      clear hms
      go_upto_region 8 with fail
      go_cut [7] (fun s7 wx => ∃ (A' : Option Addr) (m c' : Nat) (ys : List Int), s7 = .slice A' m c' ∧ m ≤ 80 ∧ OWN .u8 5 wx wr.heap.size A' m c' ys ∧ BD 255 ys ∧ Below wr.heap.size wr wx)
      case first =>
        by_cases hn8 : n ≤ 80
        · have hn8' : (n : Int) ≤ 80 := by omega
          go_wp2_with (at_builtin; refine wpList_append_rd _ rfl _ _ _ rfl .u8 wr.heap.size 5 i0 1 Try.underlying23 hi hz0 hz1 hz2 (some ⟨wr.heap.size, 0, none⟩) 0 0 [] rfl (OWN.lit wr .u8 5 wr.heap.size [] (Nat.le_refl _) (by simp)) wr.heap.size _ _ _ zs rfl ((rd.more (by omega)).alloc (Nat.le_refl _) _) (by simp only [maxLen]; omega) (by omega) (by simp) ?_; intro A7 c7 w7 happ; have own7 := happ.own; rw [Nat.zero_add, List.nil_append] at own7; rw [Nat.zero_add]; have hb7 : Below wr.heap.size wr w7 := ((Below.refl _ wr).alloc (Nat.le_refl _) _).trans (happ.keepBelow (fun g hg => by simp at hg; omega) (by simp)); clear happ)
          go_meet
          exact ⟨A7, n, c7, zs, rfl, hn8, own7, hz, hb7⟩
        · have hn8' : (80 : Int) < (n : Int) := by omega
          have hn9 : (80 : Int) ≤ (c : Int) := by omega
          go_wp2_with (at_builtin; refine wpList_append_rd _ rfl _ _ _ rfl .u8 wr.heap.size 5 i0 1 Try.underlying23 hi hz0 hz1 hz2 (some ⟨wr.heap.size, 0, none⟩) 0 0 [] rfl (OWN.lit wr .u8 5 wr.heap.size [] (Nat.le_refl _) (by simp)) wr.heap.size _ _ _ (zs.take 80) rfl (((rd.more (by omega)).alloc (Nat.le_refl _) _).take (by omega)) (by simp only [maxLen]; omega) (by omega) (by simp) ?_; intro A7 c7 w7 happ; have own7 := happ.own; rw [Nat.zero_add, List.nil_append] at own7; rw [Nat.zero_add]; have hb7 : Below wr.heap.size wr w7 := ((Below.refl _ wr).alloc (Nat.le_refl _) _).trans (happ.keepBelow (fun g hg => by simp at hg; omega) (by simp)); clear happ)
          go_meet
          exact ⟨A7, 80, c7, zs.take 80, rfl, Nat.le_refl _, own7, hz.take 80, hb7⟩
      case rest =>
        obtain ⟨A7, m7, c7, ys, rfl, hm7, own7, by7, hb7⟩ := hcut
        clear q1 nq1 rd
        obtain ⟨B8, hB8⟩ : ∃ B, B = wr.heap.size := ⟨_, rfl⟩
        rw [← hB8] at own7 hb7 hsz
        have HMS : ∀ W', Below B8 wr W' → MS w N (sm18 h0 h1 h2 h3 h4 h5 h6 h7 h8 h9 h10 h11 words far many df mf (.slice A n c)) (arr12 h0 h1 h2 h3 h4 h5 h6 h7 h8 h9 h10 h11) H A n zs Ao K oc opts W' := fun W' hb => HM.out.next (hB8 ▸ hb)
        have HMM := Lib.hid HMS
        have q2 : wc.cell? ⟨N, 16, none⟩ = some (.bool mf) := (HMS _ hb7).bx.cell 16
        have HB8 := Lib.hid (show B8 ≤ wr.heap.size by omega)
        clear HMS hB8
        go_upto_if 86 with fail
        go_cut [7] (fun s7 wx => ∃ (A' : Option Addr) (m c' : Nat) (ys : List Int), s7 = .slice A' m c' ∧ m ≤ 80 ∧ (mf = true → 0 < m ∧ m % 8 = 0) ∧ OWN .u8 5 wx B8 A' m c' ys ∧ BD 255 ys ∧ Below B8 wr wx)
        case first =>
          cases mf
          · go_wp2_with fail
            go_meet
            exact ⟨A7, m7, c7, ys, rfl, hm7, (fun hh => by cases hh), own7, by7, hb7⟩
          · go_wp2_with fail
            obtain ⟨wr0, rfl⟩ : ∃ w : World, w = wr := ⟨_, rfl⟩
            go_loopw [7] (fun v wr => ∃ (A' : Option Addr) (m c' : Nat) (ys : List Int), v = .slice A' m c' ∧ m ≤ 80 ∧ OWN .u8 5 wr B8 A' m c' ys ∧ BD 255 ys ∧ Below B8 wr0 wr) (fun v _ => match v with | .slice _ m _ => 81 - m | _ => 0)
            case atStart => exact ⟨A7, m7, c7, ys, rfl, hm7, own7, by7, hb7⟩
            case round =>
              obtain ⟨A', m, c', ys', rfl, hm, own, byy, hb⟩ := hrel
              have hmsr := HMM.out _ hb
              have q3 : wr.cell? ⟨N, 14, none⟩ = some (.int .u8 many) := hmsr.bx.cell 14
              have hs8 := hb.size
              have hsr := hmsr.siz
              have nq3 : N < wr.heap.size := by omega
              have hB8w : B8 ≤ wr.heap.size := by have := HB8.out; omega
              clear hmsr own7 hb7 by7
              by_cases h0 : m = 0
              · subst h0
                go_wp2_with (at_builtin; refine wpList_append_rd _ rfl _ _ _ rfl .u8 B8 5 i0 1 Try.underlying23 hi hz0 hz1 hz2 A' 0 c' ys' rfl (own.alloc _) (wr.heap.size + 1) (some ⟨wr.heap.size, 0, none⟩) 1 1 [many] rfl (RD.new' wr .u8 5 [many] rfl (by omega) rfl) (by simp only [maxLen]; omega) (by omega) (by simp; omega) ?_; intro A2 c2 w2 happ; have hb2 : Below B8 wr w2 := ((Below.refl B8 wr).alloc (by omega) _).trans (happ.keepBelow (own_ge own) (by simp; omega)); have own2 := happ.own; clear happ)
                rw [Nat.zero_add] at own2
                go_roundw
                case rel => exact ⟨A2, 1, c2, _, rfl, by omega, own2, byy.append (fun y hy => by simp at hy; omega), hb.trans hb2⟩
                case measure => simp
              · have c1 : ((m : Int) == 0) = false := by simp; omega
                by_cases h8 : m % 8 = 0
                · have c2 : ¬ (0 : Int) < (m : Int) % 8 := by omega
                  have c3 : (m : Int) ≤ (c' : Int) := by have := own.le.1; omega
                  have c4 : (m : Int) ≤ 80 := by omega
                  have c5 : (0 : Int) ≤ (m : Int) := by omega
                  clear h0 h8
                  go_wp2_with fail
                  go_meet
                  exact ⟨A', m, c', ys', rfl, hm, (fun _ => ⟨by have := c1; simp at this; omega, by omega⟩), own, byy, hb⟩
                · have c2 : (0 : Int) < (m : Int) % 8 := by omega
                  have hm79 : m ≤ 79 := by omega
                  clear h0 h8
                  go_wp2_with (at_builtin; refine wpList_append_rd _ rfl _ _ _ rfl .u8 B8 5 i0 1 Try.underlying23 hi hz0 hz1 hz2 A' m c' ys' rfl (own.alloc _) (wr.heap.size + 1) (some ⟨wr.heap.size, 0, none⟩) 1 1 [many] rfl (RD.new' wr .u8 5 [many] rfl (by omega) rfl) (by simp only [maxLen]; omega) (by omega) (by simp; omega) ?_; intro A2 c2' w2 happ; have hb2 : Below B8 wr w2 := ((Below.refl B8 wr).alloc (by omega) _).trans (happ.keepBelow (own_ge own) (by simp; omega)); have own2 := happ.own; clear happ)
                  go_roundw
                  case rel => exact ⟨A2, m + 1, c2', _, rfl, by omega, own2, byy.append (fun y hy => by simp at hy; omega), hb.trans hb2⟩
                  case measure => simp; omega
        case rest =>
          obtain ⟨A9, m9, c9, ys9, rfl, hm9, hmf9, own9, by9, hb9⟩ := hcut
          have hms := HMM.out _ hb9
          have HMS := Lib.hid hms
          have HMF9 := Lib.hid hmf9
          have HMFF := Lib.hid hmf
          have q13 : wc.cell? ⟨N, 13, none⟩ = some (.int .u8 far) := hms.bx.cell 13
          have hq4 : wc.cell? ⟨N + 3, 4, none⟩ = some (.int .i64 H.off) := hms.hd.cell 4
          have hq4f : wc.frozen? ⟨N + 3, 4, none⟩ = false := hms.hd.free 4
          have f0 : wc.cell? ⟨N + 3, 0, none⟩ = some (.int .u8 H.tos) := hms.hd.cell 0
          have f1' : wc.cell? ⟨N + 3, 1, none⟩ = some (.int .u16 H.id) := hms.hd.cell 1
          have f2' : wc.cell? ⟨N + 3, 2, none⟩ = some (.bool H.df) := hms.hd.cell 2
          have f3 : wc.cell? ⟨N + 3, 3, none⟩ = some (.bool H.mf) := hms.hd.cell 3
          have f5 : wc.cell? ⟨N + 3, 5, none⟩ = some (.int .u8 H.ttl) := hms.hd.cell 5
          have f6 : wc.cell? ⟨N + 3, 6, none⟩ = some (.int .u8 H.proto) := hms.hd.cell 6
          have f7 : wc.cell? ⟨N + 3, 7, none⟩ = some (.int .u32 H.src) := hms.hd.cell 7
          have f8 : wc.cell? ⟨N + 3, 8, none⟩ = some (.int .u32 H.dst) := hms.hd.cell 8
          have f9 : wc.cell? ⟨N + 3, 9, none⟩ = some (.slice Ao K oc) := hms.hd.cell 9
          have r0 := hms.rs.cell 0
          have r1 := hms.rs.cell 1
          have r2 := hms.rs.cell 2
          have r3 := hms.rs.cell 3
          have r4 := hms.rs.cell 4
          have r5 := hms.rs.cell 5
          have r6 := hms.rs.cell 6
          have r7 := hms.rs.cell 7
          have r8 := hms.rs.cell 8
          have r9 := hms.rs.cell 9
          have g0 := hms.rs.free 0
          have g1 := hms.rs.free 1
          have g2 := hms.rs.free 2
          have g3 := hms.rs.free 3
          have g4 := hms.rs.free 4
          have g5 := hms.rs.free 5
          have g6 := hms.rs.free 6
          have g7 := hms.rs.free 7
          have g8 := hms.rs.free 8
          have g9 := hms.rs.free 9
          simp only [HD.cells, HD.zero, List.getElem?_toArray, List.getElem?_cons_zero, List.getElem?_cons_succ] at r0 r1 r2 r3 r4 r5 r6 r7 r8 r9
          clear hms hmf9 hmf own7 hb7 by7 q2
          by_cases hfar : 200 < far
          · clear hoff
            go_wp2_with fail
            have hms2 := (HMS.out.setO (8 * far)).setO ((65515 - (m9 : Int)) / 8 * 8)
            have own92 := (own9.setCell (p := ⟨N + 3, 4, none⟩) (fun g hg => by have := (own9.lt g hg).1; simp; omega) (.int .i64 (8 * far))).setCell (p := ⟨N + 3, 4, none⟩) (fun g hg => by have := (own9.lt g hg).1; simp; omega) (.int .i64 ((65515 - (m9 : Int)) / 8 * 8))
            have hblk := set10_block (.int .u8 H.tos) (.int .u16 H.id) (.bool H.df) (.bool H.mf) (.int .i64 ((65515 - (m9 : Int)) / 8 * 8)) (.int .u8 H.ttl) (.int .u8 H.proto) (.int .u32 H.src) (.int .u32 H.dst) (.slice Ao K oc) hms2.rs rfl
            refine bodyPost_ret (results_cell_tmp1 rfl _ _ (N + 1) 49 _ _ _ rfl hblk Try.underlying49 rfl (by kernel_rfl)) rfl ⟨{ H with off := (65515 - (m9 : Int)) / 8 * 8 }, Ao, K, oc, opts, A9, m9, c9, ys9, rfl, ⟨hwf.tos, hwf.id, by dsimp only; omega, hwf.ttl, hwf.proto, hwf.src, hwf.dst⟩, ?_, ?_, hms2.bd, ?_, by9, hm9, ?_⟩
            · refine ⟨by dsimp only; omega, by dsimp only; omega, by dsimp only; omega, by omega, hK4, by omega, by omega, by dsimp only; omega, fun hh => ?_⟩
              have := HMF9.out ((HMFF.out).symm.trans hh)
              omega
            · refine set10_own _ _ _ _ _ _ _ _ _ _ (hms2.own.mono (by have := HN.out; omega)) (fun g hg => ?_)
              have := (hms2.own.lt g hg).1
              omega
            · refine set10_own _ _ _ _ _ _ _ _ _ _ ((own92).mono (by have := HN.out; omega)) (fun g hg => ?_)
              have := (own9.lt g hg).1
              omega
            · exact set10_below _ _ _ _ _ _ _ _ _ _ (HN.out ▸ hms2.bel) (by have := HN.out; omega)
          · clear hoff
            go_wp2_with fail
            have hms2 := HMS.out.setO (8 * far)
            have own92 := own9.setCell (p := ⟨N + 3, 4, none⟩) (fun g hg => by have := (own9.lt g hg).1; simp; omega) (.int .i64 (8 * far))
            have hblk := set10_block (.int .u8 H.tos) (.int .u16 H.id) (.bool H.df) (.bool H.mf) (.int .i64 (8 * far)) (.int .u8 H.ttl) (.int .u8 H.proto) (.int .u32 H.src) (.int .u32 H.dst) (.slice Ao K oc) hms2.rs rfl
            refine bodyPost_ret (results_cell_tmp1 rfl _ _ (N + 1) 49 _ _ _ rfl hblk Try.underlying49 rfl (by kernel_rfl)) rfl ⟨{ H with off := 8 * far }, Ao, K, oc, opts, A9, m9, c9, ys9, rfl, ⟨hwf.tos, hwf.id, by dsimp only; omega, hwf.ttl, hwf.proto, hwf.src, hwf.dst⟩, ?_, ?_, hms2.bd, ?_, by9, hm9, ?_⟩
            · refine ⟨by dsimp only; omega, by dsimp only; omega, by dsimp only; omega, by omega, hK4, by omega, by omega, by dsimp only; omega, fun hh => ?_⟩
              have := HMF9.out ((HMFF.out).symm.trans hh)
              omega
            · refine set10_own _ _ _ _ _ _ _ _ _ _ (hms2.own.mono (by have := HN.out; omega)) (fun g hg => ?_)
              have := (hms2.own.lt g hg).1
              omega
            · refine set10_own _ _ _ _ _ _ _ _ _ _ ((own92).mono (by have := HN.out; omega)) (fun g hg => ?_)
              have := (own9.lt g hg).1
              omega
            · exact set10_below _ _ _ _ _ _ _ _ _ _ (HN.out ▸ hms2.bel) (by have := HN.out; omega)
end Go.Proofs.Ytljbfnabnkkfeaa
