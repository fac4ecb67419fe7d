import Derived.Deep.DeepCutAuto
import Derived.Test.YtljbfnabnkkfeaaGreatSL02
set_option linter.unusedVariables false
set_option linter.unusedSimpArgs false
/- Joined by program: WBags. -/
namespace Go.Proofs.YtljbfnabnkkfeaaGreat
open Go.RowKit
def mk8 (k i : Int) : Int:=IntKind.u64.wrap ((1000003 * (k + 7) + i) * 11400714819323198485) / 72057594037927936 % 256
theorem mk8_bd (k i : Int) : 0<=mk8 k i∧mk8 k i<=255:=by unfold mk8;omega
set_option maxHeartbeats 400000 in
set_option maxRecDepth 100000 in
theorem mark_any (k i : Int) (w : World) (hk : 0<=k) (hk' : k<=1000000) (hi : 0<=i) (hi' : i<=281474976710656) :
 Calls Tryz.prog 73 #[.int .i64 k,.int .i64 i] w fun e w'=>e = .returned (.int .i64 (1000003 * (k + 7) + i))∧w=w':=by
 go_enter Tryz.func73,Tryz.ntmps73
 go_wp2
 go_ret
 exact ⟨rfl,rfl⟩
set_option maxHeartbeats 400000 in
set_option maxRecDepth 100000 in
theorem markByte_any (k i : Int) (w : World) (hk : 0<=k) (hk' : k<=1000000) (hi : 0<=i) (hi' : i<=281474976710656) :
 Calls Tryz.prog 42 #[.int .i64 k,.int .i64 i] w fun e w'=>e = .returned (.int .u8 (mk8 k i))∧w=w':=by
 go_enter Tryz.func42,Tryz.ntmps42
 go_wp2_with (go_at_call 73;refine (mark_any _ _ _ hk hk' hi hi').mono ?_;rintro e w' ⟨rfl,rfl⟩)
 go_ret
 exact ⟨rfl,rfl⟩
theorem quiet_of_left {P : Program} {f : FuncId} {args : Array Value} {w : World} {a n : Nat} {v : Value}
 (h : Calls P f args (w.drewN (a + n)) fun e w'=>e = .returned v∧w.drewN (a + n)=w') : Calls P f args (w.drewN (a + n)) fun e w''=>e = .returned v∧∃ m,w''=w.drewN (a + m) :=
 h.mono fun _ _ ⟨he,hm⟩=>⟨he,n,hm.symm⟩
def marksFrom (k : Int) (a : Nat) : Nat->List Int
 | 0=>[]
 | m + 1=>marksFrom k a m++[mk8 k (a + m : Nat)]
theorem marksFrom_len (k : Int) (a m : Nat) : (marksFrom k a m).length=m:=by
 induction m with
 | zero=>rfl
 | succ m ih=>simp [marksFrom,ih]
theorem marksFrom_get (k : Int) (a : Nat) : ∀ m i,i < m->(marksFrom k a m)[i]?.getD 0=mk8 k (a + i : Nat):=by
 intro m
 induction m with
 | zero=>intro i hi;omega
 | succ m ih =>
   intro i hi
   simp only [marksFrom]
   rcases Nat.lt_or_ge i m with h | h
   ·rw [List.getElem?_append_left (by rw [marksFrom_len];exact h)];exact ih i h
   ·obtain rfl : i=m:=by omega
    rw [List.getElem?_append_right (by rw [marksFrom_len];omega),marksFrom_len];simp
def Lent (w : World) (zs : List Int) (e : Ending) (w' : World) : Prop :=
 ∃ A n,e = .returned (.slice A n (n + 12))∧n=zs.length∧OWN .u8 5 w' w.heap.size A (n + 12) (n + 12) (zs++marksFrom 1 0 12)∧Below w.heap.size w w'
set_option maxHeartbeats 1000000 in
set_option maxRecDepth 100000 in
theorem lent_any (A : Option Addr) (n c : Nat) (zs : List Int) (w : World) (h : RD .u8 w w.heap.size A n zs) (hn : n<=140737488351232) :
 Calls Tryz.prog 14 #[.slice A n c] w (Lent w zs):=by
 obtain ⟨i0,hi,hz0,hz1,hz2⟩:=info_parts infoU8
 have HL:=Lib.hid h.1
 go_enter Tryz.func14,Tryz.ntmps14
 go_wp2_with (first
  | (at_make;refine wpList_make_own _ rfl _ _ _ rfl w.heap.size 5 i0 (.int .u8 0) 1 Tryz.underlying22 hi hz0 hz1 .i64 .i64 _ (n + 12) rfl rfl (by omega) (by rw [hz2];omega) (by simp only [maxLen];omega) (Nat.le_refl _) ?_;intro w1 hown1 hg1)
  | (at_builtin;refine wpList_append_rd _ rfl _ _ _ rfl .u8 w.heap.size 5 i0 1 Tryz.underlying22 hi hz0 hz1 hz2 (some ⟨w.heap.size,0,none⟩) 0 (n + 12) [] rfl hown1 w.heap.size A n c zs rfl (h.below ((Below.refl _ w).grown hg1 (Nat.le_refl _) (by simp))) (by simp only [maxLen];omega) (by omega) hg1.size ?_;intro A2 c2 w2 happ))
 have hb1 : Below w.heap.size w w1:=(Below.refl _ w).grown hg1 (Nat.le_refl _) (by simp)
 have hb2 : Below w.heap.size w w2:=hb1.trans (happ.keepBelow (fun g hg=>by simp at hg;omega) hb1.size)
 have own2:=happ.own
 have hlies : A2=some ⟨w.heap.size,0,none⟩∧c2=n + 12:=by
  rcases happ.lies with hl | hl
  ·exact hl
  ·omega
 obtain ⟨rfl,rfl⟩:=hlies
 rw [Nat.zero_add,List.nil_append] at own2
 clear happ hown1 hg1 hb1
 go_loopw [3,4] (fun v i wr=>∃ j : Nat,j<=12∧i = .int .i64 j∧v = .slice (some ⟨w.heap.size,0,none⟩) (n + j) (n + 12)∧OWN .u8 5 wr w.heap.size (some ⟨w.heap.size,0,none⟩) (n + j) (n + 12) (zs++marksFrom 1 0 j)∧Below w.heap.size w wr) (fun _ i _=>12 - (intOf i).toNat)
 case atStart=>exact ⟨0,Nat.zero_le _,rfl,rfl,by simpa [marksFrom] using own2,hb2⟩
 case round =>
  obtain ⟨j,hj,rfl,rfl,own,hb⟩:=hrel
  clear own2 hb2
  by_cases hlt : j < 12
  ·obtain ⟨mb1,mb2⟩:=mk8_bd 1 j
   go_wp2_with (first
    | (go_at_call 42;refine (markByte_any _ _ _ (by omega) (by omega) (by omega) (by omega)).mono ?_;rintro e w' ⟨rfl,rfl⟩)
    | (at_builtin;refine wpList_append_rd _ rfl _ _ _ rfl .u8 w.heap.size 5 i0 1 Tryz.underlying22 hi hz0 hz1 hz2 (some ⟨w.heap.size,0,none⟩) (n + j) (n + 12) (zs++marksFrom 1 0 j) rfl (own.alloc _) (wr.heap.size + 1) (some ⟨wr.heap.size,0,none⟩) 1 1 [mk8 1 j] rfl (RD.new' wr .u8 5 [mk8 1 j] rfl (by omega) rfl) (by simp only [maxLen];omega) (by omega) (by have:=hb.size;simp;omega) ?_;intro A3 c3 w3 happ))
   have hb3 : Below w.heap.size w w3:=(hb.alloc hb.size _).trans (happ.keepBelow (fun g hg=>by simp at hg;omega) (by have:=hb.size;simp;omega))
   have own3:=happ.own
   have hlies : A3=some ⟨w.heap.size,0,none⟩∧c3=n + 12:=by
    rcases happ.lies with hl | hl
    ·exact hl
    ·omega
   obtain ⟨rfl,rfl⟩:=hlies
   go_roundw
   case rel=>exact ⟨j + 1,by omega,by go_num,rfl,by simpa [marksFrom,Nat.add_assoc] using own3,hb3⟩
   case measure=>simp [intOf];omega
  ·obtain rfl : 12=j:=by omega
   have t1 : (n : Int)<=(n : Int) + 12:=by omega
   go_wp2_with fail
   go_ret
   exact ⟨_,n,rfl,HL.out.symm,own,hb⟩
set_option maxHeartbeats 4000000 in
set_option maxRecDepth 100000 in
theorem kept_any (A : Option Addr) (n : Nat) (zs : List Int) (B : Option Addr) (c : Nat) (w : World) (h : RD .u8 w w.heap.size B n zs) (h2 : RD .u8 w w.heap.size A (n + 12) (zs++marksFrom 1 0 12)) (hn : n<=140737488351232) :
 Calls Tryz.prog 17 #[.slice A n (n + 12),.slice B n c] w fun e w'=>e = .returned (.bool true)∧∃ m,w'=w.drewN m:=by
 have HL:=Lib.hid h.1
 have t0 : ((n : Int) != (n : Int))=false:=by simp
 go_enter Tryz.func17,Tryz.ntmps17
 go_wp2_with fail
 go_loopw [6] (fun i wr=>∃ k : Nat,k<=n + 12∧i = .int .i64 k∧∃ m,wr=w.drewN m) (fun i _=>n + 12 - (intOf i).toNat)
 case atStart=>exact ⟨0,Nat.zero_le _,rfl,0,rfl⟩
 case round =>
  obtain ⟨k,hk,rfl,m,rfl⟩:=hrel
  by_cases hlt : k < n + 12
  ·obtain ⟨b2,o2,rfl,hb2,hc2⟩:=h2.2 (by omega)
   have x2:=hc2 k hlt
   clear hc2
   have i1 : (0 : Int)<=(k : Int):=by omega
   have i2 : (k : Int) < (n : Int) + 12:=by omega
   by_cases hkn : k < n
   ·obtain ⟨b1,o1,rfl,hb1,hc1⟩:=h.2 (by omega)
    have x1:=hc1 k hkn
    clear hc1
    rw [List.getElem?_append_left (by rw [HL.out];exact hkn)] at x2
    have d1 : decide ((k : Int) < (n : Int))=true:=by simp;omega
    have d2 : decide ((n : Int)<=(k : Int))=false:=by simp;omega
    have d3 : decide (n<=k)=false:=by simp;omega
    have d4 : decide (k < n)=true:=by simp;omega
    have i3 : (k : Int) < (n : Int):=by omega
    have e0 : (zs[k]?.getD 0 == zs[k]?.getD 0)=true:=by simp
    go_wp2_with fail
    go_quiet (fail)
    go_wp2_with fail
    go_roundw
    case rel=>exact ⟨k + 1,by omega,by go_num,_,rfl⟩
    case measure=>simp [intOf];omega
   ·rw [List.getElem?_append_right (by rw [HL.out];omega),HL.out,marksFrom_get 1 0 12 (k - n) (by omega),Nat.zero_add] at x2
    have d1 : decide ((k : Int) < (n : Int))=false:=by simp;omega
    have d2 : decide ((n : Int)<=(k : Int))=true:=by simp;omega
    have d3 : decide (n<=k)=true:=by simp;omega
    have d4 : decide (k < n)=false:=by simp;omega
    have d5 : n<=k:=by omega
    have i4 : IntKind.i64.wrap ((k : Int) - (n : Int))=(k : Int) - (n : Int):=IntWalk.i64_in _ (by omega)
    rw [show ((k - n : Nat) : Int)=(k : Int) - (n : Int) from by omega] at x2
    have e0 : (mk8 1 ((k : Int) - (n : Int)) == mk8 1 ((k : Int) - (n : Int)))=true:=by simp
    go_wp2_with fail
    go_quiet ((go_at_call 42;exact quiet_of_left (markByte_any _ _ _ (by omega) (by omega) (by omega) (by omega))))
    go_wp2_with fail
    go_roundw
    case rel=>exact ⟨k + 1,by omega,by go_num,_,rfl⟩
    case measure=>simp [intOf];omega
  ·go_wp2_with fail
   go_ret
   exact ⟨rfl,_,rfl⟩
attribute [local go_sem ↓] Go.wp_at_zero Go.wp_at_succ
def LSR (w : World) (B : Option Addr) (L : List SD) : Prop:=0 < L.length->∃ bl cur,B=some ⟨bl,0,none⟩∧w.heap[bl]?=some (.cells cur 22 (0,0))∧∀ (k : Nat) (s : SD),L[k]?=some s->cur[k]?=some s.val
def MK (j : Nat) (s : SD) : List Int:=marksFrom j 0 s.n
def MP (Z : Nat->SD->List Int) (k i : Nat) (j : Nat) (s : SD) : List Int:=if j < k then MK j s else if j=k then marksFrom j 0 i++(Z j s).drop i else Z j s
theorem mp_set (Z : List Int) (k : Int) (i : Nat) (hi : i < Z.length) : (marksFrom k 0 i++Z.drop i).set i (mk8 k i)=marksFrom k 0 (i + 1)++Z.drop (i + 1):=by
 rw [List.set_append_right _ _ (by rw [marksFrom_len];exact Nat.le_refl _),marksFrom_len,Nat.sub_self]
 rw [show (Z.drop i).set 0 (mk8 k i)=mk8 k i::Z.drop (i + 1) by rw [List.drop_eq_getElem_cons hi];rfl]
 simp [marksFrom]
theorem flat1_step {w : World} {base : Nat} {L : List SD} {Z : Nat->SD->List Int} {k i g n c : Nat} (hF : FAM 5 w base L (MP Z k i)) (hS : SEP L []) (hs : L[k]?=some ⟨some ⟨g,0,none⟩,n,c⟩) (hin : i < n) :
 FAM 5 (w.setCell ⟨g,i,none⟩ (.int .u8 (mk8 k i))) base L (MP Z k (i + 1)):=by
 have own:=hF k _ hs
 have e1 : ∀ i,MP Z k i k ⟨some ⟨g,0,none⟩,n,c⟩=marksFrom k 0 i++(Z k ⟨some ⟨g,0,none⟩,n,c⟩).drop i:=fun i=>by unfold MP;rw [if_neg (by omega),if_pos rfl]
 have hl:=own.len
 rw [e1] at hl own
 simp only [List.length_append,marksFrom_len,List.length_drop] at hl
 refine hF.one hs ?_ ?_ ?_
 ·rw [e1,<- mp_set _ _ _ (by omega)]
  exact own.stored i (mk8 k i)
 ·intro j t hj _
  unfold MP
  by_cases h1 : j < k
  ·rw [if_pos h1,if_pos h1]
  ·rw [if_neg h1,if_neg h1,if_neg hj,if_neg hj]
 ·intro j t g' hj ht hg'
  refine Below.heap_setCell _ _ _ _ (fun h=>hj ?_)
  subst h
  exact hS j k _ (.inl ⟨t,ht,hg'⟩) (.inl ⟨_,hs,rfl⟩)
theorem flat1_end {w : World} {base : Nat} {L : List SD} {Z : Nat->SD->List Int} {k : Nat} {s : SD} (hF : FAM 5 w base L (MP Z k s.n)) (hs : L[k]?=some s) : FAM 5 w base L (MP Z (k + 1) 0):=by
 refine hF.congr (fun j t ht=>?_)
 unfold MP
 by_cases h1 : j < k
 ·rw [if_pos h1,if_pos (by omega)]
 ·by_cases h2 : j=k
  ·subst h2
   rw [hs] at ht;injection ht with ht;subst ht
   have hl:=(hF j s hs).len
   unfold MP at hl
   rw [if_neg (by omega),if_pos rfl] at hl
   simp only [List.length_append,marksFrom_len,List.length_drop] at hl
   rw [if_neg (by omega),if_pos rfl,if_pos (by omega),List.drop_eq_nil_of_le (by omega),List.append_nil]
   rfl
  ·rw [if_neg h1,if_neg h2,if_neg (by omega)]
   by_cases h3 : j=k + 1
   ·rw [if_pos h3];simp [marksFrom]
   ·rw [if_neg h3]
theorem infoU8s : (Tryz.prog.info? 22).map (fun i=>(i.zero,i.size,i.bytes))=some (some (.slice none 0 0),1,24):=by kernel_rfl
structure G3 (Y : Nat->SD->List Int) (R : List Value) (w : World) (base G : Nat) (B : Option Addr) (L L2 : List SD) : Prop where
 fam : FAM 5 w base L MK
 ls : LSR w B L
 fam2 : FAM 5 w base L2 Y
 sep : SEP L L2
 lens : ∀ (j : Nat) (s t : SD),L[j]?=some s->L2[j]?=some t->t.n=s.n + 64
 row : w.heap[G]?=some (.cells (L2.map SD.val++R).toArray 22 (0,0))
 far : base<=G
 apart : ∀ bl,B=some ⟨bl,0,none⟩->0 < L.length->bl≠G
theorem G3.step {Y : Nat->SD->List Int} {R : List Value} {w w' : World} {base G k : Nat} {B : Option Addr} {L L2 : List SD} {s : SD} (h : G3 Y R w base G B L L2) (hs : L[k]?=some s) (hk2 : L2[k]?=none)
 (hrow : w'.heap[G]?=w.heap[G]?) (hbl : ∀ bl,B=some ⟨bl,0,none⟩->0 < L.length->w'.heap[bl]?=w.heap[bl]?)
 (hoth : ∀ (j g : Nat),j≠k->BLK L L2 j g->w'.heap[g]?=w.heap[g]?) (ho : OWN .u8 5 w' base s.A s.n s.c (MK k s)) : G3 Y R w' base G B L L2 where
 fam:=h.fam.one hs ho (fun _ _ _ _=>rfl) (fun j t g hj ht hg=>hoth j g hj (.inl ⟨t,ht,hg⟩))
 ls:=fun h0=>by
  obtain ⟨bl,cur,e1,e2,e3⟩:=h.ls h0
  exact ⟨bl,cur,e1,(hbl bl e1 h0).trans e2,e3⟩
 fam2:=h.fam2.keep (fun j t g ht hg=>hoth j g (fun e=>by rw [e,hk2] at ht;cases ht) (.inr ⟨t,ht,hg⟩))
 sep:=h.sep
 lens:=h.lens
 row:=hrow.trans h.row
 far:=h.far
 apart:=h.apart
theorem marksFrom_take (k : Int) (a : Nat) : ∀ m n,n<=m->(marksFrom k a m).take n=marksFrom k a n:=by
 intro m
 induction m with
 | zero =>
    intro n hn;have : n=0:=by omega
    rw [this];rfl
 | succ m ih =>
   intro n hn
   rcases Nat.lt_or_ge m n with h | h
   ·obtain rfl : n=m + 1:=by omega
    exact List.take_of_length_le (by rw [marksFrom_len];exact Nat.le_refl _)
   ·simp only [marksFrom]
    rw [List.take_append_of_le_length (by rw [marksFrom_len];exact h)]
    exact ih n h
theorem g3_start {w w2 : World} {base m : Nat} {B : Option Addr} {L : List SD} (hF : FAM 5 w base L MK) (hL : LSR w B L) (hS : SEP L []) (hb : base<=w.heap.size)
 (hown : w2.ownsRow base 22 1 (.slice (some ⟨w.heap.size,0,none⟩) m m) m (madeCells (Value.slice none 0 0).cells (m * 1)).toList) (hg : w.grownBy w2 none) : G3 MK (List.replicate m (.slice none 0 0)) w2 base w.heap.size B L [] where
 fam:=hF.keep (fun j s g hs hg'=>hg.block g (hF.lt hs hg').2 (by simp))
 ls:=fun h0=>by
  obtain ⟨bl,cur,e1,e2,e3⟩:=hL h0
  exact ⟨bl,cur,e1,(hg.block bl (Array.getElem?_eq_some_iff.1 e2).1 (by simp)).trans e2,e3⟩
 fam2:=fun j s hs=>by simp at hs
 sep:=hS
 lens:=fun j s t _ ht=>by simp at ht
 row:=by
  rcases hown.2 with ⟨h1,_⟩ | ⟨g,cap,cur,h1,_,h3,_,_,h6,h7⟩
  ·simp at h1
  ·simp at h1
   obtain ⟨rfl,rfl⟩:=h1
   rw [h3]
   have : cur.toList=List.replicate m (.slice none 0 0):=by
    rw [List.take_of_length_le (by simp [h6])] at h7
    rw [h7,Nat.mul_one]
    exact toList_madeCells_one _ _
   simp [<- this]
 far:=hb
 apart:=fun bl e h0=>by
  obtain ⟨bl',cur,e1,e2,_⟩:=hL h0
  rw [e] at e1;simp at e1;subst e1
  have:=(Array.getElem?_eq_some_iff.1 e2).1
  omega
structure I3 (Y : Nat->SD->List Int) (R : List Value) (w : World) (base G H : Nat) (B : Option Addr) (L L2 : List SD) (k i : Nat) (s : SD) (A' : Option Addr) (c' : Nat) : Prop where
 g3 : G3 Y R w base G B L L2
 own : OWN .u8 5 w base A' (s.n + i) c' (marksFrom k 0 (s.n + i))
 alt : (A'=s.A∧c'=s.c)∨∃ g',A'=some ⟨g',0,none⟩∧H<=g'
 hH : H<=w.heap.size
 lt : ∀ (j g : Nat),BLK L L2 j g->g < H
 ltG : G < H
 ltB : ∀ bl,B=some ⟨bl,0,none⟩->0 < L.length->bl < H
theorem I3.after {Y : Nat->SD->List Int} {R : List Value} {w w0 w' : World} {base G H k i : Nat} {B : Option Addr} {L L2 : List SD} {s : SD} {A' : Option Addr} {c' : Nat} (h : I3 Y R w base G H B L L2 k i s A' c') (hs : L[k]?=some s) (hk2 : L2[k]?=none)
 (hw0 : ∀ b,b < H->w0.heap[b]?=w.heap[b]?) (hH0 : H<=w0.heap.size) {A2 : Option Addr} {n2 c2 : Nat} {zs : List Int} (ha : APP .u8 5 w0 w' base A' A2 (s.n + i) n2 c' c2 (marksFrom k 0 (s.n + i)) zs) :
 G3 Y R w' base G B L L2:=by
 have keep : ∀ b,b < H->A'.map (·.block)≠some b->w'.heap[b]?=w.heap[b]?:=fun b hb hne=>(ha.grown.block b (by omega) (fun e=>hne e.symm)).trans (hw0 b hb)
 have hbk : ∀ g,A'=some ⟨g,0,none⟩->A'.map (·.block)=some g:=fun g e=>by rw [e];rfl
 have fresh : ∀ b,b < H->(∀ g,s.A=some ⟨g,0,none⟩->b≠g)->A'.map (·.block)≠some b:=by
  intro b hb hn
  rcases h.alt with ⟨e1,_⟩ | ⟨g',e1,e2⟩
  ·rw [e1]
   intro he
   have hx:=(h.g3.fam k s hs).cases
   rcases hx with ⟨e3,_⟩ | ⟨g,e3,_⟩
   ·rw [e3] at he;cases he
   ·rw [e3] at he;simp at he;exact hn g e3 he.symm
  ·rw [hbk g' e1]
   intro he;simp at he;omega
 refine h.g3.step hs hk2 (keep G h.ltG (fresh G h.ltG fun g hg=>fun e=>?_)) (fun bl e1 h0=>keep bl (h.ltB bl e1 h0) (fresh bl (h.ltB bl e1 h0) fun g hg=>fun e=>?_)) (fun j g hj hb=>keep g (h.lt j g hb) (fresh g (h.lt j g hb) fun g' hg' e=>?_)) ?_
 ·exact (h.g3.fam k s hs).ne_row hg h.g3.row (by decide) e.symm
 ·obtain ⟨bl',cur,e2,e3,_⟩:=h.g3.ls h0
  rw [e1] at e2;simp at e2;subst e2
  exact (h.g3.fam k s hs).ne_row hg e3 (by decide) e.symm
 ·subst e
  exact hj (h.g3.sep j k g hb (.inl ⟨s,hs,hg'⟩))
 ·rcases h.alt with ⟨e1,e2⟩ | ⟨g',e1,e2⟩
  ·have:=ha.old.cut (m:=s.n) (by omega)
   rw [marksFrom_take _ _ _ _ (by omega),e1,e2] at this
   exact this
  ·refine (h.g3.fam k s hs).keep fun g hg=>keep g (h.lt k g (.inl ⟨s,hs,hg⟩)) ?_
   have:=h.lt k g (.inl ⟨s,hs,hg⟩)
   rw [hbk g' e1]
   intro he;simp at he;omega
theorem I3.next {Y : Nat->SD->List Int} {R : List Value} {w w' : World} {base G H k i : Nat} {B : Option Addr} {L L2 : List SD} {s : SD} {A' : Option Addr} {c' : Nat} (h : I3 Y R w base G H B L L2 k i s A' c') (hs : L[k]?=some s) (hk2 : L2[k]?=none)
 {o : Obj} {A2 : Option Addr} {c2 : Nat} (ha : APP .u8 5 (w.alloc o) w' base A' A2 (s.n + i) (s.n + i + 1) c' c2 (marksFrom k 0 (s.n + i)) (marksFrom k 0 (s.n + i)++[mk8 k (s.n + i : Nat)])) :
 I3 Y R w' base G H B L L2 k (i + 1) s A2 c2 where
 g3:=h.after hs hk2 (fun b hb=>Below.heap_alloc w o b (by have:=h.hH;omega)) (by have:=h.hH;simp;omega) ha
 own:=by
  have:=ha.own
  rw [show marksFrom k 0 (s.n + i)++[mk8 k (s.n + i : Nat)]=marksFrom k 0 (s.n + i + 1) by simp [marksFrom]] at this
  exact this
 alt:=by
  rcases ha.lies with ⟨e1,e2⟩ | ⟨_,e1⟩
  ·rcases h.alt with ⟨e3,e4⟩ | ⟨g',e3,e4⟩
   ·exact .inl ⟨e1.trans e3,e2.trans e4⟩
   ·exact .inr ⟨g',e1.trans e3,e4⟩
  ·exact .inr ⟨_,e1,by have:=h.hH;simp;omega⟩
 hH:=Nat.le_trans h.hH (Nat.le_trans (by simp) ha.grown.size)
 lt:=h.lt
 ltG:=h.ltG
 ltB:=h.ltB
theorem G3.bound {Y : Nat->SD->List Int} {R : List Value} {w : World} {base G : Nat} {B : Option Addr} {L L2 : List SD} (h : G3 Y R w base G B L L2) :
 (∀ (j g : Nat),BLK L L2 j g->g < w.heap.size)∧G < w.heap.size∧(∀ bl,B=some ⟨bl,0,none⟩->0 < L.length->bl < w.heap.size):=by
 refine ⟨fun j g hb=>?_,(Array.getElem?_eq_some_iff.1 h.row).1,fun bl e h0=>?_⟩
 ·rcases hb with ⟨s,h1,h2⟩ | ⟨s,h1,h2⟩
  ·exact (h.fam.lt h1 h2).2
  ·exact (h.fam2.lt h1 h2).2
 ·obtain ⟨bl',cur,e1,e2,_⟩:=h.ls h0
  rw [e] at e1;simp at e1;subst e1
  exact (Array.getElem?_eq_some_iff.1 e2).1
theorem I3.start {Y : Nat->SD->List Int} {R : List Value} {w : World} {base G k : Nat} {B : Option Addr} {L L2 : List SD} {s : SD} (h : G3 Y R w base G B L L2) (hs : L[k]?=some s) : I3 Y R w base G w.heap.size B L L2 k 0 s s.A s.c where
 g3:=h
 own:=h.fam k s hs
 alt:=.inl ⟨rfl,rfl⟩
 hH:=Nat.le_refl _
 lt:=h.bound.1
 ltG:=h.bound.2.1
 ltB:=h.bound.2.2
theorem G3.next_cell {Y : Nat->SD->List Int} {x : Value} {R : List Value} {w : World} {base G : Nat} {B : Option Addr} {L L2 : List SD} (h : G3 Y (x::R) w base G B L L2) : w.cell? ⟨G,L2.length,none⟩=some x∧w.frozen? ⟨G,L2.length,none⟩=false:=by
 refine ⟨?_,frozen_of_row w G _ _ 22 h.row⟩
 rw [cell_of_row w G _ _ 22 (0,0) h.row]
 simp
theorem G3.put {Y : Nat->SD->List Int} {x : Value} {R : List Value} {w : World} {base G : Nat} {B : Option Addr} {L L2 : List SD} {s : SD} (h : G3 Y (x::R) w base G B L L2) (hs : L[L2.length]?=some s) {A' : Option Addr} {n' c' : Nat} (hn' : n'=s.n + 64)
 (ho : OWN .u8 5 w base A' n' c' (Y L2.length ⟨A',n',c'⟩)) (alt : A'=s.A∨∃ g',A'=some ⟨g',0,none⟩∧∀ (j g : Nat),BLK L L2 j g->g≠g') :
 G3 Y R (w.setCell ⟨G,L2.length,none⟩ (.slice A' n' c')) base G B L (L2++[⟨A',n',c'⟩]):=by
 have keep : ∀ b,b≠G->(w.setCell ⟨G,L2.length,none⟩ (.slice A' n' c')).heap[b]?=w.heap[b]?:=fun b hb=>Below.heap_setCell _ _ _ _ hb
 have hfam2 : FAM 5 (w.setCell ⟨G,L2.length,none⟩ (.slice A' n' c')) base L2 Y:=h.fam2.keep (fun j t g ht hg=>keep g ((h.fam2 j t ht).ne_row hg h.row (by decide)))
 have hnew : ∀ (j g : Nat),BLK L (L2++[⟨A',n',c'⟩]) j g->BLK L L2 j g∨(j=L2.length∧A'=some ⟨g,0,none⟩):=by
  rintro j g (hb | ⟨t,h1,h2⟩)
  ·exact .inl (.inl hb)
  ·rcases Nat.lt_trichotomy j L2.length with hj | hj | hj
   ·rw [List.getElem?_append_left hj] at h1;exact .inl (.inr ⟨t,h1,h2⟩)
   ·subst hj;simp at h1;subst h1;exact .inr ⟨rfl,h2⟩
   ·rw [List.getElem?_append_right (by omega),List.getElem?_eq_none (by simp;omega)] at h1;cases h1
 exact {
  fam:=h.fam.keep (fun j t g ht hg=>keep g ((h.fam j t ht).ne_row hg h.row (by decide)))
  ls:=fun h0=>by
   obtain ⟨bl,cur,e1,e2,e3⟩:=h.ls h0
   exact ⟨bl,cur,e1,(keep bl (h.apart bl e1 h0)).trans e2,e3⟩
  fam2:=hfam2.snoc (ho.keep fun g hg=>keep g (ho.ne_row hg h.row (by decide)))
  sep:=by
   have own : ∀ (j g : Nat),BLK L L2 j g->A'=some ⟨g,0,none⟩->j=L2.length:=by
    intro j g hb e
    rcases alt with e1 | ⟨g',e1,e2⟩
    ·exact h.sep j L2.length g hb (.inl ⟨s,hs,e1.symm.trans e⟩)
    ·rw [e] at e1;simp at e1;exact absurd e1 (e2 j g hb)
   intro i j g hi hj
   rcases hnew i g hi with h1 | ⟨h1,h1'⟩ <;> rcases hnew j g hj with h2 | ⟨h2,h2'⟩
   ·exact h.sep i j g h1 h2
   ·rw [h2];exact own i g h1 h2'
   ·rw [h1];exact (own j g h2 h1').symm
   ·rw [h1,h2]
  lens:=fun j u t hu ht=>by
   rcases Nat.lt_trichotomy j L2.length with hj | hj | hj
   ·rw [List.getElem?_append_left hj] at ht;exact h.lens j u t hu ht
   ·subst hj;rw [hs] at hu;simp at hu ht;subst hu;subst ht;exact hn'
   ·rw [List.getElem?_append_right (by omega),List.getElem?_eq_none (by simp;omega)] at ht;cases ht
  row:=by
   rw [heap_setCell_same w G L2.length _ 22 _ h.row]
   congr 2
   apply Array.ext'
   simp [SD.val]
  far:=h.far
  apart:=h.apart }
theorem own_mark {w : World} {base k n c i : Nat} {A : Option Addr} {zs : List Int} (h : OWN .u8 5 w base A n c zs) {l : Nat} (hz : zs.take l=marksFrom k 0 l) (hl : i < l) (hn : l<=n) : ∃ g,A=some ⟨g,0,none⟩∧w.cell? ⟨g,i,none⟩=some (.int .u8 (mk8 k i)):=by
 obtain ⟨g,rfl,_⟩:=h.form (by omega)
 refine ⟨g,rfl,?_⟩
 rw [h.cell (by omega)]
 have h1 : zs[i]?.getD 0=(zs.take l)[i]?.getD 0:=by rw [List.getElem?_take,if_pos hl]
 rw [h1,hz,marksFrom_get k 0 l i hl]
 simp
theorem G3.drewN {Y : Nat->SD->List Int} {R : List Value} {w : World} {base G : Nat} {B : Option Addr} {L L2 : List SD} (h : G3 Y R w base G B L L2) (q : Nat) : G3 Y R (w.drewN q) base G B L L2:=⟨h.fam,h.ls,h.fam2,h.sep,h.lens,h.row,h.far,h.apart⟩
def MX (m : Nat) (j : Nat) (s : SD) : List Int:=marksFrom j 0 (s.n - 64)++marksFrom (j + m : Nat) 0 64
theorem G3.again {w : World} {base G : Nat} {B : Option Addr} {L L2 : List SD} (h : G3 MK [] w base G B L L2) (m : Nat) : G3 (MX m) (L2.map SD.val) w base G B L [] where
 fam:=h.fam
 ls:=h.ls
 fam2:=fun j s hs=>by simp at hs
 sep:=fun i j g hi hj=>h.sep i j g (hi.elim .inl (fun ⟨s,h1,_⟩=>by simp at h1)) (hj.elim .inl (fun ⟨s,h1,_⟩=>by simp at h1))
 lens:=fun j s t _ ht=>by simp at ht
 row:=by have:=h.row;simpa using this
 far:=h.far
 apart:=h.apart
theorem G3.above {Y : Nat->SD->List Int} {R : List Value} {w w' : World} {base G H : Nat} {B : Option Addr} {L L2 : List SD} (h : G3 Y R w base G B L L2)
 (hb : (∀ (j g : Nat),BLK L L2 j g->g < H)∧G < H∧(∀ bl,B=some ⟨bl,0,none⟩->0 < L.length->bl < H)) (hk : ∀ b,b < H->w'.heap[b]?=w.heap[b]?) : G3 Y R w' base G B L L2 where
 fam:=h.fam.keep (fun j t g ht hg=>hk g (hb.1 j g (.inl ⟨t,ht,hg⟩)))
 ls:=fun h0=>by
  obtain ⟨bl,cur,e1,e2,e3⟩:=h.ls h0
  exact ⟨bl,cur,e1,(hk bl (hb.2.2 bl e1 h0)).trans e2,e3⟩
 fam2:=h.fam2.keep (fun j t g ht hg=>hk g (hb.1 j g (.inr ⟨t,ht,hg⟩)))
 sep:=h.sep
 lens:=h.lens
 row:=(hk G hb.2.1).trans h.row
 far:=h.far
 apart:=h.apart
theorem made64 {w : World} {base g : Nat} (h : w.ownsRow base 5 1 (.slice (some ⟨g,0,none⟩) 64 64) 64 (madeCells (Value.int .u8 0).cells (64 * 1)).toList) : OWN .u8 5 w base (some ⟨g,0,none⟩) 64 64 (List.replicate 64 0):=by
 unfold OWN
 rw [show (List.replicate 64 (0 : Int)).map (Value.int .u8)=(madeCells (Value.int .u8 0).cells (64 * 1)).toList by rw [Nat.mul_one,List.map_replicate];exact (toList_madeCells_one _ _).symm]
 exact h
theorem many_set (k : Int) (i : Nat) (hi : i < 64) : (marksFrom k 0 i++List.replicate (64 - i) 0).set i (mk8 k i)=marksFrom k 0 (i + 1)++List.replicate (64 - (i + 1)) 0:=by
 rw [List.set_append_right _ _ (by rw [marksFrom_len];exact Nat.le_refl _),marksFrom_len,Nat.sub_self,show 64 - i=64 - (i + 1) + 1 from by omega]
 simp [marksFrom,List.replicate_succ]
set_option maxHeartbeats 8000000 in
set_option maxRecDepth 100000 in
theorem flat_any (B : Option Addr) (cB base : Nat) (L : List SD) (Z : Nat->SD->List Int) (w : World) (hB : LSR w B L) (hF : FAM 5 w base L Z) (hS : SEP L []) (hm : L.length<=1000) (hn : ∀ (j : Nat) (s : SD),L[j]?=some s->s.n<=140737488351232) (hbase : base<=w.heap.size) :
 Calls Tryz.prog 77 #[.slice B L.length cB] w fun e w'=>e = .returned (.bool true)∧BES base (LB L) w w':=by
 obtain ⟨i0,hi,hz0,hz1,hz2⟩:=info_parts infoU8
 obtain ⟨m,hml⟩ : ∃ m,m=L.length:=⟨_,rfl⟩
 rw [<- hml] at hm ⊢
 have HM:=Lib.hid hml
 have HS:=Lib.hid hS
 have HN:=Lib.hid hn
 have HLS:=Lib.hid hB
 clear hml hS hn hB
 go_enter Tryz.func77,Tryz.ntmps77
 go_wp2_with fail
 go_loopw [3] (fun i wr=>∃ k : Nat,k<=m∧i = .int .i64 k∧Hid (FAM 5 wr base L (MP Z k 0))∧Hid (LSR wr B L)∧BES base (LB L) w wr) (fun i _=>m - (intOf i).toNat)
 case atStart=>exact ⟨0,Nat.zero_le _,rfl,hF.congr (fun j s _=>by unfold MP;rw [if_neg (by omega)];split <;> simp [marksFrom]),HLS,BES.refl _ _ _⟩
 case round =>
  obtain ⟨k,hk,rfl,HF,HL,HB⟩:=hrel
  clear hF HLS
  by_cases hlt : k < m
  ·obtain ⟨s,hs⟩ : ∃ s,L[k]?=some s:=⟨_,List.getElem?_eq_getElem (by rw [<- HM.out];exact hlt)⟩
   obtain ⟨bl,cur,rfl,hbl,hcur⟩:=HL.out (by rw [<- HM.out];omega)
   have hc:=hcur k s hs
   have hsn:=HN.out k s hs
   obtain ⟨wo,rfl⟩ : ∃ wo : World,wo=wr:=⟨_,rfl⟩
   have x0 : wo.cell? ⟨bl,k,none⟩=some (.slice s.A s.n s.c):=(cell_of_row wo bl k cur 22 (0,0) hbl).trans hc
   have HBL:=Lib.hid hbl
   have HC:=Lib.hid hcur
   have Hs:=Lib.hid hs
   clear hc hbl hcur hs
   obtain ⟨A,n,c⟩:=s
   dsimp only at x0 hsn
   go_wp2_with fail
   go_loopw [4] (fun i wr=>∃ k2 : Nat,k2<=n∧i = .int .i64 k2∧Hid (FAM 5 wr base L (MP Z k k2))∧Hid (wr.heap[bl]?=some (.cells cur 22 (0,0)))∧BES base (LB L) w wr∧wr.cell? ⟨bl,k,none⟩=some (.slice A n c)) (fun i _=>n - (intOf i).toNat)
   case atStart=>exact ⟨0,Nat.zero_le _,rfl,HF,HBL,HB,x0⟩
   case round =>
    obtain ⟨i,hi2,rfl,HF2,HBL2,HB2,x1⟩:=hrel
    clear HF HBL HB x0
    by_cases hlt2 : i < n
    ·have own:=HF2.out k ⟨A,n,c⟩ Hs.out
     dsimp only at own
     obtain ⟨g,rfl,hg1,hg2,hnc,hcm⟩:=own.form (by omega)
     have hgb : g≠bl:=own.ne_row rfl HBL2.out (by decide)
     have hgb2 : bl≠g:=fun h=>hgb h.symm
     have x2:=own.cell (i:=i) (by omega)
     have x3:=own.frozen i
     generalize (MP Z k i k ⟨some ⟨g,0,none⟩,n,c⟩)[i]?.getD 0=old at x2
     have OW:=Lib.hid own
     clear own
     have i1 : (0 : Int)<=(k : Int):=by omega
     have i2 : (k : Int) < (m : Int):=by omega
     have i3 : (0 : Int)<=(i : Int):=by omega
     have i4 : (i : Int) < (n : Int):=by omega
     go_wp2_with fail
     go_region_held3 (fun w'=>w'.cell? ⟨bl,k,none⟩=some (.slice (some ⟨g,0,none⟩) n c)) (go_keep)
      ((go_at_call 42;refine (markByte_any _ _ _ ?_ ?_ ?_ ?_).mono ?_;omega;omega;omega;omega;rintro e w' ⟨rfl,rfl⟩))
     go_wp2_with fail
     go_roundw
     case rel=>exact ⟨i + 1,by omega,by go_num,flat1_step HF2.out HS.out Hs.out hlt2,(Below.heap_setCell _ _ _ _ hgb2).trans HBL2.out,(HB2.setCell (p:=⟨g,i,none⟩) hg1 (.inl ⟨k,_,Hs.out,rfl⟩) _).drew,(World.cell?_setCell_other _ _ _ _ (by simp)).trans x1⟩
     case measure=>simp [intOf];omega
    ·obtain rfl : n=i:=by omega
     have HF3:=Lib.hid (flat1_end (s:=⟨A,n,c⟩) HF2.out Hs.out)
     have HL3:=Lib.hid (show LSR wr (some ⟨bl,0,none⟩) L from fun _=>⟨bl,cur,rfl,HBL2.out,HC.out⟩)
     go_wp2_with fail
     go_roundw
     case rel=>exact ⟨k + 1,by omega,by go_num,HF3,HL3,HB2⟩
     case measure=>simp [intOf];omega
  ·have HF3:=Lib.hid (show FAM 5 wr base L MK from HF.out.congr (fun j s hs=>by
    have : j < L.length:=(List.getElem?_eq_some_iff.1 hs).1
    rw [<- HM.out] at this
    unfold MP;rw [if_pos (by omega)]))
   clear HF
   obtain ⟨j0,hj,hy0,hy1,hy2⟩:=info_parts infoU8s
   go_wp2_with (at_make;refine wpList_make_full _ rfl _ _ _ rfl base 22 j0 (.slice none 0 0) 1 Tryz.underlying25 hj hy0 hy1 .i64 .i64 _ _ m rfl rfl rfl rfl (by rw [hy2];omega) (by simp only [maxLen];omega) (Nat.le_trans hbase HB.size) ?_;intro w2 hown2 hg2)
   have HG:=Lib.hid (g3_start HF3.out HL.out HS.out (Nat.le_trans hbase HB.size) hown2 hg2)
   have hGw:=HB.size
   have HB2 : BES base (LB L) w w2:=HB.grown hg2 (Nat.le_trans hbase HB.size) (by simp)
   clear hown2 hg2 HF3 HL HB
   generalize wr.heap.size=G at HG hGw ⊢
   clear hk hlt
   go_loopw [6] (fun i wr=>∃ (k : Nat) (L2 : List SD),k<=m∧i = .int .i64 k∧Hid (L2.length=k)∧Hid (G3 MK (List.replicate (m - k) (.slice none 0 0)) wr base G B L L2)∧BES base (LB L) w wr) (fun i _=>m - (intOf i).toNat)
   case atStart=>exact ⟨0,[],Nat.zero_le _,rfl,rfl,HG,HB2⟩
   case round =>
    obtain ⟨k,L2,hk,rfl,H2,HG3,HB3⟩:=hrel
    clear HG HB2
    by_cases hlt : k < m
    ·obtain ⟨s,hs⟩ : ∃ s,L[k]?=some s:=⟨_,List.getElem?_eq_getElem (by rw [<- HM.out];exact hlt)⟩
     obtain ⟨bl,cur,rfl,hbl,hcur⟩:=HG3.out.ls (by rw [<- HM.out];omega)
     have hc:=hcur k s hs
     have hsn:=HN.out k s hs
     have hk2 : L2[k]?=none:=List.getElem?_eq_none (by rw [H2.out];exact Nat.le_refl _)
     obtain ⟨wo,rfl⟩ : ∃ wo : World,wo=wr:=⟨_,rfl⟩
     have x0 : wo.cell? ⟨bl,k,none⟩=some (.slice s.A s.n s.c):=(cell_of_row wo bl k cur 22 (0,0) hbl).trans hc
     have HI0:=Lib.hid (I3.start HG3.out hs)
     have Hs:=Lib.hid hs
     have Hk2:=Lib.hid hk2
     clear hc hbl hcur hs hk2 HG3
     obtain ⟨A,n,c⟩:=s
     dsimp only at x0 hsn HI0
     have hwb:=HB3.size
     generalize wo.heap.size=Hh at HI0 hwb
     go_wp2_with fail
     go_loopw [7,8] (fun v i wr=>∃ (i2 : Nat) (A' : Option Addr) (c' : Nat),i2<=64∧i = .int .i64 i2∧v = .slice A' (n + i2) c'∧Hid (I3 MK (List.replicate (m - k) (.slice none 0 0)) wr base G Hh (some ⟨bl,0,none⟩) L L2 k i2 ⟨A,n,c⟩ A' c')∧BES base (LB L) w wr) (fun _ i _=>64 - (intOf i).toNat)
     case atStart=>exact ⟨0,A,c,Nat.zero_le _,rfl,rfl,HI0,HB3⟩
     case round =>
      obtain ⟨i,A',c',hi64,rfl,rfl,HI,HB4⟩:=hrel
      clear HI0 HB3 x0
      by_cases hlt2 : i < 64
      ·obtain ⟨bl',cur',e1,hbl,hcur⟩:=HI.out.g3.ls (by rw [<- HM.out];omega)
       obtain rfl : bl=bl':=by simpa using e1
       have x0 : wr.cell? ⟨bl,k,none⟩=some (.slice A n c):=(cell_of_row wr bl k cur' 22 (0,0) hbl).trans (hcur k _ Hs.out)
       clear e1 hbl hcur
       have own:=HI.out.own
       dsimp only at own
       have hHH:=HI.out.hH
       obtain ⟨mb1,mb2⟩:=mk8_bd k (n + i)
       go_wp2_with (first
        | (go_at_call 42;refine (markByte_any _ _ _ (by omega) (by omega) (by omega) (by omega)).mono ?_;rintro e w' ⟨rfl,rfl⟩)
        | (at_builtin;refine wpList_append_rd _ rfl _ _ _ rfl .u8 base 5 i0 1 Tryz.underlying22 hi hz0 hz1 hz2 A' (n + i) c' (marksFrom k 0 (n + i)) rfl (own.alloc _) (wr.heap.size + 1) (some ⟨wr.heap.size,0,none⟩) 1 1 [mk8 k (n + i)] rfl (RD.new' wr .u8 5 [mk8 k (n + i)] rfl (by omega) rfl) (by simp only [maxLen];omega) (by omega) (by have:=HB4.size;simp;omega) ?_;intro A3 c3 w3 happ))
       have HB5 : BES base (LB L) w w3:=(HB4.alloc (Nat.le_trans hbase HB4.size) _).grown happ.grown (by have:=HB4.size;simp;omega) (fun g hg=>by
        rcases own.cases with ⟨rfl,_⟩ | ⟨g',rfl,hg',_⟩
        ·simp at hg
        ·simp at hg
         subst hg
         refine ⟨hg',?_⟩
         rcases HI.out.alt with ⟨e1,_⟩ | ⟨g2,e1,e2⟩
         ·exact .inl ⟨k,_,Hs.out,e1.symm⟩
         ·simp at e1
          subst e1
          exact .inr (by omega))
       have HI2:=Lib.hid (HI.out.next Hs.out Hk2.out (by simpa using happ))
       go_roundw
       case rel=>exact ⟨i + 1,A3,c3,by omega,by go_num,rfl,HI2,HB5⟩
       case measure=>simp [intOf];omega
      ·obtain rfl : 64=i:=by omega
       have hrep : List.replicate (m - k) (Value.slice none 0 0) = .slice none 0 0::List.replicate (m - (k + 1)) (.slice none 0 0):=by
        rw [show m - k=m - (k + 1) + 1 from by omega];rfl
       rw [hrep] at HI
       have hL2:=H2.out
       obtain ⟨y1,y2⟩:=HI.out.g3.next_cell
       rw [hL2] at y1 y2
       have hgf:=HI.out.g3.far
       have HP:=Lib.hid (HI.out.g3.put (s:=⟨A,n,c⟩) (by rw [hL2];exact Hs.out) rfl (by rw [hL2];exact HI.out.own) (by
        rcases HI.out.alt with ⟨e1,_⟩ | ⟨g',e1,e2⟩
        ·exact .inl e1
        ·exact .inr ⟨g',e1,fun j g hb=>by have:=HI.out.lt j g hb;omega⟩))
       rw [hL2] at HP
       have H3:=Lib.hid (show (L2++[(⟨A',n + 64,c'⟩ : SD)]).length=k + 1 by simp [hL2])
       clear hrep hL2
       go_wp2_with fail
       go_roundw
       case rel=>exact ⟨k + 1,L2++[⟨A',n + 64,c'⟩],by omega,by go_num,H3,HP,HB4.setCell (p:=⟨G,k,none⟩) hgf (.inr hGw) _⟩
       case measure=>simp [intOf];omega
    ·obtain rfl : m=k:=by omega
     rw [Nat.sub_self] at HG3
     clear hk hlt
     obtain ⟨w5,rfl⟩ : ∃ w5 : World,w5=wr:=⟨_,rfl⟩
     go_wp2_with fail
     go_loopw [9] (fun i wr=>∃ k : Nat,k<=m∧i = .int .i64 k∧∃ q,wr=w5.drewN q) (fun i _=>m - (intOf i).toNat)
     case atStart=>exact ⟨0,Nat.zero_le _,rfl,0,rfl⟩
     case round =>
      obtain ⟨k,hk,rfl,q,rfl⟩:=hrel
      by_cases hlt : k < m
      ·obtain ⟨s,hs⟩ : ∃ s,L[k]?=some s:=⟨_,List.getElem?_eq_getElem (by rw [<- HM.out];exact hlt)⟩
       obtain ⟨t,ht⟩ : ∃ t,L2[k]?=some t:=⟨_,List.getElem?_eq_getElem (by rw [H2.out];exact hlt)⟩
       obtain ⟨bl,cur,rfl,hbl,hcur⟩:=HG3.out.ls (by rw [<- HM.out];omega)
       have x0 : w5.cell? ⟨bl,k,none⟩=some (.slice s.A s.n s.c):=(cell_of_row w5 bl k cur 22 (0,0) hbl).trans (hcur k s hs)
       have x1 : w5.cell? ⟨G,k,none⟩=some (.slice t.A t.n t.c):=by
        rw [cell_of_row w5 G k _ 22 (0,0) HG3.out.row]
        simp [ht,SD.val]
       have hsn:=HN.out k s hs
       have htn:=HG3.out.lens k s t hs ht
       have o1:=Lib.hid (HG3.out.fam k s hs)
       have o2:=Lib.hid (HG3.out.fam2 k t ht)
       clear hbl hcur hs ht
       obtain ⟨A,n,c⟩:=s
       obtain ⟨A2,n2,c2⟩:=t
       dsimp only at x0 x1 hsn htn o1 o2
       have hn2 : n2<=n + 64:=by omega
       have hn3 : n<=n2:=by omega
       clear htn
       go_wp2_with fail
       go_loopw [10] (fun i wr=>∃ i2 : Nat,i2<=n2∧i = .int .i64 i2∧∃ q,wr=w5.drewN q) (fun i _=>n2 - (intOf i).toNat)
       case atStart=>exact ⟨0,Nat.zero_le _,rfl,q,rfl⟩
       case round =>
        obtain ⟨i,hi2,rfl,q2,rfl⟩:=hrel
        have i1 : (0 : Int)<=(k : Int):=by omega
        have i2 : (k : Int) < (m : Int):=by omega
        have i3 : (0 : Int)<=(i : Int):=by omega
        by_cases hlt2 : i < n2
        ·obtain ⟨g2,rfl,x3⟩:=own_mark o2.out (l:=n2) (List.take_of_length_le (by rw [o2.out.len];exact Nat.le_refl _)) hlt2 (Nat.le_refl _)
         have i4 : (i : Int) < (n2 : Int):=by omega
         have e0 : (mk8 k i == mk8 k i)=true:=by simp
         by_cases hin : i < n
         ·obtain ⟨g1,rfl,x2⟩:=own_mark o1.out (l:=n) (List.take_of_length_le (by rw [o1.out.len];exact Nat.le_refl _)) hin (Nat.le_refl _)
          have i5 : (i : Int) < (n : Int):=by omega
          have d1 : decide ((i : Int) < (n : Int))=true:=by simp;omega
          have d2 : decide (i < n)=true:=by simp;omega
          go_wp2_with fail
          go_quiet ((go_at_call 42;exact quiet_of_left (markByte_any _ _ _ (by omega) (by omega) (by omega) (by omega))))
          go_wp2_with fail
          go_roundw
          case rel=>exact ⟨i + 1,by omega,by go_num,_,rfl⟩
          case measure=>simp [intOf];omega
         ·have d1 : decide ((i : Int) < (n : Int))=false:=by simp;omega
          have d2 : decide (i < n)=false:=by simp;omega
          go_wp2_with fail
          go_quiet ((go_at_call 42;exact quiet_of_left (markByte_any _ _ _ (by omega) (by omega) (by omega) (by omega))))
          go_wp2_with fail
          go_roundw
          case rel=>exact ⟨i + 1,by omega,by go_num,_,rfl⟩
          case measure=>simp [intOf];omega
        ·go_wp2_with fail
         go_roundw
         case rel=>exact ⟨k + 1,by omega,by go_num,_,rfl⟩
         case measure=>simp [intOf];omega
      ·have HG5:=Lib.hid ((HG3.out.drewN q).again m)
       have HB5:=HB3.drewN q
       generalize w5.drewN q=w7 at HG5 HB5 ⊢
       clear HG3 HB3
       go_wp2_with fail
       clear hk hlt
       go_loopw [11] (fun i wr=>∃ (k : Nat) (L3 : List SD),k<=m∧i = .int .i64 k∧Hid (L3.length=k)∧Hid (G3 (MX m) ((L2.drop k).map SD.val) wr base G B L L3)∧BES base (LB L) w wr) (fun i _=>m - (intOf i).toNat)
       case atStart=>exact ⟨0,[],Nat.zero_le _,rfl,rfl,HG5,HB5⟩
       case round =>
        obtain ⟨k,L3,hk,rfl,H3,HG7,HB7⟩:=hrel
        clear HG5 HB5
        by_cases hlt : k < m
        ·obtain ⟨s,hs⟩ : ∃ s,L[k]?=some s:=⟨_,List.getElem?_eq_getElem (by rw [<- HM.out];exact hlt)⟩
         obtain ⟨t,ht⟩ : ∃ t,L2[k]?=some t:=⟨_,List.getElem?_eq_getElem (by rw [H2.out];exact hlt)⟩
         have hk3 : L3[k]?=none:=List.getElem?_eq_none (by rw [H3.out];exact Nat.le_refl _)
         have hdrop : (L2.drop k).map SD.val=t.val::(L2.drop (k + 1)).map SD.val:=by
          obtain ⟨h1,h2⟩:=List.getElem?_eq_some_iff.1 ht
          rw [List.drop_eq_getElem_cons h1,h2];rfl
         rw [hdrop] at HG7
         have hbd:=HG7.out.bound
         have hsn:=HN.out k s hs
         have Hs:=Lib.hid hs
         have Hk3:=Lib.hid hk3
         clear hs ht hk3 hdrop
         have HBD:=Lib.hid hbd
         clear hbd
         obtain ⟨wo,rfl⟩ : ∃ wo : World,wo=wr:=⟨_,rfl⟩
         have hwz:=HB7.size
         go_wp2_with (at_make;refine wpList_make_full _ rfl _ _ _ rfl base 5 i0 (.int .u8 0) 1 Tryz.underlying22 hi hz0 hz1 .i64 .i64 _ _ 64 rfl rfl rfl rfl (by rw [hz2];omega) (by simp only [maxLen];omega) (Nat.le_trans hbase HB7.size) ?_;intro w8 hown8 hg8)
         have own8:=made64 hown8
         have HG8:=Lib.hid (HG7.out.above HBD.out (fun b hb=>hg8.block b hb (by simp)))
         have HB8 : BES base (LB L) w w8:=HB7.grown hg8 (Nat.le_trans hbase HB7.size) (by simp)
         clear hown8 hg8 HG7 HB7
         generalize wo.heap.size=Mb at own8 HBD hwz ⊢
         go_loopw [13] (fun i wr=>∃ i2 : Nat,i2<=64∧i = .int .i64 i2∧Hid (OWN .u8 5 wr base (some ⟨Mb,0,none⟩) 64 64 (marksFrom (k + m : Nat) 0 i2++List.replicate (64 - i2) 0))∧Hid (G3 (MX m) (t.val::(L2.drop (k + 1)).map SD.val) wr base G B L L3)∧BES base (LB L) w wr) (fun i _=>64 - (intOf i).toNat)
         case atStart=>exact ⟨0,Nat.zero_le _,rfl,own8,HG8,HB8⟩
         case round =>
          obtain ⟨i,hi64,rfl,HO9,HG9,HB9⟩:=hrel
          clear own8 HG8 HB8
          by_cases hlt2 : i < 64
          ·have x2:=HO9.out.cell (i:=i) hlt2
           have x3:=HO9.out.frozen i
           generalize (marksFrom (k + m : Nat) 0 i++List.replicate (64 - i) 0)[i]?.getD 0=old at x2
           have HO10:=Lib.hid (HO9.out.stored i (mk8 (k + m : Nat) i))
           rw [many_set _ _ hlt2] at HO10
           have HG10:=Lib.hid (HG9.out.above (w':=wr.setCell ⟨Mb,i,none⟩ (.int .u8 (mk8 (k + m : Nat) i))) HBD.out (fun b hb=>Below.heap_setCell _ _ _ _ (by simp;omega)))
           have HB10:=HB9.setCell (p:=⟨Mb,i,none⟩) (Nat.le_trans hbase hwz) (.inr hwz) (.int .u8 (mk8 (k + m : Nat) i))
           rw [show ((k + m : Nat) : Int)=(k : Int) + (m : Int) from by omega] at HO10 HG10 HB10
           go_wp2_with (go_at_call 42;refine (markByte_any _ _ _ (by omega) (by omega) (by omega) (by omega)).mono ?_;rintro e w' ⟨rfl,rfl⟩)
           go_roundw
           case rel=>exact ⟨i + 1,by omega,by go_num,HO10,HG10,HB10⟩
           case measure=>simp [intOf];omega
          ·obtain rfl : 64=i:=by omega
           rw [Nat.sub_self,List.replicate_zero,List.append_nil] at HO9
           obtain ⟨bl,cur,rfl,hbl,hcur⟩:=HG9.out.ls (by rw [<- HM.out];omega)
           have x0 : wr.cell? ⟨bl,k,none⟩=some (.slice s.A s.n s.c):=(cell_of_row wr bl k cur 22 (0,0) hbl).trans (hcur k _ Hs.out)
           clear hbl hcur
           have hI:=I3.start HG9.out Hs.out
           have HI:=Lib.hid hI
           have own:=hI.own
           clear hI
           obtain ⟨A,n,c⟩:=s
           dsimp only at x0 own hsn
           rw [Nat.add_zero] at own
           have hL3:=H3.out
           have HL3:=Lib.hid hL3
           clear hL3
           have hgf:=HG9.out.far
           have hrdm:=HO9.out.rd
           go_wp2_with (at_builtin;refine wpList_append_rd _ rfl _ _ _ rfl .u8 base 5 i0 1 Tryz.underlying22 hi hz0 hz1 hz2 A n c (marksFrom k 0 n) rfl own wr.heap.size (some ⟨Mb,0,none⟩) 64 64 (marksFrom (k + m : Nat) 0 64) rfl hrdm (by simp only [maxLen];omega) (by omega) (Nat.le_trans hbase HB9.size) ?_;intro A3 c3 w3 happ;have HG11:=Lib.hid (HI.out.after Hs.out Hk3.out (fun b _=>rfl) (Nat.le_refl _) happ);obtain ⟨y1,y2⟩:=HG11.out.next_cell;rw [HL3.out] at y1 y2)
           have HB11 : BES base (LB L) w w3:=HB9.grown happ.grown (Nat.le_trans hbase HB9.size) (fun g hg=>by
            rcases own.cases with ⟨rfl,_⟩ | ⟨g',rfl,hg',_⟩
            ·simp at hg
            ·simp at hg;subst hg;exact ⟨hg',.inl ⟨k,_,Hs.out,rfl⟩⟩)
           have HP:=Lib.hid (HG11.out.put (s:=⟨A,n,c⟩) (A':=A3) (n':=n + 64) (c':=c3) (by rw [HL3.out];exact Hs.out) rfl (by
            rw [HL3.out]
            unfold MX
            dsimp only
            rw [Nat.add_sub_cancel]
            exact happ.own) (by
            rcases happ.lies with ⟨e1,_⟩ | ⟨_,e1⟩
            ·exact .inl e1
            ·exact .inr ⟨_,e1,fun j g hb=>by have:=HG9.out.bound.1 j g hb;omega⟩))
           rw [HL3.out] at HP
           have H4:=Lib.hid (show (L3++[(⟨A3,n + 64,c3⟩ : SD)]).length=k + 1 by simp [HL3.out])
           go_roundw
           case rel=>exact ⟨k + 1,L3++[⟨A3,n + 64,c3⟩],by omega,by go_num,H4,HP,HB11.setCell (p:=⟨G,k,none⟩) hgf (.inr hGw) _⟩
           case measure=>simp [intOf];omega
        ·have HG8 : Hid (G3 (MX m) [] wr base G B L L3):=by
          have:=HG7.out
          rw [List.drop_eq_nil_of_le (by rw [H2.out];omega)] at this
          exact this
         have H3m:=Lib.hid (show L3.length=m by rw [H3.out];omega)
         obtain ⟨w9,rfl⟩ : ∃ w9 : World,w9=wr:=⟨_,rfl⟩
         clear HG7
         go_wp2_with fail
         clear hk hlt
         go_loopw [14] (fun i wr=>∃ k : Nat,k<=m∧i = .int .i64 k∧∃ q,wr=w9.drewN q) (fun i _=>m - (intOf i).toNat)
         case atStart=>exact ⟨0,Nat.zero_le _,rfl,0,rfl⟩
         case round =>
          obtain ⟨k,hk,rfl,q,rfl⟩:=hrel
          by_cases hlt : k < m
          ·obtain ⟨s,hs⟩ : ∃ s,L[k]?=some s:=⟨_,List.getElem?_eq_getElem (by rw [<- HM.out];exact hlt)⟩
           obtain ⟨t,ht⟩ : ∃ t,L3[k]?=some t:=⟨_,List.getElem?_eq_getElem (by rw [H3m.out];exact hlt)⟩
           obtain ⟨bl,cur,rfl,hbl,hcur⟩:=HG8.out.ls (by rw [<- HM.out];omega)
           have x0 : w9.cell? ⟨bl,k,none⟩=some (.slice s.A s.n s.c):=(cell_of_row w9 bl k cur 22 (0,0) hbl).trans (hcur k s hs)
           have x1 : w9.cell? ⟨G,k,none⟩=some (.slice t.A t.n t.c):=by
            rw [cell_of_row w9 G k _ 22 (0,0) HG8.out.row]
            simp [ht,SD.val]
           have hsn:=HN.out k s hs
           have htn:=HG8.out.lens k s t hs ht
           have o1:=Lib.hid (HG8.out.fam k s hs)
           have o2:=Lib.hid (HG8.out.fam2 k t ht)
           clear hbl hcur hs ht
           obtain ⟨A,n,c⟩:=s
           obtain ⟨A2,n2,c2⟩:=t
           dsimp only at x0 x1 hsn htn o1 o2
           have hn2 : n2<=n + 64:=by omega
           have hn3 : n<=n2:=by omega
           have HT:=Lib.hid htn
           clear htn
           go_wp2_with fail
           go_loopw [15] (fun i wr=>∃ i2 : Nat,i2<=n∧i = .int .i64 i2∧∃ q,wr=w9.drewN q) (fun i _=>n - (intOf i).toNat)
           case atStart=>exact ⟨0,Nat.zero_le _,rfl,q,rfl⟩
           case round =>
            obtain ⟨i,hi2,rfl,q2,rfl⟩:=hrel
            have i1 : (0 : Int)<=(k : Int):=by omega
            have i2 : (k : Int) < (m : Int):=by omega
            have i3 : (0 : Int)<=(i : Int):=by omega
            by_cases hlt2 : i < n
            ·obtain ⟨g2,rfl,x3⟩:=own_mark o2.out (l:=n) (k:=k) (i:=i) (by
              unfold MX
              dsimp only
              rw [HT.out,Nat.add_sub_cancel,List.take_left' (marksFrom_len _ _ _)]) hlt2 hn3
             obtain ⟨g1,rfl,x2⟩:=own_mark o1.out (l:=n) (List.take_of_length_le (by rw [o1.out.len];exact Nat.le_refl _)) hlt2 (Nat.le_refl _)
             have i4 : (i : Int) < (n2 : Int):=by omega
             have i5 : (i : Int) < (n : Int):=by omega
             have e0 : (mk8 k i == mk8 k i)=true:=by simp
             go_wp2_with fail
             go_quiet ((go_at_call 42;exact quiet_of_left (markByte_any _ _ _ (by omega) (by omega) (by omega) (by omega))))
             go_wp2_with fail
             go_roundw
             case rel=>exact ⟨i + 1,by omega,by go_num,_,rfl⟩
             case measure=>simp [intOf];omega
            ·go_wp2_with fail
             go_roundw
             case rel=>exact ⟨k + 1,by omega,by go_num,_,rfl⟩
             case measure=>simp [intOf];omega
          ·go_wp2_with fail
           go_ret
           exact ⟨rfl,HB7.drewN _⟩
end Go.Proofs.YtljbfnabnkkfeaaGreat
namespace Go.Proofs.YtljbfnabnkkfeaaGreat
open Go.RowKit
attribute [local go_sem ↓] Go.wp_at_zero Go.wp_at_succ
theorem infoflatInts : (Tryz.prog.info? 39).map (fun i=>(i.zero,i.size,i.bytes))=some (some (.slice none 0 0),1,24):=by kernel_rfl
theorem undflatInts : Tryz.prog.underlying 100=some (.slice 39):=by kernel_rfl
set_option maxRecDepth 100000 in
theorem flatInts_no (w : World) : Calls Tryz.prog 75 #[.slice none 0 0] w fun e w'=>e = .returned (.bool true)∧Below w.heap.size w w':=by
 obtain ⟨j0,hj,hy0,hy1,hy2⟩:=info_parts infoflatInts
 go_enter Tryz.func75,Tryz.ntmps75
 go_wp2_with fail
 go_loopw [3] (fun i wr=>i = .int .i64 0∧Below w.heap.size w wr) (fun _ _=>0)
 case atStart=>exact ⟨rfl,Below.refl _ _⟩
 case round =>
  obtain ⟨rfl,HB⟩:=hrel
  go_wp2_with (at_make;refine wpList_make_full _ rfl _ _ _ rfl w.heap.size 39 j0 (.slice none 0 0) 1 undflatInts hj hy0 hy1 .i64 .i64 _ _ 0 rfl rfl rfl rfl (by omega) (by simp only [maxLen];omega) HB.size ?_;intro w2 hown2 hg2)
  have HB2 : Below w.heap.size w w2:=HB.grown hg2 HB.size (by simp)
  clear hown2 hg2 HB
  clear hy0 hy1 hy2 hj
  go_loopw [6] (fun i wx=>i = .int .i64 0∧Below w.heap.size w wx) (fun _ _=>0)
  case atStart=>exact ⟨rfl,HB2⟩
  case round =>
   clear HB2
   obtain ⟨rfl,HB2⟩:=hrel
   go_wp2_with fail
   go_loopw [9] (fun i wx=>i = .int .i64 0∧Below w.heap.size w wx) (fun _ _=>0)
   case atStart=>exact ⟨rfl,HB2⟩
   case round =>
    clear HB2
    obtain ⟨rfl,HB2⟩:=hrel
    go_wp2_with fail
    go_loopw [11] (fun i wx=>i = .int .i64 0∧Below w.heap.size w wx) (fun _ _=>0)
    case atStart=>exact ⟨rfl,HB2⟩
    case round =>
     clear HB2
     obtain ⟨rfl,HB2⟩:=hrel
     go_wp2_with fail
     go_loopw [14] (fun i wx=>i = .int .i64 0∧Below w.heap.size w wx) (fun _ _=>0)
     case atStart=>exact ⟨rfl,HB2⟩
     case round =>
      clear HB2
      obtain ⟨rfl,HB2⟩:=hrel
      go_wp2_with fail
      go_ret
      exact ⟨rfl,HB2⟩
theorem infoflatTexts : (Tryz.prog.info? 164).map (fun i=>(i.zero,i.size,i.bytes))=some (some (.slice none 0 0),1,24):=by kernel_rfl
theorem undflatTexts : Tryz.prog.underlying 101=some (.slice 164):=by kernel_rfl
set_option maxRecDepth 100000 in
theorem flatTexts_no (w : World) : Calls Tryz.prog 76 #[.slice none 0 0] w fun e w'=>e = .returned (.bool true)∧Below w.heap.size w w':=by
 obtain ⟨j0,hj,hy0,hy1,hy2⟩:=info_parts infoflatTexts
 go_enter Tryz.func76,Tryz.ntmps76
 go_wp2_with fail
 go_loopw [3] (fun i wr=>i = .int .i64 0∧Below w.heap.size w wr) (fun _ _=>0)
 case atStart=>exact ⟨rfl,Below.refl _ _⟩
 case round =>
  obtain ⟨rfl,HB⟩:=hrel
  go_wp2_with (at_make;refine wpList_make_full _ rfl _ _ _ rfl w.heap.size 164 j0 (.slice none 0 0) 1 undflatTexts hj hy0 hy1 .i64 .i64 _ _ 0 rfl rfl rfl rfl (by omega) (by simp only [maxLen];omega) HB.size ?_;intro w2 hown2 hg2)
  have HB2 : Below w.heap.size w w2:=HB.grown hg2 HB.size (by simp)
  clear hown2 hg2 HB
  clear hy0 hy1 hy2 hj
  go_loopw [6] (fun i wx=>i = .int .i64 0∧Below w.heap.size w wx) (fun _ _=>0)
  case atStart=>exact ⟨rfl,HB2⟩
  case round =>
   clear HB2
   obtain ⟨rfl,HB2⟩:=hrel
   go_wp2_with fail
   go_loopw [9] (fun i wx=>i = .int .i64 0∧Below w.heap.size w wx) (fun _ _=>0)
   case atStart=>exact ⟨rfl,HB2⟩
   case round =>
    clear HB2
    obtain ⟨rfl,HB2⟩:=hrel
    go_wp2_with fail
    go_loopw [11] (fun i wx=>i = .int .i64 0∧Below w.heap.size w wx) (fun _ _=>0)
    case atStart=>exact ⟨rfl,HB2⟩
    case round =>
     clear HB2
     obtain ⟨rfl,HB2⟩:=hrel
     go_wp2_with fail
     go_loopw [14] (fun i wx=>i = .int .i64 0∧Below w.heap.size w wx) (fun _ _=>0)
     case atStart=>exact ⟨rfl,HB2⟩
     case round =>
      clear HB2
      obtain ⟨rfl,HB2⟩:=hrel
      go_wp2_with fail
      go_ret
      exact ⟨rfl,HB2⟩
theorem infoflatWords : (Tryz.prog.info? 166).map (fun i=>(i.zero,i.size,i.bytes))=some (some (.slice none 0 0),1,24):=by kernel_rfl
theorem undflatWords : Tryz.prog.underlying 102=some (.slice 166):=by kernel_rfl
set_option maxRecDepth 100000 in
theorem flatWords_no (w : World) : Calls Tryz.prog 78 #[.slice none 0 0] w fun e w'=>e = .returned (.bool true)∧Below w.heap.size w w':=by
 obtain ⟨j0,hj,hy0,hy1,hy2⟩:=info_parts infoflatWords
 go_enter Tryz.func78,Tryz.ntmps78
 go_wp2_with fail
 go_loopw [3] (fun i wr=>i = .int .i64 0∧Below w.heap.size w wr) (fun _ _=>0)
 case atStart=>exact ⟨rfl,Below.refl _ _⟩
 case round =>
  obtain ⟨rfl,HB⟩:=hrel
  go_wp2_with (at_make;refine wpList_make_full _ rfl _ _ _ rfl w.heap.size 166 j0 (.slice none 0 0) 1 undflatWords hj hy0 hy1 .i64 .i64 _ _ 0 rfl rfl rfl rfl (by omega) (by simp only [maxLen];omega) HB.size ?_;intro w2 hown2 hg2)
  have HB2 : Below w.heap.size w w2:=HB.grown hg2 HB.size (by simp)
  clear hown2 hg2 HB
  clear hy0 hy1 hy2 hj
  go_loopw [6] (fun i wx=>i = .int .i64 0∧Below w.heap.size w wx) (fun _ _=>0)
  case atStart=>exact ⟨rfl,HB2⟩
  case round =>
   clear HB2
   obtain ⟨rfl,HB2⟩:=hrel
   go_wp2_with fail
   go_loopw [9] (fun i wx=>i = .int .i64 0∧Below w.heap.size w wx) (fun _ _=>0)
   case atStart=>exact ⟨rfl,HB2⟩
   case round =>
    clear HB2
    obtain ⟨rfl,HB2⟩:=hrel
    go_wp2_with fail
    go_loopw [11] (fun i wx=>i = .int .i64 0∧Below w.heap.size w wx) (fun _ _=>0)
    case atStart=>exact ⟨rfl,HB2⟩
    case round =>
     clear HB2
     obtain ⟨rfl,HB2⟩:=hrel
     go_wp2_with fail
     go_loopw [14] (fun i wx=>i = .int .i64 0∧Below w.heap.size w wx) (fun _ _=>0)
     case atStart=>exact ⟨rfl,HB2⟩
     case round =>
      clear HB2
      obtain ⟨rfl,HB2⟩:=hrel
      go_wp2_with fail
      go_ret
      exact ⟨rfl,HB2⟩
theorem infoflatKeys : (Tryz.prog.info? 168).map (fun i=>(i.zero,i.size,i.bytes))=some (some (.slice none 0 0),1,24):=by kernel_rfl
theorem undflatKeys : Tryz.prog.underlying 103=some (.slice 168):=by kernel_rfl
set_option maxRecDepth 100000 in
theorem flatKeys_no (w : World) : Calls Tryz.prog 79 #[.slice none 0 0] w fun e w'=>e = .returned (.bool true)∧Below w.heap.size w w':=by
 obtain ⟨j0,hj,hy0,hy1,hy2⟩:=info_parts infoflatKeys
 go_enter Tryz.func79,Tryz.ntmps79
 go_wp2_with fail
 go_loopw [3] (fun i wr=>i = .int .i64 0∧Below w.heap.size w wr) (fun _ _=>0)
 case atStart=>exact ⟨rfl,Below.refl _ _⟩
 case round =>
  obtain ⟨rfl,HB⟩:=hrel
  go_wp2_with (at_make;refine wpList_make_full _ rfl _ _ _ rfl w.heap.size 168 j0 (.slice none 0 0) 1 undflatKeys hj hy0 hy1 .i64 .i64 _ _ 0 rfl rfl rfl rfl (by omega) (by simp only [maxLen];omega) HB.size ?_;intro w2 hown2 hg2)
  have HB2 : Below w.heap.size w w2:=HB.grown hg2 HB.size (by simp)
  clear hown2 hg2 HB
  clear hy0 hy1 hy2 hj
  go_loopw [6] (fun i wx=>i = .int .i64 0∧Below w.heap.size w wx) (fun _ _=>0)
  case atStart=>exact ⟨rfl,HB2⟩
  case round =>
   clear HB2
   obtain ⟨rfl,HB2⟩:=hrel
   go_wp2_with fail
   go_loopw [9] (fun i wx=>i = .int .i64 0∧Below w.heap.size w wx) (fun _ _=>0)
   case atStart=>exact ⟨rfl,HB2⟩
   case round =>
    clear HB2
    obtain ⟨rfl,HB2⟩:=hrel
    go_wp2_with fail
    go_loopw [11] (fun i wx=>i = .int .i64 0∧Below w.heap.size w wx) (fun _ _=>0)
    case atStart=>exact ⟨rfl,HB2⟩
    case round =>
     clear HB2
     obtain ⟨rfl,HB2⟩:=hrel
     go_wp2_with fail
     go_loopw [14] (fun i wx=>i = .int .i64 0∧Below w.heap.size w wx) (fun _ _=>0)
     case atStart=>exact ⟨rfl,HB2⟩
     case round =>
      clear HB2
      obtain ⟨rfl,HB2⟩:=hrel
      go_wp2_with fail
      go_ret
      exact ⟨rfl,HB2⟩
theorem infoflatFactsLists : (Tryz.prog.info? 172).map (fun i=>(i.zero,i.size,i.bytes))=some (some (.slice none 0 0),1,24):=by kernel_rfl
theorem undflatFactsLists : Tryz.prog.underlying 104=some (.slice 172):=by kernel_rfl
set_option maxRecDepth 100000 in
theorem flatFactsLists_no (w : World) : Calls Tryz.prog 80 #[.slice none 0 0] w fun e w'=>e = .returned (.bool true)∧Below w.heap.size w w':=by
 obtain ⟨j0,hj,hy0,hy1,hy2⟩:=info_parts infoflatFactsLists
 go_enter Tryz.func80,Tryz.ntmps80
 go_wp2_with fail
 go_loopw [3] (fun i wr=>i = .int .i64 0∧Below w.heap.size w wr) (fun _ _=>0)
 case atStart=>exact ⟨rfl,Below.refl _ _⟩
 case round =>
  obtain ⟨rfl,HB⟩:=hrel
  go_wp2_with (at_make;refine wpList_make_full _ rfl _ _ _ rfl w.heap.size 172 j0 (.slice none 0 0) 1 undflatFactsLists hj hy0 hy1 .i64 .i64 _ _ 0 rfl rfl rfl rfl (by omega) (by simp only [maxLen];omega) HB.size ?_;intro w2 hown2 hg2)
  have HB2 : Below w.heap.size w w2:=HB.grown hg2 HB.size (by simp)
  clear hown2 hg2 HB
  clear hy0 hy1 hy2 hj
  go_loopw [6] (fun i wx=>i = .int .i64 0∧Below w.heap.size w wx) (fun _ _=>0)
  case atStart=>exact ⟨rfl,HB2⟩
  case round =>
   clear HB2
   obtain ⟨rfl,HB2⟩:=hrel
   go_wp2_with fail
   go_loopw [9] (fun i wx=>i = .int .i64 0∧Below w.heap.size w wx) (fun _ _=>0)
   case atStart=>exact ⟨rfl,HB2⟩
   case round =>
    clear HB2
    obtain ⟨rfl,HB2⟩:=hrel
    go_wp2_with fail
    go_loopw [11] (fun i wx=>i = .int .i64 0∧Below w.heap.size w wx) (fun _ _=>0)
    case atStart=>exact ⟨rfl,HB2⟩
    case round =>
     clear HB2
     obtain ⟨rfl,HB2⟩:=hrel
     go_wp2_with fail
     go_loopw [14] (fun i wx=>i = .int .i64 0∧Below w.heap.size w wx) (fun _ _=>0)
     case atStart=>exact ⟨rfl,HB2⟩
     case round =>
      clear HB2
      obtain ⟨rfl,HB2⟩:=hrel
      go_wp2_with fail
      go_ret
      exact ⟨rfl,HB2⟩
theorem infoflatPrefixes : (Tryz.prog.info? 176).map (fun i=>(i.zero,i.size,i.bytes))=some (some (.slice none 0 0),1,24):=by kernel_rfl
theorem undflatPrefixes : Tryz.prog.underlying 105=some (.slice 176):=by kernel_rfl
set_option maxRecDepth 100000 in
theorem flatPrefixes_no (w : World) : Calls Tryz.prog 81 #[.slice none 0 0] w fun e w'=>e = .returned (.bool true)∧Below w.heap.size w w':=by
 obtain ⟨j0,hj,hy0,hy1,hy2⟩:=info_parts infoflatPrefixes
 go_enter Tryz.func81,Tryz.ntmps81
 go_wp2_with fail
 go_loopw [3] (fun i wr=>i = .int .i64 0∧Below w.heap.size w wr) (fun _ _=>0)
 case atStart=>exact ⟨rfl,Below.refl _ _⟩
 case round =>
  obtain ⟨rfl,HB⟩:=hrel
  go_wp2_with (at_make;refine wpList_make_full _ rfl _ _ _ rfl w.heap.size 176 j0 (.slice none 0 0) 1 undflatPrefixes hj hy0 hy1 .i64 .i64 _ _ 0 rfl rfl rfl rfl (by omega) (by simp only [maxLen];omega) HB.size ?_;intro w2 hown2 hg2)
  have HB2 : Below w.heap.size w w2:=HB.grown hg2 HB.size (by simp)
  clear hown2 hg2 HB
  clear hy0 hy1 hy2 hj
  go_loopw [6] (fun i wx=>i = .int .i64 0∧Below w.heap.size w wx) (fun _ _=>0)
  case atStart=>exact ⟨rfl,HB2⟩
  case round =>
   clear HB2
   obtain ⟨rfl,HB2⟩:=hrel
   go_wp2_with fail
   go_loopw [9] (fun i wx=>i = .int .i64 0∧Below w.heap.size w wx) (fun _ _=>0)
   case atStart=>exact ⟨rfl,HB2⟩
   case round =>
    clear HB2
    obtain ⟨rfl,HB2⟩:=hrel
    go_wp2_with fail
    go_loopw [11] (fun i wx=>i = .int .i64 0∧Below w.heap.size w wx) (fun _ _=>0)
    case atStart=>exact ⟨rfl,HB2⟩
    case round =>
     clear HB2
     obtain ⟨rfl,HB2⟩:=hrel
     go_wp2_with fail
     go_loopw [14] (fun i wx=>i = .int .i64 0∧Below w.heap.size w wx) (fun _ _=>0)
     case atStart=>exact ⟨rfl,HB2⟩
     case round =>
      clear HB2
      obtain ⟨rfl,HB2⟩:=hrel
      go_wp2_with fail
      go_ret
      exact ⟨rfl,HB2⟩
theorem infoflatRanges : (Tryz.prog.info? 180).map (fun i=>(i.zero,i.size,i.bytes))=some (some (.slice none 0 0),1,24):=by kernel_rfl
theorem undflatRanges : Tryz.prog.underlying 106=some (.slice 180):=by kernel_rfl
set_option maxRecDepth 100000 in
theorem flatRanges_no (w : World) : Calls Tryz.prog 82 #[.slice none 0 0] w fun e w'=>e = .returned (.bool true)∧Below w.heap.size w w':=by
 obtain ⟨j0,hj,hy0,hy1,hy2⟩:=info_parts infoflatRanges
 go_enter Tryz.func82,Tryz.ntmps82
 go_wp2_with fail
 go_loopw [3] (fun i wr=>i = .int .i64 0∧Below w.heap.size w wr) (fun _ _=>0)
 case atStart=>exact ⟨rfl,Below.refl _ _⟩
 case round =>
  obtain ⟨rfl,HB⟩:=hrel
  go_wp2_with (at_make;refine wpList_make_full _ rfl _ _ _ rfl w.heap.size 180 j0 (.slice none 0 0) 1 undflatRanges hj hy0 hy1 .i64 .i64 _ _ 0 rfl rfl rfl rfl (by omega) (by simp only [maxLen];omega) HB.size ?_;intro w2 hown2 hg2)
  have HB2 : Below w.heap.size w w2:=HB.grown hg2 HB.size (by simp)
  clear hown2 hg2 HB
  clear hy0 hy1 hy2 hj
  go_loopw [6] (fun i wx=>i = .int .i64 0∧Below w.heap.size w wx) (fun _ _=>0)
  case atStart=>exact ⟨rfl,HB2⟩
  case round =>
   clear HB2
   obtain ⟨rfl,HB2⟩:=hrel
   go_wp2_with fail
   go_loopw [9] (fun i wx=>i = .int .i64 0∧Below w.heap.size w wx) (fun _ _=>0)
   case atStart=>exact ⟨rfl,HB2⟩
   case round =>
    clear HB2
    obtain ⟨rfl,HB2⟩:=hrel
    go_wp2_with fail
    go_loopw [11] (fun i wx=>i = .int .i64 0∧Below w.heap.size w wx) (fun _ _=>0)
    case atStart=>exact ⟨rfl,HB2⟩
    case round =>
     clear HB2
     obtain ⟨rfl,HB2⟩:=hrel
     go_wp2_with fail
     go_loopw [14] (fun i wx=>i = .int .i64 0∧Below w.heap.size w wx) (fun _ _=>0)
     case atStart=>exact ⟨rfl,HB2⟩
     case round =>
      clear HB2
      obtain ⟨rfl,HB2⟩:=hrel
      go_wp2_with fail
      go_ret
      exact ⟨rfl,HB2⟩
theorem infoflatRules : (Tryz.prog.info? 184).map (fun i=>(i.zero,i.size,i.bytes))=some (some (.slice none 0 0),1,24):=by kernel_rfl
theorem undflatRules : Tryz.prog.underlying 107=some (.slice 184):=by kernel_rfl
set_option maxRecDepth 100000 in
theorem flatRules_no (w : World) : Calls Tryz.prog 83 #[.slice none 0 0] w fun e w'=>e = .returned (.bool true)∧Below w.heap.size w w':=by
 obtain ⟨j0,hj,hy0,hy1,hy2⟩:=info_parts infoflatRules
 go_enter Tryz.func83,Tryz.ntmps83
 go_wp2_with fail
 go_loopw [3] (fun i wr=>i = .int .i64 0∧Below w.heap.size w wr) (fun _ _=>0)
 case atStart=>exact ⟨rfl,Below.refl _ _⟩
 case round =>
  obtain ⟨rfl,HB⟩:=hrel
  go_wp2_with (at_make;refine wpList_make_full _ rfl _ _ _ rfl w.heap.size 184 j0 (.slice none 0 0) 1 undflatRules hj hy0 hy1 .i64 .i64 _ _ 0 rfl rfl rfl rfl (by omega) (by simp only [maxLen];omega) HB.size ?_;intro w2 hown2 hg2)
  have HB2 : Below w.heap.size w w2:=HB.grown hg2 HB.size (by simp)
  clear hown2 hg2 HB
  clear hy0 hy1 hy2 hj
  go_loopw [6] (fun i wx=>i = .int .i64 0∧Below w.heap.size w wx) (fun _ _=>0)
  case atStart=>exact ⟨rfl,HB2⟩
  case round =>
   clear HB2
   obtain ⟨rfl,HB2⟩:=hrel
   go_wp2_with fail
   go_loopw [9] (fun i wx=>i = .int .i64 0∧Below w.heap.size w wx) (fun _ _=>0)
   case atStart=>exact ⟨rfl,HB2⟩
   case round =>
    clear HB2
    obtain ⟨rfl,HB2⟩:=hrel
    go_wp2_with fail
    go_loopw [11] (fun i wx=>i = .int .i64 0∧Below w.heap.size w wx) (fun _ _=>0)
    case atStart=>exact ⟨rfl,HB2⟩
    case round =>
     clear HB2
     obtain ⟨rfl,HB2⟩:=hrel
     go_wp2_with fail
     go_loopw [14] (fun i wx=>i = .int .i64 0∧Below w.heap.size w wx) (fun _ _=>0)
     case atStart=>exact ⟨rfl,HB2⟩
     case round =>
      clear HB2
      obtain ⟨rfl,HB2⟩:=hrel
      go_wp2_with fail
      go_ret
      exact ⟨rfl,HB2⟩
theorem infoflatIntLists : (Tryz.prog.info? 100).map (fun i=>(i.zero,i.size,i.bytes))=some (some (.slice none 0 0),1,24):=by kernel_rfl
theorem undflatIntLists : Tryz.prog.underlying 108=some (.slice 100):=by kernel_rfl
set_option maxRecDepth 100000 in
theorem flatIntLists_no (w : World) : Calls Tryz.prog 84 #[.slice none 0 0] w fun e w'=>e = .returned (.bool true)∧Below w.heap.size w w':=by
 obtain ⟨j0,hj,hy0,hy1,hy2⟩:=info_parts infoflatIntLists
 go_enter Tryz.func84,Tryz.ntmps84
 go_wp2_with fail
 go_loopw [3] (fun i wr=>i = .int .i64 0∧Below w.heap.size w wr) (fun _ _=>0)
 case atStart=>exact ⟨rfl,Below.refl _ _⟩
 case round =>
  obtain ⟨rfl,HB⟩:=hrel
  go_wp2_with (at_make;refine wpList_make_full _ rfl _ _ _ rfl w.heap.size 100 j0 (.slice none 0 0) 1 undflatIntLists hj hy0 hy1 .i64 .i64 _ _ 0 rfl rfl rfl rfl (by omega) (by simp only [maxLen];omega) HB.size ?_;intro w2 hown2 hg2)
  have HB2 : Below w.heap.size w w2:=HB.grown hg2 HB.size (by simp)
  clear hown2 hg2 HB
  clear hy0 hy1 hy2 hj
  go_loopw [6] (fun i wx=>i = .int .i64 0∧Below w.heap.size w wx) (fun _ _=>0)
  case atStart=>exact ⟨rfl,HB2⟩
  case round =>
   clear HB2
   obtain ⟨rfl,HB2⟩:=hrel
   go_wp2_with fail
   go_loopw [9] (fun i wx=>i = .int .i64 0∧Below w.heap.size w wx) (fun _ _=>0)
   case atStart=>exact ⟨rfl,HB2⟩
   case round =>
    clear HB2
    obtain ⟨rfl,HB2⟩:=hrel
    go_wp2_with fail
    go_loopw [11] (fun i wx=>i = .int .i64 0∧Below w.heap.size w wx) (fun _ _=>0)
    case atStart=>exact ⟨rfl,HB2⟩
    case round =>
     clear HB2
     obtain ⟨rfl,HB2⟩:=hrel
     go_wp2_with fail
     go_loopw [14] (fun i wx=>i = .int .i64 0∧Below w.heap.size w wx) (fun _ _=>0)
     case atStart=>exact ⟨rfl,HB2⟩
     case round =>
      clear HB2
      obtain ⟨rfl,HB2⟩:=hrel
      go_wp2_with fail
      go_ret
      exact ⟨rfl,HB2⟩
theorem infoflatTextLists : (Tryz.prog.info? 101).map (fun i=>(i.zero,i.size,i.bytes))=some (some (.slice none 0 0),1,24):=by kernel_rfl
theorem undflatTextLists : Tryz.prog.underlying 109=some (.slice 101):=by kernel_rfl
set_option maxRecDepth 100000 in
theorem flatTextLists_no (w : World) : Calls Tryz.prog 85 #[.slice none 0 0] w fun e w'=>e = .returned (.bool true)∧Below w.heap.size w w':=by
 obtain ⟨j0,hj,hy0,hy1,hy2⟩:=info_parts infoflatTextLists
 go_enter Tryz.func85,Tryz.ntmps85
 go_wp2_with fail
 go_loopw [3] (fun i wr=>i = .int .i64 0∧Below w.heap.size w wr) (fun _ _=>0)
 case atStart=>exact ⟨rfl,Below.refl _ _⟩
 case round =>
  obtain ⟨rfl,HB⟩:=hrel
  go_wp2_with (at_make;refine wpList_make_full _ rfl _ _ _ rfl w.heap.size 101 j0 (.slice none 0 0) 1 undflatTextLists hj hy0 hy1 .i64 .i64 _ _ 0 rfl rfl rfl rfl (by omega) (by simp only [maxLen];omega) HB.size ?_;intro w2 hown2 hg2)
  have HB2 : Below w.heap.size w w2:=HB.grown hg2 HB.size (by simp)
  clear hown2 hg2 HB
  clear hy0 hy1 hy2 hj
  go_loopw [6] (fun i wx=>i = .int .i64 0∧Below w.heap.size w wx) (fun _ _=>0)
  case atStart=>exact ⟨rfl,HB2⟩
  case round =>
   clear HB2
   obtain ⟨rfl,HB2⟩:=hrel
   go_wp2_with fail
   go_loopw [9] (fun i wx=>i = .int .i64 0∧Below w.heap.size w wx) (fun _ _=>0)
   case atStart=>exact ⟨rfl,HB2⟩
   case round =>
    clear HB2
    obtain ⟨rfl,HB2⟩:=hrel
    go_wp2_with fail
    go_loopw [11] (fun i wx=>i = .int .i64 0∧Below w.heap.size w wx) (fun _ _=>0)
    case atStart=>exact ⟨rfl,HB2⟩
    case round =>
     clear HB2
     obtain ⟨rfl,HB2⟩:=hrel
     go_wp2_with fail
     go_loopw [14] (fun i wx=>i = .int .i64 0∧Below w.heap.size w wx) (fun _ _=>0)
     case atStart=>exact ⟨rfl,HB2⟩
     case round =>
      clear HB2
      obtain ⟨rfl,HB2⟩:=hrel
      go_wp2_with fail
      go_ret
      exact ⟨rfl,HB2⟩
theorem infoflatByteLists : (Tryz.prog.info? 25).map (fun i=>(i.zero,i.size,i.bytes))=some (some (.slice none 0 0),1,24):=by kernel_rfl
theorem undflatByteLists : Tryz.prog.underlying 110=some (.slice 25):=by kernel_rfl
set_option maxRecDepth 100000 in
theorem flatByteLists_no (w : World) : Calls Tryz.prog 86 #[.slice none 0 0] w fun e w'=>e = .returned (.bool true)∧Below w.heap.size w w':=by
 obtain ⟨j0,hj,hy0,hy1,hy2⟩:=info_parts infoflatByteLists
 go_enter Tryz.func86,Tryz.ntmps86
 go_wp2_with fail
 go_loopw [3] (fun i wr=>i = .int .i64 0∧Below w.heap.size w wr) (fun _ _=>0)
 case atStart=>exact ⟨rfl,Below.refl _ _⟩
 case round =>
  obtain ⟨rfl,HB⟩:=hrel
  go_wp2_with (at_make;refine wpList_make_full _ rfl _ _ _ rfl w.heap.size 25 j0 (.slice none 0 0) 1 undflatByteLists hj hy0 hy1 .i64 .i64 _ _ 0 rfl rfl rfl rfl (by omega) (by simp only [maxLen];omega) HB.size ?_;intro w2 hown2 hg2)
  have HB2 : Below w.heap.size w w2:=HB.grown hg2 HB.size (by simp)
  clear hown2 hg2 HB
  clear hy0 hy1 hy2 hj
  go_loopw [6] (fun i wx=>i = .int .i64 0∧Below w.heap.size w wx) (fun _ _=>0)
  case atStart=>exact ⟨rfl,HB2⟩
  case round =>
   clear HB2
   obtain ⟨rfl,HB2⟩:=hrel
   go_wp2_with fail
   go_loopw [9] (fun i wx=>i = .int .i64 0∧Below w.heap.size w wx) (fun _ _=>0)
   case atStart=>exact ⟨rfl,HB2⟩
   case round =>
    clear HB2
    obtain ⟨rfl,HB2⟩:=hrel
    go_wp2_with fail
    go_loopw [11] (fun i wx=>i = .int .i64 0∧Below w.heap.size w wx) (fun _ _=>0)
    case atStart=>exact ⟨rfl,HB2⟩
    case round =>
     clear HB2
     obtain ⟨rfl,HB2⟩:=hrel
     go_wp2_with fail
     go_loopw [14] (fun i wx=>i = .int .i64 0∧Below w.heap.size w wx) (fun _ _=>0)
     case atStart=>exact ⟨rfl,HB2⟩
     case round =>
      clear HB2
      obtain ⟨rfl,HB2⟩:=hrel
      go_wp2_with fail
      go_ret
      exact ⟨rfl,HB2⟩
theorem infoflatRuleLists : (Tryz.prog.info? 107).map (fun i=>(i.zero,i.size,i.bytes))=some (some (.slice none 0 0),1,24):=by kernel_rfl
theorem undflatRuleLists : Tryz.prog.underlying 111=some (.slice 107):=by kernel_rfl
set_option maxRecDepth 100000 in
theorem flatRuleLists_no (w : World) : Calls Tryz.prog 87 #[.slice none 0 0] w fun e w'=>e = .returned (.bool true)∧Below w.heap.size w w':=by
 obtain ⟨j0,hj,hy0,hy1,hy2⟩:=info_parts infoflatRuleLists
 go_enter Tryz.func87,Tryz.ntmps87
 go_wp2_with fail
 go_loopw [3] (fun i wr=>i = .int .i64 0∧Below w.heap.size w wr) (fun _ _=>0)
 case atStart=>exact ⟨rfl,Below.refl _ _⟩
 case round =>
  obtain ⟨rfl,HB⟩:=hrel
  go_wp2_with (at_make;refine wpList_make_full _ rfl _ _ _ rfl w.heap.size 107 j0 (.slice none 0 0) 1 undflatRuleLists hj hy0 hy1 .i64 .i64 _ _ 0 rfl rfl rfl rfl (by omega) (by simp only [maxLen];omega) HB.size ?_;intro w2 hown2 hg2)
  have HB2 : Below w.heap.size w w2:=HB.grown hg2 HB.size (by simp)
  clear hown2 hg2 HB
  clear hy0 hy1 hy2 hj
  go_loopw [6] (fun i wx=>i = .int .i64 0∧Below w.heap.size w wx) (fun _ _=>0)
  case atStart=>exact ⟨rfl,HB2⟩
  case round =>
   clear HB2
   obtain ⟨rfl,HB2⟩:=hrel
   go_wp2_with fail
   go_loopw [9] (fun i wx=>i = .int .i64 0∧Below w.heap.size w wx) (fun _ _=>0)
   case atStart=>exact ⟨rfl,HB2⟩
   case round =>
    clear HB2
    obtain ⟨rfl,HB2⟩:=hrel
    go_wp2_with fail
    go_loopw [11] (fun i wx=>i = .int .i64 0∧Below w.heap.size w wx) (fun _ _=>0)
    case atStart=>exact ⟨rfl,HB2⟩
    case round =>
     clear HB2
     obtain ⟨rfl,HB2⟩:=hrel
     go_wp2_with fail
     go_loopw [14] (fun i wx=>i = .int .i64 0∧Below w.heap.size w wx) (fun _ _=>0)
     case atStart=>exact ⟨rfl,HB2⟩
     case round =>
      clear HB2
      obtain ⟨rfl,HB2⟩:=hrel
      go_wp2_with fail
      go_ret
      exact ⟨rfl,HB2⟩
end Go.Proofs.YtljbfnabnkkfeaaGreat
namespace Go.Proofs.YtljbfnabnkkfeaaGreat
open Go.RowKit
def bag13 (v : Value) : Array Value:=#[.slice none 0 0,.slice none 0 0,v,.slice none 0 0,.slice none 0 0,.slice none 0 0,.slice none 0 0,.slice none 0 0,.slice none 0 0,.slice none 0 0,.slice none 0 0,.slice none 0 0,.slice none 0 0]
structure BAG (w : World) (base p : Nat) (v : Value) (L : List SD) : Prop where
 blk : w.heap[p]?=some (.cells (bag13 v) 113 (0,0))
 own : w.ownsRow base 22 1 v L.length (L.map SD.val)
 far : base<=p
theorem BAG.ne {w : World} {base p : Nat} {v : Value} {L : List SD} (h : BAG w base p v L) : v.ownBlock≠some p:=by
 intro hv
 rcases h.own.2 with ⟨rfl,_⟩ | ⟨g,cap,cur,rfl,_,h3,_⟩
 ·cases hv
 ·simp [Value.ownBlock] at hv
  subst hv
  rw [h.blk] at h3
  simp at h3
theorem BAG.keep {w w' : World} {base p : Nat} {v : Value} {L : List SD} (h : BAG w base p v L) (hp : w'.heap[p]?=w.heap[p]?) (hv : ∀ g,v.ownBlock=some g->w'.heap[g]?=w.heap[g]?) : BAG w' base p v L:=by
 refine ⟨hp.trans h.blk,⟨h.own.1,?_⟩,h.far⟩
 rcases h.own.2 with h1 | ⟨g,cap,cur,h1,h2,h3,r⟩
 ·exact .inl h1
 ·exact .inr ⟨g,cap,cur,h1,h2,by rw [hv g (by rw [h1];rfl)];exact h3,r⟩
theorem slice_of_row {w : World} {base : Nat} {e : TypeId} {v : Value} {n : Nat} {xs : List Value} (h : w.ownsRow base e 1 v n xs) : ∃ A c,v = .slice A n c:=by
 rcases h.2 with ⟨rfl,rfl⟩ | ⟨g,cap,cur,rfl,_⟩
 ·exact ⟨_,_,rfl⟩
 ·exact ⟨_,_,rfl⟩
set_option maxRecDepth 100000 in
theorem putBytes_any (p base : Nat) (v : Value) (L : List SD) (s : SD) (w : World) (h : BAG w base p v L) (hl : L.length<=1000) (hbase : base<=w.heap.size) :
 Calls Tryz.prog 45 #[.pointer (some ⟨p,0,none⟩),.slice s.A s.n s.c] w fun e w'=>e = .returned (.tuple #[])∧(∃ v',BAG w' base p v' (L++[s]))∧Below base w w':=by
 obtain ⟨j0,hj,hy0,hy1,hy2⟩:=info_parts infoU8s
 have x0 : w.cell? ⟨p,2,none⟩=some v:=(cell_of_row w p 2 _ _ _ h.blk).trans rfl
 have hp : p < w.heap.size:=(Array.getElem?_eq_some_iff.1 h.blk).1
 have hne:=h.ne
 obtain ⟨w1,hw1⟩ : ∃ w1,w1=w.alloc (.cells #[Value.slice s.A s.n s.c] 22):=⟨_,rfl⟩
 have hB1 : BAG w1 base p v L:=h.keep (by rw [hw1];exact Below.heap_alloc w _ p hp) (fun g hg=>by
  rw [hw1]
  refine Below.heap_alloc w _ g ?_
  rcases h.own.2 with ⟨rfl,_⟩ | ⟨g',cap,cur,rfl,_,h3,_⟩
  ·cases hg
  ·simp [Value.ownBlock] at hg
   subst hg
   exact (Array.getElem?_eq_some_iff.1 h3).1)
 have HB1:=Lib.hid hB1
 have hs1 : base<=w1.heap.size:=by rw [hw1];simp;omega
 have hnews : ∀ j u,[Value.slice s.A s.n s.c][j]?=some u->w1.cell? ((⟨w.heap.size,0,none⟩ : Addr).add j)=some u:=by rw [hw1];exact cell_one_new w _ _
 have hp1 : p < w1.heap.size:=by rw [hw1];simp;omega
 have hbel1 : Below base w w1:=by rw [hw1];exact (Below.refl _ _).alloc hbase _
 have HN:=Lib.hid hne
 clear hB1 h hne
 go_enter Tryz.func45,Tryz.ntmps45
 go_wp2_with (at_builtin;rw [<- hw1];refine wpList_append_own_at _ rfl _ _ _ rfl base 22 j0 (.slice none 0 0) 1 24 Tryz.underlying25 hj hy0 hy1 hy2 rfl (by omega) v L.length (L.map SD.val) rfl HB1.out.own ⟨w.heap.size,0,none⟩ 1 1 [Value.slice s.A s.n s.c] rfl rfl hnews (by simp [Value.oneCell']) (by simp only [maxLen];omega) (by omega) hs1 ?_;intro v3 w3 hown3 hg3 _ hat3;have hblk3:=(hg3.block p hp1 (fun e=>HN.out e.symm)).trans HB1.out.blk;have hfz:=frozen_of_row w3 p 2 _ _ hblk3;have hc3 : w3.cell? ⟨p,2,none⟩=some v:=(cell_of_row w3 p 2 _ _ _ hblk3).trans rfl;obtain ⟨A3,c3,rfl⟩:=slice_of_row hown3)
 go_end0
 refine ⟨rfl,⟨.slice A3 (L.length + 1) c3,?_,?_,HB1.out.far⟩,?_⟩
 ·exact heap_setCell_same w3 p 2 _ _ _ hblk3
 ·have hk : ∀ g,(Value.slice A3 (L.length + 1) c3).ownBlock=some g->(w3.setCell ⟨p,2,none⟩ (Value.slice A3 (L.length + 1) c3)).heap[g]?=w3.heap[g]?:=by
   intro g hg
   refine Below.heap_setCell _ _ _ _ ?_
   rintro rfl
   rcases hat3 with h | h
   ·exact HN.out (h.symm.trans hg)
   ·rw [hg] at h
    simp at h
    omega
  rw [List.length_append,List.map_append]
  refine ⟨hown3.1,?_⟩
  rcases hown3.2 with h1 | ⟨g,cap,cur,h1,h2,h3,r⟩
  ·exact .inl h1
  ·exact .inr ⟨g,cap,cur,h1,h2,by rw [hk g (by rw [h1];rfl)];exact h3,r⟩
 ·refine (hbel1.trans ((Below.refl _ _).grown hg3 hs1 ?_)).setCell (p:=⟨p,2,none⟩) HB1.out.far _
  intro g hg
  rcases HB1.out.own.2 with ⟨rfl,_⟩ | ⟨g',cap,cur,rfl,h2,_⟩
  ·cases hg
  ·simp [Value.ownBlock] at hg
   omega
def BB (w : World) (p : Nat) (v : Value) : Prop:=w.heap[p]?=some (.cells (bag13 v) 113 (0,0))
theorem BB.at {w : World} {p : Nat} {v : Value} (h : BB w p v) (k : Nat) {u : Value} (hu : (bag13 v)[k]?=some u) : w.cell? ⟨p,k,none⟩=some u:=(cell_of_row w p k _ _ _ h).trans hu
theorem BB.lt {w : World} {p : Nat} {v : Value} (h : BB w p v) : p < w.heap.size:=(Array.getElem?_eq_some_iff.1 h).1
theorem BB.next {w w' : World} {p : Nat} {v : Value} (h : BB w p v) (hb : Below w.heap.size w w') : BB w' p v:=(hb.block p h.lt).trans h
theorem lsr_of_own {w : World} {base : Nat} {B : Option Addr} {c : Nat} {L : List SD} (h : w.ownsRow base 22 1 (.slice B L.length c) L.length (L.map SD.val)) : LSR w B L:=by
 intro h0
 rcases h.2 with ⟨_,e⟩ | ⟨g,cap,cur,e,_,h3,h4,h5,h6,h7⟩
 ·omega
 ·simp at e
  refine ⟨g,cur,e.1,h3,fun k s hs=>?_⟩
  have hk : k < L.length:=(List.getElem?_eq_some_iff.1 hs).1
  have h8 : (cur.toList.take (L.length * 1))[k]?=some s.val:=by rw [h7,List.getElem?_map,hs];rfl
  rw [List.getElem?_take_of_lt (by omega)] at h8
  simpa using h8
theorem own_row_keep {w w' : World} {base : Nat} {v : Value} {n : Nat} {xs : List Value} (h : w.ownsRow base 22 1 v n xs) (hb : Below w.heap.size w w') : w'.ownsRow base 22 1 v n xs:=by
 refine ⟨h.1,?_⟩
 rcases h.2 with h1 | ⟨g,cap,cur,h1,h2,h3,r⟩
 ·exact .inl h1
 ·exact .inr ⟨g,cap,cur,h1,h2,(hb.block g (Array.getElem?_eq_some_iff.1 h3).1).trans h3,r⟩
theorem flat_at {B : Option Addr} {cB base N m : Nat} {L : List SD} {Z : Nat->SD->List Int} {w : World} (hl : L.length=m) (hO : w.ownsRow N 22 1 (.slice B m cB) m (L.map SD.val)) (hF : FAM 5 w base L Z) (hS : SEP L []) (hm : m<=1000) (hn : ∀ (j : Nat) (s : SD),L[j]?=some s->s.n<=140737488351232) (hbase : base<=w.heap.size) :
 Calls Tryz.prog 77 #[.slice B m cB] w fun e w'=>e = .returned (.bool true)∧BES base (LB L) w w':=by
 subst hl
 exact flat_any B cB base L Z w (lsr_of_own hO) hF hS hm hn hbase
set_option maxHeartbeats 1000000 in
set_option maxRecDepth 100000 in
theorem apart_any (p N base : Nat) (v : Value) (L : List SD) (Z : Nat->SD->List Int) (w : World) (h : BAG w N p v L) (hF : FAM 5 w base L Z) (hS : SEP L []) (hL : ∀ b,LB L b->b < N) (hm : L.length<=1000) (hn : ∀ (j : Nat) (s : SD),L[j]?=some s->s.n<=140737488351232) (hbase : base<=N) :
 Calls Tryz.prog 46 #[.pointer (some ⟨p,0,none⟩)] w fun e w'=>e = .returned (.bool true)∧Below base w w':=by
 obtain ⟨B,c,rfl⟩:=slice_of_row h.own
 have HO:=Lib.hid h.own
 have hpN:=h.far
 have b0 : Hid (BB w p (.slice B L.length c)):=h.blk
 have hF:=Lib.hid hF
 have hS:=Lib.hid hS
 have hL:=Lib.hid hL
 have hn:=Lib.hid hn
 have hlt:=b0.out.lt
 have w0:=w
 have x0:=b0.out.at 0 rfl
 clear h
 generalize hm1 : L.length=m at *
 go_enter Tryz.func46,Tryz.ntmps46
 go_wp2_with (first
  | (go_at_call 75;refine (flatInts_no w).mono ?_;rintro e w1 ⟨rfl,hb1⟩;have b1:=Lib.hid (b0.out.next hb1);have HB1:=Below.mono hb1 (show base<=w.heap.size by omega);have x1:=b1.out.at 1 rfl;clear x0)
  | (go_at_call 76;refine (flatTexts_no w1).mono ?_;rintro e w2 ⟨rfl,hb2⟩;have b2:=Lib.hid (b1.out.next hb2);have HB2:=HB1.trans (Below.mono hb2 (show base<=w1.heap.size by have:=HB1.size;omega));have x2:=b2.out.at 2 rfl;clear x1)
  | (go_at_call 77;have hO2:=own_row_keep (own_row_keep HO.out hb1) hb2;have hF2 : FAM 5 w2 base L Z:=fun j s hs=>((hF.out j s hs).below hb1).below hb2;refine (flat_at hm1 hO2 hF2 hS.out hm hn.out (by have:=HB2.size;omega)).mono ?_;rintro e w3 ⟨rfl,hb3⟩;have b3 : Hid (BB w3 p (.slice B m c)):=(hb3.oth p b2.out.lt (fun hx=>by have:=hL.out p hx;omega)).trans b2.out;have HB3:=HB2.trans hb3.bel;have x3:=b3.out.at 3 rfl;clear x2)
  | (go_at_call 78;refine (flatWords_no w3).mono ?_;rintro e w4 ⟨rfl,hb4⟩;have b4:=Lib.hid (b3.out.next hb4);have HB4:=HB3.trans (Below.mono hb4 (show base<=w3.heap.size by have:=HB3.size;omega));have x4:=b4.out.at 4 rfl;clear x3)
  | (go_at_call 79;refine (flatKeys_no w4).mono ?_;rintro e w5 ⟨rfl,hb5⟩;have b5:=Lib.hid (b4.out.next hb5);have HB5:=HB4.trans (Below.mono hb5 (show base<=w4.heap.size by have:=HB4.size;omega));have x5:=b5.out.at 5 rfl;clear x4)
  | (go_at_call 80;refine (flatFactsLists_no w5).mono ?_;rintro e w6 ⟨rfl,hb6⟩;have b6:=Lib.hid (b5.out.next hb6);have HB6:=HB5.trans (Below.mono hb6 (show base<=w5.heap.size by have:=HB5.size;omega));have x6:=b6.out.at 6 rfl;clear x5)
  | (go_at_call 81;refine (flatPrefixes_no w6).mono ?_;rintro e w7 ⟨rfl,hb7⟩;have b7:=Lib.hid (b6.out.next hb7);have HB7:=HB6.trans (Below.mono hb7 (show base<=w6.heap.size by have:=HB6.size;omega));have x7:=b7.out.at 7 rfl;clear x6)
  | (go_at_call 82;refine (flatRanges_no w7).mono ?_;rintro e w8 ⟨rfl,hb8⟩;have b8:=Lib.hid (b7.out.next hb8);have HB8:=HB7.trans (Below.mono hb8 (show base<=w7.heap.size by have:=HB7.size;omega));have x8:=b8.out.at 8 rfl;clear x7)
  | (go_at_call 83;refine (flatRules_no w8).mono ?_;rintro e w9 ⟨rfl,hb9⟩;have b9:=Lib.hid (b8.out.next hb9);have HB9:=HB8.trans (Below.mono hb9 (show base<=w8.heap.size by have:=HB8.size;omega));have x9:=b9.out.at 9 rfl;clear x8)
  | (go_at_call 84;refine (flatIntLists_no w9).mono ?_;rintro e w10 ⟨rfl,hb10⟩;have b10:=Lib.hid (b9.out.next hb10);have HB10:=HB9.trans (Below.mono hb10 (show base<=w9.heap.size by have:=HB9.size;omega));have x10:=b10.out.at 10 rfl;clear x9)
  | (go_at_call 85;refine (flatTextLists_no w10).mono ?_;rintro e w11 ⟨rfl,hb11⟩;have b11:=Lib.hid (b10.out.next hb11);have HB11:=HB10.trans (Below.mono hb11 (show base<=w10.heap.size by have:=HB10.size;omega));have x11:=b11.out.at 11 rfl;clear x10)
  | (go_at_call 86;refine (flatByteLists_no w11).mono ?_;rintro e w12 ⟨rfl,hb12⟩;have b12:=Lib.hid (b11.out.next hb12);have HB12:=HB11.trans (Below.mono hb12 (show base<=w11.heap.size by have:=HB11.size;omega));have x12:=b12.out.at 12 rfl;clear x11)
  | (go_at_call 87;refine (flatRuleLists_no w12).mono ?_;rintro e w13 ⟨rfl,hb13⟩;have b13:=Lib.hid (b12.out.next hb13);have HB13:=HB12.trans (Below.mono hb13 (show base<=w12.heap.size by have:=HB12.size;omega))))
 go_ret
 exact ⟨rfl,HB13⟩
theorem heap_new (w : World) (o : Obj) : (w.alloc o).heap[w.heap.size]?=some o:=by
 show (w.heap.push o)[w.heap.size]?=some o
 simp
set_option maxHeartbeats 1000000 in
set_option maxRecDepth 100000 in
theorem apartBytes_any (B : Option Addr) (cB base : Nat) (L : List SD) (Z : Nat->SD->List Int) (w : World) (hB : LSR w B L) (hF : FAM 5 w base L Z) (hS : SEP L []) (hm : L.length<=1000) (hn : ∀ (j : Nat) (s : SD),L[j]?=some s->s.n<=140737488351232) (hbase : base<=w.heap.size) :
 Calls Tryz.prog 18 #[.slice B L.length cB] w fun e w'=>e = .returned (.bool true)∧Below base w w':=by
 obtain ⟨m,hml⟩ : ∃ m,m=L.length:=⟨_,rfl⟩
 obtain ⟨p,hp⟩ : ∃ p,p=w.heap.size:=⟨_,rfl⟩
 rw [<- hml] at hm ⊢
 have HM:=Lib.hid hml
 have HLS:=Lib.hid hB
 have HF:=Lib.hid hF
 have HS:=Lib.hid hS
 have HN:=Lib.hid hn
 have hL : ∀ b,LB L b->b < w.heap.size:=fun b ⟨j,s,h1,h2⟩=>(hF.lt h1 h2).2
 have HL:=Lib.hid hL
 clear hml hB hF hS hn hL
 go_enter Tryz.func18,Tryz.ntmps18
 go_wp2_with fail
 rw [<- hp]
 have HP:=Lib.hid hp
 clear hp
 go_loopw [4] (fun i wr=>∃ (k : Nat) (v : Value),k<=m∧i = .int .i64 k∧Hid (BAG wr w.heap.size p v (L.take k))∧Below w.heap.size w wr) (fun i _=>m - (intOf i).toNat)
 case atStart =>
  refine ⟨0,.slice none 0 0,Nat.zero_le _,rfl,⟨?_,World.ownsRow_nil _ _ _ _,Nat.le_of_eq HP.out.symm⟩,(Below.refl _ _).alloc (Nat.le_refl _) _⟩
  rw [HP.out]
  exact heap_new w _
 case round =>
  obtain ⟨k,v,hk,rfl,HB,HW⟩:=hrel
  have hsz:=HW.size
  by_cases hlt : k < m
  ·obtain ⟨s,hs⟩ : ∃ s,L[k]?=some s:=⟨_,List.getElem?_eq_getElem (by rw [<- HM.out];exact hlt)⟩
   obtain ⟨bl,cur,rfl,hbl,hcur⟩:=HLS.out (by rw [<- HM.out];omega)
   have hc:=hcur k s hs
   have hbl' : bl < w.heap.size:=(Array.getElem?_eq_some_iff.1 hbl).1
   have x0 : wr.cell? ⟨bl,k,none⟩=some (.slice s.A s.n s.c):=(HW.cell (p:=⟨bl,k,none⟩) hbl').trans ((cell_of_row w bl k cur 22 (0,0) hbl).trans hc)
   have ht : L.take (k + 1)=L.take k++[s]:=by rw [List.take_add_one,hs];rfl
   have HT:=Lib.hid ht
   clear hc hbl hcur hs ht
   go_wp2_with (go_at_call 45;refine (putBytes_any p w.heap.size v (L.take k) s wr HB.out (by rw [List.length_take];omega) HW.size).mono ?_;rintro e w2 ⟨rfl,⟨v2,HB2⟩,HW2⟩)
   go_roundw
   case rel=>exact ⟨k + 1,v2,by omega,by go_num,by rw [HT.out];exact HB2,HW.trans HW2⟩
   case measure=>simp [intOf];omega
  ·obtain rfl : m=k:=by omega
   have hbag : BAG wr w.heap.size p v L:=by
    have:=HB.out
    rwa [List.take_of_length_le (by rw [<- HM.out];exact Nat.le_refl _)] at this
   have HB3:=Lib.hid hbag
   clear hbag HB
   go_wp2_with (go_at_call 46;refine (apart_any p w.heap.size base v L Z wr HB3.out (fun j s hs=>(HF.out j s hs).below HW) HS.out HL.out (by rw [<- HM.out];exact hm) HN.out hbase).mono ?_;rintro e w2 ⟨rfl,HW2⟩)
   go_ret
   exact ⟨rfl,(HW.mono hbase).trans HW2⟩
def spZ (L : List IT) (ix : List Nat) (j : Nat) (s : SD) : List Int :=
 match ix[j]?.bind (fun i=>L[i]?) with
 | some (.own _ _ _ _ _ zs)=>zs.take s.n
 | _=>[]
def SPD (L : List IT) (ix : List Nat) (D : List SD) : Prop:=∀ (j : Nat) (s : SD),D[j]?=some s->∃ i n zs,ix[j]?=some i∧L[i]?=some (.own .u8 5 s.A n s.c zs)∧s.n<=n∧s.n<=140737488351232
theorem SPD.nil {L : List IT} : SPD L [] []:=fun j s h=>by simp at h
theorem SPD.cons {L : List IT} {ix : List Nat} {D : List SD} {i n m c : Nat} {A : Option Addr} {zs : List Int} (h : L[i]?=some (.own .u8 5 A n c zs)) (hm : m<=n) (hl : m<=140737488351232) (hD : SPD L ix D) : SPD L (i::ix) (⟨A,m,c⟩::D):=fun j s hs=>by
 match j,hs with
 | 0,hs=>simp at hs;subst hs;exact ⟨i,n,zs,rfl,h,hm,hl⟩
 | j + 1,hs=>simp at hs;obtain ⟨i',n',zs',h1,h2⟩:=hD j s hs;exact ⟨i',n',zs',by simpa using h1,h2⟩
end Go.Proofs.YtljbfnabnkkfeaaGreat
