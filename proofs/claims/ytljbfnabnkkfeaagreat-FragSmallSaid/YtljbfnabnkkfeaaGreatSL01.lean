import Derived.WalkKit
import Derived.Lib.Hide
import Derived.Below
import Derived.Laws.OwnMore
import Derived.Deep.AppendLies
import Derived.Deep.Draws
import Derived.Maps.AppendAt
import Derived.OwnWalk
import Derived.RegionTactic
import Derived.Laws.Rows
import Derived.Laws.Tables
import Derived.Deep.RegionHeld3
import Derived.Deep.DrawnRows
import Derived.BigFrame
import Derived.ProofKit
import Derived.OpenShut
import Derived.RangeFuncNested
import Derived.RangeFuncBound
import Derived.RangeFuncCalls
import Derived.RangeFuncLeaves
import Derived.Test.YtljbfnabnkkfeaaGreatProg
set_option linter.unusedVariables false
set_option linter.unusedSimpArgs false
/- Joined by program: Base, WRng. -/
namespace Go.Proofs.YtljbfnabnkkfeaaGreat
def stepJ (s w : Int) : Int:=(s + w) % 65536 + (s + w) / 65536
def foldJ (s : Int) (l : List Int) : Int:=l.foldl stepJ s
theorem stepJ_bd {s w : Int} (h0 : 0<=s) (h1 : s<=65535) (h2 : 0<=w) (h3 : w<=65535) : 0<=stepJ s w∧stepJ s w<=65535:=by
 unfold stepJ;omega
theorem foldJ_bd : ∀ (l : List Int) {s : Int},0<=s->s<=65535->(∀ x ∈ l,0<=x∧x<=65535)->0<=foldJ s l∧foldJ s l<=65535
 | [],_,h0,h1,_=>⟨h0,h1⟩
 | x::l,s,h0,h1,h=>by
   have hx:=h x (by simp)
   have hb:=stepJ_bd h0 h1 hx.1 hx.2
   exact foldJ_bd l hb.1 hb.2 (fun y hy=>h y (by simp [hy]))
theorem foldJ_snoc (s : Int) (l : List Int) (x : Int) : foldJ s (l++[x])=stepJ (foldJ s l) x:=by
 simp [foldJ]
theorem foldJ_take_succ (s : Int) (l : List Int) (k : Nat) (h : k < l.length) : foldJ s (l.take (k + 1))=stepJ (foldJ s (l.take k)) (l[k]?.getD 0):=by
 rw [List.take_succ_eq_append_getElem h,foldJ_snoc];simp [h]
def wordsOf : List Int->List Int
 | []=>[]
 | [x]=>[x * 256]
 | x::y::l=>(x * 256 + y)::wordsOf l
def sumOf (l : List Int) : Int:=foldJ 0 (wordsOf l)
theorem wordsOf_bd : ∀ (l : List Int),(∀ x ∈ l,0<=x∧x<=255)->∀ y ∈ wordsOf l,0<=y∧y<=65535
 | [],_,y,hy=>by simp [wordsOf] at hy
 | [x],h,y,hy=>by
   have:=h x (by simp)
   simp [wordsOf] at hy;omega
 | a::b::l,h,y,hy=>by
   have h1:=h a (by simp)
   have h2:=h b (by simp)
   simp only [wordsOf,List.mem_cons] at hy
   rcases hy with hy | hy
   ·omega
   ·exact wordsOf_bd l (fun z hz=>h z (by simp [hz])) y hy
theorem sumOf_bd (l : List Int) (h : ∀ x ∈ l,0<=x∧x<=255) : 0<=sumOf l∧sumOf l<=65535 :=
 foldJ_bd _ (by omega) (by omega) (wordsOf_bd l h)
def wordAt (l : List Int) (i : Nat) : Int:=l[i]?.getD 0 * 256 + l[i + 1]?.getD 0
theorem wordsOf_append (l m : List Int) : ∀ {k : Nat},l.length=2 * k->wordsOf (l++m)=wordsOf l++wordsOf m:=by
 intro k
 induction k generalizing l with
 | zero=>intro h;have : l=[]:=List.length_eq_zero_iff.1 (by omega);subst this;simp [wordsOf]
 | succ k ih =>
   intro h
   match l,h with
   | [],h=>simp at h
   | [x],h=>simp at h;omega
   | x::y::l,h=>simp only [List.cons_append,wordsOf];rw [ih l (by simp at h;omega)]
theorem wordsOf_take_succ (l : List Int) (k : Nat) (h : 2 * k < l.length) :
 wordsOf (l.take (2 * k + 2))=wordsOf (l.take (2 * k))++[wordAt l (2 * k)]:=by
 have hlen : (l.take (2 * k)).length=2 * k:=by simp;omega
 have e : l.take (2 * k + 2)=l.take (2 * k)++(l.drop (2 * k)).take 2:=by
  rw [<- List.take_add]
 rw [e,wordsOf_append _ _ hlen]
 congr 1
 by_cases h2 : 2 * k + 1 < l.length
 ·have e2 : (l.drop (2 * k)).take 2=[l[2 * k],l[2 * k + 1]]:=by
   rw [List.drop_eq_getElem_cons h,List.drop_eq_getElem_cons h2];rfl
  rw [e2];simp [wordsOf,wordAt,h,h2]
 ·have e2 : (l.drop (2 * k)).take 2=[l[2 * k]]:=by
   rw [List.drop_eq_getElem_cons h,List.drop_eq_nil_of_le (by omega)];simp
  have e3 : l[2 * k + 1]?=none:=List.getElem?_eq_none (by omega)
  rw [e2];simp [wordsOf,wordAt,h,e3]
def put2 (zs : List Int) (at_ : Nat) (x y : Int) : List Int:=(zs.set at_ x).set (at_ + 1) y
def fixZ (zs : List Int) (at_ : Nat) : List Int:=put2 zs at_ 0 0
def fixC (zs : List Int) (at_ : Nat) : Int:=65535 - sumOf (fixZ zs at_)
def fixOf (zs : List Int) (at_ : Nat) : List Int:=put2 (fixZ zs at_) at_ (fixC zs at_ / 256) (fixC zs at_ % 256)
theorem put2_len (zs : List Int) (a : Nat) (x y : Int) : (put2 zs a x y).length=zs.length:=by simp [put2]
theorem fixOf_len (zs : List Int) (a : Nat) : (fixOf zs a).length=zs.length:=by simp [fixOf,fixZ,put2_len]
theorem put2_bd {m : Int} {zs : List Int} {a : Nat} {x y : Int} (h : ∀ z ∈ zs,0<=z∧z<=m) (hx : 0<=x∧x<=m) (hy : 0<=y∧y<=m) : ∀ z ∈ put2 zs a x y,0<=z∧z<=m:=by
 intro z hz
 unfold put2 at hz
 rcases List.mem_or_eq_of_mem_set hz with hz | rfl
 ·rcases List.mem_or_eq_of_mem_set hz with hz | rfl
  ·exact h z hz
  ·exact hx
 ·exact hy
theorem fixC_bd {zs : List Int} (h : ∀ z ∈ zs,0<=z∧z<=255) (a : Nat) : 0<=fixC zs a∧fixC zs a<=65535:=by
 have:=sumOf_bd (fixZ zs a) (put2_bd h (by omega) (by omega))
 unfold fixC;omega
def upd (a b c : Int) : Int:=65535 - foldJ 0 [65535 - a,65535 - b,c]
abbrev W16:={ x : Int // 0<=x∧x<=65535 }
theorem byte_bd (l : List Int) (h : ∀ x ∈ l,0<=x∧x<=255) (i : Nat) : 0<=l[i]?.getD 0∧l[i]?.getD 0<=255:=by
 rcases Nat.lt_or_ge i l.length with hi | hi
 ·have:=h l[i] (List.getElem_mem hi)
  simpa [hi] using this
 ·simp [hi]
def wordW (l : List Int) (h : ∀ x ∈ l,0<=x∧x<=255) (i : Nat) : W16 :=
 ⟨wordAt l i,by have h1:=byte_bd l h i;have h2:=byte_bd l h (i + 1);unfold wordAt;omega⟩
def upto {α : Type} (f : Nat->α) (k : Nat) : List α:=(List.range k).map f
theorem upto_succ {α : Type} (f : Nat->α) (k : Nat) : upto f (k + 1)=upto f k++[f k]:=by simp [upto,List.range_succ]
theorem upto_length {α : Type} (f : Nat->α) (k : Nat) : (upto f k).length=k:=by simp [upto]
theorem upto_words (l : List Int) (h : ∀ x ∈ l,0<=x∧x<=255) : ∀ k,2 * k<=l.length + 1->(upto (fun j=>wordW l h (2 * j)) k).map (·.1)=wordsOf (l.take (2 * k))
 | 0,_=>by simp [upto,wordsOf]
 | k + 1,hk=>by
   rw [upto_succ,List.map_append,upto_words l h k (by omega),show 2 * (k + 1)=2 * k + 2 from by omega,wordsOf_take_succ l k (by omega)]
   rfl
def sumW (l : List W16) : Int:=foldJ 0 (l.map (·.1))
theorem sumW_snoc (l : List W16) (x : W16) : sumW (l++[x])=stepJ (sumW l) x.1:=by simp [sumW,foldJ]
theorem sumW_bd (l : List W16) : 0<=sumW l∧sumW l<=65535 :=
 foldJ_bd _ (by omega) (by omega) (fun x hx=>by
  obtain ⟨y,_,rfl⟩:=List.mem_map.1 hx
  exact y.2)
theorem sumW_upto (l : List Int) (h : ∀ x ∈ l,0<=x∧x<=255) : sumW (upto (fun j=>wordW l h (2 * j)) ((l.length + 1) / 2))=sumOf l:=by
 unfold sumW sumOf
 rw [upto_words l h _ (by omega),List.take_of_length_le (by omega)]
theorem foldJ_two (s x : Int) (h0 : 0<=s) (h1 : s<=65535) : foldJ 0 [s,x]=stepJ s x:=by
 have : stepJ 0 s=s:=by unfold stepJ;omega
 simp [foldJ,this]
open Go.RowKit
theorem u16_in (a : Int) (h0 : 0<=a) (h1 : a<=65535) : IntKind.u16.wrap a=a:=by simp [IntKind.wrap,IntKind.signed,IntKind.bits];omega
theorem u8_in (a : Int) (h0 : 0<=a) (h1 : a<=255) : IntKind.u8.wrap a=a:=by simp [IntKind.wrap,IntKind.signed,IntKind.bits];omega
theorem u32_in (a : Int) (h0 : 0<=a) (h1 : a<=4294967295) : IntKind.u32.wrap a=a:=by simp [IntKind.wrap,IntKind.signed,IntKind.bits];omega
theorem u8_mod (a : Int) : IntKind.u8.wrap a=a % 256:=by simp [IntKind.wrap,IntKind.signed,IntKind.bits]
theorem u32_and_ffff (a : Int) (h0 : 0<=a) (h1 : a < 4294967296) : bits .and .u32 a 65535=a % 65536:=by
 rw [u32_and a 65535 h0 h1 (by omega) (by omega)]
 obtain ⟨n,rfl⟩:=Int.eq_ofNat_of_zero_le h0
 have:=Nat.and_two_pow_sub_one_eq_mod n 16
 simp at this
 simp [this]
theorem u16_not (x : Int) (h0 : 0<=x) (h1 : x<=65535) : bits .xor .u16 IntKind.u16.max x=65535 - x:=by
 obtain ⟨n,rfl⟩:=Int.eq_ofNat_of_zero_le h0
 have hn : n < 65536:=by omega
 rw [show IntKind.u16.max=((65535 : Nat) : Int) from rfl,u16_xor_nat 65535 n (by omega) hn]
 have e : (65535 ^^^ n)=65535 - n:=by
  have h:=BitVec.toNat_not (x:=BitVec.ofNat 16 n)
  have h2 : (~~~ (BitVec.ofNat 16 n))=(BitVec.ofNat 16 65535) ^^^ (BitVec.ofNat 16 n):=by
   rw [show (BitVec.ofNat 16 65535)=BitVec.allOnes 16 from rfl,BitVec.allOnes_xor]
  rw [h2,BitVec.toNat_xor] at h
  simp only [BitVec.toNat_ofNat] at h
  rw [Nat.mod_eq_of_lt (show n < 2 ^ 16 by omega)] at h
  simpa using h
 rw [e];omega
theorem u16_signed : IntKind.u16.signed=false:=rfl
theorem nat_or_low (x y m : Nat) (h : y < 2 ^ m) : (x * 2 ^ m) ||| y=x * 2 ^ m + y:=by
 rw [Nat.mul_comm];exact (Nat.two_pow_add_eq_or_of_lt h x).symm
theorem u16_or_low (x y : Int) (hx0 : 0<=x) (hx : x<=255) (hy0 : 0<=y) (hy : y<=255) : bits .or .u16 (x * 256) y=x * 256 + y:=by
 rw [u16_or (x * 256) y (by omega) (by omega) (by omega) (by omega)]
 obtain ⟨a,rfl⟩:=Int.eq_ofNat_of_zero_le hx0
 obtain ⟨b,rfl⟩:=Int.eq_ofNat_of_zero_le hy0
 have:=nat_or_low a b 8 (by omega)
 have e : ((a : Int) * 256).toNat=a * 256:=by omega
 simp at this
 rw [e];simp [this]
def RD (k : IntKind) (w : World) (B : Nat) (A : Option Addr) (n : Nat) (zs : List Int) : Prop :=
 zs.length=n∧(0 < n->∃ b off,A=some ⟨b,off,none⟩∧b < B∧∀ i,i < n->w.cell? ⟨b,off + i,none⟩=some (.int k (zs[i]?.getD 0)))
def BD (m : Int) (zs : List Int) : Prop:=∀ x ∈ zs,0<=x∧x<=m
theorem BD.get {m : Int} {zs : List Int} (h : BD m zs) (hm : 0<=m) (i : Nat) : 0<=zs[i]?.getD 0∧zs[i]?.getD 0<=m:=by
 rcases Nat.lt_or_ge i zs.length with hi | hi
 ·have:=h zs[i] (List.getElem_mem hi)
  simpa [hi] using this
 ·simp [hi,hm]
theorem BD.take {m : Int} {zs : List Int} (h : BD m zs) (i : Nat) : BD m (zs.take i):=fun x hx=>h x (List.mem_of_mem_take hx)
theorem BD.drop {m : Int} {zs : List Int} (h : BD m zs) (i : Nat) : BD m (zs.drop i):=fun x hx=>h x (List.mem_of_mem_drop hx)
theorem BD.append {m : Int} {zs ys : List Int} (h : BD m zs) (h' : BD m ys) : BD m (zs++ys):=fun x hx=>(List.mem_append.1 hx).elim (h x) (h' x)
section
variable {k : IntKind} {w w' : World} {B B' n : Nat} {A : Option Addr} {zs : List Int}
theorem RD.len (h : RD k w B A n zs) : zs.length=n:=h.1
theorem RD.nil : RD k w B A 0 []:=⟨rfl,fun h=>absurd h (by omega)⟩
theorem RD.keep (h : RD k w B A n zs) (hk : ∀ p : Addr,p.block < B->w'.cell? p=w.cell? p) : RD k w' B A n zs :=
 ⟨h.1,fun hn=>by
  obtain ⟨b,off,e,hb,hc⟩:=h.2 hn
  exact ⟨b,off,e,hb,fun i hi=>(hk _ hb).trans (hc i hi)⟩⟩
theorem RD.more (h : RD k w B A n zs) (hB : B<=B') : RD k w B' A n zs :=
 ⟨h.1,fun hn=>by
  obtain ⟨b,off,e,hb,hc⟩:=h.2 hn
  exact ⟨b,off,e,by omega,hc⟩⟩
theorem RD.below (h : RD k w B A n zs) (hb : Below B w w') : RD k w' B A n zs:=h.keep fun _ hp=>hb.cell hp
theorem RD.alloc (h : RD k w B A n zs) (hB : B<=w.heap.size) (o : Obj) : RD k (w.alloc o) B A n zs:=h.keep fun p hp=>World.cell?_alloc_lt w o p (by omega)
theorem RD.setCell (h : RD k w B A n zs) {p : Addr} (hB : B<=p.block) (u : Value) : RD k (w.setCell p u) B A n zs :=
 h.keep fun q hq=>World.cell?_setCell_other w p q u (fun e=>by subst e;omega)
theorem RD.take (h : RD k w B A n zs) {m : Nat} (hm : m<=n) : RD k w B A m (zs.take m) :=
 ⟨by have:=h.1;simp;omega,fun hn=>by
  obtain ⟨b,off,e,hb,hc⟩:=h.2 (by omega)
  refine ⟨b,off,e,hb,fun i hi=>?_⟩
  rw [hc i (by omega)]
  simp [hi]⟩
theorem RD.drop (h : RD k w B A n zs) {lo c : Nat} (hlo : lo<=n) (hc : n<=c) : RD k w B (if c=lo then A else A.map (·.add lo)) (n - lo) (zs.drop lo) :=
 ⟨by have:=h.1;simp;omega,fun hn=>by
  obtain ⟨b,off,rfl,hb,hcell⟩:=h.2 (by omega)
  rw [if_neg (by omega)]
  refine ⟨b,off + lo,?_,hb,fun i hi=>?_⟩
  ·simp only [Option.map]
   unfold Addr.add
   split <;> simp_all
  ·rw [Nat.add_assoc,hcell (lo + i) (by omega)]
   simp [List.getElem?_drop]⟩
theorem RD.later (h : RD k w w.heap.size A n zs) (hb : Below w.heap.size w w') : RD k w' w'.heap.size A n zs:=(h.below hb).more hb.size
theorem RD.new (w : World) (k : IntKind) (t : TypeId) (zs : List Int) : RD k (w.alloc (.cells (zs.map (Value.int k)).toArray t)) (w.alloc (.cells (zs.map (Value.int k)).toArray t)).heap.size (some ⟨w.heap.size,0,none⟩) zs.length zs :=
 ⟨rfl,fun _=>⟨w.heap.size,0,rfl,by simp,fun i hi=>by
  rw [World.cell?_alloc_new]
  simp [hi]⟩⟩
theorem RD.new' (w : World) (k : IntKind) (t : TypeId) (zs : List Int) {g B n : Nat} (hg : w.heap.size=g) (hB : g < B) (hn : zs.length=n) : RD k (w.alloc (.cells (zs.map (Value.int k)).toArray t)) B (some ⟨g,0,none⟩) n zs:=by
 subst hg
 exact ⟨hn,fun _=>⟨w.heap.size,0,rfl,hB,fun i hi=>by rw [World.cell?_alloc_new];subst hn;simp [hi]⟩⟩
end
end Go.Proofs.YtljbfnabnkkfeaaGreat
namespace Go.Proofs.YtljbfnabnkkfeaaGreat
def foldR (s : Int) : Int:=if s=0 then 0 else 1 + (s - 1) % 65535
theorem foldR_bd (s : Int) : 0<=foldR s∧foldR s<=65535:=by unfold foldR;split <;> omega
theorem foldR_step {s x : Int} (h0 : 0<=s) (h1 : s<=65535) (h2 : 0<=x) (h3 : x<=65535) : stepJ s x=foldR (s + x):=by unfold stepJ foldR;split <;> omega
theorem foldR_foldR {s x : Int} (h0 : 0<=s) (h2 : 0<=x) : foldR (foldR s + x)=foldR (s + x):=by
 unfold foldR
 by_cases hs : s=0
 ·simp [hs]
 ·simp only [hs,if_false]
  rw [if_neg (by omega),if_neg (by omega)]
  omega
theorem foldR_small {s : Int} (h0 : 0<=s) (h1 : s<=65535) : foldR s=s:=by unfold foldR;split <;> omega
def isum : List Int->Int
 | []=>0
 | x::l=>x + isum l
theorem isum_append (l m : List Int) : isum (l++m)=isum l + isum m:=by
 induction l with
 | nil=>simp [isum]
 | cons x l ih=>simp [isum,ih];omega
theorem isum_nonneg : ∀ (l : List Int),(∀ x ∈ l,0<=x)->0<=isum l
 | [],_=>by simp [isum]
 | x::l,h=>by
   have h1:=h x (by simp)
   have h2:=isum_nonneg l (fun y hy=>h y (by simp [hy]))
   simp only [isum];omega
theorem foldJ_eq : ∀ (l : List Int) (s : Int),0<=s->s<=65535->(∀ x ∈ l,0<=x∧x<=65535)->foldJ s l=foldR (s + isum l)
 | [],s,h0,h1,_=>by simp [foldJ,isum,foldR_small h0 h1]
 | x::l,s,h0,h1,h=>by
   have hx:=h x (by simp)
   have hb:=stepJ_bd h0 h1 hx.1 hx.2
   have hl : 0<=isum l:=isum_nonneg l (fun y hy=>(h y (by simp [hy])).1)
   show foldJ (stepJ s x) l=_
   rw [foldJ_eq l _ hb.1 hb.2 (fun y hy=>h y (by simp [hy])),foldR_step h0 h1 hx.1 hx.2,foldR_foldR (by omega) hl]
   simp only [isum]
   congr 1;omega
theorem foldJ0_eq (l : List Int) (h : ∀ x ∈ l,0<=x∧x<=65535) : foldJ 0 l=foldR (isum l):=by
 rw [foldJ_eq l 0 (by omega) (by omega) h,Int.zero_add]
def wsum (zs : List Int) : Int:=isum (wordsOf zs)
theorem wsum_nonneg {zs : List Int} (h : ∀ x ∈ zs,0<=x∧x<=255) : 0<=wsum zs:=isum_nonneg _ (fun x hx=>(wordsOf_bd zs h x hx).1)
theorem sumOf_eq {zs : List Int} (h : ∀ x ∈ zs,0<=x∧x<=255) : sumOf zs=foldR (wsum zs):=foldJ0_eq _ (wordsOf_bd zs h)
theorem wsum_append {l : List Int} (m : List Int) (h : l.length % 2=0) : wsum (l++m)=wsum l + wsum m:=by
 unfold wsum;rw [wordsOf_append l m (k:=l.length / 2) (by omega),isum_append]
theorem wordAt_bd {zs : List Int} (h : ∀ x ∈ zs,0<=x∧x<=255) (a : Nat) : 0<=wordAt zs a∧wordAt zs a<=65535:=by
 have h1:=byte_bd zs h a
 have h2:=byte_bd zs h (a + 1)
 unfold wordAt;omega
theorem sum_append {xs ys : List Int} (hx : ∀ x ∈ xs,0<=x∧x<=255) (hy : ∀ x ∈ ys,0<=x∧x<=255) (he : xs.length % 2=0) : sumOf (xs++ys)=stepJ (sumOf xs) (sumOf ys):=by
 have h : ∀ x ∈ xs++ys,0<=x∧x<=255:=fun x hm=>(List.mem_append.1 hm).elim (hx x) (hy x)
 have s1:=sumOf_bd xs hx
 have s2:=sumOf_bd ys hy
 rw [foldR_step s1.1 s1.2 s2.1 s2.2,sumOf_eq h,wsum_append ys he]
 rw [sumOf_eq hx,sumOf_eq hy,foldR_foldR (wsum_nonneg hx) (foldR_bd _).1,Int.add_comm (wsum xs) (foldR (wsum ys)),foldR_foldR (wsum_nonneg hy) (wsum_nonneg hx),Int.add_comm]
open Go.RowKit
def OWN (k : IntKind) (e : TypeId) (w : World) (base : Nat) (A : Option Addr) (n c : Nat) (zs : List Int) : Prop :=
 w.ownsRow base e 1 (.slice A n c) n (zs.map (Value.int k))
section
variable {k : IntKind} {e : TypeId} {w w' : World} {base B n c : Nat} {A : Option Addr} {zs : List Int}
theorem OWN.len (h : OWN k e w base A n c zs) : zs.length=n:=by simpa using h.1
theorem OWN.nil : OWN k e w base none 0 0 []:=World.ownsRow_nil w base e 1
theorem OWN.cases (h : OWN k e w base A n c zs) : (A=none∧n=0∧c=0∧zs=[])∨∃ g,A=some ⟨g,0,none⟩∧base<=g∧g < w.heap.size∧n<=c∧c<=maxLen:=by
 have hl:=h.len
 rcases h.2 with ⟨h1,rfl⟩ | ⟨g,cap,cur,h1,h2,h3,h4,h5,_⟩
 ·simp at h1
  exact .inl ⟨h1.1,rfl,h1.2,List.length_eq_zero_iff.1 hl⟩
 ·simp at h1
  obtain ⟨rfl,rfl⟩:=h1
  exact .inr ⟨g,rfl,h2,(Array.getElem?_eq_some_iff.1 h3).1,h4,h5⟩
theorem OWN.form (h : OWN k e w base A n c zs) (hn : 0 < n) : ∃ g,A=some ⟨g,0,none⟩∧base<=g∧g < w.heap.size∧n<=c∧c<=maxLen:=by
 rcases h.cases with ⟨_,rfl,_⟩ | h
 ·omega
 ·exact h
theorem OWN.le (h : OWN k e w base A n c zs) : n<=c∧c<=maxLen:=by
 rcases h.cases with ⟨_,rfl,rfl,_⟩ | ⟨_,_,_,_,h1,h2⟩
 ·exact ⟨Nat.le_refl _,Nat.zero_le _⟩
 ·exact ⟨h1,h2⟩
theorem OWN.cell {g : Nat} (h : OWN k e w base (some ⟨g,0,none⟩) n c zs) {i : Nat} (hi : i < n) : w.cell? ⟨g,i,none⟩=some (.int k (zs[i]?.getD 0)):=by
 have hl:=h.len
 have:=World.ownsRow.cellAt h i (by omega)
 rw [this]
 simp [hl,hi]
theorem OWN.frozen {g : Nat} (h : OWN k e w base (some ⟨g,0,none⟩) n c zs) (i : Nat) : w.frozen? ⟨g,i,none⟩=false:=World.ownsRow.frozenAt h i
theorem OWN.rd (h : OWN k e w base A n c zs) : RD k w w.heap.size A n zs :=
 ⟨h.len,fun hn=>by
  obtain ⟨g,rfl,_,hg,_⟩:=h.form hn
  exact ⟨g,0,rfl,hg,fun i hi=>by rw [Nat.zero_add];exact h.cell hi⟩⟩
theorem OWN.keep (h : OWN k e w base A n c zs) (hk : ∀ g,A=some ⟨g,0,none⟩->w'.heap[g]?=w.heap[g]?) : OWN k e w' base A n c zs:=by
 refine ⟨h.1,?_⟩
 rcases h.2 with h1 | ⟨g,cap,cur,h1,h2,h3,r⟩
 ·exact .inl h1
 ·exact .inr ⟨g,cap,cur,h1,h2,by rw [hk g (by simp at h1;exact h1.1)];exact h3,r⟩
theorem OWN.lt (h : OWN k e w base A n c zs) : ∀ g,A=some ⟨g,0,none⟩->base<=g∧g < w.heap.size:=fun g hg=>by
 rcases h.cases with ⟨rfl,_⟩ | ⟨g',rfl,h1,h2,_⟩
 ·cases hg
 ·simp at hg;subst hg;exact ⟨h1,h2⟩
theorem OWN.below (h : OWN k e w base A n c zs) (hb : Below w.heap.size w w') : OWN k e w' base A n c zs:=h.keep fun g hg=>hb.block g (h.lt g hg).2
theorem OWN.alloc (h : OWN k e w base A n c zs) (o : Obj) : OWN k e (w.alloc o) base A n c zs:=h.keep fun g hg=>Below.heap_alloc w o g (h.lt g hg).2
theorem OWN.setCell (h : OWN k e w base A n c zs) {p : Addr} (hp : ∀ g,A=some ⟨g,0,none⟩->g≠p.block) (u : Value) : OWN k e (w.setCell p u) base A n c zs:=h.keep fun g hg=>Below.heap_setCell w p u g (hp g hg)
theorem OWN.mono {base' : Nat} (h : OWN k e w base A n c zs) (hb : base'<=base) : OWN k e w base' A n c zs:=by
 refine ⟨h.1,?_⟩
 rcases h.2 with h1 | ⟨g,cap,cur,h1,h2,r⟩
 ·exact .inl h1
 ·exact .inr ⟨g,cap,cur,h1,by omega,r⟩
theorem OWN.stored {g : Nat} (h : OWN k e w base (some ⟨g,0,none⟩) n c zs) (i : Nat) (x : Int) : OWN k e (w.setCell ⟨g,i,none⟩ (.int k x)) base (some ⟨g,0,none⟩) n c (zs.set i x):=by
 have:=(World.ownsRow.stored h i (.int k x)).1
 unfold OWN
 rwa [List.map_set]
theorem OWN.two {g : Nat} (h : OWN k e w base (some ⟨g,0,none⟩) n c zs) (i : Nat) (x y : Int) : OWN k e ((w.setCell ⟨g,i,none⟩ (.int k x)).setCell ⟨g,i + 1,none⟩ (.int k y)) base (some ⟨g,0,none⟩) n c (put2 zs i x y):=(h.stored i x).stored (i + 1) y
theorem Below.two {a : World} {g i : Nat} {u v : Value} (h : Below B a w) (hg : B<=g) : Below B a ((w.setCell ⟨g,i,none⟩ u).setCell ⟨g,i + 1,none⟩ v):=(h.setCell (p:=⟨g,i,none⟩) hg _).setCell (p:=⟨g,i + 1,none⟩) hg _
theorem OWN.cut {m : Nat} (h : OWN k e w base A n c zs) (hm : m<=n) : OWN k e w base A m c (zs.take m):=by
 have hl:=h.len
 refine ⟨by simp;omega,?_⟩
 rcases h.2 with ⟨h1,rfl⟩ | ⟨g,cap,cur,h1,h2,h3,h4,h5,h6,h7⟩
 ·obtain rfl : m=0:=by omega
  exact .inl ⟨h1,rfl⟩
 ·simp at h1
  obtain ⟨rfl,rfl⟩:=h1
  refine .inr ⟨g,c,cur,rfl,h2,h3,by omega,h5,h6,?_⟩
  have : cur.toList.take (m * 1)=(cur.toList.take (n * 1)).take (m * 1):=by rw [List.take_take];congr 1;omega
  rw [this,h7,Nat.mul_one,List.map_take]
theorem OWN.lit (w : World) (k : IntKind) (e : TypeId) (base : Nat) (zs : List Int) (hb : base<=w.heap.size) (hm : zs.length<=maxLen) :
 OWN k e (w.alloc (.cells (zs.map (Value.int k)).toArray e)) base (some ⟨w.heap.size,0,none⟩) zs.length zs.length zs :=
 World.ownsRow_lit w (zs.map (Value.int k)).toArray zs.length hb hm (by simp)
def cutA (A : Option Addr) (c lo : Nat) : Option Addr:=if c=lo then A else A.map (·.add lo)
theorem RD.cutA (h : RD k w B A n zs) {lo : Nat} (hlo : lo<=n) (hc : n<=c) : RD k w B (cutA A c lo) (n - lo) (zs.drop lo):=h.drop hlo hc
theorem RD.mid (h : RD k w B A n zs) {lo hi : Nat} (hlo : lo<=hi) (hhi : hi<=n) (hc : n<=c) : RD k w B (Go.Proofs.YtljbfnabnkkfeaaGreat.cutA A c lo) (hi - lo) ((zs.drop lo).take (hi - lo)):=(h.cutA (lo:=lo) (by omega) hc).take (by omega)
theorem run_slice_lo {P : Program} (w : World) {t e : TypeId} {i : TypeInfo} (ht : P.underlying t=some (.slice e)) (hi : P.info? e=some i) (hs : i.size=1) (A : Option Addr) (n c : Nat) (q : Int) (lo : Nat) (hq : q=lo) (h1 : lo<=n) :
 (Instr.slice t (.slice A n c) (some (.int .i64 q)) none none).run P w = .ok (.slice (cutA A c lo) (n - lo) (c - lo)) w:=by
 subst hq
 have h2 : (0 : Int)<=(lo : Int)∧(lo : Int)<=(n : Int):=by omega
 simp [Instr.slice,run_underlying ht,Instr.sliceBounds,Instr.sliceBound,asIntOf,sizeOf,typeInfo,hi,hs,h1,cutA]
theorem run_slice_lohi {P : Program} (w : World) {t e : TypeId} {i : TypeInfo} (ht : P.underlying t=some (.slice e)) (hi : P.info? e=some i) (hs : i.size=1) (A : Option Addr) (n c : Nat) (q r : Int) (lo hi' : Nat) (hq : q=lo) (hr : r=hi') (h1 : lo<=hi') (h2 : hi'<=c) :
 (Instr.slice t (.slice A n c) (some (.int .i64 q)) (some (.int .i64 r)) none).run P w = .ok (.slice (cutA A c lo) (hi' - lo) (c - lo)) w:=by
 subst hq hr
 simp [Instr.slice,run_underlying ht,Instr.sliceBounds,Instr.sliceBound,asIntOf,sizeOf,typeInfo,hi,hs,h1,h2,cutA]
structure APP (k : IntKind) (e : TypeId) (w w' : World) (base : Nat) (A A' : Option Addr) (n n' c c' : Nat) (zs zs' : List Int) : Prop where
 own : OWN k e w' base A' n' c' zs'
 grown : w.grownBy w' (A.map (·.block))
 lies : (A'=A∧c'=c)∨(c < n'∧A'=some ⟨w.heap.size,0,none⟩)
 old : OWN k e w' base A n c zs
theorem APP.keepBelow {A' : Option Addr} {n' c' : Nat} {ys : List Int} (h : APP k e w w' base A A' n n' c c' zs ys) (hA : ∀ g,A.map (·.block)=some g->B<=g) (hB : B<=w.heap.size) : Below B w w' :=
 (Below.refl B w).grown h.grown hB hA
theorem run_append_rd {P : Program} (w : World) (k : IntKind) (base : Nat) (t ty e : TypeId) (i : TypeInfo) (bytes : Nat) (ht : P.underlying t=some (.slice e)) (hi : P.info? e=some i) (hz : i.zero=some (.int k 0)) (hsize : i.size=1) (hby : i.bytes=bytes)
 (A : Option Addr) (n c : Nat) (zs : List Int) (hown : OWN k e w base A n c zs) (B : Nat) (A2 : Option Addr) (m c2 : Nat) (ys : List Int) (hr : RD k w B A2 m ys)
 (h63 : n + m<=maxLen) (hbytes : (n + m) * bytes<=140737488355328) (hbase : base<=w.heap.size) :
 ∃ A' c' w',(Builtin.append_ #[t,t] ty #[.slice A n c,.slice A2 m c2]).run P w = .ok (.slice A' (n + m) c') w'∧APP k e w w' base A A' n (n + m) c c' zs (zs++ys):=by
 have blk : ∀ (A : Option Addr) (n c : Nat),Value.ownBlock (.slice A n c)=A.map (·.block):=fun A n c=>by cases A <;> rfl
 rcases A2 with _ | ad
 ·have hm : m=0:=by
   rcases Nat.eq_zero_or_pos m with h | h
   ·exact h
   ·obtain ⟨b,off,h1,_⟩:=hr.2 h
    cases h1
  subst hm
  have hy : ys=[]:=List.length_eq_zero_iff.1 hr.1
  subst hy
  refine ⟨A,c,w,?_,⟨by simpa using hown,⟨rfl,rfl,rfl,Nat.le_refl _,fun _ _ _=>rfl⟩,.inl ⟨rfl,rfl⟩,hown⟩⟩
  have hle:=hown.le
  rcases hown.cases with ⟨rfl,rfl,rfl,_⟩ | ⟨g,rfl,_⟩
  ·simp [Builtin.append_,run_underlying ht,sizeOf,typeInfo,hi,Builtin.lenOf,Builtin.firstCells]
  ·simp [Builtin.append_,run_underlying ht,sizeOf,typeInfo,hi,Builtin.lenOf,Builtin.firstCells,hle.1,storeCells]
 ·have hnews : ∀ j u,(ys.map (Value.int k))[j]?=some u->w.cell? (ad.add j)=some u:=by
   intro j u hu
   have hj : j < m:=by
    have:=(List.getElem?_eq_some_iff.1 hu).1
    have h1:=hr.1
    simp at this;omega
   obtain ⟨b,off,h1,_,h3⟩:=hr.2 (by omega)
   simp at h1;subst h1
   have hadd : (⟨b,off,none⟩ : Addr).add j=⟨b,off + j,none⟩:=by unfold Addr.add;split <;> simp_all
   rw [hadd,h3 j hj,<- hu]
   have h1:=hr.1
   simp [h1,hj]
  obtain ⟨v',w',h1,h2,h3,h4,h5⟩:=run_append_own_at (P:=P) w base t ty e i (.int k 0) 1 bytes ht hi hz hsize hby rfl (by omega) (.slice A n c) n (zs.map (Value.int k)) hown ad m c2 (ys.map (Value.int k))
   (by have:=hr.1;simp;omega) hnews (ints_oneCell k ys) h63 hbytes hbase
  obtain ⟨A',c',rfl⟩ : ∃ A' c',v' = .slice A' (n + m) c':=by
   rcases h2.2 with ⟨rfl,e0⟩ | ⟨g,cap,cur,rfl,_⟩
   ·exact ⟨none,0,by rw [e0]⟩
   ·exact ⟨_,_,rfl⟩
  rw [blk] at h3
  have hown' : OWN k e w' base A' (n + m) c' (zs++ys):=by
   unfold OWN
   rw [List.map_append]
   exact h2
  suffices hh : ((A'=A∧c'=c)∨(c < n + m∧A'=some ⟨w.heap.size,0,none⟩))∧OWN k e w' base A n c zs from ⟨A',c',w',h1,⟨hown',h3,hh.1,hh.2⟩⟩
  have hlen1 : (ys.map (Value.int k)).length=m * i.size:=by have:=hr.1;rw [hsize];simp;omega
  rcases hown.2 with ⟨hv,rfl⟩ | ⟨g,cap,cur,hv,hbg,hg,hnc,hcm,hcs,htake⟩
  ·simp at hv
   obtain ⟨rfl,rfl⟩:=hv
   have hz0 : zs=[]:=List.length_eq_zero_iff.1 hown.len
   subst hz0
   rcases Nat.eq_zero_or_pos m with hm | hm
   ·subst hm
    have hv:=h4.2 ⟨rfl,rfl⟩
    simp at hv
    obtain ⟨rfl,rfl⟩:=hv
    exact ⟨.inl ⟨rfl,rfl⟩,OWN.nil⟩
   ·have hrn:=run_append_nil (P:=P) w t ty e i (.int k 0) ht hi hz ad m c2 (ys.map (Value.int k)) hlen1 hnews hm (by simp only [maxLen] at h63;omega) (by rw [hby];rw [Nat.zero_add] at hbytes;omega)
    rw [hrn] at h1
    simp only [Result.ok.injEq,Value.slice.injEq] at h1
    obtain ⟨⟨rfl,_,rfl⟩,rfl⟩:=h1
    exact ⟨.inr ⟨by omega,rfl⟩,OWN.nil⟩
  ·simp at hv
   obtain ⟨rfl,rfl⟩:=hv
   by_cases hroom : n + m<=c
   ·have hrr:=run_append_room (P:=P) w t ty e i ht hi g n c cur hg ad m c2 (ys.map (Value.int k)) hlen1 hnews (ints_oneCell k ys) hroom (by rw [hlen1,hsize,hcs];omega)
    rw [hrr] at h1
    simp only [Result.ok.injEq,Value.slice.injEq] at h1
    obtain ⟨⟨rfl,_,rfl⟩,_⟩:=h1
    refine ⟨.inl ⟨rfl,rfl⟩,?_⟩
    have:=hown'.cut (m:=n) (by omega)
    rwa [List.take_left' hown.len] at this
   ·have hrg:=run_append_grow (P:=P) w t ty e i (.int k 0) ht hi hz ⟨g,0,none⟩ n c (zs.map (Value.int k)) (by rw [hsize];exact hown.1) (World.ownsRow.cells hown (g:=g) rfl) ad m c2 (ys.map (Value.int k)) hlen1 hnews (by omega) (by simp only [maxLen] at h63;omega) (growslice_fits (by omega) (by rw [hby];exact hbytes))
    rw [hrg] at h1
    simp only [Result.ok.injEq,Value.slice.injEq] at h1
    obtain ⟨⟨rfl,_,rfl⟩,rfl⟩:=h1
    exact ⟨.inr ⟨by omega,rfl⟩,hown.keep fun g' hg'=>Below.heap_alloc w.drew _ g' (hown.lt g' hg').2⟩
theorem wpList_append_rd {P : Program} (w : World) {ops : Array Oper} {rest : List Oper} {o : Oper} {a : Act} {Q : Exit->Act->World->Prop} (hgd : o.guard=none) (s x : Operand) (t : TypeId)
 (ho : o.op = .call { callee:=.builtin .append,args:=#[s,x],argTypes:=#[t,t] })
 (k : IntKind) (base : Nat) (e : TypeId) (i : TypeInfo) (bytes : Nat) (ht : P.underlying t=some (.slice e)) (hi : P.info? e=some i) (hz : i.zero=some (.int k 0)) (hsize : i.size=1) (hby : i.bytes=bytes)
 (A : Option Addr) (n c : Nat) (zs : List Int) (hs : a.eval s = .slice A n c) (hown : OWN k e w base A n c zs) (B : Nat) (A2 : Option Addr) (m c2 : Nat) (ys : List Int) (hx : a.eval x = .slice A2 m c2) (hr : RD k w B A2 m ys)
 (h63 : n + m<=maxLen) (hbytes : (n + m) * bytes<=140737488355328) (hbase : base<=w.heap.size)
 (h : ∀ A' c' w',APP k e w w' base A A' n (n + m) c c' zs (zs++ys)->wpList P ops Q rest (a.put o.dst (.slice A' (n + m) c')) w') : wpList P ops Q (o::rest) a w:=by
 refine wpList_plain hgd fun K hK=>?_
 obtain ⟨A',c',w',hrun,h2⟩:=run_append_rd (P:=P) w k base t o.type e i bytes ht hi hz hsize hby A n c zs hown B A2 m c2 ys hr h63 hbytes hbase
 unfold Oper.wp execOp
 simp only [ho,resolve,invoke,builtin,Sem.run_bind,Sem.run_pure,Result.andThen_ok,List.map_toArray,List.map_cons,List.map_nil,hs,hx,hrun]
 exact hK _ _ (h A' c' w' h2)
theorem wp_append_rd {P : Program} (w : World) {o : Oper} {a : Act} {K : Act->World->Prop} {Q : Exit->Act->World->Prop} (s x : Operand) (t : TypeId)
 (ho : o.op = .call { callee:=.builtin .append,args:=#[s,x],argTypes:=#[t,t] })
 (k : IntKind) (base : Nat) (e : TypeId) (i : TypeInfo) (bytes : Nat) (ht : P.underlying t=some (.slice e)) (hi : P.info? e=some i) (hz : i.zero=some (.int k 0)) (hsize : i.size=1) (hby : i.bytes=bytes)
 (A : Option Addr) (n c : Nat) (zs : List Int) (hs : a.eval s = .slice A n c) (hown : OWN k e w base A n c zs) (B : Nat) (A2 : Option Addr) (m c2 : Nat) (ys : List Int) (hx : a.eval x = .slice A2 m c2) (hr : RD k w B A2 m ys)
 (h63 : n + m<=maxLen) (hbytes : (n + m) * bytes<=140737488355328) (hbase : base<=w.heap.size)
 (h : ∀ A' c' w',APP k e w w' base A A' n (n + m) c c' zs (zs++ys)->K (a.put o.dst (.slice A' (n + m) c')) w') : o.wp P a w K Q:=by
 obtain ⟨A',c',w',hrun,h2⟩:=run_append_rd (P:=P) w k base t o.type e i bytes ht hi hz hsize hby A n c zs hown B A2 m c2 ys hr h63 hbytes hbase
 unfold Oper.wp execOp
 simp only [ho,resolve,invoke,builtin,Sem.run_bind,Sem.run_pure,Result.andThen_ok,List.map_toArray,List.map_cons,List.map_nil,hs,hx,hrun]
 exact h A' c' w' h2
theorem step_append_rd {P : Program} (w : World) {ops : Array Oper} {o : Oper} {a : Act} {K : Act->World->Prop} {Q : Exit->Act->World->Prop} {E : Prop} (hgd : o.guard=none) (s x : Operand) (t : TypeId)
 (ho : o.op = .call { callee:=.builtin .append,args:=#[s,x],argTypes:=#[t,t] })
 (k : IntKind) (base : Nat) (e : TypeId) (i : TypeInfo) (bytes : Nat) (ht : P.underlying t=some (.slice e)) (hi : P.info? e=some i) (hz : i.zero=some (.int k 0)) (hsize : i.size=1) (hby : i.bytes=bytes)
 (A : Option Addr) (n c : Nat) (zs : List Int) (hs : a.eval s = .slice A n c) (hown : OWN k e w base A n c zs) (B : Nat) (A2 : Option Addr) (m c2 : Nat) (ys : List Int) (hx : a.eval x = .slice A2 m c2) (hr : RD k w B A2 m ys)
 (h63 : n + m<=maxLen) (hbytes : (n + m) * bytes<=140737488355328) (hbase : base<=w.heap.size)
 (h : ∀ A' c' w',APP k e w w' base A A' n (n + m) c c' zs (zs++ys)->K (a.put o.dst (.slice A' (n + m) c')) w') :
 if Region.wanted o (yielded ops a.tmps)=true then Oper.wp P o a w K Q else E:=by
 have hw : Region.wanted o (yielded ops a.tmps)=true:=by simp [Region.wanted,hgd]
 rw [if_pos hw]
 exact wp_append_rd w s x t ho k base e i bytes ht hi hz hsize hby A n c zs hs hown B A2 m c2 ys hx hr h63 hbytes hbase h
end
end Go.Proofs.YtljbfnabnkkfeaaGreat
namespace Go.Proofs.YtljbfnabnkkfeaaGreat
open Go.RowKit
def BLOCK (w : World) (N : Nat) (t : TypeId) (cs : Array Value) : Prop:=w.heap[N]?=some (.cells cs t (0,0))
section
variable {w w' : World} {N i : Nat} {t : TypeId} {cs : Array Value} {v : Value}
theorem BLOCK.cell (h : BLOCK w N t cs) (i : Nat) : w.cell? ⟨N,i,none⟩=cs[i]?:=cell_of_row w N i cs t (0,0) h
theorem BLOCK.free (h : BLOCK w N t cs) (i : Nat) : w.frozen? ⟨N,i,none⟩=false:=frozen_of_row w N i cs t h
theorem BLOCK.lt (h : BLOCK w N t cs) : N < w.heap.size:=(Array.getElem?_eq_some_iff.1 h).1
theorem BLOCK.below {B : Nat} (h : BLOCK w N t cs) (hb : Below B w w') (hN : N < B) : BLOCK w' N t cs:=(hb.block N hN).trans h
theorem BLOCK.next (h : BLOCK w N t cs) (hb : Below w.heap.size w w') : BLOCK w' N t cs:=h.below hb h.lt
theorem BLOCK.drewN (h : BLOCK w N t cs) (m : Nat) : BLOCK (w.drewN m) N t cs:=h
theorem BLOCK.drew (h : BLOCK w N t cs) : BLOCK w.drew N t cs:=h
theorem BLOCK.alloc (h : BLOCK w N t cs) (o : Obj) : BLOCK (w.alloc o) N t cs:=(heap_alloc_old w o h.lt).trans h
theorem BLOCK.new (w : World) (t : TypeId) (cs : Array Value) : BLOCK (w.alloc (.cells cs t)) w.heap.size t cs:=heap_alloc_new w _
theorem BLOCK.new' (w : World) (t : TypeId) (cs : Array Value) {g : Nat} (hg : w.heap.size=g) : BLOCK (w.alloc (.cells cs t)) g t cs:=hg ▸ heap_alloc_new w _
theorem BLOCK.set (h : BLOCK w N t cs) (i : Nat) (v : Value) : BLOCK (w.setCell ⟨N,i,none⟩ v) N t (cs.setIfInBounds i v):=heap_setCell_same w N i cs t v h
theorem BLOCK.other (h : BLOCK w N t cs) {p : Addr} (hp : N≠p.block) (v : Value) : BLOCK (w.setCell p v) N t cs:=(heap_setCell_other w p N v hp).trans h
end
end Go.Proofs.YtljbfnabnkkfeaaGreat
namespace Go.Proofs.YtljbfnabnkkfeaaGreat
open Go.RowKit
inductive IT where
 | own (k : IntKind) (e : TypeId) (A : Option Addr) (n c : Nat) (zs : List Int)
 | blk (N : Nat) (t : TypeId) (cs : Array Value)
 | row (e : TypeId) (m : Nat) (A : Option Addr) (n c : Nat) (vs : List Value)
 | obj (N : Nat) (o : Obj)
 | gone
def IT.at_ : IT->Option Nat
 | .own _ _ A _ _ _=>A.map (·.block)
 | .blk N _ _=>some N
 | .row _ _ A _ _ _=>A.map (·.block)
 | .obj N _=>some N
 | .gone=>none
def IT.Holds (base : Nat) (w : World) : IT->Prop
 | .own k e A n c zs=>OWN k e w base A n c zs
 | .blk N t cs=>base<=N∧BLOCK w N t cs
 | .row e m A n c vs=>w.ownsRow base e m (.slice A n c) n vs
 | .obj N o=>base<=N∧w.heap[N]?=some o
 | .gone=>True
theorem IT.Holds.lt {base : Nat} {w : World} {it : IT} (h : it.Holds base w) {g : Nat} (hg : it.at_=some g) : base<=g∧g < w.heap.size:=by
 cases it with
 | own k e A n c zs =>
   rcases OWN.cases h with ⟨rfl,_⟩ | ⟨g',rfl,h1,h2,_⟩
   ·cases hg
   ·simp only [IT.at_,Option.map,Option.some.injEq] at hg;subst hg;exact ⟨h1,h2⟩
 | blk N t cs=>simp only [IT.at_,Option.some.injEq] at hg;subst hg;exact ⟨h.1,h.2.lt⟩
 | row e m A n c vs =>
   rcases h.2 with ⟨h1,_⟩ | ⟨g',cap,cur,h1,h2,h3,_⟩
   ·simp at h1;rw [h1.1] at hg;cases hg
   ·simp at h1;rw [h1.1] at hg;simp only [IT.at_,Option.map,Option.some.injEq] at hg;subst hg;exact ⟨h2,(Array.getElem?_eq_some_iff.1 h3).1⟩
 | obj N o=>simp only [IT.at_,Option.some.injEq] at hg;subst hg;exact ⟨h.1,(Array.getElem?_eq_some_iff.1 h.2).1⟩
 | gone=>cases hg
theorem IT.Holds.keep {base : Nat} {w w' : World} {it : IT} (h : it.Holds base w) (hk : ∀ g,it.at_=some g->w'.heap[g]?=w.heap[g]?) : it.Holds base w':=by
 cases it with
 | own k e A n c zs=>exact OWN.keep h fun g hg=>hk g (by subst hg;rfl)
 | blk N t cs=>exact ⟨h.1,(hk N rfl).trans h.2⟩
 | row e m A n c vs =>
   refine ⟨h.1,?_⟩
   rcases h.2 with h1 | ⟨g,cap,cur,h1,h2,h3,r⟩
   ·exact .inl h1
   ·exact .inr ⟨g,cap,cur,h1,h2,by rw [hk g (by simp at h1;rw [h1.1];rfl)];exact h3,r⟩
 | obj N o=>exact ⟨h.1,(hk N rfl).trans h.2⟩
 | gone=>trivial
theorem IT.Holds.mono {base base' : Nat} {w : World} {it : IT} (h : it.Holds base w) (hb : base'<=base) : it.Holds base' w:=by
 cases it with
 | own k e A n c zs=>exact OWN.mono h hb
 | blk N t cs=>exact ⟨Nat.le_trans hb h.1,h.2⟩
 | row e m A n c vs =>
   refine ⟨h.1,?_⟩
   rcases h.2 with h1 | ⟨g,cap,cur,h1,h2,r⟩
   ·exact .inl h1
   ·exact .inr ⟨g,cap,cur,h1,by omega,r⟩
 | obj N o=>exact ⟨Nat.le_trans hb h.1,h.2⟩
 | gone=>trivial
structure SP (w0 w : World) (L : List IT) : Prop where
 bel : Below w0.heap.size w0 w
 all : ∀ (i : Nat) (it : IT),L[i]?=some it->it.Holds w0.heap.size w
 sep : ∀ (i j : Nat) (x y : IT) (g : Nat),L[i]?=some x->L[j]?=some y->x.at_=some g->y.at_=some g->i=j
section
variable {w0 w w' : World} {L : List IT} {k : IntKind} {e t : TypeId} {A : Option Addr} {n c N g i j : Nat} {zs ys : List Int} {cs : Array Value} {it it' : IT}
theorem SP.start (w : World) : SP w w []:=⟨Below.refl _ _,fun i it h=>by simp at h,fun i j x y g h=>by simp at h⟩
theorem SP.size (H : SP w0 w L) : w0.heap.size<=w.heap.size:=H.bel.size
theorem SP.next (H : SP w0 w L) (hb : Below w.heap.size w w') : SP w0 w' L :=
 ⟨H.bel.trans (hb.mono H.size),fun i it h=>(H.all i it h).keep fun g hg=>hb.block g ((H.all i it h).lt hg).2,H.sep⟩
theorem SP.drew (H : SP w0 w L) : SP w0 w.drew L:=H.next ((Below.refl _ w).drew)
theorem SP.drewN (H : SP w0 w L) (m : Nat) : SP w0 (w.drewN m) L:=H.next ⟨rfl,rfl,rfl,Nat.le_refl _,fun _ _=>rfl⟩
theorem SP.push (H : SP w0 w L) (hb : Below w.heap.size w w') (hh : it.Holds w.heap.size w') : SP w0 w' (L++[it]):=by
 have H':=H.next hb
 have hn : ∀ i x,(L++[it])[i]?=some x->L[i]?=some x∨(i=L.length∧x=it):=fun i x hx=>by
  rcases Nat.lt_or_ge i L.length with hl | hl
  ·rw [List.getElem?_append_left hl] at hx;exact .inl hx
  ·rw [List.getElem?_append_right hl] at hx
   have : i - L.length=0:=by
    rcases Nat.eq_zero_or_pos (i - L.length) with h | h
    ·exact h
    ·rw [List.getElem?_eq_none (by simp;omega)] at hx;cases hx
   rw [this] at hx
   simp at hx
   exact .inr ⟨by omega,hx.symm⟩
 refine ⟨H'.bel,fun i x hx=>?_,fun i j x y g hx hy gx gy=>?_⟩
 ·rcases hn i x hx with h | ⟨_,rfl⟩
  ·exact H'.all i x h
  ·exact hh.mono H.size
 ·rcases hn i x hx with h1 | ⟨h1,rfl⟩ <;> rcases hn j y hy with h2 | ⟨h2,rfl⟩
  ·exact H.sep i j x y g h1 h2 gx gy
  ·have:=((H.all i x h1).lt gx).2
   have:=(hh.lt gy).1
   omega
  ·have:=((H.all j y h2).lt gy).2
   have:=(hh.lt gx).1
   omega
  ·omega
theorem SP.pushOwn (H : SP w0 w L) (hb : Below w.heap.size w w') (hh : OWN k e w' w.heap.size A n c zs) : SP w0 w' (L++[.own k e A n c zs]):=H.push hb hh
theorem SP.alloc (H : SP w0 w L) (t : TypeId) (cs : Array Value) : SP w0 (w.alloc (.cells cs t)) (L++[.blk w.heap.size t cs]) :=
 H.push ((Below.refl _ w).alloc (Nat.le_refl _) _) ⟨Nat.le_refl _,BLOCK.new w t cs⟩
theorem SP.alloc' (H : SP w0 w L) (t : TypeId) (cs : Array Value) (hN : w.heap.size=N) : SP w0 (w.alloc (.cells cs t)) (L++[.blk N t cs]):=hN ▸ H.alloc t cs
theorem SP.allocI (H : SP w0 w L) (k : IntKind) (e : TypeId) (zs : List Int) (hm : zs.length<=maxLen) : SP w0 (w.alloc (.cells (zs.map (Value.int k)).toArray e)) (L++[.own k e (some ⟨w.heap.size,0,none⟩) zs.length zs.length zs]) :=
 H.push ((Below.refl _ w).alloc (Nat.le_refl _) _) (OWN.lit w k e w.heap.size zs (Nat.le_refl _) hm)
theorem SP.allocI' (H : SP w0 w L) (k : IntKind) (e : TypeId) (zs : List Int) (hm : zs.length<=maxLen) (hN : w.heap.size=N) : SP w0 (w.alloc (.cells (zs.map (Value.int k)).toArray e)) (L++[.own k e (some ⟨N,0,none⟩) zs.length zs.length zs]):=hN ▸ H.allocI k e zs hm
theorem SP.upd (H : SP w0 w L) (hi : L[i]?=some it) (hb : Below w0.heap.size w w') (hh : it'.Holds w0.heap.size w') (hat : it'.at_=it.at_∨∀ g,it'.at_=some g->w.heap.size<=g)
 (hf : ∀ b,b < w.heap.size->it.at_≠some b->w'.heap[b]?=w.heap[b]?) : SP w0 w' (L.set i it'):=by
 have hl : i < L.length:=(List.getElem?_eq_some_iff.1 hi).1
 have hn : ∀ j x,(L.set i it')[j]?=some x->(j=i∧x=it')∨(j≠i∧L[j]?=some x):=fun j x hx=>by
  by_cases hj : j=i
  ·subst hj
   rw [List.getElem?_set_self hl] at hx
   simp at hx
   exact .inl ⟨rfl,hx.symm⟩
  ·rw [List.getElem?_set_ne (fun h=>hj h.symm)] at hx
   exact .inr ⟨hj,hx⟩
 have hne : ∀ j x g,j≠i->L[j]?=some x->x.at_=some g->it.at_≠some g:=fun j x g hj hx gx gi=>hj (H.sep j i x it g hx hi gx gi)
 have hne' : ∀ j x g,j≠i->L[j]?=some x->x.at_=some g->it'.at_≠some g:=fun j x g hj hx gx gi=>by
  rcases hat with h | h
  ·exact hne j x g hj hx gx (h ▸ gi)
  ·have h1:=h g gi
   have h2:=((H.all j x hx).lt gx).2
   omega
 refine ⟨H.bel.trans hb,fun j x hx=>?_,fun j l x y g hx hy gx gy=>?_⟩
 ·rcases hn j x hx with ⟨_,rfl⟩ | ⟨hj,hx'⟩
  ·exact hh
  ·exact (H.all j x hx').keep fun g hg=>hf g ((H.all j x hx').lt hg).2 (hne j x g hj hx' hg)
 ·rcases hn j x hx with ⟨h1,rfl⟩ | ⟨h1,h1'⟩ <;> rcases hn l y hy with ⟨h2,rfl⟩ | ⟨h2,h2'⟩
  ·omega
  ·exact absurd gx (hne' l y g h2 h2' gy)
  ·exact absurd gy (hne' j x g h1 h1' gx)
  ·exact H.sep j l x y g h1' h2' gx gy
theorem SP.own (H : SP w0 w L) (i : Nat) (hi : L[i]?=some (.own k e A n c zs)) : OWN k e w w0.heap.size A n c zs:=H.all i _ hi
theorem SP.rd (H : SP w0 w L) (i : Nat) (hi : L[i]?=some (.own k e A n c zs)) : RD k w w.heap.size A n zs:=(H.own i hi).rd
theorem SP.blk (H : SP w0 w L) (i : Nat) (hi : L[i]?=some (.blk N t cs)) : BLOCK w N t cs:=(H.all i _ hi).2
theorem SP.ge (H : SP w0 w L) (i : Nat) (hi : L[i]?=some (.blk N t cs)) : w0.heap.size<=N:=(H.all i _ hi).1
theorem SP.cell (H : SP w0 w L) (i : Nat) (hi : L[i]?=some (.blk N t cs)) (j : Nat) {v : Value} (hv : cs[j]?=some v) : w.cell? ⟨N,j,none⟩=some v:=((H.blk i hi).cell j).trans hv
theorem SP.free (H : SP w0 w L) (i : Nat) (hi : L[i]?=some (.blk N t cs)) (j : Nat) : w.frozen? ⟨N,j,none⟩=false:=(H.blk i hi).free j
theorem SP.ne (H : SP w0 w L) (i j : Nat) {x y : IT} (hi : L[i]?=some x) (hj : L[j]?=some y) (hij : i≠j) {g : Nat} (gx : x.at_=some g) : y.at_≠some g:=fun gy=>hij (H.sep i j x y g hi hj gx gy)
theorem SP.setB (H : SP w0 w L) (i : Nat) (hi : L[i]?=some (.blk N t cs)) (j : Nat) (v : Value) : SP w0 (w.setCell ⟨N,j,none⟩ v) (L.set i (.blk N t (cs.setIfInBounds j v))) :=
 H.upd hi ((Below.refl _ w).setCell (p:=⟨N,j,none⟩) (H.ge i hi) v) ⟨H.ge i hi,(H.blk i hi).set j v⟩ (.inl rfl) fun b _ hb=>Below.heap_setCell w _ v b (fun h=>hb (by rw [h];rfl))
theorem SP.setO (H : SP w0 w L) (i : Nat) (hi : L[i]?=some (.own k e (some ⟨g,0,none⟩) n c zs)) (j : Nat) (x : Int) : SP w0 (w.setCell ⟨g,j,none⟩ (.int k x)) (L.set i (.own k e (some ⟨g,0,none⟩) n c (zs.set j x))) :=
 H.upd hi ((Below.refl _ w).setCell (p:=⟨g,j,none⟩) ((H.own i hi).lt g rfl).1 _) ((H.own i hi).stored j x) (.inl rfl) fun b _ hb=>Below.heap_setCell w _ _ b (fun h=>hb (by rw [h];rfl))
theorem SP.app {A' : Option Addr} {n' c' : Nat} (H : SP w0 w L) (i : Nat) (hi : L[i]?=some (.own k e A n c zs)) (h : APP k e w w' w0.heap.size A A' n n' c c' zs ys) : SP w0 w' (L.set i (.own k e A' n' c' ys)):=by
 refine H.upd hi (h.keepBelow (fun g hg=>((H.all i _ hi).lt hg).1) H.size) h.own ?_ fun b hlt hne=>?_
 ·rcases h.lies with ⟨h1,_⟩ | ⟨_,h1⟩
  ·exact .inl (by rw [h1];rfl)
  ·exact .inr fun g hg=>by rw [h1] at hg;simp [IT.at_] at hg;omega
 ·exact h.grown.block b hlt (fun h1=>hne h1.symm)
theorem SP.pick (H : SP w0 w L) (ix : List Nat) (hn : ix.Nodup) {L' : List IT} (hL : L'.map some=ix.map (fun x : Nat=>L[x]?)) : SP w0 w L':=by
 have h1 : ∀ (i : Nat) (x : IT),L'[i]?=some x->∃ j : Nat,ix[i]?=some j∧L[j]?=some x:=fun i x hx=>by
  have h2 : (L'.map some)[i]?=some (some x):=by rw [List.getElem?_map,hx];rfl
  rw [hL,List.getElem?_map] at h2
  rcases hj : ix[i]? with _ | j
  ·rw [hj] at h2;cases h2
  ·rw [hj] at h2;simp at h2;exact ⟨j,rfl,h2⟩
 refine ⟨H.bel,fun i x hx=>?_,fun i j x y g hx hy gx gy=>?_⟩
 ·obtain ⟨l,_,hl⟩:=h1 i x hx
  exact H.all l x hl
 ·obtain ⟨l,hl1,hl⟩:=h1 i x hx
  obtain ⟨m,hm1,hm⟩:=h1 j y hy
  have:=H.sep l m x y g hl hm gx gy
  subst this
  have e1:=List.getElem?_eq_some_iff.1 hl1
  have e2:=List.getElem?_eq_some_iff.1 hm1
  obtain ⟨l1,e1⟩:=e1
  obtain ⟨l2,e2⟩:=e2
  have h2:=List.pairwise_iff_getElem.1 hn
  rcases Nat.lt_trichotomy i j with h | h | h
  ·exact absurd (e1.trans e2.symm) (h2 i j l1 l2 h)
  ·exact h
  ·exact absurd (e2.trans e1.symm) (h2 j i l2 l1 h)
theorem SP.row (H : SP w0 w L) (i : Nat) {m : Nat} {vs : List Value} (hi : L[i]?=some (.row e m A n c vs)) : w.ownsRow w0.heap.size e m (.slice A n c) n vs:=H.all i _ hi
theorem SP.obj (H : SP w0 w L) (i : Nat) {o : Obj} (hi : L[i]?=some (.obj N o)) : w.heap[N]?=some o:=(H.all i _ hi).2
theorem SP.geo (H : SP w0 w L) (i : Nat) {o : Obj} (hi : L[i]?=some (.obj N o)) : w0.heap.size<=N:=(H.all i _ hi).1
theorem SP.allocO (H : SP w0 w L) (o : Obj) : SP w0 (w.alloc o) (L++[.obj w.heap.size o]) :=
 H.push ((Below.refl _ w).alloc (Nat.le_refl _) _) ⟨Nat.le_refl _,heap_alloc_new w _⟩
theorem SP.turn (H : SP w0 w L) (i : Nat) {o : Obj} (hi : L[i]?=some (.obj N o)) (o' : Obj) (hg : w.grownBy w' (some N)) (ho : w'.heap[N]?=some o') : SP w0 w' (L.set i (.obj N o')) :=
 H.upd hi ((Below.refl w0.heap.size w).grown hg H.size fun k e=>by cases e;exact H.geo i hi) ⟨H.geo i hi,ho⟩ (.inl rfl) fun b hb hne=>hg.block b hb (fun e=>hne (by rw [e];rfl))
theorem SP.pushRow (H : SP w0 w L) (e : TypeId) (m : Nat) : SP w0 w (L++[.row e m none 0 0 []]) :=
 H.push (Below.refl _ _) (World.ownsRow_nil _ _ _ _)
end
end Go.Proofs.YtljbfnabnkkfeaaGreat
namespace Go.Proofs.YtljbfnabnkkfeaaGreat
open Go.RowKit
theorem SP.setR {w0 w : World} {L : List IT} {N : Nat} {t : TypeId} {cs : Array Value} (H : SP w0 w L) (i : Nat) (hi : L[i]?=some (.blk N t cs)) (cs' : Array Value) : SP w0 (w.setRow N cs') (L.set i (.blk N t cs')) :=
 H.upd hi ⟨rfl,rfl,rfl,by simp,fun k hk=>setRow_other w N k cs' (by have:=H.ge i hi;omega)⟩ ⟨H.ge i hi,setRow_heap w N cs cs' t (0,0) (H.blk i hi)⟩ (.inl rfl) fun b _ hb=>setRow_other w N b cs' (fun h=>hb (by rw [h];rfl))
theorem step_store_row {P : Program} {w : World} {ops : Array Oper} {o : Oper} {a : Act} {K : Act->World->Prop} {Q : Exit->Act->World->Prop} {E : Prop} (hgd : o.guard=none) (ty : TypeId) (x y : Operand) (ho : o.op = .store ty x y)
 (g : Nat) (cells : Array Value) (hx : a.eval x = .pointer (some ⟨g,0,none⟩)) (hy : a.eval y = .agg cells)
 (t : TypeId) (old : Array Value) (hg : w.heap[g]?=some (.cells old t (0,0))) (hi : (P.info? ty).map (·.size)=some cells.size)
 (hold : old.size=cells.size) (h1 : cells.all (·.oneCell')=true)
 (h : K (a.put o.dst undef) (w.setRow g cells)) :
 if Region.wanted o (yielded ops a.tmps)=true then Oper.wp P o a w K Q else E:=by
 have hw : Region.wanted o (yielded ops a.tmps)=true:=by simp [Region.wanted,hgd]
 rw [if_pos hw]
 exact wp_store_row ty x y ho g cells hx hy t old hg hi hold h1 h
section
variable {P : Program} {ops : Array Oper} {Q : Exit->Act->World->Prop} {md : Region.Mode} {S : World->Prop}
theorem op_of_drop {i : Nat} {o : Oper} {tl : List Oper} (hd : ops.toList.drop i=o::tl) : ops[i]?=some o:=by
 have h:=congrArg (fun l=>l[0]?) hd
 simp only [List.getElem?_drop,Nat.add_zero,List.getElem?_cons_zero,Array.getElem?_toList] at h
 exact h
theorem take_lit {i : Nat} {oi : Oper} {tl : List Oper} {v : Value} {fuel : Nat} {listed : Array Bool} {a : Act} {w : World} (hd : ops.toList.drop i=oi::tl)
 (hs : Region.noSelect ops=true) (hf : Region.free md ops listed i=true) (hr : (Region.ready md ops listed).contains i=true)
 (hQ : ∀ c a w,Q (.panic c) (a.put oi.dst v) w->Q (.panic c) a w) (hy : YieldsIf P ops S oi v a) (hS : S w)
 (h : wpAnyH P md ops Q S fuel (listed.setIfInBounds i true) (a.put oi.dst v) w) : wpAnyH P md ops Q S (fuel + 1) listed a w :=
 wpAnyH_take (op_of_drop hd) hs hf hr hQ hy hS h
theorem tk {i : Nat} {oi : Oper} {tl : List Oper} {v : Value} {fuel : Nat} {listed : Array Bool} {a : Act} {w : World} (hd : ops.toList.drop i=oi::tl)
 (hy : ∀ w,S w->(execOp a.eval oi).run P w = .ok (.value v) w) (h : wpAnyH P md ops Q S fuel (listed.setIfInBounds i true) (a.put oi.dst v) w)
 (hg : Region.wanted oi (yielded ops a.tmps)=true:=by rfl) (hs : Region.noSelect ops=true:=by kernel_rfl) (hf : Region.free md ops listed i=true:=by kernel_rfl) (hr : (Region.ready md ops listed).contains i=true:=by kernel_rfl)
 (hQ : ∀ c a w,Q (.panic c) (a.put oi.dst v) w->Q (.panic c) a w:=by exact fun _ _ _ h=>h) (hS : S w:=by assumption) : wpAnyH P md ops Q S (fuel + 1) listed a w :=
 take_lit hd hs hf hr hQ (Or.inl ⟨hg,hy⟩) hS h
theorem jA {α : Type} (l : List α) (i : Nat) (a : α) : l.toArray.setIfInBounds i a=(l.set i a).toArray:=by simp
theorem jB {α : Type} (a b : α) (l : List α) : (a::l).set 0 b=b::l:=rfl
theorem jC {α : Type} (a b : α) (l : List α) (n : Nat) : (a::l).set (n + 1) b=a::l.set n b:=rfl
theorem rdy (rs : List Nat) {fuel : Nat} {listed : Array Bool} {a : Act} {w : World} (h : AllReadyH P md ops Q S fuel listed a w rs) (hr : Region.ready md ops listed=rs:=by kernel_rfl) (hne : rs≠[]:=by simp) : wpAnyH P md ops Q S (fuel + 1) listed a w:=wpAnyH_ready hr hne h
theorem cons_lit {fuel : Nat} {listed : Array Bool} {a : Act} {w : World} {i : Nat} {o : Oper} {tl : List Oper} {rs : List Nat} (hd : ops.toList.drop i=o::tl)
 (h : ∀ K' : Act->World->Prop,Shut (∀ a w,S w->(S w->wpAnyH P md ops Q S fuel (listed.setIfInBounds i true) a w)->K' a w)->if Region.wanted o (yielded ops a.tmps)=true then Oper.wp P o a w K' Q else K' (a.put o.dst undef) w)
 (hs : AllReadyH P md ops Q S fuel listed a w rs) : AllReadyH P md ops Q S fuel listed a w (i::rs):=AllReadyH.cons (op_of_drop hd) h hs
theorem exec_load_row {o : Oper} {a : Act} {w : World} (ty : TypeId) (x : Operand) (ho : o.op = .load ty x)
 (g : Nat) (hx : a.eval x = .pointer (some ⟨g,0,none⟩)) (t : TypeId) (cs : Array Value) (fr : Nat × Nat) (d : TypeDesc) (hg : w.heap[g]?=some (.cells cs t fr))
 (hu : P.underlying ty=some d) (hd : (match d with | .struct _ | .array _ _=>true | _=>false)=true) (hi : (P.info? ty).map (·.size)=some cs.size) :
 (execOp a.eval o).run P w = .ok (.value (.agg cs)) w:=by
 unfold execOp
 simp only [ho,hx,Instr.loadAt,Instr.sureAddr,Sem.run_bind,Sem.run_pure,Result.andThen_ok,run_loadVar_row w g t ty cs fr d hg hu hd hi]
end
end Go.Proofs.YtljbfnabnkkfeaaGreat
namespace Go.Proofs.YtljbfnabnkkfeaaGreat
open Go.RowKit
section
variable {P : Program}
end
end Go.Proofs.YtljbfnabnkkfeaaGreat
namespace Go.Proofs.YtljbfnabnkkfeaaGreat
open Go.RowKit Go.ChangeShapes Go.WideShapes
open Go.RowKit
structure SD where
 A : Option Addr
 n : Nat
 c : Nat
def SD.val (s : SD) : Value:=.slice s.A s.n s.c
def SD.at_ (s : SD) (g : Nat) : Prop:=s.A=some ⟨g,0,none⟩
def FAM (e : TypeId) (w : World) (base : Nat) (L : List SD) (Z : Nat->SD->List Int) : Prop:=∀ (j : Nat) (s : SD),L[j]?=some s->OWN .u8 e w base s.A s.n s.c (Z j s)
def BLK (L L2 : List SD) (j g : Nat) : Prop:=(∃ s,L[j]?=some s∧s.at_ g)∨(∃ s,L2[j]?=some s∧s.at_ g)
def LB (L : List SD) (b : Nat) : Prop:=∃ (j : Nat) (s : SD),L[j]?=some s∧s.at_ b
def SEP (L L2 : List SD) : Prop:=∀ (i j g : Nat),BLK L L2 i g->BLK L L2 j g->i=j
section
variable {e : TypeId} {w w' : World} {base : Nat} {L L2 : List SD} {Z Z' : Nat->SD->List Int}
theorem FAM.keep (h : FAM e w base L Z) (hk : ∀ (j : Nat) (s : SD) (g : Nat),L[j]?=some s->s.at_ g->w'.heap[g]?=w.heap[g]?) : FAM e w' base L Z :=
 fun j s hs=>(h j s hs).keep fun g hg=>hk j s g hs hg
theorem FAM.congr (h : FAM e w base L Z) (hz : ∀ (j : Nat) (s : SD),L[j]?=some s->Z j s=Z' j s) : FAM e w base L Z':=fun j s hs=>by rw [<- hz j s hs];exact h j s hs
theorem FAM.lt (h : FAM e w base L Z) {j g : Nat} {s : SD} (hs : L[j]?=some s) (hg : s.at_ g) : base<=g∧g < w.heap.size:=(h j s hs).lt g hg
theorem FAM.one (h : FAM e w base L Z) {k : Nat} {s : SD} (hs : L[k]?=some s) (ho : OWN .u8 e w' base s.A s.n s.c (Z' k s)) (hz : ∀ (j : Nat) (t : SD),j≠k->L[j]?=some t->Z j t=Z' j t)
 (hk : ∀ (j : Nat) (t : SD) (g : Nat),j≠k->L[j]?=some t->t.at_ g->w'.heap[g]?=w.heap[g]?) : FAM e w' base L Z':=fun j t ht=>by
 rcases Nat.decEq j k with hj | rfl
 ·rw [<- hz j t hj ht]
  exact (h j t ht).keep fun g hg=>hk j t g hj ht hg
 ·rw [hs] at ht
  injection ht with ht
  subst ht
  exact ho
theorem FAM.snoc (h : FAM e w base L Z) {s : SD} (ho : OWN .u8 e w base s.A s.n s.c (Z L.length s)) : FAM e w base (L++[s]) Z:=fun j t ht=>by
 rcases Nat.lt_trichotomy j L.length with hj | rfl | hj
 ·rw [List.getElem?_append_left hj] at ht;exact h j t ht
 ·simp at ht;subst ht;exact ho
 ·rw [List.getElem?_append_right (by omega)] at ht
  have : ([s] : List SD)[j - L.length]?=none:=List.getElem?_eq_none (by simp;omega)
  rw [this] at ht;cases ht
theorem OWN.ne_row {A : Option Addr} {n c : Nat} {zs : List Int} {g b : Nat} {t : TypeId} {cs : Array Value} (h : OWN .u8 e w base A n c zs) (hg : A=some ⟨g,0,none⟩) (hb : w.heap[b]?=some (.cells cs t (0,0))) (hne : e≠t) : g≠b:=by
 rintro rfl
 rcases h.2 with ⟨h1,_⟩ | ⟨g',cap,cur,h1,_,h3,_⟩
 ·subst hg;simp at h1
 ·subst hg
  simp at h1
  obtain ⟨rfl,rfl⟩:=h1
  rw [hb] at h3
  simp at h3
  exact hne h3.2.symm
end
structure BES (base : Nat) (X : Nat->Prop) (w w' : World) : Prop where
 bel : Below base w w'
 oth : ∀ b,b < w.heap.size -> ¬ X b->w'.heap[b]?=w.heap[b]?
section
variable {base : Nat} {X : Nat->Prop} {w w1 w2 : World}
theorem BES.refl (base : Nat) (X : Nat->Prop) (w : World) : BES base X w w:=⟨Below.refl _ _,fun _ _ _=>rfl⟩
theorem BES.size (h : BES base X w w1) : w.heap.size<=w1.heap.size:=h.bel.size
theorem BES.setCell (h : BES base X w w1) {p : Addr} (hp : base<=p.block) (hx : X p.block∨w.heap.size<=p.block) (v : Value) : BES base X w (w1.setCell p v) :=
 ⟨h.bel.setCell hp v,fun b hb hX=>(Below.heap_setCell _ _ _ _ (fun e=>by subst e;rcases hx with h1 | h1;exact hX h1;omega)).trans (h.oth b hb hX)⟩
theorem BES.drew (h : BES base X w w1) : BES base X w w1.drew:=⟨h.bel.drew,h.oth⟩
theorem BES.drewN (h : BES base X w w1) (q : Nat) : BES base X w (w1.drewN q):=⟨⟨h.bel.os,h.bel.tape,h.bel.output,h.bel.size,h.bel.block⟩,h.oth⟩
theorem BES.alloc (h : BES base X w w1) (hb : base<=w1.heap.size) (o : Obj) : BES base X w (w1.alloc o) :=
 ⟨h.bel.alloc hb o,fun b hb' hX=>(Below.heap_alloc _ _ _ (by have:=h.size;omega)).trans (h.oth b hb' hX)⟩
theorem BES.grown {row : Option Nat} (h : BES base X w w1) (hg : w1.grownBy w2 row) (hb : base<=w1.heap.size) (hr : ∀ g,row=some g->base<=g∧(X g∨w.heap.size<=g)) : BES base X w w2 :=
 ⟨h.bel.grown hg hb (fun g e=>(hr g e).1),fun b hb' hX=>(hg.block b (by have:=h.size;omega) (fun e=>by
  rcases (hr b e.symm).2 with h1 | h1
  ·exact hX h1
  ·omega)).trans (h.oth b hb' hX)⟩
end
end Go.Proofs.YtljbfnabnkkfeaaGreat
namespace Go.Proofs.YtljbfnabnkkfeaaGreat
open Go.RowKit
theorem bd_all {m : Int} {zs : List Int} (h : zs.all (fun x=>decide (0<=x∧x<=m))=true) : BD m zs:=fun x hx=>by
 have:=List.all_eq_true.1 h x hx
 simpa using this
def recOf (fn : FuncId) (a : Act) (ps : Array Tmp) (assign body : Code) (D : Nat) (st : LoopState) (pe : Option Code) : Loop :=
 { state:=st,pending:=pe,fn,tmps:=a.tmps,params:=ps,assign,body,defers:=D }
structure BOOK (rec : LoopState->Option Code->Loop) (D : Nat) (st : LoopState) (pe : Option Code) (W : World) : Prop where
 loop : W.heap[D + 1]?=some (.loop (rec st pe))
 dfr : W.heap[D]?=some (.deferred (some []))
section
variable {F : Fence} {m n D : Nat} {P : Program} {W W' w : World} {fn : FuncId} {a : Act} {ps : Array Tmp} {assign body : Code} {rec : LoopState->Option Code->Loop} {st st' : LoopState} {pe pe' : Option Code}
theorem BOOK.keep (h : BOOK rec D st pe W) (h1 : W'.heap[D + 1]?=W.heap[D + 1]?) (h2 : W'.heap[D]?=W.heap[D]?) : BOOK rec D st pe W':=⟨h1.trans h.loop,h2.trans h.dfr⟩
theorem BOOK.lt (h : BOOK rec D st pe W) : D + 1 < W.heap.size:=(Array.getElem?_eq_some_iff.1 h.loop).1
theorem BOOK.next (h : BOOK rec D st pe W) (hb : Below W.heap.size W W') : BOOK rec D st pe W' :=
 h.keep (hb.block _ h.lt) (hb.block _ (by have:=h.lt;omega))
theorem BOOK.setCell (h : BOOK rec D st pe W) {p : Addr} (h1 : p.block≠D) (h2 : p.block≠D + 1) (v : Value) : BOOK rec D st pe (W.setCell p v) :=
 h.keep (Below.heap_setCell W p v _ (fun e=>h2 e.symm)) (Below.heap_setCell W p v _ (fun e=>h1 e.symm))
theorem BOOK.put (h : BOOK rec D st pe W) : BOOK rec D st' pe' (W.putObj (D + 1) (.loop (rec st' pe'))) :=
 ⟨World.putObj_heap_same h.lt,(World.putObj_heap_other (by omega)).trans h.dfr⟩
def roundEnd (rec : LoopState->Option Code->Loop) (D : Nat) (R : Ending->World->Prop) : Exit->Act->World->Prop
 | .normal,_,W=>BOOK rec D .busy none W∧R (.returned (.bool true)) (W.putObj (D + 1) (.loop (rec .ready none)))
 | .ret,_,W=>BOOK rec D .busy none W∧R (.returned (.bool false)) (W.putObj (D + 1) (.loop (rec .done (some .ret))))
 | _,_,_=>False
theorem yield_of_round {args : Array Value} {R : Ending->World->Prop} (hfn : F.fn fn) (hb : BOOK (recOf fn a ps assign body D) D .ready none W) (hps : args.size=ps.size) (a₁ : Act)
 (hassign : ∀ (W : World) (K : Act->World->Prop),K a₁ W->assign.wpIn (F.inRound (D + 1)) m P (Exit.then K (fun _ _ _=>False)) { tmps:=(ps.zip args).foldl (fun t (p,v)=>t.setIfInBounds p v) a.tmps,defers:=[] } W)
 (hbody : BOOK (recOf fn a ps assign body D) D .busy none (W.putObj (D + 1) (.loop (recOf fn a ps assign body D .busy none))) ->
  body.wpIn (F.inRound (D + 1)) m P (roundEnd (recOf fn a ps assign body D) D R) a₁ (W.putObj (D + 1) (.loop (recOf fn a ps assign body D .busy none)))) :
 YieldAt F m P (D + 1) args W R:=by
 refine ⟨fn,_,assign,body,run_yield (P:=P) hb.loop hps,roundIn_of_wpIn hfn (hassign W _ ⟨_,run_beginRound hb.loop rfl,wpIn_mono (hbody hb.put) ?_⟩)⟩
 intro e a' W3 h
 cases e with
 | normal=>exact ⟨_,_,run_endRound none h.1.loop,h.2⟩
 | ret=>exact ⟨_,_,run_endRound (some .ret) h.1.loop,h.2⟩
 | exit id=>exact h.elim
 | goto t=>exact h.elim
 | panic c=>exact h.elim
 | outgrown=>exact h.elim
theorem wpIn_range_raw {g : Operand} {Q : Exit->Act->World->Prop} (hro : F.round=none) (h1 : F.depth.isSome=true->1<=n)
 {gf : Nat} {lb : Array Value} (hg : a.eval g = .func (.func gf) #[] lb) (hFg : F.fn gf) (eg : ∀ args w,(callFunc gf args).run P w = .ok (.enter gf args) w)
 (Dn Lf : World->Prop)
 (hcall : ∀ fn,F.fn fn->∀ W1,W1=(w.alloc (.deferred (some []))).alloc (.loop (recOf fn a ps assign body w.heap.size .ready none))->BOOK (recOf fn a ps assign body w.heap.size) w.heap.size .ready none W1 ->
  CallsIn F (n - 1) P gf (#[.func (.yield (w.heap.size + 1)) #[] #[]]++lb) W1 fun e W2=>(∃ v,e = .returned v) ∧
   ((BOOK (recOf fn a ps assign body w.heap.size) w.heap.size .ready none W2∧Dn W2)∨(BOOK (recOf fn a ps assign body w.heap.size) w.heap.size .done (some .ret) W2∧Lf W2)))
 (hdone : ∀ (W2 : World) (r r' : Loop),W2.heap[w.heap.size + 1]?=some (.loop r)->W2.heap[w.heap.size]?=some (.deferred (some []))->Dn W2 ->
  Q .normal { a with defers:={ target:=.collected w.heap.size,args:=#[] }::a.defers } (W2.putObj (w.heap.size + 1) (.loop r')))
 (hstop : ∀ (W2 : World) (r r' : Loop),W2.heap[w.heap.size + 1]?=some (.loop r)->W2.heap[w.heap.size]?=some (.deferred (some []))->Lf W2 ->
  Q .ret { a with defers:={ target:=.collected w.heap.size,args:=#[] }::a.defers } (W2.putObj (w.heap.size + 1) (.loop r'))) :
 (Code.rangeFunc g ps assign body).wpIn F n P Q a w:=by
 refine wpIn_rangeFunc fun fn hfn=>?_
 rw [hro]
 obtain ⟨W1,hW1⟩ : ∃ W1,W1=(w.alloc (.deferred (some []))).alloc (.loop (recOf fn a ps assign body w.heap.size .ready none)):=⟨_,rfl⟩
 have hb : BOOK (recOf fn a ps assign body w.heap.size) w.heap.size .ready none W1:=by
  rw [hW1]
  refine ⟨?_,(Below.heap_alloc _ _ _ (by simp)).trans (World.alloc_heap_new w _)⟩
  have:=World.alloc_heap_new (w.alloc (.deferred (some []))) (.loop (recOf fn a ps assign body w.heap.size .ready none))
  rwa [World.size_alloc] at this
 refine ⟨w.heap.size + 1,[{ target:=.collected w.heap.size,args:=#[] }],W1,{ target:=.fn (.func gf) lb,args:=#[.func (.yield (w.heap.size + 1)) #[] #[]] },W1,gf,
  #[.func (.yield (w.heap.size + 1)) #[] #[]]++lb,W1,?_,?_,?_,?_,h1,?_⟩
 ·rw [hW1];exact run_enterLoop_outer _ _ _ _ _
 ·simp only [resolve,hg]
  simp [go_sem]
 ·intro f' hf';simp [Target.leads] at hf';subst hf';exact hFg
 ·simp [invoke,go_sem,eg]
 ·refine (hcall fn hfn W1 hW1 hb).mono ?_
  rintro e W2 ⟨⟨v,rfl⟩,h | h⟩
  ·obtain ⟨hk,hd⟩:=h
   have hrun:=run_endLoop (P:=P) hk.loop (fun h=>by cases h)
   exact ⟨_,_,hrun,hdone W2 _ _ hk.loop hk.dfr hd⟩
  ·obtain ⟨hk,hd⟩:=h
   have hrun:=run_endLoop (P:=P) hk.loop (fun h=>by cases h)
   exact ⟨_,_,hrun,wpIn_ret (hstop W2 _ _ hk.loop hk.dfr hd)⟩
end
end Go.Proofs.YtljbfnabnkkfeaaGreat
