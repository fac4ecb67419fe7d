import Derived.Deep.MidRow
import Derived.Laws.BitsLemmas
import Derived.Laws.BitsAllLaws
import Derived.Outline
import Derived.Laws.CopyOwn
import Derived.Deep.RegionLaw
import Derived.Laws.MakeOwn
import Derived.Test.YtljbfnabnkkfeaaGreatSL03
set_option linter.unusedVariables false
set_option linter.unusedSimpArgs false
/- Joined by program: WSpR, FgSp, IpP, WIp2, WCopy, IpW, FgP, FgG. -/
namespace Go.Proofs.YtljbfnabnkkfeaaGreat
open Go.RowKit
theorem wpList_append_row1 {P : Program} (w : World) {ops : Array Oper} {rest : List Oper} {o : Oper} {a : Act} {Q : Exit->Act->World->Prop} (hgd : o.guard=none) (s x : Operand) (t : TypeId)
 (ho : o.op = .call { callee:=.builtin .append,args:=#[s,x],argTypes:=#[t,t] })
 (base : Nat) (e : TypeId) (i : TypeInfo) (z : Value) (size bytes : Nat) (ht : P.underlying t=some (.slice e)) (hi : P.info? e=some i) (hz : i.zero=some z)
 (hsize : i.size=size) (hby : i.bytes=bytes) (hzs : z.cells.size=size) (hsz : 0 < size)
 (A : Option Addr) (n c : Nat) (xs : List Value) (hs : a.eval s = .slice A n c) (hown : w.ownsRow base e size (.slice A n c) n xs)
 (ad : Addr) (m c2 : Nat) (news : List Value) (hx : a.eval x = .slice (some ad) m c2) (hl : news.length=m * size) (hnews : ∀ j u,news[j]?=some u->w.cell? (ad.add j)=some u) (h1 : ∀ u ∈ news,u.oneCell'=true)
 (h63 : n + m<=maxLen) (hbytes : (n + m) * bytes<=140737488355328) (hbase : base<=w.heap.size)
 (h : ∀ A' c' w',w'.ownsRow base e size (.slice A' (n + m) c') (n + m) (xs++news)->w.grownBy w' (A.map (·.block))->(A'.map (·.block)=A.map (·.block)∨A'.map (·.block)=some w.heap.size)->wpList P ops Q rest (a.put o.dst (.slice A' (n + m) c')) w') :
 wpList P ops Q (o::rest) a w:=by
 have blk : ∀ (A : Option Addr) (n c : Nat),Value.ownBlock (.slice A n c)=A.map (·.block):=fun A n c=>by cases A <;> rfl
 refine wpList_plain hgd fun K hK=>?_
 obtain ⟨v',w',hr,h2,h3,h4,h5⟩:=run_append_own_at (P:=P) w base t o.type e i z size bytes ht hi hz hsize hby hzs hsz (.slice A n c) n xs hown ad m c2 news hl hnews h1 h63 hbytes hbase
 obtain ⟨A',c',rfl⟩ : ∃ A' c',v' = .slice A' (n + m) c':=by
  rcases h2.2 with ⟨rfl,e0⟩ | ⟨g,cap,cur,rfl,_⟩
  ·exact ⟨none,0,by rw [e0]⟩
  ·exact ⟨_,_,rfl⟩
 rw [blk] at h3
 rw [blk,blk] at h5
 unfold Oper.wp execOp
 simp only [ho,resolve,invoke,builtin,Sem.run_bind,Sem.run_pure,Result.andThen_ok,List.map_toArray,List.map_cons,List.map_nil,hs,hx,hr]
 exact hK _ _ (h A' c' w' h2 h3 h5)
theorem SP.mapix {w0 w : World} {L L' : List IT} (H : SP w0 w L) (φ : Nat->Nat) (h : ∀ i x,L'[i]?=some x->L[φ i]?=some x) (hj : ∀ i j,i < L'.length->j < L'.length->φ i=φ j->i=j) : SP w0 w L':=by
 refine ⟨H.bel,fun i x hx=>H.all _ x (h i x hx),fun i j x y g hx hy gx gy=>?_⟩
 have e1:=(List.getElem?_eq_some_iff.1 hx).1
 have e2:=(List.getElem?_eq_some_iff.1 hy).1
 exact hj i j e1 e2 (H.sep _ _ x y g (h i x hx) (h j y hy) gx gy)
theorem SP.rot {w0 w : World} {L : List IT} {x : IT} (H : SP w0 w (L++[x])) : SP w0 w (x::L):=by
 refine H.mapix (fun i=>if i=0 then L.length else i - 1) (fun i y hy=>?_) (fun i j hi hj he=>?_)
 ·match i,hy with
  | 0,hy=>simp at hy ⊢;exact hy
  | i + 1,hy =>
    have h1 : L[i]?=some y:=by simpa using hy
    have:=(List.getElem?_eq_some_iff.1 h1).1
    simp only [Nat.add_one_ne_zero,if_false,Nat.add_sub_cancel]
    rw [List.getElem?_append_left this]
    exact h1
 ·simp at hi hj
  split at he <;> split at he <;> omega
theorem SP.tail {w0 w : World} {L : List IT} {x : IT} (H : SP w0 w (x::L)) : SP w0 w L :=
 H.mapix (fun i=>i + 1) (fun i y hy=>by simp;exact hy) (fun i j hi hj he=>by simp at he;exact he)
theorem one_new (w : World) (t : TypeId) (v : Value) (j : Nat) (x : Value) (hx : [v][j]?=some x) : (w.alloc (.cells #[v] t)).cell? ((⟨w.heap.size,0,none⟩ : Addr).add j)=some x:=by
 match j,hx with
 | 0,hx =>
   simp at hx;subst hx
   have hb : BLOCK (w.alloc (.cells #[v] t)) w.heap.size t #[v]:=BLOCK.new' w t _ rfl
   have:=hb.cell 0
   simp [Addr.add]
 | j + 1,hx=>simp at hx
theorem sp_apart_row {w wx : World} {L : List IT} (H : SP w wx L) (ix : List Nat) (D : List SD) (hD : SPD L ix D) (hn : ix.Nodup) (hm : D.length<=1000) (B : Option Addr) (N cB : Nat) (hN : N=D.length) (hB : LSR wx B D) :
 Calls Tryz.prog 18 #[.slice B N cB] wx fun e w'=>e = .returned (.bool true)∧Below w.heap.size wx w':=by
 subst hN
 have hw:=H.size
 refine (apartBytes_any B cB w.heap.size D (spZ L ix) _ hB ?_ ?_ hm ?_ hw).mono ?_
 ·intro j s hs
  obtain ⟨i,n,zs,h1,h2,h3,_⟩:=hD j s hs
  have ho:=(H.own i h2).cut h3
  have : spZ L ix j s=zs.take s.n:=by unfold spZ;rw [h1];simp [h2]
  rw [this]
  exact ho
 ·intro i j g hi hj
  rcases hi with ⟨s,hs,hg⟩ | ⟨s,hs,_⟩
  ·rcases hj with ⟨t,ht,hg'⟩ | ⟨t,ht,_⟩
   ·obtain ⟨a,_,_,a1,a2,_⟩:=hD i s hs
    obtain ⟨b,_,_,b1,b2,_⟩:=hD j t ht
    have e:=H.sep a b _ _ g a2 b2 (by show s.A.map (·.block)=some g;rw [hg];rfl) (by show t.A.map (·.block)=some g;rw [hg'];rfl)
    subst e
    obtain ⟨l1,e1⟩:=List.getElem?_eq_some_iff.1 a1
    obtain ⟨l2,e2⟩:=List.getElem?_eq_some_iff.1 b1
    have h2:=List.pairwise_iff_getElem.1 hn
    rcases Nat.lt_trichotomy i j with h | h | h
    ·exact absurd (e1.trans e2.symm) (h2 i j l1 l2 h)
    ·exact h
    ·exact absurd (e2.trans e1.symm) (h2 j i l2 l1 h)
   ·simp at ht
  ·simp at hs
 ·intro j s hs
  obtain ⟨_,_,_,_,_,_,h4⟩:=hD j s hs
  exact h4
 ·rintro e w' ⟨rfl,hb⟩
  exact ⟨rfl,hb⟩
def gIT (g : SD × List Int) : IT:=.own .u8 5 g.1.A g.1.n g.1.c g.2
def gV (g : SD × List Int) : Value:=g.1.val
theorem spd_row {L : List IT} (G : List (SD × List Int)) (k z : Nat) (hk : ∀ j g,G[j]?=some g->L[k + j]?=some (gIT g)) (hz : z < k) (hG : ∀ g ∈ G,g.1.n<=140737488351232) (s : SD) (n : Nat) (zs : List Int) (hs : L[z]?=some (.own .u8 5 s.A n s.c zs)) (hsn : s.n<=n) (hs2 : s.n<=140737488351232) :
 SPD L ((List.range G.length).map (k + ·)++[z]) (G.map (·.1)++[s])∧((List.range G.length).map (k + ·)++[z]).Nodup:=by
 constructor
 ·intro j t ht
  have hl:=(List.getElem?_eq_some_iff.1 ht).1
  simp at hl
  by_cases h : j < G.length
  ·rw [List.getElem?_append_left (by simpa using h),List.getElem?_map] at ht
   obtain ⟨g,hg,rfl⟩:=Option.map_eq_some_iff.1 ht
   refine ⟨k + j,g.1.n,g.2,?_,hk j g hg,Nat.le_refl _,hG g (List.mem_of_getElem? hg)⟩
   rw [List.getElem?_append_left (by simpa using h),List.getElem?_map,List.getElem?_range h]
   rfl
  ·obtain rfl : j=G.length:=by omega
   have e1 : (G.map (·.1)++[s])[G.length]?=some s:=by
    rw [List.getElem?_append_right (by simp)];simp
   rw [e1] at ht
   cases ht
   refine ⟨z,n,zs,?_,hs,hsn,hs2⟩
   rw [List.getElem?_append_right (by simp)];simp
 ·refine List.nodup_append.2 ⟨?_,by simp,?_⟩
  ·exact List.Pairwise.map _ (fun a b h=>by simpa using h) List.nodup_range
  ·intro a ha b hb
   simp at ha hb
   obtain ⟨i,_,rfl⟩:=ha
   omega
def IT.apart (x y : IT) : Prop:=∀ g,x.at_=some g->y.at_≠some g
theorem IT.apart.symm {x y : IT} (h : x.apart y) : y.apart x:=fun g hy hx=>h g hx hy
section
variable {w0 w w' : World} {L L' A B C : List IT} {x y : IT}
theorem SP.mem (H : SP w0 w L) : ∀ x ∈ L,x.Holds w0.heap.size w:=fun x hx=>by
 obtain ⟨i,hi,rfl⟩:=List.getElem_of_mem hx
 exact H.all i _ (List.getElem?_eq_getElem hi)
theorem SP.pw (H : SP w0 w L) : L.Pairwise IT.apart:=by
 rw [List.pairwise_iff_getElem]
 intro i j hi hj hij g gx gy
 have:=H.sep i j _ _ g (List.getElem?_eq_getElem hi) (List.getElem?_eq_getElem hj) gx gy
 omega
theorem SP.mk' (hb : Below w0.heap.size w0 w) (ha : ∀ x ∈ L,x.Holds w0.heap.size w) (hp : L.Pairwise IT.apart) : SP w0 w L:=by
 refine ⟨hb,fun i x hx=>ha x (List.mem_of_getElem? hx),fun i j x y g hx hy gx gy=>?_⟩
 obtain ⟨hi,rfl⟩:=List.getElem?_eq_some_iff.1 hx
 obtain ⟨hj,rfl⟩:=List.getElem?_eq_some_iff.1 hy
 rw [List.pairwise_iff_getElem] at hp
 rcases Nat.lt_trichotomy i j with h | h | h
 ·exact absurd gy (hp i j hi hj h g gx)
 ·exact h
 ·exact absurd gx (hp j i hj hi h g gy)
theorem SP.perm (H : SP w0 w L) (h : L.Perm L') : SP w0 w L' :=
 SP.mk' H.bel (fun x hx=>H.mem x (h.mem_iff.2 hx)) ((h.pairwise_iff (fun {a b}=>IT.apart.symm)).1 H.pw)
theorem SP.sub (H : SP w0 w L) (h : L'.Sublist L) : SP w0 w L' :=
 SP.mk' H.bel (fun x hx=>H.mem x (h.subset hx)) (H.pw.sublist h)
theorem SP.swap (H : SP w0 w (A++(B++C))) : SP w0 w (B++(A++C)) :=
 H.perm (by rw [<- List.append_assoc,<- List.append_assoc];exact List.perm_append_comm.append_right C)
theorem SP.comm (H : SP w0 w (A++B)) : SP w0 w (B++A):=H.perm List.perm_append_comm
theorem SP.right (H : SP w0 w (A++B)) : SP w0 w B:=H.sub (List.sublist_append_right _ _)
theorem SP.left (H : SP w0 w (A++B)) : SP w0 w A:=H.sub (List.sublist_append_left _ _)
theorem SP.ltm (H : SP w0 w L) (hx : x ∈ L) {g : Nat} (hg : x.at_=some g) : w0.heap.size<=g∧g < w.heap.size:=(H.mem x hx).lt hg
theorem SP.frontOf (H : SP w0 w (A++(x::C))) : SP w0 w (x::(A++C)):=H.perm List.perm_middle
theorem SP.backOf (H : SP w0 w (x::(A++C))) : SP w0 w (A++(x::C)):=H.perm List.perm_middle.symm
def setAll (cs : Array Value) : Nat->List Value->Array Value
 | _,[]=>cs
 | o,v::r=>setAll (cs.setIfInBounds o v) (o + 1) r
theorem SP.setM {N : Nat} {t : TypeId} : ∀ (vs : List Value) (o : Nat) {w : World} {L : List IT} {cs : Array Value} (H : SP w0 w L) (i : Nat) (hi : L[i]?=some (.blk N t cs)),SP w0 (w.setCells N o vs) (L.set i (.blk N t (setAll cs o vs)))
 | [],o,w,L,cs,H,i,hi=>by
   rw [show L.set i (.blk N t (setAll cs o []))=L from by
    apply List.ext_getElem?
    intro j
    by_cases hj : j=i
    ·subst hj;rw [List.getElem?_set_self (List.getElem?_eq_some_iff.1 hi).1];exact hi.symm
    ·rw [List.getElem?_set_ne (fun h=>hj h.symm)]]
   exact H
 | v::r,o,w,L,cs,H,i,hi=>by
   have H1:=H.setB i hi o v
   have hl:=(List.getElem?_eq_some_iff.1 hi).1
   have:=SP.setM r (o + 1) H1 i (List.getElem?_set_self hl)
   rw [List.set_set] at this
   exact this
theorem BLOCK.there {N : Nat} {t : TypeId} {cs : Array Value} (h : BLOCK w N t cs) (o n : Nat) (hn : o + n<=cs.size) : w.there N o n:=fun j hj=>by
 refine ⟨?_,h.free _⟩
 rw [h.cell,Array.getElem?_eq_getElem (by omega)]
 rfl
theorem BLOCK.range {N : Nat} {t : TypeId} {cs : Array Value} (h : BLOCK w N t cs) (o n : Nat) : w.rangeAt N o (cs.extract o (o + n)).toList:=World.rangeAt_of_block h o n
end
end Go.Proofs.YtljbfnabnkkfeaaGreat
namespace Go.Proofs.YtljbfnabnkkfeaaGreat
open Go.RowKit
structure HD where
 tos : Int
 id : Int
 df : Bool
 mf : Bool
 off : Int
 ttl : Int
 proto : Int
 src : Int
 dst : Int
def HD.zero : HD:=⟨0,0,false,false,0,0,0,0,0⟩
def HD.cells (h : HD) (o : Value) : Array Value:=#[.int .u8 h.tos,.int .u16 h.id,.bool h.df,.bool h.mf,.int .i64 h.off,.int .u8 h.ttl,.int .u8 h.proto,.int .u32 h.src,.int .u32 h.dst,o]
def HD.val (h : HD) (o : Value) : Value:=.agg (h.cells o)
structure HD.WF (h : HD) : Prop where
 tos : 0<=h.tos∧h.tos<=255
 id : 0<=h.id∧h.id<=65535
 off : -9223372036854775808<=h.off∧h.off<=9223372036854775807
 ttl : 0<=h.ttl∧h.ttl<=255
 proto : 0<=h.proto∧h.proto<=255
 src : 0<=h.src∧h.src<=4294967295
 dst : 0<=h.dst∧h.dst<=4294967295
theorem HD.WF.zero : HD.WF HD.zero:=⟨by simp [HD.zero],by simp [HD.zero],by simp [HD.zero],by simp [HD.zero],by simp [HD.zero],by simp [HD.zero],by simp [HD.zero]⟩
def Rightly (off : Int) (mf : Bool) (ol : Nat) (n : Int) : Prop:=off % 8=0∧0<=off∧off<=65528∧ol<=40∧ol % 4=0∧0<=n∧20 + (ol : Int) + n<=65535∧off + n<=65515∧(mf=true->0 < n∧n % 8=0)
instance (off : Int) (mf : Bool) (ol : Nat) (n : Int) : Decidable (Rightly off mf ol n):=by unfold Rightly;infer_instance
def rightB (off : Int) (mf : Bool) (ol : Nat) (n : Int) : Bool:=decide (Rightly off mf ol n)
theorem rightB_yes {off : Int} {mf : Bool} {ol : Nat} {n : Int} (h : Rightly off mf ol n) : rightB off mf ol n=true:=decide_eq_true h
theorem rightB_no {off : Int} {mf : Bool} {ol : Nat} {n : Int} (h : ¬ Rightly off mf ol n) : rightB off mf ol n=false:=decide_eq_false h
theorem rightB_iff {off : Int} {mf : Bool} {ol : Nat} {n : Int} : rightB off mf ol n=true ↔ Rightly off mf ol n:=decide_eq_true_iff
def byteAt (zs : List Int) (i : Nat) : Int:=zs[i]?.getD 0
def longAt (zs : List Int) (i : Nat) : Int:=wordAt zs i * 65536 + wordAt zs (i + 2)
theorem longAt_bd {zs : List Int} (h : BD 255 zs) (i : Nat) : 0<=longAt zs i∧longAt zs i<=4294967295:=by
 have h1:=wordAt_bd h i
 have h2:=wordAt_bd h (i + 2)
 unfold longAt;omega
def sizeR (zs : List Int) : Nat:=4 * (byteAt zs 0 % 16).toNat
def totalR (zs : List Int) : Nat:=(wordAt zs 2).toNat
def hdOf (zs : List Int) : HD where
 tos:=byteAt zs 1
 id:=wordAt zs 4
 df:=decide (wordAt zs 6 / 16384 % 2=1)
 mf:=decide (wordAt zs 6 / 8192 % 2=1)
 off:=8 * (wordAt zs 6 % 8192)
 ttl:=byteAt zs 8
 proto:=byteAt zs 9
 src:=longAt zs 12
 dst:=longAt zs 16
def optsOf (zs : List Int) : List Int:=(zs.drop 20).take (sizeR zs - 20)
theorem hdOf_wf {zs : List Int} (h : BD 255 zs) : (hdOf zs).WF:=by
 have b1:=h.get (by omega) 1
 have b2:=h.get (by omega) 8
 have b3:=h.get (by omega) 9
 have b4:=wordAt_bd h 4
 have b5:=longAt_bd h 12
 have b6:=longAt_bd h 16
 have b7:=wordAt_bd h 6
 exact ⟨b1,b4,by simp only [hdOf];omega,b2,b3,b5,b6⟩
def faultR (zs : List Int) : Nat :=
 if zs.length < 20 then 0
 else if byteAt zs 0 / 16≠4 then 1
 else if sizeR zs < 20∨zs.length < sizeR zs then 2
 else if totalR zs < sizeR zs∨zs.length < totalR zs then 3
 else if sumOf (zs.take (sizeR zs))≠65535 then 4
 else if 32768<=wordAt zs 6 then 5
 else if rightB (hdOf zs).off (hdOf zs).mf (sizeR zs - 20) ((totalR zs : Int) - sizeR zs)=false then 6
 else 7
def ipE (zs : List Int) : Int:=if faultR zs=7 then 0 else 50 + faultR zs
def hdR (zs : List Int) : HD:=if faultR zs=7 then hdOf zs else HD.zero
def optsR (zs : List Int) : List Int:=if faultR zs=7 then optsOf zs else []
def fromR (zs : List Int) : Nat:=if faultR zs=7 then sizeR zs else 0
def toR (zs : List Int) : Nat:=if faultR zs=7 then totalR zs else 0
theorem faultR_le (zs : List Int) : faultR zs<=7:=by
 unfold faultR
 repeat' split
 all_goals omega
theorem nat_and_pow (n i : Nat) : n &&& 2 ^ i=n / 2 ^ i % 2 * 2 ^ i:=by
 have hb : n.testBit i=decide (n / 2 ^ i % 2=1):=Nat.testBit_eq_decide_div_mod_eq
 rcases Nat.mod_two_eq_zero_or_one (n / 2 ^ i) with h | h
 ·rw [h] at hb ⊢
  apply Nat.eq_of_testBit_eq
  intro j
  rw [Nat.testBit_and,Nat.testBit_two_pow]
  by_cases e : i=j
  ·subst e;simp [hb]
  ·simp [e]
 ·rw [h] at hb ⊢
  apply Nat.eq_of_testBit_eq
  intro j
  rw [Nat.testBit_and,Nat.one_mul,Nat.testBit_two_pow]
  by_cases e : i=j
  ·subst e;simp [hb]
  ·simp [e]
theorem i64_and_one (a : Int) (h0 : 0<=a) (h1 : a < 65536) (i : Nat) (hi : i < 16) : bits .and .i64 a (2 ^ i)=a / 2 ^ i % 2 * 2 ^ i:=by
 obtain ⟨n,rfl⟩:=Int.eq_ofNat_of_zero_le h0
 have hw : ∀ n : Int,0<=n->n < 2 ^ 16->IntKind.i64.wrap n=n:=fun n h0 h1=>by rw [IntKind.wrap_i64];omega
 have hp : (2 : Nat) ^ i < 2 ^ 16:=Nat.pow_lt_pow_right (by omega) hi
 have:=(bits_nat .i64 16 (by decide) hw n (2 ^ i) (by omega) hp).1
 rw [show ((2 : Int) ^ i)=((2 ^ i : Nat) : Int) by simp,this]
 rw [nat_and_pow]
 simp
theorem i64_and_low (a : Int) (h0 : 0<=a) (h1 : a < 65536) (i : Nat) (hi : i<=16) : bits .and .i64 a (2 ^ i - 1)=a % 2 ^ i :=
 bits_mask .i64 16 (by decide) (fun n h0 h1=>by rw [IntKind.wrap_i64];omega) i hi a h0 (by omega)
theorem i64_or_byte (x y : Int) (hx0 : 0<=x) (hx : x<=255) (hy0 : 0<=y) (hy : y<=255) : bits .or .i64 (x * 256) y=x * 256 + y :=
 bits_join .i64 16 (by decide) (fun n h0 h1=>by rw [IntKind.wrap_i64];omega) 8 (x * 256) y (by omega) (by omega) (by omega) (by omega) (by omega) (by omega)
theorem u32_or_word (x y : Int) (hx0 : 0<=x) (hx : x<=65535) (hy0 : 0<=y) (hy : y<=65535) : bits .or .u32 (x * 65536) y=x * 65536 + y :=
 bits_join .u32 32 (by decide) (fun n h0 h1=>by rw [IntKind.wrap_u32];omega) 16 (x * 65536) y (by omega) (by omega) (by omega) (by omega) (by omega) (by omega)
set_option maxHeartbeats 1000000 in
set_option maxRecDepth 100000 in
theorem word_any (A : Option Addr) (n c : Nat) (zs : List Int) (q : Int) (p : Nat) (w : World) (h : RD .u8 w w.heap.size A n zs) (hz : BD 255 zs) (hn : n<=140737488355328) (hq : q=p) (hp : p + 2<=n) :
 Calls Tryz.prog 61 #[.slice A n c,.int .i64 q] w fun e w'=>e = .returned (.int .i64 (wordAt zs p))∧∃ m,w'=w.drewN m:=by
 subst hq
 obtain ⟨b,off,rfl,hb,hc⟩:=h.2 (by omega)
 have x1:=hc p (by omega)
 have x2:=hc (p + 1) (by omega)
 obtain ⟨z1,z1'⟩:=hz.get (by omega) p
 obtain ⟨z2,z2'⟩:=hz.get (by omega) (p + 1)
 have hw : wordAt zs p=zs[p]?.getD 0 * 256 + zs[p + 1]?.getD 0:=rfl
 rw [hw]
 generalize zs[p]?.getD 0=u at *
 generalize zs[p + 1]?.getD 0=v at *
 clear hc hw
 have i1 : (0 : Int)<=(p : Int):=by omega
 have i2 : (p : Int) < (n : Int):=by omega
 have i3 : (0 : Int)<=(p : Int) + 1:=by omega
 have i4 : (p : Int) + 1 < (n : Int):=by omega
 have e1 : IntKind.i64.wrap ((p : Int) + 1)=(p : Int) + 1:=IntWalk.i64_in _ (by omega)
 have e1' : ((p : Int) + 1).toNat=p + 1:=by omega
 have e2 : IntKind.i64.wrap (u * 256)=u * 256:=IntWalk.i64_in _ (by omega)
 have e3 : IntKind.i64.wrap u=u:=IntWalk.i64_in _ (by omega)
 have e4 : IntKind.i64.wrap v=v:=IntWalk.i64_in _ (by omega)
 have e5 : bits .or .i64 (u * 256) v=u * 256 + v:=i64_or_byte u v z1 z1' z2 z2'
 go_enter Tryz.func61,Tryz.ntmps61
 go_wp2_with fail
 go_quiet (fail)
 go_wp2_with fail
 go_ret
 exact ⟨rfl,_,rfl⟩
set_option maxHeartbeats 1000000 in
set_option maxRecDepth 100000 in
theorem long_any (A : Option Addr) (n c : Nat) (zs : List Int) (q : Int) (p : Nat) (w : World) (h : RD .u8 w w.heap.size A n zs) (hz : BD 255 zs) (hn : n<=140737488355328) (hq : q=p) (hp : p + 4<=n) :
 Calls Tryz.prog 91 #[.slice A n c,.int .i64 q] w fun e w'=>e = .returned (.int .u32 (longAt zs p))∧∃ m,w'=w.drewN m:=by
 subst hq
 obtain ⟨u1,u2⟩:=wordAt_bd hz p
 obtain ⟨v1,v2⟩:=wordAt_bd hz (p + 2)
 have e1 : IntKind.i64.wrap ((p : Int) + 2)=(p : Int) + 2:=IntWalk.i64_in _ (by omega)
 have e2 : IntKind.u32.wrap (wordAt zs p)=wordAt zs p:=u32_in _ (by omega) (by omega)
 have e3 : IntKind.u32.wrap (wordAt zs (p + 2))=wordAt zs (p + 2):=u32_in _ (by omega) (by omega)
 have e4 : IntKind.u32.wrap (wordAt zs p * 65536)=wordAt zs p * 65536:=u32_in _ (by omega) (by omega)
 have e5 : bits .or .u32 (wordAt zs p * 65536) (wordAt zs (p + 2))=wordAt zs p * 65536 + wordAt zs (p + 2):=u32_or_word _ _ u1 u2 v1 v2
 go_enter Tryz.func91,Tryz.ntmps91
 go_wp2_with fail
 refine (word_any A n c zs _ p w h hz hn rfl (by omega)).mono ?_
 rintro e w1 ⟨rfl,m,rfl⟩
 go_wp2_with fail
 refine (word_any A n c zs _ (p + 2) _ (h.drewN m) hz hn (by omega) (by omega)).mono ?_
 rintro e w1 ⟨rfl,m2,rfl⟩
 go_wp2_with fail
 go_ret
 exact ⟨rfl,_,rfl⟩
def putB (zs : List Int) (p : Nat) : Nat->Int->List Int
 | 0,_=>zs
 | s + 1,x=>putB (zs.set (p + s) (x % 256)) p s (x / 256)
theorem putB_len (p : Nat) : ∀ (s : Nat) (zs : List Int) (x : Int),(putB zs p s x).length=zs.length
 | 0,_,_=>rfl
 | s + 1,zs,x=>by rw [putB,putB_len p s];simp
set_option maxHeartbeats 1000000 in
set_option maxRecDepth 100000 in
theorem put_any (g n c base : Nat) (zs : List Int) (p s : Nat) (q r x : Int) (w : World) (h : OWN .u8 5 w base (some ⟨g,0,none⟩) n c zs) (hn : n<=140737488355328) (hq : q=p) (hr : r=s) (hp : p + s<=n) (hx : 0<=x) (hx' : x<=4294967295) :
 Calls Tryz.prog 22 #[.slice (some ⟨g,0,none⟩) n c,.int .i64 q,.int .i64 r,.int .u32 x] w fun e w'=>e = .returned (.tuple #[])∧OWN .u8 5 w' base (some ⟨g,0,none⟩) n c (putB zs p s x)∧Below g w w':=by
 subst hq hr
 go_enter Tryz.func22,Tryz.ntmps22
 go_wp2_with fail
 go_loopw [3,8] (fun vx i wr=>∃ (k : Nat) (v : Int) (ys : List Int),k<=s∧i = .int .i64 ((k : Int) - 1)∧vx = .int .u32 v∧0<=v∧v<=4294967295∧Hid (putB ys p k v=putB zs p s x)∧OWN .u8 5 wr base (some ⟨g,0,none⟩) n c ys∧Below g w wr) (fun _ i _=>(intOf i + 1).toNat)
 case atStart=>exact ⟨s,x,zs,Nat.le_refl _,rfl,rfl,hx,hx',Lib.hid rfl,h,Below.refl _ _⟩
 case round =>
  obtain ⟨k,v,ys,hk,rfl,rfl,v1,v2,HE,own,hb⟩:=hrel
  rcases Nat.eq_zero_or_pos k with h0 | h0
  ·subst h0
   have t1 : ¬ (0 : Int)<=(((0 : Nat) : Int) - 1):=by omega
   have OH:=Lib.hid own
   clear own h
   go_wp2_with fail
   go_end0
   exact ⟨rfl,by have:=HE.out;rw [<- this];exact OH.out,hb⟩
  ·obtain ⟨j,rfl⟩ : ∃ j,k=j + 1:=⟨k - 1,by omega⟩
   have ej : ((j + 1 : Nat) : Int) - 1=(j : Int):=by omega
   rw [ej]
   have i1 : (0 : Int)<=(j : Int):=by omega
   have x1:=own.cell (i:=p + j) (by omega)
   have x2:=own.frozen (p + j)
   have e2:=u8_mod v
   clear h0 ej h
   go_wp2_with fail
   go_roundw
   case rel=>exact ⟨j,v / 256,_,by omega,by go_num,rfl,by omega,by omega,HE,own.stored (p + j) (v % 256),hb.setCell (p:=⟨g,p + j,none⟩) (Nat.le_refl _) _⟩
   case measure=>simp [intOf]
def spliceZ (zs : List Int) (lo : Nat) (ys : List Int) : List Int:=zs.take lo++(ys++zs.drop (lo + ys.length))
section
variable {k : IntKind} {e : TypeId} {w w' : World} {base n c g lo : Nat} {zs ys : List Int}
theorem OWN.block (h : OWN k e w base (some ⟨g,0,none⟩) n c zs) : ∃ cur : Array Value,w.heap[g]?=some (.cells cur e (0,0))∧cur.size=c∧cur.toList.take n=zs.map (Value.int k)∧n<=c∧c<=maxLen∧base<=g:=by
 rcases h.2 with ⟨h1,_⟩ | ⟨g',cap,cur,h1,h2,h3,h4,h5,h6,h7⟩
 ·cases h1
 ·simp at h1
  obtain ⟨rfl,rfl⟩:=h1
  exact ⟨cur,h3,by omega,by simpa using h7,h4,h5,h2⟩
theorem OWN.of_block {cur : Array Value} (h : w.heap[g]?=some (.cells cur e (0,0))) (hs : cur.size=c) (ht : cur.toList.take n=zs.map (Value.int k)) (hn : n<=c) (hc : c<=maxLen) (hb : base<=g) : OWN k e w base (some ⟨g,0,none⟩) n c zs:=by
 have hl : (zs.map (Value.int k)).length=n:=by rw [<- ht];simp;omega
 exact ⟨by simpa using hl,.inr ⟨g,c,cur,rfl,hb,h,hn,hc,by omega,by simpa using ht⟩⟩
theorem OWN.spliced {cur : Array Value} (h : OWN k e w base (some ⟨g,0,none⟩) n c zs) (hcur : w.heap[g]?=some (.cells cur e (0,0))) (hfit : lo + ys.length<=n) (hw : w'.heap[g]?=some (.cells (splice cur.toList lo (ys.map (Value.int k))).toArray e (0,0))) :
 OWN k e w' base (some ⟨g,0,none⟩) n c (spliceZ zs lo ys):=by
 obtain ⟨cur',h1,h2,h3,h4,h5,h6⟩:=h.block
 rw [hcur] at h1
 simp only [Option.some.injEq,Obj.cells.injEq,and_true] at h1
 obtain rfl:=h1
 have hcl : cur.toList.length=c:=by simpa using h2
 refine OWN.of_block hw (by simp only [List.size_toArray];rw [length_splice _ _ _ (by simp;omega)];simpa using h2) ?_ h4 h5 h6
 rw [<- List.take_append_drop n cur.toList,h3]
 have hl : (zs.map (Value.int k)).length=n:=by rw [<- h3];simp;omega
 have hyl : (ys.map (Value.int k)).length=ys.length:=by simp
 have e1 : (zs.map (Value.int k)++cur.toList.drop n).take lo=(zs.map (Value.int k)).take lo:=List.take_append_of_le_length (by omega)
 have e2 : (zs.map (Value.int k)++cur.toList.drop n).drop (lo + (ys.map (Value.int k)).length)=(zs.map (Value.int k)).drop (lo + (ys.map (Value.int k)).length)++cur.toList.drop n:=List.drop_append_of_le_length (by omega)
 have e3 : splice (zs.map (Value.int k)++cur.toList.drop n) lo (ys.map (Value.int k))=splice (zs.map (Value.int k)) lo (ys.map (Value.int k))++cur.toList.drop n:=by
  unfold splice
  rw [e1,e2]
  simp only [List.append_assoc]
 rw [e3]
 show (splice (zs.map (Value.int k)) lo (ys.map (Value.int k))++cur.toList.drop n).take n=_
 rw [List.take_left' (by rw [length_splice _ _ _ (by omega)];exact hl)]
 unfold splice spliceZ
 simp [List.map_take,List.map_drop]
theorem step_copy_rd {P : Program} {ops : Array Oper} {o : Oper} {a : Act} {K : Act->World->Prop} {Q : Exit->Act->World->Prop} {E : Prop} (hgd : o.guard=none) (d s : Operand) (dT sT : TypeId)
 (ho : o.op = .call { callee:=.builtin .copy,args:=#[d,s],argTypes:=#[dT,sT] }) (hu : P.underlying dT=some (.slice e)) (hsz : (P.info? e).map (·.size)=some 1)
 (own : OWN k e w base (some ⟨g,0,none⟩) n c zs) (hlo : lo<=n) {D C : Nat} (hd : a.eval d = .slice (cutA (some ⟨g,0,none⟩) c lo) D C) (hD : D=n - lo)
 {A2 : Option Addr} {m c2 B : Nat} (hs : a.eval s = .slice A2 m c2) (hr : RD k w B A2 m ys) (hm : m<=n - lo)
 (h : ∀ w',OWN k e w' base (some ⟨g,0,none⟩) n c (spliceZ zs lo ys)->Below g w w'->K (a.put o.dst (goInt m)) w') :
 if Region.wanted o (yielded ops a.tmps)=true then Oper.wp P o a w K Q else E:=by
 subst hD
 obtain ⟨cur,h1,h2,h3,h4,h5,h6⟩:=own.block
 have hyl:=hr.1
 have hcl : (ys.map (Value.int k)).length=m:=by simpa using hyl
 refine step_copy_splice hgd d s dT sT ho e hu hsz _ _ _ _ _ _ hd hs g lo cur.toList e (by simpa using h1) (ys.map (Value.int k)) (by rw [hcl];exact (Nat.min_eq_left hm).symm) (fun h0=>?_) (by rw [hcl];simp;omega) (ints_oneCell k ys) g w (Below.refl _ _) (Nat.le_refl _) (fun w' H hb=>?_)
 ·rw [hcl] at h0
  refine ⟨?_,?_⟩
  ·unfold cutA
   rw [if_neg (by omega)]
   simp [Addr.add]
   omega
  ·obtain ⟨b,off,rfl,hb,hc⟩:=hr.2 h0
   refine ⟨_,rfl,fun j v hv=>?_⟩
   have hj : j < m:=by have:=(List.getElem?_eq_some_iff.1 hv).1;omega
   have hadd : (⟨b,off,none⟩ : Addr).add j=⟨b,off + j,none⟩:=by unfold Addr.add;split <;> simp_all
   rw [hadd,hc j hj,<- hv]
   simp [hyl,hj]
 ·rw [hcl]
  exact h w' (own.spliced h1 (by omega) H.out) hb
theorem run_make_cap {P : Program} (w : World) (t : TypeId) (i : TypeInfo) (ht : P.underlying t=some (.slice e)) (hi : P.info? e=some i) (hz : i.zero=some (.int k 0)) (hs : i.size=1) (hby : i.bytes<=8) (l q : Int) (n c : Nat) (hl : l=n) (hq : q=c) (hnc : n<=c) (hc : c<=35184372088832) :
 ∃ w',(Instr.makeSlice t (.int .i64 l) (.int .i64 q)).run P w = .ok (.slice (some ⟨w.heap.size,0,none⟩) n c) w'∧OWN k e w' w.heap.size (some ⟨w.heap.size,0,none⟩) n c (List.replicate n 0)∧Below w.heap.size w w'∧w'.heap.size=w.heap.size + 1:=by
 subst hl hq
 have hb : (i.bytes : Int) * (c : Int)<=281474976710656:=by
  have : i.bytes * c<=8 * c:=Nat.mul_le_mul_right c hby
  have h2 : ((i.bytes * c : Nat) : Int)<=281474976710656:=by omega
  rwa [Int.natCast_mul] at h2
 have hr:=run_make (P:=P) w t e i (.int k 0) ht hi hz .i64 .i64 n c (by omega) (by omega) hb (by omega)
 simp only [Int.toNat_natCast] at hr
 refine ⟨_,hr,?_,(Below.refl _ _).alloc (Nat.le_refl _) _,by simp⟩
 have e1 : madeCells (Value.cells (.int k 0)) (c * i.size)=(List.replicate c (Value.int k 0)).toArray:=by
  rw [hs,Nat.mul_one]
  apply Array.toList_inj.1
  exact toList_madeCells_one _ _
 refine OWN.of_block (heap_alloc_new w _) (by rw [e1];simp) ?_ hnc (by simp only [maxLen];omega) (Nat.le_refl _)
 rw [e1]
 simp [List.take_replicate,Nat.min_eq_left hnc]
end
end Go.Proofs.YtljbfnabnkkfeaaGreat
namespace Go.Proofs.YtljbfnabnkkfeaaGreat
open Go.RowKit
def flagsW (h : HD) : Int:=h.off / 8 + (if h.df then 16384 else 0) + (if h.mf then 8192 else 0)
def head20 (h : HD) (size : Nat) (L : Nat) : List Int :=
 [64 + (size : Int) / 4,h.tos,((size : Int) + L) / 256 % 256,((size : Int) + L) % 256,h.id / 256 % 256,h.id % 256,flagsW h / 256 % 256,flagsW h % 256,h.ttl,h.proto,0,0,
  h.src / 256 / 256 / 256 % 256,h.src / 256 / 256 % 256,h.src / 256 % 256,h.src % 256,h.dst / 256 / 256 / 256 % 256,h.dst / 256 / 256 % 256,h.dst / 256 % 256,h.dst % 256]
def headB (h : HD) (opts : List Int) (L : Nat) : List Int:=head20 h (20 + opts.length) L++opts
def pktB (h : HD) (opts data : List Int) : List Int:=fixOf (headB h opts data.length) 10++data
theorem head20_len (h : HD) (s L : Nat) : (head20 h s L).length=20:=rfl
theorem headB_len (h : HD) (opts : List Int) (L : Nat) : (headB h opts L).length=20 + opts.length:=by simp [headB,head20_len]
theorem flagsW_bd {h : HD} {ol : Nat} {n : Int} (hr : Rightly h.off h.mf ol n) : 0<=flagsW h∧flagsW h<=32767:=by
 obtain ⟨h1,h2,h3,_⟩:=hr
 unfold flagsW
 split <;> split <;> omega
theorem headB_bd {h : HD} {opts : List Int} {L : Nat} (hw : h.WF) (ho : BD 255 opts) (hl : opts.length<=40) : BD 255 (headB h opts L):=by
 refine BD.append ?_ ho
 have h1:=hw.tos
 have h2:=hw.ttl
 have h3:=hw.proto
 intro x hx
 simp only [head20,List.mem_cons,List.not_mem_nil,or_false] at hx
 rcases hx with rfl | rfl | rfl | rfl | rfl | rfl | rfl | rfl | rfl | rfl | rfl | rfl | rfl | rfl | rfl | rfl | rfl | rfl | rfl | rfl <;> omega
def made20 (h : HD) (ol L : Nat) : List Int :=
 putB (putB (putB (putB (putB ((((List.replicate (20 + ol) 0).set 0 (64 + ((20 + ol : Nat) : Int) / 4)).set 1 h.tos).set 8 h.ttl |>.set 9 h.proto) 2 2 (((20 + ol : Nat) : Int) + L)) 4 2 h.id) 6 2 (flagsW h)) 12 4 h.src) 16 4 h.dst
theorem made20_eq (h : HD) (opts : List Int) (L : Nat) : spliceZ (made20 h opts.length L) 20 opts=headB h opts L:=by
 have e : made20 h opts.length L=head20 h (20 + opts.length) L++List.replicate opts.length 0:=by
  unfold made20
  rw [show List.replicate (20 + opts.length) (0 : Int)=[0,0,0,0,0,0,0,0,0,0,0,0,0,0,0,0,0,0,0,0]++List.replicate opts.length 0 from List.replicate_append_replicate.symm]
  simp [putB,head20]
 rw [e]
 unfold spliceZ headB
 rw [List.take_left' (head20_len h _ _),List.drop_eq_nil_of_le (by simp [head20_len]),List.append_nil]
theorem i64_or_64 (x : Int) (h0 : 0<=x) (h1 : x<=15) : bits .or .i64 64 x=64 + x :=
 bits_join .i64 16 (by decide) (fun n h0 h1=>by rw [IntKind.wrap_i64];omega) 4 64 x (by omega) (by omega) (by omega) (by omega) (by omega) (by omega)
theorem u32_or_df (x : Int) (h0 : 0<=x) (h1 : x<=8191) : bits .or .u32 x 16384=x + 16384:=by
 have:=bits_join .u32 32 (by decide) (fun n h0 h1=>by rw [IntKind.wrap_u32];omega) 14 16384 x (by omega) (by omega) (by omega) (by omega) (by omega) (by omega)
 rw [show bits .or .u32 x 16384=bits .or .u32 16384 x by simp [bits,BitVec.or_comm],this];omega
theorem u32_or_mf (x : Int) (h0 : 0<=x) (h1 : x<=8191) (b : Bool) : bits .or .u32 (x + if b then 16384 else 0) 8192=x + (if b then 16384 else 0) + 8192:=by
 obtain ⟨n,rfl⟩:=Int.eq_ofNat_of_zero_le h0
 cases b
 ·have:=bits_join .u32 32 (by decide) (fun n h0 h1=>by rw [IntKind.wrap_u32];omega) 13 8192 n (by omega) (by omega) (by omega) (by omega) (by omega) (by omega)
  simp only [Bool.false_eq_true,if_false,Int.add_zero]
  rw [show bits .or .u32 (n : Int) 8192=bits .or .u32 8192 n by simp [bits,BitVec.or_comm],this];omega
 ·simp only [if_true]
  have hb:=(bits_nat .u32 32 (by decide) (fun n h0 h1=>by rw [IntKind.wrap_u32];omega) (n + 16384) 8192 (by omega) (by omega)).2
  rw [show ((n : Int) + 16384)=((n + 16384 : Nat) : Int) by simp,show (8192 : Int)=((8192 : Nat) : Int) from rfl,hb]
  have e1 : n + 16384=2 ^ 14 * 1 + n:=by omega
  have e2 : n + 16384 ||| 8192=n + 16384 + 8192:=by
   have h2 : (n + 16384) ||| 8192=(n ||| 8192) + 16384:=by
    have a1 : (16384 ||| n)=16384 + n:=by have:=(Nat.two_pow_add_eq_or_of_lt (show n < 2 ^ 14 by omega) 1).symm;simpa using this
    have a2 : (16384 ||| (n ||| 8192))=16384 + (n ||| 8192):=by
     have:=(Nat.two_pow_add_eq_or_of_lt (show n ||| 8192 < 2 ^ 14 from Nat.or_lt_two_pow (by omega) (by omega)) 1).symm
     simpa using this
    rw [Nat.add_comm n,<- a1,Nat.or_assoc,a2,Nat.add_comm]
   have h3 : (8192 ||| n)=8192 + n:=by have:=(Nat.two_pow_add_eq_or_of_lt (show n < 2 ^ 13 by omega) 1).symm;simpa using this
   rw [h2,Nat.or_comm,h3];omega
  rw [e2];omega
structure FR where
 h : HD
 o : List Int
 d : List Int
def FR.b (f : FR) : Nat:=f.h.off.toNat
def FR.e (f : FR) : Nat:=f.b + f.d.length
structure AG where
 src : Int
 dst : Int
 proto : Int
 id : Int
 begin_ : Int
 total : Int
 dead : Bool
 h : HD
 o : List Int
 ps : List (Nat × List Int)
def pe (p : Nat × List Int) : Nat:=p.1 + p.2.length
def bytesP (ps : List (Nat × List Int)) : Nat:=(ps.map (fun p=>p.2.length)).sum
theorem bytesP_cons (p : Nat × List Int) (ps : List (Nat × List Int)) : bytesP (p::ps)=p.2.length + bytesP ps:=by simp [bytesP]
def dies1 (total : Int) (mf : Bool) (e : Nat) : Bool:=(!mf && decide (0<=total)) || (decide (0<=total) && decide (total < (e : Int)))
def dies2 (mf : Bool) (b e : Nat) (p : Nat × List Int) : Bool:=(decide (p.1 < e) && decide (b < pe p)) || (!mf && decide (e < pe p))
def diesG (g : AG) (f : FR) : Bool:=dies1 g.total f.h.mf f.e || g.ps.any (dies2 f.h.mf f.b f.e)
def putG (g : AG) (f : FR) : AG :=
 { g with ps:=if f.d=[] then g.ps else g.ps++[(f.b,f.d)],total:=if f.h.mf then g.total else (f.e : Int),h:=if f.b=0 then { f.h with mf:=false } else g.h,o:=if f.b=0 then f.o else g.o }
def doneG (g : AG) : Bool:=decide (0<=g.total) && decide ((bytesP g.ps : Int)=g.total)
def okG (g : AG) : Bool:=!doneG g || rightB g.h.off g.h.mf g.o.length g.total
def addG (g : AG) (f : FR) : Option AG:=if diesG g f then none else if okG (putG g f) then some (putG g f) else none
def splice (zs : List Int) (p : Nat × List Int) : List Int:=zs.take p.1++(p.2.take (zs.length - p.1)++zs.drop (p.1 + p.2.length))
def asmP (n : Nat) (ps : List (Nat × List Int)) : List Int:=ps.foldl splice (List.replicate n 0)
def deadG (g : AG) : AG:={ g with total:=0,dead:=true,h:=HD.zero,o:=[],ps:=[] }
structure AT where
 limit : Int
 life : Int
 now : Int
 gs : List AG
def overG (life now : Int) (g : AG) : Bool:=decide (g.begin_ + life<=now)
def passA (T : AT) (now : Int) : AT:={ T with now:=now,gs:=T.gs.dropWhile (overG T.life now) }
def sameK (h : HD) (g : AG) : Bool:=g.src == h.src && (g.dst == h.dst && (g.proto == h.proto && g.id == h.id))
def newG (now : Int) (h : HD) : AG:=⟨h.src,h.dst,h.proto,h.id,now,-1,false,HD.zero,[],[]⟩
def ofA (T : AT) (h : HD) : List AG × Nat :=
 match T.gs.findIdx? (sameK h) with
 | some k=>(T.gs,k)
 | none=>((if (T.gs.length : Int)=T.limit then T.gs.tail else T.gs)++[newG T.now h],(if (T.gs.length : Int)=T.limit then T.gs.tail else T.gs).length)
def frOf (zs : List Int) : FR:=⟨hdOf zs,optsOf zs,(zs.drop (sizeR zs)).take (totalR zs - sizeR zs)⟩
def addA (gs : List AG) (k : Nat) (f : FR) : List AG × List Int × Int :=
 match gs[k]? with
 | none=>(gs,[],0)
 | some g =>
   if g.dead then (gs,[],71)
   else match addG g f with
    | none=>(gs.set k (deadG g),[],71)
    | some g'=>if doneG g' then (gs.eraseIdx k,pktB g'.h g'.o (asmP g'.total.toNat g'.ps),0) else (gs.set k g',[],0)
def lateA (T : AT) (now : Int) : Bool:=decide (now < T.now) || decide (1099511627776 < now)
def putA (T : AT) (now : Int) (zs : List Int) : AT × List Int × Int :=
 if lateA T now then (T,[],70)
 else if faultR zs≠7 then (T,[],ipE zs)
 else if (hdOf zs).mf=false∧(hdOf zs).off=0 then (passA T now,zs.take (totalR zs),0)
 else let r:=addA (ofA (passA T now) (hdOf zs)).1 (ofA (passA T now) (hdOf zs)).2 (frOf zs)
  ({ passA T now with gs:=r.1 },r.2.1,r.2.2)
def tickA (T : AT) (now : Int) : AT × Int:=if lateA T now then (T,70) else (passA T now,0)
def apartP (p q : Nat × List Int) : Prop:=pe p<=q.1∨pe q<=p.1
theorem apartP.symm {p q : Nat × List Int} (h : apartP p q) : apartP q p:=h.elim .inr .inl
structure GOKP (ps : List (Nat × List Int)) : Prop where
 ne : ∀ p ∈ ps,0 < p.2.length
 le : ∀ p ∈ ps,pe p<=65515
 bd : ∀ p ∈ ps,BD 255 p.2
 pw : ps.Pairwise apartP
structure GOK (g : AG) : Prop where
 src : 0<=g.src∧g.src<=4294967295
 dst : 0<=g.dst∧g.dst<=4294967295
 proto : 0<=g.proto∧g.proto<=255
 id : 0<=g.id∧g.id<=65535
 beg : 0<=g.begin_∧g.begin_<=1099511627776
 tot : -1<=g.total∧g.total<=65515
 hd : g.h.WF
 op : BD 255 g.o∧g.o.length<=40
 ps : GOKP g.ps
 in_ : 0<=g.total->∀ p ∈ g.ps,(pe p : Int)<=g.total
def ind (p : Nat × List Int) (x : Nat) : Nat:=if p.1<=x∧x < pe p then 1 else 0
def cov (ps : List (Nat × List Int)) (x : Nat) : Nat:=(ps.map (fun p=>ind p x)).sum
theorem cov_nil (x : Nat) : cov [] x=0:=rfl
theorem cov_cons (p : Nat × List Int) (ps : List (Nat × List Int)) (x : Nat) : cov (p::ps) x=ind p x + cov ps x:=by simp [cov]
def upsum (f : Nat->Nat) : Nat->Nat
 | 0=>0
 | n + 1=>upsum f n + f n
theorem upsum_add (f g : Nat->Nat) : ∀ n,upsum (fun x=>f x + g x) n=upsum f n + upsum g n
 | 0=>rfl
 | n + 1=>by simp only [upsum];rw [upsum_add f g n];omega
theorem upsum_ind (p : Nat × List Int) : ∀ n,upsum (ind p) n=if n<=p.1 then 0 else if n<=pe p then n - p.1 else p.2.length
 | 0=>by simp [upsum]
 | n + 1=>by
   simp only [upsum]
   rw [upsum_ind p n]
   unfold ind pe
   repeat' split
   all_goals omega
theorem upsum_zero : ∀ n,upsum (fun _=>0) n=0
 | 0=>rfl
 | n + 1=>by simp only [upsum];rw [upsum_zero n]
theorem upsum_cov : ∀ (ps : List (Nat × List Int)) (n : Nat),(∀ p ∈ ps,pe p<=n)->upsum (cov ps) n=bytesP ps
 | [],n,_=>by
   have : cov []=fun _=>0:=by funext x;rfl
   rw [this,upsum_zero];rfl
 | p::ps,n,h=>by
   have : cov (p::ps)=fun x=>ind p x + cov ps x:=by funext x;exact cov_cons p ps x
   rw [this,upsum_add,upsum_cov ps n (fun q hq=>h q (by simp [hq])),upsum_ind,bytesP_cons]
   have h1:=h p (by simp)
   unfold pe at *
   repeat' split
   all_goals omega
theorem cov_zero {ps : List (Nat × List Int)} {x : Nat} (h : ∀ p ∈ ps,¬ (p.1<=x∧x < pe p)) : cov ps x=0:=by
 induction ps with
 | nil=>rfl
 | cons p ps ih =>
   rw [cov_cons,ih (fun q hq=>h q (by simp [hq]))]
   have:=h p (by simp)
   unfold ind;rw [if_neg this]
theorem cov_le : ∀ {ps : List (Nat × List Int)},ps.Pairwise apartP->∀ x,cov ps x<=1
 | [],_,x=>by rw [cov_nil];omega
 | p::ps,h,x=>by
   obtain ⟨h1,h2⟩:=List.pairwise_cons.1 h
   rw [cov_cons]
   by_cases hp : p.1<=x∧x < pe p
   ·rw [cov_zero (fun q hq hx=>by rcases h1 q hq with h3 | h3 <;> omega)]
    unfold ind;rw [if_pos hp];omega
   ·have:=cov_le h2 x
    unfold ind;rw [if_neg hp];omega
theorem upsum_le {f : Nat->Nat} (h : ∀ x,f x<=1) : ∀ n,upsum f n<=n
 | 0=>Nat.le_refl _
 | n + 1=>by simp only [upsum];have:=upsum_le h n;have:=h n;omega
theorem upsum_full {f : Nat->Nat} (h : ∀ x,f x<=1) : ∀ n,upsum f n=n->∀ x,x < n->f x=1
 | 0,_,x,hx=>by omega
 | n + 1,e,x,hx=>by
   simp only [upsum] at e
   have h1:=upsum_le h n
   have h2:=h n
   by_cases hn : x=n
   ·subst hn;omega
   ·exact upsum_full h n (by omega) x (by omega)
theorem bytesP_le {ps : List (Nat × List Int)} {n : Nat} (hp : ps.Pairwise apartP) (hn : ∀ p ∈ ps,pe p<=n) : bytesP ps<=n:=by
 rw [<- upsum_cov ps n hn];exact upsum_le (cov_le hp) n
theorem length_le_bytesP : ∀ {ps : List (Nat × List Int)},(∀ p ∈ ps,0 < p.2.length)->ps.length<=bytesP ps
 | [],_=>by simp [bytesP]
 | p::ps,h=>by
   have h1:=h p (by simp)
   have h2:=length_le_bytesP (ps:=ps) (fun q hq=>h q (List.mem_cons_of_mem _ hq))
   rw [bytesP_cons,List.length_cons];omega
theorem GOKP.bytes {ps : List (Nat × List Int)} (h : GOKP ps) : bytesP ps<=65515:=bytesP_le h.pw h.le
theorem GOKP.len {ps : List (Nat × List Int)} (h : GOKP ps) : ps.length<=65515:=Nat.le_trans (length_le_bytesP h.ne) h.bytes
theorem GOKP.nil : GOKP []:=⟨(fun p h=>by cases h),(fun p h=>by cases h),(fun p h=>by cases h),List.Pairwise.nil⟩
structure FOK (f : FR) : Prop where
 wf : f.h.WF
 off : 0<=f.h.off∧f.h.off % 8=0∧f.h.off<=65528
 op : BD 255 f.o∧f.o.length<=40
 bd : BD 255 f.d
 e : f.e<=65515
 mf : f.h.mf=true->0 < f.d.length∧f.d.length % 8=0
theorem FOK.b {f : FR} (h : FOK f) : (f.b : Int)=f.h.off:=by unfold FR.b;have:=h.off;omega
theorem putG_ok {g : AG} {f : FR} (h : GOK g) (hf : FOK f) (hd : diesG g f=false) : GOK (putG g f):=by
 unfold diesG at hd
 simp only [Bool.or_eq_false_iff,List.any_eq_false] at hd
 obtain ⟨hd1,hd2⟩:=hd
 have hdp : ∀ p ∈ g.ps,¬ (p.1 < f.e∧f.b < pe p)∧(f.h.mf=false->pe p<=f.e):=fun p hp=>by
  have:=hd2 p hp
  unfold dies2 at this
  simp only [Bool.or_eq_true,Bool.and_eq_true,decide_eq_true_eq,Bool.not_eq_true',not_or] at this
  exact ⟨this.1,fun hm=>by have:=this.2;simp only [hm,true_and] at this;omega⟩
 unfold dies1 at hd1
 simp only [Bool.or_eq_false_iff,Bool.and_eq_false_iff,decide_eq_false_iff_not,Bool.not_eq_false'] at hd1
 have he:=hf.e
 have ho:=hf.off
 have hps : GOKP (putG g f).ps:=by
  unfold putG
  simp only
  split
  ·exact h.ps
  ·rename_i hne
   have hl : 0 < f.d.length:=by cases hq : f.d with
    | nil=>exact absurd hq hne
    | cons a r=>simp
   refine ⟨fun p hp=>?_,fun p hp=>?_,fun p hp=>?_,List.pairwise_append.2 ⟨h.ps.pw,List.pairwise_singleton _ _,fun p hp q hq=>?_⟩⟩
   ·rcases List.mem_append.1 hp with hp | hp
    ·exact h.ps.ne p hp
    ·simp at hp;subst hp;exact hl
   ·rcases List.mem_append.1 hp with hp | hp
    ·exact h.ps.le p hp
    ·simp at hp;subst hp;exact he
   ·rcases List.mem_append.1 hp with hp | hp
    ·exact h.ps.bd p hp
    ·simp at hp;subst hp;exact hf.bd
   ·simp at hq;subst hq
    have:=(hdp p hp).1
    unfold apartP pe at *
    simp only
    unfold FR.e at *
    have:=h.ps.ne p hp
    omega
 refine ⟨h.src,h.dst,h.proto,h.id,h.beg,?_,?_,?_,hps,?_⟩
 ·unfold putG;simp only;have:=h.tot;split <;> omega
 ·unfold putG;simp only;split
  ·exact ⟨hf.wf.tos,hf.wf.id,hf.wf.off,hf.wf.ttl,hf.wf.proto,hf.wf.src,hf.wf.dst⟩
  ·exact h.hd
 ·unfold putG;simp only;split
  ·exact hf.op
  ·exact h.op
 ·unfold putG
  simp only
  intro h0 p hp
  by_cases hm : f.h.mf=true
  ·simp only [hm,if_true] at h0 ⊢
   split at hp
   ·exact h.in_ h0 p hp
   ·rcases List.mem_append.1 hp with hp | hp
    ·exact h.in_ h0 p hp
    ·simp at hp;subst hp
     have:=hd1.2
     unfold pe;simp only
     unfold FR.e at *
     omega
  ·simp only [hm] at h0 ⊢
   simp only [Bool.not_eq_true] at hm
   split at hp
   ·have:=(hdp p hp).2 hm;simp;omega
   ·rcases List.mem_append.1 hp with hp | hp
    ·have:=(hdp p hp).2 hm;simp;omega
    ·simp at hp;subst hp;unfold pe FR.e;simp
open Go.RowKit Go.Shelf
attribute [local go_sem] Oper.semAt_some
structure PM where
 b : Nat
 A : Option Addr
 n : Nat
 c : Nat
 d : List Int
def PM0 : PM:=⟨0,none,0,0,[]⟩
def PM.a (p : PM) : Nat × List Int:=(p.b,p.d)
def PM.cells (p : PM) : List Value:=[.int .i64 (p.b : Int),.slice p.A p.n p.c]
def PM.it (p : PM) : IT:=.own .u8 5 p.A p.n p.c p.d
def PARTS (w : World) (A : Option Addr) (n : Nat) (ps : List PM) : Prop :=
 ps.length=n∧(0 < n->∃ g off,A=some ⟨g,off,none⟩∧g < w.heap.size∧∀ i,i < n->w.cell? ⟨g,off + i * 2,none⟩=some (.int .i64 ((ps[i]?.getD PM0).b : Int))∧w.cell? ⟨g,off + i * 2 + 1,none⟩=some (.slice (ps[i]?.getD PM0).A (ps[i]?.getD PM0).n (ps[i]?.getD PM0).c))
theorem PARTS.below {w w' : World} {A : Option Addr} {n : Nat} {ps : List PM} (h : PARTS w A n ps) (hb : Below w.heap.size w w') : PARTS w' A n ps:=by
 refine ⟨h.1,fun hn=>?_⟩
 obtain ⟨b,off,h1,h2,h3⟩:=h.2 hn
 exact ⟨b,off,h1,by have:=hb.size;omega,fun i hi=>⟨(hb.cell h2).trans (h3 i hi).1,(hb.cell h2).trans (h3 i hi).2⟩⟩
theorem fm_get : ∀ (ps : List PM) (i : Nat),i < ps.length->(ps.flatMap PM.cells)[i * 2]?=some (.int .i64 ((ps[i]?.getD PM0).b : Int))∧(ps.flatMap PM.cells)[i * 2 + 1]?=some (.slice (ps[i]?.getD PM0).A (ps[i]?.getD PM0).n (ps[i]?.getD PM0).c)
 | [],i,h=>by simp at h
 | p::ps,0,_=>by simp [PM.cells]
 | p::ps,i + 1,h=>by
   have:=fm_get ps i (by simp at h;omega)
   rw [show (i + 1) * 2=i * 2 + 2 by omega]
   simp only [List.flatMap_cons,PM.cells,List.cons_append,List.nil_append,List.getElem?_cons_succ]
   exact this
theorem parts_of_row {w : World} {base n c : Nat} {A : Option Addr} {ps : List PM} (h : w.ownsRow base 92 2 (.slice A n c) n (ps.flatMap PM.cells)) : PARTS w A n ps:=by
 have hl : ps.length=n:=by
  have h1:=h.1
  have h2 : (ps.flatMap PM.cells).length=ps.length * 2:=by
   clear h h1
   induction ps with
   | nil=>rfl
   | cons p ps ih=>rw [List.flatMap_cons,List.length_append,ih,List.length_cons];simp [PM.cells];omega
  omega
 refine ⟨hl,fun hn=>?_⟩
 rcases h.2 with ⟨_,h2⟩ | ⟨g,cap,cur,h1,h2,h3,h4,h5,h6,h7⟩
 ·omega
 ·simp at h1
  obtain ⟨rfl,rfl⟩:=h1
  refine ⟨g,0,rfl,(Array.getElem?_eq_some_iff.1 h3).1,fun i hi=>?_⟩
  have e:=fm_get ps i (by omega)
  exact ⟨by rw [Nat.zero_add,World.ownsRow.cellAt h (i * 2) (by omega)];exact e.1,by rw [Nat.zero_add,World.ownsRow.cellAt h (i * 2 + 1) (by omega)];exact e.2⟩
structure GM where
 N : Nat
 q : AG
 oA : Option Addr
 on : Nat
 oc : Nat
 pA : Option Addr
 pn : Nat
 pc : Nat
 ps : List PM
def GM.a (g : GM) : AG:={ g.q with ps:=g.ps.map PM.a }
def GM.cells (g : GM) : Array Value:=#[.int .u32 g.q.src,.int .u32 g.q.dst,.int .u8 g.q.proto,.int .u16 g.q.id,.int .i64 g.q.begin_,.int .i64 g.q.total,.bool g.q.dead,
 .int .u8 g.q.h.tos,.int .u16 g.q.h.id,.bool g.q.h.df,.bool g.q.h.mf,.int .i64 g.q.h.off,.int .u8 g.q.h.ttl,.int .u8 g.q.h.proto,.int .u32 g.q.h.src,.int .u32 g.q.h.dst,.slice g.oA g.on g.oc,.slice g.pA g.pn g.pc]
def GM.its (g : GM) : List IT:=.blk g.N 88 g.cells::.row 92 2 g.pA g.pn g.pc (g.ps.flatMap PM.cells)::.own .u8 5 g.oA g.on g.oc g.q.o::g.ps.map PM.it
def sumN (ps : List PM) (k : Nat) : Nat:=((ps.take k).map (·.n)).sum
theorem sumN_zero (ps : List PM) : sumN ps 0=0:=by simp [sumN]
theorem sumN_succ {ps : List PM} {k : Nat} (h : k < ps.length) : sumN ps (k + 1)=sumN ps k + (ps[k]?.getD PM0).n:=by
 unfold sumN
 rw [List.take_add_one,List.getElem?_eq_getElem h,List.map_append,List.sum_append]
 simp
set_option maxHeartbeats 1000000 in
set_option maxRecDepth 100000 in
theorem each1_in (m l BV N : Nat) (hm : 1<=m) (A : Option Addr) (n c : Nat) (ps : List PM) (hb : ∀ p ∈ ps,p.b<=100000∧p.n<=100000) (hn : n<=100000) (J : Nat->World->Prop) (Jx : World->Prop)
 (hJ : ∀ k W,J k W->W.cell? ⟨BV,0,none⟩=some (.pointer (some ⟨N,0,none⟩))∧W.cell? ⟨N,17,none⟩=some (.slice A n c)∧PARTS W A n ps)
 (hal : ∀ k W o,J k W->J k (W.alloc o))
 (hy : ∀ k W,k < n->J k W->YieldAt Fence.wide (m - 1) Tryz.prog l #[.int .i64 ((ps[k]?.getD PM0).b : Int),.int .i64 (((ps[k]?.getD PM0).b : Int) + ((ps[k]?.getD PM0).n : Int))] W fun e W'=>(e = .returned (.bool true)∧J (k + 1) W')∨(e = .returned (.bool false)∧Jx W'))
 (W : World) (h0 : J 0 W) :
 CallsIn Fence.wide m Tryz.prog 92 #[.func (.yield l) #[] #[],.pointer (some ⟨BV,0,none⟩)] W fun e W'=>(∃ v,e = .returned v)∧(J n W'∨Jx W'):=by
 obtain ⟨x0,x1,x2⟩:=hJ 0 W h0
 have hlen:=x2.1
 refine callsIn_of_wp Tryz.func92 rfl trivial ?_ rfl
 simp only [Tryz.ntmps92,List.size_toArray,List.length_cons,List.length_nil,Nat.reduceAdd,Nat.reduceSub,Array.replicate_succ,Array.replicate_zero,List.push_toArray,List.append_toArray,List.nil_append,List.cons_append]
 gi_wp2
 clear x0 x1 x2
 gi_loopw [10] (fun s wr=>∃ k : Nat,k<=n∧s = .int .i64 (k : Int)∧J k wr) (fun s _=>n - (intOf s).toNat)
 case atStart=>exact ⟨0,by omega,rfl,h0⟩
 case round =>
  obtain ⟨k,hk,rfl,hj⟩:=hrel
  obtain ⟨_,_,hparts⟩:=hJ k wr hj
  by_cases hlt : k < n
  ·have t1 : (k : Int) < (n : Int):=by omega
   have t0 : (0 : Int)<=(k : Int):=by omega
   obtain ⟨g,off,rfl,_,hcells⟩:=hparts.2 (by omega)
   obtain ⟨x1,x2⟩:=hcells k hlt
   obtain ⟨p,hp⟩ : ∃ p,ps[k]?.getD PM0=p:=⟨_,rfl⟩
   have hpm : p ∈ ps:=by rw [<- hp,List.getElem?_eq_getElem (by omega)];exact List.getElem_mem _
   obtain ⟨b1,b2⟩:=hb p hpm
   rw [hp] at x1 x2
   obtain ⟨fn,tmps,assign,body,hyy,hR⟩:=hy k _ hlt (hal k wr (.cells #[.int .i64 (p.b : Int),.slice p.A p.n p.c] 92) hj)
   rw [hp] at hyy
   have e1 : IntKind.i64.wrap ((p.b : Int) + (p.n : Int))=(p.b : Int) + (p.n : Int):=IntWalk.i64_in _ (by omega)
   clear hcells hp hpm hparts
   gi_wp2
   refine hR.mono ?_
   rintro e W3 (⟨rfl,hJ3⟩ | ⟨rfl,hx⟩)
   ·gi_wp2
    go_roundw
    case rel=>exact ⟨k + 1,by omega,by go_num,hJ3⟩
    case measure=>simp [intOf];omega
   ·gi_wp2
    refine bodyPost_ret (results_none rfl _ _ _) rfl ?_
    exact ⟨⟨_,rfl⟩,.inr hx⟩
  ·have t1 : ¬ (k : Int) < (n : Int):=by omega
   obtain rfl : k=n:=by omega
   gi_wp2
   go_end0
   exact ⟨⟨_,rfl⟩,.inl hj⟩
theorem each_any (N : Nat) (w : World) :
 Calls Tryz.prog 69 #[.pointer (some ⟨N,0,none⟩)] w fun e w'=>e = .returned (.func (.func 92) #[] #[.pointer (some ⟨w.heap.size,0,none⟩)])∧w'=w.alloc (.cells #[.pointer (some ⟨N,0,none⟩)] 82):=by
 go_enter Tryz.func69,Tryz.ntmps69
 go_wp2_with fail
 go_ret
 exact ⟨rfl,rfl⟩
set_option maxHeartbeats 1000000 in
set_option maxRecDepth 100000 in
theorem bytes_any (N : Nat) (A : Option Addr) (n c : Nat) (ps : List PM) (w : World) (hb : ∀ p ∈ ps,p.b<=100000∧p.n<=100000) (hn : n<=100000) (hs : sumN ps n<=100000) (hsk : ∀ k,k<=n->sumN ps k<=100000)
 (hN : N < w.heap.size) (h17 : w.cell? ⟨N,17,none⟩=some (.slice A n c)) (hp : PARTS w A n ps) :
 Calls Tryz.prog 41 #[.pointer (some ⟨N,0,none⟩)] w fun e w'=>e = .returned (.int .i64 (sumN ps n : Int))∧Below w.heap.size w w':=by
 have HP:=Lib.hid hp
 have HB:=Lib.hid hb
 have HSK:=Lib.hid hsk
 have H17:=Lib.hid (fun W (hb : Below w.heap.size w W)=>(hb.cell (p:=⟨N,17,none⟩) hN).trans h17)
 clear hp hb h17 hsk
 refine callsIn_wide.1 (callsIn_of_wp_marks (n:=2) Tryz.func41 rfl trivial ?_ rfl)
 simp only [Tryz.ntmps41,List.size_toArray,List.length_cons,List.length_nil,Nat.reduceAdd,Nat.reduceSub,Array.replicate_succ,Array.replicate_zero,List.push_toArray,List.append_toArray,List.nil_append,List.cons_append]
 refine wpIn_wide.2 ?_
 obtain ⟨S,hS⟩ : ∃ S,w.heap.size=S:=⟨_,rfl⟩
 have X1:=Lib.hid ((SP.start w).alloc' (N:=S) 3 #[.int .i64 0] hS)
 go_wp2_with fail
 refine (each_any N _).mono ?_
 rintro e w2 ⟨rfl,hw2⟩
 rw [hS] at *
 obtain ⟨BV,hBV⟩ : ∃ B,B=(w.alloc (.cells #[.int .i64 0] 3)).heap.size:=⟨_,rfl⟩
 have X2:=Lib.hid (X1.out.alloc' (N:=BV) 82 #[.pointer (some ⟨N,0,none⟩)] hBV.symm)
 rw [<- hw2] at X2
 rw [<- hBV]
 replace X2:=Lib.hid (show SP w w2 [.blk S 3 #[.int .i64 0],.blk BV 82 #[.pointer (some ⟨N,0,none⟩)]] from X2.out)
 clear hw2 hBV hS X1
 go_wp2_with fail
 obtain ⟨D,hD⟩ : ∃ D,w2.heap.size=D:=⟨_,rfl⟩
 refine (wpIn_wide (n:=2)).1 ?_
 refine wpIn_range_raw (gf:=92) (lb:=#[.pointer (some ⟨BV,0,none⟩)]) rfl (fun h=>by cases h) rfl trivial (enters_of Tryz.func92 (by kernel_rfl) rfl)
  (fun W=>∃ r : Loop,SP w W [.blk S 3 #[.int .i64 (sumN ps n : Int)],.blk BV 82 #[.pointer (some ⟨N,0,none⟩)],.obj D (.deferred (some [])),.obj (D + 1) (.loop r)]) (fun W=>False) ?call ?done ?stop
 case call =>
  intro fn hfn W1 hW1 hbook
  rw [hD] at hbook ⊢
  generalize hrec : recOf fn _ _ _ _ D=rec at hbook ⊢
  have H3:=Lib.hid (show SP w W1 [.blk S 3 #[.int .i64 0],.blk BV 82 #[.pointer (some ⟨N,0,none⟩)],.obj D (.deferred (some [])),.obj (D + 1) (.loop (rec .ready none))] by
   have h9:=((X2.out.allocO (.deferred (some []))).allocO (.loop (rec .ready none)))
   rw [World.size_alloc,hD] at h9
   rw [hW1,hD,hrec]
   exact h9)
  clear hW1 X2
  refine (each1_in 1 (D + 1) BV N (by omega) A n c ps HB.out hn (fun k W=>SP w W [.blk S 3 #[.int .i64 (sumN ps k : Int)],.blk BV 82 #[.pointer (some ⟨N,0,none⟩)],.obj D (.deferred (some [])),.obj (D + 1) (.loop (rec .ready none))]) (fun _=>False) ?hJ ?hal ?hy W1 (by rw [sumN_zero];exact H3.out)).mono ?_
  case hJ=>exact fun k W X=>⟨X.cell 1 rfl 0 rfl,H17.out W X.bel,HP.out.below X.bel⟩
  case hal=>exact fun k W o X=>X.next ((Below.refl _ W).alloc (Nat.le_refl _) o)
  case hy =>
   intro k W hk X
   subst hrec
   refine yield_of_round trivial ⟨X.obj 3 rfl,X.obj 2 rfl⟩ rfl ?a1 ?assign ?body
   case assign =>
    intro W0 K0 hK0
    gi_wp2
    exact hK0
   case body =>
    intro hbusy
    have X2:=X.turn 3 rfl _ (grownBy_putObj' _ _ _) hbusy.loop
    clear hbook X
    generalize W.putObj (D + 1) _=Wb at X2 hbusy ⊢
    generalize recOf fn _ _ _ _ D=rec at X2 hbusy ⊢
    have HX:=Lib.hid X2
    clear X2 hbusy H3
    have c0 : Wb.cell? ⟨S,0,none⟩=some (.int .i64 (sumN ps k : Int)):=HX.out.cell 0 rfl 0 rfl
    have f0:=HX.out.free 0 rfl 0
    obtain ⟨p,hp⟩ : ∃ p,ps[k]?.getD PM0=p:=⟨_,rfl⟩
    have hpm : p ∈ ps:=by rw [<- hp,List.getElem?_eq_getElem (by have:=HP.out.1;omega)];exact List.getElem_mem _
    obtain ⟨b1,b2⟩:=HB.out p hpm
    have hs1:=HSK.out k (by omega)
    have hs2:=sumN_succ (ps:=ps) (k:=k) (by have:=HP.out.1;omega)
    rw [hp] at hs2 ⊢
    have HS:=Lib.hid hs2
    have e1 : IntKind.i64.wrap (((p.b : Int) + (p.n : Int)) - (p.b : Int))=(p.n : Int):=by rw [show ((p.b : Int) + (p.n : Int)) - (p.b : Int)=(p.n : Int) by omega];exact IntWalk.i64_in _ (by omega)
    have e2 : IntKind.i64.wrap ((sumN ps k : Int) + (p.n : Int))=(sumN ps k : Int) + (p.n : Int):=IntWalk.i64_in _ (by omega)
    have e3 : ((p.b : Int) + (p.n : Int)) - (p.b : Int)=(p.n : Int):=by omega
    clear hs2 hp hpm
    gi_wp2
    have Y:=HX.out.setB 0 rfl 0 (.int .i64 ((sumN ps k : Int) + (p.n : Int)))
    have Y2:=Y.turn 3 rfl (.loop (rec .ready none)) (grownBy_putObj' _ _ _) (World.putObj_heap_same (Y.all 3 _ rfl |>.lt rfl).2)
    refine ⟨⟨Y.obj 3 rfl,Y.obj 2 rfl⟩,.inl ⟨rfl,?_⟩⟩
    rw [show ((sumN ps (k + 1) : Nat) : Int)=(sumN ps k : Int) + (p.n : Int) by rw [HS.out];simp]
    exact Y2
  rintro e W2 ⟨hv,X | hx⟩
  ·exact ⟨hv,.inl ⟨⟨X.obj 3 rfl,X.obj 2 rfl⟩,_,X⟩⟩
  ·exact hx.elim
 case done =>
  rintro W2 r r' hl2 hdf ⟨r0,X⟩
  rw [hD] at hl2 hdf ⊢
  have X2:=X.turn 3 rfl (.loop r') (grownBy_putObj' _ _ _) (World.putObj_heap_same (X.all 3 _ rfl |>.lt rfl).2)
  generalize W2.putObj (D + 1) (.loop r')=W3 at X2 ⊢
  have HX:=Lib.hid X2
  clear X X2 hl2 hdf
  have c0 : W3.cell? ⟨S,0,none⟩=some (.int .i64 (sumN ps n : Int)):=HX.out.cell 0 rfl 0 rfl
  go_wp2_with fail
  refine ⟨by simp,.inl ⟨D,_,rfl,run_takeDeferred (HX.out.obj 2 rfl),?_⟩⟩
  have Z:=HX.out.turn 2 rfl (.deferred none) (grownBy_putObj' _ _ _) (World.putObj_heap_same (HX.out.all 2 _ rfl |>.lt rfl).2)
  exact ⟨_,results_tmp rfl _ _ _,rfl,Z.bel⟩
 case stop =>
  rintro W2 r r' hl2 hdf h
  exact h.elim
end Go.Proofs.YtljbfnabnkkfeaaGreat
