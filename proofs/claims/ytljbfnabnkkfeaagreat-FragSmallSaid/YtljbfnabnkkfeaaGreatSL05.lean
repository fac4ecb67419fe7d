import Derived.Maps.Keyed
import Derived.DeepKeys3
import Derived.DeepKeys4
import Derived.Laws.ResultCell
import Derived.Test.YtljbfnabnkkfeaaGreatSL04
set_option linter.unusedVariables false
set_option linter.unusedSimpArgs false
/- Joined by program: FgMap, WIp, Ten, WIp3, WIpF. -/
namespace Go.Proofs.YtljbfnabnkkfeaaGreat
open Go.RowKit Go.Maps
def idV (s d p i : Int) : Value:=.agg #[.int .u32 s,.int .u32 d,.int .u8 p,.int .u16 i]
theorem fidWide : (match Tryz.prog.underlying 85 with | some (.array _ _) | some (.struct _)=>true | _=>false)=true:=by kernel_rfl
theorem fidKey : Tryz.prog.keyTypeAt 2 85=true:=by kernel_rfl
theorem fidTiled : Tryz.prog.tiled 2 85=true:=by kernel_rfl
set_option maxRecDepth 100000 in
theorem fidLaw : WideMaps.KeyLaw Tryz.prog 85:=deep_law (m:=2) (by omega) fidKey fidTiled fidWide
theorem fidKeyed : Keyed Tryz.prog 85:=Keyed.of_law fidLaw
theorem fidType : Tryz.prog.keyType 85=true:=by kernel_rfl
theorem fidFormed (s d p i : Int) : (idV s d p i).formed Tryz.prog 85=true:=by kernel_rfl
theorem fid_lits (n : Nat) (s d p i : Int) (hs : 0<=s∧s<=4294967295) (hd : 0<=d∧d<=4294967295) (hp : 0<=p∧p<=255) (hi : 0<=i∧i<=65535) :
 Tryz.prog.keyLits (n + 1 + 1) 85 [.int .u32 s,.int .u32 d,.int .u8 p,.int .u16 i]=some [.int .u32 s,.int .u32 d,.int .u8 p,.int .u16 i]:=by
 have w1 : (Lit.int .u32 s).wf=true:=by simp [Lit.wf,IntKind.min,IntKind.max,IntKind.signed,IntKind.bits];omega
 have w2 : (Lit.int .u32 d).wf=true:=by simp [Lit.wf,IntKind.min,IntKind.max,IntKind.signed,IntKind.bits];omega
 have w3 : (Lit.int .u8 p).wf=true:=by simp [Lit.wf,IntKind.min,IntKind.max,IntKind.signed,IntKind.bits];omega
 have w4 : (Lit.int .u16 i).wf=true:=by simp [Lit.wf,IntKind.min,IntKind.max,IntKind.signed,IntKind.bits];omega
 have c1 : Tryz.prog.cellsOf 85=4:=by kernel_rfl
 have c2 : Tryz.prog.cellsOf 32=1:=by kernel_rfl
 have c3 : Tryz.prog.cellsOf 5=1:=by kernel_rfl
 have c4 : Tryz.prog.cellsOf 31=1:=by kernel_rfl
 unfold Program.keyLits
 rw [Tryz.underlying85]
 simp only [List.length_cons,List.length_nil,c1]
 simp [c2,c3,c4,Program.keyLits,Tryz.underlying32,Tryz.underlying5,Tryz.underlying31,w1,w2,w3,w4]
theorem fid_some (s d p i : Int) (hs : 0<=s∧s<=4294967295) (hd : 0<=d∧d<=4294967295) (hp : 0<=p∧p<=255) (hi : 0<=i∧i<=65535) : ∃ l,keyOf Tryz.prog 85 (idV s d p i)=some l:=by
 obtain ⟨n,hn⟩ : ∃ n,Tryz.prog.types.size=n + 1:=⟨Tryz.prog.types.size - 1,by have : 0 < Tryz.prog.types.size:=of_decide_eq_true (by kernel_rfl);omega⟩
 unfold keyOf
 rw [Tryz.underlying85]
 simp only [fidType,fidFormed,Bool.and_self,if_true]
 rw [hn,show (idV s d p i).cells.toList=[.int .u32 s,.int .u32 d,.int .u8 p,.int .u16 i] from rfl,fid_lits n s d p i hs hd hp hi]
 exact ⟨_,rfl⟩
def pv (N : Nat) : Value:=.pointer (some ⟨N,0,none⟩)
def GM.key (g : GM) : Value:=idV g.q.src g.q.dst g.q.proto g.q.id
def ENT (es : Array MapEntry) (gs : List GM) : Prop:=es.toList.map (fun e=>(e.key,e.val))=gs.map (fun g=>(g.key,pv g.N))
def KOK (s d p i : Int) : Prop:=(0<=s∧s<=4294967295)∧(0<=d∧d<=4294967295)∧(0<=p∧p<=255)∧(0<=i∧i<=65535)
def GKEYS (gs : List GM) : Prop:=(∀ g ∈ gs,KOK g.q.src g.q.dst g.q.proto g.q.id)∧gs.Pairwise (fun a b=>a.key≠b.key)
section
variable {w : World} {r : Nat} {es : Array MapEntry} {clock : Nat} {gs : List GM}
theorem ent_get (hE : ENT es gs) (k : Nat) : (es.toList[k]?).map (fun e=>(e.key,e.val))=(gs[k]?).map (fun g=>(g.key,pv g.N)):=by
 have:=congrArg (fun l=>l[k]?) hE
 simpa [ENT] using this
theorem ent_keys (hE : ENT es gs) (hK : GKEYS gs) : ∀ e ∈ es.toList,∃ l,keyOf Tryz.prog 85 e.key=some l:=by
 intro e he
 obtain ⟨k,hk,rfl⟩:=List.getElem_of_mem he
 have h1:=ent_get hE k
 rw [List.getElem?_eq_getElem hk] at h1
 cases hg : gs[k]? with
 | none=>rw [hg] at h1;simp at h1
 | some g =>
   rw [hg] at h1
   simp at h1
   obtain ⟨a,b,c,d⟩:=hK.1 g (List.mem_of_getElem? hg)
   have h2 : es.toList[k].key=g.key:=by simpa using h1.1
   rw [h2]
   exact fid_some _ _ _ _ a b c d
theorem find_yes (hE : ENT es gs) (hK : GKEYS gs) {k : Nat} {g : GM} (hg : gs[k]?=some g) : (Instr.findKey 85 g.key es.toList).run Tryz.prog w = .ok (some (k,pv g.N)) w:=by
 obtain ⟨a,b,c,d⟩:=hK.1 g (List.mem_of_getElem? hg)
 obtain ⟨l,hl⟩:=fid_some _ _ _ _ a b c d
 rcases fidKeyed.find w hl es.toList (ent_keys hE hK) with ⟨_,h2⟩ | ⟨j,e,h1,h2,h3⟩
 ·have h1:=ent_get hE k
  rw [hg] at h1
  cases he : es.toList[k]? with
  | none=>rw [he] at h1;simp at h1
  | some e =>
    rw [he] at h1;simp at h1
    exact absurd h1.1 (h2 e (List.mem_of_getElem? he))
 ·have h4:=ent_get hE j
  rw [h2] at h4
  cases hj : gs[j]? with
  | none=>rw [hj] at h4;simp at h4
  | some g2 =>
    rw [hj] at h4;simp at h4
    have hkj : k=j:=by
     obtain ⟨hk1,hk2⟩:=List.getElem?_eq_some_iff.1 hg
     obtain ⟨hj1,hj2⟩:=List.getElem?_eq_some_iff.1 hj
     have hp:=List.pairwise_iff_getElem.1 hK.2
     have e1 : g.key=g2.key:=h3.symm.trans h4.1
     rcases Nat.lt_trichotomy k j with h | h | h
     ·exact absurd (by rw [hk2,hj2];exact e1) (hp k j hk1 hj1 h)
     ·exact h
     ·exact absurd (by rw [hk2,hj2];exact e1.symm) (hp j k hj1 hk1 h)
    subst hkj
    rw [hg] at hj
    cases hj
    rw [<- h4.2];exact h1
theorem find_no (hE : ENT es gs) (hK : GKEYS gs) {s d p i : Int} (ho : KOK s d p i) (hno : ∀ g ∈ gs,g.key≠idV s d p i) : (Instr.findKey 85 (idV s d p i) es.toList).run Tryz.prog w = .ok none w:=by
 obtain ⟨a,b,c,e⟩:=ho
 obtain ⟨l,hl⟩:=fid_some s d p i a b c e
 rcases fidKeyed.find w hl es.toList (ent_keys hE hK) with ⟨h1,_⟩ | ⟨j,e,h1,h2,h3⟩
 ·exact h1
 ·have h4:=ent_get hE j
  rw [h2] at h4
  cases hj : gs[j]? with
  | none=>rw [hj] at h4;simp at h4
  | some g2 =>
    rw [hj] at h4;simp at h4
    exact absurd (h4.1.symm.trans h3) (hno g2 (List.mem_of_getElem? hj))
theorem check_fid (b : Bool) {s d p i : Int} (ho : KOK s d p i) : (Instr.checkKey b 10000 85 (idV s d p i)).run Tryz.prog w = .ok () w:=by
 obtain ⟨a,b',c,e⟩:=ho
 obtain ⟨l,hl⟩:=fid_some s d p i a b' c e
 exact fidKeyed.check w b hl
theorem look_yes (h : w.heap[r]?=some (.map es clock)) (hE : ENT es gs) (hK : GKEYS gs) {k : Nat} {g : GM} (hg : gs[k]?=some g) :
 (Instr.lookup 41 (.map (some r)) g.key true).run Tryz.prog w = .ok (.tuple #[pv g.N,.bool true]) w:=by
 have hgo : (getObj r).run Tryz.prog w = .ok (.map es clock) w:=by simp [getObj,Sem.run,h]
 have hc:=check_fid (w:=w) es.isEmpty (hK.1 g (List.mem_of_getElem? hg))
 have hf:=find_yes (w:=w) hE hK hg
 unfold GM.key at hf ⊢
 simp [Instr.lookup,run_underlying Tryz.underlying41,hgo,hc,hf]
theorem look_no (h : w.heap[r]?=some (.map es clock)) (hE : ENT es gs) (hK : GKEYS gs) {s d p i : Int} (ho : KOK s d p i) (hno : ∀ g ∈ gs,g.key≠idV s d p i) :
 (Instr.lookup 41 (.map (some r)) (idV s d p i) true).run Tryz.prog w = .ok (.tuple #[.pointer none,.bool false]) w:=by
 have hgo : (getObj r).run Tryz.prog w = .ok (.map es clock) w:=by simp [getObj,Sem.run,h]
 have hz : (zeroValue 82).run Tryz.prog w = .ok (.pointer none) w:=by kernel_rfl
 simp [Instr.lookup,run_underlying Tryz.underlying41,hgo,check_fid (w:=w) es.isEmpty ho,find_no (w:=w) hE hK ho hno,hz]
theorem put_new (h : w.heap[r]?=some (.map es clock)) (hE : ENT es gs) (hK : GKEYS gs) {s d p i : Int} (ho : KOK s d p i) (hno : ∀ g ∈ gs,g.key≠idV s d p i) (v : Value) :
 (Instr.mapUpdate 41 (.map (some r)) (idV s d p i) v).run Tryz.prog w = .ok () (w.putObj r (.map (es.push { key:=idV s d p i,val:=v,born:=clock }) (clock + 1))):=by
 have hgo : (getObj r).run Tryz.prog w = .ok (.map es clock) w:=by simp [getObj,Sem.run,h]
 have hs : ∀ o,(setObj r o).run Tryz.prog w = .ok () (w.putObj r o):=fun o=>by simp [setObj,Sem.run,h,World.putObj]
 simp [Instr.mapUpdate,run_underlying Tryz.underlying41,hgo,hs,check_fid (w:=w) false ho,find_no (w:=w) hE hK ho hno]
theorem del_at (h : w.heap[r]?=some (.map es clock)) (hE : ENT es gs) (hK : GKEYS gs) {k : Nat} {g : GM} (hg : gs[k]?=some g) (ty : TypeId) :
 (Builtin.delete_ #[41,85] ty #[.map (some r),g.key]).run Tryz.prog w = .ok (.tuple #[]) (w.putObj r (.map (es.eraseIdxIfInBounds k) clock)):=by
 have hgo : (getObj r).run Tryz.prog w = .ok (.map es clock) w:=by simp [getObj,Sem.run,h]
 have hs : ∀ o,(setObj r o).run Tryz.prog w = .ok () (w.putObj r o):=fun o=>by simp [setObj,Sem.run,h,World.putObj]
 have hc:=check_fid (w:=w) es.isEmpty (hK.1 g (List.mem_of_getElem? hg))
 have hf:=find_yes (w:=w) hE hK hg
 unfold GM.key at hf ⊢
 simp [Builtin.delete_,run_underlying Tryz.underlying41,hgo,hs,hc,hf]
theorem ENT.push (hE : ENT es gs) (g : GM) (b : Nat) : ENT (es.push { key:=g.key,val:=pv g.N,born:=b }) (gs++[g]):=by
 unfold ENT at *
 simp [hE]
theorem map_er {α β : Type} (f : α->β) : ∀ (l : List α) (k : Nat),(l.eraseIdx k).map f=(l.map f).eraseIdx k
 | [],_=>rfl
 | a::l,0=>rfl
 | a::l,k + 1=>by simp [map_er f l k]
theorem ENT.erase (hE : ENT es gs) (k : Nat) (hk : k < gs.length) : ENT (es.eraseIdxIfInBounds k) (gs.eraseIdx k):=by
 have hl : es.size=gs.length:=by have:=congrArg List.length hE;simpa using this
 unfold ENT at *
 have h1 : (es.eraseIdxIfInBounds k).toList=es.toList.eraseIdx k:=by
  unfold Array.eraseIdxIfInBounds
  rw [dif_pos (by omega)]
  simp
 rw [h1,map_er,map_er,hE]
end
end Go.Proofs.YtljbfnabnkkfeaaGreat
namespace Go.Proofs.YtljbfnabnkkfeaaGreat
open Go.RowKit
theorem tmod_ne {a : Int} (k : Int) (hk : 0 < k) : (a.tmod k != 0)=decide (a % k≠0):=by
 rw [Bool.eq_iff_iff]
 simp
 constructor
 ·intro h1 h2;exact h1 (Int.tmod_eq_zero_of_dvd (Int.dvd_of_emod_eq_zero h2))
 ·intro h1 h2;exact h1 (Int.emod_eq_zero_of_dvd (Int.dvd_of_tmod_eq_zero h2))
set_option maxHeartbeats 1000000 in
set_option maxRecDepth 100000 in
theorem right_yes (h : HD) (A : Option Addr) (n c : Nat) (q : Int) (w : World) (hr : Rightly h.off h.mf n q) :
 Calls Tryz.prog 21 #[h.val (.slice A n c),.int .i64 q] w fun e w'=>e = .returned (.bool true)∧Below w.heap.size w w':=by
 obtain ⟨tos,id,df,mf,off,ttl,proto,src,dst⟩:=h
 obtain ⟨h1,h2,h3,h4,h5,h6,h7,h8,h9⟩:=hr
 dsimp only at h1 h2 h3 h8 h9
 unfold HD.val HD.cells
 have t1 : (off % 8 != 0)=false:=by simp [h1]
 have t2 : ((n : Int) % 4 != 0)=false:=by simp;omega
 have t4 : ¬ (40 : Int) < (n : Int):=by omega
 have t5 : ¬ (65535 : Int) < 20 + (n : Int) + q:=by omega
 have t6 : ¬ (65515 : Int) < off + q:=by omega
 cases mf
 ·clear h1 h9 h5
  go_enter Tryz.func21,Tryz.ntmps21
  go_wp2_with fail
  go_ret
  exact ⟨rfl,(Below.refl _ _).alloc (Nat.le_refl _) _⟩
 ·obtain ⟨h9,h10⟩:=h9 rfl
  have t7 : (q % 8 == 0)=true:=by simp [h10]
  clear h1 h10 h5
  go_enter Tryz.func21,Tryz.ntmps21
  go_wp2_with fail
  go_ret
  exact ⟨rfl,(Below.refl _ _).alloc (Nat.le_refl _) _⟩
set_option maxHeartbeats 4000000 in
set_option maxRecDepth 100000 in
theorem right_no (h : HD) (A : Option Addr) (n c : Nat) (q : Int) (w : World) (h64 : -9223372036854775808<=h.off∧h.off<=9223372036854775807) (hq : -9223372036854775808<=q∧q<=9223372036854775807) (hn : n<=140737488355328) (hr : ¬ Rightly h.off h.mf n q) :
 Calls Tryz.prog 21 #[h.val (.slice A n c),.int .i64 q] w fun e w'=>e = .returned (.bool false)∧Below w.heap.size w w':=by
 obtain ⟨tos,id,df,mf,off,ttl,proto,src,dst⟩:=h
 dsimp only at h64 hr
 obtain ⟨o1,o2⟩:=h64
 obtain ⟨q1,q2⟩:=hq
 unfold HD.val HD.cells
 have t0:=tmod_ne (a:=off) 8 (by omega)
 by_cases h1 : off % 8=0
 ·have t1 : (off.tmod 8 != 0)=false:=by rw [t0];simp [h1]
  by_cases h2 : 0<=off
  ·have t1' : (off % 8 != 0)=false:=by simp [h1]
   by_cases h3 : off<=65528
   ·by_cases h4 : (n : Int)<=40
    ·by_cases h5 : n % 4=0
     ·have t2 : ((n : Int) % 4 != 0)=false:=by simp;omega
      by_cases h6 : 0<=q
      ·by_cases h6' : q<=65515
       ·by_cases h7 : 20 + (n : Int) + q<=65535
        ·by_cases h8 : off + q<=65515
         ·cases mf
          ·exact absurd ⟨h1,h2,h3,by omega,h5,h6,h7,h8,fun hh=>by cases hh⟩ hr
          ·by_cases h9 : 0 < q
           ·have h10 : ¬ q % 8=0:=fun e=>hr ⟨h1,h2,h3,by omega,h5,h6,h7,h8,fun _=>⟨h9,e⟩⟩
            have t7 : (q % 8 == 0)=false:=by simp [h10]
            clear t0 h1 h5 h10 hr t1
            go_enter Tryz.func21,Tryz.ntmps21
            go_wp2_with fail
            go_ret
            exact ⟨rfl,(Below.refl _ _).alloc (Nat.le_refl _) _⟩
           ·have h9' : q<=0:=by omega
            clear t0 h1 h5 hr t1
            go_enter Tryz.func21,Tryz.ntmps21
            go_wp2_with fail
            go_ret
            exact ⟨rfl,(Below.refl _ _).alloc (Nat.le_refl _) _⟩
         ·have h8' : 65515 < off + q:=by omega
          clear t0 h1 h5 hr t1 h8
          go_enter Tryz.func21,Tryz.ntmps21
          go_wp2_with fail
          go_ret
          exact ⟨rfl,(Below.refl _ _).alloc (Nat.le_refl _) _⟩
        ·have h7' : 65535 < 20 + (n : Int) + q:=by omega
         clear t0 h1 h5 hr t1 h7
         go_enter Tryz.func21,Tryz.ntmps21
         go_wp2_with fail
         go_ret
         exact ⟨rfl,(Below.refl _ _).alloc (Nat.le_refl _) _⟩
       ·have h6'' : 65515 < q:=by omega
        clear t0 h1 h5 hr t1 h6'
        go_enter Tryz.func21,Tryz.ntmps21
        go_wp2_with fail
        go_ret
        exact ⟨rfl,(Below.refl _ _).alloc (Nat.le_refl _) _⟩
      ·have h6' : q < 0:=by omega
       clear t0 h1 h5 hr t1 h6
       go_enter Tryz.func21,Tryz.ntmps21
       go_wp2_with fail
       go_ret
       exact ⟨rfl,(Below.refl _ _).alloc (Nat.le_refl _) _⟩
     ·have t2 : ((n : Int) % 4 != 0)=true:=by simp;omega
      clear t0 h1 h5 hr t1
      go_enter Tryz.func21,Tryz.ntmps21
      go_wp2_with fail
      go_ret
      exact ⟨rfl,(Below.refl _ _).alloc (Nat.le_refl _) _⟩
    ·have h4' : 40 < (n : Int):=by omega
     clear t0 h1 hr t1 h4
     go_enter Tryz.func21,Tryz.ntmps21
     go_wp2_with fail
     go_ret
     exact ⟨rfl,(Below.refl _ _).alloc (Nat.le_refl _) _⟩
   ·have h3' : 65528 < off:=by omega
    clear t0 h1 hr t1 h3
    go_enter Tryz.func21,Tryz.ntmps21
    go_wp2_with fail
    go_ret
    exact ⟨rfl,(Below.refl _ _).alloc (Nat.le_refl _) _⟩
  ·have h2' : off < 0:=by omega
   clear t0 h1 hr h2
   go_enter Tryz.func21,Tryz.ntmps21
   go_wp2_with fail
   go_ret
   exact ⟨rfl,(Below.refl _ _).alloc (Nat.le_refl _) _⟩
 ·have t1 : (off.tmod 8 != 0)=true:=by rw [t0];simp [h1]
  have t1' : (off % 8 != 0)=true:=by simp [h1]
  clear t0 h1 hr
  go_enter Tryz.func21,Tryz.ntmps21
  go_wp2_with fail
  go_ret
  exact ⟨rfl,(Below.refl _ _).alloc (Nat.le_refl _) _⟩
theorem right_any5 (h : HD) (A : Option Addr) (n c : Nat) (q : Int) (w : World) (h64 : -9223372036854775808<=h.off∧h.off<=9223372036854775807) (hq : -9223372036854775808<=q∧q<=9223372036854775807) (hn : n<=140737488355328) :
 Calls Tryz.prog 21 #[h.val (.slice A n c),.int .i64 q] w fun e w'=>e = .returned (.bool (rightB h.off h.mf n q))∧Below w.heap.size w w':=by
 by_cases hr : Rightly h.off h.mf n q
 ·rw [rightB_yes hr];exact right_yes h A n c q w hr
 ·rw [rightB_no hr];exact right_no h A n c q w h64 hq hn hr
def set10 (w : World) (N : Nat) (v0 v1 v2 v3 v4 v5 v6 v7 v8 v9 : Value) : World :=
 (((((((((w.setCell ⟨N,0,none⟩ v0).setCell ⟨N,1,none⟩ v1).setCell ⟨N,2,none⟩ v2).setCell ⟨N,3,none⟩ v3).setCell ⟨N,4,none⟩ v4).setCell ⟨N,5,none⟩ v5).setCell ⟨N,6,none⟩ v6).setCell ⟨N,7,none⟩ v7).setCell ⟨N,8,none⟩ v8).setCell ⟨N,9,none⟩ v9
section
variable {w w0 : World} {N : Nat} {t : TypeId} {cs : Array Value} (v0 v1 v2 v3 v4 v5 v6 v7 v8 v9 : Value)
theorem set10_cells (hs : cs.size=10) : (((((((((cs.setIfInBounds 0 v0).setIfInBounds 1 v1).setIfInBounds 2 v2).setIfInBounds 3 v3).setIfInBounds 4 v4).setIfInBounds 5 v5).setIfInBounds 6 v6).setIfInBounds 7 v7).setIfInBounds 8 v8).setIfInBounds 9 v9 = #[v0,v1,v2,v3,v4,v5,v6,v7,v8,v9]:=by
 obtain ⟨l⟩:=cs
 obtain ⟨a0,l,rfl⟩ : ∃ a m,l=a::m:=by cases l with | nil=>cases hs | cons a m=>exact ⟨a,m,rfl⟩
 obtain ⟨a1,l,rfl⟩ : ∃ a m,l=a::m:=by cases l with | nil=>cases hs | cons a m=>exact ⟨a,m,rfl⟩
 obtain ⟨a2,l,rfl⟩ : ∃ a m,l=a::m:=by cases l with | nil=>cases hs | cons a m=>exact ⟨a,m,rfl⟩
 obtain ⟨a3,l,rfl⟩ : ∃ a m,l=a::m:=by cases l with | nil=>cases hs | cons a m=>exact ⟨a,m,rfl⟩
 obtain ⟨a4,l,rfl⟩ : ∃ a m,l=a::m:=by cases l with | nil=>cases hs | cons a m=>exact ⟨a,m,rfl⟩
 obtain ⟨a5,l,rfl⟩ : ∃ a m,l=a::m:=by cases l with | nil=>cases hs | cons a m=>exact ⟨a,m,rfl⟩
 obtain ⟨a6,l,rfl⟩ : ∃ a m,l=a::m:=by cases l with | nil=>cases hs | cons a m=>exact ⟨a,m,rfl⟩
 obtain ⟨a7,l,rfl⟩ : ∃ a m,l=a::m:=by cases l with | nil=>cases hs | cons a m=>exact ⟨a,m,rfl⟩
 obtain ⟨a8,l,rfl⟩ : ∃ a m,l=a::m:=by cases l with | nil=>cases hs | cons a m=>exact ⟨a,m,rfl⟩
 obtain ⟨a9,l,rfl⟩ : ∃ a m,l=a::m:=by cases l with | nil=>cases hs | cons a m=>exact ⟨a,m,rfl⟩
 obtain rfl : l=[]:=by cases l with | nil=>rfl | cons a m=>simp at hs
 simp only [List.setIfInBounds_toArray,List.set_cons_zero,List.set_cons_succ]
theorem set10_block (h : BLOCK w N t cs) (hs : cs.size=10) : BLOCK (set10 w N v0 v1 v2 v3 v4 v5 v6 v7 v8 v9) N t #[v0,v1,v2,v3,v4,v5,v6,v7,v8,v9]:=by
 have h1:=((((((((((h.set 0 v0).set 1 v1).set 2 v2).set 3 v3).set 4 v4).set 5 v5).set 6 v6).set 7 v7).set 8 v8).set 9 v9)
 rw [set10_cells v0 v1 v2 v3 v4 v5 v6 v7 v8 v9 hs] at h1
 exact h1
theorem set10_below {B : Nat} (h : Below B w0 w) (hN : B<=N) : Below B w0 (set10 w N v0 v1 v2 v3 v4 v5 v6 v7 v8 v9) :=
 (((((((((h.setCell (p:=⟨N,0,none⟩) hN v0).setCell (p:=⟨N,1,none⟩) hN v1).setCell (p:=⟨N,2,none⟩) hN v2).setCell (p:=⟨N,3,none⟩) hN v3).setCell (p:=⟨N,4,none⟩) hN v4).setCell (p:=⟨N,5,none⟩) hN v5).setCell (p:=⟨N,6,none⟩) hN v6).setCell (p:=⟨N,7,none⟩) hN v7).setCell (p:=⟨N,8,none⟩) hN v8).setCell (p:=⟨N,9,none⟩) hN v9
theorem set10_heap {b : Nat} (hb : b≠N) : (set10 w N v0 v1 v2 v3 v4 v5 v6 v7 v8 v9).heap[b]?=w.heap[b]?:=by
 unfold set10
 rw [heap_setCell_other _ _ _ _ (by exact hb),heap_setCell_other _ _ _ _ (by exact hb),heap_setCell_other _ _ _ _ (by exact hb),heap_setCell_other _ _ _ _ (by exact hb),heap_setCell_other _ _ _ _ (by exact hb),heap_setCell_other _ _ _ _ (by exact hb),heap_setCell_other _ _ _ _ (by exact hb),heap_setCell_other _ _ _ _ (by exact hb),heap_setCell_other _ _ _ _ (by exact hb),heap_setCell_other _ _ _ _ (by exact hb)]
theorem set10_size : (set10 w N v0 v1 v2 v3 v4 v5 v6 v7 v8 v9).heap.size=w.heap.size:=by
 have:=(set10_below (B:=0) v0 v1 v2 v3 v4 v5 v6 v7 v8 v9 (Below.refl 0 w) (Nat.zero_le N)).size
 simp [set10,World.setCell]
theorem set10_own {k : IntKind} {e : TypeId} {base n c : Nat} {A : Option Addr} {zs : List Int} (h : OWN k e w base A n c zs) (hN : ∀ g,A=some ⟨g,0,none⟩->g≠N) : OWN k e (set10 w N v0 v1 v2 v3 v4 v5 v6 v7 v8 v9) base A n c zs :=
 h.keep fun g hg=>set10_heap v0 v1 v2 v3 v4 v5 v6 v7 v8 v9 (hN g hg)
end
end Go.Proofs.YtljbfnabnkkfeaaGreat
namespace Go.Proofs.YtljbfnabnkkfeaaGreat
open Go.RowKit
def HB0 (w' : World) (N : Nat) : Prop:=w'.heap[N]?=some (.cells (HD.zero.cells (.slice none 0 0)) 34 (0,0))
def HBs (w' : World) (N : Nat) : Prop:=(w'.cell? ⟨N,0,none⟩=some (.int .u8 0)∧w'.cell? ⟨N,1,none⟩=some (.int .u16 0)∧w'.cell? ⟨N,2,none⟩=some (.bool false)∧w'.cell? ⟨N,3,none⟩=some (.bool false)∧w'.cell? ⟨N,4,none⟩=some (.int .i64 0)∧w'.cell? ⟨N,5,none⟩=some (.int .u8 0)∧w'.cell? ⟨N,6,none⟩=some (.int .u8 0)∧w'.cell? ⟨N,7,none⟩=some (.int .u32 0)∧w'.cell? ⟨N,8,none⟩=some (.int .u32 0)∧w'.cell? ⟨N,9,none⟩=some (.slice none 0 0))∧(w'.frozen? ⟨N,0,none⟩=false∧w'.frozen? ⟨N,1,none⟩=false∧w'.frozen? ⟨N,2,none⟩=false∧w'.frozen? ⟨N,3,none⟩=false∧w'.frozen? ⟨N,4,none⟩=false∧w'.frozen? ⟨N,5,none⟩=false∧w'.frozen? ⟨N,6,none⟩=false∧w'.frozen? ⟨N,7,none⟩=false∧w'.frozen? ⟨N,8,none⟩=false∧w'.frozen? ⟨N,9,none⟩=false)
theorem HB0.cells {w' : World} {N : Nat} (h : HB0 w' N) : HBs w' N:=by
 refine ⟨⟨?_,?_,?_,?_,?_,?_,?_,?_,?_,?_⟩,⟨?_,?_,?_,?_,?_,?_,?_,?_,?_,?_⟩⟩
 all_goals first | exact (cell_of_row w' N _ _ _ _ h).trans rfl | exact frozen_of_row w' N _ _ _ h
theorem HB0.below {w w' : World} {N : Nat} (h : HB0 w N) (hb : Below (N + 1) w w') : HB0 w' N:=(hb.block N (by omega)).trans h
structure HS (N : Nat) (w1 : World) (b off n : Nat) (zs : List Int) (w' : World) : Prop where
 bel : Below (N + 1) w1 w'
 siz : N + 1<=w'.heap.size
 rd : RD .u8 w' N (some ⟨b,off,none⟩) n zs
 res : HB0 w' N
theorem HS.next {N : Nat} {w1 w2 w3 : World} {b off n : Nat} {zs : List Int} (h : HS N w1 b off n zs w2) (hb : Below w2.heap.size w2 w3) : HS N w1 b off n zs w3 :=
 ⟨h.bel.trans (hb.mono h.siz),Nat.le_trans h.siz hb.size,h.rd.below (hb.mono (by have:=h.siz;omega)),h.res.below (hb.mono h.siz)⟩
def HSA (N : Nat) (w1 : World) (b off n : Nat) (zs : List Int) (w' : World) : Prop :=
 HS N w1 b off n zs w'∧(w'.cell? ⟨b,off + 1,none⟩=some (.int .u8 (byteAt zs 1))∧w'.cell? ⟨b,off + 8,none⟩=some (.int .u8 (byteAt zs 8))∧w'.cell? ⟨b,off + 9,none⟩=some (.int .u8 (byteAt zs 9)))∧HBs w' N
theorem HS.all {N : Nat} {w1 w' : World} {b off n : Nat} {zs : List Int} (h : HS N w1 b off n zs w') (hn : 10<=n) : HSA N w1 b off n zs w':=by
 obtain ⟨b',off',e,_,hc⟩:=h.rd.2 (by omega)
 simp only [Option.some.injEq,Addr.mk.injEq] at e
 obtain ⟨rfl,rfl,_⟩:=e
 exact ⟨h,⟨hc 1 (by omega),hc 8 (by omega),hc 9 (by omega)⟩,h.res.cells⟩
def HeadP (w : World) (zs : List Int) (s : Nat) (e : Ending) (w' : World) : Prop :=
 ∃ A n c,e = .returned ((hdOf zs).val (.slice A n c))∧OWN .u8 5 w' w.heap.size A n c ((zs.drop 20).take (s - 20))∧Below w.heap.size w w'
set_option maxHeartbeats 4000000 in
set_option maxRecDepth 100000 in
theorem header_any (A : Option Addr) (n c : Nat) (zs : List Int) (q : Int) (s : Nat) (w : World) (h : RD .u8 w w.heap.size A n zs) (hz : BD 255 zs) (hn : n<=c) (hc : n<=140737488355328) (hq : q=s) (hs : 20<=s) (hsn : s<=n) :
 Calls Tryz.prog 66 #[.slice A n c,.int .i64 q] w (HeadP w zs s):=by
 subst hq
 obtain ⟨b,off,rfl,hb,hcl⟩:=h.2 (by omega)
 have HCL:=Lib.hid hcl
 obtain ⟨u1,u2⟩:=wordAt_bd hz 6
 obtain ⟨v1,v2⟩:=wordAt_bd hz 4
 have b1:=i64_and_one (wordAt zs 6) u1 (by omega) 14 (by omega)
 have b2:=i64_and_one (wordAt zs 6) u1 (by omega) 13 (by omega)
 have b3:=i64_and_low (wordAt zs 6) u1 (by omega) 13 (by omega)
 simp only [show ((2 : Int) ^ 14)=16384 from rfl,show ((2 : Int) ^ 13)=8192 from rfl,show ((8192 : Int) - 1)=8191 from rfl] at b1 b2 b3
 have c1 : (wordAt zs 6 / 16384 % 2 * 16384 != 0)=decide (wordAt zs 6 / 16384 % 2=1):=by rw [Bool.eq_iff_iff];simp;omega
 have c2 : (wordAt zs 6 / 8192 % 2 * 8192 != 0)=decide (wordAt zs 6 / 8192 % 2=1):=by rw [Bool.eq_iff_iff];simp;omega
 have b4 : IntKind.i64.wrap (8 * (wordAt zs 6 % 8192))=8 * (wordAt zs 6 % 8192):=IntWalk.i64_in _ (by omega)
 have b5 : IntKind.u16.wrap (wordAt zs 4)=wordAt zs 4:=u16_in _ v1 v2
 have i1 : (20 : Int)<=(s : Int):=by omega
 have i2 : (s : Int)<=(c : Int):=by omega
 have i3 : (1 : Int) < (n : Int):=by omega
 have i4 : (8 : Int) < (n : Int):=by omega
 have i5 : (9 : Int) < (n : Int):=by omega
 clear hcl
 obtain ⟨i0,hi,hz0,hz1,hz2⟩:=info_parts infoU8
 have s1:=fun W=>run_slice_lohi (P:=Tryz.prog) W Tryz.underlying22 hi hz1 (some ⟨b,off,none⟩) n c 20 (s : Int) 20 s rfl rfl hs (by omega)
 go_enter Tryz.func66,Tryz.ntmps66
 go_wp2_with (go_at_call 61;refine (word_any _ n c zs _ 6 _ ((h.alloc (Nat.le_refl _) _).more (by simp)) hz (by omega) rfl (by omega)).mono ?_;rintro e w1 ⟨rfl,m,rfl⟩)
 have hB1 : Below w.heap.size w ((w.alloc (.cells (HD.zero.cells (.slice none 0 0)) 34)).drewN m):=below_drewN ((Below.refl _ _).alloc (Nat.le_refl _) _) m
 have hR1 : HB0 ((w.alloc (.cells (HD.zero.cells (.slice none 0 0)) 34)).drewN m) w.heap.size:=by
  show (w.heap.push _)[w.heap.size]?=_
  simp
 have hsz : ((w.alloc (.cells (HD.zero.cells (.slice none 0 0)) 34)).drewN m).heap.size=w.heap.size + 1:=by show (w.heap.push _).size=_;simp
 have e0 : w.alloc (.cells #[.int .u8 0,.int .u16 0,.bool false,.bool false,.int .i64 0,.int .u8 0,.int .u8 0,.int .u32 0,.int .u32 0,.slice none 0 0] 34)=w.alloc (.cells (HD.zero.cells (.slice none 0 0)) 34):=rfl
 rw [e0]
 clear e0
 generalize (w.alloc (.cells (HD.zero.cells (.slice none 0 0)) 34)).drewN m=w1 at hB1 hR1 hsz ⊢
 generalize hN : w.heap.size=N at *
 obtain hN':=Lib.hid hN
 clear hN
 have hS : HS N w1 b off n zs w1:=⟨Below.refl _ _,Nat.le_of_eq hsz.symm,h.keep fun p hp=>hB1.cell hp,hR1⟩
 replace hS : HS N w1 b off n zs w1.drew:=hS.next (Below.refl _ _).drew
 have hBw:=hB1
 clear hB1 hR1 hsz
 have hb0 : Below N w w1.drew:=hBw.drew
 have hh : ∀ W',Below N w W'->Below N w W'∧(W'.cell? ⟨b,off + 1,none⟩=some (.int .u8 (byteAt zs 1))∧W'.cell? ⟨b,off + 8,none⟩=some (.int .u8 (byteAt zs 8))∧W'.cell? ⟨b,off + 9,none⟩=some (.int .u8 (byteAt zs 9))):=fun W' h =>
  ⟨h,(h.cell (p:=⟨b,off + 1,none⟩) hb).trans (HCL.out 1 (by omega)),(h.cell (p:=⟨b,off + 8,none⟩) hb).trans (HCL.out 8 (by omega)),(h.cell (p:=⟨b,off + 9,none⟩) hb).trans (HCL.out 9 (by omega))⟩
 have HHH:=Lib.hid hh
 clear hh
 go_region_held3 (fun w'=>Below N w w'∧(w'.cell? ⟨b,off + 1,none⟩=some (.int .u8 (byteAt zs 1))∧w'.cell? ⟨b,off + 8,none⟩=some (.int .u8 (byteAt zs 8))∧w'.cell? ⟨b,off + 9,none⟩=some (.int .u8 (byteAt zs 9)))) ((refine HHH.out _ ?_;(repeat (refine Below.setCell ?_ (by exact Nat.le_refl _) _));assumption))
  (first
   | (go_at_call 61;refine (word_any _ n c zs _ 4 _ (by exact hS.rd.more (by have:=hS.siz;omega)) hz (by omega) rfl (by omega)).mono ?_;rintro e w2 ⟨rfl,m2,h2⟩;have hS2:=hS.next (h2 ▸ below_drewN (Below.refl _ _) m2);have hb2 : Below N w w2:=h2 ▸ below_drewN hb0 m2;clear h2)
   | (go_at_call_of 91 (Value.int .i64 12);refine (long_any _ n c zs _ 12 _ (by exact hS2.rd.more (by have:=hS2.siz;omega)) hz (by omega) rfl (by omega)).mono ?_;rintro e w3 ⟨rfl,m3,h3⟩;have hS3:=hS2.next (h3 ▸ below_drewN (Below.refl _ _) m3);have hb3 : Below N w w3:=h3 ▸ below_drewN hb2 m3;clear h3)
   | (go_at_call 91;refine (long_any _ n c zs _ 16 _ (by exact hS3.rd.more (by have:=hS3.siz;omega)) hz (by omega) rfl (by omega)).mono ?_;rintro e w4 ⟨rfl,m4,h4⟩;have hS4:=hS3.next (h4 ▸ below_drewN (Below.refl _ _) m4);have hb4 : Below N w w4:=h4 ▸ below_drewN hb3 m4;clear h4)
   | (go_at_call 36;refine (clone_any _ _ _ ((zs.drop 20).take (s - 20)) _ (by exact (hS4.rd.more (by have:=hS4.siz;omega)).mid (lo:=20) (by omega) (by omega) (by omega)) (by omega)).mono ?_;rintro e w5 ⟨A5,n5,c5,rfl,own5,hb5⟩;have hS5:=hS4.next hb5;have hb6 : Below N w w5:=hb4.trans (hb5.mono (by have:=hN'.out;have:=hb4.size;omega));obtain ⟨⟨f0,f1,f2,f3,f4,f5,f6,f7,f8,f9⟩,⟨g0,g1,g2,g3,g4,g5,g6,g7,g8,g9⟩⟩:=hS5.res.cells))
 go_wp2_with fail
 have hN5 : N < w5.heap.size:=hS5.siz
 have hblk:=set10_block (.int .u8 (byteAt zs 1)) (.int .u16 (wordAt zs 4)) (.bool (decide (wordAt zs 6 / 16384 % 2=1))) (.bool (decide (wordAt zs 6 / 8192 % 2=1))) (.int .i64 (8 * (wordAt zs 6 % 8192))) (.int .u8 (byteAt zs 8)) (.int .u8 (byteAt zs 9)) (.int .u32 (longAt zs 12)) (.int .u32 (longAt zs 16)) (.slice A5 n5 c5) hS5.res rfl
 refine bodyPost_ret (results_cell_row rfl _ _ N 34 _ _ _ rfl hblk Tryz.underlying34 rfl (by kernel_rfl)) rfl ⟨A5,n5,c5,rfl,?_,?_⟩
 ·refine set10_own _ _ _ _ _ _ _ _ _ _ (own5.mono (by have:=hN'.out;have:=hS4.siz;omega)) (fun g hg=>?_)
  have h1:=(own5.lt g hg).1
  have h2:=hS4.siz
  omega
 ·exact set10_below _ _ _ _ _ _ _ _ _ _ (hN'.out ▸ hb6) (Nat.le_of_eq hN'.out)
structure ST (w0 : World) (N : Nat) (A : Option Addr) (n c : Nat) (zs : List Int) (sz tot : Int) (H : Array Value) (w : World) : Prop where
 b : BLOCK w N 22 #[.slice A n c]
 r : BLOCK w (N + 1) 34 (HD.zero.cells (.slice none 0 0))
 h : BLOCK w (N + 2) 34 H
 s : BLOCK w (N + 3) 3 #[.int .i64 sz]
 t : BLOCK w (N + 4) 3 #[.int .i64 tot]
 bel : Below N w0 w
 rd : RD .u8 w N A n zs
section
variable {w0 w w' : World} {N : Nat} {A : Option Addr} {n c : Nat} {zs : List Int} {sz tot : Int} {H : Array Value}
theorem ST.siz (h : ST w0 N A n c zs sz tot H w) : N + 5<=w.heap.size:=h.t.lt
theorem ST.next (h : ST w0 N A n c zs sz tot H w) (hb : Below w.heap.size w w') : ST w0 N A n c zs sz tot H w' :=
 have hs:=h.siz
 ⟨h.b.next hb,h.r.next hb,h.h.next hb,h.s.next hb,h.t.next hb,h.bel.trans (hb.mono (by omega)),h.rd.below (hb.mono (by omega))⟩
theorem ST.setS (h : ST w0 N A n c zs sz tot H w) (x : Int) : ST w0 N A n c zs x tot H (w.setCell ⟨N + 3,0,none⟩ (.int .i64 x)) :=
 ⟨h.b.other (by simp) _,h.r.other (by simp) _,h.h.other (by simp) _,h.s.set 0 _,h.t.other (by simp) _,h.bel.setCell (p:=⟨N + 3,0,none⟩) (by simp) _,h.rd.setCell (p:=⟨N + 3,0,none⟩) (by simp) _⟩
theorem ST.setT (h : ST w0 N A n c zs sz tot H w) (x : Int) : ST w0 N A n c zs sz x H (w.setCell ⟨N + 4,0,none⟩ (.int .i64 x)) :=
 ⟨h.b.other (by simp) _,h.r.other (by simp) _,h.h.other (by simp) _,h.s.other (by simp) _,h.t.set 0 _,h.bel.setCell (p:=⟨N + 4,0,none⟩) (by simp) _,h.rd.setCell (p:=⟨N + 4,0,none⟩) (by simp) _⟩
theorem ST.setH (h : ST w0 N A n c zs sz tot H w) (hH : H.size=10) (v0 v1 v2 v3 v4 v5 v6 v7 v8 v9 : Value) : ST w0 N A n c zs sz tot #[v0,v1,v2,v3,v4,v5,v6,v7,v8,v9] (set10 w (N + 2) v0 v1 v2 v3 v4 v5 v6 v7 v8 v9) :=
 ⟨(
  set10_heap v0 v1 v2 v3 v4 v5 v6 v7 v8 v9 (by omega)).trans h.b,(set10_heap v0 v1 v2 v3 v4 v5 v6 v7 v8 v9 (by omega)).trans h.r,set10_block v0 v1 v2 v3 v4 v5 v6 v7 v8 v9 h.h hH,(set10_heap v0 v1 v2 v3 v4 v5 v6 v7 v8 v9 (by omega)).trans h.s,(set10_heap v0 v1 v2 v3 v4 v5 v6 v7 v8 v9 (by omega)).trans h.t,
  set10_below v0 v1 v2 v3 v4 v5 v6 v7 v8 v9 h.bel (by omega),h.rd.keep fun p hp=>World.cell?_of_block (set10_heap v0 v1 v2 v3 v4 v5 v6 v7 v8 v9 (by omega))⟩
theorem ST.more (h : ST w0 N A n c zs sz tot H w) : RD .u8 w w.heap.size A n zs:=h.rd.more (by have:=h.siz;omega)
end
def OLD (N : Nat) (w w' : World) : Prop:=∀ b,N + 5<=b->b < w.heap.size->w'.heap[b]?=w.heap[b]?
theorem OLD.refl (N : Nat) (w : World) : OLD N w w:=fun _ _ _=>rfl
theorem OLD.below {N : Nat} {w w1 w2 : World} (h : OLD N w w1) (hs : w.heap.size<=w1.heap.size) (hb : Below w1.heap.size w1 w2) : OLD N w w2:=fun b h1 h2=>(hb.block b (by omega)).trans (h b h1 h2)
theorem OLD.setCell {N : Nat} {w w1 : World} (h : OLD N w w1) {p : Addr} (hp : p.block < N + 5) (v : Value) : OLD N w (w1.setCell p v):=fun b h1 h2=>(heap_setCell_other _ _ _ _ (by omega)).trans (h b h1 h2)
set_option maxHeartbeats 400000 in
theorem f1_any (w0 : World) (N : Nat) (A : Option Addr) (n c : Nat) (zs : List Int) (sz tot : Int) (H : Array Value) (w : World) (B : Bool) (h : ST w0 N A n c zs sz tot H w) (hn : n<=140737488355328) (hB : decide (n < 20)=B) :
 Calls Tryz.prog 57 #[.pointer (some ⟨N,0,none⟩)] w fun e w'=>e = .returned (.bool B)∧w=w':=by
 have x1 : w.cell? ⟨N,0,none⟩=some (.slice A n c):=h.b.cell 0
 have hB' : decide ((n : Int) < 20)=B:=by rw [<- hB];congr 1;simp;omega
 go_enter Tryz.func57,Tryz.ntmps57
 go_wp2_with fail
 go_ret
 exact ⟨by rw [<- hB'];rfl,rfl⟩
set_option maxHeartbeats 400000 in
theorem f2_any (w0 : World) (N : Nat) (A : Option Addr) (n c : Nat) (zs : List Int) (sz tot : Int) (H : Array Value) (w : World) (B : Bool) (h : ST w0 N A n c zs sz tot H w) (hn : n<=140737488355328) (h20 : 20<=n) (hz : BD 255 zs) (hB : decide (byteAt zs 0 / 16≠4)=B) :
 Calls Tryz.prog 58 #[.pointer (some ⟨N,0,none⟩)] w fun e w'=>e = .returned (.bool B)∧w=w':=by
 have x1 : w.cell? ⟨N,0,none⟩=some (.slice A n c):=h.b.cell 0
 obtain ⟨b,off,rfl,hb,hc⟩:=h.rd.2 (by omega)
 have x2 : w.cell? ⟨b,off,none⟩=some (.int .u8 (byteAt zs 0)):=hc 0 (by omega)
 obtain ⟨z1,z2⟩:=hz.get (by omega) 0
 rw [show zs[0]?.getD 0=byteAt zs 0 from rfl] at z1 z2
 have hB' : (byteAt zs 0 / 16 != 4)=B:=by rw [<- hB];simp only [bne,decide_not];congr 1
 have i1 : (0 : Int) < (n : Int):=by omega
 clear hB hc
 go_enter Tryz.func58,Tryz.ntmps58
 go_wp2_with fail
 go_ret
 exact ⟨rfl,rfl⟩
set_option maxHeartbeats 400000 in
theorem f3_any (w0 : World) (N : Nat) (A : Option Addr) (n c : Nat) (zs : List Int) (sz tot : Int) (H : Array Value) (w : World) (B : Bool) (h : ST w0 N A n c zs sz tot H w) (hn : n<=140737488355328) (h20 : 20<=n) (hz : BD 255 zs) (hB : decide (sizeR zs < 20∨n < sizeR zs)=B) :
 Calls Tryz.prog 59 #[.pointer (some ⟨N,0,none⟩),.pointer (some ⟨N + 3,0,none⟩)] w fun e w'=>e = .returned (.bool B)∧ST w0 N A n c zs (sizeR zs) tot H w'∧OLD N w w':=by
 have x1 : w.cell? ⟨N,0,none⟩=some (.slice A n c):=h.b.cell 0
 have x3 : w.cell? ⟨N + 3,0,none⟩=some (.int .i64 sz):=h.s.cell 0
 have x4 : w.frozen? ⟨N + 3,0,none⟩=false:=h.s.free 0
 obtain ⟨b,off,rfl,hb,hc⟩:=h.rd.2 (by omega)
 have x2 : w.cell? ⟨b,off,none⟩=some (.int .u8 (byteAt zs 0)):=hc 0 (by omega)
 obtain ⟨z1,z2⟩:=hz.get (by omega) 0
 rw [show zs[0]?.getD 0=byteAt zs 0 from rfl] at z1 z2
 have hs : (sizeR zs : Int)=4 * (byteAt zs 0 % 16):=by unfold sizeR;omega
 have HS:=Lib.hid hs
 have e1 : bits .and .u8 (byteAt zs 0) 15=byteAt zs 0 % 16:=u8_and15 _ z1 (by omega)
 have e2 : IntKind.i64.wrap (byteAt zs 0 % 16)=byteAt zs 0 % 16:=IntWalk.i64_in _ (by omega)
 have e3 : IntKind.i64.wrap (4 * (byteAt zs 0 % 16))=(sizeR zs : Int):=by rw [hs];exact IntWalk.i64_in _ (by omega)
 have hq:=h.setS (sizeR zs)
 have i1 : (0 : Int) < (n : Int):=by omega
 by_cases h1 : sizeR zs < 20
 ·have hB' : true=B:=by rw [<- hB];simp [h1]
  subst hB'
  have t1 : decide ((sizeR zs : Int) < 20)=true:=by simp;omega
  clear hB hc h hs
  go_enter Tryz.func59,Tryz.ntmps59
  go_wp2_with fail
  go_ret
  exact ⟨rfl,hq,(OLD.refl N w).setCell (p:=⟨N + 3,0,none⟩) (by simp) _⟩
 ·have t1 : decide ((sizeR zs : Int) < 20)=false:=by simp;omega
  have t2 : decide (n < sizeR zs)=B:=by rw [<- hB];congr 1;simp [h1]
  clear hB hc h hs
  go_enter Tryz.func59,Tryz.ntmps59
  go_wp2_with fail
  go_ret
  exact ⟨rfl,hq,(OLD.refl N w).setCell (p:=⟨N + 3,0,none⟩) (by simp) _⟩
set_option maxHeartbeats 1000000 in
theorem f4_any (w0 : World) (N : Nat) (A : Option Addr) (n c : Nat) (zs : List Int) (sz : Nat) (tot : Int) (H : Array Value) (w : World) (B : Bool) (h : ST w0 N A n c zs sz tot H w) (hn : n<=140737488355328) (h20 : 20<=n) (hz : BD 255 zs) (hB : decide (totalR zs < sz∨n < totalR zs)=B) :
 Calls Tryz.prog 60 #[.pointer (some ⟨N,0,none⟩),.pointer (some ⟨N + 4,0,none⟩),.pointer (some ⟨N + 3,0,none⟩)] w fun e w'=>e = .returned (.bool B)∧ST w0 N A n c zs sz (totalR zs) H w'∧OLD N w w':=by
 have x1 : w.cell? ⟨N,0,none⟩=some (.slice A n c):=h.b.cell 0
 have hw:=wordAt_bd hz 2
 have ht : wordAt zs 2=(totalR zs : Int):=by unfold totalR;omega
 have HT:=Lib.hid ht
 clear hw ht
 go_enter Tryz.func60,Tryz.ntmps60
 go_wp2_with fail
 refine (word_any A n c zs _ 2 _ h.more hz hn rfl (by omega)).mono ?_
 rintro e w1 ⟨rfl,m,h1⟩
 replace h : ST w0 N A n c zs sz tot H w1:=h.next (h1 ▸ below_drewN (Below.refl _ _) m)
 rw [HT.out]
 have hO:=((OLD.refl N w).below (Nat.le_refl _) (w2:=w1) (by rw [h1];exact below_drewN (Below.refl _ _) m)).setCell (p:=⟨N + 4,0,none⟩) (by simp) (.int .i64 (totalR zs))
 have hq:=h.setT (totalR zs)
 clear h1 x1
 have x1 : w1.cell? ⟨N,0,none⟩=some (.slice A n c):=h.b.cell 0
 have x3 : w1.cell? ⟨N + 3,0,none⟩=some (.int .i64 sz):=h.s.cell 0
 have x4 : w1.cell? ⟨N + 4,0,none⟩=some (.int .i64 tot):=h.t.cell 0
 have x5 : w1.frozen? ⟨N + 4,0,none⟩=false:=h.t.free 0
 by_cases h1 : totalR zs < sz
 ·have hB' : true=B:=by rw [<- hB];simp [h1]
  subst hB'
  have t1 : decide ((totalR zs : Int) < (sz : Int))=true:=by simp;omega
  clear hB h
  go_wp2_with fail
  go_ret
  exact ⟨rfl,hq,hO⟩
 ·have t1 : decide ((totalR zs : Int) < (sz : Int))=false:=by simp;omega
  have t2 : decide (n < totalR zs)=B:=by rw [<- hB];congr 1;simp [h1]
  clear hB h
  go_wp2_with fail
  go_ret
  exact ⟨rfl,hq,hO⟩
set_option maxHeartbeats 1000000 in
theorem f5_any (w0 : World) (N : Nat) (A : Option Addr) (n c : Nat) (zs : List Int) (sz : Nat) (tot : Int) (H : Array Value) (w : World) (B : Bool) (h : ST w0 N A n c zs sz tot H w) (hn : n<=c) (hc : n<=140737488355328) (hs : sz<=n) (hz : BD 255 zs) (hB : decide (sumOf (zs.take sz)≠65535)=B) :
 Calls Tryz.prog 62 #[.pointer (some ⟨N,0,none⟩),.pointer (some ⟨N + 3,0,none⟩)] w fun e w'=>e = .returned (.bool B)∧ST w0 N A n c zs sz tot H w'∧OLD N w w':=by
 have x1 : w.cell? ⟨N,0,none⟩=some (.slice A n c):=h.b.cell 0
 have x3 : w.cell? ⟨N + 3,0,none⟩=some (.int .i64 sz):=h.s.cell 0
 have hB' : (!(sumOf (zs.take sz) == 65535))=B:=by rw [<- hB];simp only [decide_not];congr 1
 have i1 : (0 : Int)<=(sz : Int):=by omega
 have i2 : (sz : Int)<=(c : Int):=by omega
 clear hB
 go_enter Tryz.func62,Tryz.ntmps62
 go_wp2_with fail
 refine (right_any A sz c (zs.take sz) _ (h.more.take hs) (hz.take _) (by omega)).mono ?_
 rintro e w1 ⟨rfl,h1⟩
 go_wp2_with fail
 go_ret
 exact ⟨rfl,h.next h1,(OLD.refl N w).below (Nat.le_refl _) h1⟩
set_option maxHeartbeats 1000000 in
theorem f6_any (w0 : World) (N : Nat) (A : Option Addr) (n c : Nat) (zs : List Int) (sz : Nat) (tot : Int) (H : Array Value) (w : World) (B : Bool) (h : ST w0 N A n c zs sz tot H w) (hn : n<=140737488355328) (h20 : 20<=n) (hz : BD 255 zs) (hB : decide (32768<=wordAt zs 6)=B) :
 Calls Tryz.prog 64 #[.pointer (some ⟨N,0,none⟩)] w fun e w'=>e = .returned (.bool B)∧ST w0 N A n c zs sz tot H w'∧OLD N w w':=by
 have x1 : w.cell? ⟨N,0,none⟩=some (.slice A n c):=h.b.cell 0
 obtain ⟨u1,u2⟩:=wordAt_bd hz 6
 have b1:=i64_and_one (wordAt zs 6) u1 (by omega) 15 (by omega)
 simp only [show ((2 : Int) ^ 15)=32768 from rfl] at b1
 have hB' : (wordAt zs 6 / 32768 % 2 * 32768 != 0)=B:=by rw [<- hB];rw [Bool.eq_iff_iff];simp;omega
 clear hB
 go_enter Tryz.func64,Tryz.ntmps64
 go_wp2_with fail
 refine (word_any A n c zs _ 6 _ h.more hz hn rfl (by omega)).mono ?_
 rintro e w1 ⟨rfl,m,h1⟩
 have hq:=h.next (w':=w1) (by rw [h1];exact below_drewN (Below.refl _ _) m)
 have hO:=(OLD.refl N w).below (Nat.le_refl _) (w2:=w1) (by rw [h1];exact below_drewN (Below.refl _ _) m)
 clear h1
 go_wp2_with fail
 go_ret
 exact ⟨rfl,hq,hO⟩
def F7P (w0 : World) (N : Nat) (A : Option Addr) (n c : Nat) (zs : List Int) (sz tot : Nat) (B : Bool) (w : World) (e : Ending) (w' : World) : Prop :=
 OLD N w w'∧∃ A1 n1 c1,e = .returned (.bool B)∧ST w0 N A n c zs sz tot ((hdOf zs).cells (.slice A1 n1 c1)) w'∧OWN .u8 5 w' (N + 5) A1 n1 c1 (optsOf zs)
set_option maxHeartbeats 4000000 in
set_option maxRecDepth 100000 in
theorem f7_any (w0 : World) (N : Nat) (A : Option Addr) (n c : Nat) (zs : List Int) (tot : Nat) (w : World) (B : Bool) (h : ST w0 N A n c zs (sizeR zs) tot (HD.zero.cells (.slice none 0 0)) w) (hn : n<=c) (hc : n<=140737488351232) (hs20 : 20<=sizeR zs) (hs : sizeR zs<=n) (ht : sizeR zs<=tot) (ht2 : tot<=65535) (hz : BD 255 zs)
 (hB : decide (rightB (hdOf zs).off (hdOf zs).mf (sizeR zs - 20) ((tot : Int) - sizeR zs)=false)=B) :
 Calls Tryz.prog 65 #[.pointer (some ⟨N,0,none⟩),.pointer (some ⟨N + 3,0,none⟩),.pointer (some ⟨N + 2,0,none⟩),.pointer (some ⟨N + 4,0,none⟩)] w (F7P w0 N A n c zs (sizeR zs) tot B w):=by
 have x1 : w.cell? ⟨N,0,none⟩=some (.slice A n c):=h.b.cell 0
 have x3 : w.cell? ⟨N + 3,0,none⟩=some (.int .i64 (sizeR zs)):=h.s.cell 0
 have hB' : (!(rightB (hdOf zs).off (hdOf zs).mf (sizeR zs - 20) ((tot : Int) - sizeR zs)))=B:=by rw [<- hB];cases rightB (hdOf zs).off (hdOf zs).mf (sizeR zs - 20) ((tot : Int) - sizeR zs) <;> rfl
 have hwf:=(hdOf_wf hz).off
 clear hB
 go_enter Tryz.func65,Tryz.ntmps65
 go_wp2_with fail
 refine (header_any A n c zs _ (sizeR zs) _ h.more hz hn (by omega) rfl hs20 hs).mono ?_
 rintro e w1 ⟨A1,n1,c1,rfl,own1,hb1⟩
 have hsz:=h.siz
 replace h:=h.next hb1
 replace own1:=own1.mono (base':=N + 5) hsz
 clear x1 x3
 have f0:=h.h.cell 0
 have f1:=h.h.cell 1
 have f2:=h.h.cell 2
 have f3:=h.h.cell 3
 have f4:=h.h.cell 4
 have f5:=h.h.cell 5
 have f6:=h.h.cell 6
 have f7:=h.h.cell 7
 have f8:=h.h.cell 8
 have f9:=h.h.cell 9
 have g0:=h.h.free 0
 have g1:=h.h.free 1
 have g2:=h.h.free 2
 have g3:=h.h.free 3
 have g4:=h.h.free 4
 have g5:=h.h.free 5
 have g6:=h.h.free 6
 have g7:=h.h.free 7
 have g8:=h.h.free 8
 have g9:=h.h.free 9
 simp only [HD.cells,HD.zero,List.getElem?_toArray,List.getElem?_cons_zero,List.getElem?_cons_succ] at f0 f1 f2 f3 f4 f5 f6 f7 f8 f9
 have x3 : w1.cell? ⟨N + 3,0,none⟩=some (.int .i64 (sizeR zs)):=h.s.cell 0
 have x4 : w1.cell? ⟨N + 4,0,none⟩=some (.int .i64 tot):=h.t.cell 0
 have e1 : IntKind.i64.wrap ((tot : Int) - (sizeR zs : Int))=(tot : Int) - (sizeR zs : Int):=IntWalk.i64_in _ (by omega)
 unfold HD.val HD.cells
 go_wp2_with fail
 have hq:=h.setH rfl (.int .u8 (hdOf zs).tos) (.int .u16 (hdOf zs).id) (.bool (hdOf zs).df) (.bool (hdOf zs).mf) (.int .i64 (hdOf zs).off) (.int .u8 (hdOf zs).ttl) (.int .u8 (hdOf zs).proto) (.int .u32 (hdOf zs).src) (.int .u32 (hdOf zs).dst) (.slice A1 n1 c1)
 have own2:=set10_own (.int .u8 (hdOf zs).tos) (.int .u16 (hdOf zs).id) (.bool (hdOf zs).df) (.bool (hdOf zs).mf) (.int .i64 (hdOf zs).off) (.int .u8 (hdOf zs).ttl) (.int .u8 (hdOf zs).proto) (.int .u32 (hdOf zs).src) (.int .u32 (hdOf zs).dst) (.slice A1 n1 c1) own1 (N:=N + 2) (fun g hg=>by have:=(own1.lt g hg).1;omega)
 have hn1 : sizeR zs - 20=n1:=by
  have h1:=own1.len
  have h2:=h.rd.len
  simp at h1
  omega
 rw [hn1] at hB'
 have hO : OLD N w (set10 w1 (N + 2) (.int .u8 (hdOf zs).tos) (.int .u16 (hdOf zs).id) (.bool (hdOf zs).df) (.bool (hdOf zs).mf) (.int .i64 (hdOf zs).off) (.int .u8 (hdOf zs).ttl) (.int .u8 (hdOf zs).proto) (.int .u32 (hdOf zs).src) (.int .u32 (hdOf zs).dst) (.slice A1 n1 c1)):=fun b h1 h2=>(set10_heap _ _ _ _ _ _ _ _ _ _ (by omega)).trans (hb1.block b h2)
 have hO2:=fun w2 (hb2 : Below _ _ w2)=>hO.below (w2:=w2) (by rw [set10_size];exact hb1.size) hb2
 clear hO
 clear f0 f1 f2 f3 f4 f5 f6 f7 f8 f9 g0 g1 g2 g3 g4 g5 g6 g7 g8 g9 h own1 x3 x4
 refine (right_any5 (hdOf zs) A1 n1 c1 _ _ hwf (by omega) (by omega)).mono ?_
 rintro e w2 ⟨rfl,hb2⟩
 have hq2:=hq.next hb2
 have own3:=own2.below hb2
 replace hO2:=hO2 _ hb2
 clear hq own2 hb2
 go_wp2_with fail
 go_ret
 exact ⟨hO2,A1,n1,c1,rfl,hq2,own3⟩
end Go.Proofs.YtljbfnabnkkfeaaGreat
