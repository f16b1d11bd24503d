/- Edges of a history: dsg.list. -/
import Derived.Test.YtblplapkdmhikaaGreatDxba
import Derived.Test.YtblplapkdmhikaaGreatDxbb
import Derived.Test.YtblplapkdmhikaaGreatDxbh
import Derived.Test.YtblplapkdmhikaaGreatDxbi
import Derived.Test.YtblplapkdmhikaaGreatDxbj
namespace Go.Proofs.YtblplapkdmhikaaGreat
set_option linter.unusedVariables false
set_option linter.unusedSimpArgs false
section
open Go.RowKit
structure Hvy where
 e:Edge
 n:Int
deriving DecidableEq
def Hvy.cells (h:Hvy):List Value:=[.int .i64 h.e.f,.int .i64 h.e.t,.int .i64 h.e.k,.int .i64 h.e.key,.int .i64 h.n]
def Zla (l:List Hvy):List Value:=(l.map Hvy.cells).flatten
theorem ZjG {l:List Hvy}:∀r∈l.map Hvy.cells,r.length=5:=fun r hr=>by
 obtain⟨e,_,rfl⟩:=List.mem_map.1 hr;rfl
def Hvys (F:Nat→Prop) (w:World) (A:Option Addr) (l:List Hvy):Prop:=Recs F w A 5 (l.map Hvy.cells)
theorem Hvys.upd {F S:Nat→Prop} {w w':World} {A:Option Addr} {l:List Hvy} (h:Hvys F w A l) (k:Upd S w w') (hn:∀i,F i→¬S i):Hvys F w' A l:=Recs.upd h k hn
end
/- Edges of a history,the document's:those of a key,without counts;whether two lists are one. -/
section
open Go.RowKit
theorem Hvys.at_ {F:Nat→Prop} {w:World} {A:Option Addr} {l:List Hvy} (h:Hvys F w A l) {k:Nat} (hk:k<l.length):∃ad,A=some ad∧
  w.cell? (ad.add (k*5))=some (.int .i64 l[k].e.f)∧w.cell? ⟨(ad.add (k*5)).block,(ad.add (k*5)).off+1,none⟩=some (.int .i64 l[k].e.t)∧
  w.cell? ⟨(ad.add (k*5)).block,(ad.add (k*5)).off+2,none⟩=some (.int .i64 l[k].e.k)∧w.cell? ⟨(ad.add (k*5)).block,(ad.add (k*5)).off+3,none⟩=some (.int .i64 l[k].e.key)∧
  w.cell? ⟨(ad.add (k*5)).block,(ad.add (k*5)).off+4,none⟩=some (.int .i64 l[k].n):=by
 have hk':k<(l.map Hvy.cells).length:=by simpa using hk
 obtain⟨ad,e,_,_,hc⟩:=Recs.at_ h hk';rw[List.getElem_map]at hc;exact⟨ad,e,by simpa using hc 0 _ rfl,by simpa using hc 1 _ rfl,by simpa using hc 2 _ rfl,by simpa using hc 3 _ rfl,by simpa using hc 4 _ rfl⟩
end
/- Edges of a history,in plain words:what is counted is what the document counts. -/
section
open Go.RowKit
/-! what was laid last -/
def Nx (ords:List HOrd) (key x y:Int):Prop:=∃o∈ords,o.key=key∧∃i:Nat,(0::o.txs)[i]? =some x∧o.txs[i]? =some y
section
variable {h:Hist}
theorem Zc5 (hr:ZP h=true) {i:Nat} (hi:i<h.ords.length):ZeF h.txs h.ords i=true:=by
 unfold ZP at hr;simp only[Bool.and_eq_true,List.all_eq_true,List.mem_range]at hr;exact hr.2 i hi
theorem ZeC (hr:ZP h=true):(h.ords.map (·.key)).Pairwise (·<·):=Zf6 fun j hj=>by
 rw[List.length_map]at hj;have:=((Ze9 hj).1 (Zc5 hr hj)).1 j rfl;rw[show(h.ords.map (·.key)).getD (j+1) 0=h.ords[j+1].key by rw[List.getD_eq_getElem?_getD,List.getElem?_map,Qg hj];rfl];exact this
theorem Zcc (hr:ZP h=true) {o:HOrd} (ho:o∈h.ords):o.txs.Perm (Zn h.txs o.key):=by
 obtain⟨j,hj,rfl⟩:=List.mem_iff_getElem.1 ho;have:=((Ze9 hj).1 (Zc5 hr hj)).2.2;rw[Ze7,beq_iff_eq]at this;exact(ZC _).symm.trans (this▸ZC _)
theorem ZfM (hr:ZP h=true):(h.txs.map (·.id)).Nodup:=Zcm (Zdv hr)
theorem Zdw (hr:ZP h=true) {o:HOrd} (ho:o∈h.ords):o.txs.Nodup:=by
 refine(Zcc hr ho).nodup_iff.2 ?_;unfold Zn;exact(ZfM hr).sublist (List.filter_sublist.map _)
theorem Zbm (hr:ZP h=true) {o:HOrd} (ho:o∈h.ords) {x:Int} (hx:x∈o.txs):∃t,ZbX h.txs x=some t∧1≤x:=by
 have h1:=(Zcc hr ho).mem_iff.1 hx;unfold Zn at h1;obtain⟨t,ht,rfl⟩:=List.mem_map.1 h1;rw[List.mem_filter,Bool.and_eq_true]at ht;refine⟨t,?_,Zh9 hr ht.1⟩;unfold ZbX;rw[Zgr hr ht.1];simp[ht.2.1]
theorem ZeB (hr:ZP h=true) {o u:HOrd} (ho:o∈h.ords) (hu:u∈h.ords) (hk:o.key=u.key):o=u:=by
 obtain⟨i,hi,rfl⟩:=List.mem_iff_getElem.1 ho;obtain⟨j,hj,rfl⟩:=List.mem_iff_getElem.1 hu;have hp:=List.pairwise_iff_getElem.1 (ZeC hr);rcases Nat.lt_trichotomy i j with h1|h1|h1
 ·have:=hp i j (by simpa using hi) (by simpa using hj) h1;simp only[List.getElem_map]at this;omega
 ·subst h1;rfl
 ·have:=hp j i (by simpa using hj) (by simpa using hi) h1;simp only[List.getElem_map]at this;omega
theorem Zei {l:List Int} (hn:l.Nodup) {i j:Nat} {x:Int} (h1:l[i]? =some x) (h2:l[j]? =some x):i=j:=by
 obtain⟨hi,e1⟩:=List.getElem?_eq_some_iff.1 h1;obtain⟨hj,e2⟩:=List.getElem?_eq_some_iff.1 h2;exact(List.getElem_inj hn).1 (e1.trans e2.symm)
theorem ZbF (hr:ZP h=true) {o:HOrd} (ho:o∈h.ords):(0::o.txs).Nodup:=by
 refine List.nodup_cons.2 ⟨fun hm=> ?_,Zdw hr ho⟩;obtain⟨_,_,h1⟩:=Zbm hr ho hm;omega
theorem Nx.one (hr:ZP h=true) {key x y z:Int} (h1:Nx h.ords key x y) (h2:Nx h.ords key x z):y=z:=by
 obtain⟨o,ho,hk,i,hi,hy⟩:=h1;obtain⟨u,hu,hk2,j,hj,hz⟩:=h2;obtain rfl:=ZeB hr ho hu (hk.trans hk2.symm);obtain rfl:=Zei (ZbF hr ho) hi hj;rw[hy]at hz;exact Option.some.inj hz
theorem Nx.ids (hr:ZP h=true) {key x y:Int} (h1:Nx h.ords key x y):(∃t,ZbX h.txs y=some t)∧1≤y∧x≠y∧(x=0∨∃t,ZbX h.txs x=some t):=by
 obtain⟨o,ho,hk,i,hi,hy⟩:=h1;obtain⟨t,ht,h2⟩:=Zbm hr ho (List.mem_of_getElem? hy);refine⟨⟨t,ht⟩,h2,fun e=> ?_,?_⟩
 ·subst e;have h3:(0::o.txs)[i+1]? =some x:=hy;have:=Zei (ZbF hr ho) hi h3;omega
 ·cases i with
  |zero=>left;simpa using hi.symm
  |succ i=>
   right
   obtain⟨t2,ht2,_⟩:=Zbm hr ho (List.mem_of_getElem? (show o.txs[i]? =some x from hi));exact⟨t2,ht2⟩
end
end
/- Edges of a history,in plain words:each is counted as often as the document counts it. -/
section
open Go.RowKit
section
variable {β:Type} [DecidableEq β]
end
section
variable {h:Hist}
def Zkk (h:Hist) (o:HOp):Prop:=o.tx=0∨(o.tx∈ZkP h.txs∧(Zkr (Zi3 h.txs) (o.tx,o.key):Int)=o.nth)
instance (o:HOp):Decidable (Zkk h o):=inferInstanceAs (Decidable (_∨_))
end
end
/- Edges of a history:the example's history. -/
section
open Go.RowKit
def s1:Hvy:=⟨⟨1,2,1,5⟩,1⟩
def s2:Hvy:=⟨⟨1,2,2,5⟩,1⟩
def s3:Hvy:=⟨⟨3,1,3,5⟩,2⟩
section
variable (n:Nat)
end
end
/- Edges of a history:the answers that the document gives. -/
section
open Go.RowKit
def HvX (w:World) (A:Option Addr) (l:List Hvy):Prop:=∃G,Hvys G w A l
theorem HvX.upd {w w':World} {A:Option Addr} {l:List Hvy} (h:HvX w A l) (k:Upd No w w'):HvX w' A l:=by
 obtain⟨G,h⟩:=h;exact⟨G,Hvys.upd h k (fun _ _=>id)⟩
theorem HvX.own {w:World} {b c:Nat} {A:Option Addr} {l:List Hvy} (h:w.ownsRow b 55 5 (.slice A l.length c) l.length (Zla l)):HvX w A l:=⟨_,Recs.of_own ZjG (by omega) h⟩
def EdX (w:World) (A:Option Addr) (l:List Edge):Prop:=∃G,Walk G w A l
theorem EdX.upd {w w':World} {A:Option Addr} {l:List Edge} (h:EdX w A l) (k:Upd No w w'):EdX w' A l:=by
 obtain⟨G,h⟩:=h;exact⟨G,Recs.upd h k (fun _ _=>id)⟩
section
variable {F:Nat→Prop} {w:World} {txs:List HTx} {ords:List HOrd} {A:Option Addr} {c:Nat} {B:Option Addr} {d:Nat} {n m:Nat}
end
end
end Go.Proofs.YtblplapkdmhikaaGreat
