/- Orders: the first order that goes along all edges, in plain words; what is kept while ids are taken one by one. -/
import Derived.Test.YtonblekdfinpkaaGreatSxak
import Derived.Test.YtonblekdfinpkaaGreatSxbe
import Derived.Test.YtonblekdfinpkaaGreatSxbg
namespace Go.Proofs.YtonblekdfinpkaaGreat
set_option linter.unusedVariables false
set_option linter.unusedSimpArgs false
section
open Go.RowKit
def ZaZ (l:List Edge) (left:List Int) (x:Int):Bool:=l.all fun e=> !(decide (e.t=x)&&decide (e.f∈left))
def Zd0 (l:List Edge):Nat→List Int→List Int→Option (List Int)
 |0,_,out=>some out
 |n+1,left,out=>match left.find? (ZaZ l left)with
  |none=>none
  |some x=>Zd0 l n (left.erase x) (out++[x])
def Za4 (ids:List Int) (l:List Edge):Option (List Int):=Zd0 l (Zbs ids).length (Zbs ids) []
def ZC (l:List Edge) (L:List Int) (x:Int):Nat:=(l.filter fun e=>decide (e.t=x)&&decide (e.f∈L)).length
def Zau (l:List Edge) (ids:List Int) (a:Int):List Int:=(l.filter fun e=>decide (e.f=a)&&(decide (e.f∈ids)&&decide (e.t∈ids))).map (·.t)
theorem Zgt (l:List Edge) (L:List Int) (x:Int):ZaZ l L x=(ZC l L x==0):=by
 rw[Bool.eq_iff_iff];unfold ZaZ ZC;simp only[List.all_eq_true,beq_iff_eq,List.length_eq_zero_iff,List.filter_eq_nil_iff]
 grind
theorem Zle (l:List Edge) (L:List Int) (x:Int):ZC l L x≤l.length:=List.length_filter_le _ _
theorem ZjE (l:List Edge) (ids:List Int) (x:Int):(Zau l ids x).length≤l.length:=by unfold Zau;rw[List.length_map];exact List.length_filter_le _ _
theorem ZiH (e:Edge) (l:List Edge) (L:List Int) (x:Int):ZC (e::l) L x=(if e.t=x∧e.f∈L then 1 else 0)+ZC l L x:=by
 unfold ZC
 by_cases h:e.t=x∧e.f∈L
 ·rw[if_pos h,List.filter_cons_of_pos (by simpa using h),List.length_cons];omega
 ·rw[if_neg h,List.filter_cons_of_neg (by simpa using h)];omega
theorem ZlC (e:Edge) (l:List Edge) (ids:List Int) (a:Int):Zau (e::l) ids a=(if e.f=a∧e.f∈ids∧e.t∈ids then [e.t] else [])++Zau l ids a:=by
 unfold Zau
 by_cases h:e.f=a∧e.f∈ids∧e.t∈ids
 ·rw[if_pos h,List.filter_cons_of_pos (by simpa using h)];rfl
 ·rw[if_neg h,List.filter_cons_of_neg (by simpa using h)];rfl
theorem ZiF (ids L:List Int) (m x:Int) (hm:m∈L) (hd:L.Nodup) (hi:m∈ids) (hx:x∈ids):∀l:List Edge,ZC l L x=ZC l (L.erase m) x+(Zau l ids m).count x
 |[]=>rfl
 |e::l=>by
  have ih:=ZiF ids L m x hm hd hi hx l;rw[ZiH,ZiH,ZlC,List.count_append,ih];have he:e.f∈L.erase m↔e.f≠m∧e.f∈L:=hd.mem_erase_iff
  by_cases h1:e.t=x
  ·subst h1
   by_cases h2:e.f=m
   ·rw[if_pos ⟨rfl,by rw[h2];exact hm⟩,if_neg (by rw[he];exact fun h=>h.2.1 h2),if_pos ⟨h2,by rw[h2];exact hi,hx⟩];simp;omega
   ·rw[if_neg (c:=e.f=m∧_) (fun h=>h2 h.1)]
    by_cases h3:e.f∈L
    ·rw[if_pos ⟨rfl,h3⟩,if_pos ⟨rfl,he.2 ⟨h2,h3⟩⟩];simp;omega
    ·rw[if_neg (fun h=>h3 h.2),if_neg (fun h=>h3 (he.1 h.2).2)];simp
  ·rw[if_neg (fun h=>h1 h.1),if_neg (fun h=>h1 h.1)]
   split
   ·rw[show[e.t].count x=0 by rw[List.count_singleton];simp[h1]];omega
   ·simp
theorem Zox (l:List Edge) (ids:List Int) (a x:Int) (h:x∈Zau l ids a):x∈ids:=by
 unfold Zau at h;obtain⟨e,he,rfl⟩:=List.mem_map.1 h;rw[List.mem_filter]at he;simp only[Bool.and_eq_true,decide_eq_true_eq]at he;exact he.2.2.2
structure TpI (l:List Edge) (ids L nx ys:List Int) (g:Int→Int):Prop where
 rise:L.Pairwise (·<·)
 sub:∀x∈L,x∈ids
 cnt:∀x∈ids,g x=1+((ZC l L x+nx.count x:Nat):Int)
 heap:ys.Perm (L.filter fun x=>ZC l L x+nx.count x==0)
 gone:∀x∈ids,x∉L→ZC l L x+nx.count x=0
 nxs:∀x∈nx,x∈ids
theorem TpI.mem {l:List Edge} {ids L nx ys:List Int} {g:Int→Int} (h:TpI l ids L nx ys g) (x:Int):x∈ys↔x∈L∧ZC l L x+nx.count x=0:=by
 rw[h.heap.mem_iff,List.mem_filter,beq_iff_eq]
theorem TpI.nodup {l:List Edge} {ids L nx ys:List Int} {g:Int→Int} (h:TpI l ids L nx ys g):ys.Nodup:=h.heap.nodup_iff.2 ((Zal h.rise).filter _)
theorem TpI.step {l:List Edge} {ids L nx ys:List Int} {x:Int} {g:Int→Int} (h:TpI l ids L (x::nx) ys g):
  TpI l ids L nx (if g x-1=1 then ys++[x] else ys) (fun y=>if y=x then g x-1 else g y):=by
 have hx:=h.nxs x (List.mem_cons_self ..);have hgx:=h.cnt x hx;rw[List.count_cons_self]at hgx
 have hxL:x∈L:=Classical.byContradiction fun hn=>by
  have:=h.gone x hx hn;rw[List.count_cons_self]at this;omega
 have hco:∀y,y≠x→(x::nx).count y=nx.count y:=fun y hy=>List.count_cons_of_ne (Ne.symm hy)
 have hxn:x∉ys:=fun hm=>by
  have:=((h.mem x).1 hm).2;rw[List.count_cons_self]at this;omega
 refine⟨h.rise,h.sub,fun y hy=> ?_,?_,fun y hy hn=> ?_,fun y hy=>h.nxs y (List.mem_cons_of_mem _ hy)⟩
 ·by_cases e:y=x
  ·subst e;rw[if_pos rfl];omega
  ·rw[if_neg e,h.cnt y hy,hco y e]
 ·have hnd:(L.filter fun y=>ZC l L y+nx.count y==0).Nodup:=(Zal h.rise).filter _
  split
  ·rename_i he
   refine(List.perm_ext_iff_of_nodup ?_ hnd).2 fun y=> ?_
   ·rw[List.nodup_append];exact⟨h.nodup,by simp,fun a ha b hb=>by rw[List.mem_singleton]at hb;subst hb;exact fun e=>hxn (e▸ha)⟩
   ·rw[List.mem_append,List.mem_singleton,h.mem,List.mem_filter,beq_iff_eq]
    by_cases e:y=x
    ·subst e
     constructor
     ·intro _;exact⟨hxL,by omega⟩
     ·intro _;exact Or.inr rfl
    ·rw[hco y e];simp[e]
  ·rename_i he
   refine(List.perm_ext_iff_of_nodup h.nodup hnd).2 fun y=> ?_
   rw[h.mem,List.mem_filter,beq_iff_eq]
   by_cases e:y=x
   ·subst e;rw[List.count_cons_self]
    constructor
    ·rintro⟨_,h2⟩;omega
    ·rintro⟨_,h2⟩;omega
   ·rw[hco y e]
 ·have:=h.gone y hy hn
  by_cases e:y=x
  ·subst e;exact absurd hxL hn
  ·rw[hco y e]at this;exact this
theorem ZlK {L:List Int} {p:Int→Bool} {m:Int} (hr:L.Pairwise (·<·)) (hm:m∈L) (hp:p m=true) (hl:∀y∈L,p y=true→m≤y):L.find? p=some m:=by
 cases hf:L.find? p with
 |none=>rw[List.find?_eq_none]at hf;exact absurd hp (hf m hm)
 |some x=>
  have hx:=List.find?_some hf;have hxm:=List.mem_of_find?_eq_some hf;have h1:=hl x hxm hx;rw[List.find?_eq_some_iff_append]at hf;obtain⟨_,l1,l2,rfl,hl1⟩:=hf;rcases List.mem_append.1 hm with h2|h2
  ·have:=hl1 m h2;rw[hp]at this;simp at this
  ·rcases List.mem_cons.1 h2 with rfl|h2
   ·rfl
   ·have:=(List.pairwise_cons.1 (List.pairwise_append.1 hr).2.1).1 m h2;omega
theorem TpI.find {l:List Edge} {ids L ys:List Int} {g:Int→Int} (h:TpI l ids L [] ys g) {m:Int} (hm:m∈ys) (hl:∀y∈ys,m≤y):L.find? (ZaZ l L)=some m:=by
 have h1:=(h.mem m).1 hm;refine ZlK h.rise h1.1 (by rw[Zgt];simpa using h1.2) fun y hy hp=>hl y ((h.mem y).2 ⟨hy,by rw[Zgt]at hp;simpa using hp⟩)
theorem TpI.pop {l:List Edge} {ids L xs ys:List Int} {g:Int→Int} {m:Int} (h:TpI l ids L [] xs g) (hp:(ys++[m]).Perm xs):TpI l ids (L.erase m) (Zau l ids m) ys g:=by
 have hmx:m∈xs:=hp.mem_iff.1 (by simp);have hmL:=(h.mem m).1 hmx;have hnd:=Zal h.rise;have hmi:=h.sub m hmL.1;have hs:∀x∈ids,ZC l L x=ZC l (L.erase m) x+(Zau l ids m).count x:=fun x hx=>ZiF ids L m x hmL.1 hnd hmi hx l
 have hyn:(ys++[m]).Nodup:=hp.nodup_iff.2 h.nodup;refine⟨h.rise.sublist List.erase_sublist,fun x hx=>h.sub x (List.mem_of_mem_erase hx),fun x hx=> ?_,?_,fun x hx hn=> ?_,fun x hx=>Zox l ids m x hx⟩
 ·rw[h.cnt x hx,←hs x hx];simp
 ·refine(List.perm_ext_iff_of_nodup (List.nodup_append.1 hyn).1 ((hnd.erase m).filter _)).2 fun x=> ?_
  rw[List.mem_filter,beq_iff_eq,hnd.mem_erase_iff];have h1:x∈xs↔x∈ys∨x=m:=by rw[←hp.mem_iff,List.mem_append,List.mem_singleton]
  have h2:=h.mem x;have h3:m∉ys:=fun hm=>(List.nodup_append.1 hyn).2.2 m hm m (by simp) rfl
  constructor
  ·intro hx;have h4:=h2.1 (h1.2 (Or.inl hx));refine⟨⟨fun e=>h3 (e▸hx),h4.1⟩,?_⟩;rw[←hs x (h.sub x h4.1)];simpa using h4.2
  ·rintro⟨⟨h4,h5⟩,h6⟩;rw[←hs x (h.sub x h5)]at h6;rcases h1.1 (h2.2 ⟨h5,by simpa using h6⟩)with h7|h7
   ·exact h7
   ·exact absurd h7 h4
 ·rw[←hs x hx];rw[hnd.mem_erase_iff]at hn
  by_cases e:x=m
  ·subst e;simpa using hmL.2
  ·simpa using h.gone x hx (fun h=>hn ⟨e,h⟩)
theorem TpI.start {l:List Edge} {ids L xs:List Int} {g:Int→Int} (hL:L.Pairwise (·<·)) (hm:∀x,x∈L↔x∈ids) (hg:∀x∈ids,g x=1+((ZC l ids x:Nat):Int)) (hx:xs.Perm (L.filter fun x=>g x==1)):TpI l ids L [] xs g:=by
 have hc:∀x,ZC l L x=ZC l ids x:=fun x=>by unfold ZC;simp only[hm]
 refine⟨hL,fun x hx=>(hm x).1 hx,fun x hx=>by rw[hg x hx,hc];simp,?_,fun x hx hn=>absurd ((hm x).2 hx) hn,fun _ h=>by cases h⟩
 have:(L.filter fun x=>ZC l L x+([]:List Int).count x==0)=L.filter fun x=>g x==1:=List.filter_congr fun x hx=>by
  rw[hg x ((hm x).1 hx),hc,Bool.eq_iff_iff,beq_iff_eq,beq_iff_eq,List.count_nil];omega
 rw[this];exact hx
theorem TpI.stuck {l:List Edge} {ids L:List Int} {g:Int→Int} (h:TpI l ids L [] [] g):L.find? (ZaZ l L)=none:=by
 rw[List.find?_eq_none];intro x hx hf;rw[Zgt]at hf;have:=(h.mem x).2 ⟨hx,by simpa using hf⟩
 cases this
theorem ZmZ {l:List Edge} {L out:List Int} (h:L.find? (ZaZ l L)=none) (hn:L≠[]):Zd0 l L.length L out=none:=by
 cases L with
 |nil=>exact absurd rfl hn
 |cons a L=>show(match (a::L).find? (ZaZ l (a::L))with|none=>none|some x=>_)=none;rw[h]
theorem ZmY {l:List Edge} {L out:List Int} {m:Int} (h:L.find? (ZaZ l L)=some m):Zd0 l L.length L out=Zd0 l (L.erase m).length (L.erase m) (out++[m]):=by
 have hm:=List.mem_of_find?_eq_some h
 cases L with
 |nil=>cases hm
 |cons a L=>
  rw[List.length_erase_of_mem hm]
  show(match (a::L).find? (ZaZ l (a::L))with|none=>none|some x=>_)=_
  rw[h];rfl
theorem ZnG {l:List Edge} {k:Nat} {e:Edge} (hk:k<l.length) (he:l[k]=e) (L:List Int) (x:Int):ZC (l.take (k+1)) L x=ZC (l.take k) L x+if e.t=x∧e.f∈L then 1 else 0:=by
 subst he;unfold ZC;rw[List.take_succ_eq_append_getElem hk,List.filter_append,List.length_append]
 congr 1
 split
 ·rename_i h;rw[List.filter_cons_of_pos (by simpa using h)];rfl
 ·rename_i h;rw[List.filter_cons_of_neg (by simpa using h)];rfl
theorem ZlB {l:List Edge} {k:Nat} {e:Edge} (hk:k<l.length) (he:l[k]=e) (ids:List Int) (a:Int):Zau (l.take (k+1)) ids a=Zau (l.take k) ids a++if e.f=a∧e.f∈ids∧e.t∈ids then [e.t] else []:=by
 subst he;unfold Zau;rw[List.take_succ_eq_append_getElem hk,List.filter_append,List.map_append]
 congr 1
 split
 ·rename_i h;rw[List.filter_cons_of_pos (by simpa using h)];rfl
 ·rename_i h;rw[List.filter_cons_of_neg (by simpa using h)];rfl
def Zlm (o:Option (List Int)) (none_:Int):List Int×Int:=match o with
 |some l=>(l,0)
 |none=>([],none_)
end
/- Edges,reads and witnesses by the document,in plain words;for right histories they are what the program tells. -/
section
open Go.RowKit
section
variable {h:Hist}
theorem ZgK (hr:Za h=true) {i:Nat} (hi:i<h.txs.length):ZdT h.txs i=true:=by
 unfold Za at hr;simp only[Bool.and_eq_true,List.all_eq_true,List.mem_range]at hr;exact hr.1.1.2 i hi
theorem Zc5 (hr:Za h=true):(h.txs.map (·.id)).Pairwise (·<·):=ZkH fun j hj=>by
 rw[List.length_map]at hj;have:=ZgK hr hj;unfold ZdT at this;rw[Qg hj]at this;simp only[Bool.and_eq_true]at this;have h1:=this.1.1;simp only[Qg (show j<h.txs.length by omega),decide_eq_true_eq]at h1;rw[List.getD_eq_getElem?_getD,List.getD_eq_getElem?_getD,List.getElem?_map,List.getElem?_map,Qg hj,Qg (show j<h.txs.length by omega)];exact h1
theorem ZgN (hr:Za h=true) {t:HTx} (ht:t∈h.txs):Zd h.txs t.id=some t:=by
 obtain⟨k,hk,rfl⟩:=List.mem_iff_getElem.1 ht;have hp:=List.pairwise_iff_getElem.1 (Zc5 hr);refine Zhg hk (fun j hj=> ?_) (by simp);have:=hp j k (by simp;omega) (by simpa using hk) hj;simp only[List.getElem_map]at this;rw[beq_eq_false_iff_ne];omega
theorem Zai {txs:List HTx} {i:Int} {t:HTx} (hf:Zd txs i=some t):t∈txs∧t.id=i:=by
 refine⟨Zba hf,?_⟩;unfold Zd at hf;have:=List.find?_some hf
 simpa using this
theorem ZbX (hr:Za h=true) {t:HTx} (ht:t∈h.txs):Zag t.id t.ops=0∧Zbr h.txs t.id t.ops=true:=by
 obtain⟨k,hk,rfl⟩:=List.mem_iff_getElem.1 ht;have:=ZgK hr hk;unfold ZdT at this;rw[Qg hk]at this;simp only[Bool.and_eq_true,beq_iff_eq]at this;exact⟨this.1.2,this.2⟩
theorem Zb5 (hr:Za h=true) {t:HTx} (ht:t∈h.txs):1≤t.id:=by
 have:=(ZbX hr ht).1;unfold Zag at this
 split at this
 ·cases this
 ·rename_i hid
  unfold idB at hid;simp at hid;exact hid.1
theorem Zih (id:Int) (l:List HOp):∀k,k≤l.length→∀j (hj:j<k) (hl:j<l.length),ZbD id l[j]=true→Zo l[j]∈Z7 id l k
 |0,_,j,hj,_,_=>by omega
 |k+1,hk,j,hj,hl,hn=>by
  have ih:=Zih id l k (by omega)
  show Zo l[j]∈(match l[k]? with|some o=>_|none=>_)
  rw[Qg (show k<l.length by omega)]
  by_cases e:j=k
  ·subst e;simp only[hn,Bool.true_and]
   by_cases hc:Zo l[j]∈Z7 id l j
   ·simp[hc]
   ·simp[hc]
  ·have:=ih j (by omega) hl hn;simp only
   split
   ·exact List.mem_append_left _ this
   ·exact this
theorem Zh5 (hr:Za h=true) {t:HTx} (ht:t∈h.txs) {o:HOp} (ho:o∈t.ops) (hn:ZbD t.id o=true):Z9 h.txs (Zo o)=true:=by
 have h1:=(ZbX hr ht).2;unfold Zbr at h1;rw[List.all_eq_true]at h1;obtain⟨j,hj,rfl⟩:=List.mem_iff_getElem.1 ho;exact h1 _ (Zih t.id t.ops _ (Nat.le_refl _) j hj hj hn)
theorem Zf0 (hr:Za h=true) {t:HTx} (ht:t∈h.txs) {o:HOp} (ho:o∈t.ops) (hrd:o.read=true) (h0:o.tx≠0) (h1:o.tx≠t.id):∃u,Zd h.txs o.tx=some u:=by
 have hv:Zo o=⟨o.tx,o.key,o.nth⟩:=by unfold Zo;rw[if_pos hrd]
 have:=Zh5 hr ht ho (by unfold ZbD;rw[hv];simp[hrd,h0,h1]);rw[hv]at this
 cases hf:Zd h.txs o.tx with
 |some u=>exact⟨u,rfl⟩
 |none=>
  unfold Z9 at this;simp[h0,hf]at this
end
/-! how often there is a reason for an edge -/
def p2 (f key:Int) (n:Nat) (o:HOp):Bool:=o.read&&o.key==key&&o.tx==f&&o.nth==(n:Int)
def p3 (h:Hist) (id key t:Int) (o:HOp):Bool:=o.read&&o.key==key&& !(o.tx==id)&&ZbS h.txs ⟨o.tx,o.key,o.nth⟩&&ZdJ h.ords key o.tx t
def Z0 (h:Hist) (e:Edge):Nat:=
 match Zi h.txs e.f,Zi h.txs e.t with
 |some a,some b=>
  if e.f=e.t then 0
  else if e.k=1 then (if ZdJ h.ords e.key e.f e.t then 1 else 0)
  else if e.k=2 then b.ops.countP (p2 e.f e.key (Zg a.ops e.key))
  else if e.k=3 then a.ops.countP (p3 h a.id e.key e.t)
  else 0
 |_,_=>0
theorem ZO {txs:List HTx} {i:Int} {t:HTx} (hd:Zi txs i=some t):Zd txs i=some t∧t.done=true:=by
 unfold Zi at hd
 split at hd
 ·split at hd
  ·rename_i u hf hu
   cases hd
   exact⟨hf,hu⟩
  ·cases hd
 ·cases hd
theorem Zhk {α:Type} (p:α→Bool) (l:List α):decide (0<l.countP p)=l.any p:=by
 rw[Bool.eq_iff_iff,decide_eq_true_eq,List.countP_pos_iff,List.any_eq_true]
theorem Zfv {α:Type} {p q:α→Bool}:∀{l:List α},(∀x∈l,p x=q x)→l.any p=l.any q
 |[],_=>rfl
 |a::l,h=>by
  rw[List.any_cons,List.any_cons,h a (List.mem_cons_self ..),Zfv fun x hx=>h x (List.mem_cons_of_mem _ hx)]
theorem ZqC (c:Prop) [Decidable c] (a b:Nat):decide (0<(if c then a else b))=if c then decide (0<a) else decide (0<b):=by split<;>rfl
theorem Zj5 {h:Hist} (hr:Za h=true) (e:Edge):decide (0<Z0 h e)=Zdb h e:=by
 unfold Z0 Zdb
 cases hd1:Zi h.txs e.f with
 |none=>rfl
 |some a=>
  cases hd2:Zi h.txs e.t with
  |none=>rfl
  |some b=>
   simp only[ZqC];have ha:=Zai (ZO hd1).1;have hb:=Zai (ZO hd2).1
   by_cases h0:e.f=e.t
   ·rw[if_pos h0,if_pos h0];rfl
   ·rw[if_neg h0,if_neg h0]
    by_cases h1:e.k=1
    ·rw[if_pos h1,if_pos h1]
     cases ZdJ h.ords e.key e.f e.t<;>rfl
    ·rw[if_neg h1,if_neg h1]
     by_cases h2:e.k=2
     ·rw[if_pos h2,if_pos h2,Zhk];unfold ZcP;refine Zfv fun o _=> ?_
      unfold p2
      cases hrd:o.read
      ·rfl
      ·have hv:Zo o=⟨o.tx,o.key,o.nth⟩:=by unfold Zo;rw[if_pos hrd]
       rw[hv]
       dsimp only
       by_cases hk:o.key=e.key
       ·by_cases ht:o.tx=e.f
        ·have h3:(o.tx==b.id)=false:=by rw[beq_eq_false_iff_ne,ht,hb.2];exact h0
         have hf0:e.f≠0:=by have:=Zb5 hr ha.1;rw[ha.2]at this;omega
         have h4:ZbS h.txs ⟨o.tx,o.key,o.nth⟩=(o.nth==(Zg a.ops e.key:Int)):=by
          unfold ZbS;simp only[ht,hd1,if_neg hf0,hk]
         rw[h3,h4];simp[hk,ht]
        ·have:(o.tx==e.f)=false:=by rw[beq_eq_false_iff_ne];exact ht
         simp[this]
       ·have:(o.key==e.key)=false:=by rw[beq_eq_false_iff_ne];exact hk
        simp[this]
     ·rw[if_neg h2,if_neg h2]
      by_cases h3:e.k=3
      ·rw[if_pos h3,if_pos h3,Zhk];unfold ZcP;refine Zfv fun o _=> ?_
       unfold p3
       cases hrd:o.read
       ·rfl
       ·have hv:Zo o=⟨o.tx,o.key,o.nth⟩:=by unfold Zo;rw[if_pos hrd]
        rw[hv];simp[Bool.and_assoc]
      ·rw[if_neg h3,if_neg h3];rfl
/-! bad reads -/
def Zbu (txs:List HTx) (t:HTx) (p:Int) (o:HOp):Bool:=
 t.done&&o.read&& !(o.tx==0)&& !(o.tx==t.id)&&(match Zd txs o.tx with|none=>false|some u=>if p=2 then !u.done else p==3&&decide (o.nth<(Zg u.ops o.key:Int)))
def ZdP (txs:List HTx) (p:Int) (t:HTx) (i:Nat) (acc:List HBad):List HOp→List HBad
 |[]=>acc
 |o::l=>ZdP txs p t (i+1) (if Zbu txs t p o then acc++[⟨t.id,i,Zo o⟩] else acc) l
def ZdQ (txs:List HTx) (p:Int) (acc:List HBad):List HTx→List HBad
 |[]=>acc
 |t::l=>ZdQ txs p (ZdP txs p t 0 acc t.ops) l
def Zct (h:Hist) (p:Int):List HBad:=if Za h=true then ZdQ h.txs p [] h.txs else []
theorem Zim (txs:List HTx) (p:Int) (t:HTx) (b:HBad):∀(l:List HOp) (i:Nat) (acc:List HBad),b∈ZdP txs p t i acc l↔b∈acc∨∃(j:Nat) (o:HOp),l[j]? =some o∧Zbu txs t p o=true∧b=⟨t.id,((i+j:Nat):Int),Zo o⟩
 |[],i,acc=>by simp[ZdP]
 |o::l,i,acc=>by
  show b∈ZdP txs p t (i+1) (if Zbu txs t p o then acc++[⟨t.id,i,Zo o⟩] else acc) l↔_
  rw[Zim txs p t b l]
  constructor
  ·rintro(h|⟨j,o',h1,h2,h3⟩)
   ·by_cases hb:Zbu txs t p o=true
    ·rw[if_pos hb,List.mem_append,List.mem_singleton]at h;rcases h with h|h
     ·exact .inl h
     ·exact .inr ⟨0,o,rfl,hb,by simpa using h⟩
    ·rw[if_neg hb]at h;exact .inl h
   ·exact .inr ⟨j+1,o',by simpa using h1,h2,by rw[h3];congr 2;omega⟩
  ·rintro(h|⟨j,o',h1,h2,h3⟩)
   ·left
    split
    ·exact List.mem_append_left _ h
    ·exact h
   ·cases j with
    |zero=>
     simp only[Qz,Option.some.injEq]at h1;subst h1
     left
     rw[if_pos h2,List.mem_append,List.mem_singleton];exact .inr (by simpa using h3)
    |succ j=>
     right
     exact⟨j,o',by simpa using h1,h2,by rw[h3];congr 2;omega⟩
theorem Ze6 (txs:List HTx) (p:Int) (b:HBad):∀(l:List HTx) (acc:List HBad),b∈ZdQ txs p acc l↔b∈acc∨∃t∈l,∃(j:Nat) (o:HOp),t.ops[j]? =some o∧Zbu txs t p o=true∧b=⟨t.id,(j:Int),Zo o⟩
 |[],acc=>by simp[ZdQ]
 |t::l,acc=>by
  show b∈ZdQ txs p (ZdP txs p t 0 acc t.ops) l↔_
  rw[Ze6 txs p b l,Zim];simp only[Nat.zero_add,List.mem_cons,exists_eq_or_imp]
  grind
/-! witnesses -/
end
/- Looking at a history:reads that may not be. -/
section
open Go.RowKit
def Zb0 (txs:List HTx) (i:Int):Bool:=match Zd txs i with|some u=>u.done|none=>false
def Zae (txs:List HTx) (i:Int):List HOp:=match Zd txs i with|some u=>u.ops|none=>[]
section
variable {txs:List HTx} {p:Int} {b:HBad}
end
theorem Zre (w:World) (k t n:Int):Calls Tryz.prog 134 #[.agg #[.bool true,.int .i64 k,.int .i64 t,.int .i64 n]] w fun e w'=>e= .returned (.agg #[.int .i64 t,.int .i64 k,.int .i64 n])∧Upd No w w':=oof w ⟨true,k,t,n⟩
end
/- Looking at a history:witnesses. -/
section
open Go.RowKit
section
variable {h:Hist} {p:Int} {l:List Edge} {b:HBad}
end
theorem Zef {F:Nat→Prop} {w:World} {txs:List HTx} {ords:List HOrd} {A:Option Addr} {c:Nat} {B:Option Addr} {d:Nat} {r:Bool} (H:Hist.lies F w ⟨txs,ords,A,c,B,d⟩) (hr:Za ⟨txs,ords,A,c,B,d⟩=r):
  Calls Tryz.prog 41 #[.agg #[.slice A txs.length c,.slice B ords.length d]] w fun e w'=>e= .returned (.bool r)∧Upd No w w':=by subst hr;exact Znq F w ⟨txs,ords,A,c,B,d⟩ H
end
/- The document:the reads that may not be. -/
section
open Go.RowKit
theorem Upd.noR {S:Nat→Prop} {a w w':World} (h:Upd S a w) (k:Upd No w w'):Upd S a w':=h.trans_ k fun _ _ t=>t.elim
def Bads (F:Nat→Prop) (w:World) (A:Option Addr) (l:List HBad):Prop:=Recs F w A 5 (l.map HBad.cells)
theorem Bads.at_ {F:Nat→Prop} {w:World} {A:Option Addr} {l:List HBad} (h:Bads F w A l) {k:Nat} (hk:k<l.length):∃ad,A=some ad∧
  w.cell? (ad.add (k*5))=some (.int .i64 l[k].tx)∧w.cell? ⟨(ad.add (k*5)).block,(ad.add (k*5)).off+1,none⟩=some (.int .i64 l[k].place)∧
  w.cell? ⟨(ad.add (k*5)).block,(ad.add (k*5)).off+2,none⟩=some (.int .i64 l[k].of.tx)∧w.cell? ⟨(ad.add (k*5)).block,(ad.add (k*5)).off+3,none⟩=some (.int .i64 l[k].of.key)∧
  w.cell? ⟨(ad.add (k*5)).block,(ad.add (k*5)).off+4,none⟩=some (.int .i64 l[k].of.nth):=by
 have hk':k<(l.map HBad.cells).length:=by simpa using hk
 obtain⟨ad,e,_,_,hc⟩:=Recs.at_ h hk';rw[List.getElem_map]at hc;exact⟨ad,e,by simpa using hc 0 _ rfl,by simpa using hc 1 _ rfl,by simpa using hc 2 _ rfl,by simpa using hc 3 _ rfl,by simpa using hc 4 _ rfl⟩
theorem Bads.upd {F S:Nat→Prop} {w w':World} {A:Option Addr} {l:List HBad} (h:Bads F w A l) (k:Upd S w w') (hn:∀i,F i→¬S i):Bads F w' A l:=Recs.upd h k hn
theorem Zn4:SlT Tryz.prog 103 38 5 40:=SlT.mk_ Tryz.underlying103 (z:= .agg #[.int .i64 0,.int .i64 0,.int .i64 0,.int .i64 0,.int .i64 0]) (by kernel_rfl) rfl (by omega)
def Zlh (w:World) (l:List HBad) (e:Ending) (w':World):Prop:=∃A c,e= .returned (.slice A l.length c)∧w'.ownsRow w.heap.size 38 5 (.slice A l.length c) l.length (l.map HBad.cells).flatten∧Upd No w w'
end
/- The document:how often there is a reason for an edge. -/
section
open Go.RowKit
def uid (txs:List HTx) (i:Int):Int:=match Zd txs i with|some u=>u.id|none=>0
end
/- Looking at a history:the exported functions,with their values named. -/
section
open Go.RowKit
section
variable {F G:Nat→Prop} {w:World} {txs:List HTx} {ords:List HOrd} {A B:Option Addr} {c d n1 n2:Nat}
end
theorem Zbf {w:World} {g size:Nat} {t:TypeId} {rows:List (List Value)} (hr:∀r∈rows,r.length=size) (h:Blk w g t rows.flatten):Recs (fun i=>i=g) w (some ⟨g,0,none⟩) size rows:=fun _=>by
 refine⟨_,rfl,rfl,h.lt,fun i row hi j v hj=> ?_⟩;have e1:(⟨g,0,none⟩:Addr).add (i*size+j)=⟨g,i*size+j,none⟩:=by unfold Addr.add;split<;>simp_all
 rw[e1,h.cell];exact ZeD hr hi hj
theorem Zb6 {w:World} {g:Nat} {t:TypeId} {xs:List Int} (h:Blk w g t (xs.map (Value.int .i64))):Ints (fun i=>i=g) w (some ⟨g,0,none⟩) xs:=
 Ints.of_row h rfl fun j v hj=>by rw[List.getElem?_toArray,List.getElem?_map,hj];rfl
def Zas (n:Nat):Hist:=
 ⟨[⟨1,true,[⟨true,1,0,0⟩,⟨false,2,0,0⟩],some ⟨n+1,0,none⟩,2⟩,⟨2,true,[⟨true,2,0,0⟩,⟨false,1,0,0⟩],some ⟨n+1+1,0,none⟩,2⟩],
  [⟨1,[2],some ⟨n+1+1+1+1,0,none⟩,1⟩,⟨2,[1],some ⟨n+1+1+1+1+1,0,none⟩,1⟩],some ⟨n+1+1+1,0,none⟩,2,some ⟨n+1+1+1+1+1+1,0,none⟩,2⟩
theorem Zmz {W:World} {n:Nat} {t1 t2 t3 t4:TypeId}
  (b1:Blk W (n+1) t1 [.bool true,.int .i64 1,.int .i64 0,.int .i64 0,.bool false,.int .i64 2,.int .i64 0,.int .i64 0])
  (b2:Blk W (n+1+1) t1 [.bool true,.int .i64 2,.int .i64 0,.int .i64 0,.bool false,.int .i64 1,.int .i64 0,.int .i64 0])
  (b3:Blk W (n+1+1+1) t2 [.int .i64 1,.bool true,.slice (some ⟨n+1,0,none⟩) 2 2,.int .i64 2,.bool true,.slice (some ⟨n+1+1,0,none⟩) 2 2])
  (b4:Blk W (n+1+1+1+1) t3 [.int .i64 2]) (b5:Blk W (n+1+1+1+1+1) t3 [.int .i64 1])
  (b6:Blk W (n+1+1+1+1+1+1) t4 [.int .i64 1,.slice (some ⟨n+1+1+1+1,0,none⟩) 1 1,.int .i64 2,.slice (some ⟨n+1+1+1+1+1,0,none⟩) 1 1]):
  (Zas n).lies (fun _=>True) W:=by
 have h3:∀(l:List HTx),∀r∈l.map HTx.cells,r.length=3:=fun l r hr=>by
  obtain⟨e,_,rfl⟩:=List.mem_map.1 hr;rfl
 have h2:∀(l:List HOrd),∀r∈l.map HOrd.cells,r.length=2:=fun l r hr=>by
  obtain⟨e,_,rfl⟩:=List.mem_map.1 hr;rfl
 refine⟨(Zbf (h3 _) b3).weak fun _ _ _=>trivial,(Zbf (h2 _) b6).weak fun _ _ _=>trivial,?_,?_,by simp[Zas],by simp[Zas],by simp[Zas],by simp[Zas]⟩
 ·intro t ht;simp only[Zas,List.mem_cons,List.not_mem_nil,or_false]at ht;rcases ht with rfl|rfl
  ·refine⟨Recs.weak (Zbf ZcA b1) fun _ _ _=>trivial,by simp,by unfold Zp;simp,by unfold i64;simp,?_⟩;intro o ho;simp only[List.mem_cons,List.not_mem_nil,or_false]at ho;rcases ho with rfl|rfl<;>(unfold HOp.ok i64;decide)
  ·refine⟨Recs.weak (Zbf ZcA b2) fun _ _ _=>trivial,by simp,by unfold Zp;simp,by unfold i64;simp,?_⟩;intro o ho;simp only[List.mem_cons,List.not_mem_nil,or_false]at ho;rcases ho with rfl|rfl<;>(unfold HOp.ok i64;decide)
 ·intro o ho;simp only[Zas,List.mem_cons,List.not_mem_nil,or_false]at ho;rcases ho with rfl|rfl
  ·refine⟨(Zb6 (xs:=[2]) b4).weak fun _ _ _=>trivial,by simp,by simp,by unfold i64;simp,?_⟩;intro n hn;simp only[List.mem_cons,List.not_mem_nil,or_false]at hn;subst hn;unfold i64;decide
  ·refine⟨(Zb6 (xs:=[1]) b5).weak fun _ _ _=>trivial,by simp,by simp,by unfold i64;simp,?_⟩;intro n hn;simp only[List.mem_cons,List.not_mem_nil,or_false]at hn;subst hn;unfold i64;decide
set_option maxRecDepth 100000 in
theorem ZrU (w:World):Calls Tryz.prog 46 #[] w fun e w'=>e= .returned (.agg #[.slice (some ⟨w.heap.size+1+1+1,0,none⟩) 2 2,.slice (some ⟨w.heap.size+1+1+1+1+1+1,0,none⟩) 2 2])∧(Zas w.heap.size).lies (fun _=>True) w'∧Upd No w w':=by
 go_enter Tryz.func46,Tryz.ntmps46
 go_wp2;refine bodyPost_ret (v:= .agg #[.slice (some ⟨w.heap.size+1+1+1,0,none⟩) 2 2,.slice (some ⟨w.heap.size+1+1+1+1+1+1,0,none⟩) 2 2]) (by simp[results,Tryz.results46,go_sem]) rfl ⟨rfl,?_,((((((((Upd.refl No w).alloc _).alloc _).alloc _).alloc _).alloc _).alloc _).alloc _)⟩;exact Zmz (((((((Blk.new_at (by simp only[World.size_alloc])).alloc _).alloc _).alloc _).alloc _).alloc _)) ((((((Blk.new_at (by simp only[World.size_alloc])).alloc _).alloc _).alloc _).alloc _)) (((((Blk.new_at (by simp only[World.size_alloc])).alloc _).alloc _).alloc _)) ((((Blk.new_at (by simp only[World.size_alloc])).alloc _).alloc _)) (((Blk.new_at (by simp only[World.size_alloc])).alloc _)) (Blk.new_at (by simp only[World.size_alloc]))
def e1:Edge:=⟨1,2,3,1⟩
def e2:Edge:=⟨2,1,3,2⟩
section
variable (n:Nat)
theorem a1:Zdl (Zas n) 5 [e1,e2] ZfI=true:=by kernel_rfl
theorem a2:Zdl (Zas n) 5 [e1,e2,e1,e2] ZfI=true:=by kernel_rfl
theorem a3:Zdl (Zas n) 4 [e1,e2] ZfI=false:=by kernel_rfl
theorem a4:Zdl (Zas n) 5 [e1] ZfI=false:=by kernel_rfl
theorem a5:Zdl (Zas n) 5 [e1,e2] ⟨2,0,⟨1,5,1⟩⟩=false:=by kernel_rfl
theorem a6 (B:Option Addr):Zdl ⟨(Zas n).txs,[],(Zas n).A,2,B,0⟩ 5 [e1,e2] ZfI=false:=by kernel_rfl
theorem a9:(Za (Zas n)&&Zdb (Zas n) ⟨1,2,3,2⟩)=false:=by kernel_rfl
end
end
end Go.Proofs.YtonblekdfinpkaaGreat
