/- What the document tells of histories, in plain words; it is what the program tells. -/
import Derived.Test.YtbefgiboikfojaaGreatRcaz
namespace Go.Proofs.YtbefgiboikfojaaGreat
open Go.RowKit
set_option linter.unusedVariables false
set_option linter.unusedSimpArgs false
set_option maxRecDepth 100000
set_option maxHeartbeats 4000000
theorem Zng{l m:Gv}(hl:l.Pairwise (·<·))(hm:m.Pairwise (·<·))(h:∀a,a∈l↔a∈m):l=m:=
 ZgB ((List.perm_ext_iff_of_nodup (hl.imp fun h=>Int.ne_of_lt h) (hm.imp fun h=>Int.ne_of_lt h)).2 h) (hl.imp Int.le_of_lt) (hm.imp Int.le_of_lt)
theorem Zrb(xs:Gv)(n:Int):Zg n (ZG xs)=ZG (xs++[n]):=
 Zng (ZdH n _ (ZbX xs)) (ZbX _) fun a=>by rw[Zbo,Zcc,Zcc,Fu,Fa];grind
def Zhj(a b:Gv):Bool:=a.length==b.length&&a.all fun x=>a.count x==b.count x
theorem Zgr:∀(a b:Gv),a.length=b.length->(∀x∈a,a.count x=b.count x)->a.Perm b
 |[],b,hl,_=>by
  have:b=[]:=Et (by simpa using hl.symm);subst this;exact List.Perm.refl _
 |x::a,b,hl,h=>by
  have hx:=h x (Fc ..)
  have Aw:x∈b:=by
   rw[List.count_cons_self]at hx;exact List.count_pos_iff.1 (by omega)
  have hp:=List.perm_cons_erase Aw;refine((Zgr a (b.erase x) ?_ fun y hy=>?_).cons x).trans hp.symm
  ·have:=hp.length_eq;simp only[Fs]at*;omega
  ·have h1:=h y (E7 _ hy);rw[hp.count_eq]at h1;simp only[List.count_cons]at h1;omega
theorem ZfU(a b:Gv):Zhj a b=(ZbM a==ZbM b):=by
 rw[Bool.eq_iff_iff];unfold Zhj;simp only[Fp,beq_iff_eq,Fn]
 constructor
 ·rintro⟨h1,h2⟩;have hp:=Zgr a b h1 h2;exact ZgB (((Zaw a).trans hp).trans (Zaw b).symm) (ZeC a) (ZeC b)
 ·intro h;have hp:a.Perm b:=((Zaw a).symm.trans (by rw[h];exact Zaw b));exact⟨hp.length_eq,fun x _=>hp.count_eq x⟩
/-! keys -/
theorem ZgS(tch:Bool):∀(l:Gu) (xs:Gv),ZbS tch (ZG xs) l=ZG (xs++ZaK l fun o=>tch|| !o.read)
 |[],xs=>by simp[ZbS,ZaK]
 |o::l,xs=>by
  rw[Zf1]
  by_cases h:(tch|| !o.read)=true
  ·rw[if_pos h,Zrb,ZgS tch l];unfold ZaK;rw[List.filter_cons_of_pos (by exact h)];simp
  ·rw[if_neg h,ZgS tch l];unfold ZaK;rw[List.filter_cons_of_neg (by exact h)]
theorem Ztc(l:Gu):ZbS false [] l=Zaz l:=by
 have:=ZgS false l []
 simpa[Zaz,show ZG []=[] from rfl]using this
def ZaB(s:Gv):List HTx->List Int
 |[]=>s
 |t::l=>ZaB (if t.done then Z2 s (Zaz t.ops) else s) l
theorem ZgN(a:Int):∀(l:List HTx) (s:Gv),a∈ZaB s l↔a∈s∨∃t∈l,t.done=true∧a∈Zaz t.ops
 |[],s=>by simp[ZaB]
 |t::l,s=>by
  show a∈ZaB (if t.done then Z2 s (Zaz t.ops) else s) l↔_
  rw[ZgN a l]
  by_cases h:t.done=true
  ·rw[if_pos h,ZfY];simp only[F9,exists_eq_or_imp,h];grind
  ·rw[if_neg h];simp only[F9,exists_eq_or_imp,h];grind
theorem Zia:∀(l:List HTx) (s:Gv),s.Pairwise (·<·)->(ZaB s l).Pairwise (·<·)
 |[],_,h=>h
 |t::l,s,h=>by
  show(ZaB (if t.done then Z2 s (Zaz t.ops) else s) l).Pairwise (·<·)
  refine Zia l _ ?_
  split
  ·exact ZgE _ _ h
  ·exact h
theorem ZlX(a:Int):∀(l s:Gv),a∈Zcs s l↔a∈s∨a∈l
 |[],s=>by simp[Zcs]
 |k::l,s=>by
  show a∈Zcs (if k∈s then s else s++[k]) l↔_
  rw[ZlX a l]
  by_cases h:k∈s
  ·rw[if_pos h,F9];grind
  ·rw[if_neg h,F9,Fu,Fa];grind
theorem Zjv:∀(l s:Gv),s.Nodup->(Zcs s l).Nodup
 |[],_,h=>h
 |k::l,s,h=>by
  show(Zcs (if k∈s then s else s++[k]) l).Nodup
  refine Zjv l _ ?_
  split
  ·exact h
  ·rename_i hk
   rw[List.nodup_append];exact⟨h,by simp,fun a ha b hb=>by rw[Fa]at hb;subst hb;exact fun e=>hk (e▸ha)⟩
theorem Zks(a:Int):∀(l:List HTx) (s:Gv),a∈ZM l s↔a∈s∨∃t∈l,t.done=true∧a∈Zaz t.ops
 |[],s=>by simp[ZM]
 |t::l,s=>by
  show a∈ZM l (if t.done then Zcs s (Zaz t.ops) else s)↔_
  rw[Zks a l]
  by_cases h:t.done=true
  ·rw[if_pos h,ZlX];simp only[F9,exists_eq_or_imp,h];grind
  ·rw[if_neg h];simp only[F9,exists_eq_or_imp,h];grind
theorem Zhx:∀(l:List HTx) (s:Gv),s.Nodup->(ZM l s).Nodup
 |[],_,h=>h
 |t::l,s,h=>by
  show(ZM l (if t.done then Zcs s (Zaz t.ops) else s)).Nodup
  refine Zhx l _ ?_
  split
  ·exact Zjv _ _ h
  ·exact h
theorem ZcJ{l:Gv}(h:l.Pairwise (·<·)):l.Nodup:=h.imp fun h=>Int.ne_of_lt h
theorem Zoe(txs:List HTx):(ZaB [] txs).Perm (ZM txs []):=
 (List.perm_ext_iff_of_nodup (ZcJ (Zia txs [] List.Pairwise.nil)) (Zhx txs [] List.nodup_nil)).2 fun a=>by rw[ZgN,Zks]
theorem ZkC(txs:List HTx):(ZaB [] txs).length=(ZM txs []).length:=(Zoe txs).length_eq
theorem ZhF(txs:List HTx)(key:Int):(Zm txs key)≠[]↔key∈ZaB [] txs:=by
 rw[ZgN];unfold Zm;rw[Ne,List.map_eq_nil_iff,List.filter_eq_nil_iff];simp only[List.contains_eq_mem,Fp,Ff]
 constructor
 ·intro h
  right
  apply Classical.byContradiction
  intro hn;exact h fun t ht hd=>hn ⟨t,ht,hd⟩
 ·rintro(h|⟨t,ht,hd⟩) hn
  ·cases h
  ·exact hn t ht hd
theorem ZpS(l:Gu)(key:Int):key∈Zaz l↔0<Zd l key:=by
 unfold Zaz Zd wrN ZaK;rw[Zcc,Fj,Gc,List.length_pos_iff,Ne,List.filter_eq_nil_iff];unfold isW
 constructor
 ·rintro⟨o,ho,rfl⟩ hn;rw[Fw]at ho;exact hn o ho.1 (by rw[ho.2];simp)
 ·intro h
  apply Classical.byContradiction
  intro hn;refine h fun o ho hw=>hn ⟨o,?_,?_⟩
  ·rw[Fw];grind
  ·grind
theorem Zn3(id:Int)(o:HOp):Zb0 id o=Zcl id o:=by
 unfold Zb0 Zcl Zw
 cases h:o.read<;>simp
theorem ZiX(id:Int)(l:Gu):∀k,k<=l.length->ZS id (ZaA id l k) (l.drop k)=ZS id [] l
 |0,_=>rfl
 |k+1,hk=>by
  rw[<-ZiX id l k (by omega),Ev (show k<l.length by omega),Zfi,Zn3]
  congr 1
  show(match l[k]? with|some o=>_|none=>_)=_
  rw[Qg (show k<l.length by omega)]
theorem ZpM(id:Int)(l:Gu):ZS id [] l=ZgK id l:=by
 rw[<-ZiX id l l.length (Nat.le_refl _),Fq];rfl
/-! is a history right,by the document -/
def Zh2(txs:List HTx)(keys:Gv)(ords:Gq)(i:Nat):Bool:=
 match ords[i]?,keys[i]? with
 |some o,some k=>o.key==k&&Zhj o.txs (Zm txs o.key)
 |_,_=>true
def ZlE(h:Hist):Bool:=
 decide (h.txs.length<=4096)&&(List.range h.txs.length).all (Zdu h.txs)&&h.ords.length==(ZaB [] h.txs).length&&(List.range h.ords.length).all (Zh2 h.txs (ZaB [] h.txs) h.ords)
theorem ZjD{l:Gv}(h:∀i,i+1<l.length->l.getD i 0<l.getD (i+1) 0):l.Pairwise (·<·):=by
 have key:∀d i:Nat,i+d+1<l.length->l.getD i 0<l.getD (i+d+1) 0:=by
  intro d
  induction d with
  |zero=>intro i hi;exact h i hi
  |succ d ih=>
   intro i hi;have h1:=ih i (by omega);have h2:=h (i+d+1) (by omega);exact Int.lt_trans h1 h2
 rw[List.pairwise_iff_getElem];intro i j hi hj hij;have:=key (j-i-1) i (by omega);rw[show i+(j-i-1)+1=j by omega]at this
 simpa[List.getD_eq_getElem?_getD,Qg hi,Qg hj]using this
theorem ZeE{txs:List HTx}{ords:Gq}{i:Nat}(hi:i<ords.length):ZdX txs ords i=true↔(∀j,j+1=i->(ords.map (·.key)).getD j 0<ords[i].key)∧ords[i].txs≠[]∧Zhj ords[i].txs (Zm txs ords[i].key)=true:=by
 unfold ZdX;rw[Qg hi,ZfU]
 cases i with
 |zero=>simp
 |succ j=>
  have hj:j<ords.length:=by omega
  simp only[Qg hj];simp[List.getD_eq_getElem?_getD,Qg hj]
  grind
theorem Zpo(h:Hist):ZlE h=Zc h:=by
 obtain⟨txs,ords,A,c,B,d⟩:=h;unfold ZlE Zc;simp only;rw[ZkC]
 by_cases hl:ords.length=(ZM txs []).length
 ·rw[show(ords.length==(ZM txs []).length)=true by simpa using hl,show((ZM txs []).length==ords.length)=true by simpa using hl.symm]
  congr 1
  rw[Bool.eq_iff_iff,Fn,Fn];have hk:=ZkC txs;have fL:=Zia txs [] List.Pairwise.nil
  constructor
  ·intro hr i hi;have hi':i<ords.length:=F8.1 hi
   have hordL:∀i (hi:i<ords.length),ords[i].key=(ZaB [] txs)[i]'(by omega)∧Zhj ords[i].txs (Zm txs ords[i].key)=true:=fun i hi=>by
    have:=hr i (F8.2 hi);unfold Zh2 at this;rw[Qg hi,Qg (show i<(ZaB [] txs).length by omega)]at this
    simpa using this
   rw[ZeE hi'];refine⟨fun j hj=>?_,fun e=>?_,(hordL i hi').2⟩
   ·have rR:j<ords.length:=by omega
    rw[List.getD_eq_getElem?_getD,List.getElem?_map,Qg rR];simp only[Option.map_some,Option.getD_some];rw[(hordL i hi').1,(hordL j rR).1];exact List.pairwise_iff_getElem.1 fL j i (by omega) (by omega) (by omega)
   ·have h1:=(hordL i hi').2;rw[e,ZfU,beq_iff_eq]at h1;have h2:=(ZhF txs ords[i].key).2 (by rw[(hordL i hi').1];exact Fr _);have h3:=(Zaw (Zm txs ords[i].key)).length_eq;rw[<-h1]at h3;exact h2 (Et h3.symm)
  ·intro hr i hi;have hi':i<ords.length:=F8.1 hi;have hordL:=fun i (hi:i<ords.length)=>(ZeE hi).1 (hr i (F8.2 hi))
   have mp:(ords.map (·.key)).Pairwise (·<·):=ZjD fun j hj=>by
    rw[F6]at hj;have:=(hordL (j+1) hj).1 j rfl;rw[show(ords.map (·.key)).getD (j+1) 0=ords[j+1].key by rw[List.getD_eq_getElem?_getD,List.getElem?_map,Qg hj];rfl];exact this
   have kU:∀k∈ords.map (·.key),k∈ZaB [] txs:=fun k hk=>by
    obtain⟨o,ho,rfl⟩:=Gc.1 hk;obtain⟨j,hj,rfl⟩:=E8.1 ho;rw[<-ZhF];intro e;have h1:=(hordL j hj).2.2;rw[e,ZfU,beq_iff_eq]at h1;have h3:=(Zaw ords[j].txs).length_eq;rw[h1]at h3;exact(hordL j hj).2.1 (Et h3.symm)
   have aO:ords.map (·.key)=ZaB [] txs:=by
    refine Zng mp fL fun a=>⟨kU a,fun ha=>?_⟩
    apply Classical.byContradiction
    intro hn
    have:=(Fx.2 ⟨hn,ZcJ mp⟩).length_le_of_subset (l₂:=ZaB [] txs) fun x hx=>by
     rcases F9.1 hx with rfl|hx
     ·exact ha
     ·exact kU x hx
    rw[Fs,F6]at this;omega
   unfold Zh2;rw[Qg hi',Qg (show i<(ZaB [] txs).length by omega)];have e1:(ZaB [] txs)[i]'(by omega)=ords[i].key:=by simp only[<-aO,Fk]
   simp[e1,(hordL i hi').2.2]
 ·rw[show(ords.length==(ZM txs []).length)=false by simpa using hl,show((ZM txs []).length==ords.length)=false by simpa using fun e=>hl e.symm];simp
/- Orders:the first order that goes along all edges,in plain words;what is kept while ids are taken one by one. -/
def Zoi(l:List Edge)(left:Gv)(x:Int):Bool:=l.all fun e=> !(decide (e.t=x)&&decide (e.f∈left))
def Zcj(l:List Edge)(L:Gv)(x:Int):Nat:=(l.filter fun e=>decide (e.t=x)&&decide (e.f∈L)).length
def Ze2(l:List Edge)(ids:Gv)(a:Int):Gv:=(l.filter fun e=>decide (e.f=a)&&(decide (e.f∈ids)&&decide (e.t∈ids))).map (·.t)
theorem Zmg(l:List Edge)(L:Gv)(x:Int):Zoi l L x=(Zcj l L x==0):=by
 rw[Bool.eq_iff_iff];unfold Zoi Zcj;simp only[Fn,beq_iff_eq,List.length_eq_zero_iff,List.filter_eq_nil_iff]
 grind
theorem ZkW(e:Edge)(l:List Edge)(L:Gv)(x:Int):Zcj (e::l) L x=(if e.t=x∧e.f∈L then 1 else 0)+Zcj l L x:=by
 unfold Zcj
 by_cases h:e.t=x∧e.f∈L
 ·rw[if_pos h,List.filter_cons_of_pos (by simpa using h),Fs];omega
 ·rw[if_neg h,List.filter_cons_of_neg (by simpa using h)];omega
theorem Zn0(e:Edge)(l:List Edge)(ids:Gv)(a:Int):Ze2 (e::l) ids a=(if e.f=a∧e.f∈ids∧e.t∈ids then [e.t] else [])++Ze2 l ids a:=by
 unfold Ze2
 by_cases h:e.f=a∧e.f∈ids∧e.t∈ids
 ·rw[if_pos h,List.filter_cons_of_pos (by simpa using h)];rfl
 ·rw[if_neg h,List.filter_cons_of_neg (by simpa using h)];rfl
theorem ZkV(ids L:Gv)(m x:Int)(hm:m∈L)(hd:L.Nodup)(hi:m∈ids)(hx:x∈ids):∀l:List Edge,Zcj l L x=Zcj l (L.erase m) x+(Ze2 l ids m).count x
 |[]=>rfl
 |e::l=>by
  have ih:=ZkV ids L m x hm hd hi hx l;rw[ZkW,ZkW,Zn0,List.count_append,ih];have he:e.f∈L.erase m↔e.f≠m∧e.f∈L:=hd.mem_erase_iff
  by_cases h1:e.t=x
  ·subst h1
   by_cases h2:e.f=m
   ·rw[if_pos ⟨rfl,by rw[h2];exact hm⟩,if_neg (by rw[he];exact fun h=>h.2.1 h2),if_pos ⟨h2,by rw[h2];exact hi,hx⟩];simp;omega
   ·rw[if_neg (c:=e.f=m∧_) (fun h=>h2 h.1)]
    by_cases h3:e.f∈L
    ·rw[if_pos ⟨rfl,h3⟩,if_pos ⟨rfl,he.2 ⟨h2,h3⟩⟩];simp;omega
    ·rw[if_neg (fun h=>h3 h.2),if_neg (fun h=>h3 (he.1 h.2).2)];simp
  ·rw[if_neg (fun h=>h1 h.1),if_neg (fun h=>h1 h.1)]
   split
   ·rw[show[e.t].count x=0 by rw[List.count_singleton];simp[h1]];omega
   ·simp
theorem Zrs(l:List Edge)(ids:Gv)(a x:Int)(h:x∈Ze2 l ids a):x∈ids:=by
 unfold Ze2 at h;obtain⟨e,he,rfl⟩:=Gc.1 h;rw[Fw]at he;simp only[Fp,Ff]at he;exact he.2.2.2
structure TpI (l:List Edge) (ids L nx ys:List Int) (g:Int->Int):Prop where
 rise:L.Pairwise (·<·)
 sub:∀x∈L,x∈ids
 cnt:∀x∈ids,g x=1+((Zcj l L x+nx.count x:Nat):Int)
 heap:ys.Perm (L.filter fun x=>Zcj l L x+nx.count x==0)
 gone:∀x∈ids,x∉L->Zcj l L x+nx.count x=0
 nxs:∀x∈nx,x∈ids
theorem TpI.mem{l:List Edge}{ids L nx ys:Gv}{g:Int->Int}(h:TpI l ids L nx ys g)(x:Int):x∈ys↔x∈L∧Zcj l L x+nx.count x=0:=by
 rw[h.heap.mem_iff,Fw,beq_iff_eq]
theorem TpI.nodup{l:List Edge}{ids L nx ys:Gv}{g:Int->Int}(h:TpI l ids L nx ys g):ys.Nodup:=h.heap.nodup_iff.2 ((ZcJ h.rise).filter _)
theorem TpI.step{l:List Edge}{ids L nx ys:Gv}{x:Int}{g:Int->Int}(h:TpI l ids L (x::nx) ys g):
  TpI l ids L nx (if g x-1=1 then ys++[x] else ys) (fun y=>if y=x then g x-1 else g y):=by
 have hx:=h.nxs x (Fc ..);have qA:=h.cnt x hx;rw[List.count_cons_self]at qA
 have Aa:x∈L:=Classical.byContradiction fun hn=>by
  have:=h.gone x hx hn;rw[List.count_cons_self]at this;omega
 have rH:∀y,y≠x->(x::nx).count y=nx.count y:=fun y hy=>List.count_cons_of_ne (Ne.symm hy)
 have xh:x∉ys:=fun hm=>by
  have:=((h.mem x).1 hm).2;rw[List.count_cons_self]at this;omega
 refine⟨h.rise,h.sub,fun y hy=>?_,?_,fun y hy hn=>?_,fun y hy=>h.nxs y (E7 _ hy)⟩
 ·by_cases e:y=x
  ·subst e;rw[if_pos rfl];omega
  ·rw[if_neg e,h.cnt y hy,rH y e]
 ·have cn:(L.filter fun y=>Zcj l L y+nx.count y==0).Nodup:=(ZcJ h.rise).filter _
  split
  ·rename_i he
   refine(List.perm_ext_iff_of_nodup ?_ cn).2 fun y=>?_
   ·rw[List.nodup_append];exact⟨h.nodup,by simp,fun a ha b hb=>by rw[Fa]at hb;subst hb;exact fun e=>xh (e▸ha)⟩
   ·rw[Fu,Fa,h.mem,Fw,beq_iff_eq]
    by_cases e:y=x
    ·subst e
     constructor
     ·intro _;exact⟨Aa,by omega⟩
     ·intro _;exact Or.inr rfl
    ·rw[rH y e];simp[e]
  ·rename_i he
   refine(List.perm_ext_iff_of_nodup h.nodup cn).2 fun y=>?_
   rw[h.mem,Fw,beq_iff_eq]
   by_cases e:y=x
   ·subst e;rw[List.count_cons_self]
    constructor
    ·rintro⟨_,h2⟩;omega
    ·rintro⟨_,h2⟩;omega
   ·rw[rH y e]
 ·have:=h.gone y hy hn
  by_cases e:y=x
  ·subst e;exact absurd Aa hn
  ·rw[rH y e]at this;exact this
theorem Zn8{L:Gv}{p:Int->Bool}{m:Int}(hr:L.Pairwise (·<·))(hm:m∈L)(hp:p m=true)(hl:∀y∈L,p y=true->m<=y):L.find? p=some m:=by
 cases hf:L.find? p with
 |none=>rw[List.find?_eq_none]at hf;exact absurd hp (hf m hm)
 |some x=>
  have hx:=List.find?_some hf;have BC:=List.mem_of_find?_eq_some hf;have h1:=hl x BC hx;rw[List.find?_eq_some_iff_append]at hf;obtain⟨_,l1,l2,rfl,co⟩:=hf;rcases Fu.1 hm with h2|h2
  ·have:=co m h2;rw[hp]at this;simp at this
  ·rcases F9.1 h2 with rfl|h2
   ·rfl
   ·have:=(Fd.1 (E5.1 hr).2.1).1 m h2;omega
theorem TpI.find{l:List Edge}{ids L ys:Gv}{g:Int->Int}(h:TpI l ids L [] ys g){m:Int}(hm:m∈ys)(hl:∀y∈ys,m<=y):L.find? (Zoi l L)=some m:=by
 have h1:=(h.mem m).1 hm;refine Zn8 h.rise h1.1 (by rw[Zmg];simpa using h1.2) fun y hy hp=>hl y ((h.mem y).2 ⟨hy,by rw[Zmg]at hp;simpa using hp⟩)
theorem TpI.pop{l:List Edge}{ids L xs ys:Gv}{g:Int->Int}{m:Int}(h:TpI l ids L [] xs g)(hp:(ys++[m]).Perm xs):TpI l ids (L.erase m) (Ze2 l ids m) ys g:=by
 have uQ:m∈xs:=hp.mem_iff.1 (by simp);have tf:=(h.mem m).1 uQ;have cn:=ZcJ h.rise;have pr:=h.sub m tf.1;have hs:∀x∈ids,Zcj l L x=Zcj l (L.erase m) x+(Ze2 l ids m).count x:=fun x hx=>ZkV ids L m x tf.1 cn pr hx l
 have hyn:(ys++[m]).Nodup:=hp.nodup_iff.2 h.nodup;refine⟨h.rise.sublist List.erase_sublist,fun x hx=>h.sub x (List.mem_of_mem_erase hx),fun x hx=>?_,?_,fun x hx hn=>?_,fun x hx=>Zrs l ids m x hx⟩
 ·rw[h.cnt x hx,<-hs x hx];simp
 ·refine(List.perm_ext_iff_of_nodup (List.nodup_append.1 hyn).1 ((cn.erase m).filter _)).2 fun x=>?_
  rw[Fw,beq_iff_eq,cn.mem_erase_iff];have h1:x∈xs↔x∈ys∨x=m:=by rw[<-hp.mem_iff,Fu,Fa]
  have h2:=h.mem x;have h3:m∉ys:=fun hm=>(List.nodup_append.1 hyn).2.2 m hm m (by simp) rfl
  constructor
  ·intro hx;have h4:=h2.1 (h1.2 (Or.inl hx));refine⟨⟨fun e=>h3 (e▸hx),h4.1⟩,?_⟩;rw[<-hs x (h.sub x h4.1)];simpa using h4.2
  ·rintro⟨⟨h4,h5⟩,h6⟩;rw[<-hs x (h.sub x h5)]at h6;rcases h1.1 (h2.2 ⟨h5,by simpa using h6⟩)with h7|h7
   ·exact h7
   ·exact absurd h7 h4
 ·rw[<-hs x hx];rw[cn.mem_erase_iff]at hn
  by_cases e:x=m
  ·subst e;simpa using tf.2
  ·simpa using h.gone x hx (fun h=>hn ⟨e,h⟩)
theorem TpI.start{l:List Edge}{ids L xs:Gv}{g:Int->Int}(hL:L.Pairwise (·<·))(hm:∀x,x∈L↔x∈ids)(hg:∀x∈ids,g x=1+((Zcj l ids x:Nat):Int))(hx:xs.Perm (L.filter fun x=>g x==1)):TpI l ids L [] xs g:=by
 have hc:∀x,Zcj l L x=Zcj l ids x:=fun x=>by unfold Zcj;simp only[hm]
 refine⟨hL,fun x hx=>(hm x).1 hx,fun x hx=>by rw[hg x hx,hc];simp,?_,fun x hx hn=>absurd ((hm x).2 hx) hn,fun _ h=>by cases h⟩
 have:(L.filter fun x=>Zcj l L x+([]:Gv).count x==0)=L.filter fun x=>g x==1:=List.filter_congr fun x hx=>by
  rw[hg x ((hm x).1 hx),hc,Bool.eq_iff_iff,beq_iff_eq,beq_iff_eq,List.count_nil];omega
 rw[this];exact hx
/- Edges,reads and witnesses by the document,in plain words;for right histories they are what the program tells. -/
section
variable {h:Hist}
theorem Ziz(hr:Zc h=true){i:Nat}(hi:i<h.txs.length):Zdu h.txs i=true:=by
 unfold Zc at hr;simp only[Fp,Fn,F8]at hr;exact hr.1.1.2 i hi
theorem Zep(hr:Zc h=true):(h.txs.map (·.id)).Pairwise (·<·):=ZjD fun j hj=>by
 rw[F6]at hj;have:=Ziz hr hj;unfold Zdu at this;rw[Qg hj]at this;simp only[Fp]at this;have h1:=this.1.1;simp only[Qg (show j<h.txs.length by omega),Ff]at h1;rw[List.getD_eq_getElem?_getD,List.getD_eq_getElem?_getD,List.getElem?_map,List.getElem?_map,Qg hj,Qg (show j<h.txs.length by omega)];exact h1
theorem ZiC(hr:Zc h=true){t:HTx}(ht:t∈h.txs):Zh h.txs t.id=some t:=by
 obtain⟨k,hk,rfl⟩:=E8.1 ht;have hp:=List.pairwise_iff_getElem.1 (Zep hr);refine Zf9 hk (fun j hj=>?_) (by simp);have:=hp j k (by simp;omega) (by simpa using hk) hj;simp only[Fk]at this;rw[beq_eq_false_iff_ne];omega
theorem ZdO{txs:List HTx}{i:Int}{t:HTx}(hf:Zh txs i=some t):t∈txs∧t.id=i:=by
 refine⟨Ze6 hf,?_⟩;unfold Zh at hf;have:=List.find?_some hf
 simpa using this
theorem ZbJ(hr:Zc h=true){t:HTx}(ht:t∈h.txs):Z3 t.id t.ops=0∧Zb1 h.txs t.id t.ops=true:=by
 obtain⟨k,hk,rfl⟩:=E8.1 ht;have:=Ziz hr hk;unfold Zdu at this;rw[Qg hk]at this;simp only[Fp,beq_iff_eq]at this;exact⟨this.1.2,this.2⟩
theorem ZhX(hr:Zc h=true){t:HTx}(ht:t∈h.txs):1<=t.id:=by
 have:=(ZbJ hr ht).1;unfold Z3 at this
 split at this
 ·cases this
 ·rename_i hid
  unfold idB at hid;simp at hid;exact hid.1
theorem Zkq(id:Int)(l:Gu):∀k,k<=l.length->∀j (hj:j<k) (hl:j<l.length),Zcl id l[j]=true->Zw l[j]∈ZaA id l k
 |0,_,j,hj,_,_=>by omega
 |k+1,hk,j,hj,hl,hn=>by
  have ih:=Zkq id l k (by omega)
  show Zw l[j]∈(match l[k]? with|some o=>_|none=>_)
  rw[Qg (show k<l.length by omega)]
  by_cases e:j=k
  ·subst e;simp only[hn,Bool.true_and]
   by_cases hc:Zw l[j]∈ZaA id l j
   ·simp[hc]
   ·simp[hc]
  ·have:=ih j (by omega) hl hn;simp only
   split
   ·exact E9 _ this
   ·exact this
theorem Zpl(hr:Zc h=true){t:HTx}(ht:t∈h.txs){o:HOp}(ho:o∈t.ops)(hn:Zcl t.id o=true):ZaT h.txs (Zw o)=true:=by
 have h1:=(ZbJ hr ht).2;unfold Zb1 at h1;rw[Fn]at h1;obtain⟨j,hj,rfl⟩:=E8.1 ho;exact h1 _ (Zkq t.id t.ops _ (Nat.le_refl _) j hj hj hn)
theorem ZmN(hr:Zc h=true){t:HTx}(ht:t∈h.txs){o:HOp}(ho:o∈t.ops)(hrd:o.read=true)(h0:o.tx≠0)(h1:o.tx≠t.id):∃u,Zh h.txs o.tx=some u:=by
 have hv:Zw o=⟨o.tx,o.key,o.nth⟩:=by unfold Zw;rw[if_pos hrd]
 have:=Zpl hr ht ho (by unfold Zcl;rw[hv];simp[hrd,h0,h1]);rw[hv]at this
 cases hf:Zh h.txs o.tx with
 |some u=>exact⟨u,rfl⟩
 |none=>
  unfold ZaT at this;simp[h0,hf]at this
end
/-! how often there is a reason for an edge -/
def p2(f key:Int)(n:Nat)(o:HOp):Bool:=o.read&&o.key==key&&o.tx==f&&o.nth==(n:Int)
def p3(h:Hist)(id key t:Int)(o:HOp):Bool:=o.read&&o.key==key&& !(o.tx==id)&&ZbR h.txs ⟨o.tx,o.key,o.nth⟩&&Zc4 h.ords key o.tx t
def ZH(h:Hist)(e:Edge):Nat:=
 match ZU h.txs e.f,ZU h.txs e.t with
 |some a,some b=>
  if e.f=e.t then 0
  else if e.k=1 then (if Zc4 h.ords e.key e.f e.t then 1 else 0)
  else if e.k=2 then b.ops.countP (p2 e.f e.key (Zd a.ops e.key))
  else if e.k=3 then a.ops.countP (p3 h a.id e.key e.t)
  else 0
 |_,_=>0
theorem Zcg{txs:List HTx}{i:Int}{t:HTx}(hd:ZU txs i=some t):Zh txs i=some t∧t.done=true:=by
 unfold ZU at hd
 split at hd
 ·split at hd
  ·rename_i u hf hu
   cases hd
   exact⟨hf,hu⟩
  ·cases hd
 ·cases hd
theorem Zjm{α:Type}(p:α->Bool)(l:List α):decide (0<l.countP p)=l.any p:=by
 rw[Bool.eq_iff_iff,Ff,List.countP_pos_iff,List.any_eq_true]
theorem Zhd{α:Type}{p q:α->Bool}:∀{l:List α},(∀x∈l,p x=q x)->l.any p=l.any q
 |[],_=>rfl
 |a::l,h=>by
  rw[List.any_cons,List.any_cons,h a (Fc ..),Zhd fun x hx=>h x (E7 _ hx)]
theorem Ztv(c:Prop)[Decidable c](a b:Nat):decide (0<(if c then a else b))=if c then decide (0<a) else decide (0<b):=by split<;>rfl
theorem Zmu{h:Hist}(hr:Zc h=true)(e:Edge):decide (0<ZH h e)=Zgb h e:=by
 unfold ZH Zgb
 cases hd1:ZU h.txs e.f with
 |none=>rfl
 |some a=>
  cases hd2:ZU h.txs e.t with
  |none=>rfl
  |some b=>
   simp only[Ztv];have ha:=ZdO (Zcg hd1).1;have hb:=ZdO (Zcg hd2).1
   by_cases h0:e.f=e.t
   ·rw[if_pos h0,if_pos h0];rfl
   ·rw[if_neg h0,if_neg h0]
    by_cases h1:e.k=1
    ·rw[if_pos h1,if_pos h1]
     cases Zc4 h.ords e.key e.f e.t<;>rfl
    ·rw[if_neg h1,if_neg h1]
     by_cases h2:e.k=2
     ·rw[if_pos h2,if_pos h2,Zjm];unfold Zfs;refine Zhd fun o _=>?_
      unfold p2
      cases hrd:o.read
      ·rfl
      ·have hv:Zw o=⟨o.tx,o.key,o.nth⟩:=by unfold Zw;rw[if_pos hrd]
       rw[hv]
       dsimp only
       by_cases hk:o.key=e.key
       ·by_cases ht:o.tx=e.f
        ·have h3:(o.tx==b.id)=false:=by rw[beq_eq_false_iff_ne,ht,hb.2];exact h0
         have vC:e.f≠0:=by have:=ZhX hr ha.1;rw[ha.2]at this;omega
         have h4:ZbR h.txs ⟨o.tx,o.key,o.nth⟩=(o.nth==(Zd a.ops e.key:Int)):=by
          unfold ZbR;simp only[ht,hd1,if_neg vC,hk]
         rw[h3,h4];simp[hk,ht]
        ·have:(o.tx==e.f)=false:=by rw[beq_eq_false_iff_ne];exact ht
         simp[this]
       ·have:(o.key==e.key)=false:=by rw[beq_eq_false_iff_ne];exact hk
        simp[this]
     ·rw[if_neg h2,if_neg h2]
      by_cases h3:e.k=3
      ·rw[if_pos h3,if_pos h3,Zjm];unfold Zfs;refine Zhd fun o _=>?_
       unfold p3
       cases hrd:o.read
       ·rfl
       ·have hv:Zw o=⟨o.tx,o.key,o.nth⟩:=by unfold Zw;rw[if_pos hrd]
        rw[hv];simp[Bool.and_assoc]
      ·rw[if_neg h3,if_neg h3];rfl
/-! bad reads -/
def ZaX(txs:List HTx)(t:HTx)(p:Int)(o:HOp):Bool:=
 t.done&&o.read&& !(o.tx==0)&& !(o.tx==t.id)&&(match Zh txs o.tx with|none=>false|some u=>if p=2 then !u.done else p==3&&decide (o.nth<(Zd u.ops o.key:Int)))
def ZbI(txs:List HTx)(p:Int)(t:HTx)(i:Nat)(acc:Gp):Gu->List HBad
 |[]=>acc
 |o::l=>ZbI txs p t (i+1) (if ZaX txs t p o then acc++[⟨t.id,i,Zw o⟩] else acc) l
def Zcw(txs:List HTx)(p:Int)(acc:Gp):List HTx->List HBad
 |[]=>acc
 |t::l=>Zcw txs p (ZbI txs p t 0 acc t.ops) l
def Zab(h:Hist)(p:Int):Gp:=if Zc h=true then Zcw h.txs p [] h.txs else []
theorem Zkw(txs:List HTx)(p:Int)(t:HTx)(b:HBad):∀(l:Gu) (i:Nat) (acc:Gp),b∈ZbI txs p t i acc l↔b∈acc∨∃(j:Nat) (o:HOp),l[j]? =some o∧ZaX txs t p o=true∧b=⟨t.id,((i+j:Nat):Int),Zw o⟩
 |[],i,acc=>by simp[ZbI]
 |o::l,i,acc=>by
  show b∈ZbI txs p t (i+1) (if ZaX txs t p o then acc++[⟨t.id,i,Zw o⟩] else acc) l↔_
  rw[Zkw txs p t b l]
  constructor
  ·rintro(h|⟨j,o',h1,h2,h3⟩)
   ·by_cases hb:ZaX txs t p o=true
    ·rw[if_pos hb,Fu,Fa]at h;rcases h with h|h
     ·exact .inl h
     ·exact .inr ⟨0,o,rfl,hb,by simpa using h⟩
    ·rw[if_neg hb]at h;exact .inl h
   ·exact .inr ⟨j+1,o',by simpa using h1,h2,by rw[h3];congr 2;omega⟩
  ·rintro(h|⟨j,o',h1,h2,h3⟩)
   ·left
    split
    ·exact E9 _ h
    ·exact h
   ·cases j with
    |zero=>
     simp only[Qz,Fh]at h1;subst h1
     left
     rw[if_pos h2,Fu,Fa];exact .inr (by simpa using h3)
    |succ j=>
     right
     exact⟨j,o',by simpa using h1,h2,by rw[h3];congr 2;omega⟩
theorem Zkx(txs:List HTx)(p:Int)(b:HBad):∀(l:List HTx) (acc:Gp),b∈Zcw txs p acc l↔b∈acc∨∃t∈l,∃(j:Nat) (o:HOp),t.ops[j]? =some o∧ZaX txs t p o=true∧b=⟨t.id,(j:Int),Zw o⟩
 |[],acc=>by simp[Zcw]
 |t::l,acc=>by
  show b∈Zcw txs p (ZbI txs p t 0 acc t.ops) l↔_
  rw[Zkx txs p b l,Zkw];simp only[Nat.zero_add,F9,exists_eq_or_imp]
  grind
/-! witnesses -/
/- The document:who is next,which version is the last one,which read may not be. -/
theorem Zmb(x:Int):∀(l:Gv) (k:Nat),ZdN x l k=if Zbt l x<l.length then ((Zbt l x+k:Nat):Int) else -1
 |[],k=>by simp[ZdN,Zbt]
 |y::l,k=>by
  rw[ZgW,Zmb x l (k+1)];unfold Zbt;rw[List.findIdx_cons]
  by_cases h:y=x
  ·rw[if_pos h,show(y==x)=true by simpa using h];simp
  ·rw[if_neg h,show(y==x)=false by simpa using h];simp only[cond_false,Fs]
   by_cases h2:l.findIdx (·==x)<l.length
   ·rw[if_pos h2,if_pos (by omega)];congr 1;omega
   ·rw[if_neg h2,if_neg (by omega)]
theorem Zte(x:Int)(l:Gv):ZdN x l 0=if Zbt l x<l.length then (Zbt l x:Int) else -1:=by
 rw[Zmb];rfl
theorem Zvg(F:Gt)(w:Gy)(A:OA)(c:Nat)(l:Gv)(tx:Int)(h:Ints F w A l)(hl:l.length<=17592186044415):
  Calls Tryz.prog 98 #[.slice A l.length c,Qi tx] w (ZqA w (ZaI l tx)):=by
 have cT:=Zt6 F w A c l tx h hl;rw[Zte]at cT
 by_cases h0:tx=0
 ·have hn:=Qh (show ZaI l tx=l[0]? by unfold ZaI;rw[if_pos h0]);have ju:(tx==0)=true:=by simpa using h0
  obtain⟨iv,yW⟩:=Qe ((if Zbt l tx<l.length then (Zbt l tx:Int) else -1));rw[yW]at cT;have fw:=Qh cT;clear cT yW h0
  by_cases hz:l.length=0
  ·have ex:=Qh (show ZaI l tx=none by rw[hn.out];exact List.getElem?_eq_none (by omega));obtain rfl:l=[]:=Et hz;clear hz;go_enter Tryz.func98,Tryz.ntmps98;go_wp2_with fail;refine Ck fw.out fun w1 hu1=>?_;go_wp2;go_ret2;exact⟨by rw[ex.out];rfl,hu1⟩
  ·have hp:0<l.length:=by omega
   have ex:=Qh (show ZaI l tx=some l[0] by rw[hn.out];exact Qg hp);have Ec:(0:Int)<(l.length:Int):=by omega
   have Be:¬l=[]:=fun e=>by rw[e]at hp;simp at hp
   have hC:∀W,Upd No w W->∃ad,A=some ad∧W.cell? ad=some (Qi l[0]):=fun W hW=>by
    obtain⟨ad,hA,_,_,hc⟩:=(h.upd hW Qo).at_ hp;have ha:ad.add 0=ad:=by unfold Addr.add;simp
    rw[ha]at hc;exact⟨ad,hA,hc⟩
   obtain⟨ad,rfl,_⟩:=hC w (Gg _ _)
   have cZ:∀W,Upd No w W->W.cell? ad=some (Qi l[0]):=fun W hW=>by
    obtain⟨ad',e,hc⟩:=hC W hW
    cases e
    exact hc
   clear hz hC;go_enter Tryz.func98,Tryz.ntmps98;go_wp2_with fail;refine Ck fw.out fun w1 hu1=>?_;go_wp2;go_ret2;exact⟨by rw[ex.out];rfl,hu1⟩
 ·have hn:=Qh (show ZaI l tx=if Zbt l tx<l.length then l[Zbt l tx+1]? else none by unfold ZaI;rw[if_neg h0]);have ju:(tx==0)=false:=by simpa using h0
  clear h0
  by_cases hp:Zbt l tx<l.length
  ·rw[if_pos hp]at cT;have fw:=Qh cT;clear cT;obtain⟨k,hk⟩:=Qe (Zbt l tx);rw[hk]at fw hn hp;clear hk;have hk0:(0:Int)<=(k:Int)+1:=by omega
   by_cases he:k+1=l.length
   ·have ex:=Qh (show ZaI l tx=none by rw[hn.out,if_pos hp];exact List.getElem?_eq_none (by omega));have dO:(l.length:Int)<=(k:Int)+1:=by omega
    have He:=Qh he;clear he;go_enter Tryz.func98,Tryz.ntmps98;go_wp2_with fail;refine Ck fw.out fun w1 hu1=>?_;go_wp2;go_ret2;exact⟨by rw[ex.out];rfl,hu1⟩
   ·have hlt:k+1<l.length:=by omega
    have ex:=Qh (show ZaI l tx=some l[k+1] by rw[hn.out,if_pos hp];exact Qg hlt);have dO:¬(l.length:Int)<=(k:Int)+1:=by omega
    obtain⟨ad,hA,_,_,_⟩:=h.at_ hlt;subst hA
    have fV:∀W,Upd No w W->W.cell? ⟨ad.block,ad.off+(k+1),none⟩=some (Qi l[k+1]):=fun W hW=>by
     obtain⟨ad',e,_,_,hc⟩:=(h.upd hW Qo).at_ hlt
     cases e
     rw[<-hc]
     congr 1
    have BJ:(k:Int)+1<(l.length:Int):=by omega
    clear he;go_enter Tryz.func98,Tryz.ntmps98;go_wp2_with fail;refine Ck fw.out fun w1 hu1=>?_;go_wp2;go_ret2;exact⟨by rw[ex.out];rfl,hu1⟩
  ·rw[if_neg hp]at cT;have fw:=Qh cT;clear cT;have ex:=Qh (show ZaI l tx=none by rw[hn.out,if_neg hp]);clear hp;go_enter Tryz.func98,Tryz.ntmps98;go_wp2_with fail;refine Ck fw.out fun w1 hu1=>?_;go_wp2;go_ret2;exact⟨by rw[ex.out];rfl,hu1⟩
/- Looking at a history:reads that may not be. -/
def Zbr(txs:List HTx)(i:Int):Bool:=match Zh txs i with|some u=>u.done|none=>false
def ZbV(txs:List HTx)(i:Int):Gu:=match Zh txs i with|some u=>u.ops|none=>[]
section
variable {txs:List HTx} {p:Int} {b:HBad}
end
theorem Zwh(w:Gy)(k t n:Int):CN 104 #[.agg #[.bool true,Qi k,Qi t,Qi n]] w (.agg #[Qi t,Qi k,Qi n]):=oof w ⟨true,k,t,n⟩
/- Looking at a history:witnesses. -/
def ZoI(b:HBad):Gz:= .agg #[Qi b.tx,Qi b.place,Qi b.of.tx,Qi b.of.key,Qi b.of.nth]
theorem ZnL(w:Gy)(n:Nat)(a b c a' b' c':Int):(Op.equalIn (n+1+1) 36 (.agg #[Qi a,Qi b,Qi c]) (.agg #[Qi a',Qi b',Qi c'])).run Tryz.prog w= .ok (decide ((⟨a,b,c⟩:Ver)=⟨a',b',c'⟩)) w:=by
 rw[run_equalIn_struct w _ _ _ _ (by kernel_rfl) (by kernel_rfl)];have hI:∀(w:Gy) (d:Nat) (x y:Int),(Op.equalIn (d+1) 3 (Qi x) (Qi y)).run Tryz.prog w= .ok (x==y) w:=fun w d x y=>run_equalIn_int w d _ _ _ x y Tryz.underlying3
 by_cases h1:a=a'<;>by_cases h2:b=b'<;>by_cases h3:c=c'<;>
  simp[Program.fieldsOf,Tryz.underlying36,Op.eqFields,part,hI,h1,h2,h3,Result.andThen]
theorem Zqr(w:Gy)(x y:HBad):(Op.equalIn 10000 38 (ZoI x) (ZoI y)).run Tryz.prog w= .ok (decide (x=y)) w:=by
 obtain⟨a,b,⟨c,d,e⟩⟩:=x;obtain⟨a',b',⟨c',d',e'⟩⟩:=y;unfold ZoI
 show(Op.equalIn (9997+1+1+1) _ _ _).run _ w=_
 rw[run_equalIn_struct w _ _ _ _ (by kernel_rfl) (by kernel_rfl)];generalize 9997=n;have hI:∀(w:Gy) (d:Nat) (x y:Int),(Op.equalIn (d+1) 3 (Qi x) (Qi y)).run Tryz.prog w= .ok (x==y) w:=fun w d x y=>run_equalIn_int w d _ _ _ x y Tryz.underlying3
 have hV:=fun w=>ZnL w n c d e c' d' e'
 have hp:∀(w:Gy) (q r c d e:Gz),(part 36 #[q,r,c,d,e] 2).run Tryz.prog w= .ok (.agg #[c,d,e]) w:=fun w q r c d e=>by
  obtain⟨i,hi,_,hs,_⟩:=info_parts (P:=Tryz.prog) (e:=36) (z:= .agg #[Qi 0,Qi 0,Qi 0]) (size:=3) (bytes:=24) (by kernel_rfl);simp[part,isAgg,run_underlying Tryz.underlying36,sizeOf,typeInfo,hi,hs,Result.andThen]
 have ia:∀(w:Gy) (q r c d e:Gz),(part 3 #[q,r,c,d,e] 0).run Tryz.prog w= .ok q w:=fun w q r c d e=>by simp[part,isAgg,run_underlying Tryz.underlying3]
 have cV:∀(w:Gy) (q r c d e:Gz),(part 3 #[q,r,c,d,e] 1).run Tryz.prog w= .ok r w:=fun w q r c d e=>by simp[part,isAgg,run_underlying Tryz.underlying3]
 by_cases h1:a=a'<;>by_cases h2:b=b'<;>by_cases h3:(⟨c,d,e⟩:Ver)=⟨c',d',e'⟩<;>
  simp[Program.fieldsOf,Tryz.underlying38,Op.eqFields,hp,ia,cV,hI,hV,h1,h2,h3,Result.andThen]
section
variable {h:Hist} {p:Int} {l:List Edge} {b:HBad}
end
theorem Ztg{F:Gt}{w:Gy}{txs:List HTx}{ords:Gq}{A:OA}{c:Nat}{B:OA}{d:Nat}{r:Bool}(H:Hist.lies F w ⟨txs,ords,A,c,B,d⟩)(hr:Zc ⟨txs,ords,A,c,B,d⟩=r):
  CN 78 #[.agg #[.slice A txs.length c,.slice B ords.length d]] w (.bool r):=by subst hr;exact Zp6 F w ⟨txs,ords,A,c,B,d⟩ H
/- The document:which version is the last one,which reads may not be. -/
theorem Zoa{txs:List HTx}{v:Ver}(h:v.tx=0):ZbR txs v=true:=by unfold ZbR;rw[if_pos h]
theorem Zoc{txs:List HTx}{v:Ver}(h:¬v.tx=0)(hf:Zh txs v.tx=none):ZbR txs v=false:=by unfold ZbR ZU;rw[if_neg h,hf]
theorem Zob{txs:List HTx}{v:Ver}{t:HTx}(h:¬v.tx=0)(hf:Zh txs v.tx=some t):ZbR txs v=(t.done&&v.nth==(Zd t.ops v.key:Int)):=by
 unfold ZbR ZU;rw[if_neg h,hf]
 cases hd:t.done<;>simp[hd]
theorem Zvh(F:Gt)(w:Gy)(txs:List HTx)(ords:Gq)(A:OA)(c:Nat)(B:OA)(d:Nat)(o:HOp)(H:Hist.lies F w ⟨txs,ords,A,c,B,d⟩):
  CN 99 #[.agg #[.slice A txs.length c,.slice B ords.length d],.agg o.cells.toArray] w (.bool (ZbR txs ⟨o.tx,o.key,o.nth⟩)):=by
 obtain⟨rd,ky,tx,nt⟩:=o;unfold HOp.cells;simp only;have u0:=((Gg No w).alloc (.cells #[.slice A txs.length c,.slice B ords.length d] 29)).alloc (.cells #[.bool rd,Qi ky,Qi tx,Qi nt] 50);have bH:=Qh ((Gh w 29 [.slice A txs.length c,.slice B ords.length d]).alloc (.cells #[.bool rd,Qi ky,Qi tx,Qi nt] 50));have b1:=Gh (w.alloc (.cells #[.slice A txs.length c,.slice B ords.length d] 29)) 50 [.bool rd,Qi ky,Qi tx,Qi nt];simp only[Ge]at b1;have bX:=Qh b1;have U0:=Qh u0;clear b1 u0;have HH:=Qh (H.upd U0.out Qo)
 by_cases h0:tx=0
 ·have HV:=Qh (Zoa (txs:=txs) (v:=⟨tx,ky,nt⟩) h0);have hb:(tx==0)=true:=by simpa using h0
  clear h0;go_enter Tryz.func99,Tryz.ntmps99;go_wp2;go_ret;exact⟨by rw[HV.out];rfl,U0.out⟩
 ·have hb:(tx==0)=false:=by simpa using h0
  cases hf:Zh txs tx with
  |none=>
   have HV:=Qh (Zoc (txs:=txs) (v:=⟨tx,ky,nt⟩) h0 hf);have HF:=Qh hf;clear hf h0;go_enter Tryz.func99,Tryz.ntmps99;go_wp2_with fail;refine Ck (Zdz HH.out HF.out) fun w1 hu1=>?_;have uT:=hu1.alloc (.cells #[Qi 0,.bool false,.slice none 0 0] 53);clear hu1;go_wp2;refine wpS (fun w'=>Upd No (w1.alloc (.cells #[Qi 0,.bool false,.slice none 0 0] 53)) w') ?_ fun jH=>?_
   ·(first|exact(Gg No _).drew|exact jH.trans hu3)
   (iterate 12 refine wpF ?_);refine wpZ 12 rfl fun K hK=>?_;go_simp;refine hK.out _ _ ?_ fun jH=>?_
   ·exact jH
   try simp only[Qa]
   (iterate 3 refine wpF ?_);refine wpD (Gd ?_);have HU:=Qh (U0.out.trans (uT.trans jH));clear jH;go_wp2;go_ret;exact⟨by rw[HV.out];rfl,HU.out⟩
  |some t=>
   have HV:=Qh (Zob (txs:=txs) (v:=⟨tx,ky,nt⟩) h0 hf);have HF:=Qh hf;have HT:=Qh (H.tx t (Zf8 hf));clear hf h0;obtain⟨ti,td,tO,tA,tc⟩:=t;go_enter Tryz.func99,Tryz.ntmps99;go_wp2_with fail;refine(ZbB HH.out HF.out).mono ?_;rintro e w1 ⟨A1,c1,rfl,cZ,bq,hu1⟩;simp only at cZ bq HV;have bT:=Gh w1 53 [Qi ti,.bool td,.slice A1 tO.length c1];have uT:=hu1.alloc (.cells #[Qi ti,.bool td,.slice A1 tO.length c1] 53);have t1:∀W,Upd No (w1.alloc (.cells #[Qi ti,.bool td,.slice A1 tO.length c1] 53)) W->W.cell? ⟨w1.heap.size,1,none⟩=some (.bool td):=fun W hW=>(bT.upd hW id).cell 1
   have t2:∀W,Upd No (w1.alloc (.cells #[Qi ti,.bool td,.slice A1 tO.length c1] 53)) W->W.cell? ⟨w1.heap.size,2,none⟩=some (.slice A1 tO.length c1):=fun W hW=>(bT.upd hW id).cell 2
   have x1:∀W,Upd No (w1.alloc (.cells #[Qi ti,.bool td,.slice A1 tO.length c1] 53)) W->W.cell? ⟨w.heap.size+1,1,none⟩=some (Qi ky):=fun W hW=>(bX.out.upd (uT.trans hW) id).cell 1
   have x3:∀W,Upd No (w1.alloc (.cells #[Qi ti,.bool td,.slice A1 tO.length c1] 53)) W->W.cell? ⟨w.heap.size+1,3,none⟩=some (Qi nt):=fun W hW=>(bX.out.upd (uT.trans hW) id).cell 3
   have HW:=Qh fun W (hW:Upd No (w1.alloc (.cells #[Qi ti,.bool td,.slice A1 tO.length c1] 53)) W)=>ZcI F W A1 c1 tO ky (HOps.upd bq (((Gg No _).alloc _).trans hW) Qo) HT.out.2.2.1
   have UT:=Qh uT;clear bT uT hu1 bq
   cases td
   ·go_wp2;refine wpS (fun w'=>Upd No (w1.alloc (.cells #[Qi ti,.bool false,.slice A1 tO.length c1] 53)) w') ?_ fun jH=>?_
    ·(first|exact(Gg No _).drew|exact jH.trans hu3)
    (iterate 12 refine wpF ?_);refine wpZ 12 rfl fun K hK=>?_;go_simp;refine hK.out _ _ ?_ fun jH=>?_
    ·exact jH
    try simp only[Qa]
    (iterate 3 refine wpF ?_);refine wpD (Gd ?_);have HU:=Qh (U0.out.trans (UT.out.trans jH));clear jH;go_wp2;go_ret;exact⟨by rw[HV.out];rfl,HU.out⟩
   ·go_wp2;refine wpS (fun w'=>Upd No (w1.alloc (.cells #[Qi ti,.bool true,.slice A1 tO.length c1] 53)) w') ?_ fun jH=>?_
    ·(first|exact(Gg No _).drew|exact jH.trans hu3)
    (iterate 12 refine wpF ?_);refine wpZ 12 rfl fun K hK=>?_;go_simp
    (first
  |(go_at_call 88;refine Ck (HW.out _ jH) fun w3 hu3=>?_))
    try (go_wp2_with fail)
    refine hK.out _ _ ?_ fun jH=>?_
    ·(first|exact(Gg No _).drew|exact jH.trans hu3)
    try simp only[Qa]
    (iterate 3 refine wpF ?_);refine wpD (Gd ?_);have HU:=Qh (U0.out.trans (UT.out.trans jH));clear jH;go_wp2;go_ret;exact⟨by rw[HV.out];rfl,HU.out⟩
theorem ZtB(txs:List HTx)(i0:Int)(dn:Bool)(l:Gu)(A:OA)(c:Nat)(p:Int)(rd:Bool)(ky tx nt:Int):
  ZaX txs ⟨i0,dn,l,A,c⟩ p ⟨rd,ky,tx,nt⟩=(dn&&(rd&&(!(tx==0)&&(!(tx==i0)&&(match Zh txs tx with|none=>false|some u=>if p=2 then !u.done else p==3&&decide (nt<(Zd u.ops ky:Int))))))):=by
 unfold ZaX;simp only[Bool.and_assoc]
 try rfl
theorem Zwb(F:Gt)(w:Gy)(txs:List HTx)(ords:Gq)(A:OA)(c:Nat)(B:OA)(d:Nat)(i0:Int)(dn:Bool)(A1:OA)(c1:Nat)(l:Gu)(k:Nat)(p:Int)(o:HOp)
  (H:Hist.lies F w ⟨txs,ords,A,c,B,d⟩) (h:HOps F w A1 l) (hl:Zp l.length) (hk:k<l.length) (ho:l[k]=o):
  CN 51 #[.agg #[.slice A txs.length c,.slice B ords.length d],.agg #[Qi i0,.bool dn,.slice A1 l.length c1],Qi (k:Int),Qi p] w (.bool (ZaX txs ⟨i0,dn,l,A1,c1⟩ p o)):=by
 unfold Zp at hl;have u0:=((Gg No w).alloc (.cells #[.slice A txs.length c,.slice B ords.length d] 29)).alloc (.cells #[Qi i0,.bool dn,.slice A1 l.length c1] 53);have bH:=Qh ((Gh w 29 [.slice A txs.length c,.slice B ords.length d]).alloc (.cells #[Qi i0,.bool dn,.slice A1 l.length c1] 53));have b1:=Gh (w.alloc (.cells #[.slice A txs.length c,.slice B ords.length d] 29)) 53 [Qi i0,.bool dn,.slice A1 l.length c1];simp only[Ge]at b1;have bX:=Qh b1;have U0:=Qh u0;clear b1 u0;obtain⟨rd,ky,tx,nt⟩:=o;obtain⟨ad,aA,q0,q1,q2,q3⟩:=(h.upd U0.out Qo).at_ hk;rw[ho]at q0 q1 q2 q3;simp only at q0 q1 q2 q3;subst aA;have hv:=ZtB txs i0 dn l (some ad) c1 p rd ky tx nt;have b1:(0:Int)<=(k:Int):=Qn _;have b2:(k:Int)<(l.length:Int):=by omega
 have U1:=Qh (U0.out.alloc (.cells #[.bool rd,Qi ky,Qi tx,Qi nt] 50));have bK:=Gh ((w.alloc (.cells #[.slice A txs.length c,.slice B ords.length d] 29)).alloc (.cells #[Qi i0,.bool dn,.slice (some ad) l.length c1] 53)) 50 [.bool rd,Qi ky,Qi tx,Qi nt];simp only[Ge]at bK;have bO:=Qh bK;clear ho bK
 cases dn
 ·have HV:=Qh (show ZaX txs ⟨i0,false,l,some ad,c1⟩ p ⟨rd,ky,tx,nt⟩=false by rw[hv];rfl);clear hv;go_enter Tryz.func51,Tryz.ntmps51;go_wp2;go_ret;exact⟨by rw[HV.out];rfl,U1.out⟩
 ·cases rd
  ·have HV:=Qh (show ZaX txs ⟨i0,true,l,some ad,c1⟩ p ⟨false,ky,tx,nt⟩=false by rw[hv];rfl);clear hv;go_enter Tryz.func51,Tryz.ntmps51;go_wp2;go_ret;exact⟨by rw[HV.out];rfl,U1.out⟩
  ·by_cases h0:tx=0
   ·have HV:=Qh (show ZaX txs ⟨i0,true,l,some ad,c1⟩ p ⟨true,ky,tx,nt⟩=false by rw[hv,h0];rfl);have ju:(tx==0)=true:=by simpa using h0
    clear hv h0;go_enter Tryz.func51,Tryz.ntmps51;go_wp2;go_ret;exact⟨by rw[HV.out];rfl,U1.out⟩
   ·have ju:(tx==0)=false:=by simpa using h0
    by_cases h1:tx=i0
    ·have HV:=Qh (show ZaX txs ⟨i0,true,l,some ad,c1⟩ p ⟨true,ky,tx,nt⟩=false by rw[hv,h1];simp);have ld:(tx==i0)=true:=by simpa using h1
     clear hv h0 h1;go_enter Tryz.func51,Tryz.ntmps51;go_wp2;go_ret;exact⟨by rw[HV.out];rfl,U1.out⟩
    ·have ld:(tx==i0)=false:=by simpa using h1
     have HH:=Qh (H.upd U1.out Qo)
     cases hf:Zh txs tx with
     |none=>
      have HV:=Qh (show ZaX txs ⟨i0,true,l,some ad,c1⟩ p ⟨true,ky,tx,nt⟩=false by rw[hv,hf];simp);have HF:=Qh hf;clear hv h0 h1 hf;go_enter Tryz.func51,Tryz.ntmps51;go_wp2_with fail;refine Ck (Zdz HH.out HF.out) fun w1 hu1=>?_;have HU:=Qh (U1.out.trans (hu1.alloc (.cells #[Qi 0,.bool false,.slice none 0 0] 53)));clear hu1;go_wp2;go_ret;exact⟨by rw[HV.out];rfl,HU.out⟩
     |some t=>
      have hv2:ZaX txs ⟨i0,true,l,some ad,c1⟩ p ⟨true,ky,tx,nt⟩=(if p=2 then !t.done else p==3&&decide (nt<(Zd t.ops ky:Int))):=by rw[hv,hf,ju,ld];rfl
      have HF:=Qh hf;have HT:=Qh (H.tx t (Zf8 hf));clear hv h0 h1 hf;obtain⟨ti,td,tO,tA,tc⟩:=t;simp only at hv2
      by_cases h2:p=2
      ·have HV:=Qh (show ZaX txs ⟨i0,true,l,some ad,c1⟩ p ⟨true,ky,tx,nt⟩= !td by rw[hv2,if_pos h2]);have vE:(p==2)=true:=by simpa using h2
       clear hv2 h2;go_enter Tryz.func51,Tryz.ntmps51;go_wp2_with fail;refine(ZbB HH.out HF.out).mono ?_;rintro e w1 ⟨A2,c2,rfl,fV,ic,hu1⟩;have HU:=Qh (U1.out.trans (hu1.alloc (.cells #[Qi ti,.bool td,.slice A2 tO.length c2] 53)));clear hu1 fV ic;go_wp2;go_ret;exact⟨by rw[HV.out];rfl,HU.out⟩
      ·rw[if_neg h2]at hv2;have vE:(p==2)=false:=by simpa using h2
       have du:=Qh hv2;clear hv2 h2;go_enter Tryz.func51,Tryz.ntmps51;go_wp2_with fail;refine(ZbB HH.out HF.out).mono ?_;rintro e w1 ⟨A2,c2,rfl,fV,ic,hu1⟩;simp only at fV ic;have bT:=Gh w1 53 [Qi ti,.bool td,.slice A2 tO.length c2];have uT:=hu1.alloc (.cells #[Qi ti,.bool td,.slice A2 tO.length c2] 53);have t2:∀W,Upd No (w1.alloc (.cells #[Qi ti,.bool td,.slice A2 tO.length c2] 53)) W->W.cell? ⟨w1.heap.size,2,none⟩=some (.slice A2 tO.length c2):=fun W hW=>(bT.upd hW id).cell 2
       have x1:∀W,Upd No (w1.alloc (.cells #[Qi ti,.bool td,.slice A2 tO.length c2] 53)) W->W.cell? ⟨w.heap.size+1+1,1,none⟩=some (Qi ky):=fun W hW=>(bO.out.upd (uT.trans hW) id).cell 1
       have x3:∀W,Upd No (w1.alloc (.cells #[Qi ti,.bool td,.slice A2 tO.length c2] 53)) W->W.cell? ⟨w.heap.size+1+1,3,none⟩=some (Qi nt):=fun W hW=>(bO.out.upd (uT.trans hW) id).cell 3
       have HW:=Qh fun W (hW:Upd No (w1.alloc (.cells #[Qi ti,.bool td,.slice A2 tO.length c2] 53)) W)=>ZcI F W A2 c2 tO ky (HOps.upd ic (((Gg No _).alloc _).trans hW) Qo) HT.out.2.2.1
       have UT:=Qh uT;clear bT uT hu1 ic
       by_cases h3:p=3
       ·have pi:(p==3)=true:=by simpa using h3
        clear h3;go_wp2;refine wpS (fun w'=>Upd No (w1.alloc (.cells #[Qi ti,.bool td,.slice A2 tO.length c2] 53)) w') ?_ fun jH=>?_
        ·(first|exact(Gg No _).drew|exact jH.trans hu3)
        (iterate 9 refine wpF ?_);refine wpZ 9 rfl fun K hK=>?_;go_simp
        (first
  |(go_at_call 88;refine Ck (HW.out _ jH) fun w3 hu3=>?_))
        try (go_wp2_with fail)
        refine hK.out _ _ ?_ fun jH=>?_
        ·(first|exact(Gg No _).drew|exact jH.trans hu3)
        try simp only[Qa]
        (iterate 3 refine wpF ?_);refine wpD (Gd ?_);have HU:=Qh (U1.out.trans (UT.out.trans jH));clear jH;go_wp2;go_ret;exact⟨by rw[du.out,pi];rfl,HU.out⟩
       ·have pi:(p==3)=false:=by simpa using h3
        clear h3;go_wp2;refine wpS (fun w'=>Upd No (w1.alloc (.cells #[Qi ti,.bool td,.slice A2 tO.length c2] 53)) w') ?_ fun jH=>?_
        ·(first|exact(Gg No _).drew|exact jH.trans hu3)
        (iterate 9 refine wpF ?_);refine wpZ 9 rfl fun K hK=>?_;go_simp;refine hK.out _ _ ?_ fun jH=>?_
        ·exact jH
        try simp only[Qa]
        (iterate 3 refine wpF ?_);refine wpD (Gd ?_);have HU:=Qh (U1.out.trans (UT.out.trans jH));clear jH;go_wp2;go_ret;exact⟨by rw[du.out,pi];rfl,HU.out⟩
/- Writers,the document's and the program's. -/
theorem ZoQ(key:Int):∀(l:List HTx) (acc:Gv),wrS key acc l=acc++Zm l key
 |[],acc=>by simp[wrS,Zm]
 |t::l,acc=>by
  rw[ZhP,ZoQ key l]
  have hc:(Zaz t.ops).contains key=decide (0<Zd t.ops key):=by
   rw[List.contains_eq_mem]
   congr 1
   simp only[ZpS]
  unfold Zm;rw[List.filter_cons];simp only[hc]
  split<;>simp
theorem ZuX(key:Int)(l:List HTx):wrS key [] l=Zm l key:=by rw[ZoQ];simp
/- Right histories:the document's own steps come to what the program tells. -/
theorem ZkD:∀(l:List HTx) (s:Gv),Za1 s l=ZaB s l
 |[],_=>rfl
 |t::l,s=>by
  rw[ZhG,Ztc,ZkD l];rfl
theorem Zqx(txs:List HTx)(k:Nat)(id:Int):Zju txs k id=Zec txs k id:=by
 cases k<;>rfl
theorem ZtQ{txs:List HTx}{k:Nat}(hk:k<txs.length):txR txs k txs[k]=Zdu txs k:=by
 rw[Zm8 hk rfl];unfold txR Zb1;rw[Zqx,ZpM];rfl
theorem Zlm(txs:List HTx):∀(m k:Nat),k+m=txs.length->(Zc6 txs (txs.drop k) k=true↔∀i,k<=i->i<txs.length->Zdu txs i=true)
 |0,k,hk=>by
  obtain rfl:k=txs.length:=by omega
  rw[Fq];exact⟨fun _ i h1 h2=>by omega,fun _=>rfl⟩
 |m+1,k,hk=>by
  have hlt:k<txs.length:=by omega
  rw[Ev hlt,Zgz,Fp,Zlm txs m (k+1) (by omega),ZtQ hlt]
  constructor
  ·rintro⟨h1,h2⟩ i hi hi2
   by_cases e:i=k
   ·subst e;exact h1
   ·exact h2 i (by omega) hi2
  ·intro h;exact⟨h k (Nat.le_refl _) hlt,fun i hi hi2=>h i (by omega) hi2⟩
theorem Zkl(txs:List HTx)(keys:Gv)(ords:Gq)(hl:ords.length=keys.length):∀(m k:Nat),k+m=ords.length->(ZdC txs keys (ords.drop k) k=true↔∀i,k<=i->i<ords.length->Zh2 txs keys ords i=true)
 |0,k,hk=>by
  obtain rfl:k=ords.length:=by omega
  rw[Fq];exact⟨fun _ i h1 h2=>by omega,fun _=>rfl⟩
 |m+1,k,hk=>by
  have hlt:k<ords.length:=by omega
  have hlt2:k<keys.length:=by omega
  have uU:(ords[k].key==keys.getD k 0&&(ords[k].txs.length==(wrS ords[k].key [] txs).length&&ords[k].txs.all fun x=>ords[k].txs.count x==(wrS ords[k].key [] txs).count x))=Zh2 txs keys ords k:=by
   unfold Zh2 Zhj;rw[Qg hlt,Qg hlt2,ZuX,List.getD_eq_getElem?_getD,Qg hlt2];rfl
  rw[Ev hlt,ZiP,uU,Fp,Zkl txs keys ords hl m (k+1) (by omega)]
  constructor
  ·rintro⟨h1,h2⟩ i hi hi2
   by_cases e:i=k
   ·subst e;exact h1
   ·exact h2 i (by omega) hi2
  ·intro h;exact⟨h k (Nat.le_refl _) hlt,fun i hi hi2=>h i (by omega) hi2⟩
theorem Zpn(h:Hist):Za0 h.txs h.ords=Zc h:=by
 rw[<-Zpo];unfold Za0 ZlE;rw[ZkD]
 have h1:Zc6 h.txs h.txs 0=(List.range h.txs.length).all (Zdu h.txs):=by
  rw[Bool.eq_iff_iff,Fn];have:=Zlm h.txs h.txs.length 0 (by omega);rw[List.drop_zero]at this;rw[this];exact⟨fun k i hi=>k i (Nat.zero_le _) (F8.1 hi),fun k i _ hi=>k i (F8.2 hi)⟩
 rw[h1]
 by_cases hl:h.ords.length=(ZaB [] h.txs).length
 ·have h2:ZdC h.txs (ZaB [] h.txs) h.ords 0=(List.range h.ords.length).all (Zh2 h.txs (ZaB [] h.txs) h.ords):=by
   rw[Bool.eq_iff_iff,Fn];have:=Zkl h.txs (ZaB [] h.txs) h.ords hl h.ords.length 0 (by omega);rw[List.drop_zero]at this;rw[this];exact⟨fun k i hi=>k i (Nat.zero_le _) (F8.1 hi),fun k i _ hi=>k i (F8.2 hi)⟩
  rw[h2,Bool.and_assoc,Bool.and_assoc]
 ·rw[show(h.ords.length==(ZaB [] h.txs).length)=false by simpa using hl];simp
theorem Znh(F:Gt)(w:Gy)(txs:List HTx)(ords:Gq)(A:OA)(c:Nat)(B:OA)(d:Nat)(H:Hist.lies F w ⟨txs,ords,A,c,B,d⟩):
  CN 50 #[.agg #[.slice A txs.length c,.slice B ords.length d]] w (.bool (Zc ⟨txs,ords,A,c,B,d⟩)):=by
 have:=Zua F w txs ords A c B d H
 rwa [show Za0 txs ords=Zc ⟨txs,ords,A,c,B,d⟩ from Zpn ⟨txs,ords,A,c,B,d⟩]at this
theorem ZsY{F:Gt}{w:Gy}{txs:List HTx}{ords:Gq}{A:OA}{c:Nat}{B:OA}{d:Nat}{b:Bool}(H:Hist.lies F w ⟨txs,ords,A,c,B,d⟩)(hb:Zc ⟨txs,ords,A,c,B,d⟩=b):
  CN 50 #[.agg #[.slice A txs.length c,.slice B ords.length d]] w (.bool b):=by subst hb;exact Znh F w txs ords A c B d H
/- The document:the reads that may not be. -/
theorem Upd.noR{S:Gt}{a w w':Gy}(h:Upd S a w)(k:Upd No w w'):Upd S a w':=h.trans_ k fun _ _ t=>t.elim
def Bads(F:Gt)(w:Gy)(A:OA)(l:Gp):Prop:=Recs F w A 5 (l.map HBad.cells)
theorem Bads.at_{F:Gt}{w:Gy}{A:OA}{l:Gp}(h:Bads F w A l){k:Nat}(hk:k<l.length):∃ad,A=some ad∧
  w.cell? (ad.add (k*5))=some (Qi l[k].tx)∧w.cell? ⟨(ad.add (k*5)).block,(ad.add (k*5)).off+1,none⟩=some (Qi l[k].place)∧
  w.cell? ⟨(ad.add (k*5)).block,(ad.add (k*5)).off+2,none⟩=some (Qi l[k].of.tx)∧w.cell? ⟨(ad.add (k*5)).block,(ad.add (k*5)).off+3,none⟩=some (Qi l[k].of.key)∧
  w.cell? ⟨(ad.add (k*5)).block,(ad.add (k*5)).off+4,none⟩=some (Qi l[k].of.nth):=by
 have dq:k<(l.map HBad.cells).length:=by simpa using hk
 obtain⟨ad,e,_,_,hc⟩:=Recs.at_ h dq;rw[Fk]at hc;exact⟨ad,e,by simpa using hc 0 _ rfl,by simpa using hc 1 _ rfl,by simpa using hc 2 _ rfl,by simpa using hc 3 _ rfl,by simpa using hc 4 _ rfl⟩
theorem Bads.upd{F S:Gt}{w w':Gy}{A:OA}{l:Gp}(h:Bads F w A l)(k:Upd S w w')(hn:∀i,F i->¬S i):Bads F w' A l:=Recs.upd h k hn
theorem Zr2{l:Gp}:∀r∈l.map HBad.cells,r.length=5:=fun r hr=>by
 obtain⟨e,_,rfl⟩:=Gc.1 hr;rfl
theorem Zls:SlT Tryz.prog 68 38 5 40:=SlT.mk_ Tryz.underlying68 (z:= .agg #[Qi 0,Qi 0,Qi 0,Qi 0,Qi 0]) (by kernel_rfl) rfl (by omega)
theorem ZtA(w:Gy)(x y:HBad):(binOp .eql 38 (.agg #[Qi x.tx,Qi x.place,Qi x.of.tx,Qi x.of.key,Qi x.of.nth]) (.agg #[Qi y.tx,Qi y.place,Qi y.of.tx,Qi y.of.key,Qi y.of.nth])).run Tryz.prog w= .ok (.bool (x==y)) w:=by
 have:=Zqr w x y;unfold ZoI at this;rw[run_eql_struct,this];simp only[Result.andThen]
 by_cases h:x=y<;>simp[h]
theorem ZmB{w':Gy}{base:Nat}{l:Gp}{A:OA}{c:Nat}(h:w'.ownsRow base 38 5 (.slice A l.length c) l.length (l.map HBad.cells).flatten):Bads (fun i=>base<=i) w' A l:=by
 have h2:=Recs.of_own (n:=l.length) (c:=c) Zr2 (by omega) h;exact Recs.weak h2 fun i _ hi=>(h.lt i hi).1
def ZjW(w:Gy)(l:Gp)(e:Ending)(w':Gy):Prop:=∃A c,e= .returned (.slice A l.length c)∧w'.ownsRow w.heap.size 38 5 (.slice A l.length c) l.length (l.map HBad.cells).flatten∧Upd No w w'
theorem ZoG(txs:List HTx)(p:Int)(t:HTx)(i:Nat)(acc:Gp)(o:HOp)(l:Gu):ZbI txs p t i acc (o::l)=ZbI txs p t (i+1) (if ZaX txs t p o then acc++[⟨t.id,i,Zw o⟩] else acc) l:=rfl
theorem ZoH(txs:List HTx)(p:Int)(acc:Gp)(t:HTx)(l:List HTx):Zcw txs p acc (t::l)=Zcw txs p (ZbI txs p t 0 acc t.ops) l:=rfl
theorem Zv7(w:Gy)(ky tx nt:Int):CN 52 #[.agg #[.bool true,Qi ky,Qi tx,Qi nt]] w (.agg #[Qi tx,Qi ky,Qi nt]):=rof w ⟨true,ky,tx,nt⟩
theorem Zk2{txs:List HTx}{t:HTx}{p:Int}{rd:Bool}{ky tx nt:Int}(h:ZaX txs t p ⟨rd,ky,tx,nt⟩=true):rd=true:=by
 unfold ZaX at h
 cases rd
 ·simp at h
 ·rfl
theorem Zk6(F:Gt)(w:Gy)(txs:List HTx)(ords:Gq)(A:OA)(c:Nat)(B:OA)(d:Nat)(p:Int)(H:Hist.lies F w ⟨txs,ords,A,c,B,d⟩):
  Calls Tryz.prog 28 #[.agg #[.slice A txs.length c,.slice B ords.length d],Qi p] w (ZjW w (Zab ⟨txs,ords,A,c,B,d⟩ p)):=by
 have u0:=(Gg No w).alloc (.cells #[.slice A txs.length c,.slice B ords.length d] 29);have bH:=Qh (Gh w 29 [.slice A txs.length c,.slice B ords.length d]);obtain⟨b,hb⟩:=Qe (Zc ⟨txs,ords,A,c,B,d⟩);have HR:=Qh (ZsY (H.upd u0 Qo) hb);have U0:=Qh u0;clear u0
 cases b
 ·have HV:=Qh (show([]:Gp)=Zab ⟨txs,ords,A,c,B,d⟩ p by unfold Zab;rw[if_neg (by rw[hb];decide)]);clear hb;go_enter Tryz.func28,Tryz.ntmps28;go_wp2_with fail;refine Ck HR.out fun w1 hu1=>?_;have HU:=Qh (U0.out.trans hu1);go_wp2;go_ret;exact⟨none,0,by rw[<-HV.out];rfl,by rw[<-HV.out];exact Gf _ _ _ _,HU.out⟩
 ·have HV:=Qh (show Zcw txs p [] txs=Zab ⟨txs,ords,A,c,B,d⟩ p by unfold Zab;rw[if_pos hb])
  have hmany:txs.length<=4096:=by
   unfold Zc at hb;simp only[Fp,Ff]at hb;exact hb.1.1.1
  have hlen:=Qh (show∀t∈txs,t.ops.length<=4095 from fun t ht=>ZeV (ZbJ hb ht).1);clear hb;go_enter Tryz.func28,Tryz.ntmps28;go_wp2_with fail;refine Ck HR.out fun w1 hu1=>?_;have HU:=Qh (U0.out.trans hu1);have BH:=Qh (bH.out.upd hu1 id);have g0:=BH.out.cell 0;simp only[Qz]at g0;have pu:=HU.out.size;clear hu1;go_wp2;clear g0
  go_loopg [5,16] txs.length (fun gk s i wr=>∃(k:Nat) (A3:OA) (c3:Nat) (xs:Gp),k+gk=txs.length∧i= Qi k∧s= .slice A3 xs.length c3∧Hid (Zcw txs p xs (txs.drop k)=Zcw txs p [] txs)∧xs.length<=4095*k∧
   Hid (wr.ownsRow w1.heap.size 38 5 (.slice A3 xs.length c3) xs.length (xs.map HBad.cells).flatten)∧Upd No w1 wr)
  case atStart=>exact⟨0,none,0,[],by omega,rfl,rfl,Qh rfl,by simp,Qh (Gf _ _ _ _),Gg _ _⟩
  case round=>
   obtain⟨k,A3,c3,xs,aK,rfl,rfl,hs,hxl,ae,hu1⟩:=hrel
   by_cases hlt:k<txs.length
   ·have hu:=HU.out.trans hu1;obtain⟨ad,aA,q0,q1,q2⟩:=(H.upd hu Qo).tx_at hlt;have aM:=H.tx txs[k] (Fr hlt);simp only at aA q0 q1 q2;obtain⟨x,hx⟩:=Qe (txs[k]);rw[hx]at q0 q1 q2 aM;obtain⟨xi,xd,xo,xA,xc⟩:=x;simp only at q0 q1 q2;subst aA;have X:=Qh (show txs.drop k=⟨xi,xd,xo,xA,xc⟩::txs.drop (k+1) by rw[<-hx];exact Ev hlt);have HL:=Qh aM;have XM:=Qh (show(⟨xi,xd,xo,xA,xc⟩:HTx)∈txs by rw[<-hx];exact Fr hlt);have b1:(0:Int)<=(k:Int):=Qn _;have b2:(k:Int)<(txs.length:Int):=by omega
    have uA:=hu.alloc (.cells #[Qi xi,.bool xd,.slice xA xo.length xc] 53);clear hx aM;have ag:=hs.out;rw[X.out,ZoH]at ag;have aD:=Qh ag;have kD:=hlen.out _ XM.out;simp only at kD;have UA:=Qh (hu1.alloc (.cells #[Qi xi,.bool xd,.slice xA xo.length xc] 53));have BT:=Qh (Gh wr 53 [Qi xi,.bool xd,.slice xA xo.length xc]);have HO:=Qh (Za ae.out ((Gg No wr).alloc (.cells #[Qi xi,.bool xd,.slice xA xo.length xc] 53)) Qo);have vS:=hu1.size;clear ag uA hu;have ik:=Qh (fun i e=>ae.out.lt i e);have fc:=Qh fun W (hW:Upd (Own (.slice A3 xs.length c3)) (wr.alloc (.cells #[Qi xi,.bool xd,.slice xA xo.length xc] 53)) W)=>(show Upd No w W from(HU.out.trans UA.out).then_ hW fun i e=> .inr (Nat.le_trans pu (ik.out i e).1))
    have dX:=Qh fun W (hW:Upd (Own (.slice A3 xs.length c3)) (wr.alloc (.cells #[Qi xi,.bool xd,.slice xA xo.length xc] 53)) W)=>(show Upd No w1 W from UA.out.then_ hW fun i e=> .inr (ik.out i e).1)
    have kW:¬Own (.slice A3 xs.length c3) wr.heap.size:=fun e=>by have:=(ik.out _ e).2;omega
    have zU:¬Own (.slice A3 xs.length c3) w.heap.size:=fun e=>by have:=(ik.out _ e).1;have:=BH.out.lt;omega
    have CY:=Qh fun(o:HOp) (j:Nat) (hj:j<xo.length) (ho:xo[j]=o) W (hW:Upd (Own (.slice A3 xs.length c3)) (wr.alloc (.cells #[Qi xi,.bool xd,.slice xA xo.length xc] 53)) W)=>Zwb F W txs ords (some ad) c B d xi xd xA xc xo j p o (H.upd (fc.out _ hW) Qo) (HOps.upd HL.out.1 (fc.out _ hW) Qo) HL.out.2.2.1 hj ho
    have pI:=Qh fun W (hW:Upd (Own (.slice A3 xs.length c3)) (wr.alloc (.cells #[Qi xi,.bool xd,.slice xA xo.length xc] 53)) W)=>HOps.upd HL.out.1 (fc.out _ hW) Qo
    have t0:∀W,Upd (Own (.slice A3 xs.length c3)) (wr.alloc (.cells #[Qi xi,.bool xd,.slice xA xo.length xc] 53)) W->W.cell? ⟨wr.heap.size,0,none⟩=some (Qi xi):=fun W hW=>(BT.out.upd hW kW).cell 0
    have t1:∀W,Upd (Own (.slice A3 xs.length c3)) (wr.alloc (.cells #[Qi xi,.bool xd,.slice xA xo.length xc] 53)) W->W.cell? ⟨wr.heap.size,1,none⟩=some (.bool xd):=fun W hW=>(BT.out.upd hW kW).cell 1
    have t2:∀W,Upd (Own (.slice A3 xs.length c3)) (wr.alloc (.cells #[Qi xi,.bool xd,.slice xA xo.length xc] 53)) W->W.cell? ⟨wr.heap.size,2,none⟩=some (.slice xA xo.length xc):=fun W hW=>(BT.out.upd hW kW).cell 2
    have g0:∀W,Upd (Own (.slice A3 xs.length c3)) (wr.alloc (.cells #[Qi xi,.bool xd,.slice xA xo.length xc] 53)) W->W.cell? ⟨w.heap.size,0,none⟩=some (.slice (some ad) txs.length c):=fun W hW=>((BH.out.upd UA.out id).upd hW zU).cell 0
    have g1:∀W,Upd (Own (.slice A3 xs.length c3)) (wr.alloc (.cells #[Qi xi,.bool xd,.slice xA xo.length xc] 53)) W->W.cell? ⟨w.heap.size,1,none⟩=some (.slice B ords.length d):=fun W hW=>((BH.out.upd UA.out id).upd hW zU).cell 1
    have fT:Upd (Own (.slice A3 xs.length c3)) (wr.alloc (.cells #[Qi xi,.bool xd,.slice xA xo.length xc] 53)) (wr.alloc (.cells #[Qi xi,.bool xd,.slice xA xo.length xc] 53)):=Gg _ _;have mP:4095*k<=4095*4096:=Nat.mul_le_mul_left _ (by omega);obtain⟨wo,dR⟩:∃wo,wo=wr:=⟨_,rfl⟩;subst dR;generalize gk=m0 at*;go_wp2
    go_loopg [5,23] xo.length (fun gm s i wr=>∃(j:Nat) (A4:OA) (c4:Nat) (ys:Gp),j+gm=xo.length∧i= Qi j∧s= .slice A4 ys.length c4∧Hid (ZbI txs p ⟨xi,xd,xo,xA,xc⟩ j ys (xo.drop j)=ZbI txs p ⟨xi,xd,xo,xA,xc⟩ 0 xs xo)∧ys.length<=xs.length+j∧
     Hid (wr.ownsRow w1.heap.size 38 5 (.slice A4 ys.length c4) ys.length (ys.map HBad.cells).flatten)∧Hid (∀i,Own (.slice A4 ys.length c4) i->Own (.slice A3 xs.length c3) i∨wo.heap.size+1<=i)∧Upd (Own (.slice A3 xs.length c3)) (wo.alloc (.cells #[Qi xi,.bool xd,.slice xA xo.length xc] 53)) wr)
    case atStart=>exact⟨0,A3,c3,xs,by omega,rfl,rfl,Qh rfl,by omega,HO,Qh (fun _=> .inl),fT⟩
    case round=>
     obtain⟨j,A4,c4,ys,ph,rfl,rfl,er,fC,am,dh,hu2⟩:=hrel;clear fT
     by_cases hlt2:j<xo.length
     ·obtain⟨ad2,aT,q0,q1,q2,q3⟩:=(pI.out _ hu2).at_ hlt2;obtain⟨x,hx⟩:=Qe (xo[j]);rw[hx]at q0 q1 q2 q3;obtain⟨rd,ky,tx,nt⟩:=x;simp only at q0 q1 q2 q3;subst aT;have Y:=Qh (show xo.drop j=⟨rd,ky,tx,nt⟩::xo.drop (j+1) by rw[<-hx];exact Ev hlt2);have c1:(0:Int)<=(j:Int):=Qn _;have c2:(j:Int)<(xo.length:Int):=by omega
      have cG:=hu2.alloc (.cells #[.bool rd,Qi ky,Qi tx,Qi nt] 50);have HC:=Qh (CY.out _ j hlt2 hx _ cG);have BO:=Qh (Gh wr 50 [.bool rd,Qi ky,Qi tx,Qi nt]);have d7:=Qh (Za am.out ((Gg No wr).alloc (.cells #[.bool rd,Qi ky,Qi tx,Qi nt] 50)) Qo);have iu:=Qh (fun i e=>am.out.lt i e);have dB:=hu2.size;have Dx:=(dX.out _ hu2).size;simp only[Ge]at dB;have ag:=er.out;rw[Y.out,ZoG]at ag;obtain⟨b,hb⟩:=Qe (ZaX txs ⟨xi,xd,xo,some ad2,xc⟩ p ⟨rd,ky,tx,nt⟩);rw[hb]at HC ag;clear hx
      cases b
      ·have HS:Hid (ZbI txs p ⟨xi,xd,xo,some ad2,xc⟩ (j+1) ys (xo.drop (j+1))=ZbI txs p ⟨xi,xd,xo,some ad2,xc⟩ 0 xs xo):=Qh ag;clear ag hb;go_wp2_with fail;refine Ck HC.out fun w3 hu3=>?_;have eY:=Qh (Za d7.out hu3 Qo);have bJ:=Qh (cG.noR hu3);clear cG hu3;go_wp2;go_roundg (gk-1);exact⟨j+1,A4,c4,ys,by omega,by go_num,rfl,HS,by omega,eY,dh,bJ.out⟩;omega
      ·have HS:=Qh (show ZbI txs p ⟨xi,xd,xo,some ad2,xc⟩ (j+1) (ys++[⟨xi,(j:Int),⟨tx,ky,nt⟩⟩]) (xo.drop (j+1))=ZbI txs p ⟨xi,xd,xo,some ad2,xc⟩ 0 xs xo by
        rw[<-ag,if_pos rfl];have:=Zk2 hb;subst this;rfl)
       have hrd:=Zk2 hb;subst hrd;clear ag hb;go_wp2_with fail;refine Ck HC.out fun w3 hu3=>?_;have eY:=Qh (Za d7.out hu3 Qo);have bJ:=Qh (cG.noR hu3);have rI:=Qh (BO.out.upd hu3 id);have eF:=hu3.size;simp only[Ge]at eF;have kH:¬Own (.slice A4 ys.length c4) wr.heap.size:=fun e=>by have:=(iu.out _ e).2;omega
       have mX:¬Own (.slice A4 ys.length c4) wo.heap.size:=fun e=>by
        rcases dh.out _ e with e|e
        ·exact kW e
        ·omega
       have o0:∀W,Upd (Own (.slice A4 ys.length c4)) w3 W->W.cell? ⟨wr.heap.size,0,none⟩=some (.bool true):=fun W hW=>(rI.out.upd hW kH).cell 0
       have o1:∀W,Upd (Own (.slice A4 ys.length c4)) w3 W->W.cell? ⟨wr.heap.size,1,none⟩=some (Qi ky):=fun W hW=>(rI.out.upd hW kH).cell 1
       have o2:∀W,Upd (Own (.slice A4 ys.length c4)) w3 W->W.cell? ⟨wr.heap.size,2,none⟩=some (Qi tx):=fun W hW=>(rI.out.upd hW kH).cell 2
       have o3:∀W,Upd (Own (.slice A4 ys.length c4)) w3 W->W.cell? ⟨wr.heap.size,3,none⟩=some (Qi nt):=fun W hW=>(rI.out.upd hW kH).cell 3
       have s0:∀W,Upd (Own (.slice A4 ys.length c4)) w3 W->W.cell? ⟨wo.heap.size,0,none⟩=some (Qi xi):=fun W hW=>by
        have h0:=t0 _ bJ.out;exact hW.keep h0 mX
       have DV:=Qh (fun i e=>(iu.out i e).1);clear cG hu3 t0 t1 t2 g0 g1;go_wp2;refine wpS (fun w'=>Upd (Own (.slice A4 ys.length c4)) w3 w') ?_ fun jH=>?_
       ·(first|exact(Gg _ _).drew|exact jH.noR hu4|exact jH.alloc _|exact de)
       (iterate 5 refine wpF ?_);refine wpZ 5 rfl fun K hK=>?_;go_simp
       (first
  |(go_at_call 52;refine Ck (Zv7 _ ky tx nt) fun w4 hu4=>?_;have cU:=Za eY.out hu4.of_drew Qo;have lg:=hu4.of_drew.size))
       try (go_wp2_with fail)
       refine hK.out _ _ ?_ fun jH=>?_
       ·(first|exact(Gg _ _).drew|exact jH.noR hu4|exact jH.alloc _|exact de)
       try simp only[Qa]
       refine wpK 6 rfl ?_;refine wpZ 7 rfl fun K hK=>?_;go_simp;refine hK.out _ _ ?_ fun jH=>?_
       ·(first|exact(Gg _ _).drew|exact jH.noR hu4|exact jH.alloc _|exact de)
       try simp only[Qa]
       refine wpZ 8 rfl fun K hK=>?_
       (first
  |(refine ZeX (by rfl) (by rfl) Zls (v:= .slice A4 ys.length c4) (cells:=[Qi xi,Qi (j:Int),Qi tx,Qi ky,Qi nt]) (by rfl) (by rfl) (by exact cU.alloc _) rfl (by exact Zbn) (by rfl) (by omega) (by omega) (by simp;omega) ?_;intro g6 c6 w6 av hu6 dC dv;have de:Upd (Own (.slice A4 ys.length c4)) w3 w6:=jH.trans hu6))
       refine hK.out _ _ ?_ fun jH=>?_
       ·(first|exact(Gg _ _).drew|exact jH.noR hu4|exact jH.alloc _|exact de)
       try simp only[Qa]
       refine wpK 9 rfl ?_;refine wpD (Gd ?_)
       have eu:=Qh (bJ.out.then_ jH fun i e=>by
        rcases dh.out i e with e|e
        ·exact .inl e
        ·exact .inr (by simp only[Ge];exact e))
       have dr:=Qh (show∀i,Own (.slice (some ⟨g6,0,none⟩) (ys.length+1) c6) i->Own (.slice A3 xs.length c3) i∨wo.heap.size+1<=i from fun i e=>by
        rcases dC with h|⟨k6,tD,hlk⟩
        ·exact dh.out i (h.symm.trans e)
        ·have e2:(some k6:Option Nat)=some i:=tD.symm.trans e
         cases e2
         simp only[Ge]at hlk;exact .inr (by omega))
       clear jH o0 o1 o2 o3 s0 dC;go_wp2;go_roundg (gk-1);exact⟨j+1,some ⟨g6,0,none⟩,c6,ys++[⟨xi,(j:Int),⟨tx,ky,nt⟩⟩],by omega,by go_num,by simp,HS,by simp;omega,Qh (by simpa[HBad.cells]using av),Qh (by simpa using dr.out),eu.out⟩;omega
     ·obtain rfl:j=xo.length:=by omega
      have HS:=Qh (show Zcw txs p ys (txs.drop (k+1))=Zcw txs p [] txs by
       have:=er.out;rw[Fq]at this;rw[<-aD.out,<-this];rfl)
      go_wp2;go_roundg (m0-1);exact⟨k+1,A4,c4,ys,by omega,by go_num,rfl,HS,by omega,am,dX.out _ hu2⟩;omega
   ·obtain rfl:k=txs.length:=by omega
    have HS:=Qh (show xs=Zab ⟨txs,ords,A,c,B,d⟩ p by rw[<-HV.out,<-hs.out,Fq];rfl);go_wp2;go_ret;exact⟨A3,c3,by rw[<-HS.out];rfl,by rw[<-HS.out];exact Zz ae.out pu,HU.out.trans hu1⟩
