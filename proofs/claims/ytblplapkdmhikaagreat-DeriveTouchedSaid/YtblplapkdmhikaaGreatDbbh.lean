/- What the document tells of histories, in plain words; it is what the program tells. -/
import Derived.Test.YtblplapkdmhikaaGreatDbaw
import Derived.Test.YtblplapkdmhikaaGreatDbaz
import Derived.Test.YtblplapkdmhikaaGreatDbbg
namespace Go.Proofs.YtblplapkdmhikaaGreat
set_option linter.unusedVariables false
set_option linter.unusedSimpArgs false
section
open Go.RowKit
theorem ZiI {l m:List Int} (hl:l.Pairwise (·<·)) (hm:m.Pairwise (·<·)) (h:∀a,a∈l↔a∈m):l=m:=
 ZdM ((List.perm_ext_iff_of_nodup (hl.imp fun h=>Int.ne_of_lt h) (hm.imp fun h=>Int.ne_of_lt h)).2 h) (hl.imp Int.le_of_lt) (hm.imp Int.le_of_lt)
theorem ZlJ (xs:List Int) (n:Int):ZT n (Za3 xs)=Za3 (xs++[n]):=
 ZiI (Zgh n _ (Zeq xs)) (Zeq _) fun a=>by rw[Zdr,Zbu,Zbu,List.mem_append,List.mem_singleton];grind
def Zet (a b:List Int):Bool:=a.length==b.length&&a.all fun x=>a.count x==b.count x
theorem ZdI:∀(a b:List Int),a.length=b.length→(∀x∈a,a.count x=b.count x)→a.Perm b
 |[],b,hl,_=>by
  have:b=[]:=List.eq_nil_of_length_eq_zero (by simpa using hl.symm);subst this;exact List.Perm.refl _
 |x::a,b,hl,h=>by
  have hx:=h x (List.mem_cons_self ..)
  have hxb:x∈b:=by
   rw[List.count_cons_self]at hx;exact List.count_pos_iff.1 (by omega)
  have hp:=List.perm_cons_erase hxb;refine((ZdI a (b.erase x) ?_ fun y hy=> ?_).cons x).trans hp.symm
  ·have:=hp.length_eq;simp only[List.length_cons]at*;omega
  ·have h1:=h y (List.mem_cons_of_mem _ hy);rw[hp.count_eq]at h1;simp only[List.count_cons]at h1;omega
theorem Zdm (a b:List Int):Zet a b=(ZaH a==ZaH b):=by
 rw[Bool.eq_iff_iff];unfold Zet;simp only[Bool.and_eq_true,beq_iff_eq,List.all_eq_true]
 constructor
 ·rintro⟨h1,h2⟩;have hp:=ZdI a b h1 h2;exact ZdM (((ZX a).trans hp).trans (ZX b).symm) (Zcr a) (Zcr b)
 ·intro h;have hp:a.Perm b:=((ZX a).symm.trans (by rw[h];exact ZX b));exact⟨hp.length_eq,fun x _=>hp.count_eq x⟩
/-! keys -/
theorem Zd3 (tch:Bool):∀(l:List HOp) (xs:List Int),ZaI tch (Za3 xs) l=Za3 (xs++ZD l fun o=>tch|| !o.read)
 |[],xs=>by simp[ZaI,ZD]
 |o::l,xs=>by
  rw[Zdv]
  by_cases h:(tch|| !o.read)=true
  ·rw[if_pos h,ZlJ,Zd3 tch l];unfold ZD;rw[List.filter_cons_of_pos (by exact h)];simp
  ·rw[if_neg h,Zd3 tch l];unfold ZD;rw[List.filter_cons_of_neg (by exact h)]
theorem Zm8 (l:List HOp):ZaI false [] l=ZY l:=by
 have:=Zd3 false l []
 simpa[ZY,show Za3 []=[] from rfl]using this
def Z2 (s:List Int):List HTx→List Int
 |[]=>s
 |t::l=>Z2 (if t.done then ZG s (ZY t.ops) else s) l
theorem ZdY (a:Int):∀(l:List HTx) (s:List Int),a∈Z2 s l↔a∈s∨∃t∈l,t.done=true∧a∈ZY t.ops
 |[],s=>by simp[Z2]
 |t::l,s=>by
  show a∈Z2 (if t.done then ZG s (ZY t.ops) else s) l↔_
  rw[ZdY a l]
  by_cases h:t.done=true
  ·rw[if_pos h,Zds];simp only[List.mem_cons,exists_eq_or_imp,h];grind
  ·rw[if_neg h];simp only[List.mem_cons,exists_eq_or_imp,h];grind
theorem Ze2:∀(l:List HTx) (s:List Int),s.Pairwise (·<·)→(Z2 s l).Pairwise (·<·)
 |[],_,h=>h
 |t::l,s,h=>by
  show(Z2 (if t.done then ZG s (ZY t.ops) else s) l).Pairwise (·<·)
  refine Ze2 l _ ?_
  split
  ·exact ZdQ _ _ h
  ·exact h
theorem ZhP (a:Int):∀(l s:List Int),a∈Za6 s l↔a∈s∨a∈l
 |[],s=>by simp[Za6]
 |k::l,s=>by
  show a∈Za6 (if k∈s then s else s++[k]) l↔_
  rw[ZhP a l]
  by_cases h:k∈s
  ·rw[if_pos h,List.mem_cons];grind
  ·rw[if_neg h,List.mem_cons,List.mem_append,List.mem_singleton];grind
theorem Zf7:∀(l s:List Int),s.Nodup→(Za6 s l).Nodup
 |[],_,h=>h
 |k::l,s,h=>by
  show(Za6 (if k∈s then s else s++[k]) l).Nodup
  refine Zf7 l _ ?_
  split
  ·exact h
  ·rename_i hk
   rw[List.nodup_append];exact⟨h,by simp,fun a ha b hb=>by rw[List.mem_singleton]at hb;subst hb;exact fun e=>hk (e▸ha)⟩
theorem ZgR (a:Int):∀(l:List HTx) (s:List Int),a∈Zv l s↔a∈s∨∃t∈l,t.done=true∧a∈ZY t.ops
 |[],s=>by simp[Zv]
 |t::l,s=>by
  show a∈Zv l (if t.done then Za6 s (ZY t.ops) else s)↔_
  rw[ZgR a l]
  by_cases h:t.done=true
  ·rw[if_pos h,ZhP];simp only[List.mem_cons,exists_eq_or_imp,h];grind
  ·rw[if_neg h];simp only[List.mem_cons,exists_eq_or_imp,h];grind
theorem ZeC:∀(l:List HTx) (s:List Int),s.Nodup→(Zv l s).Nodup
 |[],_,h=>h
 |t::l,s,h=>by
  show(Zv l (if t.done then Za6 s (ZY t.ops) else s)).Nodup
  refine ZeC l _ ?_
  split
  ·exact Zf7 _ _ h
  ·exact h
theorem ZbG {l:List Int} (h:l.Pairwise (·<·)):l.Nodup:=h.imp fun h=>Int.ne_of_lt h
theorem ZjC (txs:List HTx):(Z2 [] txs).Perm (Zv txs []):=
 (List.perm_ext_iff_of_nodup (ZbG (Ze2 txs [] List.Pairwise.nil)) (ZeC txs [] List.nodup_nil)).2 fun a=>by rw[ZdY,ZgR]
theorem ZgY (txs:List HTx):(Z2 [] txs).length=(Zv txs []).length:=(ZjC txs).length_eq
theorem ZeJ (txs:List HTx) (key:Int):(Zh txs key)≠[]↔key∈Z2 [] txs:=by
 rw[ZdY];unfold Zh;rw[Ne,List.map_eq_nil_iff,List.filter_eq_nil_iff];simp only[List.contains_eq_mem,Bool.and_eq_true,decide_eq_true_eq]
 constructor
 ·intro h
  right
  apply Classical.byContradiction
  intro hn;exact h fun t ht hd=>hn ⟨t,ht,hd⟩
 ·rintro(h|⟨t,ht,hd⟩) hn
  ·cases h
  ·exact hn t ht hd
theorem ZgT (l:List HOp) (key:Int):key∈ZY l↔0<Zd l key:=by
 unfold ZY Zd wrN ZD;rw[Zbu,List.take_length,List.mem_map,List.length_pos_iff,Ne,List.filter_eq_nil_iff];unfold isW
 constructor
 ·rintro⟨o,ho,rfl⟩ hn;rw[List.mem_filter]at ho;exact hn o ho.1 (by rw[ho.2];simp)
 ·intro h
  apply Classical.byContradiction
  intro hn;refine h fun o ho hw=>hn ⟨o,?_,?_⟩
  ·rw[List.mem_filter];grind
  ·grind
theorem Zjp (id:Int) (o:HOp):ZaR id o=ZaS id o:=by
 unfold ZaR ZaS Zp
 cases h:o.read<;>simp
theorem ZfH (id:Int) (l:List HOp):∀k,k≤l.length→Zy id (Z0 id l k) (l.drop k)=Zy id [] l
 |0,_=>rfl
 |k+1,hk=>by
  rw[←ZfH id l k (by omega),List.drop_eq_getElem_cons (show k<l.length by omega),ZcV,Zjp]
  congr 1
  show(match l[k]? with|some o=>_|none=>_)=_
  rw[Qg (show k<l.length by omega)]
theorem ZkC (id:Int) (l:List HOp):Zy id [] l=ZdV id l:=by
 rw[←ZfH id l l.length (Nat.le_refl _),List.drop_length];rfl
/-! is a history right,by the document -/
def ZeZ (txs:List HTx) (keys:List Int) (ords:List HOrd) (i:Nat):Bool:=
 match ords[i]?,keys[i]? with
 |some o,some k=>o.key==k&&Zet o.txs (Zh txs o.key)
 |_,_=>true
def ZhF (h:Hist):Bool:=
 decide (h.txs.length≤4096)&&(List.range h.txs.length).all (ZbC h.txs)&&h.ords.length==(Z2 [] h.txs).length&&(List.range h.ords.length).all (ZeZ h.txs (Z2 [] h.txs) h.ords)
theorem Zgf {l:List Int} (h:∀i,i+1<l.length→l.getD i 0<l.getD (i+1) 0):l.Pairwise (·<·):=by
 have key:∀d i:Nat,i+d+1<l.length→l.getD i 0<l.getD (i+d+1) 0:=by
  intro d
  induction d with
  |zero=>intro i hi;exact h i hi
  |succ d ih=>
   intro i hi;have h1:=ih i (by omega);have h2:=h (i+d+1) (by omega);exact Int.lt_trans h1 h2
 rw[List.pairwise_iff_getElem];intro i j hi hj hij;have:=key (j-i-1) i (by omega);rw[show i+(j-i-1)+1=j by omega]at this
 simpa[List.getD_eq_getElem?_getD,Qg hi,Qg hj]using this
theorem Zdo {txs:List HTx} {ords:List HOrd} {i:Nat} (hi:i<ords.length):ZbT txs ords i=true↔(∀j,j+1=i→(ords.map (·.key)).getD j 0<ords[i].key)∧ords[i].txs≠[]∧Zet ords[i].txs (Zh txs ords[i].key)=true:=by
 unfold ZbT;rw[Qg hi,Zdm]
 cases i with
 |zero=>simp
 |succ j=>
  have hj:j<ords.length:=by omega
  simp only[Qg hj];simp[List.getD_eq_getElem?_getD,Qg hj]
  grind
theorem Zkm (h:Hist):ZhF h=Za h:=by
 obtain⟨txs,ords,A,c,B,d⟩:=h;unfold ZhF Za;simp only;rw[ZgY]
 by_cases hl:ords.length=(Zv txs []).length
 ·rw[show(ords.length==(Zv txs []).length)=true by simpa using hl,show((Zv txs []).length==ords.length)=true by simpa using hl.symm]
  congr 1
  rw[Bool.eq_iff_iff,List.all_eq_true,List.all_eq_true];have hk:=ZgY txs;have hkl:=Ze2 txs [] List.Pairwise.nil
  constructor
  ·intro hr i hi;have hi':i<ords.length:=List.mem_range.1 hi
   have hordL:∀i (hi:i<ords.length),ords[i].key=(Z2 [] txs)[i]'(by omega)∧Zet ords[i].txs (Zh txs ords[i].key)=true:=fun i hi=>by
    have:=hr i (List.mem_range.2 hi);unfold ZeZ at this;rw[Qg hi,Qg (show i<(Z2 [] txs).length by omega)]at this
    simpa using this
   rw[Zdo hi'];refine⟨fun j hj=> ?_,fun e=> ?_,(hordL i hi').2⟩
   ·have hj':j<ords.length:=by omega
    rw[List.getD_eq_getElem?_getD,List.getElem?_map,Qg hj'];simp only[Option.map_some,Option.getD_some];rw[(hordL i hi').1,(hordL j hj').1];exact List.pairwise_iff_getElem.1 hkl j i (by omega) (by omega) (by omega)
   ·have h1:=(hordL i hi').2;rw[e,Zdm,beq_iff_eq]at h1;have h2:=(ZeJ txs ords[i].key).2 (by rw[(hordL i hi').1];exact List.getElem_mem _);have h3:=(ZX (Zh txs ords[i].key)).length_eq;rw[←h1]at h3;exact h2 (List.eq_nil_of_length_eq_zero h3.symm)
  ·intro hr i hi;have hi':i<ords.length:=List.mem_range.1 hi;have hordL:=fun i (hi:i<ords.length)=>(Zdo hi).1 (hr i (List.mem_range.2 hi))
   have hrise:(ords.map (·.key)).Pairwise (·<·):=Zgf fun j hj=>by
    rw[List.length_map]at hj;have:=(hordL (j+1) hj).1 j rfl;rw[show(ords.map (·.key)).getD (j+1) 0=ords[j+1].key by rw[List.getD_eq_getElem?_getD,List.getElem?_map,Qg hj];rfl];exact this
   have hsub:∀k∈ords.map (·.key),k∈Z2 [] txs:=fun k hk=>by
    obtain⟨o,ho,rfl⟩:=List.mem_map.1 hk;obtain⟨j,hj,rfl⟩:=List.mem_iff_getElem.1 ho;rw[←ZeJ];intro e;have h1:=(hordL j hj).2.2;rw[e,Zdm,beq_iff_eq]at h1;have h3:=(ZX ords[j].txs).length_eq;rw[h1]at h3;exact(hordL j hj).2.1 (List.eq_nil_of_length_eq_zero h3.symm)
   have heq:ords.map (·.key)=Z2 [] txs:=by
    refine ZiI hrise hkl fun a=>⟨hsub a,fun ha=> ?_⟩
    apply Classical.byContradiction
    intro hn
    have:=(List.nodup_cons.2 ⟨hn,ZbG hrise⟩).length_le_of_subset (l₂:=Z2 [] txs) fun x hx=>by
     rcases List.mem_cons.1 hx with rfl|hx
     ·exact ha
     ·exact hsub x hx
    rw[List.length_cons,List.length_map]at this;omega
   unfold ZeZ;rw[Qg hi',Qg (show i<(Z2 [] txs).length by omega)];have e1:(Z2 [] txs)[i]'(by omega)=ords[i].key:=by simp only[←heq,List.getElem_map]
   simp[e1,(hordL i hi').2.2]
 ·rw[show(ords.length==(Zv txs []).length)=false by simpa using hl,show((Zv txs []).length==ords.length)=false by simpa using fun e=>hl e.symm];simp
end
/- Edges,reads and witnesses by the document,in plain words;for right histories they are what the program tells. -/
section
open Go.RowKit
section
variable {h:Hist}
theorem Zfr (hr:Za h=true) {i:Nat} (hi:i<h.txs.length):ZbC h.txs i=true:=by
 unfold Za at hr;simp only[Bool.and_eq_true,List.all_eq_true,List.mem_range]at hr;exact hr.1.1.2 i hi
theorem ZbH (hr:Za h=true):(h.txs.map (·.id)).Pairwise (·<·):=Zgf fun j hj=>by
 rw[List.length_map]at hj;have:=Zfr hr hj;unfold ZbC at this;rw[Qg hj]at this;simp only[Bool.and_eq_true]at this;have h1:=this.1.1;simp only[Qg (show j<h.txs.length by omega),decide_eq_true_eq]at h1;rw[List.getD_eq_getElem?_getD,List.getD_eq_getElem?_getD,List.getElem?_map,List.getElem?_map,Qg hj,Qg (show j<h.txs.length by omega)];exact h1
theorem Zfu (hr:Za h=true) {t:HTx} (ht:t∈h.txs):Ze h.txs t.id=some t:=by
 obtain⟨k,hk,rfl⟩:=List.mem_iff_getElem.1 ht;have hp:=List.pairwise_iff_getElem.1 (ZbH hr);refine Zcl hk (fun j hj=> ?_) (by simp);have:=hp j k (by simp;omega) (by simpa using hk) hj;simp only[List.getElem_map]at this;rw[beq_eq_false_iff_ne];omega
theorem ZaV {txs:List HTx} {i:Int} {t:HTx} (hf:Ze txs i=some t):t∈txs∧t.id=i:=by
 refine⟨Zb7 hf,?_⟩;unfold Ze at hf;have:=List.find?_some hf
 simpa using this
theorem Zbk (hr:Za h=true) {t:HTx} (ht:t∈h.txs):ZJ t.id t.ops=0∧ZaT h.txs t.id t.ops=true:=by
 obtain⟨k,hk,rfl⟩:=List.mem_iff_getElem.1 ht;have:=Zfr hr hk;unfold ZbC at this;rw[Qg hk]at this;simp only[Bool.and_eq_true,beq_iff_eq]at this;exact⟨this.1.2,this.2⟩
theorem ZeW (hr:Za h=true) {t:HTx} (ht:t∈h.txs):1≤t.id:=by
 have:=(Zbk hr ht).1;unfold ZJ at this
 split at this
 ·cases this
 ·rename_i hid
  unfold idB at hid;simp at hid;exact hid.1
theorem ZgP (id:Int) (l:List HOp):∀k,k≤l.length→∀j (hj:j<k) (hl:j<l.length),ZaS id l[j]=true→Zp l[j]∈Z0 id l k
 |0,_,j,hj,_,_=>by omega
 |k+1,hk,j,hj,hl,hn=>by
  have ih:=ZgP id l k (by omega)
  show Zp l[j]∈(match l[k]? with|some o=>_|none=>_)
  rw[Qg (show k<l.length by omega)]
  by_cases e:j=k
  ·subst e;simp only[hn,Bool.true_and]
   by_cases hc:Zp l[j]∈Z0 id l j
   ·simp[hc]
   ·simp[hc]
  ·have:=ih j (by omega) hl hn;simp only
   split
   ·exact List.mem_append_left _ this
   ·exact this
theorem ZgE (hr:Za h=true) {t:HTx} (ht:t∈h.txs) {o:HOp} (ho:o∈t.ops) (hn:ZaS t.id o=true):Z8 h.txs (Zp o)=true:=by
 have h1:=(Zbk hr ht).2;unfold ZaT at h1;rw[List.all_eq_true]at h1;obtain⟨j,hj,rfl⟩:=List.mem_iff_getElem.1 ho;exact h1 _ (ZgP t.id t.ops _ (Nat.le_refl _) j hj hj hn)
theorem Zim (hr:Za h=true) {t:HTx} (ht:t∈h.txs) {o:HOp} (ho:o∈t.ops) (hrd:o.read=true) (h0:o.tx≠0) (h1:o.tx≠t.id):∃u,Ze h.txs o.tx=some u:=by
 have hv:Zp o=⟨o.tx,o.key,o.nth⟩:=by unfold Zp;rw[if_pos hrd]
 have:=ZgE hr ht ho (by unfold ZaS;rw[hv];simp[hrd,h0,h1]);rw[hv]at this
 cases hf:Ze h.txs o.tx with
 |some u=>exact⟨u,rfl⟩
 |none=>
  unfold Z8 at this;simp[h0,hf]at this
end
/-! how often there is a reason for an edge -/
def p2 (f key:Int) (n:Nat) (o:HOp):Bool:=o.read&&o.key==key&&o.tx==f&&o.nth==(n:Int)
def p3 (h:Hist) (id key t:Int) (o:HOp):Bool:=o.read&&o.key==key&& !(o.tx==id)&&ZaC h.txs ⟨o.tx,o.key,o.nth⟩&&Zbf h.ords key o.tx t
def Zf (h:Hist) (e:Edge):Nat:=
 match Zq h.txs e.f,Zq h.txs e.t with
 |some a,some b=>
  if e.f=e.t then 0
  else if e.k=1 then (if Zbf h.ords e.key e.f e.t then 1 else 0)
  else if e.k=2 then b.ops.countP (p2 e.f e.key (Zd a.ops e.key))
  else if e.k=3 then a.ops.countP (p3 h a.id e.key e.t)
  else 0
 |_,_=>0
theorem Zaq {txs:List HTx} {i:Int} {t:HTx} (hd:Zq txs i=some t):Ze txs i=some t∧t.done=true:=by
 unfold Zq at hd
 split at hd
 ·split at hd
  ·rename_i u hf hu
   cases hd
   exact⟨hf,hu⟩
  ·cases hd
 ·cases hd
/-! bad reads -/
def Zbx (txs:List HTx) (t:HTx) (p:Int) (o:HOp):Bool:=
 t.done&&o.read&& !(o.tx==0)&& !(o.tx==t.id)&&(match Ze txs o.tx with|none=>false|some u=>if p=2 then !u.done else p==3&&decide (o.nth<(Zd u.ops o.key:Int)))
def ZaK (txs:List HTx) (p:Int) (t:HTx) (i:Nat) (acc:List HBad):List HOp→List HBad
 |[]=>acc
 |o::l=>ZaK txs p t (i+1) (if Zbx txs t p o then acc++[⟨t.id,i,Zp o⟩] else acc) l
def Zbn (txs:List HTx) (p:Int) (acc:List HBad):List HTx→List HBad
 |[]=>acc
 |t::l=>Zbn txs p (ZaK txs p t 0 acc t.ops) l
def Z3 (h:Hist) (p:Int):List HBad:=if Za h=true then Zbn h.txs p [] h.txs else []
theorem ZgU (txs:List HTx) (p:Int) (t:HTx) (b:HBad):∀(l:List HOp) (i:Nat) (acc:List HBad),b∈ZaK txs p t i acc l↔b∈acc∨∃(j:Nat) (o:HOp),l[j]? =some o∧Zbx txs t p o=true∧b=⟨t.id,((i+j:Nat):Int),Zp o⟩
 |[],i,acc=>by simp[ZaK]
 |o::l,i,acc=>by
  show b∈ZaK txs p t (i+1) (if Zbx txs t p o then acc++[⟨t.id,i,Zp o⟩] else acc) l↔_
  rw[ZgU txs p t b l]
  constructor
  ·rintro(h|⟨j,o',h1,h2,h3⟩)
   ·by_cases hb:Zbx txs t p o=true
    ·rw[if_pos hb,List.mem_append,List.mem_singleton]at h;rcases h with h|h
     ·exact .inl h
     ·exact .inr ⟨0,o,rfl,hb,by simpa using h⟩
    ·rw[if_neg hb]at h;exact .inl h
   ·exact .inr ⟨j+1,o',by simpa using h1,h2,by rw[h3];congr 2;omega⟩
  ·rintro(h|⟨j,o',h1,h2,h3⟩)
   ·left
    split
    ·exact List.mem_append_left _ h
    ·exact h
   ·cases j with
    |zero=>
     simp only[Qz,Option.some.injEq]at h1;subst h1
     left
     rw[if_pos h2,List.mem_append,List.mem_singleton];exact .inr (by simpa using h3)
    |succ j=>
     right
     exact⟨j,o',by simpa using h1,h2,by rw[h3];congr 2;omega⟩
theorem ZdZ (txs:List HTx) (p:Int) (b:HBad):∀(l:List HTx) (acc:List HBad),b∈Zbn txs p acc l↔b∈acc∨∃t∈l,∃(j:Nat) (o:HOp),t.ops[j]? =some o∧Zbx txs t p o=true∧b=⟨t.id,(j:Int),Zp o⟩
 |[],acc=>by simp[Zbn]
 |t::l,acc=>by
  show b∈Zbn txs p (ZaK txs p t 0 acc t.ops) l↔_
  rw[ZdZ txs p b l,ZgU];simp only[Nat.zero_add,List.mem_cons,exists_eq_or_imp]
  grind
/-! witnesses -/
end
/- The document:who is next,which version is the last one,which read may not be. -/
section
open Go.RowKit
theorem ZhY (x:Int):∀(l:List Int) (k:Nat),ZbP x l k=if Zax l x<l.length then ((Zax l x+k:Nat):Int) else -1
 |[],k=>by simp[ZbP,Zax]
 |y::l,k=>by
  rw[Zd6,ZhY x l (k+1)];unfold Zax;rw[List.findIdx_cons]
  by_cases h:y=x
  ·rw[if_pos h,show(y==x)=true by simpa using h];simp
  ·rw[if_neg h,show(y==x)=false by simpa using h];simp only[cond_false,List.length_cons]
   by_cases h2:l.findIdx (·==x)<l.length
   ·rw[if_pos h2,if_pos (by omega)];congr 1;omega
   ·rw[if_neg h2,if_neg (by omega)]
theorem Zm9 (x:Int) (l:List Int):ZbP x l 0=if Zax l x<l.length then (Zax l x:Int) else -1:=by
 rw[ZhY];rfl
set_option maxRecDepth 100000 in
theorem Zov (F:Nat→Prop) (w:World) (A:Option Addr) (c:Nat) (l:List Int) (tx:Int) (h:Ints F w A l) (hl:l.length≤17592186044415):
  Calls Tryz.prog 191 #[.slice A l.length c,.int .i64 tx] w (Zll w (Z6 l tx)):=by
 have hidx:=ZnH F w A c l tx h hl;rw[Zm9]at hidx
 by_cases h0:tx=0
 ·have hn:=Qh (show Z6 l tx=l[0]? by unfold Z6;rw[if_pos h0]);have h0b:(tx==0)=true:=by simpa using h0
  obtain⟨iv,hiv⟩:∃iv,(if Zax l tx<l.length then (Zax l tx:Int) else -1)=iv:=⟨_,rfl⟩;rw[hiv]at hidx;have Hidx:=Qh hidx;clear hidx hiv h0
  by_cases hz:l.length=0
  ·have hn2:=Qh (show Z6 l tx=none by rw[hn.out];exact List.getElem?_eq_none (by omega));obtain rfl:l=[]:=List.eq_nil_of_length_eq_zero hz;clear hz
   go_enter Tryz.func191,Tryz.ntmps191
   go_wp2_with fail
   refine(Hidx.out).mono ?_;rintro e w1 ⟨rfl,hu1⟩;go_wp2
   go_ret2
   exact⟨by rw[hn2.out];rfl,hu1⟩
  ·have hp:0<l.length:=by omega
   have hn2:=Qh (show Z6 l tx=some l[0] by rw[hn.out];exact Qg hp);have hpI:(0:Int)<(l.length:Int):=by omega
   have hpI2:¬l=[]:=fun e=>by rw[e]at hp;simp at hp
   have hC:∀W,Upd No w W→∃ad,A=some ad∧W.cell? ad=some (.int .i64 l[0]):=fun W hW=>by
    obtain⟨ad,hA,_,_,hc⟩:=(h.upd hW (fun _ _=>id)).at_ hp;have ha:ad.add 0=ad:=by unfold Addr.add;simp
    rw[ha]at hc;exact⟨ad,hA,hc⟩
   obtain⟨ad,rfl,_⟩:=hC w (Upd.refl _ _)
   have hc1:∀W,Upd No w W→W.cell? ad=some (.int .i64 l[0]):=fun W hW=>by
    obtain⟨ad',e,hc⟩:=hC W hW
    cases e
    exact hc
   clear hz hC
   go_enter Tryz.func191,Tryz.ntmps191
   go_wp2_with fail
   refine(Hidx.out).mono ?_;rintro e w1 ⟨rfl,hu1⟩;go_wp2
   go_ret2
   exact⟨by rw[hn2.out];rfl,hu1⟩
 ·have hn:=Qh (show Z6 l tx=if Zax l tx<l.length then l[Zax l tx+1]? else none by unfold Z6;rw[if_neg h0]);have h0b:(tx==0)=false:=by simpa using h0
  clear h0
  by_cases hp:Zax l tx<l.length
  ·rw[if_pos hp]at hidx;have Hidx:=Qh hidx;clear hidx;obtain⟨k,hk⟩:∃k,Zax l tx=k:=⟨_,rfl⟩;rw[hk]at Hidx hn hp;clear hk;have hk0:(0:Int)≤(k:Int)+1:=by omega
   by_cases he:k+1=l.length
   ·have hn2:=Qh (show Z6 l tx=none by rw[hn.out,if_pos hp];exact List.getElem?_eq_none (by omega));have heb:(l.length:Int)≤(k:Int)+1:=by omega
    have He:=Qh he;clear he
    go_enter Tryz.func191,Tryz.ntmps191
    go_wp2_with fail
    refine(Hidx.out).mono ?_;rintro e w1 ⟨rfl,hu1⟩;go_wp2
    go_ret2
    exact⟨by rw[hn2.out];rfl,hu1⟩
   ·have hlt:k+1<l.length:=by omega
    have hn2:=Qh (show Z6 l tx=some l[k+1] by rw[hn.out,if_pos hp];exact Qg hlt);have heb:¬(l.length:Int)≤(k:Int)+1:=by omega
    obtain⟨ad,hA,_,_,_⟩:=h.at_ hlt;subst hA
    have hc2:∀W,Upd No w W→W.cell? ⟨ad.block,ad.off+(k+1),none⟩=some (.int .i64 l[k+1]):=fun W hW=>by
     obtain⟨ad',e,_,_,hc⟩:=(h.upd hW (fun _ _=>id)).at_ hlt
     cases e
     rw[←hc]
     congr 1
    have hltI:(k:Int)+1<(l.length:Int):=by omega
    clear he
    go_enter Tryz.func191,Tryz.ntmps191
    go_wp2_with fail
    refine(Hidx.out).mono ?_;rintro e w1 ⟨rfl,hu1⟩;go_wp2
    go_ret2
    exact⟨by rw[hn2.out];rfl,hu1⟩
  ·rw[if_neg hp]at hidx;have Hidx:=Qh hidx;clear hidx;have hn2:=Qh (show Z6 l tx=none by rw[hn.out,if_neg hp]);clear hp
   go_enter Tryz.func191,Tryz.ntmps191
   go_wp2_with fail
   refine(Hidx.out).mono ?_;rintro e w1 ⟨rfl,hu1⟩;go_wp2
   go_ret2
   exact⟨by rw[hn2.out];rfl,hu1⟩
end
/- Looking at a history:reads that may not be. -/
section
open Go.RowKit
def Zaw (txs:List HTx) (i:Int):Bool:=match Ze txs i with|some u=>u.done|none=>false
def ZaN (txs:List HTx) (i:Int):List HOp:=match Ze txs i with|some u=>u.ops|none=>[]
section
variable {txs:List HTx} {p:Int} {b:HBad}
end
theorem Zo9 (w:World) (k t n:Int):Calls Tryz.prog 201 #[.agg #[.bool true,.int .i64 k,.int .i64 t,.int .i64 n]] w fun e w'=>e= .returned (.agg #[.int .i64 t,.int .i64 k,.int .i64 n])∧Upd No w w':=oof w ⟨true,k,t,n⟩
end
/- Looking at a history:witnesses. -/
section
open Go.RowKit
def ZjZ (b:HBad):Value:= .agg #[.int .i64 b.tx,.int .i64 b.place,.int .i64 b.of.tx,.int .i64 b.of.key,.int .i64 b.of.nth]
theorem Zjb (w:World) (n:Nat) (a b c a' b' c':Int):(Op.equalIn (n+1+1) 36 (.agg #[.int .i64 a,.int .i64 b,.int .i64 c]) (.agg #[.int .i64 a',.int .i64 b',.int .i64 c'])).run Tryz.prog w= .ok (decide ((⟨a,b,c⟩:Ver)=⟨a',b',c'⟩)) w:=by
 rw[run_equalIn_struct w _ _ _ _ (by kernel_rfl) (by kernel_rfl)];have hI:∀(w:World) (d:Nat) (x y:Int),(Op.equalIn (d+1) 3 (.int .i64 x) (.int .i64 y)).run Tryz.prog w= .ok (x==y) w:=fun w d x y=>run_equalIn_int w d _ _ _ x y Tryz.underlying3
 by_cases h1:a=a'<;>by_cases h2:b=b'<;>by_cases h3:c=c'<;>
  simp[Program.fieldsOf,Tryz.underlying36,Op.eqFields,part,hI,h1,h2,h3,Result.andThen]
theorem Zlf (w:World) (x y:HBad):(Op.equalIn 10000 38 (ZjZ x) (ZjZ y)).run Tryz.prog w= .ok (decide (x=y)) w:=by
 obtain⟨a,b,⟨c,d,e⟩⟩:=x;obtain⟨a',b',⟨c',d',e'⟩⟩:=y;unfold ZjZ
 show(Op.equalIn (9997+1+1+1) _ _ _).run _ w=_
 rw[run_equalIn_struct w _ _ _ _ (by kernel_rfl) (by kernel_rfl)]
 generalize 9997=n
 have hI:∀(w:World) (d:Nat) (x y:Int),(Op.equalIn (d+1) 3 (.int .i64 x) (.int .i64 y)).run Tryz.prog w= .ok (x==y) w:=fun w d x y=>run_equalIn_int w d _ _ _ x y Tryz.underlying3
 have hV:=fun w=>Zjb w n c d e c' d' e'
 have hp:∀(w:World) (q r c d e:Value),(part 36 #[q,r,c,d,e] 2).run Tryz.prog w= .ok (.agg #[c,d,e]) w:=fun w q r c d e=>by
  obtain⟨i,hi,_,hs,_⟩:=info_parts (P:=Tryz.prog) (e:=36) (z:= .agg #[.int .i64 0,.int .i64 0,.int .i64 0]) (size:=3) (bytes:=24) (by kernel_rfl);simp[part,isAgg,run_underlying Tryz.underlying36,sizeOf,typeInfo,hi,hs,Result.andThen]
 have hp0:∀(w:World) (q r c d e:Value),(part 3 #[q,r,c,d,e] 0).run Tryz.prog w= .ok q w:=fun w q r c d e=>by simp[part,isAgg,run_underlying Tryz.underlying3]
 have hp1:∀(w:World) (q r c d e:Value),(part 3 #[q,r,c,d,e] 1).run Tryz.prog w= .ok r w:=fun w q r c d e=>by simp[part,isAgg,run_underlying Tryz.underlying3]
 by_cases h1:a=a'<;>by_cases h2:b=b'<;>by_cases h3:(⟨c,d,e⟩:Ver)=⟨c',d',e'⟩<;>
  simp[Program.fieldsOf,Tryz.underlying38,Op.eqFields,hp,hp0,hp1,hI,hV,h1,h2,h3,Result.andThen]
section
variable {h:Hist} {p:Int} {l:List Edge} {b:HBad}
end
theorem Zc9 {F:Nat→Prop} {w:World} {txs:List HTx} {ords:List HOrd} {A:Option Addr} {c:Nat} {B:Option Addr} {d:Nat} {r:Bool} (H:Hist.lies F w ⟨txs,ords,A,c,B,d⟩) (hr:Za ⟨txs,ords,A,c,B,d⟩=r):
  Calls Tryz.prog 17 #[.agg #[.slice A txs.length c,.slice B ords.length d]] w fun e w'=>e= .returned (.bool r)∧Upd No w w':=by subst hr;exact ZkT F w ⟨txs,ords,A,c,B,d⟩ H
end
/- The document:which version is the last one,which reads may not be. -/
section
open Go.RowKit
theorem Zjx {txs:List HTx} {v:Ver} (h:v.tx=0):ZaC txs v=true:=by unfold ZaC;rw[if_pos h]
theorem Zjz {txs:List HTx} {v:Ver} (h:¬v.tx=0) (hf:Ze txs v.tx=none):ZaC txs v=false:=by unfold ZaC Zq;rw[if_neg h,hf]
theorem Zjy {txs:List HTx} {v:Ver} {t:HTx} (h:¬v.tx=0) (hf:Ze txs v.tx=some t):ZaC txs v=(t.done&&v.nth==(Zd t.ops v.key:Int)):=by
 unfold ZaC Zq;rw[if_neg h,hf]
 cases hd:t.done<;>simp[hd]
set_option maxRecDepth 100000 in
set_option maxHeartbeats 1000000 in
theorem Zow (F:Nat→Prop) (w:World) (txs:List HTx) (ords:List HOrd) (A:Option Addr) (c:Nat) (B:Option Addr) (d:Nat) (o:HOp) (H:Hist.lies F w ⟨txs,ords,A,c,B,d⟩):
  Calls Tryz.prog 192 #[.agg #[.slice A txs.length c,.slice B ords.length d],.agg o.cells.toArray] w fun e w'=>e= .returned (.bool (ZaC txs ⟨o.tx,o.key,o.nth⟩))∧Upd No w w':=by
 obtain⟨rd,ky,tx,nt⟩:=o;unfold HOp.cells;simp only;have u0:=((Upd.refl No w).alloc (.cells #[.slice A txs.length c,.slice B ords.length d] 29)).alloc (.cells #[.bool rd,.int .i64 ky,.int .i64 tx,.int .i64 nt] 95);have bH:=Qh ((Blk.new w 29 [.slice A txs.length c,.slice B ords.length d]).alloc (.cells #[.bool rd,.int .i64 ky,.int .i64 tx,.int .i64 nt] 95));have b1:=Blk.new (w.alloc (.cells #[.slice A txs.length c,.slice B ords.length d] 29)) 95 [.bool rd,.int .i64 ky,.int .i64 tx,.int .i64 nt];simp only[World.size_alloc]at b1;have bX:=Qh b1;have U0:=Qh u0;clear b1 u0;have HH:=Qh (H.upd U0.out (fun _ _=>id))
 by_cases h0:tx=0
 ·have HV:=Qh (Zjx (txs:=txs) (v:=⟨tx,ky,nt⟩) h0);have hb:(tx==0)=true:=by simpa using h0
  clear h0
  go_enter Tryz.func192,Tryz.ntmps192
  go_wp2
  go_ret
  exact⟨by rw[HV.out];rfl,U0.out⟩
 ·have hb:(tx==0)=false:=by simpa using h0
  cases hf:Ze txs tx with
  |none=>
   have HV:=Qh (Zjz (txs:=txs) (v:=⟨tx,ky,nt⟩) h0 hf);have HF:=Qh hf;clear hf h0
   go_enter Tryz.func192,Tryz.ntmps192
   go_wp2_with fail
   refine(Zcg HH.out HF.out).mono ?_;rintro e w1 ⟨rfl,hu1⟩;have uT:=hu1.alloc (.cells #[.int .i64 0,.bool false,.slice none 0 0] 81);clear hu1;go_wp2;refine wp_region_noPanic ?_;refine wp_region_held_drew (S:=(fun w'=>Upd No (w1.alloc (.cells #[.int .i64 0,.bool false,.slice none 0 0] 81)) w')) (by kernel_rfl) ?_ (fun hHeld=> ?_)
   ·(first|exact(Upd.refl No _).drew|exact hHeld.trans hu3)
   refine wpK 0 rfl ?_;refine wpK 1 rfl ?_;refine wpN 2 rfl ?_;refine wpN 3 rfl ?_;refine wpK 4 rfl ?_;refine wpK 5 rfl ?_;refine wpN 6 rfl ?_;refine wpN 7 rfl ?_;refine wpN 8 rfl ?_;refine wpN 9 rfl ?_;refine wpN 10 rfl ?_;refine wpN 11 rfl ?_;refine wpR [12] ?_;refine wpC rfl (fun K hK=> ?_) AllReadyH.nil;go_simp;refine hK.out _ _ ?_ (fun hHeld=> ?_)
   ·exact hHeld
   clear hK K
   try simp only[Act.put,sT,sS,sZ]
   refine wpN 13 rfl ?_;refine wpK 14 rfl ?_;refine wpK 15 rfl ?_;refine wpD (NoPanic.normal ?_);have HU:=Qh (U0.out.trans (uT.trans hHeld));clear hHeld;go_wp2
   go_ret
   exact⟨by rw[HV.out];rfl,HU.out⟩
  |some t=>
   have HV:=Qh (Zjy (txs:=txs) (v:=⟨tx,ky,nt⟩) h0 hf);have HF:=Qh hf;have HT:=Qh (H.tx t (Ze8 hf));clear hf h0;obtain⟨ti,td,tO,tA,tc⟩:=t
   go_enter Tryz.func192,Tryz.ntmps192
   go_wp2_with fail
   refine(Zbe HH.out HF.out).mono ?_;rintro e w1 ⟨A1,c1,rfl,hc1,hh1,hu1⟩;simp only at hc1 hh1 HV;have bT:=Blk.new w1 81 [.int .i64 ti,.bool td,.slice A1 tO.length c1];have uT:=hu1.alloc (.cells #[.int .i64 ti,.bool td,.slice A1 tO.length c1] 81);have t1:∀W,Upd No (w1.alloc (.cells #[.int .i64 ti,.bool td,.slice A1 tO.length c1] 81)) W→W.cell? ⟨w1.heap.size,1,none⟩=some (.bool td):=fun W hW=>(bT.upd hW id).cell 1
   have t2:∀W,Upd No (w1.alloc (.cells #[.int .i64 ti,.bool td,.slice A1 tO.length c1] 81)) W→W.cell? ⟨w1.heap.size,2,none⟩=some (.slice A1 tO.length c1):=fun W hW=>(bT.upd hW id).cell 2
   have x1:∀W,Upd No (w1.alloc (.cells #[.int .i64 ti,.bool td,.slice A1 tO.length c1] 81)) W→W.cell? ⟨w.heap.size+1,1,none⟩=some (.int .i64 ky):=fun W hW=>(bX.out.upd (uT.trans hW) id).cell 1
   have x3:∀W,Upd No (w1.alloc (.cells #[.int .i64 ti,.bool td,.slice A1 tO.length c1] 81)) W→W.cell? ⟨w.heap.size+1,3,none⟩=some (.int .i64 nt):=fun W hW=>(bX.out.upd (uT.trans hW) id).cell 3
   have HW:=Qh fun W (hW:Upd No (w1.alloc (.cells #[.int .i64 ti,.bool td,.slice A1 tO.length c1] 81)) W)=>ZbA F W A1 c1 tO ky (HOps.upd hh1 (((Upd.refl No _).alloc _).trans hW) (fun _ _=>id)) HT.out.2.2.1
   have UT:=Qh uT;clear bT uT hu1 hh1
   cases td
   ·go_wp2;refine wp_region_noPanic ?_;refine wp_region_held_drew (S:=(fun w'=>Upd No (w1.alloc (.cells #[.int .i64 ti,.bool false,.slice A1 tO.length c1] 81)) w')) (by kernel_rfl) ?_ (fun hHeld=> ?_)
    ·(first|exact(Upd.refl No _).drew|exact hHeld.trans hu3)
    refine wpK 0 rfl ?_;refine wpK 1 rfl ?_;refine wpK 2 rfl ?_;refine wpK 3 rfl ?_;refine wpK 4 rfl ?_;refine wpK 5 rfl ?_;refine wpN 6 rfl ?_;refine wpN 7 rfl ?_;refine wpN 8 rfl ?_;refine wpN 9 rfl ?_;refine wpN 10 rfl ?_;refine wpN 11 rfl ?_;refine wpR [12] ?_;refine wpC rfl (fun K hK=> ?_) AllReadyH.nil;go_simp;refine hK.out _ _ ?_ (fun hHeld=> ?_)
    ·exact hHeld
    clear hK K
    try simp only[Act.put,sT,sS,sZ]
    refine wpN 13 rfl ?_;refine wpK 14 rfl ?_;refine wpK 15 rfl ?_;refine wpD (NoPanic.normal ?_);have HU:=Qh (U0.out.trans (UT.out.trans hHeld));clear hHeld;go_wp2
    go_ret
    exact⟨by rw[HV.out];rfl,HU.out⟩
   ·go_wp2;refine wp_region_noPanic ?_;refine wp_region_held_drew (S:=(fun w'=>Upd No (w1.alloc (.cells #[.int .i64 ti,.bool true,.slice A1 tO.length c1] 81)) w')) (by kernel_rfl) ?_ (fun hHeld=> ?_)
    ·(first|exact(Upd.refl No _).drew|exact hHeld.trans hu3)
    refine wpK 0 rfl ?_;refine wpK 1 rfl ?_;refine wpK 2 rfl ?_;refine wpK 3 rfl ?_;refine wpK 4 rfl ?_;refine wpK 5 rfl ?_;refine wpK 6 rfl ?_;refine wpK 7 rfl ?_;refine wpK 8 rfl ?_;refine wpK 9 rfl ?_;refine wpK 10 rfl ?_;refine wpK 11 rfl ?_;refine wpR [12] ?_;refine wpC rfl (fun K hK=> ?_) AllReadyH.nil;go_simp
    (first
  |(go_at_call 113;refine(HW.out _ hHeld).mono ?_;rintro e w3 ⟨rfl,hu3⟩))
    try (go_wp2_with fail)
    refine hK.out _ _ ?_ (fun hHeld=> ?_)
    ·(first|exact(Upd.refl No _).drew|exact hHeld.trans hu3)
    clear hK K
    try simp only[Act.put,sT,sS,sZ]
    refine wpK 13 rfl ?_;refine wpK 14 rfl ?_;refine wpK 15 rfl ?_;refine wpD (NoPanic.normal ?_);have HU:=Qh (U0.out.trans (UT.out.trans hHeld));clear hHeld;go_wp2
    go_ret
    exact⟨by rw[HV.out];rfl,HU.out⟩
end
/- Right histories:the document's own steps come to what the program tells. -/
section
open Go.RowKit
theorem ZgZ:∀(l:List HTx) (s:List Int),Zam s l=Z2 s l
 |[],_=>rfl
 |t::l,s=>by
  rw[ZeL,Zm8,ZgZ l];rfl
theorem Zli (txs:List HTx) (k:Nat) (id:Int):Zf6 txs k id=Zca txs k id:=by
 cases k<;>rfl
theorem Znx {txs:List HTx} {k:Nat} (hk:k<txs.length):txR txs k txs[k]=ZbC txs k:=by
 rw[ZiB hk rfl];unfold txR ZaT;rw[Zli,ZkC];rfl
theorem Zhw (txs:List HTx):∀(m k:Nat),k+m=txs.length→(Zbp txs (txs.drop k) k=true↔∀i,k≤i→i<txs.length→ZbC txs i=true)
 |0,k,hk=>by
  obtain rfl:k=txs.length:=by omega
  rw[List.drop_length];exact⟨fun _ i h1 h2=>by omega,fun _=>rfl⟩
 |m+1,k,hk=>by
  have hlt:k<txs.length:=by omega
  rw[List.drop_eq_getElem_cons hlt,ZdK,Bool.and_eq_true,Zhw txs m (k+1) (by omega),Znx hlt]
  constructor
  ·rintro⟨h1,h2⟩ i hi hi2
   by_cases e:i=k
   ·subst e;exact h1
   ·exact h2 i (by omega) hi2
  ·intro h;exact⟨h k (Nat.le_refl _) hlt,fun i hi hi2=>h i (by omega) hi2⟩
theorem Zj8 (key:Int):∀(l:List HTx) (acc:List Int),wrS key acc l=acc++Zh l key
 |[],acc=>by simp[wrS,Zh]
 |t::l,acc=>by
  rw[ZeQ,Zj8 key l]
  have hc:(ZY t.ops).contains key=decide (0<Zd t.ops key):=by
   rw[List.contains_eq_mem]
   congr 1
   simp only[ZgT]
  unfold Zh;rw[List.filter_cons];simp only[hc]
  split<;>simp
theorem Zol (key:Int) (l:List HTx):wrS key [] l=Zh l key:=by rw[Zj8];simp
theorem ZgL (txs:List HTx) (keys:List Int) (ords:List HOrd) (hl:ords.length=keys.length):∀(m k:Nat),k+m=ords.length→(ZbI txs keys (ords.drop k) k=true↔∀i,k≤i→i<ords.length→ZeZ txs keys ords i=true)
 |0,k,hk=>by
  obtain rfl:k=ords.length:=by omega
  rw[List.drop_length];exact⟨fun _ i h1 h2=>by omega,fun _=>rfl⟩
 |m+1,k,hk=>by
  have hlt:k<ords.length:=by omega
  have hlt2:k<keys.length:=by omega
  have hone:(ords[k].key==keys.getD k 0&&(ords[k].txs.length==(wrS ords[k].key [] txs).length&&ords[k].txs.all fun x=>ords[k].txs.count x==(wrS ords[k].key [] txs).count x))=ZeZ txs keys ords k:=by
   unfold ZeZ Zet;rw[Qg hlt,Qg hlt2,Zol,List.getD_eq_getElem?_getD,Qg hlt2];rfl
  rw[List.drop_eq_getElem_cons hlt,ZfB,hone,Bool.and_eq_true,ZgL txs keys ords hl m (k+1) (by omega)]
  constructor
  ·rintro⟨h1,h2⟩ i hi hi2
   by_cases e:i=k
   ·subst e;exact h1
   ·exact h2 i (by omega) hi2
  ·intro h;exact⟨h k (Nat.le_refl _) hlt,fun i hi hi2=>h i (by omega) hi2⟩
theorem Zkl (h:Hist):Zaj h.txs h.ords=Za h:=by
 rw[←Zkm];unfold Zaj ZhF;rw[ZgZ]
 have h1:Zbp h.txs h.txs 0=(List.range h.txs.length).all (ZbC h.txs):=by
  rw[Bool.eq_iff_iff,List.all_eq_true];have:=Zhw h.txs h.txs.length 0 (by omega);rw[List.drop_zero]at this;rw[this];exact⟨fun k i hi=>k i (Nat.zero_le _) (List.mem_range.1 hi),fun k i _ hi=>k i (List.mem_range.2 hi)⟩
 rw[h1]
 by_cases hl:h.ords.length=(Z2 [] h.txs).length
 ·have h2:ZbI h.txs (Z2 [] h.txs) h.ords 0=(List.range h.ords.length).all (ZeZ h.txs (Z2 [] h.txs) h.ords):=by
   rw[Bool.eq_iff_iff,List.all_eq_true];have:=ZgL h.txs (Z2 [] h.txs) h.ords hl h.ords.length 0 (by omega);rw[List.drop_zero]at this;rw[this];exact⟨fun k i hi=>k i (Nat.zero_le _) (List.mem_range.1 hi),fun k i _ hi=>k i (List.mem_range.2 hi)⟩
  rw[h2,Bool.and_assoc,Bool.and_assoc]
 ·rw[show(h.ords.length==(Z2 [] h.txs).length)=false by simpa using hl];simp
theorem ZmW (F:Nat→Prop) (w:World) (txs:List HTx) (ords:List HOrd) (A:Option Addr) (c:Nat) (B:Option Addr) (d:Nat) (H:Hist.lies F w ⟨txs,ords,A,c,B,d⟩):
  Calls Tryz.prog 27 #[.agg #[.slice A txs.length c,.slice B ords.length d]] w fun e w'=>e= .returned (.bool (Za ⟨txs,ords,A,c,B,d⟩))∧Upd No w w':=by
 have:=ZnK F w txs ords A c B d H
 rwa [show Zaj txs ords=Za ⟨txs,ords,A,c,B,d⟩ from Zkl ⟨txs,ords,A,c,B,d⟩]at this
end
/- The document:the reads that may not be. -/
section
open Go.RowKit
theorem Upd.noR {S:Nat→Prop} {a w w':World} (h:Upd S a w) (k:Upd No w w'):Upd S a w':=h.trans_ k fun _ _ t=>t.elim
def Bads (F:Nat→Prop) (w:World) (A:Option Addr) (l:List HBad):Prop:=Recs F w A 5 (l.map HBad.cells)
theorem Bads.at_ {F:Nat→Prop} {w:World} {A:Option Addr} {l:List HBad} (h:Bads F w A l) {k:Nat} (hk:k<l.length):∃ad,A=some ad∧
  w.cell? (ad.add (k*5))=some (.int .i64 l[k].tx)∧w.cell? ⟨(ad.add (k*5)).block,(ad.add (k*5)).off+1,none⟩=some (.int .i64 l[k].place)∧
  w.cell? ⟨(ad.add (k*5)).block,(ad.add (k*5)).off+2,none⟩=some (.int .i64 l[k].of.tx)∧w.cell? ⟨(ad.add (k*5)).block,(ad.add (k*5)).off+3,none⟩=some (.int .i64 l[k].of.key)∧
  w.cell? ⟨(ad.add (k*5)).block,(ad.add (k*5)).off+4,none⟩=some (.int .i64 l[k].of.nth):=by
 have hk':k<(l.map HBad.cells).length:=by simpa using hk
 obtain⟨ad,e,_,_,hc⟩:=Recs.at_ h hk';rw[List.getElem_map]at hc;exact⟨ad,e,by simpa using hc 0 _ rfl,by simpa using hc 1 _ rfl,by simpa using hc 2 _ rfl,by simpa using hc 3 _ rfl,by simpa using hc 4 _ rfl⟩
theorem Bads.upd {F S:Nat→Prop} {w w':World} {A:Option Addr} {l:List HBad} (h:Bads F w A l) (k:Upd S w w') (hn:∀i,F i→¬S i):Bads F w' A l:=Recs.upd h k hn
theorem ZaG {l:List HBad}:∀r∈l.map HBad.cells,r.length=5:=fun r hr=>by
 obtain⟨e,_,rfl⟩:=List.mem_map.1 hr;rfl
theorem Zcs:SlT Tryz.prog 67 38 5 40:=SlT.mk_ Tryz.underlying67 (z:= .agg #[.int .i64 0,.int .i64 0,.int .i64 0,.int .i64 0,.int .i64 0]) (by kernel_rfl) rfl (by omega)
theorem Zno (w:World) (x y:HBad):(binOp .eql 38 (.agg #[.int .i64 x.tx,.int .i64 x.place,.int .i64 x.of.tx,.int .i64 x.of.key,.int .i64 x.of.nth]) (.agg #[.int .i64 y.tx,.int .i64 y.place,.int .i64 y.of.tx,.int .i64 y.of.key,.int .i64 y.of.nth])).run Tryz.prog w= .ok (.bool (x==y)) w:=by
 have:=Zlf w x y;unfold ZjZ at this;rw[run_eql_struct,this];simp only[Result.andThen]
 by_cases h:x=y<;>simp[h]
def ZeB (w:World) (l:List HBad) (e:Ending) (w':World):Prop:=∃A c,e= .returned (.slice A l.length c)∧w'.ownsRow w.heap.size 38 5 (.slice A l.length c) l.length (l.map HBad.cells).flatten∧Upd No w w'
theorem ZjX (txs:List HTx) (p:Int) (t:HTx) (i:Nat) (acc:List HBad) (o:HOp) (l:List HOp):ZaK txs p t i acc (o::l)=ZaK txs p t (i+1) (if Zbx txs t p o then acc++[⟨t.id,i,Zp o⟩] else acc) l:=rfl
theorem ZjY (txs:List HTx) (p:Int) (acc:List HBad) (t:HTx) (l:List HTx):Zbn txs p acc (t::l)=Zbn txs p (ZaK txs p t 0 acc t.ops) l:=rfl
end
end Go.Proofs.YtblplapkdmhikaaGreat
