/- What the document tells of histories, in plain words; it is what the program tells. -/
import Derived.Test.YticmndpiehinjaaGreatMaw
import Derived.Test.YticmndpiehinjaaGreatMbc
import Derived.Test.YticmndpiehinjaaGreatMbg
namespace Go.Proofs.YticmndpiehinjaaGreat
set_option linter.unusedVariables false
set_option linter.unusedSimpArgs false
section
open Go.RowKit
theorem Zlr {l m:List Int} (hl:l.Pairwise (·<·)) (hm:m.Pairwise (·<·)) (h:∀a,a∈l↔a∈m):l=m:=
 ZfG ((List.perm_ext_iff_of_nodup (hl.imp fun h=>Int.ne_of_lt h) (hm.imp fun h=>Int.ne_of_lt h)).2 h) (hl.imp Int.le_of_lt) (hm.imp Int.le_of_lt)
theorem ZoL (xs:List Int) (n:Int):Zf n (ZB xs)=ZB (xs++[n]):=
 Zlr (Zc8 n _ (Zbx xs)) (Zbx _) fun a=>by rw[Za2,Zb6,Zb6,List.mem_append,List.mem_singleton];grind
def Zgo (a b:List Int):Bool:=a.length==b.length&&a.all fun x=>a.count x==b.count x
theorem Zfz:∀(a b:List Int),a.length=b.length→(∀x∈a,a.count x=b.count x)→a.Perm b
 |[],b,hl,_=>by
  have:b=[]:=List.eq_nil_of_length_eq_zero (by simpa using hl.symm);subst this;exact List.Perm.refl _
 |x::a,b,hl,h=>by
  have hx:=h x (List.mem_cons_self ..)
  have hxb:x∈b:=by
   rw[List.count_cons_self]at hx;exact List.count_pos_iff.1 (by omega)
  have hp:=List.perm_cons_erase hxb;refine((Zfz a (b.erase x) ?_ fun y hy=> ?_).cons x).trans hp.symm
  ·have:=hp.length_eq;simp only[List.length_cons]at*;omega
  ·have h1:=h y (List.mem_cons_of_mem _ hy);rw[hp.count_eq]at h1;simp only[List.count_cons]at h1;omega
theorem Ze5 (a b:List Int):Zgo a b=(Zbo a==Zbo b):=by
 rw[Bool.eq_iff_iff];unfold Zgo;simp only[Bool.and_eq_true,beq_iff_eq,List.all_eq_true]
 constructor
 ·rintro⟨h1,h2⟩;have hp:=Zfz a b h1 h2;exact ZfG (((Zan a).trans hp).trans (Zan b).symm) (ZdY a) (ZdY b)
 ·intro h;have hp:a.Perm b:=((Zan a).symm.trans (by rw[h];exact Zan b));exact⟨hp.length_eq,fun x _=>hp.count_eq x⟩
/-! keys -/
theorem ZfW (tch:Bool):∀(l:List HOp) (xs:List Int),Zbs tch (ZB xs) l=ZB (xs++ZaK l fun o=>tch|| !o.read)
 |[],xs=>by simp[Zbs,ZaK]
 |o::l,xs=>by
  rw[Zfc]
  by_cases h:(tch|| !o.read)=true
  ·rw[if_pos h,ZoL,ZfW tch l];unfold ZaK;rw[List.filter_cons_of_pos (by exact h)];simp
  ·rw[if_neg h,ZfW tch l];unfold ZaK;rw[List.filter_cons_of_neg (by exact h)]
theorem ZqK (l:List HOp):Zbs false [] l=Zar l:=by
 have:=ZfW false l []
 simpa[Zar,show ZB []=[] from rfl]using this
def Zas (s:List Int):List HTx→List Int
 |[]=>s
 |t::l=>Zas (if t.done then ZS s (Zar t.ops) else s) l
theorem ZfP (a:Int):∀(l:List HTx) (s:List Int),a∈Zas s l↔a∈s∨∃t∈l,t.done=true∧a∈Zar t.ops
 |[],s=>by simp[Zas]
 |t::l,s=>by
  show a∈Zas (if t.done then ZS s (Zar t.ops) else s) l↔_
  rw[ZfP a l]
  by_cases h:t.done=true
  ·rw[if_pos h,Ze9];simp only[List.mem_cons,exists_eq_or_imp,h];grind
  ·rw[if_neg h];simp only[List.mem_cons,exists_eq_or_imp,h];grind
theorem Zg7:∀(l:List HTx) (s:List Int),s.Pairwise (·<·)→(Zas s l).Pairwise (·<·)
 |[],_,h=>h
 |t::l,s,h=>by
  show(Zas (if t.done then ZS s (Zar t.ops) else s) l).Pairwise (·<·)
  refine Zg7 l _ ?_
  split
  ·exact ZfH _ _ h
  ·exact h
theorem Zkj (a:Int):∀(l s:List Int),a∈ZbX s l↔a∈s∨a∈l
 |[],s=>by simp[ZbX]
 |k::l,s=>by
  show a∈ZbX (if k∈s then s else s++[k]) l↔_
  rw[Zkj a l]
  by_cases h:k∈s
  ·rw[if_pos h,List.mem_cons];grind
  ·rw[if_neg h,List.mem_cons,List.mem_append,List.mem_singleton];grind
theorem Zie:∀(l s:List Int),s.Nodup→(ZbX s l).Nodup
 |[],_,h=>h
 |k::l,s,h=>by
  show(ZbX (if k∈s then s else s++[k]) l).Nodup
  refine Zie l _ ?_
  split
  ·exact h
  ·rename_i hk
   rw[List.nodup_append];exact⟨h,by simp,fun a ha b hb=>by rw[List.mem_singleton]at hb;subst hb;exact fun e=>hk (e▸ha)⟩
theorem Zi2 (a:Int):∀(l:List HTx) (s:List Int),a∈ZE l s↔a∈s∨∃t∈l,t.done=true∧a∈Zar t.ops
 |[],s=>by simp[ZE]
 |t::l,s=>by
  show a∈ZE l (if t.done then ZbX s (Zar t.ops) else s)↔_
  rw[Zi2 a l]
  by_cases h:t.done=true
  ·rw[if_pos h,Zkj];simp only[List.mem_cons,exists_eq_or_imp,h];grind
  ·rw[if_neg h];simp only[List.mem_cons,exists_eq_or_imp,h];grind
theorem ZgB:∀(l:List HTx) (s:List Int),s.Nodup→(ZE l s).Nodup
 |[],_,h=>h
 |t::l,s,h=>by
  show(ZE l (if t.done then ZbX s (Zar t.ops) else s)).Nodup
  refine ZgB l _ ?_
  split
  ·exact Zie _ _ h
  ·exact h
theorem Ze3 {l:List Int} (h:l.Pairwise (·<·)):l.Nodup:=h.imp fun h=>Int.ne_of_lt h
theorem Zmk (txs:List HTx):(Zas [] txs).Perm (ZE txs []):=
 (List.perm_ext_iff_of_nodup (Ze3 (Zg7 txs [] List.Pairwise.nil)) (ZgB txs [] List.nodup_nil)).2 fun a=>by rw[ZfP,Zi2]
theorem Zja (txs:List HTx):(Zas [] txs).length=(ZE txs []).length:=(Zmk txs).length_eq
theorem ZgK (txs:List HTx) (key:Int):(Zj txs key)≠[]↔key∈Zas [] txs:=by
 rw[ZfP];unfold Zj;rw[Ne,List.map_eq_nil_iff,List.filter_eq_nil_iff];simp only[List.contains_eq_mem,Bool.and_eq_true,decide_eq_true_eq]
 constructor
 ·intro h
  right
  apply Classical.byContradiction
  intro hn;exact h fun t ht hd=>hn ⟨t,ht,hd⟩
 ·rintro(h|⟨t,ht,hd⟩) hn
  ·cases h
  ·exact hn t ht hd
theorem ZnA (l:List HOp) (key:Int):key∈Zar l↔0<Ze l key:=by
 unfold Zar Ze wrN ZaK;rw[Zb6,List.take_length,List.mem_map,List.length_pos_iff,Ne,List.filter_eq_nil_iff];unfold isW
 constructor
 ·rintro⟨o,ho,rfl⟩ hn;rw[List.mem_filter]at ho;exact hn o ho.1 (by rw[ho.2];simp)
 ·intro h
  apply Classical.byContradiction
  intro hn;refine h fun o ho hw=>hn ⟨o,?_,?_⟩
  ·rw[List.mem_filter];grind
  ·grind
theorem Zmb (id:Int) (o:HOp):ZbA id o=ZbO id o:=by
 unfold ZbA ZbO ZF
 cases h:o.read<;>simp
theorem ZhK (id:Int) (l:List HOp):∀k,k≤l.length→ZL id (Zaq id l k) (l.drop k)=ZL id [] l
 |0,_=>rfl
 |k+1,hk=>by
  rw[←ZhK id l k (by omega),List.drop_eq_getElem_cons (show k<l.length by omega),ZeB,Zmb]
  congr 1
  show(match l[k]? with|some o=>_|none=>_)=_
  rw[Qg (show k<l.length by omega)]
theorem Znu (id:Int) (l:List HOp):ZL id [] l=ZfM id l:=by
 rw[←ZhK id l l.length (Nat.le_refl _),List.drop_length];rfl
/-! is a history right,by the document -/
def Zg0 (txs:List HTx) (keys:List Int) (ords:List HOrd) (i:Nat):Bool:=
 match ords[i]?,keys[i]? with
 |some o,some k=>o.key==k&&Zgo o.txs (Zj txs o.key)
 |_,_=>true
def Zj3 (h:Hist):Bool:=
 decide (h.txs.length≤4096)&&(List.range h.txs.length).all (ZcR h.txs)&&h.ords.length==(Zas [] h.txs).length&&(List.range h.ords.length).all (Zg0 h.txs (Zas [] h.txs) h.ords)
theorem Zim {l:List Int} (h:∀i,i+1<l.length→l.getD i 0<l.getD (i+1) 0):l.Pairwise (·<·):=by
 have key:∀d i:Nat,i+d+1<l.length→l.getD i 0<l.getD (i+d+1) 0:=by
  intro d
  induction d with
  |zero=>intro i hi;exact h i hi
  |succ d ih=>
   intro i hi;have h1:=ih i (by omega);have h2:=h (i+d+1) (by omega);exact Int.lt_trans h1 h2
 rw[List.pairwise_iff_getElem];intro i j hi hj hij;have:=key (j-i-1) i (by omega);rw[show i+(j-i-1)+1=j by omega]at this
 simpa[List.getD_eq_getElem?_getD,Qg hi,Qg hj]using this
theorem Ze7 {txs:List HTx} {ords:List HOrd} {i:Nat} (hi:i<ords.length):Zdk txs ords i=true↔(∀j,j+1=i→(ords.map (·.key)).getD j 0<ords[i].key)∧ords[i].txs≠[]∧Zgo ords[i].txs (Zj txs ords[i].key)=true:=by
 unfold Zdk;rw[Qg hi,Ze5]
 cases i with
 |zero=>simp
 |succ j=>
  have hj:j<ords.length:=by omega
  simp only[Qg hj];simp[List.getD_eq_getElem?_getD,Qg hj]
  grind
theorem Znb (h:Hist):Zj3 h=Zc h:=by
 obtain⟨txs,ords,A,c,B,d⟩:=h;unfold Zj3 Zc;simp only;rw[Zja]
 by_cases hl:ords.length=(ZE txs []).length
 ·rw[show(ords.length==(ZE txs []).length)=true by simpa using hl,show((ZE txs []).length==ords.length)=true by simpa using hl.symm]
  congr 1
  rw[Bool.eq_iff_iff,List.all_eq_true,List.all_eq_true];have hk:=Zja txs;have hkl:=Zg7 txs [] List.Pairwise.nil
  constructor
  ·intro hr i hi;have hi':i<ords.length:=List.mem_range.1 hi
   have hordL:∀i (hi:i<ords.length),ords[i].key=(Zas [] txs)[i]'(by omega)∧Zgo ords[i].txs (Zj txs ords[i].key)=true:=fun i hi=>by
    have:=hr i (List.mem_range.2 hi);unfold Zg0 at this;rw[Qg hi,Qg (show i<(Zas [] txs).length by omega)]at this
    simpa using this
   rw[Ze7 hi'];refine⟨fun j hj=> ?_,fun e=> ?_,(hordL i hi').2⟩
   ·have hj':j<ords.length:=by omega
    rw[List.getD_eq_getElem?_getD,List.getElem?_map,Qg hj'];simp only[Option.map_some,Option.getD_some];rw[(hordL i hi').1,(hordL j hj').1];exact List.pairwise_iff_getElem.1 hkl j i (by omega) (by omega) (by omega)
   ·have h1:=(hordL i hi').2;rw[e,Ze5,beq_iff_eq]at h1;have h2:=(ZgK txs ords[i].key).2 (by rw[(hordL i hi').1];exact List.getElem_mem _);have h3:=(Zan (Zj txs ords[i].key)).length_eq;rw[←h1]at h3;exact h2 (List.eq_nil_of_length_eq_zero h3.symm)
  ·intro hr i hi;have hi':i<ords.length:=List.mem_range.1 hi;have hordL:=fun i (hi:i<ords.length)=>(Ze7 hi).1 (hr i (List.mem_range.2 hi))
   have hrise:(ords.map (·.key)).Pairwise (·<·):=Zim fun j hj=>by
    rw[List.length_map]at hj;have:=(hordL (j+1) hj).1 j rfl;rw[show(ords.map (·.key)).getD (j+1) 0=ords[j+1].key by rw[List.getD_eq_getElem?_getD,List.getElem?_map,Qg hj];rfl];exact this
   have hsub:∀k∈ords.map (·.key),k∈Zas [] txs:=fun k hk=>by
    obtain⟨o,ho,rfl⟩:=List.mem_map.1 hk;obtain⟨j,hj,rfl⟩:=List.mem_iff_getElem.1 ho;rw[←ZgK];intro e;have h1:=(hordL j hj).2.2;rw[e,Ze5,beq_iff_eq]at h1;have h3:=(Zan ords[j].txs).length_eq;rw[h1]at h3;exact(hordL j hj).2.1 (List.eq_nil_of_length_eq_zero h3.symm)
   have heq:ords.map (·.key)=Zas [] txs:=by
    refine Zlr hrise hkl fun a=>⟨hsub a,fun ha=> ?_⟩
    apply Classical.byContradiction
    intro hn
    have:=(List.nodup_cons.2 ⟨hn,Ze3 hrise⟩).length_le_of_subset (l₂:=Zas [] txs) fun x hx=>by
     rcases List.mem_cons.1 hx with rfl|hx
     ·exact ha
     ·exact hsub x hx
    rw[List.length_cons,List.length_map]at this;omega
   unfold Zg0;rw[Qg hi',Qg (show i<(Zas [] txs).length by omega)];have e1:(Zas [] txs)[i]'(by omega)=ords[i].key:=by simp only[←heq,List.getElem_map]
   simp[e1,(hordL i hi').2.2]
 ·rw[show(ords.length==(ZE txs []).length)=false by simpa using hl,show((ZE txs []).length==ords.length)=false by simpa using fun e=>hl e.symm];simp
end
/- Edges,reads and witnesses by the document,in plain words;for right histories they are what the program tells. -/
section
open Go.RowKit
section
variable {h:Hist}
theorem Zht (hr:Zc h=true) {i:Nat} (hi:i<h.txs.length):ZcR h.txs i=true:=by
 unfold Zc at hr;simp only[Bool.and_eq_true,List.all_eq_true,List.mem_range]at hr;exact hr.1.1.2 i hi
theorem ZdI (hr:Zc h=true):(h.txs.map (·.id)).Pairwise (·<·):=Zim fun j hj=>by
 rw[List.length_map]at hj;have:=Zht hr hj;unfold ZcR at this;rw[Qg hj]at this;simp only[Bool.and_eq_true]at this;have h1:=this.1.1;simp only[Qg (show j<h.txs.length by omega),decide_eq_true_eq]at h1;rw[List.getD_eq_getElem?_getD,List.getD_eq_getElem?_getD,List.getElem?_map,List.getElem?_map,Qg hj,Qg (show j<h.txs.length by omega)];exact h1
theorem Zhw (hr:Zc h=true) {t:HTx} (ht:t∈h.txs):Zg h.txs t.id=some t:=by
 obtain⟨k,hk,rfl⟩:=List.mem_iff_getElem.1 ht;have hp:=List.pairwise_iff_getElem.1 (ZdI hr);refine Zfj hk (fun j hj=> ?_) (by simp);have:=hp j k (by simp;omega) (by simpa using hk) hj;simp only[List.getElem_map]at this;rw[beq_eq_false_iff_ne];omega
theorem ZeO {txs:List HTx} {i:Int} {t:HTx} (hf:Zg txs i=some t):t∈txs∧t.id=i:=by
 refine⟨Zer hf,?_⟩;unfold Zg at hf;have:=List.find?_some hf
 simpa using this
theorem Zcr (hr:Zc h=true) {t:HTx} (ht:t∈h.txs):Z1 t.id t.ops=0∧ZbB h.txs t.id t.ops=true:=by
 obtain⟨k,hk,rfl⟩:=List.mem_iff_getElem.1 ht;have:=Zht hr hk;unfold ZcR at this;rw[Qg hk]at this;simp only[Bool.and_eq_true,beq_iff_eq]at this;exact⟨this.1.2,this.2⟩
theorem Zj2 (hr:Zc h=true) {t:HTx} (ht:t∈h.txs):1≤t.id:=by
 have:=(Zcr hr ht).1;unfold Z1 at this
 split at this
 ·cases this
 ·rename_i hid
  unfold idB at hid;simp at hid;exact hid.1
theorem Zi0 (id:Int) (l:List HOp):∀k,k≤l.length→∀j (hj:j<k) (hl:j<l.length),ZbO id l[j]=true→ZF l[j]∈Zaq id l k
 |0,_,j,hj,_,_=>by omega
 |k+1,hk,j,hj,hl,hn=>by
  have ih:=Zi0 id l k (by omega)
  show ZF l[j]∈(match l[k]? with|some o=>_|none=>_)
  rw[Qg (show k<l.length by omega)]
  by_cases e:j=k
  ·subst e;simp only[hn,Bool.true_and]
   by_cases hc:ZF l[j]∈Zaq id l j
   ·simp[hc]
   ·simp[hc]
  ·have:=ih j (by omega) hl hn;simp only
   split
   ·exact List.mem_append_left _ this
   ·exact this
theorem Zm8 (hr:Zc h=true) {t:HTx} (ht:t∈h.txs) {o:HOp} (ho:o∈t.ops) (hn:ZbO t.id o=true):ZaI h.txs (ZF o)=true:=by
 have h1:=(Zcr hr ht).2;unfold ZbB at h1;rw[List.all_eq_true]at h1;obtain⟨j,hj,rfl⟩:=List.mem_iff_getElem.1 ho;exact h1 _ (Zi0 t.id t.ops _ (Nat.le_refl _) j hj hj hn)
theorem Zk1 (hr:Zc h=true) {t:HTx} (ht:t∈h.txs) {o:HOp} (ho:o∈t.ops) (hrd:o.read=true) (h0:o.tx≠0) (h1:o.tx≠t.id):∃u,Zg h.txs o.tx=some u:=by
 have hv:ZF o=⟨o.tx,o.key,o.nth⟩:=by unfold ZF;rw[if_pos hrd]
 have:=Zm8 hr ht ho (by unfold ZbO;rw[hv];simp[hrd,h0,h1]);rw[hv]at this
 cases hf:Zg h.txs o.tx with
 |some u=>exact⟨u,rfl⟩
 |none=>
  unfold ZaI at this;simp[h0,hf]at this
end
/-! how often there is a reason for an edge -/
def p2 (f key:Int) (n:Nat) (o:HOp):Bool:=o.read&&o.key==key&&o.tx==f&&o.nth==(n:Int)
def p3 (h:Hist) (id key t:Int) (o:HOp):Bool:=o.read&&o.key==key&& !(o.tx==id)&&ZbZ h.txs ⟨o.tx,o.key,o.nth⟩&&Zc0 h.ords key o.tx t
def ZI (h:Hist) (e:Edge):Nat:=
 match ZQ h.txs e.f,ZQ h.txs e.t with
 |some a,some b=>
  if e.f=e.t then 0
  else if e.k=1 then (if Zc0 h.ords e.key e.f e.t then 1 else 0)
  else if e.k=2 then b.ops.countP (p2 e.f e.key (Ze a.ops e.key))
  else if e.k=3 then a.ops.countP (p3 h a.id e.key e.t)
  else 0
 |_,_=>0
theorem Zc3 {txs:List HTx} {i:Int} {t:HTx} (hd:ZQ txs i=some t):Zg txs i=some t∧t.done=true:=by
 unfold ZQ at hd
 split at hd
 ·split at hd
  ·rename_i u hf hu
   cases hd
   exact⟨hf,hu⟩
  ·cases hd
 ·cases hd
/-! bad reads -/
def Za9 (txs:List HTx) (t:HTx) (p:Int) (o:HOp):Bool:=
 t.done&&o.read&& !(o.tx==0)&& !(o.tx==t.id)&&(match Zg txs o.tx with|none=>false|some u=>if p=2 then !u.done else p==3&&decide (o.nth<(Ze u.ops o.key:Int)))
def Zch (txs:List HTx) (p:Int) (t:HTx) (i:Nat) (acc:List HBad):List HOp→List HBad
 |[]=>acc
 |o::l=>Zch txs p t (i+1) (if Za9 txs t p o then acc++[⟨t.id,i,ZF o⟩] else acc) l
def Zc5 (txs:List HTx) (p:Int) (acc:List HBad):List HTx→List HBad
 |[]=>acc
 |t::l=>Zc5 txs p (Zch txs p t 0 acc t.ops) l
def ZaS (h:Hist) (p:Int):List HBad:=if Zc h=true then Zc5 h.txs p [] h.txs else []
/-! witnesses -/
end
/- The document:who is next,which version is the last one,which read may not be. -/
section
open Go.RowKit
theorem Zku (x:Int):∀(l:List Int) (k:Nat),Zdd x l k=if Za5 l x<l.length then ((Za5 l x+k:Nat):Int) else -1
 |[],k=>by simp[Zdd,Za5]
 |y::l,k=>by
  rw[ZfZ,Zku x l (k+1)];unfold Za5;rw[List.findIdx_cons]
  by_cases h:y=x
  ·rw[if_pos h,show(y==x)=true by simpa using h];simp
  ·rw[if_neg h,show(y==x)=false by simpa using h];simp only[cond_false,List.length_cons]
   by_cases h2:l.findIdx (·==x)<l.length
   ·rw[if_pos h2,if_pos (by omega)];congr 1;omega
   ·rw[if_neg h2,if_neg (by omega)]
theorem ZqM (x:Int) (l:List Int):Zdd x l 0=if Za5 l x<l.length then (Za5 l x:Int) else -1:=by
 rw[Zku];rfl
set_option maxRecDepth 100000 in
theorem ZsJ (F:Nat→Prop) (w:World) (A:Option Addr) (c:Nat) (l:List Int) (tx:Int) (h:Ints F w A l) (hl:l.length≤17592186044415):
  Calls Tryz.prog 85 #[.slice A l.length c,.int .i64 tx] w (Zoe w (Zay l tx)):=by
 have hidx:=ZrA F w A c l tx h hl;rw[ZqM]at hidx
 by_cases h0:tx=0
 ·have hn:=Qh (show Zay l tx=l[0]? by unfold Zay;rw[if_pos h0]);have h0b:(tx==0)=true:=by simpa using h0
  obtain⟨iv,hiv⟩:∃iv,(if Za5 l tx<l.length then (Za5 l tx:Int) else -1)=iv:=⟨_,rfl⟩;rw[hiv]at hidx;have Hidx:=Qh hidx;clear hidx hiv h0
  by_cases hz:l.length=0
  ·have hn2:=Qh (show Zay l tx=none by rw[hn.out];exact List.getElem?_eq_none (by omega));obtain rfl:l=[]:=List.eq_nil_of_length_eq_zero hz;clear hz
   go_enter Tryz.func85,Tryz.ntmps85
   go_wp2_with fail
   refine(Hidx.out).mono ?_;rintro e w1 ⟨rfl,hu1⟩;go_wp2
   go_ret2
   exact⟨by rw[hn2.out];rfl,hu1⟩
  ·have hp:0<l.length:=by omega
   have hn2:=Qh (show Zay l tx=some l[0] by rw[hn.out];exact Qg hp);have hpI:(0:Int)<(l.length:Int):=by omega
   have hpI2:¬l=[]:=fun e=>by rw[e]at hp;simp at hp
   have hC:∀W,Upd No w W→∃ad,A=some ad∧W.cell? ad=some (.int .i64 l[0]):=fun W hW=>by
    obtain⟨ad,hA,_,_,hc⟩:=(h.upd hW (fun _ _=>id)).at_ hp;have ha:ad.add 0=ad:=by unfold Addr.add;simp
    rw[ha]at hc;exact⟨ad,hA,hc⟩
   obtain⟨ad,rfl,_⟩:=hC w (Upd.refl _ _)
   have hc1:∀W,Upd No w W→W.cell? ad=some (.int .i64 l[0]):=fun W hW=>by
    obtain⟨ad',e,hc⟩:=hC W hW
    cases e
    exact hc
   clear hz hC
   go_enter Tryz.func85,Tryz.ntmps85
   go_wp2_with fail
   refine(Hidx.out).mono ?_;rintro e w1 ⟨rfl,hu1⟩;go_wp2
   go_ret2
   exact⟨by rw[hn2.out];rfl,hu1⟩
 ·have hn:=Qh (show Zay l tx=if Za5 l tx<l.length then l[Za5 l tx+1]? else none by unfold Zay;rw[if_neg h0]);have h0b:(tx==0)=false:=by simpa using h0
  clear h0
  by_cases hp:Za5 l tx<l.length
  ·rw[if_pos hp]at hidx;have Hidx:=Qh hidx;clear hidx;obtain⟨k,hk⟩:∃k,Za5 l tx=k:=⟨_,rfl⟩;rw[hk]at Hidx hn hp;clear hk;have hk0:(0:Int)≤(k:Int)+1:=by omega
   by_cases he:k+1=l.length
   ·have hn2:=Qh (show Zay l tx=none by rw[hn.out,if_pos hp];exact List.getElem?_eq_none (by omega));have heb:(l.length:Int)≤(k:Int)+1:=by omega
    have He:=Qh he;clear he
    go_enter Tryz.func85,Tryz.ntmps85
    go_wp2_with fail
    refine(Hidx.out).mono ?_;rintro e w1 ⟨rfl,hu1⟩;go_wp2
    go_ret2
    exact⟨by rw[hn2.out];rfl,hu1⟩
   ·have hlt:k+1<l.length:=by omega
    have hn2:=Qh (show Zay l tx=some l[k+1] by rw[hn.out,if_pos hp];exact Qg hlt);have heb:¬(l.length:Int)≤(k:Int)+1:=by omega
    obtain⟨ad,hA,_,_,_⟩:=h.at_ hlt;subst hA
    have hc2:∀W,Upd No w W→W.cell? ⟨ad.block,ad.off+(k+1),none⟩=some (.int .i64 l[k+1]):=fun W hW=>by
     obtain⟨ad',e,_,_,hc⟩:=(h.upd hW (fun _ _=>id)).at_ hlt
     cases e
     rw[←hc]
     congr 1
    have hltI:(k:Int)+1<(l.length:Int):=by omega
    clear he
    go_enter Tryz.func85,Tryz.ntmps85
    go_wp2_with fail
    refine(Hidx.out).mono ?_;rintro e w1 ⟨rfl,hu1⟩;go_wp2
    go_ret2
    exact⟨by rw[hn2.out];rfl,hu1⟩
  ·rw[if_neg hp]at hidx;have Hidx:=Qh hidx;clear hidx;have hn2:=Qh (show Zay l tx=none by rw[hn.out,if_neg hp]);clear hp
   go_enter Tryz.func85,Tryz.ntmps85
   go_wp2_with fail
   refine(Hidx.out).mono ?_;rintro e w1 ⟨rfl,hu1⟩;go_wp2
   go_ret2
   exact⟨by rw[hn2.out];rfl,hu1⟩
end
/- Looking at a history:reads that may not be. -/
section
open Go.RowKit
def Za4 (txs:List HTx) (i:Int):Bool:=match Zg txs i with|some u=>u.done|none=>false
def Zbv (txs:List HTx) (i:Int):List HOp:=match Zg txs i with|some u=>u.ops|none=>[]
section
variable {txs:List HTx} {p:Int} {b:HBad}
end
theorem ZtK (w:World) (k t n:Int):Calls Tryz.prog 101 #[.agg #[.bool true,.int .i64 k,.int .i64 t,.int .i64 n]] w fun e w'=>e= .returned (.agg #[.int .i64 t,.int .i64 k,.int .i64 n])∧Upd No w w':=oof w ⟨true,k,t,n⟩
end
/- Looking at a history:witnesses. -/
section
open Go.RowKit
def ZmH (b:HBad):Value:= .agg #[.int .i64 b.tx,.int .i64 b.place,.int .i64 b.of.tx,.int .i64 b.of.key,.int .i64 b.of.nth]
theorem ZlW (w:World) (n:Nat) (a b c a' b' c':Int):(Op.equalIn (n+1+1) 28 (.agg #[.int .i64 a,.int .i64 b,.int .i64 c]) (.agg #[.int .i64 a',.int .i64 b',.int .i64 c'])).run Tryz.prog w= .ok (decide ((⟨a,b,c⟩:Ver)=⟨a',b',c'⟩)) w:=by
 rw[run_equalIn_struct w _ _ _ _ (by kernel_rfl) (by kernel_rfl)];have hI:∀(w:World) (d:Nat) (x y:Int),(Op.equalIn (d+1) 3 (.int .i64 x) (.int .i64 y)).run Tryz.prog w= .ok (x==y) w:=fun w d x y=>run_equalIn_int w d _ _ _ x y Tryz.underlying3
 by_cases h1:a=a'<;>by_cases h2:b=b'<;>by_cases h3:c=c'<;>
  simp[Program.fieldsOf,Tryz.underlying28,Op.eqFields,part,hI,h1,h2,h3,Result.andThen]
theorem Zn5 (w:World) (x y:HBad):(Op.equalIn 10000 30 (ZmH x) (ZmH y)).run Tryz.prog w= .ok (decide (x=y)) w:=by
 obtain⟨a,b,⟨c,d,e⟩⟩:=x;obtain⟨a',b',⟨c',d',e'⟩⟩:=y;unfold ZmH
 show(Op.equalIn (9997+1+1+1) _ _ _).run _ w=_
 rw[run_equalIn_struct w _ _ _ _ (by kernel_rfl) (by kernel_rfl)]
 generalize 9997=n
 have hI:∀(w:World) (d:Nat) (x y:Int),(Op.equalIn (d+1) 3 (.int .i64 x) (.int .i64 y)).run Tryz.prog w= .ok (x==y) w:=fun w d x y=>run_equalIn_int w d _ _ _ x y Tryz.underlying3
 have hV:=fun w=>ZlW w n c d e c' d' e'
 have hp:∀(w:World) (q r c d e:Value),(part 28 #[q,r,c,d,e] 2).run Tryz.prog w= .ok (.agg #[c,d,e]) w:=fun w q r c d e=>by
  obtain⟨i,hi,_,hs,_⟩:=info_parts (P:=Tryz.prog) (e:=28) (z:= .agg #[.int .i64 0,.int .i64 0,.int .i64 0]) (size:=3) (bytes:=24) (by kernel_rfl);simp[part,isAgg,run_underlying Tryz.underlying28,sizeOf,typeInfo,hi,hs,Result.andThen]
 have hp0:∀(w:World) (q r c d e:Value),(part 3 #[q,r,c,d,e] 0).run Tryz.prog w= .ok q w:=fun w q r c d e=>by simp[part,isAgg,run_underlying Tryz.underlying3]
 have hp1:∀(w:World) (q r c d e:Value),(part 3 #[q,r,c,d,e] 1).run Tryz.prog w= .ok r w:=fun w q r c d e=>by simp[part,isAgg,run_underlying Tryz.underlying3]
 by_cases h1:a=a'<;>by_cases h2:b=b'<;>by_cases h3:(⟨c,d,e⟩:Ver)=⟨c',d',e'⟩<;>
  simp[Program.fieldsOf,Tryz.underlying30,Op.eqFields,hp,hp0,hp1,hI,hV,h1,h2,h3,Result.andThen]
section
variable {h:Hist} {p:Int} {l:List Edge} {b:HBad}
end
theorem ZqO {F:Nat→Prop} {w:World} {txs:List HTx} {ords:List HOrd} {A:Option Addr} {c:Nat} {B:Option Addr} {d:Nat} {r:Bool} (H:Hist.lies F w ⟨txs,ords,A,c,B,d⟩) (hr:Zc ⟨txs,ords,A,c,B,d⟩=r):
  Calls Tryz.prog 73 #[.agg #[.slice A txs.length c,.slice B ords.length d]] w fun e w'=>e= .returned (.bool r)∧Upd No w w':=by subst hr;exact ZnM F w ⟨txs,ords,A,c,B,d⟩ H
end
/- The document:which version is the last one,which reads may not be. -/
section
open Go.RowKit
theorem Zmg {txs:List HTx} {v:Ver} (h:v.tx=0):ZbZ txs v=true:=by unfold ZbZ;rw[if_pos h]
theorem Zmi {txs:List HTx} {v:Ver} (h:¬v.tx=0) (hf:Zg txs v.tx=none):ZbZ txs v=false:=by unfold ZbZ ZQ;rw[if_neg h,hf]
theorem Zmh {txs:List HTx} {v:Ver} {t:HTx} (h:¬v.tx=0) (hf:Zg txs v.tx=some t):ZbZ txs v=(t.done&&v.nth==(Ze t.ops v.key:Int)):=by
 unfold ZbZ ZQ;rw[if_neg h,hf]
 cases hd:t.done<;>simp[hd]
set_option maxRecDepth 100000 in
set_option maxHeartbeats 1000000 in
theorem ZsM (F:Nat→Prop) (w:World) (txs:List HTx) (ords:List HOrd) (A:Option Addr) (c:Nat) (B:Option Addr) (d:Nat) (o:HOp) (H:Hist.lies F w ⟨txs,ords,A,c,B,d⟩):
  Calls Tryz.prog 86 #[.agg #[.slice A txs.length c,.slice B ords.length d],.agg o.cells.toArray] w fun e w'=>e= .returned (.bool (ZbZ txs ⟨o.tx,o.key,o.nth⟩))∧Upd No w w':=by
 obtain⟨rd,ky,tx,nt⟩:=o;unfold HOp.cells;simp only;have u0:=((Upd.refl No w).alloc (.cells #[.slice A txs.length c,.slice B ords.length d] 25)).alloc (.cells #[.bool rd,.int .i64 ky,.int .i64 tx,.int .i64 nt] 48);have bH:=Qh ((Blk.new w 25 [.slice A txs.length c,.slice B ords.length d]).alloc (.cells #[.bool rd,.int .i64 ky,.int .i64 tx,.int .i64 nt] 48));have b1:=Blk.new (w.alloc (.cells #[.slice A txs.length c,.slice B ords.length d] 25)) 48 [.bool rd,.int .i64 ky,.int .i64 tx,.int .i64 nt];simp only[World.size_alloc]at b1;have bX:=Qh b1;have U0:=Qh u0;clear b1 u0;have HH:=Qh (H.upd U0.out (fun _ _=>id))
 by_cases h0:tx=0
 ·have HV:=Qh (Zmg (txs:=txs) (v:=⟨tx,ky,nt⟩) h0);have hb:(tx==0)=true:=by simpa using h0
  clear h0
  go_enter Tryz.func86,Tryz.ntmps86
  go_wp2
  go_ret
  exact⟨by rw[HV.out];rfl,U0.out⟩
 ·have hb:(tx==0)=false:=by simpa using h0
  cases hf:Zg txs tx with
  |none=>
   have HV:=Qh (Zmi (txs:=txs) (v:=⟨tx,ky,nt⟩) h0 hf);have HF:=Qh hf;clear hf h0
   go_enter Tryz.func86,Tryz.ntmps86
   go_wp2_with fail
   refine(ZcW HH.out HF.out).mono ?_;rintro e w1 ⟨rfl,hu1⟩;have uT:=hu1.alloc (.cells #[.int .i64 0,.bool false,.slice none 0 0] 42);clear hu1;go_wp2;refine wp_region_noPanic ?_;refine wp_region_held_drew (S:=(fun w'=>Upd No (w1.alloc (.cells #[.int .i64 0,.bool false,.slice none 0 0] 42)) w')) (by kernel_rfl) ?_ (fun hHeld=> ?_)
   ·(first|exact(Upd.refl No _).drew|exact hHeld.trans hu3)
   refine wpK 0 rfl ?_;refine wpK 1 rfl ?_;refine wpN 2 rfl ?_;refine wpN 3 rfl ?_;refine wpK 4 rfl ?_;refine wpK 5 rfl ?_;refine wpN 6 rfl ?_;refine wpN 7 rfl ?_;refine wpN 8 rfl ?_;refine wpN 9 rfl ?_;refine wpN 10 rfl ?_;refine wpN 11 rfl ?_;refine wpR [12] ?_;refine wpC rfl (fun K hK=> ?_) AllReadyH.nil;go_simp;refine hK.out _ _ ?_ (fun hHeld=> ?_)
   ·exact hHeld
   clear hK K
   try simp only[Act.put,sT,sS,sZ]
   refine wpN 13 rfl ?_;refine wpK 14 rfl ?_;refine wpK 15 rfl ?_;refine wpD (NoPanic.normal ?_);have HU:=Qh (U0.out.trans (uT.trans hHeld));clear hHeld;go_wp2
   go_ret
   exact⟨by rw[HV.out];rfl,HU.out⟩
  |some t=>
   have HV:=Qh (Zmh (txs:=txs) (v:=⟨tx,ky,nt⟩) h0 hf);have HF:=Qh hf;have HT:=Qh (H.tx t (Zfi hf));clear hf h0;obtain⟨ti,td,tO,tA,tc⟩:=t
   go_enter Tryz.func86,Tryz.ntmps86
   go_wp2_with fail
   refine(Zbf HH.out HF.out).mono ?_;rintro e w1 ⟨A1,c1,rfl,hc1,hh1,hu1⟩;simp only at hc1 hh1 HV;have bT:=Blk.new w1 42 [.int .i64 ti,.bool td,.slice A1 tO.length c1];have uT:=hu1.alloc (.cells #[.int .i64 ti,.bool td,.slice A1 tO.length c1] 42);have t1:∀W,Upd No (w1.alloc (.cells #[.int .i64 ti,.bool td,.slice A1 tO.length c1] 42)) W→W.cell? ⟨w1.heap.size,1,none⟩=some (.bool td):=fun W hW=>(bT.upd hW id).cell 1
   have t2:∀W,Upd No (w1.alloc (.cells #[.int .i64 ti,.bool td,.slice A1 tO.length c1] 42)) W→W.cell? ⟨w1.heap.size,2,none⟩=some (.slice A1 tO.length c1):=fun W hW=>(bT.upd hW id).cell 2
   have x1:∀W,Upd No (w1.alloc (.cells #[.int .i64 ti,.bool td,.slice A1 tO.length c1] 42)) W→W.cell? ⟨w.heap.size+1,1,none⟩=some (.int .i64 ky):=fun W hW=>(bX.out.upd (uT.trans hW) id).cell 1
   have x3:∀W,Upd No (w1.alloc (.cells #[.int .i64 ti,.bool td,.slice A1 tO.length c1] 42)) W→W.cell? ⟨w.heap.size+1,3,none⟩=some (.int .i64 nt):=fun W hW=>(bX.out.upd (uT.trans hW) id).cell 3
   have HW:=Qh fun W (hW:Upd No (w1.alloc (.cells #[.int .i64 ti,.bool td,.slice A1 tO.length c1] 42)) W)=>Zcb F W A1 c1 tO ky (HOps.upd hh1 (((Upd.refl No _).alloc _).trans hW) (fun _ _=>id)) HT.out.2.2.1
   have UT:=Qh uT;clear bT uT hu1 hh1
   cases td
   ·go_wp2;refine wp_region_noPanic ?_;refine wp_region_held_drew (S:=(fun w'=>Upd No (w1.alloc (.cells #[.int .i64 ti,.bool false,.slice A1 tO.length c1] 42)) w')) (by kernel_rfl) ?_ (fun hHeld=> ?_)
    ·(first|exact(Upd.refl No _).drew|exact hHeld.trans hu3)
    refine wpK 0 rfl ?_;refine wpK 1 rfl ?_;refine wpK 2 rfl ?_;refine wpK 3 rfl ?_;refine wpK 4 rfl ?_;refine wpK 5 rfl ?_;refine wpN 6 rfl ?_;refine wpN 7 rfl ?_;refine wpN 8 rfl ?_;refine wpN 9 rfl ?_;refine wpN 10 rfl ?_;refine wpN 11 rfl ?_;refine wpR [12] ?_;refine wpC rfl (fun K hK=> ?_) AllReadyH.nil;go_simp;refine hK.out _ _ ?_ (fun hHeld=> ?_)
    ·exact hHeld
    clear hK K
    try simp only[Act.put,sT,sS,sZ]
    refine wpN 13 rfl ?_;refine wpK 14 rfl ?_;refine wpK 15 rfl ?_;refine wpD (NoPanic.normal ?_);have HU:=Qh (U0.out.trans (UT.out.trans hHeld));clear hHeld;go_wp2
    go_ret
    exact⟨by rw[HV.out];rfl,HU.out⟩
   ·go_wp2;refine wp_region_noPanic ?_;refine wp_region_held_drew (S:=(fun w'=>Upd No (w1.alloc (.cells #[.int .i64 ti,.bool true,.slice A1 tO.length c1] 42)) w')) (by kernel_rfl) ?_ (fun hHeld=> ?_)
    ·(first|exact(Upd.refl No _).drew|exact hHeld.trans hu3)
    refine wpK 0 rfl ?_;refine wpK 1 rfl ?_;refine wpK 2 rfl ?_;refine wpK 3 rfl ?_;refine wpK 4 rfl ?_;refine wpK 5 rfl ?_;refine wpK 6 rfl ?_;refine wpK 7 rfl ?_;refine wpK 8 rfl ?_;refine wpK 9 rfl ?_;refine wpK 10 rfl ?_;refine wpK 11 rfl ?_;refine wpR [12] ?_;refine wpC rfl (fun K hK=> ?_) AllReadyH.nil;go_simp
    (first
  |(go_at_call 82;refine(HW.out _ hHeld).mono ?_;rintro e w3 ⟨rfl,hu3⟩))
    try (go_wp2_with fail)
    refine hK.out _ _ ?_ (fun hHeld=> ?_)
    ·(first|exact(Upd.refl No _).drew|exact hHeld.trans hu3)
    clear hK K
    try simp only[Act.put,sT,sS,sZ]
    refine wpK 13 rfl ?_;refine wpK 14 rfl ?_;refine wpK 15 rfl ?_;refine wpD (NoPanic.normal ?_);have HU:=Qh (U0.out.trans (UT.out.trans hHeld));clear hHeld;go_wp2
    go_ret
    exact⟨by rw[HV.out];rfl,HU.out⟩
theorem Zq6 (txs:List HTx) (i0:Int) (dn:Bool) (l:List HOp) (A:Option Addr) (c:Nat) (p:Int) (rd:Bool) (ky tx nt:Int):
  Za9 txs ⟨i0,dn,l,A,c⟩ p ⟨rd,ky,tx,nt⟩=(dn&&(rd&&(!(tx==0)&&(!(tx==i0)&&(match Zg txs tx with|none=>false|some u=>if p=2 then !u.done else p==3&&decide (nt<(Ze u.ops ky:Int))))))):=by
 unfold Za9;simp only[Bool.and_assoc]
 try rfl
set_option maxRecDepth 100000 in
set_option maxHeartbeats 1000000 in
theorem ZtF (F:Nat→Prop) (w:World) (txs:List HTx) (ords:List HOrd) (A:Option Addr) (c:Nat) (B:Option Addr) (d:Nat) (i0:Int) (dn:Bool) (A1:Option Addr) (c1:Nat) (l:List HOp) (k:Nat) (p:Int) (o:HOp)
  (H:Hist.lies F w ⟨txs,ords,A,c,B,d⟩) (h:HOps F w A1 l) (hl:Zn l.length) (hk:k<l.length) (ho:l[k]=o):
  Calls Tryz.prog 42 #[.agg #[.slice A txs.length c,.slice B ords.length d],.agg #[.int .i64 i0,.bool dn,.slice A1 l.length c1],.int .i64 (k:Int),.int .i64 p] w fun e w'=>e= .returned (.bool (Za9 txs ⟨i0,dn,l,A1,c1⟩ p o))∧Upd No w w':=by
 unfold Zn at hl;have u0:=((Upd.refl No w).alloc (.cells #[.slice A txs.length c,.slice B ords.length d] 25)).alloc (.cells #[.int .i64 i0,.bool dn,.slice A1 l.length c1] 42);have bH:=Qh ((Blk.new w 25 [.slice A txs.length c,.slice B ords.length d]).alloc (.cells #[.int .i64 i0,.bool dn,.slice A1 l.length c1] 42));have b1:=Blk.new (w.alloc (.cells #[.slice A txs.length c,.slice B ords.length d] 25)) 42 [.int .i64 i0,.bool dn,.slice A1 l.length c1];simp only[World.size_alloc]at b1;have bX:=Qh b1;have U0:=Qh u0;clear b1 u0;obtain⟨rd,ky,tx,nt⟩:=o;obtain⟨ad,hAd,q0,q1,q2,q3⟩:=(h.upd U0.out (fun _ _=>id)).at_ hk;rw[ho]at q0 q1 q2 q3;simp only at q0 q1 q2 q3;subst hAd;have hv:=Zq6 txs i0 dn l (some ad) c1 p rd ky tx nt;have b1:(0:Int)≤(k:Int):=Qn _;have b2:(k:Int)<(l.length:Int):=by omega
 have U1:=Qh (U0.out.alloc (.cells #[.bool rd,.int .i64 ky,.int .i64 tx,.int .i64 nt] 48));have hbo:=Blk.new ((w.alloc (.cells #[.slice A txs.length c,.slice B ords.length d] 25)).alloc (.cells #[.int .i64 i0,.bool dn,.slice (some ad) l.length c1] 42)) 48 [.bool rd,.int .i64 ky,.int .i64 tx,.int .i64 nt];simp only[World.size_alloc]at hbo;have bO:=Qh hbo;clear ho hbo
 cases dn
 ·have HV:=Qh (show Za9 txs ⟨i0,false,l,some ad,c1⟩ p ⟨rd,ky,tx,nt⟩=false by rw[hv];rfl);clear hv
  go_enter Tryz.func42,Tryz.ntmps42
  go_wp2
  go_ret
  exact⟨by rw[HV.out];rfl,U1.out⟩
 ·cases rd
  ·have HV:=Qh (show Za9 txs ⟨i0,true,l,some ad,c1⟩ p ⟨false,ky,tx,nt⟩=false by rw[hv];rfl);clear hv
   go_enter Tryz.func42,Tryz.ntmps42
   go_wp2
   go_ret
   exact⟨by rw[HV.out];rfl,U1.out⟩
  ·by_cases h0:tx=0
   ·have HV:=Qh (show Za9 txs ⟨i0,true,l,some ad,c1⟩ p ⟨true,ky,tx,nt⟩=false by rw[hv,h0];rfl);have h0b:(tx==0)=true:=by simpa using h0
    clear hv h0
    go_enter Tryz.func42,Tryz.ntmps42
    go_wp2
    go_ret
    exact⟨by rw[HV.out];rfl,U1.out⟩
   ·have h0b:(tx==0)=false:=by simpa using h0
    by_cases h1:tx=i0
    ·have HV:=Qh (show Za9 txs ⟨i0,true,l,some ad,c1⟩ p ⟨true,ky,tx,nt⟩=false by rw[hv,h1];simp);have h1b:(tx==i0)=true:=by simpa using h1
     clear hv h0 h1
     go_enter Tryz.func42,Tryz.ntmps42
     go_wp2
     go_ret
     exact⟨by rw[HV.out];rfl,U1.out⟩
    ·have h1b:(tx==i0)=false:=by simpa using h1
     have HH:=Qh (H.upd U1.out (fun _ _=>id))
     cases hf:Zg txs tx with
     |none=>
      have HV:=Qh (show Za9 txs ⟨i0,true,l,some ad,c1⟩ p ⟨true,ky,tx,nt⟩=false by rw[hv,hf];simp);have HF:=Qh hf;clear hv h0 h1 hf
      go_enter Tryz.func42,Tryz.ntmps42
      go_wp2_with fail
      refine(ZcW HH.out HF.out).mono ?_;rintro e w1 ⟨rfl,hu1⟩;have HU:=Qh (U1.out.trans (hu1.alloc (.cells #[.int .i64 0,.bool false,.slice none 0 0] 42)));clear hu1;go_wp2
      go_ret
      exact⟨by rw[HV.out];rfl,HU.out⟩
     |some t=>
      have hv2:Za9 txs ⟨i0,true,l,some ad,c1⟩ p ⟨true,ky,tx,nt⟩=(if p=2 then !t.done else p==3&&decide (nt<(Ze t.ops ky:Int))):=by rw[hv,hf,h0b,h1b];rfl
      have HF:=Qh hf;have HT:=Qh (H.tx t (Zfi hf));clear hv h0 h1 hf;obtain⟨ti,td,tO,tA,tc⟩:=t;simp only at hv2
      by_cases h2:p=2
      ·have HV:=Qh (show Za9 txs ⟨i0,true,l,some ad,c1⟩ p ⟨true,ky,tx,nt⟩= !td by rw[hv2,if_pos h2]);have h2b:(p==2)=true:=by simpa using h2
       clear hv2 h2
       go_enter Tryz.func42,Tryz.ntmps42
       go_wp2_with fail
       refine(Zbf HH.out HF.out).mono ?_;rintro e w1 ⟨A2,c2,rfl,hc2,hh2,hu1⟩;have HU:=Qh (U1.out.trans (hu1.alloc (.cells #[.int .i64 ti,.bool td,.slice A2 tO.length c2] 42)));clear hu1 hc2 hh2;go_wp2
       go_ret
       exact⟨by rw[HV.out];rfl,HU.out⟩
      ·rw[if_neg h2]at hv2;have h2b:(p==2)=false:=by simpa using h2
       have HV2:=Qh hv2;clear hv2 h2
       go_enter Tryz.func42,Tryz.ntmps42
       go_wp2_with fail
       refine(Zbf HH.out HF.out).mono ?_;rintro e w1 ⟨A2,c2,rfl,hc2,hh2,hu1⟩;simp only at hc2 hh2;have bT:=Blk.new w1 42 [.int .i64 ti,.bool td,.slice A2 tO.length c2];have uT:=hu1.alloc (.cells #[.int .i64 ti,.bool td,.slice A2 tO.length c2] 42);have t2:∀W,Upd No (w1.alloc (.cells #[.int .i64 ti,.bool td,.slice A2 tO.length c2] 42)) W→W.cell? ⟨w1.heap.size,2,none⟩=some (.slice A2 tO.length c2):=fun W hW=>(bT.upd hW id).cell 2
       have x1:∀W,Upd No (w1.alloc (.cells #[.int .i64 ti,.bool td,.slice A2 tO.length c2] 42)) W→W.cell? ⟨w.heap.size+1+1,1,none⟩=some (.int .i64 ky):=fun W hW=>(bO.out.upd (uT.trans hW) id).cell 1
       have x3:∀W,Upd No (w1.alloc (.cells #[.int .i64 ti,.bool td,.slice A2 tO.length c2] 42)) W→W.cell? ⟨w.heap.size+1+1,3,none⟩=some (.int .i64 nt):=fun W hW=>(bO.out.upd (uT.trans hW) id).cell 3
       have HW:=Qh fun W (hW:Upd No (w1.alloc (.cells #[.int .i64 ti,.bool td,.slice A2 tO.length c2] 42)) W)=>Zcb F W A2 c2 tO ky (HOps.upd hh2 (((Upd.refl No _).alloc _).trans hW) (fun _ _=>id)) HT.out.2.2.1
       have UT:=Qh uT;clear bT uT hu1 hh2
       by_cases h3:p=3
       ·have h3b:(p==3)=true:=by simpa using h3
        clear h3;go_wp2;refine wp_region_noPanic ?_;refine wp_region_held_drew (S:=(fun w'=>Upd No (w1.alloc (.cells #[.int .i64 ti,.bool td,.slice A2 tO.length c2] 42)) w')) (by kernel_rfl) ?_ (fun hHeld=> ?_)
        ·(first|exact(Upd.refl No _).drew|exact hHeld.trans hu3)
        refine wpK 0 rfl ?_;refine wpK 1 rfl ?_;refine wpK 2 rfl ?_;refine wpK 3 rfl ?_;refine wpK 4 rfl ?_;refine wpK 5 rfl ?_;refine wpK 6 rfl ?_;refine wpK 7 rfl ?_;refine wpK 8 rfl ?_;refine wpR [9] ?_;refine wpC rfl (fun K hK=> ?_) AllReadyH.nil;go_simp
        (first
  |(go_at_call 82;refine(HW.out _ hHeld).mono ?_;rintro e w3 ⟨rfl,hu3⟩))
        try (go_wp2_with fail)
        refine hK.out _ _ ?_ (fun hHeld=> ?_)
        ·(first|exact(Upd.refl No _).drew|exact hHeld.trans hu3)
        clear hK K
        try simp only[Act.put,sT,sS,sZ]
        refine wpK 10 rfl ?_;refine wpK 11 rfl ?_;refine wpK 12 rfl ?_;refine wpD (NoPanic.normal ?_);have HU:=Qh (U1.out.trans (UT.out.trans hHeld));clear hHeld;go_wp2
        go_ret
        exact⟨by rw[HV2.out,h3b];rfl,HU.out⟩
       ·have h3b:(p==3)=false:=by simpa using h3
        clear h3;go_wp2;refine wp_region_noPanic ?_;refine wp_region_held_drew (S:=(fun w'=>Upd No (w1.alloc (.cells #[.int .i64 ti,.bool td,.slice A2 tO.length c2] 42)) w')) (by kernel_rfl) ?_ (fun hHeld=> ?_)
        ·(first|exact(Upd.refl No _).drew|exact hHeld.trans hu3)
        refine wpK 0 rfl ?_;refine wpK 1 rfl ?_;refine wpK 2 rfl ?_;refine wpN 3 rfl ?_;refine wpN 4 rfl ?_;refine wpN 5 rfl ?_;refine wpN 6 rfl ?_;refine wpN 7 rfl ?_;refine wpN 8 rfl ?_;refine wpR [9] ?_;refine wpC rfl (fun K hK=> ?_) AllReadyH.nil;go_simp;refine hK.out _ _ ?_ (fun hHeld=> ?_)
        ·exact hHeld
        clear hK K
        try simp only[Act.put,sT,sS,sZ]
        refine wpN 10 rfl ?_;refine wpK 11 rfl ?_;refine wpK 12 rfl ?_;refine wpD (NoPanic.normal ?_);have HU:=Qh (U1.out.trans (UT.out.trans hHeld));clear hHeld;go_wp2
        go_ret
        exact⟨by rw[HV2.out,h3b];rfl,HU.out⟩
end
/- Right histories:the document's own steps come to what the program tells. -/
section
open Go.RowKit
theorem Zjb:∀(l:List HTx) (s:List Int),ZaP s l=Zas s l
 |[],_=>rfl
 |t::l,s=>by
  rw[ZgL,ZqK,Zjb l];rfl
theorem Zob (txs:List HTx) (k:Nat) (id:Int):Zid txs k id=Zdx txs k id:=by
 cases k<;>rfl
theorem Zrk {txs:List HTx} {k:Nat} (hk:k<txs.length):txR txs k txs[k]=ZcR txs k:=by
 rw[Zli hk rfl];unfold txR ZbB;rw[Zob,Znu];rfl
theorem ZjM (txs:List HTx):∀(m k:Nat),k+m=txs.length→(Zcy txs (txs.drop k) k=true↔∀i,k≤i→i<txs.length→ZcR txs i=true)
 |0,k,hk=>by
  obtain rfl:k=txs.length:=by omega
  rw[List.drop_length];exact⟨fun _ i h1 h2=>by omega,fun _=>rfl⟩
 |m+1,k,hk=>by
  have hlt:k<txs.length:=by omega
  rw[List.drop_eq_getElem_cons hlt,ZfE,Bool.and_eq_true,ZjM txs m (k+1) (by omega),Zrk hlt]
  constructor
  ·rintro⟨h1,h2⟩ i hi hi2
   by_cases e:i=k
   ·subst e;exact h1
   ·exact h2 i (by omega) hi2
  ·intro h;exact⟨h k (Nat.le_refl _) hlt,fun i hi hi2=>h i (by omega) hi2⟩
theorem ZmQ (key:Int):∀(l:List HTx) (acc:List Int),wrS key acc l=acc++Zj l key
 |[],acc=>by simp[wrS,Zj]
 |t::l,acc=>by
  rw[ZgT,ZmQ key l]
  have hc:(Zar t.ops).contains key=decide (0<Ze t.ops key):=by
   rw[List.contains_eq_mem]
   congr 1
   simp only[ZnA]
  unfold Zj;rw[List.filter_cons];simp only[hc]
  split<;>simp
theorem Zsr (key:Int) (l:List HTx):wrS key [] l=Zj l key:=by rw[ZmQ];simp
theorem ZiY (txs:List HTx) (keys:List Int) (ords:List HOrd) (hl:ords.length=keys.length):∀(m k:Nat),k+m=ords.length→(ZcZ txs keys (ords.drop k) k=true↔∀i,k≤i→i<ords.length→Zg0 txs keys ords i=true)
 |0,k,hk=>by
  obtain rfl:k=ords.length:=by omega
  rw[List.drop_length];exact⟨fun _ i h1 h2=>by omega,fun _=>rfl⟩
 |m+1,k,hk=>by
  have hlt:k<ords.length:=by omega
  have hlt2:k<keys.length:=by omega
  have hone:(ords[k].key==keys.getD k 0&&(ords[k].txs.length==(wrS ords[k].key [] txs).length&&ords[k].txs.all fun x=>ords[k].txs.count x==(wrS ords[k].key [] txs).count x))=Zg0 txs keys ords k:=by
   unfold Zg0 Zgo;rw[Qg hlt,Qg hlt2,Zsr,List.getD_eq_getElem?_getD,Qg hlt2];rfl
  rw[List.drop_eq_getElem_cons hlt,ZhF,hone,Bool.and_eq_true,ZiY txs keys ords hl m (k+1) (by omega)]
  constructor
  ·rintro⟨h1,h2⟩ i hi hi2
   by_cases e:i=k
   ·subst e;exact h1
   ·exact h2 i (by omega) hi2
  ·intro h;exact⟨h k (Nat.le_refl _) hlt,fun i hi hi2=>h i (by omega) hi2⟩
theorem Zna (h:Hist):ZaO h.txs h.ords=Zc h:=by
 rw[←Znb];unfold ZaO Zj3;rw[Zjb]
 have h1:Zcy h.txs h.txs 0=(List.range h.txs.length).all (ZcR h.txs):=by
  rw[Bool.eq_iff_iff,List.all_eq_true];have:=ZjM h.txs h.txs.length 0 (by omega);rw[List.drop_zero]at this;rw[this];exact⟨fun k i hi=>k i (Nat.zero_le _) (List.mem_range.1 hi),fun k i _ hi=>k i (List.mem_range.2 hi)⟩
 rw[h1]
 by_cases hl:h.ords.length=(Zas [] h.txs).length
 ·have h2:ZcZ h.txs (Zas [] h.txs) h.ords 0=(List.range h.ords.length).all (Zg0 h.txs (Zas [] h.txs) h.ords):=by
   rw[Bool.eq_iff_iff,List.all_eq_true];have:=ZiY h.txs (Zas [] h.txs) h.ords hl h.ords.length 0 (by omega);rw[List.drop_zero]at this;rw[this];exact⟨fun k i hi=>k i (Nat.zero_le _) (List.mem_range.1 hi),fun k i _ hi=>k i (List.mem_range.2 hi)⟩
  rw[h2,Bool.and_assoc,Bool.and_assoc]
 ·rw[show(h.ords.length==(Zas [] h.txs).length)=false by simpa using hl];simp
theorem Zlt (F:Nat→Prop) (w:World) (txs:List HTx) (ords:List HOrd) (A:Option Addr) (c:Nat) (B:Option Addr) (d:Nat) (H:Hist.lies F w ⟨txs,ords,A,c,B,d⟩):
  Calls Tryz.prog 41 #[.agg #[.slice A txs.length c,.slice B ords.length d]] w fun e w'=>e= .returned (.bool (Zc ⟨txs,ords,A,c,B,d⟩))∧Upd No w w':=by
 have:=ZrG F w txs ords A c B d H
 rwa [show ZaO txs ords=Zc ⟨txs,ords,A,c,B,d⟩ from Zna ⟨txs,ords,A,c,B,d⟩]at this
theorem Zqv {F:Nat→Prop} {w:World} {txs:List HTx} {ords:List HOrd} {A:Option Addr} {c:Nat} {B:Option Addr} {d:Nat} {b:Bool} (H:Hist.lies F w ⟨txs,ords,A,c,B,d⟩) (hb:Zc ⟨txs,ords,A,c,B,d⟩=b):
  Calls Tryz.prog 41 #[.agg #[.slice A txs.length c,.slice B ords.length d]] w fun e w'=>e= .returned (.bool b)∧Upd No w w':=by subst hb;exact Zlt F w txs ords A c B d H
end
/- The document:the reads that may not be. -/
section
open Go.RowKit
theorem Upd.noR {S:Nat→Prop} {a w w':World} (h:Upd S a w) (k:Upd No w w'):Upd S a w':=h.trans_ k fun _ _ t=>t.elim
def Bads (F:Nat→Prop) (w:World) (A:Option Addr) (l:List HBad):Prop:=Recs F w A 5 (l.map HBad.cells)
theorem Bads.at_ {F:Nat→Prop} {w:World} {A:Option Addr} {l:List HBad} (h:Bads F w A l) {k:Nat} (hk:k<l.length):∃ad,A=some ad∧
  w.cell? (ad.add (k*5))=some (.int .i64 l[k].tx)∧w.cell? ⟨(ad.add (k*5)).block,(ad.add (k*5)).off+1,none⟩=some (.int .i64 l[k].place)∧
  w.cell? ⟨(ad.add (k*5)).block,(ad.add (k*5)).off+2,none⟩=some (.int .i64 l[k].of.tx)∧w.cell? ⟨(ad.add (k*5)).block,(ad.add (k*5)).off+3,none⟩=some (.int .i64 l[k].of.key)∧
  w.cell? ⟨(ad.add (k*5)).block,(ad.add (k*5)).off+4,none⟩=some (.int .i64 l[k].of.nth):=by
 have hk':k<(l.map HBad.cells).length:=by simpa using hk
 obtain⟨ad,e,_,_,hc⟩:=Recs.at_ h hk';rw[List.getElem_map]at hc;exact⟨ad,e,by simpa using hc 0 _ rfl,by simpa using hc 1 _ rfl,by simpa using hc 2 _ rfl,by simpa using hc 3 _ rfl,by simpa using hc 4 _ rfl⟩
theorem Bads.upd {F S:Nat→Prop} {w w':World} {A:Option Addr} {l:List HBad} (h:Bads F w A l) (k:Upd S w w') (hn:∀i,F i→¬S i):Bads F w' A l:=Recs.upd h k hn
theorem Zpy {l:List HBad}:∀r∈l.map HBad.cells,r.length=5:=fun r hr=>by
 obtain⟨e,_,rfl⟩:=List.mem_map.1 hr;rfl
theorem ZjR:SlT Tryz.prog 53 30 5 40:=SlT.mk_ Tryz.underlying53 (z:= .agg #[.int .i64 0,.int .i64 0,.int .i64 0,.int .i64 0,.int .i64 0]) (by kernel_rfl) rfl (by omega)
theorem ZlN (w:World) (x y:HBad):(binOp .eql 30 (.agg #[.int .i64 x.tx,.int .i64 x.place,.int .i64 x.of.tx,.int .i64 x.of.key,.int .i64 x.of.nth]) (.agg #[.int .i64 y.tx,.int .i64 y.place,.int .i64 y.of.tx,.int .i64 y.of.key,.int .i64 y.of.nth])).run Tryz.prog w= .ok (.bool (x==y)) w:=by
 have:=Zn5 w x y;unfold ZmH at this;rw[run_eql_struct,this];simp only[Result.andThen]
 by_cases h:x=y<;>simp[h]
theorem ZkQ {w':World} {base:Nat} {l:List HBad} {A:Option Addr} {c:Nat} (h:w'.ownsRow base 30 5 (.slice A l.length c) l.length (l.map HBad.cells).flatten):Bads (fun i=>base≤i) w' A l:=by
 have h2:=Recs.of_own (n:=l.length) (c:=c) Zpy (by omega) h;exact Recs.weak h2 fun i _ hi=>(h.lt i hi).1
def ZiG (w:World) (l:List HBad) (e:Ending) (w':World):Prop:=∃A c,e= .returned (.slice A l.length c)∧w'.ownsRow w.heap.size 30 5 (.slice A l.length c) l.length (l.map HBad.cells).flatten∧Upd No w w'
theorem ZmF (txs:List HTx) (p:Int) (t:HTx) (i:Nat) (acc:List HBad) (o:HOp) (l:List HOp):Zch txs p t i acc (o::l)=Zch txs p t (i+1) (if Za9 txs t p o then acc++[⟨t.id,i,ZF o⟩] else acc) l:=rfl
theorem ZmG (txs:List HTx) (p:Int) (acc:List HBad) (t:HTx) (l:List HTx):Zc5 txs p acc (t::l)=Zc5 txs p (Zch txs p t 0 acc t.ops) l:=rfl
theorem ZtA (w:World) (ky tx nt:Int):Calls Tryz.prog 43 #[.agg #[.bool true,.int .i64 ky,.int .i64 tx,.int .i64 nt]] w fun e w'=>e= .returned (.agg #[.int .i64 tx,.int .i64 ky,.int .i64 nt])∧Upd No w w':=rof w ⟨true,ky,tx,nt⟩
theorem Zjv {txs:List HTx} {t:HTx} {p:Int} {rd:Bool} {ky tx nt:Int} (h:Za9 txs t p ⟨rd,ky,tx,nt⟩=true):rd=true:=by
 unfold Za9 at h
 cases rd
 ·simp at h
 ·rfl
set_option maxRecDepth 100000 in
set_option maxHeartbeats 4000000 in
theorem ZpS (F:Nat→Prop) (w:World) (txs:List HTx) (ords:List HOrd) (A:Option Addr) (c:Nat) (B:Option Addr) (d:Nat) (p:Int) (H:Hist.lies F w ⟨txs,ords,A,c,B,d⟩):
  Calls Tryz.prog 19 #[.agg #[.slice A txs.length c,.slice B ords.length d],.int .i64 p] w (ZiG w (ZaS ⟨txs,ords,A,c,B,d⟩ p)):=by
 have u0:=(Upd.refl No w).alloc (.cells #[.slice A txs.length c,.slice B ords.length d] 25);have bH:=Qh (Blk.new w 25 [.slice A txs.length c,.slice B ords.length d]);obtain⟨b,hb⟩:∃b,Zc ⟨txs,ords,A,c,B,d⟩=b:=⟨_,rfl⟩;have HR:=Qh (Zqv (H.upd u0 (fun _ _=>id)) hb);have U0:=Qh u0;clear u0
 cases b
 ·have HV:=Qh (show([]:List HBad)=ZaS ⟨txs,ords,A,c,B,d⟩ p by unfold ZaS;rw[if_neg (by rw[hb];decide)]);clear hb
  go_enter Tryz.func19,Tryz.ntmps19
  go_wp2_with fail
  refine(HR.out).mono ?_;rintro e w1 ⟨rfl,hu1⟩;have HU:=Qh (U0.out.trans hu1);go_wp2
  go_ret
  exact⟨none,0,by rw[←HV.out];rfl,by rw[←HV.out];exact World.ownsRow_nil _ _ _ _,HU.out⟩
 ·have HV:=Qh (show Zc5 txs p [] txs=ZaS ⟨txs,ords,A,c,B,d⟩ p by unfold ZaS;rw[if_pos hb])
  have hmany:txs.length≤4096:=by
   unfold Zc at hb;simp only[Bool.and_eq_true,decide_eq_true_eq]at hb;exact hb.1.1.1
  have hlen:=Qh (show∀t∈txs,t.ops.length≤4095 from fun t ht=>Zei (Zcr hb ht).1);clear hb
  go_enter Tryz.func19,Tryz.ntmps19
  go_wp2_with fail
  refine(HR.out).mono ?_;rintro e w1 ⟨rfl,hu1⟩;have HU:=Qh (U0.out.trans hu1);have BH:=Qh (bH.out.upd hu1 id);have g0:=BH.out.cell 0;simp only[Qz]at g0;have hzw:=HU.out.size;clear hu1;go_wp2;clear g0
  go_loopg [5,16] txs.length (fun gk s i wr=>∃(k:Nat) (A3:Option Addr) (c3:Nat) (xs:List HBad),k+gk=txs.length∧i= .int .i64 k∧s= .slice A3 xs.length c3∧Hid (Zc5 txs p xs (txs.drop k)=Zc5 txs p [] txs)∧xs.length≤4095*k∧
   Hid (wr.ownsRow w1.heap.size 30 5 (.slice A3 xs.length c3) xs.length (xs.map HBad.cells).flatten)∧Upd No w1 wr)
  case atStart=>exact⟨0,none,0,[],by omega,rfl,rfl,Qh rfl,by simp,Qh (World.ownsRow_nil _ _ _ _),Upd.refl _ _⟩
  case round=>
   obtain⟨k,A3,c3,xs,hgk,rfl,rfl,hs,hxl,hown,hu1⟩:=hrel
   by_cases hlt:k<txs.length
   ·have hu:=HU.out.trans hu1;obtain⟨ad,hAd,q0,q1,q2⟩:=(H.upd hu (fun _ _=>id)).tx_at hlt;have hlo:=H.tx txs[k] (List.getElem_mem hlt);simp only at hAd q0 q1 q2;obtain⟨x,hx⟩:∃x,txs[k]=x:=⟨_,rfl⟩;rw[hx]at q0 q1 q2 hlo;obtain⟨xi,xd,xo,xA,xc⟩:=x;simp only at q0 q1 q2;subst hAd;have X:=Qh (show txs.drop k=⟨xi,xd,xo,xA,xc⟩::txs.drop (k+1) by rw[←hx];exact List.drop_eq_getElem_cons hlt);have HL:=Qh hlo;have XM:=Qh (show(⟨xi,xd,xo,xA,xc⟩:HTx)∈txs by rw[←hx];exact List.getElem_mem hlt);have b1:(0:Int)≤(k:Int):=Qn _;have b2:(k:Int)<(txs.length:Int):=by omega
    have uA:=hu.alloc (.cells #[.int .i64 xi,.bool xd,.slice xA xo.length xc] 42);clear hx hlo;have hst:=hs.out;rw[X.out,ZmG]at hst;have HST:=Qh hst;have hol:=hlen.out _ XM.out;simp only at hol;have UA:=Qh (hu1.alloc (.cells #[.int .i64 xi,.bool xd,.slice xA xo.length xc] 42));have BT:=Qh (Blk.new wr 42 [.int .i64 xi,.bool xd,.slice xA xo.length xc]);have HO:=Qh (Za hown.out ((Upd.refl No wr).alloc (.cells #[.int .i64 xi,.bool xd,.slice xA xo.length xc] 42)) (fun _ _=>id));have hzr:=hu1.size;clear hst uA hu;have HOL:=Qh (fun i e=>hown.out.lt i e);have HW1:=Qh fun W (hW:Upd (Own (.slice A3 xs.length c3)) (wr.alloc (.cells #[.int .i64 xi,.bool xd,.slice xA xo.length xc] 42)) W)=>(show Upd No w W from(HU.out.trans UA.out).then_ hW fun i e=> .inr (Nat.le_trans hzw (HOL.out i e).1))
    have HW2:=Qh fun W (hW:Upd (Own (.slice A3 xs.length c3)) (wr.alloc (.cells #[.int .i64 xi,.bool xd,.slice xA xo.length xc] 42)) W)=>(show Upd No w1 W from UA.out.then_ hW fun i e=> .inr (HOL.out i e).1)
    have hnT:¬Own (.slice A3 xs.length c3) wr.heap.size:=fun e=>by have:=(HOL.out _ e).2;omega
    have hnH:¬Own (.slice A3 xs.length c3) w.heap.size:=fun e=>by have:=(HOL.out _ e).1;have:=BH.out.lt;omega
    have HBd:=Qh fun(o:HOp) (j:Nat) (hj:j<xo.length) (ho:xo[j]=o) W (hW:Upd (Own (.slice A3 xs.length c3)) (wr.alloc (.cells #[.int .i64 xi,.bool xd,.slice xA xo.length xc] 42)) W)=>ZtF F W txs ords (some ad) c B d xi xd xA xc xo j p o (H.upd (HW1.out _ hW) (fun _ _=>id)) (HOps.upd HL.out.1 (HW1.out _ hW) (fun _ _=>id)) HL.out.2.2.1 hj ho
    have HOps1:=Qh fun W (hW:Upd (Own (.slice A3 xs.length c3)) (wr.alloc (.cells #[.int .i64 xi,.bool xd,.slice xA xo.length xc] 42)) W)=>HOps.upd HL.out.1 (HW1.out _ hW) (fun _ _=>id)
    have t0:∀W,Upd (Own (.slice A3 xs.length c3)) (wr.alloc (.cells #[.int .i64 xi,.bool xd,.slice xA xo.length xc] 42)) W→W.cell? ⟨wr.heap.size,0,none⟩=some (.int .i64 xi):=fun W hW=>(BT.out.upd hW hnT).cell 0
    have t1:∀W,Upd (Own (.slice A3 xs.length c3)) (wr.alloc (.cells #[.int .i64 xi,.bool xd,.slice xA xo.length xc] 42)) W→W.cell? ⟨wr.heap.size,1,none⟩=some (.bool xd):=fun W hW=>(BT.out.upd hW hnT).cell 1
    have t2:∀W,Upd (Own (.slice A3 xs.length c3)) (wr.alloc (.cells #[.int .i64 xi,.bool xd,.slice xA xo.length xc] 42)) W→W.cell? ⟨wr.heap.size,2,none⟩=some (.slice xA xo.length xc):=fun W hW=>(BT.out.upd hW hnT).cell 2
    have g0:∀W,Upd (Own (.slice A3 xs.length c3)) (wr.alloc (.cells #[.int .i64 xi,.bool xd,.slice xA xo.length xc] 42)) W→W.cell? ⟨w.heap.size,0,none⟩=some (.slice (some ad) txs.length c):=fun W hW=>((BH.out.upd UA.out id).upd hW hnH).cell 0
    have g1:∀W,Upd (Own (.slice A3 xs.length c3)) (wr.alloc (.cells #[.int .i64 xi,.bool xd,.slice xA xo.length xc] 42)) W→W.cell? ⟨w.heap.size,1,none⟩=some (.slice B ords.length d):=fun W hW=>((BH.out.upd UA.out id).upd hW hnH).cell 1
    have hrefl:Upd (Own (.slice A3 xs.length c3)) (wr.alloc (.cells #[.int .i64 xi,.bool xd,.slice xA xo.length xc] 42)) (wr.alloc (.cells #[.int .i64 xi,.bool xd,.slice xA xo.length xc] 42)):=Upd.refl _ _;have hmul:4095*k≤4095*4096:=Nat.mul_le_mul_left _ (by omega);obtain⟨wo,hwo⟩:∃wo,wo=wr:=⟨_,rfl⟩;subst hwo
    generalize gk=m0 at*
    go_wp2
    go_loopg [5,23] xo.length (fun gm s i wr=>∃(j:Nat) (A4:Option Addr) (c4:Nat) (ys:List HBad),j+gm=xo.length∧i= .int .i64 j∧s= .slice A4 ys.length c4∧Hid (Zch txs p ⟨xi,xd,xo,xA,xc⟩ j ys (xo.drop j)=Zch txs p ⟨xi,xd,xo,xA,xc⟩ 0 xs xo)∧ys.length≤xs.length+j∧
     Hid (wr.ownsRow w1.heap.size 30 5 (.slice A4 ys.length c4) ys.length (ys.map HBad.cells).flatten)∧Hid (∀i,Own (.slice A4 ys.length c4) i→Own (.slice A3 xs.length c3) i∨wo.heap.size+1≤i)∧Upd (Own (.slice A3 xs.length c3)) (wo.alloc (.cells #[.int .i64 xi,.bool xd,.slice xA xo.length xc] 42)) wr)
    case atStart=>exact⟨0,A3,c3,xs,by omega,rfl,rfl,Qh rfl,by omega,HO,Qh (fun _=> .inl),hrefl⟩
    case round=>
     obtain⟨j,A4,c4,ys,hgm,rfl,rfl,hs2,hyl,hown2,hgr2,hu2⟩:=hrel;clear hrefl
     by_cases hlt2:j<xo.length
     ·obtain⟨ad2,hAd2,q0,q1,q2,q3⟩:=(HOps1.out _ hu2).at_ hlt2;obtain⟨x,hx⟩:∃x,xo[j]=x:=⟨_,rfl⟩;rw[hx]at q0 q1 q2 q3;obtain⟨rd,ky,tx,nt⟩:=x;simp only at q0 q1 q2 q3;subst hAd2;have Y:=Qh (show xo.drop j=⟨rd,ky,tx,nt⟩::xo.drop (j+1) by rw[←hx];exact List.drop_eq_getElem_cons hlt2);have c1:(0:Int)≤(j:Int):=Qn _;have c2:(j:Int)<(xo.length:Int):=by omega
      have hub:=hu2.alloc (.cells #[.bool rd,.int .i64 ky,.int .i64 tx,.int .i64 nt] 48);have HC:=Qh (HBd.out _ j hlt2 hx _ hub);have BO:=Qh (Blk.new wr 48 [.bool rd,.int .i64 ky,.int .i64 tx,.int .i64 nt]);have HO2:=Qh (Za hown2.out ((Upd.refl No wr).alloc (.cells #[.bool rd,.int .i64 ky,.int .i64 tx,.int .i64 nt] 48)) (fun _ _=>id));have HLT:=Qh (fun i e=>hown2.out.lt i e);have hz2:=hu2.size;have hzq:=(HW2.out _ hu2).size;simp only[World.size_alloc]at hz2;have hst:=hs2.out;rw[Y.out,ZmF]at hst;obtain⟨b,hb⟩:∃b,Za9 txs ⟨xi,xd,xo,some ad2,xc⟩ p ⟨rd,ky,tx,nt⟩=b:=⟨_,rfl⟩;rw[hb]at HC hst;clear hx
      cases b
      ·have HS:=Qh (show Zch txs p ⟨xi,xd,xo,some ad2,xc⟩ (j+1) ys (xo.drop (j+1))=Zch txs p ⟨xi,xd,xo,some ad2,xc⟩ 0 xs xo from hst);clear hst hb
       go_wp2_with fail
       refine(HC.out).mono ?_;rintro e w3 ⟨rfl,hu3⟩;have HO3:=Qh (Za HO2.out hu3 (fun _ _=>id));have HU3:=Qh (hub.noR hu3);clear hub hu3;go_wp2
       go_roundg (gk-1)
       case measure=>omega
       case rel=>exact⟨j+1,A4,c4,ys,by omega,by go_num,rfl,HS,by omega,HO3,hgr2,HU3.out⟩
      ·have HS:=Qh (show Zch txs p ⟨xi,xd,xo,some ad2,xc⟩ (j+1) (ys++[⟨xi,(j:Int),⟨tx,ky,nt⟩⟩]) (xo.drop (j+1))=Zch txs p ⟨xi,xd,xo,some ad2,xc⟩ 0 xs xo by
        rw[←hst,if_pos rfl];have:=Zjv hb;subst this;rfl)
       have hrd:=Zjv hb;subst hrd;clear hst hb
       go_wp2_with fail
       refine(HC.out).mono ?_;rintro e w3 ⟨rfl,hu3⟩;have HO3:=Qh (Za HO2.out hu3 (fun _ _=>id));have HU3:=Qh (hub.noR hu3);have BO3:=Qh (BO.out.upd hu3 id);have hz3:=hu3.size;simp only[World.size_alloc]at hz3;have hnO:¬Own (.slice A4 ys.length c4) wr.heap.size:=fun e=>by have:=(HLT.out _ e).2;omega
       have hnT4:¬Own (.slice A4 ys.length c4) wo.heap.size:=fun e=>by
        rcases hgr2.out _ e with e|e
        ·exact hnT e
        ·omega
       have o0:∀W,Upd (Own (.slice A4 ys.length c4)) w3 W→W.cell? ⟨wr.heap.size,0,none⟩=some (.bool true):=fun W hW=>(BO3.out.upd hW hnO).cell 0
       have o1:∀W,Upd (Own (.slice A4 ys.length c4)) w3 W→W.cell? ⟨wr.heap.size,1,none⟩=some (.int .i64 ky):=fun W hW=>(BO3.out.upd hW hnO).cell 1
       have o2:∀W,Upd (Own (.slice A4 ys.length c4)) w3 W→W.cell? ⟨wr.heap.size,2,none⟩=some (.int .i64 tx):=fun W hW=>(BO3.out.upd hW hnO).cell 2
       have o3:∀W,Upd (Own (.slice A4 ys.length c4)) w3 W→W.cell? ⟨wr.heap.size,3,none⟩=some (.int .i64 nt):=fun W hW=>(BO3.out.upd hW hnO).cell 3
       have s0:∀W,Upd (Own (.slice A4 ys.length c4)) w3 W→W.cell? ⟨wo.heap.size,0,none⟩=some (.int .i64 xi):=fun W hW=>by
        have h0:=t0 _ HU3.out;exact hW.keep h0 hnT4
       have HGR:=Qh (fun i e=>(HLT.out i e).1);clear hub hu3 t0 t1 t2 g0 g1;go_wp2;refine wp_region_noPanic ?_;refine wp_region_held_drew (S:=(fun w'=>Upd (Own (.slice A4 ys.length c4)) w3 w')) (by kernel_rfl) ?_ (fun hHeld=> ?_)
       ·(first|exact(Upd.refl _ _).drew|exact hHeld.noR hu4|exact hHeld.alloc _|exact hU6)
       refine wpK 0 rfl ?_;refine wpK 1 rfl ?_;refine wpK 2 rfl ?_;refine wpK 3 rfl ?_;refine wpK 4 rfl ?_;refine wpR [5] ?_;refine wpC rfl (fun K hK=> ?_) AllReadyH.nil;go_simp
       (first
  |(go_at_call 43;refine(ZtA _ ky tx nt).mono ?_;rintro e w4 ⟨rfl,hu4⟩;have ho4:=Za HO3.out hu4.of_drew (fun _ _=>id);have hz4:=hu4.of_drew.size))
       try (go_wp2_with fail)
       refine hK.out _ _ ?_ (fun hHeld=> ?_)
       ·(first|exact(Upd.refl _ _).drew|exact hHeld.noR hu4|exact hHeld.alloc _|exact hU6)
       clear hK K
       try simp only[Act.put,sT,sS,sZ]
       refine wpK 6 rfl ?_;refine wpR [7] ?_;refine wpC rfl (fun K hK=> ?_) AllReadyH.nil;go_simp;refine hK.out _ _ ?_ (fun hHeld=> ?_)
       ·(first|exact(Upd.refl _ _).drew|exact hHeld.noR hu4|exact hHeld.alloc _|exact hU6)
       clear hK K
       try simp only[Act.put,sT,sS,sZ]
       refine wpR [8] ?_;refine wpC rfl (fun K hK=> ?_) AllReadyH.nil
       (first
  |(refine Zek (by rfl) (by rfl) ZjR (v:= .slice A4 ys.length c4) (cells:=[.int .i64 xi,.int .i64 (j:Int),.int .i64 tx,.int .i64 ky,.int .i64 nt]) (by rfl) (by rfl) (by exact ho4.alloc _) rfl (by exact Zdb) (by rfl) (by omega) (by omega) (by simp;omega) ?_;intro g6 c6 w6 hown6 hu6 hg6 hlt6;have hU6:Upd (Own (.slice A4 ys.length c4)) w3 w6:=hHeld.trans hu6))
       refine hK.out _ _ ?_ (fun hHeld=> ?_)
       ·(first|exact(Upd.refl _ _).drew|exact hHeld.noR hu4|exact hHeld.alloc _|exact hU6)
       clear hK K
       try simp only[Act.put,sT,sS,sZ]
       refine wpK 9 rfl ?_;refine wpD (NoPanic.normal ?_)
       have HU6:=Qh (HU3.out.then_ hHeld fun i e=>by
        rcases hgr2.out i e with e|e
        ·exact .inl e
        ·exact .inr (by simp only[World.size_alloc];exact e))
       have HG6:=Qh (show∀i,Own (.slice (some ⟨g6,0,none⟩) (ys.length+1) c6) i→Own (.slice A3 xs.length c3) i∨wo.heap.size+1≤i from fun i e=>by
        rcases hg6 with h|⟨k6,hk6,hlk⟩
        ·exact hgr2.out i (h.symm.trans e)
        ·have e2:(some k6:Option Nat)=some i:=hk6.symm.trans e
         cases e2
         simp only[World.size_alloc]at hlk;exact .inr (by omega))
       clear hHeld o0 o1 o2 o3 s0 hg6;go_wp2
       go_roundg (gk-1)
       case measure=>omega
       case rel=>exact⟨j+1,some ⟨g6,0,none⟩,c6,ys++[⟨xi,(j:Int),⟨tx,ky,nt⟩⟩],by omega,by go_num,by simp,HS,by simp;omega,Qh (by simpa[HBad.cells]using hown6),Qh (by simpa using HG6.out),HU6.out⟩
     ·obtain rfl:j=xo.length:=by omega
      have HS:=Qh (show Zc5 txs p ys (txs.drop (k+1))=Zc5 txs p [] txs by
       have:=hs2.out;rw[List.drop_length]at this;rw[←HST.out,←this];rfl)
      go_wp2
      go_roundg (m0-1)
      case measure=>omega
      case rel=>exact⟨k+1,A4,c4,ys,by omega,by go_num,rfl,HS,by omega,hown2,HW2.out _ hu2⟩
   ·obtain rfl:k=txs.length:=by omega
    have HS:=Qh (show xs=ZaS ⟨txs,ords,A,c,B,d⟩ p by rw[←HV.out,←hs.out,List.drop_length];rfl);go_wp2
    go_ret
    exact⟨A3,c3,by rw[←HS.out];rfl,by rw[←HS.out];exact Zx hown.out hzw,HU.out.trans hu1⟩
end
end Go.Proofs.YticmndpiehinjaaGreat
