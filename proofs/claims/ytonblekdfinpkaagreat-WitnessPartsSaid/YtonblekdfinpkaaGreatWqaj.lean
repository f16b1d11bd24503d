/- Operations that come up in any order, each a step that makes blocks of its own alone: taken one by one, whatever the order. -/
import Derived.Test.YtonblekdfinpkaaGreatWqai
namespace Go.Proofs.YtonblekdfinpkaaGreat
set_option linter.unusedVariables false
set_option linter.unusedSimpArgs false
section
open Go.RowKit
def Za3 {α:Type _} (l:Array α):List (Nat×Nat)→(Nat→α)→Array α
 |[],_=>l
 |p::F,xs=>Za3 (l.setIfInBounds p.2 (xs p.1)) F xs
def ZbD (a:Act) (F:List (Nat×Nat)) (xs:Nat→Value):Act:={a with tmps:=Za3 a.tmps F xs}
def Zcn:List (Nat×Nat)→List (Nat×Nat)
 |[]=>[]
 |p::F=>(p.1,p.1)::Zcn F
def upx {α:Type _} (f:Nat→α) (i:Nat) (v:α):Nat→α:=fun j=>if j=i then v else f j
theorem Zhk {α:Type _}:∀(F:List (Nat×Nat)) (l:Array α) {xs ys:Nat→α},(∀p∈F,xs p.1=ys p.1)→Za3 l F xs=Za3 l F ys
 |[],_,_,_,_=>rfl
 |p::F,l,xs,ys,h=>by
  unfold Za3;rw[h p (List.mem_cons_self ..)];exact Zhk F _ fun q hq=>h q (List.mem_cons_of_mem _ hq)
theorem ZjP {α:Type _}:∀(F:List (Nat×Nat)) (l:Array α) (xs:Nat→α) (d:Nat) (v:α),(∀p∈F,p.2≠d)→(Za3 l F xs).setIfInBounds d v=Za3 (l.setIfInBounds d v) F xs
 |[],_,_,_,_,_=>rfl
 |p::F,l,xs,d,v,h=>by
  unfold Za3;rw[ZjP F _ xs d v fun q hq=>h q (List.mem_cons_of_mem _ hq),Array.setIfInBounds_comm _ _ (h p (List.mem_cons_self ..))]
theorem Zhj {α:Type _}:∀(F:List (Nat×Nat)) (l:Array α) (xs:Nat→α) (p:Nat×Nat) (v:α),p∈F→(F.map (·.1)).Nodup→(F.map (·.2)).Nodup→(Za3 l F xs).setIfInBounds p.2 v=Za3 l F (upx xs p.1 v)
 |[],_,_,_,_,h,_,_=>by cases h
 |q::F,l,xs,p,v,h,h1,h2=>by
  rw[List.map_cons,List.nodup_cons]at h1 h2;unfold Za3
  by_cases e:p=q
  ·subst e;have e1:upx xs p.1 v p.1=v:=if_pos rfl;rw[e1,ZjP F _ xs p.2 v fun r hr e=>h2.1 (by rw[←e];exact List.mem_map_of_mem hr),Array.setIfInBounds_setIfInBounds];exact Zhk F _ fun r hr=>(if_neg fun e:r.1=p.1=>h1.1 (by rw[←e];exact List.mem_map_of_mem hr)).symm
  ·have hm:p∈F:=(List.mem_cons.1 h).resolve_left e;have e1:upx xs p.1 v q.1=xs q.1:=if_neg fun e:q.1=p.1=>h1.1 (by rw[e];exact List.mem_map_of_mem hm)
   rw[e1];exact Zhj F _ xs p v hm h1.2 h2.2
theorem Zqk {a:Act} {F:List (Nat×Nat)} {xs:Nat→Value} {p:Nat×Nat} (v:Value) (h:p∈F) (h1:(F.map (·.1)).Nodup) (h2:(F.map (·.2)).Nodup):(ZbD a F xs).put (some p.2) v=ZbD a F (upx xs p.1 v):=by
 unfold ZbD;rw[←Zhj F a.tmps xs p v h h1 h2];rfl
theorem Zjv:∀{F:List (Nat×Nat)} {p:Nat×Nat},p∈F→(p.1,p.1)∈Zcn F
 |[],_,h=>by cases h
 |q::F,p,h=>by
  unfold Zcn;rcases List.mem_cons.1 h with rfl|h
  ·exact List.mem_cons_self ..
  ·exact List.mem_cons_of_mem _ (Zjv h)
theorem Zej:∀F:List (Nat×Nat),(Zcn F).map (·.1)=F.map (·.1)∧(Zcn F).map (·.2)=F.map (·.1)
 |[]=>⟨rfl,rfl⟩
 |p::F=>by unfold Zcn;simp[Zej F]
def fl (l:Array Bool) (F:List (Nat×Nat)) (D:Nat→Bool):Array Bool:=Za3 l (Zcn F) D
theorem ZsD {l:Array Bool} {F:List (Nat×Nat)} {D:Nat→Bool} {p:Nat×Nat} (h:p∈F) (h1:(F.map (·.1)).Nodup):(fl l F D).setIfInBounds p.1 true=fl l F (upx D p.1 true):=
 Zhj (Zcn F) l D (p.1,p.1) true (Zjv h) (by rw[(Zej F).1];exact h1) (by rw[(Zej F).2];exact h1)
theorem ZjN:∀(F:List (Nat×Nat)) (l:Array Bool) (D:Nat→Bool) (i:Nat),D i=true→l.getD i true=true→(Za3 l (Zcn F) D).getD i true=true
 |[],_,_,_,_,h=>h
 |p::F,l,D,i,hD,h=>by
  unfold Zcn Za3;refine ZjN F _ D i hD ?_;simp only[Array.getD_eq_getD_getElem?]at h ⊢;rw[Array.getElem?_setIfInBounds]
  split
  ·rename_i e
   subst e
   split<;>simp[hD]
  ·exact h
theorem Zmz:∀(F:List (Nat×Nat)) (l:Array Bool) (D:Nat→Bool) (p:Nat×Nat),p∈F→D p.1=true→(fl l F D).getD p.1 true=true
 |[],_,_,_,h,_=>by cases h
 |q::F,l,D,p,h,hD=>by
  unfold fl Zcn Za3
  by_cases e:p.1=q.1
  ·refine ZjN F _ D p.1 hD ?_;rw[e]at hD ⊢;simp only[Array.getD_eq_getD_getElem?];rw[Array.getElem?_setIfInBounds,if_pos rfl]
   split<;>simp[hD]
  ·exact Zmz F _ D p ((List.mem_cons.1 h).resolve_left fun e'=>e (by rw[e'])) hD
def pend:List (Nat×Nat)→(Nat→Bool)→Nat
 |[],_=>0
 |p::F,D=>(if D p.1 then 0 else 1)+pend F D
theorem Zjo:∀{F:List (Nat×Nat)} {D:Nat→Bool},pend F D=0→∀p∈F,D p.1=true
 |[],_,_,_,h=>by cases h
 |q::F,D,h,p,hp=>by
  unfold pend at h;rcases List.mem_cons.1 hp with rfl|hp
  ·cases e:D p.1
   ·rw[e]at h;simp at h
   ·rfl
  ·exact Zjo (F:=F) (by omega) p hp
theorem ZkM:∀(F:List (Nat×Nat)) {D E:Nat→Bool},(∀p∈F,D p.1=E p.1)→pend F D=pend F E
 |[],_,_,_=>rfl
 |q::F,D,E,h=>by
  unfold pend;rw[h q (List.mem_cons_self ..),ZkM F fun p hp=>h p (List.mem_cons_of_mem _ hp)]
theorem ZkL:∀{F:List (Nat×Nat)} {D:Nat→Bool} {p:Nat×Nat},p∈F→(F.map (·.1)).Nodup→D p.1=false→pend F (upx D p.1 true)+1=pend F D
 |[],_,_,h,_,_=>by cases h
 |q::F,D,p,h,h1,hD=>by
  rw[List.map_cons,List.nodup_cons]at h1;unfold pend
  by_cases e:p.1=q.1
  ·have e1:upx D p.1 true q.1=true:=if_pos e.symm;rw[e1,←e,hD,ZkM F (E:=D) fun r hr=>if_neg fun e':r.1=p.1=>h1.1 (by rw[←e,←e'];exact List.mem_map_of_mem hr)];simp;omega
  ·have e1:upx D p.1 true q.1=D q.1:=if_neg fun e'=>e e'.symm
   have:=ZkL (F:=F) (D:=D) ((List.mem_cons.1 h).resolve_left fun e'=>e (by rw[e'])) h1.2 hD;rw[e1];omega
theorem ZkN:∀F:List (Nat×Nat),pend F (fun _=>false)=F.length
 |[]=>rfl
 |p::F=>by
  unfold pend;rw[ZkN F,List.length_cons];simp;omega
section
variable {P:Program} {ops:Array Oper} {Q:Exit→Act→World→Prop} {md:Region.Mode}
def Zd6 (md:Region.Mode) (ops:Array Oper) (F0:List (Nat×Nat)):List (Nat×Nat)→Array Bool→Bool→Bool
 |[],l,done=>done||(!(Region.ready md ops l).isEmpty&&(Region.ready md ops l).all fun i=>F0.any fun p=>p.1==i)
 |p::F,l,done=>Zd6 md ops F0 F (l.setIfInBounds p.1 false) false&&Zd6 md ops F0 F (l.setIfInBounds p.1 true) done
theorem ZeI {F0:List (Nat×Nat)}:∀(F:List (Nat×Nat)) (l:Array Bool) (done:Bool),Zd6 md ops F0 F l done=true→∀D:Nat→Bool,pend F D≠0∨done=false→
  Region.ready md ops (fl l F D)≠[]∧∀i∈Region.ready md ops (fl l F D),∃p∈F0,p.1=i
 |[],l,done,h,D,hp=>by
  have hd:done=false:=hp.resolve_left fun e=>e rfl
  unfold Zd6 at h;rw[hd,Bool.false_or,Bool.and_eq_true]at h
  show Region.ready md ops l≠[]∧∀i∈Region.ready md ops l,∃p∈F0,p.1=i
  refine⟨fun e=>by rw[e]at h;simp at h,fun i hi=> ?_⟩;have:=List.all_eq_true.1 h.2 i hi;obtain⟨p,hp,he⟩:=List.any_eq_true.1 this;exact⟨p,hp,by simpa using he⟩
 |q::F,l,done,h,D,hp=>by
  unfold Zd6 at h;rw[Bool.and_eq_true]at h;unfold pend at hp
  show Region.ready md ops (fl (l.setIfInBounds q.1 (D q.1)) F D)≠[]∧∀i∈Region.ready md ops (fl (l.setIfInBounds q.1 (D q.1)) F D),∃p∈F0,p.1=i
  cases e:D q.1
  ·exact ZeI F _ _ h.1 D (Or.inr rfl)
  ·refine ZeI F _ _ h.2 D ?_;rw[e]at hp
   simpa using hp
def FAll (Pr:Nat×Nat→Prop):List (Nat×Nat)→Prop
 |[]=>True
 |p::F=>Pr p∧FAll Pr F
theorem FAll.at_ {Pr:Nat×Nat→Prop}:∀{F:List (Nat×Nat)},FAll Pr F→∀p∈F,Pr p
 |[],_,_,h=>by cases h
 |q::F,h,p,hp=>by
  rcases List.mem_cons.1 hp with rfl|hp
  ·exact h.1
  ·exact FAll.at_ h.2 p hp
def ZlE (P:Program) (ops:Array Oper) (Q:Exit→Act→World→Prop) (w0:World) (a0:Act) (F:List (Nat×Nat)) (R:Nat→Value→(Nat→Prop)→World→Prop) (p:Nat×Nat):Prop:=
 ∀(xs:Nat→Value) (w:World),Upd No w0 w→∀K:Act→World→Prop,Shut (∀v FF w',Upd No w w'→(∀k,FF k→w.heap.size≤k∧k<w'.heap.size)→R p.1 v FF w'→K ((ZbD a0 F xs).put (some p.2) v) w')→
  ∃o,nth ops.toList p.1=some o∧if Region.wanted o (yielded ops (ZbD a0 F xs).tmps)=true then Oper.wp P o (ZbD a0 F xs) w K Q else K ((ZbD a0 F xs).put o.dst undef) w
theorem Zmy {w0:World} (F:List (Nat×Nat)) (R:Nat→Value→(Nat→Prop)→World→Prop) {l0:Array Bool} {a0:Act} {f:Nat}
  (hN1:(F.map (·.1)).Nodup) (hN2:(F.map (·.2)).Nodup) (hok:Zd6 md ops F F l0 true=true)
  (hRu:∀i v FF w w',R i v FF w→Upd No w w'→R i v FF w')
  (hop:∀p∈F,ZlE P ops Q w0 a0 F R p)
  (hrest:∀(xs:Nat→Value) (FF:Nat→Nat→Prop) (w:World),Upd No w0 w→(∀p∈F,R p.1 (xs p.1) (FF p.1) w∧∀k,FF p.1 k→w0.heap.size≤k∧k<w.heap.size)→(∀p∈F,∀q∈F,p.1≠q.1→∀k,FF p.1 k→FF q.1 k→False)→
   wpAnyH P md ops Q (fun W=>Upd No w0 W) f (fl l0 F fun _=>true) (ZbD a0 F xs) w):
  ∀(n:Nat) (D:Nat→Bool) (xs:Nat→Value) (FF:Nat→Nat→Prop) (w:World),pend F D=n→Upd No w0 w→
   (∀p∈F,D p.1=true→R p.1 (xs p.1) (FF p.1) w∧∀k,FF p.1 k→w0.heap.size≤k∧k<w.heap.size)→
   (∀p∈F,∀q∈F,D p.1=true→D q.1=true→p.1≠q.1→∀k,FF p.1 k→FF q.1 k→False)→
   wpAnyH P md ops Q (fun W=>Upd No w0 W) (f+n) (fl l0 F D) (ZbD a0 F xs) w
 |0,D,xs,FF,w,hp,hU,h1,h2=>by
  have hd:=Zjo hp
  have e:fl l0 F D=fl l0 F fun _=>true:=by
   refine Zhk _ _ fun p hp=> ?_
   have:p.1∈F.map (·.1):=by rw[←(Zej F).1];exact List.mem_map_of_mem hp
   obtain⟨q,hq,e⟩:=List.mem_map.1 this;rw[←e];exact hd q hq
  rw[e];exact hrest xs FF w hU (fun p hp=>h1 p hp (hd p hp)) (fun p hp q hq=>h2 p hp q hq (hd p hp) (hd q hq))
 |n+1,D,xs,FF,w,hp,hU,h1,h2=>by
  have hs:=ZeI F l0 true hok D (Or.inl (by omega));refine⟨fun e=>absurd e hs.1,fun i hi=> ?_⟩;obtain⟨p,hpF,rfl⟩:=hs.2 i hi
  have hDi:D p.1=false:=by
   cases e:D p.1
   ·rfl
   ·have:=Zmz F l0 D p hpF e;rw[(mem_ready.1 hi).1]at this
    cases this
  have hK0:Shut (∀v (FF':Nat→Prop) w',Upd No w w'→(∀k,FF' k→w.heap.size≤k∧k<w'.heap.size)→R p.1 v FF' w'→
    (fun a' w'=>Upd No w0 w'∧wpAnyH P md ops Q (fun W=>Upd No w0 W) (f+n) ((fl l0 F D).setIfInBounds p.1 true) a' w') ((ZbD a0 F xs).put (some p.2) v) w'):=by
   intro v FF' w' hu hF hR;refine⟨hU.trans hu,?_⟩;rw[ZsD hpF hN1,Zqk v hpF hN1 hN2];have hs0:w.heap.size≤w'.heap.size:=hu.size;have hs1:w0.heap.size≤w.heap.size:=hU.size;refine Zmy F R hN1 hN2 hok hRu hop hrest n _ _ (upx FF p.1 FF') w' ?_ (hU.trans hu) ?_ ?_
   ·have:=ZkL hpF hN1 hDi;omega
   ·intro q hq hD;unfold upx at hD ⊢
    by_cases e:q.1=p.1
    ·rw[if_pos e,if_pos e,e];exact⟨hR,fun k hk=>by have:=hF k hk;omega⟩
    ·rw[if_neg e]at hD;rw[if_neg e,if_neg e];have:=h1 q hq hD;exact⟨hRu _ _ _ _ _ this.1 hu,fun k hk=>by have:=this.2 k hk;omega⟩
   ·intro q hq r hr hDq hDr hne k hk1 hk2;unfold upx at hDq hDr hk1 hk2
    by_cases e:q.1=p.1
    ·rw[if_pos e]at hk1
     by_cases e':r.1=p.1
     ·exact hne (e.trans e'.symm)
     ·rw[if_neg e']at hDr hk2;have:=(h1 r hr hDr).2 k hk2;have:=hF k hk1;omega
    ·rw[if_neg e]at hDq hk1
     by_cases e':r.1=p.1
     ·rw[if_pos e']at hk2;have:=(h1 q hq hDq).2 k hk1;have:=hF k hk2;omega
     ·rw[if_neg e']at hDr hk2;exact h2 q hq r hr hDq hDr hne k hk1 hk2
  ·obtain⟨o,ho,hw⟩:=hop p hpF xs w hU (fun a' w'=>Upd No w0 w'∧wpAnyH P md ops Q (fun W=>Upd No w0 W) (f+n) ((fl l0 F D).setIfInBounds p.1 true) a' w') hK0;refine wpOp_step (ZhX ho) fun K' hK=> ?_
   split
   ·rename_i hwd
    rw[if_pos hwd]at hw;exact Oper.wp_mono hK hw
   ·rename_i hwd
    rw[if_neg hwd]at hw;exact hK _ _ hw
theorem ZjO {α:Type _}:∀(F:List (Nat×Nat)) (l:Array α) (xs:Nat→α),(∀p∈F,∀v,l[p.2]? =some v→xs p.1=v)→Za3 l F xs=l
 |[],_,_,_=>rfl
 |p::F,l,xs,h=>by
  unfold Za3
  have e:l.setIfInBounds p.2 (xs p.1)=l:=by
   apply Array.ext_getElem?
   intro i;rw[Array.getElem?_setIfInBounds]
   split
   ·rename_i e
    subst e
    split
    ·rename_i hl
     rw[h p (List.mem_cons_self ..) _ (Array.getElem?_eq_getElem hl),Array.getElem?_eq_getElem hl]
    ·rename_i hl
     rw[Array.getElem?_eq_none (by omega)]
   ·rfl
  rw[e];exact ZjO F l xs fun q hq=>h q (List.mem_cons_of_mem _ hq)
def lk:List (Nat×Nat)→Array Value→Nat→Value
 |[],_,_=>undef
 |p::F,l,i=>if i=p.1 then l[p.2]?.getD undef else lk F l i
theorem ZqT:∀{F:List (Nat×Nat)} (l:Array Value) {p:Nat×Nat},p∈F→(F.map (·.1)).Nodup→lk F l p.1=l[p.2]?.getD undef
 |[],_,_,h,_=>by cases h
 |q::F,l,p,h,hn=>by
  rw[List.map_cons,List.nodup_cons]at hn;unfold lk;rcases List.mem_cons.1 h with rfl|h
  ·exact if_pos rfl
  ·rw[if_neg fun e:p.1=q.1=>hn.1 (by rw[←e];exact List.mem_map_of_mem h)];exact ZqT l h hn.2
theorem ZoS (a:Act) {F:List (Nat×Nat)} (hn:(F.map (·.1)).Nodup):ZbD a F (lk F a.tmps)=a:=by
 unfold ZbD;rw[ZjO F a.tmps _ fun p hp v hv=>by rw[ZqT _ hp hn,hv];rfl]
theorem ZlI {w0:World} (F:List (Nat×Nat)) (R:Nat→Value→(Nat→Prop)→World→Prop) {l0:Array Bool} {a0:Act} {f n:Nat} {w:World}
  (hok:Zd6 md ops F F l0 true=true) (hop:FAll (ZlE P ops Q w0 a0 F R) F)
  (hRu:∀i v FF w w',R i v FF w→Upd No w w'→R i v FF w')
  (hrest:∀(xs:Nat→Value) (FF:Nat→Nat→Prop) (w:World),Upd No w0 w→(∀p∈F,R p.1 (xs p.1) (FF p.1) w∧∀k,FF p.1 k→w0.heap.size≤k∧k<w.heap.size)→(∀p∈F,∀q∈F,p.1≠q.1→∀k,FF p.1 k→FF q.1 k→False)→
   wpAnyH P md ops Q (fun W=>Upd No w0 W) f (fl l0 F fun _=>true) (ZbD a0 F xs) w)
  (hn:n=f+F.length) (hl:fl l0 F (fun _=>false)=l0) (hU:Upd No w0 w)
  (hN1:(F.map (·.1)).Nodup:=by decide) (hN2:(F.map (·.2)).Nodup:=by decide):
  wpAnyH P md ops Q (fun W=>Upd No w0 W) n l0 a0 w:=by
 subst hn;have h:=Zmy F R hN1 hN2 hok hRu (fun p hp=>hop.at_ p hp) hrest F.length (fun _=>false) (lk F a0.tmps) (fun _ _=>False) w (ZkN F) hU (fun _ _ h=>by cases h) (fun _ _ _ _ h=>by cases h);rw[ZoS a0 hN1,hl]at h;exact h
end
end
end Go.Proofs.YtonblekdfinpkaaGreat
