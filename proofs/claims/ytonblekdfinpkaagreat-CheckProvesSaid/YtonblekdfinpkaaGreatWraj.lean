/- Operations that come up in any order, each a step that makes blocks of its own alone: taken one by one, whatever the order. -/
import Derived.Test.YtonblekdfinpkaaGreatWrai
namespace Go.Proofs.YtonblekdfinpkaaGreat
set_option linter.unusedVariables false
set_option linter.unusedSimpArgs false
section
open Go.RowKit
def Zbe {α:Type _} (l:Array α):List (Nat×Nat)→(Nat→α)→Array α
 |[],_=>l
 |p::F,xs=>Zbe (l.setIfInBounds p.2 (xs p.1)) F xs
def ZbY (a:Act) (F:List (Nat×Nat)) (xs:Nat→Value):Act:={a with tmps:=Zbe a.tmps F xs}
def ZcM:List (Nat×Nat)→List (Nat×Nat)
 |[]=>[]
 |p::F=>(p.1,p.1)::ZcM F
def upx {α:Type _} (f:Nat→α) (i:Nat) (v:α):Nat→α:=fun j=>if j=i then v else f j
theorem ZhD {α:Type _}:∀(F:List (Nat×Nat)) (l:Array α) {xs ys:Nat→α},(∀p∈F,xs p.1=ys p.1)→Zbe l F xs=Zbe l F ys
 |[],_,_,_,_=>rfl
 |p::F,l,xs,ys,h=>by
  unfold Zbe;rw[h p (List.mem_cons_self ..)];exact ZhD F _ fun q hq=>h q (List.mem_cons_of_mem _ hq)
theorem Zj4 {α:Type _}:∀(F:List (Nat×Nat)) (l:Array α) (xs:Nat→α) (d:Nat) (v:α),(∀p∈F,p.2≠d)→(Zbe l F xs).setIfInBounds d v=Zbe (l.setIfInBounds d v) F xs
 |[],_,_,_,_,_=>rfl
 |p::F,l,xs,d,v,h=>by
  unfold Zbe;rw[Zj4 F _ xs d v fun q hq=>h q (List.mem_cons_of_mem _ hq),Array.setIfInBounds_comm _ _ (h p (List.mem_cons_self ..))]
theorem ZhC {α:Type _}:∀(F:List (Nat×Nat)) (l:Array α) (xs:Nat→α) (p:Nat×Nat) (v:α),p∈F→(F.map (·.1)).Nodup→(F.map (·.2)).Nodup→(Zbe l F xs).setIfInBounds p.2 v=Zbe l F (upx xs p.1 v)
 |[],_,_,_,_,h,_,_=>by cases h
 |q::F,l,xs,p,v,h,h1,h2=>by
  rw[List.map_cons,List.nodup_cons]at h1 h2;unfold Zbe
  by_cases e:p=q
  ·subst e;have e1:upx xs p.1 v p.1=v:=if_pos rfl;rw[e1,Zj4 F _ xs p.2 v fun r hr e=>h2.1 (by rw[←e];exact List.mem_map_of_mem hr),Array.setIfInBounds_setIfInBounds];exact ZhD F _ fun r hr=>(if_neg fun e:r.1=p.1=>h1.1 (by rw[←e];exact List.mem_map_of_mem hr)).symm
  ·have hm:p∈F:=(List.mem_cons.1 h).resolve_left e;have e1:upx xs p.1 v q.1=xs q.1:=if_neg fun e:q.1=p.1=>h1.1 (by rw[e];exact List.mem_map_of_mem hm)
   rw[e1];exact ZhC F _ xs p v hm h1.2 h2.2
theorem Zq3 {a:Act} {F:List (Nat×Nat)} {xs:Nat→Value} {p:Nat×Nat} (v:Value) (h:p∈F) (h1:(F.map (·.1)).Nodup) (h2:(F.map (·.2)).Nodup):(ZbY a F xs).put (some p.2) v=ZbY a F (upx xs p.1 v):=by
 unfold ZbY;rw[←ZhC F a.tmps xs p v h h1 h2];rfl
theorem ZjN:∀{F:List (Nat×Nat)} {p:Nat×Nat},p∈F→(p.1,p.1)∈ZcM F
 |[],_,h=>by cases h
 |q::F,p,h=>by
  unfold ZcM;rcases List.mem_cons.1 h with rfl|h
  ·exact List.mem_cons_self ..
  ·exact List.mem_cons_of_mem _ (ZjN h)
theorem ZeH:∀F:List (Nat×Nat),(ZcM F).map (·.1)=F.map (·.1)∧(ZcM F).map (·.2)=F.map (·.1)
 |[]=>⟨rfl,rfl⟩
 |p::F=>by unfold ZcM;simp[ZeH F]
def fl (l:Array Bool) (F:List (Nat×Nat)) (D:Nat→Bool):Array Bool:=Zbe l (ZcM F) D
theorem ZtE {l:Array Bool} {F:List (Nat×Nat)} {D:Nat→Bool} {p:Nat×Nat} (h:p∈F) (h1:(F.map (·.1)).Nodup):(fl l F D).setIfInBounds p.1 true=fl l F (upx D p.1 true):=
 ZhC (ZcM F) l D (p.1,p.1) true (ZjN h) (by rw[(ZeH F).1];exact h1) (by rw[(ZeH F).2];exact h1)
theorem Zj2:∀(F:List (Nat×Nat)) (l:Array Bool) (D:Nat→Bool) (i:Nat),D i=true→l.getD i true=true→(Zbe l (ZcM F) D).getD i true=true
 |[],_,_,_,_,h=>h
 |p::F,l,D,i,hD,h=>by
  unfold ZcM Zbe;refine Zj2 F _ D i hD ?_;simp only[Array.getD_eq_getD_getElem?]at h ⊢;rw[Array.getElem?_setIfInBounds]
  split
  ·rename_i e
   subst e
   split<;>simp[hD]
  ·exact h
theorem ZmW:∀(F:List (Nat×Nat)) (l:Array Bool) (D:Nat→Bool) (p:Nat×Nat),p∈F→D p.1=true→(fl l F D).getD p.1 true=true
 |[],_,_,_,h,_=>by cases h
 |q::F,l,D,p,h,hD=>by
  unfold fl ZcM Zbe
  by_cases e:p.1=q.1
  ·refine Zj2 F _ D p.1 hD ?_;rw[e]at hD ⊢;simp only[Array.getD_eq_getD_getElem?];rw[Array.getElem?_setIfInBounds,if_pos rfl]
   split<;>simp[hD]
  ·exact ZmW F _ D p ((List.mem_cons.1 h).resolve_left fun e'=>e (by rw[e'])) hD
def pend:List (Nat×Nat)→(Nat→Bool)→Nat
 |[],_=>0
 |p::F,D=>(if D p.1 then 0 else 1)+pend F D
theorem ZjG:∀{F:List (Nat×Nat)} {D:Nat→Bool},pend F D=0→∀p∈F,D p.1=true
 |[],_,_,_,h=>by cases h
 |q::F,D,h,p,hp=>by
  unfold pend at h;rcases List.mem_cons.1 hp with rfl|hp
  ·cases e:D p.1
   ·rw[e]at h;simp at h
   ·rfl
  ·exact ZjG (F:=F) (by omega) p hp
theorem Zk3:∀(F:List (Nat×Nat)) {D E:Nat→Bool},(∀p∈F,D p.1=E p.1)→pend F D=pend F E
 |[],_,_,_=>rfl
 |q::F,D,E,h=>by
  unfold pend;rw[h q (List.mem_cons_self ..),Zk3 F fun p hp=>h p (List.mem_cons_of_mem _ hp)]
theorem Zk2:∀{F:List (Nat×Nat)} {D:Nat→Bool} {p:Nat×Nat},p∈F→(F.map (·.1)).Nodup→D p.1=false→pend F (upx D p.1 true)+1=pend F D
 |[],_,_,h,_,_=>by cases h
 |q::F,D,p,h,h1,hD=>by
  rw[List.map_cons,List.nodup_cons]at h1;unfold pend
  by_cases e:p.1=q.1
  ·have e1:upx D p.1 true q.1=true:=if_pos e.symm;rw[e1,←e,hD,Zk3 F (E:=D) fun r hr=>if_neg fun e':r.1=p.1=>h1.1 (by rw[←e,←e'];exact List.mem_map_of_mem hr)];simp;omega
  ·have e1:upx D p.1 true q.1=D q.1:=if_neg fun e'=>e e'.symm
   have:=Zk2 (F:=F) (D:=D) ((List.mem_cons.1 h).resolve_left fun e'=>e (by rw[e'])) h1.2 hD;rw[e1];omega
theorem Zk4:∀F:List (Nat×Nat),pend F (fun _=>false)=F.length
 |[]=>rfl
 |p::F=>by
  unfold pend;rw[Zk4 F,List.length_cons];simp;omega
section
variable {P:Program} {ops:Array Oper} {Q:Exit→Act→World→Prop} {md:Region.Mode}
def Zev (md:Region.Mode) (ops:Array Oper) (F0:List (Nat×Nat)):List (Nat×Nat)→Array Bool→Bool→Bool
 |[],l,done=>done||(!(Region.ready md ops l).isEmpty&&(Region.ready md ops l).all fun i=>F0.any fun p=>p.1==i)
 |p::F,l,done=>Zev md ops F0 F (l.setIfInBounds p.1 false) false&&Zev md ops F0 F (l.setIfInBounds p.1 true) done
theorem Ze4 {F0:List (Nat×Nat)}:∀(F:List (Nat×Nat)) (l:Array Bool) (done:Bool),Zev md ops F0 F l done=true→∀D:Nat→Bool,pend F D≠0∨done=false→
  Region.ready md ops (fl l F D)≠[]∧∀i∈Region.ready md ops (fl l F D),∃p∈F0,p.1=i
 |[],l,done,h,D,hp=>by
  have hd:done=false:=hp.resolve_left fun e=>e rfl
  unfold Zev at h;rw[hd,Bool.false_or,Bool.and_eq_true]at h
  show Region.ready md ops l≠[]∧∀i∈Region.ready md ops l,∃p∈F0,p.1=i
  refine⟨fun e=>by rw[e]at h;simp at h,fun i hi=> ?_⟩;have:=List.all_eq_true.1 h.2 i hi;obtain⟨p,hp,he⟩:=List.any_eq_true.1 this;exact⟨p,hp,by simpa using he⟩
 |q::F,l,done,h,D,hp=>by
  unfold Zev at h;rw[Bool.and_eq_true]at h;unfold pend at hp
  show Region.ready md ops (fl (l.setIfInBounds q.1 (D q.1)) F D)≠[]∧∀i∈Region.ready md ops (fl (l.setIfInBounds q.1 (D q.1)) F D),∃p∈F0,p.1=i
  cases e:D q.1
  ·exact Ze4 F _ _ h.1 D (Or.inr rfl)
  ·refine Ze4 F _ _ h.2 D ?_;rw[e]at hp
   simpa using hp
def FAll (Pr:Nat×Nat→Prop):List (Nat×Nat)→Prop
 |[]=>True
 |p::F=>Pr p∧FAll Pr F
theorem FAll.at_ {Pr:Nat×Nat→Prop}:∀{F:List (Nat×Nat)},FAll Pr F→∀p∈F,Pr p
 |[],_,_,h=>by cases h
 |q::F,h,p,hp=>by
  rcases List.mem_cons.1 hp with rfl|hp
  ·exact h.1
  ·exact FAll.at_ h.2 p hp
def Zl1 (P:Program) (ops:Array Oper) (Q:Exit→Act→World→Prop) (w0:World) (a0:Act) (F:List (Nat×Nat)) (R:Nat→Value→(Nat→Prop)→World→Prop) (p:Nat×Nat):Prop:=
 ∀(xs:Nat→Value) (w:World),Upd No w0 w→∀K:Act→World→Prop,Shut (∀v FF w',Upd No w w'→(∀k,FF k→w.heap.size≤k∧k<w'.heap.size)→R p.1 v FF w'→K ((ZbY a0 F xs).put (some p.2) v) w')→
  ∃o,nth ops.toList p.1=some o∧if Region.wanted o (yielded ops (ZbY a0 F xs).tmps)=true then Oper.wp P o (ZbY a0 F xs) w K Q else K ((ZbY a0 F xs).put o.dst undef) w
theorem ZmV {w0:World} (F:List (Nat×Nat)) (R:Nat→Value→(Nat→Prop)→World→Prop) {l0:Array Bool} {a0:Act} {f:Nat}
  (hN1:(F.map (·.1)).Nodup) (hN2:(F.map (·.2)).Nodup) (hok:Zev md ops F F l0 true=true)
  (hRu:∀i v FF w w',R i v FF w→Upd No w w'→R i v FF w')
  (hop:∀p∈F,Zl1 P ops Q w0 a0 F R p)
  (hrest:∀(xs:Nat→Value) (FF:Nat→Nat→Prop) (w:World),Upd No w0 w→(∀p∈F,R p.1 (xs p.1) (FF p.1) w∧∀k,FF p.1 k→w0.heap.size≤k∧k<w.heap.size)→(∀p∈F,∀q∈F,p.1≠q.1→∀k,FF p.1 k→FF q.1 k→False)→
   wpAnyH P md ops Q (fun W=>Upd No w0 W) f (fl l0 F fun _=>true) (ZbY a0 F xs) w):
  ∀(n:Nat) (D:Nat→Bool) (xs:Nat→Value) (FF:Nat→Nat→Prop) (w:World),pend F D=n→Upd No w0 w→
   (∀p∈F,D p.1=true→R p.1 (xs p.1) (FF p.1) w∧∀k,FF p.1 k→w0.heap.size≤k∧k<w.heap.size)→
   (∀p∈F,∀q∈F,D p.1=true→D q.1=true→p.1≠q.1→∀k,FF p.1 k→FF q.1 k→False)→
   wpAnyH P md ops Q (fun W=>Upd No w0 W) (f+n) (fl l0 F D) (ZbY a0 F xs) w
 |0,D,xs,FF,w,hp,hU,h1,h2=>by
  have hd:=ZjG hp
  have e:fl l0 F D=fl l0 F fun _=>true:=by
   refine ZhD _ _ fun p hp=> ?_
   have:p.1∈F.map (·.1):=by rw[←(ZeH F).1];exact List.mem_map_of_mem hp
   obtain⟨q,hq,e⟩:=List.mem_map.1 this;rw[←e];exact hd q hq
  rw[e];exact hrest xs FF w hU (fun p hp=>h1 p hp (hd p hp)) (fun p hp q hq=>h2 p hp q hq (hd p hp) (hd q hq))
 |n+1,D,xs,FF,w,hp,hU,h1,h2=>by
  have hs:=Ze4 F l0 true hok D (Or.inl (by omega));refine⟨fun e=>absurd e hs.1,fun i hi=> ?_⟩;obtain⟨p,hpF,rfl⟩:=hs.2 i hi
  have hDi:D p.1=false:=by
   cases e:D p.1
   ·rfl
   ·have:=ZmW F l0 D p hpF e;rw[(mem_ready.1 hi).1]at this
    cases this
  have hK0:Shut (∀v (FF':Nat→Prop) w',Upd No w w'→(∀k,FF' k→w.heap.size≤k∧k<w'.heap.size)→R p.1 v FF' w'→
    (fun a' w'=>Upd No w0 w'∧wpAnyH P md ops Q (fun W=>Upd No w0 W) (f+n) ((fl l0 F D).setIfInBounds p.1 true) a' w') ((ZbY a0 F xs).put (some p.2) v) w'):=by
   intro v FF' w' hu hF hR;refine⟨hU.trans hu,?_⟩;rw[ZtE hpF hN1,Zq3 v hpF hN1 hN2];have hs0:w.heap.size≤w'.heap.size:=hu.size;have hs1:w0.heap.size≤w.heap.size:=hU.size;refine ZmV F R hN1 hN2 hok hRu hop hrest n _ _ (upx FF p.1 FF') w' ?_ (hU.trans hu) ?_ ?_
   ·have:=Zk2 hpF hN1 hDi;omega
   ·intro q hq hD;unfold upx at hD ⊢
    by_cases e:q.1=p.1
    ·rw[if_pos e,if_pos e,e];exact⟨hR,fun k hk=>by have:=hF k hk;omega⟩
    ·rw[if_neg e]at hD;rw[if_neg e,if_neg e];have:=h1 q hq hD;exact⟨hRu _ _ _ _ _ this.1 hu,fun k hk=>by have:=this.2 k hk;omega⟩
   ·intro q hq r hr hDq hDr hne k hk1 hk2;unfold upx at hDq hDr hk1 hk2
    by_cases e:q.1=p.1
    ·rw[if_pos e]at hk1
     by_cases e':r.1=p.1
     ·exact hne (e.trans e'.symm)
     ·rw[if_neg e']at hDr hk2;have:=(h1 r hr hDr).2 k hk2;have:=hF k hk1;omega
    ·rw[if_neg e]at hDq hk1
     by_cases e':r.1=p.1
     ·rw[if_pos e']at hk2;have:=(h1 q hq hDq).2 k hk1;have:=hF k hk2;omega
     ·rw[if_neg e']at hDr hk2;exact h2 q hq r hr hDq hDr hne k hk1 hk2
  ·obtain⟨o,ho,hw⟩:=hop p hpF xs w hU (fun a' w'=>Upd No w0 w'∧wpAnyH P md ops Q (fun W=>Upd No w0 W) (f+n) ((fl l0 F D).setIfInBounds p.1 true) a' w') hK0;refine wpOp_step (Zf9 ho) fun K' hK=> ?_
   split
   ·rename_i hwd
    rw[if_pos hwd]at hw;exact Oper.wp_mono hK hw
   ·rename_i hwd
    rw[if_neg hwd]at hw;exact hK _ _ hw
theorem Zj3 {α:Type _}:∀(F:List (Nat×Nat)) (l:Array α) (xs:Nat→α),(∀p∈F,∀v,l[p.2]? =some v→xs p.1=v)→Zbe l F xs=l
 |[],_,_,_=>rfl
 |p::F,l,xs,h=>by
  unfold Zbe
  have e:l.setIfInBounds p.2 (xs p.1)=l:=by
   apply Array.ext_getElem?
   intro i;rw[Array.getElem?_setIfInBounds]
   split
   ·rename_i e
    subst e
    split
    ·rename_i hl
     rw[h p (List.mem_cons_self ..) _ (Array.getElem?_eq_getElem hl),Array.getElem?_eq_getElem hl]
    ·rename_i hl
     rw[Array.getElem?_eq_none (by omega)]
   ·rfl
  rw[e];exact Zj3 F l xs fun q hq=>h q (List.mem_cons_of_mem _ hq)
def lk:List (Nat×Nat)→Array Value→Nat→Value
 |[],_,_=>undef
 |p::F,l,i=>if i=p.1 then l[p.2]?.getD undef else lk F l i
theorem ZrG:∀{F:List (Nat×Nat)} (l:Array Value) {p:Nat×Nat},p∈F→(F.map (·.1)).Nodup→lk F l p.1=l[p.2]?.getD undef
 |[],_,_,h,_=>by cases h
 |q::F,l,p,h,hn=>by
  rw[List.map_cons,List.nodup_cons]at hn;unfold lk;rcases List.mem_cons.1 h with rfl|h
  ·exact if_pos rfl
  ·rw[if_neg fun e:p.1=q.1=>hn.1 (by rw[←e];exact List.mem_map_of_mem h)];exact ZrG l h hn.2
theorem Zps (a:Act) {F:List (Nat×Nat)} (hn:(F.map (·.1)).Nodup):ZbY a F (lk F a.tmps)=a:=by
 unfold ZbY;rw[Zj3 F a.tmps _ fun p hp v hv=>by rw[ZrG _ hp hn,hv];rfl]
theorem Zl3 {w0:World} (F:List (Nat×Nat)) (R:Nat→Value→(Nat→Prop)→World→Prop) {l0:Array Bool} {a0:Act} {f n:Nat} {w:World}
  (hok:Zev md ops F F l0 true=true) (hop:FAll (Zl1 P ops Q w0 a0 F R) F)
  (hRu:∀i v FF w w',R i v FF w→Upd No w w'→R i v FF w')
  (hrest:∀(xs:Nat→Value) (FF:Nat→Nat→Prop) (w:World),Upd No w0 w→(∀p∈F,R p.1 (xs p.1) (FF p.1) w∧∀k,FF p.1 k→w0.heap.size≤k∧k<w.heap.size)→(∀p∈F,∀q∈F,p.1≠q.1→∀k,FF p.1 k→FF q.1 k→False)→
   wpAnyH P md ops Q (fun W=>Upd No w0 W) f (fl l0 F fun _=>true) (ZbY a0 F xs) w)
  (hn:n=f+F.length) (hl:fl l0 F (fun _=>false)=l0) (hU:Upd No w0 w)
  (hN1:(F.map (·.1)).Nodup:=by decide) (hN2:(F.map (·.2)).Nodup:=by decide):
  wpAnyH P md ops Q (fun W=>Upd No w0 W) n l0 a0 w:=by
 subst hn;have h:=ZmV F R hN1 hN2 hok hRu (fun p hp=>hop.at_ p hp) hrest F.length (fun _=>false) (lk F a0.tmps) (fun _ _=>False) w (Zk4 F) hU (fun _ _ h=>by cases h) (fun _ _ _ _ h=>by cases h);rw[Zps a0 hN1,hl]at h;exact h
end
end
end Go.Proofs.YtonblekdfinpkaaGreat
