/- Components of a digraph, plain: what stays true of the search, with its bounds. -/
import Derived.Test.YtonblekdfinpkaaGreatSxaf
namespace Go.Proofs.YtonblekdfinpkaaGreat
set_option linter.unusedVariables false
set_option linter.unusedSimpArgs false
section
def Zby (when:Nat→Nat):Nat→Nat
 |0=>0
 |n+1=>Zby when n+if when n=0 then 1 else 0
theorem Zek (when:Nat→Nat) (x v:Nat) (hx:when x=0) (hv:v≠0):∀n,Zby (upd when x v) n+(if x<n then 1 else 0)=Zby when n
 |0=>by simp[Zby]
 |n+1=>by
  have ih:=Zek when x v hx hv n
  show Zby (upd when x v) n+(if upd when x v n=0 then 1 else 0)+(if x<n+1 then 1 else 0)=Zby when n+if when n=0 then 1 else 0
  by_cases e:n=x
  ·subst e;have e1:(if n<n+1 then 1 else 0)=1:=if_pos (by omega);have e2:(if n<n then 1 else 0)=0:=if_neg (by omega);rw[Zu,if_neg hv,if_pos hx,e1];rw[e2]at ih;omega
  ·rw[Z2 _ _ e]
   have e1:(if x<n+1 then 1 else 0)=if x<n then 1 else 0:=by
    by_cases h:x<n
    ·rw[if_pos h,if_pos (by omega)]
    ·rw[if_neg h,if_neg (by omega)]
   rw[e1];omega
theorem Zi7 (n:Nat):Zby (fun _=>0) n=n:=by
 induction n with
 |zero=>rfl
 |succ n ih=>unfold Zby;rw[ih];simp
theorem ZbQ:∀(l m:List Nat),l.Nodup→(∀x∈l,x∈m)→l.length≤m.length
 |[],_,_,_=>Nat.zero_le _
 |x::l,m,hn,hs=>by
  obtain⟨h1,h2⟩:=List.nodup_cons.1 hn;have hx:=hs x (List.mem_cons_self ..);have:=ZbQ l (m.erase x) h2 fun y hy=>(List.mem_erase_of_ne (fun e:y=x=>h1 (by rw[←e];exact hy))).2 (hs y (List.mem_cons_of_mem _ hy))
  rw[List.length_erase_of_mem hx]at this;have:=List.length_pos_of_mem hx;rw[List.length_cons];omega
structure FInv (nx:Nat→List Nat) (N:Nat) (s:TS):Prop where
 inv:TInv nx s
 lt:∀y∈s.wait,y<N
 clk:s.clock+Zby s.when N=N
section
variable {nx:Nat→List Nat} {N:Nat} {s:TS}
theorem FInv.nodup (h:FInv nx N s):s.wait.Nodup:=by
 rw[List.nodup_iff_pairwise_ne];exact h.inv.ord.imp fun hab e=>by rw[e]at hab;exact Nat.lt_irrefl _ hab
theorem FInv.room (h:FInv nx N s) {x:Nat} (hx:s.when x=0) (hN:x<N):s.wait.length<N∧x∉s.wait∧s.clock<N:=by
 have hxw:x∉s.wait:=fun hm=>by have:=h.inv.met x hm;omega
 refine⟨?_,hxw,?_⟩
 ·have:=(List.nodup_cons.2 ⟨hxw,h.nodup⟩)
  have hs:∀y∈x::s.wait,y∈List.range N:=fun y hy=>by
   rw[List.mem_range];rcases List.mem_cons.1 hy with rfl|hy
   ·exact hN
   ·exact h.lt y hy
  have h2:=ZbQ _ _ this hs;rw[List.length_range,List.length_cons]at h2;omega
 ·have:=Zek s.when x 1 hx (by omega) N;rw[if_pos hN]at this;have:=h.clk;omega
theorem FInv.len (h:FInv nx N s):s.wait.length≤N:=by
 have h2:=ZbQ s.wait (List.range N) h.nodup fun y hy=>List.mem_range.2 (h.lt y hy)
 rwa [List.length_range]at h2
theorem ZjK (hc:s.clock+Zby s.when N=N) {x:Nat} (hx:s.when x=0) (hN:x<N):(s.meet nx x).clock+Zby (s.meet nx x).when N=N:=by
 have:=Zek s.when x (s.clock+1) hx (by omega) N;rw[if_pos hN]at this;unfold TS.meet;simp only;omega
theorem FInv.first (h:FInv nx N s) (hw:s.way=[]) {x:Nat} (hx:s.when x=0) (hN:x<N):FInv nx N (s.meet nx x):=
 ⟨h.inv.first hw hx (h.inv.none_waits hw),fun y hy=>by
  rcases List.mem_cons.1 hy with rfl|hy
  ·exact hN
  ·exact h.lt y hy,ZjK h.clk hx hN⟩
end
section
variable {nx:Nat→List Nat} {N v x p:Nat} {l:List Nat} {way:List (Nat×List Nat)} {when low out out':Nat→Nat} {wait top rest:List Nat} {clock m:Nat}
theorem FInv.push (h:FInv nx N ⟨(v,x::l)::way,when,low,wait,clock,out⟩) (hx:when x=0) (hN:x<N):FInv nx N (TS.meet ⟨(v,l)::way,when,low,wait,clock,out⟩ nx x):=
 ⟨h.inv.push hx,fun y hy=>by
  rcases List.mem_cons.1 hy with rfl|hy
  ·exact hN
  ·exact h.lt y hy,ZjK (s:=⟨(v,l)::way,when,low,wait,clock,out⟩) h.clk hx hN⟩
theorem FInv.back (h:FInv nx N ⟨(v,x::l)::way,when,low,wait,clock,out⟩) (hx:x∈wait):FInv nx N ⟨(v,l)::way,when,upd low v (min (low v) (when x)),wait,clock,out⟩:=⟨h.inv.back hx,h.lt,h.clk⟩
theorem FInv.skip (h:FInv nx N ⟨(v,x::l)::way,when,low,wait,clock,out⟩) (hm:1≤when x) (hx:x∉wait):FInv nx N ⟨(v,l)::way,when,low,wait,clock,out⟩:=⟨h.inv.skip hm hx,h.lt,h.clk⟩
theorem FInv.pop (h:FInv nx N ⟨(v,[])::(p,l)::way,when,low,wait,clock,out⟩) (hl:low v≠when v):FInv nx N ⟨(p,l)::way,when,upd low p (min (low p) (low v)),wait,clock,out⟩:=⟨h.inv.pop hl,h.lt,h.clk⟩
theorem FInv.root (h:FInv nx N ⟨(v,[])::way,when,low,top++v::rest,clock,out⟩) (hl:low v=when v) (ho:∀x,out' x=if x∈top++[v] then m else out x) (hm1:m∈top++[v]) (hm2:∀x∈top++[v],m≤x):FInv nx N ⟨way,when,low,rest,clock,out'⟩:=
 ⟨h.inv.root hl ho hm1 hm2,fun y hy=>h.lt y (List.mem_append_right _ (List.mem_cons_of_mem _ hy)),h.clk⟩
theorem FInv.split (h:FInv nx N ⟨(v,l)::way,when,low,wait,clock,out⟩):∃top rest,wait=top++v::rest∧v∉top:=by
 obtain⟨top,rest,e⟩:=List.append_of_mem (h.inv.on (v,l) (List.mem_cons_self ..));refine⟨top,rest,e,fun hm=> ?_⟩;have hn:=h.nodup;simp only at e hn;rw[e]at hn;exact(List.nodup_append.1 hn).2.2 v hm v (by simp) rfl
end
end
/- Operations that come up in any order,each a step that makes blocks of its own alone:taken one by one,whatever the order. -/
section
open Go.RowKit
def ZaF {α:Type _} (l:Array α):List (Nat×Nat)→(Nat→α)→Array α
 |[],_=>l
 |p::F,xs=>ZaF (l.setIfInBounds p.2 (xs p.1)) F xs
def Zbm (a:Act) (F:List (Nat×Nat)) (xs:Nat→Value):Act:={a with tmps:=ZaF a.tmps F xs}
def Zb1:List (Nat×Nat)→List (Nat×Nat)
 |[]=>[]
 |p::F=>(p.1,p.1)::Zb1 F
def upx {α:Type _} (f:Nat→α) (i:Nat) (v:α):Nat→α:=fun j=>if j=i then v else f j
theorem Zgs {α:Type _}:∀(F:List (Nat×Nat)) (l:Array α) {xs ys:Nat→α},(∀p∈F,xs p.1=ys p.1)→ZaF l F xs=ZaF l F ys
 |[],_,_,_,_=>rfl
 |p::F,l,xs,ys,h=>by
  unfold ZaF;rw[h p (List.mem_cons_self ..)];exact Zgs F _ fun q hq=>h q (List.mem_cons_of_mem _ hq)
theorem Zix {α:Type _}:∀(F:List (Nat×Nat)) (l:Array α) (xs:Nat→α) (d:Nat) (v:α),(∀p∈F,p.2≠d)→(ZaF l F xs).setIfInBounds d v=ZaF (l.setIfInBounds d v) F xs
 |[],_,_,_,_,_=>rfl
 |p::F,l,xs,d,v,h=>by
  unfold ZaF;rw[Zix F _ xs d v fun q hq=>h q (List.mem_cons_of_mem _ hq),Array.setIfInBounds_comm _ _ (h p (List.mem_cons_self ..))]
theorem Zgr {α:Type _}:∀(F:List (Nat×Nat)) (l:Array α) (xs:Nat→α) (p:Nat×Nat) (v:α),p∈F→(F.map (·.1)).Nodup→(F.map (·.2)).Nodup→(ZaF l F xs).setIfInBounds p.2 v=ZaF l F (upx xs p.1 v)
 |[],_,_,_,_,h,_,_=>by cases h
 |q::F,l,xs,p,v,h,h1,h2=>by
  rw[List.map_cons,List.nodup_cons]at h1 h2;unfold ZaF
  by_cases e:p=q
  ·subst e;have e1:upx xs p.1 v p.1=v:=if_pos rfl;rw[e1,Zix F _ xs p.2 v fun r hr e=>h2.1 (by rw[←e];exact List.mem_map_of_mem hr),Array.setIfInBounds_setIfInBounds];exact Zgs F _ fun r hr=>(if_neg fun e:r.1=p.1=>h1.1 (by rw[←e];exact List.mem_map_of_mem hr)).symm
  ·have hm:p∈F:=(List.mem_cons.1 h).resolve_left e;have e1:upx xs p.1 v q.1=xs q.1:=if_neg fun e:q.1=p.1=>h1.1 (by rw[e];exact List.mem_map_of_mem hm)
   rw[e1];exact Zgr F _ xs p v hm h1.2 h2.2
theorem ZoZ {a:Act} {F:List (Nat×Nat)} {xs:Nat→Value} {p:Nat×Nat} (v:Value) (h:p∈F) (h1:(F.map (·.1)).Nodup) (h2:(F.map (·.2)).Nodup):(Zbm a F xs).put (some p.2) v=Zbm a F (upx xs p.1 v):=by
 unfold Zbm;rw[←Zgr F a.tmps xs p v h h1 h2];rfl
theorem Zik:∀{F:List (Nat×Nat)} {p:Nat×Nat},p∈F→(p.1,p.1)∈Zb1 F
 |[],_,h=>by cases h
 |q::F,p,h=>by
  unfold Zb1;rcases List.mem_cons.1 h with rfl|h
  ·exact List.mem_cons_self ..
  ·exact List.mem_cons_of_mem _ (Zik h)
theorem ZdH:∀F:List (Nat×Nat),(Zb1 F).map (·.1)=F.map (·.1)∧(Zb1 F).map (·.2)=F.map (·.1)
 |[]=>⟨rfl,rfl⟩
 |p::F=>by unfold Zb1;simp[ZdH F]
def fl (l:Array Bool) (F:List (Nat×Nat)) (D:Nat→Bool):Array Bool:=ZaF l (Zb1 F) D
theorem Zru {l:Array Bool} {F:List (Nat×Nat)} {D:Nat→Bool} {p:Nat×Nat} (h:p∈F) (h1:(F.map (·.1)).Nodup):(fl l F D).setIfInBounds p.1 true=fl l F (upx D p.1 true):=
 Zgr (Zb1 F) l D (p.1,p.1) true (Zik h) (by rw[(ZdH F).1];exact h1) (by rw[(ZdH F).2];exact h1)
theorem Ziv:∀(F:List (Nat×Nat)) (l:Array Bool) (D:Nat→Bool) (i:Nat),D i=true→l.getD i true=true→(ZaF l (Zb1 F) D).getD i true=true
 |[],_,_,_,_,h=>h
 |p::F,l,D,i,hD,h=>by
  unfold Zb1 ZaF;refine Ziv F _ D i hD ?_;simp only[Array.getD_eq_getD_getElem?]at h ⊢;rw[Array.getElem?_setIfInBounds]
  split
  ·rename_i e
   subst e
   split<;>simp[hD]
  ·exact h
theorem Zk9:∀(F:List (Nat×Nat)) (l:Array Bool) (D:Nat→Bool) (p:Nat×Nat),p∈F→D p.1=true→(fl l F D).getD p.1 true=true
 |[],_,_,_,h,_=>by cases h
 |q::F,l,D,p,h,hD=>by
  unfold fl Zb1 ZaF
  by_cases e:p.1=q.1
  ·refine Ziv F _ D p.1 hD ?_;rw[e]at hD ⊢;simp only[Array.getD_eq_getD_getElem?];rw[Array.getElem?_setIfInBounds,if_pos rfl]
   split<;>simp[hD]
  ·exact Zk9 F _ D p ((List.mem_cons.1 h).resolve_left fun e'=>e (by rw[e'])) hD
def Zbt:List (Nat×Nat)→(Nat→Bool)→Nat
 |[],_=>0
 |p::F,D=>(if D p.1 then 0 else 1)+Zbt F D
theorem Zie:∀{F:List (Nat×Nat)} {D:Nat→Bool},Zbt F D=0→∀p∈F,D p.1=true
 |[],_,_,_,h=>by cases h
 |q::F,D,h,p,hp=>by
  unfold Zbt at h;rcases List.mem_cons.1 hp with rfl|hp
  ·cases e:D p.1
   ·rw[e]at h;simp at h
   ·rfl
  ·exact Zie (F:=F) (by omega) p hp
theorem Zjw:∀(F:List (Nat×Nat)) {D E:Nat→Bool},(∀p∈F,D p.1=E p.1)→Zbt F D=Zbt F E
 |[],_,_,_=>rfl
 |q::F,D,E,h=>by
  unfold Zbt;rw[h q (List.mem_cons_self ..),Zjw F fun p hp=>h p (List.mem_cons_of_mem _ hp)]
theorem Zjv:∀{F:List (Nat×Nat)} {D:Nat→Bool} {p:Nat×Nat},p∈F→(F.map (·.1)).Nodup→D p.1=false→Zbt F (upx D p.1 true)+1=Zbt F D
 |[],_,_,h,_,_=>by cases h
 |q::F,D,p,h,h1,hD=>by
  rw[List.map_cons,List.nodup_cons]at h1;unfold Zbt
  by_cases e:p.1=q.1
  ·have e1:upx D p.1 true q.1=true:=if_pos e.symm;rw[e1,←e,hD,Zjw F (E:=D) fun r hr=>if_neg fun e':r.1=p.1=>h1.1 (by rw[←e,←e'];exact List.mem_map_of_mem hr)];simp;omega
  ·have e1:upx D p.1 true q.1=D q.1:=if_neg fun e'=>e e'.symm
   have:=Zjv (F:=F) (D:=D) ((List.mem_cons.1 h).resolve_left fun e'=>e (by rw[e'])) h1.2 hD;rw[e1];omega
theorem Zjx:∀F:List (Nat×Nat),Zbt F (fun _=>false)=F.length
 |[]=>rfl
 |p::F=>by
  unfold Zbt;rw[Zjx F,List.length_cons];simp;omega
section
variable {P:Program} {ops:Array Oper} {Q:Exit→Act→World→Prop} {md:Region.Mode}
def ZdB (md:Region.Mode) (ops:Array Oper) (F0:List (Nat×Nat)):List (Nat×Nat)→Array Bool→Bool→Bool
 |[],l,done=>done||(!(Region.ready md ops l).isEmpty&&(Region.ready md ops l).all fun i=>F0.any fun p=>p.1==i)
 |p::F,l,done=>ZdB md ops F0 F (l.setIfInBounds p.1 false) false&&ZdB md ops F0 F (l.setIfInBounds p.1 true) done
theorem Zd3 {F0:List (Nat×Nat)}:∀(F:List (Nat×Nat)) (l:Array Bool) (done:Bool),ZdB md ops F0 F l done=true→∀D:Nat→Bool,Zbt F D≠0∨done=false→
  Region.ready md ops (fl l F D)≠[]∧∀i∈Region.ready md ops (fl l F D),∃p∈F0,p.1=i
 |[],l,done,h,D,hp=>by
  have hd:done=false:=hp.resolve_left fun e=>e rfl
  unfold ZdB at h;rw[hd,Bool.false_or,Bool.and_eq_true]at h
  show Region.ready md ops l≠[]∧∀i∈Region.ready md ops l,∃p∈F0,p.1=i
  refine⟨fun e=>by rw[e]at h;simp at h,fun i hi=> ?_⟩;have:=List.all_eq_true.1 h.2 i hi;obtain⟨p,hp,he⟩:=List.any_eq_true.1 this;exact⟨p,hp,by simpa using he⟩
 |q::F,l,done,h,D,hp=>by
  unfold ZdB at h;rw[Bool.and_eq_true]at h;unfold Zbt at hp
  show Region.ready md ops (fl (l.setIfInBounds q.1 (D q.1)) F D)≠[]∧∀i∈Region.ready md ops (fl (l.setIfInBounds q.1 (D q.1)) F D),∃p∈F0,p.1=i
  cases e:D q.1
  ·exact Zd3 F _ _ h.1 D (Or.inr rfl)
  ·refine Zd3 F _ _ h.2 D ?_;rw[e]at hp
   simpa using hp
def FAll (Pr:Nat×Nat→Prop):List (Nat×Nat)→Prop
 |[]=>True
 |p::F=>Pr p∧FAll Pr F
theorem FAll.at_ {Pr:Nat×Nat→Prop}:∀{F:List (Nat×Nat)},FAll Pr F→∀p∈F,Pr p
 |[],_,_,h=>by cases h
 |q::F,h,p,hp=>by
  rcases List.mem_cons.1 hp with rfl|hp
  ·exact h.1
  ·exact FAll.at_ h.2 p hp
def Zkg (P:Program) (ops:Array Oper) (Q:Exit→Act→World→Prop) (w0:World) (a0:Act) (F:List (Nat×Nat)) (R:Nat→Value→(Nat→Prop)→World→Prop) (p:Nat×Nat):Prop:=
 ∀(xs:Nat→Value) (w:World),Upd No w0 w→∀K:Act→World→Prop,Shut (∀v FF w',Upd No w w'→(∀k,FF k→w.heap.size≤k∧k<w'.heap.size)→R p.1 v FF w'→K ((Zbm a0 F xs).put (some p.2) v) w')→
  ∃o,nth ops.toList p.1=some o∧if Region.wanted o (yielded ops (Zbm a0 F xs).tmps)=true then Oper.wp P o (Zbm a0 F xs) w K Q else K ((Zbm a0 F xs).put o.dst undef) w
theorem Zk8 {w0:World} (F:List (Nat×Nat)) (R:Nat→Value→(Nat→Prop)→World→Prop) {l0:Array Bool} {a0:Act} {f:Nat}
  (hN1:(F.map (·.1)).Nodup) (hN2:(F.map (·.2)).Nodup) (hok:ZdB md ops F F l0 true=true)
  (hRu:∀i v FF w w',R i v FF w→Upd No w w'→R i v FF w')
  (hop:∀p∈F,Zkg P ops Q w0 a0 F R p)
  (hrest:∀(xs:Nat→Value) (FF:Nat→Nat→Prop) (w:World),Upd No w0 w→(∀p∈F,R p.1 (xs p.1) (FF p.1) w∧∀k,FF p.1 k→w0.heap.size≤k∧k<w.heap.size)→(∀p∈F,∀q∈F,p.1≠q.1→∀k,FF p.1 k→FF q.1 k→False)→
   wpAnyH P md ops Q (fun W=>Upd No w0 W) f (fl l0 F fun _=>true) (Zbm a0 F xs) w):
  ∀(n:Nat) (D:Nat→Bool) (xs:Nat→Value) (FF:Nat→Nat→Prop) (w:World),Zbt F D=n→Upd No w0 w→
   (∀p∈F,D p.1=true→R p.1 (xs p.1) (FF p.1) w∧∀k,FF p.1 k→w0.heap.size≤k∧k<w.heap.size)→
   (∀p∈F,∀q∈F,D p.1=true→D q.1=true→p.1≠q.1→∀k,FF p.1 k→FF q.1 k→False)→
   wpAnyH P md ops Q (fun W=>Upd No w0 W) (f+n) (fl l0 F D) (Zbm a0 F xs) w
 |0,D,xs,FF,w,hp,hU,h1,h2=>by
  have hd:=Zie hp
  have e:fl l0 F D=fl l0 F fun _=>true:=by
   refine Zgs _ _ fun p hp=> ?_
   have:p.1∈F.map (·.1):=by rw[←(ZdH F).1];exact List.mem_map_of_mem hp
   obtain⟨q,hq,e⟩:=List.mem_map.1 this;rw[←e];exact hd q hq
  rw[e];exact hrest xs FF w hU (fun p hp=>h1 p hp (hd p hp)) (fun p hp q hq=>h2 p hp q hq (hd p hp) (hd q hq))
 |n+1,D,xs,FF,w,hp,hU,h1,h2=>by
  have hs:=Zd3 F l0 true hok D (Or.inl (by omega));refine⟨fun e=>absurd e hs.1,fun i hi=> ?_⟩;obtain⟨p,hpF,rfl⟩:=hs.2 i hi
  have hDi:D p.1=false:=by
   cases e:D p.1
   ·rfl
   ·have:=Zk9 F l0 D p hpF e;rw[(mem_ready.1 hi).1]at this
    cases this
  have hK0:Shut (∀v (FF':Nat→Prop) w',Upd No w w'→(∀k,FF' k→w.heap.size≤k∧k<w'.heap.size)→R p.1 v FF' w'→
    (fun a' w'=>Upd No w0 w'∧wpAnyH P md ops Q (fun W=>Upd No w0 W) (f+n) ((fl l0 F D).setIfInBounds p.1 true) a' w') ((Zbm a0 F xs).put (some p.2) v) w'):=by
   intro v FF' w' hu hF hR;refine⟨hU.trans hu,?_⟩;rw[Zru hpF hN1,ZoZ v hpF hN1 hN2];have hs0:w.heap.size≤w'.heap.size:=hu.size;have hs1:w0.heap.size≤w.heap.size:=hU.size;refine Zk8 F R hN1 hN2 hok hRu hop hrest n _ _ (upx FF p.1 FF') w' ?_ (hU.trans hu) ?_ ?_
   ·have:=Zjv hpF hN1 hDi;omega
   ·intro q hq hD;unfold upx at hD ⊢
    by_cases e:q.1=p.1
    ·rw[if_pos e,if_pos e,e];exact⟨hR,fun k hk=>by have:=hF k hk;omega⟩
    ·rw[if_neg e]at hD;rw[if_neg e,if_neg e];have:=h1 q hq hD;exact⟨hRu _ _ _ _ _ this.1 hu,fun k hk=>by have:=this.2 k hk;omega⟩
   ·intro q hq r hr hDq hDr hne k hk1 hk2;unfold upx at hDq hDr hk1 hk2
    by_cases e:q.1=p.1
    ·rw[if_pos e]at hk1
     by_cases e':r.1=p.1
     ·exact hne (e.trans e'.symm)
     ·rw[if_neg e']at hDr hk2;have:=(h1 r hr hDr).2 k hk2;have:=hF k hk1;omega
    ·rw[if_neg e]at hDq hk1
     by_cases e':r.1=p.1
     ·rw[if_pos e']at hk2;have:=(h1 q hq hDq).2 k hk1;have:=hF k hk2;omega
     ·rw[if_neg e']at hDr hk2;exact h2 q hq r hr hDq hDr hne k hk1 hk2
  ·obtain⟨o,ho,hw⟩:=hop p hpF xs w hU (fun a' w'=>Upd No w0 w'∧wpAnyH P md ops Q (fun W=>Upd No w0 W) (f+n) ((fl l0 F D).setIfInBounds p.1 true) a' w') hK0;refine wpOp_step (ZgV ho) fun K' hK=> ?_
   split
   ·rename_i hwd
    rw[if_pos hwd]at hw;exact Oper.wp_mono hK hw
   ·rename_i hwd
    rw[if_neg hwd]at hw;exact hK _ _ hw
theorem Ziw {α:Type _}:∀(F:List (Nat×Nat)) (l:Array α) (xs:Nat→α),(∀p∈F,∀v,l[p.2]? =some v→xs p.1=v)→ZaF l F xs=l
 |[],_,_,_=>rfl
 |p::F,l,xs,h=>by
  unfold ZaF
  have e:l.setIfInBounds p.2 (xs p.1)=l:=by
   apply Array.ext_getElem?
   intro i;rw[Array.getElem?_setIfInBounds]
   split
   ·rename_i e
    subst e
    split
    ·rename_i hl
     rw[h p (List.mem_cons_self ..) _ (Array.getElem?_eq_getElem hl),Array.getElem?_eq_getElem hl]
    ·rename_i hl
     rw[Array.getElem?_eq_none (by omega)]
   ·rfl
  rw[e];exact Ziw F l xs fun q hq=>h q (List.mem_cons_of_mem _ hq)
def lk:List (Nat×Nat)→Array Value→Nat→Value
 |[],_,_=>undef
 |p::F,l,i=>if i=p.1 then l[p.2]?.getD undef else lk F l i
theorem Zps:∀{F:List (Nat×Nat)} (l:Array Value) {p:Nat×Nat},p∈F→(F.map (·.1)).Nodup→lk F l p.1=l[p.2]?.getD undef
 |[],_,_,h,_=>by cases h
 |q::F,l,p,h,hn=>by
  rw[List.map_cons,List.nodup_cons]at hn;unfold lk;rcases List.mem_cons.1 h with rfl|h
  ·exact if_pos rfl
  ·rw[if_neg fun e:p.1=q.1=>hn.1 (by rw[←e];exact List.mem_map_of_mem h)];exact Zps l h hn.2
theorem Znw (a:Act) {F:List (Nat×Nat)} (hn:(F.map (·.1)).Nodup):Zbm a F (lk F a.tmps)=a:=by
 unfold Zbm;rw[Ziw F a.tmps _ fun p hp v hv=>by rw[Zps _ hp hn,hv];rfl]
theorem Zkh {w0:World} (F:List (Nat×Nat)) (R:Nat→Value→(Nat→Prop)→World→Prop) {l0:Array Bool} {a0:Act} {f n:Nat} {w:World}
  (hok:ZdB md ops F F l0 true=true) (hop:FAll (Zkg P ops Q w0 a0 F R) F)
  (hRu:∀i v FF w w',R i v FF w→Upd No w w'→R i v FF w')
  (hrest:∀(xs:Nat→Value) (FF:Nat→Nat→Prop) (w:World),Upd No w0 w→(∀p∈F,R p.1 (xs p.1) (FF p.1) w∧∀k,FF p.1 k→w0.heap.size≤k∧k<w.heap.size)→(∀p∈F,∀q∈F,p.1≠q.1→∀k,FF p.1 k→FF q.1 k→False)→
   wpAnyH P md ops Q (fun W=>Upd No w0 W) f (fl l0 F fun _=>true) (Zbm a0 F xs) w)
  (hn:n=f+F.length) (hl:fl l0 F (fun _=>false)=l0) (hU:Upd No w0 w)
  (hN1:(F.map (·.1)).Nodup:=by decide) (hN2:(F.map (·.2)).Nodup:=by decide):
  wpAnyH P md ops Q (fun W=>Upd No w0 W) n l0 a0 w:=by
 subst hn;have h:=Zk8 F R hN1 hN2 hok hRu (fun p hp=>hop.at_ p hp) hrest F.length (fun _=>false) (lk F a0.tmps) (fun _ _=>False) w (Zjx F) hU (fun _ _ h=>by cases h) (fun _ _ _ _ h=>by cases h);rw[Znw a0 hN1,hl]at h;exact h
end
end
end Go.Proofs.YtonblekdfinpkaaGreat
