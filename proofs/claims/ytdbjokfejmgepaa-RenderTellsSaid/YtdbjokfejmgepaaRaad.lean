/- Components of a digraph, plain: the search by one stack (nodes that wait), what stays true of it, and that its labels are right. -/
import Derived.Test.YtdbjokfejmgepaaRaac
namespace Go.Proofs.Ytdbjokfejmgepaa
set_option linter.unusedVariables false
set_option linter.unusedSimpArgs false
section
inductive Rch (nx:Nat→List Nat):Nat→Nat→Prop
 |refl (a:Nat):Rch nx a a
 |step {a b c:Nat}:Rch nx a b→c∈nx b→Rch nx a c
theorem Rch.trans {nx:Nat→List Nat} {a b c:Nat} (h:Rch nx a b) (k:Rch nx b c):Rch nx a c:=by
 induction k with
 |refl=>exact h
 |step _ hm ih=>exact ih.step hm
theorem Rch.one {nx:Nat→List Nat} {a b:Nat} (h:b∈nx a):Rch nx a b:=(Rch.refl a).step h
theorem Rch.stay {nx:Nat→List Nat} {S:Nat→Prop} (hS:∀a,S a→∀b∈nx a,S b) {a b:Nat} (h:Rch nx a b) (ha:S a):S b:=by
 induction h with
 |refl=>exact ha
 |step _ hm ih=>exact hS _ ih _ hm
def IsLab (nx:Nat→List Nat) (x l:Nat):Prop:=Rch nx x l∧Rch nx l x∧∀y,Rch nx x y→Rch nx y x→l≤y
def upd (f:Nat→Nat) (x v:Nat):Nat→Nat:=fun i=>if i=x then v else f i
theorem Zp (f:Nat→Nat) (x v:Nat):upd f x v x=v:=if_pos rfl
theorem ZM (f:Nat→Nat) {x i:Nat} (v:Nat) (h:i≠x):upd f x v i=f i:=if_neg h
structure TS where
 way:List (Nat×List Nat)
 when:Nat→Nat
 low:Nat→Nat
 wait:List Nat
 clock:Nat
 out:Nat→Nat
def TS.seen (s:TS) (v x:Nat):Prop:=∀l,(v,l)∈s.way→x∉l
structure TInv (nx:Nat→List Nat) (s:TS):Prop where
 ord:s.wait.Pairwise fun a b=>s.when b<s.when a
 path:s.way.Pairwise fun a b=>s.when b.1<s.when a.1
 on:∀f∈s.way,f.1∈s.wait
 sub:∀f∈s.way,∀x∈f.2,x∈nx f.1
 met:∀x∈s.wait,1≤s.when x
 late:∀x,s.when x≤s.clock
 all:∀v,1≤s.when v→∀x∈nx v,s.seen v x→1≤s.when x
 done:∀v,1≤s.when v→v∉s.wait→∀x∈nx v,1≤s.when x∧x∉s.wait
 down:∀f∈s.way,∀w∈s.wait,s.when f.1≤s.when w→Rch nx f.1 w
 up:∀w∈s.wait,(∀f∈s.way,f.1≠w)→∃u∈s.wait,s.when u<s.when w∧Rch nx w u
 low1:∀f∈s.way,s.low f.1≤s.when f.1∧∃u∈s.wait,s.low f.1=s.when u∧Rch nx f.1 u
 low2:∀f∈s.way,∀w∈s.wait,s.when f.1≤s.when w→(∀g∈s.way,s.when f.1<s.when g.1→s.when w<s.when g.1)→∀x∈nx w,s.seen w x→x∈s.wait→s.low f.1≤s.when x
 lab:∀x,1≤s.when x→x∉s.wait→IsLab nx x (s.out x)
def TS.meet (s:TS) (nx:Nat→List Nat) (x:Nat):TS:=⟨(x,nx x)::s.way,upd s.when x (s.clock+1),upd s.low x (s.clock+1),x::s.wait,s.clock+1,s.out⟩
theorem TInv.inj {nx:Nat→List Nat} {s:TS} (h:TInv nx s) {a b:Nat} (ha:a∈s.wait) (hb:b∈s.wait) (e:s.when a=s.when b):a=b:=by
 obtain⟨i,hi,rfl⟩:=List.mem_iff_getElem.1 ha;obtain⟨j,hj,rfl⟩:=List.mem_iff_getElem.1 hb;have hp:=List.pairwise_iff_getElem.1 h.ord;rcases Nat.lt_trichotomy i j with h1|h1|h1
 ·have:=hp i j hi hj h1;omega
 ·subst h1;rfl
 ·have:=hp j i hj hi h1;omega
theorem TInv.first {nx:Nat→List Nat} {s:TS} (h:TInv nx s) (hw:s.way=[]) {x:Nat} (hx:s.when x=0) (he:s.wait=[]):TInv nx (s.meet nx x):=by
 obtain⟨way,when,low,wait,clock,out⟩:=s;subst hw he;obtain⟨ord,path,on,sub,met,late,all,done,down,up,low1,low2,lab⟩:=h;simp only at*;have hne:∀v,1≤when v→v≠x:=fun v hv e=>by subst e;omega
 unfold TS.meet;simp only
 constructor<;>simp only[List.mem_cons,List.not_mem_nil,or_false,forall_eq]
 ·simp
 ·simp
 ·exact fun y hy=>hy
 ·rw[Zp];omega
 ·intro y
  by_cases e:y=x
  ·rw[e,Zp];exact Nat.le_refl _
  ·rw[ZM _ _ e];exact Nat.le_succ_of_le (late y)
 ·intro v hv y hy hs
  by_cases e:v=x
  ·subst e;exact absurd hy (hs _ (by simp))
  ·rw[ZM _ _ e]at hv;have:=(done v hv (by simp) y hy).1;rw[ZM _ _ (hne y this)];exact this
 ·intro v hv hvx y hy;rw[ZM _ _ hvx]at hv;have:=(done v hv (by simp) y hy).1;rw[ZM _ _ (hne y this)];exact⟨this,hne y this⟩
 ·intro _;exact Rch.refl x
 ·intro h;exact absurd rfl h
 ·refine⟨by rw[Zp,Zp];exact Nat.le_refl _,x,rfl,by rw[Zp,Zp],Rch.refl x⟩
 ·intro _ _ y hy hs;exact absurd hy (hs _ (by simp))
 ·intro y hy hyx;rw[ZM _ _ hyx]at hy;exact lab y hy (by simp)
theorem TInv.push {nx:Nat→List Nat} {v x:Nat} {l:List Nat} {way:List (Nat×List Nat)} {when low out:Nat→Nat} {wait:List Nat} {clock:Nat}
  (h:TInv nx ⟨(v,x::l)::way,when,low,wait,clock,out⟩) (hx:when x=0):TInv nx (TS.meet ⟨(v,l)::way,when,low,wait,clock,out⟩ nx x):=by
 obtain⟨ord,path,on,sub,met,late,all,done,down,up,low1,low2,lab⟩:=h;simp only at*;have hne:∀v,1≤when v→v≠x:=fun v hv e=>by subst e;omega
 have hvx:x∈nx v:=sub _ (List.mem_cons_self ..) x (List.mem_cons_self ..);have hw:∀y∈wait,y≠x:=fun y hy=>hne y (met y hy)
 have hv:v∈wait:=on (v,x::l) (List.mem_cons_self ..);have hu:∀y∈wait,upd when x (clock+1) y=when y:=fun y hy=>ZM _ _ (hw y hy)
 have hul:∀y∈wait,upd low x (clock+1) y=low y:=fun y hy=>ZM _ _ (hw y hy)
 have hx0:x∉wait:=fun hm=>hw x hm rfl
 have onl:∀f∈(v,l)::way,f.1∈wait:=by
  intro f hf;rcases List.mem_cons.1 hf with rfl|hf
  ·exact hv
  ·exact on f (List.mem_cons_of_mem _ hf)
 have vmax:∀f∈way,when f.1<when v:=fun f hf=>(List.pairwise_cons.1 path).1 f hf
 have seenOld:∀w y,y≠x∨w≠v→(∀k,(w,k)∈(x,nx x)::(v,l)::way→y∉k)→w≠x→(∀k,(w,k)∈(v,x::l)::way→y∉k):=by
  intro w y hyx hs hwx k hk;rcases List.mem_cons.1 hk with e|hk
  ·cases e
   have:=hs l (by simp);simp only[List.mem_cons,not_or];exact⟨hyx.resolve_right (fun h=>h rfl),this⟩
  ·exact hs k (by simp[hk])
 unfold TS.meet;simp only
 constructor<;>simp only
 ·refine List.pairwise_cons.2 ⟨fun y hy=> ?_,?_⟩
  ·rw[Zp,hu y hy];have:=late y;omega
  ·refine List.Pairwise.imp_of_mem ?_ ord;intro a b ha hb hab;rw[hu a ha,hu b hb];exact hab
 ·refine List.pairwise_cons.2 ⟨fun f hf=> ?_,List.pairwise_cons.2 ⟨fun f hf=> ?_,?_⟩⟩
  ·show upd when x (clock+1) f.1<upd when x (clock+1) x
   rw[Zp,hu _ (onl f hf)];have:=late f.1;omega
  ·show upd when x (clock+1) f.1<upd when x (clock+1) v
   rw[hu _ hv,hu _ (onl f (List.mem_cons_of_mem _ hf))];exact vmax f hf
  ·refine List.Pairwise.imp_of_mem ?_ (List.pairwise_cons.1 path).2;intro a b ha hb hab;rw[hu _ (onl a (List.mem_cons_of_mem _ ha)),hu _ (onl b (List.mem_cons_of_mem _ hb))];exact hab
 ·intro f hf;rcases List.mem_cons.1 hf with rfl|hf
  ·exact List.mem_cons_self ..
  ·exact List.mem_cons_of_mem _ (onl f hf)
 ·intro f hf y hy;rcases List.mem_cons.1 hf with rfl|hf
  ·exact hy
  ·rcases List.mem_cons.1 hf with rfl|hf
   ·exact sub (v,x::l) (List.mem_cons_self ..) y (List.mem_cons_of_mem _ hy)
   ·exact sub f (List.mem_cons_of_mem _ hf) y hy
 ·intro y hy;rcases List.mem_cons.1 hy with rfl|hy
  ·rw[Zp];omega
  ·rw[hu y hy];exact met y hy
 ·intro y
  by_cases e:y=x
  ·rw[e,Zp];exact Nat.le_refl _
  ·rw[ZM _ _ e];exact Nat.le_succ_of_le (late y)
 ·intro w hw1 y hy hs
  by_cases e:y=x
  ·rw[e,Zp];omega
  ·rw[ZM _ _ e]
   by_cases ew:w=x
   ·subst ew;exact absurd hy (hs _ (by simp))
   ·rw[ZM _ _ ew]at hw1;exact all w hw1 y hy (seenOld w y (Or.inl e) hs ew)
 ·intro w hw1 hnw y hy;simp only[List.mem_cons,not_or]at hnw;rw[ZM _ _ hnw.1]at hw1;have:=done w hw1 hnw.2 y hy;rw[ZM _ _ (hne y this.1)];exact⟨this.1,by simp only[List.mem_cons,not_or];exact⟨hne y this.1,this.2⟩⟩
 ·intro f hf w hw1 hle
  have hvw:∀f∈(v,l)::way,Rch nx f.1 v:=by
   intro f hf;rcases List.mem_cons.1 hf with rfl|hf
   ·exact Rch.refl _
   ·exact down f (List.mem_cons_of_mem _ hf) v hv (Nat.le_of_lt (vmax f hf))
  rcases List.mem_cons.1 hw1 with rfl|hw1
  ·rcases List.mem_cons.1 hf with rfl|hf
   ·exact Rch.refl _
   ·exact(hvw f hf).step hvx
  ·rcases List.mem_cons.1 hf with rfl|hf
   ·simp only at hle;rw[Zp,hu w hw1]at hle;have:=late w;omega
   ·rw[hu w hw1,hu _ (onl f hf)]at hle;rcases List.mem_cons.1 hf with rfl|hf
    ·exact down (v,x::l) (List.mem_cons_self ..) w hw1 hle
    ·exact down f (List.mem_cons_of_mem _ hf) w hw1 hle
 ·intro w hw1 hnf;rcases List.mem_cons.1 hw1 with rfl|hw1
  ·exact absurd rfl (hnf _ (List.mem_cons_self ..))
  ·obtain⟨u,hu1,hu2,hu3⟩:=up w hw1 (fun f hf=>by
    rcases List.mem_cons.1 hf with rfl|hf
    ·exact hnf (v,l) (by simp)
    ·exact hnf f (by simp[hf]))
   exact⟨u,List.mem_cons_of_mem _ hu1,by rw[hu u hu1,hu w hw1];exact hu2,hu3⟩
 ·intro f hf;rcases List.mem_cons.1 hf with rfl|hf
  ·exact⟨by rw[Zp,Zp];exact Nat.le_refl _,x,List.mem_cons_self ..,by rw[Zp,Zp],Rch.refl x⟩
  ·have h1:low f.1≤when f.1∧∃u∈wait,low f.1=when u∧Rch nx f.1 u:=by
    rcases List.mem_cons.1 hf with rfl|hf
    ·exact low1 (v,x::l) (List.mem_cons_self ..)
    ·exact low1 f (List.mem_cons_of_mem _ hf)
   obtain⟨h1,u,h2,h3,h4⟩:=h1;rw[hul _ (onl f hf),hu _ (onl f hf)];exact⟨h1,u,List.mem_cons_of_mem _ h2,by rw[hu u h2];exact h3,h4⟩
 ·intro f hf w hw1 hle hseg y hy hs hyw;rcases List.mem_cons.1 hf with rfl|hf
  ·-- the new one:nothing of it was looked at
   rcases List.mem_cons.1 hw1 with rfl|hw1
   ·exact absurd hy (hs _ (by simp))
   ·simp only at hle;rw[Zp,hu w hw1]at hle;have:=late w;omega
  ·rcases List.mem_cons.1 hw1 with rfl|hw1
   ·exact absurd hy (hs _ (by simp))
   ·have hwx:w≠x:=hw w hw1;rw[hul _ (onl f hf)];rw[hu _ (onl f hf),hu w hw1]at hle
    have h1:low f.1≤when f.1:=by
     rcases List.mem_cons.1 hf with rfl|hf
     ·exact(low1 (v,x::l) (List.mem_cons_self ..)).1
     ·exact(low1 f (List.mem_cons_of_mem _ hf)).1
    rcases List.mem_cons.1 hyw with e|hyw
    ·-- the arc to the new one
     rw[e,Zp];have:=late f.1;omega
    ·rw[hu y hyw];have hs':=seenOld w y (Or.inl (hw y hyw)) hs hwx;rcases List.mem_cons.1 hf with rfl|hf
     ·refine low2 (v,x::l) (List.mem_cons_self ..) w hw1 hle ?_ y hy hs' hyw;intro g hg hlt;rcases List.mem_cons.1 hg with rfl|hg
      ·exact absurd hlt (Nat.lt_irrefl _)
      ·have:=vmax g hg;simp only at hlt;omega
     ·refine low2 f (List.mem_cons_of_mem _ hf) w hw1 hle ?_ y hy hs' hyw;intro g hg hlt;rcases List.mem_cons.1 hg with rfl|hg
      ·have:=hseg (v,l) (by simp) (by rw[hu _ hv,hu _ (onl f (List.mem_cons_of_mem _ hf))];exact hlt);rw[hu _ hv,hu w hw1]at this;exact this
      ·have:=hseg g (by simp[hg]) (by rw[hu _ (onl g (List.mem_cons_of_mem _ hg)),hu _ (onl f (List.mem_cons_of_mem _ hf))];exact hlt);rw[hu _ (onl g (List.mem_cons_of_mem _ hg)),hu w hw1]at this;exact this
 ·intro y hy hny;simp only[List.mem_cons,not_or]at hny;rw[ZM _ _ hny.1]at hy;exact lab y hy hny.2
theorem TInv.back {nx:Nat→List Nat} {v x:Nat} {l:List Nat} {way:List (Nat×List Nat)} {when low out:Nat→Nat} {wait:List Nat} {clock:Nat}
  (h:TInv nx ⟨(v,x::l)::way,when,low,wait,clock,out⟩) (hx:x∈wait):TInv nx ⟨(v,l)::way,when,upd low v (min (low v) (when x)),wait,clock,out⟩:=by
 obtain⟨ord,path,on,sub,met,late,all,done,down,up,low1,low2,lab⟩:=h;simp only at*;have hvx:x∈nx v:=sub _ (List.mem_cons_self ..) x (List.mem_cons_self ..);have hv:v∈wait:=on (v,x::l) (List.mem_cons_self ..);have vmax:∀f∈way,when f.1<when v:=fun f hf=>(List.pairwise_cons.1 path).1 f hf
 have vne:∀f∈way,f.1≠v:=fun f hf e=>by have:=vmax f hf;rw[e]at this;omega
 have seenOld:∀w y,y≠x→(∀k,(w,k)∈(v,l)::way→y∉k)→(∀k,(w,k)∈(v,x::l)::way→y∉k):=by
  intro w y hyx hs k hk;rcases List.mem_cons.1 hk with e|hk
  ·cases e
   simp only[List.mem_cons,not_or];exact⟨hyx,hs l (by simp)⟩
  ·exact hs k (by simp[hk])
 have segOld:∀(f:Nat×List Nat) (w:Nat),(∀g∈(v,l)::way,when f.1<when g.1→when w<when g.1)→∀g∈(v,x::l)::way,when f.1<when g.1→when w<when g.1:=by
  intro f w hs g hg;rcases List.mem_cons.1 hg with rfl|hg
  ·exact hs (v,l) (by simp)
  ·exact hs g (by simp[hg])
 constructor<;>simp only
 ·exact ord
 ·exact List.pairwise_cons.2 ⟨vmax,(List.pairwise_cons.1 path).2⟩
 ·intro f hf;rcases List.mem_cons.1 hf with rfl|hf
  ·exact hv
  ·exact on f (List.mem_cons_of_mem _ hf)
 ·intro f hf y hy;rcases List.mem_cons.1 hf with rfl|hf
  ·exact sub (v,x::l) (List.mem_cons_self ..) y (List.mem_cons_of_mem _ hy)
  ·exact sub f (List.mem_cons_of_mem _ hf) y hy
 ·exact met
 ·exact late
 ·intro w hw1 y hy hs
  by_cases e:y=x
  ·rw[e];exact met x hx
  ·exact all w hw1 y hy (seenOld w y e hs)
 ·exact done
 ·intro f hf w hw1 hle;rcases List.mem_cons.1 hf with rfl|hf
  ·exact down (v,x::l) (List.mem_cons_self ..) w hw1 hle
  ·exact down f (List.mem_cons_of_mem _ hf) w hw1 hle
 ·intro w hw1 hnf
  exact up w hw1 fun f hf=>by
   rcases List.mem_cons.1 hf with rfl|hf
   ·exact hnf (v,l) (by simp)
   ·exact hnf f (by simp[hf])
 ·intro f hf;rcases List.mem_cons.1 hf with rfl|hf
  ·simp only;rw[Zp];obtain⟨h1,u,h2,h3,h4⟩:=low1 (v,x::l) (List.mem_cons_self ..);simp only at h1 h3 h4;refine⟨by omega,?_⟩
   by_cases hc:low v≤when x
   ·exact⟨u,h2,by rw[Nat.min_eq_left hc];exact h3,h4⟩
   ·exact⟨x,hx,by rw[Nat.min_eq_right (by omega)],Rch.one hvx⟩
  ·rw[ZM _ _ (vne f hf)];exact low1 f (List.mem_cons_of_mem _ hf)
 ·intro f hf w hw1 hle hseg y hy hs hyw;have hseg':=segOld f w hseg;rcases List.mem_cons.1 hf with rfl|hf
  ·simp only;rw[Zp]
   by_cases e:y=x
   ·rw[e];omega
   ·have:=low2 (v,x::l) (List.mem_cons_self ..) w hw1 hle hseg' y hy (seenOld w y e hs) hyw;simp only at this;omega
  ·rw[ZM _ _ (vne f hf)]
   by_cases e:w=v
   ·-- v is not of the part of f
    have:=hseg (v,l) (by simp) (vmax f hf);rw[e]at this;exact absurd this (Nat.lt_irrefl _)
   ·refine low2 f (List.mem_cons_of_mem _ hf) w hw1 hle hseg' y hy ?_ hyw;intro k hk;rcases List.mem_cons.1 hk with e2|hk
    ·cases e2;exact absurd rfl e
    ·exact hs k (by simp[hk])
 ·exact lab
theorem TInv.skip {nx:Nat→List Nat} {v x:Nat} {l:List Nat} {way:List (Nat×List Nat)} {when low out:Nat→Nat} {wait:List Nat} {clock:Nat}
  (h:TInv nx ⟨(v,x::l)::way,when,low,wait,clock,out⟩) (hm:1≤when x) (hx:x∉wait):TInv nx ⟨(v,l)::way,when,low,wait,clock,out⟩:=by
 obtain⟨ord,path,on,sub,met,late,all,done,down,up,low1,low2,lab⟩:=h;simp only at*;have hv:v∈wait:=on (v,x::l) (List.mem_cons_self ..);have vmax:∀f∈way,when f.1<when v:=fun f hf=>(List.pairwise_cons.1 path).1 f hf
 have seenOld:∀w y,y≠x→(∀k,(w,k)∈(v,l)::way→y∉k)→(∀k,(w,k)∈(v,x::l)::way→y∉k):=by
  intro w y hyx hs k hk;rcases List.mem_cons.1 hk with e|hk
  ·cases e
   simp only[List.mem_cons,not_or];exact⟨hyx,hs l (by simp)⟩
  ·exact hs k (by simp[hk])
 constructor<;>simp only
 ·exact ord
 ·exact List.pairwise_cons.2 ⟨vmax,(List.pairwise_cons.1 path).2⟩
 ·intro f hf;rcases List.mem_cons.1 hf with rfl|hf
  ·exact hv
  ·exact on f (List.mem_cons_of_mem _ hf)
 ·intro f hf y hy;rcases List.mem_cons.1 hf with rfl|hf
  ·exact sub (v,x::l) (List.mem_cons_self ..) y (List.mem_cons_of_mem _ hy)
  ·exact sub f (List.mem_cons_of_mem _ hf) y hy
 ·exact met
 ·exact late
 ·intro w hw1 y hy hs
  by_cases e:y=x
  ·rw[e];exact hm
  ·exact all w hw1 y hy (seenOld w y e hs)
 ·exact done
 ·intro f hf w hw1 hle;rcases List.mem_cons.1 hf with rfl|hf
  ·exact down (v,x::l) (List.mem_cons_self ..) w hw1 hle
  ·exact down f (List.mem_cons_of_mem _ hf) w hw1 hle
 ·intro w hw1 hnf
  exact up w hw1 fun f hf=>by
   rcases List.mem_cons.1 hf with rfl|hf
   ·exact hnf (v,l) (by simp)
   ·exact hnf f (by simp[hf])
 ·intro f hf;rcases List.mem_cons.1 hf with rfl|hf
  ·exact low1 (v,x::l) (List.mem_cons_self ..)
  ·exact low1 f (List.mem_cons_of_mem _ hf)
 ·intro f hf w hw1 hle hseg y hy hs hyw
  have hseg':∀g∈(v,x::l)::way,when f.1<when g.1→when w<when g.1:=by
   intro g hg;rcases List.mem_cons.1 hg with rfl|hg
   ·exact hseg (v,l) (by simp)
   ·exact hseg g (by simp[hg])
  have hyx:y≠x:=fun e=>hx (e▸hyw)
  rcases List.mem_cons.1 hf with rfl|hf
  ·exact low2 (v,x::l) (List.mem_cons_self ..) w hw1 hle hseg' y hy (seenOld w y hyx hs) hyw
  ·exact low2 f (List.mem_cons_of_mem _ hf) w hw1 hle hseg' y hy (seenOld w y hyx hs) hyw
 ·exact lab
theorem TInv.pop {nx:Nat→List Nat} {v p:Nat} {l:List Nat} {way:List (Nat×List Nat)} {when low out:Nat→Nat} {wait:List Nat} {clock:Nat}
  (h:TInv nx ⟨(v,[])::(p,l)::way,when,low,wait,clock,out⟩) (hl:low v≠when v):TInv nx ⟨(p,l)::way,when,upd low p (min (low p) (low v)),wait,clock,out⟩:=by
 obtain⟨ord,path,on,sub,met,late,all,done,down,up,low1,low2,lab⟩:=h;simp only at*;have hv:v∈wait:=on (v,[]) (List.mem_cons_self ..);have hp:p∈wait:=on (p,l) (by simp);have vmax:∀f∈(p,l)::way,when f.1<when v:=fun f hf=>(List.pairwise_cons.1 path).1 f hf
 have path2:=(List.pairwise_cons.1 path).2;have pmax:∀f∈way,when f.1<when p:=fun f hf=>(List.pairwise_cons.1 path2).1 f hf
 have pne:∀f∈way,f.1≠p:=fun f hf e=>by have:=pmax f hf;rw[e]at this;omega
 have hpv:when p<when v:=vmax (p,l) (by simp)
 have seenOld:∀w y,(∀k,(w,k)∈(p,l)::way→y∉k)→(∀k,(w,k)∈(v,[])::(p,l)::way→y∉k):=by
  intro w y hs k hk;rcases List.mem_cons.1 hk with e|hk
  ·cases e;simp
  ·exact hs k hk
 constructor<;>simp only
 ·exact ord
 ·exact path2
 ·exact fun f hf=>on f (List.mem_cons_of_mem _ hf)
 ·exact fun f hf=>sub f (List.mem_cons_of_mem _ hf)
 ·exact met
 ·exact late
 ·exact fun w hw1 y hy hs=>all w hw1 y hy (seenOld w y hs)
 ·exact done
 ·exact fun f hf=>down f (List.mem_cons_of_mem _ hf)
 ·intro w hw1 hnf
  by_cases e:w=v
  ·obtain⟨h1,u,h2,h3,h4⟩:=low1 (v,[]) (List.mem_cons_self ..);simp only at h1 h3 h4;rw[e];exact⟨u,h2,by omega,h4⟩
  ·exact up w hw1 fun f hf=>by
    rcases List.mem_cons.1 hf with rfl|hf
    ·exact fun e2=>e e2.symm
    ·exact hnf f hf
 ·intro f hf;rcases List.mem_cons.1 hf with rfl|hf
  ·simp only;rw[Zp];obtain⟨h1,u,h2,h3,h4⟩:=low1 (p,l) (by simp);obtain⟨k1,u',k2,k3,k4⟩:=low1 (v,[]) (by simp);simp only at h1 h3 h4 k1 k3 k4;refine⟨by omega,?_⟩
   by_cases hc:low p≤low v
   ·exact⟨u,h2,by rw[Nat.min_eq_left hc];exact h3,h4⟩
   ·exact⟨u',k2,by rw[Nat.min_eq_right (by omega)];exact k3,(down (p,l) (by simp) v hv (Nat.le_of_lt hpv)).trans k4⟩
  ·rw[ZM _ _ (pne f hf)];exact low1 f (by simp[hf])
 ·intro f hf w hw1 hle hseg y hy hs hyw;have hs':=seenOld w y hs;rcases List.mem_cons.1 hf with rfl|hf
  ·simp only;rw[Zp];simp only at hle hseg
   by_cases hc:when v≤when w
   ·have:=low2 (v,[]) (by simp) w hw1 hc (by
     intro g hg hlt;rcases List.mem_cons.1 hg with rfl|hg
     ·exact absurd hlt (Nat.lt_irrefl _)
     ·have:=vmax g hg;simp only at hlt;omega) y hy hs' hyw
    simp only at this;omega
   ·have:=low2 (p,l) (by simp) w hw1 hle (by
     intro g hg hlt;rcases List.mem_cons.1 hg with rfl|hg
     ·simp only;omega
     ·exact hseg g hg hlt) y hy hs' hyw
    simp only at this;omega
  ·rw[ZM _ _ (pne f hf)];refine low2 f (by simp[hf]) w hw1 hle ?_ y hy hs' hyw;intro g hg hlt;rcases List.mem_cons.1 hg with rfl|hg
   ·have:=hseg (p,l) (by simp) (pmax f hf);simp only at this ⊢;omega
   ·exact hseg g hg hlt
 ·exact lab
theorem TInv.root {nx:Nat→List Nat} {v:Nat} {way:List (Nat×List Nat)} {when low out out':Nat→Nat} {top rest:List Nat} {clock m:Nat}
  (h:TInv nx ⟨(v,[])::way,when,low,top++v::rest,clock,out⟩) (hl:low v=when v) (ho:∀x,out' x=if x∈top++[v] then m else out x) (hm1:m∈top++[v]) (hm2:∀x∈top++[v],m≤x):
  TInv nx ⟨way,when,low,rest,clock,out'⟩:=by
 have hinj:=fun {a b:Nat}=>h.inj (a:=a) (b:=b)
 obtain⟨ord,path,on,sub,met,late,all,done,down,up,low1,low2,lab⟩:=h;simp only at*;have hv:v∈top++v::rest:=by simp
 have vmax:∀f∈way,when f.1<when v:=fun f hf=>(List.pairwise_cons.1 path).1 f hf
 have htop:∀x∈top,when v<when x:=fun x hx=>(List.pairwise_append.1 ord).2.2 x hx v (List.mem_cons_self ..)
 have hrest:∀x∈rest,when x<when v:=fun x hx=>(List.pairwise_cons.1 (List.pairwise_append.1 ord).2.1).1 x hx
 have hsp:∀x,x∈top++v::rest↔x∈top++[v]∨x∈rest:=by intro x;simp[or_assoc]
 have hge:∀x,x∈top++[v]↔x∈top++v::rest∧when v≤when x:=by
  intro x
  constructor
  ·intro hx;refine⟨(hsp x).2 (Or.inl hx),?_⟩;rcases List.mem_append.1 hx with hx|hx
   ·exact Nat.le_of_lt (htop x hx)
   ·rw[List.mem_singleton.1 hx];exact Nat.le_refl _
  ·rintro⟨h1,h2⟩;rcases(hsp x).1 h1 with h1|h1
   ·exact h1
   ·have:=hrest x h1;omega
 have hdisj:∀x,x∈top++[v]→x∉rest:=fun x h1 h2=>by have:=((hge x).1 h1).2;have:=hrest x h2;omega
 have hnow:∀x,x∈top→∀f∈(v,[])::way,f.1≠x:=by
  intro x hx f hf e;have h1:=htop x hx;rcases List.mem_cons.1 hf with rfl|hf
  ·simp only at e;subst e;omega
  ·have:=vmax f hf;rw[e]at this;omega
 have wseen:∀w∈top++[v],∀y,(∀k,(w,k)∈(v,[])::way→y∉k):=by
  intro w hw y k hk;rcases List.mem_cons.1 hk with e|hk
  ·cases e;simp
  ·rcases List.mem_append.1 hw with hw|hw
   ·exact absurd rfl (hnow w hw (w,k) (List.mem_cons_of_mem _ hk))
   ·rw[List.mem_singleton.1 hw]at hk;have:=vmax _ hk;exact absurd this (Nat.lt_irrefl _)
 have hout:∀w∈top++[v],∀y∈nx w,1≤when y∧y∉rest:=by
  intro w hw y hy;have h1:=(hge w).1 hw;refine⟨all w (met w h1.1) y hy (wseen w hw y),fun hyr=> ?_⟩
  have:=low2 (v,[]) (by simp) w h1.1 h1.2 (by
   intro g hg hlt;rcases List.mem_cons.1 hg with rfl|hg
   ·exact absurd hlt (Nat.lt_irrefl _)
   ·have:=vmax g hg;simp only at hlt;omega) y hy (wseen w hw y) (by rw[hsp];exact Or.inr hyr)
  simp only at this;rw[hl]at this;have:=hrest y hyr;omega
 have hdn:∀a,(1≤when a∧a∉rest)→∀b∈nx a,1≤when b∧b∉rest:=by
  rintro a ⟨h1,h2⟩ b hb
  by_cases ha:a∈top++[v]
  ·exact hout a ha b hb
  ·have hna:a∉top++v::rest:=fun hm=>by rcases(hsp a).1 hm with h3|h3;exact ha h3;exact h2 h3
   have:=done a h1 hna b hb;exact⟨this.1,fun hr=>this.2 ((hsp b).2 (Or.inr hr))⟩
 have hold:∀a,(1≤when a∧a∉top++v::rest)→∀b∈nx a,1≤when b∧b∉top++v::rest:=fun a h1=>done a h1.1 h1.2
 have hback:∀n x,when x≤n→x∈top++[v]→Rch nx x v:=by
  intro n
  induction n with
  |zero=>intro x h1 hx;have:=met x ((hge x).1 hx).1;omega
  |succ n ih=>
   intro x h1 hx
   by_cases e:x=v
   ·rw[e];exact Rch.refl _
   ·have hx2:x∈top:=by
     rcases List.mem_append.1 hx with hx|hx
     ·exact hx
     ·exact absurd (List.mem_singleton.1 hx) e
    obtain⟨u,hu1,hu2,hu3⟩:=up x ((hge x).1 hx).1 (hnow x hx2);have hu4:=Rch.stay (S:=fun a=>1≤when a∧a∉rest) hdn hu3 ⟨met x ((hge x).1 hx).1,hdisj x hx⟩;exact hu3.trans (ih u (by omega) (((hsp u).1 hu1).resolve_right hu4.2))
 have hfwd:∀x∈top++[v],Rch nx v x:=fun x hx=>down (v,[]) (by simp) x ((hge x).1 hx).1 ((hge x).1 hx).2
 constructor<;>simp only
 ·exact(List.pairwise_cons.1 (List.pairwise_append.1 ord).2.1).2
 ·exact(List.pairwise_cons.1 path).2
 ·intro f hf;have h1:=on f (List.mem_cons_of_mem _ hf);rcases(hsp _).1 h1 with h2|h2
  ·have:=((hge _).1 h2).2;have:=vmax f hf;omega
  ·exact h2
 ·exact fun f hf=>sub f (List.mem_cons_of_mem _ hf)
 ·exact fun x hx=>met x ((hsp x).2 (Or.inr hx))
 ·exact late
 ·intro w hw1 y hy hs
  by_cases hw:w∈top++[v]
  ·exact(hout w hw y hy).1
  ·refine all w hw1 y hy fun k hk=> ?_
   rcases List.mem_cons.1 hk with e|hk
   ·cases e;simp
   ·exact hs k hk
 ·exact fun w hw1 hnw=>hdn w ⟨hw1,hnw⟩
 ·exact fun f hf w hw1=>down f (List.mem_cons_of_mem _ hf) w ((hsp w).2 (Or.inr hw1))
 ·intro w hw1 hnf;have h1:=hrest w hw1
  obtain⟨u,hu1,hu2,hu3⟩:=up w ((hsp w).2 (Or.inr hw1)) (fun f hf=>by
   rcases List.mem_cons.1 hf with rfl|hf
   ·intro e;simp only at e;subst e;omega
   ·exact hnf f hf)
  refine⟨u,?_,hu2,hu3⟩;rcases(hsp u).1 hu1 with h2|h2
  ·have:=((hge u).1 h2).2;omega
  ·exact h2
 ·intro f hf;obtain⟨h1,u,h2,h3,h4⟩:=low1 f (List.mem_cons_of_mem _ hf);refine⟨h1,u,?_,h3,h4⟩;rcases(hsp u).1 h2 with h5|h5
  ·have:=((hge u).1 h5).2;have:=vmax f hf;omega
  ·exact h5
 ·intro f hf w hw1 hle hseg y hy hs hyw;have h1:=hrest w hw1;refine low2 f (List.mem_cons_of_mem _ hf) w ((hsp w).2 (Or.inr hw1)) hle ?_ y hy ?_ ((hsp y).2 (Or.inr hyw))
  ·intro g hg hlt;rcases List.mem_cons.1 hg with rfl|hg
   ·exact h1
   ·exact hseg g hg hlt
  ·intro k hk;rcases List.mem_cons.1 hk with e|hk
   ·cases e;simp
   ·exact hs k hk
 ·intro x hx1 hx2;rw[ho x]
  by_cases hx:x∈top++[v]
  ·rw[if_pos hx];have hxv:=hback _ x (Nat.le_refl _) hx;refine⟨hxv.trans (hfwd m hm1),(hback _ m (Nat.le_refl _) hm1).trans (hfwd x hx),fun y h1 h2=>hm2 y ?_⟩;have h3:=Rch.stay (S:=fun a=>1≤when a∧a∉rest) hdn h1 ⟨met x ((hge x).1 hx).1,hdisj x hx⟩
   apply Classical.byContradiction
   intro hny;have h4:y∉top++v::rest:=fun hm=>by rcases(hsp y).1 hm with h5|h5;exact hny h5;exact h3.2 h5
   exact(Rch.stay (S:=fun a=>1≤when a∧a∉top++v::rest) hold h2 ⟨h3.1,h4⟩).2 ((hge x).1 hx).1
  ·rw[if_neg hx];exact lab x hx1 fun hm=>by rcases(hsp x).1 hm with h5|h5;exact hx h5;exact hx2 h5
theorem TInv.none_waits {nx:Nat→List Nat} {s:TS} (h:TInv nx s) (hw:s.way=[]):s.wait=[]:=by
 apply Classical.byContradiction
 intro hne
 have hall:∀n x,s.when x≤n→x∉s.wait:=by
  intro n
  induction n with
  |zero=>intro x h1 hx;have:=h.met x hx;omega
  |succ n ih=>
   intro x h1 hx;obtain⟨u,hu1,hu2,_⟩:=h.up x hx (by rw[hw];simp);exact ih u (by omega) hu1
 cases hs:s.wait with
 |nil=>exact hne hs
 |cons x l=>exact hall _ x (Nat.le_refl _) (by rw[hs];simp)
theorem TInv.start (nx:Nat→List Nat) (low out:Nat→Nat):TInv nx ⟨[],fun _=>0,low,[],0,out⟩:=by
 constructor<;>simp
end
/- Components of a digraph,plain:what stays true of the search,with its bounds. -/
section
def ZbI (when:Nat→Nat):Nat→Nat
 |0=>0
 |n+1=>ZbI when n+if when n=0 then 1 else 0
theorem Zdm (when:Nat→Nat) (x v:Nat) (hx:when x=0) (hv:v≠0):∀n,ZbI (upd when x v) n+(if x<n then 1 else 0)=ZbI when n
 |0=>by simp[ZbI]
 |n+1=>by
  have ih:=Zdm when x v hx hv n
  show ZbI (upd when x v) n+(if upd when x v n=0 then 1 else 0)+(if x<n+1 then 1 else 0)=ZbI when n+if when n=0 then 1 else 0
  by_cases e:n=x
  ·subst e;have e1:(if n<n+1 then 1 else 0)=1:=if_pos (by omega);have e2:(if n<n then 1 else 0)=0:=if_neg (by omega);rw[Zp,if_neg hv,if_pos hx,e1];rw[e2]at ih;omega
  ·rw[ZM _ _ e]
   have e1:(if x<n+1 then 1 else 0)=if x<n then 1 else 0:=by
    by_cases h:x<n
    ·rw[if_pos h,if_pos (by omega)]
    ·rw[if_neg h,if_neg (by omega)]
   rw[e1];omega
theorem Zb7:∀(l m:List Nat),l.Nodup→(∀x∈l,x∈m)→l.length≤m.length
 |[],_,_,_=>Nat.zero_le _
 |x::l,m,hn,hs=>by
  obtain⟨h1,h2⟩:=List.nodup_cons.1 hn;have hx:=hs x (List.mem_cons_self ..);have:=Zb7 l (m.erase x) h2 fun y hy=>(List.mem_erase_of_ne (fun e:y=x=>h1 (by rw[←e];exact hy))).2 (hs y (List.mem_cons_of_mem _ hy))
  rw[List.length_erase_of_mem hx]at this;have:=List.length_pos_of_mem hx;rw[List.length_cons];omega
structure FInv (nx:Nat→List Nat) (N:Nat) (s:TS):Prop where
 inv:TInv nx s
 lt:∀y∈s.wait,y<N
 clk:s.clock+ZbI s.when N=N
section
variable {nx:Nat→List Nat} {N:Nat} {s:TS}
theorem FInv.nodup (h:FInv nx N s):s.wait.Nodup:=by
 rw[List.nodup_iff_pairwise_ne];exact h.inv.ord.imp fun hab e=>by rw[e]at hab;exact Nat.lt_irrefl _ hab
theorem FInv.room (h:FInv nx N s) {x:Nat} (hx:s.when x=0) (hN:x<N):s.wait.length<N∧x∉s.wait∧s.clock<N:=by
 have hxw:x∉s.wait:=fun hm=>by have:=h.inv.met x hm;omega
 refine⟨?_,hxw,?_⟩
 ·have:=(List.nodup_cons.2 ⟨hxw,h.nodup⟩)
  have hs:∀y∈x::s.wait,y∈List.range N:=fun y hy=>by
   rw[List.mem_range];rcases List.mem_cons.1 hy with rfl|hy
   ·exact hN
   ·exact h.lt y hy
  have h2:=Zb7 _ _ this hs;rw[List.length_range,List.length_cons]at h2;omega
 ·have:=Zdm s.when x 1 hx (by omega) N;rw[if_pos hN]at this;have:=h.clk;omega
theorem FInv.len (h:FInv nx N s):s.wait.length≤N:=by
 have h2:=Zb7 s.wait (List.range N) h.nodup fun y hy=>List.mem_range.2 (h.lt y hy)
 rwa [List.length_range]at h2
theorem Zhw (hc:s.clock+ZbI s.when N=N) {x:Nat} (hx:s.when x=0) (hN:x<N):(s.meet nx x).clock+ZbI (s.meet nx x).when N=N:=by
 have:=Zdm s.when x (s.clock+1) hx (by omega) N;rw[if_pos hN]at this;unfold TS.meet;simp only;omega
theorem FInv.first (h:FInv nx N s) (hw:s.way=[]) {x:Nat} (hx:s.when x=0) (hN:x<N):FInv nx N (s.meet nx x):=
 ⟨h.inv.first hw hx (h.inv.none_waits hw),fun y hy=>by
  rcases List.mem_cons.1 hy with rfl|hy
  ·exact hN
  ·exact h.lt y hy,Zhw h.clk hx hN⟩
end
section
variable {nx:Nat→List Nat} {N v x p:Nat} {l:List Nat} {way:List (Nat×List Nat)} {when low out out':Nat→Nat} {wait top rest:List Nat} {clock m:Nat}
theorem FInv.push (h:FInv nx N ⟨(v,x::l)::way,when,low,wait,clock,out⟩) (hx:when x=0) (hN:x<N):FInv nx N (TS.meet ⟨(v,l)::way,when,low,wait,clock,out⟩ nx x):=
 ⟨h.inv.push hx,fun y hy=>by
  rcases List.mem_cons.1 hy with rfl|hy
  ·exact hN
  ·exact h.lt y hy,Zhw (s:=⟨(v,l)::way,when,low,wait,clock,out⟩) h.clk hx hN⟩
theorem FInv.back (h:FInv nx N ⟨(v,x::l)::way,when,low,wait,clock,out⟩) (hx:x∈wait):FInv nx N ⟨(v,l)::way,when,upd low v (min (low v) (when x)),wait,clock,out⟩:=⟨h.inv.back hx,h.lt,h.clk⟩
theorem FInv.skip (h:FInv nx N ⟨(v,x::l)::way,when,low,wait,clock,out⟩) (hm:1≤when x) (hx:x∉wait):FInv nx N ⟨(v,l)::way,when,low,wait,clock,out⟩:=⟨h.inv.skip hm hx,h.lt,h.clk⟩
theorem FInv.pop (h:FInv nx N ⟨(v,[])::(p,l)::way,when,low,wait,clock,out⟩) (hl:low v≠when v):FInv nx N ⟨(p,l)::way,when,upd low p (min (low p) (low v)),wait,clock,out⟩:=⟨h.inv.pop hl,h.lt,h.clk⟩
theorem FInv.root (h:FInv nx N ⟨(v,[])::way,when,low,top++v::rest,clock,out⟩) (hl:low v=when v) (ho:∀x,out' x=if x∈top++[v] then m else out x) (hm1:m∈top++[v]) (hm2:∀x∈top++[v],m≤x):FInv nx N ⟨way,when,low,rest,clock,out'⟩:=
 ⟨h.inv.root hl ho hm1 hm2,fun y hy=>h.lt y (List.mem_append_right _ (List.mem_cons_of_mem _ hy)),h.clk⟩
theorem FInv.split (h:FInv nx N ⟨(v,l)::way,when,low,wait,clock,out⟩):∃top rest,wait=top++v::rest∧v∉top:=by
 obtain⟨top,rest,e⟩:=List.append_of_mem (h.inv.on (v,l) (List.mem_cons_self ..));refine⟨top,rest,e,fun hm=> ?_⟩;have hn:=h.nodup;simp only at e hn;rw[e]at hn;exact(List.nodup_append.1 hn).2.2 v hm v (by simp) rfl
end
end
/- Operations that come up in any order,each a step that makes blocks of its own alone:taken one by one,whatever the order. -/
section
open Go.RowKit
def ZmE {α:Type _} (l:Array α):List (Nat×Nat)→(Nat→α)→Array α
 |[],_=>l
 |p::F,xs=>ZmE (l.setIfInBounds p.2 (xs p.1)) F xs
def ZkX:List (Nat×Nat)→List (Nat×Nat)
 |[]=>[]
 |p::F=>(p.1,p.1)::ZkX F
def fl (l:Array Bool) (F:List (Nat×Nat)) (D:Nat→Bool):Array Bool:=ZmE l (ZkX F) D
section
variable {P:Program} {ops:Array Oper} {Q:Exit→Act→World→Prop} {md:Region.Mode}
def FAll (Pr:Nat×Nat→Prop):List (Nat×Nat)→Prop
 |[]=>True
 |p::F=>Pr p∧FAll Pr F
theorem FAll.at_ {Pr:Nat×Nat→Prop}:∀{F:List (Nat×Nat)},FAll Pr F→∀p∈F,Pr p
 |[],_,_,h=>by cases h
 |q::F,h,p,hp=>by
  rcases List.mem_cons.1 hp with rfl|hp
  ·exact h.1
  ·exact FAll.at_ h.2 p hp
end
end
end Go.Proofs.Ytdbjokfejmgepaa
