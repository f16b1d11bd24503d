/- How edges and bad reads change, plain: the differences of two lists in order. -/
import Derived.Test.YtblplapkdmhikaaGreatDaay
import Derived.Test.YtblplapkdmhikaaGreatDabw
import Derived.Test.YtblplapkdmhikaaGreatDabx
namespace Go.Proofs.YtblplapkdmhikaaGreat
set_option linter.unusedVariables false
set_option linter.unusedSimpArgs false
section
def ZaJ (l:List Hvy) (e:Edge):Int:=match l.find? (fun x=>x.e==e)with|some x=>x.n|none=>0
def Z1 (l:List Hvy):Prop:=l.Pairwise fun a b=>ltE a.e b.e=true
theorem sortH_map {l:List Hvy}:Z1 l↔(l.map (·.e)).Pairwise fun a b=>ltE a b=true:=by unfold Z1;rw[List.pairwise_map]
theorem Zfe {l:List Hvy} (h:Z1 l) {x:Hvy} (hx:x∈l):ZaJ l x.e=x.n:=by
 unfold ZaJ
 induction l with
 |nil=>cases hx
 |cons y l ih=>
  rw[List.find?_cons];unfold Z1 at h;rw[List.pairwise_cons]at h;rcases List.mem_cons.1 hx with rfl|hx
  ·simp
  ·have hne:(y.e==x.e)=false:=by
    rw[beq_eq_false_iff_ne];intro e;have:=h.1 x hx;rw[e,Zas]at this;cases this
   rw[hne];exact ih h.2 hx
theorem Zdj {l:List Hvy} {e:Edge} (h:∀x∈l,x.e≠e):ZaJ l e=0:=by
 unfold ZaJ
 have:l.find? (fun x=>x.e==e)=none:=by
  rw[List.find?_eq_none];intro x hx
  simpa using h x hx
 rw[this]
theorem Znt {l:List Hvy} {e:Edge} (h:ZaJ l e≠0):∃x∈l,x.e=e:=by
 apply Classical.byContradiction
 intro hn;exact h (Zdj fun x hx he=>hn ⟨x,hx,he⟩)
theorem Zf6 {h:Hist} (hr:Za h=true) (e:Edge):ZaJ (Zc h) e=(Zf h e:Int):=by
 by_cases h0:Zf h e=0
 ·rw[h0,Zdj]
  ·rfl
  ·rintro x hx rfl;exact((ZN hr).1 hx).1 h0
 ·have hm:(⟨e,(Zf h e:Int)⟩:Hvy)∈Zc h:=(ZN hr).2 ⟨h0,rfl⟩;exact Zfe (sortH_map.2 edgesR_strict) hm
theorem Zlw {l m:List Hvy} (hl:Z1 l) (hm:Z1 m) (h:∀x,x∈l↔x∈m):l=m:=
 Zeg (r:=fun a b:Hvy=>ltE a.e b.e=true) (fun a h=>by rw[Zas]at h;cases h) (fun a b c=>Zcb) hl hm h
structure DiffH (f g:Edge→Int) (l:List Hvy):Prop where
 s:Z1 l
 m:∀x,x∈l↔x.n=g x.e-f x.e∧x.n≠0
theorem DiffH.one {f g:Edge→Int} {l m:List Hvy} (h:DiffH f g l) (k:DiffH f g m):l=m:=Zlw h.s k.s fun x=>by rw[h.m,k.m]
def Zs:List Hvy→List Hvy→List Hvy
 |[],ys=>ys
 |x::xs,[]=>⟨x.e,-x.n⟩::Zs xs []
 |x::xs,y::ys=>
  if ltE x.e y.e then ⟨x.e,-x.n⟩::Zs xs (y::ys)
  else if ltE y.e x.e then y::Zs (x::xs) ys
  else (if x.n=y.n then Zs xs ys else ⟨x.e,y.n-x.n⟩::Zs xs ys)
termination_by xs ys=>xs.length+ys.length
theorem Za6 (ys:List Hvy):Zs [] ys=ys:=by unfold Zs;rfl
theorem Zbr (x:Hvy) (xs:List Hvy):Zs (x::xs) []=⟨x.e,-x.n⟩::Zs xs []:=by rw[Zs]
theorem Zdz (x y:Hvy) (xs ys:List Hvy):Zs (x::xs) (y::ys)=if ltE x.e y.e then ⟨x.e,-x.n⟩::Zs xs (y::ys)
  else if ltE y.e x.e then y::Zs (x::xs) ys else (if x.n=y.n then Zs xs ys else ⟨x.e,y.n-x.n⟩::Zs xs ys):=by rw[Zs]
theorem Zcg (x:Hvy) (l:List Hvy) (e:Edge):ZaJ (x::l) e=if x.e=e then x.n else ZaJ l e:=by
 unfold ZaJ;rw[List.find?_cons]
 by_cases h:x.e=e
 ·rw[if_pos h,show(x.e==e)=true by simpa using h]
 ·rw[if_neg h,show(x.e==e)=false by simpa using h]
theorem Zdo {x:Hvy} {l:List Hvy} (h:Z1 (x::l)):Z1 l∧(∀y∈l,ltE x.e y.e=true)∧ZaJ l x.e=0:=by
 unfold Z1 at h;rw[List.pairwise_cons]at h;exact⟨h.2,h.1,Zdj fun y hy e=>by have:=h.1 y hy;rw[e,Zas]at this;cases this⟩
theorem ZaC (c:Edge):∀(n:Nat) (xs ys:List Hvy),xs.length+ys.length≤n→(∀x∈xs,ltE c x.e=true)→(∀y∈ys,ltE c y.e=true)→∀z∈Zs xs ys,ltE c z.e=true
 |n,[],ys,_,_,hy,z,hz=>by rw[Za6]at hz;exact hy z hz
 |0,x::xs,ys,hn,_,_,_,_=>by simp at hn
 |n+1,x::xs,[],hn,hx,hy,z,hz=>by
  rw[Zbr]at hz;rcases List.mem_cons.1 hz with rfl|hz
  ·exact hx x (List.mem_cons_self ..)
  ·exact ZaC c n xs [] (by simpa using hn) (fun x h=>hx x (List.mem_cons_of_mem _ h)) hy z hz
 |n+1,x::xs,y::ys,hn,hx,hy,z,hz=>by
  rw[Zdz]at hz;simp only[List.length_cons]at hn;have hx1:=hx x (List.mem_cons_self ..);have hx2:=fun w h=>hx w (List.mem_cons_of_mem x h)
  have hy1:=hy y (List.mem_cons_self ..);have hy2:=fun w h=>hy w (List.mem_cons_of_mem y h)
  split at hz
  ·rcases List.mem_cons.1 hz with rfl|hz
   ·exact hx1
   ·exact ZaC c n xs (y::ys) (by simp only[List.length_cons];omega) hx2 hy z hz
  ·split at hz
   ·rcases List.mem_cons.1 hz with rfl|hz
    ·exact hy1
    ·exact ZaC c n (x::xs) ys (by simp only[List.length_cons];omega) hx hy2 z hz
   ·split at hz
    ·exact ZaC c n xs ys (by omega) hx2 hy2 z hz
    ·rcases List.mem_cons.1 hz with rfl|hz
     ·exact hx1
     ·exact ZaC c n xs ys (by omega) hx2 hy2 z hz
theorem ZbT:∀(n:Nat) (xs ys:List Hvy),xs.length+ys.length≤n→Z1 xs→Z1 ys→(∀x∈xs,x.n≠0)→(∀y∈ys,y.n≠0)→DiffH (ZaJ xs) (ZaJ ys) (Zs xs ys)
 |n,[],ys,_,_,hs,_,hy=>by
  rw[Za6];refine⟨hs,fun z=> ?_⟩;have h0:ZaJ [] z.e=0:=rfl;rw[h0,Int.sub_zero]
  constructor
  ·intro hz;exact⟨(Zfe hs hz).symm,hy z hz⟩
  ·rintro⟨h1,h2⟩;obtain⟨w,hw,he⟩:=Znt (l:=ys) (e:=z.e) (by omega);have h3:=Zfe hs hw;rw[he]at h3
   have:w=z:=by
    obtain⟨we,wn⟩:=w;obtain⟨ze,zn⟩:=z;simp only at he h1 h3;rw[he,h1,h3]
   exact this▸hw
 |0,x::xs,ys,hn,_,_,_,_=>by simp at hn
 |n+1,x::xs,[],hn,hs,hs2,hx,hy=>by
  obtain⟨t1,t2,t3⟩:=Zdo hs;have ih:=ZbT n xs [] (by simpa using hn) t1 hs2 (fun w h=>hx w (List.mem_cons_of_mem _ h)) hy;rw[Zbr];have hx0:=hx x (List.mem_cons_self ..);refine⟨?_,fun z=> ?_⟩
  ·unfold Z1;rw[List.pairwise_cons];exact⟨fun z hz=>ZaC x.e n xs [] (by simpa using hn) t2 (fun y h=>by cases h) z hz,ih.s⟩
  ·rw[List.mem_cons,ih.m,Zcg];have h0:ZaJ [] z.e=0:=rfl;rw[h0]
   by_cases e:x.e=z.e
   ·rw[if_pos e,←e,t3];obtain⟨ze,zn⟩:=z;simp only at e ⊢;subst e;simp only[Hvy.mk.injEq,true_and];omega
   ·rw[if_neg e]
    constructor
    ·rintro(rfl|h)
     ·exact absurd rfl e
     ·exact h
    ·exact Or.inr
 |n+1,x::xs,y::ys,hn,hs,hs2,hx,hy=>by
  simp only[List.length_cons]at hn;obtain⟨t1,t2,t3⟩:=Zdo hs;obtain⟨u1,u2,u3⟩:=Zdo hs2;have hx0:=hx x (List.mem_cons_self ..);have hy0:=hy y (List.mem_cons_self ..);have hx2:=fun w h=>hx w (List.mem_cons_of_mem x h)
  have hy2:=fun w h=>hy w (List.mem_cons_of_mem y h)
  rw[Zdz]
  split
  ·rename_i hlt
   have ih:=ZbT n xs (y::ys) (by simp only[List.length_cons];omega) t1 hs2 hx2 hy
   have hyl:∀w∈y::ys,ltE x.e w.e=true:=fun w hw=>by
    rcases List.mem_cons.1 hw with rfl|hw
    ·exact hlt
    ·exact Zcb hlt (u2 w hw)
   have hc0:ZaJ (y::ys) x.e=0:=Zdj fun w hw e=>by have:=hyl w hw;rw[e,Zas]at this;cases this
   refine⟨?_,fun z=> ?_⟩
   ·unfold Z1;rw[List.pairwise_cons];exact⟨fun z hz=>ZaC x.e n xs (y::ys) (by simp only[List.length_cons];omega) t2 hyl z hz,ih.s⟩
   ·rw[List.mem_cons,ih.m,Zcg x xs]
    by_cases e:x.e=z.e
    ·rw[if_pos e,←e,t3,hc0];obtain⟨ze,zn⟩:=z;simp only at e ⊢;subst e;simp only[Hvy.mk.injEq,true_and];omega
    ·rw[if_neg e]
     constructor
     ·rintro(rfl|h)
      ·exact absurd rfl e
      ·exact h
     ·exact Or.inr
  ·split
   ·rename_i hlt
    have ih:=ZbT n (x::xs) ys (by simp only[List.length_cons];omega) hs u1 hx hy2
    have hxl:∀w∈x::xs,ltE y.e w.e=true:=fun w hw=>by
     rcases List.mem_cons.1 hw with rfl|hw
     ·exact hlt
     ·exact Zcb hlt (t2 w hw)
    have hc0:ZaJ (x::xs) y.e=0:=Zdj fun w hw e=>by have:=hxl w hw;rw[e,Zas]at this;cases this
    refine⟨?_,fun z=> ?_⟩
    ·unfold Z1;rw[List.pairwise_cons];exact⟨fun z hz=>ZaC y.e n (x::xs) ys (by simp only[List.length_cons];omega) hxl u2 z hz,ih.s⟩
    ·rw[List.mem_cons,ih.m,Zcg y ys]
     by_cases e:y.e=z.e
     ·rw[if_pos e,←e,u3,hc0];obtain⟨ze,zn⟩:=z;obtain⟨ye,yn⟩:=y;simp only at e hy0 ⊢;subst e;simp only[Hvy.mk.injEq,true_and];omega
     ·rw[if_neg e]
      constructor
      ·rintro(rfl|h)
       ·exact absurd rfl e
       ·exact h
      ·exact Or.inr
   ·rename_i h1 h2
    have he:x.e=y.e:=Zde (by simpa using h1) (by simpa using h2);have ih:=ZbT n xs ys (by omega) t1 u1 hx2 hy2;have hyl:∀w∈ys,ltE x.e w.e=true:=fun w hw=>by rw[he];exact u2 w hw
    have hc0:ZaJ ys x.e=0:=by rw[he];exact u3
    have key:∀z:Hvy,z.n=ZaJ (y::ys) z.e-ZaJ (x::xs) z.e∧z.n≠0↔(z=⟨x.e,y.n-x.n⟩∧y.n-x.n≠0)∨z∈Zs xs ys:=fun z=>by
     rw[ih.m,Zcg,Zcg,←he]
     by_cases e:x.e=z.e
     ·rw[if_pos e,if_pos e,←e,t3,hc0];obtain⟨ze,zn⟩:=z;simp only at e ⊢;subst e;simp only[Hvy.mk.injEq,true_and];omega
     ·rw[if_neg e,if_neg e]
      constructor
      ·exact Or.inr
      ·rintro(⟨rfl,_⟩|h)
       ·exact absurd rfl e
       ·exact h
    split
    ·rename_i hq
     refine⟨ih.s,fun z=> ?_⟩;rw[key z]
     constructor
     ·exact Or.inr
     ·rintro(⟨_,h⟩|h)
      ·exact absurd (by omega) h
      ·exact h
    ·rename_i hq
     refine⟨?_,fun z=> ?_⟩
     ·unfold Z1;rw[List.pairwise_cons];exact⟨fun z hz=>ZaC x.e n xs ys (by omega) t2 hyl z hz,ih.s⟩
     ·rw[key z,List.mem_cons]
      constructor
      ·rintro(h|h)
       ·exact Or.inl ⟨h,by omega⟩
       ·exact Or.inr h
      ·rintro(⟨h,_⟩|h)
       ·exact Or.inl h
       ·exact Or.inr h
def Zbf (a b:Hist):List Hvy:=Zs (Zc a) (Zc b)
theorem Zik {h:Hist}:∀x∈Zc h,x.n≠0:=fun x hx=>by
 have hr:Za h=true:=by
  cases hq:Za h with
  |true=>rfl
  |false=>unfold Zc at hx;rw[hq]at hx;cases hx
 obtain⟨h1,h2⟩:=(ZN hr).1 hx;omega
theorem Zfc {a b:Hist} (ha:Za a=true) (hb:Za b=true):DiffH (fun e=>(Zf a e:Int)) (fun e=>(Zf b e:Int)) (Zbf a b):=by
 have h:=ZbT _ (Zc a) (Zc b) (Nat.le_refl _) (sortH_map.2 edgesR_strict) (sortH_map.2 edgesR_strict) Zik Zik
 rwa [show ZaJ (Zc a)=fun e=>(Zf a e:Int) from funext (Zf6 ha),show ZaJ (Zc b)=fun e=>(Zf b e:Int) from funext (Zf6 hb)]at h
theorem Zmg {a b:Hist} (ha:Za a=true) (hb:Za b=true) {l:List Hvy} (hs:Z1 l) (hm:∀x,x∈l↔x.e.key∈ZT a b∧x.n=(Zf b x.e:Int)-(Zf a x.e:Int)∧x.n≠0):l=Zbf a b:=by
 refine DiffH.one ⟨hs,fun x=> ?_⟩ (Zfc ha hb);rw[hm]
 constructor
 ·exact fun h=>h.2
 ·intro h;refine⟨?_,h⟩
  apply Classical.byContradiction
  intro hk;have:=Zmj ha hb hk;rw[this]at h;omega
end
/- How bad reads change,plain:those that the touched keys tell,sorted,are those of the document. -/
section
open Go.RowKit
def ZcT (a b:HBad):Prop:=a.tx<b.tx∨(a.tx=b.tx∧(a.place<b.place∨(a.place=b.place∧(a.of.tx<b.of.tx∨(a.of.tx=b.of.tx∧(a.of.key<b.of.key∨(a.of.key=b.of.key∧a.of.nth<b.of.nth)))))))
theorem ZdD {a b:HBad}:Zw a b=true↔ZcT a b:=by
 unfold Zw ZcT
 split
 ·rw[decide_eq_true_eq];omega
 ·split
  ·rw[decide_eq_true_eq];omega
  ·split
   ·rw[decide_eq_true_eq];omega
   ·split<;>rw[decide_eq_true_eq]<;>(simp only[ne_eq,Classical.not_not]at*;omega)
theorem ZdC {a b:HBad}:Zw a b=false↔¬ZcT a b:=by rw[←ZdD,Bool.not_eq_true]
theorem ZcF {a b c:HBad} (h1:Zw a b=true) (h2:Zw b c=true):Zw a c=true:=by
 rw[ZdD]at*;unfold ZcT at*;omega
theorem ZfM {a b:HBad} (h1:Zw a b=false) (h2:Zw b a=false):a=b:=by
 rw[ZdC]at*;unfold ZcT at*;obtain⟨a1,a2,a3,a4,a5⟩:=a;obtain⟨b1,b2,b3,b4,b5⟩:=b;simp only at h1 h2;have:a1=b1:=by omega
 have:a2=b2:=by omega
 have:a3=b3:=by omega
 have:a4=b4:=by omega
 have:a5=b5:=by omega
 subst_vars;rfl
def ZaO (a b:HBad):Int:=if Zw a b then -1 else if Zw b a then 1 else 0
theorem Zag (x y:HBad):ltOf ZaO x y=Zw x y:=by
 unfold ltOf ZaO
 cases h1:Zw x y
 ·cases h2:Zw y x<;>simp
 ·simp
theorem Zo6:Sort.SWO (ltOf ZaO) where
 irrefl x:=by rw[Zag];exact Zcq x
 trans x y z h1 h2:=by rw[Zag]at*;exact ZcF h1 h2
 ntrans x y z h1 h2:=by
  rw[Zag]at*;rw[ZdC]at*;unfold ZcT at*;omega
def Za5 (l:List HBad):List HBad:=l.mergeSort fun x y=> !(ltOf ZaO) y x
theorem ZdW (l:List HBad):(Za5 l).length=l.length:=List.length_mergeSort ..
theorem ZkQ (a b c:HBad) (h:(!ltOf ZaO b a)=true) (k:(!ltOf ZaO c b)=true):(!ltOf ZaO c a)=true:=by
 rw[Zag,Bool.not_eq_true',ZdC]at*;unfold ZcT at*;omega
theorem ZkR (a b:HBad):((!ltOf ZaO b a)||(!ltOf ZaO a b))=true:=by
 rw[Zag,Zag]
 cases h:Zw b a
 ·rfl
 ·cases h2:Zw a b
  ·rfl
  ·have:=ZcF h h2;rw[Zcq]at this;cases this
theorem Zfi:∀(txs:List HTx) (p:Int) (t:HTx) (l:List HOp) (i:Nat) (acc:List HBad),(acc.Pairwise fun a b=>Zw a b=true)→(∀a∈acc,a.tx<t.id∨(a.tx=t.id∧a.place<(i:Int)))→((Zad txs p t i acc l).Pairwise fun a b=>Zw a b=true)∧∀a∈Zad txs p t i acc l,a.tx<t.id∨a.tx=t.id
 |_,_,_,[],_,_,h1,h2=>⟨h1,fun a ha=>(h2 a ha).elim Or.inl fun h=>Or.inr h.1⟩
 |txs,p,t,o::l,i,acc,h1,h2=>by
  unfold Zad
  split
  ·refine Zfi txs p t l (i+1) _ ?_ ?_
   ·rw[List.pairwise_append];refine⟨h1,List.pairwise_singleton _ _,fun a ha b hb=> ?_⟩;rw[List.mem_singleton.1 hb,ZdD];unfold ZcT;simp only;rcases h2 a ha with h|⟨h,h3⟩<;>omega
   ·intro a ha;rcases List.mem_append.1 ha with ha|ha
    ·rcases h2 a ha with h|⟨h,h3⟩
     ·exact Or.inl h
     ·exact Or.inr ⟨h,by omega⟩
    ·rw[List.mem_singleton.1 ha];exact Or.inr ⟨rfl,by simp only;omega⟩
  ·exact Zfi txs p t l (i+1) acc h1 fun a ha=>(h2 a ha).elim Or.inl fun h=>Or.inr ⟨h.1,by omega⟩
theorem Zhm (txs:List HTx) (p:Int):∀(l:List HTx) (acc:List HBad),(l.map (·.id)).Pairwise (·<·)→(acc.Pairwise fun a b=>Zw a b=true)→(∀a∈acc,∀t∈l,a.tx<t.id)→(ZaG txs p acc l).Pairwise fun a b=>Zw a b=true
 |[],_,_,h1,_=>h1
 |t::l,acc,hn,h1,h2=>by
  unfold ZaG;rw[List.map_cons,List.pairwise_cons]at hn;obtain⟨k1,k2⟩:=Zfi txs p t t.ops 0 acc h1 fun a ha=>Or.inl (h2 a ha t (List.mem_cons_self ..))
  refine Zhm txs p l _ hn.2 k1 fun a ha u hu=> ?_
  have h3:=hn.1 u.id (List.mem_map.2 ⟨u,hu,rfl⟩);rcases k2 a ha with h|h<;>omega
theorem ZeS {h:Hist} {p:Int}:(ZE h p).Pairwise fun a b=>Zw a b=true:=by
 cases hr:Za h with
 |false=>unfold ZE;rw[hr];exact List.Pairwise.nil
 |true=>
  unfold ZE;rw[if_pos hr];exact Zhm h.txs p h.txs [] (ZbQ hr) List.Pairwise.nil fun a ha=>by cases ha
def ofK (h:Hist) (p k:Int):List HBad:=(ZE h p).filter fun b=>b.of.key==k
def Zac (a b:Hist) (p:Int) (keys:List Int):List HBad:=keys.flatMap fun k=>(ofK a p k).filter fun x=> !(ofK b p k).contains x
def ZaN (a b:Hist) (p:Int):List HBad:=(ZE a p).filter fun x=> !(ZE b p).contains x
theorem Zdd {h:Hist} {p k:Int} {x:HBad}:x∈ofK h p k↔x∈ZE h p∧x.of.key=k:=by unfold ofK;rw[List.mem_filter,beq_iff_eq]
theorem Zgm {l:List HBad} {x:HBad}:(!l.contains x)=true↔x∉l:=by rw[Bool.not_eq_true',←Bool.not_eq_true,List.contains_iff_mem]
theorem mem_goneK {a b:Hist} {p:Int} {keys:List Int} {x:HBad}:x∈Zac a b p keys↔x.of.key∈keys∧x∈ZE a p∧x∉ZE b p:=by
 unfold Zac;rw[List.mem_flatMap]
 constructor
 ·rintro⟨k,hk,hx⟩;rw[List.mem_filter,Zdd,Zgm,Zdd]at hx;obtain⟨⟨h1,rfl⟩,h2⟩:=hx;exact⟨hk,h1,fun h=>h2 ⟨h,rfl⟩⟩
 ·rintro⟨h1,h2,h3⟩;refine⟨x.of.key,h1,?_⟩;rw[List.mem_filter,Zdd,Zgm,Zdd];exact⟨⟨h2,rfl⟩,fun h=>h3 h.1⟩
theorem ZdO {l:List HBad} (h:l.Pairwise fun a b=>Zw a b=true):l.Nodup:=h.imp fun {a b} hab e=>by rw[e,Zcq]at hab;cases hab
theorem Zc3 {a b:Hist} {p:Int}:∀{keys:List Int},keys.Nodup→(Zac a b p keys).Nodup
 |[],_=>List.Pairwise.nil
 |k::l,h=>by
  rw[List.nodup_cons]at h;have e:Zac a b p (k::l)=((ofK a p k).filter fun x=> !(ofK b p k).contains x)++Zac a b p l:=by unfold Zac;rw[List.flatMap_cons]
  rw[e,List.nodup_append];refine⟨(List.Pairwise.filter _ (List.Pairwise.filter _ (ZdO ZeS))),Zc3 h.2,fun x hx y hy hxy=> ?_⟩;have h1:=(mem_goneK.1 hy).1;rw[List.mem_filter,Zdd]at hx;rw[←hxy,hx.1.2]at h1;exact h.1 h1
theorem ZkK {a b:Hist} {p:Int} {x:HBad}:x∈ZaN a b p↔x∈ZE a p∧x∉ZE b p:=by unfold ZaN;rw[List.mem_filter,Zgm]
theorem ZgG {a b:Hist} {p:Int} {keys:List Int} (hn:keys.Nodup) (hk:∀x∈ZE a p,x∉ZE b p→x.of.key∈keys):Za5 (Zac a b p keys)=ZaN a b p:=by
 have hs:(ZaN a b p).Pairwise fun a b=>Zw a b=true:=List.Pairwise.filter _ ZeS
 have hp:(Zac a b p keys).Perm (ZaN a b p):=by
  rw[List.perm_ext_iff_of_nodup (Zc3 hn) (ZdO hs)];intro x;rw[mem_goneK,ZkK];exact⟨fun h=>h.2,fun h=>⟨hk x h.1 h.2,h⟩⟩
 unfold Za5;refine List.Perm.eq_of_pairwise (le:=fun a b=>(!ltOf ZaO b a)=true) (fun a b _ _ h1 h2=> ?_) (List.pairwise_mergeSort ZkQ ZkR _) (hs.imp fun {a b} hab=> ?_) ((List.mergeSort_perm _ _).trans hp)
 ·rw[Zag,Bool.not_eq_true']at h1 h2;exact ZfM h2 h1
 ·rw[Zag,Bool.not_eq_true']
  cases h:Zw b a
  ·rfl
  ·have:=ZcF hab h;rw[Zcq]at this;cases this
section
variable {a b:Hist} {p:Int}
theorem Zb4:(ZT a b).Nodup:=by unfold ZT;exact(Zeu _).imp fun h e=>by omega
theorem ZmS (ha:Za a=true) (hb:Za b=true):Za5 (Zac a b p (ZT a b))=ZaN a b p:=
 ZgG Zb4 fun x h1 h2=>Classical.byContradiction fun hk=>h2 (Zji ha hb h1 hk)
theorem Znw (ha:Za a=true) (hb:Za b=true):Za5 (Zac b a p (ZT a b))=ZaN b a p:=
 ZgG Zb4 fun x h1 h2=>Classical.byContradiction fun hk=>h2 (Zji hb ha h1 fun h=>hk (keysD_comm.2 h))
end
end
/- How edges change,plain:a map of differences,key by key. -/
section
open Go.RowKit
structure CntZ (m:List (Edge×Value)) (g:Edge→Int) (E:List Edge):Prop where
 nd:(m.map (·.1)).Nodup
 val:∀a,(Zz m a).getD (.int .i64 0)= .int .i64 (g a)
 sub:∀a∈m.map (·.1),a∈E
theorem CntZ.new (E:List Edge):CntZ [] (fun _=>0) E:=⟨by simp,fun a=>by simp[ZbE],fun a h=>by cases h⟩
theorem CntZ.congr {m:List (Edge×Value)} {g k:Edge→Int} {E:List Edge} (h:CntZ m g E) (hg:∀e,g e=k e):CntZ m k E:=by rwa [←show g=k from funext hg]
theorem CntZ.mem {m:List (Edge×Value)} {g:Edge→Int} {E:List Edge} (h:CntZ m g E) {a:Edge} (hg:g a≠0):a∈m.map (·.1):=by
 apply Classical.byContradiction
 intro hn;have h1:=h.val a;rw[(ZcS m a).2 hn]at h1;simp only[Option.getD_none,Value.int.injEq,true_and]at h1;exact hg h1.symm
theorem CntZ.put {m:List (Edge×Value)} {g:Edge→Int} {E:List Edge} (h:CntZ m g E) {a:Edge} (ha:a∈E) (v:Int):CntZ (Zr m a (.int .i64 v)) (fun x=>if x=a then v else g x) E:=by
 refine⟨Zi1 h.nd a _,fun x=> ?_,fun x hx=> ?_⟩
 ·rw[ZaB]
  by_cases e:x=a
  ·subst e;simp
  ·simp only[if_neg e];exact h.val x
 ·by_cases e:x=a
  ·rw[e];exact ha
  ·refine h.sub x ?_
   apply Classical.byContradiction
   intro hn;have h1:=(ZcS (Zr m a (.int .i64 v)) x).1;rw[ZaB]at h1;simp only[if_neg e]at h1;exact h1 ((ZcS m x).2 hn) hx
theorem CntZ.len {m:List (Edge×Value)} {g:Edge→Int} {E:List Edge} (h:CntZ m g E):m.length≤E.length:=by
 have:=ZaU _ E h.nd h.sub
 rwa [List.length_map]at this
def ZbB:List Hvy→Edge→Int
 |[],_=>0
 |x::l,e=>(if x.e=e then x.n else 0)+ZbB l e
theorem Zb8 (x:Hvy) (l:List Hvy) (e:Edge):ZbB (x::l) e=(if x.e=e then x.n else 0)+ZbB l e:=rfl
theorem ZeV (e:Edge):ZbB [] e=0:=rfl
theorem Ziu (l m:List Hvy) (e:Edge):ZbB (l++m) e=ZbB l e+ZbB m e:=by
 induction l with
 |nil=>rw[List.nil_append,ZeV];omega
 |cons x l ih=>rw[List.cons_append,Zb8,Zb8,ih];omega
theorem ZcQ {l:List Hvy} {k:Nat} {x:Hvy} (hk:k<l.length) (hx:l[k]=x) (e:Edge):ZbB (l.take (k+1)) e=ZbB (l.take k) e+if e=x.e then x.n else 0:=by
 subst hx;rw[List.take_succ_eq_append_getElem hk,Ziu]
 congr 1
 rw[Zb8,ZeV]
 by_cases h:l[k].e=e
 ·rw[if_pos h,if_pos h.symm];omega
 ·rw[if_neg h,if_neg fun h'=>h h'.symm];omega
theorem Zet {l:List Hvy} {e:Edge} (h:∀x∈l,x.e≠e):ZbB l e=0:=by
 induction l with
 |nil=>rfl
 |cons x l ih=>
  rw[Zb8,if_neg (h x (List.mem_cons_self ..)),ih fun y hy=>h y (List.mem_cons_of_mem _ hy)];rfl
theorem Zlu {l:List Hvy} (hs:Z1 l) {x:Hvy} (hx:x∈l):ZbB l x.e=x.n:=by
 induction l with
 |nil=>cases hx
 |cons y l ih=>
  unfold Z1 at hs;rw[List.pairwise_cons]at hs;rw[Zb8];rcases List.mem_cons.1 hx with rfl|hx
  ·rw[if_pos rfl,Zet]
   ·omega
   ·intro z hz e;have:=hs.1 z hz;rw[e,Zas]at this;cases this
  ·rw[if_neg (fun e=>by have:=hs.1 x hx;rw[e,Zas]at this;cases this),ih hs.2 hx];omega
theorem ZiE {h:Hist}:Z1 (Zc h):=sortH_map.2 edgesR_strict
theorem ZfH {h:Hist} {key:Int}:Z1 (Zq key (Zc h)):=List.Pairwise.filter _ ZiE
theorem mem_ofKeyH {h:Hist} {key:Int} {x:Hvy}:x∈Zq key (Zc h)↔x∈Zc h∧x.e.key=key:=by unfold Zq;rw[List.mem_filter,beq_iff_eq]
section
variable {a b h:Hist}
theorem Zgf (hr:Za h=true) (key:Int) (e:Edge):ZbB (Zq key (Zc h)) e=if e.key=key then (Zf h e:Int) else 0:=by
 by_cases hk:e.key=key
 ·rw[if_pos hk]
  by_cases h0:Zf h e=0
  ·rw[h0,Zet]
   ·rfl
   ·rintro x hx rfl;exact((ZN hr).1 (mem_ofKeyH.1 hx).1).1 h0
  ·have hm:(⟨e,(Zf h e:Int)⟩:Hvy)∈Zq key (Zc h):=mem_ofKeyH.2 ⟨(ZN hr).2 ⟨h0,rfl⟩,hk⟩;exact Zlu ZfH hm
 ·rw[if_neg hk,Zet];rintro x hx rfl;exact hk (mem_ofKeyH.1 hx).2
theorem ZiP (key:Int) {k:Nat} {x:Hvy} (hk:k<(Zq key (Zc h)).length) (hx:(Zq key (Zc h))[k]=x):ZbB ((Zq key (Zc h)).take k) x.e=0:=by
 refine Zet fun y hy e=> ?_
 have h1:Z1 ((Zq key (Zc h)).take k++[x]):=by
  have:=(ZfH (h:=h) (key:=key)).sublist (List.take_sublist (k+1) _)
  rwa [List.take_succ_eq_append_getElem hk,hx]at this
 unfold Z1 at h1;rw[List.pairwise_append]at h1;have:=h1.2.2 y hy x (List.mem_singleton.2 rfl);rw[e,Zas]at this;cases this
def gK (a b:Hist) (ks:List Int) (e:Edge):Int:=if e.key∈ks then (Zf b e:Int)-(Zf a e:Int) else 0
def gB (a b:Hist) (ks la lb:List Hvy) (q:List Int) (e:Edge):Int:=gK a b q e-ZbB la e+ZbB lb e
theorem Znp (e:Edge) (ks:List Hvy) (q:List Int):gK a b q e=gB a b ks [] [] q e:=by unfold gB;rw[ZeV];omega
theorem Zn9 (ha:Za a=true) (hb:Za b=true) {q:List Int} {key:Int} (hn:key∉q) (ks:List Hvy) (e:Edge):gB a b ks (Zq key (Zc a)) (Zq key (Zc b)) q e=gK a b (q++[key]) e:=by
 unfold gB gK;rw[Zgf ha,Zgf hb]
 by_cases h1:e.key=key
 ·rw[if_pos h1,if_pos h1,if_neg (fun h=>hn (h1▸h)),if_pos (by rw[h1];simp)];omega
 ·rw[if_neg h1,if_neg h1]
  by_cases h2:e.key∈q
  ·rw[if_pos h2,if_pos (List.mem_append_left _ h2)];omega
  ·rw[if_neg h2,if_neg (fun h=>(List.mem_append.1 h).elim h2 fun h=>h1 (List.mem_singleton.1 h))];omega
theorem Zpl {q:List Int} {key:Int} (hn:key∉q) (ks:List Hvy) {k:Nat} {x:Hvy} (hk:k<(Zq key (Zc a)).length) (hx:(Zq key (Zc a))[k]=x):
  gB a b ks ((Zq key (Zc a)).take k) [] q x.e=0∧∀e,(if e=x.e then 0-x.n else gB a b ks ((Zq key (Zc a)).take k) [] q e)=gB a b ks ((Zq key (Zc a)).take (k+1)) [] q e:=by
 have hm:x∈Zq key (Zc a):=hx▸List.getElem_mem hk;have hkey:=(mem_ofKeyH.1 hm).2
 have h0:gB a b ks ((Zq key (Zc a)).take k) [] q x.e=0:=by
  unfold gB gK;rw[ZiP key hk hx,if_neg (by rw[hkey];exact hn)];rfl
 refine⟨h0,fun e=> ?_⟩
 by_cases he:e=x.e
 ·rw[if_pos he,he];unfold gB at h0 ⊢;rw[ZcQ hk hx,if_pos rfl];omega
 ·rw[if_neg he];unfold gB;rw[ZcQ hk hx,if_neg he];omega
theorem Zpk (ha:Za a=true) {q:List Int} {key:Int} (hn:key∉q) (ks:List Hvy) {k:Nat} {x:Hvy} (hk:k<(Zq key (Zc b)).length) (hx:(Zq key (Zc b))[k]=x):
  gB a b ks (Zq key (Zc a)) ((Zq key (Zc b)).take k) q x.e=0-(Zf a x.e:Int)∧∀e,(if e=x.e then 0-(Zf a x.e:Int)+x.n else gB a b ks (Zq key (Zc a)) ((Zq key (Zc b)).take k) q e)=gB a b ks (Zq key (Zc a)) ((Zq key (Zc b)).take (k+1)) q e:=by
 have hm:x∈Zq key (Zc b):=hx▸List.getElem_mem hk;have hkey:=(mem_ofKeyH.1 hm).2
 have h0:gB a b ks (Zq key (Zc a)) ((Zq key (Zc b)).take k) q x.e=0-(Zf a x.e:Int):=by
  unfold gB gK;rw[ZiP key hk hx,if_neg (by rw[hkey];exact hn),Zgf ha,if_pos hkey];omega
 refine⟨h0,fun e=> ?_⟩
 by_cases he:e=x.e
 ·rw[if_pos he,he];unfold gB at h0 ⊢;rw[ZcQ hk hx,if_pos rfl];omega
 ·rw[if_neg he];unfold gB;rw[ZcQ hk hx,if_neg he];omega
def ZX (g:Edge→Int):List Edge→List Hvy
 |[]=>[]
 |e::l=>if g e=0 then ZX g l else ⟨e,g e⟩::ZX g l
theorem Zh6 (g:Edge→Int) (l m:List Edge):ZX g (l++m)=ZX g l++ZX g m:=by
 induction l with
 |nil=>rfl
 |cons x l ih=>
  show(if g x=0 then ZX g (l++m) else (⟨x,g x⟩:Hvy)::ZX g (l++m))=(if g x=0 then ZX g l else (⟨x,g x⟩:Hvy)::ZX g l)++ZX g m
  split
  ·exact ih
  ·rw[ih];rfl
theorem ZjC {g:Edge→Int} {l:List Edge} {k:Nat} {x:Edge} {v:Int} (hk:k<l.length) (hx:l[k]=x) (hv:g x=v):ZX g (l.take (k+1))=if v=0 then ZX g (l.take k) else ZX g (l.take k)++[⟨x,v⟩]:=by
 subst hx hv;rw[List.take_succ_eq_append_getElem hk,Zh6]
 show _++(if g l[k]=0 then [] else [(⟨l[k],g l[k]⟩:Hvy)])=_
 split
 ·exact List.append_nil _
 ·rfl
theorem mem_listZ {g:Edge→Int} {l:List Edge} {x:Hvy}:x∈ZX g l↔x.e∈l∧x.n=g x.e∧x.n≠0:=by
 induction l with
 |nil=>simp[ZX]
 |cons y l ih=>
  unfold ZX;obtain⟨xe,xn⟩:=x;simp only at ih ⊢
  split
  ·rename_i h0
   rw[ih,List.mem_cons]
   constructor
   ·exact fun h=>⟨.inr h.1,h.2⟩
   ·rintro⟨rfl|h,h1,h2⟩
    ·exact absurd (h1.trans h0) h2
    ·exact⟨h,h1,h2⟩
  ·rename_i h0
   rw[List.mem_cons,ih,List.mem_cons,Hvy.mk.injEq]
   constructor
   ·rintro(⟨rfl,rfl⟩|h)
    ·exact⟨.inl rfl,rfl,h0⟩
    ·exact⟨.inr h.1,h.2⟩
   ·rintro⟨rfl|h,h1,h2⟩
    ·exact .inl ⟨rfl,h1⟩
    ·exact .inr ⟨h,h1,h2⟩
theorem ZkN (g:Edge→Int) (l:List Edge):(ZX g l).length≤l.length:=by
 induction l with
 |nil=>simp[ZX]
 |cons y l ih=>
  unfold ZX
  split
  ·exact Nat.le_succ_of_le ih
  ·simpa using ih
theorem ZjD {g:Edge→Int} {l:List Edge} (h:l.Pairwise fun a b=>ltE a b=true):Z1 (ZX g l):=by
 induction l with
 |nil=>exact List.Pairwise.nil
 |cons y l ih=>
  rw[List.pairwise_cons]at h;unfold ZX
  split
  ·exact ih h.2
  ·unfold Z1;rw[List.pairwise_cons];exact⟨fun z hz=>h.1 z.e (mem_listZ.1 hz).1,ih h.2⟩
theorem Zld {l:List Edge} (h:l.Nodup):(ddE l).Pairwise (fun a b=>ltE a b=true)∧∀e,e∈ddE l↔e∈l:=by
 have hp:(Zaf l).Perm l:=List.mergeSort_perm _ _
 have hs:(Zaf l).Pairwise fun a b=>ltE a b=true:=by
  have h1:(Zaf l).Pairwise fun a b=>(!ltOf Zan b a)=true:=List.pairwise_mergeSort ZcU ZcV l
  have h2:(Zaf l).Pairwise (·≠·):=hp.nodup_iff.2 h;refine(h1.and h2).imp fun {a b} hab=> ?_
  have h3:=hab.1;rw[Zal,Bool.not_eq_true']at h3
  cases h4:ltE a b with
  |true=>rfl
  |false=>exact absurd (Zde h4 h3) hab.2
 rw[←ZdN hp,Zf4 hs];exact⟨hs,fun e=>hp.mem_iff⟩
theorem ZjE (ha:Za a=true) (hb:Za b=true) {m:List (Edge×Value)} {E:List Edge} (h:CntZ m (gK a b (ZT a b)) E):ZX (gK a b (ZT a b)) (ddE (m.map (·.1)))=Zbf a b:=by
 obtain⟨h1,h2⟩:=Zld h.nd;refine Zmg ha hb (ZjD h1) fun x=> ?_
 rw[mem_listZ,h2]
 have hg:∀e,gK a b (ZT a b) e≠0→e.key∈ZT a b:=fun e he=>by
  apply Classical.byContradiction
  intro hn;unfold gK at he;rw[if_neg hn]at he;exact he rfl
 constructor
 ·rintro⟨_,k1,k2⟩;have hk:=hg x.e (by rw[←k1];exact k2);refine⟨hk,?_,k2⟩;unfold gK at k1
  rwa [if_pos hk]at k1
 ·rintro⟨hk,k1,k2⟩;have k3:x.n=gK a b (ZT a b) x.e:=by unfold gK;rw[if_pos hk];exact k1
  exact⟨h.mem (by rw[←k3];exact k2),k3,k2⟩
end
end
/- How edges change:derive.touched. -/
section
open Go.RowKit
theorem Zar {h:Hist} (hl:Zj h=true):h.txs.length≤12∧(∀t∈h.txs,t.ops.length≤24)∧h.ords.length≤24:=⟨(Zbj hl).1,(Zbj hl).2,(ZfL hl).1⟩
section
variable {F G:Nat→Prop} {w:World} {ta tb:List HTx} {oa ob:List HOrd} {A A':Option Addr} {c c':Nat} {B B':Option Addr} {d d':Nat}
set_option maxRecDepth 100000 in
set_option maxHeartbeats 2000000 in
theorem Zeh (HA:Hist.lies F w ⟨ta,oa,A,c,B,d⟩) (HB:Hist.lies G w ⟨tb,ob,A',c',B',d'⟩) (hr:(Za ⟨ta,oa,A,c,B,d⟩&&Za ⟨tb,ob,A',c',B',d'⟩)=false):
  Calls Tryz.prog 58 #[.agg #[.slice A ta.length c,.slice B oa.length d],.agg #[.slice A' tb.length c',.slice B' ob.length d']] w fun e w'=>e= .returned (.tuple #[.slice none 0 0,.int .i64 5])∧Upd No w w':=by
 obtain⟨z,hz⟩:∃z,w.heap.size=z:=⟨_,rfl⟩;obtain⟨w1,hw1⟩:∃w1,w.alloc (.cells #[.slice A ta.length c,.slice B oa.length d] 29)=w1:=⟨_,rfl⟩;have s1:w1.heap.size=z+1:=by rw[←hw1,←hz];simp
 obtain⟨w2,hw2⟩:∃w2,w1.alloc (.cells #[.slice A' tb.length c',.slice B' ob.length d'] 29)=w2:=⟨_,rfl⟩;have s2:w2.heap.size=z+1+1:=by rw[←hw2,←s1];simp
 have u1:Upd No w w1:=by rw[←hw1];exact(Upd.refl No w).alloc _
 have u2:Upd No w1 w2:=by rw[←hw2];exact(Upd.refl No w1).alloc _
 have bA:Blk w2 z 29 [.slice A ta.length c,.slice B oa.length d]:=by
  have:Blk w1 z 29 [.slice A ta.length c,.slice B oa.length d]:=by rw[←hw1,←hz];exact Blk.new w _ _
  exact this.upd u2 id
 have bB:Blk w2 (z+1) 29 [.slice A' tb.length c',.slice B' ob.length d']:=by rw[←hw2,←s1];exact Blk.new w1 _ _
 have d0:∀W,Upd No w2 W→W.cell? ⟨z,0,none⟩=some (.slice A ta.length c):=fun W u=>(bA.upd u id).cell 0
 have d1:∀W,Upd No w2 W→W.cell? ⟨z,1,none⟩=some (.slice B oa.length d):=fun W u=>(bA.upd u id).cell 1
 have d2:∀W,Upd No w2 W→W.cell? ⟨z+1,0,none⟩=some (.slice A' tb.length c'):=fun W u=>(bB.upd u id).cell 0
 have d3:∀W,Upd No w2 W→W.cell? ⟨z+1,1,none⟩=some (.slice B' ob.length d'):=fun W u=>(bB.upd u id).cell 1
 have hxz:Upd No w2 w2:=Upd.refl _ _;have UB:=Qh (u1.trans u2);have CA:=Qh (Znr (HA.upd UB.out (fun _ _=>id)) (HB.upd UB.out (fun _ _=>id)) hr);clear HA HB bA bB u1 u2 hr
 go_enter Tryz.func58,Tryz.ntmps58
 go_wp2_with fail
 refine(CA.out).mono ?_;rintro e w3 ⟨rfl,hu3⟩;go_wp2
 go_ret2
 exact⟨rfl,(UB.out.trans hu3).alloc _⟩
set_option maxRecDepth 100000 in
set_option maxHeartbeats 2000000 in
theorem Zhi (HA:Hist.lies F w ⟨ta,oa,A,c,B,d⟩) (HB:Hist.lies G w ⟨tb,ob,A',c',B',d'⟩) (hra:Za ⟨ta,oa,A,c,B,d⟩=true) (hrb:Za ⟨tb,ob,A',c',B',d'⟩=true) (la:Zj ⟨ta,oa,A,c,B,d⟩=true) (lb:Zj ⟨tb,ob,A',c',B',d'⟩=true)
  {ks:List Int} (hk:ZT ⟨ta,oa,A,c,B,d⟩ ⟨tb,ob,A',c',B',d'⟩=ks):
  Calls Tryz.prog 58 #[.agg #[.slice A ta.length c,.slice B oa.length d],.agg #[.slice A' tb.length c',.slice B' ob.length d']] w fun e w'=>∃A' c',e= .returned (.tuple #[.slice A' ks.length c',.int .i64 0])∧w'.ownsRow w.heap.size 3 1 (.slice A' ks.length c') ks.length (ks.map (Value.int .i64))∧Upd No w w':=by
 obtain⟨a1,a2,a3⟩:=Zar la;obtain⟨b1,b2,b3⟩:=Zar lb;simp only at a1 a2 a3 b1 b2 b3;obtain⟨z,hz⟩:∃z,w.heap.size=z:=⟨_,rfl⟩;obtain⟨w1,hw1⟩:∃w1,w.alloc (.cells #[.slice A ta.length c,.slice B oa.length d] 29)=w1:=⟨_,rfl⟩;have s1:w1.heap.size=z+1:=by rw[←hw1,←hz];simp
 obtain⟨w2,hw2⟩:∃w2,w1.alloc (.cells #[.slice A' tb.length c',.slice B' ob.length d'] 29)=w2:=⟨_,rfl⟩;have s2:w2.heap.size=z+1+1:=by rw[←hw2,←s1];simp
 have u1:Upd No w w1:=by rw[←hw1];exact(Upd.refl No w).alloc _
 have u2:Upd No w1 w2:=by rw[←hw2];exact(Upd.refl No w1).alloc _
 have bA:Blk w2 z 29 [.slice A ta.length c,.slice B oa.length d]:=by
  have:Blk w1 z 29 [.slice A ta.length c,.slice B oa.length d]:=by rw[←hw1,←hz];exact Blk.new w _ _
  exact this.upd u2 id
 have bB:Blk w2 (z+1) 29 [.slice A' tb.length c',.slice B' ob.length d']:=by rw[←hw2,←s1];exact Blk.new w1 _ _
 have d0:∀W,Upd No w2 W→W.cell? ⟨z,0,none⟩=some (.slice A ta.length c):=fun W u=>(bA.upd u id).cell 0
 have d1:∀W,Upd No w2 W→W.cell? ⟨z,1,none⟩=some (.slice B oa.length d):=fun W u=>(bA.upd u id).cell 1
 have d2:∀W,Upd No w2 W→W.cell? ⟨z+1,0,none⟩=some (.slice A' tb.length c'):=fun W u=>(bB.upd u id).cell 0
 have d3:∀W,Upd No w2 W→W.cell? ⟨z+1,1,none⟩=some (.slice B' ob.length d'):=fun W u=>(bB.upd u id).cell 1
 have hxz:Upd No w2 w2:=Upd.refl _ _;have UB:=Qh (u1.trans u2);have CA:=Qh (Zpm (HA.upd UB.out (fun _ _=>id)) (HB.upd UB.out (fun _ _=>id)) hra hrb (by omega) (by omega) (by omega) (by omega));have L1:(Zp ta tb).length≤12:=by have:(Zp ta tb).length≤ta.length:=List.length_filter_le _ _;omega
 have L2:(Zp tb ta).length≤12:=by have:(Zp tb ta).length≤tb.length:=List.length_filter_le _ _;omega
 have L3:(ZA oa ob).length≤24:=by have:(ZA oa ob).length≤oa.length:=List.length_filter_le _ _;omega
 have L4:(ZA ob oa).length≤24:=by have:(ZA ob oa).length≤ob.length:=List.length_filter_le _ _;omega
 have L5:∀t∈Zp ta tb++Zp tb ta,t.ops.length≤1000:=fun t ht=>by
  rcases List.mem_append.1 ht with h|h
  ·have:=a2 t (List.mem_filter.1 h).1;omega
  ·have:=b2 t (List.mem_filter.1 h).1;omega
 have HK:=Qh (show Zbg (twL (Zp ta tb++Zp tb ta)++(ZA oa ob++ZA ob oa).map (·.key))=ks from hk);have CK:=Qh (fun(W:World) (v:Value) (h:DelX (fun i=>w2.heap.size≤i) W v (Zp ta tb) (Zp tb ta) (ZA oa ob) (ZA ob oa))=>Zoc h (by omega) L5 (by omega));rw[HK.out]at CK;clear HA HB bA bB u1 u2 hk L1 L2 L3 L4 L5 a1 a2 a3 b1 b2 b3
 go_enter Tryz.func58,Tryz.ntmps58
 go_wp2_with fail
 refine(CA.out).mono ?_;rintro e w3 ⟨v,rfl,hd,hu3⟩;have HD:=Qh hd;obtain⟨A1,c1,l1,A2,c2,l2,B1,d1,o1,B2,d2,o2,rfl,hd⟩:=hd;clear hd;obtain⟨w4,hw4⟩:∃w4,w3.alloc (.cells #[.slice A1 l1.length c1,.slice A2 l2.length c2,.slice B1 o1.length d1,.slice B2 o2.length d2] 61)=w4:=⟨_,rfl⟩;have u4:Upd No w3 w4:=by rw[←hw4];exact(Upd.refl No w3).alloc _
 have b4:Blk w4 w3.heap.size 61 [.slice A1 l1.length c1,.slice A2 l2.length c2,.slice B1 o1.length d1,.slice B2 o2.length d2]:=by rw[←hw4];exact Blk.new w3 _ _
 have f0:=b4.cell 0;have f1:=b4.cell 1;have f2:=b4.cell 2;have f3:=b4.cell 3;simp only[Qz,Qs]at f0 f1 f2 f3;have CK4:=Qh (CK.out w4 _ (HD.out.upd u4 (fun _ _=>id)));have HU4:=Qh ((UB.out.trans hu3).trans u4);clear u4 b4 hu3
 go_wp2_with fail
 refine(CK4.out).mono ?_;rintro e w5 ⟨A5,c5,rfl,ho5,hu5⟩;go_wp2
 go_ret2
 exact⟨A5,c5,rfl,ZJ ho5 HU4.out.size,HU4.out.trans hu5⟩
end
end
end Go.Proofs.YtblplapkdmhikaaGreat
