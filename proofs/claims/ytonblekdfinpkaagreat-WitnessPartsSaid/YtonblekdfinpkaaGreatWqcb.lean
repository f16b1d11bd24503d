/- Witnesses, plain: there is one just if the history has the phenomenon; it is right, and none that is right is ahead of it. -/
import Derived.Test.YtonblekdfinpkaaGreatWqap
import Derived.Test.YtonblekdfinpkaaGreatWqbi
import Derived.Test.YtonblekdfinpkaaGreatWqbj
import Derived.Test.YtonblekdfinpkaaGreatWqbk
import Derived.Test.YtonblekdfinpkaaGreatWqbp
import Derived.Test.YtonblekdfinpkaaGreatWqbr
import Derived.Test.YtonblekdfinpkaaGreatWqbu
import Derived.Test.YtonblekdfinpkaaGreatWqbv
import Derived.Test.YtonblekdfinpkaaGreatWqbx
import Derived.Test.YtonblekdfinpkaaGreatWqca
namespace Go.Proofs.YtonblekdfinpkaaGreat
set_option linter.unusedVariables false
set_option linter.unusedSimpArgs false
section
section
variable {h:Hist}
theorem Zhp {all d:List Edge} {mask must:Int} (hl:all.length≤100000) (hd:ZI all mask must=d) (hne:d≠[]):Zeq d mask must=true∧ZbL d=true∧∀e∈d,e∈all:=by
 have hs:=Znt (l:=all) (mask:=mask) (must:=must) hl;rw[hd]at hs;rcases hs with hs|hs
 ·have hc:=Zn3 hs (List.length_pos_iff.2 hne);have hk:∀e∈d,1≤e.k∧e.k≤3:=fun e he=>⟨(hs.kind e he).1.1,(hs.kind e he).1.2.1⟩
  refine⟨?_,hc,fun e he=>(hs.kind e he).2⟩;unfold Zeq;rw[hc,Bool.true_and,Bool.and_eq_true,List.all_eq_true];refine⟨fun e he=> ?_,?_⟩
  ·obtain⟨k1,k2,k3⟩:=(hs.kind e he).1;unfold ZU;rw[decide_eq_true k1,decide_eq_true k2,k3];rfl
  ·cases hn:ZaH must with
   |false=>rfl
   |true=>rw[Zk1 hk,hs.has hn];rfl
 ·exact absurd hs hne
theorem Zm8 (a:HBad):ZeR a a=false:=by unfold ZeR;simp
end
end
/- Witnesses,plain:the witness of edges is the first of those of their components. -/
section
/-! walks in order -/
theorem ZfW (a:List Edge):Zx a a=false:=by
 unfold Zx;rw[if_pos rfl]
 cases h:ZaL a a with
 |false=>rfl
 |true=>
  exfalso
  have key:∀l:List Edge,¬ZaL l l=true:=fun l=>by
   induction l with
   |nil=>simp[ZaL]
   |cons x l ih=>
    rw[ZfV];rintro(h|h)
    ·rw[ZdP]at h;cases h
    ·exact ih h.2
  exact key a h
theorem ZgK {a b c:List Edge} (h:Zx a b=true) (k:Zx b c=true):Zx a c=true:=by
 unfold Zx at*
 by_cases h1:a.length=b.length
 ·rw[if_pos h1]at h
  by_cases h2:b.length=c.length
  ·rw[if_pos h2]at k;rw[if_pos (h1.trans h2)];exact Zh8 h k
  ·rw[if_neg h2,decide_eq_true_eq]at k;rw[if_neg (by omega)];exact decide_eq_true (by omega)
 ·rw[if_neg h1,decide_eq_true_eq]at h
  by_cases h2:b.length=c.length
  ·rw[if_neg (by omega)];exact decide_eq_true (by omega)
  ·rw[if_neg h2,decide_eq_true_eq]at k;rw[if_neg (by omega)];exact decide_eq_true (by omega)
theorem ZjD {a b:List Edge} (h:Zx a b=false) (k:Zx b a=false):a=b:=by
 unfold Zx at*
 by_cases h1:a.length=b.length
 ·rw[if_pos h1]at h;rw[if_pos h1.symm]at k;exact Zk7 h1 h k
 ·rw[if_neg h1,decide_eq_false_iff_not]at h;rw[if_neg (by omega),decide_eq_false_iff_not]at k;omega
theorem Zg8 {a c:List Edge} (b:List Edge) (h:Zx a c=true):Zx a b=true∨Zx b c=true:=by
 cases h1:Zx a b with
 |true=>exact Or.inl rfl
 |false=>
  cases h2:Zx b a with
  |true=>exact Or.inr (ZgK h2 h)
  |false=>exact Or.inr (ZjD h1 h2▸h)
def Zde:List (List Edge)→Option (List Edge)→Option (List Edge)
 |[],a=>a
 |x::xs,a=>Zde xs (if x≠[]∧(∀b,a=some b→Zx x b=true) then some x else a)
theorem Zik:∀(xs:List (List Edge)) (a:Option (List Edge)),Zde xs a=none→a=none∧∀x∈xs,x=[]
 |[],a,h=>⟨h,fun x hx=>by cases hx⟩
 |x::xs,a,h=>by
  unfold Zde at h;obtain⟨h1,h2⟩:=Zik xs _ h
  by_cases hc:x≠[]∧(∀b,a=some b→Zx x b=true)
  ·rw[if_pos hc]at h1;cases h1
  ·rw[if_neg hc]at h1;refine⟨h1,fun y hy=> ?_⟩;rcases List.mem_cons.1 hy with rfl|hy
   ·exact Classical.byContradiction fun hne=>hc ⟨hne,fun b hb=>by rw[h1]at hb;cases hb⟩
   ·exact h2 y hy
theorem Zfr:∀(xs:List (List Edge)) (a:Option (List Edge)) (b:List Edge),Zde xs a=some b→(a=some b∨(b∈xs∧b≠[]))∧(∀x∈xs,x≠[]→Zx x b=false)∧∀c,a=some c→Zx c b=false
 |[],a,b,h=>⟨Or.inl h,(fun x hx=>by cases hx),(fun c hc=>by rw[show a=some b from h]at hc;cases hc;exact ZfW _)⟩
 |x::xs,a,b,h=>by
  unfold Zde at h;obtain⟨h1,h2,h3⟩:=Zfr xs _ b h
  by_cases hc:x≠[]∧(∀b,a=some b→Zx x b=true)
  ·rw[if_pos hc]at h1 h3;have hx:=h3 x rfl;refine⟨?_,fun y hy hne=> ?_,fun c hca=> ?_⟩
   ·rcases h1 with h1|h1
    ·cases h1;exact Or.inr ⟨List.mem_cons_self ..,hc.1⟩
    ·exact Or.inr ⟨List.mem_cons_of_mem _ h1.1,h1.2⟩
   ·rcases List.mem_cons.1 hy with rfl|hy
    ·exact hx
    ·exact h2 y hy hne
   ·cases hq:Zx c b with
    |false=>rfl
    |true=>
     rcases Zg8 x hq with h4|h4
     ·have:=ZgK h4 (hc.2 c hca);rw[ZfW]at this;cases this
     ·rw[hx]at h4;cases h4
  ·rw[if_neg hc]at h1 h3;refine⟨h1.imp id fun h=>⟨List.mem_cons_of_mem _ h.1,h.2⟩,fun y hy hne=> ?_,h3⟩;rcases List.mem_cons.1 hy with rfl|hy
   ·cases ha:a with
    |none=>exact absurd ⟨hne,fun b hb=>by rw[ha]at hb;cases hb⟩ hc
    |some c=>
     have hn:Zx y c=false:=by
      cases hq:Zx y c with
      |false=>rfl
      |true=>exact absurd ⟨hne,fun b hb=>by rw[ha]at hb;cases hb;exact hq⟩ hc
     cases hq:Zx y b with
     |false=>rfl
     |true=>
      rcases Zg8 c hq with h4|h4
      ·rw[hn]at h4;cases h4
      ·rw[h3 c ha]at h4;cases h4
   ·exact h2 y hy hne
/-! components -/
def ZY (l:List Edge) (c:List Nat):List Edge:=(Ze l 14).filter fun e=>decide (Zz (Zcx l 14) e.f∈c)&&decide (Zz (Zcx l 14) e.t∈c)
def Zdl (l:List Edge):List (List Nat):=Zas (ZE (Zeb l 14)) (Zcx l 14).length
theorem ZjJ {l:List Edge} {c:List Nat}:∀e∈ZY l c,e∈l:=fun e he=>(memKept.1 (List.mem_filter.1 he).1).1
theorem ZoJ (l:List Edge) (c:List Nat):(ZY l c).length≤l.length:=Nat.le_trans (List.length_filter_le _ _) (List.length_filter_le _ _)
theorem ZiA {D o:List Edge} (hc:ZbL o=true) (hs:∀e∈o,e∈D) {a b:Edge} (ha:a∈o) (hb:b∈o):RchE D a.f b.f:=by
 obtain⟨h0,hn⟩:=ZeK hc;obtain⟨i,hi,rfl⟩:=List.mem_iff_getElem.1 ha;obtain⟨j,hj,rfl⟩:=List.mem_iff_getElem.1 hb
 have key:∀k:Nat,RchE D o[i].f (o[(i+k)%o.length]'(Nat.mod_lt _ h0)).f:=by
  intro k
  induction k with
  |zero=>
   have e:(i+0)%o.length=i:=Nat.mod_eq_of_lt hi;simp only[e];exact RchE.refl _
  |succ k ih=>
   have hm:=Nat.mod_lt (i+k) h0;have h1:=hn _ hm;have e:((i+k)%o.length+1)%o.length=(i+(k+1))%o.length:=by rw[Nat.mod_add_mod];rfl
   simp only[e]at h1;rw[←h1];exact ih.step (hs _ (List.getElem_mem hm)) rfl
 have h1:=key (o.length-i+j)
 have e:(i+(o.length-i+j))%o.length=j:=by
  rw[show i+(o.length-i+j)=o.length+j by omega,Nat.add_mod_left,Nat.mod_eq_of_lt hj]
 simp only[e]at h1;exact h1
theorem ZlX {l o:List Edge} (hc:ZbL o=true) (hs:∀e∈o,e∈Ze l 14):∃c∈Zdl l,∀e∈o,e∈ZY l c:=by
 obtain⟨h0,hn⟩:=ZeK hc;have hok:=ZhV l 14;have hq:=Zqq l 14;have hm:=Zlp l 14;obtain⟨e0,he0⟩:=List.exists_mem_of_ne_nil o (List.length_pos_iff.1 h0)
 have hlab:∀e∈o,ZE (Zeb l 14) (Zz (Zcx l 14) e.f)=ZE (Zeb l 14) (Zz (Zcx l 14) e0.f):=fun e he=>
  (ZjH hq).2 ⟨(Zmd hok hq hm (hok.has e (hs e he)).1 (ZiA hc hs he he0)).2,(Zmd hok hq hm (hok.has e0 (hs e0 he0)).1 (ZiA hc hs he0 he)).2⟩
 have hto:∀e∈o,∃e'∈o,e.t=e'.f:=fun e he=>by
  obtain⟨i,hi,rfl⟩:=List.mem_iff_getElem.1 he;exact⟨_,List.getElem_mem _,hn i hi⟩
 obtain⟨r,hr⟩:∃r,ZE (Zeb l 14) (Zz (Zcx l 14) e0.f)=r:=⟨_,rfl⟩;have hrr:ZE (Zeb l 14) r=r:=by rw[←hr];exact ZjG hq _
 have hp0:=ZcX (hok.has e0 (hs e0 he0)).1;have hrN:r<(Zcx l 14).length:=by have:=ZiU (Zeb l 14) (Zz (Zcx l 14) e0.f);omega
 refine⟨Zc9 (ZE (Zeb l 14)) (Zcx l 14).length r,List.mem_map.2 ⟨r,mem_rootsN.2 ⟨hrN,hrr⟩,rfl⟩,fun e he=> ?_⟩;unfold ZY;rw[List.mem_filter,Bool.and_eq_true,decide_eq_true_eq,decide_eq_true_eq];refine⟨hs e he,mem_membN.2 ⟨ZcX (hok.has e (hs e he)).1,(hlab e he).trans hr⟩,?_⟩;obtain⟨e',he',ht⟩:=hto e he;rw[ht];exact mem_membN.2 ⟨ZcX (hok.has e' (hs e' he')).1,(hlab e' he').trans hr⟩
theorem ZoT {l o:List Edge} {mask must:Int} (hf:Zeq o mask must=true) (hs:∀e∈o,e∈l):ZbL o=true∧∀e∈o,e∈Ze l 14:=by
 unfold Zeq at hf;rw[Bool.and_eq_true,Bool.and_eq_true,List.all_eq_true]at hf;refine⟨hf.1.1,fun e he=>memKept.2 ⟨hs e he,?_⟩⟩;have:=ZaO (hf.1.2 e he);rw[ZnB];exact decide_eq_true ⟨this.1,this.2.1⟩
theorem ZlQ (l:List Edge) (mask must:Int) (hl:l.length≤100000):Zde ((Zdl l).map fun c=>ZI (ZY l c) mask must) none=if ZI l mask must=[] then none else some (ZI l mask must):=by
 obtain⟨d,hd⟩:∃d,ZI l mask must=d:=⟨_,rfl⟩;rw[hd];have hli:∀c,(ZY l c).length≤100000:=fun c=>Nat.le_trans (ZoJ l c) hl
 by_cases he:d=[]
 ·rw[if_pos he]
  cases hf:Zde ((Zdl l).map fun c=>ZI (ZY l c) mask must) none with
  |none=>rfl
  |some b=>
   obtain⟨h1,_,_⟩:=Zfr _ _ _ hf;rcases h1 with h1|⟨h1,h2⟩
   ·cases h1
   ·obtain⟨c,_,hb⟩:=List.mem_map.1 h1;obtain⟨g1,_,g3⟩:=Zhp (hli c) hb h2;have:=Zim hl (fun e he=>ZjJ e (g3 e he)) (hd.trans he);rw[g1]at this;cases this
 ·rw[if_neg he];obtain⟨f1,f2,f3⟩:=Zhp hl hd he;obtain⟨_,hk⟩:=ZoT f1 f3;obtain⟨c,hc,hin⟩:=ZlX f2 hk
  have hne:ZI (ZY l c) mask must≠[]:=fun e=>by
   have:=Zim (hli c) hin e;rw[f1]at this;cases this
  have hdl:=Zin (hli c) hin rfl (List.length_pos_iff.2 hne) f1
  cases hf:Zde ((Zdl l).map fun c=>ZI (ZY l c) mask must) none with
  |none=>exact absurd ((Zik _ _ hf).2 _ (List.mem_map.2 ⟨c,hc,rfl⟩)) hne
  |some b=>
   obtain⟨h1,h2,_⟩:=Zfr _ _ _ hf;rcases h1 with h1|⟨h1,h3⟩
   ·cases h1
   ·obtain⟨c',_,hb⟩:=List.mem_map.1 h1;obtain⟨g1,_,g3⟩:=Zhp (hli c') hb h3;have k1:=Zin hl (fun e he=>ZjJ e (g3 e he)) hd (List.length_pos_iff.2 he) g1;have k2:=h2 _ (List.mem_map.2 ⟨c,hc,rfl⟩) hne
    have k3:Zx d b=false:=by
     cases hq:Zx d b with
     |false=>rfl
     |true=>
      rcases Zg8 (ZI (ZY l c) mask must) hq with h4|h4
      ·rw[hdl]at h4;cases h4
      ·rw[k2]at h4;cases h4
    rw[ZjD k1 k3]
def Zes (l:List Edge) (p:Int):List (List Nat)→HWit×Bool→HWit×Bool
 |[],a=>a
 |c::cs,a=>Zes l p cs (if ((ZX (ZY l c) p).2&&(!a.2||Zdc (ZX (ZY l c) p).1 a.1))=true then ((ZX (ZY l c) p).1,true) else a)
def Zkq (p:Int):Option (List Edge)→HWit×Bool
 |none=>(Zcm,false)
 |some d=>(⟨p,d,ZdH⟩,true)
theorem Zja {p:Int} (hm:¬Zac p=0) (l:List Edge):ZX l p=Zkq p (if ZI l (Zac p) (ZaI p)=[] then none else some (ZI l (Zac p) (ZaI p))):=by
 unfold ZX;rw[if_neg hm]
 split<;>rfl
theorem ZjC (p:Int) (a b:List Edge):Zdc ⟨p,a,ZdH⟩ ⟨p,b,ZdH⟩=Zx a b:=by
 unfold Zdc;simp only
 split
 ·rename_i h;rw[h,ZfW];exact Zm8 _
 ·rfl
theorem ZiE (l:List Edge) {p:Int} (hm:Zac p=0):∀(cs:List (List Nat)),Zes l p cs (Zcm,false)=(Zcm,false)
 |[]=>rfl
 |c::cs=>by
  unfold Zes;rw[show ZX (ZY l c) p=(Zcm,false) by unfold ZX;rw[if_pos hm]];exact ZiE l hm cs
theorem ZiF (l:List Edge) {p:Int} (hm:¬Zac p=0):∀(cs:List (List Nat)) (a:Option (List Edge)),Zes l p cs (Zkq p a)=Zkq p (Zde (cs.map fun c=>ZI (ZY l c) (Zac p) (ZaI p)) a)
 |[],_=>rfl
 |c::cs,a=>by
  rw[List.map_cons];unfold Zes Zde;rw[←ZiF l hm cs,Zja hm]
  congr 1
  by_cases he:ZI (ZY l c) (Zac p) (ZaI p)=[]
  ·have hE:(if ZI (ZY l c) (Zac p) (ZaI p)≠[]∧(∀b,a=some b→Zx (ZI (ZY l c) (Zac p) (ZaI p)) b=true) then some (ZI (ZY l c) (Zac p) (ZaI p)) else a)=a:=if_neg (fun h=>h.1 he);rw[if_pos he,hE];rfl
  ·rw[if_neg he]
   cases a with
   |none=>
    have hE:(if ZI (ZY l c) (Zac p) (ZaI p)≠[]∧(∀b,none=some b→Zx (ZI (ZY l c) (Zac p) (ZaI p)) b=true) then some (ZI (ZY l c) (Zac p) (ZaI p)) else none)=some (ZI (ZY l c) (Zac p) (ZaI p)):=if_pos ⟨he,fun b hb=>by cases hb⟩;rw[hE];rfl
   |some b=>
    by_cases hb:Zx (ZI (ZY l c) (Zac p) (ZaI p)) b=true
    ·rw[if_pos (show _=true by unfold Zkq;simp only[ZjC,hb];rfl),if_pos ⟨he,fun b' hb'=>by cases hb';exact hb⟩];rfl
    ·rw[if_neg (show¬_=true by unfold Zkq;simp only[ZjC];simpa using hb),if_neg (fun h=>hb (h.2 b rfl))]
theorem Zm1 (l:List Edge) (p:Int) (hl:l.length≤100000):Zes l p (Zdl l) (Zcm,false)=ZX l p:=by
 by_cases hm:Zac p=0
 ·rw[ZiE l hm];unfold ZX;rw[if_pos hm]
 ·rw[Zja hm,←ZlQ l _ _ hl];exact ZiF l hm _ none
end
/- Witnesses:the law that they are what the document says:the walk. -/
section
open Go.RowKit
section
variable {w:World} {A B:Option Addr} {c d n m:Nat} {ap a0 a1 a2 a3 a4 bp b0 b1 b2 b3 b4:Int} {aw bw:List Edge} {v:Bool}
end
theorem ZnR (l:List Edge) (p:Int) (hl:l.length≤2000):(ZX l p).1.walk.length≤2000:=by
 unfold ZX
 split
 ·simp[Zcm]
 ·split
  ·simp[Zcm]
  ·rcases ZrT l (Zac p) (ZaI p) (by omega)with h|h
   ·simp only;omega
   ·simp only;rw[h];simp
end
/- Witnesses:the law that the witness of edges is the first of those of their components:the walk (WitnessParts). -/
section
open Go.RowKit
theorem ZoZ {w W0 W:World} {g N K:Nat} {q:List HArc} (h:DMa w g N K q W0) (u:Upd No W0 W) (hK:K<100000) (a:HArc):
  Calls Tryz.prog 12 #[.pointer (some ⟨g,0,none⟩),.agg a.cells.toArray] W fun e w'=>e= .returned (.int .i64 (Zhu N q a))∧DMa w g N (K+1) (ZbP N q a) w'∧Upd (fun i=>i<W0.heap.size) W w':=by
 obtain⟨G,h1,h2,h3⟩:=h
 have hold:∀k,G k→k<W0.heap.size:=by
  rcases h1 with ⟨e,_⟩|⟨g',_,out,inn,ob,ib,oh,ih,base,k1,_,_⟩
  ·cases e
  ·exact k1.old
 refine(Zq1 (h1.no u) hK a).mono ?_;rintro e w' ⟨G',rfl,k1,k2,k3⟩;refine⟨rfl,⟨G',k1,(h2.trans u).then_ k2 fun i e=> .inr (h3 i e),fun k hk=> ?_⟩,k2.mono fun i _ e=>hold i e⟩;have:=(h2.trans u).size;rcases k3 k hk with e|e
 ·exact h3 k e
 ·omega
theorem Zdr {x:Int}:∀(l:List Int) (k:Nat),x∈l→Zdt x l k=((Zz l x+k:Nat):Int)
 |[],_,h=>by cases h
 |y::l,k,h=>by
  unfold Zdt
  by_cases e:y=x
  ·rw[if_pos e];have:Zz (y::l) x=0:=by unfold Zz;rw[e];simp[List.findIdx_cons]
   rw[this,Nat.zero_add]
  ·rw[if_neg e,Zdr l (k+1) ((List.mem_cons.1 h).resolve_left fun h=>e h.symm)]
   have:Zz (y::l) x=Zz l x+1:=by
    unfold Zz;rw[List.findIdx_cons,show(y==x)=false by simpa using e];rfl
   rw[this]
   congr 1
   omega
theorem Ziq (xs:List Edge) (e:Edge):Zm (xs++[e])=Zm xs++e.cells:=by unfold Zm;simp
theorem Zmh:∀(m:List Edge) (ids:List Int) (ac ac':List HArc),(ZeE ids ac m).1=(ZeE ids ac' m).1
 |[],_,_,_=>rfl
 |x::m,ids,ac,ac'=>by rw[ZfN,ZfN];exact Zmh m _ _ _
def Zhd (ids:List Int) (m:List Edge):List Int:=(ZeE ids [] m).1
theorem ZoK (ids:List Int) (x:Edge) (m:List Edge):Zhd ids (x::m)=Zhd (ZH (ZH ids x.f) x.t) m:=by
 unfold Zhd;rw[ZfN];exact Zmh m _ _ _
def inB (II:List Int) (c:List Nat) (e:Edge):Bool:=decide (Zz II e.f∈c)&&decide (Zz II e.t∈c)
def ZbZ (II:List Int) (K:List Edge) (c:List Nat):List Edge:=K.filter (inB II c)
def Zei (x a:HWit×Bool):HWit×Bool:=if (x.2&&(!a.2||Zdc x.1 a.1))=true then (x.1,true) else a
def Zdf (II:List Int) (K:List Edge) (p:Int):List (List Nat)→HWit×Bool→HWit×Bool
 |[],a=>a
 |c::cs,a=>Zdf II K p cs (Zei (ZX (ZbZ II K c) p) a)
theorem ZnC (II:List Int) (K:List Edge) (p:Int) (c:List Nat) (cs:List (List Nat)) (a:HWit×Bool):Zdf II K p (c::cs) a=Zdf II K p cs (Zei (ZX (ZbZ II K c) p) a):=rfl
theorem ZlA (l:List Edge) (p:Int):∀(cs:List (List Nat)) (a:HWit×Bool),Zes l p cs a=Zdf (Zcx l 14) (Ze l 14) p cs a
 |[],_=>rfl
 |c::cs,a=>by unfold Zes;rw[ZlA l p cs];rfl
theorem Zps {x a:HWit×Bool} (h:x.2=false):Zei x a=a:=by unfold Zei;rw[h];rfl
theorem ZlL {x a:HWit×Bool} (h:x.2=true) (k:a.2=false):Zei x a=(x.1,true):=by unfold Zei;rw[h,k];rfl
theorem ZmL {x a:HWit×Bool} (h:x.2=true) (k:a.2=true):Zei x a=if Zdc x.1 a.1=true then (x.1,true) else a:=by unfold Zei;rw[h,k];rfl
theorem ToldW.partW {w:World} {x:HWit×Bool} {e:Ending} {w':World} (h:ToldW w x e w') {p r0 r1 r2 r3 r4:Int} {d:List Edge} {b:Bool} {n:Nat} (hx:x=(⟨p,d,⟨r0,r1,⟨r2,r3,r4⟩⟩⟩,b)) (hn:d.length=n):
  ∃A c,e= .returned (.tuple #[.agg #[.int .i64 p,.slice A n c,.int .i64 r0,.int .i64 r1,.int .i64 r2,.int .i64 r3,.int .i64 r4],.bool b])∧Walk (fun i=>w.heap.size≤i) w' A d∧Upd No w w':=by
 subst hx hn;exact h
theorem Zlw {n:Nat} {l:List Nat}:decide ((n:Int)∈l.map fun x:Nat=>(x:Int))=decide (n∈l):=by
 rw[Bool.eq_iff_iff,decide_eq_true_eq,decide_eq_true_eq,List.mem_map]
 constructor
 ·rintro⟨m,hm,e⟩;have:m=n:=by omega
  exact this▸hm
 ·intro h;exact⟨n,h,rfl⟩
set_option maxRecDepth 100000 in
set_option maxHeartbeats 16000000 in
theorem Zrt (w:World) (A:Option Addr) (c:Nat) (l:List Edge) (p:Int) (H:EdX w A l) (hlo:l.length≤4398046511103) (L:Hid (∀w,Calls Tryz.prog 9 #[] w fun e w'=>e= .returned (.bool true)∧Upd No w w')):
  Calls Tryz.prog 3 #[.slice A l.length c,.int .i64 p] w fun e w'=>e= .returned (.bool true)∧Upd No w w':=by
 by_cases hl:60<l.length
 ·have e2:decide ((60:Int)<(l.length:Int))=true:=decide_eq_true (by omega);clear H
  go_enter Tryz.func3,Tryz.ntmps3
  go_wp2_with fail
  refine(L.out _).mono ?_;rintro e w1 ⟨rfl,hu1⟩;go_wp2
  go_ret
  exact⟨rfl,hu1⟩
 have e2:decide ((60:Int)<(l.length:Int))=false:=decide_eq_false (by omega);obtain⟨F,HW⟩:=H;have HW0:=Qh HW;obtain⟨II,hII⟩:∃II,Zcx l 14=II:=⟨_,rfl⟩;obtain⟨KK,hKK⟩:∃KK,Ze l 14=KK:=⟨_,rfl⟩;have hok:=ZhV l 14;have hpb:=Zm1 l p (by omega);rw[ZlA,hII,hKK]at hpb
 have hpt:Zdl l=Zas (ZE (ofA 14 (Zdb II.length [] (KK.map (Zdv II))))) II.length:=by
  unfold Zdl Zeb;rw[hok.arcs,hII,hKK]
 rw[hII,hKK]at hok;have HK0:=Qh (show[]++Ze (l.drop 0) 14=KK by rw[List.drop_zero,hKK];rfl);have HI0:=Qh (show Zhd [] (Ze (l.drop 0) 14)=II by rw[List.drop_zero,←hII];rfl);have HHAS:=Qh hok.has;have HKL:=Qh (show KK.length≤l.length by rw[←hKK];exact List.length_filter_le _ _);have HIL:=Qh hok.len;have hkr:∀e∈KK,1≤e.k∧e.k≤3:=fun e he=>by rw[←hKK]at he;exact ZjI he
 have HPT:=Qh hpt;have HPB:=Qh hpb;have HLL:=Qh (show l.length≤60 by omega);clear hok hpb hpt hII hKK hl HW hkr
 go_enter Tryz.func3,Tryz.ntmps3
 go_wp2_with fail
 refine(L.out _).mono ?_;rintro e w1 ⟨rfl,hu1⟩;have HA:=Qh (show Walk (fun i=>i<w1.heap.size) w1 A l from Recs.lt (HW0.out.upd hu1 (fun _ _=>id)));have HU1:=Qh hu1;clear hu1 HW0;go_wp2
 go_loopg [5,6,30] l.length (fun gk s t i wr=>∃(k:Nat) (A5:Option Addr) (c5:Nat) (A6:Option Addr) (c6:Nat) (q:List Edge) (ids:List Int),k+gk=l.length∧i= .int .i64 (k:Int)∧s= .slice A5 q.length c5∧t= .slice A6 ids.length c6∧
  Hid (q++Ze (l.drop k) 14=KK)∧Hid (Zhd ids (Ze (l.drop k) 14)=II)∧q.length≤k∧ids.length≤2*k∧
  Hid (TwoW wr w1.heap.size 26 4 (.slice A5 q.length c5) q.length (Zm q) 3 1 (.slice A6 ids.length c6) ids.length (ids.map (Value.int .i64)))∧Hid (Upd No w1 wr))
 case atStart=>exact⟨0,none,0,none,0,[],[],by omega,rfl,rfl,rfl,HK0,HI0,Nat.zero_le _,Nat.zero_le _,Qh (TwoW.nil _ _ _ _ _ _),Qh (Upd.refl _ _)⟩
 case round=>
  clear HK0 HI0;obtain⟨k,A5,c5,A6,c6,q,ids,hgk,rfl,rfl,rfl,hq,hi,hql,hil,hT,hu⟩:=hrel;have hll:=HLL.out
  by_cases hk:k<l.length
  ·obtain⟨ax,rfl,q0,q1,q2,q3⟩:=(HA.out.upd hu.out (fun _ _=>id)).at_ hk;obtain⟨x,hx⟩:∃x,l[k]=x:=⟨_,rfl⟩;rw[hx]at q0 q1 q2 q3;have X:=Qh (show l.drop k=x::l.drop (k+1) by rw[←hx];exact List.drop_eq_getElem_cons hk);clear hx;have b1:(0:Int)≤(k:Int):=Qn _;have b2:(k:Int)<(l.length:Int):=by omega
   have jw:IntKind.i64.wrap ((k:Int)+1)=(k:Int)+1:=IntWalk.i64_in _ (by omega);obtain⟨wz,hwz⟩:∃wz,wr.alloc (.cells #[.int .i64 x.f,.int .i64 x.t,.int .i64 x.k,.int .i64 x.key] 26)=wz:=⟨_,rfl⟩;have uz:Upd No wr wz:=by rw[←hwz];exact(Upd.refl No wr).alloc _
   have bo:Blk wz wr.heap.size 26 [.int .i64 x.f,.int .i64 x.t,.int .i64 x.k,.int .i64 x.key]:=by rw[←hwz];exact Blk.new wr _ _
   have hzz:wz.heap.size=wr.heap.size+1:=by rw[←hwz];simp
   have hzr:w1.heap.size≤wr.heap.size:=hu.out.size;have g0:=bo.cell 0;have g1:=bo.cell 1;have g2:=bo.cell 2;have g3:=bo.cell 3;simp only[Qz,Qs]at g0 g1 g2 g3;have BO:=Qh bo;have HNL:=Qh (show∀i,Own (.slice A5 q.length c5) i→w1.heap.size≤i∧i<wr.heap.size from fun i e=>hT.out.l.lt i e);have HNR:=Qh (show∀i,Own (.slice A6 ids.length c6) i→w1.heap.size≤i∧i<wr.heap.size from fun i e=>hT.out.r.lt i e);have HTZ:=Qh (hT.out.upd uz (fun _ _=>id));have HUZ:=Qh (hu.out.trans uz);have HZR:=Qh (show w1.heap.size≤wr.heap.size∧wz.heap.size=wr.heap.size+1 from⟨hzr,hzz⟩);clear bo uz hT hu hzr hzz
   by_cases kk:ZU 14 x.k=true
   ·have hkk:=kk;rw[ZnB,decide_eq_true_eq]at hkk;have d1:decide (1≤x.k)=true:=decide_eq_true hkk.1;have d2:decide (x.k≤3)=true:=decide_eq_true hkk.2;have HQ2:=Qh (show(q++[x])++Ze (l.drop (k+1)) 14=KK by have:=hq.out;rw[X.out,Zlb kk]at this;simpa using this);have HI2:=Qh (show Zhd (ZH (ZH ids x.f) x.t) (Ze (l.drop (k+1)) 14)=II by have:=hi.out;rwa [X.out,Zlb kk,ZoK]at this);obtain⟨i1,hi1⟩:∃i1,ZH ids x.f=i1:=⟨_,rfl⟩;have hl1:=Zfh ids x.f;rw[hi1]at hl1 HI2;have HI1:=Qh hi1;have hown:=HTZ.out.l;have HBX:=Qh (show¬Own (.slice A5 q.length c5) wr.heap.size from fun e=>by have:=(HNL.out _ e).2;omega);clear kk hkk X hq hi hi1
    go_wp2_with (at_builtin;refine ZaQ rfl rfl ZaW (v:= .slice A5 q.length c5) (n:=q.length) (xs:=Zm q) (cells:=[.int .i64 x.f,.int .i64 x.t,.int .i64 x.k,.int .i64 x.key]) (by rfl) rfl hown rfl rfl (by omega) (by omega) (by have:=HZR.out;omega) ?_;intro g4 c4 w3 hown3 hu3 hg3 hlt3;have bo3:=BO.out.upd hu3 HBX.out;have f0:=bo3.cell 0;simp only[Qz]at f0)
    have HT3:=Qh (HTZ.out.left (g:=g4) (n:=q.length+1) (c:=c4) (xs:=Zm (q++[x])) (by rw[Ziq];exact hown3) hu3 hg3);have HB3:=Qh (BO.out.upd hu3 HBX.out);have HU3:=Qh (HUZ.out.then_ hu3 (fun i e=>Or.inr (HNL.out i e).1));have hz3:=hu3.size;obtain⟨v1,hv1⟩:∃v1,decide (x.f∈ids)=v1:=⟨_,rfl⟩;have HV1:=Qh hv1;have HZ3:=Qh (show wr.heap.size<w3.heap.size by have:=HZR.out;omega);have CI:=Qh (ZmV w3 _ A6 c6 ids x.f (Ints.of_own HT3.out.r) (by omega) hv1);clear hown3 hu3 hg3 hlt3 hv1 hz3 hown;refine CI.out.mono ?_;rintro e w4 ⟨rfl,rfl⟩;clear CI
    go_upto_if 50 with fail
    go_cut [6] (fun s wc=>∃A8 c8,s= .slice A8 i1.length c8∧Hid (TwoW wc w1.heap.size 26 4 (.slice (some ⟨g4,0,none⟩) (q.length+1) c4) (q.length+1) (Zm (q++[x])) 3 1 (.slice A8 i1.length c8) i1.length (i1.map (Value.int .i64)))∧Hid (Blk wc wr.heap.size 26 [.int .i64 x.f,.int .i64 x.t,.int .i64 x.k,.int .i64 x.key])∧Hid (Upd No w1 wc))
    case first=>
     cases v1
     ·have hi1:i1=ids++[x.f]:=by rw[←HI1.out];unfold ZH;rw[if_neg (of_decide_eq_false HV1.out)]
      have HI1':=Qh hi1;have hown:=HT3.out.r;clear hi1
      go_wp2_with (at_builtin;refine ZaQ rfl rfl Za0 (v:= .slice A6 ids.length c6) (n:=ids.length) (xs:=ids.map (Value.int .i64)) (cells:=[.int .i64 x.f]) (by rfl) rfl hown rfl rfl (by omega) (by omega) (by have:=HU3.out.size;omega) ?_;intro g5 c7 w5 hown5 hu5 hg5 hlt5)
      go_meet
      exact⟨some ⟨g5,0,none⟩,c7,by rw[HI1'.out];simp,Qh (by rw[HI1'.out];have:=HT3.out.right hown5 hu5 hg5;simpa using this),Qh (HB3.out.upd hu5 (fun e=>by have:=(HNR.out _ e).2;omega)),Qh (HU3.out.then_ hu5 (fun i e=>Or.inr (HNR.out i e).1))⟩
     ·have hi1:i1=ids:=by rw[←HI1.out];unfold ZH;rw[if_pos (of_decide_eq_true HV1.out)]
      subst hi1;go_wp2
      go_meet
      exact⟨A6,c6,rfl,HT3,HB3,HU3⟩
    case rest=>
     obtain⟨A8,c8,rfl,HT4,HB4,HU4⟩:=hcut;obtain⟨w5,hw5⟩:∃w5,w5=wc:=⟨_,rfl⟩;subst hw5;have h0:=HB4.out.cell 0;have h1:=HB4.out.cell 1;simp only[Qz,Qs]at h0 h1;obtain⟨v2,hv2⟩:∃v2,decide (x.t∈i1)=v2:=⟨_,rfl⟩;have HV2:=Qh hv2;obtain⟨i2,hi2⟩:∃i2,ZH i1 x.t=i2:=⟨_,rfl⟩;have hl2:=Zfh i1 x.t;rw[hi2]at hl2 HI2;have HI3:=Qh hi2;have CI:=Qh (ZmV w5 _ A8 c8 i1 x.t (Ints.of_own HT4.out.r) (by omega) hv2);clear hv2 hi2 HT3 HB3 HU3 HTZ HV1
     go_wp2_with fail
     refine(CI.out).mono ?_;rintro e w6 ⟨rfl,rfl⟩;clear CI
     cases v2
     ·have hi2:i2=i1++[x.t]:=by rw[←HI3.out];unfold ZH;rw[if_neg (of_decide_eq_false HV2.out)]
      have HI2':=Qh hi2;have hown:=HT4.out.r;clear hi2
      go_wp2_with (at_builtin;refine ZaQ rfl rfl Za0 (v:= .slice A8 i1.length c8) (n:=i1.length) (xs:=i1.map (Value.int .i64)) (cells:=[.int .i64 x.t]) (by rfl) rfl hown rfl rfl (by omega) (by omega) (by have:=HU4.out.size;omega) ?_;intro g6 c9 w6 hown6 hu6 hg6 hlt6)
      go_roundg (gk-1)
      case measure=>omega
      case rel=>exact⟨k+1,some ⟨g4,0,none⟩,c4,some ⟨g6,0,none⟩,c9,q++[x],i2,by omega,by go_num,by simp,by rw[HI2'.out];simp,HQ2,HI2,by simp;omega,by omega,Qh (by rw[HI2'.out];have:=HT4.out.right hown6 hu6 hg6;simpa using this),Qh (HU4.out.then_ hu6 (fun i e=>Or.inr (HT4.out.r.lt i e).1))⟩
     ·have hi2:i2=i1:=by rw[←HI3.out];unfold ZH;rw[if_pos (of_decide_eq_true HV2.out)]
      subst hi2;go_wp2
      go_roundg (gk-1)
      case measure=>omega
      case rel=>exact⟨k+1,some ⟨g4,0,none⟩,c4,A8,c8,q++[x],i2,by omega,by go_num,by simp,rfl,HQ2,HI2,by simp;omega,by omega,Qh (by simpa using HT4.out),HU4⟩
   ·have kn:ZU 14 x.k=false:=by simpa using kk
    have HQ2:=Qh (show q++Ze (l.drop (k+1)) 14=KK by have:=hq.out;rwa [X.out,Zmp kn]at this);have HI2:=Qh (show Zhd ids (Ze (l.drop (k+1)) 14)=II by have:=hi.out;rwa [X.out,Zmp kn]at this);have kn2:=kn;rw[ZnB,decide_eq_false_iff_not]at kn2
    by_cases k1:1≤x.k
    ·have d1:decide (1≤x.k)=true:=decide_eq_true k1;have d2:decide (x.k≤3)=false:=decide_eq_false (fun e=>kn2 ⟨k1,e⟩);clear kk kn kn2 X hq hi k1;go_wp2
     go_roundg (gk-1)
     case measure=>omega
     case rel=>exact⟨k+1,A5,c5,A6,c6,q,ids,by omega,by go_num,rfl,rfl,HQ2,HI2,by omega,by omega,HTZ,HUZ⟩
    ·have d1:decide (1≤x.k)=false:=decide_eq_false k1;clear kk kn kn2 X hq hi k1;go_wp2
     go_roundg (gk-1)
     case measure=>omega
     case rel=>exact⟨k+1,A5,c5,A6,c6,q,ids,by omega,by go_num,rfl,rfl,HQ2,HI2,by omega,by omega,HTZ,HUZ⟩
  ·obtain rfl:k=l.length:=by omega
   have hqf:q=KK:=by have:=hq.out;rw[List.drop_length]at this;simpa[Ze]using this
   have hif:ids=II:=by have:=hi.out;rw[List.drop_length]at this;exact this
   subst hqf hif;obtain⟨wl,hwl⟩:∃wl,wl=wr:=⟨_,rfl⟩;subst hwl;have HQ:=Qh (show Walk (fun i=>i<wl.heap.size) wl A5 q from Recs.lt (Recs.of_own Zav (by omega) hT.out.l));have HI:=Qh (show Ints (fun i=>i<wl.heap.size) wl A6 ids from Ints.lt (Ints.of_own hT.out.r));have hroom:ZbQ (ids.length:Int)=ids.length:=by unfold ZbQ;omega
   have CN:=Qh (ZtH wl (ids.length:Int));rw[hroom]at CN;have HULl:=Qh hu.out;clear hT hq hi hroom hu hil hql
   go_wp2_with fail
   refine(CN.out).mono ?_;rintro e w3 ⟨g,rfl,hd3⟩;have HD3:=Qh hd3;obtain⟨QA,hQA⟩:∃QA,q.map (Zdv ids)=QA:=⟨_,rfl⟩;have HQA:=Qh hQA;have hqa:QA.length=q.length:=by rw[←hQA];simp
   obtain⟨RQ,hRQ⟩:∃RQ,Zdb ids.length [] QA=RQ:=⟨_,rfl⟩;have HQ0:=Qh (show Zdb ids.length [] (QA.drop 0)=RQ by rw[List.drop_zero];exact hRQ);have HPT2:=Qh (show Zdl l=Zas (ZE (ofA 14 RQ)) ids.length by rw[HPT.out,hQA,hRQ]);have HQL:=Qh hqa;have hql:q.length≤60:=Nat.le_trans HKL.out HLL.out;have hil:ids.length≤120:=by have:=HIL.out;omega
   have HQS:=Qh hql;have HIS:=Qh hil;clear hd3 CN hQA hRQ hqa HPT;go_wp2
   generalize gk=GK at*
   go_loopg [72] q.length (fun gk i wx=>∃(j:Nat) (qq:List HArc),j+gk=q.length∧i= .int .i64 (j:Int)∧Hid (DMa wl g ids.length j qq wx)∧Hid (Zdb ids.length qq (QA.drop j)=RQ))
   case atStart=>exact⟨0,[],by omega,rfl,HD3,HQ0⟩
   case round=>
    clear HD3 HQ0;obtain⟨j,qq,hgj,rfl,hd,hqd⟩:=hrel
    by_cases hlt:j<q.length
    ·obtain⟨ax,rfl,q0,q1,q2,q3⟩:=(HQ.out.upd hd.out.upd (fun _ _=>id)).at_ hlt;obtain⟨x,hx⟩:∃x,q[j]=x:=⟨_,rfl⟩;have hxm:x∈q:=by rw[←hx];exact List.getElem_mem _
     obtain⟨hf,ht⟩:=HHAS.out x hxm;rw[hx]at q0 q1 q2 q3;obtain⟨n1,hn1⟩:∃n1,Zz ids x.f=n1:=⟨_,rfl⟩;obtain⟨n2,hn2⟩:∃n2,Zz ids x.t=n2:=⟨_,rfl⟩;have hst:=hqd.out
     rw[show QA.drop j=⟨(n1:Int),(n2:Int),x.k,0⟩::QA.drop (j+1) by
      have hjq:j<QA.length:=by rw[HQL.out];exact hlt
      rw[List.drop_eq_getElem_cons hjq]
      congr 1
      have:=HQA.out;subst this;rw[List.getElem_map,hx];unfold Zdv;rw[hn1,hn2],Zh7]at hst
     have HS:=Qh hst;have CI1:=Qh (fun W (u:Upd No wl W)=>ZhH _ W A6 c6 ids x.f (HI.out.upd u (fun _ _=>id)) (by omega));have CI2:=Qh (fun W (u:Upd No wl W)=>ZhH _ W A6 c6 ids x.t (HI.out.upd u (fun _ _=>id)) (by omega));rw[Zdr ids 0 hf,hn1,Nat.add_zero]at CI1;rw[Zdr ids 0 ht,hn2,Nat.add_zero]at CI2;clear hx hst hqd hxm hf ht hn1 hn2;have b1:(0:Int)≤(j:Int):=Qn _;have b2:(j:Int)<(q.length:Int):=by omega
     have jw:IntKind.i64.wrap ((j:Int)+1)=(j:Int)+1:=IntWalk.i64_in _ (by omega);obtain⟨wz,hwz⟩:∃wz,wr.alloc (.cells #[.int .i64 x.f,.int .i64 x.t,.int .i64 x.k,.int .i64 x.key] 26)=wz:=⟨_,rfl⟩;have uz:Upd No wr wz:=by rw[←hwz];exact(Upd.refl No wr).alloc _
     have bo:Blk wz wr.heap.size 26 [.int .i64 x.f,.int .i64 x.t,.int .i64 x.k,.int .i64 x.key]:=by rw[←hwz];exact Blk.new wr _ _
     have g0:∀W,Upd (fun i=>i<wr.heap.size) wz W→W.cell? ⟨wr.heap.size,0,none⟩=some (.int .i64 x.f):=fun W u=>(bo.upd u (by simp)).cell 0
     have g1:∀W,Upd (fun i=>i<wr.heap.size) wz W→W.cell? ⟨wr.heap.size,1,none⟩=some (.int .i64 x.t):=fun W u=>(bo.upd u (by simp)).cell 1
     have g2:∀W,Upd (fun i=>i<wr.heap.size) wz W→W.cell? ⟨wr.heap.size,2,none⟩=some (.int .i64 x.k):=fun W u=>(bo.upd u (by simp)).cell 2
     have hzz:Upd No wz wz:=Upd.refl _ _;have hzs:Upd (fun i=>i<wr.heap.size) wz wz:=Upd.refl _ _;have UZ:=Qh uz;have UD:=Qh (hd.out.upd.trans uz);clear bo uz;go_wp2;refine wp_region_noPanic ?_;refine wp_region_held_drew (S:=(fun W'=>Upd (fun i=>i<wr.heap.size) wz W')) (by kernel_rfl) ?_ (fun hHeld=> ?_)
     ·(first|exact hzs.drew|(with_reducible exact hHeld)|(with_reducible exact hq4)|(with_reducible exact hq5)|(with_reducible exact hq6))
     refine wpK 0 rfl ?_;refine wpK 1 rfl ?_;refine wpK 2 rfl ?_;refine wpK 3 rfl ?_;refine wpK 5 rfl ?_;refine wpK 6 rfl ?_;refine wpK 7 rfl ?_;refine wpK 9 rfl ?_;refine wpK 10 rfl ?_;refine wpR [4] ?_;refine wpC rfl (fun K hK=> ?_) AllReadyH.nil;go_simp
     (first
  |(go_at_call 13;(first|refine(CI1.out _ (UD.out.trans HN5.out)).mono ?_|refine(CI1.out wz.drew UD.out.drew).mono ?_);rintro e w4 ⟨rfl,hu4⟩;have HN4:Hid (Upd No wz w4):=(by first|exact Qh (HN5.out.trans hu4)|exact Qh (show Upd No wz w4 from hu4.of_drew));have hq4:Upd (fun i=>i<wr.heap.size) wz w4:=HN4.out.mono (fun _ _ e=>e.elim)))
     try (go_wp2_with fail)
     refine hK.out _ _ ?_ (fun hHeld=> ?_)
     ·(first|exact hzs.drew|(with_reducible exact hHeld)|(with_reducible exact hq4)|(with_reducible exact hq5)|(with_reducible exact hq6))
     clear hK K
     try simp only[Act.put,sT,sS,sZ]
     refine wpR [8] ?_;refine wpC rfl (fun K hK=> ?_) AllReadyH.nil;go_simp
     (first
  |(go_at_call 13;(first|refine(CI2.out _ (UD.out.trans HN4.out)).mono ?_|refine(CI2.out wz.drew UD.out.drew).mono ?_);rintro e w5 ⟨rfl,hu5⟩;have HN5:Hid (Upd No wz w5):=(by first|exact Qh (HN4.out.trans hu5)|exact Qh (show Upd No wz w5 from hu5.of_drew));have hq5:Upd (fun i=>i<wr.heap.size) wz w5:=HN5.out.mono (fun _ _ e=>e.elim)))
     try (go_wp2_with fail)
     refine hK.out _ _ ?_ (fun hHeld=> ?_)
     ·(first|exact hzs.drew|(with_reducible exact hHeld)|(with_reducible exact hq4)|(with_reducible exact hq5)|(with_reducible exact hq6))
     clear hK K
     try simp only[Act.put,sT,sS,sZ]
     refine wpK 11 rfl ?_;refine wpR [12] ?_;refine wpC rfl (fun K hK=> ?_) AllReadyH.nil;go_simp
     (first
  |(go_at_call 12;(first|refine(ZoZ hd.out (UZ.out.trans HN5.out) (by omega) ⟨(n1:Int),(n2:Int),x.k,0⟩).mono ?_|refine(ZoZ hd.out (UZ.out.trans HN4.out) (by omega) ⟨(n1:Int),(n2:Int),x.k,0⟩).mono ?_);rintro e w6 ⟨rfl,hd6,hu6⟩;have HD6:=Qh hd6;have hq6:Upd (fun i=>i<wr.heap.size) wz w6:=hHeld.trans hu6))
     try (go_wp2_with fail)
     refine hK.out _ _ ?_ (fun hHeld=> ?_)
     ·(first|exact hzs.drew|(with_reducible exact hHeld)|(with_reducible exact hq4)|(with_reducible exact hq5)|(with_reducible exact hq6))
     clear hK K
     try simp only[Act.put,sT,sS,sZ]
     refine wpD (NoPanic.normal ?_);clear hHeld;go_wp2
     go_roundg (gk-1)
     case measure=>omega
     case rel=>exact⟨j+1,ZbP ids.length qq ⟨(n1:Int),(n2:Int),x.k,0⟩,by omega,by simp,HD6,HS⟩
    ·obtain rfl:j=q.length:=by omega
     have hqR:qq=RQ:=by have:=hqd.out;rw[show QA.drop q.length=[] by rw[←HQL.out,List.drop_length]]at this;exact this
     subst hqR;obtain⟨zb,hzb⟩:∃zb,wr.heap.size=zb:=⟨_,rfl⟩;obtain⟨wb,hwb⟩:∃wb,wr.alloc (.cells #[.int .i64 0,.slice none 0 0,.int .i64 0,.int .i64 0,.int .i64 0,.int .i64 0,.int .i64 0] 40)=wb:=⟨_,rfl⟩;have ub:Upd No wr wb:=by rw[←hwb];exact(Upd.refl No wr).alloc _
     have bB:Blk wb zb 40 [.int .i64 0,.slice none 0 0,.int .i64 0,.int .i64 0,.int .i64 0,.int .i64 0,.int .i64 0]:=by rw[←hwb,←hzb];exact Blk.new wr _ _
     have hsb:wb.heap.size=zb+1:=by rw[←hwb,←hzb];simp
     obtain⟨G,hDG⟩:=hd.out.is;have CC:=Qh (ZsQ (hDG.no ub) (by omega) 14);have UWB:=Qh (hd.out.upd.trans ub);have HZB:=Qh (show wl.heap.size≤zb∧wb.heap.size=zb+1 from⟨by rw[←hzb];exact hd.out.upd.size,hsb⟩);have BB:=Qh bB;clear ub bB hsb hd hDG hqd
     go_wp2_with fail
     refine(CC.out).mono ?_;rintro e w4 ⟨A4,c4,ps,rfl,hP,hC,hu4⟩
     have hpl:ps.length≤120:=by
      have h1:ps.length=(Zas (ZE (ofA 14 qq)) ids.length).length:=by rw[←hC,List.length_map]
      rw[h1,Zix];exact Nat.le_trans (Zle _ _) HIS.out
     have HP:=Qh hP;have HB0:=Qh (BB.out.upd hu4 id);have HB1:=Qh (show Zdf ids q p ((ps.map PV.l).drop 0) (⟨0,[],⟨0,0,⟨0,0,0⟩⟩⟩,false)=ZX l p by rw[List.drop_zero,hC,←HPT2.out];exact HPB.out);have HPC:=Qh hC;have HUW:=Qh (UWB.out.trans hu4);have HZ4:=Qh (show zb<w4.heap.size by have:=hu4.size;have:=HZB.out;omega);clear hP hC hu4 CC BB HPB HPT2 hwb hzb;go_wp2
     generalize GK=GK0 at*
     generalize gk=GK1 at*
     go_loopg [13,93] ps.length (fun gk f i wx=>∃(j:Nat) (Ab:Option Addr) (cb:Nat) (bp b0 b1 b2 b3 b4:Int) (bw:List Edge) (bb:Bool),j+gk=ps.length∧i= .int .i64 (j:Int)∧f= .bool bb∧
      Hid (Blk wx zb 40 [.int .i64 bp,.slice Ab bw.length cb,.int .i64 b0,.int .i64 b1,.int .i64 b2,.int .i64 b3,.int .i64 b4])∧Hid (Walk (fun i=>wb.heap.size≤i) wx Ab bw)∧Hid (bw.length≤2000)∧
      Hid (Zdf ids q p ((ps.map PV.l).drop j) (⟨bp,bw,⟨b0,b1,⟨b2,b3,b4⟩⟩⟩,bb)=ZX l p)∧Hid (Upd (One zb) w4 wx))
     case atStart=>exact⟨0,none,0,0,0,0,0,0,0,[],false,by omega,rfl,rfl,HB0,Qh ZcU,Qh (Nat.zero_le _),HB1,Qh (Upd.refl _ _)⟩
     case round=>
      clear HB0 HB1;obtain⟨j,Ab,cb,bp,b0,b1',b2',b3,b4,bw,bb,hgj,rfl,rfl,hB,hX,hXL,hS,hu⟩:=hrel
      by_cases hlt:j<ps.length
      ·have i1:(0:Int)≤(j:Int):=Qn _;have i2:(j:Int)<(ps.length:Int):=by omega
       have jw:IntKind.i64.wrap ((j:Int)+1)=(j:Int)+1:=IntWalk.i64_in _ (by omega);rcases hpj:ps[j]with ⟨pA,pc,pl⟩
       have hj:ps[j]? =some ⟨pA,pc,pl⟩:=by rw[Qg hlt,hpj]
       have hne:∀i,wb.heap.size≤i→¬One zb i:=fun i hi e=>by have:=HZB.out.2;unfold One at e;omega
       have hrow:=Za (HP.out.rows j _ hj) hu.out (fun i e=>hne i ((HP.out.rows j _ hj).lt i e).1);obtain⟨gO,cur,rfl,hgO,hbO,hncO,hlO,hxO,hcO⟩:=Zbr HP.out.own (by omega)
       have hcell:wr.cell? ⟨gO,j,none⟩=some (.slice pA pl.length pc):=by
        have h2:(cur.take (ps.length*1))[j]? =some (.slice pA pl.length pc):=by rw[hxO,List.getElem?_map,hj];rfl
        rw[List.getElem?_take,if_pos (by omega)]at h2;rw[(hbO.upd hu.out (hne gO hgO)).cell];exact h2
       have hmem:pl∈Zas (ZE (ofA 14 qq)) ids.length:=by
        rw[←HPC.out,←show(⟨pA,pc,pl⟩:PV).l=pl from rfl,←hpj];exact List.mem_map_of_mem (List.getElem_mem hlt)
       have hplN:pl.length≤120:=Nat.le_trans (ZkO _ _ hmem) HIS.out
       have hIP:=Qh (show Ints (fun i=>i<wr.heap.size) wr pA (pl.map fun x:Nat=>(x:Int)) from Ints.lt (Ints.of_own (by
        have:=hrow;rw[ZoI]at this;exact this)))
       have hst:=hS.out
       rw[show(ps.map PV.l).drop j=pl::(ps.map PV.l).drop (j+1) by
        rw[List.drop_eq_getElem_cons (by simpa using hlt)]
        congr 1
        rw[List.getElem_map,hpj],ZnC]at hst
       obtain⟨IK,hIK⟩:∃IK,ZbZ ids q pl=IK:=⟨_,rfl⟩;rw[hIK]at hst;have HST:=Qh hst;have hIL:IK.length≤60:=by rw[←hIK];exact Nat.le_trans (List.length_filter_le _ _) HQS.out
       have HIL2:=Qh hIL;have HIK0:=Qh (show[]++ZbZ ids (q.drop 0) pl=IK by rw[List.drop_zero,hIK];rfl);have HQR:=Qh (show Walk (fun i=>i<wl.heap.size) wr A5 q from(HQ.out.upd HUW.out (fun _ _=>id)).upd hu.out (fun i (hi:i<wl.heap.size) (e:i=zb)=>by have:=HZB.out.1;omega));have HIR:=Qh (show Ints (fun i=>i<wl.heap.size) wr A6 ids from(HI.out.upd HUW.out (fun _ _=>id)).upd hu.out (fun i (hi:i<wl.heap.size) (e:i=zb)=>by have:=HZB.out.1;omega));obtain⟨wo,hwo⟩:∃wo,wo=wr:=⟨_,rfl⟩;subst hwo;clear hpj hj hrow hgO hbO hncO hlO hxO hcO hmem hst hIK hS hne;go_wp2
       generalize gk=GK2 at*
       go_loopg [16,99] q.length (fun gk s i wy=>∃(k5:Nat) (A7:Option Addr) (c7:Nat) (xs:List Edge),k5+gk=q.length∧i= .int .i64 (k5:Int)∧s= .slice A7 xs.length c7∧Hid (xs++ZbZ ids (q.drop k5) pl=IK)∧xs.length≤k5∧
        Hid (wy.ownsRow wo.heap.size 26 4 (.slice A7 xs.length c7) xs.length (Zm xs))∧Hid (Upd No wo wy))
       case atStart=>exact⟨0,none,0,[],by omega,rfl,rfl,HIK0,Nat.zero_le _,Qh (World.ownsRow_nil _ _ _ _),Qh (Upd.refl _ _)⟩
       case round=>
        clear HIK0 hcell;obtain⟨k5,A7,c7,xs,hgk,rfl,rfl,hxs,hxl,hown,huw⟩:=hrel;have hqs:=HQS.out
        by_cases hk:k5<q.length
        ·obtain⟨ax,rfl,q0,q1,q2,q3⟩:=(HQR.out.upd huw.out (fun _ _=>id)).at_ hk;obtain⟨x,hx⟩:∃x,q[k5]=x:=⟨_,rfl⟩;have hxm:x∈q:=by rw[←hx];exact List.getElem_mem _
         obtain⟨hf,ht⟩:=HHAS.out x hxm;rw[hx]at q0 q1 q2 q3;have hst:=hxs.out;rw[show q.drop k5=x::q.drop (k5+1) by rw[←hx];exact List.drop_eq_getElem_cons hk]at hst;unfold ZbZ at hst;rw[List.filter_cons]at hst;obtain⟨n1,hn1⟩:∃n1,Zz ids x.f=n1:=⟨_,rfl⟩;obtain⟨n2,hn2⟩:∃n2,Zz ids x.t=n2:=⟨_,rfl⟩;obtain⟨t1,ht1⟩:∃t1,decide (n1∈pl)=t1:=⟨_,rfl⟩;obtain⟨t2,ht2⟩:∃t2,decide (n2∈pl)=t2:=⟨_,rfl⟩;rw[show inB ids pl x=(t1&&t2) by unfold inB;rw[hn1,hn2,ht1,ht2]]at hst;have HST3:=Qh hst;have CI1:=Qh (fun W (u:Upd No wo W)=>ZhH _ W A6 c6 ids x.f (HIR.out.upd u (fun _ _=>id)) (by omega));have CI2:=Qh (fun W (u:Upd No wo W)=>ZhH _ W A6 c6 ids x.t (HIR.out.upd u (fun _ _=>id)) (by omega));rw[Zdr ids 0 hf,hn1,Nat.add_zero]at CI1;rw[Zdr ids 0 ht,hn2,Nat.add_zero]at CI2;have CN1:=Qh (fun W (u:Upd No wo W)=>ZmV W _ pA pc (pl.map fun x:Nat=>(x:Int)) (n1:Int) (hIP.out.upd u (fun _ _=>id)) (by rw[List.length_map];omega) (v:=t1) (by rw[Zlw];exact ht1));have CN2:=Qh (fun W (u:Upd No wo W)=>ZmV W _ pA pc (pl.map fun x:Nat=>(x:Int)) (n2:Int) (hIP.out.upd u (fun _ _=>id)) (by rw[List.length_map];omega) (v:=t2) (by rw[Zlw];exact ht2));rw[List.length_map]at CN1 CN2;have b1:(0:Int)≤(k5:Int):=Qn _;have b2:(k5:Int)<(q.length:Int):=by omega
         have jw5:IntKind.i64.wrap ((k5:Int)+1)=(k5:Int)+1:=IntWalk.i64_in _ (by omega);obtain⟨wz,hwz⟩:∃wz,wr.alloc (.cells #[.int .i64 x.f,.int .i64 x.t,.int .i64 x.k,.int .i64 x.key] 26)=wz:=⟨_,rfl⟩;have uz:Upd No wr wz:=by rw[←hwz];exact(Upd.refl No wr).alloc _
         have bo:Blk wz wr.heap.size 26 [.int .i64 x.f,.int .i64 x.t,.int .i64 x.k,.int .i64 x.key]:=by rw[←hwz];exact Blk.new wr _ _
         have g0:∀W,Upd No wz W→W.cell? ⟨wr.heap.size,0,none⟩=some (.int .i64 x.f):=fun W u=>(bo.upd u id).cell 0
         have g1:∀W,Upd No wz W→W.cell? ⟨wr.heap.size,1,none⟩=some (.int .i64 x.t):=fun W u=>(bo.upd u id).cell 1
         have g2:∀W,Upd No wz W→W.cell? ⟨wr.heap.size,2,none⟩=some (.int .i64 x.k):=fun W u=>(bo.upd u id).cell 2
         have g3:∀W,Upd No wz W→W.cell? ⟨wr.heap.size,3,none⟩=some (.int .i64 x.key):=fun W u=>(bo.upd u id).cell 3
         have hzz:Upd No wz wz:=Upd.refl _ _;have HUZ:=Qh (huw.out.trans uz);have HOZ:=Qh (Za hown.out uz (fun _ _=>id));clear bo uz hx hst hxs hf ht hn1 hn2 ht1 ht2 hown huw hxm
         go_wp2_with fail
         refine((CI1.out _ HUZ.out)).mono ?_;rintro e w5 ⟨rfl,hu5⟩;have hz5:=hzz.trans hu5
         go_wp2_with fail
         refine((CN1.out _ (HUZ.out.trans hz5))).mono ?_;rintro e w6 ⟨rfl,rfl⟩
         cases t1
         ·have HS:=Qh (show xs++ZbZ ids (q.drop (k5+1)) pl=IK from HST3.out);have HF:=Qh (Za HOZ.out hu5 (fun _ _=>id));have HU:=Qh (HUZ.out.trans hu5);go_wp2
          go_roundg (gk-1)
          case measure=>omega
          case rel=>exact⟨k5+1,A7,c7,xs,by omega,by go_num,rfl,HS,by omega,HF,HU⟩
         ·go_wp2_with fail
          refine((CI2.out _ (HUZ.out.trans hz5))).mono ?_;rintro e w7 ⟨rfl,hu7⟩;have hz7:=hz5.trans hu7
          go_wp2_with fail
          refine((CN2.out _ (HUZ.out.trans hz7))).mono ?_;rintro e w8 ⟨rfl,rfl⟩;have HU7:=Qh (HUZ.out.trans hz7)
          cases t2
          ·have HS:=Qh (show xs++ZbZ ids (q.drop (k5+1)) pl=IK from HST3.out);have HF:=Qh (Za HOZ.out hz7 (fun _ _=>id));go_wp2
           go_roundg (gk-1)
           case measure=>omega
           case rel=>exact⟨k5+1,A7,c7,xs,by omega,by go_num,rfl,HS,by omega,HF,HU7⟩
          ·have HS:=Qh (show(xs++[x])++ZbZ ids (q.drop (k5+1)) pl=IK by have:=HST3.out;simpa[ZbZ]using this);have hown7:=Za HOZ.out hz7 (fun _ _=>id)
           go_wp2_with (at_builtin;refine ZaQ rfl rfl ZaW (v:= .slice A7 xs.length c7) (n:=xs.length) (xs:=Zm xs) (cells:=[.int .i64 x.f,.int .i64 x.t,.int .i64 x.k,.int .i64 x.key]) (by rfl) rfl hown7 rfl rfl (by omega) (by omega) (by have:=HU7.out.size;omega) ?_;intro g8 c8 w8 hown8 hu8 hg8 hlt8)
           go_roundg (gk-1)
           case measure=>omega
           case rel=>exact⟨k5+1,some ⟨g8,0,none⟩,c8,xs++[x],by omega,by go_num,by simp,HS,by simp;omega,Qh (by rw[Ziq];simpa[Edge.cells]using hown8),Qh (HU7.out.then_ hu8 (fun i e=>Or.inr (hown7.lt i e).1))⟩
        ·obtain rfl:k5=q.length:=by omega
         have hxe:xs=IK:=by have:=hxs.out;rw[List.drop_length]at this;simpa[ZbZ]using this
         subst hxe;obtain⟨⟨⟨xp,xw,⟨r0,r1,⟨r2,r3,r4⟩⟩⟩,xb⟩,hx⟩:∃x,ZX xs p=x:=⟨_,rfl⟩;have hst:=HST.out;have HWL:=Qh (ZnR xs p (by omega));have CW:=Qh (Zkb _ wr A7 c7 xs p (Recs.of_own Zav (by omega) hown.out) (by omega));rw[hx]at hst HWL CW;have HST2:=Qh hst;have huo:=huw.out;clear hx hst hxs hown HST
         go_wp2_with fail
         refine CW.out.mono ?_;rintro e w5 hh;obtain⟨A8,c8,rfl,hx8,hu8⟩:=hh.partW rfl rfl;obtain⟨y,hy⟩:∃y,w5.heap.size=y:=⟨_,rfl⟩;obtain⟨wv,hwv⟩:∃wv,w5.alloc (.cells #[.int .i64 xp,.slice A8 xw.length c8,.int .i64 r0,.int .i64 r1,.int .i64 r2,.int .i64 r3,.int .i64 r4] 40)=wv:=⟨_,rfl⟩;have uv:Upd No w5 wv:=by rw[←hwv];exact(Upd.refl No w5).alloc _
         have bv:Blk wv y 40 [.int .i64 xp,.slice A8 xw.length c8,.int .i64 r0,.int .i64 r1,.int .i64 r2,.int .i64 r3,.int .i64 r4]:=by rw[←hwv,←hy];exact Blk.new w5 _ _
         have m0:∀W,Upd No wv W→W.cell? ⟨y,0,none⟩=some (.int .i64 xp):=fun W u=>(bv.upd u id).cell 0
         have m1:∀W,Upd No wv W→W.cell? ⟨y,1,none⟩=some (.slice A8 xw.length c8):=fun W u=>(bv.upd u id).cell 1
         have m2:∀W,Upd No wv W→W.cell? ⟨y,2,none⟩=some (.int .i64 r0):=fun W u=>(bv.upd u id).cell 2
         have m3:∀W,Upd No wv W→W.cell? ⟨y,3,none⟩=some (.int .i64 r1):=fun W u=>(bv.upd u id).cell 3
         have m4:∀W,Upd No wv W→W.cell? ⟨y,4,none⟩=some (.int .i64 r2):=fun W u=>(bv.upd u id).cell 4
         have m5:∀W,Upd No wv W→W.cell? ⟨y,5,none⟩=some (.int .i64 r3):=fun W u=>(bv.upd u id).cell 5
         have m6:∀W,Upd No wv W→W.cell? ⟨y,6,none⟩=some (.int .i64 r4):=fun W u=>(bv.upd u id).cell 6
         have UOV:=Qh ((huo.trans hu8).trans uv);have BBV:=Qh (hB.out.upd UOV.out id);have z0:∀W,Upd No wv W→W.cell? ⟨zb,0,none⟩=some (.int .i64 bp):=fun W u=>(BBV.out.upd u id).cell 0
         have z1:∀W,Upd No wv W→W.cell? ⟨zb,1,none⟩=some (.slice Ab bw.length cb):=fun W u=>(BBV.out.upd u id).cell 1
         have z2:∀W,Upd No wv W→W.cell? ⟨zb,2,none⟩=some (.int .i64 b0):=fun W u=>(BBV.out.upd u id).cell 2
         have z3:∀W,Upd No wv W→W.cell? ⟨zb,3,none⟩=some (.int .i64 b1'):=fun W u=>(BBV.out.upd u id).cell 3
         have z4:∀W,Upd No wv W→W.cell? ⟨zb,4,none⟩=some (.int .i64 b2'):=fun W u=>(BBV.out.upd u id).cell 4
         have z5:∀W,Upd No wv W→W.cell? ⟨zb,5,none⟩=some (.int .i64 b3):=fun W u=>(BBV.out.upd u id).cell 5
         have z6:∀W,Upd No wv W→W.cell? ⟨zb,6,none⟩=some (.int .i64 b4):=fun W u=>(BBV.out.upd u id).cell 6
         have f0:∀W,Upd No wv W→W.frozen? ⟨zb,0,none⟩=false:=fun W u=>(BBV.out.upd u id).free 0
         have f1:∀W,Upd No wv W→W.frozen? ⟨zb,1,none⟩=false:=fun W u=>(BBV.out.upd u id).free 1
         have f2:∀W,Upd No wv W→W.frozen? ⟨zb,2,none⟩=false:=fun W u=>(BBV.out.upd u id).free 2
         have f3:∀W,Upd No wv W→W.frozen? ⟨zb,3,none⟩=false:=fun W u=>(BBV.out.upd u id).free 3
         have f4:∀W,Upd No wv W→W.frozen? ⟨zb,4,none⟩=false:=fun W u=>(BBV.out.upd u id).free 4
         have f5:∀W,Upd No wv W→W.frozen? ⟨zb,5,none⟩=false:=fun W u=>(BBV.out.upd u id).free 5
         have f6:∀W,Upd No wv W→W.frozen? ⟨zb,6,none⟩=false:=fun W u=>(BBV.out.upd u id).free 6
         have XV:=Qh (show Walk (fun i=>wb.heap.size≤i) wv A8 xw from Recs.weak (Recs.upd hx8 uv (fun _ _=>id)) (fun i _ (hi:wr.heap.size≤i)=>by have:=huo.size;have:=hu.out.size;have:=HZB.out.2;have:=HZ4.out;omega));have XB:=Qh (show Walk (fun i=>wb.heap.size≤i) wv Ab bw from Recs.upd hX.out UOV.out (fun _ _=>id));have UV:=Qh (show Upd (One zb) w4 wv from hu.out.then_ UOV.out (fun _ e=>e.elim));have hvv:Upd No wv wv:=Upd.refl _ _;clear hh hx8 hu8 uv bv huo huw
         cases xb
         ·have HSN:=Qh (show Zdf ids q p ((ps.map PV.l).drop (j+1)) (⟨bp,bw,⟨b0,b1',⟨b2',b3,b4⟩⟩⟩,bb)=ZX l p by have:=HST2.out;rwa [Zps rfl]at this);go_wp2
          go_roundg (GK2-1)
          case measure=>omega
          case rel=>exact⟨j+1,Ab,cb,bp,b0,b1',b2',b3,b4,bw,bb,by omega,by go_num,rfl,BBV,XB,hXL,HSN,UV⟩
         ·cases bb
          ·have HSN:=Qh (show Zdf ids q p ((ps.map PV.l).drop (j+1)) (⟨xp,xw,⟨r0,r1,⟨r2,r3,r4⟩⟩⟩,true)=ZX l p by have:=HST2.out;rwa [ZlL rfl rfl]at this);go_wp2;obtain⟨b7,u7⟩:=Zex BBV.out (.int .i64 xp) (.slice A8 xw.length c8) (.int .i64 r0) (.int .i64 r1) (.int .i64 r2) (.int .i64 r3) (.int .i64 r4)
           go_roundg (GK2-1)
           case measure=>omega
           case rel=>exact⟨j+1,A8,c8,xp,r0,r1,r2,r3,r4,xw,true,by omega,by go_num,rfl,Qh b7,Qh (Recs.upd XV.out u7 (fun i (hi:wb.heap.size≤i) (e:i=zb)=>by have:=HZB.out.2;omega)),Qh (by have:=HWL.out;exact this),HSN,Qh (UV.out.trans u7)⟩
          ·obtain⟨lv,hlv⟩:∃lv,Zdc ⟨xp,xw,⟨r0,r1,⟨r2,r3,r4⟩⟩⟩ ⟨bp,bw,⟨b0,b1',⟨b2',b3,b4⟩⟩⟩=lv:=⟨_,rfl⟩;have hst:=HST2.out;rw[ZmL rfl rfl]at hst;simp only[hlv]at hst;have HST4:=Qh hst;have C4:=Qh (fun W (u:Upd No wv W)=>Zk8 (c:=c8) (d:=cb) (EdX.upd ⟨_,XV.out⟩ u) (EdX.upd ⟨_,XB.out⟩ u) (Nat.le_trans HWL.out (by decide)) (Nat.le_trans hXL.out (by decide)) rfl rfl hlv);clear hst hlv
           go_wp2_with fail
           refine(C4.out _ hvv).mono ?_;rintro e w7 ⟨rfl,hu7⟩
           cases lv
           ·have HSN:=Qh (show Zdf ids q p ((ps.map PV.l).drop (j+1)) (⟨bp,bw,⟨b0,b1',⟨b2',b3,b4⟩⟩⟩,true)=ZX l p from HST4.out);go_wp2
            go_roundg (GK2-1)
            case measure=>omega
            case rel=>exact⟨j+1,Ab,cb,bp,b0,b1',b2',b3,b4,bw,true,by omega,by go_num,rfl,Qh (BBV.out.upd hu7 id),Qh (Recs.upd XB.out hu7 (fun _ _=>id)),hXL,HSN,Qh (UV.out.then_ hu7 (fun _ e=>e.elim))⟩
           ·have HSN:=Qh (show Zdf ids q p ((ps.map PV.l).drop (j+1)) (⟨xp,xw,⟨r0,r1,⟨r2,r3,r4⟩⟩⟩,true)=ZX l p from HST4.out);go_wp2;obtain⟨b7,u7⟩:=Zex (BBV.out.upd hu7 id) (.int .i64 xp) (.slice A8 xw.length c8) (.int .i64 r0) (.int .i64 r1) (.int .i64 r2) (.int .i64 r3) (.int .i64 r4)
            go_roundg (GK2-1)
            case measure=>omega
            case rel=>exact⟨j+1,A8,c8,xp,r0,r1,r2,r3,r4,xw,true,by omega,by go_num,rfl,Qh b7,Qh (Recs.upd (Recs.upd XV.out hu7 (fun _ _=>id)) u7 (fun i (hi:wb.heap.size≤i) (e:i=zb)=>by have:=HZB.out.2;omega)),Qh (by have:=HWL.out;exact this),HSN,Qh ((UV.out.then_ hu7 (fun _ e=>e.elim)).trans u7)⟩
      ·obtain rfl:j=ps.length:=by omega
       have hfin:(⟨bp,bw,⟨b0,b1',⟨b2',b3,b4⟩⟩⟩,bb)=ZX l p:=by have:=hS.out;rw[show(ps.map PV.l).drop ps.length=[] by rw[List.drop_eq_nil_of_le (by simp)]]at this;exact this
       have HUF:=Qh (show Upd (fun i=>w1.heap.size≤i) w1 wr from((HULl.out.trans HUW.out).mono (fun _ _ e=>e.elim)).then_ hu.out (fun i (e:i=zb)=>Or.inl (by have:=HULl.out.size;have:=HZB.out.1;omega)));have CW:=Qh (Zkb _ wr A c l p (HA.out.upd HUF.out (fun i (hi:i<w1.heap.size) (e:w1.heap.size≤i)=>by omega)) (by have:=HLL.out;omega));rw[←hfin]at CW;clear hfin
       go_wp2_with fail
       refine CW.out.mono ?_;rintro e w5 hh;obtain⟨A8,c8,rfl,hx8,hu8⟩:=hh.partW rfl rfl;obtain⟨y,hy⟩:∃y,w5.heap.size=y:=⟨_,rfl⟩;obtain⟨wv,hwv⟩:∃wv,w5.alloc (.cells #[.int .i64 bp,.slice A8 bw.length c8,.int .i64 b0,.int .i64 b1',.int .i64 b2',.int .i64 b3,.int .i64 b4] 40)=wv:=⟨_,rfl⟩;have uv:Upd No w5 wv:=by rw[←hwv];exact(Upd.refl No w5).alloc _
       have bv:Blk wv y 40 [.int .i64 bp,.slice A8 bw.length c8,.int .i64 b0,.int .i64 b1',.int .i64 b2',.int .i64 b3,.int .i64 b4]:=by rw[←hwv,←hy];exact Blk.new w5 _ _
       have bz:=hB.out.upd (hu8.trans uv) id;have m0:=bv.cell 0;have m1:=bv.cell 1;have m2:=bv.cell 2;have m3:=bv.cell 3;have m4:=bv.cell 4;have m5:=bv.cell 5;have m6:=bv.cell 6;have z0:=bz.cell 0;have z1:=bz.cell 1;have z2:=bz.cell 2;have z3:=bz.cell 3;have z4:=bz.cell 4;have z5:=bz.cell 5;have z6:=bz.cell 6;simp only[Qz,Qs]at m0 m1 m2 m3 m4 m5 m6 z0 z1 z2 z3 z4 z5 z6;have X8:=Qh (Recs.upd hx8 uv (fun _ _=>id));have XB:=Qh (Recs.upd hX.out (hu8.trans uv) (fun _ _=>id));have CS:=Qh (Zkx (c:=c8) (d:=cb) (v:=true) (ap:=bp) (a0:=b0) (a1:=b1') (a2:=b2') (a3:=b3) (a4:=b4) (bp:=bp) (b0:=b0) (b1:=b1') (b2:=b2') (b3:=b3) (b4:=b4) (aw:=bw) (bw:=bw) ⟨_,X8.out⟩ ⟨_,XB.out⟩ (Nat.le_trans hXL.out (by decide)) (Nat.le_trans hXL.out (by decide)) rfl rfl (by simp));have HUE:=Qh (HUF.out.then_ (hu8.trans uv) (fun _ e=>e.elim));have q1:(bb==bb)=true:=by simp
       clear hh hx8 hu8 uv bv bz
       go_wp2_with fail
       refine(CS.out).mono ?_;rintro e w7 ⟨rfl,hu7⟩;go_wp2
       go_ret
       exact⟨rfl,HU1.out.then_ (HUE.out.then_ hu7 (fun _ e=>e.elim)) (fun i (e:w1.heap.size≤i)=>Or.inr (Nat.le_trans HU1.out.size e))⟩
end
end Go.Proofs.YtonblekdfinpkaaGreat
