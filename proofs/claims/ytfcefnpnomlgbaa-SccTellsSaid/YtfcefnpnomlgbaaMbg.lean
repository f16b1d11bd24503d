/- Components of a digraph, the document's, plain: who is reached, labels, members, who goes round. -/
import Derived.Test.YtfcefnpnomlgbaaMaf
import Derived.Test.YtfcefnpnomlgbaaMav
import Derived.Test.YtfcefnpnomlgbaaMbe
namespace Go.Proofs.Ytfcefnpnomlgbaa
set_option linter.unusedSimpArgs false
set_option linter.unusedVariables false
/-! reach:as often as there are arcs,and once more -/
def Zt (q:List HArc):List Int→List HArc→List Int
 |out,[]=>out
 |out,a::l=>Zt q (if a.f∈out∧a.t∉out then Zn a.t out else out) l
def itR (q:List HArc):Nat→List Int→List Int
 |0,out=>out
 |n+1,out=>itR q n (Zt q out q)
def Ze (q:List HArc) (i:Int):List Int:=itR q (q.length+1) (nxA i false q)
theorem Zdp {n:Int}:∀{l:List Int},n∉l→(Zn n l).length=l.length+1
 |[],_=>rfl
 |x::l,h=>by
  simp only[List.mem_cons,not_or]at h
  unfold Zn
  split
  ·rw[List.filter_eq_self.2 (fun y hy=> ?_)]
   ·rfl
   ·have:y≠n:=fun e=>by
     subst e
     rcases List.mem_cons.1 hy with e|e
     ·exact h.1 e
     ·exact h.2 e
    simpa using this
  ·rw[List.length_cons,Zdp h.2,List.length_cons]
theorem Zdn (q:List HArc):∀(l:List HArc) (out:List Int),∀x∈out,x∈Zt q out l
 |[],_,_,h=>h
 |a::l,out,x,h=>by
  unfold Zt
  apply Zdn
  split
  ·exact(Zag _ _ _).2 (Or.inr h)
  ·exact h
theorem Zb3 (q:List HArc):∀(l:List HArc) (out:List Int),out.length≤(Zt q out l).length∧((Zt q out l).length=out.length→Zt q out l=out∧∀a∈l,a.f∈out→a.t∈out)
 |[],out=>⟨Nat.le_refl _,fun _=>⟨rfl,by simp⟩⟩
 |a::l,out=>by
  unfold Zt
  split
  ·rename_i h
   have h1:=(Zb3 q l (Zn a.t out)).1
   have h2:=Zdp h.2
   exact⟨by omega,fun e=>by omega⟩
  ·rename_i h
   obtain⟨h1,h2⟩:=Zb3 q l out
   refine⟨h1,fun e=>⟨(h2 e).1,fun b hb=> ?_⟩⟩
   rcases List.mem_cons.1 hb with rfl|hb
   ·intro hf;exact Classical.byContradiction fun ht=>h ⟨hf,ht⟩
   ·exact(h2 e).2 b hb
theorem ZcE (q:List HArc) {B:Nat} (hB:∀out:List Int,(∀x∈out,∃a∈q,a.t=x)→out.Pairwise (·<·)→out.length≤B):∀(n:Nat) (out:List Int),(∀x∈out,∃a∈q,a.t=x)→out.Pairwise (·<·)→(itR q n out).length≤B
 |0,out,h1,h2=>hB out h1 h2
 |n+1,out,h1,h2=>by
  unfold itR
  refine ZcE q hB n _ ?_ ?_
  ·have:∀(l:List HArc) (out:List Int),(∀a∈l,a∈q)→(∀x∈out,∃a∈q,a.t=x)→∀x∈Zt q out l,∃a∈q,a.t=x:=by
    intro l
    induction l with
    |nil=>intro out _ h;exact h
    |cons a l ih=>
     intro out hl h
     unfold Zt
     refine ih _ (fun b hb=>hl b (List.mem_cons_of_mem _ hb)) ?_
     split
     ·intro x hx
      rcases(Zag _ _ _).1 hx with rfl|hx
      ·exact⟨a,hl a (List.mem_cons_self ..),rfl⟩
      ·exact h x hx
     ·exact h
   exact this q out (fun _ h=>h) h1
  ·have:∀(l:List HArc) (out:List Int),out.Pairwise (·<·)→(Zt q out l).Pairwise (·<·):=by
    intro l
    induction l with
    |nil=>intro out h;exact h
    |cons a l ih=>
     intro out h
     unfold Zt
     refine ih _ ?_
     split
     ·exact ZbR _ _ h
     ·exact h
   exact this q out h2
theorem ZX:∀(l m:List Int),l.Nodup→(∀x∈l,x∈m)→l.length≤m.length
 |[],_,_,_=>Nat.zero_le _
 |x::l,m,hn,hs=>by
  obtain⟨h1,h2⟩:=List.nodup_cons.1 hn
  have hx:=hs x (List.mem_cons_self ..)
  have:=ZX l (m.erase x) h2 fun y hy=>(List.mem_erase_of_ne (fun e:y=x=>h1 (by rw[←e];exact hy))).2 (hs y (List.mem_cons_of_mem _ hy))
  rw[List.length_erase_of_mem hx]at this
  have:=List.length_pos_of_mem hx
  rw[List.length_cons];omega
theorem ZbQ {l:List Int} (h:l.Pairwise (·<·)):l.Nodup:=by
 rw[List.nodup_iff_pairwise_ne]
 exact h.imp fun h e=>by omega
def ZcJ (q:List HArc) (out:List Int):Prop:=∀a∈q,a.f∈out→a.t∈out
theorem Zb0 {q:List HArc} {out:List Int} (h:ZcJ q out):∀l:List HArc,(∀a∈l,a∈q)→Zt q out l=out
 |[],_=>rfl
 |a::l,hl=>by
  unfold Zt
  rw[if_neg (fun e=>e.2 (h a (hl a (List.mem_cons_self ..)) e.1))]
  exact Zb0 h l fun b hb=>hl b (List.mem_cons_of_mem _ hb)
theorem Zea (q:List HArc):∀(n:Nat) (out:List Int),itR q (n+1) out=Zt q (itR q n out) q
 |0,_=>rfl
 |n+1,out=>by
  show itR q (n+1) (Zt q out q)=_
  rw[Zea q n];rfl
theorem Ze2 (q:List HArc) (out:List Int):∀n,ZcJ q (itR q n out)∨out.length+n≤(itR q n out).length
 |0=>Or.inr (Nat.le_refl _)
 |n+1=>by
  rw[Zea]
  rcases Ze2 q out n with h|h
  ·left
   rw[Zb0 h q fun _ h=>h]
   exact h
  ·have h1:=Zb3 q q (itR q n out)
   by_cases e:(Zt q (itR q n out) q).length=(itR q n out).length
   ·left
    have:=(h1.2 e)
    rw[this.1]
    exact this.2
   ·right;omega
theorem mem_nxF {q:List HArc} {i x:Int}:x∈nxA i false q↔∃a∈q,a.f=i∧a.t=x:=by
 unfold nxA
 rw[ZcC]
 simp only[List.not_mem_nil,false_or,Bool.false_eq_true,if_false]
 constructor
 ·rintro⟨a,ha,h1,h2⟩;exact⟨a,ha,h1,h2.symm⟩
 ·rintro⟨a,ha,h1,h2⟩;exact⟨a,ha,h1,h2.symm⟩
theorem Zdb (q:List HArc) (i:Int):ZcJ q (Ze q i):=by
 unfold Ze
 rcases Ze2 q (nxA i false q) (q.length+1)with h|h
 ·exact h
 ·exfalso
  have:=ZcE q (B:=q.length) (fun out h1 h2=>by
   have:=ZX out (q.map (·.t)) (ZbQ h2) fun x hx=>by
    obtain⟨a,ha,rfl⟩:=h1 x hx
    exact List.mem_map.2 ⟨a,ha,rfl⟩
   rwa [List.length_map]at this) (q.length+1) (nxA i false q) (fun x hx=>by
    obtain⟨a,ha,_,rfl⟩:=mem_nxF.1 hx
    exact⟨a,ha,rfl⟩) (Zbc _ _ _ _ List.Pairwise.nil)
  omega
theorem Zer (q:List HArc) (i:Int) (P:Int→Prop) (h0:∀x∈nxA i false q,P x) (h1:∀a∈q,P a.f→P a.t):∀x∈Ze q i,P x:=by
 have hr:∀(l:List HArc) (out:List Int),(∀a∈l,a∈q)→(∀x∈out,P x)→∀x∈Zt q out l,P x:=by
  intro l
  induction l with
  |nil=>intro out _ h;exact h
  |cons a l ih=>
   intro out hl h
   unfold Zt
   refine ih _ (fun b hb=>hl b (List.mem_cons_of_mem _ hb)) ?_
   split
   ·rename_i hc
    intro x hx
    rcases(Zag _ _ _).1 hx with rfl|hx
    ·exact h1 a (hl a (List.mem_cons_self ..)) (h _ hc.1)
    ·exact h x hx
   ·exact h
 have hi:∀(n:Nat) (out:List Int),(∀x∈out,P x)→∀x∈itR q n out,P x:=by
  intro n
  induction n with
  |zero=>intro out h;exact h
  |succ n ih=>intro out h;exact ih _ (hr q out (fun _ h=>h) h)
 exact hi _ _ h0
theorem Zd9 (q:List HArc):∀(n:Nat) (out:List Int),∀x∈out,x∈itR q n out
 |0,_,_,h=>h
 |n+1,out,x,h=>Zd9 q n _ x (Zdn q q out x h)
def nxN (q:List HArc) (i:Nat):List Nat:=(nxA (i:Int) false q).map Int.toNat
def ZR (N:Nat) (q:List HArc):Prop:=∀a∈q,0≤a.f∧a.f<(N:Int)∧0≤a.t∧a.t<(N:Int)
theorem ZaN {q:List HArc} {N:Nat} (hq:ZR N q) {i x:Nat}:x∈nxN q i↔∃a∈q,a.f=(i:Int)∧a.t=(x:Int):=by
 unfold nxN
 rw[List.mem_map]
 constructor
 ·rintro⟨y,hy,rfl⟩
  obtain⟨a,ha,h1,rfl⟩:=mem_nxF.1 hy
  have:=(hq a ha).2.2.1
  exact⟨a,ha,h1,by omega⟩
 ·rintro⟨a,ha,h1,h2⟩
  exact⟨a.t,mem_nxF.2 ⟨a,ha,h1,rfl⟩,by omega⟩
theorem ZeU {q:List HArc} {N:Nat} (hq:ZR N q) {i x:Nat} (h:x∈nxN q i):x<N:=by
 obtain⟨a,ha,_,h2⟩:=(ZaN hq).1 h
 have:=(hq a ha).2.2.2
 omega
theorem Zfy {q:List HArc} {N:Nat} (hq:ZR N q) (i:Nat):(nxN q i).map (fun x:Nat=>(x:Int))=nxA (i:Int) false q:=by
 unfold nxN
 rw[List.map_map]
 conv=>rhs;rw[←List.map_id (nxA (i:Int) false q)]
 refine List.map_congr_left fun x hx=> ?_
 obtain⟨a,ha,_,rfl⟩:=mem_nxF.1 hx
 have:=(hq a ha).2.2.1
 simp only[Function.comp,id]
 omega
theorem Zbq {q:List HArc} {N:Nat} (hq:ZR N q) (i x:Nat):(x:Int)∈Ze q i↔∃y∈nxN q i,Rch (nxN q) y x:=by
 constructor
 ·intro h
  have:=Zer q i (fun z=>∃y∈nxN q i,Rch (nxN q) y z.toNat) (fun z hz=>by
   obtain⟨a,ha,h1,rfl⟩:=mem_nxF.1 hz
   have:=(hq a ha).2.2.1
   exact⟨a.t.toNat,(ZaN hq).2 ⟨a,ha,h1,by omega⟩,Rch.refl _⟩) (fun a ha ⟨y,hy,h1⟩=>by
   have:=hq a ha
   exact⟨y,hy,h1.step ((ZaN hq).2 ⟨a,ha,by omega,by omega⟩)⟩) _ h
  simpa using this
 ·rintro⟨y,hy,h⟩
  have h0:(y:Int)∈Ze q i:=by
   obtain⟨a,ha,h1,h2⟩:=(ZaN hq).1 hy
   exact Zd9 q _ _ _ (mem_nxF.2 ⟨a,ha,h1,h2⟩)
  refine Rch.stay (S:=fun z:Nat=>(z:Int)∈Ze q i) (fun a ha b hb=> ?_) h h0
  obtain⟨c,hc,h1,h2⟩:=(ZaN hq).1 hb
  rw[←h2]
  exact Zdb q i c hc (by rw[h1];exact ha)
theorem Zdo {nx:Nat→List Nat} {a b:Nat} (hne:a≠b):Rch nx a b↔∃y∈nx a,Rch nx y b:=by
 constructor
 ·intro h
  induction h with
  |refl=>exact absurd rfl hne
  | @step b c h hm ih=>
   by_cases e:a=b
   ·subst e;exact⟨_,hm,Rch.refl _⟩
   ·obtain⟨y,hy,h1⟩:=ih e
    exact⟨y,hy,h1.step hm⟩
 ·rintro⟨y,hy,h⟩
  exact(Rch.one hy).trans h
/-! labels -/
def Zay (p:Nat→Bool):Nat→Nat→Nat
 |0,l=>l
 |k+1,l=>Zay p k (if p k=true then k else l)
theorem ZbF (p:Nat→Bool):∀(n l:Nat),(Zay p n l=l∧∀k,k<n→p k=false)∨(Zay p n l<n∧p (Zay p n l)=true∧∀k,k<Zay p n l→p k=false)
 |0,l=>Or.inl ⟨rfl,fun k h=>by omega⟩
 |n+1,l=>by
  unfold Zay
  rcases ZbF p n (if p n=true then n else l)with ⟨h1,h2⟩|⟨h1,h2,h3⟩
  ·by_cases hp:p n=true
   ·rw[if_pos hp]at h1 ⊢
    exact Or.inr ⟨by omega,by rw[h1];exact hp,fun k hk=>h2 k (by omega)⟩
   ·rw[if_neg hp]at h1 ⊢
    refine Or.inl ⟨h1,fun k hk=> ?_⟩
    by_cases e:k=n
    ·subst e;simpa using hp
    ·exact h2 k (by omega)
  ·exact Or.inr ⟨by omega,h2,h3⟩
def Z0 (q:List HArc) (i k:Nat):Bool:=decide ((k:Int)∈Ze q i)&&decide ((i:Int)∈Ze q k)
def Za (q:List HArc) (i:Nat):Nat:=Zay (Z0 q i) i i
theorem IsLab.one {nx:Nat→List Nat} {x a b:Nat} (h:IsLab nx x a) (k:IsLab nx x b):a=b:=by
 have h1:=h.2.2 b k.1 k.2.1
 have h2:=k.2.2 a h.1 h.2.1
 omega
theorem Zfd {q:List HArc} {N:Nat} (hq:ZR N q) {i k:Nat} (hne:k≠i):Z0 q i k=true↔Rch (nxN q) i k∧Rch (nxN q) k i:=by
 unfold Z0
 rw[Bool.and_eq_true,decide_eq_true_iff,decide_eq_true_iff,Zbq hq,Zbq hq,Zdo (Ne.symm hne),Zdo hne]
theorem Zbe {q:List HArc} {N:Nat} (hq:ZR N q) (i:Nat):IsLab (nxN q) i (Za q i):=by
 unfold Za
 have hb:∀k,k<i→(Z0 q i k=true↔Rch (nxN q) i k∧Rch (nxN q) k i):=fun k hk=>Zfd hq (by omega)
 rcases ZbF (Z0 q i) i i with ⟨h1,h2⟩|⟨h1,h2,h3⟩
 ·rw[h1]
  refine⟨Rch.refl _,Rch.refl _,fun y h4 h5=> ?_⟩
  apply Classical.byContradiction
  intro hn
  have:=(hb y (by omega)).2 ⟨h4,h5⟩
  rw[h2 y (by omega)]at this
  cases this
 ·have h4:=(hb _ h1).1 h2
  refine⟨h4.1,h4.2,fun y h5 h6=> ?_⟩
  apply Classical.byContradiction
  intro hn
  have:=(hb y (by omega)).2 ⟨h5,h6⟩
  rw[h3 y (by omega)]at this
  cases this
def Zi (N:Nat) (q:List HArc):List Int:=(List.range N).map fun i=>(Za q i:Int)
def ZL (l:List Int) (x:Int):Nat→List Int→List Int
 |_,[]=>[]
 |i,y::m=>if y=x then (i:Int)::ZL l x (i+1) m else ZL l x (i+1) m
def ZT (N:Nat) (q:List HArc):List Int:=((List.range N).filter fun i:Nat=>decide ((i:Int)∈Ze q i)).map fun i:Nat=>(i:Int)
end Go.Proofs.Ytfcefnpnomlgbaa
/- Components of a digraph,plain:the components by their labels,and who goes round. -/
namespace Go.Proofs.Ytfcefnpnomlgbaa
set_option linter.unusedSimpArgs false
set_option linter.unusedVariables false
def ZU (L:Nat→Nat) (k:Nat):List Nat:=(List.range k).filter fun i=>L i==i
def Zl (L:Nat→Nat) (k r:Nat):List Nat:=(List.range k).filter fun i=>L i==r
def Zh (L:Nat→Nat) (k:Nat):List (List Nat):=(ZU L k).map (Zl L k)
theorem ZaA (L:Nat→Nat) (k:Nat):ZU L (k+1)=ZU L k++if L k=k then [k] else []:=by
 unfold ZU
 rw[List.range_succ,List.filter_append]
 congr 1
 by_cases h:L k=k<;>simp[h]
theorem ZaL (L:Nat→Nat) (k r:Nat):Zl L (k+1) r=Zl L k r++if L k=r then [k] else []:=by
 unfold Zl
 rw[List.range_succ,List.filter_append]
 congr 1
 by_cases h:L k=r<;>simp[h]
theorem mem_rootsN {L:Nat→Nat} {k r:Nat}:r∈ZU L k↔r<k∧L r=r:=by
 unfold ZU;rw[List.mem_filter,List.mem_range,beq_iff_eq]
theorem mem_membN {L:Nat→Nat} {k r i:Nat}:i∈Zl L k r↔i<k∧L i=r:=by
 unfold Zl;rw[List.mem_filter,List.mem_range,beq_iff_eq]
theorem ZdZ {L:Nat→Nat} (hL:∀i,L i≤i) {k:Nat} (h:L k=k):Zh L (k+1)=Zh L k++[[k]]:=by
 unfold Zh
 rw[ZaA,if_pos h,List.map_append]
 congr 1
 ·refine List.map_congr_left fun r hr=> ?_
  rw[ZaL,if_neg,List.append_nil]
  have:=(mem_rootsN.1 hr).1
  omega
 ·rw[List.map_cons,List.map_nil,ZaL,if_pos h]
  have:Zl L k k=[]:=by
   unfold Zl
   rw[List.filter_eq_nil_iff]
   intro i hi
   rw[List.mem_range]at hi
   have:=hL i
   simp only[beq_iff_eq]
   omega
  rw[this];rfl
def Zx (L:Nat→Nat) (r:Nat):Nat:=(ZU L r).length
theorem Za1 {L:Nat→Nat} {r:Nat} (h:L r=r):∀{k:Nat},r<k→(ZU L k)[Zx L r]? =some r
 |0,hk=>by omega
 |k+1,hk=>by
  rw[ZaA]
  by_cases e:r=k
  ·subst e
   rw[if_pos h]
   unfold Zx
   rw[List.getElem?_append_right (Nat.le_refl _)]
   simp
  ·have:=Za1 h (k:=k) (by omega)
   rw[List.getElem?_append_left (List.getElem?_eq_some_iff.1 this).1]
   exact this
theorem ZbC (L:Nat→Nat) (k:Nat):(ZU L k).Nodup:=List.nodup_range.sublist List.filter_sublist
theorem ZeF {L:Nat→Nat} {k r:Nat} (hr:L k=r) (hlt:r<k) (hrr:L r=r):Zh L (k+1)=(Zh L k).modify (Zx L r) (·++[k]):=by
 unfold Zh
 rw[ZaA,if_neg (by omega),List.append_nil]
 have hat:=Za1 hrr hlt
 apply List.ext_getElem?
 intro j
 rw[List.getElem?_modify,List.getElem?_map,List.getElem?_map]
 by_cases e:Zx L r=j
 ·subst e
  rw[hat]
  simp only[Option.map_some,if_true]
  rw[ZaL,if_pos hr];rfl
 ·cases hj:(ZU L k)[j]? with
  |none=>simp
  |some x=>
   simp only[Option.map_some,if_neg e]
   rw[ZaL,if_neg,List.append_nil]
   ·rfl
   ·intro e2
    apply e
    obtain⟨h1,h2⟩:=List.getElem?_eq_some_iff.1 hat
    obtain⟨h3,h4⟩:=List.getElem?_eq_some_iff.1 hj
    refine(List.getElem_inj (h₀:=h1) (h₁:=h3) (ZbC L k)).1 ?_
    rw[h2,h4,←e2,hr]
theorem Zbt (L:Nat→Nat) (k:Nat):(Zh L k).length=Zx L k:=by unfold Zh Zx;rw[List.length_map]
theorem ZcG (L:Nat→Nat) (k:Nat):Zx L k≤k:=by
 unfold Zx ZU
 have:=List.length_filter_le (fun i=>L i==i) (List.range k)
 rwa [List.length_range]at this
/-! who goes round -/
section
variable {q:List HArc} {N:Nat}
theorem Zbd (q:List HArc) (i:Nat):Za q i≤i:=by
 unfold Za
 rcases ZbF (Z0 q i) i i with ⟨h1,_⟩|⟨h1,_⟩<;>omega
theorem ZbH (hq:ZR N q) {i j:Nat}:Za q i=Za q j↔Rch (nxN q) i j∧Rch (nxN q) j i:=by
 have hi:=Zbe hq i
 have hj:=Zbe hq j
 constructor
 ·intro e
  rw[e]at hi
  exact⟨hi.1.trans hj.2.1,hj.1.trans hi.2.1⟩
 ·rintro⟨h1,h2⟩
  refine IsLab.one (x:=i) hi ⟨h1.trans hj.1,hj.2.1.trans h2,fun y h3 h4=>hj.2.2 y (h2.trans h3) (h4.trans h1)⟩
theorem ZbG (hq:ZR N q) (i:Nat):Za q (Za q i)=Za q i:=(ZbH hq).2 ⟨(Zbe hq i).2.1,(Zbe hq i).1⟩
def Zab (q:List HArc) (p:List Nat):Bool:=decide (1<p.length)||decide (p.headD 0∈nxN q (p.headD 0))
theorem Ze3 {r:Nat} (hr:r∈ZU (Za q) N):(Zl (Za q) N r).headD 0=r:=by
 obtain⟨h1,h2⟩:=mem_rootsN.1 hr
 have hm:r∈Zl (Za q) N r:=mem_membN.2 ⟨h1,h2⟩
 have hp:(Zl (Za q) N r).Pairwise (·<·):=List.pairwise_lt_range.sublist List.filter_sublist
 cases h:Zl (Za q) N r with
 |nil=>rw[h]at hm;cases hm
 |cons a l=>
  rw[h]at hm hp
  simp only[List.headD_cons]
  have ha:a∈Zl (Za q) N r:=by rw[h];simp
  have h3:=(mem_membN.1 ha).2
  have h4:=Zbd q a
  rcases List.mem_cons.1 hm with e|hm
  ·exact e.symm
  ·have:=(List.pairwise_cons.1 hp).1 r hm
   omega
theorem ZdJ (hq:ZR N q) {i:Nat} (hi:i<N):Zab q (Zl (Za q) N (Za q i))=true↔(i:Int)∈Ze q i:=by
 have hr:Za q i∈ZU (Za q) N:=mem_rootsN.2 ⟨by have:=Zbd q i;omega,ZbG hq i⟩
 have hmi:i∈Zl (Za q) N (Za q i):=mem_membN.2 ⟨hi,rfl⟩
 have hnd:(Zl (Za q) N (Za q i)).Nodup:=List.nodup_range.sublist List.filter_sublist
 unfold Zab
 rw[Ze3 hr,Zbq hq,Bool.or_eq_true,decide_eq_true_iff,decide_eq_true_iff]
 have hother:∀j,j≠i→j∈Zl (Za q) N (Za q i)→∃y∈nxN q i,Rch (nxN q) y i:=by
  intro j hne hj
  have h1:=(ZbH hq).1 (mem_membN.1 hj).2
  obtain⟨y,hy,h2⟩:=(Zdo (Ne.symm hne)).1 h1.2
  exact⟨y,hy,h2.trans h1.1⟩
 constructor
 ·rintro(h|h)
  ·cases hl:Zl (Za q) N (Za q i)with
   |nil=>rw[hl]at hmi;cases hmi
   |cons a l=>
    cases l with
    |nil=>rw[hl]at h;simp at h
    |cons b l=>
     rw[hl]at hnd
     by_cases e:a=i
     ·have:b≠i:=fun e2=>by subst e e2;simp at hnd
      exact hother b this (by rw[hl];simp)
     ·exact hother a e (by rw[hl];simp)
  ·by_cases e:Za q i=i
   ·rw[e]at h;exact⟨i,h,Rch.refl _⟩
   ·exact hother _ e (mem_membN.2 (mem_rootsN.1 hr))
 ·rintro⟨y,hy,h⟩
  have hyN:=ZeU hq hy
  have hy2:y∈Zl (Za q) N (Za q i):=mem_membN.2 ⟨hyN,(ZbH hq).2 ⟨h,Rch.one hy⟩⟩
  by_cases e:y=i
  ·rw[e]at hy
   by_cases e2:Za q i=i
   ·rw[e2];exact Or.inr hy
   ·left
    have h3:Za q i∈Zl (Za q) N (Za q i):=mem_membN.2 (mem_rootsN.1 hr)
    have:=nodup_two hnd h3 hmi e2
    omega
  ·left
   have:=nodup_two hnd hy2 hmi e
   omega
 where nodup_two:∀{l:List Nat} {a b:Nat},l.Nodup→a∈l→b∈l→a≠b→2≤l.length
 |[],_,_,_,ha,_,_=>by cases ha
 |[x],a,b,_,ha,hb,hne=>by
  rw[List.mem_singleton]at ha hb
  exact absurd (ha.trans hb.symm) hne
 |_::_::l,_,_,_,_,_,_=>by simp
def ZbA (q:List HArc) (N:Nat):List Nat:=((Zh (Za q) N).filter (Zab q)).flatten
theorem Zew (hq:ZR N q) {i:Nat}:i∈ZbA q N↔i<N∧(i:Int)∈Ze q i:=by
 unfold ZbA Zh
 rw[List.mem_flatten]
 constructor
 ·rintro⟨p,hp,hi⟩
  obtain⟨hp1,hp2⟩:=List.mem_filter.1 hp
  obtain⟨r,hr,rfl⟩:=List.mem_map.1 hp1
  obtain⟨h1,rfl⟩:=mem_membN.1 hi
  exact⟨h1,(ZdJ hq h1).1 hp2⟩
 ·rintro⟨h1,h2⟩
  refine⟨Zl (Za q) N (Za q i),List.mem_filter.2 ⟨List.mem_map.2 ⟨Za q i,mem_rootsN.2 ⟨by have:=Zbd q i;omega,ZbG hq i⟩,rfl⟩,(ZdJ hq h1).2 h2⟩,mem_membN.2 ⟨h1,rfl⟩⟩
theorem Zdl (q:List HArc) (N:Nat):(ZbA q N).Nodup:=by
 unfold ZbA
 rw[List.nodup_iff_pairwise_ne,List.pairwise_flatten]
 refine⟨fun p hp=> ?_,?_⟩
 ·obtain⟨hp1,_⟩:=List.mem_filter.1 hp
  unfold Zh at hp1
  obtain⟨r,_,rfl⟩:=List.mem_map.1 hp1
  rw[←List.nodup_iff_pairwise_ne]
  exact List.nodup_range.sublist List.filter_sublist
 ·refine List.Pairwise.filter _ ?_
  unfold Zh
  rw[List.pairwise_map]
  have:=ZbC (Za q) N
  rw[List.nodup_iff_pairwise_ne]at this
  refine this.imp fun {a b} hab=> ?_
  intro i h1 j h2 e
  subst e
  exact hab ((mem_membN.1 h1).2.symm.trans (mem_membN.1 h2).2)
theorem Zfo (hq:ZR N q):Zbk ((ZbA q N).map fun i:Nat=>(i:Int))=ZT N q:=by
 refine ZcN ((Zaq _).trans ?_) (Zbj _) ?_
 ·unfold ZT
  refine List.Perm.map _ ((List.perm_ext_iff_of_nodup (Zdl q N) (List.nodup_range.sublist List.filter_sublist)).2 fun i=> ?_)
  rw[Zew hq,List.mem_filter,List.mem_range,decide_eq_true_iff]
 ·unfold ZT
  rw[List.pairwise_map]
  exact(List.pairwise_lt_range.sublist List.filter_sublist).imp fun h=>by omega
end
end Go.Proofs.Ytfcefnpnomlgbaa
