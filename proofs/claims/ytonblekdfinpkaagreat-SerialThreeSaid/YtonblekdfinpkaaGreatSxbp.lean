/- Orders, in plain words: what is told goes along, hl1 each id once, and none that goes along is ahead of it. -/
import Derived.Test.YtonblekdfinpkaaGreatSxbf
import Derived.Test.YtonblekdfinpkaaGreatSxbh
import Derived.Test.YtonblekdfinpkaaGreatSxbm
import Derived.Test.YtonblekdfinpkaaGreatSxbn
namespace Go.Proofs.YtonblekdfinpkaaGreat
set_option linter.unusedVariables false
set_option linter.unusedSimpArgs false
section
open Go.RowKit
theorem Zdy (x:Int):∀(l:List Int) (k:Nat),ZaW x l k=if x∈l then ((k+l.idxOf x:Nat):Int) else -1
 |[],_=>by simp[ZaW]
 |y::l,k=>by
  rw[Znn,Zdy x l (k+1),List.idxOf_cons]
  by_cases h:y=x
  ·subst h;simp
  ·have h2:(y==x)=false:=by simpa using h
   rw[if_neg h,h2]
   by_cases h3:x∈l
   ·rw[if_pos h3,if_pos (List.mem_cons_of_mem _ h3)];simp;omega
   ·rw[if_neg h3,if_neg (by rw[List.mem_cons];exact fun hh=>hh.elim (fun e=>h e.symm) h3)]
def Zfy (order:List Int) (e:Edge):Prop:=e.f∈order→e.t∈order→order.idxOf e.f<order.idxOf e.t
theorem ZiL (order:List Int) (e:Edge):ZW order e=true↔Zfy order e:=by
 unfold ZW Zfy;rw[Zdy,Zdy]
 by_cases h1:e.f∈order<;>by_cases h2:e.t∈order<;>simp[h1,h2]
theorem ZdS (order:List Int) (l:List Edge):l.all (ZW order)=true↔∀e∈l,Zfy order e:=by
 rw[List.all_eq_true];exact⟨fun h e he=>(ZiL _ _).1 (h e he),fun h e he=>(ZiL _ _).2 (h e he)⟩
theorem ZjW (l:List Edge) (L:List Int) (x:Int):ZaZ l L x=true↔∀e∈l,e.t=x→e.f∉L:=by
 unfold ZaZ;rw[List.all_eq_true]
 constructor
 ·intro h e he h1 h2;have:=h e he;simp[h1,h2]at this
 ·intro h e he;have:=h e he;simp only[Bool.not_eq_true',Bool.and_eq_false_iff,decide_eq_false_iff_not]
  by_cases h1:e.t=x
  ·exact Or.inr (this h1)
  ·exact Or.inl h1
def Zkf (l:List Edge):List Int→List Int→Prop
 |L,[]=>L=[]
 |L,x::p=>L.find? (ZaZ l L)=some x∧Zkf l (L.erase x) p
theorem Zk6 (l:List Edge):∀(n:Nat) (L out a:List Int),n=L.length→Zd0 l n L out=some a→∃p,a=out++p∧Zkf l L p
 |0,L,out,a,hn,h=>by
  have:L=[]:=List.eq_nil_of_length_eq_zero hn.symm
  cases h
  exact⟨[],by simp,this⟩
 |n+1,L,out,a,hn,h=>by
  unfold Zd0 at h
  cases hf:L.find? (ZaZ l L)with
  |none=>rw[hf]at h;cases h
  |some x=>
   rw[hf]at h;have hx:=List.mem_of_find?_eq_some hf;obtain⟨p,hp,hg⟩:=Zk6 l n (L.erase x) (out++[x]) a (by rw[List.length_erase_of_mem hx];omega) h;exact⟨x::p,by rw[hp];simp,hf,hg⟩
theorem ZdO (l:List Edge):∀(p L:List Int),Zkf l L p→p.Perm L
 |[],L,h=>by rw[show L=[] from h]
 |x::p,L,h=>by
  have hx:=List.mem_of_find?_eq_some h.1;exact((ZdO l p _ h.2).cons x).trans (List.perm_cons_erase hx).symm
theorem Zhc (l:List Edge):∀(p L:List Int),Zkf l L p→L.Nodup→∀e∈l,Zfy p e
 |[],_,_,_,_,_=>fun h=>by cases h
 |x::p,L,h,hd,e,he=>by
  intro h1 h2;have hp:=ZdO l (x::p) L h;have hf:=(ZjW l L x).1 (List.find?_some h.1) e he
  by_cases et:e.t=x
  ·exact absurd (hp.mem_iff.1 h1) (hf et)
  ·rw[List.idxOf_cons,List.idxOf_cons];have et2:(x==e.t)=false:=by rw[beq_eq_false_iff_ne];exact fun h=>et h.symm
   rw[et2]
   by_cases ef:e.f=x
   ·have:(x==e.f)=true:=by rw[beq_iff_eq];exact ef.symm
    rw[this];simp
   ·have ef2:(x==e.f)=false:=by rw[beq_eq_false_iff_ne];exact fun h=>ef h.symm
    rw[ef2];have h3:=Zhc l p _ h.2 (hd.erase x) e he ((List.mem_cons.1 h1).resolve_left ef) ((List.mem_cons.1 h2).resolve_left et)
    simpa using h3
theorem ZeX {ids:List Int} {l:List Edge} {a:List Int} (h:Za4 ids l=some a):Zkf l (Zbs ids) a:=by
 obtain⟨p,hp,hg⟩:=Zk6 l _ _ _ _ rfl h;rw[List.nil_append]at hp;rw[hp];exact hg
theorem Zgh {ids:List Int} {l:List Edge} {a:List Int} (h:Za4 ids l=some a) (x:Int):x∈a↔x∈ids:=by
 rw[(ZdO _ _ _ (ZeX h)).mem_iff,Zbh]
theorem ZgQ {ids:List Int} {l:List Edge} {a:List Int} (h:Za4 ids l=some a):a.Nodup:=(ZdO _ _ _ (ZeX h)).nodup_iff.2 (Zal (ZbK ids))
theorem ZgR {ids:List Int} {l:List Edge} {a:List Int} (h:Za4 ids l=some a):l.all (ZW a)=true:=(ZdS _ _).2 (Zhc _ _ _ (ZeX h) (Zal (ZbK ids)))
end
/- Orders and closed walks,in plain words:there is an order just if no closed walk goes through the ids. -/
section
open Go.RowKit
def qR (ids:List Int) (l:List Edge):List Edge:=(l.filter fun e=>decide (e.f∈ids)&&decide (e.t∈ids)).map fun e=>⟨e.f,e.t,1,e.key⟩
theorem ZjI {ids:List Int} {l:List Edge} {a:HArc} (h:a∈(qR ids l).map Edge.arc):∃e∈l,e.f=a.f∧e.t=a.t∧a.f∈ids∧a.t∈ids:=by
 obtain⟨x,hx,rfl⟩:=List.mem_map.1 h;obtain⟨e,he,rfl⟩:=List.mem_map.1 hx;rw[List.mem_filter]at he;simp only[Bool.and_eq_true,decide_eq_true_eq]at he;exact⟨e,he.1,rfl,rfl,he.2.1,he.2.2⟩
theorem Zjn {ids:List Int} {l:List Edge} {e:Edge} (h:e∈l) (hf:e.f∈ids) (ht:e.t∈ids):(⟨e.f,e.t,1,e.key⟩:HArc)∈(qR ids l).map Edge.arc:=by
 refine List.mem_map.2 ⟨⟨e.f,e.t,1,e.key⟩,List.mem_map.2 ⟨e,?_,rfl⟩,rfl⟩;rw[List.mem_filter];simp[h,hf,ht]
theorem Zho {ids a:List Int} {l:List Edge} (ha:∀e∈l,Zfy a e) (hm:∀x,x∈a↔x∈ids) (lo:Int):∀(c:List HArc) (u v:Int),okW ((qR ids l).map Edge.arc) lo u c v→c≠[]→a.idxOf u<a.idxOf v
 |[],_,_,_,hn=>absurd rfl hn
 |x::c,u,v,h,_=>by
  obtain⟨h1,rfl,_,h4⟩:=h;obtain⟨e,he,e1,e2,e3,e4⟩:=ZjI h1;have h5:=ha e he (by rw[e1,hm];exact e3) (by rw[e2,hm];exact e4);rw[e1,e2]at h5
  cases c with
  |nil=>rw[←(show x.t=v from h4)];exact h5
  |cons y c=>
   have:=Zho ha hm lo (y::c) x.t v h4 (by simp);omega
theorem Zmo {ids:List Int} {l:List Edge} {lo u:Int} {c:List HArc} (h:okW ((qR ids l).map Edge.arc) lo u c u) (hn:c≠[]):Za4 ids l=none:=by
 cases ho:Za4 ids l with
 |none=>rfl
 |some a=>
  have:=Zho ((ZdS _ _).1 (ZgR ho)) (Zgh ho) lo c u u h hn;omega
theorem Zfj (p:Int→Prop):∀(L:List Int),(∃x∈L,p x)→∃x∈L,p x∧∀y∈L,p y→x≤y
 |[],h=>by obtain⟨x,hx,_⟩:=h;cases hx
 |a::L,h=>by
  by_cases hL:∃x∈L,p x
  ·obtain⟨x,hx,hp,hm⟩:=Zfj p L hL
   by_cases ha:p a∧a≤x
   ·refine⟨a,List.mem_cons_self ..,ha.1,fun y hy hpy=> ?_⟩;rcases List.mem_cons.1 hy with rfl|hy
    ·exact Int.le_refl _
    ·have:=hm y hy hpy;omega
   ·refine⟨x,List.mem_cons_of_mem _ hx,hp,fun y hy hpy=> ?_⟩;rcases List.mem_cons.1 hy with rfl|hy
    ·have:¬y≤x:=fun hh=>ha ⟨hpy,hh⟩
     omega
    ·exact hm y hy hpy
  ·obtain⟨x,hx,hp⟩:=h;rcases List.mem_cons.1 hx with rfl|hx
   ·refine⟨x,List.mem_cons_self ..,hp,fun y hy hpy=> ?_⟩;rcases List.mem_cons.1 hy with rfl|hy
    ·exact Int.le_refl _
    ·exact absurd ⟨y,hy,hpy⟩ hL
   ·exact absurd ⟨x,hx,hp⟩ hL
def Zap (pr:Int→Int) (x:Int):Nat→Int
 |0=>x
 |n+1=>pr (Zap pr x n)
theorem ZeI (pr:Int→Int) (x:Int) (i:Nat):∀n,Zap pr x (i+n)=Zap pr (Zap pr x i) n
 |0=>rfl
 |n+1=>congrArg pr (ZeI pr x i n)
theorem Zig:∀(a q:List Int),a.Nodup→(∀x∈a,x∈q)→a.length≤q.length
 |[],_,_,_=>Nat.zero_le _
 |x::a,q,hd,hs=>by
  have hx:=hs x (List.mem_cons_self ..);have hn:=List.nodup_cons.1 hd
  have h1:=Zig a (q.erase x) hn.2 fun y hy=>by
   rw[List.mem_erase_of_ne (fun e:y=x=>hn.1 (e▸hy))];exact hs y (List.mem_cons_of_mem _ hy)
  rw[List.length_erase_of_mem hx]at h1;have:=List.length_pos_of_mem hx;rw[List.length_cons];omega
theorem Zmc (pr:Int→Int) (x:Int) (L:List Int) (h:∀n,Zap pr x n∈L):∃i j,i<j∧Zap pr x i=Zap pr x j:=by
 apply Classical.byContradiction
 intro hn
 have hd:((List.range (L.length+1)).map (Zap pr x)).Nodup:=by
  rw[List.nodup_iff_pairwise_ne,List.pairwise_map];refine(List.pairwise_lt_range (n:=L.length+1)).imp fun {a b} hab e=>hn ⟨a,b,hab,e⟩
 have hs:∀y∈(List.range (L.length+1)).map (Zap pr x),y∈L:=fun y hy=>by
  obtain⟨n,_,rfl⟩:=List.mem_map.1 hy;exact h n
 have:=Zig _ L hd hs;rw[List.length_map,List.length_range]at this;omega
theorem ZiK {D:List HArc} {pr:Int→Int} {x lo:Int} (h:∀n,(⟨Zap pr x (n+1),Zap pr x n,0,0⟩:HArc)∈D.map (fun a=>⟨a.f,a.t,0,0⟩)) (hlo:∀n,lo≤Zap pr x n):∀n,∃c,c.length=n∧okW D lo (Zap pr x n) c x
 |0=>⟨[],rfl,rfl⟩
 |n+1=>by
  obtain⟨c,hc,hw⟩:=ZiK h hlo n;obtain⟨a,ha,e⟩:=List.mem_map.1 (h n);have e1:=congrArg HArc.f e;have e2:=congrArg HArc.t e;simp only at e1 e2;exact⟨a::c,by simp[hc],ha,e1,hlo _,by rw[e2];exact hw⟩
theorem Zm2 {ids:List Int} {l:List Edge} (h:Za4 ids l=none):∃u c,c≠[]∧okW ((qR ids l).map Edge.arc) u u c u:=by
 have key:∀(n:Nat) (L out:List Int),n=L.length→(∀x∈L,x∈ids)→Zd0 l n L out=none→∃L',L'≠[]∧(∀x∈L',x∈ids)∧∀x∈L',ZaZ l L' x=false:=fun n=>by
  induction n with
  |zero=>intro L out _ _ h;cases h
  |succ n ih=>
   intro L out hn hs h;unfold Zd0 at h
   cases hf:L.find? (ZaZ l L)with
   |none=>
    refine⟨L,(fun e=>by rw[e]at hn;cases hn),hs,fun x hx=> ?_⟩;rw[List.find?_eq_none]at hf
    simpa using hf x hx
   |some x=>
    rw[hf]at h;have hx:=List.mem_of_find?_eq_some hf;exact ih _ _ (by rw[List.length_erase_of_mem hx];omega) (fun y hy=>hs y (List.mem_of_mem_erase hy)) h
 obtain⟨L,hne,hs,hf⟩:=key _ _ _ rfl (fun x hx=>(Zbh ids x).1 hx) h
 have hp:∀x:Int,∃y:Int,x∈L→y∈L∧∃e∈l,e.f=y∧e.t=x:=fun x=>by
  by_cases hx:x∈L
  ·have h1:¬ZaZ l L x=true:=by rw[hf x hx];simp
   rw[ZjW]at h1
   apply Classical.byContradiction
   intro hn;refine h1 fun e he h2 h3=>hn ⟨e.f,fun _=>⟨h3,e,he,rfl,h2⟩⟩
  ·exact⟨0,fun h=>absurd h hx⟩
 obtain⟨pr,hpr⟩:=Classical.axiomOfChoice hp;obtain⟨x0,hx0⟩:=List.exists_mem_of_ne_nil L hne
 have hin:∀x∈L,∀n,Zap pr x n∈L:=fun x hx n=>by
  induction n with
  |zero=>exact hx
  |succ n ih=>exact(hpr _ ih).1
 obtain⟨i,j,hij,he⟩:=Zmc pr x0 L (hin x0 hx0);obtain⟨P,rfl⟩:∃P,j=i+P:=⟨j-i,by omega⟩;have hper:∀n,Zap pr x0 (i+P+n)=Zap pr x0 (i+n):=fun n=>by rw[ZeI pr x0 (i+P),←he,←ZeI]
 obtain⟨v,hv,⟨n,hn⟩,hm⟩:=Zfj (fun x=>∃n,Zap pr x0 (i+n)=x) L ⟨Zap pr x0 i,hin x0 hx0 i,0,rfl⟩;have hvn:∀k,Zap pr v k=Zap pr x0 (i+n+k):=fun k=>by rw[ZeI,hn]
 have hback:Zap pr v P=v:=by rw[hvn,show i+n+P=i+P+n by omega,hper,hn]
 obtain⟨c,hc,hw⟩:=ZiK (D:=(qR ids l).map Edge.arc) (pr:=pr) (x:=v) (lo:=v) (fun k=>by
  have hk:=hin v hv k;obtain⟨h1,e,h2,h3,h4⟩:=hpr _ hk;refine List.mem_map.2 ⟨_,Zjn h2 (by rw[h3];exact hs _ h1) (by rw[h4];exact hs _ hk),?_⟩;simp only[h3,h4];rfl) (fun k=>hm _ (hin v hv k) ⟨n+k,by rw[hvn,Nat.add_assoc]⟩) P
 rw[hback]at hw;exact⟨v,c,fun e=>by rw[e]at hc;simp at hc;omega,hw⟩
end
/- Phenomena,plain:one brings another;where there is an order that goes along there is none. -/
section
theorem Zak (l:List Edge) (mask must:Int):Zah l mask must=true↔∃e∈Zj l mask,(ZfJ must=true→ZJ must e.k=true)∧RchE (Zj l mask) e.t e.f:=by
 have hneed:=Zri must
 show(if (bits .and .i64 must 14==0)=true then Zj l mask else (Zj l mask).filter fun e=>ZJ must e.k).any (fun e=>decide (e.f∈Zdu (Zj l mask) e.t))=true↔_
 by_cases hm:(bits .and .i64 must 14==0)=true
 ·have hn:ZfJ must=false:=by rw[←hneed,bne,hm];rfl
  rw[if_pos hm,List.any_eq_true]
  constructor
  ·rintro⟨e,he,h⟩;exact⟨e,he,fun h2=>absurd (hn.symm.trans h2) (by decide),mem_reachE.1 (of_decide_eq_true h)⟩
  ·rintro⟨e,he,_,h⟩;exact⟨e,he,decide_eq_true (mem_reachE.2 h)⟩
 ·have hn:ZfJ must=true:=by rw[←hneed,bne];simpa using hm
  rw[if_neg hm,List.any_eq_true]
  constructor
  ·rintro⟨e,he,h⟩;obtain⟨he1,he2⟩:=List.mem_filter.1 he;exact⟨e,he1,fun _=>he2,mem_reachE.1 (of_decide_eq_true h)⟩
  ·rintro⟨e,he,h1,h2⟩;exact⟨e,List.mem_filter.2 ⟨he,h1 hn⟩,decide_eq_true (mem_reachE.2 h2)⟩
theorem RchE.mono {D D':List Edge} (h:∀e∈D,e∈D') {x y:Int} (k:RchE D x y):RchE D' x y:=by
 induction k with
 |refl=>exact RchE.refl _
 |step _ h2 h3 ih=>exact ih.step (h _ h2) h3
theorem Zo9 (k:Int):ZJ 6 k=decide (k=1∨k=2):=by
 by_cases h:1≤k∧k≤3
 ·rcases(show k=1∨k=2∨k=3 by omega)with rfl|rfl|rfl<;>kernel_rfl
 ·unfold ZJ;rw[decide_eq_false (show¬(k=1∨k=2) by omega)]
  by_cases h1:1≤k
  ·rw[decide_eq_false (show¬k≤3 by omega)];simp
  ·rw[decide_eq_false h1];simp
theorem ZrG (k:Int):ZJ 8 k=decide (k=3):=by
 by_cases h:1≤k∧k≤3
 ·rcases(show k=1∨k=2∨k=3 by omega)with rfl|rfl|rfl<;>kernel_rfl
 ·unfold ZJ;rw[decide_eq_false (show¬k=3 by omega)]
  by_cases h1:1≤k
  ·rw[decide_eq_false (show¬k≤3 by omega)];simp
  ·rw[decide_eq_false h1];simp
theorem ZiX (k:Int):ZJ 14 k=decide (1≤k∧k≤3):=by
 by_cases h:1≤k∧k≤3
 ·rcases(show k=1∨k=2∨k=3 by omega)with rfl|rfl|rfl<;>kernel_rfl
 ·unfold ZJ;rw[decide_eq_false h]
  by_cases h1:1≤k
  ·rw[decide_eq_false (show¬k≤3 by omega)];simp
  ·rw[decide_eq_false h1];simp
theorem memKept {l:List Edge} {mask:Int} {e:Edge}:e∈Zj l mask↔e∈l∧ZJ mask e.k=true:=by unfold Zj;rw[List.mem_filter]
theorem ZmO {l:List Edge} {x y:Int} (h:RchE (Zj l 14) x y):RchE (Zj l 6) x y∨∃e∈Zj l 14,e.k=3∧RchE (Zj l 14) x e.f∧RchE (Zj l 14) e.t y:=by
 induction h with
 |refl=>exact Or.inl (RchE.refl _)
 |step h1 h2 h3 ih=>
  rename_i b e
  rcases ih with ih|⟨a,ha,h4,h5,h6⟩
  ·by_cases hk:e.k=3
   ·exact Or.inr ⟨e,h2,hk,h3▸h1,RchE.refl _⟩
   ·refine Or.inl (ih.step ?_ h3);obtain⟨h7,h8⟩:=memKept.1 h2;rw[ZiX]at h8;have:=of_decide_eq_true h8;exact memKept.2 ⟨h7,by rw[Zo9];exact decide_eq_true (by omega)⟩
  ·exact Or.inr ⟨a,ha,h4,h5,h6.step h2 h3⟩
theorem Zkm (l:List Edge):Zah l 14 0=true↔Zah l 6 0=true∨Zah l 14 8=true:=by
 have h8:ZfJ 8=true:=by decide
 constructor
 ·intro h;obtain⟨e,he,_,hr⟩:=(Zak l 14 0).1 h
  by_cases hk:e.k=3
  ·exact Or.inr ((Zak l 14 8).2 ⟨e,he,fun _=>by rw[ZrG];exact decide_eq_true hk,hr⟩)
  ·rcases ZmO hr with h6|⟨a,ha,h4,h5,h6⟩
   ·obtain⟨h7,h8'⟩:=memKept.1 he;rw[ZiX]at h8';have:=of_decide_eq_true h8';exact Or.inl ((Zak l 6 0).2 ⟨e,memKept.2 ⟨h7,by rw[Zo9];exact decide_eq_true (by omega)⟩,fun h=>absurd h (by decide),h6⟩)
   ·exact Or.inr ((Zak l 14 8).2 ⟨a,ha,fun _=>by rw[ZrG];exact decide_eq_true h4,RchE.trans h6 (RchE.trans ((RchE.refl e.f).step he rfl) h5)⟩)
 ·rintro(h|h)
  ·obtain⟨e,he,_,hr⟩:=(Zak l 6 0).1 h
   have hs:∀b∈Zj l 6,b∈Zj l 14:=fun b hb=>by
    obtain⟨h1,h2⟩:=memKept.1 hb;rw[Zo9]at h2;have:=of_decide_eq_true h2;exact memKept.2 ⟨h1,by rw[ZiX];exact decide_eq_true (by omega)⟩
   exact(Zak l 14 0).2 ⟨e,hs e he,fun h=>absurd h (by decide),hr.mono hs⟩
  ·obtain⟨e,he,_,hr⟩:=(Zak l 14 8).1 h;exact(Zak l 14 0).2 ⟨e,he,fun h=>absurd h (by decide),hr⟩
theorem Zkp {ids:List Int} {l:List Edge} (hk:∀e∈l,1≤e.k∧e.k≤3) (hi:∀e∈l,e.f∈ids∧e.t∈ids):Za4 ids l=none↔Zah l 14 0=true:=by
 have hkept:∀e,e∈Zj l 14↔e∈l:=fun e=>by
  rw[memKept,ZiX];exact⟨fun h=>h.1,fun h=>⟨h,decide_eq_true (hk e h)⟩⟩
 have hq:∀{lo:Int} {c:List HArc} {x y:Int},okW ((qR ids l).map Edge.arc) lo x c y→RchE (Zj l 14) x y:=by
  intro lo c
  induction c with
  |nil=>intro x y h;have:x=y:=h;subst this;exact RchE.refl _
  |cons a c ih=>
   intro x y h;obtain⟨h1,h2,_,h4⟩:=h;obtain⟨e,he,e1,e2,_⟩:=ZjI h1;refine RchE.trans ((RchE.refl x).step ((hkept e).2 he) (e1.trans h2)) ?_;rw[e2];exact ih h4
 have hw:∀{lo:Int},(∀e∈l,lo≤e.f)→∀{x y:Int},RchE (Zj l 14) x y→∃c,okW ((qR ids l).map Edge.arc) lo x c y:=by
  intro lo hlo x y h
  induction h with
  |refl=>exact⟨[],rfl⟩
  |step h1 h2 h3 ih=>
   rename_i b e
   obtain⟨c,hc⟩:=ih;have hel:=(hkept e).1 h2;exact⟨c++[(⟨e.f,e.t,1,e.key⟩:HArc)],Zcr hc (show okW ((qR ids l).map Edge.arc) lo b [(⟨e.f,e.t,1,e.key⟩:HArc)] e.t from⟨Zjn hel (hi e hel).1 (hi e hel).2,h3,by rw[←h3];exact hlo e hel,rfl⟩)⟩
 rw[Zak]
 constructor
 ·intro h;obtain⟨u,c,hne,hc⟩:=Zm2 h;obtain⟨a,t,rfl⟩:=List.exists_cons_of_ne_nil hne;obtain⟨h1,h2,_,h4⟩:=hc;obtain⟨e,he,e1,e2,_⟩:=ZjI h1;refine⟨e,(hkept e).2 he,fun h=>absurd h (by decide),?_⟩;rw[e1,h2,e2];exact hq h4
 ·rintro⟨e,he,_,hr⟩;obtain⟨lo,hlo⟩:=Zrq l;obtain⟨c,hc⟩:=hw hlo hr;have hel:=(hkept e).1 he;have h2:okW ((qR ids l).map Edge.arc) lo e.f (⟨e.f,e.t,1,e.key⟩::c) e.f:=⟨Zjn hel (hi e hel).1 (hi e hel).2,rfl,hlo e hel,hc⟩;obtain⟨u,c',h3,h4,_⟩:=Zmb (by simp) h2;exact Zmo h4 h3
end
/- Phenomena:ids are numbered (phen.nodes.node). -/
section
open Go.RowKit
def Zbg:Nat→List Int→List (Int×Value)
 |_,[]=>[]
 |k,x::l=>(x,.int .i64 (k:Int))::Zbg (k+1) l
theorem Zgj:∀(k:Nat) (l:List Int),(Zbg k l).length=l.length
 |_,[]=>rfl
 |k,x::l=>by unfold Zbg;rw[List.length_cons,List.length_cons,Zgj]
theorem Zid (y:Int) (l:List Int) (x:Int):Zn (y::l) x=if x=y then 0 else Zn l x+1:=by
 unfold Zn;rw[List.findIdx_cons]
 by_cases h:x=y
 ·subst h;simp
 ·rw[if_neg h,show(y==x)=false by rw[beq_eq_false_iff_ne];exact fun e=>h e.symm];rfl
theorem Ze7 (x:Int):∀(l:List Int) (k i:Nat),look x (Zbg k l) i=if x∈l then some (i+Zn l x,.int .i64 ((k+Zn l x:Nat):Int)) else none
 |[],k,i=>by simp[Zbg,look]
 |y::l,k,i=>by
  unfold Zbg look
  by_cases h:x=y
  ·subst h;rw[if_pos rfl,if_pos (List.mem_cons_self ..),Zid,if_pos rfl];simp
  ·rw[if_neg h,Ze7 x l (k+1) (i+1),Zid,if_neg h]
   by_cases hm:x∈l
   ·rw[if_pos hm,if_pos (List.mem_cons_of_mem _ hm)];rw[show i+1+Zn l x=i+(Zn l x+1) by omega,show k+1+Zn l x=k+(Zn l x+1) by omega]
   ·rw[if_neg hm,if_neg (by rw[List.mem_cons,not_or];exact⟨h,hm⟩)]
theorem Zm7 (x:Int) (l:List Int):Zr (Zbg 0 l) x=if x∈l then some (.int .i64 (Zn l x:Int)) else none:=by
 unfold Zr;rw[Ze7]
 split
 ·rw[Nat.zero_add];rfl
 ·rfl
theorem ZjD (x:Int):∀(l:List Int) (k:Nat),Zbg k (l++[x])=Zbg k l++[(x,.int .i64 ((k+l.length:Nat):Int))]
 |[],k=>rfl
 |y::l,k=>by
  show(y,_)::Zbg (k+1) (l++[x])=(y,_)::(Zbg (k+1) l++_)
  rw[ZjD x l (k+1),List.length_cons,show k+1+l.length=k+(l.length+1) by omega]
theorem Zm5 {x:Int} {l:List Int} (h:x∉l):Zk (Zbg 0 l) x (.int .i64 (l.length:Int))=Zbg 0 (l++[x]):=by
 unfold Zk;rw[Ze7,if_neg h,ZjD,Nat.zero_add]
theorem ZnT (w:World):(zeroValue 3).run Tryz.prog w= .ok (.int .i64 0) w:=by kernel_rfl
set_option maxRecDepth 100000 in
theorem Zpq (w:World) (b:Nat) (ids:List Int) (x:Int) (h:MapIs w b (fun n:Int=>Value.int .i64 n) (Zbg 0 ids)):
  Calls Tryz.prog 123 #[.map (some b),.int .i64 x] w fun e w'=>e= .returned (.int .i64 (Zn (ZH ids x) x:Int))∧MapIs w' b (fun n:Int=>Value.int .i64 n) (Zbg 0 (ZH ids x))∧Upd (One b) w w':=by
 have hl:=ZfX Zz Tryz.underlying191 ZnT h x;rw[Zm7]at hl;have hn:=Zem (ty:=3) Tryz.underlying191 h;rw[Zgj]at hn;have HM:=Qh h;clear h
 by_cases hx:x∈ids
 ·rw[if_pos hx]at hl;have HE:=Qh (show ZH ids x=ids from if_pos hx);simp only[Option.getD_some,Option.isSome_some]at hl;clear hx;rw[HE.out]
  go_enter Tryz.func123,Tryz.ntmps123
  go_wp2
  go_ret
  exact⟨rfl,HM.out,Upd.refl _ _⟩
 ·rw[if_neg hx]at hl;have HE:=Qh (show ZH ids x=ids++[x] from if_neg hx);have HP:=Qh (Zom hx);have HPU:=Qh (Zm5 hx);simp only[Option.getD_none,Option.isSome_none]at hl;clear hx;rw[HE.out,HP.out]
  go_enter Tryz.func123,Tryz.ntmps123
  go_wp2_with (at_mapUpdate;refine ZjL rfl rfl Zz Tryz.underlying191 (a:=x) (val:= .int .i64 (ids.length:Int)) (by rfl) (by rfl) (by rfl) HM.out ?_;intro w5 hm5 hu5;rw[HPU.out]at hm5;have HM5:=Qh hm5;have HU5:=Qh hu5;clear hm5 hu5)
  go_ret
  exact⟨rfl,HM5.out,HU5.out⟩
end
/- Phenomena:whether an arc is Zbx a component (the closure of phen.Round). -/
section
open Go.RowKit
theorem Ztd {k:Int} (h:k=1∨k=2∨k=3):(2:Int) ^ min (IntKind.u64.wrap k).toNat 64=2 ^ k.toNat:=by
 rcases h with rfl|rfl|rfl<;>rfl
def inP (lab:List Int) (must:Int) (a:HArc):Bool:=decide (lab.getD a.f.toNat 0=lab.getD a.t.toNat 0)&&((bits .and .i64 must 14==0)||ZJ must a.kind)
def Zhr (n:Nat) (a:HArc):Prop:=0≤a.f∧a.f<(n:Int)∧0≤a.t∧a.t<(n:Int)∧1≤a.kind∧a.kind≤3
set_option maxRecDepth 100000 in
set_option maxHeartbeats 4000000 in
theorem Zs9 (F:Nat→Prop) (w:World) (pl pm:Addr) (L:Option Addr) (cL:Nat) (lab:List Int) (must:Int) (a:HArc) (hpl:w.cell? pl=some (.slice L lab.length cL)) (hpm:w.cell? pm=some (.int .i64 must))
  (hL:Ints F w L lab) (ha:Zhr lab.length a) (hl:lab.length≤100000):
  Calls Tryz.prog 126 #[.agg a.cells.toArray,.pointer (some pl),.pointer (some pm)] w fun e w'=>e= .returned (.bool (inP lab must a))∧Upd No w w':=by
 obtain⟨f,t,k,y⟩:=a;obtain⟨h1,h2,h3,h4,h5,h6⟩:=ha;simp only at h1 h2 h3 h4 h5 h6;obtain⟨i,rfl⟩:=Int.eq_ofNat_of_zero_le h1;obtain⟨j,rfl⟩:=Int.eq_ofNat_of_zero_le h3;have hi:i<lab.length:=by omega
 have hj:j<lab.length:=by omega
 obtain⟨ad,rfl,_,_,ci⟩:=hL.at_ hi;obtain⟨ad2,e2,_,_,cj⟩:=hL.at_ hj
 cases e2
 obtain⟨x,hx⟩:∃x,lab[i]=x:=⟨_,rfl⟩;obtain⟨z,hz⟩:∃z,lab[j]=z:=⟨_,rfl⟩;rw[hx]at ci;rw[hz]at cj;have gx:lab.getD i 0=x:=by rw[List.getD_eq_getElem?_getD,Qg hi,hx];rfl
 have gz:lab.getD j 0=z:=by rw[List.getD_eq_getElem?_getD,Qg hj,hz];rfl
 obtain⟨v,hv⟩:∃v,inP lab must ⟨(i:Int),(j:Int),k,y⟩=v:=⟨_,rfl⟩;rw[hv]
 have hv:(decide (x=z)&&((bits .and .i64 must 14==0)||ZJ must k))=v:=by
  rw[←hv];unfold inP;simp only[Int.toNat_natCast,gx,gz]
 obtain⟨wz,hwz⟩:∃wz,w.alloc (.cells #[.int .i64 (i:Int),.int .i64 (j:Int),.int .i64 k,.int .i64 y] 34)=wz:=⟨_,rfl⟩;have uz:Upd No w wz:=by rw[←hwz];exact(Upd.refl No w).alloc _
 have bo:Blk wz w.heap.size 34 [.int .i64 (i:Int),.int .i64 (j:Int),.int .i64 k,.int .i64 y]:=by rw[←hwz];exact Blk.new w _ _
 have g0:∀W,Upd No wz W→W.cell? ⟨w.heap.size,0,none⟩=some (.int .i64 (i:Int)):=fun W u=>(bo.upd u id).cell 0
 have g1:∀W,Upd No wz W→W.cell? ⟨w.heap.size,1,none⟩=some (.int .i64 (j:Int)):=fun W u=>(bo.upd u id).cell 1
 have g2:∀W,Upd No wz W→W.cell? ⟨w.heap.size,2,none⟩=some (.int .i64 k):=fun W u=>(bo.upd u id).cell 2
 have p0:∀W,Upd No wz W→W.cell? pl=some (.slice (some ad) lab.length cL):=fun W u=>(uz.trans u).keepNo hpl
 have p1:∀W,Upd No wz W→W.cell? pm=some (.int .i64 must):=fun W u=>(uz.trans u).keepNo hpm
 have p2:∀W,Upd No wz W→W.cell? (ad.add i)=some (.int .i64 x):=fun W u=>(uz.trans u).keepNo ci
 have p3:∀W,Upd No wz W→W.cell? (ad.add j)=some (.int .i64 z):=fun W u=>(uz.trans u).keepNo cj
 have HU:=Qh uz;have hzz:Upd No wz wz:=Upd.refl _ _;have i0:(0:Int)≤(i:Int):=Qn _;have i1:(i:Int)<(lab.length:Int):=by omega
 have j0:(0:Int)≤(j:Int):=Qn _;have j1:(j:Int)<(lab.length:Int):=by omega
 unfold HArc.cells;have hk3:k=1∨k=2∨k=3:=by omega
 have hbu:(bits .and .i64 (must/2 ^ min (IntKind.u64.wrap k).toNat 64) 1==1)=ZS must k:=by rw[Ztd hk3,ZeJ];rfl
 have hbu2:(bits .and .i64 (must/2 ^ k.toNat) 1==1)=ZS must k:=by rw[ZeJ];rfl
 have hbr:ZJ must k=ZS must k:=by unfold ZJ;rw[decide_eq_true h5,decide_eq_true h6];rfl
 clear bo uz ci cj hpl hpm hL gx gz hx hz h1 h2 h3 h4 hk3 hi hj
 by_cases hxz:x=z
 ·subst hxz;have hq:(x==x)=true:=by simp
  rw[decide_eq_true rfl,Bool.true_and]at hv
  cases hm:(bits .and .i64 must 14==0)
  ·rw[hm,Bool.false_or,hbr]at hv;rw[hv]at hbu hbu2;clear hv hbr;have HV:=Qh (show v=v from rfl)
   cases v
   ·go_enter Tryz.func126,Tryz.ntmps126
    go_wp2;refine wp_region_noPanic ?_;refine wp_region_held_drew (S:=(fun W'=>Upd No wz W')) (by kernel_rfl) ?_ (fun hHeld=> ?_)
    ·(first|exact hzz.drew|exact hHeld)
    refine wpK 0 rfl ?_;refine wpK 1 rfl ?_;refine wpK 2 rfl ?_;refine wpK 3 rfl ?_;refine wpK 4 rfl ?_;refine wpK 5 rfl ?_;refine wpK 6 rfl ?_;refine wpK 7 rfl ?_;refine wpK 8 rfl ?_;refine wpK 9 rfl ?_;refine wpK 10 rfl ?_;refine wpK 11 rfl ?_;refine wpK 12 rfl ?_;refine wpK 13 rfl ?_;refine wpK 14 rfl ?_;refine wpK 15 rfl ?_;refine wpK 16 rfl ?_;refine wpK 17 rfl ?_;refine wpK 18 rfl ?_;refine wpK 19 rfl ?_;refine wpK 20 rfl ?_;refine wpK 21 rfl ?_;refine wpK 22 rfl ?_;refine wpK 23 rfl ?_;refine wpK 24 rfl ?_;refine wpK 25 rfl ?_;refine wpD (NoPanic.normal ?_);have HU3:=Qh (HU.out.trans hHeld);clear hHeld;go_wp2
    go_ret
    exact⟨by first|rfl|(have:=HV.out;subst this;rfl),HU3.out⟩
   ·go_enter Tryz.func126,Tryz.ntmps126
    go_wp2;refine wp_region_noPanic ?_;refine wp_region_held_drew (S:=(fun W'=>Upd No wz W')) (by kernel_rfl) ?_ (fun hHeld=> ?_)
    ·(first|exact hzz.drew|exact hHeld)
    refine wpK 0 rfl ?_;refine wpK 1 rfl ?_;refine wpK 2 rfl ?_;refine wpK 3 rfl ?_;refine wpK 4 rfl ?_;refine wpK 5 rfl ?_;refine wpK 6 rfl ?_;refine wpK 7 rfl ?_;refine wpK 8 rfl ?_;refine wpK 9 rfl ?_;refine wpK 10 rfl ?_;refine wpK 11 rfl ?_;refine wpK 12 rfl ?_;refine wpK 13 rfl ?_;refine wpK 14 rfl ?_;refine wpK 15 rfl ?_;refine wpK 16 rfl ?_;refine wpK 17 rfl ?_;refine wpK 18 rfl ?_;refine wpK 19 rfl ?_;refine wpK 20 rfl ?_;refine wpK 21 rfl ?_;refine wpK 22 rfl ?_;refine wpK 23 rfl ?_;refine wpK 24 rfl ?_;refine wpK 25 rfl ?_;refine wpD (NoPanic.normal ?_);have HU3:=Qh (HU.out.trans hHeld);clear hHeld;go_wp2
    go_ret
    exact⟨by first|rfl|(have:=HV.out;subst this;rfl),HU3.out⟩
  ·rw[hm,Bool.true_or]at hv;have HV:=Qh hv;clear hv hbr hbu hbu2
   go_enter Tryz.func126,Tryz.ntmps126
   go_wp2;refine wp_region_noPanic ?_;refine wp_region_held_drew (S:=(fun W'=>Upd No wz W')) (by kernel_rfl) ?_ (fun hHeld=> ?_)
   ·(first|exact hzz.drew|exact hHeld)
   refine wpK 0 rfl ?_;refine wpK 1 rfl ?_;refine wpK 2 rfl ?_;refine wpK 3 rfl ?_;refine wpK 4 rfl ?_;refine wpK 5 rfl ?_;refine wpK 6 rfl ?_;refine wpK 7 rfl ?_;refine wpK 8 rfl ?_;refine wpK 9 rfl ?_;refine wpK 10 rfl ?_;refine wpK 11 rfl ?_;refine wpK 12 rfl ?_;refine wpK 13 rfl ?_;refine wpK 14 rfl ?_;refine wpK 15 rfl ?_;refine wpN 16 rfl ?_;refine wpN 17 rfl ?_;refine wpN 18 rfl ?_;refine wpN 19 rfl ?_;refine wpN 20 rfl ?_;refine wpN 21 rfl ?_;refine wpN 22 rfl ?_;refine wpK 23 rfl ?_;refine wpK 24 rfl ?_;refine wpK 25 rfl ?_;refine wpD (NoPanic.normal ?_);have HU3:=Qh (HU.out.trans hHeld);clear hHeld;go_wp2
   go_ret
   exact⟨by first|rfl|(have:=HV.out;subst this;rfl),HU3.out⟩
 ·have hq:(x==z)=false:=by rw[beq_eq_false_iff_ne];exact hxz
  rw[decide_eq_false hxz,Bool.false_and]at hv;have HV:=Qh hv;clear hv hbr hbu hbu2 hxz
  go_enter Tryz.func126,Tryz.ntmps126
  go_wp2;refine wp_region_noPanic ?_;refine wp_region_held_drew (S:=(fun W'=>Upd No wz W')) (by kernel_rfl) ?_ (fun hHeld=> ?_)
  ·(first|exact hzz.drew|exact hHeld)
  refine wpK 0 rfl ?_;refine wpK 1 rfl ?_;refine wpK 2 rfl ?_;refine wpK 3 rfl ?_;refine wpK 4 rfl ?_;refine wpK 5 rfl ?_;refine wpK 6 rfl ?_;refine wpK 7 rfl ?_;refine wpK 8 rfl ?_;refine wpK 9 rfl ?_;refine wpK 10 rfl ?_;refine wpK 11 rfl ?_;refine wpN 12 rfl ?_;refine wpN 13 rfl ?_;refine wpN 14 rfl ?_;refine wpN 15 rfl ?_;refine wpN 16 rfl ?_;refine wpN 17 rfl ?_;refine wpN 18 rfl ?_;refine wpN 19 rfl ?_;refine wpN 20 rfl ?_;refine wpN 21 rfl ?_;refine wpN 22 rfl ?_;refine wpN 23 rfl ?_;refine wpK 24 rfl ?_;refine wpK 25 rfl ?_;refine wpD (NoPanic.normal ?_);have HU3:=Qh (HU.out.trans hHeld);clear hHeld;go_wp2
  go_ret
  exact⟨by first|rfl|(have:=HV.out;subst this;rfl),HU3.out⟩
def ZdX (lab:List Int) (must:Int) (l:List HArc):Nat:=l.findIdx (inP lab must)
def Zfh (lab:List Int) (must:Int) (l:List HArc):Int:=if ZdX lab must l<l.length then (ZdX lab must l:Int) else -1
theorem Zoj {lab:List Int} {must:Int} {l:List HArc} {k:Nat} (hk:k<l.length) (h:∀(j:Nat) (hj:j<k),inP lab must (l[j]'(by omega))=false) (h1:inP lab must l[k]=true):ZdX lab must l=k:=by
 unfold ZdX;rw[List.findIdx_eq hk];exact⟨h1,fun j hj=>by simp only[h j hj]⟩
theorem ZmQ {lab:List Int} {must:Int} {l:List HArc} (h:∀(j:Nat) (hj:j<l.length),inP lab must l[j]=false):ZdX lab must l=l.length:=by
 unfold ZdX;rw[List.findIdx_eq_length];intro x hx;obtain⟨k,hk,rfl⟩:=List.mem_iff_getElem.1 hx;simp only[h k hk]
theorem ZoL (lab:List Int) (must:Int) (l:List HArc):decide (0≤Zfh lab must l)=l.any (inP lab must):=by
 unfold Zfh
 by_cases h:ZdX lab must l<l.length
 ·rw[if_pos h,decide_eq_true (by omega)];unfold ZdX at h;rw[List.findIdx_lt_length]at h;obtain⟨x,hx,he⟩:=h;exact(List.any_eq_true.2 ⟨x,hx,he⟩).symm
 ·rw[if_neg h];have h0:ZdX lab must l=l.length:=by have:=List.findIdx_le_length (xs:=l) (p:=inP lab must);unfold ZdX at h ⊢;omega
  have h1:=(List.findIdx_eq_length (p:=inP lab must) (xs:=l)).1 h0;rw[show l.any (inP lab must)=false from List.any_eq_false.2 fun x hx=>by rw[h1 x hx];decide];rfl
section
variable {F G:Nat→Prop} {w:World} {B:Option Addr} {d:Nat} {l:List HArc} {pl pm:Addr} {L:Option Addr} {cL:Nat} {lab:List Int} {must:Int}
set_option maxRecDepth 100000 in
theorem Zr8 (H:ArcsL F w B l) (hl:l.length≤1000000) (hpl:w.cell? pl=some (.slice L lab.length cL)) (hpm:w.cell? pm=some (.int .i64 must)) (hL:Ints G w L lab) (ha:∀a∈l,Zhr lab.length a) (hn:lab.length≤100000):
  Calls Tryz.prog 191 #[.slice B l.length d,.func (.func 126) #[] #[.pointer (some pl),.pointer (some pm)]] w fun e w'=>e= .returned (.int .i64 (Zfh lab must l))∧Upd No w w':=by
 go_enter Tryz.func191,Tryz.ntmps191
 go_wp2
 go_loopg [8] l.length (fun gk s wr=>∃k:Nat,k+gk=l.length∧s= .int .i64 k∧Hid (∀(j:Nat) (hj:j<l.length),j<k→inP lab must l[j]=false)∧Upd No w wr)
 case atStart=>exact⟨0,by omega,rfl,Qh (fun j _ hj=>by omega),Upd.refl _ _⟩
 case round=>
  obtain⟨k,hgk,rfl,hall,hu⟩:=hrel
  by_cases hlt:k<l.length
  ·obtain⟨ad,rfl,q0,q1,q2,q3⟩:=(H.upd hu (fun _ _=>id)).at_ hlt;have hok:=ha _ (List.getElem_mem hlt);obtain⟨x,hx⟩:∃x,l[k]=x:=⟨_,rfl⟩;rw[hx]at q0 q1 q2 q3 hok;have X:=Qh hx;have b2:(k:Int)<(l.length:Int):=by omega
   have b1:(0:Int)≤(k:Int):=Qn _;have HC:=Qh (Zs9 G wr pl pm L cL lab must x (hu.keepNo hpl) (hu.keepNo hpm) (hL.upd hu (fun _ _=>id)) hok hn);unfold HArc.cells at HC;clear hx hok
   by_cases he:inP lab must x=true
   ·have hpos:=Qh (show Zfh lab must l=(k:Int) by unfold Zfh;rw[Zoj hlt (fun j hj=>hall.out j (by omega) hj) (by rw[X.out];exact he),if_pos hlt]);have He:=Qh he;clear he
    go_wp2_with fail
    refine(HC.out).mono ?_;rintro e w1 ⟨hee,hu1⟩;rw[He.out]at hee;subst hee;go_wp2
    go_ret
    exact⟨by rw[hpos.out];rfl,hu.trans hu1⟩
   ·have hef:inP lab must x=false:=by simpa using he
    have He:=Qh hef;clear he hef
    go_wp2_with fail
    refine(HC.out).mono ?_;rintro e w1 ⟨hee,hu1⟩;rw[He.out]at hee;subst hee;go_wp2
    go_roundg (gk-1)
    case measure=>omega
    case rel=>exact⟨k+1,by omega,by go_num,Qh (fun j hj hjk=>by
      by_cases e:j=k
      ·subst e;rw[X.out];exact He.out
      ·exact hall.out j hj (by omega)),hu.trans hu1⟩
  ·obtain rfl:k=l.length:=by omega
   have hpos:=Qh (show Zfh lab must l= -1 by unfold Zfh;rw[ZmQ fun j hj=>hall.out j hj hj,if_neg (by omega)]);go_wp2
   go_ret
   exact⟨by rw[hpos.out];rfl,hu⟩
set_option maxRecDepth 100000 in
theorem Zrb (H:ArcsL F w B l) (hl:l.length≤1000000) (hpl:w.cell? pl=some (.slice L lab.length cL)) (hpm:w.cell? pm=some (.int .i64 must)) (hL:Ints G w L lab) (ha:∀a∈l,Zhr lab.length a) (hn:lab.length≤100000):
  Calls Tryz.prog 125 #[.slice B l.length d,.func (.func 126) #[] #[.pointer (some pl),.pointer (some pm)]] w fun e w'=>e= .returned (.bool (l.any (inP lab must)))∧Upd No w w':=by
 have hq:=ZoL lab must l;have hf:=Zr8 (d:=d) H hl hpl hpm hL ha hn;obtain⟨b,hb⟩:∃b,l.any (inP lab must)=b:=⟨_,rfl⟩;obtain⟨i,hi⟩:∃i,Zfh lab must l=i:=⟨_,rfl⟩;rw[hb,hi]at hq;rw[hi]at hf;rw[hb];have HF:=Qh hf;clear hf hb hi H hpl hpm hL ha;subst hq
 go_enter Tryz.func125,Tryz.ntmps125
 go_wp2_with fail
 refine(HF.out).mono ?_;rintro e w1 ⟨rfl,hu1⟩;go_wp2
 go_ret
 exact⟨rfl,hu1⟩
end
end
end Go.Proofs.YtonblekdfinpkaaGreat
