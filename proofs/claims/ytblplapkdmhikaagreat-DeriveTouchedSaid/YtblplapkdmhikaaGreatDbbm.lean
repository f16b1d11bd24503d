/- Digraphs: the nodes next to one, and those ahead of it. -/
import Derived.Laws.StructEq
import Derived.Test.YtblplapkdmhikaaGreatProg
import Derived.Test.YtblplapkdmhikaaGreatDbaf
import Derived.Test.YtblplapkdmhikaaGreatDbal
import Derived.Test.YtblplapkdmhikaaGreatDbax
import Derived.Test.YtblplapkdmhikaaGreatDbay
import Derived.Test.YtblplapkdmhikaaGreatDbbf
namespace Go.Proofs.YtblplapkdmhikaaGreat
set_option linter.unusedVariables false
set_option linter.unusedSimpArgs false
section
open Go.RowKit
def ZnV (ls:List (List DEnd)):Prop:=∀l∈ls,∀e∈l,1≤e.kind∧e.kind≤3
section
variable {w:World} {G:Nat→Prop} {g:Nat} {out inn:List (List DEnd)} {n:Int} {ob ib:Nat} {oh ih:List Value} {base:Nat}
end
end
/- Digraphs:lists of arcs;when two are one. -/
section
open Go.RowKit
def ArcsL (F:Nat→Prop) (w:World) (A:Option Addr) (l:List HArc):Prop:=Recs F w A 4 (l.map HArc.cells)
theorem ArcsL.at_ {F:Nat→Prop} {w:World} {A:Option Addr} {l:List HArc} (h:ArcsL F w A l) {k:Nat} (hk:k<l.length):∃ad,A=some ad∧
  w.cell? (ad.add (k*4))=some (.int .i64 l[k].f)∧w.cell? ⟨(ad.add (k*4)).block,(ad.add (k*4)).off+1,none⟩=some (.int .i64 l[k].t)∧
  w.cell? ⟨(ad.add (k*4)).block,(ad.add (k*4)).off+2,none⟩=some (.int .i64 l[k].kind)∧w.cell? ⟨(ad.add (k*4)).block,(ad.add (k*4)).off+3,none⟩=some (.int .i64 l[k].label):=by
 have hk':k<(l.map HArc.cells).length:=by simpa using hk
 obtain⟨ad,e,_,_,hc⟩:=Recs.at_ h hk';rw[List.getElem_map]at hc;exact⟨ad,e,by simpa using hc 0 _ rfl,by simpa using hc 1 _ rfl,by simpa using hc 2 _ rfl,by simpa using hc 3 _ rfl⟩
theorem ArcsL.upd {F S:Nat→Prop} {w w':World} {A:Option Addr} {l:List HArc} (h:ArcsL F w A l) (k:Upd S w w') (hn:∀i,F i→¬S i):ArcsL F w' A l:=Recs.upd h k hn
end
/- The document's digraph:the order of arcs;how many nodes there may be. -/
section
open Go.RowKit
def Zbg (a b:HArc):Bool:=if a.f=b.f then (if a.kind=b.kind then (if a.label=b.label then decide (a.t<b.t) else decide (a.label<b.label)) else decide (a.kind<b.kind)) else decide (a.f<b.f)
end
/- Digraphs,plain:arcs in order,and the rows that hold them. -/
section
open Go.RowKit
/-! lists in strict order -/
theorem Zea {α:Type} {r:α→α→Prop} (irr:∀a,¬r a a) (tr:∀a b c,r a b→r b c→r a c):∀{l m:List α},l.Pairwise r→m.Pairwise r→(∀x,x∈l↔x∈m)→l=m
 |[],[],_,_,_=>rfl
 |[],b::m,_,_,h=>absurd ((h b).2 List.mem_cons_self) (by simp)
 |a::l,[],_,_,h=>absurd ((h a).1 List.mem_cons_self) (by simp)
 |a::l,b::m,hl,hm,h=>by
  have hl':=List.pairwise_cons.1 hl;have hm':=List.pairwise_cons.1 hm
  have hab:a=b:=by
   rcases List.mem_cons.1 ((h a).1 List.mem_cons_self)with e|e
   ·exact e
   rcases List.mem_cons.1 ((h b).2 List.mem_cons_self)with f|f
   ·exact f.symm
   exact absurd (tr _ _ _ (hm'.1 a e) (hl'.1 b f)) (irr b)
  subst hab
  have:l=m:=Zea irr tr hl'.2 hm'.2 fun x=>by
   constructor
   ·intro hx;rcases List.mem_cons.1 ((h x).1 (List.mem_cons_of_mem _ hx))with e|e
    ·subst e;exact absurd (hl'.1 x hx) (irr x)
    ·exact e
   ·intro hx;rcases List.mem_cons.1 ((h x).2 (List.mem_cons_of_mem _ hx))with e|e
    ·subst e;exact absurd (hm'.1 x hx) (irr x)
    ·exact e
  rw[this]
theorem Zb6 (a b:HArc):Zbg a b=true↔a.f<b.f∨(a.f=b.f∧(a.kind<b.kind∨(a.kind=b.kind∧(a.label<b.label∨(a.label=b.label∧a.t<b.t))))):=by
 unfold Zbg
 split
 ·split
  ·split
   ·simp_all
   ·simp_all
  ·simp_all
 ·simp_all
theorem Zd2 (a:HArc):¬Zbg a a=true:=by rw[Zb6];omega
theorem ZeK (a b c:HArc) (h:Zbg a b=true) (k:Zbg b c=true):Zbg a c=true:=by rw[Zb6]at*;omega
theorem ZkJ (a b:HArc) (h:¬Zbg a b=true) (k:a≠b):Zbg b a=true:=by
 rw[Zb6]at*
 have:¬(a.f=b.f∧a.kind=b.kind∧a.label=b.label∧a.t=b.t):=by
  rintro⟨e1,e2,e3,e4⟩;obtain⟨af,at',ak,al⟩:=a;obtain⟨bf,bt,bk,bl⟩:=b;simp only at e1 e2 e3 e4;subst e1 e2 e3 e4;exact k rfl
 omega
def Zc0 (q:List HArc):Prop:=q.Pairwise fun a b=>Zbg a b=true
def Zcy (a:HArc):List HArc→List HArc
 |[]=>[a]
 |x::l=>if Zbg x a=true then x::Zcy a l else a::(x::l).filter (fun y=> !(y==a))
theorem Zbv (a b:HArc):∀l,b∈Zcy a l↔b=a∨b∈l
 |[]=>by simp[Zcy]
 |x::l=>by
  have ih:=Zbv a b l;unfold Zcy
  split
  ·simp only[List.mem_cons,ih];grind
  ·rw[List.mem_cons,List.mem_filter]
   by_cases h:b=a<;>simp[h]
theorem ZeG (a:HArc):∀l,Zc0 l→Zc0 (Zcy a l)
 |[],_=>by simp[Zcy,Zc0]
 |x::l,h=>by
  have h':=List.pairwise_cons.1 h;unfold Zcy
  split
  ·rename_i hx
   refine List.pairwise_cons.2 ⟨fun b hb=> ?_,ZeG a l h'.2⟩;rcases(Zbv a b l).1 hb with rfl|h2
   ·exact hx
   ·exact h'.1 b h2
  ·rename_i hx
   refine List.pairwise_cons.2 ⟨fun b hb=> ?_,h.filter _⟩;rw[List.mem_filter]at hb;have h1:b≠a:=by simpa using hb.2
   by_cases hxa:x=a
   ·subst hxa;rcases List.mem_cons.1 hb.1 with rfl|h2
    ·exact absurd rfl h1
    ·exact h'.1 b h2
   ·have h3:=ZkJ x a hx hxa;rcases List.mem_cons.1 hb.1 with rfl|h2
    ·exact h3
    ·exact ZeK _ _ _ h3 (h'.1 b h2)
theorem ZlL (a:HArc) (l:List HArc):(Zcy a l).length≤l.length+1:=by
 induction l with
 |nil=>simp[Zcy]
 |cons x l ih=>
  unfold Zcy
  split
  ·simp only[List.length_cons]at*;omega
  ·have:=List.length_filter_le (fun y=> !(y==a)) (x::l);simp only[List.length_cons]at*;omega
def nxS (node:Int) (back:Bool) (s:List Int):List HArc→List Int
 |[]=>s
 |x::l=>nxS node back (if back=true then (if x.t=node then ZT x.f s else s) else (if x.f=node then ZT x.t s else s)) l
def nxA (node:Int) (back:Bool) (p:List HArc):List Int:=nxS node back [] p
/-! rows of ends -/
theorem Zib (a:DEnd):¬ZaF a a<0:=by rw[Zgw];omega
theorem Zmi (a b:DEnd) (h:¬ZaF a b<0) (k:a≠b):ZaF b a<0:=by
 rw[Zgw]at*
 have:¬(a.kind=b.kind∧a.label=b.label∧a.node=b.node):=by
  rintro⟨e1,e2,e3⟩;obtain⟨ak,al,an⟩:=a;obtain⟨bk,bl,bn⟩:=b;simp only at e1 e2 e3;subst e1 e2 e3;exact k rfl
 omega
theorem ZhO (l:List DEnd) (e x:DEnd):x∈ZdP l e↔x=e∨x∈l:=by
 unfold ZdP ZfR;have:=List.take_append_drop (ZU l e) l;have h2:x∈l↔x∈l.take (ZU l e)∨x∈l.drop (ZU l e):=by rw[←List.mem_append,this]
 rw[h2];simp only[List.mem_append,List.mem_singleton]
 grind
theorem Ziq {l:List DEnd} {p:Nat} {x:DEnd} (h:x∈l.take p):∃k,∃hk:k<l.length,k<p∧l[k]=x:=by
 obtain⟨k,hk,rfl⟩:=List.mem_iff_getElem.1 h;rw[List.length_take]at hk;exact⟨k,by omega,by omega,by simp⟩
theorem Zir {l:List DEnd} {p:Nat} {x:DEnd} (h:x∈l.drop p):∃k,∃hk:k<l.length,p≤k∧l[k]=x:=by
 obtain⟨k,hk,rfl⟩:=List.mem_iff_getElem.1 h;rw[List.length_drop]at hk;exact⟨p+k,by omega,by omega,by simp⟩
theorem ZgI {l:List DEnd} (h:Zbd l) {e:DEnd} (hn:e∉l):Zbd (ZdP l e):=by
 have hp:=Zdl h e;unfold ZdP ZfR Zbd;rw[List.pairwise_append,List.pairwise_append];have h1:(l.take (ZU l e)++l.drop (ZU l e)).Pairwise fun a b=>ZaF a b<0:=by rw[List.take_append_drop];exact h
 rw[List.pairwise_append]at h1
 have hd:∀x∈l.drop (ZU l e),ZaF e x<0:=fun x hx=>by
  obtain⟨k,hk,hkp,rfl⟩:=Zir hx;exact Zmi _ _ (fun e2=>by have:=(hp.2 k hk).1 e2;omega) (fun e2=>hn (e2▸List.getElem_mem hk))
 have ht:∀x∈l.take (ZU l e),ZaF x e<0:=fun x hx=>by
  obtain⟨k,hk,hkp,rfl⟩:=Ziq hx;exact(hp.2 k hk).2 hkp
 refine⟨⟨h1.1,List.pairwise_singleton _ _,fun a ha b hb=> ?_⟩,h1.2.1,fun a ha b hb=> ?_⟩
 ·rw[List.mem_singleton]at hb;subst hb;exact ht a ha
 ·rcases List.mem_append.1 ha with ha|ha
  ·exact h1.2.2 a ha b hb
  ·rw[List.mem_singleton]at ha;subst ha;exact hd b hb
theorem Zfm {l:List DEnd} (h:Zbd l) (e:DEnd):Zbd (ZcI l e):=by
 unfold ZcI Zhm Zbd;have h1:(l.take (ZU l e)++l.drop (ZU l e)).Pairwise fun a b=>ZaF a b<0:=by rw[List.take_append_drop];exact h
 rw[List.pairwise_append]at h1;rw[List.pairwise_append]
 have hs:(l.drop (ZU l e+1)).Sublist (l.drop (ZU l e)):=by
  have:l.drop (ZU l e+1)=(l.drop (ZU l e)).drop 1:=by rw[List.drop_drop]
  rw[this];exact List.drop_sublist _ _
 exact⟨h1.1,h1.2.1.sublist hs,fun a ha b hb=>h1.2.2 a ha b (hs.subset hb)⟩
theorem ZgS {l:List DEnd} (h:Zbd l) {e:DEnd} (hm:e∈l) (x:DEnd):x∈ZcI l e↔x≠e∧x∈l:=by
 have hlt:=ZmY h hm;have hat:=ZhX h e;rw[decide_eq_true hm]at hat
 have he:l[ZU l e]=e:=by
  unfold ZjE at hat;rw[Qg hlt]at hat;exact(ZeA _ _).1 (by simpa using hat)
 have hsplit:l=l.take (ZU l e)++e::l.drop (ZU l e+1):=by
  have h1:=List.take_append_drop (ZU l e) l;rw[List.drop_eq_getElem_cons hlt,he]at h1;exact h1.symm
 have hpw:(l.take (ZU l e)++e::l.drop (ZU l e+1)).Pairwise fun a b=>ZaF a b<0:=by rw[←hsplit];exact h
 rw[List.pairwise_append]at hpw;have hc:=List.pairwise_cons.1 hpw.2.1
 have hx:x∈l↔x∈l.take (ZU l e)∨x=e∨x∈l.drop (ZU l e+1):=by
  conv=>lhs;rw[hsplit]
  rw[List.mem_append,List.mem_cons]
 rw[hx];unfold ZcI Zhm;rw[List.mem_append]
 constructor
 ·rintro(h1|h1)
  ·exact⟨fun e2=>Zib e (by have:=hpw.2.2 x h1 e List.mem_cons_self;rwa [e2]at this),.inl h1⟩
  ·exact⟨fun e2=>Zib e (by have:=hc.1 x h1;rwa [e2]at this),.inr (.inr h1)⟩
 ·rintro⟨h1,h2|h2|h2⟩
  ·exact .inl h2
  ·exact absurd h2 h1
  ·exact .inr h2
end
/- Digraphs,plain:the rows hold just the arcs,whatever is added and dropped. -/
section
open Go.RowKit
theorem Zjh (N:Nat) (a:HArc):ZaO N a=true↔0≤a.f∧a.f<(N:Int)∧0≤a.t∧a.t<(N:Int)∧1≤a.kind∧a.kind≤3∧0≤a.label∧a.label≤1048575:=by
 simp only[ZaO,Zhk,Bool.and_eq_true,decide_eq_true_eq,and_assoc]
theorem Zat (i n k l:Int) (a:HArc):(⟨i,n,k,l⟩:HArc)=a↔i=a.f∧n=a.t∧k=a.kind∧l=a.label:=by
 obtain⟨af,at',ak,al⟩:=a;simp
theorem Zez (e:DEnd) (k l n:Int):e=⟨k,l,n⟩↔e.kind=k∧e.label=l∧e.node=n:=by
 obtain⟨ek,el,en⟩:=e;simp
structure DOk (N K:Nat) (q:List HArc) (out inn:List (List DEnd)):Prop where
 s:Zc0 q
 r:∀a∈q,ZaO N a=true
 lo:out.length=N
 li:inn.length=N
 so:∀l∈out,Zbd l
 si:∀l∈inn,Zbd l
 mo:∀(i:Nat) l,out[i]? =some l→∀e:DEnd,e∈l↔(⟨i,e.node,e.kind,e.label⟩:HArc)∈q
 mi:∀(i:Nat) l,inn[i]? =some l→∀e:DEnd,e∈l↔(⟨e.node,i,e.kind,e.label⟩:HArc)∈q
 fo:∀l∈out,l.length≤K
 fi:∀l∈inn,l.length≤K
 fq:q.length≤K
def Zoa (N:Nat) (q:List HArc) (a:HArc):List HArc:=if ZaO N a=true then (if a∈q then q else Zcy a q) else q
def Zmn (N:Nat) (q:List HArc) (a:HArc):Int:=if ZaO N a=true then (if a∈q then 4 else 0) else 1
def ZjU (q:List HArc) (a:HArc):Int:=if a∈q then 0 else 3
theorem ZaB {α:Type} {l:List α} {f:α→α} {i:Nat} {x:α} (h:x∈l.modify i f):x∈l∨∃y∈l,l[i]? =some y∧x=f y:=by
 obtain⟨k,hk,rfl⟩:=List.mem_iff_getElem.1 h;rw[List.length_modify]at hk;rw[List.getElem_modify]
 split
 ·next e=>subst e;exact .inr ⟨l[i],List.getElem_mem hk,Qg hk,rfl⟩
 ·exact .inl (List.getElem_mem hk)
theorem ZbU {l m:List (List DEnd)} {f:List DEnd→List DEnd} {i k:Nat} {r:List DEnd} (h:(l.modify i f)[k]? =some r):(k=i∧∃s,l[k]? =some s∧r=f s)∨(k≠i∧l[k]? =some r):=by
 rw[List.getElem?_modify]at h
 by_cases e:i=k
 ·subst e;simp only[if_true,Option.map_eq_map,Option.map_eq_some_iff]at h;obtain⟨s,h1,rfl⟩:=h;exact .inl ⟨rfl,s,h1,rfl⟩
 ·simp only[if_neg e]at h;exact .inr ⟨fun e2=>e e2.symm,by simpa using h⟩
theorem DOk.nil (N:Nat):DOk N 0 [] (List.replicate N []) (List.replicate N []):=by
 have hm:∀l∈List.replicate N ([]:List DEnd),l=[]:=fun l h=>(List.mem_replicate.1 h).2
 have hg:∀(i:Nat) l,(List.replicate N ([]:List DEnd))[i]? =some l→l=[]:=fun i l h=>hm l (List.mem_of_getElem? h)
 exact⟨List.Pairwise.nil,by simp,by simp,by simp,fun l h=>by rw[hm l h];exact List.Pairwise.nil,fun l h=>by rw[hm l h];exact List.Pairwise.nil,
  fun i l h e=>by rw[hg i l h];simp,fun i l h e=>by rw[hg i l h];simp,fun l h=>by rw[hm l h];simp,fun l h=>by rw[hm l h];simp,by simp⟩
section
variable {N K:Nat} {q:List HArc} {out inn:List (List DEnd)}
theorem DOk.mono (h:DOk N K q out inn) {K':Nat} (hk:K≤K'):DOk N K' q out inn:=
 {h with fo:=fun l hl=>Nat.le_trans (h.fo l hl) hk,fi:=fun l hl=>Nat.le_trans (h.fi l hl) hk,fq:=Nat.le_trans h.fq hk}
theorem DOk.has (h:DOk N K q out inn) (a:HArc):ZjF out a=decide (a∈q):=by
 unfold ZjF;rw[h.lo]
 by_cases hr:ZaO N a=true
 ·obtain⟨i,j,e1,e2,hi,hj⟩:=ZcS hr;have hil:i<out.length:=by rw[h.lo];exact hi
  rw[hr,e1];simp only[Int.toNat_natCast,Qg hil,Bool.true_and];rw[decide_eq_decide,h.mo i _ (Qg hil)];have:(⟨(i:Int),(Zbi a).node,(Zbi a).kind,(Zbi a).label⟩:HArc)=a:=by rw[Zat];exact⟨e1.symm,rfl,rfl,rfl⟩
  rw[this]
 ·have hn:a∉q:=fun e=>hr (h.r a e)
  have hf:ZaO N a=false:=by simpa using hr
  rw[hf,decide_eq_false hn];rfl
theorem DOk.addW_ (h:DOk N K q out inn) (a:HArc):Zj2 out a=Zmn N q a:=by
 unfold Zj2 Zmn;rw[h.has a,h.lo];simp only[decide_eq_true_eq]
theorem DOk.dropW_ (h:DOk N K q out inn) (a:HArc):Zhl out a=ZjU q a:=by
 unfold Zhl ZjU;rw[h.has a];simp only[decide_eq_true_eq]
theorem ZgJ {l:List DEnd} (h:Zbd l) (e:DEnd):(ZdP l e).length=l.length+1:=ZlK l e (Zdl h e)
theorem Zfn (l:List DEnd) (e:DEnd):(ZcI l e).length≤l.length:=by
 unfold ZcI Zhm;rw[List.length_append,List.length_take,List.length_drop];omega
theorem DOk.add (h:DOk N K q out inn) (a:HArc):DOk N (K+1) (Zoa N q a) (Zob out a) (Zoc out inn a):=by
 unfold Zob Zoc Zoa;rw[h.addW_ a];unfold Zmn
 by_cases hr:ZaO N a=true
 ·by_cases hm:a∈q
  ·simp only[if_pos hr,if_pos hm,if_neg (show¬(4:Int)=0 by decide)];exact h.mono (by omega)
  ·simp only[if_pos hr,if_neg hm,if_true];obtain⟨i,j,e1,e2,hi,hj⟩:=ZcS hr;have hil:i<out.length:=by rw[h.lo];exact hi
   have hjl:j<inn.length:=by rw[h.li];exact hj
   rw[e1,e2];simp only[Int.toNat_natCast]
   have ao:∀s,out[i]? =some s→Zbi a∉s:=fun s hs=>by
    rw[h.mo i s hs];have:(⟨(i:Int),(Zbi a).node,(Zbi a).kind,(Zbi a).label⟩:HArc)=a:=by rw[Zat];exact⟨e1.symm,rfl,rfl,rfl⟩
    rw[this];exact hm
   have ai:∀s,inn[j]? =some s→inE a∉s:=fun s hs=>by
    rw[h.mi j s hs];have:(⟨(inE a).node,(j:Int),(inE a).kind,(inE a).label⟩:HArc)=a:=by rw[Zat];exact⟨rfl,e2.symm,rfl,rfl⟩
    rw[this];exact hm
   constructor
   case s=>exact ZeG a q h.s
   case r=>
    intro b hb;rcases(Zbv a b q).1 hb with rfl|hb
    ·exact hr
    ·exact h.r b hb
   case lo=>simpa using h.lo
   case li=>simpa using h.li
   case so=>
    intro l hl;rcases ZaB hl with hl|⟨y,hy,hy2,rfl⟩
    ·exact h.so l hl
    ·exact ZgI (h.so y hy) (ao y hy2)
   case si=>
    intro l hl;rcases ZaB hl with hl|⟨y,hy,hy2,rfl⟩
    ·exact h.si l hl
    ·exact ZgI (h.si y hy) (ai y hy2)
   case mo=>
    intro k l hl e;rcases ZbU (m:=[]) hl with ⟨rfl,s,hs,rfl⟩|⟨hne,hl⟩
    ·rw[ZhO,Zbv,h.mo k s hs,Zat,show Zbi a=⟨a.kind,a.label,a.t⟩ from rfl,Zez]
     constructor
     ·rintro(⟨x1,x2,x3⟩|x)
      ·exact .inl ⟨e1.symm,x3,x1,x2⟩
      ·exact .inr x
     ·rintro(⟨_,x1,x2,x3⟩|x)
      ·exact .inl ⟨x2,x3,x1⟩
      ·exact .inr x
    ·rw[Zbv,h.mo k l hl,Zat]
     constructor
     ·exact .inr
     ·rintro(⟨x,_⟩|x)
      ·exact absurd (by omega) hne
      ·exact x
   case mi=>
    intro k l hl e;rcases ZbU (m:=[]) hl with ⟨rfl,s,hs,rfl⟩|⟨hne,hl⟩
    ·rw[ZhO,Zbv,h.mi k s hs,Zat,show inE a=⟨a.kind,a.label,a.f⟩ from rfl,Zez]
     constructor
     ·rintro(⟨x1,x2,x3⟩|x)
      ·exact .inl ⟨x3,e2.symm,x1,x2⟩
      ·exact .inr x
     ·rintro(⟨x1,_,x2,x3⟩|x)
      ·exact .inl ⟨x2,x3,x1⟩
      ·exact .inr x
    ·rw[Zbv,h.mi k l hl,Zat]
     constructor
     ·exact .inr
     ·rintro(⟨_,x,_⟩|x)
      ·exact absurd (by omega) hne
      ·exact x
   case fo=>
    intro l hl;rcases ZaB hl with hl|⟨y,hy,hy2,rfl⟩
    ·have:=h.fo l hl;omega
    ·have:=h.fo y hy;rw[ZgJ (h.so y hy)];omega
   case fi=>
    intro l hl;rcases ZaB hl with hl|⟨y,hy,hy2,rfl⟩
    ·have:=h.fi l hl;omega
    ·have:=h.fi y hy;rw[ZgJ (h.si y hy)];omega
   case fq=>
    have:=ZlL a q;have:=h.fq;omega
 ·simp only[if_neg hr,if_neg (show¬(1:Int)=0 by decide)];exact h.mono (by omega)
theorem DOk.drop (h:DOk N K q out inn) (a:HArc):DOk N K (q.filter fun x=>x != a) (ZmC out a) (ZmD out inn a):=by
 unfold ZmC ZmD;rw[h.dropW_ a];unfold ZjU
 by_cases hm:a∈q
 ·simp only[if_pos hm,if_true];obtain⟨i,j,e1,e2,hi,hj⟩:=ZcS (h.r a hm);rw[e1,e2];simp only[Int.toNat_natCast]
  have ao:∀s,out[i]? =some s→Zbi a∈s:=fun s hs=>by
   rw[h.mo i s hs];have:(⟨(i:Int),(Zbi a).node,(Zbi a).kind,(Zbi a).label⟩:HArc)=a:=by rw[Zat];exact⟨e1.symm,rfl,rfl,rfl⟩
   rw[this];exact hm
  have ai:∀s,inn[j]? =some s→inE a∈s:=fun s hs=>by
   rw[h.mi j s hs];have:(⟨(inE a).node,(j:Int),(inE a).kind,(inE a).label⟩:HArc)=a:=by rw[Zat];exact⟨rfl,e2.symm,rfl,rfl⟩
   rw[this];exact hm
  constructor
  case s=>exact h.s.filter _
  case r=>exact fun b hb=>h.r b (List.mem_filter.1 hb).1
  case lo=>simpa using h.lo
  case li=>simpa using h.li
  case so=>
   intro l hl;rcases ZaB hl with hl|⟨y,hy,hy2,rfl⟩
   ·exact h.so l hl
   ·exact Zfm (h.so y hy) _
  case si=>
   intro l hl;rcases ZaB hl with hl|⟨y,hy,hy2,rfl⟩
   ·exact h.si l hl
   ·exact Zfm (h.si y hy) _
  case mo=>
   intro k l hl e;rw[List.mem_filter,bne_iff_ne];rcases ZbU (m:=[]) hl with ⟨rfl,s,hs,rfl⟩|⟨hne,hl⟩
   ·rw[ZgS (h.so s (List.mem_of_getElem? hs)) (ao s hs),h.mo k s hs,and_comm];refine and_congr_right fun _=>not_congr ?_
    rw[Zat,show Zbi a=⟨a.kind,a.label,a.t⟩ from rfl,Zez]
    constructor
    ·rintro⟨x1,x2,x3⟩;exact⟨e1.symm,x3,x1,x2⟩
    ·rintro⟨_,x1,x2,x3⟩;exact⟨x2,x3,x1⟩
   ·rw[h.mo k l hl];refine⟨fun x=>⟨x,fun x2=> ?_⟩,fun x=>x.1⟩;rw[Zat]at x2;exact hne (by omega)
  case mi=>
   intro k l hl e;rw[List.mem_filter,bne_iff_ne];rcases ZbU (m:=[]) hl with ⟨rfl,s,hs,rfl⟩|⟨hne,hl⟩
   ·rw[ZgS (h.si s (List.mem_of_getElem? hs)) (ai s hs),h.mi k s hs,and_comm];refine and_congr_right fun _=>not_congr ?_
    rw[Zat,show inE a=⟨a.kind,a.label,a.f⟩ from rfl,Zez]
    constructor
    ·rintro⟨x1,x2,x3⟩;exact⟨x3,e2.symm,x1,x2⟩
    ·rintro⟨x1,_,x2,x3⟩;exact⟨x2,x3,x1⟩
   ·rw[h.mi k l hl];refine⟨fun x=>⟨x,fun x2=> ?_⟩,fun x=>x.1⟩;rw[Zat]at x2;exact hne (by omega)
  case fo=>
   intro l hl;rcases ZaB hl with hl|⟨y,hy,hy2,rfl⟩
   ·exact h.fo l hl
   ·exact Nat.le_trans (Zfn _ _) (h.fo y hy)
  case fi=>
   intro l hl;rcases ZaB hl with hl|⟨y,hy,hy2,rfl⟩
   ·exact h.fi l hl
   ·exact Nat.le_trans (Zfn _ _) (h.fi y hy)
  case fq=>exact Nat.le_trans (List.length_filter_le _ _) h.fq
 ·simp only[if_neg hm,if_neg (show¬(3:Int)=0 by decide)];rw[List.filter_eq_self.2 (fun x hx=>by rw[bne_iff_ne];exact fun e=>hm (e▸hx))];exact h
theorem DOk.ki (h:DOk N K q out inn):ZnV inn:=fun l hl e he=>by
 obtain⟨i,hi,rfl⟩:=List.mem_iff_getElem.1 hl;have:=h.r _ ((h.mi i _ (Qg hi) e).1 he);rw[Zjh]at this;exact⟨this.2.2.2.2.1,this.2.2.2.2.2.1⟩
end
end
/- Digraphs:the contracts by the arcs alone,nil or not. -/
section
open Go.RowKit
def DGs (w:World) (G:Nat→Prop) (g N K:Nat) (q:List HArc):Prop:=
 ∃out inn ob ib oh ih base,GIs w G g out inn (q.length:Int) ob ib oh ih base∧DOk N K q out inn∧base≤w.heap.size
def DG (w:World) (G:Nat→Prop) (p:Option Addr) (N K:Nat) (q:List HArc):Prop:=
 (p=none∧N=0∧q=[])∨∃g,p=some ⟨g,0,none⟩∧DGs w G g N K q
theorem DG.nil (w:World) (G:Nat→Prop):DG w G none 0 0 []:= .inl ⟨rfl,rfl,rfl⟩
section
variable {w:World} {G:Nat→Prop} {p:Option Addr} {N K:Nat} {q:List HArc}
theorem DG.upd (h:DG w G p N K q) {S:Nat→Prop} {w':World} (k:Upd S w w') (hn:∀i,G i→¬S i):DG w' G p N K q:=by
 rcases h with h|⟨g,rfl,out,inn,ob,ib,oh,ih,base,h1,h2,h3⟩
 ·exact .inl h
 ·exact .inr ⟨g,rfl,out,inn,ob,ib,oh,ih,base,h1.upd k hn,h2,Nat.le_trans h3 k.size⟩
theorem DG.no (h:DG w G p N K q) {w':World} (k:Upd No w w'):DG w' G p N K q:=h.upd k fun _ _=>id
theorem DG.sorted (h:DG w G p N K q):Zc0 q:=by
 rcases h with ⟨_,_,rfl⟩|⟨g,rfl,out,inn,ob,ib,oh,ih,base,h1,h2,h3⟩
 ·exact List.Pairwise.nil
 ·exact h2.s
theorem DG.right (h:DG w G p N K q):∀a∈q,ZaO N a=true:=by
 rcases h with ⟨_,_,rfl⟩|⟨g,rfl,out,inn,ob,ib,oh,ih,base,h1,h2,h3⟩
 ·simp
 ·exact h2.r
theorem DG.few (h:DG w G p N K q):q.length≤K:=by
 rcases h with ⟨_,_,rfl⟩|⟨g,rfl,out,inn,ob,ib,oh,ih,base,h1,h2,h3⟩
 ·simp
 ·exact h2.fq
theorem DG.old (h:DG w G p N K q) (hp:p≠none):∀k,G k→k<w.heap.size:=by
 rcases h with ⟨rfl,_,rfl⟩|⟨g,rfl,out,inn,ob,ib,oh,ih,base,h1,h2,h3⟩
 ·exact absurd rfl hp
 ·exact h1.old
end
end
/- Whether a number is among some. -/
section
open Go.RowKit
theorem Zos (w:World) (F:Nat→Prop) (A:Option Addr) (c:Nat) (l:List Int) (a:Int) (h:Ints F w A l) (hl:l.length≤4398046511103):
  Calls Tryz.prog 25 #[.slice A l.length c,.int .i64 a] w fun e w'=>e= .returned (.bool (decide (a∈l)))∧w=w':=by
 go_enter Tryz.func25,Tryz.ntmps25
 go_wp2
 go_loopg [9] l.length (fun gk i wr=>∃k:Nat,k+gk=l.length∧i= .int .i64 k∧Hid (decide (a∈l)=decide (a∈l.drop k))∧w=wr)
 case atStart=>exact⟨0,by omega,rfl,Qh (by simp),rfl⟩
 case round=>
  obtain⟨k,hgk,rfl,hs,rfl⟩:=hrel
  by_cases hlt:k<l.length
  ·obtain⟨ax,rfl,hc0⟩:=h.at_ hlt;obtain⟨x,hx⟩:∃x,l[k]=x:=⟨_,rfl⟩;have hd:=Qh (show l.drop k=x::l.drop (k+1) by rw[←hx];exact List.drop_eq_getElem_cons hlt);rw[hx]at hc0;have b1:(0:Int)≤(k:Int):=Qn _;have b2:(k:Int)<(l.length:Int):=by omega
   clear hx
   by_cases he:x=a
   ·have heb:(x==a)=true:=by rw[he];simp
    have He:=Qh he;clear he;go_wp2
    go_ret
    exact⟨by rw[hs.out,hd.out,He.out];simp,rfl⟩
   ·have heb:(x==a)=false:=by simpa using he
    have He:=Qh he;clear he;go_wp2
    go_roundg (gk-1)
    case measure=>omega
    case rel=>
     refine⟨k+1,by omega,by go_num,Qh ?_,rfl⟩;rw[hs.out,hd.out];have:=He.out;simp only[List.mem_cons,decide_eq_decide];exact⟨fun e=>e.elim (fun e=>absurd e.symm this) id,.inr⟩
  ·obtain rfl:k=l.length:=by omega
   go_wp2
   go_ret
   exact⟨by rw[hs.out,List.drop_length];simp,rfl⟩
end
/- Digraphs:the law of both sides. -/
section
open Go.RowKit
def DMa (w:World) (g N K:Nat) (q:List HArc) (W:World):Prop:=
 ∃G,DG W G (some ⟨g,0,none⟩) N K q∧Upd No w W∧∀k,G k→w.heap.size≤k
namespace DMa
variable {w W W':World} {g N K:Nat} {q:List HArc}
theorem no (h:DMa w g N K q W) (k:Upd No W W'):DMa w g N K q W':=by
 obtain⟨G,h1,h2,h3⟩:=h;exact⟨G,h1.no k,h2.trans k,h3⟩
theorem upd (h:DMa w g N K q W):Upd No w W:=by
 obtain⟨G,h1,h2,h3⟩:=h;exact h2
theorem is (h:DMa w g N K q W):∃G,DG W G (some ⟨g,0,none⟩) N K q:=by
 obtain⟨G,h1,h2,h3⟩:=h;exact⟨G,h1⟩
end DMa
end
/- Components of a digraph,the document's,plain:who is reached,labels,members,who goes round. -/
section
/-! reach:as often as there are arcs,and once more -/
/-! labels -/
theorem IsLab.one {nx:Nat→List Nat} {x a b:Nat} (h:IsLab nx x a) (k:IsLab nx x b):a=b:=by
 have h1:=h.2.2 b k.1 k.2.1;have h2:=k.2.2 a h.1 h.2.1;omega
end
end Go.Proofs.YtblplapkdmhikaaGreat
