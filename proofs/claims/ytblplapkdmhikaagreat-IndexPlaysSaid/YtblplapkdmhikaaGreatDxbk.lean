/- Digraphs: lists of arcs; when two are one. -/
import Derived.Laws.StructEq
import Derived.Test.YtblplapkdmhikaaGreatDxag
import Derived.Test.YtblplapkdmhikaaGreatDxai
import Derived.Test.YtblplapkdmhikaaGreatDxam
import Derived.Test.YtblplapkdmhikaaGreatDxaw
import Derived.Test.YtblplapkdmhikaaGreatDxax
import Derived.Test.YtblplapkdmhikaaGreatDxbh
namespace Go.Proofs.YtblplapkdmhikaaGreat
set_option linter.unusedVariables false
set_option linter.unusedSimpArgs false
section
open Go.RowKit
def ArcsL (F:Nat→Prop) (w:World) (A:Option Addr) (l:List HArc):Prop:=Recs F w A 4 (l.map HArc.cells)
theorem ArcsL.at_ {F:Nat→Prop} {w:World} {A:Option Addr} {l:List HArc} (h:ArcsL F w A l) {k:Nat} (hk:k<l.length):∃ad,A=some ad∧
  w.cell? (ad.add (k*4))=some (.int .i64 l[k].f)∧w.cell? ⟨(ad.add (k*4)).block,(ad.add (k*4)).off+1,none⟩=some (.int .i64 l[k].t)∧
  w.cell? ⟨(ad.add (k*4)).block,(ad.add (k*4)).off+2,none⟩=some (.int .i64 l[k].kind)∧w.cell? ⟨(ad.add (k*4)).block,(ad.add (k*4)).off+3,none⟩=some (.int .i64 l[k].label):=by
 have hk':k<(l.map HArc.cells).length:=by simpa using hk
 obtain⟨ad,e,_,_,hc⟩:=Recs.at_ h hk';rw[List.getElem_map]at hc;exact⟨ad,e,by simpa using hc 0 _ rfl,by simpa using hc 1 _ rfl,by simpa using hc 2 _ rfl,by simpa using hc 3 _ rfl⟩
theorem ArcsL.upd {F S:Nat→Prop} {w w':World} {A:Option Addr} {l:List HArc} (h:ArcsL F w A l) (k:Upd S w w') (hn:∀i,F i→¬S i):ArcsL F w' A l:=Recs.upd h k hn
end
/- The document's digraph:the order of arcs;how many nodes there may be. -/
section
open Go.RowKit
def ZaJ (a b:HArc):Bool:=if a.f=b.f then (if a.kind=b.kind then (if a.label=b.label then decide (a.t<b.t) else decide (a.label<b.label)) else decide (a.kind<b.kind)) else decide (a.f<b.f)
end
/- Digraphs,plain:arcs in order,and the rows that hold them. -/
section
open Go.RowKit
/-! lists in strict order -/
theorem Zbi (a b:HArc):ZaJ a b=true↔a.f<b.f∨(a.f=b.f∧(a.kind<b.kind∨(a.kind=b.kind∧(a.label<b.label∨(a.label=b.label∧a.t<b.t))))):=by
 unfold ZaJ
 split
 ·split
  ·split
   ·simp_all
   ·simp_all
  ·simp_all
 ·simp_all
theorem ZcQ (a:HArc):¬ZaJ a a=true:=by rw[Zbi];omega
theorem Zc9 (a b c:HArc) (h:ZaJ a b=true) (k:ZaJ b c=true):ZaJ a c=true:=by rw[Zbi]at*;omega
theorem Zhv (a b:HArc) (h:¬ZaJ a b=true) (k:a≠b):ZaJ b a=true:=by
 rw[Zbi]at*
 have:¬(a.f=b.f∧a.kind=b.kind∧a.label=b.label∧a.t=b.t):=by
  rintro⟨e1,e2,e3,e4⟩;obtain⟨af,at',ak,al⟩:=a;obtain⟨bf,bt,bk,bl⟩:=b;simp only at e1 e2 e3 e4;subst e1 e2 e3 e4;exact k rfl
 omega
def Zca (q:List HArc):Prop:=q.Pairwise fun a b=>ZaJ a b=true
def ZbH (a:HArc):List HArc→List HArc
 |[]=>[a]
 |x::l=>if ZaJ x a=true then x::ZbH a l else a::(x::l).filter (fun y=> !(y==a))
theorem ZaT (a b:HArc):∀l,b∈ZbH a l↔b=a∨b∈l
 |[]=>by simp[ZbH]
 |x::l=>by
  have ih:=ZaT a b l;unfold ZbH
  split
  ·simp only[List.mem_cons,ih];grind
  ·rw[List.mem_cons,List.mem_filter]
   by_cases h:b=a<;>simp[h]
theorem Zc6 (a:HArc):∀l,Zca l→Zca (ZbH a l)
 |[],_=>by simp[ZbH,Zca]
 |x::l,h=>by
  have h':=List.pairwise_cons.1 h;unfold ZbH
  split
  ·rename_i hx
   refine List.pairwise_cons.2 ⟨fun b hb=> ?_,Zc6 a l h'.2⟩;rcases(ZaT a b l).1 hb with rfl|h2
   ·exact hx
   ·exact h'.1 b h2
  ·rename_i hx
   refine List.pairwise_cons.2 ⟨fun b hb=> ?_,h.filter _⟩;rw[List.mem_filter]at hb;have h1:b≠a:=by simpa using hb.2
   by_cases hxa:x=a
   ·subst hxa;rcases List.mem_cons.1 hb.1 with rfl|h2
    ·exact absurd rfl h1
    ·exact h'.1 b h2
   ·have h3:=Zhv x a hx hxa;rcases List.mem_cons.1 hb.1 with rfl|h2
    ·exact h3
    ·exact Zc9 _ _ _ h3 (h'.1 b h2)
theorem Zik (a:HArc) (l:List HArc):(ZbH a l).length≤l.length+1:=by
 induction l with
 |nil=>simp[ZbH]
 |cons x l ih=>
  unfold ZbH
  split
  ·simp only[List.length_cons]at*;omega
  ·have:=List.length_filter_le (fun y=> !(y==a)) (x::l);simp only[List.length_cons]at*;omega
def nxS (node:Int) (back:Bool) (s:List Int):List HArc→List Int
 |[]=>s
 |x::l=>nxS node back (if back=true then (if x.t=node then Zii x.f s else s) else (if x.f=node then Zii x.t s else s)) l
def nxA (node:Int) (back:Bool) (p:List HArc):List Int:=nxS node back [] p
/-! rows of ends -/
theorem ZfA (a:DEnd):¬Zad a a<0:=by rw[Zd5];omega
theorem ZiF (a b:DEnd) (h:¬Zad a b<0) (k:a≠b):Zad b a<0:=by
 rw[Zd5]at*
 have:¬(a.kind=b.kind∧a.label=b.label∧a.node=b.node):=by
  rintro⟨e1,e2,e3⟩;obtain⟨ak,al,an⟩:=a;obtain⟨bk,bl,bn⟩:=b;simp only at e1 e2 e3;subst e1 e2 e3;exact k rfl
 omega
theorem Zff (l:List DEnd) (e x:DEnd):x∈ZcJ l e↔x=e∨x∈l:=by
 unfold ZcJ ZdK;have:=List.take_append_drop (ZH l e) l;have h2:x∈l↔x∈l.take (ZH l e)∨x∈l.drop (ZH l e):=by rw[←List.mem_append,this]
 rw[h2];simp only[List.mem_append,List.mem_singleton]
 grind
theorem ZfQ {l:List DEnd} {p:Nat} {x:DEnd} (h:x∈l.take p):∃k,∃hk:k<l.length,k<p∧l[k]=x:=by
 obtain⟨k,hk,rfl⟩:=List.mem_iff_getElem.1 h;rw[List.length_take]at hk;exact⟨k,by omega,by omega,by simp⟩
theorem ZfR {l:List DEnd} {p:Nat} {x:DEnd} (h:x∈l.drop p):∃k,∃hk:k<l.length,p≤k∧l[k]=x:=by
 obtain⟨k,hk,rfl⟩:=List.mem_iff_getElem.1 h;rw[List.length_drop]at hk;exact⟨p+k,by omega,by omega,by simp⟩
theorem Zef {l:List DEnd} (h:ZaI l) {e:DEnd} (hn:e∉l):ZaI (ZcJ l e):=by
 have hp:=Zcq h e;unfold ZcJ ZdK ZaI;rw[List.pairwise_append,List.pairwise_append];have h1:(l.take (ZH l e)++l.drop (ZH l e)).Pairwise fun a b=>Zad a b<0:=by rw[List.take_append_drop];exact h
 rw[List.pairwise_append]at h1
 have hd:∀x∈l.drop (ZH l e),Zad e x<0:=fun x hx=>by
  obtain⟨k,hk,hkp,rfl⟩:=ZfR hx;exact ZiF _ _ (fun e2=>by have:=(hp.2 k hk).1 e2;omega) (fun e2=>hn (e2▸List.getElem_mem hk))
 have ht:∀x∈l.take (ZH l e),Zad x e<0:=fun x hx=>by
  obtain⟨k,hk,hkp,rfl⟩:=ZfQ hx;exact(hp.2 k hk).2 hkp
 refine⟨⟨h1.1,List.pairwise_singleton _ _,fun a ha b hb=> ?_⟩,h1.2.1,fun a ha b hb=> ?_⟩
 ·rw[List.mem_singleton]at hb;subst hb;exact ht a ha
 ·rcases List.mem_append.1 ha with ha|ha
  ·exact h1.2.2 a ha b hb
  ·rw[List.mem_singleton]at ha;subst ha;exact hd b hb
theorem Zdo {l:List DEnd} (h:ZaI l) (e:DEnd):ZaI (ZbR l e):=by
 unfold ZbR ZeJ ZaI;have h1:(l.take (ZH l e)++l.drop (ZH l e)).Pairwise fun a b=>Zad a b<0:=by rw[List.take_append_drop];exact h
 rw[List.pairwise_append]at h1;rw[List.pairwise_append]
 have hs:(l.drop (ZH l e+1)).Sublist (l.drop (ZH l e)):=by
  have:l.drop (ZH l e+1)=(l.drop (ZH l e)).drop 1:=by rw[List.drop_drop]
  rw[this];exact List.drop_sublist _ _
 exact⟨h1.1,h1.2.1.sublist hs,fun a ha b hb=>h1.2.2 a ha b (hs.subset hb)⟩
theorem Zek {l:List DEnd} (h:ZaI l) {e:DEnd} (hm:e∈l) (x:DEnd):x∈ZbR l e↔x≠e∧x∈l:=by
 have hlt:=Zjk h hm;have hat:=Zfq h e;rw[decide_eq_true hm]at hat
 have he:l[ZH l e]=e:=by
  unfold ZgJ at hat;rw[Qg hlt]at hat;exact(Zc3 _ _).1 (by simpa using hat)
 have hsplit:l=l.take (ZH l e)++e::l.drop (ZH l e+1):=by
  have h1:=List.take_append_drop (ZH l e) l;rw[List.drop_eq_getElem_cons hlt,he]at h1;exact h1.symm
 have hpw:(l.take (ZH l e)++e::l.drop (ZH l e+1)).Pairwise fun a b=>Zad a b<0:=by rw[←hsplit];exact h
 rw[List.pairwise_append]at hpw;have hc:=List.pairwise_cons.1 hpw.2.1
 have hx:x∈l↔x∈l.take (ZH l e)∨x=e∨x∈l.drop (ZH l e+1):=by
  conv=>lhs;rw[hsplit]
  rw[List.mem_append,List.mem_cons]
 rw[hx];unfold ZbR ZeJ;rw[List.mem_append]
 constructor
 ·rintro(h1|h1)
  ·exact⟨fun e2=>ZfA e (by have:=hpw.2.2 x h1 e List.mem_cons_self;rwa [e2]at this),.inl h1⟩
  ·exact⟨fun e2=>ZfA e (by have:=hc.1 x h1;rwa [e2]at this),.inr (.inr h1)⟩
 ·rintro⟨h1,h2|h2|h2⟩
  ·exact .inl h2
  ·exact absurd h2 h1
  ·exact .inr h2
end
/- Digraphs,plain:the rows hold just the arcs,whatever is added and dropped. -/
section
open Go.RowKit
theorem Z3 (i n k l:Int) (a:HArc):(⟨i,n,k,l⟩:HArc)=a↔i=a.f∧n=a.t∧k=a.kind∧l=a.label:=by
 obtain⟨af,at',ak,al⟩:=a;simp
theorem Zc1 (e:DEnd) (k l n:Int):e=⟨k,l,n⟩↔e.kind=k∧e.label=l∧e.node=n:=by
 obtain⟨ek,el,en⟩:=e;simp
structure DOk (N K:Nat) (q:List HArc) (out inn:List (List DEnd)):Prop where
 s:Zca q
 r:∀a∈q,ZaA N a=true
 lo:out.length=N
 li:inn.length=N
 so:∀l∈out,ZaI l
 si:∀l∈inn,ZaI l
 mo:∀(i:Nat) l,out[i]? =some l→∀e:DEnd,e∈l↔(⟨i,e.node,e.kind,e.label⟩:HArc)∈q
 mi:∀(i:Nat) l,inn[i]? =some l→∀e:DEnd,e∈l↔(⟨e.node,i,e.kind,e.label⟩:HArc)∈q
 fo:∀l∈out,l.length≤K
 fi:∀l∈inn,l.length≤K
 fq:q.length≤K
def Zkt (N:Nat) (q:List HArc) (a:HArc):List HArc:=if ZaA N a=true then (if a∈q then q else ZbH a q) else q
def ZiJ (N:Nat) (q:List HArc) (a:HArc):Int:=if ZaA N a=true then (if a∈q then 4 else 0) else 1
def ZgR (q:List HArc) (a:HArc):Int:=if a∈q then 0 else 3
theorem Z7 {α:Type} {l:List α} {f:α→α} {i:Nat} {x:α} (h:x∈l.modify i f):x∈l∨∃y∈l,l[i]? =some y∧x=f y:=by
 obtain⟨k,hk,rfl⟩:=List.mem_iff_getElem.1 h;rw[List.length_modify]at hk;rw[List.getElem_modify]
 split
 ·next e=>subst e;exact .inr ⟨l[i],List.getElem_mem hk,Qg hk,rfl⟩
 ·exact .inl (List.getElem_mem hk)
theorem Zbb {l m:List (List DEnd)} {f:List DEnd→List DEnd} {i k:Nat} {r:List DEnd} (h:(l.modify i f)[k]? =some r):(k=i∧∃s,l[k]? =some s∧r=f s)∨(k≠i∧l[k]? =some r):=by
 rw[List.getElem?_modify]at h
 by_cases e:i=k
 ·subst e;simp only[if_true,Option.map_eq_map,Option.map_eq_some_iff]at h;obtain⟨s,h1,rfl⟩:=h;exact .inl ⟨rfl,s,h1,rfl⟩
 ·simp only[if_neg e]at h;exact .inr ⟨fun e2=>e e2.symm,by simpa using h⟩
theorem DOk.nil (N:Nat):DOk N 0 [] (List.replicate N []) (List.replicate N []):=by
 have hm:∀l∈List.replicate N ([]:List DEnd),l=[]:=fun l h=>(List.mem_replicate.1 h).2
 have hg:∀(i:Nat) l,(List.replicate N ([]:List DEnd))[i]? =some l→l=[]:=fun i l h=>hm l (List.mem_of_getElem? h)
 exact⟨List.Pairwise.nil,by simp,by simp,by simp,fun l h=>by rw[hm l h];exact List.Pairwise.nil,fun l h=>by rw[hm l h];exact List.Pairwise.nil,
  fun i l h e=>by rw[hg i l h];simp,fun i l h e=>by rw[hg i l h];simp,fun l h=>by rw[hm l h];simp,fun l h=>by rw[hm l h];simp,by simp⟩
section
variable {N K:Nat} {q:List HArc} {out inn:List (List DEnd)}
theorem DOk.mono (h:DOk N K q out inn) {K':Nat} (hk:K≤K'):DOk N K' q out inn:=
 {h with fo:=fun l hl=>Nat.le_trans (h.fo l hl) hk,fi:=fun l hl=>Nat.le_trans (h.fi l hl) hk,fq:=Nat.le_trans h.fq hk}
theorem DOk.has (h:DOk N K q out inn) (a:HArc):ZgK out a=decide (a∈q):=by
 unfold ZgK;rw[h.lo]
 by_cases hr:ZaA N a=true
 ·obtain⟨i,j,e1,e2,hi,hj⟩:=Zb0 hr;have hil:i<out.length:=by rw[h.lo];exact hi
  rw[hr,e1];simp only[Int.toNat_natCast,Qg hil,Bool.true_and];rw[decide_eq_decide,h.mo i _ (Qg hil)];have:(⟨(i:Int),(ZaM a).node,(ZaM a).kind,(ZaM a).label⟩:HArc)=a:=by rw[Z3];exact⟨e1.symm,rfl,rfl,rfl⟩
  rw[this]
 ·have hn:a∉q:=fun e=>hr (h.r a e)
  have hf:ZaA N a=false:=by simpa using hr
  rw[hf,decide_eq_false hn];rfl
theorem DOk.addW_ (h:DOk N K q out inn) (a:HArc):ZgT out a=ZiJ N q a:=by
 unfold ZgT ZiJ;rw[h.has a,h.lo];simp only[decide_eq_true_eq]
theorem DOk.dropW_ (h:DOk N K q out inn) (a:HArc):ZeI out a=ZgR q a:=by
 unfold ZeI ZgR;rw[h.has a];simp only[decide_eq_true_eq]
theorem Zeg {l:List DEnd} (h:ZaI l) (e:DEnd):(ZcJ l e).length=l.length+1:=Zij l e (Zcq h e)
theorem Zdp (l:List DEnd) (e:DEnd):(ZbR l e).length≤l.length:=by
 unfold ZbR ZeJ;rw[List.length_append,List.length_take,List.length_drop];omega
theorem DOk.add (h:DOk N K q out inn) (a:HArc):DOk N (K+1) (Zkt N q a) (Zku out a) (Zkw out inn a):=by
 unfold Zku Zkw Zkt;rw[h.addW_ a];unfold ZiJ
 by_cases hr:ZaA N a=true
 ·by_cases hm:a∈q
  ·simp only[if_pos hr,if_pos hm,if_neg (show¬(4:Int)=0 by decide)];exact h.mono (by omega)
  ·simp only[if_pos hr,if_neg hm,if_true];obtain⟨i,j,e1,e2,hi,hj⟩:=Zb0 hr;have hil:i<out.length:=by rw[h.lo];exact hi
   have hjl:j<inn.length:=by rw[h.li];exact hj
   rw[e1,e2];simp only[Int.toNat_natCast]
   have ao:∀s,out[i]? =some s→ZaM a∉s:=fun s hs=>by
    rw[h.mo i s hs];have:(⟨(i:Int),(ZaM a).node,(ZaM a).kind,(ZaM a).label⟩:HArc)=a:=by rw[Z3];exact⟨e1.symm,rfl,rfl,rfl⟩
    rw[this];exact hm
   have ai:∀s,inn[j]? =some s→inE a∉s:=fun s hs=>by
    rw[h.mi j s hs];have:(⟨(inE a).node,(j:Int),(inE a).kind,(inE a).label⟩:HArc)=a:=by rw[Z3];exact⟨rfl,e2.symm,rfl,rfl⟩
    rw[this];exact hm
   constructor
   case s=>exact Zc6 a q h.s
   case r=>
    intro b hb;rcases(ZaT a b q).1 hb with rfl|hb
    ·exact hr
    ·exact h.r b hb
   case lo=>simpa using h.lo
   case li=>simpa using h.li
   case so=>
    intro l hl;rcases Z7 hl with hl|⟨y,hy,hy2,rfl⟩
    ·exact h.so l hl
    ·exact Zef (h.so y hy) (ao y hy2)
   case si=>
    intro l hl;rcases Z7 hl with hl|⟨y,hy,hy2,rfl⟩
    ·exact h.si l hl
    ·exact Zef (h.si y hy) (ai y hy2)
   case mo=>
    intro k l hl e;rcases Zbb (m:=[]) hl with ⟨rfl,s,hs,rfl⟩|⟨hne,hl⟩
    ·rw[Zff,ZaT,h.mo k s hs,Z3,show ZaM a=⟨a.kind,a.label,a.t⟩ from rfl,Zc1]
     constructor
     ·rintro(⟨x1,x2,x3⟩|x)
      ·exact .inl ⟨e1.symm,x3,x1,x2⟩
      ·exact .inr x
     ·rintro(⟨_,x1,x2,x3⟩|x)
      ·exact .inl ⟨x2,x3,x1⟩
      ·exact .inr x
    ·rw[ZaT,h.mo k l hl,Z3]
     constructor
     ·exact .inr
     ·rintro(⟨x,_⟩|x)
      ·exact absurd (by omega) hne
      ·exact x
   case mi=>
    intro k l hl e;rcases Zbb (m:=[]) hl with ⟨rfl,s,hs,rfl⟩|⟨hne,hl⟩
    ·rw[Zff,ZaT,h.mi k s hs,Z3,show inE a=⟨a.kind,a.label,a.f⟩ from rfl,Zc1]
     constructor
     ·rintro(⟨x1,x2,x3⟩|x)
      ·exact .inl ⟨x3,e2.symm,x1,x2⟩
      ·exact .inr x
     ·rintro(⟨x1,_,x2,x3⟩|x)
      ·exact .inl ⟨x2,x3,x1⟩
      ·exact .inr x
    ·rw[ZaT,h.mi k l hl,Z3]
     constructor
     ·exact .inr
     ·rintro(⟨_,x,_⟩|x)
      ·exact absurd (by omega) hne
      ·exact x
   case fo=>
    intro l hl;rcases Z7 hl with hl|⟨y,hy,hy2,rfl⟩
    ·have:=h.fo l hl;omega
    ·have:=h.fo y hy;rw[Zeg (h.so y hy)];omega
   case fi=>
    intro l hl;rcases Z7 hl with hl|⟨y,hy,hy2,rfl⟩
    ·have:=h.fi l hl;omega
    ·have:=h.fi y hy;rw[Zeg (h.si y hy)];omega
   case fq=>
    have:=Zik a q;have:=h.fq;omega
 ·simp only[if_neg hr,if_neg (show¬(1:Int)=0 by decide)];exact h.mono (by omega)
theorem DOk.drop (h:DOk N K q out inn) (a:HArc):DOk N K (q.filter fun x=>x != a) (ZiZ out a) (Zi0 out inn a):=by
 unfold ZiZ Zi0;rw[h.dropW_ a];unfold ZgR
 by_cases hm:a∈q
 ·simp only[if_pos hm,if_true];obtain⟨i,j,e1,e2,hi,hj⟩:=Zb0 (h.r a hm);rw[e1,e2];simp only[Int.toNat_natCast]
  have ao:∀s,out[i]? =some s→ZaM a∈s:=fun s hs=>by
   rw[h.mo i s hs];have:(⟨(i:Int),(ZaM a).node,(ZaM a).kind,(ZaM a).label⟩:HArc)=a:=by rw[Z3];exact⟨e1.symm,rfl,rfl,rfl⟩
   rw[this];exact hm
  have ai:∀s,inn[j]? =some s→inE a∈s:=fun s hs=>by
   rw[h.mi j s hs];have:(⟨(inE a).node,(j:Int),(inE a).kind,(inE a).label⟩:HArc)=a:=by rw[Z3];exact⟨rfl,e2.symm,rfl,rfl⟩
   rw[this];exact hm
  constructor
  case s=>exact h.s.filter _
  case r=>exact fun b hb=>h.r b (List.mem_filter.1 hb).1
  case lo=>simpa using h.lo
  case li=>simpa using h.li
  case so=>
   intro l hl;rcases Z7 hl with hl|⟨y,hy,hy2,rfl⟩
   ·exact h.so l hl
   ·exact Zdo (h.so y hy) _
  case si=>
   intro l hl;rcases Z7 hl with hl|⟨y,hy,hy2,rfl⟩
   ·exact h.si l hl
   ·exact Zdo (h.si y hy) _
  case mo=>
   intro k l hl e;rw[List.mem_filter,bne_iff_ne];rcases Zbb (m:=[]) hl with ⟨rfl,s,hs,rfl⟩|⟨hne,hl⟩
   ·rw[Zek (h.so s (List.mem_of_getElem? hs)) (ao s hs),h.mo k s hs,and_comm];refine and_congr_right fun _=>not_congr ?_
    rw[Z3,show ZaM a=⟨a.kind,a.label,a.t⟩ from rfl,Zc1]
    constructor
    ·rintro⟨x1,x2,x3⟩;exact⟨e1.symm,x3,x1,x2⟩
    ·rintro⟨_,x1,x2,x3⟩;exact⟨x2,x3,x1⟩
   ·rw[h.mo k l hl];refine⟨fun x=>⟨x,fun x2=> ?_⟩,fun x=>x.1⟩;rw[Z3]at x2;exact hne (by omega)
  case mi=>
   intro k l hl e;rw[List.mem_filter,bne_iff_ne];rcases Zbb (m:=[]) hl with ⟨rfl,s,hs,rfl⟩|⟨hne,hl⟩
   ·rw[Zek (h.si s (List.mem_of_getElem? hs)) (ai s hs),h.mi k s hs,and_comm];refine and_congr_right fun _=>not_congr ?_
    rw[Z3,show inE a=⟨a.kind,a.label,a.f⟩ from rfl,Zc1]
    constructor
    ·rintro⟨x1,x2,x3⟩;exact⟨x3,e2.symm,x1,x2⟩
    ·rintro⟨x1,_,x2,x3⟩;exact⟨x2,x3,x1⟩
   ·rw[h.mi k l hl];refine⟨fun x=>⟨x,fun x2=> ?_⟩,fun x=>x.1⟩;rw[Z3]at x2;exact hne (by omega)
  case fo=>
   intro l hl;rcases Z7 hl with hl|⟨y,hy,hy2,rfl⟩
   ·exact h.fo l hl
   ·exact Nat.le_trans (Zdp _ _) (h.fo y hy)
  case fi=>
   intro l hl;rcases Z7 hl with hl|⟨y,hy,hy2,rfl⟩
   ·exact h.fi l hl
   ·exact Nat.le_trans (Zdp _ _) (h.fi y hy)
  case fq=>exact Nat.le_trans (List.length_filter_le _ _) h.fq
 ·simp only[if_neg hm,if_neg (show¬(3:Int)=0 by decide)];rw[List.filter_eq_self.2 (fun x hx=>by rw[bne_iff_ne];exact fun e=>hm (e▸hx))];exact h
end
end
/- Digraphs:the contracts by the arcs alone,nil or not. -/
section
open Go.RowKit
def DGs (w:World) (G:Nat→Prop) (g N K:Nat) (q:List HArc):Prop:=
 ∃out inn ob ib oh ih base,GIs w G g out inn (q.length:Int) ob ib oh ih base∧DOk N K q out inn∧base≤w.heap.size
def DG (w:World) (G:Nat→Prop) (p:Option Addr) (N K:Nat) (q:List HArc):Prop:=
 (p=none∧N=0∧q=[])∨∃g,p=some ⟨g,0,none⟩∧DGs w G g N K q
theorem DG.nil (w:World) (G:Nat→Prop):DG w G none 0 0 []:= .inl ⟨rfl,rfl,rfl⟩
section
variable {w:World} {G:Nat→Prop} {p:Option Addr} {N K:Nat} {q:List HArc}
theorem DG.upd (h:DG w G p N K q) {S:Nat→Prop} {w':World} (k:Upd S w w') (hn:∀i,G i→¬S i):DG w' G p N K q:=by
 rcases h with h|⟨g,rfl,out,inn,ob,ib,oh,ih,base,h1,h2,h3⟩
 ·exact .inl h
 ·exact .inr ⟨g,rfl,out,inn,ob,ib,oh,ih,base,h1.upd k hn,h2,Nat.le_trans h3 k.size⟩
theorem DG.no (h:DG w G p N K q) {w':World} (k:Upd No w w'):DG w' G p N K q:=h.upd k fun _ _=>id
theorem DG.sorted (h:DG w G p N K q):Zca q:=by
 rcases h with ⟨_,_,rfl⟩|⟨g,rfl,out,inn,ob,ib,oh,ih,base,h1,h2,h3⟩
 ·exact List.Pairwise.nil
 ·exact h2.s
theorem DG.right (h:DG w G p N K q):∀a∈q,ZaA N a=true:=by
 rcases h with ⟨_,_,rfl⟩|⟨g,rfl,out,inn,ob,ib,oh,ih,base,h1,h2,h3⟩
 ·simp
 ·exact h2.r
theorem DG.few (h:DG w G p N K q):q.length≤K:=by
 rcases h with ⟨_,_,rfl⟩|⟨g,rfl,out,inn,ob,ib,oh,ih,base,h1,h2,h3⟩
 ·simp
 ·exact h2.fq
theorem DG.old (h:DG w G p N K q) (hp:p≠none):∀k,G k→k<w.heap.size:=by
 rcases h with ⟨rfl,_,rfl⟩|⟨g,rfl,out,inn,ob,ib,oh,ih,base,h1,h2,h3⟩
 ·exact absurd rfl hp
 ·exact h1.old
end
end
/- Digraphs:the law of both sides. -/
section
open Go.RowKit
def DMa (w:World) (g N K:Nat) (q:List HArc) (W:World):Prop:=
 ∃G,DG W G (some ⟨g,0,none⟩) N K q∧Upd No w W∧∀k,G k→w.heap.size≤k
namespace DMa
variable {w W W':World} {g N K:Nat} {q:List HArc}
theorem no (h:DMa w g N K q W) (k:Upd No W W'):DMa w g N K q W':=by
 obtain⟨G,h1,h2,h3⟩:=h;exact⟨G,h1.no k,h2.trans k,h3⟩
theorem upd (h:DMa w g N K q W):Upd No w W:=by
 obtain⟨G,h1,h2,h3⟩:=h;exact h2
theorem is (h:DMa w g N K q W):∃G,DG W G (some ⟨g,0,none⟩) N K q:=by
 obtain⟨G,h1,h2,h3⟩:=h;exact⟨G,h1⟩
end DMa
theorem Zap (w:World) (F G:Nat→Prop) (A B:Option Addr) (c d:Nat) (xs:List Int) (hx:Ints F w A xs) (hy:Ints G w B xs) (hl:xs.length≤1048576):
  Calls Tryz.prog 104 #[.slice A xs.length c,.slice B xs.length d] w fun e w'=>e= .returned (.bool true)∧Upd No w w':=by
 refine(ZkF w F G A B c d xs xs hx hy hl hl).mono ?_;rintro e w' ⟨rfl,h⟩;exact⟨by simp,h⟩
end
/- Components of a digraph,the document's,plain:who is reached,labels,members,who goes round. -/
section
/-! reach:as often as there are arcs,and once more -/
/-! labels -/
theorem IsLab.one {nx:Nat→List Nat} {x a b:Nat} (h:IsLab nx x a) (k:IsLab nx x b):a=b:=by
 have h1:=h.2.2 b k.1 k.2.1;have h2:=k.2.2 a h.1 h.2.1;omega
end
end Go.Proofs.YtblplapkdmhikaaGreat
