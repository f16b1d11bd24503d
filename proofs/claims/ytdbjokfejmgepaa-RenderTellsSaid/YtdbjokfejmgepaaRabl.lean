/- Digraphs: the nodes next to one, and those ahead of it. -/
import Derived.Sort.Row
import Derived.Test.YtdbjokfejmgepaaProg
import Derived.Shelf.SlicesG.CompactI
import Derived.Laws.StructEq
import Derived.Test.YtdbjokfejmgepaaRaac
import Derived.Test.YtdbjokfejmgepaaRaad
import Derived.Test.YtdbjokfejmgepaaRaak
import Derived.Test.YtdbjokfejmgepaaRaam
import Derived.Test.YtdbjokfejmgepaaRaba
import Derived.Test.YtdbjokfejmgepaaRabd
namespace Go.Proofs.Ytdbjokfejmgepaa
set_option linter.unusedVariables false
set_option linter.unusedSimpArgs false
section
open Go.RowKit
def Zmz (ls:List (List DEnd)):Prop:=∀l∈ls,∀e∈l,1≤e.kind∧e.kind≤3
section
variable {w:World} {G:Nat→Prop} {g:Nat} {out inn:List (List DEnd)} {n:Int} {ob ib:Nat} {oh ih:List Value} {base:Nat}
end
end
/- Digraphs:lists of arcs;when two are one. -/
section
open Go.RowKit
def ArcsL (F:Nat→Prop) (w:World) (A:Option Addr) (l:List HArc):Prop:=Recs F w A 4 (l.map HArc.cells)
theorem ArcsL.at_ {F:Nat→Prop} {w:World} {A:Option Addr} {l:List HArc} (h:ArcsL F w A l) {k:Nat} (hk:k<l.length):∃ad,A=some ad∧
  w.cell? (ad.add (k*4))=some (.int .i64 l[k].f)∧w.cell? ⟨(ad.add (k*4)).block,(ad.add (k*4)).off+1,none⟩=some (.int .i64 l[k].t)∧
  w.cell? ⟨(ad.add (k*4)).block,(ad.add (k*4)).off+2,none⟩=some (.int .i64 l[k].kind)∧w.cell? ⟨(ad.add (k*4)).block,(ad.add (k*4)).off+3,none⟩=some (.int .i64 l[k].label):=by
 have hk':k<(l.map HArc.cells).length:=by simpa using hk
 obtain⟨ad,e,_,_,hc⟩:=Recs.at_ h hk';rw[List.getElem_map]at hc;exact⟨ad,e,by simpa using hc 0 _ rfl,by simpa using hc 1 _ rfl,by simpa using hc 2 _ rfl,by simpa using hc 3 _ rfl⟩
theorem ArcsL.upd {F S:Nat→Prop} {w w':World} {A:Option Addr} {l:List HArc} (h:ArcsL F w A l) (k:Upd S w w') (hn:∀i,F i→¬S i):ArcsL F w' A l:=Recs.upd h k hn
end
/- The document's digraph:the order of arcs;how many nodes there may be. -/
section
open Go.RowKit
def Zaf (a b:HArc):Bool:=if a.f=b.f then (if a.kind=b.kind then (if a.label=b.label then decide (a.t<b.t) else decide (a.label<b.label)) else decide (a.kind<b.kind)) else decide (a.f<b.f)
end
/- Digraphs,plain:arcs in order,and the rows that hold them. -/
section
open Go.RowKit
/-! lists in strict order -/
theorem Zcp (a b:HArc):Zaf a b=true↔a.f<b.f∨(a.f=b.f∧(a.kind<b.kind∨(a.kind=b.kind∧(a.label<b.label∨(a.label=b.label∧a.t<b.t))))):=by
 unfold Zaf
 split
 ·split
  ·split
   ·simp_all
   ·simp_all
  ·simp_all
 ·simp_all
theorem ZbE (a:HArc):¬Zaf a a=true:=by rw[Zcp];omega
theorem Zc5 (a b c:HArc) (h:Zaf a b=true) (k:Zaf b c=true):Zaf a c=true:=by rw[Zcp]at*;omega
theorem Zgx (a b:HArc) (h:¬Zaf a b=true) (k:a≠b):Zaf b a=true:=by
 rw[Zcp]at*
 have:¬(a.f=b.f∧a.kind=b.kind∧a.label=b.label∧a.t=b.t):=by
  rintro⟨e1,e2,e3,e4⟩;obtain⟨af,at',ak,al⟩:=a;obtain⟨bf,bt,bk,bl⟩:=b;simp only at e1 e2 e3 e4;subst e1 e2 e3 e4;exact k rfl
 omega
def Zak (q:List HArc):Prop:=q.Pairwise fun a b=>Zaf a b=true
def Zb4 (a:HArc):List HArc→List HArc
 |[]=>[a]
 |x::l=>if Zaf x a=true then x::Zb4 a l else a::(x::l).filter (fun y=> !(y==a))
theorem ZaE (a b:HArc):∀l,b∈Zb4 a l↔b=a∨b∈l
 |[]=>by simp[Zb4]
 |x::l=>by
  have ih:=ZaE a b l;unfold Zb4
  split
  ·simp only[List.mem_cons,ih];grind
  ·rw[List.mem_cons,List.mem_filter]
   by_cases h:b=a<;>simp[h]
theorem Zch (a:HArc):∀l,Zak l→Zak (Zb4 a l)
 |[],_=>by simp[Zb4,Zak]
 |x::l,h=>by
  have h':=List.pairwise_cons.1 h;unfold Zb4
  split
  ·rename_i hx
   refine List.pairwise_cons.2 ⟨fun b hb=> ?_,Zch a l h'.2⟩;rcases(ZaE a b l).1 hb with rfl|h2
   ·exact hx
   ·exact h'.1 b h2
  ·rename_i hx
   refine List.pairwise_cons.2 ⟨fun b hb=> ?_,h.filter _⟩;rw[List.mem_filter]at hb;have h1:b≠a:=by simpa using hb.2
   by_cases hxa:x=a
   ·subst hxa;rcases List.mem_cons.1 hb.1 with rfl|h2
    ·exact absurd rfl h1
    ·exact h'.1 b h2
   ·have h3:=Zgx x a hx hxa;rcases List.mem_cons.1 hb.1 with rfl|h2
    ·exact h3
    ·exact Zc5 _ _ _ h3 (h'.1 b h2)
theorem Zhe (a:HArc) (l:List HArc):(Zb4 a l).length≤l.length+1:=by
 induction l with
 |nil=>simp[Zb4]
 |cons x l ih=>
  unfold Zb4
  split
  ·simp only[List.length_cons]at*;omega
  ·have:=List.length_filter_le (fun y=> !(y==a)) (x::l);simp only[List.length_cons]at*;omega
def nxS (node:Int) (back:Bool) (s:List Int):List HArc→List Int
 |[]=>s
 |x::l=>nxS node back (if back=true then (if x.t=node then Zd x.f s else s) else (if x.f=node then Zd x.t s else s)) l
def nxA (node:Int) (back:Bool) (p:List HArc):List Int:=nxS node back [] p
theorem Zf3 (node:Int) (back:Bool) (v:Int):∀(l:List HArc) (s:List Int),v∈nxS node back s l↔v∈s∨∃x∈l,(if back then x.t=node∧v=x.f else x.f=node∧v=x.t)
 |[],s=>by simp[nxS]
 |x::l,s=>by
  show v∈nxS node back (if back=true then (if x.t=node then Zd x.f s else s) else (if x.f=node then Zd x.t s else s)) l↔_
  rw[Zf3 node back v l]
  cases back
  ·by_cases h:x.f=node<;>simp[h,Z9]<;>grind
  ·by_cases h:x.t=node<;>simp[h,Z9]<;>grind
/-! rows of ends -/
theorem ZhS (a:DEnd):¬Zat a a<0:=by rw[Zf8];omega
theorem ZkN (a b:DEnd) (h:¬Zat a b<0) (k:a≠b):Zat b a<0:=by
 rw[Zf8]at*
 have:¬(a.kind=b.kind∧a.label=b.label∧a.node=b.node):=by
  rintro⟨e1,e2,e3⟩;obtain⟨ak,al,an⟩:=a;obtain⟨bk,bl,bn⟩:=b;simp only at e1 e2 e3;subst e1 e2 e3;exact k rfl
 omega
theorem Zhq (l:List DEnd) (e x:DEnd):x∈ZdX l e↔x=e∨x∈l:=by
 unfold ZdX ZfD;have:=List.take_append_drop (ZG l e) l;have h2:x∈l↔x∈l.take (ZG l e)∨x∈l.drop (ZG l e):=by rw[←List.mem_append,this]
 rw[h2];simp only[List.mem_append,List.mem_singleton]
 grind
theorem Zh6 {l:List DEnd} {p:Nat} {x:DEnd} (h:x∈l.take p):∃k,∃hk:k<l.length,k<p∧l[k]=x:=by
 obtain⟨k,hk,rfl⟩:=List.mem_iff_getElem.1 h;rw[List.length_take]at hk;exact⟨k,by omega,by omega,by simp⟩
theorem Zh7 {l:List DEnd} {p:Nat} {x:DEnd} (h:x∈l.drop p):∃k,∃hk:k<l.length,p≤k∧l[k]=x:=by
 obtain⟨k,hk,rfl⟩:=List.mem_iff_getElem.1 h;rw[List.length_drop]at hk;exact⟨p+k,by omega,by omega,by simp⟩
theorem Zgn {l:List DEnd} (h:Zba l) {e:DEnd} (hn:e∉l):Zba (ZdX l e):=by
 have hp:=Zds h e;unfold ZdX ZfD Zba;rw[List.pairwise_append,List.pairwise_append];have h1:(l.take (ZG l e)++l.drop (ZG l e)).Pairwise fun a b=>Zat a b<0:=by rw[List.take_append_drop];exact h
 rw[List.pairwise_append]at h1
 have hd:∀x∈l.drop (ZG l e),Zat e x<0:=fun x hx=>by
  obtain⟨k,hk,hkp,rfl⟩:=Zh7 hx;exact ZkN _ _ (fun e2=>by have:=(hp.2 k hk).1 e2;omega) (fun e2=>hn (e2▸List.getElem_mem hk))
 have ht:∀x∈l.take (ZG l e),Zat x e<0:=fun x hx=>by
  obtain⟨k,hk,hkp,rfl⟩:=Zh6 hx;exact(hp.2 k hk).2 hkp
 refine⟨⟨h1.1,List.pairwise_singleton _ _,fun a ha b hb=> ?_⟩,h1.2.1,fun a ha b hb=> ?_⟩
 ·rw[List.mem_singleton]at hb;subst hb;exact ht a ha
 ·rcases List.mem_append.1 ha with ha|ha
  ·exact h1.2.2 a ha b hb
  ·rw[List.mem_singleton]at ha;subst ha;exact hd b hb
theorem Zfe {l:List DEnd} (h:Zba l) (e:DEnd):Zba (ZcR l e):=by
 unfold ZcR ZgW Zba;have h1:(l.take (ZG l e)++l.drop (ZG l e)).Pairwise fun a b=>Zat a b<0:=by rw[List.take_append_drop];exact h
 rw[List.pairwise_append]at h1;rw[List.pairwise_append]
 have hs:(l.drop (ZG l e+1)).Sublist (l.drop (ZG l e)):=by
  have:l.drop (ZG l e+1)=(l.drop (ZG l e)).drop 1:=by rw[List.drop_drop]
  rw[this];exact List.drop_sublist _ _
 exact⟨h1.1,h1.2.1.sublist hs,fun a ha b hb=>h1.2.2 a ha b (hs.subset hb)⟩
theorem Zgt {l:List DEnd} (h:Zba l) {e:DEnd} (hm:e∈l) (x:DEnd):x∈ZcR l e↔x≠e∧x∈l:=by
 have hlt:=Zlv h hm;have hat:=ZhD h e;rw[decide_eq_true hm]at hat
 have he:l[ZG l e]=e:=by
  unfold ZiT at hat;rw[Qg hlt]at hat;exact(Zes _ _).1 (by simpa using hat)
 have hsplit:l=l.take (ZG l e)++e::l.drop (ZG l e+1):=by
  have h1:=List.take_append_drop (ZG l e) l;rw[List.drop_eq_getElem_cons hlt,he]at h1;exact h1.symm
 have hpw:(l.take (ZG l e)++e::l.drop (ZG l e+1)).Pairwise fun a b=>Zat a b<0:=by rw[←hsplit];exact h
 rw[List.pairwise_append]at hpw;have hc:=List.pairwise_cons.1 hpw.2.1
 have hx:x∈l↔x∈l.take (ZG l e)∨x=e∨x∈l.drop (ZG l e+1):=by
  conv=>lhs;rw[hsplit]
  rw[List.mem_append,List.mem_cons]
 rw[hx];unfold ZcR ZgW;rw[List.mem_append]
 constructor
 ·rintro(h1|h1)
  ·exact⟨fun e2=>ZhS e (by have:=hpw.2.2 x h1 e List.mem_cons_self;rwa [e2]at this),.inl h1⟩
  ·exact⟨fun e2=>ZhS e (by have:=hc.1 x h1;rwa [e2]at this),.inr (.inr h1)⟩
 ·rintro⟨h1,h2|h2|h2⟩
  ·exact .inl h2
  ·exact absurd h2 h1
  ·exact .inr h2
end
/- Digraphs,plain:the rows hold just the arcs,whatever is added and dropped. -/
section
open Go.RowKit
theorem ZbL (N:Nat) (a:HArc):ZO N a=true↔0≤a.f∧a.f<(N:Int)∧0≤a.t∧a.t<(N:Int)∧1≤a.kind∧a.kind≤3∧0≤a.label∧a.label≤1048575:=by
 simp only[ZO,ZgT,Bool.and_eq_true,decide_eq_true_eq,and_assoc]
theorem Z5 (i n k l:Int) (a:HArc):(⟨i,n,k,l⟩:HArc)=a↔i=a.f∧n=a.t∧k=a.kind∧l=a.label:=by
 obtain⟨af,at',ak,al⟩:=a;simp
theorem Zer (e:DEnd) (k l n:Int):e=⟨k,l,n⟩↔e.kind=k∧e.label=l∧e.node=n:=by
 obtain⟨ek,el,en⟩:=e;simp
structure DOk (N K:Nat) (q:List HArc) (out inn:List (List DEnd)):Prop where
 s:Zak q
 r:∀a∈q,ZO N a=true
 lo:out.length=N
 li:inn.length=N
 so:∀l∈out,Zba l
 si:∀l∈inn,Zba l
 mo:∀(i:Nat) l,out[i]? =some l→∀e:DEnd,e∈l↔(⟨i,e.node,e.kind,e.label⟩:HArc)∈q
 mi:∀(i:Nat) l,inn[i]? =some l→∀e:DEnd,e∈l↔(⟨e.node,i,e.kind,e.label⟩:HArc)∈q
 fo:∀l∈out,l.length≤K
 fi:∀l∈inn,l.length≤K
 fq:q.length≤K
def Ze7 (N:Nat) (q:List HArc) (a:HArc):List HArc:=if ZO N a=true then (if a∈q then q else Zb4 a q) else q
def ZkV (N:Nat) (q:List HArc) (a:HArc):Int:=if ZO N a=true then (if a∈q then 4 else 0) else 1
def ZiY (q:List HArc) (a:HArc):Int:=if a∈q then 0 else 3
theorem Zap {α:Type} {l:List α} {f:α→α} {i:Nat} {x:α} (h:x∈l.modify i f):x∈l∨∃y∈l,l[i]? =some y∧x=f y:=by
 obtain⟨k,hk,rfl⟩:=List.mem_iff_getElem.1 h;rw[List.length_modify]at hk;rw[List.getElem_modify]
 split
 ·next e=>subst e;exact .inr ⟨l[i],List.getElem_mem hk,Qg hk,rfl⟩
 ·exact .inl (List.getElem_mem hk)
theorem Zcj {l m:List (List DEnd)} {f:List DEnd→List DEnd} {i k:Nat} {r:List DEnd} (h:(l.modify i f)[k]? =some r):(k=i∧∃s,l[k]? =some s∧r=f s)∨(k≠i∧l[k]? =some r):=by
 rw[List.getElem?_modify]at h
 by_cases e:i=k
 ·subst e;simp only[if_true,Option.map_eq_map,Option.map_eq_some_iff]at h;obtain⟨s,h1,rfl⟩:=h;exact .inl ⟨rfl,s,h1,rfl⟩
 ·simp only[if_neg e]at h;exact .inr ⟨fun e2=>e e2.symm,by simpa using h⟩
theorem DOk.nil (N:Nat):DOk N 0 [] (List.replicate N []) (List.replicate N []):=by
 have hm:∀l∈List.replicate N ([]:List DEnd),l=[]:=fun l h=>(List.mem_replicate.1 h).2
 have hg:∀(i:Nat) l,(List.replicate N ([]:List DEnd))[i]? =some l→l=[]:=fun i l h=>hm l (List.mem_of_getElem? h)
 exact⟨List.Pairwise.nil,by simp,by simp,by simp,fun l h=>by rw[hm l h];exact List.Pairwise.nil,fun l h=>by rw[hm l h];exact List.Pairwise.nil,
  fun i l h e=>by rw[hg i l h];simp,fun i l h e=>by rw[hg i l h];simp,fun l h=>by rw[hm l h];simp,fun l h=>by rw[hm l h];simp,by simp⟩
section
variable {N K:Nat} {q:List HArc} {out inn:List (List DEnd)}
theorem DOk.mono (h:DOk N K q out inn) {K':Nat} (hk:K≤K'):DOk N K' q out inn:=
 {h with fo:=fun l hl=>Nat.le_trans (h.fo l hl) hk,fi:=fun l hl=>Nat.le_trans (h.fi l hl) hk,fq:=Nat.le_trans h.fq hk}
theorem DOk.has (h:DOk N K q out inn) (a:HArc):ZiU out a=decide (a∈q):=by
 unfold ZiU;rw[h.lo]
 by_cases hr:ZO N a=true
 ·obtain⟨i,j,e1,e2,hi,hj⟩:=Zc2 hr;have hil:i<out.length:=by rw[h.lo];exact hi
  rw[hr,e1];simp only[Int.toNat_natCast,Qg hil,Bool.true_and];rw[decide_eq_decide,h.mo i _ (Qg hil)];have:(⟨(i:Int),(Zbg a).node,(Zbg a).kind,(Zbg a).label⟩:HArc)=a:=by rw[Z5];exact⟨e1.symm,rfl,rfl,rfl⟩
  rw[this]
 ·have hn:a∉q:=fun e=>hr (h.r a e)
  have hf:ZO N a=false:=by simpa using hr
  rw[hf,decide_eq_false hn];rfl
theorem DOk.addW_ (h:DOk N K q out inn) (a:HArc):Zi4 out a=ZkV N q a:=by
 unfold Zi4 ZkV;rw[h.has a,h.lo];simp only[decide_eq_true_eq]
theorem DOk.dropW_ (h:DOk N K q out inn) (a:HArc):ZgV out a=ZiY q a:=by
 unfold ZgV ZiY;rw[h.has a];simp only[decide_eq_true_eq]
theorem Zgo {l:List DEnd} (h:Zba l) (e:DEnd):(ZdX l e).length=l.length+1:=Zkm l e (Zds h e)
theorem Zff (l:List DEnd) (e:DEnd):(ZcR l e).length≤l.length:=by
 unfold ZcR ZgW;rw[List.length_append,List.length_take,List.length_drop];omega
theorem DOk.add (h:DOk N K q out inn) (a:HArc):DOk N (K+1) (Ze7 N q a) (ZmK out a) (ZmL out inn a):=by
 unfold ZmK ZmL Ze7;rw[h.addW_ a];unfold ZkV
 by_cases hr:ZO N a=true
 ·by_cases hm:a∈q
  ·simp only[if_pos hr,if_pos hm,if_neg (show¬(4:Int)=0 by decide)];exact h.mono (by omega)
  ·simp only[if_pos hr,if_neg hm,if_true];obtain⟨i,j,e1,e2,hi,hj⟩:=Zc2 hr;have hil:i<out.length:=by rw[h.lo];exact hi
   have hjl:j<inn.length:=by rw[h.li];exact hj
   rw[e1,e2];simp only[Int.toNat_natCast]
   have ao:∀s,out[i]? =some s→Zbg a∉s:=fun s hs=>by
    rw[h.mo i s hs];have:(⟨(i:Int),(Zbg a).node,(Zbg a).kind,(Zbg a).label⟩:HArc)=a:=by rw[Z5];exact⟨e1.symm,rfl,rfl,rfl⟩
    rw[this];exact hm
   have ai:∀s,inn[j]? =some s→inE a∉s:=fun s hs=>by
    rw[h.mi j s hs];have:(⟨(inE a).node,(j:Int),(inE a).kind,(inE a).label⟩:HArc)=a:=by rw[Z5];exact⟨rfl,e2.symm,rfl,rfl⟩
    rw[this];exact hm
   constructor
   case s=>exact Zch a q h.s
   case r=>
    intro b hb;rcases(ZaE a b q).1 hb with rfl|hb
    ·exact hr
    ·exact h.r b hb
   case lo=>simpa using h.lo
   case li=>simpa using h.li
   case so=>
    intro l hl;rcases Zap hl with hl|⟨y,hy,hy2,rfl⟩
    ·exact h.so l hl
    ·exact Zgn (h.so y hy) (ao y hy2)
   case si=>
    intro l hl;rcases Zap hl with hl|⟨y,hy,hy2,rfl⟩
    ·exact h.si l hl
    ·exact Zgn (h.si y hy) (ai y hy2)
   case mo=>
    intro k l hl e;rcases Zcj (m:=[]) hl with ⟨rfl,s,hs,rfl⟩|⟨hne,hl⟩
    ·rw[Zhq,ZaE,h.mo k s hs,Z5,show Zbg a=⟨a.kind,a.label,a.t⟩ from rfl,Zer]
     constructor
     ·rintro(⟨x1,x2,x3⟩|x)
      ·exact .inl ⟨e1.symm,x3,x1,x2⟩
      ·exact .inr x
     ·rintro(⟨_,x1,x2,x3⟩|x)
      ·exact .inl ⟨x2,x3,x1⟩
      ·exact .inr x
    ·rw[ZaE,h.mo k l hl,Z5]
     constructor
     ·exact .inr
     ·rintro(⟨x,_⟩|x)
      ·exact absurd (by omega) hne
      ·exact x
   case mi=>
    intro k l hl e;rcases Zcj (m:=[]) hl with ⟨rfl,s,hs,rfl⟩|⟨hne,hl⟩
    ·rw[Zhq,ZaE,h.mi k s hs,Z5,show inE a=⟨a.kind,a.label,a.f⟩ from rfl,Zer]
     constructor
     ·rintro(⟨x1,x2,x3⟩|x)
      ·exact .inl ⟨x3,e2.symm,x1,x2⟩
      ·exact .inr x
     ·rintro(⟨x1,_,x2,x3⟩|x)
      ·exact .inl ⟨x2,x3,x1⟩
      ·exact .inr x
    ·rw[ZaE,h.mi k l hl,Z5]
     constructor
     ·exact .inr
     ·rintro(⟨_,x,_⟩|x)
      ·exact absurd (by omega) hne
      ·exact x
   case fo=>
    intro l hl;rcases Zap hl with hl|⟨y,hy,hy2,rfl⟩
    ·have:=h.fo l hl;omega
    ·have:=h.fo y hy;rw[Zgo (h.so y hy)];omega
   case fi=>
    intro l hl;rcases Zap hl with hl|⟨y,hy,hy2,rfl⟩
    ·have:=h.fi l hl;omega
    ·have:=h.fi y hy;rw[Zgo (h.si y hy)];omega
   case fq=>
    have:=Zhe a q;have:=h.fq;omega
 ·simp only[if_neg hr,if_neg (show¬(1:Int)=0 by decide)];exact h.mono (by omega)
theorem DOk.drop (h:DOk N K q out inn) (a:HArc):DOk N K (q.filter fun x=>x != a) (Zk8 out a) (Zk9 out inn a):=by
 unfold Zk8 Zk9;rw[h.dropW_ a];unfold ZiY
 by_cases hm:a∈q
 ·simp only[if_pos hm,if_true];obtain⟨i,j,e1,e2,hi,hj⟩:=Zc2 (h.r a hm);rw[e1,e2];simp only[Int.toNat_natCast]
  have ao:∀s,out[i]? =some s→Zbg a∈s:=fun s hs=>by
   rw[h.mo i s hs];have:(⟨(i:Int),(Zbg a).node,(Zbg a).kind,(Zbg a).label⟩:HArc)=a:=by rw[Z5];exact⟨e1.symm,rfl,rfl,rfl⟩
   rw[this];exact hm
  have ai:∀s,inn[j]? =some s→inE a∈s:=fun s hs=>by
   rw[h.mi j s hs];have:(⟨(inE a).node,(j:Int),(inE a).kind,(inE a).label⟩:HArc)=a:=by rw[Z5];exact⟨rfl,e2.symm,rfl,rfl⟩
   rw[this];exact hm
  constructor
  case s=>exact h.s.filter _
  case r=>exact fun b hb=>h.r b (List.mem_filter.1 hb).1
  case lo=>simpa using h.lo
  case li=>simpa using h.li
  case so=>
   intro l hl;rcases Zap hl with hl|⟨y,hy,hy2,rfl⟩
   ·exact h.so l hl
   ·exact Zfe (h.so y hy) _
  case si=>
   intro l hl;rcases Zap hl with hl|⟨y,hy,hy2,rfl⟩
   ·exact h.si l hl
   ·exact Zfe (h.si y hy) _
  case mo=>
   intro k l hl e;rw[List.mem_filter,bne_iff_ne];rcases Zcj (m:=[]) hl with ⟨rfl,s,hs,rfl⟩|⟨hne,hl⟩
   ·rw[Zgt (h.so s (List.mem_of_getElem? hs)) (ao s hs),h.mo k s hs,and_comm];refine and_congr_right fun _=>not_congr ?_
    rw[Z5,show Zbg a=⟨a.kind,a.label,a.t⟩ from rfl,Zer]
    constructor
    ·rintro⟨x1,x2,x3⟩;exact⟨e1.symm,x3,x1,x2⟩
    ·rintro⟨_,x1,x2,x3⟩;exact⟨x2,x3,x1⟩
   ·rw[h.mo k l hl];refine⟨fun x=>⟨x,fun x2=> ?_⟩,fun x=>x.1⟩;rw[Z5]at x2;exact hne (by omega)
  case mi=>
   intro k l hl e;rw[List.mem_filter,bne_iff_ne];rcases Zcj (m:=[]) hl with ⟨rfl,s,hs,rfl⟩|⟨hne,hl⟩
   ·rw[Zgt (h.si s (List.mem_of_getElem? hs)) (ai s hs),h.mi k s hs,and_comm];refine and_congr_right fun _=>not_congr ?_
    rw[Z5,show inE a=⟨a.kind,a.label,a.f⟩ from rfl,Zer]
    constructor
    ·rintro⟨x1,x2,x3⟩;exact⟨x3,e2.symm,x1,x2⟩
    ·rintro⟨x1,_,x2,x3⟩;exact⟨x2,x3,x1⟩
   ·rw[h.mi k l hl];refine⟨fun x=>⟨x,fun x2=> ?_⟩,fun x=>x.1⟩;rw[Z5]at x2;exact hne (by omega)
  case fo=>
   intro l hl;rcases Zap hl with hl|⟨y,hy,hy2,rfl⟩
   ·exact h.fo l hl
   ·exact Nat.le_trans (Zff _ _) (h.fo y hy)
  case fi=>
   intro l hl;rcases Zap hl with hl|⟨y,hy,hy2,rfl⟩
   ·exact h.fi l hl
   ·exact Nat.le_trans (Zff _ _) (h.fi y hy)
  case fq=>exact Nat.le_trans (List.length_filter_le _ _) h.fq
 ·simp only[if_neg hm,if_neg (show¬(3:Int)=0 by decide)];rw[List.filter_eq_self.2 (fun x hx=>by rw[bne_iff_ne];exact fun e=>hm (e▸hx))];exact h
theorem DOk.ki (h:DOk N K q out inn):Zmz inn:=fun l hl e he=>by
 obtain⟨i,hi,rfl⟩:=List.mem_iff_getElem.1 hl;have:=h.r _ ((h.mi i _ (Qg hi) e).1 he);rw[ZbL]at this;exact⟨this.2.2.2.2.1,this.2.2.2.2.2.1⟩
def ofA (mask:Int) (q:List HArc):List HArc:=q.filter fun x=>Zau mask x.kind
theorem mem_ofA {mask:Int} {q:List HArc} {x:HArc}:x∈ofA mask q↔x∈q∧Zau mask x.kind=true:=by unfold ofA;rw[List.mem_filter]
end
end
/- Components of a digraph,the document's,plain:who is reached,labels,members,who goes round. -/
section
/-! reach:as often as there are arcs,and once more -/
theorem ZdR:∀(l m:List Int),l.Nodup→(∀x∈l,x∈m)→l.length≤m.length
 |[],_,_,_=>Nat.zero_le _
 |x::l,m,hn,hs=>by
  obtain⟨h1,h2⟩:=List.nodup_cons.1 hn;have hx:=hs x (List.mem_cons_self ..);have:=ZdR l (m.erase x) h2 fun y hy=>(List.mem_erase_of_ne (fun e:y=x=>h1 (by rw[←e];exact hy))).2 (hs y (List.mem_cons_of_mem _ hy))
  rw[List.length_erase_of_mem hx]at this;have:=List.length_pos_of_mem hx;rw[List.length_cons];omega
/-! labels -/
theorem IsLab.one {nx:Nat→List Nat} {x a b:Nat} (h:IsLab nx x a) (k:IsLab nx x b):a=b:=by
 have h1:=h.2.2 b k.1 k.2.1;have h2:=k.2.2 a h.1 h.2.1;omega
end
/- Whether a number is among some. -/
section
open Go.RowKit
theorem ZkZ (w:World) (F:Nat→Prop) (A:Option Addr) (c:Nat) (l:List Int) (a:Int) (h:Ints F w A l) (hl:l.length≤4398046511103):
  Calls Try.prog 82 #[.slice A l.length c,.int .i64 a] w fun e w'=>e= .returned (.bool (decide (a∈l)))∧w=w':=by
 go_enter Try.func82,Try.ntmps82
 go_wp2
 go_loopg [9] l.length (fun gk i wr=>∃k:Nat,k+gk=l.length∧i= .int .i64 k∧Hid (decide (a∈l)=decide (a∈l.drop k))∧w=wr)
 case atStart=>exact⟨0,by omega,rfl,Qh (by simp),rfl⟩
 case round=>
  obtain⟨k,hgk,rfl,hs,rfl⟩:=hrel
  by_cases hlt:k<l.length
  ·obtain⟨ax,rfl,hc0⟩:=h.at_ hlt;obtain⟨x,hx⟩:∃x,l[k]=x:=⟨_,rfl⟩;have hd:=Qh (show l.drop k=x::l.drop (k+1) by rw[←hx];exact List.drop_eq_getElem_cons hlt);rw[hx]at hc0;have b1:(0:Int)≤(k:Int):=Qn _;have b2:(k:Int)<(l.length:Int):=by omega
   clear hx
   by_cases he:x=a
   ·have heb:(x==a)=true:=by rw[he];simp
    have He:=Qh he;clear he;go_wp2
    go_ret
    exact⟨by rw[hs.out,hd.out,He.out];simp,rfl⟩
   ·have heb:(x==a)=false:=by simpa using he
    have He:=Qh he;clear he;go_wp2
    go_roundg (gk-1)
    case measure=>omega
    case rel=>
     refine⟨k+1,by omega,by go_num,Qh ?_,rfl⟩;rw[hs.out,hd.out];have:=He.out;simp only[List.mem_cons,decide_eq_decide];exact⟨fun e=>e.elim (fun e=>absurd e.symm this) id,.inr⟩
  ·obtain rfl:k=l.length:=by omega
   go_wp2
   go_ret
   exact⟨by rw[hs.out,List.drop_length];simp,rfl⟩
end
end Go.Proofs.Ytdbjokfejmgepaa
