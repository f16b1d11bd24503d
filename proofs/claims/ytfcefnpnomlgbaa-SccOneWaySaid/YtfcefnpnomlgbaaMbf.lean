/- Digraphs, plain: arcs in order, and the rows that hold them. -/
import Derived.Test.YtfcefnpnomlgbaaMap
import Derived.Test.YtfcefnpnomlgbaaMbe
namespace Go.Proofs.Ytfcefnpnomlgbaa
set_option linter.unusedSimpArgs false
set_option linter.unusedVariables false
open Go.RowKit
/-! lists in strict order -/
theorem ZaW {α:Type} {r:α→α→Prop} (irr:∀a,¬r a a) (tr:∀a b c,r a b→r b c→r a c):∀{l m:List α},l.Pairwise r→m.Pairwise r→(∀x,x∈l↔x∈m)→l=m
 |[],[],_,_,_=>rfl
 |[],b::m,_,_,h=>absurd ((h b).2 List.mem_cons_self) (by simp)
 |a::l,[],_,_,h=>absurd ((h a).1 List.mem_cons_self) (by simp)
 |a::l,b::m,hl,hm,h=>by
  have hl':=List.pairwise_cons.1 hl
  have hm':=List.pairwise_cons.1 hm
  have hab:a=b:=by
   rcases List.mem_cons.1 ((h a).1 List.mem_cons_self)with e|e
   ·exact e
   rcases List.mem_cons.1 ((h b).2 List.mem_cons_self)with f|f
   ·exact f.symm
   exact absurd (tr _ _ _ (hm'.1 a e) (hl'.1 b f)) (irr b)
  subst hab
  have:l=m:=ZaW irr tr hl'.2 hm'.2 fun x=>by
   constructor
   ·intro hx
    rcases List.mem_cons.1 ((h x).1 (List.mem_cons_of_mem _ hx))with e|e
    ·subst e;exact absurd (hl'.1 x hx) (irr x)
    ·exact e
   ·intro hx
    rcases List.mem_cons.1 ((h x).2 (List.mem_cons_of_mem _ hx))with e|e
    ·subst e;exact absurd (hm'.1 x hx) (irr x)
    ·exact e
  rw[this]
theorem Ze7 {l m:List Int} (hl:l.Pairwise (·<·)) (hm:m.Pairwise (·<·)) (h:∀x,x∈l↔x∈m):l=m:=
 ZaW (r:=(·<·)) (fun a=>by omega) (fun a b c=>by omega) hl hm h
theorem ZX (a b:HArc):ZP a b=true↔a.f<b.f∨(a.f=b.f∧(a.kind<b.kind∨(a.kind=b.kind∧(a.label<b.label∨(a.label=b.label∧a.t<b.t))))):=by
 unfold ZP
 split
 ·split
  ·split
   ·simp_all
   ·simp_all
  ·simp_all
 ·simp_all
theorem Za1 (a:HArc):¬ZP a a=true:=by rw[ZX];omega
theorem Za8 (a b c:HArc) (h:ZP a b=true) (k:ZP b c=true):ZP a c=true:=by rw[ZX]at*;omega
theorem ZeG (a b:HArc) (h:¬ZP a b=true) (k:a≠b):ZP b a=true:=by
 rw[ZX]at*
 have:¬(a.f=b.f∧a.kind=b.kind∧a.label=b.label∧a.t=b.t):=by
  rintro⟨e1,e2,e3,e4⟩
  obtain⟨af,at',ak,al⟩:=a
  obtain⟨bf,bt,bk,bl⟩:=b
  simp only at e1 e2 e3 e4
  subst e1 e2 e3 e4
  exact k rfl
 omega
def ZG (q:List HArc):Prop:=q.Pairwise fun a b=>ZP a b=true
theorem Zd3 {l m:List HArc} (hl:ZG l) (hm:ZG m) (h:∀x,x∈l↔x∈m):l=m:=ZaW Za1 Za8 hl hm h
def Zal (a:HArc):List HArc→List HArc
 |[]=>[a]
 |x::l=>if ZP x a=true then x::Zal a l else a::(x::l).filter (fun y=> !(y==a))
theorem ZW (a b:HArc):∀l,b∈Zal a l↔b=a∨b∈l
 |[]=>by simp[Zal]
 |x::l=>by
  have ih:=ZW a b l
  unfold Zal
  split
  ·simp only[List.mem_cons,ih];grind
  ·rw[List.mem_cons,List.mem_filter]
   by_cases h:b=a<;>simp[h]
theorem ZbT (a:HArc):∀l,ZG l→ZG (Zal a l)
 |[],_=>by simp[Zal,ZG]
 |x::l,h=>by
  have h':=List.pairwise_cons.1 h
  unfold Zal
  split
  ·rename_i hx
   refine List.pairwise_cons.2 ⟨fun b hb=> ?_,ZbT a l h'.2⟩
   rcases(ZW a b l).1 hb with rfl|h2
   ·exact hx
   ·exact h'.1 b h2
  ·rename_i hx
   refine List.pairwise_cons.2 ⟨fun b hb=> ?_,h.filter _⟩
   rw[List.mem_filter]at hb
   have h1:b≠a:=by simpa using hb.2
   by_cases hxa:x=a
   ·subst hxa
    rcases List.mem_cons.1 hb.1 with rfl|h2
    ·exact absurd rfl h1
    ·exact h'.1 b h2
   ·have h3:=ZeG x a hx hxa
    rcases List.mem_cons.1 hb.1 with rfl|h2
    ·exact h3
    ·exact Za8 _ _ _ h3 (h'.1 b h2)
theorem Ze9 (a:HArc) (l:List HArc):(Zal a l).length≤l.length+1:=by
 induction l with
 |nil=>simp[Zal]
 |cons x l ih=>
  unfold Zal
  split
  ·simp only[List.length_cons]at*;omega
  ·have:=List.length_filter_le (fun y=> !(y==a)) (x::l)
   simp only[List.length_cons]at*;omega
theorem Zdc (a:HArc):∀l,a∉l→(Zal a l).length=l.length+1
 |[],_=>by simp[Zal]
 |x::l,h=>by
  have ih:=Zdc a l (fun e=>h (List.mem_cons_of_mem _ e))
  unfold Zal
  split
  ·simp only[List.length_cons,ih]
  ·rw[List.filter_eq_self.2 (fun y hy=>by
    have:y≠a:=fun e=>h (e▸hy)
    simpa using this)]
   simp
def nxS (node:Int) (back:Bool) (s:List Int):List HArc→List Int
 |[]=>s
 |x::l=>nxS node back (if back=true then (if x.t=node then ZU x.f s else s) else (if x.f=node then ZU x.t s else s)) l
def nxA (node:Int) (back:Bool) (p:List HArc):List Int:=nxS node back [] p
theorem Zcv (node:Int) (back:Bool) (v:Int):∀(l:List HArc) (s:List Int),v∈nxS node back s l↔v∈s∨∃x∈l,(if back then x.t=node∧v=x.f else x.f=node∧v=x.t)
 |[],s=>by simp[nxS]
 |x::l,s=>by
  show v∈nxS node back (if back=true then (if x.t=node then ZU x.f s else s) else (if x.f=node then ZU x.t s else s)) l↔_
  rw[Zcv node back v l]
  cases back
  ·by_cases h:x.f=node<;>simp[h,Zab]<;>grind
  ·by_cases h:x.t=node<;>simp[h,Zab]<;>grind
theorem Zch (node:Int) (back:Bool):∀(l:List HArc) (s:List Int),s.Pairwise (·<·)→(nxS node back s l).Pairwise (·<·)
 |[],_,h=>h
 |x::l,s,h=>by
  show(nxS node back (if back=true then (if x.t=node then ZU x.f s else s) else (if x.f=node then ZU x.t s else s)) l).Pairwise (·<·)
  apply Zch node back l
  cases back
  ·by_cases h2:x.f=node
   ·simpa[h2]using ZbG _ _ h
   ·simpa[h2]using h
  ·by_cases h2:x.t=node
   ·simpa[h2]using ZbG _ _ h
   ·simpa[h2]using h
/-! rows of ends -/
theorem ZdC (a:DEnd):¬Zm a a<0:=by rw[ZbM];omega
theorem Zfs (a b:DEnd) (h:¬Zm a b<0) (k:a≠b):Zm b a<0:=by
 rw[ZbM]at*
 have:¬(a.kind=b.kind∧a.label=b.label∧a.node=b.node):=by
  rintro⟨e1,e2,e3⟩
  obtain⟨ak,al,an⟩:=a
  obtain⟨bk,bl,bn⟩:=b
  simp only at e1 e2 e3
  subst e1 e2 e3
  exact k rfl
 omega
theorem Zdm (l:List DEnd) (e x:DEnd):x∈Za6 l e↔x=e∨x∈l:=by
 unfold Za6 ZQ
 have:=List.take_append_drop (Ze l e) l
 have h2:x∈l↔x∈l.take (Ze l e)∨x∈l.drop (Ze l e):=by rw[←List.mem_append,this]
 rw[h2]
 simp only[List.mem_append,List.mem_singleton]
 grind
theorem ZdH {l:List DEnd} {p:Nat} {x:DEnd} (h:x∈l.take p):∃k,∃hk:k<l.length,k<p∧l[k]=x:=by
 obtain⟨k,hk,rfl⟩:=List.mem_iff_getElem.1 h
 rw[List.length_take]at hk
 exact⟨k,by omega,by omega,by simp⟩
theorem ZdI {l:List DEnd} {p:Nat} {x:DEnd} (h:x∈l.drop p):∃k,∃hk:k<l.length,p≤k∧l[k]=x:=by
 obtain⟨k,hk,rfl⟩:=List.mem_iff_getElem.1 h
 rw[List.length_drop]at hk
 exact⟨p+k,by omega,by omega,by simp⟩
theorem ZcJ {l:List DEnd} (h:ZE l) {e:DEnd} (hn:e∉l):ZE (Za6 l e):=by
 have hp:=Z3 h e
 unfold Za6 ZQ ZE
 rw[List.pairwise_append,List.pairwise_append]
 have h1:(l.take (Ze l e)++l.drop (Ze l e)).Pairwise fun a b=>Zm a b<0:=by rw[List.take_append_drop];exact h
 rw[List.pairwise_append]at h1
 have hd:∀x∈l.drop (Ze l e),Zm e x<0:=fun x hx=>by
  obtain⟨k,hk,hkp,rfl⟩:=ZdI hx
  exact Zfs _ _ (fun e2=>by have:=(hp.2 k hk).1 e2;omega) (fun e2=>hn (e2▸List.getElem_mem hk))
 have ht:∀x∈l.take (Ze l e),Zm x e<0:=fun x hx=>by
  obtain⟨k,hk,hkp,rfl⟩:=ZdH hx
  exact(hp.2 k hk).2 hkp
 refine⟨⟨h1.1,List.pairwise_singleton _ _,fun a ha b hb=> ?_⟩,h1.2.1,fun a ha b hb=> ?_⟩
 ·rw[List.mem_singleton]at hb
  subst hb
  exact ht a ha
 ·rcases List.mem_append.1 ha with ha|ha
  ·exact h1.2.2 a ha b hb
  ·rw[List.mem_singleton]at ha
   subst ha
   exact hd b hb
theorem Zb9 {l:List DEnd} (h:ZE l) (e:DEnd):ZE (ZaY l e):=by
 unfold ZaY Zc1 ZE
 have h1:(l.take (Ze l e)++l.drop (Ze l e)).Pairwise fun a b=>Zm a b<0:=by rw[List.take_append_drop];exact h
 rw[List.pairwise_append]at h1
 rw[List.pairwise_append]
 have hs:(l.drop (Ze l e+1)).Sublist (l.drop (Ze l e)):=by
  have:l.drop (Ze l e+1)=(l.drop (Ze l e)).drop 1:=by rw[List.drop_drop]
  rw[this];exact List.drop_sublist _ _
 exact⟨h1.1,h1.2.1.sublist hs,fun a ha b hb=>h1.2.2 a ha b (hs.subset hb)⟩
theorem ZcO {l:List DEnd} (h:ZE l) {e:DEnd} (hm:e∈l) (x:DEnd):x∈ZaY l e↔x≠e∧x∈l:=by
 have hlt:=ZfU h hm
 have hat:=ZbZ h e
 rw[decide_eq_true hm]at hat
 have he:l[Ze l e]=e:=by
  unfold Zbn at hat
  rw[List.getElem?_eq_getElem hlt]at hat
  exact(ZbN _ _).1 (by simpa using hat)
 have hsplit:l=l.take (Ze l e)++e::l.drop (Ze l e+1):=by
  have h1:=List.take_append_drop (Ze l e) l
  rw[List.drop_eq_getElem_cons hlt,he]at h1
  exact h1.symm
 have hpw:(l.take (Ze l e)++e::l.drop (Ze l e+1)).Pairwise fun a b=>Zm a b<0:=by rw[←hsplit];exact h
 rw[List.pairwise_append]at hpw
 have hc:=List.pairwise_cons.1 hpw.2.1
 have hx:x∈l↔x∈l.take (Ze l e)∨x=e∨x∈l.drop (Ze l e+1):=by
  conv=>lhs;rw[hsplit]
  rw[List.mem_append,List.mem_cons]
 rw[hx]
 unfold ZaY Zc1
 rw[List.mem_append]
 constructor
 ·rintro(h1|h1)
  ·exact⟨fun e2=>ZdC e (by have:=hpw.2.2 x h1 e List.mem_cons_self;rwa [e2]at this),.inl h1⟩
  ·exact⟨fun e2=>ZdC e (by have:=hc.1 x h1;rwa [e2]at this),.inr (.inr h1)⟩
 ·rintro⟨h1,h2|h2|h2⟩
  ·exact .inl h2
  ·exact absurd h2 h1
  ·exact .inr h2
end Go.Proofs.Ytfcefnpnomlgbaa
/- Digraphs,plain:the rows hold just the arcs,whatever is added and dropped. -/
namespace Go.Proofs.Ytfcefnpnomlgbaa
set_option linter.unusedSimpArgs false
set_option linter.unusedVariables false
open Go.RowKit
theorem Z0 (N:Nat) (a:HArc):Zd N a=true↔0≤a.f∧a.f<(N:Int)∧0≤a.t∧a.t<(N:Int)∧1≤a.kind∧a.kind≤3∧0≤a.label∧a.label≤1048575:=by
 simp only[Zd,Zi,Bool.and_eq_true,decide_eq_true_eq,and_assoc]
theorem Zl (i n k l:Int) (a:HArc):(⟨i,n,k,l⟩:HArc)=a↔i=a.f∧n=a.t∧k=a.kind∧l=a.label:=by
 obtain⟨af,at',ak,al⟩:=a
 simp
theorem ZbL (e:DEnd) (k l n:Int):e=⟨k,l,n⟩↔e.kind=k∧e.label=l∧e.node=n:=by
 obtain⟨ek,el,en⟩:=e
 simp
structure DOk (N K:Nat) (q:List HArc) (out inn:List (List DEnd)):Prop where
 s:ZG q
 r:∀a∈q,Zd N a=true
 lo:out.length=N
 li:inn.length=N
 so:∀l∈out,ZE l
 si:∀l∈inn,ZE l
 mo:∀(i:Nat) l,out[i]? =some l→∀e:DEnd,e∈l↔(⟨i,e.node,e.kind,e.label⟩:HArc)∈q
 mi:∀(i:Nat) l,inn[i]? =some l→∀e:DEnd,e∈l↔(⟨e.node,i,e.kind,e.label⟩:HArc)∈q
 fo:∀l∈out,l.length≤K
 fi:∀l∈inn,l.length≤K
 fq:q.length≤K
def Zav (N:Nat) (q:List HArc) (a:HArc):List HArc:=if Zd N a=true then (if a∈q then q else Zal a q) else q
def Zb6 (N:Nat) (q:List HArc) (a:HArc):Int:=if Zd N a=true then (if a∈q then 4 else 0) else 1
def Zeh (q:List HArc) (a:HArc):Int:=if a∈q then 0 else 3
theorem ZA {α:Type} {l:List α} {f:α→α} {i:Nat} {x:α} (h:x∈l.modify i f):x∈l∨∃y∈l,l[i]? =some y∧x=f y:=by
 obtain⟨k,hk,rfl⟩:=List.mem_iff_getElem.1 h
 rw[List.length_modify]at hk
 rw[List.getElem_modify]
 split
 ·next e=>subst e;exact .inr ⟨l[i],List.getElem_mem hk,List.getElem?_eq_getElem hk,rfl⟩
 ·exact .inl (List.getElem_mem hk)
theorem Zay {l m:List (List DEnd)} {f:List DEnd→List DEnd} {i k:Nat} {r:List DEnd} (h:(l.modify i f)[k]? =some r):(k=i∧∃s,l[k]? =some s∧r=f s)∨(k≠i∧l[k]? =some r):=by
 rw[List.getElem?_modify]at h
 by_cases e:i=k
 ·subst e
  simp only[if_true,Option.map_eq_map,Option.map_eq_some_iff]at h
  obtain⟨s,h1,rfl⟩:=h
  exact .inl ⟨rfl,s,h1,rfl⟩
 ·simp only[if_neg e]at h
  exact .inr ⟨fun e2=>e e2.symm,by simpa using h⟩
theorem DOk.nil (N:Nat):DOk N 0 [] (List.replicate N []) (List.replicate N []):=by
 have hm:∀l∈List.replicate N ([]:List DEnd),l=[]:=fun l h=>(List.mem_replicate.1 h).2
 have hg:∀(i:Nat) l,(List.replicate N ([]:List DEnd))[i]? =some l→l=[]:=fun i l h=>hm l (List.mem_of_getElem? h)
 exact⟨List.Pairwise.nil,by simp,by simp,by simp,fun l h=>by rw[hm l h];exact List.Pairwise.nil,fun l h=>by rw[hm l h];exact List.Pairwise.nil,
  fun i l h e=>by rw[hg i l h];simp,fun i l h e=>by rw[hg i l h];simp,fun l h=>by rw[hm l h];simp,fun l h=>by rw[hm l h];simp,by simp⟩
section
variable {N K:Nat} {q:List HArc} {out inn:List (List DEnd)}
theorem DOk.mono (h:DOk N K q out inn) {K':Nat} (hk:K≤K'):DOk N K' q out inn:=
 {h with fo:=fun l hl=>Nat.le_trans (h.fo l hl) hk,fi:=fun l hl=>Nat.le_trans (h.fi l hl) hk,fq:=Nat.le_trans h.fq hk}
theorem DOk.has (h:DOk N K q out inn) (a:HArc):ZaU out a=decide (a∈q):=by
 unfold ZaU
 rw[h.lo]
 by_cases hr:Zd N a=true
 ·obtain⟨i,j,e1,e2,hi,hj⟩:=Z9 hr
  have hil:i<out.length:=by rw[h.lo];exact hi
  rw[hr,e1]
  simp only[Int.toNat_natCast,List.getElem?_eq_getElem hil,Bool.true_and]
  rw[decide_eq_decide,h.mo i _ (List.getElem?_eq_getElem hil)]
  have:(⟨(i:Int),(Zx a).node,(Zx a).kind,(Zx a).label⟩:HArc)=a:=by rw[Zl];exact⟨e1.symm,rfl,rfl,rfl⟩
  rw[this]
 ·have hn:a∉q:=fun e=>hr (h.r a e)
  have hf:Zd N a=false:=by simpa using hr
  rw[hf,decide_eq_false hn]
  rfl
theorem DOk.addW_ (h:DOk N K q out inn) (a:HArc):ZaF out a=Zb6 N q a:=by
 unfold ZaF Zb6
 rw[h.has a,h.lo]
 simp only[decide_eq_true_eq]
theorem DOk.dropW_ (h:DOk N K q out inn) (a:HArc):Zc0 out a=Zeh q a:=by
 unfold Zc0 Zeh
 rw[h.has a]
 simp only[decide_eq_true_eq]
theorem ZcK {l:List DEnd} (h:ZE l) (e:DEnd):(Za6 l e).length=l.length+1:=Ze8 l e (Z3 h e)
theorem Zca (l:List DEnd) (e:DEnd):(ZaY l e).length≤l.length:=by
 unfold ZaY Zc1
 rw[List.length_append,List.length_take,List.length_drop]
 omega
theorem DOk.add (h:DOk N K q out inn) (a:HArc):DOk N (K+1) (Zav N q a) (Zbq out a) (Zbs out inn a):=by
 unfold Zbq Zbs Zav
 rw[h.addW_ a]
 unfold Zb6
 by_cases hr:Zd N a=true
 ·by_cases hm:a∈q
  ·simp only[if_pos hr,if_pos hm,if_neg (show¬(4:Int)=0 by decide)]
   exact h.mono (by omega)
  ·simp only[if_pos hr,if_neg hm,if_true]
   obtain⟨i,j,e1,e2,hi,hj⟩:=Z9 hr
   have hil:i<out.length:=by rw[h.lo];exact hi
   have hjl:j<inn.length:=by rw[h.li];exact hj
   rw[e1,e2]
   simp only[Int.toNat_natCast]
   have ao:∀s,out[i]? =some s→Zx a∉s:=fun s hs=>by
    rw[h.mo i s hs]
    have:(⟨(i:Int),(Zx a).node,(Zx a).kind,(Zx a).label⟩:HArc)=a:=by rw[Zl];exact⟨e1.symm,rfl,rfl,rfl⟩
    rw[this];exact hm
   have ai:∀s,inn[j]? =some s→inE a∉s:=fun s hs=>by
    rw[h.mi j s hs]
    have:(⟨(inE a).node,(j:Int),(inE a).kind,(inE a).label⟩:HArc)=a:=by rw[Zl];exact⟨rfl,e2.symm,rfl,rfl⟩
    rw[this];exact hm
   constructor
   case s=>exact ZbT a q h.s
   case r=>
    intro b hb
    rcases(ZW a b q).1 hb with rfl|hb
    ·exact hr
    ·exact h.r b hb
   case lo=>simpa using h.lo
   case li=>simpa using h.li
   case so=>
    intro l hl
    rcases ZA hl with hl|⟨y,hy,hy2,rfl⟩
    ·exact h.so l hl
    ·exact ZcJ (h.so y hy) (ao y hy2)
   case si=>
    intro l hl
    rcases ZA hl with hl|⟨y,hy,hy2,rfl⟩
    ·exact h.si l hl
    ·exact ZcJ (h.si y hy) (ai y hy2)
   case mo=>
    intro k l hl e
    rcases Zay (m:=[]) hl with ⟨rfl,s,hs,rfl⟩|⟨hne,hl⟩
    ·rw[Zdm,ZW,h.mo k s hs,Zl,show Zx a=⟨a.kind,a.label,a.t⟩ from rfl,ZbL]
     constructor
     ·rintro(⟨x1,x2,x3⟩|x)
      ·exact .inl ⟨e1.symm,x3,x1,x2⟩
      ·exact .inr x
     ·rintro(⟨_,x1,x2,x3⟩|x)
      ·exact .inl ⟨x2,x3,x1⟩
      ·exact .inr x
    ·rw[ZW,h.mo k l hl,Zl]
     constructor
     ·exact .inr
     ·rintro(⟨x,_⟩|x)
      ·exact absurd (by omega) hne
      ·exact x
   case mi=>
    intro k l hl e
    rcases Zay (m:=[]) hl with ⟨rfl,s,hs,rfl⟩|⟨hne,hl⟩
    ·rw[Zdm,ZW,h.mi k s hs,Zl,show inE a=⟨a.kind,a.label,a.f⟩ from rfl,ZbL]
     constructor
     ·rintro(⟨x1,x2,x3⟩|x)
      ·exact .inl ⟨x3,e2.symm,x1,x2⟩
      ·exact .inr x
     ·rintro(⟨x1,_,x2,x3⟩|x)
      ·exact .inl ⟨x2,x3,x1⟩
      ·exact .inr x
    ·rw[ZW,h.mi k l hl,Zl]
     constructor
     ·exact .inr
     ·rintro(⟨_,x,_⟩|x)
      ·exact absurd (by omega) hne
      ·exact x
   case fo=>
    intro l hl
    rcases ZA hl with hl|⟨y,hy,hy2,rfl⟩
    ·have:=h.fo l hl;omega
    ·have:=h.fo y hy
     rw[ZcK (h.so y hy)]
     omega
   case fi=>
    intro l hl
    rcases ZA hl with hl|⟨y,hy,hy2,rfl⟩
    ·have:=h.fi l hl;omega
    ·have:=h.fi y hy
     rw[ZcK (h.si y hy)]
     omega
   case fq=>
    have:=Ze9 a q
    have:=h.fq
    omega
 ·simp only[if_neg hr,if_neg (show¬(1:Int)=0 by decide)]
  exact h.mono (by omega)
theorem DOk.addN_ (h:DOk N K q out inn) (a:HArc):Zbr out (q.length:Int) a=((Zav N q a).length:Int):=by
 unfold Zbr Zav
 rw[h.addW_ a]
 unfold Zb6
 by_cases hr:Zd N a=true
 ·by_cases hm:a∈q
  ·simp[hr,hm]
  ·simp only[if_pos hr,if_neg hm,if_true,Zdc a q hm]
   omega
 ·simp[hr]
theorem DOk.drop (h:DOk N K q out inn) (a:HArc):DOk N K (q.filter fun x=>x != a) (ZfD out a) (ZfE out inn a):=by
 unfold ZfD ZfE
 rw[h.dropW_ a]
 unfold Zeh
 by_cases hm:a∈q
 ·simp only[if_pos hm,if_true]
  obtain⟨i,j,e1,e2,hi,hj⟩:=Z9 (h.r a hm)
  rw[e1,e2]
  simp only[Int.toNat_natCast]
  have ao:∀s,out[i]? =some s→Zx a∈s:=fun s hs=>by
   rw[h.mo i s hs]
   have:(⟨(i:Int),(Zx a).node,(Zx a).kind,(Zx a).label⟩:HArc)=a:=by rw[Zl];exact⟨e1.symm,rfl,rfl,rfl⟩
   rw[this];exact hm
  have ai:∀s,inn[j]? =some s→inE a∈s:=fun s hs=>by
   rw[h.mi j s hs]
   have:(⟨(inE a).node,(j:Int),(inE a).kind,(inE a).label⟩:HArc)=a:=by rw[Zl];exact⟨rfl,e2.symm,rfl,rfl⟩
   rw[this];exact hm
  constructor
  case s=>exact h.s.filter _
  case r=>exact fun b hb=>h.r b (List.mem_filter.1 hb).1
  case lo=>simpa using h.lo
  case li=>simpa using h.li
  case so=>
   intro l hl
   rcases ZA hl with hl|⟨y,hy,hy2,rfl⟩
   ·exact h.so l hl
   ·exact Zb9 (h.so y hy) _
  case si=>
   intro l hl
   rcases ZA hl with hl|⟨y,hy,hy2,rfl⟩
   ·exact h.si l hl
   ·exact Zb9 (h.si y hy) _
  case mo=>
   intro k l hl e
   rw[List.mem_filter,bne_iff_ne]
   rcases Zay (m:=[]) hl with ⟨rfl,s,hs,rfl⟩|⟨hne,hl⟩
   ·rw[ZcO (h.so s (List.mem_of_getElem? hs)) (ao s hs),h.mo k s hs,and_comm]
    refine and_congr_right fun _=>not_congr ?_
    rw[Zl,show Zx a=⟨a.kind,a.label,a.t⟩ from rfl,ZbL]
    constructor
    ·rintro⟨x1,x2,x3⟩
     exact⟨e1.symm,x3,x1,x2⟩
    ·rintro⟨_,x1,x2,x3⟩
     exact⟨x2,x3,x1⟩
   ·rw[h.mo k l hl]
    refine⟨fun x=>⟨x,fun x2=> ?_⟩,fun x=>x.1⟩
    rw[Zl]at x2
    exact hne (by omega)
  case mi=>
   intro k l hl e
   rw[List.mem_filter,bne_iff_ne]
   rcases Zay (m:=[]) hl with ⟨rfl,s,hs,rfl⟩|⟨hne,hl⟩
   ·rw[ZcO (h.si s (List.mem_of_getElem? hs)) (ai s hs),h.mi k s hs,and_comm]
    refine and_congr_right fun _=>not_congr ?_
    rw[Zl,show inE a=⟨a.kind,a.label,a.f⟩ from rfl,ZbL]
    constructor
    ·rintro⟨x1,x2,x3⟩
     exact⟨x3,e2.symm,x1,x2⟩
    ·rintro⟨x1,_,x2,x3⟩
     exact⟨x2,x3,x1⟩
   ·rw[h.mi k l hl]
    refine⟨fun x=>⟨x,fun x2=> ?_⟩,fun x=>x.1⟩
    rw[Zl]at x2
    exact hne (by omega)
  case fo=>
   intro l hl
   rcases ZA hl with hl|⟨y,hy,hy2,rfl⟩
   ·exact h.fo l hl
   ·exact Nat.le_trans (Zca _ _) (h.fo y hy)
  case fi=>
   intro l hl
   rcases ZA hl with hl|⟨y,hy,hy2,rfl⟩
   ·exact h.fi l hl
   ·exact Nat.le_trans (Zca _ _) (h.fi y hy)
  case fq=>exact Nat.le_trans (List.length_filter_le _ _) h.fq
 ·simp only[if_neg hm,if_neg (show¬(3:Int)=0 by decide)]
  rw[List.filter_eq_self.2 (fun x hx=>by rw[bne_iff_ne];exact fun e=>hm (e▸hx))]
  exact h
theorem DOk.ko (h:DOk N K q out inn):Zcl out:=fun l hl e he=>by
 obtain⟨i,hi,rfl⟩:=List.mem_iff_getElem.1 hl
 have:=h.r _ ((h.mo i _ (List.getElem?_eq_getElem hi) e).1 he)
 rw[Z0]at this
 exact⟨this.2.2.2.2.1,this.2.2.2.2.2.1⟩
def ofA (mask:Int) (q:List HArc):List HArc:=q.filter fun x=>Z8 mask x.kind
theorem mem_ofA {mask:Int} {q:List HArc} {x:HArc}:x∈ofA mask q↔x∈q∧Z8 mask x.kind=true:=by unfold ofA;rw[List.mem_filter]
theorem DOk.mem_outD (h:DOk N K q out inn) (mask i:Int) (x:HArc):x∈Zap mask out i↔x∈q∧Z8 mask x.kind=true∧x.f=i:=by
 unfold Zap
 by_cases hb:Zi out.length i=true
 ·rw[if_pos hb]
  simp only[Zi,Bool.and_eq_true,decide_eq_true_eq]at hb
  obtain⟨j,rfl⟩:∃j:Nat,i=(j:Int):=⟨i.toNat,by omega⟩
  have hj:j<out.length:=by omega
  simp only[Int.toNat_natCast,List.getElem?_eq_getElem hj]
  unfold ZO
  rw[List.mem_map]
  constructor
  ·rintro⟨e,he,rfl⟩
   rw[List.mem_filter]at he
   exact⟨(h.mo j _ (List.getElem?_eq_getElem hj) e).1 he.1,he.2,rfl⟩
  ·rintro⟨h1,h2,h3⟩
   refine⟨⟨x.kind,x.label,x.t⟩,?_,by rw[Zl];exact⟨h3.symm,rfl,rfl,rfl⟩⟩
   rw[List.mem_filter,h.mo j _ (List.getElem?_eq_getElem hj)]
   refine⟨?_,h2⟩
   have:(⟨(j:Int),x.t,x.kind,x.label⟩:HArc)=x:=by rw[Zl];exact⟨h3.symm,rfl,rfl,rfl⟩
   rw[this]
   exact h1
 ·rw[if_neg hb]
  simp only[List.not_mem_nil,false_iff]
  rintro⟨h1,_,h3⟩
  have:=(Z0 _ _).1 (h.r x h1)
  apply hb
  simp only[Zi,Bool.and_eq_true,decide_eq_true_eq,h.lo]
  omega
theorem DOk.sorted_outD (h:DOk N K q out inn) (mask i:Int):ZG (Zap mask out i):=by
 unfold Zap
 split
 ·next l hl=>
  split at hl
  ·have hr:=h.so l (List.mem_of_getElem? hl)
   unfold ZO ZG
   rw[List.pairwise_map]
   refine(hr.filter _).imp fun {a b} hab=> ?_
   show ZP ⟨i,a.node,a.kind,a.label⟩ ⟨i,b.node,b.kind,b.label⟩=true
   rw[ZX]
   rw[ZbM]at hab
   show i<i∨(i=i∧(a.kind<b.kind∨(a.kind=b.kind∧(a.label<b.label∨(a.label=b.label∧a.node<b.node)))))
   exact .inr ⟨rfl,hab⟩
  ·cases hl
 ·exact List.Pairwise.nil
theorem DOk.mem_arcsUp (h:DOk N K q out inn) (mask:Int) (x:HArc):∀k:Nat,x∈ZM mask out k↔x∈q∧Z8 mask x.kind=true∧x.f<(k:Int)
 |0=>by
  simp only[ZM,List.not_mem_nil,false_iff]
  rintro⟨h1,_,h3⟩
  have:=(Z0 _ _).1 (h.r x h1)
  omega
 |k+1=>by
  simp only[ZM,List.mem_append]
  rw[h.mem_arcsUp mask x k,h.mem_outD]
  constructor
  ·rintro(⟨a,b,c⟩|⟨a,b,c⟩)
   ·exact⟨a,b,by omega⟩
   ·exact⟨a,b,by omega⟩
  ·rintro⟨a,b,c⟩
   by_cases e:x.f=(k:Int)
   ·exact .inr ⟨a,b,e⟩
   ·exact .inl ⟨a,b,by omega⟩
theorem DOk.sorted_arcsUp (h:DOk N K q out inn) (mask:Int):∀k:Nat,ZG (ZM mask out k)
 |0=>List.Pairwise.nil
 |k+1=>by
  simp only[ZM]
  unfold ZG
  rw[List.pairwise_append]
  refine⟨h.sorted_arcsUp mask k,h.sorted_outD mask k,fun a ha b hb=> ?_⟩
  rw[h.mem_arcsUp]at ha
  rw[h.mem_outD]at hb
  rw[ZX]
  exact .inl (by omega)
theorem DOk.arcs_ (h:DOk N K q out inn) (mask:Int):ZM mask out N=ofA mask q:=
 Zd3 (h.sorted_arcsUp mask N) (h.s.filter _) fun x=>by
  rw[h.mem_arcsUp,mem_ofA]
  refine⟨fun a=>⟨a.1,a.2.1⟩,fun a=>⟨a.1,a.2,?_⟩⟩
  have:=(Z0 _ _).1 (h.r x a.1)
  omega
theorem Zfg (mask:Int) (ls:List (List DEnd)) (i:Int):(Zax mask ls i).Pairwise (·<·):=by
 unfold Zax
 split
 ·unfold ZaS
  rw[Zbt]
  exact ZfS _
 ·exact List.Pairwise.nil
theorem Zec (mask:Int) (l:List DEnd) (v:Int):v∈ZaS mask l↔∃e∈l,Z8 mask e.kind=true∧v=e.node:=by
 unfold ZaS
 rw[Zbt,Zfk]
 unfold Zam
 rw[List.mem_map]
 constructor
 ·rintro⟨e,he,rfl⟩
  rw[List.mem_filter]at he
  exact⟨e,he.1,he.2,rfl⟩
 ·rintro⟨e,h1,h2,rfl⟩
  exact⟨e,List.mem_filter.2 ⟨h1,h2⟩,rfl⟩
theorem DOk.mem_next (h:DOk N K q out inn) (mask i v:Int):v∈Zax mask out i↔∃x∈ofA mask q,x.f=i∧v=x.t:=by
 unfold Zax
 by_cases hb:Zi out.length i=true
 ·rw[if_pos hb]
  simp only[Zi,Bool.and_eq_true,decide_eq_true_eq]at hb
  obtain⟨j,rfl⟩:∃j:Nat,i=(j:Int):=⟨i.toNat,by omega⟩
  have hj:j<out.length:=by omega
  simp only[Int.toNat_natCast,List.getElem?_eq_getElem hj]
  rw[Zec]
  constructor
  ·rintro⟨e,h1,h2,rfl⟩
   exact⟨_,mem_ofA.2 ⟨(h.mo j _ (List.getElem?_eq_getElem hj) e).1 h1,h2⟩,rfl,rfl⟩
  ·rintro⟨x,h1,h3,rfl⟩
   rw[mem_ofA]at h1
   refine⟨⟨x.kind,x.label,x.t⟩,?_,h1.2,rfl⟩
   rw[h.mo j _ (List.getElem?_eq_getElem hj)]
   have:(⟨(j:Int),x.t,x.kind,x.label⟩:HArc)=x:=by rw[Zl];exact⟨h3.symm,rfl,rfl,rfl⟩
   rw[this]
   exact h1.1
 ·rw[if_neg hb]
  simp only[List.not_mem_nil,false_iff]
  rintro⟨x,h1,h3,_⟩
  rw[mem_ofA]at h1
  have:=(Z0 _ _).1 (h.r x h1.1)
  apply hb
  simp only[Zi,Bool.and_eq_true,decide_eq_true_eq,h.lo]
  omega
theorem DOk.next_ (h:DOk N K q out inn) (mask i:Int):Zax mask out i=nxA i false (ofA mask q):=
 Ze7 (Zfg _ _ _) (Zch _ _ _ _ List.Pairwise.nil) fun v=>by
  rw[h.mem_next]
  unfold nxA
  rw[Zcv]
  simp
end
end Go.Proofs.Ytfcefnpnomlgbaa
