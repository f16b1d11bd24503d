/- Digraphs, plain: arcs in order, and the rows that hold them. -/
import Derived.Test.YtfcefnpnomlgbaaMap
import Derived.Test.YtfcefnpnomlgbaaMbd
namespace Go.Proofs.Ytfcefnpnomlgbaa
set_option linter.unusedSimpArgs false
set_option linter.unusedVariables false
open Go.RowKit
/-! lists in strict order -/
theorem ZaX {α:Type} {r:α→α→Prop} (irr:∀a,¬r a a) (tr:∀a b c,r a b→r b c→r a c):∀{l m:List α},l.Pairwise r→m.Pairwise r→(∀x,x∈l↔x∈m)→l=m
 |[],[],_,_,_=>rfl
 |[],b::m,_,_,h=>absurd ((h b).2 List.mem_cons_self) (by simp)
 |a::l,[],_,_,h=>absurd ((h a).1 List.mem_cons_self) (by simp)
 |a::l,b::m,hl,hm,h=>by
  have hl':=List.pairwise_cons.1 hl
  have hm':=List.pairwise_cons.1 hm
  have hab:a=b:=by
   rcases List.mem_cons.1 ((h a).1 List.mem_cons_self)with e|e
   ·exact e
   rcases List.mem_cons.1 ((h b).2 List.mem_cons_self)with f|f
   ·exact f.symm
   exact absurd (tr _ _ _ (hm'.1 a e) (hl'.1 b f)) (irr b)
  subst hab
  have:l=m:=ZaX irr tr hl'.2 hm'.2 fun x=>by
   constructor
   ·intro hx
    rcases List.mem_cons.1 ((h x).1 (List.mem_cons_of_mem _ hx))with e|e
    ·subst e;exact absurd (hl'.1 x hx) (irr x)
    ·exact e
   ·intro hx
    rcases List.mem_cons.1 ((h x).2 (List.mem_cons_of_mem _ hx))with e|e
    ·subst e;exact absurd (hm'.1 x hx) (irr x)
    ·exact e
  rw[this]
theorem Zfr {l m:List Int} (hl:l.Pairwise (·<·)) (hm:m.Pairwise (·<·)) (h:∀x,x∈l↔x∈m):l=m:=
 ZaX (r:=(·<·)) (fun a=>by omega) (fun a b c=>by omega) hl hm h
theorem ZaG (a b:HArc):Zf a b=true↔a.f<b.f∨(a.f=b.f∧(a.kind<b.kind∨(a.kind=b.kind∧(a.label<b.label∨(a.label=b.label∧a.t<b.t))))):=by
 unfold Zf
 split
 ·split
  ·split
   ·simp_all
   ·simp_all
  ·simp_all
 ·simp_all
theorem Zal (a:HArc):¬Zf a a=true:=by rw[ZaG];omega
theorem Za7 (a b c:HArc) (h:Zf a b=true) (k:Zf b c=true):Zf a c=true:=by rw[ZaG]at*;omega
theorem ZeY (a b:HArc) (h:¬Zf a b=true) (k:a≠b):Zf b a=true:=by
 rw[ZaG]at*
 have:¬(a.f=b.f∧a.kind=b.kind∧a.label=b.label∧a.t=b.t):=by
  rintro⟨e1,e2,e3,e4⟩
  obtain⟨af,at',ak,al⟩:=a
  obtain⟨bf,bt,bk,bl⟩:=b
  simp only at e1 e2 e3 e4
  subst e1 e2 e3 e4
  exact k rfl
 omega
def ZY (q:List HArc):Prop:=q.Pairwise fun a b=>Zf a b=true
theorem Zel {l m:List HArc} (hl:ZY l) (hm:ZY m) (h:∀x,x∈l↔x∈m):l=m:=ZaX Zal Za7 hl hm h
def ZK (a:HArc) (done:Bool) (out:List HArc):List HArc→List HArc
 |[]=>if done then out else out++[a]
 |x::l=>ZK a (done|| !Zf x a) ((if !done&& !Zf x a then out++[a] else out)++(if x=a then [] else [x])) l
def ZD (a:HArc):List HArc→List HArc
 |[]=>[a]
 |x::l=>if Zf x a=true then x::ZD a l else a::(x::l).filter (fun y=> !(y==a))
theorem ZV (a b:HArc):∀l,b∈ZD a l↔b=a∨b∈l
 |[]=>by simp[ZD]
 |x::l=>by
  have ih:=ZV a b l
  unfold ZD
  split
  ·simp only[List.mem_cons,ih];grind
  ·rw[List.mem_cons,List.mem_filter]
   by_cases h:b=a<;>simp[h]
theorem ZaB (a:HArc):∀l,ZY l→ZY (ZD a l)
 |[],_=>by simp[ZD,ZY]
 |x::l,h=>by
  have h':=List.pairwise_cons.1 h
  unfold ZD
  split
  ·rename_i hx
   refine List.pairwise_cons.2 ⟨fun b hb=> ?_,ZaB a l h'.2⟩
   rcases(ZV a b l).1 hb with rfl|h2
   ·exact hx
   ·exact h'.1 b h2
  ·rename_i hx
   refine List.pairwise_cons.2 ⟨fun b hb=> ?_,h.filter _⟩
   rw[List.mem_filter]at hb
   have h1:b≠a:=by simpa using hb.2
   by_cases hxa:x=a
   ·subst hxa
    rcases List.mem_cons.1 hb.1 with rfl|h2
    ·exact absurd rfl h1
    ·exact h'.1 b h2
   ·have h3:=ZeY x a hx hxa
    rcases List.mem_cons.1 hb.1 with rfl|h2
    ·exact h3
    ·exact Za7 _ _ _ h3 (h'.1 b h2)
theorem Zds (a:HArc) (l:List HArc):(ZD a l).length≤l.length+1:=by
 induction l with
 |nil=>simp[ZD]
 |cons x l ih=>
  unfold ZD
  split
  ·simp only[List.length_cons]at*;omega
  ·have:=List.length_filter_le (fun y=> !(y==a)) (x::l)
   simp only[List.length_cons]at*;omega
theorem Zdr (a:HArc):∀l,a∉l→(ZD a l).length=l.length+1
 |[],_=>by simp[ZD]
 |x::l,h=>by
  have ih:=Zdr a l (fun e=>h (List.mem_cons_of_mem _ e))
  unfold ZD
  split
  ·simp only[List.length_cons,ih]
  ·rw[List.filter_eq_self.2 (fun y hy=>by
    have:y≠a:=fun e=>h (e▸hy)
    simpa using this)]
   simp
theorem Zft {a:HArc} {l:List HArc} (hs:ZY l) (h:a∈l):ZD a l=l:=
 Zel (ZaB a l hs) hs fun x=>by rw[ZV];exact⟨fun e=>e.elim (fun e=>e▸h) id,.inr⟩
theorem Zcp (a:HArc):∀(l out:List HArc),ZK a true out l=out++l.filter fun y=> !(y==a)
 |[],out=>by simp[ZK]
 |x::l,out=>by
  show ZK a true ((if !true&& !Zf x a then out++[a] else out)++(if x=a then [] else [x])) l=_
  rw[Zcp a l]
  by_cases h:x=a
  ·subst h;simp
  ·have:(x==a)=false:=by simpa using h
   simp[h]
theorem Zb1 (a:HArc):∀(l out:List HArc),ZK a false out l=out++ZD a l
 |[],out=>by simp[ZK,ZD]
 |x::l,out=>by
  show ZK a (false|| !Zf x a) ((if !false&& !Zf x a then out++[a] else out)++(if x=a then [] else [x])) l=_
  unfold ZD
  by_cases h:Zf x a=true
  ·rw[if_pos h,h]
   show ZK a false (out++(if x=a then [] else [x])) l=_
   rw[if_neg (show¬x=a from fun e=>Zal a (e▸h)),Zb1 a l]
   simp
  ·have hf:Zf x a=false:=by simpa using h
   rw[if_neg h,hf]
   show ZK a true ((out++[a])++(if x=a then [] else [x])) l=_
   rw[Zcp]
   by_cases h2:x=a
   ·subst h2;simp
   ·simp[h2]
theorem Zfu (a:HArc) (l:List HArc):ZK a false [] l=ZD a l:=by rw[Zb1];rfl
def nxS (node:Int) (back:Bool) (s:List Int):List HArc→List Int
 |[]=>s
 |x::l=>nxS node back (if back=true then (if x.t=node then Zn x.f s else s) else (if x.f=node then Zn x.t s else s)) l
def nxA (node:Int) (back:Bool) (p:List HArc):List Int:=nxS node back [] p
theorem ZcC (node:Int) (back:Bool) (v:Int):∀(l:List HArc) (s:List Int),v∈nxS node back s l↔v∈s∨∃x∈l,(if back then x.t=node∧v=x.f else x.f=node∧v=x.t)
 |[],s=>by simp[nxS]
 |x::l,s=>by
  show v∈nxS node back (if back=true then (if x.t=node then Zn x.f s else s) else (if x.f=node then Zn x.t s else s)) l↔_
  rw[ZcC node back v l]
  cases back
  ·by_cases h:x.f=node<;>simp[h,Zag]<;>grind
  ·by_cases h:x.t=node<;>simp[h,Zag]<;>grind
theorem Zbc (node:Int) (back:Bool):∀(l:List HArc) (s:List Int),s.Pairwise (·<·)→(nxS node back s l).Pairwise (·<·)
 |[],_,h=>h
 |x::l,s,h=>by
  show(nxS node back (if back=true then (if x.t=node then Zn x.f s else s) else (if x.f=node then Zn x.t s else s)) l).Pairwise (·<·)
  apply Zbc node back l
  cases back
  ·by_cases h2:x.f=node
   ·simpa[h2]using ZbR _ _ h
   ·simpa[h2]using h
  ·by_cases h2:x.t=node
   ·simpa[h2]using ZbR _ _ h
   ·simpa[h2]using h
/-! rows of ends -/
theorem ZdQ (a:DEnd):¬Zs a a<0:=by rw[ZcI];omega
theorem ZfM (a b:DEnd) (h:¬Zs a b<0) (k:a≠b):Zs b a<0:=by
 rw[ZcI]at*
 have:¬(a.kind=b.kind∧a.label=b.label∧a.node=b.node):=by
  rintro⟨e1,e2,e3⟩
  obtain⟨ak,al,an⟩:=a
  obtain⟨bk,bl,bn⟩:=b
  simp only at e1 e2 e3
  subst e1 e2 e3
  exact k rfl
 omega
theorem ZdC (l:List DEnd) (e x:DEnd):x∈Za4 l e↔x=e∨x∈l:=by
 unfold Za4 ZZ
 have:=List.take_append_drop (Zg l e) l
 have h2:x∈l↔x∈l.take (Zg l e)∨x∈l.drop (Zg l e):=by rw[←List.mem_append,this]
 rw[h2]
 simp only[List.mem_append,List.mem_singleton]
 grind
theorem ZdX {l:List DEnd} {p:Nat} {x:DEnd} (h:x∈l.take p):∃k,∃hk:k<l.length,k<p∧l[k]=x:=by
 obtain⟨k,hk,rfl⟩:=List.mem_iff_getElem.1 h
 rw[List.length_take]at hk
 exact⟨k,by omega,by omega,by simp⟩
theorem ZdY {l:List DEnd} {p:Nat} {x:DEnd} (h:x∈l.drop p):∃k,∃hk:k<l.length,p≤k∧l[k]=x:=by
 obtain⟨k,hk,rfl⟩:=List.mem_iff_getElem.1 h
 rw[List.length_drop]at hk
 exact⟨p+k,by omega,by omega,by simp⟩
theorem ZcU {l:List DEnd} (h:ZQ l) {e:DEnd} (hn:e∉l):ZQ (Za4 l e):=by
 have hp:=Z7 h e
 unfold Za4 ZZ ZQ
 rw[List.pairwise_append,List.pairwise_append]
 have h1:(l.take (Zg l e)++l.drop (Zg l e)).Pairwise fun a b=>Zs a b<0:=by rw[List.take_append_drop];exact h
 rw[List.pairwise_append]at h1
 have hd:∀x∈l.drop (Zg l e),Zs e x<0:=fun x hx=>by
  obtain⟨k,hk,hkp,rfl⟩:=ZdY hx
  exact ZfM _ _ (fun e2=>by have:=(hp.2 k hk).1 e2;omega) (fun e2=>hn (e2▸List.getElem_mem hk))
 have ht:∀x∈l.take (Zg l e),Zs x e<0:=fun x hx=>by
  obtain⟨k,hk,hkp,rfl⟩:=ZdX hx
  exact(hp.2 k hk).2 hkp
 refine⟨⟨h1.1,List.pairwise_singleton _ _,fun a ha b hb=> ?_⟩,h1.2.1,fun a ha b hb=> ?_⟩
 ·rw[List.mem_singleton]at hb
  subst hb
  exact ht a ha
 ·rcases List.mem_append.1 ha with ha|ha
  ·exact h1.2.2 a ha b hb
  ·rw[List.mem_singleton]at ha
   subst ha
   exact hd b hb
theorem Zch {l:List DEnd} (h:ZQ l) (e:DEnd):ZQ (ZaZ l e):=by
 unfold ZaZ Zdd ZQ
 have h1:(l.take (Zg l e)++l.drop (Zg l e)).Pairwise fun a b=>Zs a b<0:=by rw[List.take_append_drop];exact h
 rw[List.pairwise_append]at h1
 rw[List.pairwise_append]
 have hs:(l.drop (Zg l e+1)).Sublist (l.drop (Zg l e)):=by
  have:l.drop (Zg l e+1)=(l.drop (Zg l e)).drop 1:=by rw[List.drop_drop]
  rw[this];exact List.drop_sublist _ _
 exact⟨h1.1,h1.2.1.sublist hs,fun a ha b hb=>h1.2.2 a ha b (hs.subset hb)⟩
theorem ZcZ {l:List DEnd} (h:ZQ l) {e:DEnd} (hm:e∈l) (x:DEnd):x∈ZaZ l e↔x≠e∧x∈l:=by
 have hlt:=Zgj h hm
 have hat:=Zb7 h e
 rw[decide_eq_true hm]at hat
 have he:l[Zg l e]=e:=by
  unfold Zbr at hat
  rw[List.getElem?_eq_getElem hlt]at hat
  exact(ZbX _ _).1 (by simpa using hat)
 have hsplit:l=l.take (Zg l e)++e::l.drop (Zg l e+1):=by
  have h1:=List.take_append_drop (Zg l e) l
  rw[List.drop_eq_getElem_cons hlt,he]at h1
  exact h1.symm
 have hpw:(l.take (Zg l e)++e::l.drop (Zg l e+1)).Pairwise fun a b=>Zs a b<0:=by rw[←hsplit];exact h
 rw[List.pairwise_append]at hpw
 have hc:=List.pairwise_cons.1 hpw.2.1
 have hx:x∈l↔x∈l.take (Zg l e)∨x=e∨x∈l.drop (Zg l e+1):=by
  conv=>lhs;rw[hsplit]
  rw[List.mem_append,List.mem_cons]
 rw[hx]
 unfold ZaZ Zdd
 rw[List.mem_append]
 constructor
 ·rintro(h1|h1)
  ·exact⟨fun e2=>ZdQ e (by have:=hpw.2.2 x h1 e List.mem_cons_self;rwa [e2]at this),.inl h1⟩
  ·exact⟨fun e2=>ZdQ e (by have:=hc.1 x h1;rwa [e2]at this),.inr (.inr h1)⟩
 ·rintro⟨h1,h2|h2|h2⟩
  ·exact .inl h2
  ·exact absurd h2 h1
  ·exact .inr h2
end Go.Proofs.Ytfcefnpnomlgbaa
/- Digraphs,plain:the rows hold just the arcs,whatever is added and dropped. -/
namespace Go.Proofs.Ytfcefnpnomlgbaa
set_option linter.unusedSimpArgs false
set_option linter.unusedVariables false
open Go.RowKit
theorem Zbm (N:Nat) (a:HArc):Zc N a=true↔0≤a.f∧a.f<(N:Int)∧0≤a.t∧a.t<(N:Int)∧1≤a.kind∧a.kind≤3∧0≤a.label∧a.label≤1048575:=by
 simp only[Zc,Zk,Bool.and_eq_true,decide_eq_true_eq,and_assoc]
theorem Zv (i n k l:Int) (a:HArc):(⟨i,n,k,l⟩:HArc)=a↔i=a.f∧n=a.t∧k=a.kind∧l=a.label:=by
 obtain⟨af,at',ak,al⟩:=a
 simp
theorem ZbW (e:DEnd) (k l n:Int):e=⟨k,l,n⟩↔e.kind=k∧e.label=l∧e.node=n:=by
 obtain⟨ek,el,en⟩:=e
 simp
structure DOk (N K:Nat) (q:List HArc) (out inn:List (List DEnd)):Prop where
 s:ZY q
 r:∀a∈q,Zc N a=true
 lo:out.length=N
 li:inn.length=N
 so:∀l∈out,ZQ l
 si:∀l∈inn,ZQ l
 mo:∀(i:Nat) l,out[i]? =some l→∀e:DEnd,e∈l↔(⟨i,e.node,e.kind,e.label⟩:HArc)∈q
 mi:∀(i:Nat) l,inn[i]? =some l→∀e:DEnd,e∈l↔(⟨e.node,i,e.kind,e.label⟩:HArc)∈q
 fo:∀l∈out,l.length≤K
 fi:∀l∈inn,l.length≤K
 fq:q.length≤K
def Zat (N:Nat) (q:List HArc) (a:HArc):List HArc:=if Zc N a=true then (if a∈q then q else ZD a q) else q
def Zce (N:Nat) (q:List HArc) (a:HArc):Int:=if Zc N a=true then (if a∈q then 4 else 0) else 1
def ZeC (q:List HArc) (a:HArc):Int:=if a∈q then 0 else 3
theorem ZM {α:Type} {l:List α} {f:α→α} {i:Nat} {x:α} (h:x∈l.modify i f):x∈l∨∃y∈l,l[i]? =some y∧x=f y:=by
 obtain⟨k,hk,rfl⟩:=List.mem_iff_getElem.1 h
 rw[List.length_modify]at hk
 rw[List.getElem_modify]
 split
 ·next e=>subst e;exact .inr ⟨l[i],List.getElem_mem hk,List.getElem?_eq_getElem hk,rfl⟩
 ·exact .inl (List.getElem_mem hk)
theorem ZaD {l m:List (List DEnd)} {f:List DEnd→List DEnd} {i k:Nat} {r:List DEnd} (h:(l.modify i f)[k]? =some r):(k=i∧∃s,l[k]? =some s∧r=f s)∨(k≠i∧l[k]? =some r):=by
 rw[List.getElem?_modify]at h
 by_cases e:i=k
 ·subst e
  simp only[if_true,Option.map_eq_map,Option.map_eq_some_iff]at h
  obtain⟨s,h1,rfl⟩:=h
  exact .inl ⟨rfl,s,h1,rfl⟩
 ·simp only[if_neg e]at h
  exact .inr ⟨fun e2=>e e2.symm,by simpa using h⟩
theorem DOk.nil (N:Nat):DOk N 0 [] (List.replicate N []) (List.replicate N []):=by
 have hm:∀l∈List.replicate N ([]:List DEnd),l=[]:=fun l h=>(List.mem_replicate.1 h).2
 have hg:∀(i:Nat) l,(List.replicate N ([]:List DEnd))[i]? =some l→l=[]:=fun i l h=>hm l (List.mem_of_getElem? h)
 exact⟨List.Pairwise.nil,by simp,by simp,by simp,fun l h=>by rw[hm l h];exact List.Pairwise.nil,fun l h=>by rw[hm l h];exact List.Pairwise.nil,
  fun i l h e=>by rw[hg i l h];simp,fun i l h e=>by rw[hg i l h];simp,fun l h=>by rw[hm l h];simp,fun l h=>by rw[hm l h];simp,by simp⟩
section
variable {N K:Nat} {q:List HArc} {out inn:List (List DEnd)}
theorem DOk.mono (h:DOk N K q out inn) {K':Nat} (hk:K≤K'):DOk N K' q out inn:=
 {h with fo:=fun l hl=>Nat.le_trans (h.fo l hl) hk,fi:=fun l hl=>Nat.le_trans (h.fi l hl) hk,fq:=Nat.le_trans h.fq hk}
theorem DOk.has (h:DOk N K q out inn) (a:HArc):ZaV out a=decide (a∈q):=by
 unfold ZaV
 rw[h.lo]
 by_cases hr:Zc N a=true
 ·obtain⟨i,j,e1,e2,hi,hj⟩:=Zae hr
  have hil:i<out.length:=by rw[h.lo];exact hi
  rw[hr,e1]
  simp only[Int.toNat_natCast,List.getElem?_eq_getElem hil,Bool.true_and]
  rw[decide_eq_decide,h.mo i _ (List.getElem?_eq_getElem hil)]
  have:(⟨(i:Int),(ZG a).node,(ZG a).kind,(ZG a).label⟩:HArc)=a:=by rw[Zv];exact⟨e1.symm,rfl,rfl,rfl⟩
  rw[this]
 ·have hn:a∉q:=fun e=>hr (h.r a e)
  have hf:Zc N a=false:=by simpa using hr
  rw[hf,decide_eq_false hn]
  rfl
theorem DOk.addW_ (h:DOk N K q out inn) (a:HArc):ZaJ out a=Zce N q a:=by
 unfold ZaJ Zce
 rw[h.has a,h.lo]
 simp only[decide_eq_true_eq]
theorem DOk.dropW_ (h:DOk N K q out inn) (a:HArc):Zdc out a=ZeC q a:=by
 unfold Zdc ZeC
 rw[h.has a]
 simp only[decide_eq_true_eq]
theorem ZcV {l:List DEnd} (h:ZQ l) (e:DEnd):(Za4 l e).length=l.length+1:=Zfs l e (Z7 h e)
theorem Zci (l:List DEnd) (e:DEnd):(ZaZ l e).length≤l.length:=by
 unfold ZaZ Zdd
 rw[List.length_append,List.length_take,List.length_drop]
 omega
theorem DOk.add (h:DOk N K q out inn) (a:HArc):DOk N (K+1) (Zat N q a) (Zbv out a) (Zbx out inn a):=by
 unfold Zbv Zbx Zat
 rw[h.addW_ a]
 unfold Zce
 by_cases hr:Zc N a=true
 ·by_cases hm:a∈q
  ·simp only[if_pos hr,if_pos hm,if_neg (show¬(4:Int)=0 by decide)]
   exact h.mono (by omega)
  ·simp only[if_pos hr,if_neg hm,if_true]
   obtain⟨i,j,e1,e2,hi,hj⟩:=Zae hr
   have hil:i<out.length:=by rw[h.lo];exact hi
   have hjl:j<inn.length:=by rw[h.li];exact hj
   rw[e1,e2]
   simp only[Int.toNat_natCast]
   have ao:∀s,out[i]? =some s→ZG a∉s:=fun s hs=>by
    rw[h.mo i s hs]
    have:(⟨(i:Int),(ZG a).node,(ZG a).kind,(ZG a).label⟩:HArc)=a:=by rw[Zv];exact⟨e1.symm,rfl,rfl,rfl⟩
    rw[this];exact hm
   have ai:∀s,inn[j]? =some s→inE a∉s:=fun s hs=>by
    rw[h.mi j s hs]
    have:(⟨(inE a).node,(j:Int),(inE a).kind,(inE a).label⟩:HArc)=a:=by rw[Zv];exact⟨rfl,e2.symm,rfl,rfl⟩
    rw[this];exact hm
   constructor
   case s=>exact ZaB a q h.s
   case r=>
    intro b hb
    rcases(ZV a b q).1 hb with rfl|hb
    ·exact hr
    ·exact h.r b hb
   case lo=>simpa using h.lo
   case li=>simpa using h.li
   case so=>
    intro l hl
    rcases ZM hl with hl|⟨y,hy,hy2,rfl⟩
    ·exact h.so l hl
    ·exact ZcU (h.so y hy) (ao y hy2)
   case si=>
    intro l hl
    rcases ZM hl with hl|⟨y,hy,hy2,rfl⟩
    ·exact h.si l hl
    ·exact ZcU (h.si y hy) (ai y hy2)
   case mo=>
    intro k l hl e
    rcases ZaD (m:=[]) hl with ⟨rfl,s,hs,rfl⟩|⟨hne,hl⟩
    ·rw[ZdC,ZV,h.mo k s hs,Zv,show ZG a=⟨a.kind,a.label,a.t⟩ from rfl,ZbW]
     constructor
     ·rintro(⟨x1,x2,x3⟩|x)
      ·exact .inl ⟨e1.symm,x3,x1,x2⟩
      ·exact .inr x
     ·rintro(⟨_,x1,x2,x3⟩|x)
      ·exact .inl ⟨x2,x3,x1⟩
      ·exact .inr x
    ·rw[ZV,h.mo k l hl,Zv]
     constructor
     ·exact .inr
     ·rintro(⟨x,_⟩|x)
      ·exact absurd (by omega) hne
      ·exact x
   case mi=>
    intro k l hl e
    rcases ZaD (m:=[]) hl with ⟨rfl,s,hs,rfl⟩|⟨hne,hl⟩
    ·rw[ZdC,ZV,h.mi k s hs,Zv,show inE a=⟨a.kind,a.label,a.f⟩ from rfl,ZbW]
     constructor
     ·rintro(⟨x1,x2,x3⟩|x)
      ·exact .inl ⟨x3,e2.symm,x1,x2⟩
      ·exact .inr x
     ·rintro(⟨x1,_,x2,x3⟩|x)
      ·exact .inl ⟨x2,x3,x1⟩
      ·exact .inr x
    ·rw[ZV,h.mi k l hl,Zv]
     constructor
     ·exact .inr
     ·rintro(⟨_,x,_⟩|x)
      ·exact absurd (by omega) hne
      ·exact x
   case fo=>
    intro l hl
    rcases ZM hl with hl|⟨y,hy,hy2,rfl⟩
    ·have:=h.fo l hl;omega
    ·have:=h.fo y hy
     rw[ZcV (h.so y hy)]
     omega
   case fi=>
    intro l hl
    rcases ZM hl with hl|⟨y,hy,hy2,rfl⟩
    ·have:=h.fi l hl;omega
    ·have:=h.fi y hy
     rw[ZcV (h.si y hy)]
     omega
   case fq=>
    have:=Zds a q
    have:=h.fq
    omega
 ·simp only[if_neg hr,if_neg (show¬(1:Int)=0 by decide)]
  exact h.mono (by omega)
theorem DOk.addN_ (h:DOk N K q out inn) (a:HArc):Zbw out (q.length:Int) a=((Zat N q a).length:Int):=by
 unfold Zbw Zat
 rw[h.addW_ a]
 unfold Zce
 by_cases hr:Zc N a=true
 ·by_cases hm:a∈q
  ·simp[hr,hm]
  ·simp only[if_pos hr,if_neg hm,if_true,Zdr a q hm]
   omega
 ·simp[hr]
theorem DOk.drop (h:DOk N K q out inn) (a:HArc):DOk N K (q.filter fun x=>x != a) (ZfZ out a) (Zf0 out inn a):=by
 unfold ZfZ Zf0
 rw[h.dropW_ a]
 unfold ZeC
 by_cases hm:a∈q
 ·simp only[if_pos hm,if_true]
  obtain⟨i,j,e1,e2,hi,hj⟩:=Zae (h.r a hm)
  rw[e1,e2]
  simp only[Int.toNat_natCast]
  have ao:∀s,out[i]? =some s→ZG a∈s:=fun s hs=>by
   rw[h.mo i s hs]
   have:(⟨(i:Int),(ZG a).node,(ZG a).kind,(ZG a).label⟩:HArc)=a:=by rw[Zv];exact⟨e1.symm,rfl,rfl,rfl⟩
   rw[this];exact hm
  have ai:∀s,inn[j]? =some s→inE a∈s:=fun s hs=>by
   rw[h.mi j s hs]
   have:(⟨(inE a).node,(j:Int),(inE a).kind,(inE a).label⟩:HArc)=a:=by rw[Zv];exact⟨rfl,e2.symm,rfl,rfl⟩
   rw[this];exact hm
  constructor
  case s=>exact h.s.filter _
  case r=>exact fun b hb=>h.r b (List.mem_filter.1 hb).1
  case lo=>simpa using h.lo
  case li=>simpa using h.li
  case so=>
   intro l hl
   rcases ZM hl with hl|⟨y,hy,hy2,rfl⟩
   ·exact h.so l hl
   ·exact Zch (h.so y hy) _
  case si=>
   intro l hl
   rcases ZM hl with hl|⟨y,hy,hy2,rfl⟩
   ·exact h.si l hl
   ·exact Zch (h.si y hy) _
  case mo=>
   intro k l hl e
   rw[List.mem_filter,bne_iff_ne]
   rcases ZaD (m:=[]) hl with ⟨rfl,s,hs,rfl⟩|⟨hne,hl⟩
   ·rw[ZcZ (h.so s (List.mem_of_getElem? hs)) (ao s hs),h.mo k s hs,and_comm]
    refine and_congr_right fun _=>not_congr ?_
    rw[Zv,show ZG a=⟨a.kind,a.label,a.t⟩ from rfl,ZbW]
    constructor
    ·rintro⟨x1,x2,x3⟩
     exact⟨e1.symm,x3,x1,x2⟩
    ·rintro⟨_,x1,x2,x3⟩
     exact⟨x2,x3,x1⟩
   ·rw[h.mo k l hl]
    refine⟨fun x=>⟨x,fun x2=> ?_⟩,fun x=>x.1⟩
    rw[Zv]at x2
    exact hne (by omega)
  case mi=>
   intro k l hl e
   rw[List.mem_filter,bne_iff_ne]
   rcases ZaD (m:=[]) hl with ⟨rfl,s,hs,rfl⟩|⟨hne,hl⟩
   ·rw[ZcZ (h.si s (List.mem_of_getElem? hs)) (ai s hs),h.mi k s hs,and_comm]
    refine and_congr_right fun _=>not_congr ?_
    rw[Zv,show inE a=⟨a.kind,a.label,a.f⟩ from rfl,ZbW]
    constructor
    ·rintro⟨x1,x2,x3⟩
     exact⟨x3,e2.symm,x1,x2⟩
    ·rintro⟨x1,_,x2,x3⟩
     exact⟨x2,x3,x1⟩
   ·rw[h.mi k l hl]
    refine⟨fun x=>⟨x,fun x2=> ?_⟩,fun x=>x.1⟩
    rw[Zv]at x2
    exact hne (by omega)
  case fo=>
   intro l hl
   rcases ZM hl with hl|⟨y,hy,hy2,rfl⟩
   ·exact h.fo l hl
   ·exact Nat.le_trans (Zci _ _) (h.fo y hy)
  case fi=>
   intro l hl
   rcases ZM hl with hl|⟨y,hy,hy2,rfl⟩
   ·exact h.fi l hl
   ·exact Nat.le_trans (Zci _ _) (h.fi y hy)
  case fq=>exact Nat.le_trans (List.length_filter_le _ _) h.fq
 ·simp only[if_neg hm,if_neg (show¬(3:Int)=0 by decide)]
  rw[List.filter_eq_self.2 (fun x hx=>by rw[bne_iff_ne];exact fun e=>hm (e▸hx))]
  exact h
theorem DOk.ko (h:DOk N K q out inn):Ze0 out:=fun l hl e he=>by
 obtain⟨i,hi,rfl⟩:=List.mem_iff_getElem.1 hl
 have:=h.r _ ((h.mo i _ (List.getElem?_eq_getElem hi) e).1 he)
 rw[Zbm]at this
 exact⟨this.2.2.2.2.1,this.2.2.2.2.2.1⟩
def ofA (mask:Int) (q:List HArc):List HArc:=q.filter fun x=>Zy mask x.kind
theorem mem_ofA {mask:Int} {q:List HArc} {x:HArc}:x∈ofA mask q↔x∈q∧Zy mask x.kind=true:=by unfold ofA;rw[List.mem_filter]
theorem Zfz (mask:Int) (ls:List (List DEnd)) (i:Int):(ZaC mask ls i).Pairwise (·<·):=by
 unfold ZaC
 split
 ·unfold ZaT
  rw[Zby]
  exact Zge _
 ·exact List.Pairwise.nil
theorem Zex (mask:Int) (l:List DEnd) (v:Int):v∈ZaT mask l↔∃e∈l,Zy mask e.kind=true∧v=e.node:=by
 unfold ZaT
 rw[Zby,ZfD]
 unfold Zar
 rw[List.mem_map]
 constructor
 ·rintro⟨e,he,rfl⟩
  rw[List.mem_filter]at he
  exact⟨e,he.1,he.2,rfl⟩
 ·rintro⟨e,h1,h2,rfl⟩
  exact⟨e,List.mem_filter.2 ⟨h1,h2⟩,rfl⟩
theorem DOk.mem_next (h:DOk N K q out inn) (mask i v:Int):v∈ZaC mask out i↔∃x∈ofA mask q,x.f=i∧v=x.t:=by
 unfold ZaC
 by_cases hb:Zk out.length i=true
 ·rw[if_pos hb]
  simp only[Zk,Bool.and_eq_true,decide_eq_true_eq]at hb
  obtain⟨j,rfl⟩:∃j:Nat,i=(j:Int):=⟨i.toNat,by omega⟩
  have hj:j<out.length:=by omega
  simp only[Int.toNat_natCast,List.getElem?_eq_getElem hj]
  rw[Zex]
  constructor
  ·rintro⟨e,h1,h2,rfl⟩
   exact⟨_,mem_ofA.2 ⟨(h.mo j _ (List.getElem?_eq_getElem hj) e).1 h1,h2⟩,rfl,rfl⟩
  ·rintro⟨x,h1,h3,rfl⟩
   rw[mem_ofA]at h1
   refine⟨⟨x.kind,x.label,x.t⟩,?_,h1.2,rfl⟩
   rw[h.mo j _ (List.getElem?_eq_getElem hj)]
   have:(⟨(j:Int),x.t,x.kind,x.label⟩:HArc)=x:=by rw[Zv];exact⟨h3.symm,rfl,rfl,rfl⟩
   rw[this]
   exact h1.1
 ·rw[if_neg hb]
  simp only[List.not_mem_nil,false_iff]
  rintro⟨x,h1,h3,_⟩
  rw[mem_ofA]at h1
  have:=(Zbm _ _).1 (h.r x h1.1)
  apply hb
  simp only[Zk,Bool.and_eq_true,decide_eq_true_eq,h.lo]
  omega
theorem DOk.next_ (h:DOk N K q out inn) (mask i:Int):ZaC mask out i=nxA i false (ofA mask q):=
 Zfr (Zfz _ _ _) (Zbc _ _ _ _ List.Pairwise.nil) fun v=>by
  rw[h.mem_next]
  unfold nxA
  rw[ZcC]
  simp
end
end Go.Proofs.Ytfcefnpnomlgbaa
/- Digraphs:the contracts by the arcs alone,nil or not. -/
namespace Go.Proofs.Ytfcefnpnomlgbaa
set_option linter.unusedSimpArgs false
set_option linter.unusedVariables false
open Go.RowKit
def DGs (w:World) (G:Nat→Prop) (g N K:Nat) (q:List HArc):Prop:=
 ∃out inn ob ib oh ih base,GIs w G g out inn (q.length:Int) ob ib oh ih base∧DOk N K q out inn∧base≤w.heap.size
def DG (w:World) (G:Nat→Prop) (p:Option Addr) (N K:Nat) (q:List HArc):Prop:=
 (p=none∧N=0∧q=[])∨∃g,p=some ⟨g,0,none⟩∧DGs w G g N K q
def DTs (w:World) (G:Nat→Prop) (p:Option Addr) (N K:Nat) (q:List HArc) (r:Value) (e:Ending) (w':World):Prop:=
 ∃G',e= .returned r∧DG w' G' p N K q∧Upd G w w'∧∀k,G' k→G k∨w.heap.size≤k
def Zhh (w:World) (N K:Nat) (q:List HArc) (e:Ending) (w':World):Prop:=
 ∃G g,e= .returned (.pointer (some ⟨g,0,none⟩))∧DG w' G (some ⟨g,0,none⟩) N K q∧Upd No w w'∧∀k,G k→w.heap.size≤k
theorem DG.nil (w:World) (G:Nat→Prop):DG w G none 0 0 []:= .inl ⟨rfl,rfl,rfl⟩
section
variable {w:World} {G:Nat→Prop} {p:Option Addr} {N K:Nat} {q:List HArc}
theorem DG.upd (h:DG w G p N K q) {S:Nat→Prop} {w':World} (k:Upd S w w') (hn:∀i,G i→¬S i):DG w' G p N K q:=by
 rcases h with h|⟨g,rfl,out,inn,ob,ib,oh,ih,base,h1,h2,h3⟩
 ·exact .inl h
 ·exact .inr ⟨g,rfl,out,inn,ob,ib,oh,ih,base,h1.upd k hn,h2,Nat.le_trans h3 k.size⟩
theorem DG.no (h:DG w G p N K q) {w':World} (k:Upd No w w'):DG w' G p N K q:=h.upd k fun _ _=>id
theorem DG.sorted (h:DG w G p N K q):ZY q:=by
 rcases h with ⟨_,_,rfl⟩|⟨g,rfl,out,inn,ob,ib,oh,ih,base,h1,h2,h3⟩
 ·exact List.Pairwise.nil
 ·exact h2.s
theorem DG.right (h:DG w G p N K q):∀a∈q,Zc N a=true:=by
 rcases h with ⟨_,_,rfl⟩|⟨g,rfl,out,inn,ob,ib,oh,ih,base,h1,h2,h3⟩
 ·simp
 ·exact h2.r
theorem DG.few (h:DG w G p N K q):q.length≤K:=by
 rcases h with ⟨_,_,rfl⟩|⟨g,rfl,out,inn,ob,ib,oh,ih,base,h1,h2,h3⟩
 ·simp
 ·exact h2.fq
theorem DG.old (h:DG w G p N K q) (hp:p≠none):∀k,G k→k<w.heap.size:=by
 rcases h with ⟨rfl,_,rfl⟩|⟨g,rfl,out,inn,ob,ib,oh,ih,base,h1,h2,h3⟩
 ·exact absurd rfl hp
 ·exact h1.old
theorem Zgw (h:DG w G p N K q):Calls Try.prog 26 #[.pointer p] w fun e w'=>e= .returned (.int .i64 (N:Int))∧w=w':=by
 rcases h with ⟨rfl,rfl,rfl⟩|⟨g,rfl,out,inn,ob,ib,oh,ih,base,h1,h2,h3⟩
 ·exact Zee w
 ·rw[←h2.lo];exact Ze7 h1
theorem Ze9 (h:DG w G p N K q) (i mask:Int):Calls Try.prog 19 #[.pointer p,.int .i64 i,.int .i64 mask] w (Zad w (nxA i false (ofA mask q))):=by
 rcases h with ⟨rfl,rfl,rfl⟩|⟨g,rfl,out,inn,ob,ib,oh,ih,base,h1,h2,h3⟩
 ·exact ZgM w i mask
 ·rw[←h2.next_];exact Zg7 h1 h2.ko i mask
theorem Zhb (h:DG w G p N K q) (hK:K<100000) (a:HArc):Calls Try.prog 21 #[.pointer p,.agg a.cells.toArray] w (DTs w G p N (K+1) (Zat N q a) (.int .i64 (Zce N q a))):=by
 rcases h with ⟨rfl,rfl,rfl⟩|⟨g,rfl,out,inn,ob,ib,oh,ih,base,h1,h2,h3⟩
 ·have hr:¬Zc 0 a=true:=fun e=>by rw[Zbm]at e;omega
  refine(Zhc w a).mono ?_
  rintro e w' ⟨rfl,hu⟩
  exact⟨G,by unfold Zce;rw[if_neg hr],.inl ⟨rfl,rfl,by unfold Zat;rw[if_neg hr]⟩,hu.mono (fun _ _ e=>e.elim),fun _ e=> .inl e⟩
 ·have hq:=h2.fq
  refine(ZhE (n:=q.length) h1 h2.so h2.si ⟨fun l hl=>by have:=h2.fo l hl;omega,fun l hl=>by have:=h2.fi l hl;omega⟩ (by omega) h3 a).mono ?_
  rintro e w' ⟨G',oh',ih',rfl,k1,k2,k3⟩
  rw[h2.addN_]at k1
  exact⟨G',by rw[h2.addW_],.inr ⟨g,rfl,_,_,_,_,_,_,_,k1,h2.add a,Nat.le_trans h3 k2.size⟩,k2,k3⟩
end
theorem Zha (w:World) (n:Int):Calls Try.prog 22 #[.int .i64 n] w (Zhh w (Zp n) 0 []):=by
 refine(ZhA w n).mono ?_
 rintro e w' ⟨G,g,ob,ib,oh,ih,rfl,h1,h2,h3⟩
 exact⟨G,g,rfl,.inr ⟨g,rfl,_,_,_,_,_,_,_,h1,DOk.nil _,Nat.le_refl _⟩,h2,h3⟩
end Go.Proofs.Ytfcefnpnomlgbaa
