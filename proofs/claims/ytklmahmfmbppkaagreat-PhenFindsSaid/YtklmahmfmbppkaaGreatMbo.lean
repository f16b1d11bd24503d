/- Closed walks, plain: the document's search tells the same. -/
import Derived.Test.YtklmahmfmbppkaaGreatProg
import Derived.Deep.RegionHeld3
import Derived.Test.YtklmahmfmbppkaaGreatMao
import Derived.Test.YtklmahmfmbppkaaGreatMas
import Derived.Test.YtklmahmfmbppkaaGreatMbd
import Derived.Test.YtklmahmfmbppkaaGreatMbi
import Derived.Test.YtklmahmfmbppkaaGreatMbn
namespace Go.Proofs.YtklmahmfmbppkaaGreat
set_option linter.unusedSimpArgs false
set_option linter.unusedVariables false
open Go.RowKit
def Zs (mask k:Int):Bool:=decide (1≤k)&&(decide (k≤3)&&Zm mask k)
def Edge.arc (e:Edge):HArc:=⟨e.f,e.t,e.k,e.key⟩
def HArc.edge (a:HArc):Edge:=⟨a.f,a.t,a.kind,a.label⟩
theorem Ze1 (e:Edge):e.arc.edge=e:=rfl
theorem Zo9 (a:HArc):a.edge.arc=a:=rfl
def ZgS (must:Int) (pa pn:List Int) (b:List Int) (e:Edge):List Int:=
 if decide (e.t∈pn)=true then ZM e.f (if (decide (e.t∈pa)&&Zs must e.k)=true then ZM e.f b else b) else (if (decide (e.t∈pa)&&Zs must e.k)=true then ZM e.f b else b)
def ZgT (pa:List Int) (a:List Int) (e:Edge):List Int:=if decide (e.t∈pa)=true then ZM e.f a else a
def ZcN (must:Int) (pa pn:List Int):List Int→List Int→List Edge→List Int×List Int
 |a,b,[]=>(a,b)
 |a,b,e::l=>ZcN must pa pn (ZgT pa a e) (ZgS must pa pn b e) l
def ZY (must:Int) (l:List Edge) (tgt:Int):Nat→List Int×List Int
 |0=>([tgt],[])
 |n+1=>ZcN must (ZY must l tgt n).1 (ZY must l tgt n).2 [] [] l
theorem Zng (pa a:List Int) (e:Edge) (u:Int):u∈ZgT pa a e↔u∈a∨(e.t∈pa∧u=e.f):=by
 unfold ZgT
 split
 ·rename_i h
  have h:=of_decide_eq_true h
  rw[Zaw]
  constructor
  ·rintro(e|e)
   ·exact .inr ⟨h,e⟩
   ·exact .inl e
  ·rintro(e|⟨_,e⟩)
   ·exact .inr e
   ·exact .inl e
 ·rename_i h
  have h:¬e.t∈pa:=fun e=>h (decide_eq_true e)
  exact⟨.inl,fun e=>e.elim id fun e=>absurd e.1 h⟩
theorem Znf (must:Int) (pa pn b:List Int) (e:Edge) (u:Int):u∈ZgS must pa pn b e↔u∈b∨(u=e.f∧((e.t∈pa∧Zs must e.k=true)∨e.t∈pn)):=by
 have h1:∀x:List Int,(u∈(if (decide (e.t∈pa)&&Zs must e.k)=true then ZM e.f x else x))↔u∈x∨(u=e.f∧(e.t∈pa∧Zs must e.k=true)):=by
  intro x
  split
  ·rename_i h
   rw[Bool.and_eq_true,decide_eq_true_eq]at h
   rw[Zaw]
   constructor
   ·rintro(e|e)
    ·exact .inr ⟨e,h⟩
    ·exact .inl e
   ·rintro(e|⟨e,_⟩)
    ·exact .inr e
    ·exact .inl e
  ·rename_i h
   rw[Bool.and_eq_true,decide_eq_true_eq]at h
   exact⟨.inl,fun e=>e.elim id fun e=>absurd e.2 h⟩
 unfold ZgS
 split
 ·rename_i h
  have h:=of_decide_eq_true h
  rw[Zaw,h1]
  constructor
  ·rintro(e|e|e)
   ·exact .inr ⟨e,.inr h⟩
   ·exact .inl e
   ·exact .inr ⟨e.1,.inl e.2⟩
  ·rintro(e|⟨e,k|k⟩)
   ·exact .inr (.inl e)
   ·exact .inl e
   ·exact .inl e
 ·rename_i h
  have h:¬e.t∈pn:=fun e=>h (decide_eq_true e)
  rw[h1]
  constructor
  ·rintro(e|e)
   ·exact .inl e
   ·exact .inr ⟨e.1,.inl e.2⟩
  ·rintro(e|⟨e,k|k⟩)
   ·exact .inl e
   ·exact .inr ⟨e,k⟩
   ·exact absurd k h
theorem Zhi (must:Int) (pa pn:List Int) (u:Int):∀(l:List Edge) (a b:List Int),u∈(ZcN must pa pn a b l).1↔u∈a∨∃e∈l,e.t∈pa∧u=e.f
 |[],a,b=>by simp[ZcN]
 |e::l,a,b=>by
  show u∈(ZcN must pa pn (ZgT pa a e) (ZgS must pa pn b e) l).1↔_
  rw[Zhi must pa pn u l,Zng]
  constructor
  ·rintro((h|h)|⟨x,hx,h⟩)
   ·exact .inl h
   ·exact .inr ⟨e,List.mem_cons_self,h⟩
   ·exact .inr ⟨x,List.mem_cons_of_mem _ hx,h⟩
  ·rintro(h|⟨x,hx,h⟩)
   ·exact .inl (.inl h)
   ·rcases List.mem_cons.1 hx with rfl|hx
    ·exact .inl (.inr h)
    ·exact .inr ⟨x,hx,h⟩
theorem Zhh (must:Int) (pa pn:List Int) (u:Int):∀(l:List Edge) (a b:List Int),u∈(ZcN must pa pn a b l).2↔u∈b∨∃e∈l,u=e.f∧((e.t∈pa∧Zs must e.k=true)∨e.t∈pn)
 |[],a,b=>by simp[ZcN]
 |e::l,a,b=>by
  show u∈(ZcN must pa pn (ZgT pa a e) (ZgS must pa pn b e) l).2↔_
  rw[Zhh must pa pn u l,Znf]
  constructor
  ·rintro((h|h)|⟨x,hx,h⟩)
   ·exact .inl h
   ·exact .inr ⟨e,List.mem_cons_self,h⟩
   ·exact .inr ⟨x,List.mem_cons_of_mem _ hx,h⟩
  ·rintro(h|⟨x,hx,h⟩)
   ·exact .inl (.inl h)
   ·rcases List.mem_cons.1 hx with rfl|hx
    ·exact .inl (.inr h)
    ·exact .inr ⟨x,hx,h⟩
section
variable {l:List Edge} {must lo:Int}
theorem Zcm (hlo:∀e∈l,lo≤e.f) (tgt:Int):∀(n:Nat) (u:Int),u∈(ZY must l tgt n).1↔∃c,okW (l.map Edge.arc) lo u c tgt∧c.length=n
 |0,u=>by
  show u∈[tgt]↔_
  rw[List.mem_singleton]
  constructor
  ·intro e
   exact⟨[],e,rfl⟩
  ·rintro⟨c,h,hl⟩
   have:c=[]:=List.eq_nil_of_length_eq_zero hl
   subst this
   exact h
 |n+1,u=>by
  show u∈(ZcN must (ZY must l tgt n).1 (ZY must l tgt n).2 [] [] l).1↔_
  rw[Zhi]
  constructor
  ·rintro(h|⟨e,he,h1,h2⟩)
   ·cases h
   ·obtain⟨c,k1,k2⟩:=(Zcm hlo tgt n e.t).1 h1
    exact⟨e.arc::c,⟨List.mem_map.2 ⟨e,he,rfl⟩,h2.symm,by rw[h2];exact hlo e he,k1⟩,by simp[k2]⟩
  ·rintro⟨c,k1,k2⟩
   cases c with
   |nil=>simp at k2
   |cons a c=>
    obtain⟨ha,haf,_,k1⟩:=k1
    obtain⟨e,he,rfl⟩:=List.mem_map.1 ha
    exact .inr ⟨e,he,(Zcm hlo tgt n e.t).2 ⟨c,k1,by simpa using k2⟩,haf.symm⟩
theorem ZdI {e:Edge} (h1:1≤e.k) (h2:e.k≤3):Zs must e.k=isM must e.arc:=by
 unfold Zs isM
 rw[decide_eq_true h1,decide_eq_true h2]
 rfl
theorem ZdU (hlo:∀e∈l,lo≤e.f) (hk:∀e∈l,1≤e.k∧e.k≤3) (tgt:Int):∀(n:Nat) (u:Int),u∈(ZY must l tgt n).2↔∃c,okW (l.map Edge.arc) lo u c tgt∧c.length=n∧Zj must c=true
 |0,u=>by
  show u∈[]↔_
  constructor
  ·intro e
   cases e
  ·rintro⟨c,h,hl,hm⟩
   have:c=[]:=List.eq_nil_of_length_eq_zero hl
   subst this
   cases hm
 |n+1,u=>by
  show u∈(ZcN must (ZY must l tgt n).1 (ZY must l tgt n).2 [] [] l).2↔_
  rw[Zhh]
  constructor
  ·rintro(h|⟨e,he,h2,⟨h1,h3⟩|h1⟩)
   ·cases h
   ·obtain⟨c,k1,k2⟩:=(Zcm hlo tgt n e.t).1 h1
    rw[ZdI (hk e he).1 (hk e he).2]at h3
    exact⟨e.arc::c,⟨List.mem_map.2 ⟨e,he,rfl⟩,h2.symm,by rw[h2];exact hlo e he,k1⟩,by simp[k2],by rw[Za0,h3];rfl⟩
   ·obtain⟨c,k1,k2,k3⟩:=(ZdU hlo hk tgt n e.t).1 h1
    exact⟨e.arc::c,⟨List.mem_map.2 ⟨e,he,rfl⟩,h2.symm,by rw[h2];exact hlo e he,k1⟩,by simp[k2],by rw[Za0,k3];simp⟩
  ·rintro⟨c,k1,k2,k3⟩
   cases c with
   |nil=>simp at k2
   |cons a c=>
    obtain⟨ha,haf,_,k1⟩:=k1
    obtain⟨e,he,rfl⟩:=List.mem_map.1 ha
    refine .inr ⟨e,he,haf.symm,?_⟩
    rw[Za0,Bool.or_eq_true]at k3
    rcases k3 with k3|k3
    ·exact .inl ⟨(Zcm hlo tgt n e.t).2 ⟨c,k1,by simpa using k2⟩,by rw[ZdI (hk e he).1 (hk e he).2];exact k3⟩
    ·exact .inr ((ZdU hlo hk tgt n e.t).2 ⟨c,k1,by simpa using k2,k3⟩)
end
def isR (must:Int) (pa pn:List Int) (here:Int) (need:Bool) (e:Edge):Bool:=
 e.f==here&&(if (need&& !Zs must e.k)=true then decide (e.t∈pn) else decide (e.t∈pa))
def Za1 (must:Int) (l:List Edge) (rows:Nat→List Int×List Int):Nat→Int→Bool→List Edge
 |0,_,_=>[]
 |n+1,here,need=>match l.find? (isR must (rows n).1 (rows n).2 here need)with
  |some e=>e::Za1 must l rows n e.t (need&& !Zs must e.k)
  |none=>Za1 must l rows n here need
theorem ZeN (a b:Edge):ltE a b=ZaK a.arc b.arc:=by
 unfold ltE ZaK Edge.arc
 simp only[ne_eq]
 by_cases h1:a.f=b.f
 ·rw[if_neg (by simpa using h1),if_pos h1]
  by_cases h2:a.k=b.k
  ·rw[if_neg (by simpa using h2),if_pos h2]
   by_cases h3:a.key=b.key
   ·rw[if_neg (by simpa using h3),if_pos h3]
   ·rw[if_pos h3,if_neg h3]
  ·rw[if_pos h2,if_neg h2]
 ·rw[if_pos h1,if_neg h1]
theorem Zf6 {l:List Edge} {must lo:Int} (hs:l.Pairwise fun a b=>ltE a b=true) (hlo:∀e∈l,lo≤e.f) (hk:∀e∈l,1≤e.k∧e.k≤3) (tgt:Int):
  ∀(n:Nat) (here:Int) (need:Bool),(∃c,okW (l.map Edge.arc) lo here c tgt∧c.length=n∧(need=true→Zj must c=true))→
   okW (l.map Edge.arc) lo here ((Za1 must l (ZY must l tgt) n here need).map Edge.arc) tgt∧(Za1 must l (ZY must l tgt) n here need).length=n∧(need=true→Zj must ((Za1 must l (ZY must l tgt) n here need).map Edge.arc)=true)∧
    ∀c,okW (l.map Edge.arc) lo here c tgt→c.length=n→(need=true→Zj must c=true)→c=(Za1 must l (ZY must l tgt) n here need).map Edge.arc∨ZeP ((Za1 must l (ZY must l tgt) n here need).map Edge.arc) c
 |0,here,need,⟨c,k1,k2,k3⟩=>by
  have:c=[]:=List.eq_nil_of_length_eq_zero k2
  subst this
  exact⟨k1,rfl,k3,fun l _ h2 _=> .inl (List.eq_nil_of_length_eq_zero h2)⟩
 |n+1,here,need,⟨c,k1,k2,k3⟩=>by
  have tailM:∀(e:Edge) (l:List HArc),(need=true→(isM must e.arc||Zj must l)=true)→((need&& !isM must e.arc)=true→Zj must l=true):=by
   intro e l hm hn
   rw[Bool.and_eq_true]at hn
   have h1:=hm hn.1
   have h2:isM must e.arc=false:=by simpa using hn.2
   rw[h2,Bool.false_or]at h1
   exact h1
  have headM:∀(e:Edge) (l:List HArc),((need&& !isM must e.arc)=true→Zj must l=true)→(need=true→(isM must e.arc||Zj must l)=true):=by
   intro e l hm hn
   by_cases h:isM must e.arc=true
   ·rw[h];rfl
   ·have e2:isM must e.arc=false:=by simpa using h
    rw[hm (by rw[hn,e2];rfl)]
    simp
  have good:∀(e:Edge),e∈l→(isR must (ZY must l tgt n).1 (ZY must l tgt n).2 here need e=true↔e.f=here∧∃m,okW (l.map Edge.arc) lo e.t m tgt∧m.length=n∧(need=true→(isM must e.arc||Zj must m)=true)):=by
   intro e he
   unfold isR
   rw[Bool.and_eq_true,beq_iff_eq,ZdI (hk e he).1 (hk e he).2]
   refine and_congr_right fun _=> ?_
   split
   ·rename_i hn
    rw[decide_eq_true_eq,ZdU hlo hk]
    constructor
    ·rintro⟨m,m1,m2,m3⟩
     exact⟨m,m1,m2,fun _=>by rw[m3];simp⟩
    ·rintro⟨m,m1,m2,m3⟩
     exact⟨m,m1,m2,tailM e m m3 hn⟩
   ·rename_i hn
    rw[decide_eq_true_eq,Zcm hlo]
    constructor
    ·rintro⟨m,m1,m2⟩
     refine⟨m,m1,m2,fun e2=> ?_⟩
     rw[e2,Bool.true_and]at hn
     have:isM must e.arc=true:=by simpa using hn
     rw[this]
     rfl
    ·rintro⟨m,m1,m2,_⟩
     exact⟨m,m1,m2⟩
  cases c with
  |nil=>simp at k2
  |cons a0 c0=>
   obtain⟨ha0,haf0,_,k1⟩:=k1
   obtain⟨e0,he0,rfl⟩:=List.mem_map.1 ha0
   have g0:=(good e0 he0).2 ⟨haf0,c0,k1,by simpa using k2,k3⟩
   obtain⟨e,hfe⟩:∃e,l.find? (isR must (ZY must l tgt n).1 (ZY must l tgt n).2 here need)=some e:=by
    rw[←Option.isSome_iff_exists,List.find?_isSome]
    exact⟨e0,he0,g0⟩
   have hme:=List.mem_of_find?_eq_some hfe
   obtain⟨hef,m,m1,m2,m3⟩:=(good e hme).1 (List.find?_some hfe)
   have hfr:Za1 must l (ZY must l tgt) (n+1) here need=e::Za1 must l (ZY must l tgt) n e.t (need&& !Zs must e.k):=by
    show(match l.find? (isR must (ZY must l tgt n).1 (ZY must l tgt n).2 here need)with|some e=>e::Za1 must l (ZY must l tgt) n e.t (need&& !Zs must e.k)|none=>Za1 must l (ZY must l tgt) n here need)=_
    rw[hfe]
   rw[ZdI (hk e hme).1 (hk e hme).2]at hfr
   have ih:=Zf6 hs hlo hk tgt n e.t (need&& !isM must e.arc) ⟨m,m1,m2,tailM e m m3⟩
   rw[hfr,List.map_cons]
   refine⟨⟨List.mem_map.2 ⟨e,hme,rfl⟩,hef,by rw[←hef];exact hlo e hme,ih.1⟩,by simp[ih.2.1],fun hn=>by rw[Za0];exact headM e _ ih.2.2.1 hn,fun c hw hl hm=> ?_⟩
   cases c with
   |nil=>simp at hl
   |cons b c=>
    obtain⟨hb,hbf,_,hw⟩:=hw
    obtain⟨x,hx,rfl⟩:=List.mem_map.1 hb
    by_cases hxe:x=e
    ·subst hxe
     rcases ih.2.2.2 c hw (by simpa using hl) (tailM x c hm)with h|h
     ·exact .inl (by rw[h])
     ·exact .inr (.inr ⟨rfl,h⟩)
    ·refine .inr (.inl ?_)
     have gx:=(good x hx).2 ⟨hbf,c,hw,by simpa using hl,hm⟩
     obtain⟨l8,l9,h1,h2⟩:=(List.find?_eq_some_iff_append.1 hfe).2
     rw[h1]at hx hs
     rw[←ZeN]
     rcases List.mem_append.1 hx with hx|hx
     ·have:=h2 x hx
      rw[gx]at this
      cases this
     ·rcases List.mem_cons.1 hx with hx|hx
      ·exact absurd hx hxe
      ·exact(List.pairwise_cons.1 (List.pairwise_append.1 hs).2.1).1 x hx
def inR (hit:Nat→Bool) (most:Nat) (id:Int):Nat→Nat→Nat×Int→Nat×Int
 |0,_,s=>s
 |g+1,i,s=>if (decide (i≤most)&&(s.1==0||decide (i<s.1)))=true then inR hit most id g (i+1) (if hit i=true then (i,id) else s) else s
def Zdd (hit:Int→Nat→Bool) (most:Nat):List Int→Nat×Int→Nat×Int
 |[],s=>s
 |id::l,s=>Zdd hit most l (inR (hit id) most id most 1 s)
theorem ZoU {hit:Nat→Bool} {most:Nat} {id:Int}:∀(g i:Nat) (s:Nat×Int),s.1≠0→s.1≤i→inR hit most id g i s=s
 |0,_,_,_,_=>rfl
 |g+1,i,s,h1,h2=>by
  unfold inR
  rw[if_neg]
  rw[Bool.and_eq_true,Bool.or_eq_true,beq_iff_eq,decide_eq_true_eq,decide_eq_true_eq]
  omega
theorem Zkd {hit:Nat→Bool} {most:Nat} {id:Int}:∀(g i:Nat) (s:Nat×Int),1≤i→g+i=most+1→
  (inR hit most id g i s=s∧∀j,i≤j→j≤most→(s.1=0∨j<s.1)→hit j=false)∨
   (∃k,i≤k∧k≤most∧(s.1=0∨k<s.1)∧hit k=true∧inR hit most id g i s=(k,id)∧∀j,i≤j→j<k→hit j=false)
 |0,i,s,_,hg=> .inl ⟨rfl,fun j h1 h2 _=>by omega⟩
 |g+1,i,s,hi,hg=>by
  unfold inR
  by_cases hc:(decide (i≤most)&&(s.1==0||decide (i<s.1)))=true
  ·rw[if_pos hc]
   rw[Bool.and_eq_true,Bool.or_eq_true,beq_iff_eq,decide_eq_true_eq,decide_eq_true_eq]at hc
   by_cases hh:hit i=true
   ·rw[if_pos hh]
    exact .inr ⟨i,Nat.le_refl _,hc.1,hc.2,hh,ZoU g (i+1) (i,id) (by show i≠0;omega) (by show i≤i+1;omega),fun j h1 h2=>by omega⟩
   ·rw[if_neg hh]
    have hf:hit i=false:=by simpa using hh
    rcases Zkd (hit:=hit) (most:=most) (id:=id) g (i+1) s (by omega) (by omega)with ⟨e,h⟩|⟨k,k1,k2,k3,k4,k5,k6⟩
    ·refine .inl ⟨e,fun j h1 h2 h3=> ?_⟩
     rcases Nat.eq_or_lt_of_le h1 with e1|e1
     ·rw[←e1];exact hf
     ·exact h j e1 h2 h3
    ·refine .inr ⟨k,by omega,k2,k3,k4,k5,fun j h1 h2=> ?_⟩
     rcases Nat.eq_or_lt_of_le h1 with e1|e1
     ·rw[←e1];exact hf
     ·exact k6 j e1 h2
  ·rw[if_neg hc]
   rw[Bool.and_eq_true,Bool.or_eq_true,beq_iff_eq,decide_eq_true_eq,decide_eq_true_eq]at hc
   refine .inl ⟨rfl,fun j h1 h2 h3=> ?_⟩
   exfalso
   apply hc
   omega
def ZhN (hit:Int→Nat→Bool) (most:Nat) (ids:List Int) (s:Nat×Int):Prop:=
 (s.1=0∧∀x∈ids,∀j,1≤j→j≤most→hit x j=false)∨
  (1≤s.1∧s.1≤most∧s.2∈ids∧hit s.2 s.1=true∧∀x∈ids,∀j,1≤j→j≤most→hit x j=true→s.1≤j∧(x<s.2→s.1<j))
theorem ZeI {hit:Int→Nat→Bool} {most:Nat}:∀(l ids:List Int) (s:Nat×Int),(ids++l).Pairwise (·<·)→ZhN hit most ids s→ZhN hit most (ids++l) (Zdd hit most l s)
 |[],ids,s,_,h=>by rw[List.append_nil];exact h
 |x::l,ids,s,hp,h=>by
  have hlt:∀y∈ids,y<x:=fun y hy=>(List.pairwise_append.1 hp).2.2 y hy x List.mem_cons_self
  have key:ZhN hit most (ids++[x]) (inR (hit x) most x most 1 s):=by
   rcases Zkd (hit:=hit x) (id:=x) most 1 s (Nat.le_refl _) rfl with ⟨e,k⟩|⟨k,k1,k2,k3,k4,k5,k6⟩
   ·rw[e]
    rcases h with ⟨h1,h2⟩|⟨h1,h2,h3,h4,h5⟩
    ·refine .inl ⟨h1,fun y hy j j1 j2=> ?_⟩
     rcases List.mem_append.1 hy with hy|hy
     ·exact h2 y hy j j1 j2
     ·rw[List.mem_singleton]at hy
      subst hy
      exact k j j1 j2 (.inl h1)
    ·refine .inr ⟨h1,h2,List.mem_append_left _ h3,h4,fun y hy j j1 j2 hh=> ?_⟩
     rcases List.mem_append.1 hy with hy|hy
     ·exact h5 y hy j j1 j2 hh
     ·rw[List.mem_singleton]at hy
      subst hy
      have hsx:=hlt _ h3
      refine⟨?_,fun e2=>by omega⟩
      refine Classical.byContradiction fun hc=> ?_
      rw[k j j1 j2 (.inr (by omega))]at hh
      cases hh
   ·rw[k5]
    refine .inr ⟨k1,k2,List.mem_append_right _ (List.mem_singleton.2 rfl),k4,fun y hy j j1 j2 hh=> ?_⟩
    rcases List.mem_append.1 hy with hy|hy
    ·rcases h with ⟨h1,h2⟩|⟨h1,h2,h3,h4,h5⟩
     ·rw[h2 y hy j j1 j2]at hh
      cases hh
     ·have:=(h5 y hy j j1 j2 hh).1
      show k≤j∧(y<x→k<j)
      omega
    ·rw[List.mem_singleton]at hy
     subst hy
     show k≤j∧(y<y→k<j)
     refine⟨?_,fun e2=>by omega⟩
     refine Classical.byContradiction fun hc=> ?_
     rw[k6 j j1 (by omega)]at hh
     cases hh
  show ZhN hit most (ids++x::l) (Zdd hit most l (inR (hit x) most x most 1 s))
  rw[show ids++x::l=(ids++[x])++l by simp]
  exact ZeI l (ids++[x]) _ (by rw[show(ids++[x])++l=ids++x::l by simp];exact hp) key
def Zdy (must:Int) (need:Bool) (l:List Edge) (id:Int) (i:Nat):Bool:=
 if need=true then decide (id∈(ZY must l id i).2) else decide (id∈(ZY must l id i).1)
theorem Zgz {l:List Edge} {must lo:Int} (hlo:∀e∈l,lo≤e.f) (hk:∀e∈l,1≤e.k∧e.k≤3) (need:Bool) (id:Int) (i:Nat):
  Zdy must need l id i=true↔∃c,okW (l.map Edge.arc) lo id c id∧c.length=i∧(need=true→Zj must c=true):=by
 unfold Zdy
 split
 ·rename_i h
  rw[decide_eq_true_eq,ZdU hlo hk]
  exact⟨fun⟨c,a,b,d⟩=>⟨c,a,b,fun _=>d⟩,fun⟨c,a,b,d⟩=>⟨c,a,b,d h⟩⟩
 ·rename_i h
  rw[decide_eq_true_eq,Zcm hlo]
  exact⟨fun⟨c,a,b⟩=>⟨c,a,b,fun e=>absurd e h⟩,fun⟨c,a,b,_⟩=>⟨c,a,b⟩⟩
theorem ZdH {p:List HArc} {must least u:Int} {c:List HArc} (h:okW p least u c u) (hc:c≠[]):∃v c',c'≠[]∧okW p v v c' v∧c'.length=c.length∧Zj must c'=Zj must c∧v≤u∧∀b∈c,v≤b.f:=by
 obtain⟨a,ha,hmin⟩:=ZdW hc
 have hu:a.f≤u:=by
  cases c with
  |nil=>exact absurd rfl hc
  |cons b l=>rw[←h.2.1];exact hmin b List.mem_cons_self
 obtain⟨l1,l2,e,h1,h2⟩:=Zgl h ha
 subst e
 refine⟨a.f,(a::l2)++l1,by simp,?_,by simp only[List.length_append,List.length_cons];omega,by rw[ZbB,ZbB,Bool.or_comm],hu,hmin⟩
 refine ZdR (ZbX h2 h1) fun b hb=>hmin b ?_
 rcases List.mem_append.1 hb with hb|hb
 ·exact List.mem_append_right _ hb
 ·exact List.mem_append_left _ hb
theorem Ziy:∀{l m:List Int},l.Pairwise (·≠·)→(∀x∈l,x∈m)→l.length≤m.length
 |[],m,_,_=>by simp
 |a::l,m,h,hm=>by
  rw[List.pairwise_cons]at h
  have ha:=hm a List.mem_cons_self
  have ih:=Ziy (l:=l) (m:=m.erase a) h.2 (fun x hx=>(List.mem_erase_of_ne (fun e=>h.1 x hx e.symm)).2 (hm x (List.mem_cons_of_mem _ hx)))
  rw[List.length_erase_of_mem ha]at ih
  have:=List.length_pos_of_mem ha
  simp only[List.length_cons]
  omega
theorem ZlT {l:List Edge} {must lo:Int} {need:Bool} {ids:List Int} (hlo:∀e∈l,lo≤e.f) (hk:∀e∈l,1≤e.k∧e.k≤3) (hp:ids.Pairwise (·<·)) (most:Nat) (h:NoWay (l.map Edge.arc) must need):(Zdd (Zdy must need l) most ids (0,0)).1=0:=by
 have hF:=ZeI (hit:=Zdy must need l) (most:=most) ids [] (0,0) hp (.inl ⟨rfl,fun x hx=>by cases hx⟩)
 rw[List.nil_append]at hF
 rcases hF with h1|⟨h1,h2,h3,h4,h5⟩
 ·exact h1.1
 ·exfalso
  obtain⟨c,c1,c2,c3⟩:=(Zgz hlo hk need _ _).1 h4
  have hc:c≠[]:=fun e=>by rw[e]at c2;simp at c2;omega
  obtain⟨v,c',k1,k2,k3,k4,_⟩:=ZdH (must:=must) c1 hc
  exact h v c' k1 k2 (fun e=>by rw[k4];exact c3 e)
theorem ZkJ {l:List Edge} {must lo:Int} {need:Bool} {ids:List Int} (hs:l.Pairwise fun a b=>ltE a b=true) (hlo:∀e∈l,lo≤e.f) (hk:∀e∈l,1≤e.k∧e.k≤3) (hp:ids.Pairwise (·<·)) (hids:∀e∈l,e.f∈ids)
  {most:Nat} (hmost:ids.length≤most) {v:Int} {c:List HArc} (h:Short (l.map Edge.arc) must need v c):
  Zdd (Zdy must need l) most ids (0,0)=(c.length,v)∧(Za1 must l (ZY must l v) c.length v need).map Edge.arc=c:=by
 have hmem:∀a∈c,a.f∈ids:=fun a ha=>by
  obtain⟨e,he,rfl⟩:=List.mem_map.1 (ZaP h.w a ha)
  exact hids e he
 have hlv:lo≤v:=by
  have hw:=h.w
  cases c with
  |nil=>exact absurd rfl h.ne
  |cons a c=>
   obtain⟨e,he,e2⟩:=List.mem_map.1 hw.1
   rw[←hw.2.1,←e2]
   exact hlo e he
 have hvi:v∈ids:=by
  have hw:=h.w
  cases hc:c with
  |nil=>exact absurd hc h.ne
  |cons a d=>
   rw[hc]at hw
   rw[←hw.2.1]
   exact hmem a (by rw[hc];exact List.mem_cons_self)
 have hcl:c.length≤ids.length:=by
  have:=Ziy (l:=c.map HArc.f) (m:=ids) (List.pairwise_map.2 h.simple) (fun x hx=>by
   obtain⟨a,ha,rfl⟩:=List.mem_map.1 hx
   exact hmem a ha)
  rwa [List.length_map]at this
 have hc1:1≤c.length:=by
  cases hc:c with
  |nil=>exact absurd hc h.ne
  |cons a d=>simp
 have hwlo:okW (l.map Edge.arc) lo v c v:=Zdw (fun _=>id) hlv h.w
 have hhit:Zdy must need l v c.length=true:=(Zgz hlo hk need v c.length).2 ⟨c,hwlo,rfl,h.m⟩
 have hF:=ZeI (hit:=Zdy must need l) (most:=most) ids [] (0,0) hp (.inl ⟨rfl,fun x hx=>by cases hx⟩)
 rw[List.nil_append]at hF
 constructor
 ·rcases hF with ⟨h1,h2⟩|⟨h1,h2,h3,h4,h5⟩
  ·rw[h2 v hvi c.length hc1 (by omega)]at hhit
   cases hhit
  ·have h6:=h5 v hvi c.length hc1 (by omega) hhit
   obtain⟨d,d1,d2,d3⟩:=(Zgz hlo hk need _ _).1 h4
   have hd:d≠[]:=fun e=>by rw[e]at d2;simp at d2;omega
   obtain⟨u,c',k1,k2,k3,k4,k5,_⟩:=ZdH (must:=must) d1 hd
   have h7:=h.le u c' k1 k2 (fun e=>by rw[k4];exact d3 e)
   have h8:c.length=(Zdd (Zdy must need l) most ids (0,0)).1:=by omega
   have h9:=(h7.2 (by omega)).1
   have h10:¬v<(Zdd (Zdy must need l) most ids (0,0)).2:=fun e=>by have:=h6.2 e;omega
   have h11:v=(Zdd (Zdy must need l) most ids (0,0)).2:=by omega
   rw[h8,h11]
 ·obtain⟨r1,r2,r3,r4⟩:=Zf6 hs hlo hk v c.length v need ⟨c,hwlo,rfl,h.m⟩
  obtain⟨r,hr⟩:∃r,(Za1 must l (ZY must l v) c.length v need).map Edge.arc=r:=⟨_,rfl⟩
  rw[hr]at r1 r3 r4 ⊢
  have hrl:r.length=c.length:=by rw[←hr,List.length_map];exact r2
  have hrn:r≠[]:=fun e=>by rw[e]at hrl;simp at hrl;omega
  obtain⟨u,c',k1,k2,k3,k4,k5,k6⟩:=ZdH (must:=must) r1 hrn
  have h7:=h.le u c' k1 k2 (fun e=>by rw[k4];exact r3 e)
  have h9:=(h7.2 (by omega)).1
  have hrv:okW (l.map Edge.arc) v v r v:=ZdR r1 (fun b hb=>Int.le_trans h9 (k6 b hb))
  have h12:=((h.le v r hrn hrv r3).2 hrl.symm).2 rfl
  rcases h12 with e|e
  ·exact e
  ·rcases r4 c hwlo rfl h.m with e2|e2
   ·exact e2.symm
   ·exact(Zgr e e2).elim
end Go.Proofs.YtklmahmfmbppkaaGreat
/- Phenomena,plain:who is reached by edges,as the document seeks it. -/
namespace Go.Proofs.YtklmahmfmbppkaaGreat
set_option linter.unusedSimpArgs false
set_option linter.unusedVariables false
inductive RchE (l:List Edge):Int→Int→Prop
 |refl (a:Int):RchE l a a
 |step {a b:Int} {e:Edge}:RchE l a b→e∈l→e.f=b→RchE l a e.t
theorem RchE.trans {l:List Edge} {a b c:Int} (h:RchE l a b) (k:RchE l b c):RchE l a c:=by
 induction k with
 |refl=>exact h
 |step _ h2 h3 ih=>exact ih.step h2 h3
def Zbn:List Int→List Edge→List Int
 |out,[]=>out
 |out,e::m=>Zbn (if e.f∈out∧e.t∉out then out++[e.t] else out) m
def itE (l:List Edge):Nat→List Int→List Int
 |0,out=>out
 |n+1,out=>itE l n (Zbn out l)
def Zdu (l:List Edge) (a:Int):List Int:=itE l (l.length+1) [a]
theorem ZjE:∀(l:List Edge) (out:List Int),∀x∈out,x∈Zbn out l
 |[],_,_,h=>h
 |e::l,out,x,h=>by
  unfold Zbn
  apply ZjE
  split
  ·exact List.mem_append_left _ h
  ·exact h
theorem Zgg:∀(l:List Edge) (out:List Int),out.length≤(Zbn out l).length∧((Zbn out l).length=out.length→Zbn out l=out∧∀e∈l,e.f∈out→e.t∈out)
 |[],out=>⟨Nat.le_refl _,fun _=>⟨rfl,by simp⟩⟩
 |e::l,out=>by
  unfold Zbn
  split
  ·rename_i h
   have h1:=(Zgg l (out++[e.t])).1
   rw[List.length_append,List.length_singleton]at h1
   exact⟨by omega,fun e=>by omega⟩
  ·rename_i h
   obtain⟨h1,h2⟩:=Zgg l out
   refine⟨h1,fun e=>⟨(h2 e).1,fun b hb=> ?_⟩⟩
   rcases List.mem_cons.1 hb with rfl|hb
   ·intro hf;exact Classical.byContradiction fun ht=>h ⟨hf,ht⟩
   ·exact(h2 e).2 b hb
theorem ZgY:∀(l:List Edge) (out:List Int),out.Nodup→(Zbn out l).Nodup
 |[],_,h=>h
 |e::l,out,h=>by
  unfold Zbn
  apply ZgY
  split
  ·rename_i hc
   exact List.nodup_append.2 ⟨h,by simp,fun x hx y hy=>by rw[List.mem_singleton.1 hy];exact fun e'=>hc.2 (e'▸hx)⟩
  ·exact h
theorem ZjF (q:List Edge) (P:Int→Prop) (h1:∀e∈q,P e.f→P e.t):∀(l:List Edge) (out:List Int),(∀e∈l,e∈q)→(∀x∈out,P x)→∀x∈Zbn out l,P x
 |[],_,_,h=>h
 |e::l,out,hl,h=>by
  unfold Zbn
  refine ZjF q P h1 l _ (fun b hb=>hl b (List.mem_cons_of_mem _ hb)) ?_
  split
  ·rename_i hc
   intro x hx
   rcases List.mem_append.1 hx with hx|hx
   ·exact h x hx
   ·rw[List.mem_singleton.1 hx];exact h1 e (hl e (List.mem_cons_self ..)) (h _ hc.1)
  ·exact h
theorem Zlj (l:List Edge):∀(n:Nat) (out:List Int),itE l (n+1) out=Zbn (itE l n out) l
 |0,_=>rfl
 |n+1,out=>by
  show itE l (n+1) (Zbn out l)=Zbn (itE l n (Zbn out l)) l
  exact Zlj l n _
theorem Zh5 (l:List Edge) (P:Int→Prop) (h1:∀e∈l,P e.f→P e.t):∀(n:Nat) (out:List Int),(∀x∈out,P x)→∀x∈itE l n out,P x
 |0,_,h=>h
 |n+1,out,h=>Zh5 l P h1 n _ (ZjF l P h1 l out (fun _ h=>h) h)
theorem ZiO (l:List Edge):∀(n:Nat) (out:List Int),out.Nodup→(itE l n out).Nodup
 |0,_,h=>h
 |n+1,out,h=>ZiO l n _ (ZgY l out h)
theorem Zli (l:List Edge):∀(n:Nat) (out:List Int),∀x∈out,x∈itE l n out
 |0,_,_,h=>h
 |n+1,out,x,h=>Zli l n _ x (ZjE l out x h)
def Zih (l:List Edge) (out:List Int):Prop:=∀e∈l,e.f∈out→e.t∈out
theorem Zf0 {q:List Edge} {out:List Int} (h:Zih q out):∀l:List Edge,(∀e∈l,e∈q)→Zbn out l=out
 |[],_=>rfl
 |e::l,hl=>by
  unfold Zbn
  rw[if_neg fun hc=>hc.2 (h e (hl e (List.mem_cons_self ..)) hc.1)]
  exact Zf0 h l fun b hb=>hl b (List.mem_cons_of_mem _ hb)
theorem Znt (l:List Edge) (out:List Int):∀n,Zih l (itE l n out)∨out.length+n≤(itE l n out).length
 |0=>Or.inr (Nat.le_refl _)
 |n+1=>by
  rw[Zlj]
  rcases Znt l out n with h|h
  ·left;rw[Zf0 h l fun _ h=>h];exact h
  ·obtain⟨h1,h2⟩:=Zgg l (itE l n out)
   by_cases e:(Zbn (itE l n out) l).length=(itE l n out).length
   ·left;rw[(h2 e).1];exact(h2 e).2
   ·right;omega
theorem Zjb (l:List Edge) (a:Int):Zih l (Zdu l a):=by
 unfold Zdu
 rcases Znt l [a] (l.length+1)with h|h
 ·exact h
 ·exfalso
  have h1:=Zc3 (itE l (l.length+1) [a]) (a::l.map (·.t)) (ZiO l _ _ (by simp)) (Zh5 l (fun x=>x∈a::l.map (·.t)) (fun e he _=>List.mem_cons_of_mem _ (List.mem_map.2 ⟨e,he,rfl⟩)) _ _ (fun x hx=>by rw[List.mem_singleton.1 hx];exact List.mem_cons_self ..))
  rw[List.length_cons,List.length_map]at h1
  rw[List.length_singleton]at h
  omega
theorem mem_reachE {l:List Edge} {a x:Int}:x∈Zdu l a↔RchE l a x:=by
 constructor
 ·exact Zh5 l (fun x=>RchE l a x) (fun e he h=>h.step he rfl) _ _ (fun x hx=>by rw[List.mem_singleton.1 hx];exact RchE.refl a) x
 ·intro h
  induction h with
  |refl=>exact Zli l _ _ a (by simp)
  |step _ h2 h3 ih=>exact Zjb l a _ h2 (h3▸ih)
def Zaj (l:List Edge) (mask must:Int):Bool:=
 let q:=l.filter fun e=>Zs mask e.k
 let sp:=if (bits .and .i64 must 14==0)=true then q else q.filter fun e=>Zs must e.k
 sp.any fun e=>decide (e.f∈Zdu q e.t)
end Go.Proofs.YtklmahmfmbppkaaGreat
/- Phenomena,plain:the ids of edges are numbered,and the digraph of the numbers tells the same as the edges. -/
namespace Go.Proofs.YtklmahmfmbppkaaGreat
set_option linter.unusedSimpArgs false
set_option linter.unusedVariables false
def ZO (ids:List Int) (x:Int):List Int:=if x∈ids then ids else ids++[x]
def Zbh (ids:List Int) (e:Edge):HArc:=⟨(Zo ids e.f:Int),(Zo ids e.t:Int),e.k,0⟩
def Zc2:List Int→List HArc→List Edge→List Int×List HArc
 |ids,ac,[]=>(ids,ac)
 |ids,ac,e::l=>Zc2 (ZO (ZO ids e.f) e.t) (ac++[⟨(Zo (ZO ids e.f) e.f:Int),(Zo (ZO (ZO ids e.f) e.t) e.t:Int),e.k,0⟩]) l
theorem numE_mem {ids:List Int} {x y:Int}:y∈ZO ids x↔y∈ids∨y=x:=by
 unfold ZO
 split
 ·rename_i h
  exact⟨Or.inl,fun h2=>h2.elim id (fun e=>e▸h)⟩
 ·rw[List.mem_append,List.mem_singleton]
theorem Zhc {ids:List Int} {x:Int} (h:ids.Nodup):(ZO ids x).Nodup:=by
 unfold ZO
 split
 ·exact h
 ·rename_i hx
  exact List.nodup_append.2 ⟨h,by simp,fun y hy z hz=>by rw[List.mem_singleton.1 hz];exact fun e=>hx (e▸hy)⟩
theorem ZeJ (ids:List Int) (x:Int):(ZO ids x).length≤ids.length+1:=by
 unfold ZO
 split
 ·omega
 ·simp
theorem ZcH {ids:List Int} {x:Int} (h:x∈ids):Zo ids x<ids.length:=by
 unfold Zo
 exact List.findIdx_lt_length_of_exists ⟨x,h,by simp⟩
theorem Zk4 {ids:List Int} {x:Int} (h:x∈ids):ids[Zo ids x]? =some x:=by
 have hl:=ZcH h
 rw[List.getElem?_eq_getElem hl]
 have:=List.findIdx_getElem (p:=(·==x)) (xs:=ids) (w:=hl)
 rw[beq_iff_eq]at this
 rw[show ids[Zo ids x]=x from this]
theorem ZjL {ids:List Int} {x y:Int} (hx:x∈ids) (hy:y∈ids) (e:Zo ids x=Zo ids y):x=y:=by
 have h1:=Zk4 hx
 rw[e,Zk4 hy]at h1
 exact(Option.some.inj h1).symm
theorem Zox {ids:List Int} {x:Int} (h:x∈ids) (l:List Int):Zo (ids++l) x=Zo ids x:=by
 unfold Zo
 rw[List.findIdx_append,if_pos (List.findIdx_lt_length_of_exists ⟨x,h,by simp⟩)]
theorem Zgj {ids:List Int} {x y:Int} (h:x∈ids):Zo (ZO ids y) x=Zo ids x:=by
 unfold ZO
 split
 ·rfl
 ·exact Zox h _
theorem Zow {ids:List Int} {x:Int} (h:x∉ids):Zo (ids++[x]) x=ids.length:=by
 unfold Zo
 rw[List.findIdx_append]
 have:¬List.findIdx (fun y=>y==x) ids<ids.length:=fun hl=>h (by
  have:=List.findIdx_getElem (p:=(·==x)) (xs:=ids) (w:=hl)
  rw[beq_iff_eq]at this
  rw[←this];exact List.getElem_mem _)
 rw[if_neg this]
 simp
structure NumOk (ids:List Int) (ac:List HArc) (D:List Edge):Prop where
 nd:ids.Nodup
 arcs:ac=D.map (Zbh ids)
 has:∀e∈D,e.f∈ids∧e.t∈ids
 len:ids.length≤2*D.length
theorem Zk8:∀(l D:List Edge) (ids:List Int) (ac:List HArc),NumOk ids ac D→NumOk (Zc2 ids ac l).1 (Zc2 ids ac l).2 (D++l)
 |[],D,ids,ac,h=>by rw[List.append_nil];exact h
 |e::l,D,ids,ac,h=>by
  have hf:e.f∈ZO ids e.f:=numE_mem.2 (Or.inr rfl)
  have ht:e.t∈ZO (ZO ids e.f) e.t:=numE_mem.2 (Or.inr rfl)
  have hf2:e.f∈ZO (ZO ids e.f) e.t:=numE_mem.2 (Or.inl hf)
  have hk:∀x,x∈ids→x∈ZO (ZO ids e.f) e.t:=fun x hx=>numE_mem.2 (Or.inl (numE_mem.2 (Or.inl hx)))
  have hp:∀x,x∈ids→Zo (ZO (ZO ids e.f) e.t) x=Zo ids x:=fun x hx=>by rw[Zgj (numE_mem.2 (Or.inl hx)),Zgj hx]
  have:=Zk8 l (D++[e]) (ZO (ZO ids e.f) e.t) (ac++[⟨(Zo (ZO ids e.f) e.f:Int),(Zo (ZO (ZO ids e.f) e.t) e.t:Int),e.k,0⟩]) ⟨Zhc (Zhc h.nd),?_,?_,?_⟩
  ·rw[List.append_assoc]at this;exact this
  ·rw[List.map_append,h.arcs]
   congr 1
   ·refine List.map_congr_left fun b hb=> ?_
    obtain⟨h1,h2⟩:=h.has b hb
    unfold Zbh
    rw[hp _ h1,hp _ h2]
   ·show[_]=[Zbh _ e]
    unfold Zbh
    rw[Zgj (y:=e.t) hf]
  ·intro b hb
   rcases List.mem_append.1 hb with hb|hb
   ·exact⟨hk _ (h.has b hb).1,hk _ (h.has b hb).2⟩
   ·rw[List.mem_singleton.1 hb];exact⟨hf2,ht⟩
  ·have h1:=ZeJ ids e.f
   have h2:=ZeJ (ZO ids e.f) e.t
   have:=h.len
   rw[List.length_append,List.length_singleton];omega
theorem ZoO {N:Nat} {q:List HArc} {a b:HArc}:b∈ZbE N q a↔b∈q∨(b=a∧Zi N a=true):=by
 unfold ZbE
 split
 ·rename_i hr
  split
  ·rename_i hm
   exact⟨Or.inl,fun h=>h.elim id (fun e=>e.1▸hm)⟩
  ·rw[Za4]
   exact⟨fun h=>h.elim (fun e=>Or.inr ⟨e,hr⟩) Or.inl,fun h=>h.elim Or.inr (fun e=>Or.inl e.1)⟩
 ·rename_i hr
  exact⟨Or.inl,fun h=>h.elim id (fun e=>absurd e.2 hr)⟩
theorem ZiF {N:Nat} {b:HArc}:∀(l q:List HArc),b∈Zdg N q l↔b∈q∨(b∈l∧Zi N b=true)
 |[],q=>by simp[Zdg]
 |a::l,q=>by
  rw[Zhm,ZiF l,ZoO]
  constructor
  ·rintro((h|⟨rfl,h⟩)|⟨h,k⟩)
   ·exact Or.inl h
   ·exact Or.inr ⟨List.mem_cons_self ..,h⟩
   ·exact Or.inr ⟨List.mem_cons_of_mem _ h,k⟩
  ·rintro(h|⟨h,k⟩)
   ·exact Or.inl (Or.inl h)
   ·rcases List.mem_cons.1 h with rfl|h
    ·exact Or.inl (Or.inr ⟨rfl,k⟩)
    ·exact Or.inr ⟨h,k⟩
section
variable {ids:List Int} {ac:List HArc} {D:List Edge} {q:List HArc} {N:Nat}
def ZhP (ids:List Int) (D:List Edge) (q:List HArc):Prop:=∀a,a∈q↔∃e∈D,Zbh ids e=a
theorem Zk2 (h:NumOk ids ac D) (hq:ZbI N q) (hm:ZhP ids D q) {x y:Int} (hx:x∈ids) (k:RchE D x y):y∈ids∧Rch (nxN q) (Zo ids x) (Zo ids y):=by
 induction k with
 |refl=>exact⟨hx,Rch.refl _⟩
 |step h1 h2 h3 ih=>
  rename_i b e
  refine⟨(h.has e h2).2,ih.2.step ((ZcL hq).2 ⟨Zbh ids e,(hm _).2 ⟨e,h2,rfl⟩,?_,rfl⟩)⟩
  rw[←h3];rfl
theorem Zqc (h:NumOk ids ac D) (hq:ZbI N q) (hm:ZhP ids D q) {x:Int} {i j:Nat} (hx:x∈ids) (hi:i=Zo ids x) (k:Rch (nxN q) i j):∃y∈ids,j=Zo ids y∧RchE D x y:=by
 induction k with
 |refl=>exact⟨x,hx,hi,RchE.refl x⟩
 |step h1 h2 ih=>
  obtain⟨y,hy,e1,hr⟩:=ih
  obtain⟨a,ha,h3,h4⟩:=(ZcL hq).1 h2
  obtain⟨e,he,rfl⟩:=(hm a).1 ha
  have h5:Zo ids e.f=Zo ids y:=by
   have:((Zo ids e.f:Nat):Int)=_:=h3
   omega
  have h6:=ZjL (h.has e he).1 hy h5
  refine⟨e.t,(h.has e he).2,?_,hr.step he h6⟩
  have:((Zo ids e.t:Nat):Int)=_:=h4
  omega
theorem ZoS (h:NumOk ids ac D) (hq:ZbI N q) (hm:ZhP ids D q) {e:Edge} (he:e∈D):Zbq q (Zo ids e.f)=Zbq q (Zo ids e.t)↔RchE D e.t e.f:=by
 rw[Znm hq]
 have hf:=(h.has e he).1
 have ht:=(h.has e he).2
 constructor
 ·rintro⟨_,h2⟩
  obtain⟨y,hy,e1,hr⟩:=Zqc h hq hm ht rfl h2
  rwa [ZjL hf hy e1]
 ·intro hr
  exact⟨(Zk2 h hq hm hf ((RchE.refl e.f).step he rfl)).2,(Zk2 h hq hm ht hr).2⟩
end
end Go.Proofs.YtklmahmfmbppkaaGreat
/- Closed walks,the document's:edges put among others,and those of a mask. -/
namespace Go.Proofs.YtklmahmfmbppkaaGreat
set_option linter.unusedSimpArgs false
set_option linter.unusedVariables false
open Go.RowKit
def ZB (l:List Edge):List Value:=(l.map Edge.cells).flatten
theorem Za2 (l:List Edge):(ZB l).length=l.length*4:=by
 unfold ZB
 induction l with
 |nil=>rfl
 |cons a l ih=>simp only[List.map_cons,List.flatten_cons,List.length_append,List.length_cons,ih];simp[Edge.cells];omega
def ZrC (w:World) (l:List Edge) (e:Ending) (w':World):Prop:=∃A c,e= .returned (.slice A l.length c)∧w'.ownsRow w.heap.size 61 4 (.slice A l.length c) l.length (ZB l)∧Upd No w w'
def ZeG (a:Edge):List Edge→List Edge
 |[]=>[a]
 |x::l=>if ltE x a=true then x::ZeG a l else a::(x::l).filter (fun y=> !(y==a))
theorem Zo6 {p:Edge→Bool} {l:List Edge} {k:Nat} {x:Edge} (hk:k<l.length) (hx:l[k]=x) (hr:p x=false):(l.take (k+1)).filter p=(l.take k).filter p:=by
 subst hx
 rw[List.take_succ_eq_append_getElem hk,List.filter_append,List.filter_cons_of_neg (by rw[hr];decide)]
 simp
theorem ZnC {p:Edge→Bool} {l:List Edge} {k:Nat} {x:Edge} (hk:k<l.length) (hx:l[k]=x) (hr:p x=true):(l.take (k+1)).filter p=(l.take k).filter p++[x]:=by
 subst hx
 rw[List.take_succ_eq_append_getElem hk,List.filter_append,List.filter_cons_of_pos (by rw[hr])]
 rfl
theorem Zfu (a:Edge):∀l:List Edge,(ZeG a l).map Edge.arc=Zb1 a.arc (l.map Edge.arc)
 |[]=>rfl
 |x::l=>by
  have hf:∀m:List Edge,(m.filter fun y=> !(y==a)).map Edge.arc=(m.map Edge.arc).filter fun y=> !(y==a.arc):=by
   intro m
   induction m with
   |nil=>rfl
   |cons y m ih=>
    have hb:(y==a)=(y.arc==a.arc):=by
     rw[Bool.eq_iff_iff,beq_iff_eq,beq_iff_eq]
     exact⟨fun e=>by rw[e],fun e=>by rw[←Ze1 y,←Ze1 a,e]⟩
    rw[List.map_cons,List.filter_cons,List.filter_cons,hb]
    split
    ·rw[List.map_cons,ih]
    ·exact ih
  show(if ltE x a=true then x::ZeG a l else a::(x::l).filter (fun y=> !(y==a))).map Edge.arc=(if ZaK x.arc a.arc=true then x.arc::Zb1 a.arc (l.map Edge.arc) else a.arc::((x::l).map Edge.arc).filter (fun y=> !(y==a.arc)))
  rw[ZeN]
  split
  ·rw[List.map_cons,Zfu a l]
  ·rw[List.map_cons,hf]
end Go.Proofs.YtklmahmfmbppkaaGreat
/- Closed walks:which edges do not count. -/
namespace Go.Proofs.YtklmahmfmbppkaaGreat
set_option linter.unusedSimpArgs false
set_option linter.unusedVariables false
open Go.RowKit
def ZaF (mask:Int) (e:Edge):Bool:=decide (e.k<1)||(decide (3<e.k)|| !Zm mask e.k)
set_option maxRecDepth 100000 in
set_option maxHeartbeats 4000000 in
theorem ZpK (w:World) (p:Addr) (mask:Int) (hp:w.cell? p=some (.int .i64 mask)) (e:Edge):
  Calls Tryz.prog 61 #[.agg e.cells.toArray,.pointer (some p)] w fun x w'=>x= .returned (.bool (ZaF mask e))∧Upd No w w':=by
 obtain⟨ef,et,ek,ey⟩:=e
 have u0:=(Upd.refl No w).alloc (.cells #[.int .i64 ef,.int .i64 et,.int .i64 ek,.int .i64 ey] 61)
 have hp1:=u0.keepNo hp
 have U0:=Lib.hid u0
 unfold Edge.cells
 clear u0
 by_cases h1:ek<1
 ·have hv:Hid (ZaF mask ⟨ef,et,ek,ey⟩=true):=Lib.hid (by unfold ZaF;rw[decide_eq_true h1];rfl)
  have d1:decide (ek<1)=true:=decide_eq_true h1
  go_enter Tryz.func61,Tryz.ntmps61
  go_wp2
  go_ret
  exact⟨by rw[hv.out];rfl,U0.out⟩
 ·have d1:decide (ek<1)=false:=decide_eq_false h1
  by_cases h2:3<ek
  ·have hv:Hid (ZaF mask ⟨ef,et,ek,ey⟩=true):=Lib.hid (by unfold ZaF;rw[d1,decide_eq_true h2];rfl)
   have d2:decide (3<ek)=true:=decide_eq_true h2
   go_enter Tryz.func61,Tryz.ntmps61
   go_wp2
   go_ret
   exact⟨by rw[hv.out];rfl,U0.out⟩
  ·have hk:ek=1∨ek=2∨ek=3:=by omega
   clear d1 h1 h2
   rcases hk with rfl|rfl|rfl
   ·have hv:Hid (ZaF mask ⟨ef,et,1,ey⟩=(bits .and .i64 (mask/2) 1==0)):=Lib.hid (by rw[Zci];rfl)
    go_enter Tryz.func61,Tryz.ntmps61
    go_wp2
    go_ret
    exact⟨by rw[hv.out];rfl,U0.out⟩
   ·have hv:Hid (ZaF mask ⟨ef,et,2,ey⟩=(bits .and .i64 (mask/4) 1==0)):=Lib.hid (by rw[Zci];rfl)
    go_enter Tryz.func61,Tryz.ntmps61
    go_wp2
    go_ret
    exact⟨by rw[hv.out];rfl,U0.out⟩
   ·have hv:Hid (ZaF mask ⟨ef,et,3,ey⟩=(bits .and .i64 (mask/8) 1==0)):=Lib.hid (by rw[Zci];rfl)
    go_enter Tryz.func61,Tryz.ntmps61
    go_wp2
    go_ret
    exact⟨by rw[hv.out];rfl,U0.out⟩
end Go.Proofs.YtklmahmfmbppkaaGreat
