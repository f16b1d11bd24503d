/- Phenomena, plain: the ids of edges are numbered, and the digraph of the numbers tells the same as the edges. -/
import Derived.Test.YtklmahmfmbppkaaGreatProg
import Derived.Deep.RegionHeld3
import Derived.Test.YtklmahmfmbppkaaGreatMas
import Derived.Test.YtklmahmfmbppkaaGreatMbd
import Derived.Test.YtklmahmfmbppkaaGreatMbi
import Derived.Test.YtklmahmfmbppkaaGreatMbn
namespace Go.Proofs.YtklmahmfmbppkaaGreat
set_option linter.unusedSimpArgs false
set_option linter.unusedVariables false
def ZO (ids:List Int) (x:Int):List Int:=if x∈ids then ids else ids++[x]
def Zbh (ids:List Int) (e:Edge):HArc:=⟨(Zo ids e.f:Int),(Zo ids e.t:Int),e.k,0⟩
def Zc2:List Int→List HArc→List Edge→List Int×List HArc
 |ids,ac,[]=>(ids,ac)
 |ids,ac,e::l=>Zc2 (ZO (ZO ids e.f) e.t) (ac++[⟨(Zo (ZO ids e.f) e.f:Int),(Zo (ZO (ZO ids e.f) e.t) e.t:Int),e.k,0⟩]) l
theorem numE_mem {ids:List Int} {x y:Int}:y∈ZO ids x↔y∈ids∨y=x:=by
 unfold ZO
 split
 ·rename_i h
  exact⟨Or.inl,fun h2=>h2.elim id (fun e=>e▸h)⟩
 ·rw[List.mem_append,List.mem_singleton]
theorem Zhc {ids:List Int} {x:Int} (h:ids.Nodup):(ZO ids x).Nodup:=by
 unfold ZO
 split
 ·exact h
 ·rename_i hx
  exact List.nodup_append.2 ⟨h,by simp,fun y hy z hz=>by rw[List.mem_singleton.1 hz];exact fun e=>hx (e▸hy)⟩
theorem ZeJ (ids:List Int) (x:Int):(ZO ids x).length≤ids.length+1:=by
 unfold ZO
 split
 ·omega
 ·simp
theorem ZcH {ids:List Int} {x:Int} (h:x∈ids):Zo ids x<ids.length:=by
 unfold Zo
 exact List.findIdx_lt_length_of_exists ⟨x,h,by simp⟩
theorem Zk5 {ids:List Int} {x:Int} (h:x∈ids):ids[Zo ids x]? =some x:=by
 have hl:=ZcH h
 rw[List.getElem?_eq_getElem hl]
 have:=List.findIdx_getElem (p:=(·==x)) (xs:=ids) (w:=hl)
 rw[beq_iff_eq]at this
 rw[show ids[Zo ids x]=x from this]
theorem ZjL {ids:List Int} {x y:Int} (hx:x∈ids) (hy:y∈ids) (e:Zo ids x=Zo ids y):x=y:=by
 have h1:=Zk5 hx
 rw[e,Zk5 hy]at h1
 exact(Option.some.inj h1).symm
theorem Zoz {ids:List Int} {x:Int} (h:x∈ids) (l:List Int):Zo (ids++l) x=Zo ids x:=by
 unfold Zo
 rw[List.findIdx_append,if_pos (List.findIdx_lt_length_of_exists ⟨x,h,by simp⟩)]
theorem Zgj {ids:List Int} {x y:Int} (h:x∈ids):Zo (ZO ids y) x=Zo ids x:=by
 unfold ZO
 split
 ·rfl
 ·exact Zoz h _
theorem Zoy {ids:List Int} {x:Int} (h:x∉ids):Zo (ids++[x]) x=ids.length:=by
 unfold Zo
 rw[List.findIdx_append]
 have:¬List.findIdx (fun y=>y==x) ids<ids.length:=fun hl=>h (by
  have:=List.findIdx_getElem (p:=(·==x)) (xs:=ids) (w:=hl)
  rw[beq_iff_eq]at this
  rw[←this];exact List.getElem_mem _)
 rw[if_neg this]
 simp
structure NumOk (ids:List Int) (ac:List HArc) (D:List Edge):Prop where
 nd:ids.Nodup
 arcs:ac=D.map (Zbh ids)
 has:∀e∈D,e.f∈ids∧e.t∈ids
 len:ids.length≤2*D.length
theorem Zk9:∀(l D:List Edge) (ids:List Int) (ac:List HArc),NumOk ids ac D→NumOk (Zc2 ids ac l).1 (Zc2 ids ac l).2 (D++l)
 |[],D,ids,ac,h=>by rw[List.append_nil];exact h
 |e::l,D,ids,ac,h=>by
  have hf:e.f∈ZO ids e.f:=numE_mem.2 (Or.inr rfl)
  have ht:e.t∈ZO (ZO ids e.f) e.t:=numE_mem.2 (Or.inr rfl)
  have hf2:e.f∈ZO (ZO ids e.f) e.t:=numE_mem.2 (Or.inl hf)
  have hk:∀x,x∈ids→x∈ZO (ZO ids e.f) e.t:=fun x hx=>numE_mem.2 (Or.inl (numE_mem.2 (Or.inl hx)))
  have hp:∀x,x∈ids→Zo (ZO (ZO ids e.f) e.t) x=Zo ids x:=fun x hx=>by rw[Zgj (numE_mem.2 (Or.inl hx)),Zgj hx]
  have:=Zk9 l (D++[e]) (ZO (ZO ids e.f) e.t) (ac++[⟨(Zo (ZO ids e.f) e.f:Int),(Zo (ZO (ZO ids e.f) e.t) e.t:Int),e.k,0⟩]) ⟨Zhc (Zhc h.nd),?_,?_,?_⟩
  ·rw[List.append_assoc]at this;exact this
  ·rw[List.map_append,h.arcs]
   congr 1
   ·refine List.map_congr_left fun b hb=> ?_
    obtain⟨h1,h2⟩:=h.has b hb
    unfold Zbh
    rw[hp _ h1,hp _ h2]
   ·show[_]=[Zbh _ e]
    unfold Zbh
    rw[Zgj (y:=e.t) hf]
  ·intro b hb
   rcases List.mem_append.1 hb with hb|hb
   ·exact⟨hk _ (h.has b hb).1,hk _ (h.has b hb).2⟩
   ·rw[List.mem_singleton.1 hb];exact⟨hf2,ht⟩
  ·have h1:=ZeJ ids e.f
   have h2:=ZeJ (ZO ids e.f) e.t
   have:=h.len
   rw[List.length_append,List.length_singleton];omega
theorem ZoQ {N:Nat} {q:List HArc} {a b:HArc}:b∈ZbE N q a↔b∈q∨(b=a∧Zi N a=true):=by
 unfold ZbE
 split
 ·rename_i hr
  split
  ·rename_i hm
   exact⟨Or.inl,fun h=>h.elim id (fun e=>e.1▸hm)⟩
  ·rw[Za4]
   exact⟨fun h=>h.elim (fun e=>Or.inr ⟨e,hr⟩) Or.inl,fun h=>h.elim Or.inr (fun e=>Or.inl e.1)⟩
 ·rename_i hr
  exact⟨Or.inl,fun h=>h.elim id (fun e=>absurd e.2 hr)⟩
theorem ZiF {N:Nat} {b:HArc}:∀(l q:List HArc),b∈Zdg N q l↔b∈q∨(b∈l∧Zi N b=true)
 |[],q=>by simp[Zdg]
 |a::l,q=>by
  rw[Zhm,ZiF l,ZoQ]
  constructor
  ·rintro((h|⟨rfl,h⟩)|⟨h,k⟩)
   ·exact Or.inl h
   ·exact Or.inr ⟨List.mem_cons_self ..,h⟩
   ·exact Or.inr ⟨List.mem_cons_of_mem _ h,k⟩
  ·rintro(h|⟨h,k⟩)
   ·exact Or.inl (Or.inl h)
   ·rcases List.mem_cons.1 h with rfl|h
    ·exact Or.inl (Or.inr ⟨rfl,k⟩)
    ·exact Or.inr ⟨h,k⟩
section
variable {ids:List Int} {ac:List HArc} {D:List Edge} {q:List HArc} {N:Nat}
def ZhP (ids:List Int) (D:List Edge) (q:List HArc):Prop:=∀a,a∈q↔∃e∈D,Zbh ids e=a
theorem Zk3 (h:NumOk ids ac D) (hq:ZbI N q) (hm:ZhP ids D q) {x y:Int} (hx:x∈ids) (k:RchE D x y):y∈ids∧Rch (nxN q) (Zo ids x) (Zo ids y):=by
 induction k with
 |refl=>exact⟨hx,Rch.refl _⟩
 |step h1 h2 h3 ih=>
  rename_i b e
  refine⟨(h.has e h2).2,ih.2.step ((ZcL hq).2 ⟨Zbh ids e,(hm _).2 ⟨e,h2,rfl⟩,?_,rfl⟩)⟩
  rw[←h3];rfl
theorem Zqe (h:NumOk ids ac D) (hq:ZbI N q) (hm:ZhP ids D q) {x:Int} {i j:Nat} (hx:x∈ids) (hi:i=Zo ids x) (k:Rch (nxN q) i j):∃y∈ids,j=Zo ids y∧RchE D x y:=by
 induction k with
 |refl=>exact⟨x,hx,hi,RchE.refl x⟩
 |step h1 h2 ih=>
  obtain⟨y,hy,e1,hr⟩:=ih
  obtain⟨a,ha,h3,h4⟩:=(ZcL hq).1 h2
  obtain⟨e,he,rfl⟩:=(hm a).1 ha
  have h5:Zo ids e.f=Zo ids y:=by
   have:((Zo ids e.f:Nat):Int)=_:=h3
   omega
  have h6:=ZjL (h.has e he).1 hy h5
  refine⟨e.t,(h.has e he).2,?_,hr.step he h6⟩
  have:((Zo ids e.t:Nat):Int)=_:=h4
  omega
theorem ZoU (h:NumOk ids ac D) (hq:ZbI N q) (hm:ZhP ids D q) {e:Edge} (he:e∈D):Zbq q (Zo ids e.f)=Zbq q (Zo ids e.t)↔RchE D e.t e.f:=by
 rw[Zno hq]
 have hf:=(h.has e he).1
 have ht:=(h.has e he).2
 constructor
 ·rintro⟨_,h2⟩
  obtain⟨y,hy,e1,hr⟩:=Zqe h hq hm ht rfl h2
  rwa [ZjL hf hy e1]
 ·intro hr
  exact⟨(Zk3 h hq hm hf ((RchE.refl e.f).step he rfl)).2,(Zk3 h hq hm ht hr).2⟩
end
end Go.Proofs.YtklmahmfmbppkaaGreat
/- Closed walks,the document's:edges put among others,and those of a mask. -/
namespace Go.Proofs.YtklmahmfmbppkaaGreat
set_option linter.unusedSimpArgs false
set_option linter.unusedVariables false
open Go.RowKit
def ZB (l:List Edge):List Value:=(l.map Edge.cells).flatten
theorem Za2 (l:List Edge):(ZB l).length=l.length*4:=by
 unfold ZB
 induction l with
 |nil=>rfl
 |cons a l ih=>simp only[List.map_cons,List.flatten_cons,List.length_append,List.length_cons,ih];simp[Edge.cells];omega
def ZrE (w:World) (l:List Edge) (e:Ending) (w':World):Prop:=∃A c,e= .returned (.slice A l.length c)∧w'.ownsRow w.heap.size 61 4 (.slice A l.length c) l.length (ZB l)∧Upd No w w'
def ZeG (a:Edge):List Edge→List Edge
 |[]=>[a]
 |x::l=>if ltE x a=true then x::ZeG a l else a::(x::l).filter (fun y=> !(y==a))
theorem Zo8 {p:Edge→Bool} {l:List Edge} {k:Nat} {x:Edge} (hk:k<l.length) (hx:l[k]=x) (hr:p x=false):(l.take (k+1)).filter p=(l.take k).filter p:=by
 subst hx
 rw[List.take_succ_eq_append_getElem hk,List.filter_append,List.filter_cons_of_neg (by rw[hr];decide)]
 simp
theorem ZnE {p:Edge→Bool} {l:List Edge} {k:Nat} {x:Edge} (hk:k<l.length) (hx:l[k]=x) (hr:p x=true):(l.take (k+1)).filter p=(l.take k).filter p++[x]:=by
 subst hx
 rw[List.take_succ_eq_append_getElem hk,List.filter_append,List.filter_cons_of_pos (by rw[hr])]
 rfl
theorem Zfu (a:Edge):∀l:List Edge,(ZeG a l).map Edge.arc=Zb1 a.arc (l.map Edge.arc)
 |[]=>rfl
 |x::l=>by
  have hf:∀m:List Edge,(m.filter fun y=> !(y==a)).map Edge.arc=(m.map Edge.arc).filter fun y=> !(y==a.arc):=by
   intro m
   induction m with
   |nil=>rfl
   |cons y m ih=>
    have hb:(y==a)=(y.arc==a.arc):=by
     rw[Bool.eq_iff_iff,beq_iff_eq,beq_iff_eq]
     exact⟨fun e=>by rw[e],fun e=>by rw[←Ze1 y,←Ze1 a,e]⟩
    rw[List.map_cons,List.filter_cons,List.filter_cons,hb]
    split
    ·rw[List.map_cons,ih]
    ·exact ih
  show(if ltE x a=true then x::ZeG a l else a::(x::l).filter (fun y=> !(y==a))).map Edge.arc=(if ZaK x.arc a.arc=true then x.arc::Zb1 a.arc (l.map Edge.arc) else a.arc::((x::l).map Edge.arc).filter (fun y=> !(y==a.arc)))
  rw[ZeN]
  split
  ·rw[List.map_cons,Zfu a l]
  ·rw[List.map_cons,hf]
end Go.Proofs.YtklmahmfmbppkaaGreat
/- Closed walks:which edges do not count. -/
namespace Go.Proofs.YtklmahmfmbppkaaGreat
set_option linter.unusedSimpArgs false
set_option linter.unusedVariables false
open Go.RowKit
def ZaF (mask:Int) (e:Edge):Bool:=decide (e.k<1)||(decide (3<e.k)|| !Zm mask e.k)
set_option maxRecDepth 100000 in
set_option maxHeartbeats 4000000 in
theorem ZpM (w:World) (p:Addr) (mask:Int) (hp:w.cell? p=some (.int .i64 mask)) (e:Edge):
  Calls Tryz.prog 61 #[.agg e.cells.toArray,.pointer (some p)] w fun x w'=>x= .returned (.bool (ZaF mask e))∧Upd No w w':=by
 obtain⟨ef,et,ek,ey⟩:=e
 have u0:=(Upd.refl No w).alloc (.cells #[.int .i64 ef,.int .i64 et,.int .i64 ek,.int .i64 ey] 61)
 have hp1:=u0.keepNo hp
 have U0:=Lib.hid u0
 unfold Edge.cells
 clear u0
 by_cases h1:ek<1
 ·have hv:Hid (ZaF mask ⟨ef,et,ek,ey⟩=true):=Lib.hid (by unfold ZaF;rw[decide_eq_true h1];rfl)
  have d1:decide (ek<1)=true:=decide_eq_true h1
  go_enter Tryz.func61,Tryz.ntmps61
  go_wp2
  go_ret
  exact⟨by rw[hv.out];rfl,U0.out⟩
 ·have d1:decide (ek<1)=false:=decide_eq_false h1
  by_cases h2:3<ek
  ·have hv:Hid (ZaF mask ⟨ef,et,ek,ey⟩=true):=Lib.hid (by unfold ZaF;rw[d1,decide_eq_true h2];rfl)
   have d2:decide (3<ek)=true:=decide_eq_true h2
   go_enter Tryz.func61,Tryz.ntmps61
   go_wp2
   go_ret
   exact⟨by rw[hv.out];rfl,U0.out⟩
  ·have hk:ek=1∨ek=2∨ek=3:=by omega
   clear d1 h1 h2
   rcases hk with rfl|rfl|rfl
   ·have hv:Hid (ZaF mask ⟨ef,et,1,ey⟩=(bits .and .i64 (mask/2) 1==0)):=Lib.hid (by rw[Zci];rfl)
    go_enter Tryz.func61,Tryz.ntmps61
    go_wp2
    go_ret
    exact⟨by rw[hv.out];rfl,U0.out⟩
   ·have hv:Hid (ZaF mask ⟨ef,et,2,ey⟩=(bits .and .i64 (mask/4) 1==0)):=Lib.hid (by rw[Zci];rfl)
    go_enter Tryz.func61,Tryz.ntmps61
    go_wp2
    go_ret
    exact⟨by rw[hv.out];rfl,U0.out⟩
   ·have hv:Hid (ZaF mask ⟨ef,et,3,ey⟩=(bits .and .i64 (mask/8) 1==0)):=Lib.hid (by rw[Zci];rfl)
    go_enter Tryz.func61,Tryz.ntmps61
    go_wp2
    go_ret
    exact⟨by rw[hv.out];rfl,U0.out⟩
end Go.Proofs.YtklmahmfmbppkaaGreat
