/- Orders: the first order that goes along all edges, in plain words; what is kept while ids are taken one by one. -/
import Derived.Test.YtblplapkdmhikaaGreatDaaj
import Derived.Test.YtblplapkdmhikaaGreatDabf
namespace Go.Proofs.YtblplapkdmhikaaGreat
set_option linter.unusedVariables false
set_option linter.unusedSimpArgs false
section
open Go.RowKit
def ZjS (l:List Edge) (left:List Int) (x:Int):Bool:=l.all fun e=> !(decide (e.t=x)&&decide (e.f∈left))
def Zff (l:List Edge) (L:List Int) (x:Int):Nat:=(l.filter fun e=>decide (e.t=x)&&decide (e.f∈L)).length
theorem Zif (l:List Edge) (L:List Int) (x:Int):ZjS l L x=(Zff l L x==0):=by
 rw[Bool.eq_iff_iff];unfold ZjS Zff;simp only[List.all_eq_true,beq_iff_eq,List.length_eq_zero_iff,List.filter_eq_nil_iff]
 grind
structure TpI (l:List Edge) (ids L nx ys:List Int) (g:Int→Int):Prop where
 rise:L.Pairwise (·<·)
 sub:∀x∈L,x∈ids
 cnt:∀x∈ids,g x=1+((Zff l L x+nx.count x:Nat):Int)
 heap:ys.Perm (L.filter fun x=>Zff l L x+nx.count x==0)
 gone:∀x∈ids,x∉L→Zff l L x+nx.count x=0
 nxs:∀x∈nx,x∈ids
theorem TpI.mem {l:List Edge} {ids L nx ys:List Int} {g:Int→Int} (h:TpI l ids L nx ys g) (x:Int):x∈ys↔x∈L∧Zff l L x+nx.count x=0:=by
 rw[h.heap.mem_iff,List.mem_filter,beq_iff_eq]
theorem TpI.nodup {l:List Edge} {ids L nx ys:List Int} {g:Int→Int} (h:TpI l ids L nx ys g):ys.Nodup:=h.heap.nodup_iff.2 ((ZbP h.rise).filter _)
theorem TpI.step {l:List Edge} {ids L nx ys:List Int} {x:Int} {g:Int→Int} (h:TpI l ids L (x::nx) ys g):
  TpI l ids L nx (if g x-1=1 then ys++[x] else ys) (fun y=>if y=x then g x-1 else g y):=by
 have hx:=h.nxs x (List.mem_cons_self ..);have hgx:=h.cnt x hx;rw[List.count_cons_self]at hgx
 have hxL:x∈L:=Classical.byContradiction fun hn=>by
  have:=h.gone x hx hn;rw[List.count_cons_self]at this;omega
 have hco:∀y,y≠x→(x::nx).count y=nx.count y:=fun y hy=>List.count_cons_of_ne (Ne.symm hy)
 have hxn:x∉ys:=fun hm=>by
  have:=((h.mem x).1 hm).2;rw[List.count_cons_self]at this;omega
 refine⟨h.rise,h.sub,fun y hy=> ?_,?_,fun y hy hn=> ?_,fun y hy=>h.nxs y (List.mem_cons_of_mem _ hy)⟩
 ·by_cases e:y=x
  ·subst e;rw[if_pos rfl];omega
  ·rw[if_neg e,h.cnt y hy,hco y e]
 ·have hnd:(L.filter fun y=>Zff l L y+nx.count y==0).Nodup:=(ZbP h.rise).filter _
  split
  ·rename_i he
   refine(List.perm_ext_iff_of_nodup ?_ hnd).2 fun y=> ?_
   ·rw[List.nodup_append];exact⟨h.nodup,by simp,fun a ha b hb=>by rw[List.mem_singleton]at hb;subst hb;exact fun e=>hxn (e▸ha)⟩
   ·rw[List.mem_append,List.mem_singleton,h.mem,List.mem_filter,beq_iff_eq]
    by_cases e:y=x
    ·subst e
     constructor
     ·intro _;exact⟨hxL,by omega⟩
     ·intro _;exact Or.inr rfl
    ·rw[hco y e];simp[e]
  ·rename_i he
   refine(List.perm_ext_iff_of_nodup h.nodup hnd).2 fun y=> ?_
   rw[h.mem,List.mem_filter,beq_iff_eq]
   by_cases e:y=x
   ·subst e;rw[List.count_cons_self]
    constructor
    ·rintro⟨_,h2⟩;omega
    ·rintro⟨_,h2⟩;omega
   ·rw[hco y e]
 ·have:=h.gone y hy hn
  by_cases e:y=x
  ·subst e;exact absurd hxL hn
  ·rw[hco y e]at this;exact this
theorem ZjG {L:List Int} {p:Int→Bool} {m:Int} (hr:L.Pairwise (·<·)) (hm:m∈L) (hp:p m=true) (hl:∀y∈L,p y=true→m≤y):L.find? p=some m:=by
 cases hf:L.find? p with
 |none=>rw[List.find?_eq_none]at hf;exact absurd hp (hf m hm)
 |some x=>
  have hx:=List.find?_some hf;have hxm:=List.mem_of_find?_eq_some hf;have h1:=hl x hxm hx;rw[List.find?_eq_some_iff_append]at hf;obtain⟨_,l1,l2,rfl,hl1⟩:=hf;rcases List.mem_append.1 hm with h2|h2
  ·have:=hl1 m h2;rw[hp]at this;simp at this
  ·rcases List.mem_cons.1 h2 with rfl|h2
   ·rfl
   ·have:=(List.pairwise_cons.1 (List.pairwise_append.1 hr).2.1).1 m h2;omega
theorem TpI.find {l:List Edge} {ids L ys:List Int} {g:Int→Int} (h:TpI l ids L [] ys g) {m:Int} (hm:m∈ys) (hl:∀y∈ys,m≤y):L.find? (ZjS l L)=some m:=by
 have h1:=(h.mem m).1 hm;refine ZjG h.rise h1.1 (by rw[Zif];simpa using h1.2) fun y hy hp=>hl y ((h.mem y).2 ⟨hy,by rw[Zif]at hp;simpa using hp⟩)
end
/- Looking at a history:the exported functions,with their values named. -/
section
open Go.RowKit
section
variable {F G:Nat→Prop} {w:World} {txs:List HTx} {ords:List HOrd} {A B:Option Addr} {c d n1 n2:Nat}
end
theorem ZcC {w:World} {g size:Nat} {t:TypeId} {rows:List (List Value)} (hr:∀r∈rows,r.length=size) (h:Blk w g t rows.flatten):Recs (fun i=>i=g) w (some ⟨g,0,none⟩) size rows:=fun _=>by
 refine⟨_,rfl,rfl,h.lt,fun i row hi j v hj=> ?_⟩;have e1:(⟨g,0,none⟩:Addr).add (i*size+j)=⟨g,i*size+j,none⟩:=by unfold Addr.add;split<;>simp_all
 rw[e1,h.cell];exact ZcJ hr hi hj
theorem Ze6 {w:World} {g:Nat} {t:TypeId} {xs:List Int} (h:Blk w g t (xs.map (Value.int .i64))):Ints (fun i=>i=g) w (some ⟨g,0,none⟩) xs:=
 Ints.of_row h rfl fun j v hj=>by rw[List.getElem?_toArray,List.getElem?_map,hj];rfl
def Zdp (n:Nat):Hist:=
 ⟨[⟨1,true,[⟨true,1,0,0⟩,⟨false,2,0,0⟩],some ⟨n+1,0,none⟩,2⟩,⟨2,true,[⟨true,2,0,0⟩,⟨false,1,0,0⟩],some ⟨n+1+1,0,none⟩,2⟩],
  [⟨1,[2],some ⟨n+1+1+1+1,0,none⟩,1⟩,⟨2,[1],some ⟨n+1+1+1+1+1,0,none⟩,1⟩],some ⟨n+1+1+1,0,none⟩,2,some ⟨n+1+1+1+1+1+1,0,none⟩,2⟩
def e1:Edge:=⟨1,2,3,1⟩
def e2:Edge:=⟨2,1,3,2⟩
section
variable (n:Nat)
theorem a1:Zdk (Zdp n) 5 [e1,e2] ZfI=true:=by kernel_rfl
theorem a2:Zdk (Zdp n) 5 [e1,e2,e1,e2] ZfI=true:=by kernel_rfl
theorem a3:Zdk (Zdp n) 4 [e1,e2] ZfI=false:=by kernel_rfl
theorem a4:Zdk (Zdp n) 5 [e1] ZfI=false:=by kernel_rfl
theorem a5:Zdk (Zdp n) 5 [e1,e2] ⟨2,0,⟨1,5,1⟩⟩=false:=by kernel_rfl
theorem a9:(Za (Zdp n)&&ZmH (Zdp n) ⟨1,2,3,2⟩)=false:=by kernel_rfl
end
end
end Go.Proofs.YtblplapkdmhikaaGreat
