/- A range over a map that the call itself made: the entries come in whatever order, each once. -/
import Derived.Maps.RangeRun
import Derived.Test.YtblplapkdmhikaaDxap
namespace Go.Proofs.Ytblplapkdmhikaa
set_option linter.unusedVariables false
set_option linter.unusedSimpArgs false
section
open Go.RowKit
def Iter {α:Type} (w:World) (r b:Nat) (enc:α→Value) (m left:List (α×Value)):Prop:=
 ∃es clock since c0 seen,w.heap[r]? =some (.mapIter (some b) since seen c0)∧w.heap[b]? =some (.map es clock)∧es.toList.map (fun e=>(e.key,e.val))=m.map (fun p=>(enc p.1,p.2))∧
  (∀x∈es.toList,x.born<since)∧since≤c0∧since≤clock∧(es.toList.map (·.born)).Nodup∧(leftOf es seen).toList.map (fun e=>(e.key,e.val))=left.map (fun p=>(enc p.1,p.2))
section
variable {α:Type} {P:Program} {w w':World} {r b:Nat} {enc:α→Value} {m left:List (α×Value)} {S:Nat→Prop} {t kt et:TypeId}
theorem Iter.upd (h:Iter w r b enc m left) (k:Upd S w w') (hr:¬S r) (hb:¬S b):Iter w' r b enc m left:=by
 obtain⟨es,clock,since,c0,seen,h1,h2,h3⟩:=h;exact⟨es,clock,since,c0,seen,(k.block r (Array.getElem?_eq_some_iff.1 h1).1 hr).trans h1,(k.block b (Array.getElem?_eq_some_iff.1 h2).1 hb).trans h2,h3⟩
theorem Iter.lt (h:Iter w r b enc m left):r<w.heap.size:=by
 obtain⟨es,clock,since,c0,seen,h1,_⟩:=h;exact(Array.getElem?_eq_some_iff.1 h1).1
theorem Zco (ht:P.underlying t=some (.map kt et)) (h:MapE w b enc m):
  ∃w',(Instr.range t (.map (some b))).run P w= .ok (.pointer (some ⟨w.heap.size,0,none⟩)) w'∧Iter w' w.heap.size b enc m m∧Upd No w w'∧w'.heap.size=w.heap.size+1:=by
 obtain⟨es,clock,hb,he,hbo,hnd⟩:=h;refine⟨_,run_range_map w t kt et b es clock ht hb,⟨es,clock,clock,clock,#[],heap_alloc_new w _,?_,he,hbo,Nat.le_refl _,Nat.le_refl _,hnd,?_⟩,(Upd.refl No w).alloc _,by simp⟩
 ·exact(Below.heap_alloc w _ b (Array.getElem?_eq_some_iff.1 hb).1).trans hb
 ·rw[←he];unfold leftOf;rw[Array.toList_filter]
  congr 1
  exact List.filter_eq_self.2 fun x _=>by simp
theorem ZeQ (es:Array MapEntry) (seen:Array Nat) (e:MapEntry):(leftOf es (seen.push e.born)).toList=(leftOf es seen).toList.filter fun x=> !(x.born==e.born):=by
 unfold leftOf;rw[Array.toList_filter,Array.toList_filter,List.filter_filter];refine List.filter_congr fun x _=> ?_
 rw[contains_push]
 cases seen.contains x.born<;>cases x.born==e.born<;>rfl
theorem Zel {l:List MapEntry} (hn:(l.map (·.born)).Nodup) {e:MapEntry} (he:e∈l):∃a b,l=a++e::b∧(l.filter fun x=> !(x.born==e.born))=a++b:=by
 obtain⟨a,b,rfl⟩:=List.append_of_mem he;refine⟨a,b,rfl,?_⟩;rw[List.map_append,List.map_cons,List.nodup_append,List.nodup_cons]at hn;have ha:∀x∈a,x.born≠e.born:=fun x hx=>hn.2.2 x.born (List.mem_map.2 ⟨x,hx,rfl⟩) e.born (by simp)
 have hb:∀x∈b,x.born≠e.born:=fun x hx h=>hn.2.1.1 (h▸List.mem_map.2 ⟨x,hx,rfl⟩)
 rw[List.filter_append,List.filter_cons_of_neg (by simp),List.filter_eq_self.2 (fun x hx=>by simpa using ha x hx),List.filter_eq_self.2 (fun x hx=>by simpa using hb x hx)]
theorem ZcV (h:Iter w r b enc m left):
  (left=[]∧∀ty,(Instr.next (.pointer (some ⟨r,0,none⟩)) false ty).run P w= .ok (.tuple #[.bool false]) w)∨
  ∃l1 p l2 w',left=l1++p::l2∧(∀ty,(Instr.next (.pointer (some ⟨r,0,none⟩)) false ty).run P w= .ok (.tuple #[.bool true,enc p.1,p.2]) w')∧Iter w' r b enc m (l1++l2)∧Upd (One r) w w'∧w'.heap.size=w.heap.size∧
   ∀W,Upd No w' W→(Instr.entry (.pointer (some ⟨r,0,none⟩))).run P W= .ok (.tuple #[enc p.1,p.2]) W:=by
 obtain⟨es,clock,since,c0,seen,h1,h2,h3,h4,h5,h5b,h6,h7⟩:=h;have hrl:=(Array.getElem?_eq_some_iff.1 h1).1;rcases run_next_at (P:=P) w 0 r b since c0 seen es clock h1 h2 h4 h5 with ⟨hz,hrun⟩|⟨e,he,w1,hw1,hrun⟩
 ·left
  refine⟨?_,fun _=>hrun⟩;have hl:=congrArg List.length h7;rw[List.length_map,List.length_map,Array.length_toList,hz]at hl;exact List.eq_nil_of_length_eq_zero hl.symm
 ·right
  have hsub:((leftOf es seen).toList.map (·.born)).Nodup:=by
   unfold leftOf;rw[Array.toList_filter];exact h6.sublist (List.filter_sublist.map _)
  obtain⟨a,c,hac,hfl⟩:=Zel hsub he;rw[hac,List.map_append,List.map_cons]at h7;obtain⟨l1,l2',rfl,ha,hl2⟩:=List.append_eq_map_iff.1 h7;obtain⟨p,l2,rfl,hp,hb2⟩:=List.map_eq_cons_iff.1 hl2;have hkey:e.key=enc p.1:=(congrArg Prod.fst hp).symm;have hval:e.val=p.2:=(congrArg Prod.snd hp).symm;have hrb:r≠b:=fun hh=>by rw[hh,h2]at h1;cases h1
  have hs1:w1.heap=w.heap:=by rcases hw1 with rfl|rfl<;>rfl
  have hu:Upd (One r) w (Go.ChangeMaps.setBlock w1 r (.mapIter (some b) since (seen.push e.born) clock)):=by
   have h8:Upd (One r) w w1:=by rcases hw1 with rfl|rfl;exact Upd.refl _ _;exact(Upd.refl _ _).drew
   exact h8.trans (ZE w1 r _)
  rw[hkey,hval]at hrun
  have g1:(Go.ChangeMaps.setBlock w1 r (.mapIter (some b) since (seen.push e.born) clock)).heap[r]? =some (.mapIter (some b) since (seen.push e.born) clock):=by
   show(w1.heap.setIfInBounds r _)[r]? =_
   rw[hs1];simp[hrl]
  have g2:(Go.ChangeMaps.setBlock w1 r (.mapIter (some b) since (seen.push e.born) clock)).heap[b]? =some (.map es clock):=by
   show(w1.heap.setIfInBounds r _)[b]? =_
   rw[hs1,Array.getElem?_setIfInBounds_ne hrb];exact h2
  have hee:e∈es.toList:=(mem_left he).1;refine⟨l1,p,l2,_,rfl,fun _=>hrun,⟨es,clock,since,clock,seen.push e.born,g1,g2,h3,h4,h5b,h5b,h6,?_⟩,hu,?_,fun W hW=> ?_⟩
  ·rw[ZeQ,hfl,List.map_append,List.map_append,ha,hb2]
  ·show(w1.heap.setIfInBounds r _).size=_
   rw[hs1];simp
  ·have k1:=(hW.block r (Array.getElem?_eq_some_iff.1 g1).1 id).trans g1;have k2:=(hW.block b (Array.getElem?_eq_some_iff.1 g2).1 id).trans g2;rw[run_entry_at W r b since seen es clock e k1 k2 hee h6,hkey,hval]
end
end
end Go.Proofs.Ytblplapkdmhikaa
