/- Maps that the calls themselves make: an entry that is looked for, or laid, and stored into (m[k]++). -/
import Derived.WideKeyEntry
import Derived.Test.YtblplapkdmhikaaDxaj
namespace Go.Proofs.Ytblplapkdmhikaa
set_option linter.unusedVariables false
set_option linter.unusedSimpArgs false
section
open Go.RowKit
def MapE {α:Type} (w:World) (b:Nat) (enc:α→Value) (m:List (α×Value)):Prop:=
 ∃es clock,w.heap[b]? =some (.map es clock)∧es.toList.map (fun e=>(e.key,e.val))=m.map (fun p=>(enc p.1,p.2))∧(∀x∈es.toList,x.born<clock)∧(es.toList.map (·.born)).Nodup
section
variable {α:Type} {P:Program} {w w':World} {b:Nat} {enc:α→Value} {m:List (α×Value)} {S:Nat→Prop} {t kt et:TypeId}
theorem MapE.is (h:MapE w b enc m):MapIs w b enc m:=by
 obtain⟨es,c,hb,he,_⟩:=h;exact⟨es,c,hb,he⟩
theorem MapE.lt (h:MapE w b enc m):b<w.heap.size:=h.is.lt
theorem MapE.upd (h:MapE w b enc m) (k:Upd S w w') (hn:¬S b):MapE w' b enc m:=by
 have hl:=h.lt;obtain⟨es,c,hb,he⟩:=h;exact⟨es,c,(k.block b hl hn).trans hb,he⟩
theorem MapE.new (w:World) (enc:α→Value):MapE (w.alloc (.map #[] 0)) w.heap.size enc ([]:List (α×Value)):=⟨#[],0,heap_alloc_new w _,rfl,by simp,by simp⟩
theorem ZbV {es:Array MapEntry} {clock:Nat} (h1:∀x∈es.toList,x.born<clock) (h2:(es.toList.map (·.born)).Nodup) (key val:Value):
  (∀x∈(es.push {key:=key,val:=val,born:=clock}).toList,x.born<clock+1)∧((es.push {key:=key,val:=val,born:=clock}).toList.map (·.born)).Nodup:=by
 rw[Array.toList_push]
 constructor
 ·intro x hx;rcases List.mem_append.1 hx with hx|hx
  ·have:=h1 x hx;omega
  ·simp only[List.mem_singleton]at hx;subst hx;simp
 ·rw[List.map_append,List.nodup_append];refine⟨h2,by simp,fun a ha c hc e1=> ?_⟩;simp only[List.map_cons,List.map_nil,List.mem_singleton]at hc;obtain⟨x,hx,rfl⟩:=List.mem_map.1 ha;have:=h1 x hx;omega
theorem ZdI {es:Array MapEntry} {clock:Nat} (i:Nat) (f:MapEntry→MapEntry) (hf:∀e,(f e).born=e.born) (h1:∀x∈es.toList,x.born<clock) (h2:(es.toList.map (·.born)).Nodup):
  (∀x∈(es.modify i f).toList,x.born<clock)∧((es.modify i f).toList.map (·.born)).Nodup:=by
 have e:(es.modify i f).toList.map (·.born)=es.toList.map (·.born):=by
  rw[Array.toList_modify]
  apply List.ext_getElem?
  intro j;simp only[List.getElem?_map,List.getElem?_modify]
  by_cases hij:i=j
  ·subst hij
   cases es.toList[i]? <;>simp[hf]
  ·simp[hij]
 refine⟨fun x hx=> ?_,by rw[e];exact h2⟩;have:x.born∈(es.modify i f).toList.map (·.born):=List.mem_map.2 ⟨x,hx,rfl⟩;rw[e]at this;obtain⟨y,hy,h⟩:=List.mem_map.1 this;rw[←h];exact h1 y hy
end
section
variable {α:Type} [DecidableEq α] {P:Program} {w w':World} {b:Nat} {enc:α→Value} {m:List (α×Value)} {S:Nat→Prop} {t kt et:TypeId}
omit [DecidableEq α] in
theorem Zcy {es:Array MapEntry} {m:List (α×Value)} {r:Nat×Value} {a:α} (v:Value) (he:es.toList.map (fun e=>(e.key,e.val))=m.map (fun p=>(enc p.1,p.2))) (hr:m[r.1]? =some (a,r.2)) (f:MapEntry→MapEntry) (hf:∀e,e.key=enc a→(f e).key=enc a∧(f e).val=v):
  (es.modify r.1 f).toList.map (fun e=>(e.key,e.val))=(m.modify r.1 fun p=>(p.1,v)).map (fun p=>(enc p.1,p.2)):=by
 rw[Array.toList_modify]
 apply List.ext_getElem?
 intro j;have hj:(es.toList.map (fun e=>(e.key,e.val)))[j]? =(m.map (fun p=>(enc p.1,p.2)))[j]? :=by rw[he]
 simp only[List.getElem?_map,List.getElem?_modify]at hj ⊢
 by_cases hij:r.1=j
 ·subst hij;rw[hr]at hj ⊢
  cases h1:es.toList[r.1]? with
  |none=>rw[h1]at hj;simp at hj
  |some e0=>
   rw[h1]at hj;simp only[Option.map_some,Option.some.injEq,Prod.mk.injEq]at hj;have:=hf e0 hj.1;simp[this.1,this.2]
 ·cases h1:es.toList[j]? <;>cases h2:m[j]? <;>rw[h1,h2]at hj<;>simp_all
theorem ZbI (K:KeyBy P kt enc) (ht:P.underlying t=some (.map kt et)) {z:Value} (hz:∀w:World,(zeroValue et).run P w= .ok z w) (h:MapE w b enc m) (a:α):
  ∃st w2,(Instr.mapEntry t (.map (some b)) (enc a)).run P w= .ok (.tuple #[(Zm m a).getD z,goInt st]) w2∧MapE w2 b enc (Zu m a ((Zm m a).getD z))∧Upd (One b) w w2∧
   ∀v,∃w3,(Instr.entryStore t (.map (some b)) (goInt st) v).run P w2= .ok () w3∧MapE w3 b enc (Zu m a v)∧Upd (One b) w w3:=by
 have hl:=h.lt;obtain⟨es,c,hb,he,hbo,hnd⟩:=h
 cases hlk:Zg a m 0 with
 |none=>
  have hg:(Zm m a).getD z=z:=by unfold Zm;rw[hlk];rfl
  have hp:∀v,Zu m a v=m++[(a,v)]:=fun v=>by simp[Zu,hlk]
  rw[hg];have hB:=ZbV hbo hnd (enc a) z
  have hw2:({w with heap:=w.heap.setIfInBounds b (.map (es.push {key:=enc a,val:=z,born:=c}) (c+1))}:World).heap[b]? =some (.map (es.push {key:=enc a,val:=z,born:=c}) (c+1)):=by
   show(w.heap.setIfInBounds b _)[b]? =_
   simp[hl]
  refine⟨c,{w with heap:=w.heap.setIfInBounds b (.map (es.push {key:=enc a,val:=z,born:=c}) (c+1))},?_,⟨_,_,hw2,?_,hB⟩,ZE w b _,fun v=> ?_⟩
  ·simp only[Instr.mapEntry,run_underlying ht,Sem.run_bind,Result.andThen,run_getObj_map w b es c hb,K.check,K.find w a _ _ he,hlk,hz];rw[Go.MapKept.run_setObj_map _ hb];rfl
  ·rw[hp];simp[he]
  ·have hidx:(es.push {key:=enc a,val:=z,born:=c}).findIdx? (fun e=>((e.born:Nat):Int)==((c:Nat):Int))=some es.size:=by
    rw[Go.WideElems.findIdx_arr];exact Go.WideElems.findIdx_born (l:=(es.push {key:=enc a,val:=z,born:=c}).toList) (j:=es.size) (e0:={key:=enc a,val:=z,born:=c}) hB.2 (by simp)
   have hmod:(es.push {key:=enc a,val:=z,born:=c}).modify es.size (fun e=>{e with val:=v})=es.push {key:=enc a,val:=v,born:=c}:=by
    apply Array.ext'
    rw[Array.toList_modify,Array.toList_push,Array.toList_push,←Array.length_toList,Go.WideElems.modify_last]
   generalize hW:({w with heap:=w.heap.setIfInBounds b (.map (es.push {key:=enc a,val:=z,born:=c}) (c+1))}:World)=w2 at hw2
   have hu2:Upd (One b) w w2:=by rw[←hW];exact ZE w b _
   refine⟨{w2 with heap:=w2.heap.setIfInBounds b (.map (es.push {key:=enc a,val:=v,born:=c}) (c+1))},?_,⟨_,_,?_,?_,ZbV hbo hnd (enc a) v⟩,hu2.trans (ZE w2 b _)⟩
   ·simp[Instr.entryStore,Go.MapKept.run_getObj_map hw2,asInt,asIntOf,goInt,hidx,hmod,Go.MapKept.run_setObj_map _ hw2,Result.andThen]
   ·show(w2.heap.setIfInBounds b _)[b]? =_
    have:b<w2.heap.size:=Nat.lt_of_lt_of_le hl hu2.size;simp[this]
   ·rw[hp];simp[he]
 |some r=>
  obtain⟨_,hr⟩:=ZaQ a m 0 r hlk;rw[Nat.sub_zero]at hr;have hg:(Zm m a).getD z=r.2:=by unfold Zm;rw[hlk];rfl
  have hp:∀v,Zu m a v=m.modify r.1 fun p=>(p.1,v):=fun v=>by simp[Zu,hlk]
  rw[hg];have hke:(es.toList.map (fun e=>(e.key,e.val)))[r.1]? =some (enc a,r.2):=by rw[he,List.getElem?_map,hr];rfl
  rw[List.getElem?_map,Option.map_eq_some_iff]at hke;obtain⟨e0,he0,hee⟩:=hke;have hk0:e0.key=enc a:=congrArg Prod.fst hee;have hv0:e0.val=r.2:=congrArg Prod.snd hee
  have hkk:((es[r.1]?).map (·.key)).getD (enc a)=enc a:=by
   rw[←Array.getElem?_toList,he0]
   simpa using hk0
  have hbb:((es[r.1]?).map (fun x=>((x.born:Nat):Int))).getD 0=((e0.born:Nat):Int):=by
   rw[←Array.getElem?_toList,he0];rfl
  have hsame:es.modify r.1 (fun e=>{e with key:=enc a})=es:=by
   apply Array.ext'
   rw[Array.toList_modify,Go.ChangeMaps.modify_eq_set _ _ _ _ he0];have:({e0 with key:=enc a}:MapEntry)=e0:=by rw[←hk0]
   rw[this];exact Go.WideElems.set_self _ _ _ he0
  refine⟨e0.born,{w with heap:=w.heap.setIfInBounds b (.map es c)},?_,⟨es,c,?_,?_,hbo,hnd⟩,ZE w b _,fun v=> ?_⟩
  ·simp only[Instr.mapEntry,run_underlying ht,Sem.run_bind,Result.andThen,run_getObj_map w b es c hb,K.check,K.find w a _ _ he,hlk,hkk,hbb,Instr.keyThatStays,K.bits,if_true,Sem.run_pure,hsame];rw[Go.MapKept.run_setObj_map _ hb]
  ·show(w.heap.setIfInBounds b _)[b]? =_
   simp[hl]
  ·rw[hp,←Zcy (enc:=enc) r.2 he hr (fun e=>{e with key:=enc a,val:=r.2}) (fun e _=>⟨rfl,rfl⟩),Array.toList_modify,Go.ChangeMaps.modify_eq_set _ _ _ _ he0];have:({e0 with key:=enc a,val:=r.2}:MapEntry)=e0:=by rw[←hk0,←hv0]
   rw[this,Go.WideElems.set_self _ _ _ he0]
  ·have hidx:es.findIdx? (fun e=>((e.born:Nat):Int)==((e0.born:Nat):Int))=some r.1:=by
    rw[Go.WideElems.findIdx_arr];exact Go.WideElems.findIdx_born hnd he0
   generalize hW:({w with heap:=w.heap.setIfInBounds b (.map es c)}:World)=w2
   have hu2:Upd (One b) w w2:=by rw[←hW];exact ZE w b _
   have hw2:w2.heap[b]? =some (.map es c):=by
    rw[←hW]
    show(w.heap.setIfInBounds b _)[b]? =_
    simp[hl]
   refine⟨{w2 with heap:=w2.heap.setIfInBounds b (.map (es.modify r.1 fun e=>{e with val:=v}) c)},?_,⟨_,_,?_,?_,ZdI r.1 (fun e=>{e with val:=v}) (fun _=>rfl) hbo hnd⟩,hu2.trans (ZE w2 b _)⟩
   ·simp[Instr.entryStore,Go.MapKept.run_getObj_map hw2,asInt,asIntOf,goInt,hidx,Go.MapKept.run_setObj_map _ hw2,Result.andThen]
   ·show(w2.heap.setIfInBounds b _)[b]? =_
    have:b<w2.heap.size:=Nat.lt_of_lt_of_le hl hu2.size;simp[this]
   ·rw[hp];exact Zcy (enc:=enc) v he hr (fun e=>{e with val:=v}) (fun e h=>⟨h,rfl⟩)
theorem Zdi (K:KeyBy P kt enc) (ht:P.underlying t=some (.map kt et)) (h:MapE w b enc m) (a:α) (v:Value):
  ∃w',(Instr.mapUpdate t (.map (some b)) (enc a) v).run P w= .ok () w'∧MapE w' b enc (Zu m a v)∧Upd (One b) w w':=by
 have hl:=h.lt;obtain⟨es,c,hb,he,hbo,hnd⟩:=h
 cases hlk:Zg a m 0 with
 |none=>
  refine⟨{w with heap:=w.heap.setIfInBounds b (.map (es.push {key:=enc a,val:=v,born:=c}) (c+1))},?_,⟨es.push {key:=enc a,val:=v,born:=c},c+1,?_,?_,ZbV hbo hnd (enc a) v⟩,ZE w b _⟩
  ·simp only[Instr.mapUpdate,run_underlying ht,Sem.run_bind,Result.andThen,run_getObj_map w b es c hb,K.check,K.find w a _ _ he,hlk];exact Go.MapKept.run_setObj_map _ hb
  ·show(w.heap.setIfInBounds b _)[b]? =_
   simp[hl]
  ·simp[Zu,hlk,he]
 |some r=>
  obtain⟨_,hr⟩:=ZaQ a m 0 r hlk;rw[Nat.sub_zero]at hr;have hke:(es.toList.map (fun e=>(e.key,e.val)))[r.1]? =some (enc a,r.2):=by rw[he,List.getElem?_map,hr];rfl
  rw[List.getElem?_map,Option.map_eq_some_iff]at hke;obtain⟨e0,he0,hee⟩:=hke
  have hkk:((es[r.1]?).map (·.key)).getD (enc a)=enc a:=by
   rw[←Array.getElem?_toList,he0];simp only[Option.map_some,Option.getD_some];exact congrArg Prod.fst hee
  refine⟨{w with heap:=w.heap.setIfInBounds b (.map (es.modify r.1 fun e=>{e with key:=enc a,val:=v}) c)},?_,⟨es.modify r.1 fun e=>{e with key:=enc a,val:=v},c,?_,?_,ZdI r.1 (fun e=>{e with key:=enc a,val:=v}) (fun _=>rfl) hbo hnd⟩,ZE w b _⟩
  ·simp only[Instr.mapUpdate,run_underlying ht,Sem.run_bind,Result.andThen,run_getObj_map w b es c hb,K.check,K.find w a _ _ he,hlk,hkk,Instr.keyThatStays,K.bits,if_true,Sem.run_pure];exact Go.MapKept.run_setObj_map _ hb
  ·show(w.heap.setIfInBounds b _)[b]? =_
   simp[hl]
  ·rw[show Zu m a v=m.modify r.1 fun p=>(p.1,v) by simp[Zu,hlk]];exact Zcy (enc:=enc) v he hr (fun e=>{e with key:=enc a,val:=v}) (fun e h=>⟨rfl,rfl⟩)
end
end
end Go.Proofs.Ytblplapkdmhikaa
