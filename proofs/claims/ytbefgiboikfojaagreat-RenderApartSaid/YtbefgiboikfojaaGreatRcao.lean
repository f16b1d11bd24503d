/- Maps that the calls themselves make: an entry that is looked for, or laid, and stored into (m[k]++). -/
import Derived.WideKeyEntry
import Derived.Shelf.SlIter.Collect
import Derived.Test.YtbefgiboikfojaaGreatRcai
namespace Go.Proofs.YtbefgiboikfojaaGreat
open Go.RowKit
set_option linter.unusedVariables false
set_option linter.unusedSimpArgs false
set_option maxRecDepth 100000
set_option maxHeartbeats 4000000
def MapE{α:Type}(w:Gy)(b:Nat)(enc:α->Gz)(m:List (α×Gz)):Prop:=
 ∃es clock,w.heap[b]? =some (.map es clock)∧es.toList.map (fun e=>(e.key,e.val))=m.map (fun p=>(enc p.1,p.2))∧(∀x∈es.toList,x.born<clock)∧(es.toList.map (·.born)).Nodup
section
variable {α:Type} {P:Gw} {w w':Gy} {b:Nat} {enc:α->Gz} {m:List (α×Gz)} {S:Gt} {t kt et:Gx}
theorem MapE.is(h:MapE w b enc m):MapIs w b enc m:=by
 obtain⟨es,c,hb,he,_⟩:=h;exact⟨es,c,hb,he⟩
theorem MapE.lt(h:MapE w b enc m):b<w.heap.size:=h.is.lt
theorem MapE.upd(h:MapE w b enc m)(k:Upd S w w')(hn:¬S b):MapE w' b enc m:=by
 have hl:=h.lt;obtain⟨es,c,hb,he⟩:=h;exact⟨es,c,(k.block b hl hn).trans hb,he⟩
theorem MapE.new(w:Gy)(enc:α->Gz):MapE (w.alloc (.map #[] 0)) w.heap.size enc ([]:List (α×Gz)):=⟨#[],0,heap_alloc_new w _,rfl,by simp,by simp⟩
theorem Zg8{es:Array MapEntry}{clock:Nat}(h1:∀x∈es.toList,x.born<clock)(h2:(es.toList.map (·.born)).Nodup)(key val:Gz):
  (∀x∈(es.push {key:=key,val:=val,born:=clock}).toList,x.born<clock+1)∧((es.push {key:=key,val:=val,born:=clock}).toList.map (·.born)).Nodup:=by
 rw[Array.toList_push]
 constructor
 ·intro x hx;rcases Fu.1 hx with hx|hx
  ·have:=h1 x hx;omega
  ·simp only[Fa]at hx;subst hx;simp
 ·rw[F4,List.nodup_append];refine⟨h2,by simp,fun a ha c hc e1=>?_⟩;simp only[Gb,List.map_nil,Fa]at hc;obtain⟨x,hx,rfl⟩:=Gc.1 ha;have:=h1 x hx;omega
theorem Zmy{es:Array MapEntry}{clock:Nat}(i:Nat)(f:MapEntry->MapEntry)(hf:∀e,(f e).born=e.born)(h1:∀x∈es.toList,x.born<clock)(h2:(es.toList.map (·.born)).Nodup):
  (∀x∈(es.modify i f).toList,x.born<clock)∧((es.modify i f).toList.map (·.born)).Nodup:=by
 have e:(es.modify i f).toList.map (·.born)=es.toList.map (·.born):=by
  rw[Array.toList_modify]
  apply List.ext_getElem?
  intro j;simp only[List.getElem?_map,List.getElem?_modify]
  by_cases hij:i=j
  ·subst hij
   cases es.toList[i]? <;>simp[hf]
  ·simp[hij]
 refine⟨fun x hx=>?_,by rw[e];exact h2⟩;have:x.born∈(es.modify i f).toList.map (·.born):=Gc.2 ⟨x,hx,rfl⟩;rw[e]at this;obtain⟨y,hy,h⟩:=Gc.1 this;rw[<-h];exact h1 y hy
end
section
variable {α:Type} [DecidableEq α] {P:Gw} {w w':Gy} {b:Nat} {enc:α->Gz} {m:List (α×Gz)} {S:Gt} {t kt et:Gx}
omit [DecidableEq α] in
theorem ZjG{es:Array MapEntry}{m:List (α×Gz)}{r:Nat×Gz}{a:α}(v:Gz)(he:es.toList.map (fun e=>(e.key,e.val))=m.map (fun p=>(enc p.1,p.2)))(hr:m[r.1]? =some (a,r.2))(f:MapEntry->MapEntry)(hf:∀e,e.key=enc a->(f e).key=enc a∧(f e).val=v):
  (es.modify r.1 f).toList.map (fun e=>(e.key,e.val))=(m.modify r.1 fun p=>(p.1,v)).map (fun p=>(enc p.1,p.2)):=by
 rw[Array.toList_modify]
 apply List.ext_getElem?
 intro j;have hj:(es.toList.map (fun e=>(e.key,e.val)))[j]? =(m.map (fun p=>(enc p.1,p.2)))[j]? :=by rw[he]
 simp only[List.getElem?_map,List.getElem?_modify]at hj ⊢
 by_cases hij:r.1=j
 ·subst hij;rw[hr]at hj ⊢
  cases h1:es.toList[r.1]? with
  |none=>rw[h1]at hj;simp at hj
  |some e0=>
   rw[h1]at hj;simp only[Option.map_some,Fh,Ga]at hj;have:=hf e0 hj.1;simp[this.1,this.2]
 ·cases h1:es.toList[j]? <;>cases h2:m[j]? <;>rw[h1,h2]at hj<;>simp_all
theorem Zdg(K:KeyBy P kt enc)(ht:P.underlying t=some (.map kt et)){z:Gz}(hz:∀w:Gy,(zeroValue et).run P w= .ok z w)(h:MapE w b enc m)(a:α):
  ∃st w2,(Instr.mapEntry t (.map (some b)) (enc a)).run P w= .ok (.tuple #[(Zac m a).getD z,goInt st]) w2∧MapE w2 b enc (ZL m a ((Zac m a).getD z))∧Upd (One b) w w2∧
   ∀v,∃w3,(Instr.entryStore t (.map (some b)) (goInt st) v).run P w2= .ok () w3∧MapE w3 b enc (ZL m a v)∧Upd (One b) w w3:=by
 have hl:=h.lt;obtain⟨es,c,hb,he,bK,cn⟩:=h
 cases hlk:look a m 0 with
 |none=>
  have hg:(Zac m a).getD z=z:=by unfold Zac;rw[hlk];rfl
  have hp:∀v,ZL m a v=m++[(a,v)]:=fun v=>by simp[ZL,hlk]
  rw[hg];have hB:=Zg8 bK cn (enc a) z
  have cH:({w with heap:=w.heap.setIfInBounds b (.map (es.push {key:=enc a,val:=z,born:=c}) (c+1))}:Gy).heap[b]? =some (.map (es.push {key:=enc a,val:=z,born:=c}) (c+1)):=by
   show(w.heap.setIfInBounds b _)[b]? =_
   simp[hl]
  refine⟨c,{w with heap:=w.heap.setIfInBounds b (.map (es.push {key:=enc a,val:=z,born:=c}) (c+1))},?_,⟨_,_,cH,?_,hB⟩,ZaG w b _,fun v=>?_⟩
  ·simp only[Instr.mapEntry,run_underlying ht,Sem.run_bind,Result.andThen,run_getObj_map w b es c hb,K.check,K.find w a _ _ he,hlk,hz];rw[Go.MapKept.run_setObj_map _ hb];rfl
  ·rw[hp];simp[he]
  ·have cT:(es.push {key:=enc a,val:=z,born:=c}).findIdx? (fun e=>((e.born:Nat):Int)==((c:Nat):Int))=some es.size:=by
    rw[Go.WideElems.findIdx_arr];exact Go.WideElems.findIdx_born (l:=(es.push {key:=enc a,val:=z,born:=c}).toList) (j:=es.size) (e0:={key:=enc a,val:=z,born:=c}) hB.2 (by simp)
   have wt:(es.push {key:=enc a,val:=z,born:=c}).modify es.size (fun e=>{e with val:=v})=es.push {key:=enc a,val:=v,born:=c}:=by
    apply Array.ext'
    rw[Array.toList_modify,Array.toList_push,Array.toList_push,<-Array.length_toList,Go.WideElems.modify_last]
   generalize hW:({w with heap:=w.heap.setIfInBounds b (.map (es.push {key:=enc a,val:=z,born:=c}) (c+1))}:Gy)=w2 at cH;have hu2:Upd (One b) w w2:=by rw[<-hW];exact ZaG w b _
   refine⟨{w2 with heap:=w2.heap.setIfInBounds b (.map (es.push {key:=enc a,val:=v,born:=c}) (c+1))},?_,⟨_,_,?_,?_,Zg8 bK cn (enc a) v⟩,hu2.trans (ZaG w2 b _)⟩
   ·simp[Instr.entryStore,Go.MapKept.run_getObj_map cH,asInt,asIntOf,goInt,cT,wt,Go.MapKept.run_setObj_map _ cH,Result.andThen]
   ·show(w2.heap.setIfInBounds b _)[b]? =_
    have:b<w2.heap.size:=Fe hl hu2.size;simp[this]
   ·rw[hp];simp[he]
 |some r=>
  obtain⟨_,hr⟩:=Zez a m 0 r hlk;rw[Nat.sub_zero]at hr;have hg:(Zac m a).getD z=r.2:=by unfold Zac;rw[hlk];rfl
  have hp:∀v,ZL m a v=m.modify r.1 fun p=>(p.1,v):=fun v=>by simp[ZL,hlk]
  rw[hg];have hke:(es.toList.map (fun e=>(e.key,e.val)))[r.1]? =some (enc a,r.2):=by rw[he,List.getElem?_map,hr];rfl
  rw[List.getElem?_map,Option.map_eq_some_iff]at hke;obtain⟨e0,gI,gW⟩:=hke;have hk0:e0.key=enc a:=congrArg Prod.fst gW;have hv0:e0.val=r.2:=congrArg Prod.snd gW
  have bG:((es[r.1]?).map (·.key)).getD (enc a)=enc a:=by
   rw[<-Array.getElem?_toList,gI]
   simpa using hk0
  have eD:((es[r.1]?).map (fun x=>((x.born:Nat):Int))).getD 0=((e0.born:Nat):Int):=by
   rw[<-Array.getElem?_toList,gI];rfl
  have qK:es.modify r.1 (fun e=>{e with key:=enc a})=es:=by
   apply Array.ext'
   rw[Array.toList_modify,Go.ChangeMaps.modify_eq_set _ _ _ _ gI];have:({e0 with key:=enc a}:MapEntry)=e0:=by rw[<-hk0]
   rw[this];exact Go.WideElems.set_self _ _ _ gI
  refine⟨e0.born,{w with heap:=w.heap.setIfInBounds b (.map es c)},?_,⟨es,c,?_,?_,bK,cn⟩,ZaG w b _,fun v=>?_⟩
  ·simp only[Instr.mapEntry,run_underlying ht,Sem.run_bind,Result.andThen,run_getObj_map w b es c hb,K.check,K.find w a _ _ he,hlk,bG,eD,Instr.keyThatStays,K.bits,if_true,Sem.run_pure,qK];rw[Go.MapKept.run_setObj_map _ hb]
  ·show(w.heap.setIfInBounds b _)[b]? =_
   simp[hl]
  ·rw[hp,<-ZjG (enc:=enc) r.2 he hr (fun e=>{e with key:=enc a,val:=r.2}) (fun e _=>⟨rfl,rfl⟩),Array.toList_modify,Go.ChangeMaps.modify_eq_set _ _ _ _ gI];have:({e0 with key:=enc a,val:=r.2}:MapEntry)=e0:=by rw[<-hk0,<-hv0]
   rw[this,Go.WideElems.set_self _ _ _ gI]
  ·have cT:es.findIdx? (fun e=>((e.born:Nat):Int)==((e0.born:Nat):Int))=some r.1:=by
    rw[Go.WideElems.findIdx_arr];exact Go.WideElems.findIdx_born cn gI
   generalize hW:({w with heap:=w.heap.setIfInBounds b (.map es c)}:Gy)=w2;have hu2:Upd (One b) w w2:=by rw[<-hW];exact ZaG w b _
   have cH:w2.heap[b]? =some (.map es c):=by
    rw[<-hW]
    show(w.heap.setIfInBounds b _)[b]? =_
    simp[hl]
   refine⟨{w2 with heap:=w2.heap.setIfInBounds b (.map (es.modify r.1 fun e=>{e with val:=v}) c)},?_,⟨_,_,?_,?_,Zmy r.1 (fun e=>{e with val:=v}) (fun _=>rfl) bK cn⟩,hu2.trans (ZaG w2 b _)⟩
   ·simp[Instr.entryStore,Go.MapKept.run_getObj_map cH,asInt,asIntOf,goInt,cT,Go.MapKept.run_setObj_map _ cH,Result.andThen]
   ·show(w2.heap.setIfInBounds b _)[b]? =_
    have:b<w2.heap.size:=Fe hl hu2.size;simp[this]
   ·rw[hp];exact ZjG (enc:=enc) v he hr (fun e=>{e with val:=v}) (fun e h=>⟨h,rfl⟩)
theorem ZfK(K:KeyBy P kt enc)(ht:P.underlying t=some (.map kt et))(h:MapE w b enc m)(a:α)(v:Gz):
  ∃w',(Instr.mapUpdate t (.map (some b)) (enc a) v).run P w= .ok () w'∧MapE w' b enc (ZL m a v)∧Upd (One b) w w':=by
 have hl:=h.lt;obtain⟨es,c,hb,he,bK,cn⟩:=h
 cases hlk:look a m 0 with
 |none=>
  refine⟨{w with heap:=w.heap.setIfInBounds b (.map (es.push {key:=enc a,val:=v,born:=c}) (c+1))},?_,⟨es.push {key:=enc a,val:=v,born:=c},c+1,?_,?_,Zg8 bK cn (enc a) v⟩,ZaG w b _⟩
  ·simp only[Instr.mapUpdate,run_underlying ht,Sem.run_bind,Result.andThen,run_getObj_map w b es c hb,K.check,K.find w a _ _ he,hlk];exact Go.MapKept.run_setObj_map _ hb
  ·show(w.heap.setIfInBounds b _)[b]? =_
   simp[hl]
  ·simp[ZL,hlk,he]
 |some r=>
  obtain⟨_,hr⟩:=Zez a m 0 r hlk;rw[Nat.sub_zero]at hr;have hke:(es.toList.map (fun e=>(e.key,e.val)))[r.1]? =some (enc a,r.2):=by rw[he,List.getElem?_map,hr];rfl
  rw[List.getElem?_map,Option.map_eq_some_iff]at hke;obtain⟨e0,gI,gW⟩:=hke
  have bG:((es[r.1]?).map (·.key)).getD (enc a)=enc a:=by
   rw[<-Array.getElem?_toList,gI];simp only[Option.map_some,Option.getD_some];exact congrArg Prod.fst gW
  refine⟨{w with heap:=w.heap.setIfInBounds b (.map (es.modify r.1 fun e=>{e with key:=enc a,val:=v}) c)},?_,⟨es.modify r.1 fun e=>{e with key:=enc a,val:=v},c,?_,?_,Zmy r.1 (fun e=>{e with key:=enc a,val:=v}) (fun _=>rfl) bK cn⟩,ZaG w b _⟩
  ·simp only[Instr.mapUpdate,run_underlying ht,Sem.run_bind,Result.andThen,run_getObj_map w b es c hb,K.check,K.find w a _ _ he,hlk,bG,Instr.keyThatStays,K.bits,if_true,Sem.run_pure];exact Go.MapKept.run_setObj_map _ hb
  ·show(w.heap.setIfInBounds b _)[b]? =_
   simp[hl]
  ·rw[show ZL m a v=m.modify r.1 fun p=>(p.1,v) by simp[ZL,hlk]];exact ZjG (enc:=enc) v he hr (fun e=>{e with key:=enc a,val:=v}) (fun e h=>⟨rfl,rfl⟩)
end
/- A range over a map that the call itself made:the entries come in whatever order,each once. -/
def Iter{α:Type}(w:Gy)(r b:Nat)(enc:α->Gz)(m left:List (α×Gz)):Prop:=
 ∃es clock since c0 seen,w.heap[r]? =some (.mapIter (some b) since seen c0)∧w.heap[b]? =some (.map es clock)∧es.toList.map (fun e=>(e.key,e.val))=m.map (fun p=>(enc p.1,p.2))∧
  (∀x∈es.toList,x.born<since)∧since<=c0∧since<=clock∧(es.toList.map (·.born)).Nodup∧(leftOf es seen).toList.map (fun e=>(e.key,e.val))=left.map (fun p=>(enc p.1,p.2))
section
variable {α:Type} {P:Gw} {w w':Gy} {r b:Nat} {enc:α->Gz} {m left:List (α×Gz)} {S:Gt} {t kt et:Gx}
theorem Iter.upd(h:Iter w r b enc m left)(k:Upd S w w')(hr:¬S r)(hb:¬S b):Iter w' r b enc m left:=by
 obtain⟨es,clock,since,c0,seen,h1,h2,h3⟩:=h;exact⟨es,clock,since,c0,seen,(k.block r (Array.getElem?_eq_some_iff.1 h1).1 hr).trans h1,(k.block b (Array.getElem?_eq_some_iff.1 h2).1 hb).trans h2,h3⟩
theorem Iter.lt(h:Iter w r b enc m left):r<w.heap.size:=by
 obtain⟨es,clock,since,c0,seen,h1,_⟩:=h;exact(Array.getElem?_eq_some_iff.1 h1).1
theorem Zof(ht:P.underlying t=some (.map kt et))(h:MapE w b enc m):
  ∃w',(Instr.range t (.map (some b))).run P w= .ok (.pointer (some ⟨w.heap.size,0,none⟩)) w'∧Iter w' w.heap.size b enc m m∧Upd No w w'∧w'.heap.size=w.heap.size+1:=by
 obtain⟨es,clock,hb,he,bK,cn⟩:=h;refine⟨_,run_range_map w t kt et b es clock ht hb,⟨es,clock,clock,clock,#[],heap_alloc_new w _,?_,he,bK,Nat.le_refl _,Nat.le_refl _,cn,?_⟩,(Gg No w).alloc _,by simp⟩
 ·exact(Below.heap_alloc w _ b (Array.getElem?_eq_some_iff.1 hb).1).trans hb
 ·rw[<-he];unfold leftOf;rw[Array.toList_filter]
  congr 1
  exact List.filter_eq_self.2 fun x _=>by simp
theorem ZpY(es:Array MapEntry)(seen:Array Nat)(e:MapEntry):(leftOf es (seen.push e.born)).toList=(leftOf es seen).toList.filter fun x=> !(x.born==e.born):=by
 unfold leftOf;rw[Array.toList_filter,Array.toList_filter,List.filter_filter];refine List.filter_congr fun x _=>?_
 rw[contains_push]
 cases seen.contains x.born<;>cases x.born==e.born<;>rfl
theorem Zok{l:List MapEntry}(hn:(l.map (·.born)).Nodup){e:MapEntry}(he:e∈l):∃a b,l=a++e::b∧(l.filter fun x=> !(x.born==e.born))=a++b:=by
 obtain⟨a,b,rfl⟩:=List.append_of_mem he;refine⟨a,b,rfl,?_⟩;rw[F4,Gb,List.nodup_append,Fx]at hn;have ha:∀x∈a,x.born≠e.born:=fun x hx=>hn.2.2 x.born (Gc.2 ⟨x,hx,rfl⟩) e.born (by simp)
 have hb:∀x∈b,x.born≠e.born:=fun x hx h=>hn.2.1.1 (h▸Gc.2 ⟨x,hx,rfl⟩)
 rw[List.filter_append,List.filter_cons_of_neg (by simp),List.filter_eq_self.2 (fun x hx=>by simpa using ha x hx),List.filter_eq_self.2 (fun x hx=>by simpa using hb x hx)]
theorem Zp4(h:Iter w r b enc m left):
  (left=[]∧∀ty,(Instr.next (.pointer (some ⟨r,0,none⟩)) false ty).run P w= .ok (.tuple #[.bool false]) w)∨
  ∃l1 p l2 w',left=l1++p::l2∧(∀ty,(Instr.next (.pointer (some ⟨r,0,none⟩)) false ty).run P w= .ok (.tuple #[.bool true,enc p.1,p.2]) w')∧Iter w' r b enc m (l1++l2)∧Upd (One r) w w'∧w'.heap.size=w.heap.size∧
   ∀W,Upd No w' W->(Instr.entry (.pointer (some ⟨r,0,none⟩))).run P W= .ok (.tuple #[enc p.1,p.2]) W:=by
 obtain⟨es,clock,since,c0,seen,h1,h2,h3,h4,h5,xR,h6,h7⟩:=h;have jZ:=(Array.getElem?_eq_some_iff.1 h1).1;rcases run_next_at (P:=P) w 0 r b since c0 seen es clock h1 h2 h4 h5 with ⟨hz,dl⟩|⟨e,he,w1,au,dl⟩
 ·left
  refine⟨?_,fun _=>dl⟩;have hl:=congrArg List.length h7;rw[F6,F6,Array.length_toList,hz]at hl;exact Et hl.symm
 ·right
  have kU:((leftOf es seen).toList.map (·.born)).Nodup:=by
   unfold leftOf;rw[Array.toList_filter];exact h6.sublist (List.filter_sublist.map _)
  obtain⟨a,c,Ct,oz⟩:=Zok kU he;rw[Ct,F4,Gb]at h7;obtain⟨l1,l2',rfl,ha,aN⟩:=List.append_eq_map_iff.1 h7;obtain⟨p,l2,rfl,hp,hb2⟩:=List.map_eq_cons_iff.1 aN;have hkey:e.key=enc p.1:=(congrArg Prod.fst hp).symm;have bj:e.val=p.2:=(congrArg Prod.snd hp).symm;have sC:r≠b:=fun hh=>by rw[hh,h2]at h1;cases h1
  have mW:w1.heap=w.heap:=by rcases au with rfl|rfl<;>rfl
  have hu:Upd (One r) w (Go.ChangeMaps.setBlock w1 r (.mapIter (some b) since (seen.push e.born) clock)):=by
   have h8:Upd (One r) w w1:=by rcases au with rfl|rfl;exact Gg _ _;exact(Gg _ _).drew
   exact h8.trans (ZaG w1 r _)
  rw[hkey,bj]at dl
  have g1:(Go.ChangeMaps.setBlock w1 r (.mapIter (some b) since (seen.push e.born) clock)).heap[r]? =some (.mapIter (some b) since (seen.push e.born) clock):=by
   show(w1.heap.setIfInBounds r _)[r]? =_
   rw[mW];simp[jZ]
  have g2:(Go.ChangeMaps.setBlock w1 r (.mapIter (some b) since (seen.push e.born) clock)).heap[b]? =some (.map es clock):=by
   show(w1.heap.setIfInBounds r _)[b]? =_
   rw[mW,Array.getElem?_setIfInBounds_ne sC];exact h2
  have gW:e∈es.toList:=(mem_left he).1;refine⟨l1,p,l2,_,rfl,fun _=>dl,⟨es,clock,since,clock,seen.push e.born,g1,g2,h3,h4,xR,xR,h6,?_⟩,hu,?_,fun W hW=>?_⟩
  ·rw[ZpY,oz,F4,F4,ha,hb2]
  ·show(w1.heap.setIfInBounds r _).size=_
   rw[mW];simp
  ·have k1:=(hW.block r (Array.getElem?_eq_some_iff.1 g1).1 id).trans g1;have k2:=(hW.block b (Array.getElem?_eq_some_iff.1 g2).1 id).trans g2;rw[run_entry_at W r b since seen es clock e k1 k2 gW h6,hkey,bj]
end
/- slices.Collect(maps.Keys(m))at edges:the keys come,each once,in some order. -/
section
open Go.RowKit Go.Maps Go.Sort Go.Shelf
theorem Zqa{w w':Gy}{r:Nat}(h:Upd (One r) w w'):w.grownBy w' (some r):=⟨h.os,h.tape,h.output,h.size,fun k hk hne=>h.block k hk (fun e=>hne (by unfold One at e;rw[e]))⟩
theorem Zii{w w':Gy}(h:Upd No w w'):w.grownBy w' none:=⟨h.os,h.tape,h.output,h.size,fun k hk _=>h.block k hk id⟩
section
variable {α:Type} {w w':Gy} {r b:Nat} {enc:α->Gz} {m left:List (α×Gz)}
theorem Iter.left_eq(h:Iter w r b enc m left):w.rangeLeft b r=left.length:=by
 obtain⟨es,clock,since,c0,seen,h1,h2,_,_,_,_,_,h7⟩:=h;simp only[World.rangeLeft,h1,h2];have:=congrArg List.length h7
 simpa using this
theorem Iter.walks(h:Iter w r b enc m left)(k:KeepsWalks w w'):Iter w' r b enc m left:=by
 obtain⟨es,clock,since,c0,seen,h1,h2,h3⟩:=h;exact⟨es,clock,since,c0,seen,k.same r _ h1 rfl,k.same b _ h2 rfl,h3⟩
theorem Iter.walk(h:Iter w r b enc m left):∃o:Obj,w.heap[r]? =some o∧o.isWalk=true:=by
 obtain⟨es,clock,since,c0,seen,h1,_⟩:=h;exact⟨_,h1,rfl⟩
end
def Zad(x:Edge):Gz:= .agg #[Qi x.f,Qi x.t,Qi x.k,Qi x.key]
theorem Zur(F:Fence)(n:Nat)(hF:F.fn 118)(fK:F.round=none)(hn:1<=n)(l Bm b:Nat)(m:List (Edge×Gz))(J:List Edge->Gy->Prop)
  (hY:∀pre x W,J pre W->pre.length<m.length->YieldAt F (n-1) Tryz.prog l #[Zad x] W fun e W'=>e= .returned (.bool true)∧J (pre++[x]) W'∧KeepsWalks W W')
  (W:Gy) (hJ:AbidesFrom W.heap.size J) (hm:W.cell? ⟨Bm,0,none⟩=some (.map (some b))) (iy:MapE W b Zad m) (h0:J [] W):
  CallsIn F n Tryz.prog 118 #[.func (.yield l) #[] #[],.pointer (some ⟨Bm,0,none⟩)] W fun e W'=>(∃v,e= .returned v)∧∃ks:List Edge,ks.Perm (m.map (·.1))∧J ks W':=by
 obtain⟨w0,DM,rG,dH,uB⟩:=Zof (P:=Tryz.prog) Tryz.underlying98 iy;have za:J [] w0:=hJ [] W w0 none h0 (Zii dH) (fun r e=>by cases e);clear uB;refine callsIn_of_wp Tryz.func118 rfl hF ?_ fK;simp only[Tryz.ntmps118,List.size_toArray,Fs,Fz,Nat.reduceAdd,Nat.reduceSub,Array.replicate_succ,Array.replicate_zero,List.push_toArray,List.append_toArray,Fy,List.cons_append]
 gi_wp2
 gi_loopw [3] (fun _ wr=>∃(left:List (Edge×Gz)) (ks:List Edge),Iter wr W.heap.size b Zad m left∧(ks++left.map (·.1)).Perm (m.map (·.1))∧J ks wr)
  (fun _ wr=>wr.rangeLeft b W.heap.size)
 case atStart=>exact⟨m,[],rG,by simp,za⟩
 case round=>
  clear DM za rG dH;obtain⟨left,ks,hit,lF,zA⟩:=hrel;rcases Zp4 (P:=Tryz.prog) hit with ⟨rfl,nO⟩|⟨l1,p,l2,w2,rfl,nO,qi,hu2,er,pb⟩
  ·gi_wp2
   go_end0
   exact⟨⟨_,rfl⟩,ks,by simpa using lF,zA⟩
  ·obtain⟨x,v⟩:=p;have lM:=pb w2 (Gg _ _);obtain⟨w3,fe⟩:=Qe (w2.alloc (.cells #[Qi x.f,Qi x.t,Qi x.k,Qi x.key] 94));have u3:Upd No w2 w3:=by rw[<-fe];exact(Gg No w2).alloc _
   have b3:Blk w3 w2.heap.size 94 [Qi x.f,Qi x.t,Qi x.k,Qi x.key]:=by rw[<-fe];exact Gh w2 _ _
   obtain⟨d0,d1,d2,d3⟩:=b3.c4;have Co:J ks w2:=hJ ks _ w2 (some W.heap.size) zA (Zqa hu2) (fun r e=>by cases e;exact⟨Nat.le_refl _,hit.walk⟩);have AD:J ks w3:=hJ ks w2 w3 none Co (Zii u3) (fun r e=>by cases e);have hlen:ks.length<m.length:=by have:=lF.length_eq;simp at this;omega
   obtain⟨fn,tmps,assign,body,hy,hR⟩:=hY ks x w3 AD hlen;have pz:=qi.upd u3 id id;unfold Zad at hy nO lM
   dsimp only at hy nO lM
   have Ax:=Qh hit;have wX:=Qh pz;have BD:=Qh lF;clear hit qi pz lF er hu2 pb hlen u3 b3
   gi_wp2
   refine hR.mono ?_;rintro e W3 ⟨rfl,Cg,vQ⟩;have pv:=wX.out.walks vQ
   gi_wp2
   go_roundw
   case rel=>
    refine⟨l1++l2,ks++[x],pv,?_,Cg⟩;refine List.Perm.trans ?_ BD.out;simp only[F4,Gb,Fg,List.singleton_append];exact List.Perm.append_left ks List.perm_middle.symm
   case measure=>rw[pv.left_eq,Ax.out.left_eq];simp
end
/- slices.Collect(maps.Keys(m))at edges:slices.AppendSeq,slices.Collect. -/
section
open Go.RowKit Go.Maps Go.Sort Go.Shelf
def Zg4:Code:=(Code.region 2 #[{dst:=some 5,op:=Op.alloc 94,type:=0,pos:= "iter.go:51",after:= #[],guard:=none},{dst:=none,op:=Op.store 94 (Operand.tmp 5) (Operand.tmp 7),type:=0,pos:= "iter.go:51",after:= #[{on:=0,ground:=Ground.data},{on:=0,ground:=Ground.phase}],guard:=none}] false)
def ZjR:Code:=(Code.block 1 (Code.region 3 #[{dst:=some 8,op:=Op.load 34 (Operand.tmp 2),type:=34,pos:= "iter.go:52",after:= #[],guard:=none},{dst:=some 9,op:=Op.load 94 (Operand.tmp 5),type:=94,pos:= "iter.go:52",after:= #[],guard:=none},{dst:=some 10,op:=Op.buildSlice 34 1 #[(0,Operand.tmp 9)],type:=34,pos:= "iter.go:52",after:= #[{on:=1,ground:=Ground.data}],guard:=none},{dst:=some 11,op:=Op.call {callee:=Callee.builtin Builtin.append,args:= #[Operand.tmp 8,Operand.tmp 10],argTypes:= #[34,34]},type:=34,pos:= "iter.go:52",after:= #[{on:=0,ground:=Ground.data},{on:=2,ground:=Ground.data}],guard:=none},{dst:=none,op:=Op.store 34 (Operand.tmp 2) (Operand.tmp 11),type:=0,pos:= "iter.go:52",after:= #[{on:=3,ground:=Ground.data},{on:=3,ground:=Ground.chain},{on:=0,ground:=Ground.phase},{on:=1,ground:=Ground.phase},{on:=2,ground:=Ground.phase},{on:=3,ground:=Ground.phase}],guard:=none}] false))
def ZcZ(fn:FuncId)(sv:Gz)(Bs D:Nat)(st:LoopState)(pend:Option Code):Loop:=
 {state:=st,pending:=pend,fn,tmps:= #[.slice none 0 0,sv,.pointer (some ⟨Bs,0,none⟩),undef,.slice none 0 0,undef,sv,undef,undef,undef,undef,undef,undef],params:= #[7],assign:=Zg4,body:=ZjR,defers:=D}
structure ColAt (w0:World) (fn:FuncId) (sv:Value) (Bs l D:Nat) (ks:List Edge) (W:World):Prop where
 box:∃A c,W.heap[Bs]? =some (.cells #[.slice A ks.length c] 34 (0,0))∧W.ownsRow w0.heap.size 94 4 (.slice A ks.length c) ks.length (ks.map Edge.cells).flatten
 L:W.heap[l]? =some (.loop (ZcZ fn sv Bs D .ready none))
 K:W.heap[D]? =some (.deferred (some []))
 below:Below w0.heap.size w0 W
theorem ZoC(w0:Gy)(fn:FuncId)(sv:Gz)(Bs l D B:Nat)(hB:w0.heap.size<=B):AbidesFrom B (ColAt w0 fn sv Bs l D):=fun s W W' row h hg hrow=>by
 have gU:∀r,row=some r->∃o:Obj,W.heap[r]? =some o∧o.isWalk=true:=fun r e=>(hrow r e).2
 obtain⟨A,c,hv,hr⟩:=h.box
 exact⟨⟨A,c,(grownBy_keeps hg gU hv rfl).trans hv,ownsRow_abides_a hr hg gU⟩,(grownBy_keeps hg gU h.L rfl).trans h.L,(grownBy_keeps hg gU h.K rfl).trans h.K,
  h.below.grown hg h.below.size (fun k e=>Nat.le_trans hB (hrow k e).1)⟩
theorem Zpd(ks:List Edge)(x:Edge):(ks.map Edge.cells).flatten++[Qi x.f,Qi x.t,Qi x.k,Qi x.key]=((ks++[x]).map Edge.cells).flatten:=by simp[Edge.cells]
theorem ZrX(F:Fence)(m:Nat)(w0:Gy)(fn:FuncId)(ms:F.fn fn)(sv:Gz)(Bs l D:Nat)(v8:Bs≠l)(wT:D≠l)(Ay:D≠Bs)(At:w0.heap.size<=Bs)(x7:w0.heap.size<=l)
  (N:Nat) (hN:N<=1000000) (ks:List Edge) (x:Edge) (W:Gy) (h:ColAt w0 fn sv Bs l D ks W) (hlen:ks.length<N):
  YieldAt F m Tryz.prog l #[Zad x] W fun e W'=>e= .returned (.bool true)∧ColAt w0 fn sv Bs l D (ks++[x]) W'∧KeepsWalks W W':=by
 have hne:(34:Nat)≠94:=by decide
 obtain⟨ht,i0,z0,hi,gw,dj,dB,eF,lg⟩:=ZQ;obtain⟨A,c,hv,hrow⟩:=h.box;refine⟨fn,#[.slice none 0 0,sv,.pointer (some ⟨Bs,0,none⟩),undef,.slice none 0 0,undef,sv,Zad x,undef,undef,undef,undef,undef],Zg4,ZjR,by simpa[ZcZ]using run_yield (P:=Tryz.prog) (args:= #[Zad x]) h.L rfl,roundIn_of_wpIn ms ?_⟩;have hl:l<W.heap.size:=(Array.getElem?_eq_some_iff.1 h.L).1;obtain⟨W1,jB⟩:=Qe (W.alloc (.cells #[Qi x.f,Qi x.t,Qi x.k,Qi x.key] 94));have u1:Upd No W W1:=by rw[<-jB];exact(Gg No W).alloc _
 have di:=Zii u1;have hk1:KeepsWalks W W1:=by rw[<-jB];exact KeepsWalks.alloc _ _
 have hE1:Blk W1 W.heap.size 94 [Qi x.f,Qi x.t,Qi x.k,Qi x.key]:=by rw[<-jB];exact Gh W _ _
 have hv1:=(u1.block Bs (Array.getElem?_eq_some_iff.1 hv).1 id).trans hv;have CD:=(u1.block D (Array.getElem?_eq_some_iff.1 h.K).1 id).trans h.K;have nG:=(u1.block l hl id).trans h.L;have lW:=Za hrow u1 Qo;have hb1:Below w0.heap.size w0 W1:=h.below.grown di h.below.size (fun k e=>by cases e);have AX:l≠W.heap.size:=by omega
 have co:l<W1.heap.size:=Fe hl u1.size;have gC:=run_beginRound (P:=Tryz.prog) nG rfl;obtain⟨W2,l5⟩:∃W2,W1.putObj l (.loop {ZcZ fn sv Bs D .ready none with state:= .busy})=W2:=⟨_,rfl⟩;rw[l5]at gC;have cJ:W1.grownBy W2 (some l):=by rw[<-l5];exact grownBy_putObj_a _ _ _
 have hk2:KeepsWalks W1 W2:=by rw[<-l5];exact KeepsWalks.putObj _ nG rfl
 have hv2:W2.heap[Bs]? =some (.cells #[.slice A ks.length c] 34 (0,0)):=by rw[<-l5];exact(World.putObj_heap_other v8).trans hv1
 have vV:W2.heap[D]? =some (.deferred (some [])):=by rw[<-l5];exact(World.putObj_heap_other wT).trans CD
 have nC:W2.heap[l]? =some (.loop {ZcZ fn sv Bs D .ready none with state:= .busy}):=by rw[<-l5];exact World.putObj_heap_same co
 have AO:Blk W2 W.heap.size 94 [Qi x.f,Qi x.t,Qi x.k,Qi x.key]:=by rw[<-l5];exact(World.putObj_heap_other (fun e=>AX e.symm)).trans hE1
 have ig:=lW.kept cJ (ownsRow_ne_a lW nG (fun cur e=>by cases e));have hb2:Below w0.heap.size w0 W2:=hb1.grown cJ hb1.size (fun k e=>by cases e;exact x7);obtain⟨fV,jK⟩:=cell_of_box_a hv2;have tK:Bs<W2.heap.size:=(Array.getElem?_eq_some_iff.1 hv2).1;have aN:l<W2.heap.size:=(Array.getElem?_eq_some_iff.1 nC).1;have tT:D<W2.heap.size:=(Array.getElem?_eq_some_iff.1 vV).1;obtain⟨d0,d1,d2,d3⟩:=AO.c4
 have ne_of:∀{j:Nat} {o:Obj},W2.heap[j]? =some o->(∀cur,o≠.cells cur 94 (0,0))->some j≠Value.ownBlock (.slice A ks.length c):=fun hj hno=>by
  rcases ownsRow_ne_a ig hj hno with e|e
  ·rw[e];simp
  ·exact fun e'=>e e'.symm
 clear l5;unfold Zg4 Zad
 gi_wp2_with gi_round_op_a
 unfold ZjR;clear jB
 gi_wp2_with (first
  |(gi_at_builtin;refine wpListIn_append_own _ rfl _ _ 34 rfl w0.heap.size 94 i0 z0 4 32 ht hi gw dj dB eF (by decide) _ _ _ rfl (ig.alloc _) ⟨W2.heap.size,0,none⟩ 1 1 [Qi x.f,Qi x.t,Qi x.k,Qi x.key] rfl rfl (fun j u hj=>Zbn j u hj) (by simp[Value.oneCell']) (by simp only[maxLen];omega) (by omega) (by have:=hb2.size;simp;omega) ?_;intro v' w3 eI eM Aj
    have eZ:w3.heap[Bs]? =some (.cells #[.slice A ks.length c] 34 (0,0)):=(eM.block Bs (by simp;omega) (ne_of hv2 (fun cur e=>hne (Obj.cells.inj e).2.1))).trans ((Below.heap_alloc _ _ Bs tK).trans hv2);obtain⟨sJ,Aq⟩:=cell_of_box_a eZ;obtain⟨g',cap',rfl,DY⟩:=eI.form (by omega)
    go_frame)
  |gi_round_op_a)
 have kP:(W2.alloc (.cells #[Qi x.f,Qi x.t,Qi x.k,Qi x.key] 94)).grownBy w3 (Value.ownBlock (.slice A ks.length c)):=eM;have zL:w3.heap[l]? =some (.loop {ZcZ fn sv Bs D .ready none with state:= .busy}):=(kP.block l (by simp;omega) (ne_of nC (fun cur e=>by cases e))).trans ((Below.heap_alloc _ _ l aN).trans nC);have pO:w3.heap[D]? =some (.deferred (some [])):=(kP.block D (by simp;omega) (ne_of vV (fun cur e=>by cases e))).trans ((Below.heap_alloc _ _ D tT).trans vV);obtain⟨w4,eq⟩:=Qe (w3.setCell ⟨Bs,0,none⟩ (.slice (some ⟨g',0,none⟩) (ks.length+1) cap'));rw[eq];have cQ:w3.grownBy w4 (some Bs):=by rw[<-eq];exact grownBy_setCell0_a _ _ _
 have ln:w4.heap[Bs]? =some (.cells #[.slice (some ⟨g',0,none⟩) (ks.length+1) cap'] 34 (0,0)):=by rw[<-eq];exact heap_setCell_box_a _ eZ
 have rU:=(cQ.block l (Array.getElem?_eq_some_iff.1 zL).1 (fun e=>v8 (by cases e;rfl))).trans zL;have Bl:w4.heap[D]? =some (.deferred (some [])):=(cQ.block D (Array.getElem?_eq_some_iff.1 pO).1 (fun e=>Ay (by cases e;rfl))).trans pO;have lv:=eI.kept cQ (ownsRow_ne_a eI eZ (fun cur e=>hne (Obj.cells.inj e).2.1));have oy:l<w4.heap.size:=(Array.getElem?_eq_some_iff.1 rU).1;have hb3:Below w0.heap.size w0 w3:=(hb2.alloc hb2.size _).grown kP (by have:=hb2.size;simp;omega) (fun k e=>(ig.lt k e).1);have kM:Below w0.heap.size w0 w4:=hb3.grown cQ hb3.size (fun k e=>by cases e;exact At);have vQ:KeepsWalks W w4:=(((hk1.trans hk2).trans (KeepsWalks.alloc _ _)).trans (KeepsWalks.of_grownBy kP (ownsRow_not_walk_a (ig.alloc _)))).trans (by rw[<-eq];exact KeepsWalks.setCell _ _ _);have lG:(ks++[x]).length=ks.length+1:=by simp
 clear eq;refine⟨_,_,run_endRound none rU,rfl,⟨⟨some ⟨g',0,none⟩,cap',?_,?_⟩,World.putObj_heap_same oy,(World.putObj_heap_other wT).trans Bl,kM.grown (grownBy_putObj_a _ _ _) kM.size (fun k e=>by cases e;exact x7)⟩,vQ.trans (KeepsWalks.putObj _ rU rfl)⟩
 ·rw[lG];exact(World.putObj_heap_other v8).trans ln
 ·have:=lv.kept (grownBy_putObj_a w4 l (.loop {{ZcZ fn sv Bs D .ready none with state:= .busy}with state:=if (none:Option Code).isNone then .ready else .done,pending:=none})) (ownsRow_ne_a lv rU (fun cur e=>by cases e));rw[lG,<-Zpd];exact this
end
/- slices.Collect(maps.Keys(m))at edges:the contract. -/
section
open Go.RowKit Go.Maps Go.Sort Go.Shelf
theorem Zqm(F:Fence)(n:Nat)(vP:F.fn 117)(fK:F.round=none)(hn:2<=n)(g:Nat)(lb:Gj)(Ch:F.fn g)(eg:∀args w,(callFunc g args).run Tryz.prog w= .ok (.enter g args) w)
  (S:List Edge->Prop) (N:Nat) (hN:N<=1000000) (w:Gy) (wS:SeqGives F (n-1) Tryz.prog g lb Zad S N w):
  CallsIn F n Tryz.prog 117 #[.slice none 0 0,.func (.func g) #[] lb] w fun e w'=>∃(A:OA) (c:Nat) (ks:List Edge),e= .returned (.slice A ks.length c)∧S ks∧w'.ownsRow w.heap.size 94 4 (.slice A ks.length c) ks.length (ks.map Edge.cells).flatten∧Below w.heap.size w w':=by
 have h1:1<=n:=by omega
 have hne:(34:Nat)≠94:=by decide
 refine callsIn_of_wp_marks Tryz.func117 rfl vP ?_ fK;simp only[Tryz.ntmps117,List.size_toArray,Fs,Fz,Nat.reduceAdd,Nat.reduceSub,Array.replicate_succ,Array.replicate_zero,List.push_toArray,List.append_toArray,Fy,List.cons_append]
 gi_wp2
 refine wpIn_rangeFunc ?_;intro fn ms;rw[fK];obtain⟨W0,hW0⟩:=Qe (w.alloc (.cells #[.slice none 0 0] 34));have uB:W0.heap.size=w.heap.size+1:=by rw[<-hW0];simp
 have hv0:W0.heap[w.heap.size]? =some (.cells #[.slice none 0 0] 34 (0,0)):=by rw[<-hW0];exact World.alloc_heap_new w _
 have hb0:Below w.heap.size w W0:=by rw[<-hW0];exact(Below.refl _ w).alloc (Nat.le_refl _) _
 rw[hW0];obtain⟨W1,jB⟩:∃W1,(W0.alloc (.deferred (some []))).alloc (.loop (ZcZ fn (.func (.func g) #[] lb) w.heap.size W0.heap.size .ready none))=W1:=⟨_,rfl⟩
 have hold:∀k,k<W0.heap.size->W1.heap[k]? =W0.heap[k]? :=fun k hk=>by
  rw[<-jB];exact(Below.heap_alloc _ _ k (by simp;omega)).trans (Below.heap_alloc _ _ k hk)
 have hb1:Below w.heap.size w W1:=by rw[<-jB];exact(hb0.alloc hb0.size _).alloc (by have:=hb0.size;simp;omega) _
 have mW:W1.heap.size=W0.heap.size+2:=by rw[<-jB];simp
 have hM:ColAt w fn (.func (.func g) #[] lb) w.heap.size (W0.heap.size+1) W0.heap.size [] W1:=
  ⟨⟨none,0,(hold w.heap.size (by omega)).trans hv0,Gf _ _ _ _⟩,
   by rw[<-jB];have:=World.alloc_heap_new (W0.alloc (.deferred (some []))) (.loop (ZcZ fn (.func (.func g) #[] lb) w.heap.size W0.heap.size .ready none));rwa [Ge]at this,
   by rw[<-jB];exact(Below.heap_alloc _ _ _ (by simp)).trans (World.alloc_heap_new W0 _),hb1⟩
 refine⟨W0.heap.size+1,[{target:= .collected W0.heap.size,args:= #[]}],W1,{target:= .fn (.func g) lb,args:= #[.func (.yield (W0.heap.size+1)) #[] #[]]},W1,g,
  #[.func (.yield (W0.heap.size+1)) #[] #[]]++lb,W1,?_,?_,?_,?_,fun _=>h1,?_⟩
 ·rw[<-jB];exact run_enterLoop_outer _ _ _ _ _
 ·simp[resolve,go_sem]
 ·intro f' yM;simp[Target.leads]at yM;subst yM;exact Ch
 ·simp[invoke,go_sem,eg]
 ·refine(wS (W0.heap.size+1) (ColAt w fn (.func (.func g) #[] lb) w.heap.size (W0.heap.size+1) W0.heap.size) W1 hb1 (ZoC _ _ _ _ _ _ _ hb1.size)
   (fun pre x W hJ hl=>ZrX F (n-1-1) w fn ms _ w.heap.size (W0.heap.size+1) W0.heap.size (by omega) (by omega) (by omega) (Nat.le_refl _) (by omega) N hN pre x W hJ hl) hM).mono ?_
  rintro e W2 ⟨⟨v0,rfl⟩,ks,hS,h2⟩;obtain⟨A,c,hv,hrow⟩:=h2.box;have qJ:=run_endLoop (P:=Tryz.prog) h2.L (by simp[ZcZ]);obtain⟨W3,qO⟩:∃W3,W2.putObj (W0.heap.size+1) (.loop {ZcZ fn (.func (.func g) #[] lb) w.heap.size W0.heap.size .ready none with state:= .exhausted})=W3:=⟨_,rfl⟩;rw[qO]at qJ;have eM:W2.grownBy W3 (some (W0.heap.size+1)):=by rw[<-qO];exact grownBy_putObj_a _ _ _
  have eZ:W3.heap[w.heap.size]? =some (.cells #[.slice A ks.length c] 34 (0,0)):=by rw[<-qO];exact(World.putObj_heap_other (by omega)).trans hv
  have pO:W3.heap[W0.heap.size]? =some (.deferred (some [])):=by rw[<-qO];exact(World.putObj_heap_other (by omega)).trans h2.K
  have mr:=hrow.kept eM (ownsRow_ne_a hrow h2.L (fun cur e=>by cases e));have hb3:Below w.heap.size w W3:=h2.below.grown eM h2.below.size (fun k e=>by cases e;omega);obtain⟨sJ,Aq⟩:=cell_of_box_a eZ;clear qO;refine⟨none,W3,qJ,?_⟩
  gi_wp2
  rw[<-uB];refine⟨by simp,.inl ⟨_,_,rfl,run_takeDeferred pO,?_⟩⟩;exact⟨_,results_tmp rfl _ _ _,A,c,ks,rfl,hS,mr.kept (grownBy_putObj_a _ _ _) (ownsRow_ne_a mr pO (fun cur e=>by cases e)),hb3.grown (grownBy_putObj_a _ _ _) hb3.size (fun k e=>by cases e;omega)⟩
theorem Zon:∀args w,(callFunc 117 args).run Tryz.prog w= .ok (.enter 117 args) w:=enters_of Tryz.func117 (by kernel_rfl) rfl
theorem Zml:∀args w,(callFunc 118 args).run Tryz.prog w= .ok (.enter 118 args) w:=enters_of Tryz.func118 (by kernel_rfl) rfl
theorem ZrS(w:Gy)(Bm b:Nat)(m:List (Edge×Gz))(hm:w.cell? ⟨Bm,0,none⟩=some (.map (some b)))(iy:MapE w b Zad m)(hl:m.length<=1000000):
  Calls Tryz.prog 76 #[.func (.func 118) #[] #[.pointer (some ⟨Bm,0,none⟩)]] w fun e w'=>∃(A:OA) (c:Nat) (ks:List Edge),e= .returned (.slice A ks.length c)∧ks.Perm (m.map (·.1))∧w'.ownsRow w.heap.size 94 4 (.slice A ks.length c) ks.length (ks.map Edge.cells).flatten∧Upd No w w':=by
 have e11:=Zon;have zm:Bm<w.heap.size:=block_lt_of_cell (a:=⟨Bm,0,none⟩) hm
 have HS:Hid (SeqGives Fence.wide (5-1-1) Tryz.prog 118 #[.pointer (some ⟨Bm,0,none⟩)] Zad (fun ks=>ks.Perm (m.map (·.1))) m.length w):=Qh fun l J W hW hJ hY h0=>
  Zur Fence.wide (5-1-1) trivial rfl (by omega) l Bm b m J hY W hJ ((hW.cell (p:=⟨Bm,0,none⟩) zm).trans hm) (iy.upd (S:=No) (Upd.of_below hW) id) h0
 have HC:=Qh (Zqm Fence.wide (5-1) trivial rfl (by omega) 118 #[.pointer (some ⟨Bm,0,none⟩)] trivial Zml _ m.length hl w HS.out);have rl:Fence.wide.fn 117:=trivial;clear hm iy zm;refine(callsIn_wide (n:=5)).1 ?_;refine callsIn_of_wp Tryz.func76 rfl trivial ?_ rfl;simp only[Tryz.ntmps76,List.size_toArray,Fs,Fz,Nat.reduceAdd,Nat.reduceSub,Array.replicate_succ,Array.replicate_zero,List.push_toArray,List.append_toArray,Fy,List.cons_append]
 gi_wp2_with (gi_at_fn 117;refine HC.out.mono ?_;rintro e w' ⟨A,c,ks,rfl,hS,hrow,hb⟩)
 go_ret;exact⟨A,c,ks,rfl,hS,hrow,Upd.of_below hb⟩
theorem ZvC(w:Gy)(mb:Option Nat):Calls Tryz.prog 77 #[.map mb] w fun e w'=>e= .returned (.func (.func 118) #[] #[.pointer (some ⟨w.heap.size,0,none⟩)])∧w.alloc (.cells #[.map mb] 98)=w':=by
 go_enter Tryz.func77,Tryz.ntmps77;go_wp2;go_ret;exact⟨rfl,rfl⟩
end
