/- Maps that the calls themselves make: an entry that is looked for, or laid, and stored into (m[k]++). -/
import Derived.WideKeyEntry
import Derived.Shelf.SlIter.Collect
import Derived.Test.YtadmgiljchgccaaGreatTcae
namespace Go.Proofs.YtadmgiljchgccaaGreat
open Go.RowKit
set_option linter.unusedVariables false
set_option linter.unusedSimpArgs false
set_option maxRecDepth 100000
set_option maxHeartbeats 4000000
def MapE{α:Type}(w:I0)(b:Nat)(enc:α->Iz)(m:List (α×Iz)):Prop:=
 ∃es clock,w.heap[b]? =some (.map es clock)∧es.toList.map (fun e=>(e.key,e.val))=m.map (fun p=>(enc p.1,p.2))∧(∀x∈es.toList,x.born<clock)∧(es.toList.map (·.born)).Nodup
section
variable {α:Type} {P:Ix} {w w':I0} {b:Nat} {enc:α->Iz} {m:List (α×Iz)} {S:Iw} {t kt et:Iy}
theorem MapE.is(h:MapE w b enc m):MapIs w b enc m:=by
 obtain⟨es,c,hb,he,_⟩:=h;exact⟨es,c,hb,he⟩
theorem MapE.lt(h:MapE w b enc m):b<w.heap.size:=h.is.lt
theorem MapE.upd(h:MapE w b enc m)(k:Upd S w w')(hn:¬S b):MapE w' b enc m:=by
 have hl:=h.lt;obtain⟨es,c,hb,he⟩:=h;exact⟨es,c,(k.block b hl hn).trans hb,he⟩
theorem MapE.new(w:I0)(enc:α->Iz):MapE (w.alloc (.map #[] 0)) w.heap.size enc ([]:List (α×Iz)):=⟨#[],0,heap_alloc_new w _,rfl,by simp,by simp⟩
theorem Zg8{es:Array MapEntry}{clock:Nat}(h1:∀x∈es.toList,x.born<clock)(h2:(es.toList.map (·.born)).Nodup)(key val:Iz):
  (∀x∈(es.push {key:=key,val:=val,born:=clock}).toList,x.born<clock+1)∧((es.push {key:=key,val:=val,born:=clock}).toList.map (·.born)).Nodup:=by
 rw[Array.toList_push]
 constructor
 ·intro x hx;rcases Ib.1 hx with hx|hx
  ·have:=h1 x hx;omega
  ·simp only[Gq]at hx;subst hx;simp
 ·rw[Hu,List.nodup_append];refine⟨h2,by simp,fun a ha c hc e1=>?_⟩;simp only[Id,List.map_nil,Gq]at hc;obtain⟨x,hx,rfl⟩:=Ih.1 ha;have:=h1 x hx;omega
theorem ZmZ{es:Array MapEntry}{clock:Nat}(i:Nat)(f:MapEntry->MapEntry)(hf:∀e,(f e).born=e.born)(h1:∀x∈es.toList,x.born<clock)(h2:(es.toList.map (·.born)).Nodup):
  (∀x∈(es.modify i f).toList,x.born<clock)∧((es.modify i f).toList.map (·.born)).Nodup:=by
 have e:(es.modify i f).toList.map (·.born)=es.toList.map (·.born):=by
  rw[Array.toList_modify]
  apply List.ext_getElem?
  intro j;simp only[List.getElem?_map,List.getElem?_modify]
  by_cases hij:i=j
  ·subst hij
   cases es.toList[i]? <;>simp[hf]
  ·simp[hij]
 refine⟨fun x hx=>?_,by rw[e];exact h2⟩;have:x.born∈(es.modify i f).toList.map (·.born):=Ih.2 ⟨x,hx,rfl⟩;rw[e]at this;obtain⟨y,hy,h⟩:=Ih.1 this;rw[<-h];exact h1 y hy
end
section
variable {α:Type} [DecidableEq α] {P:Ix} {w w':I0} {b:Nat} {enc:α->Iz} {m:List (α×Iz)} {S:Iw} {t kt et:Iy}
omit [DecidableEq α] in
theorem ZjM{es:Array MapEntry}{m:List (α×Iz)}{r:Nat×Iz}{a:α}(v:Iz)(he:es.toList.map (fun e=>(e.key,e.val))=m.map (fun p=>(enc p.1,p.2)))(hr:m[r.1]? =some (a,r.2))(f:MapEntry->MapEntry)(hf:∀e,e.key=enc a->(f e).key=enc a∧(f e).val=v):
  (es.modify r.1 f).toList.map (fun e=>(e.key,e.val))=(m.modify r.1 fun p=>(p.1,v)).map (fun p=>(enc p.1,p.2)):=by
 rw[Array.toList_modify]
 apply List.ext_getElem?
 intro j;have hj:(es.toList.map (fun e=>(e.key,e.val)))[j]? =(m.map (fun p=>(enc p.1,p.2)))[j]? :=by rw[he]
 simp only[List.getElem?_map,List.getElem?_modify]at hj ⊢
 by_cases hij:r.1=j
 ·subst hij;rw[hr]at hj ⊢
  cases h1:es.toList[r.1]? with
  |none=>rw[h1]at hj;simp at hj
  |some e0=>
   rw[h1]at hj;simp only[Option.map_some,Gy,Ig]at hj;have:=hf e0 hj.1;simp[this.1,this.2]
 ·cases h1:es.toList[j]? <;>cases h2:m[j]? <;>rw[h1,h2]at hj<;>simp_all
theorem Zdr(K:KeyBy P kt enc)(ht:P.underlying t=some (.map kt et)){z:Iz}(hz:∀w:I0,(zeroValue et).run P w= .ok z w)(h:MapE w b enc m)(a:α):
  ∃st w2,(Instr.mapEntry t (.map (some b)) (enc a)).run P w= .ok (.tuple #[(ZX m a).getD z,goInt st]) w2∧MapE w2 b enc (ZI m a ((ZX m a).getD z))∧Upd (One b) w w2∧
   ∀v,∃w3,(Instr.entryStore t (.map (some b)) (goInt st) v).run P w2= .ok () w3∧MapE w3 b enc (ZI m a v)∧Upd (One b) w w3:=by
 have hl:=h.lt;obtain⟨es,c,hb,he,gS,hnd⟩:=h
 cases hlk:look a m 0 with
 |none=>
  have hg:(ZX m a).getD z=z:=by unfold ZX;rw[hlk];rfl
  have hp:∀v,ZI m a v=m++[(a,v)]:=fun v=>by simp[ZI,hlk]
  rw[hg];have hB:=Zg8 gS hnd (enc a) z
  have bZ:({w with heap:=w.heap.setIfInBounds b (.map (es.push {key:=enc a,val:=z,born:=c}) (c+1))}:I0).heap[b]? =some (.map (es.push {key:=enc a,val:=z,born:=c}) (c+1)):=by
   show(w.heap.setIfInBounds b _)[b]? =_
   simp[hl]
  refine⟨c,{w with heap:=w.heap.setIfInBounds b (.map (es.push {key:=enc a,val:=z,born:=c}) (c+1))},?_,⟨_,_,bZ,?_,hB⟩,ZaF w b _,fun v=>?_⟩
  ·simp only[Instr.mapEntry,run_underlying ht,Sem.run_bind,Result.andThen,run_getObj_map w b es c hb,K.check,K.find w a _ _ he,hlk,hz];rw[Go.MapKept.run_setObj_map _ hb];rfl
  ·rw[hp];simp[he]
  ·have eJ:(es.push {key:=enc a,val:=z,born:=c}).findIdx? (fun e=>((e.born:Nat):Int)==((c:Nat):Int))=some es.size:=by
    rw[Go.WideElems.findIdx_arr];exact Go.WideElems.findIdx_born (l:=(es.push {key:=enc a,val:=z,born:=c}).toList) (j:=es.size) (e0:={key:=enc a,val:=z,born:=c}) hB.2 (by simp)
   have vI:(es.push {key:=enc a,val:=z,born:=c}).modify es.size (fun e=>{e with val:=v})=es.push {key:=enc a,val:=v,born:=c}:=by
    apply Array.ext'
    rw[Array.toList_modify,Array.toList_push,Array.toList_push,<-Array.length_toList,Go.WideElems.modify_last]
   generalize hW:({w with heap:=w.heap.setIfInBounds b (.map (es.push {key:=enc a,val:=z,born:=c}) (c+1))}:I0)=w2 at bZ;have hu2:Upd (One b) w w2:=by rw[<-hW];exact ZaF w b _
   refine⟨{w2 with heap:=w2.heap.setIfInBounds b (.map (es.push {key:=enc a,val:=v,born:=c}) (c+1))},?_,⟨_,_,?_,?_,Zg8 gS hnd (enc a) v⟩,hu2.trans (ZaF w2 b _)⟩
   ·simp[Instr.entryStore,Go.MapKept.run_getObj_map bZ,asInt,asIntOf,goInt,eJ,vI,Go.MapKept.run_setObj_map _ bZ,Result.andThen]
   ·show(w2.heap.setIfInBounds b _)[b]? =_
    have:b<w2.heap.size:=Gu hl hu2.size;simp[this]
   ·rw[hp];simp[he]
 |some r=>
  obtain⟨_,hr⟩:=ZeC a m 0 r hlk;rw[Nat.sub_zero]at hr;have hg:(ZX m a).getD z=r.2:=by unfold ZX;rw[hlk];rfl
  have hp:∀v,ZI m a v=m.modify r.1 fun p=>(p.1,v):=fun v=>by simp[ZI,hlk]
  rw[hg];have mm:(es.toList.map (fun e=>(e.key,e.val)))[r.1]? =some (enc a,r.2):=by rw[he,List.getElem?_map,hr];rfl
  rw[List.getElem?_map,Option.map_eq_some_iff]at mm;obtain⟨e0,f7,cX⟩:=mm;have hk0:e0.key=enc a:=congrArg Prod.fst cX;have hv0:e0.val=r.2:=congrArg Prod.snd cX
  have bJ:((es[r.1]?).map (·.key)).getD (enc a)=enc a:=by
   rw[<-Array.getElem?_toList,f7]
   simpa using hk0
  have EV:((es[r.1]?).map (fun x=>((x.born:Nat):Int))).getD 0=((e0.born:Nat):Int):=by
   rw[<-Array.getElem?_toList,f7];rfl
  have sE:es.modify r.1 (fun e=>{e with key:=enc a})=es:=by
   apply Array.ext'
   rw[Array.toList_modify,Go.ChangeMaps.modify_eq_set _ _ _ _ f7];have:({e0 with key:=enc a}:MapEntry)=e0:=by rw[<-hk0]
   rw[this];exact Go.WideElems.set_self _ _ _ f7
  refine⟨e0.born,{w with heap:=w.heap.setIfInBounds b (.map es c)},?_,⟨es,c,?_,?_,gS,hnd⟩,ZaF w b _,fun v=>?_⟩
  ·simp only[Instr.mapEntry,run_underlying ht,Sem.run_bind,Result.andThen,run_getObj_map w b es c hb,K.check,K.find w a _ _ he,hlk,bJ,EV,Instr.keyThatStays,K.bits,if_true,Sem.run_pure,sE];rw[Go.MapKept.run_setObj_map _ hb]
  ·show(w.heap.setIfInBounds b _)[b]? =_
   simp[hl]
  ·rw[hp,<-ZjM (enc:=enc) r.2 he hr (fun e=>{e with key:=enc a,val:=r.2}) (fun e _=>⟨rfl,rfl⟩),Array.toList_modify,Go.ChangeMaps.modify_eq_set _ _ _ _ f7];have:({e0 with key:=enc a,val:=r.2}:MapEntry)=e0:=by rw[<-hk0,<-hv0]
   rw[this,Go.WideElems.set_self _ _ _ f7]
  ·have eJ:es.findIdx? (fun e=>((e.born:Nat):Int)==((e0.born:Nat):Int))=some r.1:=by
    rw[Go.WideElems.findIdx_arr];exact Go.WideElems.findIdx_born hnd f7
   generalize hW:({w with heap:=w.heap.setIfInBounds b (.map es c)}:I0)=w2;have hu2:Upd (One b) w w2:=by rw[<-hW];exact ZaF w b _
   have bZ:w2.heap[b]? =some (.map es c):=by
    rw[<-hW]
    show(w.heap.setIfInBounds b _)[b]? =_
    simp[hl]
   refine⟨{w2 with heap:=w2.heap.setIfInBounds b (.map (es.modify r.1 fun e=>{e with val:=v}) c)},?_,⟨_,_,?_,?_,ZmZ r.1 (fun e=>{e with val:=v}) (fun _=>rfl) gS hnd⟩,hu2.trans (ZaF w2 b _)⟩
   ·simp[Instr.entryStore,Go.MapKept.run_getObj_map bZ,asInt,asIntOf,goInt,eJ,Go.MapKept.run_setObj_map _ bZ,Result.andThen]
   ·show(w2.heap.setIfInBounds b _)[b]? =_
    have:b<w2.heap.size:=Gu hl hu2.size;simp[this]
   ·rw[hp];exact ZjM (enc:=enc) v he hr (fun e=>{e with val:=v}) (fun e h=>⟨h,rfl⟩)
theorem ZfT(K:KeyBy P kt enc)(ht:P.underlying t=some (.map kt et))(h:MapE w b enc m)(a:α)(v:Iz):
  ∃w',(Instr.mapUpdate t (.map (some b)) (enc a) v).run P w= .ok () w'∧MapE w' b enc (ZI m a v)∧Upd (One b) w w':=by
 have hl:=h.lt;obtain⟨es,c,hb,he,gS,hnd⟩:=h
 cases hlk:look a m 0 with
 |none=>
  refine⟨{w with heap:=w.heap.setIfInBounds b (.map (es.push {key:=enc a,val:=v,born:=c}) (c+1))},?_,⟨es.push {key:=enc a,val:=v,born:=c},c+1,?_,?_,Zg8 gS hnd (enc a) v⟩,ZaF w b _⟩
  ·simp only[Instr.mapUpdate,run_underlying ht,Sem.run_bind,Result.andThen,run_getObj_map w b es c hb,K.check,K.find w a _ _ he,hlk];exact Go.MapKept.run_setObj_map _ hb
  ·show(w.heap.setIfInBounds b _)[b]? =_
   simp[hl]
  ·simp[ZI,hlk,he]
 |some r=>
  obtain⟨_,hr⟩:=ZeC a m 0 r hlk;rw[Nat.sub_zero]at hr;have mm:(es.toList.map (fun e=>(e.key,e.val)))[r.1]? =some (enc a,r.2):=by rw[he,List.getElem?_map,hr];rfl
  rw[List.getElem?_map,Option.map_eq_some_iff]at mm;obtain⟨e0,f7,cX⟩:=mm
  have bJ:((es[r.1]?).map (·.key)).getD (enc a)=enc a:=by
   rw[<-Array.getElem?_toList,f7];simp only[Option.map_some,Option.getD_some];exact congrArg Prod.fst cX
  refine⟨{w with heap:=w.heap.setIfInBounds b (.map (es.modify r.1 fun e=>{e with key:=enc a,val:=v}) c)},?_,⟨es.modify r.1 fun e=>{e with key:=enc a,val:=v},c,?_,?_,ZmZ r.1 (fun e=>{e with key:=enc a,val:=v}) (fun _=>rfl) gS hnd⟩,ZaF w b _⟩
  ·simp only[Instr.mapUpdate,run_underlying ht,Sem.run_bind,Result.andThen,run_getObj_map w b es c hb,K.check,K.find w a _ _ he,hlk,bJ,Instr.keyThatStays,K.bits,if_true,Sem.run_pure];exact Go.MapKept.run_setObj_map _ hb
  ·show(w.heap.setIfInBounds b _)[b]? =_
   simp[hl]
  ·rw[show ZI m a v=m.modify r.1 fun p=>(p.1,v) by simp[ZI,hlk]];exact ZjM (enc:=enc) v he hr (fun e=>{e with key:=enc a,val:=v}) (fun e h=>⟨rfl,rfl⟩)
end
/- A range over a map that the call itself made:the entries come in whatever order,each once. -/
def Iter{α:Type}(w:I0)(r b:Nat)(enc:α->Iz)(m left:List (α×Iz)):Prop:=
 ∃es clock since c0 seen,w.heap[r]? =some (.mapIter (some b) since seen c0)∧w.heap[b]? =some (.map es clock)∧es.toList.map (fun e=>(e.key,e.val))=m.map (fun p=>(enc p.1,p.2))∧
  (∀x∈es.toList,x.born<since)∧since<=c0∧since<=clock∧(es.toList.map (·.born)).Nodup∧(leftOf es seen).toList.map (fun e=>(e.key,e.val))=left.map (fun p=>(enc p.1,p.2))
section
variable {α:Type} {P:Ix} {w w':I0} {r b:Nat} {enc:α->Iz} {m left:List (α×Iz)} {S:Iw} {t kt et:Iy}
theorem Iter.upd(h:Iter w r b enc m left)(k:Upd S w w')(hr:¬S r)(hb:¬S b):Iter w' r b enc m left:=by
 obtain⟨es,clock,since,c0,seen,h1,h2,h3⟩:=h;exact⟨es,clock,since,c0,seen,(k.block r (Array.getElem?_eq_some_iff.1 h1).1 hr).trans h1,(k.block b (Array.getElem?_eq_some_iff.1 h2).1 hb).trans h2,h3⟩
theorem Zo3(ht:P.underlying t=some (.map kt et))(h:MapE w b enc m):
  ∃w',(Instr.range t (.map (some b))).run P w= .ok (.pointer (some ⟨w.heap.size,0,none⟩)) w'∧Iter w' w.heap.size b enc m m∧Upd No w w'∧w'.heap.size=w.heap.size+1:=by
 obtain⟨es,clock,hb,he,gS,hnd⟩:=h;refine⟨_,run_range_map w t kt et b es clock ht hb,⟨es,clock,clock,clock,#[],heap_alloc_new w _,?_,he,gS,Nat.le_refl _,Nat.le_refl _,hnd,?_⟩,(Il No w).alloc _,by simp⟩
 ·exact(Below.heap_alloc w _ b (Array.getElem?_eq_some_iff.1 hb).1).trans hb
 ·rw[<-he];unfold leftOf;rw[Array.toList_filter]
  congr 1
  exact List.filter_eq_self.2 fun x _=>by simp
theorem ZqX(es:Array MapEntry)(seen:Array Nat)(e:MapEntry):(leftOf es (seen.push e.born)).toList=(leftOf es seen).toList.filter fun x=> !(x.born==e.born):=by
 unfold leftOf;rw[Array.toList_filter,Array.toList_filter,List.filter_filter];refine List.filter_congr fun x _=>?_
 rw[contains_push]
 cases seen.contains x.born<;>cases x.born==e.born<;>rfl
theorem Zpc{l:List MapEntry}(hn:(l.map (·.born)).Nodup){e:MapEntry}(he:e∈l):∃a b,l=a++e::b∧(l.filter fun x=> !(x.born==e.born))=a++b:=by
 obtain⟨a,b,rfl⟩:=List.append_of_mem he;refine⟨a,b,rfl,?_⟩;rw[Hu,Id,List.nodup_append,H3]at hn;have ha:∀x∈a,x.born≠e.born:=fun x hx=>hn.2.2 x.born (Ih.2 ⟨x,hx,rfl⟩) e.born (by simp)
 have hb:∀x∈b,x.born≠e.born:=fun x hx h=>hn.2.1.1 (h▸Ih.2 ⟨x,hx,rfl⟩)
 rw[List.filter_append,List.filter_cons_of_neg (by simp),List.filter_eq_self.2 (fun x hx=>by simpa using ha x hx),List.filter_eq_self.2 (fun x hx=>by simpa using hb x hx)]
theorem Zq4(h:Iter w r b enc m left):
  (left=[]∧∀ty,(Instr.next (.pointer (some ⟨r,0,none⟩)) false ty).run P w= .ok (.tuple #[.bool false]) w)∨
  ∃l1 p l2 w',left=l1++p::l2∧(∀ty,(Instr.next (.pointer (some ⟨r,0,none⟩)) false ty).run P w= .ok (.tuple #[.bool true,enc p.1,p.2]) w')∧Iter w' r b enc m (l1++l2)∧Upd (One r) w w'∧w'.heap.size=w.heap.size∧
   ∀W,Upd No w' W->(Instr.entry (.pointer (some ⟨r,0,none⟩))).run P W= .ok (.tuple #[enc p.1,p.2]) W:=by
 obtain⟨es,clock,since,c0,seen,h1,h2,h3,h4,h5,Av,h6,h7⟩:=h;have kU:=(Array.getElem?_eq_some_iff.1 h1).1;rcases run_next_at (P:=P) w 0 r b since c0 seen es clock h1 h2 h4 h5 with ⟨hz,dI⟩|⟨e,he,w1,ap,dI⟩
 ·left
  refine⟨?_,fun _=>dI⟩;have hl:=congrArg List.length h7;rw[Hw,Hw,Array.length_toList,hz]at hl;exact Gd hl.symm
 ·right
  have i8:((leftOf es seen).toList.map (·.born)).Nodup:=by
   unfold leftOf;rw[Array.toList_filter];exact h6.sublist (List.filter_sublist.map _)
  obtain⟨a,c,pv,pr⟩:=Zpc i8 he;rw[pv,Hu,Id]at h7;obtain⟨l1,l2',rfl,ha,bC⟩:=List.append_eq_map_iff.1 h7;obtain⟨p,l2,rfl,hp,aS⟩:=List.map_eq_cons_iff.1 bC;have hkey:e.key=enc p.1:=(congrArg Prod.fst hp).symm;have bP:e.val=p.2:=(congrArg Prod.snd hp).symm;have Dj:r≠b:=fun hh=>by rw[hh,h2]at h1;cases h1
  have mZ:w1.heap=w.heap:=by rcases ap with rfl|rfl<;>rfl
  have hu:Upd (One r) w (Go.ChangeMaps.setBlock w1 r (.mapIter (some b) since (seen.push e.born) clock)):=by
   have h8:Upd (One r) w w1:=by rcases ap with rfl|rfl;exact Il _ _;exact(Il _ _).drew
   exact h8.trans (ZaF w1 r _)
  rw[hkey,bP]at dI
  have g1:(Go.ChangeMaps.setBlock w1 r (.mapIter (some b) since (seen.push e.born) clock)).heap[r]? =some (.mapIter (some b) since (seen.push e.born) clock):=by
   show(w1.heap.setIfInBounds r _)[r]? =_
   rw[mZ];simp[kU]
  have g2:(Go.ChangeMaps.setBlock w1 r (.mapIter (some b) since (seen.push e.born) clock)).heap[b]? =some (.map es clock):=by
   show(w1.heap.setIfInBounds r _)[b]? =_
   rw[mZ,Array.getElem?_setIfInBounds_ne Dj];exact h2
  have cX:e∈es.toList:=(mem_left he).1;refine⟨l1,p,l2,_,rfl,fun _=>dI,⟨es,clock,since,clock,seen.push e.born,g1,g2,h3,h4,Av,Av,h6,?_⟩,hu,?_,fun W hW=>?_⟩
  ·rw[ZqX,pr,Hu,Hu,ha,aS]
  ·show(w1.heap.setIfInBounds r _).size=_
   rw[mZ];simp
  ·have k1:=(hW.block r (Array.getElem?_eq_some_iff.1 g1).1 id).trans g1;have k2:=(hW.block b (Array.getElem?_eq_some_iff.1 g2).1 id).trans g2;rw[run_entry_at W r b since seen es clock e k1 k2 cX h6,hkey,bP]
end
/- slices.Collect(maps.Keys(m))at edges:the keys come,each once,in some order. -/
section
open Go.RowKit Go.Maps Go.Sort Go.Shelf
theorem Zrb{w w':I0}{r:Nat}(h:Upd (One r) w w'):w.grownBy w' (some r):=⟨h.os,h.tape,h.output,h.size,fun k hk hne=>h.block k hk (fun e=>hne (by unfold One at e;rw[e]))⟩
theorem Zii{w w':I0}(h:Upd No w w'):w.grownBy w' none:=⟨h.os,h.tape,h.output,h.size,fun k hk _=>h.block k hk id⟩
section
variable {α:Type} {w w':I0} {r b:Nat} {enc:α->Iz} {m left:List (α×Iz)}
theorem Iter.left_eq(h:Iter w r b enc m left):w.rangeLeft b r=left.length:=by
 obtain⟨es,clock,since,c0,seen,h1,h2,_,_,_,_,_,h7⟩:=h;simp only[World.rangeLeft,h1,h2];have:=congrArg List.length h7
 simpa using this
theorem Iter.walks(h:Iter w r b enc m left)(k:KeepsWalks w w'):Iter w' r b enc m left:=by
 obtain⟨es,clock,since,c0,seen,h1,h2,h3⟩:=h;exact⟨es,clock,since,c0,seen,k.same r _ h1 rfl,k.same b _ h2 rfl,h3⟩
theorem Iter.walk(h:Iter w r b enc m left):∃o:Obj,w.heap[r]? =some o∧o.isWalk=true:=by
 obtain⟨es,clock,since,c0,seen,h1,_⟩:=h;exact⟨_,h1,rfl⟩
end
def Zaa(x:Edge):Iz:= .agg #[Qi x.f,Qi x.t,Qi x.k,Qi x.key]
theorem Zwc(F:Fence)(n:Nat)(hF:F.fn 193)(eD:F.round=none)(hn:1<=n)(l Bm b:Nat)(m:List (Edge×Iz))(J:List Edge->I0->Prop)
  (hY:∀pre x W,J pre W->pre.length<m.length->YieldAt F (n-1) Tryz.prog l #[Zaa x] W fun e W'=>e= .returned (.bool true)∧J (pre++[x]) W'∧KeepsWalks W W')
  (W:I0) (hJ:AbidesFrom W.heap.size J) (hm:W.cell? ⟨Bm,0,none⟩=some (.map (some b))) (iV:MapE W b Zaa m) (h0:J [] W):
  CallsIn F n Tryz.prog 193 #[.func (.yield l) #[] #[],.pointer (some ⟨Bm,0,none⟩)] W fun e W'=>(∃v,e= .returned v)∧∃ks:List Edge,ks.Perm (m.map (·.1))∧J ks W':=by
 obtain⟨w0,D7,sL,fC,tW⟩:=Zo3 (P:=Tryz.prog) Tryz.underlying130 iV;have Ai:J [] w0:=hJ [] W w0 none h0 (Zii fC) (fun r e=>by cases e);clear tW;refine callsIn_of_wp Tryz.func193 rfl hF ?_ eD;simp only[Tryz.ntmps193,List.size_toArray,G1,Hv,Nat.reduceAdd,Nat.reduceSub,Array.replicate_succ,Array.replicate_zero,List.push_toArray,List.append_toArray,H8,List.cons_append]
 gi_wp2
 gi_loopw [3] (fun _ wr=>∃(left:List (Edge×Iz)) (ks:List Edge),Iter wr W.heap.size b Zaa m left∧(ks++left.map (·.1)).Perm (m.map (·.1))∧J ks wr)
  (fun _ wr=>wr.rangeLeft b W.heap.size)
 case atStart=>exact⟨m,[],sL,by simp,Ai⟩
 case round=>
  clear D7 Ai sL fC;obtain⟨left,ks,hit,eU,Bt⟩:=hrel;rcases Zq4 (P:=Tryz.prog) hit with ⟨rfl,mM⟩|⟨l1,p,l2,w2,rfl,mM,qC,hu2,fy,sw⟩
  ·gi_wp2
   go_end0
   exact⟨⟨_,rfl⟩,ks,by simpa using eU,Bt⟩
  ·obtain⟨x,v⟩:=p;have mt:=sw w2 (Il _ _);obtain⟨w3,fp⟩:=Qe (w2.alloc (.cells #[Qi x.f,Qi x.t,Qi x.k,Qi x.key] 58));have u3:Upd No w2 w3:=by rw[<-fp];exact(Il No w2).alloc _
   have b3:Blk w3 w2.heap.size 58 [Qi x.f,Qi x.t,Qi x.k,Qi x.key]:=by rw[<-fp];exact Im w2 _ _
   obtain⟨d0,d1,d2,d3⟩:=b3.c4;have Dk:J ks w2:=hJ ks _ w2 (some W.heap.size) Bt (Zrb hu2) (fun r e=>by cases e;exact⟨Nat.le_refl _,hit.walk⟩);have yD:J ks w3:=hJ ks w2 w3 none Dk (Zii u3) (fun r e=>by cases e);have au:ks.length<m.length:=by have:=eU.length_eq;simp at this;omega
   obtain⟨fn,tmps,assign,body,hy,hR⟩:=hY ks x w3 yD au;have p7:=qC.upd u3 id id;unfold Zaa at hy mM mt
   dsimp only at hy mM mt
   have CA:=Qh hit;have vZ:=Qh p7;have yj:=Qh eU;clear hit qC p7 eU fy hu2 sw au u3 b3
   gi_wp2
   refine hR.mono ?_;rintro e W3 ⟨rfl,Fc,wP⟩;have qV:=vZ.out.walks wP
   gi_wp2
   go_roundw
   case rel=>
    refine⟨l1++l2,ks++[x],qV,?_,Fc⟩;refine List.Perm.trans ?_ yj.out;simp only[Hu,Id,Gx,List.singleton_append];exact List.Perm.append_left ks List.perm_middle.symm
   case measure=>rw[qV.left_eq,CA.out.left_eq];simp
end
/- slices.Collect(maps.Keys(m))at edges:slices.AppendSeq,slices.Collect. -/
section
open Go.RowKit Go.Maps Go.Sort Go.Shelf
def Zg4:Code:=(Code.region 2 #[{dst:=some 5,op:=Op.alloc 58,type:=0,pos:= "iter.go:51",after:= #[],guard:=none},{dst:=none,op:=Op.store 58 (Operand.tmp 5) (Operand.tmp 7),type:=0,pos:= "iter.go:51",after:= #[{on:=0,ground:=Ground.data},{on:=0,ground:=Ground.phase}],guard:=none}] false)
def Zj2:Code:=(Code.block 1 (Code.region 3 #[{dst:=some 8,op:=Op.load 47 (Operand.tmp 2),type:=47,pos:= "iter.go:52",after:= #[],guard:=none},{dst:=some 9,op:=Op.load 58 (Operand.tmp 5),type:=58,pos:= "iter.go:52",after:= #[],guard:=none},{dst:=some 10,op:=Op.buildSlice 47 1 #[(0,Operand.tmp 9)],type:=47,pos:= "iter.go:52",after:= #[{on:=1,ground:=Ground.data}],guard:=none},{dst:=some 11,op:=Op.call {callee:=Callee.builtin Builtin.append,args:= #[Operand.tmp 8,Operand.tmp 10],argTypes:= #[47,47]},type:=47,pos:= "iter.go:52",after:= #[{on:=0,ground:=Ground.data},{on:=2,ground:=Ground.data}],guard:=none},{dst:=none,op:=Op.store 47 (Operand.tmp 2) (Operand.tmp 11),type:=0,pos:= "iter.go:52",after:= #[{on:=3,ground:=Ground.data},{on:=3,ground:=Ground.chain},{on:=0,ground:=Ground.phase},{on:=1,ground:=Ground.phase},{on:=2,ground:=Ground.phase},{on:=3,ground:=Ground.phase}],guard:=none}] false))
def Zda(fn:FuncId)(sv:Iz)(Bs D:Nat)(st:LoopState)(pend:Option Code):Loop:=
 {state:=st,pending:=pend,fn,tmps:= #[.slice none 0 0,sv,.pointer (some ⟨Bs,0,none⟩),undef,.slice none 0 0,undef,sv,undef,undef,undef,undef,undef,undef],params:= #[7],assign:=Zg4,body:=Zj2,defers:=D}
structure ColAt (w0:World) (fn:FuncId) (sv:Value) (Bs l D:Nat) (ks:List Edge) (W:World):Prop where
 box:∃A c,W.heap[Bs]? =some (.cells #[.slice A ks.length c] 47 (0,0))∧W.ownsRow w0.heap.size 58 4 (.slice A ks.length c) ks.length (ks.map Edge.cells).flatten
 L:W.heap[l]? =some (.loop (Zda fn sv Bs D .ready none))
 K:W.heap[D]? =some (.deferred (some []))
 below:Below w0.heap.size w0 W
theorem Zpw(w0:I0)(fn:FuncId)(sv:Iz)(Bs l D B:Nat)(hB:w0.heap.size<=B):AbidesFrom B (ColAt w0 fn sv Bs l D):=fun s W W' row h hg aK=>by
 have iQ:∀r,row=some r->∃o:Obj,W.heap[r]? =some o∧o.isWalk=true:=fun r e=>(aK r e).2
 obtain⟨A,c,hv,hr⟩:=h.box
 exact⟨⟨A,c,(grownBy_keeps hg iQ hv rfl).trans hv,ownsRow_abides_a hr hg iQ⟩,(grownBy_keeps hg iQ h.L rfl).trans h.L,(grownBy_keeps hg iQ h.K rfl).trans h.K,
  h.below.grown hg h.below.size (fun k e=>Nat.le_trans hB (aK k e).1)⟩
theorem Zqc(ks:List Edge)(x:Edge):(ks.map Edge.cells).flatten++[Qi x.f,Qi x.t,Qi x.k,Qi x.key]=((ks++[x]).map Edge.cells).flatten:=by simp[Edge.cells]
theorem Ztz(F:Fence)(m:Nat)(w0:I0)(fn:FuncId)(iD:F.fn fn)(sv:Iz)(Bs l D:Nat)(ol:Bs≠l)(o7:D≠l)(yY:D≠Bs)(wI:w0.heap.size<=Bs)(rf:w0.heap.size<=l)
  (N:Nat) (hN:N<=1000000) (ks:List Edge) (x:Edge) (W:I0) (h:ColAt w0 fn sv Bs l D ks W) (au:ks.length<N):
  YieldAt F m Tryz.prog l #[Zaa x] W fun e W'=>e= .returned (.bool true)∧ColAt w0 fn sv Bs l D (ks++[x]) W'∧KeepsWalks W W':=by
 have hne:(47:Nat)≠58:=by decide
 obtain⟨ht,i0,z0,hi,iX,fG,eI,eY,fT⟩:=ZbY;obtain⟨A,c,hv,aK⟩:=h.box;refine⟨fn,#[.slice none 0 0,sv,.pointer (some ⟨Bs,0,none⟩),undef,.slice none 0 0,undef,sv,Zaa x,undef,undef,undef,undef,undef],Zg4,Zj2,by simpa[Zda]using run_yield (P:=Tryz.prog) (args:= #[Zaa x]) h.L rfl,roundIn_of_wpIn iD ?_⟩;have hl:l<W.heap.size:=(Array.getElem?_eq_some_iff.1 h.L).1;obtain⟨W1,eE⟩:=Qe (W.alloc (.cells #[Qi x.f,Qi x.t,Qi x.k,Qi x.key] 58));have u1:Upd No W W1:=by rw[<-eE];exact(Il No W).alloc _
 have dN:=Zii u1;have hk1:KeepsWalks W W1:=by rw[<-eE];exact KeepsWalks.alloc _ _
 have hE1:Blk W1 W.heap.size 58 [Qi x.f,Qi x.t,Qi x.k,Qi x.key]:=by rw[<-eE];exact Im W _ _
 have dS:=(u1.block Bs (Array.getElem?_eq_some_iff.1 hv).1 id).trans hv;have pE:=(u1.block D (Array.getElem?_eq_some_iff.1 h.K).1 id).trans h.K;have js:=(u1.block l hl id).trans h.L;have eX:=Za aK u1 Qo;have aX:Below w0.heap.size w0 W1:=h.below.grown dN h.below.size (fun k e=>by cases e);have EB:l≠W.heap.size:=by omega
 have aN:l<W1.heap.size:=Gu hl u1.size;have aB:=run_beginRound (P:=Tryz.prog) js rfl;obtain⟨W2,fP⟩:∃W2,W1.putObj l (.loop {Zda fn sv Bs D .ready none with state:= .busy})=W2:=⟨_,rfl⟩;rw[fP]at aB;have dF:W1.grownBy W2 (some l):=by rw[<-fP];exact grownBy_putObj_a _ _ _
 have hk2:KeepsWalks W1 W2:=by rw[<-fP];exact KeepsWalks.putObj _ js rfl
 have dH:W2.heap[Bs]? =some (.cells #[.slice A ks.length c] 47 (0,0)):=by rw[<-fP];exact(World.putObj_heap_other ol).trans dS
 have kV:W2.heap[D]? =some (.deferred (some [])):=by rw[<-fP];exact(World.putObj_heap_other o7).trans pE
 have f8:W2.heap[l]? =some (.loop {Zda fn sv Bs D .ready none with state:= .busy}):=by rw[<-fP];exact World.putObj_heap_same aN
 have Ez:Blk W2 W.heap.size 58 [Qi x.f,Qi x.t,Qi x.k,Qi x.key]:=by rw[<-fP];exact(World.putObj_heap_other (fun e=>EB e.symm)).trans hE1
 have dQ:=eX.kept dF (ownsRow_ne_a eX js (fun cur e=>by cases e));have aS:Below w0.heap.size w0 W2:=aX.grown dF aX.size (fun k e=>by cases e;exact rf);obtain⟨gR,gN⟩:=cell_of_box_a dH;have xh:Bs<W2.heap.size:=(Array.getElem?_eq_some_iff.1 dH).1;have bC:l<W2.heap.size:=(Array.getElem?_eq_some_iff.1 f8).1;have yy:D<W2.heap.size:=(Array.getElem?_eq_some_iff.1 kV).1;obtain⟨d0,d1,d2,d3⟩:=Ez.c4
 have ne_of:∀{j:Nat} {o:Obj},W2.heap[j]? =some o->(∀cur,o≠.cells cur 58 (0,0))->some j≠Value.ownBlock (.slice A ks.length c):=fun hj hno=>by
  rcases ownsRow_ne_a dQ hj hno with e|e
  ·rw[e];simp
  ·exact fun e'=>e e'.symm
 clear fP;unfold Zg4 Zaa
 gi_wp2_with gi_round_op_a
 unfold Zj2;clear eE
 gi_wp2_with (first
  |(gi_at_builtin;refine wpListIn_append_own _ rfl _ _ 47 rfl w0.heap.size 58 i0 z0 4 32 ht hi iX fG eI eY (by decide) _ _ _ rfl (dQ.alloc _) ⟨W2.heap.size,0,none⟩ 1 1 [Qi x.f,Qi x.t,Qi x.k,Qi x.key] rfl rfl (fun j u hj=>Zah j u hj) (by simp[Value.oneCell']) (by simp only[maxLen];omega) (by omega) (by have:=aS.size;simp;omega) ?_;intro v' w3 eu gd rW
    have fW:w3.heap[Bs]? =some (.cells #[.slice A ks.length c] 47 (0,0)):=(gd.block Bs (by simp;omega) (ne_of dH (fun cur e=>hne (Obj.cells.inj e).2.1))).trans ((Below.heap_alloc _ _ Bs xh).trans dH);obtain⟨jv,vu⟩:=cell_of_box_a fW;obtain⟨g',cap',rfl,E3⟩:=eu.form (by omega)
    go_frame)
  |gi_round_op_a)
 have fe:(W2.alloc (.cells #[Qi x.f,Qi x.t,Qi x.k,Qi x.key] 58)).grownBy w3 (Value.ownBlock (.slice A ks.length c)):=gd;have ik:w3.heap[l]? =some (.loop {Zda fn sv Bs D .ready none with state:= .busy}):=(fe.block l (by simp;omega) (ne_of f8 (fun cur e=>by cases e))).trans ((Below.heap_alloc _ _ l bC).trans f8);have jx:w3.heap[D]? =some (.deferred (some [])):=(fe.block D (by simp;omega) (ne_of kV (fun cur e=>by cases e))).trans ((Below.heap_alloc _ _ D yy).trans kV);obtain⟨w4,cW⟩:=Qe (w3.setCell ⟨Bs,0,none⟩ (.slice (some ⟨g',0,none⟩) (ks.length+1) cap'));rw[cW];have dd:w3.grownBy w4 (some Bs):=by rw[<-cW];exact grownBy_setCell0_a _ _ _
 have xY:w4.heap[Bs]? =some (.cells #[.slice (some ⟨g',0,none⟩) (ks.length+1) cap'] 47 (0,0)):=by rw[<-cW];exact heap_setCell_box_a _ fW
 have d9:=(dd.block l (Array.getElem?_eq_some_iff.1 ik).1 (fun e=>ol (by cases e;rfl))).trans ik;have vB:w4.heap[D]? =some (.deferred (some [])):=(dd.block D (Array.getElem?_eq_some_iff.1 jx).1 (fun e=>yY (by cases e;rfl))).trans jx;have fY:=eu.kept dd (ownsRow_ne_a eu fW (fun cur e=>hne (Obj.cells.inj e).2.1));have v7:l<w4.heap.size:=(Array.getElem?_eq_some_iff.1 d9).1;have dp:Below w0.heap.size w0 w3:=(aS.alloc aS.size _).grown fe (by have:=aS.size;simp;omega) (fun k e=>(dQ.lt k e).1);have kH:Below w0.heap.size w0 w4:=dp.grown dd dp.size (fun k e=>by cases e;exact wI);have wP:KeepsWalks W w4:=(((hk1.trans hk2).trans (KeepsWalks.alloc _ _)).trans (KeepsWalks.of_grownBy fe (ownsRow_not_walk_a (dQ.alloc _)))).trans (by rw[<-cW];exact KeepsWalks.setCell _ _ _);have mw:(ks++[x]).length=ks.length+1:=by simp
 clear cW;refine⟨_,_,run_endRound none d9,rfl,⟨⟨some ⟨g',0,none⟩,cap',?_,?_⟩,World.putObj_heap_same v7,(World.putObj_heap_other o7).trans vB,kH.grown (grownBy_putObj_a _ _ _) kH.size (fun k e=>by cases e;exact rf)⟩,wP.trans (KeepsWalks.putObj _ d9 rfl)⟩
 ·rw[mw];exact(World.putObj_heap_other ol).trans xY
 ·have:=fY.kept (grownBy_putObj_a w4 l (.loop {{Zda fn sv Bs D .ready none with state:= .busy}with state:=if (none:Option Code).isNone then .ready else .done,pending:=none})) (ownsRow_ne_a fY d9 (fun cur e=>by cases e));rw[mw,<-Zqc];exact this
end
/- slices.Collect(maps.Keys(m))at edges:the contract. -/
section
open Go.RowKit Go.Maps Go.Sort Go.Shelf
theorem Zry(F:Fence)(n:Nat)(yM:F.fn 192)(eD:F.round=none)(hn:2<=n)(g:Nat)(lb:Io)(Es:F.fn g)(eg:∀args w,(callFunc g args).run Tryz.prog w= .ok (.enter g args) w)
  (S:List Edge->Prop) (N:Nat) (hN:N<=1000000) (w:I0) (ye:SeqGives F (n-1) Tryz.prog g lb Zaa S N w):
  CallsIn F n Tryz.prog 192 #[.slice none 0 0,.func (.func g) #[] lb] w fun e w'=>∃(A:OA) (c:Nat) (ks:List Edge),e= .returned (.slice A ks.length c)∧S ks∧w'.ownsRow w.heap.size 58 4 (.slice A ks.length c) ks.length (ks.map Edge.cells).flatten∧Below w.heap.size w w':=by
 have h1:1<=n:=by omega
 have hne:(47:Nat)≠58:=by decide
 refine callsIn_of_wp_marks Tryz.func192 rfl yM ?_ eD;simp only[Tryz.ntmps192,List.size_toArray,G1,Hv,Nat.reduceAdd,Nat.reduceSub,Array.replicate_succ,Array.replicate_zero,List.push_toArray,List.append_toArray,H8,List.cons_append]
 gi_wp2
 refine wpIn_rangeFunc ?_;intro fn iD;rw[eD];obtain⟨W0,hW0⟩:=Qe (w.alloc (.cells #[.slice none 0 0] 47));have tW:W0.heap.size=w.heap.size+1:=by rw[<-hW0];simp
 have hv0:W0.heap[w.heap.size]? =some (.cells #[.slice none 0 0] 47 (0,0)):=by rw[<-hW0];exact World.alloc_heap_new w _
 have hb0:Below w.heap.size w W0:=by rw[<-hW0];exact(Below.refl _ w).alloc (Nat.le_refl _) _
 rw[hW0];obtain⟨W1,eE⟩:∃W1,(W0.alloc (.deferred (some []))).alloc (.loop (Zda fn (.func (.func g) #[] lb) w.heap.size W0.heap.size .ready none))=W1:=⟨_,rfl⟩
 have hold:∀k,k<W0.heap.size->W1.heap[k]? =W0.heap[k]? :=fun k hk=>by
  rw[<-eE];exact(Below.heap_alloc _ _ k (by simp;omega)).trans (Below.heap_alloc _ _ k hk)
 have aX:Below w.heap.size w W1:=by rw[<-eE];exact(hb0.alloc hb0.size _).alloc (by have:=hb0.size;simp;omega) _
 have mZ:W1.heap.size=W0.heap.size+2:=by rw[<-eE];simp
 have hM:ColAt w fn (.func (.func g) #[] lb) w.heap.size (W0.heap.size+1) W0.heap.size [] W1:=
  ⟨⟨none,0,(hold w.heap.size (by omega)).trans hv0,Ik _ _ _ _⟩,
   by rw[<-eE];have:=World.alloc_heap_new (W0.alloc (.deferred (some []))) (.loop (Zda fn (.func (.func g) #[] lb) w.heap.size W0.heap.size .ready none));rwa [Ij]at this,
   by rw[<-eE];exact(Below.heap_alloc _ _ _ (by simp)).trans (World.alloc_heap_new W0 _),aX⟩
 refine⟨W0.heap.size+1,[{target:= .collected W0.heap.size,args:= #[]}],W1,{target:= .fn (.func g) lb,args:= #[.func (.yield (W0.heap.size+1)) #[] #[]]},W1,g,
  #[.func (.yield (W0.heap.size+1)) #[] #[]]++lb,W1,?_,?_,?_,?_,fun _=>h1,?_⟩
 ·rw[<-eE];exact run_enterLoop_outer _ _ _ _ _
 ·simp[resolve,go_sem]
 ·intro f' qP;simp[Target.leads]at qP;subst qP;exact Es
 ·simp[invoke,go_sem,eg]
 ·refine(ye (W0.heap.size+1) (ColAt w fn (.func (.func g) #[] lb) w.heap.size (W0.heap.size+1) W0.heap.size) W1 aX (Zpw _ _ _ _ _ _ _ aX.size)
   (fun pre x W hJ hl=>Ztz F (n-1-1) w fn iD _ w.heap.size (W0.heap.size+1) W0.heap.size (by omega) (by omega) (by omega) (Nat.le_refl _) (by omega) N hN pre x W hJ hl) hM).mono ?_
  rintro e W2 ⟨⟨v0,rfl⟩,ks,hS,h2⟩;obtain⟨A,c,hv,aK⟩:=h2.box;have j8:=run_endLoop (P:=Tryz.prog) h2.L (by simp[Zda]);obtain⟨W3,j4⟩:∃W3,W2.putObj (W0.heap.size+1) (.loop {Zda fn (.func (.func g) #[] lb) w.heap.size W0.heap.size .ready none with state:= .exhausted})=W3:=⟨_,rfl⟩;rw[j4]at j8;have gd:W2.grownBy W3 (some (W0.heap.size+1)):=by rw[<-j4];exact grownBy_putObj_a _ _ _
  have fW:W3.heap[w.heap.size]? =some (.cells #[.slice A ks.length c] 47 (0,0)):=by rw[<-j4];exact(World.putObj_heap_other (by omega)).trans hv
  have jx:W3.heap[W0.heap.size]? =some (.deferred (some [])):=by rw[<-j4];exact(World.putObj_heap_other (by omega)).trans h2.K
  have eW:=aK.kept gd (ownsRow_ne_a aK h2.L (fun cur e=>by cases e));have dp:Below w.heap.size w W3:=h2.below.grown gd h2.below.size (fun k e=>by cases e;omega);obtain⟨jv,vu⟩:=cell_of_box_a fW;clear j4;refine⟨none,W3,j8,?_⟩
  gi_wp2
  rw[<-tW];refine⟨by simp,.inl ⟨_,_,rfl,run_takeDeferred jx,?_⟩⟩;exact⟨_,results_tmp rfl _ _ _,A,c,ks,rfl,hS,eW.kept (grownBy_putObj_a _ _ _) (ownsRow_ne_a eW jx (fun cur e=>by cases e)),dp.grown (grownBy_putObj_a _ _ _) dp.size (fun k e=>by cases e;omega)⟩
theorem Zpf:∀args w,(callFunc 192 args).run Tryz.prog w= .ok (.enter 192 args) w:=enters_of Tryz.func192 (by kernel_rfl) rfl
theorem ZmI:∀args w,(callFunc 193 args).run Tryz.prog w= .ok (.enter 193 args) w:=enters_of Tryz.func193 (by kernel_rfl) rfl
theorem Zts(w:I0)(Bm b:Nat)(m:List (Edge×Iz))(hm:w.cell? ⟨Bm,0,none⟩=some (.map (some b)))(iV:MapE w b Zaa m)(hl:m.length<=1000000):
  Calls Tryz.prog 137 #[.func (.func 193) #[] #[.pointer (some ⟨Bm,0,none⟩)]] w fun e w'=>∃(A:OA) (c:Nat) (ks:List Edge),e= .returned (.slice A ks.length c)∧ks.Perm (m.map (·.1))∧w'.ownsRow w.heap.size 58 4 (.slice A ks.length c) ks.length (ks.map Edge.cells).flatten∧Upd No w w':=by
 have e11:=Zpf;have AJ:Bm<w.heap.size:=block_lt_of_cell (a:=⟨Bm,0,none⟩) hm
 have HS:Hid (SeqGives Fence.wide (5-1-1) Tryz.prog 193 #[.pointer (some ⟨Bm,0,none⟩)] Zaa (fun ks=>ks.Perm (m.map (·.1))) m.length w):=Qh fun l J W hW hJ hY h0=>
  Zwc Fence.wide (5-1-1) trivial rfl (by omega) l Bm b m J hY W hJ ((hW.cell (p:=⟨Bm,0,none⟩) AJ).trans hm) (iV.upd (S:=No) (Upd.of_below hW) id) h0
 have HC:=Qh (Zry Fence.wide (5-1) trivial rfl (by omega) 193 #[.pointer (some ⟨Bm,0,none⟩)] trivial ZmI _ m.length hl w HS.out);have pq:Fence.wide.fn 192:=trivial;clear hm iV AJ;refine(callsIn_wide (n:=5)).1 ?_;refine callsIn_of_wp Tryz.func137 rfl trivial ?_ rfl;simp only[Tryz.ntmps137,List.size_toArray,G1,Hv,Nat.reduceAdd,Nat.reduceSub,Array.replicate_succ,Array.replicate_zero,List.push_toArray,List.append_toArray,H8,List.cons_append]
 gi_wp2_with (gi_at_fn 192;refine HC.out.mono ?_;rintro e w' ⟨A,c,ks,rfl,hS,aK,hb⟩)
 go_ret;exact⟨A,c,ks,rfl,hS,aK,Upd.of_below hb⟩
theorem Zxr(w:I0)(mb:Option Nat):Calls Tryz.prog 138 #[.map mb] w fun e w'=>e= .returned (.func (.func 193) #[] #[.pointer (some ⟨w.heap.size,0,none⟩)])∧w.alloc (.cells #[.map mb] 130)=w':=by
 go_enter Tryz.func138,Tryz.ntmps138;go_wp2;go_ret;exact⟨rfl,rfl⟩
end
