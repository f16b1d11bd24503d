/- Maps that the calls themselves make: what is in them, by key, whatever the kind of keys and elements. -/
import Derived.Test.YtadmgiljchgccaaGreatTcad
namespace Go.Proofs.YtadmgiljchgccaaGreat
open Go.RowKit
set_option linter.unusedVariables false
set_option linter.unusedSimpArgs false
section
variable {α:Type} [DecidableEq α]
def look(a:α):List (α×Iz)->Nat->Option (Nat×Iz)
 |[],_=>none
 |p::l,i=>if a=p.1 then some (i,p.2) else look a l (i+1)
def ZX(m:List (α×Iz))(a:α):Option Value:=(look a m 0).map (·.2)
def ZI(m:List (α×Iz))(a:α)(v:Iz):List (α×Iz):=
 match look a m 0 with
 |some (i,_)=>m.modify i fun p=>(p.1,v)
 |none=>m++[(a,v)]
structure KeyBy (P:Program) (kt:TypeId) (enc:α->Value):Prop where
 check:∀(w:I0) (e:Bool) (a:α),(Instr.checkKey e 10000 kt (enc a)).run P w= .ok () w
 bits:∀a,Instr.sameBits 10000 (enc a) (enc a)=true
 find:∀(w:I0) (a:α) (es:List MapEntry) (m:List (α×Iz)),es.map (fun e=>(e.key,e.val))=m.map (fun p=>(enc p.1,p.2))->
  (Instr.findKey kt (enc a) es).run P w= .ok (look a m 0) w
def MapIs(w:I0)(b:Nat)(enc:α->Iz)(m:List (α×Iz)):Prop:=
 ∃es clock,w.heap[b]? =some (.map es clock)∧es.toList.map (fun e=>(e.key,e.val))=m.map (fun p=>(enc p.1,p.2))
end
section
variable {α:Type} [DecidableEq α] {P:Ix} {w w':I0} {b:Nat} {enc:α->Iz} {m:List (α×Iz)} {S:Iw} {t kt et:Iy}
omit [DecidableEq α] in
theorem MapIs.lt(h:MapIs w b enc m):b<w.heap.size:=by
 obtain⟨es,c,hb,_⟩:=h;exact(Array.getElem?_eq_some_iff.1 hb).1
omit [DecidableEq α] in
theorem MapIs.upd(h:MapIs w b enc m)(k:Upd S w w')(hn:¬S b):MapIs w' b enc m:=by
 have hl:=h.lt;obtain⟨es,c,hb,he⟩:=h;exact⟨es,c,(k.block b hl hn).trans hb,he⟩
omit [DecidableEq α] in
theorem MapIs.new(w:I0)(enc:α->Iz):MapIs (w.alloc (.map #[] 0)) w.heap.size enc ([]:List (α×Iz)):=⟨#[],0,heap_alloc_new w _,rfl⟩
theorem Zfw{a:α}(aV:∀(w:I0) (x y:α),(Op.equal kt (enc x) (enc y)).run P w= .ok (decide (x=y)) w)(w:I0):
  ∀(es:List MapEntry) (m:List (α×Iz)) (i:Nat),es.map (fun e=>(e.key,e.val))=m.map (fun p=>(enc p.1,p.2))->(Instr.findAsking kt (enc a) es i).run P w= .ok (look a m i) w
 |[],[],i,_=>by simp[Instr.findAsking,look]
 |[],p::m,i,h=>by simp at h
 |e::es,[],i,h=>by simp at h
 |e::es,p::m,i,h=>by
  simp only[Id,List.cons.injEq,Ig]at h;obtain⟨⟨hk,hv⟩,hr⟩:=h;have ih:=Zfw (a:=a) aV w es m (i+1) hr;simp only[Instr.findAsking,Sem.run_bind,hk,aV,Result.andThen,look]
  by_cases hab:a=p.1
  ·simp[hab,hv]
  ·simp[hab,ih]
theorem ZmG{a:α}{d:TypeDesc}(aV:∀(x y:α),Instr.sameNow d (enc x) (enc y)=some (decide (x=y))):
  ∀(es:List MapEntry) (m:List (α×Iz)) (i:Nat),es.map (fun e=>(e.key,e.val))=m.map (fun p=>(enc p.1,p.2))->Instr.findNow d (enc a) es i=some (look a m i)
 |[],[],i,_=>rfl
 |[],p::m,i,h=>by simp at h
 |e::es,[],i,h=>by simp at h
 |e::es,p::m,i,h=>by
  simp only[Id,List.cons.injEq,Ig]at h;obtain⟨⟨hk,hv⟩,hr⟩:=h;have ih:=ZmG (a:=a) aV es m (i+1) hr;simp only[Instr.findNow,hk,aV,look]
  by_cases hab:a=p.1
  ·simp[hab,hv]
  ·simp[hab,ih]
theorem KeyBy.int_{k k':IntKind}(ht:P.underlying kt=some (.int k')):KeyBy P kt (fun n:Int=>Value.int k n) where
 check w e a:=by unfold Instr.checkKey;simp[run_underlying ht]
 bits a:=by simp[Instr.sameBits]
 find w a es m h:=by
  have:=ZmG (a:=a) (enc:=fun n:Int=>Value.int k n) (d:= .int k') (fun x y=>by simp[Instr.sameNow];rfl) es m 0 h;simp[Instr.findKey,run_underlying ht,this]
theorem ZP(K:KeyBy P kt enc)(ht:P.underlying t=some (.map kt et)){z:Iz}(hz:∀w:I0,(zeroValue et).run P w= .ok z w)(h:MapIs w b enc m)(a:α):
  (Instr.lookup t (.map (some b)) (enc a) false).run P w= .ok ((ZX m a).getD z) w:=by
 obtain⟨es,c,hb,he⟩:=h;simp only[Instr.lookup,run_underlying ht,Sem.run_bind,Result.andThen,run_getObj_map w b es c hb,Sem.run_pure,K.check,K.find w a _ _ he,ZX]
 cases look a m 0 with
 |none=>simp[hz]
 |some p=>simp
theorem Znf(K:KeyBy P kt enc)(ht:P.underlying t=some (.map kt et)){z:Iz}(hz:∀w:I0,(zeroValue et).run P w= .ok z w)(h:MapIs w b enc m)(a:α):
  (Instr.lookup t (.map (some b)) (enc a) true).run P w= .ok (.tuple #[(ZX m a).getD z,.bool (ZX m a).isSome]) w:=by
 obtain⟨es,c,hb,he⟩:=h;simp only[Instr.lookup,run_underlying ht,Sem.run_bind,Result.andThen,run_getObj_map w b es c hb,Sem.run_pure,K.check,K.find w a _ _ he,ZX]
 cases look a m 0 with
 |none=>simp[hz,Result.andThen]
 |some p=>simp
theorem ZeC(a:α):∀(m:List (α×Iz)) (i:Nat) (r:Nat×Iz),look a m i=some r->i<=r.1∧m[r.1-i]? =some (a,r.2)
 |[],i,r,h=>by simp[look]at h
 |p::m,i,r,h=>by
  unfold look at h
  split at h
  ·rename_i hab
   cases h
   subst hab;simp
  ·obtain⟨h1,h2⟩:=ZeC a m (i+1) r h;refine⟨by omega,?_⟩;rw[show r.1-i=(r.1-(i+1))+1 by omega,Qs];exact h2
theorem ZaF(w:I0)(b:Nat)(o:Obj):Upd (One b) w {w with heap:=w.heap.setIfInBounds b o}:=
 ⟨rfl,rfl,rfl,by simp,fun k _ hn=>by
  show(w.heap.setIfInBounds b o)[k]? =w.heap[k]?
  rw[Array.getElem?_setIfInBounds_ne (fun e=>hn (by exact e.symm))]⟩
theorem ZuN(K:KeyBy P kt enc)(ht:P.underlying t=some (.map kt et))(h:MapIs w b enc m)(a:α)(v:Iz):
  ∃w',(Instr.mapUpdate t (.map (some b)) (enc a) v).run P w= .ok () w'∧MapIs w' b enc (ZI m a v)∧Upd (One b) w w':=by
 have hl:=h.lt;obtain⟨es,c,hb,he⟩:=h
 cases hlk:look a m 0 with
 |none=>
  refine⟨{w with heap:=w.heap.setIfInBounds b (.map (es.push {key:=enc a,val:=v,born:=c}) (c+1))},?_,⟨es.push {key:=enc a,val:=v,born:=c},c+1,?_,?_⟩,ZaF w b _⟩
  ·simp only[Instr.mapUpdate,run_underlying ht,Sem.run_bind,Result.andThen,run_getObj_map w b es c hb,K.check,K.find w a _ _ he,hlk];exact Go.MapKept.run_setObj_map _ hb
  ·show(w.heap.setIfInBounds b _)[b]? =_
   simp[hl]
  ·simp[ZI,hlk,he]
 |some r=>
  obtain⟨_,hr⟩:=ZeC a m 0 r hlk;rw[Nat.sub_zero]at hr;have mm:(es.toList.map (fun e=>(e.key,e.val)))[r.1]? =some (enc a,r.2):=by rw[he,List.getElem?_map,hr];rfl
  rw[List.getElem?_map,Option.map_eq_some_iff]at mm;obtain⟨e0,f7,cX⟩:=mm
  have bJ:((es[r.1]?).map (·.key)).getD (enc a)=enc a:=by
   rw[<-Array.getElem?_toList,f7];simp only[Option.map_some,Option.getD_some];exact congrArg Prod.fst cX
  refine⟨{w with heap:=w.heap.setIfInBounds b (.map (es.modify r.1 fun e=>{e with key:=enc a,val:=v}) c)},?_,⟨es.modify r.1 fun e=>{e with key:=enc a,val:=v},c,?_,?_⟩,ZaF w b _⟩
  ·simp only[Instr.mapUpdate,run_underlying ht,Sem.run_bind,Result.andThen,run_getObj_map w b es c hb,K.check,K.find w a _ _ he,hlk,bJ,Instr.keyThatStays,K.bits,if_true,Sem.run_pure];exact Go.MapKept.run_setObj_map _ hb
  ·show(w.heap.setIfInBounds b _)[b]? =_
   simp[hl]
  ·simp only[ZI,hlk,Array.toList_modify]
   apply List.ext_getElem?
   intro j;have hj:(es.toList.map (fun e=>(e.key,e.val)))[j]? =(m.map (fun p=>(enc p.1,p.2)))[j]? :=by rw[he]
   simp only[List.getElem?_map,List.getElem?_modify]at hj ⊢
   by_cases hij:r.1=j
   ·subst hij;rw[hr,f7];simp
   ·cases h1:es.toList[j]? <;>cases h2:m[j]? <;>rw[h1,h2]at hj<;>simp_all
omit [DecidableEq α] in
theorem ZhO(ht:P.underlying t=some (.map kt et))(h:MapIs w b enc m)(ty:Iy):(Builtin.len_ #[t] ty #[.map (some b)]).run P w= .ok (Qi m.length) w:=by
 obtain⟨es,c,hb,he⟩:=h;have hl:es.size=m.length:=by have:=congrArg List.length he;simpa using this
 simp[Builtin.len_,run_underlying ht,Result.andThen,run_getObj_map w b es c hb,hl];rfl
theorem Zmk{ops:Array Oper}{rest:List Oper}{o:Oper}{ac:Act}{Q:Exit->Act->I0->Prop}(cm:o.guard=none){x y v:Operand}
  (ho:o.op= .mapUpdate t x y v) (K:KeyBy P kt enc) (ht:P.underlying t=some (.map kt et)) {a:α} {val:Iz} (hx:ac.eval x= .map (some b)) (hy:ac.eval y=enc a) (hv:ac.eval v=val)
  (h:MapIs w b enc m) (hk:∀w',MapIs w' b enc (ZI m a val)->Upd (One b) w w'->wpList P ops Q rest (ac.put o.dst undef) w'):wpList P ops Q (o::rest) ac w:=by
 obtain⟨w',hr,h1,h2⟩:=ZuN K ht h a val;refine wpList_plain cm fun _ hK=>?_
 unfold Oper.wp;simp[execOp,ho,hx,hy,hv,hr,Result.andThen];exact hK _ _ (hk w' h1 h2)
end
theorem KeyBy.arr2{P:Ix}{kt it:Iy}(ht:P.underlying kt=some (.array 2 it))(hi:P.underlying it=some (.int .i64))(hs:(P.info? it).map (·.size)=some 1):
  KeyBy P kt (fun p:Int×Int=>Value.agg #[Qi p.1,Qi p.2]):=by
 obtain⟨i,hi2,fy⟩:∃i,P.info? it=some i∧i.size=1:=by
  cases h:P.info? it with
  |none=>rw[h]at hs;simp at hs
  |some i=>exact⟨i,rfl,by rw[h]at hs;simpa using hs⟩
 have hp0:∀(w:I0) (x y:Iz),(part it #[x,y] 0).run P w= .ok x w:=fun w x y=>by simp[part,isAgg,run_underlying hi]
 have dh:∀(w:I0) (x y:Iz),(part it #[x,y] 1).run P w= .ok y w:=fun w x y=>by simp[part,isAgg,run_underlying hi]
 have dE:∀(w:I0),(sizeOf it).run P w= .ok 1 w:=fun w=>by simp[sizeOf,typeInfo,hi2,fy]
 have aV:∀(w:I0) (x y:Int×Int),(Op.equal kt (.agg #[Qi x.1,Qi x.2]) (.agg #[Qi y.1,Qi y.2])).run P w= .ok (decide (x=y)) w:=fun w x y=>by
  have h1:∀(d:Nat) (a b:Int),(Op.equalIn (d+1) it (Qi a) (Qi b)).run P w= .ok (a==b) w:=fun d a b=>run_equalIn_int w d it .i64 .i64 a b hi
  show(Op.equalIn (9998+1+1) kt _ _).run P w=_
  generalize 9998=d;obtain⟨x1,x2⟩:=x;obtain⟨y1,y2⟩:=y;unfold Op.equalIn
  by_cases e1:x1=y1<;>by_cases e2:x2=y2<;>simp[run_underlying ht,dE,hp0,dh,h1,Result.andThen,List.range',Std.Legacy.Range.forIn_eq_forIn_range',Std.Legacy.Range.size,e1,e2]
 refine⟨fun w e a=>?_,fun a=>by simp[Instr.sameBits],fun w a es m h=>?_⟩
 ·show(Instr.checkKey e (9998+1+1) kt _).run P w=_
  generalize 9998=d;have h1:∀(a:Int),(Instr.checkKey e (d+1) it (Qi a)).run P w= .ok () w:=fun a=>by unfold Instr.checkKey;simp[run_underlying hi]
  unfold Instr.checkKey;simp[run_underlying ht,dE,hp0,dh,h1,Result.andThen,List.range',Std.Legacy.Range.forIn_eq_forIn_range',Std.Legacy.Range.size]
 ·have h2:=Zfw (a:=a) (enc:=fun p:Int×Int=>Value.agg #[Qi p.1,Qi p.2]) aV w es m 0 h;unfold Instr.findKey
  cases es with
  |nil=>
   cases m with
   |nil=>simp[run_underlying ht,Instr.findNow,look]
   |cons p m=>simp at h
  |cons e es=>simp[run_underlying ht,Instr.findNow,Instr.sameNow,h2]
/- Maps that the calls themselves make:what is got ZaC a put;keys that are structs. -/
section
variable {α:Type} [DecidableEq α]
theorem Zmm(a b:α)(v:Iz):∀(m:List (α×Iz)) (i:Nat),look a m i=none->(look b (m++[(a,v)]) i).map (·.2)=if b=a then some v else (look b m i).map (·.2)
 |[],i,_=>by
  by_cases h:b=a<;>simp[look,h]
 |p::m,i,h=>by
  unfold look at h
  split at h
  ·cases h
  ·rename_i hne
   have ih:=Zmm a b v m (i+1) h;simp only[List.cons_append,look]
   by_cases hb:b=p.1
   ·rw[if_pos hb,if_pos hb,if_neg (by rw[hb];exact fun e=>hne e.symm)]
   ·rw[if_neg hb,if_neg hb];exact ih
theorem Zml(a b:α)(v:Iz):∀(m:List (α×Iz)) (i:Nat) (r:Nat×Iz),look a m i=some r->(look b (m.modify (r.1-i) fun p=>(p.1,v)) i).map (·.2)=if b=a then some v else (look b m i).map (·.2)
 |[],i,r,h=>by simp[look]at h
 |p::m,i,r,h=>by
  have hl:=ZeC a (p::m) i r h;unfold look at h
  split at h
  ·rename_i hab
   cases h
   simp only[Nat.sub_self,List.modify_zero_cons,look]
   by_cases hb:b=a
   ·rw[if_pos (by rw[hb,hab]),if_pos hb];rfl
   ·rw[if_neg (by rw[<-hab];exact hb),if_neg hb,if_neg (by rw[<-hab];exact hb)]
  ·rename_i hne
   have h1:=(ZeC a m (i+1) r h).1;have ih:=Zml a b v m (i+1) r h;rw[show r.1-i=(r.1-(i+1))+1 by omega,List.modify_succ_cons];simp only[look]
   by_cases hb:b=p.1
   ·rw[if_pos hb,if_pos hb,if_neg (by rw[hb];exact fun e=>hne e.symm)]
   ·rw[if_neg hb,if_neg hb];exact ih
theorem Zdt(m:List (α×Iz))(a b:α)(v:Iz):ZX (ZI m a v) b=if b=a then some v else ZX m b:=by
 unfold ZX ZI
 cases h:look a m 0 with
 |none=>exact Zmm a b v m 0 h
 |some r=>
  have:=Zml a b v m 0 r h;rw[Nat.sub_zero]at this;exact this
theorem Zai(m:List (α×Iz))(a:α)(v:Iz):ZX (ZI m a v) a=some v:=by rw[Zdt,if_pos rfl]
theorem ZaI(m:List (α×Iz)){a b:α}(v:Iz)(h:b≠a):ZX (ZI m a v) b=ZX m b:=by rw[Zdt,if_neg h]
theorem ZdW(a:α):ZX ([]:List (α×Iz)) a=none:=rfl
end
theorem KeyBy.agg_{α:Type}[DecidableEq α]{P:Ix}{kt:Iy}{enc:α->Iz}{fs:Array Field}(ht:P.underlying kt=some (.struct fs))(zb:∀a,∃cs,enc a= .agg cs)
  (hc:∀(w:I0) (e:Bool) (a:α),(Instr.checkKey e 10000 kt (enc a)).run P w= .ok () w) (hb:∀a,Instr.sameBits 10000 (enc a) (enc a)=true)
  (aV:∀(w:I0) (x y:α),(Op.equal kt (enc x) (enc y)).run P w= .ok (decide (x=y)) w):KeyBy P kt enc:=by
 refine⟨hc,hb,fun w a es m h=>?_⟩;have h2:=Zfw (a:=a) (enc:=enc) aV w es m 0 h;unfold Instr.findKey;obtain⟨cs,ha⟩:=zb a
 cases es with
 |nil=>
  cases m with
  |nil=>simp[run_underlying ht,Instr.findNow,look]
  |cons p m=>simp at h
 |cons e es=>
  have hn:Instr.findNow (.struct fs) (enc a) (e::es) 0=none:=by
   unfold Instr.findNow;rw[ha];simp[Instr.sameNow]
  simp[run_underlying ht,hn,h2]
/- Maps by a key and a number,and by versions. -/
def ZdD(p:Int×Int):Iz:= .agg #[Qi p.1,Qi p.2]
def ZdA(v:Ver):Iz:= .agg #[Qi v.tx,Qi v.key,Qi v.nth]
theorem ZuE(w:I0)(x y:Int×Int):(Op.equal 105 (ZdD x) (ZdD y)).run Tryz.prog w= .ok (decide (x=y)) w:=by
 obtain⟨a,b⟩:=x;obtain⟨a',b'⟩:=y;unfold ZdD
 show(Op.equalIn 10000 _ _ _).run _ w=_
 rw[run_equalIn_struct w _ _ _ _ (by kernel_rfl) (by kernel_rfl)];have hI:∀(w:I0) (d:Nat) (x y:Int),(Op.equalIn (d+1) 3 (Qi x) (Qi y)).run Tryz.prog w= .ok (x==y) w:=fun w d x y=>run_equalIn_int w d _ _ _ x y Tryz.underlying3
 by_cases h1:a=a'<;>by_cases h2:b=b'<;>
  simp[Program.fieldsOf,Tryz.underlying105,Op.eqFields,part,hI,h1,h2,Result.andThen]
theorem Zkb(w:I0)(x y:Ver):(Op.equalIn 10000 49 (ZdA x) (ZdA y)).run Tryz.prog w= .ok (decide (x=y)) w:=by
 obtain⟨a,b,c⟩:=x;obtain⟨a',b',c'⟩:=y;unfold ZdA;rw[run_equalIn_struct w _ _ _ _ (by kernel_rfl) (by kernel_rfl)];have hI:∀(w:I0) (d:Nat) (x y:Int),(Op.equalIn (d+1) 3 (Qi x) (Qi y)).run Tryz.prog w= .ok (x==y) w:=fun w d x y=>run_equalIn_int w d _ _ _ x y Tryz.underlying3
 by_cases h1:a=a'<;>by_cases h2:b=b'<;>by_cases h3:c=c'<;>
  simp[Program.fieldsOf,Tryz.underlying49,Op.eqFields,part,hI,h1,h2,h3,Result.andThen]
theorem Zuv(w:I0)(x y:Ver):(binOp .neq 49 (ZdA x) (ZdA y)).run Tryz.prog w= .ok (.bool (x != y)) w:=by
 have:=Zkb w x y;unfold ZdA at this ⊢;rw[run_neq_struct,this];simp only[Result.andThen]
 by_cases h:x=y<;>simp[h]
theorem Zoy(w:I0)(e:Bool)(p:Int×Int):(Instr.checkKey e 10000 105 (ZdD p)).run Tryz.prog w= .ok () w:=by
 show(Instr.checkKey e (9998+1+1) _ _).run _ w=_
 generalize 9998=d;have hI:∀(w:I0) (x:Int),(Instr.checkKey e (d+1) 3 (Qi x)).run Tryz.prog w= .ok () w:=fun w x=>by unfold Instr.checkKey;simp[run_underlying Tryz.underlying3]
 unfold Instr.checkKey ZdD;simp[run_underlying Tryz.underlying105,<-Array.forIn_toList,part,hI,Result.andThen]
theorem ZpV(w:I0)(e:Bool)(p:Ver):(Instr.checkKey e 10000 49 (ZdA p)).run Tryz.prog w= .ok () w:=by
 show(Instr.checkKey e (9998+1+1) _ _).run _ w=_
 generalize 9998=d;have hI:∀(w:I0) (x:Int),(Instr.checkKey e (d+1) 3 (Qi x)).run Tryz.prog w= .ok () w:=fun w x=>by unfold Instr.checkKey;simp[run_underlying Tryz.underlying3]
 unfold Instr.checkKey ZdA;simp[run_underlying Tryz.underlying49,<-Array.forIn_toList,part,hI,Result.andThen]
theorem ZeD:KeyBy Tryz.prog 105 ZdD:=KeyBy.agg_ Tryz.underlying105 (fun a=>⟨_,rfl⟩) Zoy (fun a=>by simp[ZdD,Instr.sameBits]) ZuE
theorem Zjb:KeyBy Tryz.prog 49 ZdA:=KeyBy.agg_ Tryz.underlying49 (fun a=>⟨_,rfl⟩) ZpV (fun a=>by simp[ZdA,Instr.sameBits]) Zkb
theorem Zel(w:I0):(zeroValue 3).run Tryz.prog w= .ok (Qi 0) w:=by kernel_rfl
def ZbM(id:Int)(l:Is)(k:Nat):Int:=
 match l[k]? with
 |none=>0
 |some o=>if opB o=false then 1 else if o.read&&o.tx==id&& !decide (o.nth<=(wrN l o.key k:Int)) then 6 else 0
def ZaG(id:Int)(l:Is):Nat->Int
 |0=>0
 |k+1=>if ZaG id l k=0 then ZbM id l k else ZaG id l k
def ZaT(id:Int)(l:Is):Int:=if idB id=false then 1 else if 4095<l.length then 9 else ZaG id l l.length
def WrM(m:List ((Int×Int)×Iz))(l:Is)(k:Nat):Prop:=
 ∀key n:Int,(ZX m (key,n)).getD (Qi 0)= Qi (if n=0 then (wrN l key k:Int) else if 1<=n∧n<=(wrN l key k:Int) then 1 else 0)
theorem WrM.nil(l:Is):WrM [] l 0:=fun key n=>by
 rw[ZdW];have:wrN l key 0=0:=rfl;rw[this]
 by_cases h:n=0
 ·rw[if_pos h];rfl
 ·rw[if_neg h,if_neg (by omega)];rfl
theorem WrM.skip{m:List ((Int×Int)×Iz)}{l:Is}{k:Nat}(h:WrM m l k)(hk:k<l.length)(hr:l[k].read=true):WrM m l (k+1):=fun key n=>by
 rw[Ziw hk rfl (by unfold isW;rw[hr];rfl)];exact h key n
theorem WrM.put{m:List ((Int×Int)×Iz)}{l:Is}{k:Nat}{x:HOp}(h:WrM m l k)(hk:k<l.length)(hx:l[k]=x)(hr:x.read=false):
  WrM (ZI (ZI m (x.key,0) (Qi ((wrN l x.key k:Int)+1))) (x.key,(wrN l x.key k:Int)+1) (Qi 1)) l (k+1):=fun key n=>by
 subst hx
 by_cases hkey:key=l[k].key
 ·subst hkey;rw[Znv hk rfl (by unfold isW;rw[hr];simp)]
  by_cases h0:n=0
  ·subst h0;rw[ZaI _ _ (fun e=>by injection e with _ e;omega),Zai,if_pos rfl];rfl
  ·rw[if_neg h0]
   by_cases h1:n=(wrN l l[k].key k:Int)+1
   ·rw[h1,Zai,if_pos (by omega)];rfl
   ·rw[ZaI _ _ (fun e=>by injection e with _ e;exact h1 e),ZaI _ _ (fun e=>by injection e with _ e;exact h0 e),h l[k].key n,if_neg h0]
    by_cases h2:1<=n∧n<=(wrN l l[k].key k:Int)
    ·rw[if_pos h2,if_pos (by omega)]
    ·rw[if_neg h2,if_neg (by omega)]
 ·rw[ZaI _ _ (fun e=>by injection e with e _;exact hkey e),ZaI _ _ (fun e=>by injection e with e _;exact hkey e),h key n,
   Ziw hk rfl (by
    unfold isW;have:(l[k].key==key)=false:=by rw[beq_eq_false_iff_ne];exact fun e=>hkey e.symm
    rw[this];simp)]
