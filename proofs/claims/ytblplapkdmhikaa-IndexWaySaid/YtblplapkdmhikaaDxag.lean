/- Maps that the calls themselves make: what is in them, by key, whatever the kind of keys and elements. -/
import Derived.WideLaws
import Derived.Test.YtblplapkdmhikaaDxae
namespace Go.Proofs.Ytblplapkdmhikaa
set_option linter.unusedVariables false
set_option linter.unusedSimpArgs false
section
open Go.RowKit
section
variable {α:Type} [DecidableEq α]
def Zg (a:α):List (α×Value)→Nat→Option (Nat×Value)
 |[],_=>none
 |p::l,i=>if a=p.1 then some (i,p.2) else Zg a l (i+1)
def Zm (m:List (α×Value)) (a:α):Option Value:=(Zg a m 0).map (·.2)
def Zu (m:List (α×Value)) (a:α) (v:Value):List (α×Value):=
 match Zg a m 0 with
 |some (i,_)=>m.modify i fun p=>(p.1,v)
 |none=>m++[(a,v)]
def Z3 (m:List (α×Value)) (a:α):List (α×Value):=
 match Zg a m 0 with
 |some (i,_)=>m.eraseIdx i
 |none=>m
structure KeyBy (P:Program) (kt:TypeId) (enc:α→Value):Prop where
 check:∀(w:World) (e:Bool) (a:α),(Instr.checkKey e 10000 kt (enc a)).run P w= .ok () w
 bits:∀a,Instr.sameBits 10000 (enc a) (enc a)=true
 find:∀(w:World) (a:α) (es:List MapEntry) (m:List (α×Value)),es.map (fun e=>(e.key,e.val))=m.map (fun p=>(enc p.1,p.2))→
  (Instr.findKey kt (enc a) es).run P w= .ok (Zg a m 0) w
def MapIs (w:World) (b:Nat) (enc:α→Value) (m:List (α×Value)):Prop:=
 ∃es clock,w.heap[b]? =some (.map es clock)∧es.toList.map (fun e=>(e.key,e.val))=m.map (fun p=>(enc p.1,p.2))
end
section
variable {α:Type} [DecidableEq α] {P:Program} {w w':World} {b:Nat} {enc:α→Value} {m:List (α×Value)} {S:Nat→Prop} {t kt et:TypeId}
omit [DecidableEq α] in
theorem MapIs.lt (h:MapIs w b enc m):b<w.heap.size:=by
 obtain⟨es,c,hb,_⟩:=h;exact(Array.getElem?_eq_some_iff.1 hb).1
omit [DecidableEq α] in
theorem MapIs.upd (h:MapIs w b enc m) (k:Upd S w w') (hn:¬S b):MapIs w' b enc m:=by
 have hl:=h.lt;obtain⟨es,c,hb,he⟩:=h;exact⟨es,c,(k.block b hl hn).trans hb,he⟩
omit [DecidableEq α] in
theorem MapIs.new (w:World) (enc:α→Value):MapIs (w.alloc (.map #[] 0)) w.heap.size enc ([]:List (α×Value)):=⟨#[],0,heap_alloc_new w _,rfl⟩
theorem Zbd {a:α} (heq:∀(w:World) (x y:α),(Op.equal kt (enc x) (enc y)).run P w= .ok (decide (x=y)) w) (w:World):
  ∀(es:List MapEntry) (m:List (α×Value)) (i:Nat),es.map (fun e=>(e.key,e.val))=m.map (fun p=>(enc p.1,p.2))→(Instr.findAsking kt (enc a) es i).run P w= .ok (Zg a m i) w
 |[],[],i,_=>by simp[Instr.findAsking,Zg]
 |[],p::m,i,h=>by simp at h
 |e::es,[],i,h=>by simp at h
 |e::es,p::m,i,h=>by
  simp only[List.map_cons,List.cons.injEq,Prod.mk.injEq]at h;obtain⟨⟨hk,hv⟩,hr⟩:=h;have ih:=Zbd (a:=a) heq w es m (i+1) hr;simp only[Instr.findAsking,Sem.run_bind,hk,heq,Result.andThen,Zg]
  by_cases hab:a=p.1
  ·simp[hab,hv]
  ·simp[hab,ih]
theorem ZdG {a:α} {d:TypeDesc} (heq:∀(x y:α),Instr.sameNow d (enc x) (enc y)=some (decide (x=y))):
  ∀(es:List MapEntry) (m:List (α×Value)) (i:Nat),es.map (fun e=>(e.key,e.val))=m.map (fun p=>(enc p.1,p.2))→Instr.findNow d (enc a) es i=some (Zg a m i)
 |[],[],i,_=>rfl
 |[],p::m,i,h=>by simp at h
 |e::es,[],i,h=>by simp at h
 |e::es,p::m,i,h=>by
  simp only[List.map_cons,List.cons.injEq,Prod.mk.injEq]at h;obtain⟨⟨hk,hv⟩,hr⟩:=h;have ih:=ZdG (a:=a) heq es m (i+1) hr;simp only[Instr.findNow,hk,heq,Zg]
  by_cases hab:a=p.1
  ·simp[hab,hv]
  ·simp[hab,ih]
theorem KeyBy.int_ {k k':IntKind} (ht:P.underlying kt=some (.int k')):KeyBy P kt (fun n:Int=>Value.int k n) where
 check w e a:=by unfold Instr.checkKey;simp[run_underlying ht]
 bits a:=by simp[Instr.sameBits]
 find w a es m h:=by
  have:=ZdG (a:=a) (enc:=fun n:Int=>Value.int k n) (d:= .int k') (fun x y=>by simp[Instr.sameNow];rfl) es m 0 h;simp[Instr.findKey,run_underlying ht,this]
theorem Zw (K:KeyBy P kt enc) (ht:P.underlying t=some (.map kt et)) {z:Value} (hz:∀w:World,(zeroValue et).run P w= .ok z w) (h:MapIs w b enc m) (a:α):
  (Instr.lookup t (.map (some b)) (enc a) false).run P w= .ok ((Zm m a).getD z) w:=by
 obtain⟨es,c,hb,he⟩:=h;simp only[Instr.lookup,run_underlying ht,Sem.run_bind,Result.andThen,run_getObj_map w b es c hb,Sem.run_pure,K.check,K.find w a _ _ he,Zm]
 cases Zg a m 0 with
 |none=>simp[hz]
 |some p=>simp
theorem ZdR (K:KeyBy P kt enc) (ht:P.underlying t=some (.map kt et)) {z:Value} (hz:∀w:World,(zeroValue et).run P w= .ok z w) (h:MapIs w b enc m) (a:α):
  (Instr.lookup t (.map (some b)) (enc a) true).run P w= .ok (.tuple #[(Zm m a).getD z,.bool (Zm m a).isSome]) w:=by
 obtain⟨es,c,hb,he⟩:=h;simp only[Instr.lookup,run_underlying ht,Sem.run_bind,Result.andThen,run_getObj_map w b es c hb,Sem.run_pure,K.check,K.find w a _ _ he,Zm]
 cases Zg a m 0 with
 |none=>simp[hz,Result.andThen]
 |some p=>simp
theorem ZaX {β γ:Type} (f:β→γ):∀(l:List β) (i:Nat),(l.map f).eraseIdx i=(l.eraseIdx i).map f
 |[],i=>by simp
 |x::l,0=>by simp
 |x::l,i+1=>by simp[ZaX f l i]
theorem ZaQ (a:α):∀(m:List (α×Value)) (i:Nat) (r:Nat×Value),Zg a m i=some r→i≤r.1∧m[r.1-i]? =some (a,r.2)
 |[],i,r,h=>by simp[Zg]at h
 |p::m,i,r,h=>by
  unfold Zg at h
  split at h
  ·rename_i hab
   cases h
   subst hab;simp
  ·obtain⟨h1,h2⟩:=ZaQ a m (i+1) r h;refine⟨by omega,?_⟩;rw[show r.1-i=(r.1-(i+1))+1 by omega,Qs];exact h2
theorem ZE (w:World) (b:Nat) (o:Obj):Upd (One b) w {w with heap:=w.heap.setIfInBounds b o}:=
 ⟨rfl,rfl,rfl,by simp,fun k _ hn=>by
  show(w.heap.setIfInBounds b o)[k]? =w.heap[k]?
  rw[Array.getElem?_setIfInBounds_ne (fun e=>hn (by exact e.symm))]⟩
end
theorem KeyBy.arr2 {P:Program} {kt it:TypeId} (ht:P.underlying kt=some (.array 2 it)) (hi:P.underlying it=some (.int .i64)) (hs:(P.info? it).map (·.size)=some 1):
  KeyBy P kt (fun p:Int×Int=>Value.agg #[.int .i64 p.1,.int .i64 p.2]):=by
 obtain⟨i,hi2,hs2⟩:∃i,P.info? it=some i∧i.size=1:=by
  cases h:P.info? it with
  |none=>rw[h]at hs;simp at hs
  |some i=>exact⟨i,rfl,by rw[h]at hs;simpa using hs⟩
 have hp0:∀(w:World) (x y:Value),(part it #[x,y] 0).run P w= .ok x w:=fun w x y=>by simp[part,isAgg,run_underlying hi]
 have hp1:∀(w:World) (x y:Value),(part it #[x,y] 1).run P w= .ok y w:=fun w x y=>by simp[part,isAgg,run_underlying hi]
 have hsz:∀(w:World),(sizeOf it).run P w= .ok 1 w:=fun w=>by simp[sizeOf,typeInfo,hi2,hs2]
 have heq:∀(w:World) (x y:Int×Int),(Op.equal kt (.agg #[.int .i64 x.1,.int .i64 x.2]) (.agg #[.int .i64 y.1,.int .i64 y.2])).run P w= .ok (decide (x=y)) w:=fun w x y=>by
  have h1:∀(d:Nat) (a b:Int),(Op.equalIn (d+1) it (.int .i64 a) (.int .i64 b)).run P w= .ok (a==b) w:=fun d a b=>run_equalIn_int w d it .i64 .i64 a b hi
  show(Op.equalIn (9998+1+1) kt _ _).run P w=_
  generalize 9998=d
  obtain⟨x1,x2⟩:=x;obtain⟨y1,y2⟩:=y;unfold Op.equalIn
  by_cases e1:x1=y1<;>by_cases e2:x2=y2<;>simp[run_underlying ht,hsz,hp0,hp1,h1,Result.andThen,List.range',Std.Legacy.Range.forIn_eq_forIn_range',Std.Legacy.Range.size,e1,e2]
 refine⟨fun w e a=> ?_,fun a=>by simp[Instr.sameBits],fun w a es m h=> ?_⟩
 ·show(Instr.checkKey e (9998+1+1) kt _).run P w=_
  generalize 9998=d
  have h1:∀(a:Int),(Instr.checkKey e (d+1) it (.int .i64 a)).run P w= .ok () w:=fun a=>by unfold Instr.checkKey;simp[run_underlying hi]
  unfold Instr.checkKey;simp[run_underlying ht,hsz,hp0,hp1,h1,Result.andThen,List.range',Std.Legacy.Range.forIn_eq_forIn_range',Std.Legacy.Range.size]
 ·have h2:=Zbd (a:=a) (enc:=fun p:Int×Int=>Value.agg #[.int .i64 p.1,.int .i64 p.2]) heq w es m 0 h;unfold Instr.findKey
  cases es with
  |nil=>
   cases m with
   |nil=>simp[run_underlying ht,Instr.findNow,Zg]
   |cons p m=>simp at h
  |cons e es=>simp[run_underlying ht,Instr.findNow,Instr.sameNow,h2]
end
end Go.Proofs.Ytblplapkdmhikaa
