/- Maps that the calls themselves make: what is in them, by key, whatever the kind of keys and elements. -/
import Derived.WideLaws
import Derived.Test.YtdbjokfejmgepaaRaac
namespace Go.Proofs.Ytdbjokfejmgepaa
set_option linter.unusedVariables false
set_option linter.unusedSimpArgs false
section
open Go.RowKit
section
variable {α:Type} [DecidableEq α]
def look (a:α):List (α×Value)→Nat→Option (Nat×Value)
 |[],_=>none
 |p::l,i=>if a=p.1 then some (i,p.2) else look a l (i+1)
def Z8 (m:List (α×Value)) (a:α):Option Value:=(look a m 0).map (·.2)
def Zbh (m:List (α×Value)) (a:α) (v:Value):List (α×Value):=
 match look a m 0 with
 |some (i,_)=>m.modify i fun p=>(p.1,v)
 |none=>m++[(a,v)]
structure KeyBy (P:Program) (kt:TypeId) (enc:α→Value):Prop where
 check:∀(w:World) (e:Bool) (a:α),(Instr.checkKey e 10000 kt (enc a)).run P w= .ok () w
 bits:∀a,Instr.sameBits 10000 (enc a) (enc a)=true
 find:∀(w:World) (a:α) (es:List MapEntry) (m:List (α×Value)),es.map (fun e=>(e.key,e.val))=m.map (fun p=>(enc p.1,p.2))→
  (Instr.findKey kt (enc a) es).run P w= .ok (look a m 0) w
def MapIs (w:World) (b:Nat) (enc:α→Value) (m:List (α×Value)):Prop:=
 ∃es clock,w.heap[b]? =some (.map es clock)∧es.toList.map (fun e=>(e.key,e.val))=m.map (fun p=>(enc p.1,p.2))
end
section
variable {α:Type} [DecidableEq α] {P:Program} {w w':World} {b:Nat} {enc:α→Value} {m:List (α×Value)} {S:Nat→Prop} {t kt et:TypeId}
omit [DecidableEq α] in
theorem MapIs.lt (h:MapIs w b enc m):b<w.heap.size:=by
 obtain⟨es,c,hb,_⟩:=h;exact(Array.getElem?_eq_some_iff.1 hb).1
omit [DecidableEq α] in
theorem MapIs.upd (h:MapIs w b enc m) (k:Upd S w w') (hn:¬S b):MapIs w' b enc m:=by
 have hl:=h.lt;obtain⟨es,c,hb,he⟩:=h;exact⟨es,c,(k.block b hl hn).trans hb,he⟩
omit [DecidableEq α] in
theorem MapIs.new (w:World) (enc:α→Value):MapIs (w.alloc (.map #[] 0)) w.heap.size enc ([]:List (α×Value)):=⟨#[],0,heap_alloc_new w _,rfl⟩
theorem ZhN {a:α} {d:TypeDesc} (heq:∀(x y:α),Instr.sameNow d (enc x) (enc y)=some (decide (x=y))):
  ∀(es:List MapEntry) (m:List (α×Value)) (i:Nat),es.map (fun e=>(e.key,e.val))=m.map (fun p=>(enc p.1,p.2))→Instr.findNow d (enc a) es i=some (look a m i)
 |[],[],i,_=>rfl
 |[],p::m,i,h=>by simp at h
 |e::es,[],i,h=>by simp at h
 |e::es,p::m,i,h=>by
  simp only[List.map_cons,List.cons.injEq,Prod.mk.injEq]at h;obtain⟨⟨hk,hv⟩,hr⟩:=h;have ih:=ZhN (a:=a) heq es m (i+1) hr;simp only[Instr.findNow,hk,heq,look]
  by_cases hab:a=p.1
  ·simp[hab,hv]
  ·simp[hab,ih]
theorem KeyBy.int_ {k k':IntKind} (ht:P.underlying kt=some (.int k')):KeyBy P kt (fun n:Int=>Value.int k n) where
 check w e a:=by unfold Instr.checkKey;simp[run_underlying ht]
 bits a:=by simp[Instr.sameBits]
 find w a es m h:=by
  have:=ZhN (a:=a) (enc:=fun n:Int=>Value.int k n) (d:= .int k') (fun x y=>by simp[Instr.sameNow];rfl) es m 0 h;simp[Instr.findKey,run_underlying ht,this]
theorem Zf5 (a:α):∀(m:List (α×Value)) (i:Nat) (r:Nat×Value),look a m i=some r→i≤r.1∧m[r.1-i]? =some (a,r.2)
 |[],i,r,h=>by simp[look]at h
 |p::m,i,r,h=>by
  unfold look at h
  split at h
  ·rename_i hab
   cases h
   subst hab;simp
  ·obtain⟨h1,h2⟩:=Zf5 a m (i+1) r h;refine⟨by omega,?_⟩;rw[show r.1-i=(r.1-(i+1))+1 by omega,Qs];exact h2
end
end
end Go.Proofs.Ytdbjokfejmgepaa
