/- Maps that the calls themselves make: what is got Zab a put; keys that are structs. -/
import Derived.Laws.StructEq
import Derived.Test.YtblplapkdmhikaaDxag
namespace Go.Proofs.Ytblplapkdmhikaa
set_option linter.unusedVariables false
set_option linter.unusedSimpArgs false
section
open Go.RowKit
section
variable {α:Type} [DecidableEq α]
theorem Zdu (a b:α) (v:Value):∀(m:List (α×Value)) (i:Nat),Zg a m i=none→(Zg b (m++[(a,v)]) i).map (·.2)=if b=a then some v else (Zg b m i).map (·.2)
 |[],i,_=>by
  by_cases h:b=a<;>simp[Zg,h]
 |p::m,i,h=>by
  unfold Zg at h
  split at h
  ·cases h
  ·rename_i hne
   have ih:=Zdu a b v m (i+1) h;simp only[List.cons_append,Zg]
   by_cases hb:b=p.1
   ·rw[if_pos hb,if_pos hb,if_neg (by rw[hb];exact fun e=>hne e.symm)]
   ·rw[if_neg hb,if_neg hb];exact ih
theorem Zdt (a b:α) (v:Value):∀(m:List (α×Value)) (i:Nat) (r:Nat×Value),Zg a m i=some r→(Zg b (m.modify (r.1-i) fun p=>(p.1,v)) i).map (·.2)=if b=a then some v else (Zg b m i).map (·.2)
 |[],i,r,h=>by simp[Zg]at h
 |p::m,i,r,h=>by
  have hl:=ZaQ a (p::m) i r h;unfold Zg at h
  split at h
  ·rename_i hab
   cases h
   simp only[Nat.sub_self,List.modify_zero_cons,Zg]
   by_cases hb:b=a
   ·rw[if_pos (by rw[hb,hab]),if_pos hb];rfl
   ·rw[if_neg (by rw[←hab];exact hb),if_neg hb,if_neg (by rw[←hab];exact hb)]
  ·rename_i hne
   have h1:=(ZaQ a m (i+1) r h).1;have ih:=Zdt a b v m (i+1) r h;rw[show r.1-i=(r.1-(i+1))+1 by omega,List.modify_succ_cons];simp only[Zg]
   by_cases hb:b=p.1
   ·rw[if_pos hb,if_pos hb,if_neg (by rw[hb];exact fun e=>hne e.symm)]
   ·rw[if_neg hb,if_neg hb];exact ih
theorem Za7 (m:List (α×Value)) (a b:α) (v:Value):Zm (Zu m a v) b=if b=a then some v else Zm m b:=by
 unfold Zm Zu
 cases h:Zg a m 0 with
 |none=>exact Zdu a b v m 0 h
 |some r=>
  have:=Zdt a b v m 0 r h;rw[Nat.sub_zero]at this;exact this
theorem Zr (m:List (α×Value)) (a:α) (v:Value):Zm (Zu m a v) a=some v:=by rw[Za7,if_pos rfl]
theorem Zo (m:List (α×Value)) {a b:α} (v:Value) (h:b≠a):Zm (Zu m a v) b=Zm m b:=by rw[Za7,if_neg h]
theorem Zag (a:α):Zm ([]:List (α×Value)) a=none:=rfl
end
theorem KeyBy.agg_ {α:Type} [DecidableEq α] {P:Program} {kt:TypeId} {enc:α→Value} {fs:Array Field} (ht:P.underlying kt=some (.struct fs)) (hagg:∀a,∃cs,enc a= .agg cs)
  (hc:∀(w:World) (e:Bool) (a:α),(Instr.checkKey e 10000 kt (enc a)).run P w= .ok () w) (hb:∀a,Instr.sameBits 10000 (enc a) (enc a)=true)
  (heq:∀(w:World) (x y:α),(Op.equal kt (enc x) (enc y)).run P w= .ok (decide (x=y)) w):KeyBy P kt enc:=by
 refine⟨hc,hb,fun w a es m h=> ?_⟩;have h2:=Zbd (a:=a) (enc:=enc) heq w es m 0 h;unfold Instr.findKey;obtain⟨cs,ha⟩:=hagg a
 cases es with
 |nil=>
  cases m with
  |nil=>simp[run_underlying ht,Instr.findNow,Zg]
  |cons p m=>simp at h
 |cons e es=>
  have hn:Instr.findNow (.struct fs) (enc a) (e::es) 0=none:=by
   unfold Instr.findNow;rw[ha];simp[Instr.sameNow]
  simp[run_underlying ht,hn,h2]
end
end Go.Proofs.Ytblplapkdmhikaa
