/- Maps that count: what they have not is 0. -/
import Derived.Test.YtblplapkdmhikaaProg
import Derived.Test.YtblplapkdmhikaaDxap
namespace Go.Proofs.Ytblplapkdmhikaa
set_option linter.unusedVariables false
set_option linter.unusedSimpArgs false
section
open Go.RowKit
def ZQ (p:Int×Int):Value:= .agg #[.int .i64 p.1,.int .i64 p.2]
theorem ZcB:KeyBy Try.prog 104 ZQ:=KeyBy.arr2 Try.underlying104 Try.underlying3 (by kernel_rfl)
section
variable {α:Type} [DecidableEq α]
structure CntM (m:List (α×Value)) (g:α→Nat):Prop where
 nd:(m.map (·.1)).Nodup
 get:∀a,Zm m a=if g a=0 then none else some (.int .i64 (g a:Int))
end
theorem CntM.new {α:Type} [DecidableEq α]:CntM ([]:List (α×Value)) (fun _=>0):=⟨by simp,fun a=>by simp[Zag]⟩
theorem CntM.val {α:Type} [DecidableEq α] {m:List (α×Value)} {g:α→Nat} (h:CntM m g) (a:α):(Zm m a).getD (.int .i64 0)= .int .i64 (g a:Int):=by
 rw[h.get a];split
 ·rename_i h0;rw[h0];rfl
 ·rfl
theorem ZaC {α:Type} [DecidableEq α] (a:α):∀(m:List (α×Value)) (i:Nat),Zg a m i=none↔a∉m.map (·.1)
 |[],i=>by simp[Zg]
 |p::m,i=>by
  unfold Zg
  by_cases h:a=p.1
  ·rw[if_pos h];simp[h]
  ·rw[if_neg h,ZaC a m (i+1)];simp[h]
theorem Za6 {α:Type} [DecidableEq α] (m:List (α×Value)) (a:α):Zm m a=none↔a∉m.map (·.1):=by
 unfold Zm;rw[Option.map_eq_none_iff,ZaC]
theorem Zcx {α:Type} [DecidableEq α] {m:List (α×Value)} (h:(m.map (·.1)).Nodup) (a:α) (v:Value):((Zu m a v).map (·.1)).Nodup:=by
 unfold Zu
 cases hl:Zg a m 0 with
 |none=>
  simp only;rw[List.map_append,List.nodup_append];refine⟨h,by simp,fun x hx y hy e=> ?_⟩;simp at hy;subst hy e;exact(ZaC _ m 0).1 hl hx
 |some r=>
  simp only
  have:(m.modify r.1 fun p=>(p.1,v)).map (·.1)=m.map (·.1):=by
   apply List.ext_getElem?
   intro j;simp only[List.getElem?_map,List.getElem?_modify]
   by_cases hij:r.1=j
   ·subst hij;cases m[r.1]? <;>simp
   ·cases m[j]? <;>simp[hij]
  rw[this];exact h
theorem CntM.put {α:Type} [DecidableEq α] {m:List (α×Value)} {g:α→Nat} (h:CntM m g) (a:α) (n:Nat) (hn:0<n):CntM (Zu m a (.int .i64 (n:Int))) (fun x=>if x=a then n else g x):=by
 refine⟨Zcx h.nd a _,fun x=> ?_⟩;rw[Za7]
 by_cases e:x=a
 ·subst e;simp only[if_true];rw[if_neg (by omega)]
 ·simp only[if_neg e];exact h.get x
theorem CntM.congr {α:Type} [DecidableEq α] {m:List (α×Value)} {g f:α→Nat} (h:CntM m g) (e:∀a,g a=f a):CntM m f:=by
 have:g=f:=funext e;rw[←this];exact h
end
end Go.Proofs.Ytblplapkdmhikaa
