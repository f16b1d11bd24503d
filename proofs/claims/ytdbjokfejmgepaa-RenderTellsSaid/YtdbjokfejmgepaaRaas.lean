/- Maps that count: what they have not is 0. -/
import Derived.Test.YtdbjokfejmgepaaProg
import Derived.Test.YtdbjokfejmgepaaRaar
namespace Go.Proofs.Ytdbjokfejmgepaa
set_option linter.unusedVariables false
set_option linter.unusedSimpArgs false
section
open Go.RowKit
section
variable {α:Type} [DecidableEq α]
structure CntM (m:List (α×Value)) (g:α→Nat):Prop where
 nd:(m.map (·.1)).Nodup
 get:∀a,Z8 m a=if g a=0 then none else some (.int .i64 (g a:Int))
end
theorem CntM.new {α:Type} [DecidableEq α]:CntM ([]:List (α×Value)) (fun _=>0):=⟨by simp,fun a=>by simp[ZdA]⟩
theorem CntM.val {α:Type} [DecidableEq α] {m:List (α×Value)} {g:α→Nat} (h:CntM m g) (a:α):(Z8 m a).getD (.int .i64 0)= .int .i64 (g a:Int):=by
 rw[h.get a];split
 ·rename_i h0;rw[h0];rfl
 ·rfl
theorem Zd5 {α:Type} [DecidableEq α] (a:α):∀(m:List (α×Value)) (i:Nat),look a m i=none↔a∉m.map (·.1)
 |[],i=>by simp[look]
 |p::m,i=>by
  unfold look
  by_cases h:a=p.1
  ·rw[if_pos h];simp[h]
  ·rw[if_neg h,Zd5 a m (i+1)];simp[h]
theorem ZjD {α:Type} [DecidableEq α] (m:List (α×Value)) (a:α):Z8 m a=none↔a∉m.map (·.1):=by
 unfold Z8;rw[Option.map_eq_none_iff,Zd5]
theorem Zly {α:Type} [DecidableEq α] {m:List (α×Value)} (h:(m.map (·.1)).Nodup) (a:α) (v:Value):((Zbh m a v).map (·.1)).Nodup:=by
 unfold Zbh
 cases hl:look a m 0 with
 |none=>
  simp only;rw[List.map_append,List.nodup_append];refine⟨h,by simp,fun x hx y hy e=> ?_⟩;simp at hy;subst hy e;exact(Zd5 _ m 0).1 hl hx
 |some r=>
  simp only
  have:(m.modify r.1 fun p=>(p.1,v)).map (·.1)=m.map (·.1):=by
   apply List.ext_getElem?
   intro j;simp only[List.getElem?_map,List.getElem?_modify]
   by_cases hij:r.1=j
   ·subst hij;cases m[r.1]? <;>simp
   ·cases m[j]? <;>simp[hij]
  rw[this];exact h
theorem CntM.put {α:Type} [DecidableEq α] {m:List (α×Value)} {g:α→Nat} (h:CntM m g) (a:α) (n:Nat) (hn:0<n):CntM (Zbh m a (.int .i64 (n:Int))) (fun x=>if x=a then n else g x):=by
 refine⟨Zly h.nd a _,fun x=> ?_⟩;rw[ZbB]
 by_cases e:x=a
 ·subst e;simp only[if_true];rw[if_neg (by omega)]
 ·simp only[if_neg e];exact h.get x
theorem CntM.mem {α:Type} [DecidableEq α] {m:List (α×Value)} {g:α→Nat} (h:CntM m g) (a:α):a∈m.map (·.1)↔g a≠0:=by
 have h1:=ZjD m a;rw[h.get a]at h1
 by_cases hg:g a=0
 ·rw[if_pos hg]at h1;simp only[true_iff]at h1;constructor
  ·intro hm;exact absurd hm h1
  ·intro hm;exact absurd hg hm
 ·rw[if_neg hg]at h1;have h2:¬(a∉m.map (·.1)):=fun hh=>by have:=h1.2 hh;cases this
  exact⟨fun _=>hg,fun _=>Classical.byContradiction h2⟩
theorem CntM.congr {α:Type} [DecidableEq α] {m:List (α×Value)} {g f:α→Nat} (h:CntM m g) (e:∀a,g a=f a):CntM m f:=by
 have:g=f:=funext e;rw[←this];exact h
end
end Go.Proofs.Ytdbjokfejmgepaa
