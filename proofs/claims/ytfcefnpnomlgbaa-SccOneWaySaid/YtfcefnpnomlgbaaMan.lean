/- Maps that the calls themselves make: what is got behind a put; keys that are structs. -/
import Derived.Laws.StructEq
import Derived.Test.YtfcefnpnomlgbaaMaj
namespace Go.Proofs.Ytfcefnpnomlgbaa
set_option linter.unusedSimpArgs false
set_option linter.unusedVariables false
open Go.RowKit
section
variable {α:Type} [DecidableEq α]
theorem Zdp (a b:α) (v:Value):∀(m:List (α×Value)) (i:Nat),look a m i=none→(look b (m++[(a,v)]) i).map (·.2)=if b=a then some v else (look b m i).map (·.2)
 |[],i,_=>by
  by_cases h:b=a<;>simp[look,h]
 |p::m,i,h=>by
  unfold look at h
  split at h
  ·cases h
  ·rename_i hne
   have ih:=Zdp a b v m (i+1) h
   simp only[List.cons_append,look]
   by_cases hb:b=p.1
   ·rw[if_pos hb,if_pos hb,if_neg (by rw[hb];exact fun e=>hne e.symm)]
   ·rw[if_neg hb,if_neg hb]
    exact ih
theorem Zdo (a b:α) (v:Value):∀(m:List (α×Value)) (i:Nat) (r:Nat×Value),look a m i=some r→(look b (m.modify (r.1-i) fun p=>(p.1,v)) i).map (·.2)=if b=a then some v else (look b m i).map (·.2)
 |[],i,r,h=>by simp[look]at h
 |p::m,i,r,h=>by
  have hl:=ZbJ a (p::m) i r h
  unfold look at h
  split at h
  ·rename_i hab
   cases h
   simp only[Nat.sub_self,List.modify_zero_cons,look]
   by_cases hb:b=a
   ·rw[if_pos (by rw[hb,hab]),if_pos hb]
    rfl
   ·rw[if_neg (by rw[←hab];exact hb),if_neg hb,if_neg (by rw[←hab];exact hb)]
  ·rename_i hne
   have h1:=(ZbJ a m (i+1) r h).1
   have ih:=Zdo a b v m (i+1) r h
   rw[show r.1-i=(r.1-(i+1))+1 by omega,List.modify_succ_cons]
   simp only[look]
   by_cases hb:b=p.1
   ·rw[if_pos hb,if_pos hb,if_neg (by rw[hb];exact fun e=>hne e.symm)]
   ·rw[if_neg hb,if_neg hb]
    exact ih
theorem ZcN (m:List (α×Value)) (a b:α) (v:Value):Zaq (ZaT m a v) b=if b=a then some v else Zaq m b:=by
 unfold Zaq ZaT
 cases h:look a m 0 with
 |none=>exact Zdp a b v m 0 h
 |some r=>
  have:=Zdo a b v m 0 r h
  rw[Nat.sub_zero]at this
  exact this
theorem Za0 (m:List (α×Value)) (a:α) (v:Value):Zaq (ZaT m a v) a=some v:=by rw[ZcN,if_pos rfl]
theorem Z5 (m:List (α×Value)) {a b:α} (v:Value) (h:b≠a):Zaq (ZaT m a v) b=Zaq m b:=by rw[ZcN,if_neg h]
theorem Zfj (a:α):Zaq ([]:List (α×Value)) a=none:=rfl
end
end Go.Proofs.Ytfcefnpnomlgbaa
