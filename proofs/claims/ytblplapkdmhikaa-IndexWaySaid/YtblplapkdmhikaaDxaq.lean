/- Walks: simple by the program; the bits of their kinds, by the program and by the document. -/
import Derived.Test.YtblplapkdmhikaaProg
import Derived.IntWalk
import Derived.Test.YtblplapkdmhikaaDxag
import Derived.Test.YtblplapkdmhikaaDxak
import Derived.Test.YtblplapkdmhikaaDxan
namespace Go.Proofs.Ytblplapkdmhikaa
set_option linter.unusedVariables false
set_option linter.unusedSimpArgs false
section
open Go.RowKit
section
variable {α:Type} [DecidableEq α]
theorem Zcb (a:α):∀(m:List (α×Value)) (i:Nat),Zg a m i=none↔a∉m.map (·.1)
 |[],i=>by simp[Zg]
 |p::m,i=>by
  unfold Zg
  by_cases h:a=p.1
  ·simp[h]
  ·simp only[List.map_cons,List.mem_cons,h,if_false,false_or];exact Zcb a m (i+1)
theorem ZeN (m:List (α×Value)) (a:α) (v:Value):(Zu m a v).map (·.1)=if a∈m.map (·.1) then m.map (·.1) else m.map (·.1)++[a]:=by
 unfold Zu
 cases h:Zg a m 0 with
 |none=>
  rw[if_neg ((Zcb a m 0).1 h),List.map_append];rfl
 |some r=>
  rw[if_pos (by
   rcases Classical.em (a∈m.map (·.1))with h'|h'
   ·exact h'
   ·rw[(Zcb a m 0).2 h']at h;cases h)]
  apply List.ext_getElem?
  intro j;simp only[List.getElem?_map,List.getElem?_modify]
  cases m[j]? with
  |none=>simp
  |some p=>by_cases hj:r.1=j<;>simp[hj]
end
theorem ZaD:KeyBy Try.prog 3 (fun n:Int=>Value.int .i64 n):=KeyBy.int_ Try.underlying3
end
/- The document on one transaction:what it needs of others. -/
section
open Go.RowKit
def VersR (F:Nat→Prop) (w:World) (A:Option Addr) (l:List Ver):Prop:=Recs F w A 3 (l.map Ver.cells)
theorem VersR.at_ {F:Nat→Prop} {w:World} {A:Option Addr} {l:List Ver} (h:VersR F w A l) {k:Nat} (hk:k<l.length):∃ad,A=some ad∧
  w.cell? (ad.add (k*3))=some (.int .i64 l[k].tx)∧w.cell? ⟨(ad.add (k*3)).block,(ad.add (k*3)).off+1,none⟩=some (.int .i64 l[k].key)∧
  w.cell? ⟨(ad.add (k*3)).block,(ad.add (k*3)).off+2,none⟩=some (.int .i64 l[k].nth):=by
 have hk':k<(l.map Ver.cells).length:=by simpa using hk
 obtain⟨ad,e,_,_,hc⟩:=Recs.at_ h hk';rw[List.getElem_map]at hc;exact⟨ad,e,by simpa using hc 0 _ rfl,by simpa using hc 1 _ rfl,by simpa using hc 2 _ rfl⟩
theorem VersR.upd {F S:Nat→Prop} {w w':World} {A:Option Addr} {l:List Ver} (h:VersR F w A l) (k:Upd S w w') (hn:∀i,F i→¬S i):VersR F w' A l:=Recs.upd h k hn
theorem ZcF {l:List Ver}:∀r∈l.map Ver.cells,r.length=3:=fun r hr=>by
 obtain⟨e,_,rfl⟩:=List.mem_map.1 hr;rfl
theorem Zav {w':World} {base:Nat} {l:List Ver} {A:Option Addr} {c:Nat} (h:w'.ownsRow base 28 3 (.slice A l.length c) l.length (l.map Ver.cells).flatten):VersR (fun i=>base≤i) w' A l:=by
 have h2:=Recs.of_own (n:=l.length) (c:=c) ZcF (by omega) h;exact Recs.weak h2 fun i _ hi=>(h.lt i hi).1
end
end Go.Proofs.Ytblplapkdmhikaa
