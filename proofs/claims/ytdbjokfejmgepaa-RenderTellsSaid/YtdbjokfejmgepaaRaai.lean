/- Slices of structs: copied into a row of one's own; grown by zeros. -/
import Derived.Lib.AppendZerosOnto
import Derived.Deep.AppendSrc
import Derived.Test.YtdbjokfejmgepaaRaac
namespace Go.Proofs.Ytdbjokfejmgepaa
set_option linter.unusedVariables false
set_option linter.unusedSimpArgs false
section
open Go.RowKit
section
variable {P:Program} {W:World} {dT sT e:TypeId} {size bytes:Nat}
end
section
variable {P:Program} {ops:Array Oper} {rest:List Oper} {o:Oper} {a:Act} {Q:Exit→Act→World→Prop} {W:World} {dT sT e:TypeId} {size bytes:Nat}
end
/-! rows of one's own,seen as blocks -/
theorem Zlx {w:World} {base:Nat} {e:TypeId} {size:Nat} {A:Option Addr} {n c:Nat} {xs:List Value} (h:w.ownsRow base e size (.slice A n c) n xs) (hn:0<n):
  ∃g cur,A=some ⟨g,0,none⟩∧base≤g∧Blk w g e cur∧n≤c∧cur.length=c*size∧cur.take (n*size)=xs∧c≤maxLen:=by
 rcases h.2 with ⟨_,rfl⟩|⟨g,cap,cur,hv,hb,hg,hnc,hcm,hcs,htake⟩
 ·omega
 ·cases hv
  exact⟨g,cur.toList,rfl,hb,by unfold Blk;simpa using hg,hnc,by simpa using hcs,htake,hcm⟩
theorem Zdu {w:World} {base g:Nat} {e:TypeId} {size n c:Nat} {cur xs:List Value} (hb:Blk w g e cur) (hg:base≤g) (hnc:n≤c) (hl:cur.length=c*size) (hx:cur.take (n*size)=xs) (hc:c≤maxLen) (hs:xs.length=n*size):
  w.ownsRow base e size (.slice (some ⟨g,0,none⟩) n c) n xs:=
 ⟨hs,.inr ⟨g,c,cur.toArray,rfl,hg,hb,hnc,hc,by simpa using hl,by simpa using hx⟩⟩
end
end Go.Proofs.Ytdbjokfejmgepaa
