/- How arrays of six Booleans that come in read. -/
import Derived.OpenShut
import Derived.Test.YtdbjokfejmgepaaRaat
namespace Go.Proofs.Ytdbjokfejmgepaa
set_option linter.unusedVariables false
set_option linter.unusedSimpArgs false
section
open Go.RowKit
theorem Rdz.array_ {H:Type} {enc:TypeId×Value→H} {P:Program} {w:World} {base:Nat} {spare:Nat→Bool} {held:Bool} {t e:TypeId} {cs:List Value} {n:Nat} (ht:P.underlying t=some (.array n e)) (h:Rdz enc P w base spare held t cs):
  cs.length=P.cellsOf t∧∀i:Nat,i<n→∃m y,DataW.trod enc P w base spare held m e ((cs.drop (i*P.cellsOf e)).take (P.cellsOf e))=some y:=by
 obtain⟨k,y,h,_⟩:=h;obtain⟨xs,m,_,rfl,hl,hxl,hf⟩:=DataW.trod_array ht h;refine⟨hl,fun i hi=> ?_⟩;have hil:i<xs.length:=by omega
 exact⟨m,xs[i],(hf i hi).trans (Qg hil)⟩
theorem cs6 {l:List Value} (h:l.length=6):∃a b c d e f,l=[a,b,c,d,e,f]:=
 match l,h with
 |[a,b,c,d,e,f],_=>⟨a,b,c,d,e,f,rfl⟩
theorem Zj3:Try.prog.cellsOf 23=6:=by kernel_rfl
theorem ZlU:Try.prog.cellsOf 4=1:=by kernel_rfl
theorem Zml {H:Type} {enc:TypeId×Value→H} {w:World} {base:Nat} {spare:Nat→Bool} {held:Bool} {row:List Value} (h:Rdz enc Try.prog w base spare held 23 row):
  ∃b0 b1 b2 b3 b4 b5:Bool,row=[.bool b0,.bool b1,.bool b2,.bool b3,.bool b4,.bool b5]:=by
 obtain⟨hl,hf⟩:=h.array_ Try.underlying23;rw[Zj3]at hl;obtain⟨c0,c1,c2,c3,c4,c5,rfl⟩:=cs6 hl;rw[ZlU]at hf
 have key:∀(i:Nat) (c:Value),i<6→(([c0,c1,c2,c3,c4,c5].drop (i*1)).take 1)=[c]→∃b,c= .bool b:=fun i c hi e=>by
  obtain⟨m,y,hy⟩:=hf i hi;rw[e]at hy;obtain⟨a,ha,_⟩:=DataW.trod_bool Try.underlying4 hy;simp only[List.cons.injEq,and_true]at ha;exact⟨a,ha⟩
 obtain⟨b0,rfl⟩:=key 0 c0 (by omega) rfl;obtain⟨b1,rfl⟩:=key 1 c1 (by omega) rfl;obtain⟨b2,rfl⟩:=key 2 c2 (by omega) rfl;obtain⟨b3,rfl⟩:=key 3 c3 (by omega) rfl;obtain⟨b4,rfl⟩:=key 4 c4 (by omega) rfl;obtain⟨b5,rfl⟩:=key 5 c5 (by omega) rfl;exact⟨b0,b1,b2,b3,b4,b5,rfl⟩
end
end Go.Proofs.Ytdbjokfejmgepaa
