/- strings.Builder, of the call's own: what WriteString and String do, and which blocks they touch. -/
import Derived.Lib.Builder
import Derived.Shelf.Strings.Builder1
import Derived.Test.YtblplapkdmhikaaGreatProg
import Derived.Shelf.Strings.Builder2
import Derived.Test.YtblplapkdmhikaaGreatDxaf
namespace Go.Proofs.YtblplapkdmhikaaGreat
set_option linter.unusedVariables false
set_option linter.unusedSimpArgs false
section
open Go.RowKit
section
variable {P:Program} {ops:Array Oper} {rest:List Oper} {o:Oper} {a:Act} {Q:Exit→Act→World→Prop}
end
def Bld (w:World) (F:Nat→Prop) (b:Nat) (l:List UInt8):Prop:=
 ∃p v,(p= .pointer none∨p= .pointer (some ⟨b,0,none⟩))∧Blk w b 200 [p,v]∧w.ownsRow b 5 1 v l.length (Lib.byteCells l)∧v.ownBlock≠some b∧F b∧(∀i,v.ownBlock=some i→F i)
namespace Bld
variable {w w':World} {F G:Nat→Prop} {b:Nat} {l:List UInt8}
theorem lt (h:Bld w F b l):b<w.heap.size:=by
 obtain⟨p,v,_,hb,_⟩:=h;exact hb.lt
theorem upd {S:Nat→Prop} (h:Bld w F b l) (k:Upd S w w') (hn:∀i,F i→¬S i):Bld w' F b l:=by
 obtain⟨p,v,hp,hb,ho,hne,hF,hv⟩:=h;exact⟨p,v,hp,hb.upd k (hn _ hF),Zb ho k (fun i hi=>hn _ (hv i hi)),hne,hF,hv⟩
theorem weak (h:Bld w F b l) (hg:∀i,i<w.heap.size→F i→G i):Bld w G b l:=by
 obtain⟨p,v,hp,hb,ho,hne,hF,hv⟩:=h;exact⟨p,v,hp,hb,ho,hne,hg _ hb.lt hF,fun i hi=>hg _ (ho.lt i hi).2 (hv i hi)⟩
theorem lt' (h:Bld w F b l):Bld w (fun i=>i<w.heap.size∧b≤i∧F i) b l:=by
 obtain⟨p,v,hp,hb,ho,hne,hF,hv⟩:=h;exact⟨p,v,hp,hb,ho,hne,⟨hb.lt,Nat.le_refl _,hF⟩,fun i hi=>⟨(ho.lt i hi).2,(ho.lt i hi).1,hv i hi⟩⟩
theorem is (h:Bld w F b l):Lib.IsBuilder 200 5 b b (Lib.byteCells l) w:=by
 obtain⟨p,v,hp,hb,ho,hne,hF,hv⟩:=h;rcases hp with rfl|rfl
 ·exact .inl ⟨Nat.le_refl _,v,hb,by rw[Lib.byteCells_length];exact ho,hne⟩
 ·exact .inr ⟨Nat.le_refl _,v,hb,by rw[Lib.byteCells_length];exact ho,hne⟩
end Bld
end
end Go.Proofs.YtblplapkdmhikaaGreat
