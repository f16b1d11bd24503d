/- Edges held against one another: by the program and by the document. -/
import Derived.Test.YtblplapkdmhikaaProg
import Derived.Sort.Grow
import Derived.IntWalk
import Derived.Test.YtblplapkdmhikaaDxag
import Derived.Test.YtblplapkdmhikaaDxak
namespace Go.Proofs.Ytblplapkdmhikaa
set_option linter.unusedVariables false
set_option linter.unusedSimpArgs false
section
open Go.RowKit
def ZW (a b:Int):Int:=if a<b then -1 else if b<a then 1 else 0
theorem ZbU (a:Int):ZW a a=0:=by unfold ZW;simp
theorem Zbm {a b:Int} (h:a≠b):ZW a b≠0∧decide (ZW a b<0)=decide (a<b):=by
 unfold ZW
 by_cases h1:a<b
 ·simp[h1]
 ·have:b<a:=by omega
  simp[h1,this]
theorem ZbW (w:World) (n:Int):Calls Try.prog 129 #[.int .i64 n] w fun e w'=>e= .returned (.bool false)∧w=w':=by
 have hb:(n != n)=false:=by simp
 go_enter Try.func129,Try.ntmps129
 go_wp2
 go_ret
 exact⟨rfl,rfl⟩
theorem ZdH (w:World) (a b:Int):Calls Try.prog 96 #[.int .i64 a,.int .i64 b] w fun e w'=>e= .returned (.int .i64 (ZW a b))∧w=w':=by
 by_cases h1:a<b
 ·have H:=Qh (show ZW a b= -1 by unfold ZW;rw[if_pos h1])
  go_enter Try.func96,Try.ntmps96
  go_wp2_with fail
  refine(ZbW _ _).mono ?_;rintro e w' ⟨rfl,rfl⟩
  go_wp2_with fail
  refine(ZbW _ _).mono ?_;rintro e w' ⟨rfl,rfl⟩;go_wp2
  go_ret
  exact⟨by rw[H.out];rfl,rfl⟩
 ·by_cases h2:b<a
  ·have H:=Qh (show ZW a b=1 by unfold ZW;rw[if_neg h1,if_pos h2])
   go_enter Try.func96,Try.ntmps96
   go_wp2_with fail
   refine(ZbW _ _).mono ?_;rintro e w' ⟨rfl,rfl⟩
   go_wp2_with fail
   refine(ZbW _ _).mono ?_;rintro e w' ⟨rfl,rfl⟩;go_wp2
   go_ret
   exact⟨by rw[H.out];rfl,rfl⟩
  ·have H:=Qh (show ZW a b=0 by unfold ZW;rw[if_neg h1,if_neg h2])
   go_enter Try.func96,Try.ntmps96
   go_wp2_with fail
   refine(ZbW _ _).mono ?_;rintro e w' ⟨rfl,rfl⟩
   go_wp2_with fail
   refine(ZbW _ _).mono ?_;rintro e w' ⟨rfl,rfl⟩;go_wp2
   go_ret
   exact⟨by rw[H.out];rfl,rfl⟩
def Grw (w w':World):Prop:=∃q os',w'=Sort.grow (w.drewN q) os'
theorem Grw.refl (w:World):Grw w w:=⟨0,#[],by unfold Sort.grow World.drewN;simp⟩
theorem Grw.alloc {w w':World} (h:Grw w w') (o:Obj):Grw w (w'.alloc o):=by
 obtain⟨q,os',rfl⟩:=h;exact⟨q,os'.push o,by unfold Sort.grow World.drewN World.alloc;simp⟩
theorem Grw.drewN {w w':World} (h:Grw w w') (n:Nat):Grw w (w'.drewN n):=by
 obtain⟨q,os',rfl⟩:=h;exact⟨q+n,os',by unfold Sort.grow World.drewN;simp[Nat.add_assoc]⟩
theorem Grw.upd {w w':World} (h:Grw w w'):Upd No w w':=by
 obtain⟨q,os',rfl⟩:=h;exact⟨rfl,rfl,rfl,by unfold Sort.grow World.drewN;simp,fun k hk _=>by unfold Sort.grow World.drewN;simp[Array.getElem?_append_left hk]⟩
end
end Go.Proofs.Ytblplapkdmhikaa
