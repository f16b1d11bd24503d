/- Walks: the contracts with their values named. -/
import Derived.Test.YtonblekdfinpkaaGreatProg
import Derived.Test.YtonblekdfinpkaaGreatWrak
import Derived.Test.YtonblekdfinpkaaGreatWrar
import Derived.Test.YtonblekdfinpkaaGreatWras
import Derived.Test.YtonblekdfinpkaaGreatWraw
import Derived.Test.YtonblekdfinpkaaGreatWray
namespace Go.Proofs.YtonblekdfinpkaaGreat
set_option linter.unusedVariables false
set_option linter.unusedSimpArgs false
section
open Go.RowKit
section
variable {F G:Nat→Prop} {w:World} {A B:Option Addr} {c d n m:Nat} {l k:List Edge}
def WalkX (w:World) (A:Option Addr) (l:List Edge):Prop:=∃F,Walk F w A l
theorem ZuA {v:Bool} (h:WalkX w A l) (hk:WalkX w B k) (hl:l.length≤1000000) (hn:l.length=n) (hm:k.length=m) (hv:Zd7 l k=v):Calls Tryz.prog 27 #[.slice A n c,.slice B m d] w fun e w'=>e= .returned (.bool v)∧Upd No w w':=by subst hn hm hv;obtain⟨F,h⟩:=h;obtain⟨G,hk⟩:=hk;exact Zua F G w A B c d l k h hk hl
theorem ZrB {v:Bool} (h:WalkX w A l) (hk:WalkX w B k) (hl:l.length≤1000000) (hl2:k.length≤1000000) (hn:l.length=n) (hm:k.length=m) (hv:(l==k)=v):Calls Tryz.prog 54 #[.slice A n c,.slice B m d] w fun e w'=>e= .returned (.bool v)∧Upd No w w':=by subst hn hm hv;obtain⟨F,h⟩:=h;obtain⟨G,hk⟩:=hk;exact Zs6 w F G A B c d l k h hk (by omega) (by omega)
def Turned (w:World) (l:List Edge) (n:Nat) (e:Ending) (w':World):Prop:=∃A c,e= .returned (.slice A n c)∧WalkX w' A l∧Upd No w w'
theorem WalkX.upd {w w':World} (h:WalkX w A l) (k:Upd No w w'):WalkX w' A l:=by
 obtain⟨F,h⟩:=h;exact⟨F,Recs.upd h k (fun _ _=>id)⟩
end
theorem Zok {w:World} {A:Option Addr}:WalkX w A []:=⟨fun _=>False,fun h=>absurd rfl h⟩
end
end Go.Proofs.YtonblekdfinpkaaGreat
