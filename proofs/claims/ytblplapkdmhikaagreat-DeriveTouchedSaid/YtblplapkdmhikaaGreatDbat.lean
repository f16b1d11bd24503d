/- Edges held against one another: by the program and by the document. -/
import Derived.Test.YtblplapkdmhikaaGreatProg
import Derived.Sort.Grow
import Derived.Deep.RegionHeld3
import Derived.IntWalk
import Derived.Lib.SlBytesRow
import Derived.Test.YtblplapkdmhikaaGreatDbaf
import Derived.Test.YtblplapkdmhikaaGreatDbah
import Derived.Test.YtblplapkdmhikaaGreatDbal
namespace Go.Proofs.YtblplapkdmhikaaGreat
set_option linter.unusedVariables false
set_option linter.unusedSimpArgs false
section
open Go.RowKit
def Zx (a b:Int):Int:=if a<b then -1 else if b<a then 1 else 0
theorem ZaY (a:Int):Zx a a=0:=by unfold Zx;simp
theorem Za2 {a b:Int} (h:a≠b):Zx a b≠0∧decide (Zx a b<0)=decide (a<b):=by
 unfold Zx
 by_cases h1:a<b
 ·simp[h1]
 ·have:b<a:=by omega
  simp[h1,this]
def Zan (a b:Edge):Int:=if a.f≠b.f then Zx a.f b.f else if a.k≠b.k then Zx a.k b.k else if a.key≠b.key then Zx a.key b.key else Zx a.t b.t
def ltE (a b:Edge):Bool:=if a.f≠b.f then decide (a.f<b.f) else if a.k≠b.k then decide (a.k<b.k) else if a.key≠b.key then decide (a.key<b.key) else decide (a.t<b.t)
theorem Znm (a b:Edge):decide (Zan a b<0)=ltE a b:=by
 unfold Zan ltE
 by_cases h1:a.f≠b.f
 ·rw[if_pos h1,if_pos h1,(Za2 h1).2]
 rw[if_neg h1,if_neg h1]
 by_cases h2:a.k≠b.k
 ·rw[if_pos h2,if_pos h2,(Za2 h2).2]
 rw[if_neg h2,if_neg h2]
 by_cases h3:a.key≠b.key
 ·rw[if_pos h3,if_pos h3,(Za2 h3).2]
 rw[if_neg h3,if_neg h3]
 by_cases h4:a.t=b.t
 ·rw[h4,ZaY];simp
 ·rw[(Za2 h4).2]
theorem Zev (w:World) (n:Int):Calls Tryz.prog 294 #[.int .i64 n] w fun e w'=>e= .returned (.bool false)∧w=w':=by
 have hb:(n != n)=false:=by simp
 go_enter Tryz.func294,Tryz.ntmps294
 go_wp2
 go_ret
 exact⟨rfl,rfl⟩
theorem Zau (w:World) (a b:Int):Calls Tryz.prog 225 #[.int .i64 a,.int .i64 b] w fun e w'=>e= .returned (.int .i64 (Zx a b))∧w=w':=by
 by_cases h1:a<b
 ·have H:=Qh (show Zx a b= -1 by unfold Zx;rw[if_pos h1])
  go_enter Tryz.func225,Tryz.ntmps225
  go_wp2_with fail
  refine(Zev _ _).mono ?_;rintro e w' ⟨rfl,rfl⟩
  go_wp2_with fail
  refine(Zev _ _).mono ?_;rintro e w' ⟨rfl,rfl⟩;go_wp2
  go_ret
  exact⟨by rw[H.out];rfl,rfl⟩
 ·by_cases h2:b<a
  ·have H:=Qh (show Zx a b=1 by unfold Zx;rw[if_neg h1,if_pos h2])
   go_enter Tryz.func225,Tryz.ntmps225
   go_wp2_with fail
   refine(Zev _ _).mono ?_;rintro e w' ⟨rfl,rfl⟩
   go_wp2_with fail
   refine(Zev _ _).mono ?_;rintro e w' ⟨rfl,rfl⟩;go_wp2
   go_ret
   exact⟨by rw[H.out];rfl,rfl⟩
  ·have H:=Qh (show Zx a b=0 by unfold Zx;rw[if_neg h1,if_neg h2])
   go_enter Tryz.func225,Tryz.ntmps225
   go_wp2_with fail
   refine(Zev _ _).mono ?_;rintro e w' ⟨rfl,rfl⟩
   go_wp2_with fail
   refine(Zev _ _).mono ?_;rintro e w' ⟨rfl,rfl⟩;go_wp2
   go_ret
   exact⟨by rw[H.out];rfl,rfl⟩
def Grw (w w':World):Prop:=∃q os',w'=Sort.grow (w.drewN q) os'
theorem Grw.refl (w:World):Grw w w:=⟨0,#[],by unfold Sort.grow World.drewN;simp⟩
theorem Grw.alloc {w w':World} (h:Grw w w') (o:Obj):Grw w (w'.alloc o):=by
 obtain⟨q,os',rfl⟩:=h;exact⟨q,os'.push o,by unfold Sort.grow World.drewN World.alloc;simp⟩
theorem Grw.drewN {w w':World} (h:Grw w w') (n:Nat):Grw w (w'.drewN n):=by
 obtain⟨q,os',rfl⟩:=h;exact⟨q+n,os',by unfold Sort.grow World.drewN;simp[Nat.add_assoc]⟩
theorem Grw.upd {w w':World} (h:Grw w w'):Upd No w w':=by
 obtain⟨q,os',rfl⟩:=h;exact⟨rfl,rfl,rfl,by unfold Sort.grow World.drewN;simp,fun k hk _=>by unfold Sort.grow World.drewN;simp[Array.getElem?_append_left hk]⟩
theorem ZbD {P:Program} {f:FuncId} {args:Array Value} {w:World} {a n:Nat} {v:Value} (h:Calls P f args (w.drewN (a+n)) fun e w'=>e= .returned v∧w.drewN (a+n)=w'):
  Calls P f args (w.drewN (a+n)) fun e w'=>e= .returned v∧∃m,w'=w.drewN (a+m):=h.mono fun _ _ h=>⟨h.1,n,h.2.symm⟩
set_option maxRecDepth 100000 in
set_option maxHeartbeats 1000000 in
theorem Zku (w:World) (x y:Edge):Calls Tryz.prog 149 #[.agg x.cells.toArray,.agg y.cells.toArray] w fun e w'=>e= .returned (.int .i64 (Zan x y))∧Grw w w':=by
 unfold Edge.cells;have H1:=Qh (show x.f=y.f→Zx x.f y.f=0 from fun h=>by rw[h,ZaY])
 by_cases h1:x.f=y.f
 ·have b1:(Zx x.f y.f != 0)=false:=by rw[h1,ZaY];rfl
  by_cases h2:x.k=y.k
  ·have b2:(Zx x.k y.k != 0)=false:=by rw[h2,ZaY];rfl
   by_cases h3:x.key=y.key
   ·have b3:(Zx x.key y.key != 0)=false:=by rw[h3,ZaY];rfl
    have H:=Qh (show Zan x y=Zx x.t y.t by unfold Zan;rw[if_neg (by simpa using h1),if_neg (by simpa using h2),if_neg (by simpa using h3)]);clear h1 h2 h3
    by_cases h4:x.t=y.t
    ·have b4:(Zx x.t y.t != 0)=false:=by rw[h4,ZaY];rfl
     have H4:=Qh (show Zx x.t y.t=0 by rw[h4,ZaY]);clear h4
     go_enter Tryz.func149,Tryz.ntmps149
     go_wp2;refine wp_loop_rounds 5 ?_;rw[rounds_succ];go_wp2
     go_quiet ((go_at_call 225;exact Calls.quiet_of_same ((Zau _ _ _).mono fun e w' h=>⟨h.1,h.2.symm⟩)))
     go_wp2;rw[rounds_succ];go_wp2
     go_quiet ((go_at_call 225;exact ZbD (Zau _ _ _)))
     go_wp2;rw[rounds_succ];go_wp2
     go_quiet ((go_at_call 225;exact ZbD (Zau _ _ _)))
     go_wp2;rw[rounds_succ];go_wp2
     go_quiet ((go_at_call 225;exact ZbD (Zau _ _ _)))
     go_wp2;rw[rounds_succ];go_wp2
     go_ret
     exact⟨by rw[H.out,H4.out];rfl,(((((Grw.refl _).alloc _).alloc _).alloc _).alloc _).drewN _⟩
    ·have b4:(Zx x.t y.t != 0)=true:=by rw[bne_iff_ne];exact(Za2 h4).1
     clear h4
     go_enter Tryz.func149,Tryz.ntmps149
     go_wp2;refine wp_loop_rounds 4 ?_;rw[rounds_succ];go_wp2
     go_quiet ((go_at_call 225;exact Calls.quiet_of_same ((Zau _ _ _).mono fun e w' h=>⟨h.1,h.2.symm⟩)))
     go_wp2;rw[rounds_succ];go_wp2
     go_quiet ((go_at_call 225;exact ZbD (Zau _ _ _)))
     go_wp2;rw[rounds_succ];go_wp2
     go_quiet ((go_at_call 225;exact ZbD (Zau _ _ _)))
     go_wp2;rw[rounds_succ];go_wp2
     go_quiet ((go_at_call 225;exact ZbD (Zau _ _ _)))
     go_wp2
     go_ret
     exact⟨by rw[H.out];rfl,(((((Grw.refl _).alloc _).alloc _).alloc _).alloc _).drewN _⟩
   ·have b3:(Zx x.key y.key != 0)=true:=by rw[bne_iff_ne];exact(Za2 h3).1
    have H:=Qh (show Zan x y=Zx x.key y.key by unfold Zan;rw[if_neg (by simpa using h1),if_neg (by simpa using h2),if_pos h3]);clear h1 h2 h3
    go_enter Tryz.func149,Tryz.ntmps149
    go_wp2;refine wp_loop_rounds 3 ?_;rw[rounds_succ];go_wp2
    go_quiet ((go_at_call 225;exact Calls.quiet_of_same ((Zau _ _ _).mono fun e w' h=>⟨h.1,h.2.symm⟩)))
    go_wp2;rw[rounds_succ];go_wp2
    go_quiet ((go_at_call 225;exact ZbD (Zau _ _ _)))
    go_wp2;rw[rounds_succ];go_wp2
    go_quiet ((go_at_call 225;exact ZbD (Zau _ _ _)))
    go_wp2
    go_ret
    exact⟨by rw[H.out];rfl,(((((Grw.refl _).alloc _).alloc _).alloc _).alloc _).drewN _⟩
  ·have b2:(Zx x.k y.k != 0)=true:=by rw[bne_iff_ne];exact(Za2 h2).1
   have H:=Qh (show Zan x y=Zx x.k y.k by unfold Zan;rw[if_neg (by simpa using h1),if_pos h2]);clear h1 h2
   go_enter Tryz.func149,Tryz.ntmps149
   go_wp2;refine wp_loop_rounds 2 ?_;rw[rounds_succ];go_wp2
   go_quiet ((go_at_call 225;exact Calls.quiet_of_same ((Zau _ _ _).mono fun e w' h=>⟨h.1,h.2.symm⟩)))
   go_wp2;rw[rounds_succ];go_wp2
   go_quiet ((go_at_call 225;exact ZbD (Zau _ _ _)))
   go_wp2
   go_ret
   exact⟨by rw[H.out];rfl,(((((Grw.refl _).alloc _).alloc _).alloc _).alloc _).drewN _⟩
 ·have b1:(Zx x.f y.f != 0)=true:=by rw[bne_iff_ne];exact(Za2 h1).1
  have H:=Qh (show Zan x y=Zx x.f y.f by unfold Zan;rw[if_pos h1]);clear h1
  go_enter Tryz.func149,Tryz.ntmps149
  go_wp2;refine wp_loop_rounds 1 ?_;rw[rounds_succ];go_wp2
  go_quiet ((go_at_call 225;exact Calls.quiet_of_same ((Zau _ _ _).mono fun e w' h=>⟨h.1,h.2.symm⟩)))
  go_wp2
  go_ret
  exact⟨by rw[H.out];rfl,(((((Grw.refl _).alloc _).alloc _).alloc _).alloc _).drewN _⟩
end
/- A walk's text:the document's. -/
section
open Go.RowKit
def Edge.ok (e:Edge):Prop:=(-9223372036854775808≤e.f∧e.f≤9223372036854775807)∧(-9223372036854775808≤e.t∧e.t≤9223372036854775807)∧(-9223372036854775808≤e.key∧e.key≤9223372036854775807)
end
/- Digraphs:ends held against one another. -/
section
open Go.RowKit
structure DEnd where
 kind:Int
 label:Int
 node:Int
deriving DecidableEq
def DEnd.cells (e:DEnd):List Value:=[.int .i64 e.kind,.int .i64 e.label,.int .i64 e.node]
def orI:List Int→Int
 |[]=>0
 |x::l=>if x=0 then orI l else x
theorem ZhJ (x:Int) (l:List Int):orI (x::l)=if x=0 then orI l else x:=rfl
def ZaF (a b:DEnd):Int:=orI [Zx a.kind b.kind,Zx a.label b.label,Zx a.node b.node]
end
/- Digraphs:where an end stands among others. -/
section
open Go.RowKit
def DEnds (F:Nat→Prop) (w:World) (A:Option Addr) (l:List DEnd):Prop:=Recs F w A 3 (l.map DEnd.cells)
theorem DEnds.at_ {F:Nat→Prop} {w:World} {A:Option Addr} {l:List DEnd} (h:DEnds F w A l) {k:Nat} (hk:k<l.length):∃ad,A=some ad∧
  w.cell? (ad.add (k*3))=some (.int .i64 l[k].kind)∧w.cell? ⟨(ad.add (k*3)).block,(ad.add (k*3)).off+1,none⟩=some (.int .i64 l[k].label)∧
  w.cell? ⟨(ad.add (k*3)).block,(ad.add (k*3)).off+2,none⟩=some (.int .i64 l[k].node):=by
 have hk':k<(l.map DEnd.cells).length:=by simpa using hk
 obtain⟨ad,e,_,_,hc⟩:=Recs.at_ h hk';rw[List.getElem_map]at hc;exact⟨ad,e,by simpa using hc 0 _ rfl,by simpa using hc 1 _ rfl,by simpa using hc 2 _ rfl⟩
theorem DEnds.upd {F S:Nat→Prop} {w w':World} {A:Option Addr} {l:List DEnd} (h:DEnds F w A l) (k:Upd S w w') (hn:∀i,F i→¬S i):DEnds F w' A l:=Recs.upd h k hn
def ZmG (l:List DEnd) (e:DEnd) (p:Nat):Prop:=p≤l.length∧∀k (hk:k<l.length),(ZaF l[k] e<0↔k<p)
def ZjE (l:List DEnd) (e:DEnd) (p:Nat):Bool:=match l[p]? with|some x=>ZaF x e==0|none=>false
end
end Go.Proofs.YtblplapkdmhikaaGreat
