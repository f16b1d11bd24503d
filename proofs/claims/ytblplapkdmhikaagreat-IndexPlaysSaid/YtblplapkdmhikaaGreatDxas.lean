/- Edges held against one another: by the program and by the document. -/
import Derived.Test.YtblplapkdmhikaaGreatProg
import Derived.Sort.Grow
import Derived.Deep.RegionHeld3
import Derived.IntWalk
import Derived.Lib.SlBytesRow
import Derived.Test.YtblplapkdmhikaaGreatDxaf
import Derived.Test.YtblplapkdmhikaaGreatDxah
import Derived.Test.YtblplapkdmhikaaGreatDxam
namespace Go.Proofs.YtblplapkdmhikaaGreat
set_option linter.unusedVariables false
set_option linter.unusedSimpArgs false
section
open Go.RowKit
def ZR (a b:Int):Int:=if a<b then -1 else if b<a then 1 else 0
theorem ZcW (a:Int):ZR a a=0:=by unfold ZR;simp
theorem Zch {a b:Int} (h:a≠b):ZR a b≠0∧decide (ZR a b<0)=decide (a<b):=by
 unfold ZR
 by_cases h1:a<b
 ·simp[h1]
 ·have:b<a:=by omega
  simp[h1,this]
theorem ZcZ (w:World) (n:Int):Calls Tryz.prog 294 #[.int .i64 n] w fun e w'=>e= .returned (.bool false)∧w=w':=by
 have hb:(n != n)=false:=by simp
 go_enter Tryz.func294,Tryz.ntmps294
 go_wp2
 go_ret
 exact⟨rfl,rfl⟩
theorem Zfz (w:World) (a b:Int):Calls Tryz.prog 225 #[.int .i64 a,.int .i64 b] w fun e w'=>e= .returned (.int .i64 (ZR a b))∧w=w':=by
 by_cases h1:a<b
 ·have H:=Qh (show ZR a b= -1 by unfold ZR;rw[if_pos h1])
  go_enter Tryz.func225,Tryz.ntmps225
  go_wp2_with fail
  refine(ZcZ _ _).mono ?_;rintro e w' ⟨rfl,rfl⟩
  go_wp2_with fail
  refine(ZcZ _ _).mono ?_;rintro e w' ⟨rfl,rfl⟩;go_wp2
  go_ret
  exact⟨by rw[H.out];rfl,rfl⟩
 ·by_cases h2:b<a
  ·have H:=Qh (show ZR a b=1 by unfold ZR;rw[if_neg h1,if_pos h2])
   go_enter Tryz.func225,Tryz.ntmps225
   go_wp2_with fail
   refine(ZcZ _ _).mono ?_;rintro e w' ⟨rfl,rfl⟩
   go_wp2_with fail
   refine(ZcZ _ _).mono ?_;rintro e w' ⟨rfl,rfl⟩;go_wp2
   go_ret
   exact⟨by rw[H.out];rfl,rfl⟩
  ·have H:=Qh (show ZR a b=0 by unfold ZR;rw[if_neg h1,if_neg h2])
   go_enter Tryz.func225,Tryz.ntmps225
   go_wp2_with fail
   refine(ZcZ _ _).mono ?_;rintro e w' ⟨rfl,rfl⟩
   go_wp2_with fail
   refine(ZcZ _ _).mono ?_;rintro e w' ⟨rfl,rfl⟩;go_wp2
   go_ret
   exact⟨by rw[H.out];rfl,rfl⟩
def Grw (w w':World):Prop:=∃q os',w'=Sort.grow (w.drewN q) os'
theorem Grw.refl (w:World):Grw w w:=⟨0,#[],by unfold Sort.grow World.drewN;simp⟩
theorem Grw.alloc {w w':World} (h:Grw w w') (o:Obj):Grw w (w'.alloc o):=by
 obtain⟨q,os',rfl⟩:=h;exact⟨q,os'.push o,by unfold Sort.grow World.drewN World.alloc;simp⟩
theorem Grw.drewN {w w':World} (h:Grw w w') (n:Nat):Grw w (w'.drewN n):=by
 obtain⟨q,os',rfl⟩:=h;exact⟨q+n,os',by unfold Sort.grow World.drewN;simp[Nat.add_assoc]⟩
theorem Grw.upd {w w':World} (h:Grw w w'):Upd No w w':=by
 obtain⟨q,os',rfl⟩:=h;exact⟨rfl,rfl,rfl,by unfold Sort.grow World.drewN;simp,fun k hk _=>by unfold Sort.grow World.drewN;simp[Array.getElem?_append_left hk]⟩
end
/- A walk's text:the document's. -/
section
open Go.RowKit
def Edge.ok (e:Edge):Prop:=(-9223372036854775808≤e.f∧e.f≤9223372036854775807)∧(-9223372036854775808≤e.t∧e.t≤9223372036854775807)∧(-9223372036854775808≤e.key∧e.key≤9223372036854775807)
end
/- Digraphs:ends held against one another. -/
section
open Go.RowKit
structure DEnd where
 kind:Int
 label:Int
 node:Int
deriving DecidableEq
def DEnd.cells (e:DEnd):List Value:=[.int .i64 e.kind,.int .i64 e.label,.int .i64 e.node]
def orI:List Int→Int
 |[]=>0
 |x::l=>if x=0 then orI l else x
theorem Zfa (x:Int) (l:List Int):orI (x::l)=if x=0 then orI l else x:=rfl
def Zad (a b:DEnd):Int:=orI [ZR a.kind b.kind,ZR a.label b.label,ZR a.node b.node]
end
/- Digraphs:where an end stands among others. -/
section
open Go.RowKit
def DEnds (F:Nat→Prop) (w:World) (A:Option Addr) (l:List DEnd):Prop:=Recs F w A 3 (l.map DEnd.cells)
theorem DEnds.at_ {F:Nat→Prop} {w:World} {A:Option Addr} {l:List DEnd} (h:DEnds F w A l) {k:Nat} (hk:k<l.length):∃ad,A=some ad∧
  w.cell? (ad.add (k*3))=some (.int .i64 l[k].kind)∧w.cell? ⟨(ad.add (k*3)).block,(ad.add (k*3)).off+1,none⟩=some (.int .i64 l[k].label)∧
  w.cell? ⟨(ad.add (k*3)).block,(ad.add (k*3)).off+2,none⟩=some (.int .i64 l[k].node):=by
 have hk':k<(l.map DEnd.cells).length:=by simpa using hk
 obtain⟨ad,e,_,_,hc⟩:=Recs.at_ h hk';rw[List.getElem_map]at hc;exact⟨ad,e,by simpa using hc 0 _ rfl,by simpa using hc 1 _ rfl,by simpa using hc 2 _ rfl⟩
theorem DEnds.upd {F S:Nat→Prop} {w w':World} {A:Option Addr} {l:List DEnd} (h:DEnds F w A l) (k:Upd S w w') (hn:∀i,F i→¬S i):DEnds F w' A l:=Recs.upd h k hn
def Zi1 (l:List DEnd) (e:DEnd) (p:Nat):Prop:=p≤l.length∧∀k (hk:k<l.length),(Zad l[k] e<0↔k<p)
def ZgJ (l:List DEnd) (e:DEnd) (p:Nat):Bool:=match l[p]? with|some x=>Zad x e==0|none=>false
end
end Go.Proofs.YtblplapkdmhikaaGreat
