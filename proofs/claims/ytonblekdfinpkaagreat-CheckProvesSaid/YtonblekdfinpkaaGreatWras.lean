/- Walks of edges: whether they are closed, and simple; by the program and by the document. -/
import Derived.Test.YtonblekdfinpkaaGreatProg
import Derived.IntWalk
import Derived.Sort.Grow
import Derived.Laws.StructEq
import Derived.Deep.RegionHeld3
import Derived.Test.YtonblekdfinpkaaGreatWrai
import Derived.Test.YtonblekdfinpkaaGreatWrak
import Derived.Test.YtonblekdfinpkaaGreatWran
namespace Go.Proofs.YtonblekdfinpkaaGreat
set_option linter.unusedVariables false
set_option linter.unusedSimpArgs false
section
open Go.RowKit
def okC (l:List Edge) (i:Nat):Bool:=(l[i]?.map (·.t))==(l[(i+1)%l.length]?.map (·.f))
def ZaP (l:List Edge):Bool:=decide (0<l.length)&&(List.range l.length).all (okC l)
theorem Zk9 {l:List Edge} {k m:Nat} {e f:Edge} (hk:l[k]? =some e) (hm:(k+1)%l.length=m) (hf:l[m]? =some f):okC l k=(e.t==f.f):=by
 unfold okC;rw[hk,hm,hf];simp
theorem Zrs {p:Nat→Bool} {k:Nat}:(List.range (k+1)).all p=((List.range k).all p&&p k):=by
 rw[List.range_succ,List.all_append];simp
theorem ZpG {l:List Edge} {k:Nat} (hk:k<l.length) (h:okC l k=false):ZaP l=false:=by
 unfold ZaP;rw[Bool.and_eq_false_iff]
 right
 rw[List.all_eq_false];exact⟨k,List.mem_range.2 hk,by simp[h]⟩
set_option maxRecDepth 100000 in
theorem Zr4 (F:Nat→Prop) (w:World) (A:Option Addr) (c:Nat) (l:List Edge) (h:Walk F w A l) (hl:l.length≤1000000):
  Calls Tryz.prog 24 #[.slice A l.length c] w fun e w'=>e= .returned (.bool (ZaP l))∧Upd No w w':=by
 go_enter Tryz.func24,Tryz.ntmps24
 go_wp2
 go_loopg [7] l.length (fun gk i wr=>∃k:Nat,k+gk=l.length∧i= .int .i64 k∧Hid ((List.range k).all (okC l)=true)∧Upd No w wr)
 case atStart=>exact⟨0,by omega,rfl,Qh rfl,Upd.refl _ _⟩
 case round=>
  obtain⟨k,hgk,rfl,hok,hu⟩:=hrel
  by_cases hlt:k<l.length
  ·obtain⟨ad,rfl,c0,c1,c2,c3⟩:=(h.upd hu (fun _ _=>id)).at_ hlt;have hml:(k+1)%l.length<l.length:=Nat.mod_lt _ (by omega);obtain⟨ad',e1,d0,d1,d2,d3⟩:=(h.upd hu (fun _ _=>id)).at_ hml
   cases e1
   obtain⟨x,hx⟩:∃x,l[k]=x:=⟨_,rfl⟩;obtain⟨y,hy⟩:∃y,l[(k+1)%l.length]=y:=⟨_,rfl⟩;rw[hx]at c0 c1 c2 c3;rw[hy]at d0 d1 d2 d3;have hat:=Zk9 (l:=l) (k:=k) (by rw[Qg hlt,hx]) rfl (by rw[Qg hml,hy]);have hcast:((k:Int)+1)%(l.length:Int)=(((k+1)%l.length:Nat):Int):=by rw[Int.natCast_emod];rfl
   have hcast2:((k:Int)+1).tmod (l.length:Int)=(((k+1)%l.length:Nat):Int):=by rw[Int.tmod_eq_emod_of_nonneg (by omega)];exact hcast
   generalize (k+1)%l.length=m at*
   have b1:(0:Int)≤(k:Int):=Qn _;have b2:(k:Int)<(l.length:Int):=by omega
   have b3:(m:Int)<(l.length:Int):=by omega
   have b4:(0:Int)≤(m:Int):=Qn _;have b5:IntKind.i64.wrap ((k:Int)+1)=(k:Int)+1:=IntWalk.i64_in _ (by omega);have b6:(0:Int)≤(k:Int)+1:=by omega
   have hnl:¬l=[]:=fun e=>by rw[e]at hlt;simp at hlt
   have hnz:¬(l.length:Int)=0:=by omega
   have b7:IntKind.i64.wrap ((m:Int))=(m:Int):=IntWalk.i64_in _ (by omega);have D0:=((Upd.refl No wr).alloc (.cells #[.int .i64 x.f,.int .i64 x.t,.int .i64 x.k,.int .i64 x.key] 26)).keepNo d0;clear hx hy
   by_cases he:x.t=y.f
   ·have heb:(x.t != y.f)=false:=by rw[he];simp
    have Hok:=Qh (show(List.range (k+1)).all (okC l)=true by rw[Zrs,hok.out,hat,he];simp);clear he hat;go_wp2
    go_quiet (fail)
    clear hcast hcast2 b5 b7;go_wp2
    go_roundg (gk-1)
    case measure=>omega
    case rel=>exact⟨k+1,by omega,by go_num,Hok,(hu.alloc _).drewN _⟩
   ·have heb:(x.t != y.f)=true:=by rw[bne_iff_ne];exact he
    have Hok:=Qh (ZpG hlt (by rw[hat];simpa using he));clear he hat;go_wp2
    go_quiet (fail)
    clear hcast hcast2 b5 b7;go_wp2
    go_ret
    exact⟨by rw[Hok.out];rfl,(hu.alloc _).drewN _⟩
  ·obtain rfl:k=l.length:=by omega
   have Hok:=Qh (show ZaP l=decide ((0:Int)<(l.length:Int)) by
    unfold ZaP;rw[hok.out,Bool.and_true]
    congr 1
    simp only[eq_iff_iff];omega)
   go_wp2
   all_goals
    go_ret
    exact⟨by rw[Hok.out];first|rfl|(congr 2;simp),hu⟩
end
/- Edges held against one another:by the program and by the document. -/
section
open Go.RowKit
def Zu (a b:Int):Int:=if a<b then -1 else if b<a then 1 else 0
theorem ZbL (a:Int):Zu a a=0:=by unfold Zu;simp
theorem Zb6 {a b:Int} (h:a≠b):Zu a b≠0∧decide (Zu a b<0)=decide (a<b):=by
 unfold Zu
 by_cases h1:a<b
 ·simp[h1]
 ·have:b<a:=by omega
  simp[h1,this]
def ZaX (a b:Edge):Int:=if a.f≠b.f then Zu a.f b.f else if a.k≠b.k then Zu a.k b.k else if a.key≠b.key then Zu a.key b.key else Zu a.t b.t
def ltE (a b:Edge):Bool:=if a.f≠b.f then decide (a.f<b.f) else if a.k≠b.k then decide (a.k<b.k) else if a.key≠b.key then decide (a.key<b.key) else decide (a.t<b.t)
theorem Zm1 (a b:Edge):decide (ZaX a b<0)=ltE a b:=by
 unfold ZaX ltE
 by_cases h1:a.f≠b.f
 ·rw[if_pos h1,if_pos h1,(Zb6 h1).2]
 rw[if_neg h1,if_neg h1]
 by_cases h2:a.k≠b.k
 ·rw[if_pos h2,if_pos h2,(Zb6 h2).2]
 rw[if_neg h2,if_neg h2]
 by_cases h3:a.key≠b.key
 ·rw[if_pos h3,if_pos h3,(Zb6 h3).2]
 rw[if_neg h3,if_neg h3]
 by_cases h4:a.t=b.t
 ·rw[h4,ZbL];simp
 ·rw[(Zb6 h4).2]
theorem ZgN (w:World) (n:Int):Calls Tryz.prog 192 #[.int .i64 n] w fun e w'=>e= .returned (.bool false)∧w=w':=by
 have hb:(n != n)=false:=by simp
 go_enter Tryz.func192,Tryz.ntmps192
 go_wp2
 go_ret
 exact⟨rfl,rfl⟩
theorem ZaL (w:World) (a b:Int):Calls Tryz.prog 129 #[.int .i64 a,.int .i64 b] w fun e w'=>e= .returned (.int .i64 (Zu a b))∧w=w':=by
 by_cases h1:a<b
 ·have H:=Qh (show Zu a b= -1 by unfold Zu;rw[if_pos h1])
  go_enter Tryz.func129,Tryz.ntmps129
  go_wp2_with fail
  refine(ZgN _ _).mono ?_;rintro e w' ⟨rfl,rfl⟩
  go_wp2_with fail
  refine(ZgN _ _).mono ?_;rintro e w' ⟨rfl,rfl⟩;go_wp2
  go_ret
  exact⟨by rw[H.out];rfl,rfl⟩
 ·by_cases h2:b<a
  ·have H:=Qh (show Zu a b=1 by unfold Zu;rw[if_neg h1,if_pos h2])
   go_enter Tryz.func129,Tryz.ntmps129
   go_wp2_with fail
   refine(ZgN _ _).mono ?_;rintro e w' ⟨rfl,rfl⟩
   go_wp2_with fail
   refine(ZgN _ _).mono ?_;rintro e w' ⟨rfl,rfl⟩;go_wp2
   go_ret
   exact⟨by rw[H.out];rfl,rfl⟩
  ·have H:=Qh (show Zu a b=0 by unfold Zu;rw[if_neg h1,if_neg h2])
   go_enter Tryz.func129,Tryz.ntmps129
   go_wp2_with fail
   refine(ZgN _ _).mono ?_;rintro e w' ⟨rfl,rfl⟩
   go_wp2_with fail
   refine(ZgN _ _).mono ?_;rintro e w' ⟨rfl,rfl⟩;go_wp2
   go_ret
   exact⟨by rw[H.out];rfl,rfl⟩
def Grw (w w':World):Prop:=∃q os',w'=Sort.grow (w.drewN q) os'
theorem Grw.refl (w:World):Grw w w:=⟨0,#[],by unfold Sort.grow World.drewN;simp⟩
theorem Grw.alloc {w w':World} (h:Grw w w') (o:Obj):Grw w (w'.alloc o):=by
 obtain⟨q,os',rfl⟩:=h;exact⟨q,os'.push o,by unfold Sort.grow World.drewN World.alloc;simp⟩
theorem Grw.drewN {w w':World} (h:Grw w w') (n:Nat):Grw w (w'.drewN n):=by
 obtain⟨q,os',rfl⟩:=h;exact⟨q+n,os',by unfold Sort.grow World.drewN;simp[Nat.add_assoc]⟩
theorem Grw.upd {w w':World} (h:Grw w w'):Upd No w w':=by
 obtain⟨q,os',rfl⟩:=h;exact⟨rfl,rfl,rfl,by unfold Sort.grow World.drewN;simp,fun k hk _=>by unfold Sort.grow World.drewN;simp[Array.getElem?_append_left hk]⟩
theorem Zda {P:Program} {f:FuncId} {args:Array Value} {w:World} {a n:Nat} {v:Value} (h:Calls P f args (w.drewN (a+n)) fun e w'=>e= .returned v∧w.drewN (a+n)=w'):
  Calls P f args (w.drewN (a+n)) fun e w'=>e= .returned v∧∃m,w'=w.drewN (a+m):=h.mono fun _ _ h=>⟨h.1,n,h.2.symm⟩
set_option maxRecDepth 100000 in
set_option maxHeartbeats 1000000 in
theorem ZjH (w:World) (x y:Edge):Calls Tryz.prog 193 #[.agg x.cells.toArray,.agg y.cells.toArray] w fun e w'=>e= .returned (.int .i64 (ZaX x y))∧Grw w w':=by
 unfold Edge.cells;have H1:=Qh (show x.f=y.f→Zu x.f y.f=0 from fun h=>by rw[h,ZbL])
 by_cases h1:x.f=y.f
 ·have b1:(Zu x.f y.f != 0)=false:=by rw[h1,ZbL];rfl
  by_cases h2:x.k=y.k
  ·have b2:(Zu x.k y.k != 0)=false:=by rw[h2,ZbL];rfl
   by_cases h3:x.key=y.key
   ·have b3:(Zu x.key y.key != 0)=false:=by rw[h3,ZbL];rfl
    have H:=Qh (show ZaX x y=Zu x.t y.t by unfold ZaX;rw[if_neg (by simpa using h1),if_neg (by simpa using h2),if_neg (by simpa using h3)]);clear h1 h2 h3
    by_cases h4:x.t=y.t
    ·have b4:(Zu x.t y.t != 0)=false:=by rw[h4,ZbL];rfl
     have H4:=Qh (show Zu x.t y.t=0 by rw[h4,ZbL]);clear h4
     go_enter Tryz.func193,Tryz.ntmps193
     go_wp2;refine wp_loop_rounds 5 ?_;rw[rounds_succ];go_wp2
     go_quiet ((go_at_call 129;exact Calls.quiet_of_same ((ZaL _ _ _).mono fun e w' h=>⟨h.1,h.2.symm⟩)))
     go_wp2;rw[rounds_succ];go_wp2
     go_quiet ((go_at_call 129;exact Zda (ZaL _ _ _)))
     go_wp2;rw[rounds_succ];go_wp2
     go_quiet ((go_at_call 129;exact Zda (ZaL _ _ _)))
     go_wp2;rw[rounds_succ];go_wp2
     go_quiet ((go_at_call 129;exact Zda (ZaL _ _ _)))
     go_wp2;rw[rounds_succ];go_wp2
     go_ret
     exact⟨by rw[H.out,H4.out];rfl,(((((Grw.refl _).alloc _).alloc _).alloc _).alloc _).drewN _⟩
    ·have b4:(Zu x.t y.t != 0)=true:=by rw[bne_iff_ne];exact(Zb6 h4).1
     clear h4
     go_enter Tryz.func193,Tryz.ntmps193
     go_wp2;refine wp_loop_rounds 4 ?_;rw[rounds_succ];go_wp2
     go_quiet ((go_at_call 129;exact Calls.quiet_of_same ((ZaL _ _ _).mono fun e w' h=>⟨h.1,h.2.symm⟩)))
     go_wp2;rw[rounds_succ];go_wp2
     go_quiet ((go_at_call 129;exact Zda (ZaL _ _ _)))
     go_wp2;rw[rounds_succ];go_wp2
     go_quiet ((go_at_call 129;exact Zda (ZaL _ _ _)))
     go_wp2;rw[rounds_succ];go_wp2
     go_quiet ((go_at_call 129;exact Zda (ZaL _ _ _)))
     go_wp2
     go_ret
     exact⟨by rw[H.out];rfl,(((((Grw.refl _).alloc _).alloc _).alloc _).alloc _).drewN _⟩
   ·have b3:(Zu x.key y.key != 0)=true:=by rw[bne_iff_ne];exact(Zb6 h3).1
    have H:=Qh (show ZaX x y=Zu x.key y.key by unfold ZaX;rw[if_neg (by simpa using h1),if_neg (by simpa using h2),if_pos h3]);clear h1 h2 h3
    go_enter Tryz.func193,Tryz.ntmps193
    go_wp2;refine wp_loop_rounds 3 ?_;rw[rounds_succ];go_wp2
    go_quiet ((go_at_call 129;exact Calls.quiet_of_same ((ZaL _ _ _).mono fun e w' h=>⟨h.1,h.2.symm⟩)))
    go_wp2;rw[rounds_succ];go_wp2
    go_quiet ((go_at_call 129;exact Zda (ZaL _ _ _)))
    go_wp2;rw[rounds_succ];go_wp2
    go_quiet ((go_at_call 129;exact Zda (ZaL _ _ _)))
    go_wp2
    go_ret
    exact⟨by rw[H.out];rfl,(((((Grw.refl _).alloc _).alloc _).alloc _).alloc _).drewN _⟩
  ·have b2:(Zu x.k y.k != 0)=true:=by rw[bne_iff_ne];exact(Zb6 h2).1
   have H:=Qh (show ZaX x y=Zu x.k y.k by unfold ZaX;rw[if_neg (by simpa using h1),if_pos h2]);clear h1 h2
   go_enter Tryz.func193,Tryz.ntmps193
   go_wp2;refine wp_loop_rounds 2 ?_;rw[rounds_succ];go_wp2
   go_quiet ((go_at_call 129;exact Calls.quiet_of_same ((ZaL _ _ _).mono fun e w' h=>⟨h.1,h.2.symm⟩)))
   go_wp2;rw[rounds_succ];go_wp2
   go_quiet ((go_at_call 129;exact Zda (ZaL _ _ _)))
   go_wp2
   go_ret
   exact⟨by rw[H.out];rfl,(((((Grw.refl _).alloc _).alloc _).alloc _).alloc _).drewN _⟩
 ·have b1:(Zu x.f y.f != 0)=true:=by rw[bne_iff_ne];exact(Zb6 h1).1
  have H:=Qh (show ZaX x y=Zu x.f y.f by unfold ZaX;rw[if_pos h1]);clear h1
  go_enter Tryz.func193,Tryz.ntmps193
  go_wp2;refine wp_loop_rounds 1 ?_;rw[rounds_succ];go_wp2
  go_quiet ((go_at_call 129;exact Calls.quiet_of_same ((ZaL _ _ _).mono fun e w' h=>⟨h.1,h.2.symm⟩)))
  go_wp2
  go_ret
  exact⟨by rw[H.out];rfl,(((((Grw.refl _).alloc _).alloc _).alloc _).alloc _).drewN _⟩
theorem ZqA (w:World) (x y:Edge):Calls Tryz.prog 193 #[.agg x.cells.toArray,.agg y.cells.toArray] w fun e w'=>e= .returned (.int .i64 (ZaX x y))∧Upd No w w':=
 (ZjH w x y).mono fun _ _ h=>⟨h.1,h.2.upd⟩
theorem Zus (w:World) (x y:Edge):Calls Tryz.prog 132 #[.agg x.cells.toArray,.agg y.cells.toArray] w fun e w'=>e= .returned (.bool (ltE x y))∧Upd No w w':=by
 have H:=Qh (Zm1 x y);unfold Edge.cells
 go_enter Tryz.func132,Tryz.ntmps132
 go_wp2_with fail
 refine(ZqA _ x y).mono ?_;rintro e w1 ⟨rfl,hu⟩
 by_cases h:ZaX x y<0
 ·have H2:=Qh (show ltE x y=true by rw[←H.out,decide_eq_true_eq];exact h);go_wp2
  go_ret
  exact⟨by rw[H2.out];first|rfl|(simp[h]),(((Upd.refl No w).alloc _).alloc _).trans hu⟩
 ·have H2:=Qh (show ltE x y=false by rw[←H.out,decide_eq_false_iff_not];exact h);go_wp2
  go_ret
  exact⟨by rw[H2.out];first|rfl|(simp[h]),(((Upd.refl No w).alloc _).alloc _).trans hu⟩
end
/- Digraphs:ends held against one another. -/
section
open Go.RowKit
structure DEnd where
 kind:Int
 label:Int
 node:Int
deriving DecidableEq
def DEnd.cells (e:DEnd):List Value:=[.int .i64 e.kind,.int .i64 e.label,.int .i64 e.node]
def orI:List Int→Int
 |[]=>0
 |x::l=>if x=0 then orI l else x
theorem Zhk (x:Int) (l:List Int):orI (x::l)=if x=0 then orI l else x:=rfl
set_option maxRecDepth 100000 in
theorem ZuW (F:Nat→Prop) (w:World) (A:Option Addr) (c:Nat) (l:List Int) (h:Ints F w A l) (hl:l.length≤1000000):
  Calls Tryz.prog 174 #[.slice A l.length c] w fun e w'=>e= .returned (.int .i64 (orI l))∧Upd No w w':=by
 go_enter Tryz.func174,Tryz.ntmps174
 go_wp2
 go_loopg [8] l.length (fun gk i wr=>∃k:Nat,k+gk=l.length∧i= .int .i64 k∧Hid (orI (l.drop k)=orI l)∧Upd No w wr)
 case atStart=>exact⟨0,by omega,rfl,Qh rfl,Upd.refl _ _⟩
 case round=>
  obtain⟨k,hgk,rfl,hs,hu⟩:=hrel
  by_cases hlt:k<l.length
  ·obtain⟨ad,hA,_,_,hc⟩:=(h.upd hu (fun _ _=>id)).at_ hlt;obtain⟨y,hy⟩:∃y,l[k]=y:=⟨_,rfl⟩;rw[hy]at hc;subst hA;have X:=Qh (show l.drop k=y::l.drop (k+1) by rw[←hy];exact List.drop_eq_getElem_cons hlt);clear hy;have b1:(0:Int)≤(k:Int):=Qn _;have b2:(k:Int)<(l.length:Int):=by omega
   have hst:=hs.out;rw[X.out,Zhk]at hst
   by_cases he:y=0
   ·have heb:(y != 0)=false:=by rw[he];rfl
    rw[if_pos he]at hst;have HS:=Qh hst;clear hst he;go_wp2
    go_roundg (gk-1)
    case measure=>omega
    case rel=>exact⟨k+1,by omega,by go_num,HS,hu⟩
   ·have heb:(y != 0)=true:=by rw[bne_iff_ne];exact he
    rw[if_neg he]at hst;have HS:=Qh hst;clear hst he;go_wp2
    go_ret
    exact⟨by rw[←HS.out];rfl,hu⟩
  ·obtain rfl:k=l.length:=by omega
   have HS:=Qh (show(0:Int)=orI l by rw[←hs.out,List.drop_length];rfl);go_wp2
   go_ret
   exact⟨by rw[←HS.out];rfl,hu⟩
def ZaJ (a b:DEnd):Int:=orI [Zu a.kind b.kind,Zu a.label b.label,Zu a.node b.node]
set_option maxRecDepth 100000 in
theorem Zrd (w:World) (a b:DEnd):Calls Tryz.prog 103 #[.agg a.cells.toArray,.agg b.cells.toArray] w fun e w'=>e= .returned (.int .i64 (ZaJ a b))∧Upd No w w':=by
 obtain⟨ak,al,an⟩:=a;obtain⟨bk,bl,bn⟩:=b;unfold DEnd.cells;have b1:=(Blk.new w 92 [.int .i64 ak,.int .i64 al,.int .i64 an]).alloc (.cells #[.int .i64 bk,.int .i64 bl,.int .i64 bn] 92);have b2:=Blk.new (w.alloc (.cells #[.int .i64 ak,.int .i64 al,.int .i64 an] 92)) 92 [.int .i64 bk,.int .i64 bl,.int .i64 bn];simp only[World.size_alloc]at b2;have uA:=((Upd.refl No w).alloc (.cells #[.int .i64 ak,.int .i64 al,.int .i64 an] 92)).alloc (.cells #[.int .i64 bk,.int .i64 bl,.int .i64 bn] 92);obtain⟨wb,hwb⟩:∃wb,(w.alloc (.cells #[.int .i64 ak,.int .i64 al,.int .i64 an] 92)).alloc (.cells #[.int .i64 bk,.int .i64 bl,.int .i64 bn] 92)=wb:=⟨_,rfl⟩;rw[hwb]at b1 b2 uA;have a0:∀W,Upd No wb W→W.cell? ⟨w.heap.size,0,none⟩=some (.int .i64 ak):=fun W hW=>(b1.upd hW id).cell 0
 have a1:∀W,Upd No wb W→W.cell? ⟨w.heap.size,1,none⟩=some (.int .i64 al):=fun W hW=>(b1.upd hW id).cell 1
 have a2:∀W,Upd No wb W→W.cell? ⟨w.heap.size,2,none⟩=some (.int .i64 an):=fun W hW=>(b1.upd hW id).cell 2
 have c0:∀W,Upd No wb W→W.cell? ⟨w.heap.size+1,0,none⟩=some (.int .i64 bk):=fun W hW=>(b2.upd hW id).cell 0
 have c1:∀W,Upd No wb W→W.cell? ⟨w.heap.size+1,1,none⟩=some (.int .i64 bl):=fun W hW=>(b2.upd hW id).cell 1
 have c2:∀W,Upd No wb W→W.cell? ⟨w.heap.size+1,2,none⟩=some (.int .i64 bn):=fun W hW=>(b2.upd hW id).cell 2
 have HWB:=Qh hwb;have UA:=Qh uA;have hor:=ZuW (fun i=>i=wb.heap.size) ((wb.alloc (.cells #[.int .i64 (Zu ak bk),.int .i64 (Zu al bl),.int .i64 (Zu an bn)] 3)).drew) (some ⟨wb.heap.size,0,none⟩) 3 [Zu ak bk,Zu al bl,Zu an bn] (Ints.drew (Zlp (W:=wb) [Zu ak bk,Zu al bl,Zu an bn] 3)) (by simp);have HOr:=Qh hor;have HV:=Qh (show ZaJ ⟨ak,al,an⟩ ⟨bk,bl,bn⟩=orI [Zu ak bk,Zu al bl,Zu an bn] from rfl);clear hwb uA b1 b2 hor
 go_enter Tryz.func103,Tryz.ntmps103
 go_wp2;rw[HWB.out];refine wp_region_noPanic ?_;refine wp_region_held_drew (S:=(fun w'=>Upd No wb w')) (by kernel_rfl) ?_ (fun hHeld=> ?_)
 ·(first|exact(Upd.refl No _).drew|exact hHeld.trans hu3|exact hHeld.alloc _)
 refine wpK 0 rfl ?_;refine wpK 1 rfl ?_;refine wpK 2 rfl ?_;refine wpK 3 rfl ?_;refine wpK 5 rfl ?_;refine wpK 6 rfl ?_;refine wpK 7 rfl ?_;refine wpK 8 rfl ?_;refine wpK 10 rfl ?_;refine wpK 11 rfl ?_;refine wpK 12 rfl ?_;refine wpK 13 rfl ?_;refine wpR [4] ?_;refine wpC rfl (fun K hK=> ?_) AllReadyH.nil;go_simp
 (first
  |(go_at_call 129;refine(ZaL _ _ _).mono ?_;rintro e w3 ⟨rfl,rfl⟩;have hu3:=hHeld))
 try (go_wp2_with fail)
 refine hK.out _ _ ?_ (fun hHeld=> ?_)
 ·(first|exact(Upd.refl No _).drew|exact hHeld.trans hu3|exact hHeld.alloc _)
 clear hK K
 try simp only[Act.put,sT,sS,sZ]
 refine wpR [9] ?_;refine wpC rfl (fun K hK=> ?_) AllReadyH.nil;go_simp
 (first
  |(go_at_call 129;refine(ZaL _ _ _).mono ?_;rintro e w3 ⟨rfl,rfl⟩;have hu3:=hHeld))
 try (go_wp2_with fail)
 refine hK.out _ _ ?_ (fun hHeld=> ?_)
 ·(first|exact(Upd.refl No _).drew|exact hHeld.trans hu3|exact hHeld.alloc _)
 clear hK K
 try simp only[Act.put,sT,sS,sZ]
 refine wpR [14] ?_;refine wpC rfl (fun K hK=> ?_) AllReadyH.nil;go_simp
 (first
  |(go_at_call 129;refine(ZaL _ _ _).mono ?_;rintro e w3 ⟨rfl,rfl⟩;have hu3:=hHeld))
 try (go_wp2_with fail)
 refine hK.out _ _ ?_ (fun hHeld=> ?_)
 ·(first|exact(Upd.refl No _).drew|exact hHeld.trans hu3|exact hHeld.alloc _)
 clear hK K
 try simp only[Act.put,sT,sS,sZ]
 refine wpR [15] ?_;refine wpC rfl (fun K hK=> ?_) AllReadyH.nil;go_simp;refine hK.out _ _ ?_ (fun hHeld=> ?_)
 ·(first|exact(Upd.refl No _).drew|exact hHeld.trans hu3|exact hHeld.alloc _)
 clear hK K
 try simp only[Act.put,sT,sS,sZ]
 refine wpR [16] ?_;refine wpC rfl (fun K hK=> ?_) AllReadyH.nil;go_simp
 (first
  |(go_at_call 174;refine(HOr.out).mono ?_;rintro e w3 ⟨rfl,hu3⟩))
 try (go_wp2_with fail)
 refine hK.out _ _ ?_ (fun hHeld=> ?_)
 ·(first|exact(Upd.refl No _).drew|exact hHeld.trans hu3|exact hHeld.alloc _)
 clear hK K
 try simp only[Act.put,sT,sS,sZ]
 refine wpK 17 rfl ?_;refine wpD (NoPanic.normal ?_);have HU:=Qh (UA.out.trans hHeld);clear hHeld;go_wp2
 go_ret
 exact⟨by rw[HV.out];rfl,HU.out⟩
end
/- Digraphs:where an end stands among others. -/
section
open Go.RowKit
def DEnds (F:Nat→Prop) (w:World) (A:Option Addr) (l:List DEnd):Prop:=Recs F w A 3 (l.map DEnd.cells)
theorem DEnds.at_ {F:Nat→Prop} {w:World} {A:Option Addr} {l:List DEnd} (h:DEnds F w A l) {k:Nat} (hk:k<l.length):∃ad,A=some ad∧
  w.cell? (ad.add (k*3))=some (.int .i64 l[k].kind)∧w.cell? ⟨(ad.add (k*3)).block,(ad.add (k*3)).off+1,none⟩=some (.int .i64 l[k].label)∧
  w.cell? ⟨(ad.add (k*3)).block,(ad.add (k*3)).off+2,none⟩=some (.int .i64 l[k].node):=by
 have hk':k<(l.map DEnd.cells).length:=by simpa using hk
 obtain⟨ad,e,_,_,hc⟩:=Recs.at_ h hk';rw[List.getElem_map]at hc;exact⟨ad,e,by simpa using hc 0 _ rfl,by simpa using hc 1 _ rfl,by simpa using hc 2 _ rfl⟩
theorem DEnds.upd {F S:Nat→Prop} {w w':World} {A:Option Addr} {l:List DEnd} (h:DEnds F w A l) (k:Upd S w w') (hn:∀i,F i→¬S i):DEnds F w' A l:=Recs.upd h k hn
def Zkx (l:List DEnd) (e:DEnd) (p:Nat):Prop:=p≤l.length∧∀k (hk:k<l.length),(ZaJ l[k] e<0↔k<p)
def ZfE (l:List DEnd) (e:DEnd) (p:Nat):Bool:=match l[p]? with|some x=>ZaJ x e==0|none=>false
set_option maxRecDepth 100000 in
set_option maxHeartbeats 1000000 in
theorem ZrP (F:Nat→Prop) (w:World) (A:Option Addr) (c:Nat) (l:List DEnd) (e:DEnd) (p:Nat) (h:DEnds F w A l) (hl:l.length≤1000000) (hp:Zkx l e p):
  Calls Tryz.prog 102 #[.slice A l.length c,.agg e.cells.toArray,.func (.func 103) #[] #[]] w fun r w'=>r= .returned (.tuple #[.int .i64 (p:Int),.bool (ZfE l e p)])∧Upd No w w':=by
 obtain⟨ek,el,en⟩:=e;unfold DEnd.cells;have bE:=Qh (Blk.new w 92 [.int .i64 ek,.int .i64 el,.int .i64 en]);have u0:=(Upd.refl No w).alloc (.cells #[.int .i64 ek,.int .i64 el,.int .i64 en] 92);have U0:=Qh u0;have hc:∀W (x:DEnd),Calls Tryz.prog 103 #[.agg #[.int .i64 x.kind,.int .i64 x.label,.int .i64 x.node],.agg #[.int .i64 ek,.int .i64 el,.int .i64 en]] W fun r w'=>r= .returned (.int .i64 (ZaJ x ⟨ek,el,en⟩))∧Upd No W w':=fun W x=>Zrd W x ⟨ek,el,en⟩
 have HC:=Qh hc;have HP:=Qh hp.2;have hp1:=hp.1;clear u0 hc hp
 go_enter Tryz.func102,Tryz.ntmps102
 go_wp2
 go_loopg [9,10] l.length (fun gk s9 s10 wr=>∃i j:Nat,i+gk=j∧s9= .int .i64 i∧s10= .int .i64 j∧i≤p∧p≤j∧j≤l.length∧Upd No (w.alloc (.cells #[.int .i64 ek,.int .i64 el,.int .i64 en] 92)) wr)
 case atStart=>exact⟨0,l.length,by omega,rfl,rfl,by omega,by omega,by omega,Upd.refl _ _⟩
 case round=>
  obtain⟨i,j,hgk,rfl,rfl,hi,hj,hjn,hu⟩:=hrel;have e0:∀W,Upd No wr W→W.cell? ⟨w.heap.size,0,none⟩=some (.int .i64 ek):=fun W hW=>(bE.out.upd (hu.trans hW) id).cell 0
  have e1:∀W,Upd No wr W→W.cell? ⟨w.heap.size,1,none⟩=some (.int .i64 el):=fun W hW=>(bE.out.upd (hu.trans hW) id).cell 1
  have e2:∀W,Upd No wr W→W.cell? ⟨w.heap.size,2,none⟩=some (.int .i64 en):=fun W hW=>(bE.out.upd (hu.trans hW) id).cell 2
  have hr:Upd No wr wr:=Upd.refl _ _
  by_cases hlt:i<j
  ·have b1:(i:Int)<(j:Int):=by omega
   have b2:(0:Int)≤(i:Int):=Qn _;have b3:(j:Int)≤1000000:=by omega
   obtain⟨m,hm⟩:∃m:Nat,(i+j)/2=m:=⟨_,rfl⟩;have hmi:((i:Int)+(j:Int))/2=(m:Int):=by omega
   have hm1:i≤m:=by omega
   have hm2:m<j:=by omega
   have hml:m<l.length:=by omega
   have b4:(0:Int)≤(m:Int):=Qn _;have b5:(m:Int)<(l.length:Int):=by omega
   obtain⟨ad,hA,_⟩:=(h.upd (U0.out.trans hu) (fun _ _=>id)).at_ hml;have hq:=fun W (hW:Upd No wr W)=>(h.upd (U0.out.trans (hu.trans hW)) (fun _ _=>id)).at_ hml
   obtain⟨x,hx⟩:∃x,l[m]=x:=⟨_,rfl⟩;rw[hx]at hq
   have q0:∀W,Upd No wr W→W.cell? (ad.add (m*3))=some (.int .i64 x.kind):=fun W hW=>by
    obtain⟨ad',e,c0,_⟩:=hq W hW;rw[hA]at e
    cases e
    exact c0
   have q1:∀W,Upd No wr W→W.cell? ⟨(ad.add (m*3)).block,(ad.add (m*3)).off+1,none⟩=some (.int .i64 x.label):=fun W hW=>by
    obtain⟨ad',e,_,c1,_⟩:=hq W hW;rw[hA]at e
    cases e
    exact c1
   have q2:∀W,Upd No wr W→W.cell? ⟨(ad.add (m*3)).block,(ad.add (m*3)).off+2,none⟩=some (.int .i64 x.node):=fun W hW=>by
    obtain⟨ad',e,_,_,c2⟩:=hq W hW;rw[hA]at e
    cases e
    exact c2
   have hpx:=HP.out m hml;rw[hx]at hpx;subst hA;clear hq hx hm
   by_cases hlt2:ZaJ x ⟨ek,el,en⟩<0
   ·have hmp:=hpx.1 hlt2;have hd:decide (ZaJ x ⟨ek,el,en⟩<0)=true:=decide_eq_true hlt2;clear hpx hlt2;go_wp2;refine wp_region_noPanic ?_;refine wp_region_held_drew (S:=(fun w'=>Upd No wr w')) (by kernel_rfl) ?_ (fun hHeld=> ?_)
    ·(first|exact(Upd.refl No _).drew|exact hHeld.trans hu3)
    refine wpK 0 rfl ?_;refine wpK 1 rfl ?_;refine wpK 2 rfl ?_;refine wpK 3 rfl ?_;refine wpK 4 rfl ?_;refine wpK 5 rfl ?_;refine wpR [6] ?_;refine wpC rfl (fun K hK=> ?_) AllReadyH.nil;go_simp
    (first
  |(go_at_call 103;refine(HC.out _ x).mono ?_;rintro e w3 ⟨rfl,hu3⟩))
    try (go_wp2_with fail)
    refine hK.out _ _ ?_ (fun hHeld=> ?_)
    ·(first|exact(Upd.refl No _).drew|exact hHeld.trans hu3)
    clear hK K
    try simp only[Act.put,sT,sS,sZ]
    refine wpK 7 rfl ?_;refine wpD (NoPanic.normal ?_);have HU:=Qh (hu.trans hHeld);clear hHeld q0 q1 q2 e0 e1 e2;go_wp2
    go_roundg (j-(m+1))
    case measure=>omega
    case rel=>exact⟨m+1,j,by omega,by go_num,rfl,by omega,by omega,by omega,HU.out⟩
   ·have hmp:¬m<p:=fun e=>hlt2 (hpx.2 e)
    have hd:decide (ZaJ x ⟨ek,el,en⟩<0)=false:=decide_eq_false hlt2;clear hpx hlt2;go_wp2;refine wp_region_noPanic ?_;refine wp_region_held_drew (S:=(fun w'=>Upd No wr w')) (by kernel_rfl) ?_ (fun hHeld=> ?_)
    ·(first|exact(Upd.refl No _).drew|exact hHeld.trans hu3)
    refine wpK 0 rfl ?_;refine wpK 1 rfl ?_;refine wpK 2 rfl ?_;refine wpK 3 rfl ?_;refine wpK 4 rfl ?_;refine wpK 5 rfl ?_;refine wpR [6] ?_;refine wpC rfl (fun K hK=> ?_) AllReadyH.nil;go_simp
    (first
  |(go_at_call 103;refine(HC.out _ x).mono ?_;rintro e w3 ⟨rfl,hu3⟩))
    try (go_wp2_with fail)
    refine hK.out _ _ ?_ (fun hHeld=> ?_)
    ·(first|exact(Upd.refl No _).drew|exact hHeld.trans hu3)
    clear hK K
    try simp only[Act.put,sT,sS,sZ]
    refine wpK 7 rfl ?_;refine wpD (NoPanic.normal ?_);have HU:=Qh (hu.trans hHeld);clear hHeld q0 q1 q2 e0 e1 e2;go_wp2
    go_roundg (m-i)
    case measure=>omega
    case rel=>exact⟨i,m,by omega,rfl,by go_num,by omega,by omega,by omega,HU.out⟩
  ·have hip:i=p:=by omega
   have hjp:j=p:=by omega
   subst hip;subst hjp
   by_cases hpn:j<l.length
   ·obtain⟨ad,hA,_⟩:=(h.upd (U0.out.trans hu) (fun _ _=>id)).at_ hpn;have hq:=fun W (hW:Upd No wr W)=>(h.upd (U0.out.trans (hu.trans hW)) (fun _ _=>id)).at_ hpn
    obtain⟨x,hx⟩:∃x,l[j]=x:=⟨_,rfl⟩;rw[hx]at hq
    have q0:∀W,Upd No wr W→W.cell? (ad.add (j*3))=some (.int .i64 x.kind):=fun W hW=>by
     obtain⟨ad',e,c0,_⟩:=hq W hW;rw[hA]at e
     cases e
     exact c0
    have q1:∀W,Upd No wr W→W.cell? ⟨(ad.add (j*3)).block,(ad.add (j*3)).off+1,none⟩=some (.int .i64 x.label):=fun W hW=>by
     obtain⟨ad',e,_,c1,_⟩:=hq W hW;rw[hA]at e
     cases e
     exact c1
    have q2:∀W,Upd No wr W→W.cell? ⟨(ad.add (j*3)).block,(ad.add (j*3)).off+2,none⟩=some (.int .i64 x.node):=fun W hW=>by
     obtain⟨ad',e,_,_,c2⟩:=hq W hW;rw[hA]at e
     cases e
     exact c2
    have HV:=Qh (show ZfE l ⟨ek,el,en⟩ j=(ZaJ x ⟨ek,el,en⟩==0) by unfold ZfE;rw[Qg hpn,hx]);have b1:(j:Int)<(l.length:Int):=by omega
    have b2:(0:Int)≤(j:Int):=Qn _;have hpd:decide (j<l.length)=true:=decide_eq_true hpn;have hlt':¬(j:Int)<(j:Int):=by omega
    subst hA;clear hq hx;go_wp2;refine wp_region_noPanic ?_;refine wp_region_held_drew (S:=(fun w'=>Upd No wr w')) (by kernel_rfl) ?_ (fun hHeld=> ?_)
    ·(first|exact(Upd.refl No _).drew|exact hHeld.trans hu3)
    refine wpK 0 rfl ?_;refine wpK 1 rfl ?_;refine wpK 2 rfl ?_;refine wpK 3 rfl ?_;refine wpK 4 rfl ?_;refine wpK 5 rfl ?_;refine wpK 6 rfl ?_;refine wpK 7 rfl ?_;refine wpK 8 rfl ?_;refine wpK 9 rfl ?_;refine wpK 10 rfl ?_;refine wpR [11] ?_;refine wpC rfl (fun K hK=> ?_) AllReadyH.nil;go_simp
    (first
  |(go_at_call 103;refine(HC.out _ x).mono ?_;rintro e w3 ⟨rfl,hu3⟩))
    try (go_wp2_with fail)
    refine hK.out _ _ ?_ (fun hHeld=> ?_)
    ·(first|exact(Upd.refl No _).drew|exact hHeld.trans hu3)
    clear hK K
    try simp only[Act.put,sT,sS,sZ]
    refine wpK 12 rfl ?_;refine wpK 13 rfl ?_;refine wpK 14 rfl ?_;refine wpK 15 rfl ?_;refine wpD (NoPanic.normal ?_);have HU:=Qh (U0.out.trans (hu.trans hHeld));clear hHeld;go_wp2
    go_ret2
    exact⟨by rw[HV.out];rfl,HU.out⟩
   ·have HV:=Qh (show ZfE l ⟨ek,el,en⟩ j=false by unfold ZfE;rw[List.getElem?_eq_none (by omega)]);have b1:¬(j:Int)<(l.length:Int):=by omega
    have hpd:decide (j<l.length)=false:=decide_eq_false hpn;have hlt':¬(j:Int)<(j:Int):=by omega
    clear hpn;go_wp2;refine wp_region_noPanic ?_;refine wp_region_held_drew (S:=(fun w'=>Upd No wr w')) (by kernel_rfl) ?_ (fun hHeld=> ?_)
    ·(first|exact(Upd.refl No _).drew|exact hHeld.trans hu3)
    refine wpK 0 rfl ?_;refine wpK 1 rfl ?_;refine wpK 2 rfl ?_;refine wpK 3 rfl ?_;refine wpK 4 rfl ?_;refine wpN 5 rfl ?_;refine wpN 6 rfl ?_;refine wpN 7 rfl ?_;refine wpN 8 rfl ?_;refine wpN 9 rfl ?_;refine wpN 10 rfl ?_;refine wpR [11] ?_;refine wpC rfl (fun K hK=> ?_) AllReadyH.nil;go_simp;refine hK.out _ _ ?_ (fun hHeld=> ?_)
    ·exact hHeld
    clear hK K
    try simp only[Act.put,sT,sS,sZ]
    refine wpN 12 rfl ?_;refine wpK 13 rfl ?_;refine wpK 14 rfl ?_;refine wpK 15 rfl ?_;refine wpD (NoPanic.normal ?_);have HU:=Qh (U0.out.trans (hu.trans hHeld));clear hHeld;go_wp2
    go_ret2
    exact⟨by rw[HV.out];rfl,HU.out⟩
end
/- Maps that the calls themselves make:what is got Zat a put;keys that are structs. -/
section
open Go.RowKit
section
variable {α:Type} [DecidableEq α]
theorem Zlo (a b:α) (v:Value):∀(m:List (α×Value)) (i:Nat),look a m i=none→(look b (m++[(a,v)]) i).map (·.2)=if b=a then some v else (look b m i).map (·.2)
 |[],i,_=>by
  by_cases h:b=a<;>simp[look,h]
 |p::m,i,h=>by
  unfold look at h
  split at h
  ·cases h
  ·rename_i hne
   have ih:=Zlo a b v m (i+1) h;simp only[List.cons_append,look]
   by_cases hb:b=p.1
   ·rw[if_pos hb,if_pos hb,if_neg (by rw[hb];exact fun e=>hne e.symm)]
   ·rw[if_neg hb,if_neg hb];exact ih
theorem Zln (a b:α) (v:Value):∀(m:List (α×Value)) (i:Nat) (r:Nat×Value),look a m i=some r→(look b (m.modify (r.1-i) fun p=>(p.1,v)) i).map (·.2)=if b=a then some v else (look b m i).map (·.2)
 |[],i,r,h=>by simp[look]at h
 |p::m,i,r,h=>by
  have hl:=Zee a (p::m) i r h;unfold look at h
  split at h
  ·rename_i hab
   cases h
   simp only[Nat.sub_self,List.modify_zero_cons,look]
   by_cases hb:b=a
   ·rw[if_pos (by rw[hb,hab]),if_pos hb];rfl
   ·rw[if_neg (by rw[←hab];exact hb),if_neg hb,if_neg (by rw[←hab];exact hb)]
  ·rename_i hne
   have h1:=(Zee a m (i+1) r h).1;have ih:=Zln a b v m (i+1) r h;rw[show r.1-i=(r.1-(i+1))+1 by omega,List.modify_succ_cons];simp only[look]
   by_cases hb:b=p.1
   ·rw[if_pos hb,if_pos hb,if_neg (by rw[hb];exact fun e=>hne e.symm)]
   ·rw[if_neg hb,if_neg hb];exact ih
theorem Zc1 (m:List (α×Value)) (a b:α) (v:Value):ZP (ZB m a v) b=if b=a then some v else ZP m b:=by
 unfold ZP ZB
 cases h:look a m 0 with
 |none=>exact Zlo a b v m 0 h
 |some r=>
  have:=Zln a b v m 0 r h;rw[Nat.sub_zero]at this;exact this
theorem Zad (m:List (α×Value)) (a:α) (v:Value):ZP (ZB m a v) a=some v:=by rw[Zc1,if_pos rfl]
theorem ZaD (m:List (α×Value)) {a b:α} (v:Value) (h:b≠a):ZP (ZB m a v) b=ZP m b:=by rw[Zc1,if_neg h]
theorem Zdu (a:α):ZP ([]:List (α×Value)) a=none:=rfl
end
theorem KeyBy.agg_ {α:Type} [DecidableEq α] {P:Program} {kt:TypeId} {enc:α→Value} {fs:Array Field} (ht:P.underlying kt=some (.struct fs)) (hagg:∀a,∃cs,enc a= .agg cs)
  (hc:∀(w:World) (e:Bool) (a:α),(Instr.checkKey e 10000 kt (enc a)).run P w= .ok () w) (hb:∀a,Instr.sameBits 10000 (enc a) (enc a)=true)
  (heq:∀(w:World) (x y:α),(Op.equal kt (enc x) (enc y)).run P w= .ok (decide (x=y)) w):KeyBy P kt enc:=by
 refine⟨hc,hb,fun w a es m h=> ?_⟩;have h2:=Ze5 (a:=a) (enc:=enc) heq w es m 0 h;unfold Instr.findKey;obtain⟨cs,ha⟩:=hagg a
 cases es with
 |nil=>
  cases m with
  |nil=>simp[run_underlying ht,Instr.findNow,look]
  |cons p m=>simp at h
 |cons e es=>
  have hn:Instr.findNow (.struct fs) (enc a) (e::es) 0=none:=by
   unfold Instr.findNow;rw[ha];simp[Instr.sameNow]
  simp[run_underlying ht,hn,h2]
end
/- Maps by a key and a number,and by versions. -/
section
open Go.RowKit
def Zdb (p:Int×Int):Value:= .agg #[.int .i64 p.1,.int .i64 p.2]
def Zc8 (v:Ver):Value:= .agg #[.int .i64 v.tx,.int .i64 v.key,.int .i64 v.nth]
theorem Zsb (w:World) (x y:Int×Int):(Op.equal 224 (Zdb x) (Zdb y)).run Tryz.prog w= .ok (decide (x=y)) w:=by
 obtain⟨a,b⟩:=x;obtain⟨a',b'⟩:=y;unfold Zdb
 show(Op.equalIn 10000 _ _ _).run _ w=_
 rw[run_equalIn_struct w _ _ _ _ (by kernel_rfl) (by kernel_rfl)];have hI:∀(w:World) (d:Nat) (x y:Int),(Op.equalIn (d+1) 3 (.int .i64 x) (.int .i64 y)).run Tryz.prog w= .ok (x==y) w:=fun w d x y=>run_equalIn_int w d _ _ _ x y Tryz.underlying3
 by_cases h1:a=a'<;>by_cases h2:b=b'<;>
  simp[Program.fieldsOf,Tryz.underlying224,Op.eqFields,part,hI,h1,h2,Result.andThen]
theorem Zjr (w:World) (x y:Ver):(Op.equalIn 10000 36 (Zc8 x) (Zc8 y)).run Tryz.prog w= .ok (decide (x=y)) w:=by
 obtain⟨a,b,c⟩:=x;obtain⟨a',b',c'⟩:=y;unfold Zc8;rw[run_equalIn_struct w _ _ _ _ (by kernel_rfl) (by kernel_rfl)];have hI:∀(w:World) (d:Nat) (x y:Int),(Op.equalIn (d+1) 3 (.int .i64 x) (.int .i64 y)).run Tryz.prog w= .ok (x==y) w:=fun w d x y=>run_equalIn_int w d _ _ _ x y Tryz.underlying3
 by_cases h1:a=a'<;>by_cases h2:b=b'<;>by_cases h3:c=c'<;>
  simp[Program.fieldsOf,Tryz.underlying36,Op.eqFields,part,hI,h1,h2,h3,Result.andThen]
theorem Zr8 (w:World) (x y:Ver):(binOp .neq 36 (Zc8 x) (Zc8 y)).run Tryz.prog w= .ok (.bool (x != y)) w:=by
 have:=Zjr w x y;unfold Zc8 at this ⊢;rw[run_neq_struct,this];simp only[Result.andThen]
 by_cases h:x=y<;>simp[h]
theorem Zna (w:World) (e:Bool) (p:Int×Int):(Instr.checkKey e 10000 224 (Zdb p)).run Tryz.prog w= .ok () w:=by
 show(Instr.checkKey e (9998+1+1) _ _).run _ w=_
 generalize 9998=d
 have hI:∀(w:World) (x:Int),(Instr.checkKey e (d+1) 3 (.int .i64 x)).run Tryz.prog w= .ok () w:=fun w x=>by unfold Instr.checkKey;simp[run_underlying Tryz.underlying3]
 unfold Instr.checkKey Zdb;simp[run_underlying Tryz.underlying224,←Array.forIn_toList,part,hI,Result.andThen]
theorem Zon (w:World) (e:Bool) (p:Ver):(Instr.checkKey e 10000 36 (Zc8 p)).run Tryz.prog w= .ok () w:=by
 show(Instr.checkKey e (9998+1+1) _ _).run _ w=_
 generalize 9998=d
 have hI:∀(w:World) (x:Int),(Instr.checkKey e (d+1) 3 (.int .i64 x)).run Tryz.prog w= .ok () w:=fun w x=>by unfold Instr.checkKey;simp[run_underlying Tryz.underlying3]
 unfold Instr.checkKey Zc8;simp[run_underlying Tryz.underlying36,←Array.forIn_toList,part,hI,Result.andThen]
theorem Zef:KeyBy Tryz.prog 224 Zdb:=KeyBy.agg_ Tryz.underlying224 (fun a=>⟨_,rfl⟩) Zna (fun a=>by simp[Zdb,Instr.sameBits]) Zsb
theorem Zis:KeyBy Tryz.prog 36 Zc8:=KeyBy.agg_ Tryz.underlying36 (fun a=>⟨_,rfl⟩) Zon (fun a=>by simp[Zc8,Instr.sameBits]) Zjr
theorem ZdY (w:World):(zeroValue 3).run Tryz.prog w= .ok (.int .i64 0) w:=by kernel_rfl
def Zbx (id:Int) (l:List HOp) (k:Nat):Int:=
 match l[k]? with
 |none=>0
 |some o=>if opB o=false then 1 else if o.read&&o.tx==id&& !decide (o.nth≤(wrN l o.key k:Int)) then 6 else 0
def ZaB (id:Int) (l:List HOp):Nat→Int
 |0=>0
 |k+1=>if ZaB id l k=0 then Zbx id l k else ZaB id l k
def ZaQ (id:Int) (l:List HOp):Int:=if idB id=false then 1 else if 4095<l.length then 9 else ZaB id l l.length
def WrM (m:List ((Int×Int)×Value)) (l:List HOp) (k:Nat):Prop:=
 ∀key n:Int,(ZP m (key,n)).getD (.int .i64 0)= .int .i64 (if n=0 then (wrN l key k:Int) else if 1≤n∧n≤(wrN l key k:Int) then 1 else 0)
theorem WrM.nil (l:List HOp):WrM [] l 0:=fun key n=>by
 rw[Zdu];have:wrN l key 0=0:=rfl;rw[this]
 by_cases h:n=0
 ·rw[if_pos h];rfl
 ·rw[if_neg h,if_neg (by omega)];rfl
theorem WrM.skip {m:List ((Int×Int)×Value)} {l:List HOp} {k:Nat} (h:WrM m l k) (hk:k<l.length) (hr:l[k].read=true):WrM m l (k+1):=fun key n=>by
 rw[ZhP hk rfl (by unfold isW;rw[hr];rfl)];exact h key n
theorem WrM.put {m:List ((Int×Int)×Value)} {l:List HOp} {k:Nat} {x:HOp} (h:WrM m l k) (hk:k<l.length) (hx:l[k]=x) (hr:x.read=false):
  WrM (ZB (ZB m (x.key,0) (.int .i64 ((wrN l x.key k:Int)+1))) (x.key,(wrN l x.key k:Int)+1) (.int .i64 1)) l (k+1):=fun key n=>by
 subst hx
 by_cases hkey:key=l[k].key
 ·subst hkey;rw[Zmn hk rfl (by unfold isW;rw[hr];simp)]
  by_cases h0:n=0
  ·subst h0;rw[ZaD _ _ (fun e=>by injection e with _ e;omega),Zad,if_pos rfl];rfl
  ·rw[if_neg h0]
   by_cases h1:n=(wrN l l[k].key k:Int)+1
   ·rw[h1,Zad,if_pos (by omega)];rfl
   ·rw[ZaD _ _ (fun e=>by injection e with _ e;exact h1 e),ZaD _ _ (fun e=>by injection e with _ e;exact h0 e),h l[k].key n,if_neg h0]
    by_cases h2:1≤n∧n≤(wrN l l[k].key k:Int)
    ·rw[if_pos h2,if_pos (by omega)]
    ·rw[if_neg h2,if_neg (by omega)]
 ·rw[ZaD _ _ (fun e=>by injection e with e _;exact hkey e),ZaD _ _ (fun e=>by injection e with e _;exact hkey e),h key n,
   ZhP hk rfl (by
    unfold isW;have:(l[k].key==key)=false:=by rw[beq_eq_false_iff_ne];exact fun e=>hkey e.symm
    rw[this];simp)]
end
/- Walks held against one another,from whichever places they begin. -/
section
open Go.RowKit
def ZdU:List Edge→List Edge→Bool
 |x::xs,y::ys=>if x=y then ZdU xs ys else ltE x y
 |_,_=>false
theorem Zi6:∀{xs ys:List Edge} {n:Nat} {x y:Edge},xs.take n=ys.take n→xs[n]? =some x→ys[n]? =some y→x≠y→ZdU xs ys=ltE x y
 |a::xs,b::ys,0,x,y,_,hx,hy,hne=>by
  simp only[Qz,Option.some.injEq]at hx hy;subst hx;subst hy;simp[ZdU,hne]
 |a::xs,b::ys,n+1,x,y,h,hx,hy,hne=>by
  simp only[List.take_succ_cons,List.cons.injEq,Qs]at h hx hy;obtain⟨rfl,h⟩:=h;simp only[ZdU,if_true];exact Zi6 h hx hy hne
 |[],_,n,x,y,_,hx,_,_=>by simp at hx
 |a::xs,[],n,x,y,_,_,hy,_=>by simp at hy
theorem Zgh:∀(xs:List Edge),ZdU xs xs=false
 |[]=>rfl
 |x::xs=>by simp[ZdU,Zgh xs]
def rot (l:List Edge) (i:Nat):List Edge:=l.drop i++l.take i
theorem Zmt (l:List Edge) {i:Nat} (hi:i≤l.length):(rot l i).length=l.length:=by unfold rot;rw[List.length_append,List.length_drop,List.length_take];omega
theorem ZkN (l:List Edge):rot l 0=l:=by simp[rot]
theorem Ztg {l:List Edge} {i n:Nat} (hi:i≤l.length) (hn:n<l.length):(rot l i)[n]? =l[(i+n)%l.length]? :=by
 unfold rot;rw[List.getElem?_append,List.length_drop]
 split
 ·rw[List.getElem?_drop,Nat.mod_eq_of_lt (by omega)]
 ·rw[List.getElem?_take,if_pos (by omega),show(i+n)%l.length=n-(l.length-i) by rw[show i+n=(n-(l.length-i))+l.length by omega,Nat.add_mod_right,Nat.mod_eq_of_lt (by omega)]]
theorem Zmu {l:List Edge} {i n:Nat} (hi:i≤l.length) (hn:n<l.length) {m:Nat} (hm:(i+n)%l.length=m) {x:Edge} (hx:l[m]? =some x):(rot l i)[n]? =some x:=by rw[Ztg hi hn,hm,hx]
set_option maxRecDepth 100000 in
set_option maxHeartbeats 1000000 in
theorem Zta (F G:Nat→Prop) (w:World) (A B:Option Addr) (c d:Nat) (a b:List Edge) (i j:Nat) (ha:Walk F w A a) (hb:Walk G w B b) (hl:a.length≤1000000) (hab:a.length=b.length) (hi:i≤a.length) (hj:j≤b.length):
  Calls Tryz.prog 63 #[.slice A a.length c,.slice B b.length d,.int .i64 i,.int .i64 j] w fun e w'=>e= .returned (.bool (ZdU (rot a i) (rot b j)))∧Upd No w w':=by
 have qN:=ZhG;have qG:∀(op:BinOp) (x y:Operand) (xs ys:Array Value) (w:World),(eqGuard op 26 x y (.agg xs) (.agg ys)).run Tryz.prog w= .ok () w:=fun op x y xs ys w=>run_eqGuard_agg w op _ x y xs ys (by kernel_rfl)
 have Hab:=Qh hab;have hlb:b.length≤1000000:=by omega
 have hlen:a.length≤b.length∧b.length≤a.length:=by omega
 clear hab
 go_enter Tryz.func63,Tryz.ntmps63
 go_wp2
 go_loopg [14] a.length (fun gk n wr=>∃k:Nat,k+gk=a.length∧n= .int .i64 k∧Hid ((rot a i).take k=(rot b j).take k)∧Upd No w wr)
 case atStart=>exact⟨0,by omega,rfl,Qh (by simp),Upd.refl _ _⟩
 case round=>
  obtain⟨k,hgk,rfl,hok,hu⟩:=hrel
  by_cases hlt:k<a.length
  ·have hma:(i+k)%a.length<a.length:=Nat.mod_lt _ (by omega);have hmb:(j+k)%b.length<b.length:=Nat.mod_lt _ (by omega);obtain⟨ad,rfl,c0,c1,c2,c3⟩:=(ha.upd hu (fun _ _=>id)).at_ hma;obtain⟨bd,rfl,d0,d1,d2,d3⟩:=(hb.upd hu (fun _ _=>id)).at_ hmb;obtain⟨x,hx⟩:∃x,a[(i+k)%a.length]=x:=⟨_,rfl⟩;obtain⟨y,hy⟩:∃y,b[(j+k)%b.length]=y:=⟨_,rfl⟩;rw[hx]at c0 c1 c2 c3;rw[hy]at d0 d1 d2 d3;have hX:=Zmu hi hlt rfl (by rw[Qg hma,hx]);have hY:=Zmu hj (show k<b.length by omega) rfl (by rw[Qg hmb,hy]);have hca:((i:Int)+(k:Int)).tmod (a.length:Int)=(((i+k)%a.length:Nat):Int):=by rw[Int.tmod_eq_emod_of_nonneg (by omega),Int.natCast_emod];rfl
   have hca2:((i:Int)+(k:Int))%(a.length:Int)=(((i+k)%a.length:Nat):Int):=by rw[Int.natCast_emod];rfl
   have hcb:((j:Int)+(k:Int)).tmod (b.length:Int)=(((j+k)%b.length:Nat):Int):=by rw[Int.tmod_eq_emod_of_nonneg (by omega),Int.natCast_emod];rfl
   have hcb2:((j:Int)+(k:Int))%(b.length:Int)=(((j+k)%b.length:Nat):Int):=by rw[Int.natCast_emod];rfl
   generalize (i+k)%a.length=m at*
   generalize (j+k)%b.length=n at*
   have b1:(0:Int)≤(k:Int):=Qn _;have b3:(m:Int)<(a.length:Int):=by omega
   have b4:(0:Int)≤(m:Int):=Qn _;have b8:(n:Int)<(b.length:Int):=by omega
   have b9:(0:Int)≤(n:Int):=Qn _;have b5:IntKind.i64.wrap ((i:Int)+(k:Int))=(i:Int)+(k:Int):=IntWalk.i64_in _ (by omega);have b6:IntKind.i64.wrap ((j:Int)+(k:Int))=(j:Int)+(k:Int):=IntWalk.i64_in _ (by omega);have hnl:¬a=[]:=fun e=>by rw[e]at hlt;simp at hlt
   have hnz:¬(a.length:Int)=0:=by omega
   have hml:¬b=[]:=fun e=>by rw[e]at hmb;simp at hmb
   have hmz:¬(b.length:Int)=0:=by omega
   clear hx hy;go_wp2
   go_region_held3 (fun w'=>w'.cell? (ad.add (m*4))=some (.int .i64 x.f)∧w'.cell? ⟨(ad.add (m*4)).block,(ad.add (m*4)).off+1,none⟩=some (.int .i64 x.t)∧w'.cell? ⟨(ad.add (m*4)).block,(ad.add (m*4)).off+2,none⟩=some (.int .i64 x.k)∧w'.cell? ⟨(ad.add (m*4)).block,(ad.add (m*4)).off+3,none⟩=some (.int .i64 x.key)∧
     w'.cell? (bd.add (n*4))=some (.int .i64 y.f)∧w'.cell? ⟨(bd.add (n*4)).block,(bd.add (n*4)).off+1,none⟩=some (.int .i64 y.t)∧w'.cell? ⟨(bd.add (n*4)).block,(bd.add (n*4)).off+2,none⟩=some (.int .i64 y.k)∧w'.cell? ⟨(bd.add (n*4)).block,(bd.add (n*4)).off+3,none⟩=some (.int .i64 y.key))
    (first|exact⟨c0,c1,c2,c3,d0,d1,d2,d3⟩|(go_split_ands;refine⟨?_,?_,?_,?_,?_,?_,?_,?_⟩<;>first|with_reducible assumption|(with_reducible exact((Upd.refl No _).alloc _).keepNo (by with_reducible assumption))|go_keep)) (fail)
   all_goals
    clear hca hca2 hcb hcb2 b5 b6
    by_cases he:x=y
    ·have heb:(x != y)=false:=by rw[he];simp
     have Hok:=Qh (show(rot a i).take (k+1)=(rot b j).take (k+1) by
      rw[List.take_add_one,List.take_add_one,hok.out,hX,hY,he])
     clear he hX hY;go_wp2
     go_roundg (gk-1)
     case measure=>omega
     case rel=>exact⟨k+1,by omega,by go_num,Hok,((hu.alloc _).alloc _).drew⟩
    ·have heb:(x != y)=true:=by simpa using he
     have Hok:=Qh (Zi6 hok.out hX hY he);clear he hX hY
     go_wp2_with fail
     refine(Zus _ x y).mono ?_;rintro e w3 ⟨rfl,hu3⟩;go_wp2
     go_ret
     exact⟨by rw[Hok.out];rfl,((hu.alloc _).alloc _).drew.trans hu3⟩
  ·obtain rfl:k=a.length:=by omega
   have Hok:=Qh (show ZdU (rot a i) (rot b j)=false by
    have h1:=hok.out;rw[List.take_of_length_le (by rw[Zmt _ hi];exact Nat.le_refl _),List.take_of_length_le (by rw[Zmt _ hj];omega)]at h1;rw[h1,Zgh])
   go_wp2
   go_ret
   exact⟨by rw[Hok.out];rfl,hu⟩
def Zd7 (a b:List Edge):Bool:=if a.length=b.length then ZdU a b else decide (a.length<b.length)
theorem Zua (F G:Nat→Prop) (w:World) (A B:Option Addr) (c d:Nat) (a b:List Edge) (ha:Walk F w A a) (hb:Walk G w B b) (hl:a.length≤1000000):
  Calls Tryz.prog 27 #[.slice A a.length c,.slice B b.length d] w fun e w'=>e= .returned (.bool (Zd7 a b))∧Upd No w w':=by
 by_cases h:a.length=b.length
 ·have hz:((a.length:Int) != (b.length:Int))=false:=by rw[h];simp
  have H:=Qh (show Zd7 a b=ZdU (rot a 0) (rot b 0) by unfold Zd7;rw[if_pos h,ZkN,ZkN]);have h':=Qh h;clear h
  go_enter Tryz.func27,Tryz.ntmps27
  go_wp2_with fail
  refine(Zta F G _ A B c d a b 0 0 ha hb hl h'.out (Nat.zero_le _) (Nat.zero_le _)).mono ?_;rintro e w1 ⟨rfl,hu⟩;go_wp2
  go_ret
  exact⟨by rw[H.out];rfl,hu⟩
 ·have hz:((a.length:Int) != (b.length:Int))=true:=by rw[bne_iff_ne];omega
  have H:=Qh (show Zd7 a b=decide (a.length<b.length) by unfold Zd7;rw[if_neg h]);clear h
  go_enter Tryz.func27,Tryz.ntmps27
  go_wp2
  go_ret
  exact⟨by rw[H.out];first|rfl|(simp),Upd.refl _ _⟩
end
/- Walks:simple by the program;the bits of their kinds,by the program and by the document. -/
section
open Go.RowKit
section
variable {α:Type} [DecidableEq α]
theorem Zhr (a:α):∀(m:List (α×Value)) (i:Nat),look a m i=none↔a∉m.map (·.1)
 |[],i=>by simp[look]
 |p::m,i=>by
  unfold look
  by_cases h:a=p.1
  ·simp[h]
  ·simp only[List.map_cons,List.mem_cons,h,if_false,false_or];exact Zhr a m (i+1)
theorem Zo2 (m:List (α×Value)) (a:α) (v:Value):(ZB m a v).map (·.1)=if a∈m.map (·.1) then m.map (·.1) else m.map (·.1)++[a]:=by
 unfold ZB
 cases h:look a m 0 with
 |none=>
  rw[if_neg ((Zhr a m 0).1 h),List.map_append];rfl
 |some r=>
  rw[if_pos (by
   rcases Classical.em (a∈m.map (·.1))with h'|h'
   ·exact h'
   ·rw[(Zhr a m 0).2 h']at h;cases h)]
  apply List.ext_getElem?
  intro j;simp only[List.getElem?_map,List.getElem?_modify]
  cases m[j]? with
  |none=>simp
  |some p=>by_cases hj:r.1=j<;>simp[hj]
end
theorem Zdj:KeyBy Tryz.prog 3 (fun n:Int=>Value.int .i64 n):=KeyBy.int_ Tryz.underlying3
def Zr (a b c:Bool):Int:=(if a then 2 else 0)+(if b then 4 else 0)+(if c then 8 else 0)
def Za1 (l:List Edge) (n:Nat) (k:Int):Bool:=(l.take n).any fun e=>e.k==k
def Zck (l:List Edge):Int:=Zr (Za1 l l.length 1) (Za1 l l.length 2) (Za1 l l.length 3)
theorem Zpn {l:List Edge} {n:Nat} (hn:n<l.length) (k:Int):Za1 l (n+1) k=(Za1 l n k||l[n].k==k):=by
 unfold Za1;rw[List.take_succ_eq_append_getElem hn,List.any_append];simp
theorem or2 (a b c:Bool):bits .or .i64 (Zr a b c) 2=Zr true b c:=by cases a<;>cases b<;>cases c<;>decide
theorem or4 (a b c:Bool):bits .or .i64 (Zr a b c) 4=Zr a true c:=by cases a<;>cases b<;>cases c<;>decide
theorem or8 (a b c:Bool):bits .or .i64 (Zr a b c) 8=Zr a b true:=by cases a<;>cases b<;>cases c<;>decide
set_option maxRecDepth 100000 in
theorem Zt9 (F:Nat→Prop) (w:World) (A:Option Addr) (c:Nat) (l:List Edge) (h:Walk F w A l) (hl:l.length≤1000000):
  Calls Tryz.prog 25 #[.slice A l.length c] w fun e w'=>e= .returned (.int .i64 (Zck l))∧Upd No w w':=by
 go_enter Tryz.func25,Tryz.ntmps25
 go_wp2
 go_loopg [3,8] l.length (fun gk n i wr=>∃(k:Nat) (N:Int),k+gk=l.length∧i= .int .i64 k∧n= .int .i64 N∧Hid (N=Zr (Za1 l k 1) (Za1 l k 2) (Za1 l k 3))∧Upd No w wr)
 case atStart=>exact⟨0,0,by omega,rfl,rfl,Qh rfl,Upd.refl _ _⟩
 case round=>
  obtain⟨k,N,hgk,rfl,rfl,hN,hu⟩:=hrel
  by_cases hlt:k<l.length
  ·obtain⟨ad,rfl,c0,c1,c2,c3⟩:=(h.upd hu (fun _ _=>id)).at_ hlt;obtain⟨x,hx⟩:∃x,l[k]=x:=⟨_,rfl⟩;have hs:=fun n=>Zpn hlt n
   rw[hx]at c0 c1 c2 c3 hs
   by_cases h1:x.k=1
   ·have H:=Qh (show bits .or .i64 N 2=Zr (Za1 l (k+1) 1) (Za1 l (k+1) 2) (Za1 l (k+1) 3) by
     rw[hN.out,hs,hs,hs,h1,or2];simp)
    obtain⟨M,hM⟩:∃M,M=bits .or .i64 N 2:=⟨_,rfl⟩;rw[←hM]at H;have hM':=hM.symm;rw[h1]at c2;clear hM hs hx h1;go_wp2
    go_roundg (gk-1)
    case measure=>omega
    case rel=>exact⟨k+1,M,by omega,by go_num,rfl,H,hu.alloc _⟩
   ·by_cases h2:x.k=2
    ·have H:=Qh (show bits .or .i64 N 4=Zr (Za1 l (k+1) 1) (Za1 l (k+1) 2) (Za1 l (k+1) 3) by
      rw[hN.out,hs,hs,hs,h2,or4];simp)
     obtain⟨M,hM⟩:∃M,M=bits .or .i64 N 4:=⟨_,rfl⟩;rw[←hM]at H;have hM':=hM.symm;rw[h2]at c2;clear hM hs hx h2;go_wp2
     go_roundg (gk-1)
     case measure=>omega
     case rel=>exact⟨k+1,M,by omega,by go_num,rfl,H,hu.alloc _⟩
    ·by_cases h3:x.k=3
     ·have H:=Qh (show bits .or .i64 N 8=Zr (Za1 l (k+1) 1) (Za1 l (k+1) 2) (Za1 l (k+1) 3) by
       rw[hN.out,hs,hs,hs,h3,or8];simp)
      obtain⟨M,hM⟩:∃M,M=bits .or .i64 N 8:=⟨_,rfl⟩;rw[←hM]at H;have hM':=hM.symm;rw[h3]at c2;clear hM hs hx h3;go_wp2
      go_roundg (gk-1)
      case measure=>omega
      case rel=>exact⟨k+1,M,by omega,by go_num,rfl,H,hu.alloc _⟩
     ·have H:=Qh (show N=Zr (Za1 l (k+1) 1) (Za1 l (k+1) 2) (Za1 l (k+1) 3) by
       rw[hN.out,hs,hs,hs,beq_eq_false_iff_ne.2 h1,beq_eq_false_iff_ne.2 h2,beq_eq_false_iff_ne.2 h3];simp)
      by_cases h4:x.k<1
      ·have h4':decide ((1:Int)≤x.k)=false:=decide_eq_false (by omega);have h4'':¬(1:Int)≤x.k:=by omega
       clear hs hx h1 h2 h3;go_wp2
       go_roundg (gk-1)
       case measure=>omega
       case rel=>exact⟨k+1,N,by omega,by go_num,rfl,H,hu.alloc _⟩
      ·have h5:(1:Int)≤x.k:=by omega
       have h6:¬x.k≤3:=by omega
       clear hs hx h1 h2 h3 h4;go_wp2
       go_roundg (gk-1)
       case measure=>omega
       case rel=>exact⟨k+1,N,by omega,by go_num,rfl,H,hu.alloc _⟩
  ·obtain rfl:k=l.length:=by omega
   have H:=Qh (show N=Zck l from hN.out);go_wp2
   go_ret
   exact⟨by rw[←H.out];rfl,hu⟩
end
/- The document's own small walks over numbers:where one stands,how often,put among rising ones. -/
section
open Go.RowKit
def ZU (n:Int):List Int→List Int
 |[]=>[n]
 |x::l=>if n≤x then n::(x::l).filter (fun y=> !(y==n)) else x::ZU n l
theorem ZaN (n a:Int):∀l,a∈ZU n l↔a=n∨a∈l
 |[]=>by simp[ZU]
 |x::l=>by
  have ih:=ZaN n a l;unfold ZU
  split
  ·rw[List.mem_cons,List.mem_filter]
   by_cases h:a=n<;>simp[h]
  ·simp only[List.mem_cons,ih];grind
theorem Zdq (n:Int):∀l,l.Pairwise (·<·)→(ZU n l).Pairwise (·<·)
 |[],_=>by simp[ZU]
 |x::l,h=>by
  have h':=List.pairwise_cons.1 h;unfold ZU
  split
  ·refine List.pairwise_cons.2 ⟨fun a ha=> ?_,h.filter _⟩;rw[List.mem_filter]at ha;have h1:a≠n:=by simpa using ha.2
   rcases List.mem_cons.1 ha.1 with rfl|h2
   ·omega
   ·have:=h'.1 a h2;omega
  ·refine List.pairwise_cons.2 ⟨fun a ha=> ?_,Zdq n l h'.2⟩;rcases(ZaN n a l).1 ha with rfl|h2
   ·omega
   ·exact h'.1 a h2
theorem Zhh (n:Int) (l:List Int):(ZU n l).length≤l.length+1:=by
 induction l with
 |nil=>simp[ZU]
 |cons x l ih=>
  unfold ZU
  split
  ·have:=List.length_filter_le (fun y=> !(y==n)) (x::l);simp only[List.length_cons]at*;omega
  ·simp only[List.length_cons]at*;omega
def Zde (s:List Int):List Int→List Int
 |[]=>s
 |k::l=>Zde (ZU k s) l
theorem Zik (a:Int):∀(l s:List Int),a∈Zde s l↔a∈s∨a∈l
 |[],s=>by simp[Zde]
 |k::l,s=>by
  have ih:=Zik a l (ZU k s);rw[ZaN]at ih
  show a∈Zde (ZU k s) l↔_
  rw[ih,List.mem_cons];grind
theorem ZjD:∀(l s:List Int),s.Pairwise (·<·)→(Zde s l).Pairwise (·<·)
 |[],_,h=>h
 |k::l,s,h=>ZjD l _ (Zdq k s h)
theorem Zh6:∀(l s:List Int),(Zde s l).length≤s.length+l.length
 |[],s=>by simp[Zde]
 |k::l,s=>by
  have:=Zh6 l (ZU k s);have:=Zhh k s
  show(Zde (ZU k s) l).length≤_
  simp only[List.length_cons];omega
end
/- The document on one transaction:what it needs of others. -/
section
open Go.RowKit
def VersR (F:Nat→Prop) (w:World) (A:Option Addr) (l:List Ver):Prop:=Recs F w A 3 (l.map Ver.cells)
theorem VersR.at_ {F:Nat→Prop} {w:World} {A:Option Addr} {l:List Ver} (h:VersR F w A l) {k:Nat} (hk:k<l.length):∃ad,A=some ad∧
  w.cell? (ad.add (k*3))=some (.int .i64 l[k].tx)∧w.cell? ⟨(ad.add (k*3)).block,(ad.add (k*3)).off+1,none⟩=some (.int .i64 l[k].key)∧
  w.cell? ⟨(ad.add (k*3)).block,(ad.add (k*3)).off+2,none⟩=some (.int .i64 l[k].nth):=by
 have hk':k<(l.map Ver.cells).length:=by simpa using hk
 obtain⟨ad,e,_,_,hc⟩:=Recs.at_ h hk';rw[List.getElem_map]at hc;exact⟨ad,e,by simpa using hc 0 _ rfl,by simpa using hc 1 _ rfl,by simpa using hc 2 _ rfl⟩
theorem VersR.upd {F S:Nat→Prop} {w w':World} {A:Option Addr} {l:List Ver} (h:VersR F w A l) (k:Upd S w w') (hn:∀i,F i→¬S i):VersR F w' A l:=Recs.upd h k hn
end
end Go.Proofs.YtonblekdfinpkaaGreat
