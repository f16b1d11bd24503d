/- Edges held against one another: by the program and by the document. -/
import Derived.Test.YtonblekdfinpkaaGreatProg
import Derived.Sort.Grow
import Derived.IntWalk
import Derived.Deep.RegionHeld3
import Derived.Lib.SlBytesRow
import Derived.Test.YtonblekdfinpkaaGreatSxaf
import Derived.Test.YtonblekdfinpkaaGreatSxah
import Derived.Test.YtonblekdfinpkaaGreatSxan
import Derived.Test.YtonblekdfinpkaaGreatSxao
namespace Go.Proofs.YtonblekdfinpkaaGreat
set_option linter.unusedVariables false
set_option linter.unusedSimpArgs false
section
open Go.RowKit
def Zw (a b:Int):Int:=if a<b then -1 else if b<a then 1 else 0
theorem ZbJ (a:Int):Zw a a=0:=by unfold Zw;simp
theorem Zch {a b:Int} (h:a≠b):Zw a b≠0∧decide (Zw a b<0)=decide (a<b):=by
 unfold Zw
 by_cases h1:a<b
 ·simp[h1]
 ·have:b<a:=by omega
  simp[h1,this]
def ZaA (a b:Edge):Int:=if a.f≠b.f then Zw a.f b.f else if a.k≠b.k then Zw a.k b.k else if a.key≠b.key then Zw a.key b.key else Zw a.t b.t
def ltE (a b:Edge):Bool:=if a.f≠b.f then decide (a.f<b.f) else if a.k≠b.k then decide (a.k<b.k) else if a.key≠b.key then decide (a.key<b.key) else decide (a.t<b.t)
theorem ZqE (a b:Edge):decide (ZaA a b<0)=ltE a b:=by
 unfold ZaA ltE
 by_cases h1:a.f≠b.f
 ·rw[if_pos h1,if_pos h1,(Zch h1).2]
 rw[if_neg h1,if_neg h1]
 by_cases h2:a.k≠b.k
 ·rw[if_pos h2,if_pos h2,(Zch h2).2]
 rw[if_neg h2,if_neg h2]
 by_cases h3:a.key≠b.key
 ·rw[if_pos h3,if_pos h3,(Zch h3).2]
 rw[if_neg h3,if_neg h3]
 by_cases h4:a.t=b.t
 ·rw[h4,ZbJ];simp
 ·rw[(Zch h4).2]
theorem ZfN (w:World) (n:Int):Calls Tryz.prog 192 #[.int .i64 n] w fun e w'=>e= .returned (.bool false)∧w=w':=by
 have hb:(n != n)=false:=by simp
 go_enter Tryz.func192,Tryz.ntmps192
 go_wp2
 go_ret
 exact⟨rfl,rfl⟩
theorem Zar (w:World) (a b:Int):Calls Tryz.prog 129 #[.int .i64 a,.int .i64 b] w fun e w'=>e= .returned (.int .i64 (Zw a b))∧w=w':=by
 by_cases h1:a<b
 ·have H:=Qh (show Zw a b= -1 by unfold Zw;rw[if_pos h1])
  go_enter Tryz.func129,Tryz.ntmps129
  go_wp2_with fail
  refine(ZfN _ _).mono ?_;rintro e w' ⟨rfl,rfl⟩
  go_wp2_with fail
  refine(ZfN _ _).mono ?_;rintro e w' ⟨rfl,rfl⟩;go_wp2
  go_ret
  exact⟨by rw[H.out];rfl,rfl⟩
 ·by_cases h2:b<a
  ·have H:=Qh (show Zw a b=1 by unfold Zw;rw[if_neg h1,if_pos h2])
   go_enter Tryz.func129,Tryz.ntmps129
   go_wp2_with fail
   refine(ZfN _ _).mono ?_;rintro e w' ⟨rfl,rfl⟩
   go_wp2_with fail
   refine(ZfN _ _).mono ?_;rintro e w' ⟨rfl,rfl⟩;go_wp2
   go_ret
   exact⟨by rw[H.out];rfl,rfl⟩
  ·have H:=Qh (show Zw a b=0 by unfold Zw;rw[if_neg h1,if_neg h2])
   go_enter Tryz.func129,Tryz.ntmps129
   go_wp2_with fail
   refine(ZfN _ _).mono ?_;rintro e w' ⟨rfl,rfl⟩
   go_wp2_with fail
   refine(ZfN _ _).mono ?_;rintro e w' ⟨rfl,rfl⟩;go_wp2
   go_ret
   exact⟨by rw[H.out];rfl,rfl⟩
def Grw (w w':World):Prop:=∃q os',w'=Sort.grow (w.drewN q) os'
theorem Grw.refl (w:World):Grw w w:=⟨0,#[],by unfold Sort.grow World.drewN;simp⟩
theorem Grw.alloc {w w':World} (h:Grw w w') (o:Obj):Grw w (w'.alloc o):=by
 obtain⟨q,os',rfl⟩:=h;exact⟨q,os'.push o,by unfold Sort.grow World.drewN World.alloc;simp⟩
theorem Grw.drewN {w w':World} (h:Grw w w') (n:Nat):Grw w (w'.drewN n):=by
 obtain⟨q,os',rfl⟩:=h;exact⟨q+n,os',by unfold Sort.grow World.drewN;simp[Nat.add_assoc]⟩
theorem Grw.upd {w w':World} (h:Grw w w'):Upd No w w':=by
 obtain⟨q,os',rfl⟩:=h;exact⟨rfl,rfl,rfl,by unfold Sort.grow World.drewN;simp,fun k hk _=>by unfold Sort.grow World.drewN;simp[Array.getElem?_append_left hk]⟩
theorem Zck {P:Program} {f:FuncId} {args:Array Value} {w:World} {a n:Nat} {v:Value} (h:Calls P f args (w.drewN (a+n)) fun e w'=>e= .returned v∧w.drewN (a+n)=w'):
  Calls P f args (w.drewN (a+n)) fun e w'=>e= .returned v∧∃m,w'=w.drewN (a+m):=h.mono fun _ _ h=>⟨h.1,n,h.2.symm⟩
set_option maxRecDepth 100000 in
set_option maxHeartbeats 1000000 in
theorem ZmT (w:World) (x y:Edge):Calls Tryz.prog 193 #[.agg x.cells.toArray,.agg y.cells.toArray] w fun e w'=>e= .returned (.int .i64 (ZaA x y))∧Grw w w':=by
 unfold Edge.cells;have H1:=Qh (show x.f=y.f→Zw x.f y.f=0 from fun h=>by rw[h,ZbJ])
 by_cases h1:x.f=y.f
 ·have b1:(Zw x.f y.f != 0)=false:=by rw[h1,ZbJ];rfl
  by_cases h2:x.k=y.k
  ·have b2:(Zw x.k y.k != 0)=false:=by rw[h2,ZbJ];rfl
   by_cases h3:x.key=y.key
   ·have b3:(Zw x.key y.key != 0)=false:=by rw[h3,ZbJ];rfl
    have H:=Qh (show ZaA x y=Zw x.t y.t by unfold ZaA;rw[if_neg (by simpa using h1),if_neg (by simpa using h2),if_neg (by simpa using h3)]);clear h1 h2 h3
    by_cases h4:x.t=y.t
    ·have b4:(Zw x.t y.t != 0)=false:=by rw[h4,ZbJ];rfl
     have H4:=Qh (show Zw x.t y.t=0 by rw[h4,ZbJ]);clear h4
     go_enter Tryz.func193,Tryz.ntmps193
     go_wp2;refine wp_loop_rounds 5 ?_;rw[rounds_succ];go_wp2
     go_quiet ((go_at_call 129;exact Calls.quiet_of_same ((Zar _ _ _).mono fun e w' h=>⟨h.1,h.2.symm⟩)))
     go_wp2;rw[rounds_succ];go_wp2
     go_quiet ((go_at_call 129;exact Zck (Zar _ _ _)))
     go_wp2;rw[rounds_succ];go_wp2
     go_quiet ((go_at_call 129;exact Zck (Zar _ _ _)))
     go_wp2;rw[rounds_succ];go_wp2
     go_quiet ((go_at_call 129;exact Zck (Zar _ _ _)))
     go_wp2;rw[rounds_succ];go_wp2
     go_ret
     exact⟨by rw[H.out,H4.out];rfl,(((((Grw.refl _).alloc _).alloc _).alloc _).alloc _).drewN _⟩
    ·have b4:(Zw x.t y.t != 0)=true:=by rw[bne_iff_ne];exact(Zch h4).1
     clear h4
     go_enter Tryz.func193,Tryz.ntmps193
     go_wp2;refine wp_loop_rounds 4 ?_;rw[rounds_succ];go_wp2
     go_quiet ((go_at_call 129;exact Calls.quiet_of_same ((Zar _ _ _).mono fun e w' h=>⟨h.1,h.2.symm⟩)))
     go_wp2;rw[rounds_succ];go_wp2
     go_quiet ((go_at_call 129;exact Zck (Zar _ _ _)))
     go_wp2;rw[rounds_succ];go_wp2
     go_quiet ((go_at_call 129;exact Zck (Zar _ _ _)))
     go_wp2;rw[rounds_succ];go_wp2
     go_quiet ((go_at_call 129;exact Zck (Zar _ _ _)))
     go_wp2
     go_ret
     exact⟨by rw[H.out];rfl,(((((Grw.refl _).alloc _).alloc _).alloc _).alloc _).drewN _⟩
   ·have b3:(Zw x.key y.key != 0)=true:=by rw[bne_iff_ne];exact(Zch h3).1
    have H:=Qh (show ZaA x y=Zw x.key y.key by unfold ZaA;rw[if_neg (by simpa using h1),if_neg (by simpa using h2),if_pos h3]);clear h1 h2 h3
    go_enter Tryz.func193,Tryz.ntmps193
    go_wp2;refine wp_loop_rounds 3 ?_;rw[rounds_succ];go_wp2
    go_quiet ((go_at_call 129;exact Calls.quiet_of_same ((Zar _ _ _).mono fun e w' h=>⟨h.1,h.2.symm⟩)))
    go_wp2;rw[rounds_succ];go_wp2
    go_quiet ((go_at_call 129;exact Zck (Zar _ _ _)))
    go_wp2;rw[rounds_succ];go_wp2
    go_quiet ((go_at_call 129;exact Zck (Zar _ _ _)))
    go_wp2
    go_ret
    exact⟨by rw[H.out];rfl,(((((Grw.refl _).alloc _).alloc _).alloc _).alloc _).drewN _⟩
  ·have b2:(Zw x.k y.k != 0)=true:=by rw[bne_iff_ne];exact(Zch h2).1
   have H:=Qh (show ZaA x y=Zw x.k y.k by unfold ZaA;rw[if_neg (by simpa using h1),if_pos h2]);clear h1 h2
   go_enter Tryz.func193,Tryz.ntmps193
   go_wp2;refine wp_loop_rounds 2 ?_;rw[rounds_succ];go_wp2
   go_quiet ((go_at_call 129;exact Calls.quiet_of_same ((Zar _ _ _).mono fun e w' h=>⟨h.1,h.2.symm⟩)))
   go_wp2;rw[rounds_succ];go_wp2
   go_quiet ((go_at_call 129;exact Zck (Zar _ _ _)))
   go_wp2
   go_ret
   exact⟨by rw[H.out];rfl,(((((Grw.refl _).alloc _).alloc _).alloc _).alloc _).drewN _⟩
 ·have b1:(Zw x.f y.f != 0)=true:=by rw[bne_iff_ne];exact(Zch h1).1
  have H:=Qh (show ZaA x y=Zw x.f y.f by unfold ZaA;rw[if_pos h1]);clear h1
  go_enter Tryz.func193,Tryz.ntmps193
  go_wp2;refine wp_loop_rounds 1 ?_;rw[rounds_succ];go_wp2
  go_quiet ((go_at_call 129;exact Calls.quiet_of_same ((Zar _ _ _).mono fun e w' h=>⟨h.1,h.2.symm⟩)))
  go_wp2
  go_ret
  exact⟨by rw[H.out];rfl,(((((Grw.refl _).alloc _).alloc _).alloc _).alloc _).drewN _⟩
end
/- Digraphs:ends held against one another. -/
section
open Go.RowKit
structure DEnd where
 kind:Int
 label:Int
 node:Int
deriving DecidableEq
def DEnd.cells (e:DEnd):List Value:=[.int .i64 e.kind,.int .i64 e.label,.int .i64 e.node]
def orI:List Int→Int
 |[]=>0
 |x::l=>if x=0 then orI l else x
theorem Zgi (x:Int) (l:List Int):orI (x::l)=if x=0 then orI l else x:=rfl
set_option maxRecDepth 100000 in
theorem Zsy (F:Nat→Prop) (w:World) (A:Option Addr) (c:Nat) (l:List Int) (h:Ints F w A l) (hl:l.length≤1000000):
  Calls Tryz.prog 174 #[.slice A l.length c] w fun e w'=>e= .returned (.int .i64 (orI l))∧Upd No w w':=by
 go_enter Tryz.func174,Tryz.ntmps174
 go_wp2
 go_loopg [8] l.length (fun gk i wr=>∃k:Nat,k+gk=l.length∧i= .int .i64 k∧Hid (orI (l.drop k)=orI l)∧Upd No w wr)
 case atStart=>exact⟨0,by omega,rfl,Qh rfl,Upd.refl _ _⟩
 case round=>
  obtain⟨k,hgk,rfl,hs,hu⟩:=hrel
  by_cases hlt:k<l.length
  ·obtain⟨ad,hA,_,_,hc⟩:=(h.upd hu (fun _ _=>id)).at_ hlt;obtain⟨y,hy⟩:∃y,l[k]=y:=⟨_,rfl⟩;rw[hy]at hc;subst hA;have X:=Qh (show l.drop k=y::l.drop (k+1) by rw[←hy];exact List.drop_eq_getElem_cons hlt);clear hy;have b1:(0:Int)≤(k:Int):=Qn _;have b2:(k:Int)<(l.length:Int):=by omega
   have hst:=hs.out;rw[X.out,Zgi]at hst
   by_cases he:y=0
   ·have heb:(y != 0)=false:=by rw[he];rfl
    rw[if_pos he]at hst;have HS:=Qh hst;clear hst he;go_wp2
    go_roundg (gk-1)
    case measure=>omega
    case rel=>exact⟨k+1,by omega,by go_num,HS,hu⟩
   ·have heb:(y != 0)=true:=by rw[bne_iff_ne];exact he
    rw[if_neg he]at hst;have HS:=Qh hst;clear hst he;go_wp2
    go_ret
    exact⟨by rw[←HS.out];rfl,hu⟩
  ·obtain rfl:k=l.length:=by omega
   have HS:=Qh (show(0:Int)=orI l by rw[←hs.out,List.drop_length];rfl);go_wp2
   go_ret
   exact⟨by rw[←HS.out];rfl,hu⟩
def Zaf (a b:DEnd):Int:=orI [Zw a.kind b.kind,Zw a.label b.label,Zw a.node b.node]
set_option maxRecDepth 100000 in
theorem Zo5 (w:World) (a b:DEnd):Calls Tryz.prog 103 #[.agg a.cells.toArray,.agg b.cells.toArray] w fun e w'=>e= .returned (.int .i64 (Zaf a b))∧Upd No w w':=by
 obtain⟨ak,al,an⟩:=a;obtain⟨bk,bl,bn⟩:=b;unfold DEnd.cells;have b1:=(Blk.new w 92 [.int .i64 ak,.int .i64 al,.int .i64 an]).alloc (.cells #[.int .i64 bk,.int .i64 bl,.int .i64 bn] 92);have b2:=Blk.new (w.alloc (.cells #[.int .i64 ak,.int .i64 al,.int .i64 an] 92)) 92 [.int .i64 bk,.int .i64 bl,.int .i64 bn];simp only[World.size_alloc]at b2;have uA:=((Upd.refl No w).alloc (.cells #[.int .i64 ak,.int .i64 al,.int .i64 an] 92)).alloc (.cells #[.int .i64 bk,.int .i64 bl,.int .i64 bn] 92);obtain⟨wb,hwb⟩:∃wb,(w.alloc (.cells #[.int .i64 ak,.int .i64 al,.int .i64 an] 92)).alloc (.cells #[.int .i64 bk,.int .i64 bl,.int .i64 bn] 92)=wb:=⟨_,rfl⟩;rw[hwb]at b1 b2 uA;have a0:∀W,Upd No wb W→W.cell? ⟨w.heap.size,0,none⟩=some (.int .i64 ak):=fun W hW=>(b1.upd hW id).cell 0
 have a1:∀W,Upd No wb W→W.cell? ⟨w.heap.size,1,none⟩=some (.int .i64 al):=fun W hW=>(b1.upd hW id).cell 1
 have a2:∀W,Upd No wb W→W.cell? ⟨w.heap.size,2,none⟩=some (.int .i64 an):=fun W hW=>(b1.upd hW id).cell 2
 have c0:∀W,Upd No wb W→W.cell? ⟨w.heap.size+1,0,none⟩=some (.int .i64 bk):=fun W hW=>(b2.upd hW id).cell 0
 have c1:∀W,Upd No wb W→W.cell? ⟨w.heap.size+1,1,none⟩=some (.int .i64 bl):=fun W hW=>(b2.upd hW id).cell 1
 have c2:∀W,Upd No wb W→W.cell? ⟨w.heap.size+1,2,none⟩=some (.int .i64 bn):=fun W hW=>(b2.upd hW id).cell 2
 have HWB:=Qh hwb;have UA:=Qh uA;have hor:=Zsy (fun i=>i=wb.heap.size) ((wb.alloc (.cells #[.int .i64 (Zw ak bk),.int .i64 (Zw al bl),.int .i64 (Zw an bn)] 3)).drew) (some ⟨wb.heap.size,0,none⟩) 3 [Zw ak bk,Zw al bl,Zw an bn] (Ints.drew (ZoG (W:=wb) [Zw ak bk,Zw al bl,Zw an bn] 3)) (by simp);have HOr:=Qh hor;have HV:=Qh (show Zaf ⟨ak,al,an⟩ ⟨bk,bl,bn⟩=orI [Zw ak bk,Zw al bl,Zw an bn] from rfl);clear hwb uA b1 b2 hor
 go_enter Tryz.func103,Tryz.ntmps103
 go_wp2;rw[HWB.out];refine wp_region_noPanic ?_;refine wp_region_held_drew (S:=(fun w'=>Upd No wb w')) (by kernel_rfl) ?_ (fun hHeld=> ?_)
 ·(first|exact(Upd.refl No _).drew|exact hHeld.trans hu3|exact hHeld.alloc _)
 refine wpK 0 rfl ?_;refine wpK 1 rfl ?_;refine wpK 2 rfl ?_;refine wpK 3 rfl ?_;refine wpK 5 rfl ?_;refine wpK 6 rfl ?_;refine wpK 7 rfl ?_;refine wpK 8 rfl ?_;refine wpK 10 rfl ?_;refine wpK 11 rfl ?_;refine wpK 12 rfl ?_;refine wpK 13 rfl ?_;refine wpR [4] ?_;refine wpC rfl (fun K hK=> ?_) AllReadyH.nil;go_simp
 (first
  |(go_at_call 129;refine(Zar _ _ _).mono ?_;rintro e w3 ⟨rfl,rfl⟩;have hu3:=hHeld))
 try (go_wp2_with fail)
 refine hK.out _ _ ?_ (fun hHeld=> ?_)
 ·(first|exact(Upd.refl No _).drew|exact hHeld.trans hu3|exact hHeld.alloc _)
 clear hK K
 try simp only[Act.put,sT,sS,sZ]
 refine wpR [9] ?_;refine wpC rfl (fun K hK=> ?_) AllReadyH.nil;go_simp
 (first
  |(go_at_call 129;refine(Zar _ _ _).mono ?_;rintro e w3 ⟨rfl,rfl⟩;have hu3:=hHeld))
 try (go_wp2_with fail)
 refine hK.out _ _ ?_ (fun hHeld=> ?_)
 ·(first|exact(Upd.refl No _).drew|exact hHeld.trans hu3|exact hHeld.alloc _)
 clear hK K
 try simp only[Act.put,sT,sS,sZ]
 refine wpR [14] ?_;refine wpC rfl (fun K hK=> ?_) AllReadyH.nil;go_simp
 (first
  |(go_at_call 129;refine(Zar _ _ _).mono ?_;rintro e w3 ⟨rfl,rfl⟩;have hu3:=hHeld))
 try (go_wp2_with fail)
 refine hK.out _ _ ?_ (fun hHeld=> ?_)
 ·(first|exact(Upd.refl No _).drew|exact hHeld.trans hu3|exact hHeld.alloc _)
 clear hK K
 try simp only[Act.put,sT,sS,sZ]
 refine wpR [15] ?_;refine wpC rfl (fun K hK=> ?_) AllReadyH.nil;go_simp;refine hK.out _ _ ?_ (fun hHeld=> ?_)
 ·(first|exact(Upd.refl No _).drew|exact hHeld.trans hu3|exact hHeld.alloc _)
 clear hK K
 try simp only[Act.put,sT,sS,sZ]
 refine wpR [16] ?_;refine wpC rfl (fun K hK=> ?_) AllReadyH.nil;go_simp
 (first
  |(go_at_call 174;refine(HOr.out).mono ?_;rintro e w3 ⟨rfl,hu3⟩))
 try (go_wp2_with fail)
 refine hK.out _ _ ?_ (fun hHeld=> ?_)
 ·(first|exact(Upd.refl No _).drew|exact hHeld.trans hu3|exact hHeld.alloc _)
 clear hK K
 try simp only[Act.put,sT,sS,sZ]
 refine wpK 17 rfl ?_;refine wpD (NoPanic.normal ?_);have HU:=Qh (UA.out.trans hHeld);clear hHeld;go_wp2
 go_ret
 exact⟨by rw[HV.out];rfl,HU.out⟩
end
/- Digraphs:where an end stands among others. -/
section
open Go.RowKit
def DEnds (F:Nat→Prop) (w:World) (A:Option Addr) (l:List DEnd):Prop:=Recs F w A 3 (l.map DEnd.cells)
theorem DEnds.at_ {F:Nat→Prop} {w:World} {A:Option Addr} {l:List DEnd} (h:DEnds F w A l) {k:Nat} (hk:k<l.length):∃ad,A=some ad∧
  w.cell? (ad.add (k*3))=some (.int .i64 l[k].kind)∧w.cell? ⟨(ad.add (k*3)).block,(ad.add (k*3)).off+1,none⟩=some (.int .i64 l[k].label)∧
  w.cell? ⟨(ad.add (k*3)).block,(ad.add (k*3)).off+2,none⟩=some (.int .i64 l[k].node):=by
 have hk':k<(l.map DEnd.cells).length:=by simpa using hk
 obtain⟨ad,e,_,_,hc⟩:=Recs.at_ h hk';rw[List.getElem_map]at hc;exact⟨ad,e,by simpa using hc 0 _ rfl,by simpa using hc 1 _ rfl,by simpa using hc 2 _ rfl⟩
theorem DEnds.upd {F S:Nat→Prop} {w w':World} {A:Option Addr} {l:List DEnd} (h:DEnds F w A l) (k:Upd S w w') (hn:∀i,F i→¬S i):DEnds F w' A l:=Recs.upd h k hn
def ZiY (l:List DEnd) (e:DEnd) (p:Nat):Prop:=p≤l.length∧∀k (hk:k<l.length),(Zaf l[k] e<0↔k<p)
def Zey (l:List DEnd) (e:DEnd) (p:Nat):Bool:=match l[p]? with|some x=>Zaf x e==0|none=>false
set_option maxRecDepth 100000 in
set_option maxHeartbeats 1000000 in
theorem Zpy (F:Nat→Prop) (w:World) (A:Option Addr) (c:Nat) (l:List DEnd) (e:DEnd) (p:Nat) (h:DEnds F w A l) (hl:l.length≤1000000) (hp:ZiY l e p):
  Calls Tryz.prog 102 #[.slice A l.length c,.agg e.cells.toArray,.func (.func 103) #[] #[]] w fun r w'=>r= .returned (.tuple #[.int .i64 (p:Int),.bool (Zey l e p)])∧Upd No w w':=by
 obtain⟨ek,el,en⟩:=e;unfold DEnd.cells;have bE:=Qh (Blk.new w 92 [.int .i64 ek,.int .i64 el,.int .i64 en]);have u0:=(Upd.refl No w).alloc (.cells #[.int .i64 ek,.int .i64 el,.int .i64 en] 92);have U0:=Qh u0;have hc:∀W (x:DEnd),Calls Tryz.prog 103 #[.agg #[.int .i64 x.kind,.int .i64 x.label,.int .i64 x.node],.agg #[.int .i64 ek,.int .i64 el,.int .i64 en]] W fun r w'=>r= .returned (.int .i64 (Zaf x ⟨ek,el,en⟩))∧Upd No W w':=fun W x=>Zo5 W x ⟨ek,el,en⟩
 have HC:=Qh hc;have HP:=Qh hp.2;have hp1:=hp.1;clear u0 hc hp
 go_enter Tryz.func102,Tryz.ntmps102
 go_wp2
 go_loopg [9,10] l.length (fun gk s9 s10 wr=>∃i j:Nat,i+gk=j∧s9= .int .i64 i∧s10= .int .i64 j∧i≤p∧p≤j∧j≤l.length∧Upd No (w.alloc (.cells #[.int .i64 ek,.int .i64 el,.int .i64 en] 92)) wr)
 case atStart=>exact⟨0,l.length,by omega,rfl,rfl,by omega,by omega,by omega,Upd.refl _ _⟩
 case round=>
  obtain⟨i,j,hgk,rfl,rfl,hi,hj,hjn,hu⟩:=hrel;have e0:∀W,Upd No wr W→W.cell? ⟨w.heap.size,0,none⟩=some (.int .i64 ek):=fun W hW=>(bE.out.upd (hu.trans hW) id).cell 0
  have e1:∀W,Upd No wr W→W.cell? ⟨w.heap.size,1,none⟩=some (.int .i64 el):=fun W hW=>(bE.out.upd (hu.trans hW) id).cell 1
  have e2:∀W,Upd No wr W→W.cell? ⟨w.heap.size,2,none⟩=some (.int .i64 en):=fun W hW=>(bE.out.upd (hu.trans hW) id).cell 2
  have hr:Upd No wr wr:=Upd.refl _ _
  by_cases hlt:i<j
  ·have b1:(i:Int)<(j:Int):=by omega
   have b2:(0:Int)≤(i:Int):=Qn _;have b3:(j:Int)≤1000000:=by omega
   obtain⟨m,hm⟩:∃m:Nat,(i+j)/2=m:=⟨_,rfl⟩;have hmi:((i:Int)+(j:Int))/2=(m:Int):=by omega
   have hm1:i≤m:=by omega
   have hm2:m<j:=by omega
   have hml:m<l.length:=by omega
   have b4:(0:Int)≤(m:Int):=Qn _;have b5:(m:Int)<(l.length:Int):=by omega
   obtain⟨ad,hA,_⟩:=(h.upd (U0.out.trans hu) (fun _ _=>id)).at_ hml;have hq:=fun W (hW:Upd No wr W)=>(h.upd (U0.out.trans (hu.trans hW)) (fun _ _=>id)).at_ hml
   obtain⟨x,hx⟩:∃x,l[m]=x:=⟨_,rfl⟩;rw[hx]at hq
   have q0:∀W,Upd No wr W→W.cell? (ad.add (m*3))=some (.int .i64 x.kind):=fun W hW=>by
    obtain⟨ad',e,c0,_⟩:=hq W hW;rw[hA]at e
    cases e
    exact c0
   have q1:∀W,Upd No wr W→W.cell? ⟨(ad.add (m*3)).block,(ad.add (m*3)).off+1,none⟩=some (.int .i64 x.label):=fun W hW=>by
    obtain⟨ad',e,_,c1,_⟩:=hq W hW;rw[hA]at e
    cases e
    exact c1
   have q2:∀W,Upd No wr W→W.cell? ⟨(ad.add (m*3)).block,(ad.add (m*3)).off+2,none⟩=some (.int .i64 x.node):=fun W hW=>by
    obtain⟨ad',e,_,_,c2⟩:=hq W hW;rw[hA]at e
    cases e
    exact c2
   have hpx:=HP.out m hml;rw[hx]at hpx;subst hA;clear hq hx hm
   by_cases hlt2:Zaf x ⟨ek,el,en⟩<0
   ·have hmp:=hpx.1 hlt2;have hd:decide (Zaf x ⟨ek,el,en⟩<0)=true:=decide_eq_true hlt2;clear hpx hlt2;go_wp2;refine wp_region_noPanic ?_;refine wp_region_held_drew (S:=(fun w'=>Upd No wr w')) (by kernel_rfl) ?_ (fun hHeld=> ?_)
    ·(first|exact(Upd.refl No _).drew|exact hHeld.trans hu3)
    refine wpK 0 rfl ?_;refine wpK 1 rfl ?_;refine wpK 2 rfl ?_;refine wpK 3 rfl ?_;refine wpK 4 rfl ?_;refine wpK 5 rfl ?_;refine wpR [6] ?_;refine wpC rfl (fun K hK=> ?_) AllReadyH.nil;go_simp
    (first
  |(go_at_call 103;refine(HC.out _ x).mono ?_;rintro e w3 ⟨rfl,hu3⟩))
    try (go_wp2_with fail)
    refine hK.out _ _ ?_ (fun hHeld=> ?_)
    ·(first|exact(Upd.refl No _).drew|exact hHeld.trans hu3)
    clear hK K
    try simp only[Act.put,sT,sS,sZ]
    refine wpK 7 rfl ?_;refine wpD (NoPanic.normal ?_);have HU:=Qh (hu.trans hHeld);clear hHeld q0 q1 q2 e0 e1 e2;go_wp2
    go_roundg (j-(m+1))
    case measure=>omega
    case rel=>exact⟨m+1,j,by omega,by go_num,rfl,by omega,by omega,by omega,HU.out⟩
   ·have hmp:¬m<p:=fun e=>hlt2 (hpx.2 e)
    have hd:decide (Zaf x ⟨ek,el,en⟩<0)=false:=decide_eq_false hlt2;clear hpx hlt2;go_wp2;refine wp_region_noPanic ?_;refine wp_region_held_drew (S:=(fun w'=>Upd No wr w')) (by kernel_rfl) ?_ (fun hHeld=> ?_)
    ·(first|exact(Upd.refl No _).drew|exact hHeld.trans hu3)
    refine wpK 0 rfl ?_;refine wpK 1 rfl ?_;refine wpK 2 rfl ?_;refine wpK 3 rfl ?_;refine wpK 4 rfl ?_;refine wpK 5 rfl ?_;refine wpR [6] ?_;refine wpC rfl (fun K hK=> ?_) AllReadyH.nil;go_simp
    (first
  |(go_at_call 103;refine(HC.out _ x).mono ?_;rintro e w3 ⟨rfl,hu3⟩))
    try (go_wp2_with fail)
    refine hK.out _ _ ?_ (fun hHeld=> ?_)
    ·(first|exact(Upd.refl No _).drew|exact hHeld.trans hu3)
    clear hK K
    try simp only[Act.put,sT,sS,sZ]
    refine wpK 7 rfl ?_;refine wpD (NoPanic.normal ?_);have HU:=Qh (hu.trans hHeld);clear hHeld q0 q1 q2 e0 e1 e2;go_wp2
    go_roundg (m-i)
    case measure=>omega
    case rel=>exact⟨i,m,by omega,rfl,by go_num,by omega,by omega,by omega,HU.out⟩
  ·have hip:i=p:=by omega
   have hjp:j=p:=by omega
   subst hip;subst hjp
   by_cases hpn:j<l.length
   ·obtain⟨ad,hA,_⟩:=(h.upd (U0.out.trans hu) (fun _ _=>id)).at_ hpn;have hq:=fun W (hW:Upd No wr W)=>(h.upd (U0.out.trans (hu.trans hW)) (fun _ _=>id)).at_ hpn
    obtain⟨x,hx⟩:∃x,l[j]=x:=⟨_,rfl⟩;rw[hx]at hq
    have q0:∀W,Upd No wr W→W.cell? (ad.add (j*3))=some (.int .i64 x.kind):=fun W hW=>by
     obtain⟨ad',e,c0,_⟩:=hq W hW;rw[hA]at e
     cases e
     exact c0
    have q1:∀W,Upd No wr W→W.cell? ⟨(ad.add (j*3)).block,(ad.add (j*3)).off+1,none⟩=some (.int .i64 x.label):=fun W hW=>by
     obtain⟨ad',e,_,c1,_⟩:=hq W hW;rw[hA]at e
     cases e
     exact c1
    have q2:∀W,Upd No wr W→W.cell? ⟨(ad.add (j*3)).block,(ad.add (j*3)).off+2,none⟩=some (.int .i64 x.node):=fun W hW=>by
     obtain⟨ad',e,_,_,c2⟩:=hq W hW;rw[hA]at e
     cases e
     exact c2
    have HV:=Qh (show Zey l ⟨ek,el,en⟩ j=(Zaf x ⟨ek,el,en⟩==0) by unfold Zey;rw[Qg hpn,hx]);have b1:(j:Int)<(l.length:Int):=by omega
    have b2:(0:Int)≤(j:Int):=Qn _;have hpd:decide (j<l.length)=true:=decide_eq_true hpn;have hlt':¬(j:Int)<(j:Int):=by omega
    subst hA;clear hq hx;go_wp2;refine wp_region_noPanic ?_;refine wp_region_held_drew (S:=(fun w'=>Upd No wr w')) (by kernel_rfl) ?_ (fun hHeld=> ?_)
    ·(first|exact(Upd.refl No _).drew|exact hHeld.trans hu3)
    refine wpK 0 rfl ?_;refine wpK 1 rfl ?_;refine wpK 2 rfl ?_;refine wpK 3 rfl ?_;refine wpK 4 rfl ?_;refine wpK 5 rfl ?_;refine wpK 6 rfl ?_;refine wpK 7 rfl ?_;refine wpK 8 rfl ?_;refine wpK 9 rfl ?_;refine wpK 10 rfl ?_;refine wpR [11] ?_;refine wpC rfl (fun K hK=> ?_) AllReadyH.nil;go_simp
    (first
  |(go_at_call 103;refine(HC.out _ x).mono ?_;rintro e w3 ⟨rfl,hu3⟩))
    try (go_wp2_with fail)
    refine hK.out _ _ ?_ (fun hHeld=> ?_)
    ·(first|exact(Upd.refl No _).drew|exact hHeld.trans hu3)
    clear hK K
    try simp only[Act.put,sT,sS,sZ]
    refine wpK 12 rfl ?_;refine wpK 13 rfl ?_;refine wpK 14 rfl ?_;refine wpK 15 rfl ?_;refine wpD (NoPanic.normal ?_);have HU:=Qh (U0.out.trans (hu.trans hHeld));clear hHeld;go_wp2
    go_ret2
    exact⟨by rw[HV.out];rfl,HU.out⟩
   ·have HV:=Qh (show Zey l ⟨ek,el,en⟩ j=false by unfold Zey;rw[List.getElem?_eq_none (by omega)]);have b1:¬(j:Int)<(l.length:Int):=by omega
    have hpd:decide (j<l.length)=false:=decide_eq_false hpn;have hlt':¬(j:Int)<(j:Int):=by omega
    clear hpn;go_wp2;refine wp_region_noPanic ?_;refine wp_region_held_drew (S:=(fun w'=>Upd No wr w')) (by kernel_rfl) ?_ (fun hHeld=> ?_)
    ·(first|exact(Upd.refl No _).drew|exact hHeld.trans hu3)
    refine wpK 0 rfl ?_;refine wpK 1 rfl ?_;refine wpK 2 rfl ?_;refine wpK 3 rfl ?_;refine wpK 4 rfl ?_;refine wpN 5 rfl ?_;refine wpN 6 rfl ?_;refine wpN 7 rfl ?_;refine wpN 8 rfl ?_;refine wpN 9 rfl ?_;refine wpN 10 rfl ?_;refine wpR [11] ?_;refine wpC rfl (fun K hK=> ?_) AllReadyH.nil;go_simp;refine hK.out _ _ ?_ (fun hHeld=> ?_)
    ·exact hHeld
    clear hK K
    try simp only[Act.put,sT,sS,sZ]
    refine wpN 12 rfl ?_;refine wpK 13 rfl ?_;refine wpK 14 rfl ?_;refine wpK 15 rfl ?_;refine wpD (NoPanic.normal ?_);have HU:=Qh (U0.out.trans (hu.trans hHeld));clear hHeld;go_wp2
    go_ret2
    exact⟨by rw[HV.out];rfl,HU.out⟩
end
/- Walks:simple by the program;the bits of their kinds,by the program and by the document. -/
section
open Go.RowKit
section
variable {α:Type} [DecidableEq α]
theorem Zgl (a:α):∀(m:List (α×Value)) (i:Nat),look a m i=none↔a∉m.map (·.1)
 |[],i=>by simp[look]
 |p::m,i=>by
  unfold look
  by_cases h:a=p.1
  ·simp[h]
  ·simp only[List.map_cons,List.mem_cons,h,if_false,false_or];exact Zgl a m (i+1)
theorem Ze2 (m:List (α×Value)) (a:α) (v:Value):(Zk m a v).map (·.1)=if a∈m.map (·.1) then m.map (·.1) else m.map (·.1)++[a]:=by
 unfold Zk
 cases h:look a m 0 with
 |none=>
  rw[if_neg ((Zgl a m 0).1 h),List.map_append];rfl
 |some r=>
  rw[if_pos (by
   rcases Classical.em (a∈m.map (·.1))with h'|h'
   ·exact h'
   ·rw[(Zgl a m 0).2 h']at h;cases h)]
  apply List.ext_getElem?
  intro j;simp only[List.getElem?_map,List.getElem?_modify]
  cases m[j]? with
  |none=>simp
  |some p=>by_cases hj:r.1=j<;>simp[hj]
end
theorem Zz:KeyBy Tryz.prog 3 (fun n:Int=>Value.int .i64 n):=KeyBy.int_ Tryz.underlying3
def ZrE (a b c:Bool):Int:=(if a then 2 else 0)+(if b then 4 else 0)+(if c then 8 else 0)
def ZoS (l:List Edge) (n:Nat) (k:Int):Bool:=(l.take n).any fun e=>e.k==k
def Zrl (l:List Edge):Int:=ZrE (ZoS l l.length 1) (ZoS l l.length 2) (ZoS l l.length 3)
end
/- The document on one transaction:what it needs of others. -/
section
open Go.RowKit
def VersR (F:Nat→Prop) (w:World) (A:Option Addr) (l:List Ver):Prop:=Recs F w A 3 (l.map Ver.cells)
theorem VersR.at_ {F:Nat→Prop} {w:World} {A:Option Addr} {l:List Ver} (h:VersR F w A l) {k:Nat} (hk:k<l.length):∃ad,A=some ad∧
  w.cell? (ad.add (k*3))=some (.int .i64 l[k].tx)∧w.cell? ⟨(ad.add (k*3)).block,(ad.add (k*3)).off+1,none⟩=some (.int .i64 l[k].key)∧
  w.cell? ⟨(ad.add (k*3)).block,(ad.add (k*3)).off+2,none⟩=some (.int .i64 l[k].nth):=by
 have hk':k<(l.map Ver.cells).length:=by simpa using hk
 obtain⟨ad,e,_,_,hc⟩:=Recs.at_ h hk';rw[List.getElem_map]at hc;exact⟨ad,e,by simpa using hc 0 _ rfl,by simpa using hc 1 _ rfl,by simpa using hc 2 _ rfl⟩
theorem VersR.upd {F S:Nat→Prop} {w w':World} {A:Option Addr} {l:List Ver} (h:VersR F w A l) (k:Upd S w w') (hn:∀i,F i→¬S i):VersR F w' A l:=Recs.upd h k hn
end
/- A walk's text:the document's. -/
section
open Go.RowKit
def Edge.ok (e:Edge):Prop:=(-9223372036854775808≤e.f∧e.f≤9223372036854775807)∧(-9223372036854775808≤e.t∧e.t≤9223372036854775807)∧(-9223372036854775808≤e.key∧e.key≤9223372036854775807)
end
end Go.Proofs.YtonblekdfinpkaaGreat
