/- Edges held against one another: by the program and by the document. -/
import Derived.Test.YtfcefnpnomlgbaaProg
import Derived.Sort.Grow
import Derived.IntWalk
import Derived.Test.YtfcefnpnomlgbaaMag
import Derived.Test.YtfcefnpnomlgbaaMaj
import Derived.Test.YtfcefnpnomlgbaaMal
namespace Go.Proofs.Ytfcefnpnomlgbaa
set_option linter.unusedSimpArgs false
set_option linter.unusedVariables false
open Go.RowKit
def Zp (a b:Int):Int:=if a<b then -1 else if b<a then 1 else 0
theorem ZbK (w:World) (n:Int):Calls Try.prog 85 #[.int .i64 n] w fun e w'=>e= .returned (.bool false)∧w=w':=by
 have hb:(n != n)=false:=by simp
 go_enter Try.func85,Try.ntmps85
 go_wp2
 go_ret
 exact⟨rfl,rfl⟩
theorem ZdB (w:World) (a b:Int):Calls Try.prog 72 #[.int .i64 a,.int .i64 b] w fun e w'=>e= .returned (.int .i64 (Zp a b))∧w=w':=by
 by_cases h1:a<b
 ·have H:=Lib.hid (show Zp a b= -1 by unfold Zp;rw[if_pos h1])
  go_enter Try.func72,Try.ntmps72
  go_wp2_with fail
  refine(ZbK _ _).mono ?_
  rintro e w' ⟨rfl,rfl⟩
  go_wp2_with fail
  refine(ZbK _ _).mono ?_
  rintro e w' ⟨rfl,rfl⟩
  go_wp2
  go_ret
  exact⟨by rw[H.out];rfl,rfl⟩
 ·by_cases h2:b<a
  ·have H:=Lib.hid (show Zp a b=1 by unfold Zp;rw[if_neg h1,if_pos h2])
   go_enter Try.func72,Try.ntmps72
   go_wp2_with fail
   refine(ZbK _ _).mono ?_
   rintro e w' ⟨rfl,rfl⟩
   go_wp2_with fail
   refine(ZbK _ _).mono ?_
   rintro e w' ⟨rfl,rfl⟩
   go_wp2
   go_ret
   exact⟨by rw[H.out];rfl,rfl⟩
  ·have H:=Lib.hid (show Zp a b=0 by unfold Zp;rw[if_neg h1,if_neg h2])
   go_enter Try.func72,Try.ntmps72
   go_wp2_with fail
   refine(ZbK _ _).mono ?_
   rintro e w' ⟨rfl,rfl⟩
   go_wp2_with fail
   refine(ZbK _ _).mono ?_
   rintro e w' ⟨rfl,rfl⟩
   go_wp2
   go_ret
   exact⟨by rw[H.out];rfl,rfl⟩
def Grw (w w':World):Prop:=∃q os',w'=Sort.grow (w.drewN q) os'
theorem Grw.refl (w:World):Grw w w:=⟨0,#[],by unfold Sort.grow World.drewN;simp⟩
theorem Grw.alloc {w w':World} (h:Grw w w') (o:Obj):Grw w (w'.alloc o):=by
 obtain⟨q,os',rfl⟩:=h
 exact⟨q,os'.push o,by unfold Sort.grow World.drewN World.alloc;simp⟩
theorem Grw.drewN {w w':World} (h:Grw w w') (n:Nat):Grw w (w'.drewN n):=by
 obtain⟨q,os',rfl⟩:=h
 exact⟨q+n,os',by unfold Sort.grow World.drewN;simp[Nat.add_assoc]⟩
theorem Grw.upd {w w':World} (h:Grw w w'):Upd No w w':=by
 obtain⟨q,os',rfl⟩:=h
 exact⟨rfl,rfl,rfl,by unfold Sort.grow World.drewN;simp,fun k hk _=>by unfold Sort.grow World.drewN;simp[Array.getElem?_append_left hk]⟩
end Go.Proofs.Ytfcefnpnomlgbaa
/- Digraphs:ends held against one another. -/
namespace Go.Proofs.Ytfcefnpnomlgbaa
set_option linter.unusedSimpArgs false
set_option linter.unusedVariables false
open Go.RowKit
structure DEnd where
 kind:Int
 label:Int
 node:Int
deriving DecidableEq
def DEnd.cells (e:DEnd):List Value:=[.int .i64 e.kind,.int .i64 e.label,.int .i64 e.node]
def orI:List Int→Int
 |[]=>0
 |x::l=>if x=0 then orI l else x
theorem ZbW (x:Int) (l:List Int):orI (x::l)=if x=0 then orI l else x:=rfl
set_option maxRecDepth 100000 in
theorem ZgM (F:Nat→Prop) (w:World) (A:Option Addr) (c:Nat) (l:List Int) (h:Ints F w A l) (hl:l.length≤1000000):
  Calls Try.prog 71 #[.slice A l.length c] w fun e w'=>e= .returned (.int .i64 (orI l))∧Upd No w w':=by
 go_enter Try.func71,Try.ntmps71
 go_wp2
 go_loopg [8] l.length (fun gk i wr=>∃k:Nat,k+gk=l.length∧i= .int .i64 k∧Hid (orI (l.drop k)=orI l)∧Upd No w wr)
 case atStart=>exact⟨0,by omega,rfl,Lib.hid rfl,Upd.refl _ _⟩
 case round=>
  obtain⟨k,hgk,rfl,hs,hu⟩:=hrel
  by_cases hlt:k<l.length
  ·obtain⟨ad,hA,_,_,hc⟩:=(h.upd hu (fun _ _=>id)).at_ hlt
   obtain⟨y,hy⟩:∃y,l[k]=y:=⟨_,rfl⟩
   rw[hy]at hc
   subst hA
   have X:=Lib.hid (show l.drop k=y::l.drop (k+1) by rw[←hy];exact List.drop_eq_getElem_cons hlt)
   clear hy
   have b1:(0:Int)≤(k:Int):=Int.natCast_nonneg _
   have b2:(k:Int)<(l.length:Int):=by omega
   have hst:=hs.out
   rw[X.out,ZbW]at hst
   by_cases he:y=0
   ·have heb:(y != 0)=false:=by rw[he];rfl
    rw[if_pos he]at hst
    have HS:=Lib.hid hst
    clear hst he
    go_wp2
    go_roundg (gk-1)
    case measure=>omega
    case rel=>exact⟨k+1,by omega,by go_num,HS,hu⟩
   ·have heb:(y != 0)=true:=by rw[bne_iff_ne];exact he
    rw[if_neg he]at hst
    have HS:=Lib.hid hst
    clear hst he
    go_wp2
    go_ret
    exact⟨by rw[←HS.out];rfl,hu⟩
  ·obtain rfl:k=l.length:=by omega
   have HS:=Lib.hid (show(0:Int)=orI l by rw[←hs.out,List.drop_length];rfl)
   go_wp2
   go_ret
   exact⟨by rw[←HS.out];rfl,hu⟩
def Zm (a b:DEnd):Int:=orI [Zp a.kind b.kind,Zp a.label b.label,Zp a.node b.node]
set_option maxRecDepth 100000 in
theorem Zfr (w:World) (a b:DEnd):Calls Try.prog 52 #[.agg a.cells.toArray,.agg b.cells.toArray] w fun e w'=>e= .returned (.int .i64 (Zm a b))∧Upd No w w':=by
 obtain⟨ak,al,an⟩:=a
 obtain⟨bk,bl,bn⟩:=b
 unfold DEnd.cells
 have b1:=(Blk.new w 72 [.int .i64 ak,.int .i64 al,.int .i64 an]).alloc (.cells #[.int .i64 bk,.int .i64 bl,.int .i64 bn] 72)
 have b2:=Blk.new (w.alloc (.cells #[.int .i64 ak,.int .i64 al,.int .i64 an] 72)) 72 [.int .i64 bk,.int .i64 bl,.int .i64 bn]
 simp only[World.size_alloc]at b2
 have uA:=((Upd.refl No w).alloc (.cells #[.int .i64 ak,.int .i64 al,.int .i64 an] 72)).alloc (.cells #[.int .i64 bk,.int .i64 bl,.int .i64 bn] 72)
 obtain⟨wb,hwb⟩:∃wb,(w.alloc (.cells #[.int .i64 ak,.int .i64 al,.int .i64 an] 72)).alloc (.cells #[.int .i64 bk,.int .i64 bl,.int .i64 bn] 72)=wb:=⟨_,rfl⟩
 rw[hwb]at b1 b2 uA
 have a0:∀W,Upd No wb W→W.cell? ⟨w.heap.size,0,none⟩=some (.int .i64 ak):=fun W hW=>(b1.upd hW id).cell 0
 have a1:∀W,Upd No wb W→W.cell? ⟨w.heap.size,1,none⟩=some (.int .i64 al):=fun W hW=>(b1.upd hW id).cell 1
 have a2:∀W,Upd No wb W→W.cell? ⟨w.heap.size,2,none⟩=some (.int .i64 an):=fun W hW=>(b1.upd hW id).cell 2
 have c0:∀W,Upd No wb W→W.cell? ⟨w.heap.size+1,0,none⟩=some (.int .i64 bk):=fun W hW=>(b2.upd hW id).cell 0
 have c1:∀W,Upd No wb W→W.cell? ⟨w.heap.size+1,1,none⟩=some (.int .i64 bl):=fun W hW=>(b2.upd hW id).cell 1
 have c2:∀W,Upd No wb W→W.cell? ⟨w.heap.size+1,2,none⟩=some (.int .i64 bn):=fun W hW=>(b2.upd hW id).cell 2
 have HWB:=Lib.hid hwb
 have UA:=Lib.hid uA
 have hor:=ZgM (fun i=>i=wb.heap.size) ((wb.alloc (.cells #[.int .i64 (Zp ak bk),.int .i64 (Zp al bl),.int .i64 (Zp an bn)] 3)).drew) (some ⟨wb.heap.size,0,none⟩) 3 [Zp ak bk,Zp al bl,Zp an bn] (Ints.drew (Zar (W:=wb) [Zp ak bk,Zp al bl,Zp an bn] 3)) (by simp)
 have HOr:=Lib.hid hor
 have HV:=Lib.hid (show Zm ⟨ak,al,an⟩ ⟨bk,bl,bn⟩=orI [Zp ak bk,Zp al bl,Zp an bn] from rfl)
 clear hwb uA b1 b2 hor
 go_enter Try.func52,Try.ntmps52
 go_wp2
 rw[HWB.out]
 refine wp_region_noPanic ?_
 refine wp_region_held_drew (S:=(fun w'=>Upd No wb w')) (by kernel_rfl) ?_ (fun hHeld=> ?_)
 ·(first|exact(Upd.refl No _).drew|exact hHeld.trans hu3|exact hHeld.alloc _)
 refine wpK 0 rfl ?_
 refine wpK 1 rfl ?_
 refine wpK 2 rfl ?_
 refine wpK 3 rfl ?_
 refine wpK 5 rfl ?_
 refine wpK 6 rfl ?_
 refine wpK 7 rfl ?_
 refine wpK 8 rfl ?_
 refine wpK 10 rfl ?_
 refine wpK 11 rfl ?_
 refine wpK 12 rfl ?_
 refine wpK 13 rfl ?_
 refine wpR [4] ?_
 refine wpC rfl (fun K hK=> ?_) AllReadyH.nil
 go_simp
 (first
  |(go_at_call 72;refine(ZdB _ _ _).mono ?_;rintro e w3 ⟨rfl,rfl⟩;have hu3:=hHeld))
 try (go_wp2_with fail)
 refine hK.out _ _ ?_ (fun hHeld=> ?_)
 ·(first|exact(Upd.refl No _).drew|exact hHeld.trans hu3|exact hHeld.alloc _)
 clear hK K
 try simp only[Act.put,sT,sS,sZ]
 refine wpR [9] ?_
 refine wpC rfl (fun K hK=> ?_) AllReadyH.nil
 go_simp
 (first
  |(go_at_call 72;refine(ZdB _ _ _).mono ?_;rintro e w3 ⟨rfl,rfl⟩;have hu3:=hHeld))
 try (go_wp2_with fail)
 refine hK.out _ _ ?_ (fun hHeld=> ?_)
 ·(first|exact(Upd.refl No _).drew|exact hHeld.trans hu3|exact hHeld.alloc _)
 clear hK K
 try simp only[Act.put,sT,sS,sZ]
 refine wpR [14] ?_
 refine wpC rfl (fun K hK=> ?_) AllReadyH.nil
 go_simp
 (first
  |(go_at_call 72;refine(ZdB _ _ _).mono ?_;rintro e w3 ⟨rfl,rfl⟩;have hu3:=hHeld))
 try (go_wp2_with fail)
 refine hK.out _ _ ?_ (fun hHeld=> ?_)
 ·(first|exact(Upd.refl No _).drew|exact hHeld.trans hu3|exact hHeld.alloc _)
 clear hK K
 try simp only[Act.put,sT,sS,sZ]
 refine wpR [15] ?_
 refine wpC rfl (fun K hK=> ?_) AllReadyH.nil
 go_simp
 refine hK.out _ _ ?_ (fun hHeld=> ?_)
 ·(first|exact(Upd.refl No _).drew|exact hHeld.trans hu3|exact hHeld.alloc _)
 clear hK K
 try simp only[Act.put,sT,sS,sZ]
 refine wpR [16] ?_
 refine wpC rfl (fun K hK=> ?_) AllReadyH.nil
 go_simp
 (first
  |(go_at_call 71;refine(HOr.out).mono ?_;rintro e w3 ⟨rfl,hu3⟩))
 try (go_wp2_with fail)
 refine hK.out _ _ ?_ (fun hHeld=> ?_)
 ·(first|exact(Upd.refl No _).drew|exact hHeld.trans hu3|exact hHeld.alloc _)
 clear hK K
 try simp only[Act.put,sT,sS,sZ]
 refine wpK 17 rfl ?_
 refine wpD (NoPanic.normal ?_)
 have HU:=Lib.hid (UA.out.trans hHeld)
 clear hHeld
 go_wp2
 go_ret
 exact⟨by rw[HV.out];rfl,HU.out⟩
end Go.Proofs.Ytfcefnpnomlgbaa
/- Digraphs:where an end stands among others. -/
namespace Go.Proofs.Ytfcefnpnomlgbaa
set_option linter.unusedSimpArgs false
set_option linter.unusedVariables false
open Go.RowKit
def DEnds (F:Nat→Prop) (w:World) (A:Option Addr) (l:List DEnd):Prop:=Recs F w A 3 (l.map DEnd.cells)
theorem DEnds.at_ {F:Nat→Prop} {w:World} {A:Option Addr} {l:List DEnd} (h:DEnds F w A l) {k:Nat} (hk:k<l.length):∃ad,A=some ad∧
  w.cell? (ad.add (k*3))=some (.int .i64 l[k].kind)∧w.cell? ⟨(ad.add (k*3)).block,(ad.add (k*3)).off+1,none⟩=some (.int .i64 l[k].label)∧
  w.cell? ⟨(ad.add (k*3)).block,(ad.add (k*3)).off+2,none⟩=some (.int .i64 l[k].node):=by
 have hk':k<(l.map DEnd.cells).length:=by simpa using hk
 obtain⟨ad,e,_,_,hc⟩:=Recs.at_ h hk'
 rw[List.getElem_map]at hc
 exact⟨ad,e,by simpa using hc 0 _ rfl,by simpa using hc 1 _ rfl,by simpa using hc 2 _ rfl⟩
theorem DEnds.upd {F S:Nat→Prop} {w w':World} {A:Option Addr} {l:List DEnd} (h:DEnds F w A l) (k:Upd S w w') (hn:∀i,F i→¬S i):DEnds F w' A l:=Recs.upd h k hn
def Zc3 (l:List DEnd) (e:DEnd) (p:Nat):Prop:=p≤l.length∧∀k (hk:k<l.length),(Zm l[k] e<0↔k<p)
def Zbn (l:List DEnd) (e:DEnd) (p:Nat):Bool:=match l[p]? with|some x=>Zm x e==0|none=>false
set_option maxRecDepth 100000 in
set_option maxHeartbeats 1000000 in
theorem ZfH (F:Nat→Prop) (w:World) (A:Option Addr) (c:Nat) (l:List DEnd) (e:DEnd) (p:Nat) (h:DEnds F w A l) (hl:l.length≤1000000) (hp:Zc3 l e p):
  Calls Try.prog 51 #[.slice A l.length c,.agg e.cells.toArray,.func (.func 52) #[] #[]] w fun r w'=>r= .returned (.tuple #[.int .i64 (p:Int),.bool (Zbn l e p)])∧Upd No w w':=by
 obtain⟨ek,el,en⟩:=e
 unfold DEnd.cells
 have bE:=Lib.hid (Blk.new w 72 [.int .i64 ek,.int .i64 el,.int .i64 en])
 have u0:=(Upd.refl No w).alloc (.cells #[.int .i64 ek,.int .i64 el,.int .i64 en] 72)
 have U0:=Lib.hid u0
 have hc:∀W (x:DEnd),Calls Try.prog 52 #[.agg #[.int .i64 x.kind,.int .i64 x.label,.int .i64 x.node],.agg #[.int .i64 ek,.int .i64 el,.int .i64 en]] W fun r w'=>r= .returned (.int .i64 (Zm x ⟨ek,el,en⟩))∧Upd No W w':=fun W x=>Zfr W x ⟨ek,el,en⟩
 have HC:=Lib.hid hc
 have HP:=Lib.hid hp.2
 have hp1:=hp.1
 clear u0 hc hp
 go_enter Try.func51,Try.ntmps51
 go_wp2
 go_loopg [9,10] l.length (fun gk s9 s10 wr=>∃i j:Nat,i+gk=j∧s9= .int .i64 i∧s10= .int .i64 j∧i≤p∧p≤j∧j≤l.length∧Upd No (w.alloc (.cells #[.int .i64 ek,.int .i64 el,.int .i64 en] 72)) wr)
 case atStart=>exact⟨0,l.length,by omega,rfl,rfl,by omega,by omega,by omega,Upd.refl _ _⟩
 case round=>
  obtain⟨i,j,hgk,rfl,rfl,hi,hj,hjn,hu⟩:=hrel
  have e0:∀W,Upd No wr W→W.cell? ⟨w.heap.size,0,none⟩=some (.int .i64 ek):=fun W hW=>(bE.out.upd (hu.trans hW) id).cell 0
  have e1:∀W,Upd No wr W→W.cell? ⟨w.heap.size,1,none⟩=some (.int .i64 el):=fun W hW=>(bE.out.upd (hu.trans hW) id).cell 1
  have e2:∀W,Upd No wr W→W.cell? ⟨w.heap.size,2,none⟩=some (.int .i64 en):=fun W hW=>(bE.out.upd (hu.trans hW) id).cell 2
  have hr:Upd No wr wr:=Upd.refl _ _
  by_cases hlt:i<j
  ·have b1:(i:Int)<(j:Int):=by omega
   have b2:(0:Int)≤(i:Int):=Int.natCast_nonneg _
   have b3:(j:Int)≤1000000:=by omega
   obtain⟨m,hm⟩:∃m:Nat,(i+j)/2=m:=⟨_,rfl⟩
   have hmi:((i:Int)+(j:Int))/2=(m:Int):=by omega
   have hm1:i≤m:=by omega
   have hm2:m<j:=by omega
   have hml:m<l.length:=by omega
   have b4:(0:Int)≤(m:Int):=Int.natCast_nonneg _
   have b5:(m:Int)<(l.length:Int):=by omega
   obtain⟨ad,hA,_⟩:=(h.upd (U0.out.trans hu) (fun _ _=>id)).at_ hml
   have hq:=fun W (hW:Upd No wr W)=>(h.upd (U0.out.trans (hu.trans hW)) (fun _ _=>id)).at_ hml
   obtain⟨x,hx⟩:∃x,l[m]=x:=⟨_,rfl⟩
   rw[hx]at hq
   have q0:∀W,Upd No wr W→W.cell? (ad.add (m*3))=some (.int .i64 x.kind):=fun W hW=>by
    obtain⟨ad',e,c0,_⟩:=hq W hW
    rw[hA]at e
    cases e
    exact c0
   have q1:∀W,Upd No wr W→W.cell? ⟨(ad.add (m*3)).block,(ad.add (m*3)).off+1,none⟩=some (.int .i64 x.label):=fun W hW=>by
    obtain⟨ad',e,_,c1,_⟩:=hq W hW
    rw[hA]at e
    cases e
    exact c1
   have q2:∀W,Upd No wr W→W.cell? ⟨(ad.add (m*3)).block,(ad.add (m*3)).off+2,none⟩=some (.int .i64 x.node):=fun W hW=>by
    obtain⟨ad',e,_,_,c2⟩:=hq W hW
    rw[hA]at e
    cases e
    exact c2
   have hpx:=HP.out m hml
   rw[hx]at hpx
   subst hA
   clear hq hx hm
   by_cases hlt2:Zm x ⟨ek,el,en⟩<0
   ·have hmp:=hpx.1 hlt2
    have hd:decide (Zm x ⟨ek,el,en⟩<0)=true:=decide_eq_true hlt2
    clear hpx hlt2
    go_wp2
    refine wp_region_noPanic ?_
    refine wp_region_held_drew (S:=(fun w'=>Upd No wr w')) (by kernel_rfl) ?_ (fun hHeld=> ?_)
    ·(first|exact(Upd.refl No _).drew|exact hHeld.trans hu3)
    refine wpK 0 rfl ?_
    refine wpK 1 rfl ?_
    refine wpK 2 rfl ?_
    refine wpK 3 rfl ?_
    refine wpK 4 rfl ?_
    refine wpK 5 rfl ?_
    refine wpR [6] ?_
    refine wpC rfl (fun K hK=> ?_) AllReadyH.nil
    go_simp
    (first
  |(go_at_call 52;refine(HC.out _ x).mono ?_;rintro e w3 ⟨rfl,hu3⟩))
    try (go_wp2_with fail)
    refine hK.out _ _ ?_ (fun hHeld=> ?_)
    ·(first|exact(Upd.refl No _).drew|exact hHeld.trans hu3)
    clear hK K
    try simp only[Act.put,sT,sS,sZ]
    refine wpK 7 rfl ?_
    refine wpD (NoPanic.normal ?_)
    have HU:=Lib.hid (hu.trans hHeld)
    clear hHeld q0 q1 q2 e0 e1 e2
    go_wp2
    go_roundg (j-(m+1))
    case measure=>omega
    case rel=>exact⟨m+1,j,by omega,by go_num,rfl,by omega,by omega,by omega,HU.out⟩
   ·have hmp:¬m<p:=fun e=>hlt2 (hpx.2 e)
    have hd:decide (Zm x ⟨ek,el,en⟩<0)=false:=decide_eq_false hlt2
    clear hpx hlt2
    go_wp2
    refine wp_region_noPanic ?_
    refine wp_region_held_drew (S:=(fun w'=>Upd No wr w')) (by kernel_rfl) ?_ (fun hHeld=> ?_)
    ·(first|exact(Upd.refl No _).drew|exact hHeld.trans hu3)
    refine wpK 0 rfl ?_
    refine wpK 1 rfl ?_
    refine wpK 2 rfl ?_
    refine wpK 3 rfl ?_
    refine wpK 4 rfl ?_
    refine wpK 5 rfl ?_
    refine wpR [6] ?_
    refine wpC rfl (fun K hK=> ?_) AllReadyH.nil
    go_simp
    (first
  |(go_at_call 52;refine(HC.out _ x).mono ?_;rintro e w3 ⟨rfl,hu3⟩))
    try (go_wp2_with fail)
    refine hK.out _ _ ?_ (fun hHeld=> ?_)
    ·(first|exact(Upd.refl No _).drew|exact hHeld.trans hu3)
    clear hK K
    try simp only[Act.put,sT,sS,sZ]
    refine wpK 7 rfl ?_
    refine wpD (NoPanic.normal ?_)
    have HU:=Lib.hid (hu.trans hHeld)
    clear hHeld q0 q1 q2 e0 e1 e2
    go_wp2
    go_roundg (m-i)
    case measure=>omega
    case rel=>exact⟨i,m,by omega,rfl,by go_num,by omega,by omega,by omega,HU.out⟩
  ·have hip:i=p:=by omega
   have hjp:j=p:=by omega
   subst hip
   subst hjp
   by_cases hpn:j<l.length
   ·obtain⟨ad,hA,_⟩:=(h.upd (U0.out.trans hu) (fun _ _=>id)).at_ hpn
    have hq:=fun W (hW:Upd No wr W)=>(h.upd (U0.out.trans (hu.trans hW)) (fun _ _=>id)).at_ hpn
    obtain⟨x,hx⟩:∃x,l[j]=x:=⟨_,rfl⟩
    rw[hx]at hq
    have q0:∀W,Upd No wr W→W.cell? (ad.add (j*3))=some (.int .i64 x.kind):=fun W hW=>by
     obtain⟨ad',e,c0,_⟩:=hq W hW
     rw[hA]at e
     cases e
     exact c0
    have q1:∀W,Upd No wr W→W.cell? ⟨(ad.add (j*3)).block,(ad.add (j*3)).off+1,none⟩=some (.int .i64 x.label):=fun W hW=>by
     obtain⟨ad',e,_,c1,_⟩:=hq W hW
     rw[hA]at e
     cases e
     exact c1
    have q2:∀W,Upd No wr W→W.cell? ⟨(ad.add (j*3)).block,(ad.add (j*3)).off+2,none⟩=some (.int .i64 x.node):=fun W hW=>by
     obtain⟨ad',e,_,_,c2⟩:=hq W hW
     rw[hA]at e
     cases e
     exact c2
    have HV:=Lib.hid (show Zbn l ⟨ek,el,en⟩ j=(Zm x ⟨ek,el,en⟩==0) by unfold Zbn;rw[List.getElem?_eq_getElem hpn,hx])
    have b1:(j:Int)<(l.length:Int):=by omega
    have b2:(0:Int)≤(j:Int):=Int.natCast_nonneg _
    have hpd:decide (j<l.length)=true:=decide_eq_true hpn
    have hlt':¬(j:Int)<(j:Int):=by omega
    subst hA
    clear hq hx
    go_wp2
    refine wp_region_noPanic ?_
    refine wp_region_held_drew (S:=(fun w'=>Upd No wr w')) (by kernel_rfl) ?_ (fun hHeld=> ?_)
    ·(first|exact(Upd.refl No _).drew|exact hHeld.trans hu3)
    refine wpK 0 rfl ?_
    refine wpK 1 rfl ?_
    refine wpK 2 rfl ?_
    refine wpK 3 rfl ?_
    refine wpK 4 rfl ?_
    refine wpK 5 rfl ?_
    refine wpK 6 rfl ?_
    refine wpK 7 rfl ?_
    refine wpK 8 rfl ?_
    refine wpK 9 rfl ?_
    refine wpK 10 rfl ?_
    refine wpR [11] ?_
    refine wpC rfl (fun K hK=> ?_) AllReadyH.nil
    go_simp
    (first
  |(go_at_call 52;refine(HC.out _ x).mono ?_;rintro e w3 ⟨rfl,hu3⟩))
    try (go_wp2_with fail)
    refine hK.out _ _ ?_ (fun hHeld=> ?_)
    ·(first|exact(Upd.refl No _).drew|exact hHeld.trans hu3)
    clear hK K
    try simp only[Act.put,sT,sS,sZ]
    refine wpK 12 rfl ?_
    refine wpK 13 rfl ?_
    refine wpK 14 rfl ?_
    refine wpK 15 rfl ?_
    refine wpD (NoPanic.normal ?_)
    have HU:=Lib.hid (U0.out.trans (hu.trans hHeld))
    clear hHeld
    go_wp2
    go_ret2
    exact⟨by rw[HV.out];rfl,HU.out⟩
   ·have HV:=Lib.hid (show Zbn l ⟨ek,el,en⟩ j=false by unfold Zbn;rw[List.getElem?_eq_none (by omega)])
    have b1:¬(j:Int)<(l.length:Int):=by omega
    have hpd:decide (j<l.length)=false:=decide_eq_false hpn
    have hlt':¬(j:Int)<(j:Int):=by omega
    clear hpn
    go_wp2
    refine wp_region_noPanic ?_
    refine wp_region_held_drew (S:=(fun w'=>Upd No wr w')) (by kernel_rfl) ?_ (fun hHeld=> ?_)
    ·(first|exact(Upd.refl No _).drew|exact hHeld.trans hu3)
    refine wpK 0 rfl ?_
    refine wpK 1 rfl ?_
    refine wpK 2 rfl ?_
    refine wpK 3 rfl ?_
    refine wpK 4 rfl ?_
    refine wpN 5 rfl ?_
    refine wpN 6 rfl ?_
    refine wpN 7 rfl ?_
    refine wpN 8 rfl ?_
    refine wpN 9 rfl ?_
    refine wpN 10 rfl ?_
    refine wpR [11] ?_
    refine wpC rfl (fun K hK=> ?_) AllReadyH.nil
    go_simp
    refine hK.out _ _ ?_ (fun hHeld=> ?_)
    ·exact hHeld
    clear hK K
    try simp only[Act.put,sT,sS,sZ]
    refine wpN 12 rfl ?_
    refine wpK 13 rfl ?_
    refine wpK 14 rfl ?_
    refine wpK 15 rfl ?_
    refine wpD (NoPanic.normal ?_)
    have HU:=Lib.hid (U0.out.trans (hu.trans hHeld))
    clear hHeld
    go_wp2
    go_ret2
    exact⟨by rw[HV.out];rfl,HU.out⟩
end Go.Proofs.Ytfcefnpnomlgbaa
