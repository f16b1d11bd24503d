/- Transactions that lie there. -/
import Derived.Test.YtdbjokfejmgepaaRaah
import Derived.Test.YtdbjokfejmgepaaRaai
namespace Go.Proofs.Ytdbjokfejmgepaa
set_option linter.unusedVariables false
set_option linter.unusedSimpArgs false
section
open Go.RowKit
theorem Zi9 {G:Nat→Prop} {w:World} {A:Option Addr} {l:List HTx} (h:Recs G w A 3 (l.map HTx.cells)) {k:Nat} (hk:k<l.length):∃ad,A=some ad∧
  w.cell? (ad.add (k*3))=some (.int .i64 l[k].id)∧w.cell? ⟨(ad.add (k*3)).block,(ad.add (k*3)).off+1,none⟩=some (.bool l[k].done)∧w.cell? ⟨(ad.add (k*3)).block,(ad.add (k*3)).off+2,none⟩=some (.slice l[k].A l[k].ops.length l[k].c):=by
 have hk':k<(l.map HTx.cells).length:=by simpa using hk
 obtain⟨ad,e,_,_,hc⟩:=Recs.at_ h hk';rw[List.getElem_map]at hc;exact⟨ad,e,by simpa using hc 0 _ rfl,by simpa using hc 1 _ rfl,by simpa using hc 2 _ rfl⟩
def TxsY (F:Nat→Prop) (w:World) (A:Option Addr) (l:List HTx):Prop:=Recs F w A 3 (l.map HTx.cells)∧∀t∈l,t.lies F w
theorem HTx.lies.weak {F G:Nat→Prop} {w:World} {t:HTx} (h:t.lies F w) (hg:∀i,i<w.heap.size→F i→G i):t.lies G w:=⟨Recs.weak h.1 hg,h.2⟩
section
variable {F G S:Nat→Prop} {w w':World} {A:Option Addr}
theorem TxsY.upd {l:List HTx} (h:TxsY F w A l) (k:Upd S w w') (hn:∀i,F i→¬S i):TxsY F w' A l:=⟨Recs.upd h.1 k hn,fun t ht=>(h.2 t ht).upd k hn⟩
theorem TxsY.weak {l:List HTx} (h:TxsY F w A l) (hg:∀i,i<w.heap.size→F i→G i):TxsY G w A l:=⟨Recs.weak h.1 hg,fun t ht=>(h.2 t ht).weak hg⟩
end
end
/- A history's weight:the program's,and the document's. -/
section
open Go.RowKit
def ZaO (l:List HTx):Nat:=(l.map fun t=>t.ops.length+1).sum
theorem Zgb {l:List HTx} {k:Nat} {x:HTx} (hk:k<l.length) (hx:l[k]=x):ZaO (l.take (k+1))=ZaO (l.take k)+(x.ops.length+1):=by
 unfold ZaO;rw[List.take_succ_eq_append_getElem hk,List.map_append,List.sum_append,hx];simp
set_option maxRecDepth 100000 in
theorem Znt (w:World) (i0:Int) (dn:Bool) (A:Option Addr) (n c:Nat) (hn:n≤1000000):Calls Try.prog 51 #[.agg #[.int .i64 i0,.bool dn,.slice A n c]] w fun e w'=>e= .returned (.int .i64 ((n:Int)+1))∧Upd No w w':=by
 have bB:=Blk.new w 35 [.int .i64 i0,.bool dn,.slice A n c];have g2:=bB.cell 2;simp only[Qz,Qs]at g2;have hw1:IntKind.i64.wrap ((n:Int)+1)=(n:Int)+1:=IntWalk.i64_in _ (by omega);clear bB
 go_enter Try.func51,Try.ntmps51
 go_wp2
 go_ret
 exact⟨rfl,(Upd.refl No w).alloc _⟩
set_option maxRecDepth 100000 in
theorem Zni (w:World) (i0:Int) (dn:Bool) (A:Option Addr) (n c:Nat) (hn:n≤1000000):Calls Try.prog 53 #[.agg #[.int .i64 i0,.bool dn,.slice A n c]] w fun e w'=>e= .returned (.int .i64 ((n:Int)+1))∧Upd No w w':=by
 have bB:=Blk.new w 35 [.int .i64 i0,.bool dn,.slice A n c];have g2:=bB.cell 2;simp only[Qz,Qs]at g2;have hw1:IntKind.i64.wrap ((n:Int)+1)=(n:Int)+1:=IntWalk.i64_in _ (by omega);clear bB
 go_enter Try.func53,Try.ntmps53
 go_wp2
 go_ret
 exact⟨rfl,(Upd.refl No w).alloc _⟩
set_option maxRecDepth 100000 in
set_option maxHeartbeats 4000000 in
theorem ZnY {F:Nat→Prop} {w:World} {A:Option Addr} {c:Nat} {l:List HTx} {B:Option Addr} {m d:Nat} (H:Recs F w A 3 (l.map HTx.cells)) (hl:l.length≤1000) (ho:∀t∈l,t.ops.length≤4095):
  Calls Try.prog 34 #[.agg #[.slice A l.length c,.slice B m d]] w fun e w'=>e= .returned (.int .i64 (ZaO l:Int))∧Upd No w w':=by
 obtain⟨z,hz⟩:∃z,w.heap.size=z:=⟨_,rfl⟩;obtain⟨wb,hwb⟩:∃wb,w.alloc (.cells #[.slice A l.length c,.slice B m d] 39)=wb:=⟨_,rfl⟩;have ub:Upd No w wb:=by rw[←hwb];exact(Upd.refl No w).alloc _
 have bb:Blk wb z 39 [.slice A l.length c,.slice B m d]:=by rw[←hwb,←hz];exact Blk.new w _ _
 have v0:=bb.cell 0;simp only[Qz]at v0;have HH:=Qh (Recs.upd H ub (fun _ _=>id));have HOL:=Qh ho;have UB:=Qh ub;clear ub bb H ho
 go_enter Try.func34,Try.ntmps34
 go_wp2;clear v0
 go_loopg [3,9] l.length (fun gk s i wr=>∃(k n:Nat),k+gk=l.length∧i= .int .i64 (k:Int)∧s= .int .i64 (n:Int)∧Hid (n=ZaO (l.take k))∧n≤4096*k∧Hid (Upd No wb wr))
 case atStart=>exact⟨0,0,by omega,rfl,rfl,Qh rfl,by omega,Qh (Upd.refl _ _)⟩
 case round=>
  obtain⟨k,n,hgk,rfl,rfl,hs,hxl,hu⟩:=hrel
  by_cases hlt:k<l.length
  ·obtain⟨ad,hAd,q0,q1,q2⟩:=Zi9 (Recs.upd HH.out hu.out (fun _ _=>id)) hlt;obtain⟨x,hx⟩:∃x,l[k]=x:=⟨_,rfl⟩;simp only[hx]at q0 q1 q2;subst hAd;have X:=Qh hx;have b1:(0:Int)≤(k:Int):=Qn _;have b2:(k:Int)<(l.length:Int):=by omega
   obtain⟨wx,hwx⟩:∃wx,wr.alloc (.cells #[.int .i64 x.id,.bool x.done,.slice x.A x.ops.length x.c] 35)=wx:=⟨_,rfl⟩;obtain⟨zx,hzx⟩:∃zx,wr.heap.size=zx:=⟨_,rfl⟩;have ux:Upd No wr wx:=by rw[←hwx];exact(Upd.refl No wr).alloc _
   have bX:Blk wx zx 35 [.int .i64 x.id,.bool x.done,.slice x.A x.ops.length x.c]:=by rw[←hwx,←hzx];exact Blk.new wr _ _
   have HUX:=Qh (hu.out.trans ux);have BX:=Qh bX;have x0:=bX.cell 0;have x1:=bX.cell 1;have x2:=bX.cell 2;simp only[Qz,Qs]at x0 x1 x2;have hxo:=HOL.out x (by rw[←hx];exact List.getElem_mem hlt);have HS:=Qh (Zgb hlt X.out);have CW:=Qh (fun W=>Znt W x.id x.done x.A x.ops.length x.c (by omega));have hw1:IntKind.i64.wrap ((n:Int)+((x.ops.length:Int)+1))=((n+(x.ops.length+1):Nat):Int):=by rw[IntWalk.i64_in _ (by omega)];omega
   clear hx ux bX hu
   go_wp2_with fail
   refine(CW.out _).mono ?_;rintro e w4 ⟨rfl,hu4⟩;go_wp2
   go_roundg (gk-1)
   case measure=>omega
   case rel=>exact⟨k+1,n+(x.ops.length+1),by omega,by go_num,rfl,Qh (by rw[HS.out,hs.out]),by omega,Qh (HUX.out.trans hu4)⟩
  ·obtain rfl:k=l.length:=by omega
   have HS:=Qh (show ZaO l=n by rw[hs.out,List.take_length]);clear hs;go_wp2
   go_ret
   exact⟨by rw[HS.out];rfl,UB.out.trans hu.out⟩
set_option maxRecDepth 100000 in
set_option maxHeartbeats 4000000 in
theorem ZnS {F:Nat→Prop} {w:World} {A:Option Addr} {c:Nat} {l:List HTx} {B:Option Addr} {m d:Nat} (H:Recs F w A 3 (l.map HTx.cells)) (hl:l.length≤1000) (ho:∀t∈l,t.ops.length≤4095):
  Calls Try.prog 36 #[.agg #[.slice A l.length c,.slice B m d]] w fun e w'=>e= .returned (.int .i64 (ZaO l:Int))∧Upd No w w':=by
 obtain⟨z,hz⟩:∃z,w.heap.size=z:=⟨_,rfl⟩;obtain⟨wb,hwb⟩:∃wb,w.alloc (.cells #[.slice A l.length c,.slice B m d] 39)=wb:=⟨_,rfl⟩;have ub:Upd No w wb:=by rw[←hwb];exact(Upd.refl No w).alloc _
 have bb:Blk wb z 39 [.slice A l.length c,.slice B m d]:=by rw[←hwb,←hz];exact Blk.new w _ _
 have v0:=bb.cell 0;simp only[Qz]at v0;have HH:=Qh (Recs.upd H ub (fun _ _=>id));have HOL:=Qh ho;have UB:=Qh ub;clear ub bb H ho
 go_enter Try.func36,Try.ntmps36
 go_wp2;clear v0
 go_loopg [3,9] l.length (fun gk s i wr=>∃(k n:Nat),k+gk=l.length∧i= .int .i64 (k:Int)∧s= .int .i64 (n:Int)∧Hid (n=ZaO (l.take k))∧n≤4096*k∧Hid (Upd No wb wr))
 case atStart=>exact⟨0,0,by omega,rfl,rfl,Qh rfl,by omega,Qh (Upd.refl _ _)⟩
 case round=>
  obtain⟨k,n,hgk,rfl,rfl,hs,hxl,hu⟩:=hrel
  by_cases hlt:k<l.length
  ·obtain⟨ad,hAd,q0,q1,q2⟩:=Zi9 (Recs.upd HH.out hu.out (fun _ _=>id)) hlt;obtain⟨x,hx⟩:∃x,l[k]=x:=⟨_,rfl⟩;simp only[hx]at q0 q1 q2;subst hAd;have X:=Qh hx;have b1:(0:Int)≤(k:Int):=Qn _;have b2:(k:Int)<(l.length:Int):=by omega
   obtain⟨wx,hwx⟩:∃wx,wr.alloc (.cells #[.int .i64 x.id,.bool x.done,.slice x.A x.ops.length x.c] 35)=wx:=⟨_,rfl⟩;obtain⟨zx,hzx⟩:∃zx,wr.heap.size=zx:=⟨_,rfl⟩;have ux:Upd No wr wx:=by rw[←hwx];exact(Upd.refl No wr).alloc _
   have bX:Blk wx zx 35 [.int .i64 x.id,.bool x.done,.slice x.A x.ops.length x.c]:=by rw[←hwx,←hzx];exact Blk.new wr _ _
   have HUX:=Qh (hu.out.trans ux);have BX:=Qh bX;have x0:=bX.cell 0;have x1:=bX.cell 1;have x2:=bX.cell 2;simp only[Qz,Qs]at x0 x1 x2;have hxo:=HOL.out x (by rw[←hx];exact List.getElem_mem hlt);have HS:=Qh (Zgb hlt X.out);have CW:=Qh (fun W=>Zni W x.id x.done x.A x.ops.length x.c (by omega));have hw1:IntKind.i64.wrap ((n:Int)+((x.ops.length:Int)+1))=((n+(x.ops.length+1):Nat):Int):=by rw[IntWalk.i64_in _ (by omega)];omega
   clear hx ux bX hu
   go_wp2_with fail
   refine(CW.out _).mono ?_;rintro e w4 ⟨rfl,hu4⟩;go_wp2
   go_roundg (gk-1)
   case measure=>omega
   case rel=>exact⟨k+1,n+(x.ops.length+1),by omega,by go_num,rfl,Qh (by rw[HS.out,hs.out]),by omega,Qh (HUX.out.trans hu4)⟩
  ·obtain rfl:k=l.length:=by omega
   have HS:=Qh (show ZaO l=n by rw[hs.out,List.take_length]);clear hs;go_wp2
   go_ret
   exact⟨by rw[HS.out];rfl,UB.out.trans hu.out⟩
theorem Zic {l:List HTx} (ho:∀t∈l,t.ops.length≤4095):ZaO l≤4096*l.length:=by
 induction l with
 |nil=>simp[ZaO]
 |cons t l ih=>
  have h1:=ho t (List.mem_cons_self ..);have h2:=ih fun x hx=>ho x (List.mem_cons_of_mem _ hx)
  unfold ZaO at*;rw[List.map_cons,List.sum_cons,List.length_cons];omega
end
end Go.Proofs.Ytdbjokfejmgepaa
