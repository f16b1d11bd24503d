/- Orders as if one by one: who is done; the versions that were written last, in a map. -/
import Derived.Test.YtblplapkdmhikaaGreatDxag
import Derived.Test.YtblplapkdmhikaaGreatDxak
import Derived.Test.YtblplapkdmhikaaGreatDxam
import Derived.Test.YtblplapkdmhikaaGreatDxav
import Derived.Test.YtblplapkdmhikaaGreatDxaw
import Derived.Test.YtblplapkdmhikaaGreatDxay
import Derived.Test.YtblplapkdmhikaaGreatDxbc
import Derived.Test.YtblplapkdmhikaaGreatDxbh
import Derived.Test.YtblplapkdmhikaaGreatDxbi
import Derived.Test.YtblplapkdmhikaaGreatDxbk
import Derived.Test.YtblplapkdmhikaaGreatDxbl
import Derived.Test.YtblplapkdmhikaaGreatDxbp
import Derived.Test.YtblplapkdmhikaaGreatDxbq
import Derived.Test.YtblplapkdmhikaaGreatDxbr
import Derived.Test.YtblplapkdmhikaaGreatDxbs
import Derived.Test.YtblplapkdmhikaaGreatDxbt
import Derived.Test.YtblplapkdmhikaaGreatDxbv
namespace Go.Proofs.YtblplapkdmhikaaGreat
set_option linter.unusedVariables false
set_option linter.unusedSimpArgs false
section
open Go.RowKit
/-! the map -/
theorem Zhr {m:List (Int×Value)} {k:Int}:(Zm m k).isSome=true↔k∈m.map (·.1):=by
 unfold Zm
 have key:∀(m:List (Int×Value)) (i:Nat),(look k m i).isSome=true↔k∈m.map (·.1):=by
  intro m
  induction m with
  |nil=>intro i;simp[look]
  |cons p m ih=>
   intro i;unfold look
   by_cases e:k=p.1
   ·simp[e]
   ·rw[if_neg e,ih (i+1)];simp[e]
 rw[Option.isSome_map,key]
structure WorldM (w:World) (b:Nat) (m:List (Int×Value)) (f:Int→Option Ver):Prop where
 is:MapE w b (fun n:Int=>Value.int .i64 n) m
 nd:(m.map (·.1)).Nodup
 get:∀k,Zm m k=(f k).map ZN
namespace WorldM
variable {w w':World} {b:Nat} {m:List (Int×Value)} {f g:Int→Option Ver} {S:Nat→Prop}
theorem upd (h:WorldM w b m f) (u:Upd S w w') (hn:¬S b):WorldM w' b m f:=⟨h.is.upd u hn,h.nd,h.get⟩
theorem new (w:World):WorldM (w.alloc (.map #[] 0)) w.heap.size [] (fun _=>none):=⟨MapE.new w _,by simp,fun _=>rfl⟩
theorem congr (h:WorldM w b m f) (e:∀k,f k=g k):WorldM w b m g:=⟨h.is,h.nd,fun k=>by rw[h.get,e]⟩
theorem lt (h:WorldM w b m f):b<w.heap.size:=h.is.lt
theorem keys (h:WorldM w b m f) (k:Int):k∈m.map (·.1)↔(f k).isSome=true:=by rw[←Zhr,h.get,Option.isSome_map]
end WorldM
end
/- Deltas:who is there just so (delta.seek,less;txn.Same,delta.sameOrder). -/
section
open Go.RowKit
theorem ZbC {G:Nat→Prop} {w:World} {A:Option Addr} {l:List HTx} (h:Recs G w A 3 (l.map HTx.cells)) {k:Nat} (hk:k<l.length):∃ad,A=some ad∧
  w.cell? (ad.add (k*3))=some (.int .i64 l[k].id)∧w.cell? ⟨(ad.add (k*3)).block,(ad.add (k*3)).off+1,none⟩=some (.bool l[k].done)∧w.cell? ⟨(ad.add (k*3)).block,(ad.add (k*3)).off+2,none⟩=some (.slice l[k].A l[k].ops.length l[k].c):=by
 have hk':k<(l.map HTx.cells).length:=by simpa using hk
 obtain⟨ad,e,_,_,hc⟩:=Recs.at_ h hk';rw[List.getElem_map]at hc;exact⟨ad,e,by simpa using hc 0 _ rfl,by simpa using hc 1 _ rfl,by simpa using hc 2 _ rfl⟩
end
/- Deltas:who is there just so (txn.Same,delta.sameOrder,delta.less). -/
section
open Go.RowKit
theorem ZaQ:SlT Tryz.prog 26 81 3 40:=SlT.mk_ Tryz.underlying26 (z:= .agg #[.int .i64 0,.bool false,.slice none 0 0]) (by kernel_rfl) rfl (by omega)
def txF (l:List HTx):List Value:=(l.map HTx.cells).flatten
theorem ZaP (l:List HTx) (x:HTx):txF (l++[x])=txF l++x.cells:=by unfold txF;simp
theorem Zj7 {l:List HTx}:∀r∈l.map HTx.cells,r.length=3:=fun r hr=>by
 obtain⟨e,_,rfl⟩:=List.mem_map.1 hr;rfl
end
/- Deltas:copies (delta.txs,orders). -/
section
open Go.RowKit
def TxsY (F:Nat→Prop) (w:World) (A:Option Addr) (l:List HTx):Prop:=Recs F w A 3 (l.map HTx.cells)∧∀t∈l,t.lies F w
def OrsY (F:Nat→Prop) (w:World) (A:Option Addr) (l:List HOrd):Prop:=Recs F w A 2 (l.map HOrd.cells)∧∀o∈l,o.lies F w
theorem HTx.lies.weak {F G:Nat→Prop} {w:World} {t:HTx} (h:t.lies F w) (hg:∀i,i<w.heap.size→F i→G i):t.lies G w:=⟨Recs.weak h.1 hg,h.2⟩
theorem HOrd.lies.weak {F G:Nat→Prop} {w:World} {t:HOrd} (h:t.lies F w) (hg:∀i,i<w.heap.size→F i→G i):t.lies G w:=⟨Ints.weak h.1 hg,h.2⟩
section
variable {F G S:Nat→Prop} {w w':World} {A:Option Addr}
theorem TxsY.upd {l:List HTx} (h:TxsY F w A l) (k:Upd S w w') (hn:∀i,F i→¬S i):TxsY F w' A l:=⟨Recs.upd h.1 k hn,fun t ht=>(h.2 t ht).upd k hn⟩
theorem OrsY.upd {l:List HOrd} (h:OrsY F w A l) (k:Upd S w w') (hn:∀i,F i→¬S i):OrsY F w' A l:=⟨Recs.upd h.1 k hn,fun t ht=>(h.2 t ht).upd k hn⟩
theorem TxsY.weak {l:List HTx} (h:TxsY F w A l) (hg:∀i,i<w.heap.size→F i→G i):TxsY G w A l:=⟨Recs.weak h.1 hg,fun t ht=>(h.2 t ht).weak hg⟩
theorem OrsY.weak {l:List HOrd} (h:OrsY F w A l) (hg:∀i,i<w.heap.size→F i→G i):OrsY G w A l:=⟨Recs.weak h.1 hg,fun t ht=>(h.2 t ht).weak hg⟩
end
end
/- An index,the document's:put,drop,ids,readers,users. -/
section
open Go.RowKit
set_option maxRecDepth 100000 in
set_option maxHeartbeats 1000000 in
theorem Zid (w:World) (F G:Nat→Prop) (A B:Option Addr) (c d:Nat) (xs ys:List HOp) (hx:Recs F w A 4 (xs.map HOp.cells)) (hy:Recs G w B 4 (ys.map HOp.cells)) (hl:xs.length≤4398046511103) (hl2:ys.length≤4398046511103) {v:Bool} (hv:(xs==ys)=v):
  Calls Tryz.prog 203 #[.slice A xs.length c,.slice B ys.length d] w fun e w'=>e= .returned (.bool v)∧Upd No w w':=by
 have qG:∀(op:BinOp) (x y:Operand) (xs ys:Array Value) (w:World),(eqGuard op 95 x y (.agg xs) (.agg ys)).run Tryz.prog w= .ok () w:=fun op x y xs ys w=>run_eqGuard_agg w op _ x y xs ys (by kernel_rfl)
 subst hv
 by_cases hn:xs.length=ys.length
 ·have hnb:((xs.length:Int) != (ys.length:Int))=false:=by rw[bne_eq_false_iff_eq];omega
  have HN:=Qh hn;clear hn
  go_enter Tryz.func203,Tryz.ntmps203
  go_wp2
  go_loopg [5,13] xs.length (fun gk j i wr=>∃k:Nat,k+gk=xs.length∧i= .int .i64 k∧Hid (xs.take k=ys.take k)∧Upd No w wr)
  case atStart=>exact⟨0,by omega,rfl,Qh rfl,Upd.refl _ _⟩
  case round=>
   obtain⟨k,hgk,rfl,hs,hu⟩:=hrel
   by_cases hlt:k<xs.length
   ·have hlt2:k<ys.length:=by have:=HN.out;omega
    obtain⟨ax,rfl,q0,q1,q2,q3⟩:=HOps.at_ (Recs.upd hx hu (fun _ _=>id)) hlt;obtain⟨ay,rfl,r0,r1,r2,r3⟩:=HOps.at_ (Recs.upd hy hu (fun _ _=>id)) hlt2;obtain⟨x,hxx⟩:∃x,xs[k]=x:=⟨_,rfl⟩;obtain⟨y,hyy⟩:∃y,ys[k]=y:=⟨_,rfl⟩;simp only[hxx]at q0 q1 q2 q3;simp only[hyy]at r0 r1 r2 r3;have hq:=fun W=>Zgi W x y
    have i1:(0:Int)≤(k:Int):=Qn _;have i2:(k:Int)<(xs.length:Int):=by omega
    have i3:(k:Int)<(ys.length:Int):=by omega
    have HX:=Qh hxx;have HY:=Qh hyy;clear hxx hyy
    by_cases he:x=y
    ·have HN2:=Qh (show xs.take (k+1)=ys.take (k+1) by rw[List.take_succ_eq_append_getElem hlt,List.take_succ_eq_append_getElem hlt2,hs.out,HX.out,HY.out,he]);have heb:(x != y)=false:=by simpa using he
     rw[heb]at hq;clear he heb;go_wp2
     go_quiet (fail)
     go_wp2
     go_roundg (gk-1)
     case measure=>omega
     case rel=>exact⟨k+1,by omega,by go_num,HN2,hu.drewN _⟩
    ·have HF:=Qh (show(xs==ys)=false from by
      rw[beq_eq_false_iff_ne];intro e;subst e;exact he (HX.out.symm.trans HY.out))
     have heb:(x != y)=true:=by simpa using he
     rw[heb]at hq;clear he heb;go_wp2
     go_quiet (fail)
     go_wp2
     go_ret
     exact⟨by rw[HF.out];rfl,hu.drewN _⟩
   ·obtain rfl:k=xs.length:=by omega
    have HT:=Qh (show(xs==ys)=true from by
     rw[beq_iff_eq];have:=hs.out
     rwa [List.take_length,HN.out,List.take_length]at this)
    go_wp2
    go_ret
    exact⟨by rw[HT.out];rfl,hu⟩
 ·have HF:=Qh (show(xs==ys)=false from by
   rw[beq_eq_false_iff_ne];intro e;exact hn (by rw[e]))
  have hnb:((xs.length:Int) != (ys.length:Int))=true:=by rw[bne_iff_ne];omega
  clear hn
  go_enter Tryz.func203,Tryz.ntmps203
  go_wp2
  go_ret
  exact⟨by rw[HF.out];rfl,Upd.refl _ _⟩
theorem ZeR (w:World) (x y:Ver):(binOp .neq 36 (.agg #[.int .i64 x.tx,.int .i64 x.key,.int .i64 x.nth]) (.agg #[.int .i64 y.tx,.int .i64 y.key,.int .i64 y.nth])).run Tryz.prog w= .ok (.bool (x != y)) w:=Zi5 w x y
set_option maxRecDepth 100000 in
set_option maxHeartbeats 1000000 in
theorem Zhi (w:World) (F G:Nat→Prop) (A B:Option Addr) (c d:Nat) (xs ys:List Ver) (hx:Recs F w A 3 (xs.map Ver.cells)) (hy:Recs G w B 3 (ys.map Ver.cells)) (hl:xs.length≤4398046511103) (hl2:ys.length≤4398046511103) {v:Bool} (hv:(xs==ys)=v):
  Calls Tryz.prog 126 #[.slice A xs.length c,.slice B ys.length d] w fun e w'=>e= .returned (.bool v)∧Upd No w w':=by
 have qG:∀(op:BinOp) (x y:Operand) (xs ys:Array Value) (w:World),(eqGuard op 36 x y (.agg xs) (.agg ys)).run Tryz.prog w= .ok () w:=fun op x y xs ys w=>run_eqGuard_agg w op _ x y xs ys (by kernel_rfl)
 subst hv
 by_cases hn:xs.length=ys.length
 ·have hnb:((xs.length:Int) != (ys.length:Int))=false:=by rw[bne_eq_false_iff_eq];omega
  have HN:=Qh hn;clear hn
  go_enter Tryz.func126,Tryz.ntmps126
  go_wp2
  go_loopg [5,13] xs.length (fun gk j i wr=>∃k:Nat,k+gk=xs.length∧i= .int .i64 k∧Hid (xs.take k=ys.take k)∧Upd No w wr)
  case atStart=>exact⟨0,by omega,rfl,Qh rfl,Upd.refl _ _⟩
  case round=>
   obtain⟨k,hgk,rfl,hs,hu⟩:=hrel
   by_cases hlt:k<xs.length
   ·have hlt2:k<ys.length:=by have:=HN.out;omega
    obtain⟨ax,rfl,q0,q1,q2⟩:=VersR.at_ (Recs.upd hx hu (fun _ _=>id)) hlt;obtain⟨ay,rfl,r0,r1,r2⟩:=VersR.at_ (Recs.upd hy hu (fun _ _=>id)) hlt2;obtain⟨x,hxx⟩:∃x,xs[k]=x:=⟨_,rfl⟩;obtain⟨y,hyy⟩:∃y,ys[k]=y:=⟨_,rfl⟩;simp only[hxx]at q0 q1 q2;simp only[hyy]at r0 r1 r2;have hq:=fun W=>ZeR W x y
    have i1:(0:Int)≤(k:Int):=Qn _;have i2:(k:Int)<(xs.length:Int):=by omega
    have i3:(k:Int)<(ys.length:Int):=by omega
    have HX:=Qh hxx;have HY:=Qh hyy;clear hxx hyy
    by_cases he:x=y
    ·have HN2:=Qh (show xs.take (k+1)=ys.take (k+1) by rw[List.take_succ_eq_append_getElem hlt,List.take_succ_eq_append_getElem hlt2,hs.out,HX.out,HY.out,he]);have heb:(x != y)=false:=by simpa using he
     rw[heb]at hq;clear he heb;go_wp2
     go_quiet (fail)
     go_wp2
     go_roundg (gk-1)
     case measure=>omega
     case rel=>exact⟨k+1,by omega,by go_num,HN2,hu.drewN _⟩
    ·have HF:=Qh (show(xs==ys)=false from by
      rw[beq_eq_false_iff_ne];intro e;subst e;exact he (HX.out.symm.trans HY.out))
     have heb:(x != y)=true:=by simpa using he
     rw[heb]at hq;clear he heb;go_wp2
     go_quiet (fail)
     go_wp2
     go_ret
     exact⟨by rw[HF.out];rfl,hu.drewN _⟩
   ·obtain rfl:k=xs.length:=by omega
    have HT:=Qh (show(xs==ys)=true from by
     rw[beq_iff_eq];have:=hs.out
     rwa [List.take_length,HN.out,List.take_length]at this)
    go_wp2
    go_ret
    exact⟨by rw[HT.out];rfl,hu⟩
 ·have HF:=Qh (show(xs==ys)=false from by
   rw[beq_eq_false_iff_ne];intro e;exact hn (by rw[e]))
  have hnb:((xs.length:Int) != (ys.length:Int))=true:=by rw[bne_iff_ne];omega
  clear hn
  go_enter Tryz.func126,Tryz.ntmps126
  go_wp2
  go_ret
  exact⟨by rw[HF.out];rfl,Upd.refl _ _⟩
set_option maxRecDepth 100000 in
theorem Zjh {F G:Nat→Prop} {w:World} {i i2:Int} {d d2:Bool} {A B:Option Addr} {c c2:Nat} {l m:List HOp} (h:HOps F w A l) (h2:HOps G w B m) (hl:Ze l.length) (hl2:Ze m.length) (hi:i=i2) (hd:d=d2) (hlm:l=m):
  Calls Tryz.prog 122 #[.agg #[.int .i64 i,.bool d,.slice A l.length c],.agg #[.int .i64 i2,.bool d2,.slice B m.length c2]] w fun e w'=>e= .returned (.bool true)∧Upd No w w':=by
 have ub:Upd No w ((w.alloc (.cells #[.int .i64 i,.bool d,.slice A l.length c] 81)).alloc (.cells #[.int .i64 i2,.bool d2,.slice B m.length c2] 81)):=((Upd.refl No w).alloc _).alloc _;have UB:=Qh ub;have hib:(i==i2)=true:=by simpa using hi
 have hdb:(d==d2)=true:=by simpa using hd
 have CS:=Qh (Zid _ F G A B c c2 l m (HOps.upd h ub (fun _ _=>id)) (HOps.upd h2 ub (fun _ _=>id)) hl hl2 (v:=true) (by simpa using hlm));clear ub hi hd hlm h h2
 go_enter Tryz.func122,Tryz.ntmps122
 go_wp2_with fail
 refine(CS.out).mono ?_;rintro e w1 ⟨rfl,hu1⟩;go_wp2
 go_ret
 exact⟨rfl,UB.out.trans hu1⟩
def Zx (t:HTx) (done:Bool) (out:List HTx):List HTx→List HTx
 |[]=>if done then out else out++[t]
 |x::l=>Zx t (done||decide (t.id≤x.id)) ((if !done&&decide (t.id≤x.id) then out++[t] else out)++if x.id=t.id then [] else [x]) l
theorem Zed (t:HTx):∀(l out:List HTx),Zx t true out l=out++l.filter fun x=> !(x.id==t.id)
 |[],out=>by simp[Zx]
 |x::l,out=>by
  unfold Zx;simp only[Bool.true_or,Bool.not_true,Bool.false_and,Bool.false_eq_true,if_false];rw[Zed t l]
  by_cases e:x.id=t.id<;>simp[e]
theorem Zf9 (t:HTx):∀(l out:List HTx),ZA l→Zx t false out l=out++ZT l t
 |[],out,_=>by simp[Zx,ZT]
 |x::l,out,h=>by
  unfold ZA at h;rw[List.map_cons,List.pairwise_cons]at h;have hx:∀y∈l,x.id<y.id:=fun y hy=>h.1 y.id (List.mem_map.2 ⟨y,hy,rfl⟩)
  unfold Zx
  by_cases e:t.id≤x.id
  ·simp only[Bool.false_or,decide_eq_true e,Bool.not_false,Bool.true_and,if_true];rw[Zed];unfold ZT
   have h1:(x::l).filter (fun y=>decide (y.id<t.id))=[]:=List.filter_eq_nil_iff.2 fun y hy=>by
    rcases List.mem_cons.1 hy with rfl|hy
    ·simp;omega
    ·have:=hx y hy;simp;omega
   rw[h1];have h2:l.filter (fun y=> !(y.id==t.id))=l:=List.filter_eq_self.2 fun y hy=>by have:=hx y hy;simp;omega
   have h3:l.filter (fun y=>decide (t.id<y.id))=l:=List.filter_eq_self.2 fun y hy=>by have:=hx y hy;simp;omega
   rw[h2,List.filter_cons,h3]
   by_cases e2:x.id=t.id
   ·simp[e2]
   ·have:t.id<x.id:=by omega
    simp[e2,this]
  ·have e2:x.id<t.id:=by omega
   have e3:x.id≠t.id:=by omega
   simp only[Bool.false_or,decide_eq_false e,Bool.not_false,Bool.and_false,Bool.false_eq_true,if_false,if_neg e3];rw[Zf9 t l _ h.2];unfold ZT;rw[List.filter_cons_of_pos (by simpa using e2),List.filter_cons_of_neg (by simp;omega)];simp
def ZhU (w:World) (l:List HTx) (e:Ending) (w':World):Prop:=∃A c,e= .returned (.slice A l.length c)∧w'.ownsRow w.heap.size 81 3 (.slice A l.length c) l.length (txF l)∧Upd No w w'
theorem ZdA (t:HTx):∀(l out:List HTx) (d:Bool),(Zx t d out l).length≤out.length+2*l.length+1
 |[],out,d=>by unfold Zx;split<;>simp
 |x::l,out,d=>by
  unfold Zx;refine Nat.le_trans (ZdA t l _ _) ?_;rw[List.length_append];have h1:(if (!d&&decide (t.id≤x.id))=true then out++[t] else out).length≤out.length+1:=by split<;>simp
  have h2:(if x.id=t.id then [] else [x]).length≤1:=by split<;>simp
  rw[List.length_cons];omega
set_option maxRecDepth 100000 in
set_option maxHeartbeats 4000000 in
theorem Zkf {F:Nat→Prop} {w:World} {A:Option Addr} {c:Nat} {l:List HTx} (t:HTx) (H:Recs F w A 3 (l.map HTx.cells)) (hl:l.length≤1000):
  Calls Tryz.prog 37 #[.slice A l.length c,.agg #[.int .i64 t.id,.bool t.done,.slice t.A t.ops.length t.c]] w (ZhU w (Zx t false [] l)):=by
 obtain⟨z,hz⟩:∃z,w.heap.size=z:=⟨_,rfl⟩;obtain⟨wb,hwb⟩:∃wb,w.alloc (.cells #[.int .i64 t.id,.bool t.done,.slice t.A t.ops.length t.c] 81)=wb:=⟨_,rfl⟩;have ub:Upd No w wb:=by rw[←hwb];exact(Upd.refl No w).alloc _
 have bb:Blk wb z 81 [.int .i64 t.id,.bool t.done,.slice t.A t.ops.length t.c]:=by rw[←hwb,←hz];exact Blk.new w _ _
 have t0:∀W,Upd No wb W→W.cell? ⟨z,0,none⟩=some (.int .i64 t.id):=fun W u=>(bb.upd u id).cell 0
 have t1:∀W,Upd No wb W→W.cell? ⟨z,1,none⟩=some (.bool t.done):=fun W u=>(bb.upd u id).cell 1
 have t2:∀W,Upd No wb W→W.cell? ⟨z,2,none⟩=some (.slice t.A t.ops.length t.c):=fun W u=>(bb.upd u id).cell 2
 have UB:=Qh ub;have HH:=Qh (Recs.upd H ub (fun _ _=>id));have HL:=Qh (ZdA t);have hbz:Upd No wb wb:=Upd.refl _ _;clear ub bb H
 go_enter Tryz.func37,Tryz.ntmps37
 go_wp2
 go_loopg [5,6,11] l.length (fun gk s dn i wr=>∃(k:Nat) (A5:Option Addr) (c5:Nat) (xs:List HTx) (d:Bool),k+gk=l.length∧i= .int .i64 (k:Int)∧dn= .bool d∧s= .slice A5 xs.length c5∧Hid (Zx t d xs (l.drop k)=Zx t false [] l)∧xs.length≤2*k∧
  Hid (wr.ownsRow wb.heap.size 81 3 (.slice A5 xs.length c5) xs.length (txF xs))∧Hid (Upd No wb wr))
 case atStart=>exact⟨0,none,0,[],false,by omega,rfl,rfl,rfl,Qh rfl,by simp,Qh (World.ownsRow_nil _ _ _ _),Qh hbz⟩
 case round=>
  obtain⟨k,A5,c5,xs,d,hgk,rfl,rfl,rfl,hs,hxl,hown,hu⟩:=hrel
  by_cases hlt:k<l.length
  ·obtain⟨ad,hAd,q0,q1,q2⟩:=ZbC (Recs.upd HH.out hu.out (fun _ _=>id)) hlt;obtain⟨x,hx⟩:∃x,l[k]=x:=⟨_,rfl⟩;simp only[hx]at q0 q1 q2;subst hAd;have X:=Qh (show l.drop k=x::l.drop (k+1) by rw[←hx];exact List.drop_eq_getElem_cons hlt);have b1:(0:Int)≤(k:Int):=Qn _;have b2:(k:Int)<(l.length:Int):=by omega
   obtain⟨wx,hwx⟩:∃wx,wr.alloc (.cells #[.int .i64 x.id,.bool x.done,.slice x.A x.ops.length x.c] 81)=wx:=⟨_,rfl⟩;obtain⟨zx,hzx⟩:∃zx,wr.heap.size=zx:=⟨_,rfl⟩;have ux:Upd No wr wx:=by rw[←hwx];exact(Upd.refl No wr).alloc _
   have bX:Blk wx zx 81 [.int .i64 x.id,.bool x.done,.slice x.A x.ops.length x.c]:=by rw[←hwx,←hzx];exact Blk.new wr _ _
   have HUX:=Qh (hu.out.trans ux);have HOX:=Qh (Zb hown.out ux (fun _ _=>id));have hxo:¬Own (.slice A5 xs.length c5) zx:=fun e=>by have:=(hown.out.lt _ e).2;omega
   have HXO:=Qh hxo;have BX:=Qh bX;have HST:=Qh (show Zx t (d||decide (t.id≤x.id)) ((if !d&&decide (t.id≤x.id) then xs++[t] else xs)++if x.id=t.id then [] else [x]) (l.drop (k+1))=Zx t false [] l by rw[←hs.out,X.out];rfl);have x0:=bX.cell 0;have x1:=bX.cell 1;have x2:=bX.cell 2;simp only[Qz,Qs]at x0 x1 x2;have e0:=t0 _ HUX.out;have e1:=t1 _ HUX.out;have e2:=t2 _ HUX.out;clear hx ux bX hown hu hs hxo
   by_cases he:x.id=t.id
   ·have heb:(x.id != t.id)=false:=by simpa using he
    have hge:decide (t.id≤x.id)=true:=decide_eq_true (by omega);rw[hge,if_pos he,List.append_nil,Bool.or_true,Bool.and_true]at HST;clear he
    cases d with
    |true=>
     go_wp2
     go_roundg (gk-1)
     case measure=>omega
     case rel=>exact⟨k+1,A5,c5,xs,true,by omega,by go_num,rfl,rfl,Qh (by have:=HST.out;simpa using this),by omega,HOX,HUX⟩
    |false=>
     have HSS:=Qh (show Zx t true (xs++[t]) (l.drop (k+1))=Zx t false [] l by have:=HST.out;simpa using this);clear HST
     go_wp2_with (at_builtin;refine ZS rfl rfl ZaQ (base:=wb.heap.size) (v:= .slice A5 xs.length c5) (n:=xs.length) (xs:=txF xs) (cells:=[.int .i64 t.id,.bool t.done,.slice t.A t.ops.length t.c]) (by rfl) rfl HOX.out rfl rfl (by omega) (by omega) (by have:=HUX.out.size;omega) ?_;intro g7 c7 w7 hown6 hu6 hg6 hlt6;have HO7:=Qh (show w7.ownsRow wb.heap.size 81 3 (.slice (some ⟨g7,0,none⟩) (xs++[t]).length c7) (xs++[t]).length (txF (xs++[t])) by rw[ZaP,List.length_append];exact hown6);have HU7:=Qh (show Upd No wb w7 from HUX.out.then_ hu6 (fun i e=>Or.inr (HOX.out.lt i e).1));have hln:(xs++[t]).length=xs.length+1:=(by simp);have BX7:=Qh (BX.out.upd hu6 HXO.out);have y0:=BX7.out.cell 0;simp only[Qz]at y0;have s0:=t0 _ HU7.out;clear hown6 hu6 hg6)
     go_roundg (gk-1)
     case measure=>omega
     case rel=>exact⟨k+1,some ⟨g7,0,none⟩,c7,xs++[t],true,by omega,by go_num,rfl,by simp,HSS,by omega,HO7,HU7⟩
   ·have heb:(x.id != t.id)=true:=by simpa using he
    rw[if_neg he]at HST;clear he
    cases d with
    |true=>
     have HSS:=Qh (show Zx t true (xs++[x]) (l.drop (k+1))=Zx t false [] l by have:=HST.out;simpa using this);clear HST
     go_wp2_with (at_builtin;refine ZS rfl rfl ZaQ (base:=wb.heap.size) (v:= .slice A5 xs.length c5) (n:=xs.length) (xs:=txF xs) (cells:=[.int .i64 x.id,.bool x.done,.slice x.A x.ops.length x.c]) (by rfl) rfl HOX.out rfl rfl (by omega) (by omega) (by have:=HUX.out.size;omega) ?_;intro g7 c7 w7 hown6 hu6 hg6 hlt6;have HO7:=Qh (show w7.ownsRow wb.heap.size 81 3 (.slice (some ⟨g7,0,none⟩) (xs++[x]).length c7) (xs++[x]).length (txF (xs++[x])) by rw[ZaP,List.length_append];exact hown6);have HU7:=Qh (show Upd No wb w7 from HUX.out.then_ hu6 (fun i e=>Or.inr (HOX.out.lt i e).1));have hln:(xs++[x]).length=xs.length+1:=(by simp);skip;clear hown6 hu6 hg6)
     go_roundg (gk-1)
     case measure=>omega
     case rel=>exact⟨k+1,some ⟨g7,0,none⟩,c7,xs++[x],true,by omega,by go_num,rfl,by simp,HSS,by omega,HO7,HU7⟩
    |false=>
     by_cases hge:t.id≤x.id
     ·have hgb:decide (t.id≤x.id)=true:=decide_eq_true hge;have HSS:=Qh (show Zx t true (xs++[t]++[x]) (l.drop (k+1))=Zx t false [] l by have:=HST.out;rw[hgb]at this;simpa using this);clear HST hge
      go_wp2_with (first
       |(at_builtin;refine ZS rfl rfl ZaQ (base:=wb.heap.size) (v:= .slice A5 xs.length c5) (n:=xs.length) (xs:=txF xs) (cells:=[.int .i64 t.id,.bool t.done,.slice t.A t.ops.length t.c]) (by rfl) rfl HOX.out rfl rfl (by omega) (by omega) (by have:=HUX.out.size;omega) ?_;intro g7 c7 w7 hown6 hu6 hg6 hlt6;have HO7:=Qh (show w7.ownsRow wb.heap.size 81 3 (.slice (some ⟨g7,0,none⟩) (xs.length+1) c7) (xs.length+1) (txF (xs++[t])) by rw[ZaP];exact hown6);have HU7:=Qh (show Upd No wb w7 from HUX.out.then_ hu6 (fun i e=>Or.inr (HOX.out.lt i e).1));have BX7:=Qh (BX.out.upd hu6 HXO.out);have y0:=BX7.out.cell 0;have y1:=BX7.out.cell 1;have y2:=BX7.out.cell 2;simp only[Qz,Qs]at y0 y1 y2;have s0:=t0 _ HU7.out;have hz7:=HU7.out.size;clear hown6 hu6 hg6)
       |(at_builtin;refine ZS rfl rfl ZaQ (base:=wb.heap.size) (v:= .slice (some ⟨g7,0,none⟩) (xs.length+1) c7) (n:=xs.length+1) (xs:=txF (xs++[t])) (cells:=[.int .i64 x.id,.bool x.done,.slice x.A x.ops.length x.c]) (by rfl) rfl HO7.out rfl rfl (by omega) (by omega) (by omega) ?_;intro g8 c8 w8 hown8 hu8 hg8 hlt8;have HO8:=Qh (show w8.ownsRow wb.heap.size 81 3 (.slice (some ⟨g8,0,none⟩) (xs++[t]++[x]).length c8) (xs++[t]++[x]).length (txF (xs++[t]++[x])) by rw[ZaP,List.length_append,List.length_append];exact hown8);have HU8:=Qh (show Upd No wb w8 from HU7.out.then_ hu8 (fun i e=>Or.inr (HO7.out.lt i e).1));have hln:(xs++[t]++[x]).length=xs.length+1+1:=(by simp);clear hown8 hu8 hg8))
      go_roundg (gk-1)
      case measure=>omega
      case rel=>exact⟨k+1,some ⟨g8,0,none⟩,c8,xs++[t]++[x],true,by omega,by go_num,rfl,by simp,HSS,by omega,HO8,HU8⟩
     ·have hgb:decide (t.id≤x.id)=false:=decide_eq_false hge;have HSS:=Qh (show Zx t false (xs++[x]) (l.drop (k+1))=Zx t false [] l by have:=HST.out;rw[hgb]at this;simpa using this);clear HST hge
      go_wp2_with (at_builtin;refine ZS rfl rfl ZaQ (base:=wb.heap.size) (v:= .slice A5 xs.length c5) (n:=xs.length) (xs:=txF xs) (cells:=[.int .i64 x.id,.bool x.done,.slice x.A x.ops.length x.c]) (by rfl) rfl HOX.out rfl rfl (by omega) (by omega) (by have:=HUX.out.size;omega) ?_;intro g7 c7 w7 hown6 hu6 hg6 hlt6;have HO7:=Qh (show w7.ownsRow wb.heap.size 81 3 (.slice (some ⟨g7,0,none⟩) (xs++[x]).length c7) (xs++[x]).length (txF (xs++[x])) by rw[ZaP,List.length_append];exact hown6);have HU7:=Qh (show Upd No wb w7 from HUX.out.then_ hu6 (fun i e=>Or.inr (HOX.out.lt i e).1));have hln:(xs++[x]).length=xs.length+1:=(by simp);skip;clear hown6 hu6 hg6)
      go_roundg (gk-1)
      case measure=>omega
      case rel=>exact⟨k+1,some ⟨g7,0,none⟩,c7,xs++[x],false,by omega,by go_num,rfl,by simp,HSS,by omega,HO7,HU7⟩
  ·obtain rfl:k=l.length:=by omega
   have HS:=Qh (show(if d then xs else xs++[t])=Zx t false [] l by rw[←hs.out,List.drop_length];rfl);have e0:=t0 _ hu.out;have e1:=t1 _ hu.out;have e2:=t2 _ hu.out
   cases d with
   |true=>
    have HX:=Qh (show xs=Zx t false [] l from HS.out);clear hs HS;go_wp2
    go_ret
    rw[←HX.out];exact⟨A5,c5,rfl,ZJ hown.out UB.out.size,UB.out.trans hu.out⟩
   |false=>
    have HX:=Qh (show xs++[t]=Zx t false [] l from HS.out);clear hs HS
    go_wp2_with (at_builtin;refine ZS rfl rfl ZaQ (base:=wb.heap.size) (v:= .slice A5 xs.length c5) (n:=xs.length) (xs:=txF xs) (cells:=[.int .i64 t.id,.bool t.done,.slice t.A t.ops.length t.c]) (by rfl) rfl hown.out rfl rfl (by omega) (by omega) (by have:=hu.out.size;omega) ?_;intro g7 c7 w7 hown6 hu6 hg6 hlt6;have HO7:=Qh (show w7.ownsRow wb.heap.size 81 3 (.slice (some ⟨g7,0,none⟩) (xs++[t]).length c7) (xs++[t]).length (txF (xs++[t])) by rw[ZaP,List.length_append];exact hown6);have HU7:=Qh (show Upd No wb w7 from hu.out.then_ hu6 (fun i e=>Or.inr (hown.out.lt i e).1));have hln:(xs++[t]).length=xs.length+1:=(by simp);skip;clear hown6 hu6 hg6)
    go_ret
    rw[←HX.out];exact⟨some ⟨g7,0,none⟩,c7,by simp,ZJ HO7.out UB.out.size,UB.out.trans HU7.out⟩
end
end Go.Proofs.YtblplapkdmhikaaGreat
