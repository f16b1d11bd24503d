/- An index, the document's: what lacks. -/
import Derived.Test.YtblplapkdmhikaaGreatDxbx
namespace Go.Proofs.YtblplapkdmhikaaGreat
set_option linter.unusedVariables false
set_option linter.unusedSimpArgs false
section
open Go.RowKit
set_option maxRecDepth 100000 in
theorem Zje (w:World) (x y:Ver):Calls Tryz.prog 267 #[.agg x.cells.toArray,.agg y.cells.toArray] w fun e w'=>e= .returned (.bool (Zi x y))∧Upd No w w':=by
 obtain⟨xt,xk,xn⟩:=x;obtain⟨yt,yk,yn⟩:=y;unfold Ver.cells;simp only;obtain⟨z,hz⟩:∃z,w.heap.size=z:=⟨_,rfl⟩;obtain⟨w1,hw1⟩:∃w1,w.alloc (.cells #[.int .i64 xt,.int .i64 xk,.int .i64 xn] 36)=w1:=⟨_,rfl⟩;have s1:w1.heap.size=z+1:=by rw[←hw1,←hz];simp
 obtain⟨w2,hw2⟩:∃w2,w1.alloc (.cells #[.int .i64 yt,.int .i64 yk,.int .i64 yn] 36)=w2:=⟨_,rfl⟩;have u1:Upd No w w1:=by rw[←hw1];exact(Upd.refl No w).alloc _
 have u2:Upd No w1 w2:=by rw[←hw2];exact(Upd.refl No w1).alloc _
 have b1:Blk w1 z 36 [.int .i64 xt,.int .i64 xk,.int .i64 xn]:=by rw[←hw1,←hz];exact Blk.new w _ _
 have b2:Blk w2 (z+1) 36 [.int .i64 yt,.int .i64 yk,.int .i64 yn]:=by rw[←hw2,←s1];exact Blk.new w1 _ _
 have b3:=b1.upd u2 id;have x0:=b3.cell 0;have x1:=b3.cell 1;have x2:=b3.cell 2;have y0:=b2.cell 0;have y1:=b2.cell 1;have y2:=b2.cell 2;simp only[Qz,Qs]at x0 x1 x2 y0 y1 y2;have HU:=Qh (u1.trans u2);clear u1 u2 b1 b2 b3
 by_cases h1:xt=yt
 ·have c1:(xt != yt)=false:=by simpa using h1
  by_cases h2:xk=yk
  ·have c2:(xk != yk)=false:=by simpa using h2
   obtain⟨bv,hbv⟩:∃b,decide (xn<yn)=b:=⟨_,rfl⟩;have HR:=Qh (show Zi ⟨xt,xk,xn⟩ ⟨yt,yk,yn⟩=bv by unfold Zi;simp only[h1,h2,if_true];exact hbv);clear h1 h2
   go_enter Tryz.func267,Tryz.ntmps267
   go_wp2
   go_ret
   exact⟨by rw[HR.out];rfl,HU.out⟩
  ·have c2:(xk != yk)=true:=by simpa using h2
   obtain⟨bv,hbv⟩:∃b,decide (xk<yk)=b:=⟨_,rfl⟩;have HR:=Qh (show Zi ⟨xt,xk,xn⟩ ⟨yt,yk,yn⟩=bv by unfold Zi;simp only[h1,if_true,if_neg h2];exact hbv);clear h1 h2
   go_enter Tryz.func267,Tryz.ntmps267
   go_wp2
   go_ret
   exact⟨by rw[HR.out];rfl,HU.out⟩
 ·have c1:(xt != yt)=true:=by simpa using h1
  obtain⟨bv,hbv⟩:∃b,decide (xt<yt)=b:=⟨_,rfl⟩;have HR:=Qh (show Zi ⟨xt,xk,xn⟩ ⟨yt,yk,yn⟩=bv by unfold Zi;simp only[if_neg h1];exact hbv);clear h1
  go_enter Tryz.func267,Tryz.ntmps267
  go_wp2
  go_ret
  exact⟨by rw[HR.out];rfl,HU.out⟩
def Zae (v:Ver) (done:Bool) (out:List Ver):List Ver→List Ver
 |[]=>if done then out else out++[v]
 |x::l=>Zae v (done|| !Zi x v) ((if !done&& !Zi x v then out++[v] else out)++if x=v then [] else [x]) l
theorem Zdz (v:Ver):∀(l out:List Ver),Zae v true out l=out++l.filter fun x=> !(x==v)
 |[],out=>by simp[Zae]
 |x::l,out=>by
  unfold Zae;simp only[Bool.true_or,Bool.not_true,Bool.false_and,Bool.false_eq_true,if_false];rw[Zdz v l]
  by_cases e:x=v<;>simp[e]
theorem Ze6 (v:Ver):∀(l out:List Ver),Zae v false out l=out++ZM v l
 |[],out=>by simp[Zae,ZM]
 |x::l,out=>by
  unfold Zae ZM
  cases h:Zi x v
  ·simp only[Bool.not_false,Bool.or_true,Bool.and_true,Bool.false_eq_true,if_true,if_false];rw[Zdz]
   by_cases e:x=v<;>simp[e]
  ·have e:x≠v:=fun e=>Zbx v (by rw[e]at h;exact h)
   simp only[Bool.not_true,Bool.or_false,Bool.and_false,Bool.false_eq_true,if_false,if_true,if_neg e];rw[Ze6 v l];simp
theorem Zde (v:Ver):∀l:List Ver,(ZM v l).length≤l.length+1
 |[]=>by simp[ZM]
 |x::l=>by
  unfold ZM
  split
  ·simp only[List.length_cons];have:=Zde v l;omega
  ·simp only[List.length_cons];have:=List.length_filter_le (fun z=> !(z==v)) (x::l);simp only[List.length_cons]at this;omega
theorem ZaU (l:List Ver) (x:Ver):((l++[x]).map Ver.cells).flatten=(l.map Ver.cells).flatten++[.int .i64 x.tx,.int .i64 x.key,.int .i64 x.nth]:=by simp[Ver.cells]
set_option maxRecDepth 100000 in
set_option maxHeartbeats 4000000 in
theorem Zjd {F:Nat→Prop} {w:World} {A:Option Addr} {c:Nat} {l:List Ver} (t:Ver) (H:VersR F w A l) (hl:l.length≤10000000):
  Calls Tryz.prog 205 #[.slice A l.length c,.agg t.cells.toArray] w (Za9 w (ZM t l)):=by
 obtain⟨z,hz⟩:∃z,w.heap.size=z:=⟨_,rfl⟩;obtain⟨wb,hwb⟩:∃wb,w.alloc (.cells #[.int .i64 t.tx,.int .i64 t.key,.int .i64 t.nth] 36)=wb:=⟨_,rfl⟩;have ub:Upd No w wb:=by rw[←hwb];exact(Upd.refl No w).alloc _
 have bb:Blk wb z 36 [.int .i64 t.tx,.int .i64 t.key,.int .i64 t.nth]:=by rw[←hwb,←hz];exact Blk.new w _ _
 have t0:∀W,Upd No wb W→W.cell? ⟨z,0,none⟩=some (.int .i64 t.tx):=fun W u=>(bb.upd u id).cell 0
 have t1:∀W,Upd No wb W→W.cell? ⟨z,1,none⟩=some (.int .i64 t.key):=fun W u=>(bb.upd u id).cell 1
 have t2:∀W,Upd No wb W→W.cell? ⟨z,2,none⟩=some (.int .i64 t.nth):=fun W u=>(bb.upd u id).cell 2
 have UB:=Qh ub;have HH:=Qh (VersR.upd H ub (fun _ _=>id));have HE:=Qh (show Zae t false [] l=ZM t l by rw[Ze6];rfl);have hbz:Upd No wb wb:=Upd.refl _ _;have qG:∀(op:BinOp) (x y:Operand) (xs ys:Array Value) (w:World),(eqGuard op 36 x y (.agg xs) (.agg ys)).run Tryz.prog w= .ok () w:=fun op x y xs ys w=>run_eqGuard_agg w op _ x y xs ys (by kernel_rfl)
 have CLs:=Qh (fun W x=>Zje W x t);unfold Ver.cells at CLs ⊢;clear ub bb H
 go_enter Tryz.func205,Tryz.ntmps205
 go_wp2
 go_loopg [5,6,11] l.length (fun gk s dn i wr=>∃(k:Nat) (A5:Option Addr) (c5:Nat) (xs:List Ver) (d:Bool),k+gk=l.length∧i= .int .i64 (k:Int)∧dn= .bool d∧s= .slice A5 xs.length c5∧Hid (Zae t d xs (l.drop k)=ZM t l)∧xs.length≤2*k∧
  Hid (wr.ownsRow wb.heap.size 36 3 (.slice A5 xs.length c5) xs.length (xs.map Ver.cells).flatten)∧Hid (Upd No wb wr))
 case atStart=>exact⟨0,none,0,[],false,by omega,rfl,rfl,rfl,HE,by simp,Qh (World.ownsRow_nil _ _ _ _),Qh hbz⟩
 case round=>
  obtain⟨k,A5,c5,xs,d,hgk,rfl,rfl,rfl,hs,hxl,hown,hu⟩:=hrel
  by_cases hlt:k<l.length
  ·obtain⟨ad,hAd,q0,q1,q2⟩:=VersR.at_ (VersR.upd HH.out hu.out (fun _ _=>id)) hlt;obtain⟨x,hx⟩:∃x,l[k]=x:=⟨_,rfl⟩;rw[hx]at q0 q1 q2;subst hAd;have X:=Qh (show l.drop k=x::l.drop (k+1) by rw[←hx];exact List.drop_eq_getElem_cons hlt);have b1:(0:Int)≤(k:Int):=Qn _;have b2:(k:Int)<(l.length:Int):=by omega
   obtain⟨wx,hwx⟩:∃wx,wr.alloc (.cells #[.int .i64 x.tx,.int .i64 x.key,.int .i64 x.nth] 36)=wx:=⟨_,rfl⟩;obtain⟨zx,hzx⟩:∃zx,wr.heap.size=zx:=⟨_,rfl⟩;have ux:Upd No wr wx:=by rw[←hwx];exact(Upd.refl No wr).alloc _
   have bX:Blk wx zx 36 [.int .i64 x.tx,.int .i64 x.key,.int .i64 x.nth]:=by rw[←hwx,←hzx];exact Blk.new wr _ _
   have HUX:=Qh (hu.out.trans ux);have HOX:=Qh (Zb hown.out ux (fun _ _=>id));have hxo:¬Own (.slice A5 xs.length c5) zx:=fun e=>by have:=(hown.out.lt _ e).2;omega
   have HXO:=Qh hxo;have BX:=Qh bX;have HST:=Qh (show Zae t (d|| !Zi x t) ((if !d&& !Zi x t then xs++[t] else xs)++if x=t then [] else [x]) (l.drop (k+1))=ZM t l by rw[←hs.out,X.out];rfl);have HE:=fun W=>ZeR W x t
   obtain⟨ne,hne⟩:∃b,(x != t)=b:=⟨_,rfl⟩;rw[hne]at HE;obtain⟨lb,hlb⟩:∃b,Zi x t=b:=⟨_,rfl⟩;have CL:=Qh (fun W=>CLs.out W x);rw[hlb]at CL HST;have HNE:=Qh hne;have x0:=bX.cell 0;have x1:=bX.cell 1;have x2:=bX.cell 2;simp only[Qz,Qs]at x0 x1 x2;have e0:=t0 _ HUX.out;have e1:=t1 _ HUX.out;have e2:=t2 _ HUX.out;clear hx ux bX hown hu hs hxo hne hlb
   cases d with
   |true=>
    cases ne with
    |false=>
     have hxt:x=t:=by have:=HNE.out;simpa using this
     have HSS:=Qh (show Zae t true xs (l.drop (k+1))=ZM t l by have:=HST.out;rw[if_pos hxt]at this;simpa using this);clear hxt HST;go_wp2
     go_roundg (gk-1)
     case measure=>omega
     case rel=>exact⟨k+1,A5,c5,xs,true,by omega,by go_num,rfl,rfl,HSS,by omega,HOX,HUX⟩
    |true=>
     have hxt:¬x=t:=by have:=HNE.out;simpa using this
     have HSS:=Qh (show Zae t true (xs++[x]) (l.drop (k+1))=ZM t l by have:=HST.out;rw[if_neg hxt]at this;simpa using this);clear hxt HST
     go_wp2_with (at_builtin;refine ZS rfl rfl Zay (base:=wb.heap.size) (v:= .slice A5 xs.length c5) (n:=xs.length) (xs:=(xs.map Ver.cells).flatten) (cells:=[.int .i64 x.tx,.int .i64 x.key,.int .i64 x.nth]) (by rfl) rfl HOX.out rfl rfl (by omega) (by omega) (by have:=HUX.out.size;omega) ?_;intro g7 c7 w7 hown6 hu6 hg6 hlt6;have HO7:=Qh (show w7.ownsRow wb.heap.size 36 3 (.slice (some ⟨g7,0,none⟩) (xs++[x]).length c7) (xs++[x]).length ((xs++[x]).map Ver.cells).flatten by rw[ZaU,List.length_append];exact hown6);have HU7:=Qh (show Upd No wb w7 from HUX.out.then_ hu6 (fun i e=>Or.inr (HOX.out.lt i e).1));have hln:(xs++[x]).length=xs.length+1:=(by simp);skip;clear hown6 hu6 hg6)
     go_roundg (gk-1)
     case measure=>omega
     case rel=>exact⟨k+1,some ⟨g7,0,none⟩,c7,xs++[x],true,by omega,by go_num,rfl,by simp,HSS,by omega,HO7,HU7⟩
   |false=>
    go_wp2_with fail
    refine(CL.out _).mono ?_;rintro e w4 ⟨rfl,hu4⟩;have HOY:=Qh (Zb HOX.out hu4 (fun _ _=>id));have HUY:=Qh (HUX.out.trans hu4);have BY:=Qh (BX.out.upd hu4 id);have y0:=BY.out.cell 0;have y1:=BY.out.cell 1;have y2:=BY.out.cell 2;simp only[Qz,Qs]at y0 y1 y2;have s0:=t0 _ HUY.out;have s1:=t1 _ HUY.out;have s2:=t2 _ HUY.out;clear hu4 e0 e1 e2 x0 x1 x2 q0 q1 q2
    cases lb with
    |true=>
     cases ne with
     |false=>
      have hxt:x=t:=by have:=HNE.out;simpa using this
      have HSS:=Qh (show Zae t false xs (l.drop (k+1))=ZM t l by have:=HST.out;rw[if_pos hxt]at this;simpa using this);clear hxt HST;go_wp2
      go_roundg (gk-1)
      case measure=>omega
      case rel=>exact⟨k+1,A5,c5,xs,false,by omega,by go_num,rfl,rfl,HSS,by omega,HOY,HUY⟩
     |true=>
      have hxt:¬x=t:=by have:=HNE.out;simpa using this
      have HSS:=Qh (show Zae t false (xs++[x]) (l.drop (k+1))=ZM t l by have:=HST.out;rw[if_neg hxt]at this;simpa using this);clear hxt HST
      go_wp2_with (at_builtin;refine ZS rfl rfl Zay (base:=wb.heap.size) (v:= .slice A5 xs.length c5) (n:=xs.length) (xs:=(xs.map Ver.cells).flatten) (cells:=[.int .i64 x.tx,.int .i64 x.key,.int .i64 x.nth]) (by rfl) rfl HOY.out rfl rfl (by omega) (by omega) (by have:=HUY.out.size;omega) ?_;intro g7 c7 w7 hown6 hu6 hg6 hlt6;have HO7:=Qh (show w7.ownsRow wb.heap.size 36 3 (.slice (some ⟨g7,0,none⟩) (xs++[x]).length c7) (xs++[x]).length ((xs++[x]).map Ver.cells).flatten by rw[ZaU,List.length_append];exact hown6);have HU7:=Qh (show Upd No wb w7 from HUY.out.then_ hu6 (fun i e=>Or.inr (HOY.out.lt i e).1));have hln:(xs++[x]).length=xs.length+1:=(by simp);skip;clear hown6 hu6 hg6)
      go_roundg (gk-1)
      case measure=>omega
      case rel=>exact⟨k+1,some ⟨g7,0,none⟩,c7,xs++[x],false,by omega,by go_num,rfl,by simp,HSS,by omega,HO7,HU7⟩
    |false=>
     have hyo:¬Own (.slice A5 xs.length c5) zx:=HXO.out
     cases ne with
     |false=>
      have hxt:x=t:=by have:=HNE.out;simpa using this
      have HSS:=Qh (show Zae t true (xs++[t]) (l.drop (k+1))=ZM t l by have:=HST.out;rw[if_pos hxt]at this;simpa using this);clear hxt HST
      go_wp2_with (at_builtin;refine ZS rfl rfl Zay (base:=wb.heap.size) (v:= .slice A5 xs.length c5) (n:=xs.length) (xs:=(xs.map Ver.cells).flatten) (cells:=[.int .i64 t.tx,.int .i64 t.key,.int .i64 t.nth]) (by rfl) rfl HOY.out rfl rfl (by omega) (by omega) (by have:=HUY.out.size;omega) ?_;intro g7 c7 w7 hown6 hu6 hg6 hlt6;have HO7:=Qh (show w7.ownsRow wb.heap.size 36 3 (.slice (some ⟨g7,0,none⟩) (xs++[t]).length c7) (xs++[t]).length ((xs++[t]).map Ver.cells).flatten by rw[ZaU,List.length_append];exact hown6);have HU7:=Qh (show Upd No wb w7 from HUY.out.then_ hu6 (fun i e=>Or.inr (HOY.out.lt i e).1));have hln:(xs++[t]).length=xs.length+1:=(by simp);have BZ:=Qh (BY.out.upd hu6 hyo);have z0:=BZ.out.cell 0;have z1:=BZ.out.cell 1;have z2:=BZ.out.cell 2;simp only[Qz,Qs]at z0 z1 z2;have r0:=t0 _ HU7.out;have r1:=t1 _ HU7.out;have r2:=t2 _ HU7.out;clear hown6 hu6 hg6)
      go_roundg (gk-1)
      case measure=>omega
      case rel=>exact⟨k+1,some ⟨g7,0,none⟩,c7,xs++[t],true,by omega,by go_num,rfl,by simp,HSS,by omega,HO7,HU7⟩
     |true=>
      have hxt:¬x=t:=by have:=HNE.out;simpa using this
      have HSS:=Qh (show Zae t true (xs++[t]++[x]) (l.drop (k+1))=ZM t l by have:=HST.out;rw[if_neg hxt]at this;simpa using this);clear hxt HST
      go_wp2_with (first
       |(at_builtin;refine ZS rfl rfl Zay (base:=wb.heap.size) (v:= .slice A5 xs.length c5) (n:=xs.length) (xs:=(xs.map Ver.cells).flatten) (cells:=[.int .i64 t.tx,.int .i64 t.key,.int .i64 t.nth]) (by rfl) rfl HOY.out rfl rfl (by omega) (by omega) (by have:=HUY.out.size;omega) ?_;intro g7 c7 w7 hown6 hu6 hg6 hlt6;have HO7:=Qh (show w7.ownsRow wb.heap.size 36 3 (.slice (some ⟨g7,0,none⟩) (xs.length+1) c7) (xs.length+1) ((xs++[t]).map Ver.cells).flatten by rw[ZaU];exact hown6);have HU7:=Qh (show Upd No wb w7 from HUY.out.then_ hu6 (fun i e=>Or.inr (HOY.out.lt i e).1));have BZ:=Qh (BY.out.upd hu6 hyo);have z0:=BZ.out.cell 0;have z1:=BZ.out.cell 1;have z2:=BZ.out.cell 2;simp only[Qz,Qs]at z0 z1 z2;have r0:=t0 _ HU7.out;have r1:=t1 _ HU7.out;have r2:=t2 _ HU7.out;have hz7:=HU7.out.size;clear hown6 hu6 hg6)
       |(at_builtin;refine ZS rfl rfl Zay (base:=wb.heap.size) (v:= .slice (some ⟨g7,0,none⟩) (xs.length+1) c7) (n:=xs.length+1) (xs:=((xs++[t]).map Ver.cells).flatten) (cells:=[.int .i64 x.tx,.int .i64 x.key,.int .i64 x.nth]) (by rfl) rfl HO7.out rfl rfl (by omega) (by omega) (by omega) ?_;intro g8 c8 w8 hown8 hu8 hg8 hlt8;have HO8:=Qh (show w8.ownsRow wb.heap.size 36 3 (.slice (some ⟨g8,0,none⟩) (xs++[t]++[x]).length c8) (xs++[t]++[x]).length ((xs++[t]++[x]).map Ver.cells).flatten by rw[ZaU,List.length_append,List.length_append];exact hown8);have HU8:=Qh (show Upd No wb w8 from HU7.out.then_ hu8 (fun i e=>Or.inr (HO7.out.lt i e).1));have hln:(xs++[t]++[x]).length=xs.length+1+1:=(by simp);clear hown8 hu8 hg8))
      go_roundg (gk-1)
      case measure=>omega
      case rel=>exact⟨k+1,some ⟨g8,0,none⟩,c8,xs++[t]++[x],true,by omega,by go_num,rfl,by simp,HSS,by omega,HO8,HU8⟩
  ·obtain rfl:k=l.length:=by omega
   have HS:=Qh (show(if d then xs else xs++[t])=ZM t l by rw[←hs.out,List.drop_length];rfl);have e0:=t0 _ hu.out;have e1:=t1 _ hu.out;have e2:=t2 _ hu.out
   cases d with
   |true=>
    have HX:=Qh (show xs=ZM t l from HS.out);clear hs HS;go_wp2
    go_ret
    rw[←HX.out];exact⟨A5,c5,rfl,ZJ hown.out UB.out.size,UB.out.trans hu.out⟩
   |false=>
    have HX:=Qh (show xs++[t]=ZM t l from HS.out);clear hs HS
    go_wp2_with (at_builtin;refine ZS rfl rfl Zay (base:=wb.heap.size) (v:= .slice A5 xs.length c5) (n:=xs.length) (xs:=(xs.map Ver.cells).flatten) (cells:=[.int .i64 t.tx,.int .i64 t.key,.int .i64 t.nth]) (by rfl) rfl hown.out rfl rfl (by omega) (by omega) (by have:=hu.out.size;omega) ?_;intro g7 c7 w7 hown6 hu6 hg6 hlt6;have HO7:=Qh (show w7.ownsRow wb.heap.size 36 3 (.slice (some ⟨g7,0,none⟩) (xs++[t]).length c7) (xs++[t]).length ((xs++[t]).map Ver.cells).flatten by rw[ZaU,List.length_append];exact hown6);have HU7:=Qh (show Upd No wb w7 from hu.out.then_ hu6 (fun i e=>Or.inr (hown.out.lt i e).1));have hln:(xs++[t]).length=xs.length+1:=(by simp);skip;clear hown6 hu6 hg6)
    go_ret
    rw[←HX.out];exact⟨some ⟨g7,0,none⟩,c7,by simp,ZJ HO7.out UB.out.size,UB.out.trans HU7.out⟩
theorem TxsY.hist {F:Nat→Prop} {w:World} {A:Option Addr} {c:Nat} {l:List HTx} (h:TxsY F w A l) (hc:l.length≤c) (hl:l.length≤1000):Hist.lies F w ⟨l,[],A,c,none,0⟩:=
 ⟨h.1,(fun hn=>absurd rfl hn),h.2,(fun o ho=>by cases ho),hc,Nat.le_refl _,(by show l.length≤_;omega),(by show 0≤_;omega)⟩
theorem ZcR (q:List HTx):∀(l acc:List Ver),(Z8 q acc l).length≤acc.length+l.length
 |[],acc=>by simp[Z8]
 |v::l,acc=>by
  unfold Z8;refine Nat.le_trans (ZcR q l _) ?_;rw[List.length_cons]
  split
  ·omega
  ·have:=Zde v acc;omega
set_option maxRecDepth 100000 in
set_option maxHeartbeats 4000000 in
theorem Zif {F:Nat→Prop} {w:World} {A:Option Addr} {c:Nat} {l:List HTx} (H:TxsY F w A l) (hc:l.length≤c) (hl:l.length≤1000) (ho:∀t∈l,t.ops.length≤4095):
  Calls Tryz.prog 127 #[.slice A l.length c] w (Za9 w (Zaq l)):=by
 have HH:=Qh H.1;have HT:=Qh H.2;have HHI:=Qh (H.hist hc hl);have HOL:=Qh ho;have HL0:=Qh (show ZaK l [] (l.drop 0)=Zaq l from rfl);obtain⟨R,hR⟩:∃R,Zaq l=R:=⟨_,rfl⟩;rw[hR]at HL0 ⊢;clear H ho hR
 go_enter Tryz.func127,Tryz.ntmps127
 go_wp2
 go_loopg [3,10] l.length (fun gk s i wr=>∃(k:Nat) (A5:Option Addr) (c5:Nat) (xs:List Ver),k+gk=l.length∧i= .int .i64 (k:Int)∧s= .slice A5 xs.length c5∧Hid (ZaK l xs (l.drop k)=R)∧xs.length≤4095*k∧
  Hid (wr.ownsRow w.heap.size 36 3 (.slice A5 xs.length c5) xs.length (xs.map Ver.cells).flatten)∧Hid (Upd No w wr))
 case atStart=>exact⟨0,none,0,[],by omega,rfl,rfl,HL0,by simp,Qh (World.ownsRow_nil _ _ _ _),Qh (Upd.refl _ _)⟩
 case round=>
  obtain⟨k,A5,c5,xs,hgk,rfl,rfl,hs,hxl,hown,hu⟩:=hrel
  by_cases hlt:k<l.length
  ·obtain⟨ad,hAd,q0,q1,q2⟩:=ZbC (Recs.upd HH.out hu.out (fun _ _=>id)) hlt;obtain⟨x,hx⟩:∃x,l[k]=x:=⟨_,rfl⟩;simp only[hx]at q0 q1 q2;subst hAd;have X:=Qh hx;have b1:(0:Int)≤(k:Int):=Qn _;have b2:(k:Int)<(l.length:Int):=by omega
   obtain⟨wx,hwx⟩:∃wx,wr.alloc (.cells #[.int .i64 x.id,.bool x.done,.slice x.A x.ops.length x.c] 81)=wx:=⟨_,rfl⟩;obtain⟨zx,hzx⟩:∃zx,wr.heap.size=zx:=⟨_,rfl⟩;have ux:Upd No wr wx:=by rw[←hwx];exact(Upd.refl No wr).alloc _
   have bX:Blk wx zx 81 [.int .i64 x.id,.bool x.done,.slice x.A x.ops.length x.c]:=by rw[←hwx,←hzx];exact Blk.new wr _ _
   have HUX:=Qh (hu.out.trans ux);have BX:=Qh bX;have x0:=bX.cell 0;have x1:=bX.cell 1;have x2:=bX.cell 2;simp only[Qz,Qs]at x0 x1 x2;have hxo:=HOL.out x (by rw[←hx];exact List.getElem_mem hlt);have hxt:=HT.out x (by rw[←hx];exact List.getElem_mem hlt);have XD:=Qh (show l.drop k=x::l.drop (k+1) by rw[←hx];exact List.drop_eq_getElem_cons hlt);have HOX:=Qh (Zb hown.out ux (fun _ _=>id));have CN:=Qh (Ze5 F wx x.id x.done x.A x.c x.ops ((hxt.upd (hu.out.trans ux) (fun _ _=>id)).1) (by omega));obtain⟨nl,hnl⟩:∃nl,Zw x.id [] x.ops=nl:=⟨_,rfl⟩;have hnle:nl.length≤4095:=by rw[←hnl];have:=Zbs x.id x.ops [];simp at this;omega
   obtain⟨T,hT⟩:∃T,Z8 l xs nl=T:=⟨_,rfl⟩;have HTT:=Qh (show ZaK l T (l.drop (k+1))=R by rw[←hs.out,XD.out,←hT,←hnl,ZcO];rfl);have hTl:T.length≤xs.length+nl.length:=by rw[←hT];exact ZcR l nl xs
   have HT0:=Qh (show Z8 l xs (nl.drop 0)=T from hT);rw[hnl]at CN;clear hx ux bX hown hu hxo hxt hnl hT hs
   go_wp2_with fail
   refine(CN.out).mono ?_;rintro e w3 ⟨A3,c3,rfl,ho3,hu3⟩;have HV3:=Qh (ZU ho3);have HO3:=Qh (Zb HOX.out hu3 (fun _ _=>id));have HU3:=Qh (HUX.out.trans hu3);clear ho3 hu3 q0 q1 q2 x0 x1 x2;go_wp2;obtain⟨wo,hwo⟩:∃wo,wo=wr:=⟨_,rfl⟩;subst hwo
   generalize gk=GK at*
   go_loopg [3,17] nl.length (fun gk s i wr=>∃(j:Nat) (A6:Option Addr) (c6:Nat) (ys:List Ver),j+gk=nl.length∧i= .int .i64 (j:Int)∧s= .slice A6 ys.length c6∧Hid (Z8 l ys (nl.drop j)=T)∧ys.length≤xs.length+j∧
    Hid (wr.ownsRow w.heap.size 36 3 (.slice A6 ys.length c6) ys.length (ys.map Ver.cells).flatten)∧Hid (Upd No w3 wr))
   case atStart=>exact⟨0,A5,c5,xs,by omega,rfl,rfl,HT0,by omega,HO3,Qh (Upd.refl _ _)⟩
   case round=>
    obtain⟨j,A6,c6,ys,hgj,rfl,rfl,hs,hyl,hown,hu⟩:=hrel
    by_cases hltj:j<nl.length
    ·obtain⟨ad3,hA3,p0,p1,p2⟩:=VersR.at_ (VersR.upd HV3.out hu.out (fun _ _=>id)) hltj;obtain⟨⟨vt,vk,vn⟩,hv⟩:∃v,nl[j]=v:=⟨_,rfl⟩;rw[hv]at p0 p1 p2;simp only at p0 p1 p2;subst hA3;have j1:(0:Int)≤(j:Int):=Qn _;have j2:(j:Int)<(nl.length:Int):=by omega
     obtain⟨wy,hwy⟩:∃wy,wr.alloc (.cells #[.int .i64 vt,.int .i64 vk,.int .i64 vn] 36)=wy:=⟨_,rfl⟩;obtain⟨zy,hzy⟩:∃zy,wr.heap.size=zy:=⟨_,rfl⟩;have uy:Upd No wr wy:=by rw[←hwy];exact(Upd.refl No wr).alloc _
     have bY:Blk wy zy 36 [.int .i64 vt,.int .i64 vk,.int .i64 vn]:=by rw[←hwy,←hzy];exact Blk.new wr _ _
     have y0:=bY.cell 0;have y1:=bY.cell 1;have y2:=bY.cell 2;simp only[Qz,Qs]at y0 y1 y2;have HUY:=Qh (hu.out.trans uy);have HOY:=Qh (Zb hown.out uy (fun _ _=>id));have BY:=Qh bY;obtain⟨hb,hhb⟩:∃b,Zcy l ⟨vt,vk,vn⟩=b:=⟨_,rfl⟩
     have HST:=Qh (show Z8 l (if hb then ys else ZM ⟨vt,vk,vn⟩ ys) (nl.drop (j+1))=T by
      rw[←hs.out,List.drop_eq_getElem_cons hltj,hv]
      show _=Z8 l (if Za7 l ⟨vt,vk,vn⟩ then ys else _) _
      rw[←ZjH,hhb])
     have CH:=Qh (Zk2 F wy l [] _ c none 0 ⟨vt,vk,vn⟩ (HHI.out.upd (HU3.out.trans HUY.out) (fun _ _=>id)));rw[hhb]at CH;unfold Ver.cells at CH;simp only[List.length_nil]at CH;clear hv uy bY hu hown hs hhb
     go_wp2_with fail
     refine(CH.out).mono ?_;rintro e w4 ⟨rfl,hu4⟩;have HOZ:=Qh (Zb HOY.out hu4 (fun _ _=>id));have HUZ:=Qh (HUY.out.trans hu4);have BZ:=Qh (BY.out.upd hu4 id);clear hu4 y0 y1 y2 p0 p1 p2
     cases hb with
     |true=>
      have HSS:=Qh (show Z8 l ys (nl.drop (j+1))=T from HST.out);clear HST;go_wp2
      go_roundg (gk-1)
      case measure=>omega
      case rel=>exact⟨j+1,A6,c6,ys,by omega,by go_num,rfl,HSS,by omega,HOZ,HUZ⟩
     |false=>
      have HSS:=Qh (show Z8 l (ZM ⟨vt,vk,vn⟩ ys) (nl.drop (j+1))=T from HST.out);have hpl:=Zde ⟨vt,vk,vn⟩ ys;have CP:=Qh (Zjd (c:=c6) (⟨vt,vk,vn⟩:Ver) (ZU HOZ.out) (by omega));unfold Ver.cells at CP;have y0:=BZ.out.cell 0;have y1:=BZ.out.cell 1;have y2:=BZ.out.cell 2;simp only[Qz,Qs]at y0 y1 y2;obtain⟨P,hP⟩:∃P,ZM ⟨vt,vk,vn⟩ ys=P:=⟨_,rfl⟩;rw[hP]at HSS hpl CP;clear HST hP
      go_wp2_with fail
      refine(CP.out).mono ?_;rintro e w5 ⟨A7,c7,rfl,ho5,hu5⟩;have HOA:=Qh (ZJ (b2:=w.heap.size) ho5 (HU3.out.trans HUZ.out).size);have HUA:=Qh (HUZ.out.trans hu5);clear ho5 hu5 y0 y1 y2;go_wp2
      go_roundg (gk-1)
      case measure=>omega
      case rel=>exact⟨j+1,A7,c7,P,by omega,by go_num,rfl,HSS,by omega,HOA,HUA⟩
    ·obtain rfl:j=nl.length:=by omega
     have HYT:=Qh (show ys=T by rw[←hs.out,List.drop_length];rfl);have HUY:=Qh (HU3.out.trans hu.out);have HG:=Qh (show ZaK l ys (l.drop (k+1))=R by rw[HYT.out];exact HTT.out);clear hs hu;go_wp2
     go_roundg (GK-1)
     case measure=>omega
     case rel=>exact⟨k+1,A6,c6,ys,by omega,by go_num,rfl,HG,by omega,hown,HUY⟩
  ·obtain rfl:k=l.length:=by omega
   have HS:=Qh (show xs=R by rw[←hs.out,List.drop_length];rfl);clear hs;go_wp2
   go_ret
   rw[←HS.out];exact⟨A5,c5,rfl,hown.out,hu.out⟩
end
end Go.Proofs.YtblplapkdmhikaaGreat
