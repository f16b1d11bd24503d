/- Witnesses, plain: how many edges there are, what a witness is. -/
import Derived.Laws.StructEq
import Derived.Test.YtblplapkdmhikaaGreatDbag
import Derived.Test.YtblplapkdmhikaaGreatDbak
import Derived.Test.YtblplapkdmhikaaGreatDbax
import Derived.Test.YtblplapkdmhikaaGreatDbaz
import Derived.Test.YtblplapkdmhikaaGreatDbbf
import Derived.Test.YtblplapkdmhikaaGreatDbbj
import Derived.Test.YtblplapkdmhikaaGreatDbbm
import Derived.Test.YtblplapkdmhikaaGreatDbbn
import Derived.Test.YtblplapkdmhikaaGreatDbbp
import Derived.Test.YtblplapkdmhikaaGreatDbbq
import Derived.Test.YtblplapkdmhikaaGreatDbbu
import Derived.Test.YtblplapkdmhikaaGreatDbbv
namespace Go.Proofs.YtblplapkdmhikaaGreat
set_option linter.unusedVariables false
set_option linter.unusedSimpArgs false
section
open Go.RowKit
theorem ZaQ {α:Type} [DecidableEq α]:∀(l m:List α),l.Nodup→(∀x∈l,x∈m)→l.length≤m.length
 |[],_,_,_=>Nat.zero_le _
 |x::l,m,hn,hs=>by
  obtain⟨h1,h2⟩:=List.nodup_cons.1 hn;have hx:=hs x (List.mem_cons_self ..);have:=ZaQ l (m.erase x) h2 fun y hy=>(List.mem_erase_of_ne (fun e:y=x=>h1 (by rw[←e];exact hy))).2 (hs y (List.mem_cons_of_mem _ hy))
  rw[List.length_erase_of_mem hx]at this;have:=List.length_pos_of_mem hx;rw[List.length_cons];omega
theorem Zj7 (key:Int):∀l:List Int,(wwO key l).length≤l.length
 |[]=>by simp[wwO]
 |[a]=>by simp[wwO]
 |a::b::l=>by
  have:=Zj7 key (b::l)
  show(⟨a,b,1,key⟩::wwO key (b::l)).length≤_
  rw[List.length_cons];simp only[List.length_cons]at*;omega
theorem Zey {α β:Type} (f:α→List β) (K:Nat):∀l:List α,(∀x∈l,(f x).length≤K)→(l.flatMap f).length≤K*l.length
 |[],_=>by simp
 |x::l,h=>by
  have h1:=h x (List.mem_cons_self ..);have h2:=Zey f K l fun y hy=>h y (List.mem_cons_of_mem _ hy)
  rw[List.flatMap_cons,List.length_append,List.length_cons,Nat.mul_succ];omega
theorem ZfK {h:Hist} (hl:Zk h=true):h.ords.length≤24∧∀o∈h.ords,o.txs.length≤24:=by
 unfold Zk at hl;simp only[Bool.and_eq_true,decide_eq_true_eq,List.all_eq_true]at hl;exact⟨hl.1.1.2,fun t ht=>hl.2 t ht⟩
theorem Zeb {h:Hist} (hl:Zk h=true):(Zc h).length≤1152:=by
 by_cases hr:Za h=true
 ·obtain⟨n1,n2⟩:=Zd1 hl;obtain⟨n3,n4⟩:=ZfK hl
  have h1:((Zc h).map (·.e)).length≤(wwL (fun _=>true) h.ords++rdL (fun _=>true) (ZC h.txs) (Zi h.txs) (Zu h.ords) h.txs).length:=by
   refine ZaQ _ _ ?_ fun e he=> ?_
   ·rw[List.nodup_iff_pairwise_ne,List.pairwise_map];exact Zk1
   ·obtain⟨x,hx,rfl⟩:=List.mem_map.1 he;have hc:=((ZN hr).1 hx).1;have hg:=ZiX hr (fun _=>true) x.e;rw[if_pos rfl]at hg;rw[←hg]at hc;unfold ZjG at hc;rw[List.mem_append]
    apply Classical.byContradiction
    intro hn;rw[not_or]at hn
    apply hc
    unfold Zay;rw[if_neg hn.1,Nat.zero_add];unfold Zn;rw[List.length_eq_zero_iff,List.filter_eq_nil_iff];intro y hy;simp only[decide_eq_true_eq];intro e;rw[e]at hy;exact hn.2 hy
  rw[List.length_map,List.length_append]at h1
  have h2:(wwL (fun _=>true) h.ords).length≤24*h.ords.length:=Zey _ 24 _ fun o ho=>by
   unfold wwC;rw[if_pos rfl];exact Nat.le_trans (Zj7 _ _) (n4 o ho)
  have h3:(rdL (fun _=>true) (ZC h.txs) (Zi h.txs) (Zu h.ords) h.txs).length≤48*(h.txs.filter (·.done)).length:=Zey _ 48 _ fun t ht=>by
   have h4:(rdO (fun _=>true) (ZC h.txs) (Zi h.txs) (Zu h.ords) t.id t.ops).length≤2*(t.ops.filter fun o=>o.read&&true).length:=Zey _ 2 _ fun o _=>ZgF _ _ _ _ _
   have h5:=List.length_filter_le (fun o:HOp=>o.read&&true) t.ops;have h6:=n2 t (List.mem_filter.1 ht).1;exact Nat.le_trans h4 (by omega)
  have h7:=List.length_filter_le (fun t:HTx=>t.done) h.txs;omega
 ·unfold Zc;rw[if_neg hr];simp
structure HWit where
 p:Int
 walk:List Edge
 read:HBad
deriving DecidableEq
def HWit.at_ (x:HWit) (A:Option Addr) (c:Nat):List Value:=[.int .i64 x.p,.slice A x.walk.length c,.int .i64 x.read.tx,.int .i64 x.read.place,.int .i64 x.read.of.tx,.int .i64 x.read.of.key,.int .i64 x.read.of.nth]
theorem EdX.nil {w:World} {A:Option Addr}:EdX w A []:=⟨fun _=>True,fun h=>absurd rfl h⟩
end
/- Phenomena:the answers that the document gives. -/
section
open Go.RowKit
def f1:Edge:=⟨1,2,1,0⟩
def f2:Edge:=⟨2,1,3,-1⟩
section
variable {F:Nat→Prop} {w:World} {N:Nat} {p:Int} {b:Bool}
end
end
/- Witnesses:of edges,of reads,of a history:the program's and the document's. -/
section
open Go.RowKit
theorem ToldC.no {w:World} {d:List Edge} {e:Ending} {w':World} (h:ToldC w d e w') (hd:d=[]):∃A c,e= .returned (.tuple #[.slice A 0 c,.int .i64 3])∧Upd No w w':=by
 obtain⟨A,c,rfl,_,hu⟩:=h;subst hd;exact⟨A,c,rfl,hu⟩
end
/- Reads that may not be:whether one is of a history (offend.Is). -/
section
open Go.RowKit
def ZbS (l:List HBad) (x:HBad):Nat:=l.findIdx (·==x)
def ZcQ (l:List HBad) (x:HBad):Int:=if ZbS l x<l.length then (ZbS l x:Int) else -1
theorem Zkt {l:List HBad} {x:HBad} {k:Nat} (hk:k<l.length) (h:∀(j:Nat) (hj:j<k),((l[j]'(by omega))==x)=false) (h1:(l[k]==x)=true):ZbS l x=k:=by
 unfold ZbS;rw[List.findIdx_eq hk];exact⟨h1,fun j hj=>by simp only[h j hj]⟩
theorem Zjj {l:List HBad} {x:HBad} (h:∀(j:Nat) (hj:j<l.length),(l[j]==x)=false):ZbS l x=l.length:=by
 unfold ZbS;rw[List.findIdx_eq_length];intro y hy;obtain⟨k,hk,rfl⟩:=List.mem_iff_getElem.1 hy;simp only[h k hk]
theorem ZkR (l:List HBad) (x:HBad):decide (0≤ZcQ l x)=l.contains x:=by
 unfold ZcQ
 by_cases h:ZbS l x<l.length
 ·rw[if_pos h,decide_eq_true (by omega)];unfold ZbS at h;rw[List.findIdx_lt_length]at h;obtain⟨y,hy,he⟩:=h;rw[beq_iff_eq]at he;exact(List.contains_iff_mem.2 (he▸hy)).symm
 ·rw[if_neg h];have h0:ZbS l x=l.length:=by have:=List.findIdx_le_length (xs:=l) (p:=(·==x));unfold ZbS at h ⊢;omega
  have h1:=(List.findIdx_eq_length (p:=(·==x)) (xs:=l)).1 h0
  cases hc:l.contains x with
  |false=>rfl
  |true=>
   have:=h1 x (List.contains_iff_mem.1 hc);simp at this
section
variable {F:Nat→Prop} {w:World} {A:Option Addr} {c:Nat} {l:List HBad} {vx vp vt vk vn:Int}
set_option maxRecDepth 100000 in
set_option maxHeartbeats 1000000 in
theorem Zn9 (h:Bads F w A l) (hl:l.length≤100000000):
  Calls Tryz.prog 182 #[.slice A l.length c,.agg #[.int .i64 vx,.int .i64 vp,.int .i64 vt,.int .i64 vk,.int .i64 vn]] w fun e w'=>e= .returned (.int .i64 (ZcQ l ⟨vx,vp,⟨vt,vk,vn⟩⟩))∧Upd No w w':=by
 obtain⟨wb,hwb⟩:∃wb,w.alloc (.cells #[.int .i64 vx,.int .i64 vp,.int .i64 vt,.int .i64 vk,.int .i64 vn] 38)=wb:=⟨_,rfl⟩;have ub:Upd No w wb:=by rw[←hwb];exact(Upd.refl No w).alloc _
 have bB:Blk wb w.heap.size 38 [.int .i64 vx,.int .i64 vp,.int .i64 vt,.int .i64 vk,.int .i64 vn]:=by rw[←hwb];exact Blk.new w _ _
 have c0:∀W,Upd No wb W→W.cell? ⟨w.heap.size,0,none⟩=some (.int .i64 vx):=fun W u=>(bB.upd u id).cell 0
 have c1:∀W,Upd No wb W→W.cell? ⟨w.heap.size,1,none⟩=some (.int .i64 vp):=fun W u=>(bB.upd u id).cell 1
 have c2:∀W,Upd No wb W→W.cell? ⟨w.heap.size,2,none⟩=some (.int .i64 vt):=fun W u=>(bB.upd u id).cell 2
 have c3:∀W,Upd No wb W→W.cell? ⟨w.heap.size,3,none⟩=some (.int .i64 vk):=fun W u=>(bB.upd u id).cell 3
 have c4:∀W,Upd No wb W→W.cell? ⟨w.heap.size,4,none⟩=some (.int .i64 vn):=fun W u=>(bB.upd u id).cell 4
 have UB:=Qh ub;have HB:=Qh (Bads.upd h ub (fun _ _=>id));clear ub bB h
 go_enter Tryz.func182,Tryz.ntmps182
 go_wp2
 go_loopg [8] l.length (fun gk i wr=>∃k:Nat,k+gk=l.length∧i= .int .i64 (k:Int)∧Hid (∀(j:Nat) (hj:j<l.length),j<k→(l[j]==(⟨vx,vp,⟨vt,vk,vn⟩⟩:HBad))=false)∧Upd No wb wr)
 case atStart=>exact⟨0,by omega,rfl,Qh (fun j _ hj=>by omega),Upd.refl _ _⟩
 case round=>
  obtain⟨k,hgk,rfl,hall,hu⟩:=hrel
  by_cases hlt:k<l.length
  ·obtain⟨ad,hAd,q0,q1,q2,q3,q4⟩:=(Bads.upd HB.out hu (fun _ _=>id)).at_ hlt;obtain⟨x,hx⟩:∃x,l[k]=x:=⟨_,rfl⟩;have X:=Qh hx;rw[hx]at q0 q1 q2 q3 q4;obtain⟨xx,xp,⟨xt,xk,xn⟩⟩:=x;simp only at q0 q1 q2 q3 q4;subst hAd;have b1:(0:Int)≤(k:Int):=Qn _;have b2:(k:Int)<(l.length:Int):=by omega
   have jw:IntKind.i64.wrap ((k:Int)+1)=(k:Int)+1:=IntWalk.i64_in _ (by omega);have d0:=c0 wr hu;have d1:=c1 wr hu;have d2:=c2 wr hu;have d3:=c3 wr hu;have d4:=c4 wr hu;clear hx;have HE:=fun W=>Zno W ⟨vx,vp,⟨vt,vk,vn⟩⟩ ⟨xx,xp,⟨xt,xk,xn⟩⟩
   simp only at HE
   by_cases hxv:(⟨xx,xp,⟨xt,xk,xn⟩⟩:HBad)=⟨vx,vp,⟨vt,vk,vn⟩⟩
   ·have hpos:=Qh (show ZcQ l ⟨vx,vp,⟨vt,vk,vn⟩⟩=(k:Int) by unfold ZcQ;rw[Zkt hlt (fun j hj=>hall.out j (by omega) hj) (by rw[X.out,hxv];simp),if_pos hlt]);have he:((⟨vx,vp,⟨vt,vk,vn⟩⟩:HBad)==⟨xx,xp,⟨xt,xk,xn⟩⟩)=true:=by rw[beq_iff_eq];exact hxv.symm
    rw[he]at HE;clear hxv he;go_wp2
    go_quiet (fail)
    go_wp2
    go_ret
    exact⟨by rw[hpos.out];rfl,UB.out.trans (hu.drewN _)⟩
   ·have he:((⟨vx,vp,⟨vt,vk,vn⟩⟩:HBad)==⟨xx,xp,⟨xt,xk,xn⟩⟩)=false:=by rw[beq_eq_false_iff_ne];exact fun e=>hxv e.symm
    have HN:=Qh (show(l[k]==(⟨vx,vp,⟨vt,vk,vn⟩⟩:HBad))=false by rw[X.out,beq_eq_false_iff_ne];exact hxv);rw[he]at HE;clear hxv he;go_wp2
    go_quiet (fail)
    go_wp2
    go_roundg (gk-1)
    case measure=>omega
    case rel=>exact⟨k+1,by omega,by simp,Qh (fun j hj hjk=>by
      by_cases e:j=k
      ·subst e;exact HN.out
      ·exact hall.out j hj (by omega)),hu.drewN _⟩
  ·obtain rfl:k=l.length:=by omega
   have hpos:=Qh (show ZcQ l ⟨vx,vp,⟨vt,vk,vn⟩⟩= -1 by unfold ZcQ;rw[Zjj fun j hj=>hall.out j hj hj,if_neg (by omega)]);go_wp2
   go_ret
   exact⟨by rw[hpos.out];rfl,UB.out.trans hu⟩
set_option maxRecDepth 100000 in
theorem ZmF (h:Bads F w A l) (hl:l.length≤100000000) {v:Bool} (hv:l.contains (⟨vx,vp,⟨vt,vk,vn⟩⟩:HBad)=v):
  Calls Tryz.prog 89 #[.slice A l.length c,.agg #[.int .i64 vx,.int .i64 vp,.int .i64 vt,.int .i64 vk,.int .i64 vn]] w fun e w'=>e= .returned (.bool v)∧Upd No w w':=by
 obtain⟨wb,hwb⟩:∃wb,w.alloc (.cells #[.int .i64 vx,.int .i64 vp,.int .i64 vt,.int .i64 vk,.int .i64 vn] 38)=wb:=⟨_,rfl⟩;have ub:Upd No w wb:=by rw[←hwb];exact(Upd.refl No w).alloc _
 have bB:Blk wb w.heap.size 38 [.int .i64 vx,.int .i64 vp,.int .i64 vt,.int .i64 vk,.int .i64 vn]:=by rw[←hwb];exact Blk.new w _ _
 have c0:=bB.cell 0;have c1:=bB.cell 1;have c2:=bB.cell 2;have c3:=bB.cell 3;have c4:=bB.cell 4;simp only[Qz,Qs]at c0 c1 c2 c3 c4;have hq:=ZkR l ⟨vx,vp,⟨vt,vk,vn⟩⟩;have hf:=Zn9 (c:=c) (vx:=vx) (vp:=vp) (vt:=vt) (vk:=vk) (vn:=vn) (Bads.upd h ub (fun _ _=>id)) hl;obtain⟨i,hi⟩:∃i,ZcQ l ⟨vx,vp,⟨vt,vk,vn⟩⟩=i:=⟨_,rfl⟩;rw[hv,hi]at hq;rw[hi]at hf;have HF:=Qh hf;have UB:=Qh ub;clear hf hi h hv ub bB;subst hq
 go_enter Tryz.func89,Tryz.ntmps89
 go_wp2_with fail
 refine(HF.out).mono ?_;rintro e w1 ⟨rfl,hu1⟩;go_wp2
 go_ret
 exact⟨rfl,UB.out.trans hu1⟩
end
end
end Go.Proofs.YtblplapkdmhikaaGreat
