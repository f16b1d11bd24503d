/- Reads that may not be: whether one is of a history (offend.Is). -/
import Derived.Test.YtonblekdfinpkaaGreatWtbe
import Derived.Test.YtonblekdfinpkaaGreatWtbl
import Derived.Test.YtonblekdfinpkaaGreatWtbo
import Derived.Test.YtonblekdfinpkaaGreatWtbq
import Derived.Test.YtonblekdfinpkaaGreatWtbs
import Derived.Test.YtonblekdfinpkaaGreatWtbu
import Derived.Test.YtonblekdfinpkaaGreatWtby
import Derived.Test.YtonblekdfinpkaaGreatWtbz
namespace Go.Proofs.YtonblekdfinpkaaGreat
set_option linter.unusedVariables false
set_option linter.unusedSimpArgs false
section
open Go.RowKit
def Zds (l:List HBad) (x:HBad):Nat:=l.findIdx (·==x)
def ZeH (l:List HBad) (x:HBad):Int:=if Zds l x<l.length then (Zds l x:Int) else -1
theorem ZoQ {l:List HBad} {x:HBad} {k:Nat} (hk:k<l.length) (h:∀(j:Nat) (hj:j<k),((l[j]'(by omega))==x)=false) (h1:(l[k]==x)=true):Zds l x=k:=by
 unfold Zds;rw[List.findIdx_eq hk];exact⟨h1,fun j hj=>by simp only[h j hj]⟩
theorem Znu {l:List HBad} {x:HBad} (h:∀(j:Nat) (hj:j<l.length),(l[j]==x)=false):Zds l x=l.length:=by
 unfold Zds;rw[List.findIdx_eq_length];intro y hy;obtain⟨k,hk,rfl⟩:=List.mem_iff_getElem.1 hy;simp only[h k hk]
theorem Zps (l:List HBad) (x:HBad):decide (0≤ZeH l x)=l.contains x:=by
 unfold ZeH
 by_cases h:Zds l x<l.length
 ·rw[if_pos h,decide_eq_true (by omega)];unfold Zds at h;rw[List.findIdx_lt_length]at h;obtain⟨y,hy,he⟩:=h;rw[beq_iff_eq]at he;exact(List.contains_iff_mem.2 (he▸hy)).symm
 ·rw[if_neg h];have h0:Zds l x=l.length:=by have:=List.findIdx_le_length (xs:=l) (p:=(·==x));unfold Zds at h ⊢;omega
  have h1:=(List.findIdx_eq_length (p:=(·==x)) (xs:=l)).1 h0
  cases hc:l.contains x with
  |false=>rfl
  |true=>
   have:=h1 x (List.contains_iff_mem.1 hc);simp at this
section
variable {F:Nat→Prop} {w:World} {A:Option Addr} {c:Nat} {l:List HBad} {vx vp vt vk vn:Int}
set_option maxRecDepth 100000 in
set_option maxHeartbeats 1000000 in
theorem ZtW (h:Bads F w A l) (hl:l.length≤100000000):
  Calls Tryz.prog 127 #[.slice A l.length c,.agg #[.int .i64 vx,.int .i64 vp,.int .i64 vt,.int .i64 vk,.int .i64 vn]] w fun e w'=>e= .returned (.int .i64 (ZeH l ⟨vx,vp,⟨vt,vk,vn⟩⟩))∧Upd No w w':=by
 obtain⟨wb,hwb⟩:∃wb,w.alloc (.cells #[.int .i64 vx,.int .i64 vp,.int .i64 vt,.int .i64 vk,.int .i64 vn] 38)=wb:=⟨_,rfl⟩;have ub:Upd No w wb:=by rw[←hwb];exact(Upd.refl No w).alloc _
 have bB:Blk wb w.heap.size 38 [.int .i64 vx,.int .i64 vp,.int .i64 vt,.int .i64 vk,.int .i64 vn]:=by rw[←hwb];exact Blk.new w _ _
 have c0:∀W,Upd No wb W→W.cell? ⟨w.heap.size,0,none⟩=some (.int .i64 vx):=fun W u=>(bB.upd u id).cell 0
 have c1:∀W,Upd No wb W→W.cell? ⟨w.heap.size,1,none⟩=some (.int .i64 vp):=fun W u=>(bB.upd u id).cell 1
 have c2:∀W,Upd No wb W→W.cell? ⟨w.heap.size,2,none⟩=some (.int .i64 vt):=fun W u=>(bB.upd u id).cell 2
 have c3:∀W,Upd No wb W→W.cell? ⟨w.heap.size,3,none⟩=some (.int .i64 vk):=fun W u=>(bB.upd u id).cell 3
 have c4:∀W,Upd No wb W→W.cell? ⟨w.heap.size,4,none⟩=some (.int .i64 vn):=fun W u=>(bB.upd u id).cell 4
 have UB:=Qh ub;have HB:=Qh (Bads.upd h ub (fun _ _=>id));clear ub bB h
 go_enter Tryz.func127,Tryz.ntmps127
 go_wp2
 go_loopg [8] l.length (fun gk i wr=>∃k:Nat,k+gk=l.length∧i= .int .i64 (k:Int)∧Hid (∀(j:Nat) (hj:j<l.length),j<k→(l[j]==(⟨vx,vp,⟨vt,vk,vn⟩⟩:HBad))=false)∧Upd No wb wr)
 case atStart=>exact⟨0,by omega,rfl,Qh (fun j _ hj=>by omega),Upd.refl _ _⟩
 case round=>
  obtain⟨k,hgk,rfl,hall,hu⟩:=hrel
  by_cases hlt:k<l.length
  ·obtain⟨ad,hAd,q0,q1,q2,q3,q4⟩:=(Bads.upd HB.out hu (fun _ _=>id)).at_ hlt;obtain⟨x,hx⟩:∃x,l[k]=x:=⟨_,rfl⟩;have X:=Qh hx;rw[hx]at q0 q1 q2 q3 q4;obtain⟨xx,xp,⟨xt,xk,xn⟩⟩:=x;simp only at q0 q1 q2 q3 q4;subst hAd;have b1:(0:Int)≤(k:Int):=Qn _;have b2:(k:Int)<(l.length:Int):=by omega
   have jw:IntKind.i64.wrap ((k:Int)+1)=(k:Int)+1:=IntWalk.i64_in _ (by omega);have d0:=c0 wr hu;have d1:=c1 wr hu;have d2:=c2 wr hu;have d3:=c3 wr hu;have d4:=c4 wr hu;clear hx;have HE:=fun W=>Zjo W ⟨vx,vp,⟨vt,vk,vn⟩⟩ ⟨xx,xp,⟨xt,xk,xn⟩⟩
   simp only at HE
   by_cases hxv:(⟨xx,xp,⟨xt,xk,xn⟩⟩:HBad)=⟨vx,vp,⟨vt,vk,vn⟩⟩
   ·have hpos:=Qh (show ZeH l ⟨vx,vp,⟨vt,vk,vn⟩⟩=(k:Int) by unfold ZeH;rw[ZoQ hlt (fun j hj=>hall.out j (by omega) hj) (by rw[X.out,hxv];simp),if_pos hlt]);have he:((⟨vx,vp,⟨vt,vk,vn⟩⟩:HBad)==⟨xx,xp,⟨xt,xk,xn⟩⟩)=true:=by rw[beq_iff_eq];exact hxv.symm
    rw[he]at HE;clear hxv he;go_wp2
    go_quiet (fail)
    go_wp2
    go_ret
    exact⟨by rw[hpos.out];rfl,UB.out.trans (hu.drewN _)⟩
   ·have he:((⟨vx,vp,⟨vt,vk,vn⟩⟩:HBad)==⟨xx,xp,⟨xt,xk,xn⟩⟩)=false:=by rw[beq_eq_false_iff_ne];exact fun e=>hxv e.symm
    have HN:=Qh (show(l[k]==(⟨vx,vp,⟨vt,vk,vn⟩⟩:HBad))=false by rw[X.out,beq_eq_false_iff_ne];exact hxv);rw[he]at HE;clear hxv he;go_wp2
    go_quiet (fail)
    go_wp2
    go_roundg (gk-1)
    case measure=>omega
    case rel=>exact⟨k+1,by omega,by simp,Qh (fun j hj hjk=>by
      by_cases e:j=k
      ·subst e;exact HN.out
      ·exact hall.out j hj (by omega)),hu.drewN _⟩
  ·obtain rfl:k=l.length:=by omega
   have hpos:=Qh (show ZeH l ⟨vx,vp,⟨vt,vk,vn⟩⟩= -1 by unfold ZeH;rw[Znu fun j hj=>hall.out j hj hj,if_neg (by omega)]);go_wp2
   go_ret
   exact⟨by rw[hpos.out];rfl,UB.out.trans hu⟩
set_option maxRecDepth 100000 in
theorem ZuZ (h:Bads F w A l) (hl:l.length≤100000000) {v:Bool} (hv:l.contains (⟨vx,vp,⟨vt,vk,vn⟩⟩:HBad)=v):
  Calls Tryz.prog 58 #[.slice A l.length c,.agg #[.int .i64 vx,.int .i64 vp,.int .i64 vt,.int .i64 vk,.int .i64 vn]] w fun e w'=>e= .returned (.bool v)∧Upd No w w':=by
 obtain⟨wb,hwb⟩:∃wb,w.alloc (.cells #[.int .i64 vx,.int .i64 vp,.int .i64 vt,.int .i64 vk,.int .i64 vn] 38)=wb:=⟨_,rfl⟩;have ub:Upd No w wb:=by rw[←hwb];exact(Upd.refl No w).alloc _
 have bB:Blk wb w.heap.size 38 [.int .i64 vx,.int .i64 vp,.int .i64 vt,.int .i64 vk,.int .i64 vn]:=by rw[←hwb];exact Blk.new w _ _
 have c0:=bB.cell 0;have c1:=bB.cell 1;have c2:=bB.cell 2;have c3:=bB.cell 3;have c4:=bB.cell 4;simp only[Qz,Qs]at c0 c1 c2 c3 c4;have hq:=Zps l ⟨vx,vp,⟨vt,vk,vn⟩⟩;have hf:=ZtW (c:=c) (vx:=vx) (vp:=vp) (vt:=vt) (vk:=vk) (vn:=vn) (Bads.upd h ub (fun _ _=>id)) hl;obtain⟨i,hi⟩:∃i,ZeH l ⟨vx,vp,⟨vt,vk,vn⟩⟩=i:=⟨_,rfl⟩;rw[hv,hi]at hq;rw[hi]at hf;have HF:=Qh hf;have UB:=Qh ub;clear hf hi h hv ub bB;subst hq
 go_enter Tryz.func58,Tryz.ntmps58
 go_wp2_with fail
 refine(HF.out).mono ?_;rintro e w1 ⟨rfl,hu1⟩;go_wp2
 go_ret
 exact⟨rfl,UB.out.trans hu1⟩
end
theorem ZlT (l:List HBad) (b:HBad):(l.filter fun x=>x.of.key==b.of.key).contains b=l.contains b:=by
 rw[Bool.eq_iff_iff,List.contains_iff_mem,List.contains_iff_mem,List.mem_filter];simp
set_option maxRecDepth 100000 in
theorem oIs (F:Nat→Prop) (w:World) (txs:List HTx) (ords:List HOrd) (A:Option Addr) (c:Nat) (B:Option Addr) (d:Nat) (p bx bp bt bk bn:Int) (H:Hist.lies F w ⟨txs,ords,A,c,B,d⟩):
  Calls Tryz.prog 21 #[.agg #[.slice A txs.length c,.slice B ords.length d],.int .i64 p,.agg #[.int .i64 bx,.int .i64 bp,.int .i64 bt,.int .i64 bk,.int .i64 bn]] w fun e w'=>e= .returned (.bool ((ZC ⟨txs,ords,A,c,B,d⟩ p).contains ⟨bx,bp,⟨bt,bk,bn⟩⟩))∧Upd No w w':=by
 obtain⟨z,hz⟩:∃z,w.heap.size=z:=⟨_,rfl⟩;obtain⟨w1,hw1⟩:∃w1,w.alloc (.cells #[.slice A txs.length c,.slice B ords.length d] 50)=w1:=⟨_,rfl⟩;have s1:w1.heap.size=z+1:=by rw[←hw1,←hz];simp
 obtain⟨wb,hwb⟩:∃wb,w1.alloc (.cells #[.int .i64 bx,.int .i64 bp,.int .i64 bt,.int .i64 bk,.int .i64 bn] 38)=wb:=⟨_,rfl⟩;have u1:Upd No w w1:=by rw[←hw1];exact(Upd.refl No w).alloc _
 have u2:Upd No w1 wb:=by rw[←hwb];exact(Upd.refl No w1).alloc _
 have bH:Blk wb z 50 [.slice A txs.length c,.slice B ords.length d]:=by
  have:Blk w1 z 50 [.slice A txs.length c,.slice B ords.length d]:=by rw[←hw1,←hz];exact Blk.new w _ _
  exact this.upd u2 id
 have bB:Blk wb (z+1) 38 [.int .i64 bx,.int .i64 bp,.int .i64 bt,.int .i64 bk,.int .i64 bn]:=by rw[←hwb,←s1];exact Blk.new w1 _ _
 have h0:∀W,Upd No wb W→W.cell? ⟨z,0,none⟩=some (.slice A txs.length c):=fun W u=>(bH.upd u id).cell 0
 have h1:∀W,Upd No wb W→W.cell? ⟨z,1,none⟩=some (.slice B ords.length d):=fun W u=>(bH.upd u id).cell 1
 have c0:∀W,Upd No wb W→W.cell? ⟨z+1,0,none⟩=some (.int .i64 bx):=fun W u=>(bB.upd u id).cell 0
 have c1:∀W,Upd No wb W→W.cell? ⟨z+1,1,none⟩=some (.int .i64 bp):=fun W u=>(bB.upd u id).cell 1
 have c2:∀W,Upd No wb W→W.cell? ⟨z+1,2,none⟩=some (.int .i64 bt):=fun W u=>(bB.upd u id).cell 2
 have c3:∀W,Upd No wb W→W.cell? ⟨z+1,3,none⟩=some (.int .i64 bk):=fun W u=>(bB.upd u id).cell 3
 have c4:∀W,Upd No wb W→W.cell? ⟨z+1,4,none⟩=some (.int .i64 bn):=fun W u=>(bB.upd u id).cell 4
 have hr:Upd No wb wb:=Upd.refl _ _;have U0:=Qh (u1.trans u2);have CK:=Qh (fun W (u:Upd No wb W)=>Ztt F W txs ords A c B d p bk (H.upd ((u1.trans u2).trans u) (fun _ _=>id)));obtain⟨L,hL⟩:∃L,ZC ⟨txs,ords,A,c,B,d⟩ p=L:=⟨_,rfl⟩;have hLl:=ZpT ⟨txs,ords,A,c,B,d⟩ p;rw[hL]at CK hLl ⊢;obtain⟨v,hv⟩:∃v,L.contains (⟨bx,bp,⟨bt,bk,bn⟩⟩:HBad)=v:=⟨_,rfl⟩;have hck:=ZlT L ⟨bx,bp,⟨bt,bk,bn⟩⟩;obtain⟨K,hK⟩:∃K,(L.filter fun b=>b.of.key==bk)=K:=⟨_,rfl⟩;have HKV:=Qh (show K.contains (⟨bx,bp,⟨bt,bk,bn⟩⟩:HBad)=v by rw[←hK,←hv];exact hck);have HKL:=Qh (show K.length≤100000000 by rw[←hK];exact Nat.le_trans (List.length_filter_le _ _) hLl);rw[hK]at CK;rw[hv];clear bH bB u1 u2 H hL hLl hv hck hK
 go_enter Tryz.func21,Tryz.ntmps21
 go_wp2;refine wp_region_noPanic ?_;refine wp_region_held_drew (S:=(fun W'=>Upd No wb W')) (by kernel_rfl) ?_ (fun hHeld=> ?_)
 ·(first|exact hr.drew|(with_reducible exact hHeld)|(with_reducible exact hq2)|(with_reducible exact hq3))
 refine wpK 0 rfl ?_;refine wpK 1 rfl ?_;refine wpK 2 rfl ?_;refine wpK 3 rfl ?_;refine wpK 4 rfl ?_;refine wpK 6 rfl ?_;refine wpR [5] ?_;refine wpC rfl (fun K hK=> ?_) AllReadyH.nil;go_simp
 (first
  |(go_at_call 59;refine(CK.out _ hHeld).mono ?_;rintro e w2 ⟨A2,c2',rfl,ho,hu2⟩;have hq2:Upd No wb w2:=hHeld.trans hu2;have CB:=Qh (ZuZ (c:=c2') (Zgq ho) HKL.out HKV.out)))
 try (go_wp2_with fail)
 refine hK.out _ _ ?_ (fun hHeld=> ?_)
 ·(first|exact hr.drew|(with_reducible exact hHeld)|(with_reducible exact hq2)|(with_reducible exact hq3))
 clear hK K
 try simp only[Act.put,sT,sS,sZ]
 refine wpR [7] ?_;refine wpC rfl (fun K hK=> ?_) AllReadyH.nil;go_simp
 (first
  |(go_at_call 58;refine CB.out.mono ?_;rintro e w3 ⟨rfl,hu3⟩;have hq3:Upd No wb w3:=hHeld.trans hu3))
 try (go_wp2_with fail)
 refine hK.out _ _ ?_ (fun hHeld=> ?_)
 ·(first|exact hr.drew|(with_reducible exact hHeld)|(with_reducible exact hq2)|(with_reducible exact hq3))
 clear hK K
 try simp only[Act.put,sT,sS,sZ]
 refine wpK 8 rfl ?_;refine wpD (NoPanic.normal ?_);have HL:=Qh hHeld;clear hHeld;go_wp2
 go_ret
 exact⟨rfl,U0.out.trans HL.out⟩
end
/- Phenomena:which a history has (phen.Has,phen.All,tenterref30.Has). -/
section
open Go.RowKit
def ZfB (h:Hist) (p:Int):Bool:=if p=2∨p=3 then decide (0<(ZC h p).length) else ZbR (ZV (ZF h)) (Zal p) (ZaJ p)
theorem Zpn (l:List Edge):Zf l 0=[]:=by
 unfold Zf;rw[List.filter_eq_nil_iff];intro e _ h;unfold Zo Zd at h;simp at h
theorem ZhW (l:List Edge) (must:Int):ZbR l 0 must=false:=by
 have h:=Zpn l;unfold Zf at h;unfold ZbR;simp only[h]
 split<;>rfl
set_option maxRecDepth 100000 in
set_option maxHeartbeats 2000000 in
theorem Zvo (F:Nat→Prop) (w:World) (txs:List HTx) (ords:List HOrd) (A:Option Addr) (c:Nat) (B:Option Addr) (d:Nat) (p:Int) (H:Hist.lies F w ⟨txs,ords,A,c,B,d⟩) (hl:ZG ⟨txs,ords,A,c,B,d⟩=true):
  Calls Tryz.prog 20 #[.agg #[.slice A txs.length c,.slice B ords.length d],.int .i64 p] w fun e w'=>e= .returned (.bool (ZfB ⟨txs,ords,A,c,B,d⟩ p))∧Upd No w w':=by
 obtain⟨wb,hwb⟩:∃wb,w.alloc (.cells #[.slice A txs.length c,.slice B ords.length d] 50)=wb:=⟨_,rfl⟩;have u0:Upd No w wb:=by rw[←hwb];exact(Upd.refl No w).alloc _
 have bH:Blk wb w.heap.size 50 [.slice A txs.length c,.slice B ords.length d]:=by rw[←hwb];exact Blk.new w _ _
 have h0:∀W,Upd No wb W→W.cell? ⟨w.heap.size,0,none⟩=some (.slice A txs.length c):=fun W u=>(bH.upd u id).cell 0
 have h1:∀W,Upd No wb W→W.cell? ⟨w.heap.size,1,none⟩=some (.slice B ords.length d):=fun W u=>(bH.upd u id).cell 1
 have HH:=Qh (H.upd u0 (fun _ _=>id));have U0:=Qh u0;have hr:Upd No wb wb:=Upd.refl _ _;clear bH u0 H
 by_cases p2:p=2
 ·subst p2;have CB:=Qh (oOf F wb txs ords A c B d 2 HH.out);obtain⟨bl,hbl⟩:∃bl,ZC ⟨txs,ords,A,c,B,d⟩ 2=bl:=⟨_,rfl⟩;have HV:=Qh (show ZfB ⟨txs,ords,A,c,B,d⟩ 2=decide (0<bl.length) by unfold ZfB;rw[if_pos (by decide),hbl]);rw[hbl]at CB;rw[HV.out];clear hbl
  go_enter Tryz.func20,Tryz.ntmps20
  go_wp2_with fail
  refine(CB.out).mono ?_;rintro e w1 ⟨A1,c1,rfl,_,hu1⟩;go_wp2
  go_ret
  exact⟨rfl,U0.out.trans hu1⟩
 by_cases p3:p=3
 ·subst p3;have CB:=Qh (oOf F wb txs ords A c B d 3 HH.out);obtain⟨bl,hbl⟩:∃bl,ZC ⟨txs,ords,A,c,B,d⟩ 3=bl:=⟨_,rfl⟩;have HV:=Qh (show ZfB ⟨txs,ords,A,c,B,d⟩ 3=decide (0<bl.length) by unfold ZfB;rw[if_pos (by decide),hbl]);rw[hbl]at CB;rw[HV.out];clear hbl
  go_enter Tryz.func20,Tryz.ntmps20
  go_wp2_with fail
  refine(CB.out).mono ?_;rintro e w1 ⟨A1,c1,rfl,_,hu1⟩;go_wp2
  go_ret
  exact⟨rfl,U0.out.trans hu1⟩
 have q2:(p==2)=false:=by simpa using p2
 have q3:(p==3)=false:=by simpa using p3
 have hv:ZfB ⟨txs,ords,A,c,B,d⟩ p=ZbR (ZV (ZF ⟨txs,ords,A,c,B,d⟩)) (Zal p) (ZaJ p):=by unfold ZfB;rw[if_neg (by omega)]
 rw[hv];clear hv;obtain⟨l,hll⟩:∃l,ZF ⟨txs,ords,A,c,B,d⟩=l:=⟨_,rfl⟩;have hfew:=ZeK hl;obtain⟨n1,n2⟩:=Zf4 hl;have CE:=Qh (Zos HH.out n1 n2 rfl rfl hll rfl);rw[hll]at hfew ⊢;obtain⟨pl,hpl⟩:∃pl,ZV l=pl:=⟨_,rfl⟩;have hpn:pl.length=l.length:=by rw[←hpl];unfold ZV;rw[List.length_map]
 have HPL:=Qh hpl;rw[hpl];have HPN:=Qh hpn;have HF:=Qh hfew;obtain⟨M,hM⟩:∃M,Zal p=M:=⟨_,rfl⟩;obtain⟨T,hT⟩:∃T,ZaJ p=T:=⟨_,rfl⟩;have PM:=Qh (fun W=>Zk8 W p);rw[hM,hT]at PM ⊢;clear hM hT hll hpl hpn p2 p3 n1 n2 hfew
 by_cases hm:M=0
 ·subst hm;rw[ZhW]
  go_enter Tryz.func20,Tryz.ntmps20
  go_wp2_with fail
  refine(PM.out _).mono ?_;rintro e w1 ⟨rfl,rfl⟩;go_wp2
  go_ret
  exact⟨rfl,U0.out⟩
 ·have hmb:(M != 0)=true:=by simpa using hm
  clear hm
  go_enter Tryz.func20,Tryz.ntmps20
  go_wp2_with fail
  refine(PM.out _).mono ?_;rintro e w1 ⟨rfl,rfl⟩
  go_wp2_with fail
  refine(CE.out).mono ?_;rintro e w1 ⟨A1,c1,rfl,hx1,hu1⟩;have C2:=Qh (Zor (c:=c1) hx1 (by have:=HF.out;omega) rfl HPL.out rfl)
  go_wp2_with fail
  refine(C2.out).mono ?_;rintro e w2 ⟨A2,c2,rfl,⟨G,hx2⟩,hu2⟩;have hu12:=hu1.trans hu2;have C3:=Qh (Ztp G w2 A2 c2 pl M T hx2 (by have:=HF.out;have:=HPN.out;omega));clear hx1 hx2 hu1 hu2
  go_wp2_with fail
  refine(C3.out).mono ?_;rintro e w3 ⟨rfl,hu3⟩;go_wp2
  go_ret
  exact⟨rfl,U0.out.trans (hu12.trans hu3)⟩
end
end Go.Proofs.YtonblekdfinpkaaGreat
