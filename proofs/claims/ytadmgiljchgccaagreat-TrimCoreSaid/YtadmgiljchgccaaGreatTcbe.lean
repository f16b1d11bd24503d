/- Ways: one number, repeated. -/
import Derived.Test.YtadmgiljchgccaaGreatLayMul
import Derived.Test.YtadmgiljchgccaaGreatTcaa
import Derived.Test.YtadmgiljchgccaaGreatTcba
namespace Go.Proofs.YtadmgiljchgccaaGreat
open Go.RowKit
set_option linter.unusedVariables false
set_option linter.unusedSimpArgs false
set_option maxRecDepth 100000
set_option maxHeartbeats 4000000
def ZpI(w:I0)(l:Iv)(e:Ending)(w':I0):Prop:=
 ∃g,e= .returned (.slice (some ⟨g,0,none⟩) l.length l.length)∧Blk w' g 3 (l.map (Value.int .i64))∧w.heap.size<=g∧Upd No w w'
theorem ZqT(N:Nat):madeCells #[Value.int .i64 0] (N*1)=((List.replicate N (0:Int)).map (Value.int .i64)).toArray:=by
 apply Array.ext
 ·simp[madeCells]
 ·intro i h1 h2;simp[madeCells,Nat.mod_one]
def ZgA(N:Nat):Io:=((List.replicate N (0:Int)).map (Value.int .i64)).toArray
theorem ZuZ(N:Nat)(hN:N<=1000000)(m:Int)(hm:m=(N:Int))(W:I0):(Instr.makeSlice 27 (Qi m) (Qi m)).run Tryz.prog W= .ok (.slice (some ⟨W.heap.size,0,none⟩) N N) (W.alloc (.cells (ZgA N) 3)):=by
 subst hm;have:=Zfz (P:=Tryz.prog) W Zay (z:= Qi 0) (by kernel_rfl) N (by omega) (by omega);rw[this]
 show _=Result.ok _ (W.alloc (.cells (ZgA N) _))
 unfold ZgA;rw[<-ZqT];rfl
theorem ZrI(W:I0)(N:Nat):Blk (W.alloc (.cells (ZgA N) 3)) W.heap.size 3 ((List.replicate N (0:Int)).map (Value.int .i64)):=Im W _ _
def Zbg(x:Int)(N k:Nat):Ip:=(List.replicate k x++List.replicate (N-k) 0).map (Value.int .i64)
theorem Zks(x:Int){N k:Nat}(h:k<=N):(Zbg x N k).length=N:=by unfold Zbg;simp;omega
theorem ZoP(x:Int){N k m:Nat}(h:k+m<=N)(hm:m<=k):(Zbg x N k).take k++(List.replicate m x).map (Value.int .i64)++(Zbg x N k).drop (k+m)=Zbg x N (k+m):=by
 unfold Zbg;rw[<-List.map_take,<-List.map_drop,<-Hu,<-Hu]
 congr 1
 rw[Gc (by simp),List.take_of_length_le (by simp),List.drop_append,List.drop_of_length_le (by simp),H8,List.drop_replicate];simp only[List.length_replicate];rw[<-List.replicate_append_replicate (n:=k) (m:=m)]
 congr 2
 omega
theorem ZtD(w:I0)(N:Nat)(hN:N<=1000000):CE 281 #[.int .u64 1,.int .u64 (N:Int)] w (.tuple #[.int .u64 0,.int .u64 (N:Int)]):=by
 refine Calls.mono (Any.bits_Mul bitsMul_lay 1 N (by omega) (by omega) w) ?_;rintro e w' ⟨rfl,rfl⟩;refine⟨?_,rfl⟩;rw[show 1*N/18446744073709551616=0 by omega,show 1*N%18446744073709551616=N by omega];rfl
theorem Zu4(w:I0)(F:Iw)(A:OA)(c:Nat)(x:Int)(N:Nat)(hN:N<=1000000)(h:Ints F w A [x]):Calls Tryz.prog 270 #[.slice A 1 c,Qi (N:Int)] w (ZpI w (List.replicate N x)):=by
 obtain⟨ad,rfl,hF,hl,hc⟩:=h (by simp);have pQ:=hc 0 x rfl;have FL:=fun m hm W=>ZuZ N hN m hm W
 have hM:=Qh (fun W=>ZtD W N hN);have h0:decide ((N:Int)<0)=false:=Qf (by omega);have h1:decide ((0:Int)<0)=false:=by decide
 have h2:decide ((9223372036854775807:Int)<(N:Int))=false:=Qf (by omega);have w1:IntKind.u64.wrap (N:Int)=(N:Int):=by unfold IntKind.wrap;simp[IntKind.signed,IntKind.bits];omega
 have w2:IntKind.i64.wrap (N:Int)=(N:Int):=IntWalk.i64_in _ (by omega);go_enter Tryz.func270,Tryz.ntmps270;go_wp2_with fail;refine(hM.out _).mono ?_;rintro e w1 ⟨rfl,rfl⟩;obtain⟨m0,zQ⟩:∃m,min 1 N=m:=⟨_,rfl⟩;have iu:=Qh zQ;obtain⟨wz,jK⟩:=Qe (w.alloc (.cells (ZgA N) 3));have uz:Upd No w wz:=by rw[<-jK];exact(Il No w).alloc _
 have bz:Blk wz w.heap.size 3 (Zbg x N 0):=by
  rw[<-jK];have:=ZrI w N;unfold Zbg
  simpa using this
 have uJ:=uz.keepNo pQ;have e0:ad.add 0=ad:=by unfold Addr.add;simp
 rw[e0]at uJ;have HW:=Qh jK;have BZ:=Qh bz;have UZ:=Qh uz
 have HC:=Qh (show∀(j:Nat) v,((List.replicate m0 x).map (Value.int .i64))[j]? =some v->wz.cell? (ad.add j)=some v from fun j v hj=>by
  have kK:j<m0:=by have:=(List.getElem?_eq_some_iff.1 hj).1;simpa using this
  obtain rfl:j=0:=by omega
  rw[e0,uJ];rw[List.getElem?_map,List.getElem?_replicate,if_pos kK]at hj;exact hj)
 clear zQ jK uz bz uJ pQ hc hM h e0;go_wp2_with (refine ZhJ rfl rfl Zay (g:=w.heap.size) (off:=0) (n:=m0) (cs:=(List.replicate m0 x).map (Value.int .i64)) rfl rfl (show Blk _ _ 3 (Zbg x N 0) by first|exact BZ.out|(rw[HW.out];exact BZ.out)) (by have:=iu.out;simp only[Nat.min_def]at*;split at this<;>split<;>omega) (by simp) (by first|exact HC.out|(rw[HW.out];exact HC.out)) (by rw[Zks x (by omega)];simp;have:=iu.out;omega) (Ints.one_ _) ?_;intro w5 cw hu5)
 have uM:Blk w5 w.heap.size 3 (Zbg x N m0):=by
  have e:List.take 0 (Zbg x N 0)++List.map (Value.int .i64) (List.replicate m0 x)++List.drop (0+(List.map (Value.int .i64) (List.replicate m0 x)).length) (Zbg x N 0)=Zbg x N m0:=by
   have hm:=iu.out;rw[Hw,List.length_replicate,List.take_zero,H8,Nat.zero_add];unfold Zbg;rw[List.replicate_zero,H8,<-List.map_drop,<-Hu,List.drop_replicate];rfl
  rw[<-e];exact cw
 have xg:Upd No w w5:=UZ.out.then_ (HW.out▸hu5) fun i e=> .inr (by unfold One at e;omega)
 clear cw hu5
 go_loopg [8] N (fun gk s wr=>∃(k:Nat),s= Qi k∧k<=N∧(k=0->N=0)∧N<=k+gk∧Blk wr w.heap.size 3 (Zbg x N k)∧Upd No w wr)
 case atStart=>exact⟨m0,rfl,by have:=iu.out;omega,fun h=>by have:=iu.out;omega,by omega,uM,xg⟩
 case round=>
  obtain⟨k,rfl,xS,hk0,aI,hb,hu⟩:=hrel
  by_cases hlt:k<N
  ·have lu:0<k:=by omega
   obtain⟨m,hm⟩:=Qe (min k (N-k));have hn1:(k:Int)<(N:Int):=by omega
   have dY:(0:Int)<=(k:Int):=by omega
   have k2:∀W,(Instr.slice 27 (.slice (some ⟨w.heap.size,0,none⟩) N N) none (some (Qi (k:Int))) none).run Tryz.prog W= .ok (.slice (some ⟨w.heap.size,0,none⟩) k N) W:=fun W=>by
    have:=ZbZ W Zay (some ⟨w.heap.size,0,none⟩) N N k xS
    rwa [Zgo]at this
   have k3:∀W,(Instr.slice 27 (.slice (some ⟨w.heap.size,0,none⟩) N N) (some (Qi (k:Int))) none none).run Tryz.prog W= .ok (.slice (some ⟨w.heap.size,k*1,none⟩) (N-k) (N-k)) W:=fun W=>by
    have:=Za5 W Zay (some ⟨w.heap.size,0,none⟩) N N k xS
    rwa [ZdQ (by omega)]at this
   have HB:=Qh hb
   have HS:=Qh (show∀(j:Nat) v,((List.replicate m x).map (Value.int .i64))[j]? =some v->wr.cell? ((⟨w.heap.size,0,none⟩:Addr).add j)=some v from fun j v hj=>by
    have kK:j<m:=by have:=(List.getElem?_eq_some_iff.1 hj).1;simpa using this
    rw[Zcl,Nat.zero_add,hb.cell j];unfold Zbg;rw[List.getElem?_map,List.getElem?_append_left (by simp;omega)];simp only[List.getElem?_map]at hj;rw[<-hj];simp[show j<k by omega,kK])
   have HM:=Qh hm;have pi:IntKind.i64.wrap ((k:Int)+(m:Int))=(k:Int)+(m:Int):=IntWalk.i64_in _ (by omega);have tQ:m<=k∧m<=N-k∧0<m:=by omega
   have HU:=Qh hu;clear hb hm hu;go_wp2;refine wpS (fun w'=>Upd (One w.heap.size) wr w') ?_ fun jH=>?_
   ·(first|exact(Il _ _).drew|exact cC)
   (iterate 7 refine wpF ?_);refine wpZ 7 rfl fun K hK=>?_
   (first
  |(refine ZfS rfl rfl Zay (g:=w.heap.size) (off:=k) (n:=m) (cs:=(List.replicate m x).map (Value.int .i64)) rfl rfl (show Blk _ w.heap.size 3 (Zbg x N k) from HB.out) (show Nat.min k (N-k)=m from HM.out) (by simp) HS.out (by rw[Zks x xS];simp;omega) (Ints.one_ _) ?_;intro w5 jY hu5;have cC:Upd (One w.heap.size) wr w5:=hu5.of_drew))
   refine hK.out _ _ ?_ fun jH=>?_
   ·(first|exact(Il _ _).drew|exact cC)
   try simp only[Qa]
   (iterate 2 refine wpF ?_);refine wpD (Ii ?_)
   have bQ:Blk w5 w.heap.size 3 (Zbg x N (k+m)):=by
    rw[<-ZoP x (N:=N) (k:=k) (m:=m) (by omega) (by omega)]
    simpa using jY
   have cF:=Qh cC;clear jH cC hu5 jY;go_wp2;go_roundg (gk-1);exact⟨k+m,by go_num,by omega,by omega,by omega,bQ,HU.out.then_ cF.out fun i e=> .inr (by unfold One at e;omega)⟩;omega
  ·obtain rfl:k=N:=by omega
   go_wp2;go_ret;refine⟨w.heap.size,by simp,?_,Nat.le_refl _,hu⟩;unfold Zbg at hb
   simpa using hb
/- Ways:the digraph that is made of arcs;how far each node is. -/
section
variable {w:I0} {G:Iw} {p:OA} {N K:Nat} {q:List HArc}
theorem Zua(h:DG w G p N K q)(mask least:Int):Calls Tryz.prog 246 #[.agg #[.pointer p,Qi mask,Qi least]] w (ZpI w (List.replicate N (-1))):=by
 have hN:=h.nodes_le;obtain⟨wb,ag⟩:=Qe ((w.alloc (.cells #[.pointer p,Qi mask,Qi least] 288)).alloc (.cells #[Qi (-1)] 3));have u0:Upd No w wb:=by rw[<-ag];exact((Il No w).alloc _).alloc _
 have bS:Blk wb w.heap.size 288 [.pointer p,Qi mask,Qi least]:=by rw[<-ag];exact(Im w _ _).alloc _
 have bL:Ints (fun i=>i=w.heap.size+1) wb (some ⟨w.heap.size+1,0,none⟩) [-1]:=by
  have:=Zmn (W:=w.alloc (.cells #[.pointer p,Qi mask,Qi least] 288)) [-1] 3;rw[show(w.alloc (.cells #[.pointer p,Qi mask,Qi least] 288)).heap.size=w.heap.size+1 by simp]at this;rw[<-ag];exact this
 have hn:=Qh (ZfH (h.no u0));have hr:=Qh (Zu4 wb _ _ 1 (-1) N (by omega) bL);have c0:=bS.cell 0;simp only[Qz]at c0;have U0:=Qh u0;clear h u0 bS bL;go_enter Tryz.func246,Tryz.ntmps246;go_wp2_with fail;refine(hn.out).mono ?_;rintro e w1 ⟨rfl,rfl⟩;go_wp2_with fail;refine(hr.out).mono ?_;rintro e w2 ⟨g,rfl,hb,hg,hu⟩;go_wp2;go_ret;have:=U0.out.size;exact⟨g,by simp,hb,by omega,U0.out.trans hu⟩
def ZaV(N:Nat)(least node:Int):Bool:=decide (max least 0<=node)&&decide (node<(N:Int))
theorem Zjk(h:DG w G p N K q)(mask least node:Int):CN 247 #[.agg #[.pointer p,Qi mask,Qi least],Qi node] w (.bool (ZaV N least node)):=by
 have u0:=(Il No w).alloc (.cells #[.pointer p,Qi mask,Qi least] 288);have bS:=Im w 288 [.pointer p,Qi mask,Qi least];have hn:=Qh (ZfH (h.no u0));have c0:=bS.cell 0;have c2:=bS.cell 2;simp only[Qz,Qs]at c0 c2;have U0:=Qh u0;clear h u0 bS
 by_cases h1:max least 0<=node
 ·have HV:=Qh (show ZaV N least node=decide (node<(N:Int)) by unfold ZaV;rw[Qt h1];rfl)
  by_cases h2:least<0
  ·have h3:0<=node:=by omega
   have h4:max least 0=0:=by omega
   go_enter Tryz.func247,Tryz.ntmps247;go_wp2_with fail;refine(hn.out).mono ?_;rintro e w1 ⟨rfl,rfl⟩;go_wp2;go_ret;exact⟨by rw[HV.out];rfl,U0.out⟩
  ·have h3:least<=node:=by omega
   have h4:max least 0=least:=by omega
   go_enter Tryz.func247,Tryz.ntmps247;go_wp2_with fail;refine(hn.out).mono ?_;rintro e w1 ⟨rfl,rfl⟩;go_wp2;go_ret;exact⟨by rw[HV.out];rfl,U0.out⟩
 ·have HV:=Qh (show ZaV N least node=false by unfold ZaV;rw[Qf h1];rfl);have hb:decide (max least 0<=node)=false:=Qf h1;have aS:node<max least 0:=by omega
  go_enter Tryz.func247,Tryz.ntmps247;go_wp2;go_ret;exact⟨by rw[HV.out];rfl,U0.out⟩
end
/- Ways:how far each node is. -/
def ZaO(N:Nat)(d:Int->Int):Iv:=(List.range N).map fun i:Nat=>d (i:Int)
theorem ZcC(N:Nat)(d:Int->Int):(ZaO N d).length=N:=by unfold ZaO;simp
theorem ZfA{N i:Nat}(d:Int->Int)(h:i<N):(ZaO N d)[i]? =some (d (i:Int)):=by
 unfold ZaO;rw[List.getElem?_map,List.getElem?_range h];rfl
theorem ZfW(N:Nat)(v:Int):ZaO N (fun _=>v)=List.replicate N v:=by
 unfold ZaO
 apply List.ext_getElem
 ·simp
 ·intro i h1 h2;simp
theorem ZlI{N u:Nat}(d:Int->Int)(v:Int)(h:u<N):(ZaO N d).set u v=ZaO N (ZaD d (u:Int) v):=by
 unfold ZaO
 apply List.ext_getElem
 ·simp
 ·intro i h1 h2;rw[List.getElem_set];simp only[G8,List.getElem_range];unfold ZaD
  by_cases e:u=i
  ·subst e;simp
  ·rw[if_neg e,if_neg (by omega)]
def Zg(N:Nat):Iv:=(List.range N).map fun i:Nat=>(i:Int)
theorem mem_nodesZ{N:Nat}{x:Int}:x∈Zg N↔0<=x∧x<(N:Int):=by
 unfold Zg;rw[Ih]
 constructor
 ·rintro⟨i,hi,rfl⟩;rw[Ic]at hi;omega
 ·rintro⟨h1,h2⟩;exact⟨x.toNat,Ic.2 (by omega),by omega⟩
theorem Zv(N:Nat):(Zg N).Nodup:=by
 unfold Zg;refine List.Pairwise.map _ (fun a b h=>?_) (List.nodup_range (n:=N));omega
theorem Z6(N:Nat):(Zg N).length=N:=by unfold Zg;simp
def DQ(w:I0)(dg qg N:Nat)(d:Int->Int)(qu:Iv)(A:OA)(us:Iv)(W:I0):Prop:=
 ∃F F2,Blk W dg 3 ((ZaO N d).map (Value.int .i64))∧Que W F qg (N:Int) qu∧¬F dg∧(∀i,F i->w.heap.size<=i)∧w.heap.size<=dg∧Upd No w W∧Ints F2 W A us∧(∀i,F2 i->¬F i∧i≠dg∧i<W.heap.size)
namespace DQ
variable {w W W':I0} {dg qg N:Nat} {d:Int->Int} {qu us:Iv} {A:OA}
theorem no(h:DQ w dg qg N d qu A us W)(k:Upd No W W'):DQ w dg qg N d qu A us W':=by
 obtain⟨F,F2,h1,h2,h3,h4,h5,h6,h7,h8⟩:=h;exact⟨F,F2,h1.upd k id,h2.upd k Qo,h3,h4,h5,h6.trans k,h7.upd k Qo,fun i hi=>⟨(h8 i hi).1,(h8 i hi).2.1,Gu (h8 i hi).2.2 k.size⟩⟩
theorem upd(h:DQ w dg qg N d qu A us W):Upd No w W:=by
 obtain⟨F,F2,h1,h2,h3,h4,h5,h6,h7,h8⟩:=h;exact h6
theorem blk(h:DQ w dg qg N d qu A us W):Blk W dg 3 ((ZaO N d).map (Value.int .i64)):=by
 obtain⟨F,F2,h1,h2,h3,h4,h5,h6,h7,h8⟩:=h;exact h1
theorem sl(h:DQ w dg qg N d qu A us W):∃F2,Ints F2 W A us:=by
 obtain⟨F,F2,h1,h2,h3,h4,h5,h6,h7,h8⟩:=h;exact⟨F2,h7⟩
theorem bare(h:DQ w dg qg N d qu A us W):DQ w dg qg N d qu none [] W:=by
 obtain⟨F,F2,h1,h2,h3,h4,h5,h6,h7,h8⟩:=h;exact⟨F,fun _=>False,h1,h2,h3,h4,h5,h6,Ints.nil_,fun _ e=>e.elim⟩
theorem list_(h:DQ w dg qg N d qu A us W){A':OA}{c':Nat}{us':Iv}(k:Upd No W W')(ho:W'.ownsRow W.heap.size 3 1 (.slice A' us'.length c') us'.length (us'.map (Value.int .i64))):DQ w dg qg N d qu A' us' W':=by
 obtain⟨F,F2,h1,h2,h3,h4,h5,h6,h7,h8⟩:=h
 have hI:Ints (fun i=>W.heap.size<=i∧i<W'.heap.size) W' A' us':=fun hne=>by
  obtain⟨ad,e,hf,hl,hc⟩:=(Ints.of_own ho) hne;exact⟨ad,e,⟨hf,hl⟩,hl,hc⟩
 refine⟨F,_,h1.upd k id,h2.upd k Qo,h3,h4,h5,h6.trans k,hI,fun i hi=>⟨fun e=>?_,fun e=>?_,hi.2⟩⟩
 ·have:=h2.lt i e;omega
 ·have:=h1.lt;omega
theorem cell(h:DQ w dg qg N d qu A us W){i:Nat}(hi:i<N):W.cell? ⟨dg,i,none⟩=some (Qi (d (i:Int))):=by
 rw[h.blk.cell i,List.getElem?_map,ZfA d hi];rfl
theorem free(h:DQ w dg qg N d qu A us W)(i:Nat):W.frozen? ⟨dg,i,none⟩=false:=h.blk.free i
theorem set_(h:DQ w dg qg N d qu A us W){u:Nat}(hu:u<N)(v:Int):DQ w dg qg N (ZaD d (u:Int) v) qu A us (W.setCell ⟨dg,u,none⟩ (Qi v)):=by
 obtain⟨F,F2,h1,h2,h3,h4,h5,h6,h7,h8⟩:=h;have k:=Upd.setOne (Il (One dg) W) u (Qi v);refine⟨F,F2,?_,h2.upd k (fun i hi e=>h3 (e▸hi)),h3,h4,h5,h6.then_ k fun i e=> .inr (by rw[e];exact h5),h7.upd k (fun i hi e=>(h8 i hi).2.1 e),fun i hi=>⟨(h8 i hi).1,(h8 i hi).2.1,Gu (h8 i hi).2.2 k.size⟩⟩;have:=h1.set_ u (Qi v);rw[<-List.map_set,ZlI d v hu]at this;exact this
theorem push(h:DQ w dg qg N d qu A us W)(hN:N<=65536)(hf:qu.length<N)(u:Int):Calls Tryz.prog 249 #[.pointer (some ⟨qg,0,none⟩),Qi u] W fun e w'=>e= .returned (Qi 0)∧DQ w dg qg N d (qu++[u]) A us w':=by
 obtain⟨F,F2,h1,h2,h3,h4,h5,h6,h7,h8⟩:=h;refine(Zt4 W F qg (N:Int) qu u h2 (by omega) (by omega) (by omega)).mono ?_;rintro e w' ⟨rfl,F',mJ,hq,hu⟩;have hs:=h6.size
 have hne:∀i,i<W.heap.size->¬F i->¬F' i:=fun i hi hn e=>by
  rcases mJ i e with e|e
  ·exact hn e
  ·omega
 refine⟨rfl,F',F2,h1.upd hu h3,hq,hne dg h1.lt h3,fun i hi=>?_,h5,h6.then_ hu fun i e=> .inr (h4 i e),h7.upd hu (fun i hi=>(h8 i hi).1),fun i hi=>⟨hne i (h8 i hi).2.2 (h8 i hi).1,(h8 i hi).2.1,Gu (h8 i hi).2.2 hu.size⟩⟩;rcases mJ i hi with e|e
 ·exact h4 i e
 ·omega
theorem pop{x:Int}(h:DQ w dg qg N d (x::qu) A us W):Calls Tryz.prog 250 #[.pointer (some ⟨qg,0,none⟩)] W fun e w'=>e= .returned (.tuple #[Qi x,.bool true])∧DQ w dg qg N d qu A us w':=by
 obtain⟨F,F2,h1,h2,h3,h4,h5,h6,h7,h8⟩:=h;refine(ZvV W F qg (N:Int) x qu h2).mono ?_;rintro e w' ⟨rfl,hq,hu⟩;exact⟨rfl,F,F2,h1.upd hu h3,hq,h3,h4,h5,h6.then_ hu fun i e=> .inr (h4 i e),h7.upd hu (fun i hi=>(h8 i hi).1),fun i hi=>⟨(h8 i hi).1,(h8 i hi).2.1,Gu (h8 i hi).2.2 hu.size⟩⟩
theorem pop0(h:DQ w dg qg N d [] A us W):CE 250 #[.pointer (some ⟨qg,0,none⟩)] W (.tuple #[Qi 0,.bool false]):=by
 obtain⟨F,F2,h1,h2,h3,h4,h5,h6,h7,h8⟩:=h;exact Zkk W F qg (N:Int) h2
theorem popA(h:DQ w dg qg N d qu A us W):Calls Tryz.prog 250 #[.pointer (some ⟨qg,0,none⟩)] W fun e w'=>∃x b qu',e= .returned (.tuple #[Qi x,.bool b])∧DQ w dg qg N d qu' A us w'∧(if b=true then qu=x::qu' else qu=[]∧qu'=[]):=by
 cases qu with
 |nil=>
  refine h.pop0.mono ?_;rintro e w' ⟨rfl,rfl⟩;exact⟨0,false,[],rfl,h,by simp⟩
 |cons x qu=>
  refine h.pop.mono ?_;rintro e w' ⟨rfl,h'⟩;exact⟨x,true,qu,rfl,h',by simp⟩
end DQ
def okL(least:Int):Int->Bool:=fun u=>decide (least<=u)
def Zau(p:List HArc):Int->Iv:=fun x=>nxA x true p
def ZbA(node:Int):Int->Int:=fun u=>if u=node then 0 else -1
def Zcd(N:Nat)(p:List HArc)(least node:Int):Int->Int:=if ZaV N least node=true then Zbx (okL least) (Zau p) N (ZbA node,[node]) else fun _=> -1
theorem Zqh(node:Int):ZaD (fun _=>(-1:Int)) node 0=ZbA node:=rfl
theorem Zdi{N:Nat}{p:List HArc}(hp:∀x∈p,0<=x.f∧x.f<(N:Int))(v:Int):∀u∈Zau p v,u∈Zg N:=fun u hu=>by
 unfold Zau nxA at hu;rw[ZeB]at hu;simp only[G6,false_or,if_true]at hu;obtain⟨x,h1,h2,h3⟩:=hu;rw[mem_nodesZ,h3];exact hp x h1
theorem dto(w:I0)(G:Iw)(p0:OA)(N K:Nat)(q:List HArc)(h:DG w G p0 N K q)(hK:K<=100000)(mask node least:Int):
  Calls Tryz.prog 220 #[.pointer p0,Qi mask,Qi node,Qi least] w (ZpI w (ZaO N (Zcd N (ofA mask q) least node))):=by
 have hN:=h.nodes_le;obtain⟨p,hp⟩:=Qe (ofA mask q)
 have iF:∀x∈p,0<=x.f∧x.f<(N:Int):=fun x hx=>by
  rw[<-hp]at hx;have:=(ZQ _ _).1 (h.right x (mem_ofA.1 hx).1);exact⟨this.1,this.2.1⟩
 obtain⟨wb,ag⟩:=Qe (w.alloc (.cells #[.pointer p0,Qi mask,Qi least] 288));have u0:Upd No w wb:=by rw[<-ag];exact(Il No w).alloc _
 have bS:Blk wb w.heap.size 288 [.pointer p0,Qi mask,Qi least]:=by rw[<-ag];exact Im w _ _
 have HG:=Qh (fun(W:I0) (u:Upd No wb W)=>h.no (u0.trans u));have HP:=Qh (fun(W:I0) (u:Upd No wb W) (i:Int)=>hp▸ZmP (h.no (u0.trans u)) i mask);have HS:=Qh (fun(W:I0) (u:Upd No wb W)=>(⟨(bS.upd u id).cell 0,(bS.upd u id).cell 1,(bS.upd u id).cell 2⟩:W.cell? ⟨w.heap.size,0,none⟩=some (.pointer p0)∧W.cell? ⟨w.heap.size,1,none⟩=some (Qi mask)∧W.cell? ⟨w.heap.size,2,none⟩=some (Qi least)));have yq:=Qh iF;have i6:Hid (p.length<=1000000):=Qh (by rw[<-hp];have:=Gj (fun x=>Zf mask x.kind) q;have:=h.few;unfold ofA;omega);have U0:=Qh u0;have Hp:=Qh hp;obtain⟨c0,c1,c2⟩:=HS.out wb (Il _ _);clear hp iF h bS;go_enter Tryz.func220,Tryz.ntmps220;go_wp2_with fail;refine(Zua (HG.out wb (Il _ _)) mask least).mono ?_;rintro e w1 ⟨dg,rfl,aX,dN,hu1⟩;obtain⟨d0,d1,d2⟩:=HS.out w1 hu1
 cases hs:ZaV N least node
 ·have am:=Qh (hs▸Zjk (HG.out w1 hu1) mask least node);have HV:=Qh (show Zcd N (ofA mask q) least node=fun _=> -1 by unfold Zcd;rw[hs];rfl);go_wp2_with fail;refine Ck am.out fun w2 hu2=>?_;go_wp2;go_ret;refine⟨dg,by simp[ZcC],?_,by have:=U0.out.size;omega,(U0.out.trans hu1).trans hu2⟩;rw[HV.out,ZfW];exact aX.upd hu2 id
 ·have am:=Qh (hs▸Zjk (HG.out w1 hu1) mask least node);have HV:=Qh (show Zcd N (ofA mask q) least node=Zbx (okL least) (Zau p) N (ZbA node,[node]) by unfold Zcd;rw[hs,Hp.out];rfl);unfold ZaV at hs;rw[Hj,Gw,Gw]at hs;obtain⟨nd,rfl⟩:∃nd:Nat,node=(nd:Int):=⟨node.toNat,by omega⟩;have hnd:nd<N:=by omega
  have nU:least<=(nd:Int):=by omega
  clear hs;go_wp2_with fail;refine Ck am.out fun w2 hu2=>?_;go_wp2_with fail;refine(ZfH (HG.out w2 (hu1.trans hu2))).mono ?_;rintro e w3 ⟨rfl,rfl⟩;have fd:Zbc (N:Int)=(N:Int):=by unfold Zbc;omega
  have rS:=Qh (fd▸ZvW w2 (N:Int));go_wp2_with fail;refine(rS.out).mono ?_;rintro e w4 ⟨qg,rfl,C7,qQ,hu4⟩;have fG:=U0.out.size;have eI:=(hu1.trans hu2).size;have kH:=(aX.upd hu2 id).upd hu4 id;rw[<-ZfW]at kH;have kI:DQ wb dg qg N (fun _=> -1) [] none [] w4:=⟨One qg,fun _=>False,kH,qQ,fun e=>by unfold One at e;have:=(aX.upd hu2 id).lt;omega,fun i e=>by unfold One at e;omega,dN,(hu1.trans hu2).trans hu4,Ints.nil_,fun _ e=>e.elim⟩;have fr:=kI.free nd;have cc:=kI.cell hnd;have i1:(0:Int)<=(nd:Int):=by omega
  have i2:(nd:Int)<(N:Int):=by omega
  have HD:=Qh (kI.set_ hnd 0);rw[Zqh]at HD;clear aX hu1 hu2 qQ hu4 kH kI am rS d0 d1 d2 c0 c1 c2;go_wp2_with fail;refine(HD.out.push (by omega) (by simp;omega) (nd:Int)).mono ?_;rintro e w5 ⟨rfl,oO⟩;rw[H8]at oO;have j9:(nd:Int)∈Zg N:=mem_nodesZ.2 ⟨i1,i2⟩;have aT:∀v∈Zg N,∀u∈Zau p v,okL least u=true->u∈Zg N:=fun v _ u hu _=>Zdi yq.out v u hu
  have B0:=BInv.start (ok:=okL least) (ps:=Zau p) j9 (Zv N);have B1:Hid (BInv (okL least) (Zau p) (Zg N) (nd:Int) (ZbA (nd:Int)) [(nd:Int)]):=Qh B0;have HM:=Qh (show Zas (Zg N) (ZbA (nd:Int))+[(nd:Int)].length<=N by have:=B1.out.fit;unfold Fits at this;rw[Z6]at this;exact this);have cS:=Qh aT;clear HD B0 j9 aT HG;go_wp2_with fail;refine(oO.popA).mono ?_;rintro e w6 ⟨x,b,qu,rfl,qd,bQ⟩;have cG:=Qh bQ;have uK:=Qh qd;clear oO bQ qd;go_wp2
  go_loopg [12,13] N (fun gk sx sb wr=>∃(d:Int->Int) (pend qu:Iv) (x:Int) (b:Bool),sx= Qi x∧sb= .bool b∧Hid (if b=true then pend=x::qu else pend=[]∧qu=[])∧Hid (DQ wb dg qg N d qu none [] wr)∧
   Hid (BInv (okL least) (Zau p) (Zg N) (nd:Int) d pend)∧Hid (Zbx (okL least) (Zau p) gk (d,pend)=Zbx (okL least) (Zau p) N (ZbA (nd:Int),[(nd:Int)]))∧Hid (Zas (Zg N) d+pend.length<=gk))
  case atStart=>exact⟨ZbA (nd:Int),[(nd:Int)],qu,x,b,rfl,rfl,cG,uK,B1,Qh rfl,HM⟩
  case round=>
   obtain⟨d,pend,qu,x,b,rfl,rfl,lC,hd,ir,aV,bB⟩:=hrel
   cases b
   ·have hp0:pend=[]:=(show pend=[]∧qu=[] from by simpa using lC.out).1;have HR:=Qh (show d=Zcd N (ofA mask q) least (nd:Int) by rw[HV.out,<-aV.out,hp0,Zm0]);have hb:=hd.out.blk;have hu:=hd.out.upd;clear lC aV bB ir hp0;go_wp2;go_ret;have:=U0.out.size;refine⟨dg,by simp[ZcC],?_,by omega,U0.out.trans hu⟩;rw[<-HR.out];exact hb
   ·have hp0:pend=x::qu:=by simpa using lC.out
    subst hp0;have aE:=ir.out.pop;have aZ:=ir.out.q0 x Gv;have mY:=mem_nodesZ.1 (ir.out.dm x aZ);obtain⟨xi,rfl⟩:∃xi:Nat,x=(xi:Int):=⟨x.toNat,by omega⟩;have EX:xi<N:=by omega
    have ka:=bB.out;simp only[G1]at ka;obtain⟨g1,rfl⟩:∃g1,gk=g1+1:=⟨gk-1,by omega⟩;have am:=aV.out;rw[Zha]at am;obtain⟨us,jz⟩:=Qe (Zau p (xi:Int));have zq:=Qh ((show nxA (xi:Int) true p=us from jz)▸HP.out wr hd.out.upd (xi:Int));have Dw:us.length<=p.length:=by rw[<-jz];exact Zh0 _ _ _
    have hpl:=i6.out;have pb:=Qh jz;rw[jz]at am;have gI:=Qh am;have qF:=Qh aE;obtain⟨dx,r8⟩:∃v,d (xi:Int)=v:=⟨_,rfl⟩;rw[r8]at gI qF;obtain⟨M,hM⟩:=Qe (Zas (Zg N) d+qu.length);have qW:=Qh (show M<=g1 by omega);have lU:=Qh hM;clear lC ir aV bB aE aZ mY ka am jz hM r8;go_wp2_with fail;refine(zq.out).mono ?_;rintro e w7 ⟨A7,c7,rfl,ed,aq⟩;have lR:=Qh (hd.out.list_ aq ed);clear zq ed aq hd;go_wp2
    go_loopg [52] us.length (fun gj i wr=>∃(j:Nat) (d':Int->Int) (qu':Iv),j+gj=us.length∧i= Qi j∧Hid (DQ wb dg qg N d' qu' A7 us wr)∧Hid (RInv (okL least) (Zau p) (Zg N) (nd:Int) (xi:Int) dx (us.take j) d' qu')∧
     Hid (Zu (okL least) dx (us.drop j) (d',qu')=Zu (okL least) dx us (d,qu))∧Hid (Zas (Zg N) d'+qu'.length=M))
    case atStart=>exact⟨0,d,qu,by omega,rfl,lR,qF,Qh rfl,lU⟩
    case round=>
     obtain⟨j,d',qu',kP,rfl,hd,aE,aV,bB⟩:=hrel
     by_cases hlt:j<us.length
     ·obtain⟨F2,hI⟩:=hd.out.sl;obtain⟨ad,rfl,_,_,hc⟩:=hI.at_ hlt;obtain⟨u,hu⟩:=Qe (us[j]);rw[hu]at hc;have mp:u∈Zau p (xi:Int):=by rw[pb.out,<-hu];exact Hg hlt
      have fw:=mem_nodesZ.1 (Zdi yq.out (xi:Int) u mp);obtain⟨ui,rfl⟩:∃ui:Nat,u=(ui:Int):=⟨u.toNat,by omega⟩;have hui:ui<N:=by omega
      have bi:us.take (j+1)=us.take j++[(ui:Int)]:=by rw[Gb hlt,hu]
      have am:=aV.out;rw[show us.drop j=(ui:Int)::us.drop (j+1) by rw[<-hu];exact Ge hlt,Zci]at am;have b1:(0:Int)<=(j:Int):=Qn _;have b2:(j:Int)<(us.length:Int):=by omega
      have b3:(0:Int)<=(ui:Int):=Qn _;have b4:(ui:Int)<(N:Int):=by omega
      have cu:=hd.out.cell hui;clear hu fw hI
      by_cases hl:least<=(ui:Int)
      ·by_cases hneg:d' (ui:Int)<0
       ·have aC:(okL least (ui:Int)&&decide (d' (ui:Int)<0))=true:=by unfold okL;rw[Qt hl,Qt hneg];rfl
        rw[if_pos aC]at am;have cx:=hd.out.cell EX;rw[aE.out.dxe]at cx;have cz:=aE.out.push (Zv N) cS.out mp aC;rw[<-bi]at cz;have aR:=aE.out.fit.push (Zv N) (u:=(ui:Int)) (mem_nodesZ.2 ⟨b3,b4⟩) hneg (v:=dx+1) (by have:=aE.out.dxp;omega);rw[Z6]at aR;have jy:=Zb6 (v:=dx+1) (Zv N) (mem_nodesZ.2 ⟨b3,b4⟩) hneg (by have:=aE.out.dxp;omega);have km:=Qh (show Zas (Zg N) (ZaD d' (ui:Int) (dx+1))+(qu'++[(ui:Int)]).length=M by rw[Gt,Gi,<-bB.out];omega)
        have oN:dx<=5000:=by
         have:=aE.out.cap (xi:Int);rw[Z6,aE.out.dxe]at this;omega
        have lA:=aE.out.dxp;have hw:IntKind.i64.wrap (dx+1)=dx+1:=IntWalk.i64_in _ (by omega);have fu:=hd.out.free ui;have nP:=Qh (hd.out.set_ hui (dx+1));have cM:=Qh cz;have aU:=Qh am;have oy:=Qh aR.2;clear am aE cz aR jy bB aV aC hd mp bi;go_wp2_with fail;refine Ck (nP.out.push (by omega) oy.out (ui:Int)) fun w9 hd9=>?_;go_wp2;go_roundg (gk-1);exact⟨j+1,_,_,by omega,by go_num,Qh hd9,cM,aU,km⟩;omega
       ·have aC:¬(okL least (ui:Int)&&decide (d' (ui:Int)<0))=true:=by rw[Qf hneg];simp
        rw[if_neg aC]at am;have cM:=Qh (bi▸aE.out.skip aC);have aU:=Qh am;clear am aE aV aC mp bi;go_wp2;go_roundg (gk-1);exact⟨j+1,d',qu',by omega,by go_num,hd,cM,aU,bB⟩;omega
      ·have aC:¬(okL least (ui:Int)&&decide (d' (ui:Int)<0))=true:=by unfold okL;rw[Qf hl];simp
       rw[if_neg aC]at am;have cM:=Qh (bi▸aE.out.skip aC);have aU:=Qh am;clear am aE aV aC mp bi;go_wp2;go_roundg (gk-1);exact⟨j+1,d',qu',by omega,by go_num,hd,cM,aU,bB⟩;omega
     ·obtain rfl:j=us.length:=by omega
      have am:=aV.out;rw[G9]at am;have am:(d',qu')=Zu (okL least) dx us (d,qu):=am;have cB:=aE.out;rw[G7,<-pb.out]at cB;have xJ:=Qh cB.done;have HE:=Qh (show Zbx (okL least) (Zau p) g1 (d',qu')=Zbx (okL least) (Zau p) N (ZbA (nd:Int),[(nd:Int)]) by rw[am];exact gI.out);have km:=Qh (show Zas (Zg N) d'+qu'.length<=g1 by rw[bB.out];exact qW.out);have lP:=Qh hd.out.bare;clear am cB aE aV bB hd;go_wp2_with fail;refine(lP.out.popA).mono ?_;rintro e w8 ⟨x2,b2,qu2,rfl,qr,pW⟩;have xQ:=Qh qr;have qJ:=Qh pW;clear qr pW;go_wp2;go_roundg g1;exact⟨d',qu',qu2,x2,b2,rfl,rfl,qJ,xQ,xJ,HE,km⟩;omega
/- Ways:the first of the shortest. -/
structure DistOf (N:Nat) (p:List HArc) (least node:Int) (d:Int->Int):Prop where
 lo:∀u,-1<=d u
 hi:∀u,d u<(N:Int)∨d u<0
 inn:∀u,0<=d u->0<=u∧u<(N:Int)
 clo:∀v,0<=d v->∀u∈Zau p v,least<=u->0<=d u∧d u<=d v+1
 par:∀u,0<=d u->(u=node∧ZaV N least node=true)∨∃v,u∈Zau p v∧least<=u∧0<=d v∧d v+1=d u
 z:∀u,d u=0↔(u=node∧ZaV N least node=true)
theorem ZmN{N:Nat}{p:List HArc}(hp:∀x∈p,0<=x.f∧x.f<(N:Int))(least node:Int):DistOf N p least node (Zcd N p least node):=by
 unfold Zcd
 by_cases hs:ZaV N least node=true
 ·rw[if_pos hs];have ip:=hs;unfold ZaV at ip;rw[Hj,Gw,Gw]at ip;have j9:node∈Zg N:=mem_nodesZ.2 ⟨by omega,ip.2⟩;have aT:∀v∈Zg N,∀u∈Zau p v,okL least u=true->u∈Zg N:=fun v _ u hu _=>Zdi hp v u hu
  have B0:=BInv.start (ok:=okL least) (ps:=Zau p) j9 (Zv N);have B1:BInv (okL least) (Zau p) (Zg N) node (Zbx (okL least) (Zau p) N (ZbA node,[node])) []:=Zgp (Zv N) aT N _ _ B0 (by have:=B0.fit;unfold Fits at this;rw[Z6]at this;exact this);refine⟨B1.lo,fun u=>?_,fun u hu=>mem_nodesZ.1 (B1.dm u hu),fun v hv u hu hl=>B1.clo v hv (by simp) u hu (Qt hl),fun u hu=>?_,fun u=>?_⟩
  ·have:=B1.cap u;rw[Z6]at this;exact .inl (by show Zbx _ _ _ _ u<_;omega)
  ·rcases B1.par u hu with e|⟨v,h1,h2,h3⟩
   ·exact .inl ⟨e,hs⟩
   ·exact .inr ⟨v,h1,of_decide_eq_true h2,h3⟩
  ·rw[hs];simp only[and_true];exact B1.z u
 ·rw[if_neg hs];refine⟨fun u=>by omega,fun u=> .inr (by omega),fun u hu=>by omega,fun v hv=>by omega,fun u hu=>by omega,fun u=>?_⟩
  constructor
  ·intro h;omega
  ·intro h;exact absurd h.2 hs
theorem mem_prevF{p:List HArc}{u v:Int}:u∈Zau p v↔∃x∈p,x.t=v∧u=x.f:=by
 unfold Zau nxA;rw[ZeB];simp
/- Ways:how far each node is,by walks with an arc of another mask;plain words on two states of a node. -/
theorem ZvC(x:Int):bits .and .i64 x 1=x%2:=by
 have h:=Zka x 1 (by omega);rw[Nat.and_one_is_mod]at h;have h':bits .and .i64 x 1=(((x%18446744073709551616).toNat%2:Nat):Int):=h;rw[h'];omega
theorem ZiO(u h:Nat)(hu:u<=1000000)(hh:h<=1):bits .or .i64 ((u:Int)*2) (h:Int)=(u:Int)*2+(h:Int):=by
 change IntKind.i64.wrap (((BitVec.ofInt 64 ((u:Int)*2) ||| BitVec.ofInt 64 (h:Int)).toNat:Nat):Int)=_;have h1:(BitVec.ofInt 64 ((u:Int)*2)).toNat=u <<< 1:=by rw[BitVec.toNat_ofInt,Nat.shiftLeft_eq];omega
 have h2:(BitVec.ofInt 64 (h:Int)).toNat=h:=by rw[BitVec.toNat_ofInt];omega
 rw[BitVec.toNat_or,h1,h2,<-Nat.shiftLeft_add_eq_or_of_lt (by omega),Nat.shiftLeft_eq];have:IntKind.i64.wrap (((u*2 ^ 1+h:Nat):Nat):Int)=((u*2 ^ 1+h:Nat):Int):=IntWalk.i64_in _ (by omega);rw[this];omega
def Zfr(m1 m2:Int)(EY:Int):Int:=if m1=m2 then 1 else EY
def ZG(p1 p2:List HArc)(m1 m2:Int):Int->Iv:=fun x=>((nxA (x/2) true p1).map fun u=>u*2+Zfr m1 m2 (x%2))++((nxA (x/2) true p2).map fun u=>u*2+1)
def Zm(least:Int):Int->Bool:=fun y=>decide (least<=y/2)
def Zd8(N:Nat)(p1 p2:List HArc)(m1 m2 least node:Int):Int->Int:=
 if ZaV N least node=true then Zbx (Zm least) (ZG p1 p2 m1 m2) (2*N) (ZbA (node*2),[node*2]) else fun _=> -1
def ZbR(N:Nat)(d:Int->Int)(h:Int):Iv:=ZaO N fun i:Int=>d (i*2+h)
theorem ZlJ{N u:Nat}(d:Int->Int){h:Int}(hh:h=0∨h=1)(v:Int)(hu:u<N):(ZbR N d h).set u v=ZbR N (ZaD d ((u:Int)*2+h) v) h:=by
 unfold ZbR;rw[ZlI _ v hu];unfold ZaO
 apply List.map_congr_left
 intro i hi;unfold ZaD
 by_cases e:(i:Int)=(u:Int)
 ·rw[if_pos e]
  show v=if (i:Int)*2+h=(u:Int)*2+h then v else d ((i:Int)*2+h)
  rw[if_pos (by omega)]
 ·rw[if_neg e]
  show d ((i:Int)*2+h)=if (i:Int)*2+h=(u:Int)*2+h then v else d ((i:Int)*2+h)
  rw[if_neg (by omega)]
theorem ZiE{N:Nat}(d:Int->Int){u h k:Int}(hh:h=0∨h=1)(hk:k=0∨k=1)(hne:h≠k)(v:Int):ZbR N (ZaD d (u*2+h) v) k=ZbR N d k:=by
 unfold ZbR ZaO
 apply List.map_congr_left
 intro i hi;unfold ZaD
 show(if (i:Int)*2+k=u*2+h then v else d ((i:Int)*2+k))=d ((i:Int)*2+k)
 rw[if_neg (by omega)]
theorem ZfX(N:Nat)(v h:Int):ZbR N (fun _=>v) h=List.replicate N v:=ZfW N v
theorem ZhS{N:Nat}{p1 p2:List HArc}{m1 m2:Int}(h1:∀x∈p1,0<=x.f∧x.f<(N:Int))(h2:∀x∈p2,0<=x.f∧x.f<(N:Int))(v:Int):∀u∈ZG p1 p2 m1 m2 v,u∈Zg (2*N):=fun u hu=>by
 unfold ZG at hu;rw[mem_nodesZ];rcases Ib.1 hu with hu|hu
 ·obtain⟨y,hy,rfl⟩:=Ih.1 hu;have:=mem_nodesZ.1 (Zdi h1 _ y hy);have hn:Zfr m1 m2 (v%2)=0∨Zfr m1 m2 (v%2)=1:=by unfold Zfr;split<;>omega
  omega
 ·obtain⟨y,hy,rfl⟩:=Ih.1 hu;have:=mem_nodesZ.1 (Zdi h2 _ y hy);omega
/- Closed walks,plain:what distances say of walks. -/
section
variable {α:Type}
def Zlo(ok:α->Bool)(ps:α->List α)(root:α):Nat->α->Prop
 |0,u=>u=root
 |n+1,u=>∃v,Zlo ok ps root n v∧u∈ps v∧ok u=true
theorem ZlC{ok:α->Bool}{ps:α->List α}{dom:List α}{root:α}{d:α->Int}(h:BInv ok ps dom root d []):∀(n:Nat) (u:α),Zlo ok ps root n u->0<=d u∧d u<=(n:Int)
 |0,u,hu=>by
  have:u=root:=hu;have:=(h.z u).2 this;omega
 |n+1,u,⟨v,hv,hu,ho⟩=>by
  have ih:=ZlC h n v hv;have:=h.clo v ih.1 (by simp) u hu ho;omega
theorem ZlB{ok:α->Bool}{ps:α->List α}{dom:List α}{root:α}{d:α->Int}(h:BInv ok ps dom root d []):∀(n:Nat) (u:α),d u=(n:Int)->Zlo ok ps root n u
 |0,u,hu=>(h.z u).1 (by simpa using hu)
 |n+1,u,hu=>by
  rcases h.par u (by omega)with e|⟨v,h1,h2,h3,h4⟩
  ·have:=(h.z u).2 e;omega
  ·exact⟨v,ZlB h n v (by omega),h1,h2⟩
end
def okW(p:List HArc)(least:Int):Int->List HArc->Int->Prop
 |u,[],v=>u=v
 |u,a::l,v=>a∈p∧a.f=u∧least<=u∧okW p least a.t l v
theorem ZcV{p:List HArc}{least:Int}:∀{l m:List HArc} {u x v:Int},okW p least u l x->okW p least x m v->okW p least u (l++m) v
 |[],m,u,x,v,h,k=>by
  have:u=x:=h;subst this;exact k
 |a::l,m,u,x,v,h,k=>⟨h.1,h.2.1,h.2.2.1,ZcV h.2.2.2 k⟩
theorem ZgG{p:List HArc}{least:Int}:∀{l m:List HArc} {u v:Int},okW p least u (l++m) v->∃x,okW p least u l x∧okW p least x m v
 |[],m,u,v,h=>⟨u,rfl,h⟩
 |a::l,m,u,v,h=>by
  obtain⟨x,h1,h2⟩:=ZgG (l:=l) h.2.2.2;exact⟨x,⟨h.1,h.2.1,h.2.2.1,h1⟩,h2⟩
theorem Zf5{p p':List HArc}{least least':Int}(hp:∀a∈p,a∈p')(hl:least'<=least):∀{l:List HArc} {u v:Int},okW p least u l v->okW p' least' u l v
 |[],u,v,h=>h
 |a::l,u,v,h=>⟨hp a h.1,h.2.1,Int.le_trans hl h.2.2.1,Zf5 hp hl h.2.2.2⟩
/-! masks -/
theorem ZfK(x:Int)(j:Nat)(hj:j=1∨j=2∨j=3):Zf x (j:Int)=(BitVec.ofInt 64 x).toNat.testBit j:=by
 unfold Zf;rw[Nat.testBit_eq_decide_div_mod_eq,BitVec.toNat_ofInt,decide_eq_decide];rcases hj with rfl|rfl|rfl
 ·show(x/2)%2=1↔(x%18446744073709551616).toNat/2%2=1
  omega
 ·show(x/4)%2=1↔(x%18446744073709551616).toNat/4%2=1
  omega
 ·show(x/8)%2=1↔(x%18446744073709551616).toNat/8%2=1
  omega
theorem ZvI(n:Nat)(h:n<18446744073709551616):IntKind.i64.wrap (n:Int)=(n:Int)∨IntKind.i64.wrap (n:Int)=(n:Int)-18446744073709551616:=by
 unfold IntKind.wrap;simp[IntKind.signed,IntKind.bits];omega
theorem Zlb(n:Nat)(h:n<18446744073709551616)(j:Nat)(hj:j=1∨j=2∨j=3):Zf (IntKind.i64.wrap (n:Int)) (j:Int)=n.testBit j:=by
 rw[ZfK _ j hj]
 congr 1
 rw[BitVec.toNat_ofInt];rcases ZvI n h with e|e<;>rw[e]<;>omega
theorem Zd2(x y:Int)(j:Nat)(hj:j=1∨j=2∨j=3):Zf (bits .and .i64 x y) (j:Int)=(Zf x (j:Int)&&Zf y (j:Int)):=by
 rw[ZfK x j hj,ZfK y j hj];have e:bits .and .i64 x y=IntKind.i64.wrap (((BitVec.ofInt 64 x &&& BitVec.ofInt 64 y).toNat:Nat):Int):=rfl;rw[e,Zlb _ (BitVec.isLt _) j hj,BitVec.toNat_and,Nat.testBit_and]
theorem Zdb(x y:Int)(j:Nat)(hj:j=1∨j=2∨j=3):Zf (bits .andNot .i64 x y) (j:Int)=(Zf x (j:Int)&& !Zf y (j:Int)):=by
 rw[ZfK x j hj,ZfK y j hj];have e:bits .andNot .i64 x y=IntKind.i64.wrap (((BitVec.ofInt 64 x &&& ~~~ BitVec.ofInt 64 y).toNat:Nat):Int):=rfl;rw[e,Zlb _ (BitVec.isLt _) j hj,BitVec.toNat_and,Nat.testBit_and]
 congr 1
 have:(~~~ BitVec.ofInt 64 y).toNat.testBit j=(~~~ BitVec.ofInt 64 y).getLsbD j:=rfl;rw[this,BitVec.getLsbD_not];have Dz:decide (j<64)=true:=Qt (by omega);rw[Dz,Bool.true_and];rfl
def isM(must:Int)(a:HArc):Bool:=Zf must a.kind
theorem Zdk{k:Int}(h1:1<=k)(h2:k<=3):∃j:Nat,k=(j:Int)∧(j=1∨j=2∨j=3):=⟨k.toNat,by omega,by omega⟩
theorem Zme{mask must:Int}{q:List HArc}(hk:∀a∈q,1<=a.kind∧a.kind<=3){a:HArc}:a∈ofA (bits .andNot .i64 mask must) q↔a∈ofA mask q∧isM must a=false:=by
 rw[mem_ofA,mem_ofA];unfold isM
 constructor
 ·rintro⟨h1,h2⟩;obtain⟨j,hj,jd⟩:=Zdk (hk a h1).1 (hk a h1).2;rw[hj,Zdb _ _ j jd,Hj,<-hj]at h2;exact⟨⟨h1,h2.1⟩,by simpa using h2.2⟩
 ·rintro⟨⟨h1,h2⟩,h3⟩;refine⟨h1,?_⟩;obtain⟨j,hj,jd⟩:=Zdk (hk a h1).1 (hk a h1).2;rw[hj]at h2 h3 ⊢;rw[Zdb _ _ j jd,h2,h3];rfl
theorem Zmd{mask must:Int}{q:List HArc}(hk:∀a∈q,1<=a.kind∧a.kind<=3){a:HArc}:a∈ofA (bits .and .i64 mask must) q↔a∈ofA mask q∧isM must a=true:=by
 rw[mem_ofA,mem_ofA];unfold isM
 constructor
 ·rintro⟨h1,h2⟩;obtain⟨j,hj,jd⟩:=Zdk (hk a h1).1 (hk a h1).2;rw[hj,Zd2 _ _ j jd,Hj,<-hj]at h2;exact⟨⟨h1,h2.1⟩,h2.2⟩
 ·rintro⟨⟨h1,h2⟩,h3⟩;refine⟨h1,?_⟩;obtain⟨j,hj,jd⟩:=Zdk (hk a h1).1 (hk a h1).2;rw[hj]at h2 h3 ⊢;rw[Zd2 _ _ j jd,h2,h3];rfl
theorem Zkz{mask must:Int}{q:List HArc}(hk:∀a∈q,1<=a.kind∧a.kind<=3)(y z:Int):
  z∈ZG (ofA (bits .andNot .i64 mask must) q) (ofA (bits .and .i64 mask must) q) (bits .andNot .i64 mask must) (bits .and .i64 mask must) y↔∃a∈ofA mask q,a.t=y/2∧z=a.f*2+(if isM must a=true then 1 else y%2):=by
 have hm:bits .andNot .i64 mask must=bits .and .i64 mask must->ofA (bits .andNot .i64 mask must) q=[]:=fun e=>by
  rw[List.eq_nil_iff_forall_not_mem];intro a ha;have h1:=(Zme hk).1 ha;rw[e]at ha;have h2:=(Zmd hk).1 ha;rw[h1.2]at h2
  cases h2.2
 unfold ZG;rw[Ib,Ih,Ih];have m:∀(p:List HArc) (u:Int),u∈nxA (y/2) true p↔∃a∈p,a.t=y/2∧u=a.f:=fun p u=>mem_prevF (u:=u) (v:=y/2) (p:=p)
 constructor
 ·rintro(⟨u,hu,rfl⟩|⟨u,hu,rfl⟩)
  ·obtain⟨a,ha,h1,rfl⟩:=(m _ u).1 hu;have h2:=(Zme hk).1 ha;refine⟨a,h2.1,h1,?_⟩;rw[if_neg (by rw[h2.2];decide)];unfold Zfr;rw[if_neg (fun e=>by rw[hm e]at ha;cases ha)]
  ·obtain⟨a,ha,h1,rfl⟩:=(m _ u).1 hu;have h2:=(Zmd hk).1 ha;exact⟨a,h2.1,h1,by rw[if_pos h2.2]⟩
 ·rintro⟨a,ha,h1,rfl⟩
  by_cases hM:isM must a=true
  ·rw[if_pos hM];exact .inr ⟨a.f,(m _ _).2 ⟨a,(Zmd hk).2 ⟨ha,hM⟩,h1,rfl⟩,rfl⟩
  ·rw[if_neg hM];have h3:=(Zme hk).2 ⟨ha,by simpa using hM⟩;refine .inl ⟨a.f,(m _ _).2 ⟨a,h3,h1,rfl⟩,?_⟩;unfold Zfr;rw[if_neg (fun e=>by rw[hm e]at h3;cases h3)]
def Zq(must:Int)(l:List HArc):Bool:=l.any (isM must)
theorem Zen{mask must least node:Int}{q:List HArc}(hk:∀a∈q,1<=a.kind∧a.kind<=3):
  ∀(n:Nat) (u:Int) (h:Int),(h=0∨h=1)->
   (Zlo (Zm least) (ZG (ofA (bits .andNot .i64 mask must) q) (ofA (bits .and .i64 mask must) q) (bits .andNot .i64 mask must) (bits .and .i64 mask must)) (node*2) n (u*2+h)↔
    ∃l,okW (ofA mask q) least u l node∧l.length=n∧(h=1↔Zq must l=true))
 |0,u,h,hh=>by
  constructor
  ·intro e;have e:u*2+h=node*2:=e;have:h=0:=by omega
   subst this;exact⟨[],show u=node by omega,rfl,by simp[Zq]⟩
  ·rintro⟨l,h1,h2,h3⟩;have:l=[]:=Gd h2;subst this;have h1:u=node:=h1
   have h0:h=0:=by
    rcases hh with e|e
    ·exact e
    ·have:=h3.1 e;simp[Zq]at this
   show u*2+h=node*2
   omega
 |n+1,u,h,hh=>by
  constructor
  ·rintro⟨v,hv,hu,ho⟩;obtain⟨a,ha,h1,h2⟩:=(Zkz hk v (u*2+h)).1 hu;have hs:(if isM must a=true then (1:Int) else v%2)=0∨(if isM must a=true then (1:Int) else v%2)=1:=by split<;>omega
   have hu2:u=a.f:=by omega
   have kE:h=if isM must a=true then 1 else v%2:=by omega
   have dH:v=a.t*2+v%2:=by omega
   rw[dH]at hv;obtain⟨l,k1,k2,k3⟩:=(Zen hk n a.t (v%2) (by omega)).1 hv;refine⟨a::l,⟨ha,hu2.symm,?_,k1⟩,by simp[k2],?_⟩
   ·have:=of_decide_eq_true ho;omega
   ·unfold Zq;rw[List.any_cons,Ia,kE]
    by_cases hM:isM must a=true
    ·rw[if_pos hM];exact⟨fun _=> .inl hM,fun _=>rfl⟩
    ·rw[if_neg hM,k3];unfold Zq;exact⟨.inr,fun e=>e.resolve_left hM⟩
  ·rintro⟨l,k1,k2,k3⟩
   cases l with
   |nil=>simp at k2
   |cons a l=>
    obtain⟨ha,eQ,hl,k1⟩:=k1;have k2:l.length=n:=by simpa using k2
    obtain⟨g,hg,dF⟩:∃g:Int,(g=0∨g=1)∧(g=1↔Zq must l=true):=by
     by_cases e:Zq must l=true
     ·exact⟨1,.inr rfl,by simp[e]⟩
     ·exact⟨0,.inl rfl,by simp[e]⟩
    refine⟨a.t*2+g,(Zen hk n a.t g hg).2 ⟨l,k1,k2,dF⟩,(Zkz hk _ _).2 ⟨a,ha,by omega,?_⟩,?_⟩
    ·rw[eQ];have kx:(a.t*2+g)%2=g:=by omega
     rw[kx]
     have:h=if isM must a=true then 1 else g:=by
      unfold Zq at k3 dF;rw[List.any_cons,Ia]at k3
      by_cases hM:isM must a=true
      ·rw[if_pos hM];exact k3.2 (.inl hM)
      ·rw[if_neg hM]
       by_cases e:l.any (isM must)=true
       ·rw[k3.2 (.inr e),dF.2 e]
       ·have h1:¬h=1:=fun e2=>(k3.1 e2).elim hM e
        have h2:¬g=1:=fun e2=>e (dF.1 e2)
        omega
     rw[this]
    ·unfold Zm;have:(u*2+h)/2=u:=by omega
     rw[this];exact Qt hl
/- Closed walks,plain:the shortest from a node,and the first of these. -/
theorem ZbD(must:Int)(a:HArc)(l:List HArc):Zq must (a::l)=(isM must a||Zq must l):=rfl
theorem Zcj(must:Int)(l m:List HArc):Zq must (l++m)=(Zq must l||Zq must m):=by
 unfold Zq;rw[List.any_append]
structure LoopD (p:List HArc) (must i:Int) (da dw:Int->Int):Prop where
 a1:∀(u:Int) (l:List HArc),okW p i u l i->0<=da u∧da u<=(l.length:Int)
 a2:∀u,0<=da u->∃l,okW p i u l i∧(l.length:Int)=da u
 w1:∀(u:Int) (l:List HArc),okW p i u l i->Zq must l=true->0<=dw u∧dw u<=(l.length:Int)
 w2:∀u,0<=dw u->∃l,okW p i u l i∧Zq must l=true∧(l.length:Int)=dw u
theorem ZrQ{N:Nat}{p:List HArc}{i:Int}{d:Int->Int}(h:DistOf N p i i d)(hi:ZaV N i i=true):∀(l:List HArc) (u:Int),okW p i u l i->0<=d u∧d u<=(l.length:Int)
 |[],u,hu=>by
  have hu:u=i:=hu;have:=(h.z u).2 ⟨hu,hi⟩;simp only[Hv];omega
 |a::l,u,⟨ha,eQ,hl,hw⟩=>by
  have ih:=ZrQ h hi l a.t hw;have:=h.clo a.t ih.1 u (mem_prevF.2 ⟨a,ha,rfl,eQ.symm⟩) hl;simp only[G1];omega
theorem ZrP{N:Nat}{p:List HArc}{i:Int}{d:Int->Int}(h:DistOf N p i i d):∀(n:Nat) (u:Int),d u=(n:Int)->∃l,okW p i u l i∧l.length=n
 |0,u,hu=>⟨[],((h.z u).1 (by simpa using hu)).1,rfl⟩
 |n+1,u,hu=>by
  rcases h.par u (by omega)with ⟨e,hs⟩|⟨v,h1,h2,h3,h4⟩
  ·have:=(h.z u).2 ⟨e,hs⟩;omega
  ·obtain⟨a,ha,iA,eQ⟩:=mem_prevF.1 h1;obtain⟨l,k1,k2⟩:=ZrP h n v (by omega);exact⟨a::l,⟨ha,eQ.symm,h2,by rw[iA];exact k1⟩,by simp[k2]⟩
def ZA(N:Nat)(q:List HArc)(mask must i:Int):Int->Int:=fun u=>
 Zd8 N (ofA (bits .andNot .i64 mask must) q) (ofA (bits .and .i64 mask must) q) (bits .andNot .i64 mask must) (bits .and .i64 mask must) i i (u*2+1)
theorem Zhx{N:Nat}{i:Int}(h0:0<=i)(h1:i<(N:Int)):ZaV N i i=true:=by
 unfold ZaV;rw[Qt (by omega),Qt h1];rfl
theorem Zf9{N:Nat}{q:List HArc}(hr:∀a∈q,Zo N a=true)(mask must i:Int)(h0:0<=i)(h1:i<(N:Int)):
  LoopD (ofA mask q) must i (Zcd N (ofA mask q) i i) (ZA N q mask must i):=by
 have hk:∀a∈q,1<=a.kind∧a.kind<=3:=fun a ha=>by
  have:=(ZQ _ _).1 (hr a ha);exact⟨this.2.2.2.2.1,this.2.2.2.2.2.1⟩
 have hf:∀m,∀x∈ofA m q,0<=x.f∧x.f<(N:Int):=fun m x hx=>by
  have:=(ZQ _ _).1 (hr x (mem_ofA.1 hx).1);exact⟨this.1,this.2.1⟩
 have hs:=Zhx h0 h1;have hd:=ZmN (hf mask) i i;have j9:i*2∈Zg (2*N):=mem_nodesZ.2 ⟨by omega,by omega⟩;have aT:∀v∈Zg (2*N),∀u∈ZG (ofA (bits .andNot .i64 mask must) q) (ofA (bits .and .i64 mask must) q) (bits .andNot .i64 mask must) (bits .and .i64 mask must) v,Zm i u=true->u∈Zg (2*N):=fun v _ u hu _=>ZhS (hf _) (hf _) v u hu
 have B0:=BInv.start (ok:=Zm i) (ps:=ZG (ofA (bits .andNot .i64 mask must) q) (ofA (bits .and .i64 mask must) q) (bits .andNot .i64 mask must) (bits .and .i64 mask must)) j9 (Zv (2*N));have B1:=Zgp (Zv (2*N)) aT (2*N) _ _ B0 (by have:=B0.fit;unfold Fits at this;rw[Z6]at this;exact this)
 have hw:∀u,ZA N q mask must i u=Zbx (Zm i) (ZG (ofA (bits .andNot .i64 mask must) q) (ofA (bits .and .i64 mask must) q) (bits .andNot .i64 mask must) (bits .and .i64 mask must)) (2*N) ((fun u=>if u=i*2 then 0 else -1),[i*2]) (u*2+1):=fun u=>by
  unfold ZA Zd8;rw[if_pos hs];rfl
 refine⟨fun u l h=>ZrQ hd hs l u h,fun u hu=>?_,fun u l h hm=>?_,fun u hu=>?_⟩
 ·obtain⟨l,k1,k2⟩:=ZrP hd (Zcd N (ofA mask q) i i u).toNat u (by omega);exact⟨l,k1,by omega⟩
 ·rw[hw];exact ZlC B1 l.length (u*2+1) ((Zen hk l.length u 1 (.inr rfl)).2 ⟨l,h,rfl,by simp[hm]⟩)
 ·rw[hw]at hu ⊢;obtain⟨n,hn⟩:∃n:Nat,Zbx (Zm i) (ZG (ofA (bits .andNot .i64 mask must) q) (ofA (bits .and .i64 mask must) q) (bits .andNot .i64 mask must) (bits .and .i64 mask must)) (2*N) ((fun u=>if u=i*2 then 0 else -1),[i*2]) (u*2+1)=(n:Int):=⟨_,(Int.toNat_of_nonneg hu).symm⟩;obtain⟨l,k1,k2,k3⟩:=(Zen hk n u 1 (.inr rfl)).1 (ZlB B1 n _ hn);exact⟨l,k1,k3.1 rfl,by rw[hn,k2]⟩
def ZR(must:Int)(da dw:Int->Int)(need:Bool)(a:HArc):Int:=if (need&& !isM must a)=true then dw a.t else da a.t
section
variable {p:List HArc} {must i:Int} {da dw:Int->Int}
theorem ZnS(h:LoopD p must i da dw)(need:Bool)(a:HArc)(l:List HArc)(hw:okW p i a.t l i)(hm:need=true->Zq must (a::l)=true):0<=ZR must da dw need a∧ZR must da dw need a<=(l.length:Int):=by
 unfold ZR
 split
 ·rename_i hn
  rw[Hj]at hn;have h1:=hm hn.1;rw[ZbD]at h1;have h2:isM must a=false:=by simpa using hn.2
  rw[h2,Bool.false_or]at h1;exact h.w1 a.t l hw h1
 ·exact h.a1 a.t l hw
theorem ZjR(h:LoopD p must i da dw)(need:Bool)(a:HArc)(h0:0<=ZR must da dw need a):∃l,okW p i a.t l i∧(l.length:Int)=ZR must da dw need a∧(need=true->Zq must (a::l)=true):=by
 unfold ZR at h0 ⊢
 split at h0
 ·rename_i hn
  obtain⟨l,k1,k2,k3⟩:=h.w2 a.t h0;rw[if_pos hn];exact⟨l,k1,k3,fun _=>by rw[ZbD,k2];simp⟩
 ·rename_i hn
  obtain⟨l,k1,k2⟩:=h.a2 a.t h0;rw[if_neg hn];refine⟨l,k1,k2,fun e=>?_⟩;rw[e,Bool.true_and]at hn;have:isM must a=true:=by simpa using hn
  rw[ZbD,this];rfl
end
def Z4(lf:HArc->Int):Int->List HArc->Int
 |best,[]=>best
 |best,a::l=>Z4 lf (if (decide (0<=lf a)&&(best==0||decide (lf a+1<best)))=true then lf a+1 else best) l
theorem Zc4(lf:HArc->Int):∀(l:List HArc) (best:Int),0<=best->0<=Z4 lf best l∧(0<best->0<Z4 lf best l∧Z4 lf best l<=best)∧(∀a∈l,0<=lf a->0<Z4 lf best l∧Z4 lf best l<=lf a+1)∧(0<Z4 lf best l->Z4 lf best l=best∨∃a∈l,0<=lf a∧Z4 lf best l=lf a+1)
 |[],best,hb=>⟨hb,fun h=>⟨h,Int.le_refl _⟩,fun a ha=>(by cases ha),fun _=> .inl rfl⟩
 |x::l,best,hb=>by
  show 0<=Z4 lf (if (decide (0<=lf x)&&(best==0||decide (lf x+1<best)))=true then lf x+1 else best) l∧_
  by_cases hc:(decide (0<=lf x)&&(best==0||decide (lf x+1<best)))=true
  ·have hs:Z4 lf best (x::l)=Z4 lf (lf x+1) l:=by
    show Z4 lf (if (decide (0<=lf x)&&(best==0||decide (lf x+1<best)))=true then lf x+1 else best) l=_
    rw[if_pos hc]
   rw[if_pos hc,hs];rw[Hj,Gw,Ia,beq_iff_eq,Gw]at hc;obtain⟨i1,i2,i3,i4⟩:=Zc4 lf l (lf x+1) (by omega);have i2':=i2 (by omega);refine⟨i1,fun hb0=>⟨i2'.1,by omega⟩,fun a ha h0=>?_,fun h=>?_⟩
   ·rcases Ie.1 ha with rfl|ha
    ·exact i2'
    ·exact i3 a ha h0
   ·rcases i4 h with e|⟨a,ha,h0,e⟩
    ·exact .inr ⟨x,Gv,hc.1,e⟩
    ·exact .inr ⟨a,Gk _ ha,h0,e⟩
  ·have hs:Z4 lf best (x::l)=Z4 lf best l:=by
    show Z4 lf (if (decide (0<=lf x)&&(best==0||decide (lf x+1<best)))=true then lf x+1 else best) l=_
    rw[if_neg hc]
   rw[if_neg hc,hs];rw[Hj,Gw,Ia,beq_iff_eq,Gw]at hc;obtain⟨i1,i2,i3,i4⟩:=Zc4 lf l best hb;refine⟨i1,i2,fun a ha h0=>?_,fun h=>?_⟩
   ·rcases Ie.1 ha with rfl|ha
    ·have hb0:0<best∧best<=lf a+1:=by
      constructor
      ·rcases Classical.em (best=0)with e|e
       ·exact absurd ⟨h0,.inl e⟩ hc
       ·omega
      ·rcases Classical.em (lf a+1<best)with e|e
       ·exact absurd ⟨h0,.inr e⟩ hc
       ·omega
     have:=i2 hb0.1;omega
    ·exact i3 a ha h0
   ·rcases i4 h with e|⟨a,ha,h0,e⟩
    ·exact .inl e
    ·exact .inr ⟨a,Gk _ ha,h0,e⟩
def Zag(p:List HArc)(must i:Int)(da dw:Int->Int)(need:Bool):Int:=Z4 (ZR must da dw need) 0 (p.filter fun a=>a.f==i)
section
variable {p:List HArc} {must i:Int} {da dw:Int->Int}
theorem ZhN(h:LoopD p must i da dw)(need:Bool){c:List HArc}(hc:c≠[])(hw:okW p i i c i)(hm:need=true->Zq must c=true):0<Zag p must i da dw need∧Zag p must i da dw need<=(c.length:Int):=by
 cases c with
 |nil=>exact absurd rfl hc
 |cons a l=>
  obtain⟨ha,eQ,hl,hw⟩:=hw;have h1:=ZnS h need a l hw hm;have h2:=(Zc4 (ZR must da dw need) (p.filter fun a=>a.f==i) 0 (by omega)).2.2.1 a (Hy.2 ⟨ha,by simp[eQ]⟩) h1.1;unfold Zag;simp only[G1];omega
theorem ZlF(h:LoopD p must i da dw)(need:Bool)(h0:0<Zag p must i da dw need):∃c,c≠[]∧okW p i i c i∧(c.length:Int)=Zag p must i da dw need∧(need=true->Zq must c=true):=by
 unfold Zag at h0 ⊢;rcases(Zc4 (ZR must da dw need) (p.filter fun a=>a.f==i) 0 (by omega)).2.2.2 h0 with e|⟨a,ha,h1,e⟩
 ·omega
 ·rw[Hy,beq_iff_eq]at ha;obtain⟨l,k1,k2,k3⟩:=ZjR h need a h1;exact⟨a::l,by simp,⟨ha.1,ha.2,Int.le_refl _,k1⟩,by simp only[G1];omega,k3⟩
end
def ZO(p:List HArc)(must i:Int)(da dw:Int->Int):Nat->Int->Bool->List HArc
 |0,_,_=>[]
 |n+1,av,need=>match (p.filter fun a=>a.f==av).find? (fun a=>decide (i<=a.t)&&decide (ZR must da dw need a=(n:Int)))with
  |some a=>a::ZO p must i da dw n a.t (need&& !isM must a)
  |none=>ZO p must i da dw n av need
def Zfs:List HArc->List HArc->Prop
 |a::l,b::m=>Zbi a b=true∨(a=b∧Zfs l m)
 |_,_=>False
theorem ZfN{p:List HArc}{must i:Int}{da dw:Int->Int}(hs:Zad p)(h:LoopD p must i da dw)(zW:∀u,0<=da u->i<=u)(zx:∀u,0<=dw u->i<=u):
  ∀(n:Nat) (av:Int) (need:Bool),i<=av->(∃l,okW p i av l i∧l.length=n∧(need=true->Zq must l=true))->
   (∀l,l≠[]->okW p i av l i->(need=true->Zq must l=true)->n<=l.length)->
   okW p i av (ZO p must i da dw n av need) i∧(ZO p must i da dw n av need).length=n∧(need=true->Zq must (ZO p must i da dw n av need)=true)∧
    ∀l,okW p i av l i->l.length=n->(need=true->Zq must l=true)->l=ZO p must i da dw n av need∨Zfs (ZO p must i da dw n av need) l
 |0,av,need,hih,⟨l,k1,k2,k3⟩,dB=>by
  have:l=[]:=Gd k2;subst this;refine⟨k1,rfl,k3,fun l _ h2 _=> .inl (Gd h2)⟩
 |n+1,av,need,hih,⟨l,k1,k2,k3⟩,dB=>by
  have good:∀(a:HArc) (l:List HArc),okW p i av (a::l) i->l.length=n->(need=true->Zq must (a::l)=true)->a∈(p.filter fun a=>a.f==av)∧(decide (i<=a.t)&&decide (ZR must da dw need a=(n:Int)))=true:=by
   intro a l hw hl hm;obtain⟨ha,eQ,EI,bZ⟩:=hw;have h1:=ZnS h need a l bZ hm;obtain⟨l2,j1,j2,j3⟩:=ZjR h need a h1.1;have h2:=dB (a::l2) (by simp) ⟨ha,eQ,EI,j1⟩ j3;simp only[G1]at h2;refine⟨Hy.2 ⟨ha,by simp[eQ]⟩,?_⟩;rw[Hj,Gw,Gw];refine⟨?_,by omega⟩;unfold ZR at h1
   split at h1
   ·exact zx _ h1.1
   ·exact zW _ h1.1
  cases l with
  |nil=>simp at k2
  |cons a0 l0=>
   have g0:=good a0 l0 k1 (by simpa using k2) k3
   obtain⟨a,t9⟩:∃a,(p.filter fun a=>a.f==av).find? (fun a=>decide (i<=a.t)&&decide (ZR must da dw need a=(n:Int)))=some a:=by
    rw[<-Option.isSome_iff_exists,List.find?_isSome];exact⟨a0,g0⟩
   have kN:=List.mem_of_find?_eq_some t9;have zI:=List.find?_some t9;rw[Hy,beq_iff_eq]at kN;rw[Hj,Gw,Gw]at zI
   have nT:ZO p must i da dw (n+1) av need=a::ZO p must i da dw n a.t (need&& !isM must a):=by
    show(match (p.filter fun a=>a.f==av).find? (fun a=>decide (i<=a.t)&&decide (ZR must da dw need a=(n:Int)))with|some a=>a::ZO p must i da dw n a.t (need&& !isM must a)|none=>ZO p must i da dw n av need)=_
    rw[t9]
   have tailM:∀l:List HArc,(need=true->Zq must (a::l)=true)->((need&& !isM must a)=true->Zq must l=true):=by
    intro l hm hn;rw[Hj]at hn;have h1:=hm hn.1;have h2:isM must a=false:=by simpa using hn.2
    rw[ZbD,h2,Bool.false_or]at h1;exact h1
   have iB:∀l:List HArc,((need&& !isM must a)=true->Zq must l=true)->(need=true->Zq must (a::l)=true):=by
    intro l hm hn;rw[ZbD]
    by_cases e:isM must a=true
    ·rw[e];rfl
    ·have e2:isM must a=false:=by simpa using e
     rw[hm (by rw[hn,e2];rfl)];simp
   obtain⟨l1,j1,j2,j3⟩:=ZjR h need a (by omega)
   have ih:=ZfN hs h zW zx n a.t (need&& !isM must a) zI.1 ⟨l1,j1,by omega,tailM l1 j3⟩ (fun l hl hw hm=>by
    have:=dB (a::l) (by simp) ⟨kN.1,kN.2,hih,hw⟩ (iB l hm);simp only[G1]at this;omega)
   rw[nT];refine⟨⟨kN.1,kN.2,hih,ih.1⟩,by simp[ih.2.1],iB _ ih.2.2.1,fun l hw hl hm=>?_⟩
   cases l with
   |nil=>simp at hl
   |cons b l=>
    have gb:=good b l hw (by simpa using hl) hm
    by_cases e:b=a
    ·subst e;rcases ih.2.2.2 l hw.2.2.2 (by simpa using hl) (tailM l hm)with e|e
     ·exact .inl (by rw[e])
     ·exact .inr (.inr ⟨rfl,e⟩)
    ·refine .inr (.inl ?_);obtain⟨l8,l9,h1,h2⟩:=(List.find?_eq_some_iff_append.1 t9).2;have hb:=gb.1;rw[h1]at hb;have E9:Zad (l8++a::l9):=by rw[<-h1];exact hs.filter _
     rcases Ib.1 hb with hb|hb
     ·have:=h2 b hb;rw[gb.2]at this
      cases this
     ·rcases Ie.1 hb with hb|hb
      ·exact absurd hb e
      ·exact(Gr.1 (Gm.1 E9).2.1).1 b hb
/- Closed walks,plain:the shortest of all;it meets no node twice. -/
theorem ZhY{p:List HArc}{least:Int}:∀{l:List HArc} {u v:Int} {a:HArc},okW p least u l v->a∈l->∃l1 l2,l=l1++a::l2∧okW p least u l1 a.f∧okW p least a.f (a::l2) v
 |[],u,v,a,h,ha=>by cases ha
 |b::l,u,v,a,h,ha=>by
  rcases Ie.1 ha with rfl|ha
  ·exact⟨[],l,rfl,h.2.1.symm,by rw[h.2.1];exact h⟩
  ·obtain⟨l1,l2,e,h1,h2⟩:=ZhY h.2.2.2 ha;exact⟨b::l1,l2,by rw[e];rfl,⟨h.1,h.2.1,h.2.2.1,h1⟩,h2⟩
theorem ZqA{p:List HArc}{least:Int}:∀{l:List HArc} {u v:Int},okW p least u l v->∀a∈l,least<=a.f
 |[],_,_,_,a,ha=>by cases ha
 |b::l,u,v,h,a,ha=>by
  rcases Ie.1 ha with rfl|ha
  ·rw[h.2.1];exact h.2.2.1
  ·exact ZqA h.2.2.2 a ha
theorem ZaZ{p:List HArc}{least:Int}:∀{l:List HArc} {u v:Int},okW p least u l v->∀a∈l,a∈p
 |[],_,_,_,a,ha=>by cases ha
 |b::l,u,v,h,a,ha=>by
  rcases Ie.1 ha with rfl|ha
  ·exact h.1
  ·exact ZaZ h.2.2.2 a ha
theorem Zed{p:List HArc}{least least':Int}:∀{l:List HArc} {u v:Int},okW p least u l v->(∀a∈l,least'<=a.f)->okW p least' u l v
 |[],_,_,h,_=>h
 |b::l,u,v,h,hl=>⟨h.1,h.2.1,by have:=hl b Gv;have:=h.2.1;omega,Zed h.2.2.2 (fun a ha=>hl a (Gk _ ha))⟩
theorem Ze8:∀{l:List HArc},l≠[]->∃a∈l,∀b∈l,a.f<=b.f
 |[],h=>absurd rfl h
 |[a],_=>⟨a,Gq.2 rfl,fun b hb=>by rw[Gq]at hb;rw[hb];exact Int.le_refl _⟩
 |a::c::l,_=>by
  obtain⟨m,hm,hl⟩:=Ze8 (l:=c::l) (by simp)
  by_cases h:a.f<=m.f
  ·refine⟨a,Gv,fun b hb=>?_⟩;rcases Ie.1 hb with rfl|hb
   ·exact Int.le_refl _
   ·have:=hl b hb;omega
  ·refine⟨m,Gk _ hm,fun b hb=>?_⟩;rcases Ie.1 hb with rfl|hb
   ·omega
   ·exact hl b hb
theorem Zno{p:List HArc}{must least u:Int}{c:List HArc}(h:okW p least u c u)(hc:c≠[]):∃v c',c'≠[]∧okW p v v c' v∧c'.length=c.length∧Zq must c'=Zq must c∧∃a∈c,v=a.f:=by
 obtain⟨a,ha,dB⟩:=Ze8 hc;obtain⟨l1,l2,e,h1,h2⟩:=ZhY h ha;subst e;refine⟨a.f,(a::l2)++l1,by simp,?_,by simp only[Gt,G1];omega,by rw[Zcj,Zcj,Bool.or_comm],a,ha,rfl⟩;refine Zed (ZcV h2 h1) fun b hb=>dB b ?_
 rcases Ib.1 hb with hb|hb
 ·exact Gh _ hb
 ·exact Gp _ hb
def ZT(ks:Int->Int)(ws:Int->List HArc):Nat->List HArc
 |0=>[]
 |n+1=>if (decide (0<ks (n:Int))&&(ZT ks ws n==[]||decide (ks (n:Int)<((ZT ks ws n).length:Int))))=true then ws (n:Int) else ZT ks ws n
theorem Zjy(ks:Int->Int)(ws:Int->List HArc)(h:∀i:Int,0<ks i->((ws i).length:Int)=ks i):
  ∀n:Nat,(ZT ks ws n=[]∧∀i:Nat,i<n->¬0<ks (i:Int))∨
   (∃i:Nat,i<n∧0<ks (i:Int)∧ZT ks ws n=ws (i:Int)∧(∀j:Nat,j<n->0<ks (j:Int)->ks (i:Int)<=ks (j:Int))∧∀j:Nat,j<i->¬(0<ks (j:Int)∧ks (j:Int)<=ks (i:Int)))
 |0=> .inl ⟨rfl,fun i hi=>by omega⟩
 |n+1=>by
  have ih:=Zjy ks ws h n
  by_cases hc:(decide (0<ks (n:Int))&&(ZT ks ws n==[]||decide (ks (n:Int)<((ZT ks ws n).length:Int))))=true
  ·have e:ZT ks ws (n+1)=ws (n:Int):=if_pos hc;rw[Hj,Gw,Ia,beq_iff_eq,Gw]at hc;refine .inr ⟨n,by omega,hc.1,e,fun j hj h0=>?_,fun j hj hk=>?_⟩
   ·rcases ih with ⟨h1,h2⟩|⟨i,hi,pz,h1,h2,h3⟩
    ·have:j=n:=by
      rcases Nat.lt_or_ge j n with e2|e2
      ·exact absurd h0 (h2 j e2)
      ·omega
     subst this;exact Int.le_refl _
    ·have hl:=h (i:Int) pz;rw[<-h1]at hl;rcases hc.2 with e2|e2
     ·rw[e2]at hl;simp at hl;omega
     ·rcases Nat.lt_or_ge j n with e3|e3
      ·have:=h2 j e3 h0;omega
      ·have:j=n:=by omega
       subst this;exact Int.le_refl _
   ·rcases ih with ⟨h1,h2⟩|⟨i,hi,pz,h1,h2,h3⟩
    ·exact h2 j hj hk.1
    ·have hl:=h (i:Int) pz;rw[<-h1]at hl;have:=h2 j hj hk.1;rcases hc.2 with e2|e2
     ·rw[e2]at hl;simp at hl;omega
     ·omega
  ·have e:ZT ks ws (n+1)=ZT ks ws n:=if_neg hc;rw[e]
   have hc':¬(0<ks (n:Int)∧(ZT ks ws n=[]∨ks (n:Int)<((ZT ks ws n).length:Int))):=fun hx=>hc (by
    rw[Hj,Gw,Ia,beq_iff_eq,Gw];exact hx)
   rcases ih with ⟨h1,h2⟩|⟨i,hi,pz,h1,h2,h3⟩
   ·refine .inl ⟨h1,fun i hi h0=>?_⟩;rcases Nat.lt_or_ge i n with e2|e2
    ·exact h2 i e2 h0
    ·have:i=n:=by omega
     subst this;exact hc' ⟨h0,.inl h1⟩
   ·refine .inr ⟨i,by omega,pz,h1,fun j hj h0=>?_,h3⟩;rcases Nat.lt_or_ge j n with e2|e2
    ·exact h2 j e2 h0
    ·have:j=n:=by omega
     subst this;have hl:=h (i:Int) pz;rw[<-h1]at hl;rcases Classical.em (ks (j:Int)<ks (i:Int))with e3|e3
     ·exact absurd ⟨h0,.inr (by omega)⟩ hc'
     ·omega
theorem ZoQ{c:List HArc}(h:∀l1 a l2 b l3,c=l1++a::(l2++b::l3)->a.f≠b.f):c.Pairwise fun a b=>a.f≠b.f:=by
 induction c with
 |nil=>exact List.Pairwise.nil
 |cons a l ih=>
  refine Gr.2 ⟨fun b hb=>?_,ih fun l1 x l2 y l3 e=>h (a::l1) x l2 y l3 (by rw[e];rfl)⟩;obtain⟨l2,l3,e⟩:=List.append_of_mem hb;exact h [] a l2 b l3 (by rw[e];rfl)
theorem Zop{p:List HArc}{must i:Int}{need:Bool}{c:List HArc}(hw:okW p i i c i)(hm:need=true->Zq must c=true)
  (ae:∀c',c'≠[]->okW p i i c' i->(need=true->Zq must c'=true)->c.length<=c'.length)
  (ah:∀v c',c'≠[]->okW p v v c' v->(need=true->Zq must c'=true)->c.length<=c'.length):c.Pairwise fun a b=>a.f≠b.f:=by
 refine ZoQ fun l1 a l2 b l3 e hab=>?_
 subst e;obtain⟨x,h1,h2⟩:=ZgG hw;have ha:x=a.f:=h2.2.1.symm;subst ha;have h3:okW p i a.f ((a::l2)++b::l3) i:=h2;obtain⟨y,h4,h5⟩:=ZgG h3;have hb:y=b.f:=h5.2.1.symm;subst hb;have hR:okW p i i (l1++b::l3) i:=ZcV (by rw[<-hab];exact h1) h5
 have hS:okW p i b.f (a::l2) b.f:=by
  have:=h4;rw[hab]at this;exact this
 have au:(l1++b::l3).length<(l1++a::(l2++b::l3)).length∧(a::l2).length<(l1++a::(l2++b::l3)).length:=by
  simp only[Gt,G1];omega
 by_cases hq:need=true->Zq must (l1++b::l3)=true
 ·have:=ae _ (by simp) hR hq;omega
 ·have hn:need=true:=Classical.byContradiction fun h=>hq (fun e=>absurd e h)
  have hr:Zq must (l1++b::l3)=false:=by
   have:¬Zq must (l1++b::l3)=true:=fun e=>hq (fun _=>e)
   simpa using this
  have eT:=hm hn;rw[Zcj]at eT hr;have e1:a::(l2++b::l3)=(a::l2)++b::l3:=rfl;rw[e1,Zcj]at eT;rw[Bool.or_eq_false_iff]at hr;rw[hr.1,hr.2,Bool.false_or,Bool.or_false]at eT;obtain⟨v,c',k1,k2,k3,k4,_⟩:=Zno (must:=must) hS (by simp);have:=ah v c' k1 k2 (fun _=>by rw[k4];exact eT);omega
/- Ways:how far each node is,by walks with an arc of another mask. -/
def DQ2(w:I0)(ab g0 g1 qg N:Nat)(d:Int->Int)(qu:Iv)(A:OA)(us:Iv)(W:I0):Prop:=
 ∃F F2,Blk W ab 292 [.slice (some ⟨g0,0,none⟩) N N,.slice (some ⟨g1,0,none⟩) N N]∧Blk W g0 3 ((ZbR N d 0).map (Value.int .i64))∧Blk W g1 3 ((ZbR N d 1).map (Value.int .i64))∧
  Que W F qg ((2*N:Nat):Int) qu∧(¬F ab∧¬F g0∧¬F g1)∧(ab≠g0∧ab≠g1∧g0≠g1)∧(∀i,F i->w.heap.size<=i)∧(w.heap.size<=ab∧w.heap.size<=g0∧w.heap.size<=g1)∧Upd No w W∧Ints F2 W A us∧
  (∀i,F2 i->¬F i∧(i≠ab∧i≠g0∧i≠g1)∧i<W.heap.size)
def gOf(g0 g1:Nat)(h:Nat):Nat:=if h=0 then g0 else g1
namespace DQ2
variable {w W W':I0} {ab g0 g1 qg N:Nat} {d:Int->Int} {qu us:Iv} {A:OA}
theorem no(h:DQ2 w ab g0 g1 qg N d qu A us W)(k:Upd No W W'):DQ2 w ab g0 g1 qg N d qu A us W':=by
 obtain⟨F,F2,a1,a2,a3,h2,h3,h9,h4,h5,h6,h7,h8⟩:=h;exact⟨F,F2,a1.upd k id,a2.upd k id,a3.upd k id,h2.upd k Qo,h3,h9,h4,h5,h6.trans k,h7.upd k Qo,fun i hi=>⟨(h8 i hi).1,(h8 i hi).2.1,Gu (h8 i hi).2.2 k.size⟩⟩
theorem upd(h:DQ2 w ab g0 g1 qg N d qu A us W):Upd No w W:=by
 obtain⟨F,F2,a1,a2,a3,h2,h3,h9,h4,h5,h6,h7,h8⟩:=h;exact h6
theorem row1(h:DQ2 w ab g0 g1 qg N d qu A us W):Blk W g1 3 ((ZbR N d 1).map (Value.int .i64)):=by
 obtain⟨F,F2,a1,a2,a3,h2,h3,h9,h4,h5,h6,h7,h8⟩:=h;exact a3
theorem ge1(h:DQ2 w ab g0 g1 qg N d qu A us W):w.heap.size<=g1:=by
 obtain⟨F,F2,a1,a2,a3,h2,h3,h9,h4,h5,h6,h7,h8⟩:=h;exact h5.2.2
theorem arr(h:DQ2 w ab g0 g1 qg N d qu A us W){k:Nat}(hk:k<=1):W.cell? ⟨ab,k,none⟩=some (.slice (some ⟨gOf g0 g1 k,0,none⟩) N N):=by
 obtain⟨F,F2,a1,a2,a3,h2,h3,h9,h4,h5,h6,h7,h8⟩:=h;have hk:k=0∨k=1:=by omega
 rcases hk with rfl|rfl
 ·exact a1.cell 0
 ·exact a1.cell 1
theorem sl(h:DQ2 w ab g0 g1 qg N d qu A us W):∃F2,Ints F2 W A us:=by
 obtain⟨F,F2,a1,a2,a3,h2,h3,h9,h4,h5,h6,h7,h8⟩:=h;exact⟨F2,h7⟩
theorem bare(h:DQ2 w ab g0 g1 qg N d qu A us W):DQ2 w ab g0 g1 qg N d qu none [] W:=by
 obtain⟨F,F2,a1,a2,a3,h2,h3,h9,h4,h5,h6,h7,h8⟩:=h;exact⟨F,fun _=>False,a1,a2,a3,h2,h3,h9,h4,h5,h6,Ints.nil_,fun _ e=>e.elim⟩
theorem list_(h:DQ2 w ab g0 g1 qg N d qu A us W){A':OA}{c':Nat}{us':Iv}(k:Upd No W W')(ho:W'.ownsRow W.heap.size 3 1 (.slice A' us'.length c') us'.length (us'.map (Value.int .i64))):DQ2 w ab g0 g1 qg N d qu A' us' W':=by
 obtain⟨F,F2,a1,a2,a3,h2,h3,h9,h4,h5,h6,h7,h8⟩:=h
 have hI:Ints (fun i=>W.heap.size<=i∧i<W'.heap.size) W' A' us':=fun hne=>by
  obtain⟨ad,e,hf,hl,hc⟩:=(Ints.of_own ho) hne;exact⟨ad,e,⟨hf,hl⟩,hl,hc⟩
 have l1:=a1.lt;have l2:=a2.lt;have l3:=a3.lt;refine⟨F,_,a1.upd k id,a2.upd k id,a3.upd k id,h2.upd k Qo,h3,h9,h4,h5,h6.trans k,hI,fun i hi=>⟨fun e=>?_,⟨fun e=>?_,fun e=>?_,fun e=>?_⟩,hi.2⟩⟩
 ·have:=h2.lt i e;omega
 ·omega
 ·omega
 ·omega
theorem cell(h:DQ2 w ab g0 g1 qg N d qu A us W){i k:Nat}(hk:k<=1)(hi:i<N):W.cell? ⟨gOf g0 g1 k,i,none⟩=some (Qi (d ((i:Int)*2+(k:Int)))):=by
 obtain⟨F,F2,a1,a2,a3,h2,h3,h9,h4,h5,h6,h7,h8⟩:=h;have hk:k=0∨k=1:=by omega
 rcases hk with rfl|rfl
 ·show W.cell? ⟨g0,i,none⟩=_
  rw[a2.cell i,List.getElem?_map];unfold ZbR;rw[ZfA _ hi];rfl
 ·show W.cell? ⟨g1,i,none⟩=_
  rw[a3.cell i,List.getElem?_map];unfold ZbR;rw[ZfA _ hi];rfl
theorem free(h:DQ2 w ab g0 g1 qg N d qu A us W){k:Nat}(hk:k<=1)(i:Nat):W.frozen? ⟨gOf g0 g1 k,i,none⟩=false:=by
 obtain⟨F,F2,a1,a2,a3,h2,h3,h9,h4,h5,h6,h7,h8⟩:=h;have hk:k=0∨k=1:=by omega
 rcases hk with rfl|rfl
 ·exact a2.free i
 ·exact a3.free i
theorem set_(h:DQ2 w ab g0 g1 qg N d qu A us W){k u:Nat}(hk:k<=1)(hu:u<N)(v:Int):DQ2 w ab g0 g1 qg N (ZaD d ((u:Int)*2+(k:Int)) v) qu A us (W.setCell ⟨gOf g0 g1 k,u,none⟩ (Qi v)):=by
 obtain⟨F,F2,a1,a2,a3,h2,h3,h9,h4,h5,h6,h7,h8⟩:=h;have hk:k=0∨k=1:=by omega
 rcases hk with rfl|rfl
 ·show DQ2 w ab g0 g1 qg N _ qu A us (W.setCell ⟨g0,u,none⟩ (Qi v))
  have k:=Upd.setOne (Il (One g0) W) u (Qi v);refine⟨F,F2,a1.upd k (fun e=>h9.1 e),?_,?_,h2.upd k (fun i hi e=>h3.2.1 (e▸hi)),h3,h9,h4,h5,h6.then_ k fun i e=> .inr (by rw[e];exact h5.2.1),h7.upd k (fun i hi e=>(h8 i hi).2.1.2.1 e),fun i hi=>⟨(h8 i hi).1,(h8 i hi).2.1,Gu (h8 i hi).2.2 k.size⟩⟩
  ·have:=a2.set_ u (Qi v);rw[<-List.map_set,ZlJ d (.inl rfl) v hu]at this;exact this
  ·have e:ZbR N (ZaD d ((u:Int)*2+((0:Nat):Int)) v) 1=ZbR N d 1:=ZiE d (.inl rfl) (.inr rfl) (by decide) v;rw[e];exact a3.upd k (fun e=>h9.2.2 e.symm)
 ·show DQ2 w ab g0 g1 qg N _ qu A us (W.setCell ⟨g1,u,none⟩ (Qi v))
  have k:=Upd.setOne (Il (One g1) W) u (Qi v);refine⟨F,F2,a1.upd k (fun e=>h9.2.1 e),?_,?_,h2.upd k (fun i hi e=>h3.2.2 (e▸hi)),h3,h9,h4,h5,h6.then_ k fun i e=> .inr (by rw[e];exact h5.2.2),h7.upd k (fun i hi e=>(h8 i hi).2.1.2.2 e),fun i hi=>⟨(h8 i hi).1,(h8 i hi).2.1,Gu (h8 i hi).2.2 k.size⟩⟩
  ·have e:ZbR N (ZaD d ((u:Int)*2+((1:Nat):Int)) v) 0=ZbR N d 0:=ZiE d (.inr rfl) (.inl rfl) (by decide) v;rw[e];exact a2.upd k (fun e=>h9.2.2 e)
  ·have:=a3.set_ u (Qi v);rw[<-List.map_set,ZlJ d (.inr rfl) v hu]at this;exact this
theorem push(h:DQ2 w ab g0 g1 qg N d qu A us W)(hN:N<=32768)(hf:qu.length<2*N)(u:Int):Calls Tryz.prog 249 #[.pointer (some ⟨qg,0,none⟩),Qi u] W fun e w'=>e= .returned (Qi 0)∧DQ2 w ab g0 g1 qg N d (qu++[u]) A us w':=by
 obtain⟨F,F2,a1,a2,a3,h2,h3,h9,h4,h5,h6,h7,h8⟩:=h;refine(Zt4 W F qg ((2*N:Nat):Int) qu u h2 (by omega) (by omega) (by omega)).mono ?_;rintro e w' ⟨rfl,F',mJ,hq,hu⟩;have hs:=h6.size
 have hne:∀i,i<W.heap.size->¬F i->¬F' i:=fun i hi hn e=>by
  rcases mJ i e with e|e
  ·exact hn e
  ·omega
 refine⟨rfl,F',F2,a1.upd hu h3.1,a2.upd hu h3.2.1,a3.upd hu h3.2.2,hq,⟨hne ab a1.lt h3.1,hne g0 a2.lt h3.2.1,hne g1 a3.lt h3.2.2⟩,h9,fun i hi=>?_,h5,h6.then_ hu fun i e=> .inr (h4 i e),h7.upd hu (fun i hi=>(h8 i hi).1),fun i hi=>⟨hne i (h8 i hi).2.2 (h8 i hi).1,(h8 i hi).2.1,Gu (h8 i hi).2.2 hu.size⟩⟩;rcases mJ i hi with e|e
 ·exact h4 i e
 ·omega
theorem popA(h:DQ2 w ab g0 g1 qg N d qu A us W):Calls Tryz.prog 250 #[.pointer (some ⟨qg,0,none⟩)] W fun e w'=>∃x b qu',e= .returned (.tuple #[Qi x,.bool b])∧DQ2 w ab g0 g1 qg N d qu' A us w'∧(if b=true then qu=x::qu' else qu=[]∧qu'=[]):=by
 have h':=h;obtain⟨F,F2,a1,a2,a3,h2,h3,h9,h4,h5,h6,h7,h8⟩:=h
 cases qu with
 |nil=>
  refine(Zkk W F qg ((2*N:Nat):Int) h2).mono ?_;rintro e w' ⟨rfl,rfl⟩;exact⟨0,false,[],rfl,h',by simp⟩
 |cons x qu=>
  refine(ZvV W F qg ((2*N:Nat):Int) x qu h2).mono ?_;rintro e w' ⟨rfl,hq,hu⟩;exact⟨x,true,qu,rfl,⟨F,F2,a1.upd hu h3.1,a2.upd hu h3.2.1,a3.upd hu h3.2.2,hq,h3,h9,h4,h5,h6.then_ hu fun i e=> .inr (h4 i e),h7.upd hu (fun i hi=>(h8 i hi).1),fun i hi=>⟨(h8 i hi).1,(h8 i hi).2.1,Gu (h8 i hi).2.2 hu.size⟩⟩,by simp⟩
end DQ2
