/- The ids of a history, backwards (trim.ids: a range over slices.Backward). -/
import Derived.Test.YtadmgiljchgccaaGreatTcaf
import Derived.Test.YtadmgiljchgccaaGreatTcag
import Derived.Test.YtadmgiljchgccaaGreatTcaj
namespace Go.Proofs.YtadmgiljchgccaaGreat
set_option linter.unusedVariables false
set_option linter.unusedSimpArgs false
set_option maxRecDepth 100000
set_option maxHeartbeats 4000000
section
open Go.RowKit Go.Maps Go.Sort Go.Shelf
attribute [local go_sem] Oper.semAt_some
theorem Zyp(F:Fence)(n:Nat)(iD:F.fn 176)(eD:F.round=none)(hn:1<=n)(l Bs:Nat)(A:OA)(c:Nat)(txs:List HTx)(au:txs.length<=1000000)(J:Nat->I0->Prop)
  (hc:∀k W,J k W->W.cell? ⟨Bs,0,none⟩=some (.slice A txs.length c)) (hr:∀k W,J k W->Recs (fun _=>True) W A 3 (txs.map HTx.cells))
  (hY:∀m k W (hm:m<txs.length),m+1+k=txs.length->J k W->YieldAt F (n-1) Tryz.prog l #[Qi (m:Int),.agg #[Qi txs[m].id,.bool txs[m].done,.slice txs[m].A txs[m].ops.length txs[m].c]] W fun e W'=>e= .returned (.bool true)∧J (k+1) W')
  (W:I0) (h0:J 0 W):
  CallsIn F n Tryz.prog 176 #[.func (.yield l) #[] #[],.pointer (some ⟨Bs,0,none⟩)] W fun e W'=>(∃v,e= .returned v)∧J txs.length W':=by
 have c0:=hc 0 W h0;refine callsIn_of_wp Tryz.func176 rfl iD ?_ eD;simp only[Tryz.ntmps176,List.size_toArray,G1,Hv,Nat.reduceAdd,Nat.reduceSub,Array.replicate_succ,Array.replicate_zero,List.push_toArray,List.append_toArray,H8,List.cons_append]
 gi_wp2
 gi_loopw [3] (fun i wr=>∃(j k:Nat) (v:Int),j+k=txs.length∧i= Qi v∧v=(j:Int)-1∧J k wr)
  (fun i _=>(intOf i+1).toNat)
 case atStart=>exact⟨txs.length,0,_,by omega,rfl,by go_num,h0⟩
 case round=>
  obtain⟨j,k,v,hjk,rfl,hv,hJ⟩:=hrel
  cases j with
  |zero=>
   obtain rfl:v= -1:=by omega
   obtain rfl:k=txs.length:=by omega
   clear hv hc hr hY
   gi_wp2
   go_end0
   exact⟨⟨_,rfl⟩,hJ⟩
  |succ m=>
   obtain rfl:v=(m:Int):=by omega
   have hm:m<txs.length:=by omega
   have d0:=hc k wr hJ;obtain⟨ad,hA,q0,q1,q2⟩:=ZdB (hr k wr hJ) hm;obtain⟨fn,tmps,assign,body,hy,hR⟩:=hY m k wr hm (by omega) hJ;subst hA;have b1:(0:Int)<=(m:Int):=Qn _;have b2:(m:Int)<(txs.length:Int):=by omega
   clear hv hc hr hY
   gi_wp2
   refine hR.mono ?_;rintro e W3 ⟨rfl,yD⟩
   gi_wp2
   go_roundw
   case rel=>exact⟨m,k+1,_,by omega,rfl,by go_num,yD⟩
   case measure=>simp[intOf]
def Zib:Code:=(Code.region 3 #[{dst:=some 5,op:=Op.alloc 39,type:=0,pos:= "trim.go:34",after:= #[],guard:=none},{dst:=none,op:=Op.store 39 (Operand.tmp 5) (Operand.tmp 10),type:=0,pos:= "trim.go:34",after:= #[{on:=0,ground:=Ground.data},{on:=0,ground:=Ground.phase}],guard:=none}] false)
def Zmy:Code:=(Code.block 1 (Code.region 4 #[{dst:=some 11,op:=Op.load 27 (Operand.tmp 3),type:=27,pos:= "trim.go:35",after:= #[],guard:=none},{dst:=some 12,op:=Op.fieldAddr 39 (Operand.tmp 5) 0,type:=0,pos:= "trim.go:35",after:= #[],guard:=none},{dst:=some 13,op:=Op.load 3 (Operand.tmp 12),type:=3,pos:= "trim.go:35",after:= #[{on:=1,ground:=Ground.data}],guard:=none},{dst:=some 14,op:=Op.buildSlice 27 1 #[(0,Operand.tmp 13)],type:=27,pos:= "trim.go:35",after:= #[{on:=2,ground:=Ground.data}],guard:=none},{dst:=some 15,op:=Op.call {callee:=Callee.builtin Builtin.append,args:= #[Operand.tmp 11,Operand.tmp 14],argTypes:= #[27,27]},type:=27,pos:= "trim.go:35",after:= #[{on:=0,ground:=Ground.data},{on:=3,ground:=Ground.data}],guard:=none},{dst:=none,op:=Op.store 27 (Operand.tmp 3) (Operand.tmp 15),type:=0,pos:= "trim.go:35",after:= #[{on:=4,ground:=Ground.data},{on:=4,ground:=Ground.chain},{on:=0,ground:=Ground.phase},{on:=1,ground:=Ground.phase},{on:=2,ground:=Ground.phase},{on:=3,ground:=Ground.phase},{on:=4,ground:=Ground.phase}],guard:=none}] false))
def Zd9(fn:FuncId)(hv sl:Iz)(H Bl Bs D:Nat)(st:LoopState)(pend:Option Code):Loop:=
 {state:=st,pending:=pend,fn,tmps:= #[hv,.pointer (some ⟨H,0,none⟩),.slice none 0 0,.pointer (some ⟨Bl,0,none⟩),undef,undef,.pointer (some ⟨H,0,none⟩),sl,.func (.func 176) #[] #[.pointer (some ⟨Bs,0,none⟩)],undef,undef,undef,undef,undef,undef,undef,undef],params:= #[9,10],assign:=Zib,body:=Zmy,defers:=D}
def ZdO(txs:List HTx):Iv:=(txs.map (·.id)).reverse
theorem Zgf(txs:List HTx):(ZdO txs).length=txs.length:=by unfold ZdO;simp
theorem Zq7{txs:List HTx}{i k:Nat}(hi:i<txs.length)(zD:i+1+k=txs.length):(ZdO txs).take (k+1)=(ZdO txs).take k++[txs[i].id]:=by
 have hk:k<(ZdO txs).length:=by rw[Zgf];omega
 rw[Gb hk]
 have e:(ZdO txs)[k]? =some txs[i].id:=by
  unfold ZdO;rw[List.getElem?_reverse (by rw[Hw];omega),List.getElem?_map,Hw,show txs.length-1-k=i by omega,Qg hi];rfl
 rw[Qg hk]at e;rw[Option.some.inj e]
structure IdAt (w0:World) (fn:FuncId) (hv:Value) (H Bl Bs l D:Nat) (A:OA) (c:Nat) (txs:List HTx) (k:Nat) (W:World):Prop where
 box:∃A' c',W.heap[Bl]? =some (.cells #[.slice A' k c'] 27 (0,0))∧W.ownsRow w0.heap.size 3 1 (.slice A' k c') k (((ZdO txs).take k).map (Value.int .i64))
 L:W.heap[l]? =some (.loop (Zd9 fn hv (.slice A txs.length c) H Bl Bs D .ready none))
 K:W.heap[D]? =some (.deferred (some []))
 bs:W.heap[Bs]? =some (.cells #[.slice A txs.length c] 22 (0,0))
 below:Below w0.heap.size w0 W
theorem Zu7(F:Fence)(m:Nat)(w0:I0)(fn:FuncId)(iD:F.fn fn)(hv:Iz)(H Bl Bs l D:Nat)(ol:Bl≠l)(o7:D≠l)(yY:D≠Bl)(im:Bs≠l)(Ep:Bs≠Bl)(wI:w0.heap.size<=Bl)(rf:w0.heap.size<=l)
  (A:OA) (c:Nat) (txs:List HTx) (au:txs.length<=1000000) (i k:Nat) (hi:i<txs.length) (zD:i+1+k=txs.length) (W:I0) (h:IdAt w0 fn hv H Bl Bs l D A c txs k W):
  YieldAt F m Tryz.prog l #[Qi (i:Int),.agg #[Qi txs[i].id,.bool txs[i].done,.slice txs[i].A txs[i].ops.length txs[i].c]] W fun e W'=>e= .returned (.bool true)∧IdAt w0 fn hv H Bl Bs l D A c txs (k+1) W':=by
 have hne:(27:Nat)≠3:=by decide
 have jV:(22:Nat)≠3:=by decide
 obtain⟨ht,i0,z0,pG,iX,fG,eI,eY,fT⟩:=Zay;obtain⟨A1,c1,hb,aK⟩:=h.box;have HX:=Qh (Zq7 hi zD);obtain⟨x,hx⟩:=Qe (txs[i]);rw[hx]at HX ⊢;have gC:((ZdO txs).take k).length=k:=by rw[Hm,Zgf];omega
 refine⟨fn,#[hv,.pointer (some ⟨H,0,none⟩),.slice none 0 0,.pointer (some ⟨Bl,0,none⟩),undef,undef,.pointer (some ⟨H,0,none⟩),.slice A txs.length c,.func (.func 176) #[] #[.pointer (some ⟨Bs,0,none⟩)],Qi (i:Int),.agg #[Qi x.id,.bool x.done,.slice x.A x.ops.length x.c],undef,undef,undef,undef,undef,undef],Zib,Zmy,by simpa[Zd9]using run_yield (P:=Tryz.prog) (args:= #[Qi (i:Int),.agg #[Qi x.id,.bool x.done,.slice x.A x.ops.length x.c]]) h.L rfl,roundIn_of_wpIn iD ?_⟩;obtain⟨W1,eE⟩:=Qe (W.alloc (.cells #[Qi x.id,.bool x.done,.slice x.A x.ops.length x.c] 39));have hold:∀{j:Nat} {o:Obj},W.heap[j]? =some o->W1.heap[j]? =some o:=fun {j o} e=>by rw[<-eE];exact(Below.heap_alloc _ _ j (Array.getElem?_eq_some_iff.1 e).1).trans e
 have AO:W1.heap[W.heap.size]? =some (.cells #[Qi x.id,.bool x.done,.slice x.A x.ops.length x.c] 39 (0,0)):=by rw[<-eE];exact World.alloc_heap_new W _
 have hl0:l<W.heap.size:=(Array.getElem?_eq_some_iff.1 h.L).1;have eX:W1.ownsRow w0.heap.size 3 1 (.slice A1 k c1) k (((ZdO txs).take k).map (Value.int .i64)):=by rw[<-eE];exact aK.alloc _
 have aX:Below w0.heap.size w0 W1:=by rw[<-eE];exact h.below.alloc h.below.size _
 have js:=hold h.L;have pE:=hold h.K;have mZ:=hold h.bs;have dS:=hold hb;have aN:l<W1.heap.size:=(Array.getElem?_eq_some_iff.1 js).1;have aB:=run_beginRound (P:=Tryz.prog) js rfl;obtain⟨W2,fP⟩:∃W2,W1.putObj l (.loop {Zd9 fn hv (.slice A txs.length c) H Bl Bs D .ready none with state:= .busy})=W2:=⟨_,rfl⟩;rw[fP]at aB;have dF:W1.grownBy W2 (some l):=by rw[<-fP];exact grownBy_putObj_a _ _ _
 have dH:W2.heap[Bl]? =some (.cells #[.slice A1 k c1] 27 (0,0)):=by rw[<-fP];exact(World.putObj_heap_other ol).trans dS
 have kV:W2.heap[D]? =some (.deferred (some [])):=by rw[<-fP];exact(World.putObj_heap_other o7).trans pE
 have fy:W2.heap[Bs]? =some (.cells #[.slice A txs.length c] 22 (0,0)):=by rw[<-fP];exact(World.putObj_heap_other im).trans mZ
 have Eu:W2.heap[W.heap.size]? =some (.cells #[Qi x.id,.bool x.done,.slice x.A x.ops.length x.c] 39 (0,0)):=by rw[<-fP];exact(World.putObj_heap_other (by omega)).trans AO
 have f8:W2.heap[l]? =some (.loop {Zd9 fn hv (.slice A txs.length c) H Bl Bs D .ready none with state:= .busy}):=by rw[<-fP];exact World.putObj_heap_same aN
 have dQ:=eX.kept dF (ownsRow_ne_a eX js (fun cur e=>by cases e));have aS:Below w0.heap.size w0 W2:=aX.grown dF aX.size (fun k e=>by cases e;exact rf);have d0:W2.cell? ⟨W.heap.size,0,none⟩=some (Qi x.id):=by rw[cell_of_row W2 _ 0 _ _ (0,0) Eu];rfl
 obtain⟨gR,gN⟩:=cell_of_box_a dH
 have ne_of:∀{j:Nat} {o:Obj},W2.heap[j]? =some o->(∀cur,o≠.cells cur 3 (0,0))->some j≠Value.ownBlock (.slice A1 k c1):=fun hj hno=>by
  rcases ownsRow_ne_a dQ hj hno with e|e
  ·rw[e];simp
  ·exact fun e'=>e e'.symm
 have hlt2:∀{j:Nat} {o:Obj},W2.heap[j]? =some o->j<W2.heap.size:=fun e=>(Array.getElem?_eq_some_iff.1 e).1
 clear hold fP hb aK js pE mZ dS AO eX aX dF;unfold Zib
 gi_wp2_with gi_round_op_a
 unfold Zmy
 gi_wp2_with (first
  |(gi_at_builtin;refine wpListIn_append_own _ rfl _ _ 27 rfl w0.heap.size 3 i0 z0 1 8 ht pG iX fG eI eY (by decide) _ _ _ rfl (dQ.alloc _) ⟨W2.heap.size,0,none⟩ 1 1 [Qi x.id] rfl rfl (fun j u hj=>Zah j u hj) (by simp[Value.oneCell']) (by simp only[maxLen];omega) (by omega) (by have:=aS.size;simp;omega) ?_;intro v' w3 eu gd rW
    have fW:w3.heap[Bl]? =some (.cells #[.slice A1 k c1] 27 (0,0)):=(gd.block Bl (by have:=hlt2 dH;simp;omega) (ne_of dH (fun cur e=>hne (Obj.cells.inj e).2.1))).trans ((Below.heap_alloc _ _ Bl (hlt2 dH)).trans dH);obtain⟨jv,vu⟩:=cell_of_box_a fW;obtain⟨g',cap',rfl,E3⟩:=eu.form (by omega)
    go_frame)
  |gi_round_op_a)
 have fe:(W2.alloc (.cells #[Qi x.id] 3)).grownBy w3 (Value.ownBlock (.slice A1 k c1)):=gd;have ik:w3.heap[l]? =some (.loop {Zd9 fn hv (.slice A txs.length c) H Bl Bs D .ready none with state:= .busy}):=(fe.block l (by have:=hlt2 f8;simp;omega) (ne_of f8 (fun cur e=>by cases e))).trans ((Below.heap_alloc _ _ l (hlt2 f8)).trans f8);have jx:w3.heap[D]? =some (.deferred (some [])):=(fe.block D (by have:=hlt2 kV;simp;omega) (ne_of kV (fun cur e=>by cases e))).trans ((Below.heap_alloc _ _ D (hlt2 kV)).trans kV);have Am:w3.heap[Bs]? =some (.cells #[.slice A txs.length c] 22 (0,0)):=(fe.block Bs (by have:=hlt2 fy;simp;omega) (ne_of fy (fun cur e=>jV (Obj.cells.inj e).2.1))).trans ((Below.heap_alloc _ _ Bs (hlt2 fy)).trans fy);obtain⟨w4,cW⟩:=Qe (w3.setCell ⟨Bl,0,none⟩ (.slice (some ⟨g',0,none⟩) (k+1) cap'));rw[cW];have dd:w3.grownBy w4 (some Bl):=by rw[<-cW];exact grownBy_setCell0_a _ _ _
 have xY:w4.heap[Bl]? =some (.cells #[.slice (some ⟨g',0,none⟩) (k+1) cap'] 27 (0,0)):=by rw[<-cW];exact heap_setCell_box_a _ fW
 have d9:=(dd.block l (Array.getElem?_eq_some_iff.1 ik).1 (fun e=>ol (by cases e;rfl))).trans ik;have vB:w4.heap[D]? =some (.deferred (some [])):=(dd.block D (Array.getElem?_eq_some_iff.1 jx).1 (fun e=>yY (by cases e;rfl))).trans jx;have Bc:=(dd.block Bs (Array.getElem?_eq_some_iff.1 Am).1 (fun e=>Ep (by cases e;rfl))).trans Am;have fY:=eu.kept dd (ownsRow_ne_a eu fW (fun cur e=>hne (Obj.cells.inj e).2.1));have v7:l<w4.heap.size:=(Array.getElem?_eq_some_iff.1 d9).1;have dp:Below w0.heap.size w0 w3:=(aS.alloc aS.size _).grown fe (by have:=aS.size;simp;omega) (fun k e=>(dQ.lt k e).1);have kH:Below w0.heap.size w0 w4:=dp.grown dd dp.size (fun k e=>by cases e;exact wI);clear cW;refine⟨_,_,run_endRound none d9,rfl,⟨⟨some ⟨g',0,none⟩,cap',?_,?_⟩,World.putObj_heap_same v7,(World.putObj_heap_other o7).trans vB,(World.putObj_heap_other im).trans Bc,kH.grown (grownBy_putObj_a _ _ _) kH.size (fun k e=>by cases e;exact rf)⟩⟩
 ·exact(World.putObj_heap_other ol).trans xY
 ·have:=fY.kept (grownBy_putObj_a w4 l (.loop {{Zd9 fn hv (.slice A txs.length c) H Bl Bs D .ready none with state:= .busy}with state:=if (none:Option Code).isNone then .ready else .done,pending:=none})) (ownsRow_ne_a fY d9 (fun cur e=>by cases e));rw[HX.out,Hu];exact this
theorem Zyq(n:Nat)(A:OA)(len c:Nat)(w:I0):CallsIn Fence.wide n Tryz.prog 108 #[.slice A len c] w fun e w'=>e= .returned (.func (.func 176) #[] #[.pointer (some ⟨w.heap.size,0,none⟩)])∧w'=w.alloc (.cells #[.slice A len c] 22):=by
 refine callsIn_of_wp Tryz.func108 rfl trivial ?_ rfl;simp only[Tryz.ntmps108,List.size_toArray,G1,Hv,Nat.reduceAdd,Nat.reduceSub,Array.replicate_succ,Array.replicate_zero,List.push_toArray,List.append_toArray,H8,List.cons_append]
 gi_wp2
 go_ret;exact⟨rfl,rfl⟩
theorem ZxY{F:Iw}{w:I0}{txs:List HTx}{ords:List HOrd}{A:OA}{c:Nat}{B:OA}{d:Nat}(H:Hist.lies F w ⟨txs,ords,A,c,B,d⟩)(au:txs.length<=1000000):
  Calls Tryz.prog 59 #[.agg #[.slice A txs.length c,.slice B ords.length d]] w (Zcs w (ZdO txs)):=by
 obtain⟨z,hz⟩:=Qe w.heap.size;refine(callsIn_wide (n:=5)).1 ?_;refine callsIn_of_wp_marks Tryz.func59 rfl trivial ?_ rfl;simp only[Tryz.ntmps59,List.size_toArray,G1,Hv,Nat.reduceAdd,Nat.reduceSub,Array.replicate_succ,Array.replicate_zero,List.push_toArray,List.append_toArray,H8,List.cons_append];have pq:Fence.wide.fn 108:=trivial
 gi_wp2
 refine(Zyq _ _ _ _ _).mono ?_;rintro e w' ⟨rfl,rfl⟩
 gi_wp2
 have eD:Fence.wide.round=none:=rfl;refine wpIn_rangeFunc ?_;intro fn iD;rw[eD];obtain⟨hv,Fn⟩:=Qe (Value.agg #[.slice A txs.length c,.slice B ords.length d]);obtain⟨Wa,xP⟩:=Qe (w.alloc (.cells #[.slice A txs.length c,.slice B ords.length d] 25));have sa:Wa.heap.size=z+1:=by rw[<-xP,<-hz];simp
 obtain⟨Wb,tP⟩:=Qe (Wa.alloc (.cells #[.slice none 0 0] 27));have sb:Wb.heap.size=z+2:=by rw[<-tP];simp;omega
 obtain⟨W0,hW0⟩:=Qe (Wb.alloc (.cells #[.slice A txs.length c] 22));have s0:W0.heap.size=z+3:=by rw[<-hW0];simp;omega
 have hb0:Below w.heap.size w W0:=by
  rw[<-hW0,<-tP,<-xP];exact(((Below.refl w.heap.size w).alloc (Nat.le_refl _) _).alloc (by simp) _).alloc (by simp;omega) _
 have hvb:Wb.heap[z+1]? =some (.cells #[.slice none 0 0] 27 (0,0)):=by rw[<-tP,<-sa];exact World.alloc_heap_new Wa _
 have hv0:W0.heap[z+1]? =some (.cells #[.slice none 0 0] 27 (0,0)):=by rw[<-hW0];exact(Below.heap_alloc _ _ _ (by omega)).trans hvb
 have Ed:W0.heap[z+1+1]? =some (.cells #[.slice A txs.length c] 22 (0,0)):=by rw[<-hW0,show z+1+1=Wb.heap.size by omega];exact World.alloc_heap_new Wb _
 rw[xP,tP,hW0,Fn];obtain⟨W1,eE⟩:=Qe ((W0.alloc (.deferred (some []))).alloc (.loop (Zd9 fn hv (.slice A txs.length c) z (z+1) (z+1+1) W0.heap.size .ready none)))
 have hold:∀k,k<W0.heap.size->W1.heap[k]? =W0.heap[k]? :=fun k hk=>by
  rw[<-eE];exact(Below.heap_alloc _ _ k (by simp;omega)).trans (Below.heap_alloc _ _ k hk)
 have aX:Below w.heap.size w W1:=by rw[<-eE];exact(hb0.alloc hb0.size _).alloc (by have:=hb0.size;simp;omega) _
 have hM:IdAt w fn hv z (z+1) (z+1+1) (W0.heap.size+1) W0.heap.size A c txs 0 W1:=
  ⟨⟨none,0,(hold (z+1) (by omega)).trans hv0,by simpa using Ik _ _ _ _⟩,
   by rw[<-eE];have:=World.alloc_heap_new (W0.alloc (.deferred (some []))) (.loop (Zd9 fn hv (.slice A txs.length c) z (z+1) (z+1+1) W0.heap.size .ready none));rwa [Ij]at this,
   by rw[<-eE];exact(Below.heap_alloc _ _ _ (by simp)).trans (World.alloc_heap_new W0 _),(hold _ (by omega)).trans Ed,aX⟩
 have eg:=enters_of Tryz.func176 (by kernel_rfl) rfl
 refine⟨W0.heap.size+1,[{target:= .collected W0.heap.size,args:= #[]}],W1,{target:= .fn (.func 176) #[.pointer (some ⟨z+1+1,0,none⟩)],args:= #[.func (.yield (W0.heap.size+1)) #[] #[]]},W1,176,
  #[.func (.yield (W0.heap.size+1)) #[] #[]]++ #[.pointer (some ⟨z+1+1,0,none⟩)],W1,?_,?_,?_,?_,fun _=>by omega,?_⟩
 ·rw[<-eE];exact run_enterLoop_outer _ _ _ _ _
 ·simp[resolve,go_sem]
 ·intro f' qP;simp[Target.leads]at qP;subst qP;trivial
 ·simp[invoke,go_sem,eg]
 ·refine(Zyp Fence.wide (5-1) trivial eD (by omega) (W0.heap.size+1) (z+1+1) A c txs au (IdAt w fn hv z (z+1) (z+1+1) (W0.heap.size+1) W0.heap.size A c txs)
   (fun k W h=>(cell_of_box_a h.bs).1) (fun k W h=>(Recs.upd H.txs (Upd.of_below (S:=No) h.below) Qo).weak (fun _ _ _=>trivial))
   (fun m k W hm hmk h=>Zu7 Fence.wide (5-1-1) w fn iD hv z (z+1) (z+1+1) (W0.heap.size+1) W0.heap.size (by omega) (by omega) (by omega) (by omega) (by omega) (by omega) (by omega) A c txs au m k hm hmk W h) W1 hM).mono ?_
  rintro e W2 ⟨⟨v0,rfl⟩,h2⟩;obtain⟨A2,c2,dH,aK⟩:=h2.box;have j8:=run_endLoop (P:=Tryz.prog) h2.L (by simp[Zd9]);obtain⟨W3,j4⟩:∃W3,W2.putObj (W0.heap.size+1) (.loop {Zd9 fn hv (.slice A txs.length c) z (z+1) (z+1+1) W0.heap.size .ready none with state:= .exhausted})=W3:=⟨_,rfl⟩;rw[j4]at j8;have gd:W2.grownBy W3 (some (W0.heap.size+1)):=by rw[<-j4];exact grownBy_putObj_a _ _ _
  have fW:W3.heap[z+1]? =some (.cells #[.slice A2 txs.length c2] 27 (0,0)):=by rw[<-j4];exact(World.putObj_heap_other (by omega)).trans dH
  have jx:W3.heap[W0.heap.size]? =some (.deferred (some [])):=by rw[<-j4];exact(World.putObj_heap_other (by omega)).trans h2.K
  have eW:=aK.kept gd (ownsRow_ne_a aK h2.L (fun cur e=>by cases e));have dp:Below w.heap.size w W3:=h2.below.grown gd h2.below.size (fun k e=>by cases e;omega);obtain⟨jv,vu⟩:=cell_of_box_a fW;have ah:(ZdO txs).take txs.length=ZdO txs:=List.take_of_length_le (by rw[Zgf];exact Nat.le_refl _);rw[ah]at eW;have HL:=Qh (Zgf txs);clear j4 ah;refine⟨none,W3,j8,?_⟩;rw[s0]at jx
  gi_wp2
  refine⟨by simp,.inl ⟨_,_,rfl,run_takeDeferred jx,?_⟩⟩;refine⟨_,results_tmp rfl _ _ _,A2,c2,by rw[HL.out];rfl,?_,?_⟩
  ·rw[HL.out];exact eW.kept (grownBy_putObj_a _ _ _) (ownsRow_ne_a eW jx (fun cur e=>by cases e))
  ·exact Upd.of_below (dp.grown (grownBy_putObj_a _ _ _) dp.size (fun k e=>by cases e;omega))
end
