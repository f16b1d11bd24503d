/- slices.Sorted(maps.Keys(m)) at numbers: slices.AppendSeq, slices.Collect, slices.Sorted. -/
import Derived.Test.YtblplapkdmhikaaDxao
import Derived.Test.YtblplapkdmhikaaDxay
import Derived.Test.YtblplapkdmhikaaDxaz
namespace Go.Proofs.Ytblplapkdmhikaa
set_option linter.unusedVariables false
set_option linter.unusedSimpArgs false
section
open Go.RowKit Go.Maps Go.Sort Go.Shelf
def Zb6:Code:=(Code.region 2 #[{dst:=some 5,op:=Op.assign (Operand.tmp 7),type:=3,pos:= "iter.go:51",after:= #[],guard:=none}] false)
def Zdd:Code:=(Code.block 1 (Code.region 3 #[{dst:=some 8,op:=Op.load 53 (Operand.tmp 2),type:=53,pos:= "iter.go:52",after:= #[],guard:=none},{dst:=some 9,op:=Op.move (Operand.tmp 5),type:=3,pos:= "iter.go:52",after:= #[],guard:=none},{dst:=some 10,op:=Op.buildSlice 53 1 #[(0,Operand.tmp 9)],type:=53,pos:= "iter.go:52",after:= #[{on:=1,ground:=Ground.data}],guard:=none},{dst:=some 11,op:=Op.call {callee:=Callee.builtin Builtin.append,args:= #[Operand.tmp 8,Operand.tmp 10],argTypes:= #[53,53]},type:=53,pos:= "iter.go:52",after:= #[{on:=0,ground:=Ground.data},{on:=2,ground:=Ground.data}],guard:=none},{dst:=none,op:=Op.store 53 (Operand.tmp 2) (Operand.tmp 11),type:=0,pos:= "iter.go:52",after:= #[{on:=3,ground:=Ground.data},{on:=3,ground:=Ground.chain},{on:=0,ground:=Ground.phase},{on:=1,ground:=Ground.phase},{on:=2,ground:=Ground.phase},{on:=3,ground:=Ground.phase}],guard:=none}] false))
def Zay (fn:FuncId) (sv:Value) (Bs D:Nat) (st:LoopState) (pend:Option Code):Loop:=
 {state:=st,pending:=pend,fn,tmps:= #[.slice none 0 0,sv,.pointer (some ⟨Bs,0,none⟩),undef,.slice none 0 0,undef,sv,undef,undef,undef,undef,undef,undef],params:= #[7],assign:=Zb6,body:=Zdd,defers:=D}
structure SoAt (w0:World) (fn:FuncId) (sv:Value) (Bs l D:Nat) (ks:List Int) (W:World):Prop where
 box:∃A c,W.heap[Bs]? =some (.cells #[.slice A ks.length c] 53 (0,0))∧W.ownsRow w0.heap.size 3 1 (.slice A ks.length c) ks.length (ks.map (Value.int .i64))
 L:W.heap[l]? =some (.loop (Zay fn sv Bs D .ready none))
 K:W.heap[D]? =some (.deferred (some []))
 below:Below w0.heap.size w0 W
theorem ZeC (w0:World) (fn:FuncId) (sv:Value) (Bs l D B:Nat) (hB:w0.heap.size≤B):AbidesFrom B (SoAt w0 fn sv Bs l D):=fun s W W' row h hg hrow=>by
 have hrow':∀r,row=some r→∃o:Obj,W.heap[r]? =some o∧o.isWalk=true:=fun r e=>(hrow r e).2
 obtain⟨A,c,hv,hr⟩:=h.box
 exact⟨⟨A,c,(grownBy_keeps hg hrow' hv rfl).trans hv,ownsRow_abides_a hr hg hrow'⟩,(grownBy_keeps hg hrow' h.L rfl).trans h.L,(grownBy_keeps hg hrow' h.K rfl).trans h.K,
  h.below.grown hg h.below.size (fun k e=>Nat.le_trans hB (hrow k e).1)⟩
theorem Zfp (ks:List Int) (x:Int):ks.map (Value.int .i64)++[.int .i64 x]=(ks++[x]).map (Value.int .i64):=by simp
set_option maxRecDepth 100000 in
set_option maxHeartbeats 4000000 in
theorem ZfV (F:Fence) (m:Nat) (w0:World) (fn:FuncId) (hfn:F.fn fn) (sv:Value) (Bs l D:Nat) (hBl:Bs≠l) (hDl:D≠l) (hDB:D≠Bs) (h0B:w0.heap.size≤Bs) (h0l:w0.heap.size≤l)
  (N:Nat) (hN:N≤1000000) (ks:List Int) (x:Int) (W:World) (h:SoAt w0 fn sv Bs l D ks W) (hlen:ks.length<N):
  YieldAt F m Try.prog l #[(.int .i64 x)] W fun e W'=>e= .returned (.bool true)∧SoAt w0 fn sv Bs l D (ks++[x]) W'∧KeepsWalks W W':=by
 have hne:(53:Nat)≠3:=by decide
 obtain⟨ht,i0,z0,hi,hz0,hz1,hz2,hz3,hz4⟩:=Zp;obtain⟨A,c,hv,hrow⟩:=h.box;refine⟨fn,#[.slice none 0 0,sv,.pointer (some ⟨Bs,0,none⟩),undef,.slice none 0 0,undef,sv,(.int .i64 x),undef,undef,undef,undef,undef],Zb6,Zdd,by simpa[Zay]using run_yield (P:=Try.prog) (args:= #[(.int .i64 x)]) h.L rfl,roundIn_of_wpIn hfn ?_⟩;have hl:l<W.heap.size:=(Array.getElem?_eq_some_iff.1 h.L).1;have hl1:=hl;have hbr:=run_beginRound (P:=Try.prog) h.L rfl;obtain⟨W2,hW2⟩:∃W2,W.putObj l (.loop {Zay fn sv Bs D .ready none with state:= .busy})=W2:=⟨_,rfl⟩;rw[hW2]at hbr;have hg2:W.grownBy W2 (some l):=by rw[←hW2];exact grownBy_putObj_a _ _ _
 have hk2:KeepsWalks W W2:=by rw[←hW2];exact KeepsWalks.putObj _ h.L rfl
 have hv2:W2.heap[Bs]? =some (.cells #[.slice A ks.length c] 53 (0,0)):=by rw[←hW2];exact(World.putObj_heap_other hBl).trans hv
 have hK2:W2.heap[D]? =some (.deferred (some [])):=by rw[←hW2];exact(World.putObj_heap_other hDl).trans h.K
 have hL2:W2.heap[l]? =some (.loop {Zay fn sv Bs D .ready none with state:= .busy}):=by rw[←hW2];exact World.putObj_heap_same hl1
 have hrow2:=hrow.kept hg2 (ownsRow_ne_a hrow h.L (fun cur e=>by cases e));have hb2:Below w0.heap.size w0 W2:=h.below.grown hg2 h.below.size (fun k e=>by cases e;exact h0l);obtain⟨hc2,hf2⟩:=cell_of_box_a hv2;have hBlt:Bs<W2.heap.size:=(Array.getElem?_eq_some_iff.1 hv2).1;have hl2:l<W2.heap.size:=(Array.getElem?_eq_some_iff.1 hL2).1;have hDlt:D<W2.heap.size:=(Array.getElem?_eq_some_iff.1 hK2).1
 have ne_of:∀{j:Nat} {o:Obj},W2.heap[j]? =some o→(∀cur,o≠.cells cur 3 (0,0))→some j≠Value.ownBlock (.slice A ks.length c):=fun hj hno=>by
  rcases ownsRow_ne_a hrow2 hj hno with e|e
  ·rw[e];simp
  ·exact fun e'=>e e'.symm
 clear hW2;unfold Zb6
 gi_wp2_with gi_round_op_a
 unfold Zdd
 gi_wp2_with (first
  |(gi_at_builtin;refine wpListIn_append_own _ rfl _ _ 53 rfl w0.heap.size 3 i0 z0 1 8 ht hi hz0 hz1 hz2 hz3 (by decide) _ _ _ rfl (hrow2.alloc _) ⟨W2.heap.size,0,none⟩ 1 1 [.int .i64 x] rfl rfl (fun j u hj=>Zft j u hj) (by simp[Value.oneCell']) (by simp only[maxLen];omega) (by omega) (by have:=hb2.size;simp;omega) ?_;intro v' w3 hown' hg3 hnil3
    have hv3:w3.heap[Bs]? =some (.cells #[.slice A ks.length c] 53 (0,0)):=(hg3.block Bs (by simp;omega) (ne_of hv2 (fun cur e=>hne (Obj.cells.inj e).2.1))).trans ((Below.heap_alloc _ _ Bs hBlt).trans hv2);obtain⟨hc3,hf3⟩:=cell_of_box_a hv3;obtain⟨g',cap',rfl,hfm⟩:=hown'.form (by omega)
    go_frame)
  |gi_round_op_a)
 have hg3':(W2.alloc (.cells #[.int .i64 x] 3)).grownBy w3 (Value.ownBlock (.slice A ks.length c)):=hg3;have hL3:w3.heap[l]? =some (.loop {Zay fn sv Bs D .ready none with state:= .busy}):=(hg3'.block l (by simp;omega) (ne_of hL2 (fun cur e=>by cases e))).trans ((Below.heap_alloc _ _ l hl2).trans hL2);have hK3:w3.heap[D]? =some (.deferred (some [])):=(hg3'.block D (by simp;omega) (ne_of hK2 (fun cur e=>by cases e))).trans ((Below.heap_alloc _ _ D hDlt).trans hK2);obtain⟨w4,hw4⟩:∃w4,w3.setCell ⟨Bs,0,none⟩ (.slice (some ⟨g',0,none⟩) (ks.length+1) cap')=w4:=⟨_,rfl⟩;rw[hw4];have hg4:w3.grownBy w4 (some Bs):=by rw[←hw4];exact grownBy_setCell0_a _ _ _
 have hv4:w4.heap[Bs]? =some (.cells #[.slice (some ⟨g',0,none⟩) (ks.length+1) cap'] 53 (0,0)):=by rw[←hw4];exact heap_setCell_box_a _ hv3
 have hL4:=(hg4.block l (Array.getElem?_eq_some_iff.1 hL3).1 (fun e=>hBl (by cases e;rfl))).trans hL3;have hK4:w4.heap[D]? =some (.deferred (some [])):=(hg4.block D (Array.getElem?_eq_some_iff.1 hK3).1 (fun e=>hDB (by cases e;rfl))).trans hK3;have hrow4:=hown'.kept hg4 (ownsRow_ne_a hown' hv3 (fun cur e=>hne (Obj.cells.inj e).2.1));have hl4:l<w4.heap.size:=(Array.getElem?_eq_some_iff.1 hL4).1;have hb3:Below w0.heap.size w0 w3:=(hb2.alloc hb2.size _).grown hg3' (by have:=hb2.size;simp;omega) (fun k e=>(hrow2.lt k e).1);have hb4:Below w0.heap.size w0 w4:=hb3.grown hg4 hb3.size (fun k e=>by cases e;exact h0B);have hk4:KeepsWalks W w4:=((hk2.trans (KeepsWalks.alloc _ _)).trans (KeepsWalks.of_grownBy hg3' (ownsRow_not_walk_a (hrow2.alloc _)))).trans (by rw[←hw4];exact KeepsWalks.setCell _ _ _);have hlen1:(ks++[x]).length=ks.length+1:=by simp
 clear hw4;refine⟨_,_,run_endRound none hL4,rfl,⟨⟨some ⟨g',0,none⟩,cap',?_,?_⟩,World.putObj_heap_same hl4,(World.putObj_heap_other hDl).trans hK4,hb4.grown (grownBy_putObj_a _ _ _) hb4.size (fun k e=>by cases e;exact h0l)⟩,hk4.trans (KeepsWalks.putObj _ hL4 rfl)⟩
 ·rw[hlen1];exact(World.putObj_heap_other hBl).trans hv4
 ·have:=hrow4.kept (grownBy_putObj_a w4 l (.loop {{Zay fn sv Bs D .ready none with state:= .busy}with state:=if (none:Option Code).isNone then .ready else .done,pending:=none})) (ownsRow_ne_a hrow4 hL4 (fun cur e=>by cases e));rw[hlen1,←Zfp];exact this
set_option maxRecDepth 100000 in
set_option maxHeartbeats 4000000 in
theorem Zfm (F:Fence) (n:Nat) (h11:F.fn 117) (hro:F.round=none) (hn:2≤n) (g:Nat) (lb:Array Value) (hFg:F.fn g) (eg:∀args w,(callFunc g args).run Try.prog w= .ok (.enter g args) w)
  (S:List Int→Prop) (N:Nat) (hN:N≤1000000) (w:World) (hseq:SeqGives F (n-1) Try.prog g lb (fun n:Int=>Value.int .i64 n) S N w):
  CallsIn F n Try.prog 117 #[.slice none 0 0,.func (.func g) #[] lb] w fun e w'=>∃(A:Option Addr) (c:Nat) (ks:List Int),e= .returned (.slice A ks.length c)∧S ks∧w'.ownsRow w.heap.size 3 1 (.slice A ks.length c) ks.length (ks.map (Value.int .i64))∧Below w.heap.size w w':=by
 have h1:1≤n:=by omega
 have hne:(53:Nat)≠3:=by decide
 refine callsIn_of_wp_marks Try.func117 rfl h11 ?_ hro;simp only[Try.ntmps117,List.size_toArray,List.length_cons,List.length_nil,Nat.reduceAdd,Nat.reduceSub,Array.replicate_succ,Array.replicate_zero,List.push_toArray,List.append_toArray,List.nil_append,List.cons_append]
 gi_wp2
 refine wpIn_rangeFunc ?_;intro fn hfn;rw[hro];obtain⟨W0,hW0⟩:∃W0,w.alloc (.cells #[.slice none 0 0] 53)=W0:=⟨_,rfl⟩;have hs0:W0.heap.size=w.heap.size+1:=by rw[←hW0];simp
 have hv0:W0.heap[w.heap.size]? =some (.cells #[.slice none 0 0] 53 (0,0)):=by rw[←hW0];exact World.alloc_heap_new w _
 have hb0:Below w.heap.size w W0:=by rw[←hW0];exact(Below.refl _ w).alloc (Nat.le_refl _) _
 rw[hW0];obtain⟨W1,hW1⟩:∃W1,(W0.alloc (.deferred (some []))).alloc (.loop (Zay fn (.func (.func g) #[] lb) w.heap.size W0.heap.size .ready none))=W1:=⟨_,rfl⟩
 have hold:∀k,k<W0.heap.size→W1.heap[k]? =W0.heap[k]? :=fun k hk=>by
  rw[←hW1];exact(Below.heap_alloc _ _ k (by simp;omega)).trans (Below.heap_alloc _ _ k hk)
 have hb1:Below w.heap.size w W1:=by rw[←hW1];exact(hb0.alloc hb0.size _).alloc (by have:=hb0.size;simp;omega) _
 have hs1:W1.heap.size=W0.heap.size+2:=by rw[←hW1];simp
 have hM:SoAt w fn (.func (.func g) #[] lb) w.heap.size (W0.heap.size+1) W0.heap.size [] W1:=
  ⟨⟨none,0,(hold w.heap.size (by omega)).trans hv0,World.ownsRow_nil _ _ _ _⟩,
   by rw[←hW1];have:=World.alloc_heap_new (W0.alloc (.deferred (some []))) (.loop (Zay fn (.func (.func g) #[] lb) w.heap.size W0.heap.size .ready none));rwa [World.size_alloc]at this,
   by rw[←hW1];exact(Below.heap_alloc _ _ _ (by simp)).trans (World.alloc_heap_new W0 _),hb1⟩
 refine⟨W0.heap.size+1,[{target:= .collected W0.heap.size,args:= #[]}],W1,{target:= .fn (.func g) lb,args:= #[.func (.yield (W0.heap.size+1)) #[] #[]]},W1,g,
  #[.func (.yield (W0.heap.size+1)) #[] #[]]++lb,W1,?_,?_,?_,?_,fun _=>h1,?_⟩
 ·rw[←hW1];exact run_enterLoop_outer _ _ _ _ _
 ·simp[resolve,go_sem]
 ·intro f' hf';simp[Target.leads]at hf';subst hf';exact hFg
 ·simp[invoke,go_sem,eg]
 ·refine(hseq (W0.heap.size+1) (SoAt w fn (.func (.func g) #[] lb) w.heap.size (W0.heap.size+1) W0.heap.size) W1 hb1 (ZeC _ _ _ _ _ _ _ hb1.size)
   (fun pre x W hJ hl=>ZfV F (n-1-1) w fn hfn _ w.heap.size (W0.heap.size+1) W0.heap.size (by omega) (by omega) (by omega) (Nat.le_refl _) (by omega) N hN pre x W hJ hl) hM).mono ?_
  rintro e W2 ⟨⟨v0,rfl⟩,ks,hS,h2⟩;obtain⟨A,c,hv,hrow⟩:=h2.box;have hend:=run_endLoop (P:=Try.prog) h2.L (by simp[Zay]);obtain⟨W3,hW3⟩:∃W3,W2.putObj (W0.heap.size+1) (.loop {Zay fn (.func (.func g) #[] lb) w.heap.size W0.heap.size .ready none with state:= .exhausted})=W3:=⟨_,rfl⟩;rw[hW3]at hend;have hg3:W2.grownBy W3 (some (W0.heap.size+1)):=by rw[←hW3];exact grownBy_putObj_a _ _ _
  have hv3:W3.heap[w.heap.size]? =some (.cells #[.slice A ks.length c] 53 (0,0)):=by rw[←hW3];exact(World.putObj_heap_other (by omega)).trans hv
  have hK3:W3.heap[W0.heap.size]? =some (.deferred (some [])):=by rw[←hW3];exact(World.putObj_heap_other (by omega)).trans h2.K
  have hrow3:=hrow.kept hg3 (ownsRow_ne_a hrow h2.L (fun cur e=>by cases e));have hb3:Below w.heap.size w W3:=h2.below.grown hg3 h2.below.size (fun k e=>by cases e;omega);obtain⟨hc3,hf3⟩:=cell_of_box_a hv3;clear hW3;refine⟨none,W3,hend,?_⟩
  gi_wp2
  rw[←hs0];refine⟨by simp,.inl ⟨_,_,rfl,run_takeDeferred hK3,?_⟩⟩;exact⟨_,results_tmp rfl _ _ _,A,c,ks,rfl,hS,hrow3.kept (grownBy_putObj_a _ _ _) (ownsRow_ne_a hrow3 hK3 (fun cur e=>by cases e)),hb3.grown (grownBy_putObj_a _ _ _) hb3.size (fun k e=>by cases e;omega)⟩
theorem Zen:∀args w,(callFunc 117 args).run Try.prog w= .ok (.enter 117 args) w:=enters_of Try.func117 (by kernel_rfl) rfl
set_option maxRecDepth 100000 in
set_option maxHeartbeats 4000000 in
theorem ZeD (w:World) (g:Nat) (lb:Array Value) (eg:∀args w,(callFunc g args).run Try.prog w= .ok (.enter g args) w) (S:List Int→Prop) (N:Nat) (hN:N≤1000000) (hseq:SeqGives Fence.wide (5-1-1) Try.prog g lb (fun n:Int=>Value.int .i64 n) S N w):
  Calls Try.prog 89 #[.func (.func g) #[] lb] w fun e w'=>∃(A:Option Addr) (c:Nat) (ks:List Int),e= .returned (.slice A ks.length c)∧S ks∧w'.ownsRow w.heap.size 3 1 (.slice A ks.length c) ks.length (ks.map (Value.int .i64))∧Upd No w w':=by
 have e11:=Zen;have HC:=Qh (Zfm Fence.wide (5-1) trivial rfl (by omega) g lb trivial eg S N hN w hseq);have hfe:Fence.wide.fn 117:=trivial;clear hseq;refine(callsIn_wide (n:=5)).1 ?_;refine callsIn_of_wp Try.func89 rfl trivial ?_ rfl;simp only[Try.ntmps89,List.size_toArray,List.length_cons,List.length_nil,Nat.reduceAdd,Nat.reduceSub,Array.replicate_succ,Array.replicate_zero,List.push_toArray,List.append_toArray,List.nil_append,List.cons_append]
 gi_wp2_with (gi_at_fn 117;refine HC.out.mono ?_;rintro e w' ⟨A,c,ks,rfl,hS,hrow,hb⟩)
 go_ret
 exact⟨A,c,ks,rfl,hS,hrow,Upd.of_below hb⟩
set_option maxRecDepth 100000 in
set_option maxHeartbeats 4000000 in
theorem Zfl (w:World) (g:Nat) (lb:Array Value) (eg:∀args w,(callFunc g args).run Try.prog w= .ok (.enter g args) w) (S:List Int→Prop) (N:Nat) (hN:N≤1000000) (hseq:SeqGives Fence.wide (5-1-1) Try.prog g lb (fun n:Int=>Value.int .i64 n) S N w) (hS:∀ks,S ks→ks.length≤1000000):
  Calls Try.prog 62 #[.func (.func g) #[] lb] w fun e w'=>∃(A:Option Addr) (c:Nat) (ks:List Int),e= .returned (.slice A ks.length c)∧S ks∧w'.ownsRow w.heap.size 3 1 (.slice A ks.length c) ks.length ((ZI ks).map (Value.int .i64))∧Upd No w w':=by
 have HC:=Qh (ZeD w g lb eg S N hN hseq);clear hseq eg
 go_enter Try.func62,Try.ntmps62
 go_wp2_with fail
 refine(HC.out).mono ?_;rintro e w1 ⟨A,c,ks,rfl,hs,hrow,hu⟩;have CS:=Qh (ZfO w1 w.heap.size A c ks hrow (Nat.le_trans (hS ks hs) (by decide)));have HRL:=Qh (fun i e=>(hrow.lt i e).1);clear hrow
 go_wp2_with fail
 refine(CS.out).mono ?_;rintro e w2 ⟨rfl,ho,hu2⟩;go_wp2
 go_ret
 exact⟨A,c,ks,rfl,hs,ho,hu.then_ hu2 fun i e=>Or.inr (HRL.out i e)⟩
def ZdL (w:World) (g Bm:Nat) (m:List (Int×Value)):Prop:=SeqGives Fence.wide (5-1-1) Try.prog g #[.pointer (some ⟨Bm,0,none⟩)] (fun n:Int=>Value.int .i64 n) (fun ks=>ks.Perm (m.map (·.1))) m.length w
theorem ZgA (w:World) (g Bm:Nat) (m:List (Int×Value)) (eg:∀args w,(callFunc g args).run Try.prog w= .ok (.enter g args) w) (h:ZdL w g Bm m) (hl:m.length≤1000000):
  Calls Try.prog 62 #[.func (.func g) #[] #[.pointer (some ⟨Bm,0,none⟩)]] w fun e w'=>∃(A:Option Addr) (c:Nat) (ks:List Int),e= .returned (.slice A ks.length c)∧ks=ZI (m.map (·.1))∧w'.ownsRow w.heap.size 3 1 (.slice A ks.length c) ks.length (ks.map (Value.int .i64))∧Upd No w w':=by
 refine(Zfl w g #[.pointer (some ⟨Bm,0,none⟩)] eg (fun ks:List Int=>ks.Perm (m.map (fun p:Int×Value=>p.1))) m.length hl h (fun ks hk=>by rw[hk.length_eq,List.length_map];exact hl)).mono ?_;rintro e w' ⟨A,c,ks,rfl,hp,ho,hu⟩;have he:ZI ks=ZI (m.map (·.1)):=by rw[ZaT,ZaT];exact Zc1 hp
 have hlen:(ZI ks).length=ks.length:=by rw[ZaT];exact(ZR ks).length_eq
 refine⟨A,c,ZI ks,by rw[hlen],he,?_,hu⟩;rw[hlen];exact ho
end
end Go.Proofs.Ytblplapkdmhikaa
