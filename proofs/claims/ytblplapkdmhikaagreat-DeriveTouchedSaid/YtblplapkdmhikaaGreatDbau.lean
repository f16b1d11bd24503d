/- slices.Collect(maps.Keys(m)) at edges: the keys come, each once, in some order. -/
import Derived.Shelf.SlIter.Collect
import Derived.Test.YtblplapkdmhikaaGreatDbak
import Derived.Test.YtblplapkdmhikaaGreatDbao
namespace Go.Proofs.YtblplapkdmhikaaGreat
set_option linter.unusedVariables false
set_option linter.unusedSimpArgs false
section
open Go.RowKit Go.Maps Go.Sort Go.Shelf
theorem ZkX {w w':World} {r:Nat} (h:Upd (One r) w w'):w.grownBy w' (some r):=⟨h.os,h.tape,h.output,h.size,fun k hk hne=>h.block k hk (fun e=>hne (by unfold One at e;rw[e]))⟩
theorem Ze7 {w w':World} (h:Upd No w w'):w.grownBy w' none:=⟨h.os,h.tape,h.output,h.size,fun k hk _=>h.block k hk id⟩
section
variable {α:Type} {w w':World} {r b:Nat} {enc:α→Value} {m left:List (α×Value)}
theorem Iter.left_eq (h:Iter w r b enc m left):w.rangeLeft b r=left.length:=by
 obtain⟨es,clock,since,c0,seen,h1,h2,_,_,_,_,_,h7⟩:=h;simp only[World.rangeLeft,h1,h2];have:=congrArg List.length h7
 simpa using this
theorem Iter.walks (h:Iter w r b enc m left) (k:KeepsWalks w w'):Iter w' r b enc m left:=by
 obtain⟨es,clock,since,c0,seen,h1,h2,h3⟩:=h;exact⟨es,clock,since,c0,seen,k.same r _ h1 rfl,k.same b _ h2 rfl,h3⟩
theorem Iter.walk (h:Iter w r b enc m left):∃o:Obj,w.heap[r]? =some o∧o.isWalk=true:=by
 obtain⟨es,clock,since,c0,seen,h1,_⟩:=h;exact⟨_,h1,rfl⟩
end
def ZB (x:Edge):Value:= .agg #[.int .i64 x.f,.int .i64 x.t,.int .i64 x.k,.int .i64 x.key]
set_option maxRecDepth 100000 in
set_option maxHeartbeats 2000000 in
theorem ZnW (F:Fence) (n:Nat) (hF:F.fn 152) (hro:F.round=none) (hn:1≤n) (l Bm b:Nat) (m:List (Edge×Value)) (J:List Edge→World→Prop)
  (hY:∀pre x W,J pre W→pre.length<m.length→YieldAt F (n-1) Tryz.prog l #[ZB x] W fun e W'=>e= .returned (.bool true)∧J (pre++[x]) W'∧KeepsWalks W W')
  (W:World) (hJ:AbidesFrom W.heap.size J) (hm:W.cell? ⟨Bm,0,none⟩=some (.map (some b))) (hmap:MapE W b ZB m) (h0:J [] W):
  CallsIn F n Tryz.prog 152 #[.func (.yield l) #[] #[],.pointer (some ⟨Bm,0,none⟩)] W fun e W'=>(∃v,e= .returned v)∧∃ks:List Edge,ks.Perm (m.map (·.1))∧J ks W':=by
 obtain⟨w0,hrg,hit0,hu0,hs0⟩:=ZjD (P:=Tryz.prog) Tryz.underlying109 hmap;have hJ0:J [] w0:=hJ [] W w0 none h0 (Ze7 hu0) (fun r e=>by cases e);clear hs0;refine callsIn_of_wp Tryz.func152 rfl hF ?_ hro;simp only[Tryz.ntmps152,List.size_toArray,List.length_cons,List.length_nil,Nat.reduceAdd,Nat.reduceSub,Array.replicate_succ,Array.replicate_zero,List.push_toArray,List.append_toArray,List.nil_append,List.cons_append]
 gi_wp2
 gi_loopw [3] (fun _ wr=>∃(left:List (Edge×Value)) (ks:List Edge),Iter wr W.heap.size b ZB m left∧(ks++left.map (·.1)).Perm (m.map (·.1))∧J ks wr)
  (fun _ wr=>wr.rangeLeft b W.heap.size)
 case atStart=>exact⟨m,[],hit0,by simp,hJ0⟩
 case round=>
  clear hrg hJ0 hit0 hu0;obtain⟨left,ks,hit,hpm,hJs⟩:=hrel;rcases ZkO (P:=Tryz.prog) hit with ⟨rfl,hnx⟩|⟨l1,p,l2,w2,rfl,hnx,hit2,hu2,hs2,hent⟩
  ·gi_wp2
   go_end0
   exact⟨⟨_,rfl⟩,ks,by simpa using hpm,hJs⟩
  ·obtain⟨x,v⟩:=p;have hent2:=hent w2 (Upd.refl _ _);obtain⟨w3,hw3⟩:∃w3,w2.alloc (.cells #[.int .i64 x.f,.int .i64 x.t,.int .i64 x.k,.int .i64 x.key] 53)=w3:=⟨_,rfl⟩;have u3:Upd No w2 w3:=by rw[←hw3];exact(Upd.refl No w2).alloc _
   have b3:Blk w3 w2.heap.size 53 [.int .i64 x.f,.int .i64 x.t,.int .i64 x.k,.int .i64 x.key]:=by rw[←hw3];exact Blk.new w2 _ _
   have d0:=b3.cell 0;have d1:=b3.cell 1;have d2:=b3.cell 2;have d3:=b3.cell 3;simp only[Qz,Qs]at d0 d1 d2 d3;have hJ2:J ks w2:=hJ ks _ w2 (some W.heap.size) hJs (ZkX hu2) (fun r e=>by cases e;exact⟨Nat.le_refl _,hit.walk⟩);have hJ3:J ks w3:=hJ ks w2 w3 none hJ2 (Ze7 u3) (fun r e=>by cases e);have hlen:ks.length<m.length:=by have:=hpm.length_eq;simp at this;omega
   obtain⟨fn,tmps,assign,body,hy,hR⟩:=hY ks x w3 hJ3 hlen;have hit3:=hit2.upd u3 id id;unfold ZB at hy hnx hent2
   dsimp only at hy hnx hent2
   have HIT:=Qh hit;have HIT3:=Qh hit3;have HPM:=Qh hpm;clear hit hit2 hit3 hpm hs2 hu2 hent hlen u3 b3
   gi_wp2
   refine hR.mono ?_;rintro e W3 ⟨rfl,hJ4,hk4⟩;have hit4:=HIT3.out.walks hk4
   gi_wp2
   go_roundw
   case rel=>
    refine⟨l1++l2,ks++[x],hit4,?_,hJ4⟩;refine List.Perm.trans ?_ HPM.out;simp only[List.map_append,List.map_cons,List.append_assoc,List.singleton_append];exact List.Perm.append_left ks List.perm_middle.symm
   case measure=>rw[hit4.left_eq,HIT.out.left_eq];simp
end
/- slices.Collect(maps.Keys(m))at edges:slices.AppendSeq,slices.Collect. -/
section
open Go.RowKit Go.Maps Go.Sort Go.Shelf
def Zeh:Code:=(Code.region 2 #[{dst:=some 5,op:=Op.alloc 53,type:=0,pos:= "iter.go:51",after:= #[],guard:=none},{dst:=none,op:=Op.store 53 (Operand.tmp 5) (Operand.tmp 7),type:=0,pos:= "iter.go:51",after:= #[{on:=0,ground:=Ground.data},{on:=0,ground:=Ground.phase}],guard:=none}] false)
def Zgt:Code:=(Code.block 1 (Code.region 3 #[{dst:=some 8,op:=Op.load 34 (Operand.tmp 2),type:=34,pos:= "iter.go:52",after:= #[],guard:=none},{dst:=some 9,op:=Op.load 53 (Operand.tmp 5),type:=53,pos:= "iter.go:52",after:= #[],guard:=none},{dst:=some 10,op:=Op.buildSlice 34 1 #[(0,Operand.tmp 9)],type:=34,pos:= "iter.go:52",after:= #[{on:=1,ground:=Ground.data}],guard:=none},{dst:=some 11,op:=Op.call {callee:=Callee.builtin Builtin.append,args:= #[Operand.tmp 8,Operand.tmp 10],argTypes:= #[34,34]},type:=34,pos:= "iter.go:52",after:= #[{on:=0,ground:=Ground.data},{on:=2,ground:=Ground.data}],guard:=none},{dst:=none,op:=Op.store 34 (Operand.tmp 2) (Operand.tmp 11),type:=0,pos:= "iter.go:52",after:= #[{on:=3,ground:=Ground.data},{on:=3,ground:=Ground.chain},{on:=0,ground:=Ground.phase},{on:=1,ground:=Ground.phase},{on:=2,ground:=Ground.phase},{on:=3,ground:=Ground.phase}],guard:=none}] false))
def Zbl (fn:FuncId) (sv:Value) (Bs D:Nat) (st:LoopState) (ZlP:Option Code):Loop:=
 {state:=st,pending:=ZlP,fn,tmps:= #[.slice none 0 0,sv,.pointer (some ⟨Bs,0,none⟩),undef,.slice none 0 0,undef,sv,undef,undef,undef,undef,undef,undef],params:= #[7],assign:=Zeh,body:=Zgt,defers:=D}
structure ColAt (w0:World) (fn:FuncId) (sv:Value) (Bs l D:Nat) (ks:List Edge) (W:World):Prop where
 box:∃A c,W.heap[Bs]? =some (.cells #[.slice A ks.length c] 34 (0,0))∧W.ownsRow w0.heap.size 53 4 (.slice A ks.length c) ks.length (ks.map Edge.cells).flatten
 L:W.heap[l]? =some (.loop (Zbl fn sv Bs D .ready none))
 K:W.heap[D]? =some (.deferred (some []))
 below:Below w0.heap.size w0 W
theorem ZjW (w0:World) (fn:FuncId) (sv:Value) (Bs l D B:Nat) (hB:w0.heap.size≤B):AbidesFrom B (ColAt w0 fn sv Bs l D):=fun s W W' row h hg hrow=>by
 have hrow':∀r,row=some r→∃o:Obj,W.heap[r]? =some o∧o.isWalk=true:=fun r e=>(hrow r e).2
 obtain⟨A,c,hv,hr⟩:=h.box
 exact⟨⟨A,c,(grownBy_keeps hg hrow' hv rfl).trans hv,ownsRow_abides_a hr hg hrow'⟩,(grownBy_keeps hg hrow' h.L rfl).trans h.L,(grownBy_keeps hg hrow' h.K rfl).trans h.K,
  h.below.grown hg h.below.size (fun k e=>Nat.le_trans hB (hrow k e).1)⟩
theorem Zkg (ks:List Edge) (x:Edge):(ks.map Edge.cells).flatten++[.int .i64 x.f,.int .i64 x.t,.int .i64 x.k,.int .i64 x.key]=((ks++[x]).map Edge.cells).flatten:=by simp[Edge.cells]
set_option maxRecDepth 100000 in
set_option maxHeartbeats 4000000 in
theorem Zmg (F:Fence) (m:Nat) (w0:World) (fn:FuncId) (hfn:F.fn fn) (sv:Value) (Bs l D:Nat) (hBl:Bs≠l) (hDl:D≠l) (hDB:D≠Bs) (h0B:w0.heap.size≤Bs) (h0l:w0.heap.size≤l)
  (N:Nat) (hN:N≤1000000) (ks:List Edge) (x:Edge) (W:World) (h:ColAt w0 fn sv Bs l D ks W) (hlen:ks.length<N):
  YieldAt F m Tryz.prog l #[ZB x] W fun e W'=>e= .returned (.bool true)∧ColAt w0 fn sv Bs l D (ks++[x]) W'∧KeepsWalks W W':=by
 have hne:(34:Nat)≠53:=by decide
 obtain⟨ht,i0,z0,hi,hz0,hz1,hz2,hz3,hz4⟩:=ZgD;obtain⟨A,c,hv,hrow⟩:=h.box;refine⟨fn,#[.slice none 0 0,sv,.pointer (some ⟨Bs,0,none⟩),undef,.slice none 0 0,undef,sv,ZB x,undef,undef,undef,undef,undef],Zeh,Zgt,by simpa[Zbl]using run_yield (P:=Tryz.prog) (args:= #[ZB x]) h.L rfl,roundIn_of_wpIn hfn ?_⟩;have hl:l<W.heap.size:=(Array.getElem?_eq_some_iff.1 h.L).1;obtain⟨W1,hW1⟩:∃W1,W.alloc (.cells #[.int .i64 x.f,.int .i64 x.t,.int .i64 x.k,.int .i64 x.key] 53)=W1:=⟨_,rfl⟩;have u1:Upd No W W1:=by rw[←hW1];exact(Upd.refl No W).alloc _
 have hg1:=Ze7 u1;have hk1:KeepsWalks W W1:=by rw[←hW1];exact KeepsWalks.alloc _ _
 have hE1:Blk W1 W.heap.size 53 [.int .i64 x.f,.int .i64 x.t,.int .i64 x.k,.int .i64 x.key]:=by rw[←hW1];exact Blk.new W _ _
 have hv1:=(u1.block Bs (Array.getElem?_eq_some_iff.1 hv).1 id).trans hv;have hK1:=(u1.block D (Array.getElem?_eq_some_iff.1 h.K).1 id).trans h.K;have hL1:=(u1.block l hl id).trans h.L;have hrow1:=Zb hrow u1 (fun _ _=>id);have hb1:Below w0.heap.size w0 W1:=h.below.grown hg1 h.below.size (fun k e=>by cases e);have hlE:l≠W.heap.size:=by omega
 have hl1:l<W1.heap.size:=Nat.lt_of_lt_of_le hl u1.size;have hbr:=run_beginRound (P:=Tryz.prog) hL1 rfl;obtain⟨W2,hW2⟩:∃W2,W1.putObj l (.loop {Zbl fn sv Bs D .ready none with state:= .busy})=W2:=⟨_,rfl⟩;rw[hW2]at hbr;have hg2:W1.grownBy W2 (some l):=by rw[←hW2];exact grownBy_putObj_a _ _ _
 have hk2:KeepsWalks W1 W2:=by rw[←hW2];exact KeepsWalks.putObj _ hL1 rfl
 have hv2:W2.heap[Bs]? =some (.cells #[.slice A ks.length c] 34 (0,0)):=by rw[←hW2];exact(World.putObj_heap_other hBl).trans hv1
 have hK2:W2.heap[D]? =some (.deferred (some [])):=by rw[←hW2];exact(World.putObj_heap_other hDl).trans hK1
 have hL2:W2.heap[l]? =some (.loop {Zbl fn sv Bs D .ready none with state:= .busy}):=by rw[←hW2];exact World.putObj_heap_same hl1
 have hE2:Blk W2 W.heap.size 53 [.int .i64 x.f,.int .i64 x.t,.int .i64 x.k,.int .i64 x.key]:=by rw[←hW2];exact(World.putObj_heap_other (fun e=>hlE e.symm)).trans hE1
 have hrow2:=hrow1.kept hg2 (ownsRow_ne_a hrow1 hL1 (fun cur e=>by cases e));have hb2:Below w0.heap.size w0 W2:=hb1.grown hg2 hb1.size (fun k e=>by cases e;exact h0l);obtain⟨hc2,hf2⟩:=cell_of_box_a hv2;have hBlt:Bs<W2.heap.size:=(Array.getElem?_eq_some_iff.1 hv2).1;have hl2:l<W2.heap.size:=(Array.getElem?_eq_some_iff.1 hL2).1;have hDlt:D<W2.heap.size:=(Array.getElem?_eq_some_iff.1 hK2).1;have d0:=hE2.cell 0;have d1:=hE2.cell 1;have d2:=hE2.cell 2;have d3:=hE2.cell 3;simp only[Qz,Qs]at d0 d1 d2 d3
 have ne_of:∀{j:Nat} {o:Obj},W2.heap[j]? =some o→(∀cur,o≠.cells cur 53 (0,0))→some j≠Value.ownBlock (.slice A ks.length c):=fun hj hno=>by
  rcases ownsRow_ne_a hrow2 hj hno with e|e
  ·rw[e];simp
  ·exact fun e'=>e e'.symm
 clear hW2;unfold Zeh ZB
 gi_wp2_with gi_round_op_a
 unfold Zgt;clear hW1
 gi_wp2_with (first
  |(gi_at_builtin;refine wpListIn_append_own _ rfl _ _ 34 rfl w0.heap.size 53 i0 z0 4 32 ht hi hz0 hz1 hz2 hz3 (by decide) _ _ _ rfl (hrow2.alloc _) ⟨W2.heap.size,0,none⟩ 1 1 [.int .i64 x.f,.int .i64 x.t,.int .i64 x.k,.int .i64 x.key] rfl rfl (fun j u hj=>ZbO j u hj) (by simp[Value.oneCell']) (by simp only[maxLen];omega) (by omega) (by have:=hb2.size;simp;omega) ?_;intro v' w3 hown' hg3 hnil3
    have hv3:w3.heap[Bs]? =some (.cells #[.slice A ks.length c] 34 (0,0)):=(hg3.block Bs (by simp;omega) (ne_of hv2 (fun cur e=>hne (Obj.cells.inj e).2.1))).trans ((Below.heap_alloc _ _ Bs hBlt).trans hv2);obtain⟨hc3,hf3⟩:=cell_of_box_a hv3;obtain⟨g',cap',rfl,hfm⟩:=hown'.form (by omega)
    go_frame)
  |gi_round_op_a)
 have hg3':(W2.alloc (.cells #[.int .i64 x.f,.int .i64 x.t,.int .i64 x.k,.int .i64 x.key] 53)).grownBy w3 (Value.ownBlock (.slice A ks.length c)):=hg3;have hL3:w3.heap[l]? =some (.loop {Zbl fn sv Bs D .ready none with state:= .busy}):=(hg3'.block l (by simp;omega) (ne_of hL2 (fun cur e=>by cases e))).trans ((Below.heap_alloc _ _ l hl2).trans hL2);have hK3:w3.heap[D]? =some (.deferred (some [])):=(hg3'.block D (by simp;omega) (ne_of hK2 (fun cur e=>by cases e))).trans ((Below.heap_alloc _ _ D hDlt).trans hK2);obtain⟨w4,hw4⟩:∃w4,w3.setCell ⟨Bs,0,none⟩ (.slice (some ⟨g',0,none⟩) (ks.length+1) cap')=w4:=⟨_,rfl⟩;rw[hw4];have hg4:w3.grownBy w4 (some Bs):=by rw[←hw4];exact grownBy_setCell0_a _ _ _
 have hv4:w4.heap[Bs]? =some (.cells #[.slice (some ⟨g',0,none⟩) (ks.length+1) cap'] 34 (0,0)):=by rw[←hw4];exact heap_setCell_box_a _ hv3
 have hL4:=(hg4.block l (Array.getElem?_eq_some_iff.1 hL3).1 (fun e=>hBl (by cases e;rfl))).trans hL3;have hK4:w4.heap[D]? =some (.deferred (some [])):=(hg4.block D (Array.getElem?_eq_some_iff.1 hK3).1 (fun e=>hDB (by cases e;rfl))).trans hK3;have hrow4:=hown'.kept hg4 (ownsRow_ne_a hown' hv3 (fun cur e=>hne (Obj.cells.inj e).2.1));have hl4:l<w4.heap.size:=(Array.getElem?_eq_some_iff.1 hL4).1;have hb3:Below w0.heap.size w0 w3:=(hb2.alloc hb2.size _).grown hg3' (by have:=hb2.size;simp;omega) (fun k e=>(hrow2.lt k e).1);have hb4:Below w0.heap.size w0 w4:=hb3.grown hg4 hb3.size (fun k e=>by cases e;exact h0B);have hk4:KeepsWalks W w4:=(((hk1.trans hk2).trans (KeepsWalks.alloc _ _)).trans (KeepsWalks.of_grownBy hg3' (ownsRow_not_walk_a (hrow2.alloc _)))).trans (by rw[←hw4];exact KeepsWalks.setCell _ _ _);have hlen1:(ks++[x]).length=ks.length+1:=by simp
 clear hw4;refine⟨_,_,run_endRound none hL4,rfl,⟨⟨some ⟨g',0,none⟩,cap',?_,?_⟩,World.putObj_heap_same hl4,(World.putObj_heap_other hDl).trans hK4,hb4.grown (grownBy_putObj_a _ _ _) hb4.size (fun k e=>by cases e;exact h0l)⟩,hk4.trans (KeepsWalks.putObj _ hL4 rfl)⟩
 ·rw[hlen1];exact(World.putObj_heap_other hBl).trans hv4
 ·have:=hrow4.kept (grownBy_putObj_a w4 l (.loop {{Zbl fn sv Bs D .ready none with state:= .busy}with state:=if (none:Option Code).isNone then .ready else .done,pending:=none})) (ownsRow_ne_a hrow4 hL4 (fun cur e=>by cases e));rw[hlen1,←Zkg];exact this
end
/- slices.Collect(maps.Keys(m))at edges:the contract. -/
section
open Go.RowKit Go.Maps Go.Sort Go.Shelf
set_option maxRecDepth 100000 in
set_option maxHeartbeats 4000000 in
theorem Zlc (F:Fence) (n:Nat) (h11:F.fn 151) (hro:F.round=none) (hn:2≤n) (g:Nat) (lb:Array Value) (hFg:F.fn g) (eg:∀args w,(callFunc g args).run Tryz.prog w= .ok (.enter g args) w)
  (S:List Edge→Prop) (N:Nat) (hN:N≤1000000) (w:World) (hseq:SeqGives F (n-1) Tryz.prog g lb ZB S N w):
  CallsIn F n Tryz.prog 151 #[.slice none 0 0,.func (.func g) #[] lb] w fun e w'=>∃(A:Option Addr) (c:Nat) (ks:List Edge),e= .returned (.slice A ks.length c)∧S ks∧w'.ownsRow w.heap.size 53 4 (.slice A ks.length c) ks.length (ks.map Edge.cells).flatten∧Below w.heap.size w w':=by
 have h1:1≤n:=by omega
 have hne:(34:Nat)≠53:=by decide
 refine callsIn_of_wp_marks Tryz.func151 rfl h11 ?_ hro;simp only[Tryz.ntmps151,List.size_toArray,List.length_cons,List.length_nil,Nat.reduceAdd,Nat.reduceSub,Array.replicate_succ,Array.replicate_zero,List.push_toArray,List.append_toArray,List.nil_append,List.cons_append]
 gi_wp2
 refine wpIn_rangeFunc ?_;intro fn hfn;rw[hro];obtain⟨W0,hW0⟩:∃W0,w.alloc (.cells #[.slice none 0 0] 34)=W0:=⟨_,rfl⟩;have hs0:W0.heap.size=w.heap.size+1:=by rw[←hW0];simp
 have hv0:W0.heap[w.heap.size]? =some (.cells #[.slice none 0 0] 34 (0,0)):=by rw[←hW0];exact World.alloc_heap_new w _
 have hb0:Below w.heap.size w W0:=by rw[←hW0];exact(Below.refl _ w).alloc (Nat.le_refl _) _
 rw[hW0];obtain⟨W1,hW1⟩:∃W1,(W0.alloc (.deferred (some []))).alloc (.loop (Zbl fn (.func (.func g) #[] lb) w.heap.size W0.heap.size .ready none))=W1:=⟨_,rfl⟩
 have hold:∀k,k<W0.heap.size→W1.heap[k]? =W0.heap[k]? :=fun k hk=>by
  rw[←hW1];exact(Below.heap_alloc _ _ k (by simp;omega)).trans (Below.heap_alloc _ _ k hk)
 have hb1:Below w.heap.size w W1:=by rw[←hW1];exact(hb0.alloc hb0.size _).alloc (by have:=hb0.size;simp;omega) _
 have hs1:W1.heap.size=W0.heap.size+2:=by rw[←hW1];simp
 have hM:ColAt w fn (.func (.func g) #[] lb) w.heap.size (W0.heap.size+1) W0.heap.size [] W1:=
  ⟨⟨none,0,(hold w.heap.size (by omega)).trans hv0,World.ownsRow_nil _ _ _ _⟩,
   by rw[←hW1];have:=World.alloc_heap_new (W0.alloc (.deferred (some []))) (.loop (Zbl fn (.func (.func g) #[] lb) w.heap.size W0.heap.size .ready none));rwa [World.size_alloc]at this,
   by rw[←hW1];exact(Below.heap_alloc _ _ _ (by simp)).trans (World.alloc_heap_new W0 _),hb1⟩
 refine⟨W0.heap.size+1,[{target:= .collected W0.heap.size,args:= #[]}],W1,{target:= .fn (.func g) lb,args:= #[.func (.yield (W0.heap.size+1)) #[] #[]]},W1,g,
  #[.func (.yield (W0.heap.size+1)) #[] #[]]++lb,W1,?_,?_,?_,?_,fun _=>h1,?_⟩
 ·rw[←hW1];exact run_enterLoop_outer _ _ _ _ _
 ·simp[resolve,go_sem]
 ·intro f' hf';simp[Target.leads]at hf';subst hf';exact hFg
 ·simp[invoke,go_sem,eg]
 ·refine(hseq (W0.heap.size+1) (ColAt w fn (.func (.func g) #[] lb) w.heap.size (W0.heap.size+1) W0.heap.size) W1 hb1 (ZjW _ _ _ _ _ _ _ hb1.size)
   (fun pre x W hJ hl=>Zmg F (n-1-1) w fn hfn _ w.heap.size (W0.heap.size+1) W0.heap.size (by omega) (by omega) (by omega) (Nat.le_refl _) (by omega) N hN pre x W hJ hl) hM).mono ?_
  rintro e W2 ⟨⟨v0,rfl⟩,ks,hS,h2⟩;obtain⟨A,c,hv,hrow⟩:=h2.box;have hend:=run_endLoop (P:=Tryz.prog) h2.L (by simp[Zbl]);obtain⟨W3,hW3⟩:∃W3,W2.putObj (W0.heap.size+1) (.loop {Zbl fn (.func (.func g) #[] lb) w.heap.size W0.heap.size .ready none with state:= .exhausted})=W3:=⟨_,rfl⟩;rw[hW3]at hend;have hg3:W2.grownBy W3 (some (W0.heap.size+1)):=by rw[←hW3];exact grownBy_putObj_a _ _ _
  have hv3:W3.heap[w.heap.size]? =some (.cells #[.slice A ks.length c] 34 (0,0)):=by rw[←hW3];exact(World.putObj_heap_other (by omega)).trans hv
  have hK3:W3.heap[W0.heap.size]? =some (.deferred (some [])):=by rw[←hW3];exact(World.putObj_heap_other (by omega)).trans h2.K
  have hrow3:=hrow.kept hg3 (ownsRow_ne_a hrow h2.L (fun cur e=>by cases e));have hb3:Below w.heap.size w W3:=h2.below.grown hg3 h2.below.size (fun k e=>by cases e;omega);obtain⟨hc3,hf3⟩:=cell_of_box_a hv3;clear hW3;refine⟨none,W3,hend,?_⟩
  gi_wp2
  rw[←hs0];refine⟨by simp,.inl ⟨_,_,rfl,run_takeDeferred hK3,?_⟩⟩;exact⟨_,results_tmp rfl _ _ _,A,c,ks,rfl,hS,hrow3.kept (grownBy_putObj_a _ _ _) (ownsRow_ne_a hrow3 hK3 (fun cur e=>by cases e)),hb3.grown (grownBy_putObj_a _ _ _) hb3.size (fun k e=>by cases e;omega)⟩
theorem ZjO:∀args w,(callFunc 151 args).run Tryz.prog w= .ok (.enter 151 args) w:=enters_of Tryz.func151 (by kernel_rfl) rfl
theorem Zh6:∀args w,(callFunc 152 args).run Tryz.prog w= .ok (.enter 152 args) w:=enters_of Tryz.func152 (by kernel_rfl) rfl
set_option maxRecDepth 100000 in
set_option maxHeartbeats 4000000 in
theorem Zh8 (w:World) (Bm b:Nat) (m:List (Edge×Value)) (hm:w.cell? ⟨Bm,0,none⟩=some (.map (some b))) (hmap:MapE w b ZB m) (hl:m.length≤1000000):
  Calls Tryz.prog 61 #[.func (.func 152) #[] #[.pointer (some ⟨Bm,0,none⟩)]] w fun e w'=>∃(A:Option Addr) (c:Nat) (ks:List Edge),e= .returned (.slice A ks.length c)∧ks.Perm (m.map (·.1))∧w'.ownsRow w.heap.size 53 4 (.slice A ks.length c) ks.length (ks.map Edge.cells).flatten∧Upd No w w':=by
 have e11:=ZjO;have hBm:Bm<w.heap.size:=block_lt_of_cell (a:=⟨Bm,0,none⟩) hm
 have HS:Hid (SeqGives Fence.wide (5-1-1) Tryz.prog 152 #[.pointer (some ⟨Bm,0,none⟩)] ZB (fun ks=>ks.Perm (m.map (·.1))) m.length w):=Qh fun l J W hW hJ hY h0=>
  ZnW Fence.wide (5-1-1) trivial rfl (by omega) l Bm b m J hY W hJ ((hW.cell (p:=⟨Bm,0,none⟩) hBm).trans hm) (hmap.upd (S:=No) (Upd.of_below hW) id) h0
 have HC:=Qh (Zlc Fence.wide (5-1) trivial rfl (by omega) 152 #[.pointer (some ⟨Bm,0,none⟩)] trivial Zh6 _ m.length hl w HS.out);have hfe:Fence.wide.fn 151:=trivial;clear hm hmap hBm;refine(callsIn_wide (n:=5)).1 ?_;refine callsIn_of_wp Tryz.func61 rfl trivial ?_ rfl;simp only[Tryz.ntmps61,List.size_toArray,List.length_cons,List.length_nil,Nat.reduceAdd,Nat.reduceSub,Array.replicate_succ,Array.replicate_zero,List.push_toArray,List.append_toArray,List.nil_append,List.cons_append]
 gi_wp2_with (gi_at_fn 151;refine HC.out.mono ?_;rintro e w' ⟨A,c,ks,rfl,hS,hrow,hb⟩)
 go_ret
 exact⟨A,c,ks,rfl,hS,hrow,Upd.of_below hb⟩
set_option maxHeartbeats 1000000 in
theorem ZmA (w:World) (mb:Option Nat):Calls Tryz.prog 62 #[.map mb] w fun e w'=>e= .returned (.func (.func 152) #[] #[.pointer (some ⟨w.heap.size,0,none⟩)])∧w.alloc (.cells #[.map mb] 109)=w':=by
 go_enter Tryz.func62,Tryz.ntmps62
 go_wp2
 go_ret
 exact⟨rfl,rfl⟩
end
end Go.Proofs.YtblplapkdmhikaaGreat
