/- Ways: how far each node is, by walks with an arc of another mask: the walk. -/
import Derived.Test.YtbefgiboikfojaaGreatRcbe
namespace Go.Proofs.YtbefgiboikfojaaGreat
open Go.RowKit
set_option linter.unusedVariables false
set_option linter.unusedSimpArgs false
set_option maxRecDepth 100000
set_option maxHeartbeats 8000000
theorem ZnE{wb W:Gy}{a b:Gz}{t:Gx}(_h:Upd No wb (W.alloc (.cells #[a,b] t))):Blk (W.alloc (.cells #[a,b] t)) W.heap.size t [a,b]:=Gh W t [a,b]
theorem Zle{wb W:Gy}{a b:Gz}{t:Gx}(_h:Upd No wb (W.alloc (.cells #[a,b] t)).drew):Blk (W.alloc (.cells #[a,b] t)).drew W.heap.size t [a,b]:=Gh W t [a,b]
theorem ZfA{wb W:Gy}{o:Obj}(_h:Upd No wb (W.alloc o)):Upd No W (W.alloc o):=(Gg No W).alloc o
theorem Zfb{P:Gw}{ops:Array Oper}{o:Oper}{a:Act}{W:Gy}{K:Act->Gy->Prop}{Q:Exit->Act->Gy->Prop}{E:Prop}(cw:o.guard=none){ty:Gx}{x y:Operand}(ho:o.op= .store ty x y)
  {g:Nat} {t:Gx} {old cells:Gl} (hx:a.eval x= .pointer (some ⟨g,0,none⟩)) (hy:a.eval y= .agg cells.toArray) (hb:Blk W g t old) (hi:(P.info? ty).map (·.size)=some cells.length) (hold:old.length=cells.length)
  (h1:cells.all (·.oneCell')=true) (h:∀w',Blk w' g t cells->Upd (One g) W w'->K (a.put o.dst undef) w'):if Region.wanted o (yielded ops a.tmps)=true then Oper.wp P o a W K Q else E:=by
 rw[if_pos (by simp[Region.wanted,cw])];refine wp_store_row ty x y ho g cells.toArray hx hy t old.toArray hb (by simpa using hi) (by simpa using hold) (by simpa using h1) ?_;exact h _ (setRow_heap W g old.toArray cells.toArray t (0,0) hb) ⟨rfl,rfl,rfl,by simp[World.setRow],fun k hk hn=>setRow_other W g k _ hn⟩
theorem Zvz(W:Gy)(a b:Int):(Instr.index 185 (.agg #[Qi a,Qi b]) (Qi 0)).run Tryz.prog W= .ok (Qi a) W:=by
 have hi:(Tryz.prog.info? 3).map (fun i=>(i.zero,i.size))=some (some (Qi 0),1):=by kernel_rfl
 obtain⟨i,h1,h2⟩:=Option.map_eq_some_iff.1 hi;simp only[Ga]at h2;simp[Instr.index,run_underlying Tryz.underlying185,asIntOf,go_sem,sizeOf,typeInfo,h1,h2]
theorem Zvy(W:Gy)(a b:Int):(Instr.index 185 (.agg #[Qi a,Qi b]) (Qi 1)).run Tryz.prog W= .ok (Qi b) W:=by
 have hi:(Tryz.prog.info? 3).map (fun i=>(i.zero,i.size))=some (some (Qi 0),1):=by kernel_rfl
 obtain⟨i,h1,h2⟩:=Option.map_eq_some_iff.1 hi;simp only[Ga]at h2;simp[Instr.index,run_underlying Tryz.underlying185,asIntOf,go_sem,sizeOf,typeInfo,h1,h2]
def Zbm(a b:Gv):Nat->List Int
 |0=>[]
 |1=>a
 |_=>a++b
def ZdU(a b:Gv):Nat->List Int
 |0=>a++b
 |1=>b
 |_=>[]
theorem ZvJ(w:Gy)(G:Gt)(p0:OA)(N K:Nat)(q:List HArc)(h:DG w G p0 N K q)(hK:K<=100000)(mask must node least:Int):
  Calls Tryz.prog 111 #[.pointer p0,Qi mask,Qi must,Qi node,Qi least] w (ZoM w (ZbY N (ZdZ N (ofA (bits .andNot .i64 mask must) q) (ofA (bits .and .i64 mask must) q) (bits .andNot .i64 mask must) (bits .and .i64 mask must) least node) 1)):=by
 have hN:=h.nodes_le;obtain⟨m1,fY⟩:∃m,bits .andNot .i64 mask must=m:=⟨_,rfl⟩;obtain⟨m2,cX⟩:∃m,bits .and .i64 mask must=m:=⟨_,rfl⟩;rw[fY,cX];obtain⟨p1,cV⟩:∃p,ofA m1 q=p:=⟨_,rfl⟩;obtain⟨p2,eE⟩:∃p,ofA m2 q=p:=⟨_,rfl⟩
 have oZ:∀x∈p1,0<=x.f∧x.f<(N:Int):=fun x hx=>by
  rw[<-cV]at hx;have:=(Z0 _ _).1 (h.right x (mem_ofA.1 hx).1);exact⟨this.1,this.2.1⟩
 have pR:∀x∈p2,0<=x.f∧x.f<(N:Int):=fun x hx=>by
  rw[<-eE]at hx;have:=(Z0 _ _).1 (h.right x (mem_ofA.1 hx).1);exact⟨this.1,this.2.1⟩
 obtain⟨wb,ah⟩:=Qe (w.alloc (.cells #[.pointer p0,Qi mask,Qi least] 209));have u0:Upd No w wb:=by rw[<-ah];exact(Gg No w).alloc _
 have bS:Blk wb w.heap.size 209 [.pointer p0,Qi mask,Qi least]:=by rw[<-ah];exact Gh w _ _
 have HG:=Qh (fun(W:Gy) (u:Upd No wb W)=>h.no (u0.trans u));have DN:=Qh (fun(W:Gy) (u:Upd No wb W) (i:Int)=>cV▸Zmq (h.no (u0.trans u)) i m1);have rS:=Qh (fun(W:Gy) (u:Upd No wb W) (i:Int)=>eE▸Zmq (h.no (u0.trans u)) i m2);have ALLS:=Qh (show∀W,Upd No wb W->Upd No wb W∧W.cell? ⟨w.heap.size,0,none⟩=some (.pointer p0)∧W.cell? ⟨w.heap.size,1,none⟩=some (Qi mask)∧W.cell? ⟨w.heap.size,2,none⟩=some (Qi least) from fun W u=>⟨u,(bS.upd u id).cell 0,(bS.upd u id).cell 1,(bS.upd u id).cell 2⟩);have pZ:=Qh oZ;have qC:=Qh pR
 have kv:=Qh (show p1.length<=100000∧p2.length<=100000 from by
  rw[<-cV,<-eE];have:=h.few;have a1:=E3 (fun x=>Zj m1 x.kind) q;have a2:=E3 (fun x=>Zj m2 x.kind) q;unfold ofA;omega)
 have U0:=Qh u0;have oP:=Qh (fun(W:Gy) (u:Upd No wb W)=>Zsx (h.no (u0.trans u)) mask least);rw[cV,eE];clear cV eE oZ pR h bS u0;have UB:=Qh ((Gg No wb).drew);go_enter Tryz.func111,Tryz.ntmps111
 go_upto_region 2 with fail
 go_cut [12] (fun s12 wx=>∃(ab g0 g1:Nat),s12= .pointer (some ⟨ab,0,none⟩)∧Blk wx ab 217 [.slice (some ⟨g0,0,none⟩) N N,.slice (some ⟨g1,0,none⟩) N N]∧Blk wx g0 3 ((List.replicate N (-1)).map (Value.int .i64))∧Blk wx g1 3 ((List.replicate N (-1)).map (Value.int .i64))∧
  (ab≠g0∧ab≠g1∧g0≠g1)∧(wb.heap.size<=ab∧wb.heap.size<=g0∧wb.heap.size<=g1)∧Upd No wb wx)
 case first=>
  refine wpS (fun W'=>Upd No wb W'∧W'.cell? ⟨w.heap.size,0,none⟩=some (.pointer p0)∧W'.cell? ⟨w.heap.size,1,none⟩=some (Qi mask)∧W'.cell? ⟨w.heap.size,2,none⟩=some (Qi least)) ?_ fun jH=>?_
  ·(first|(with_reducible exact ALLS.out _ UB.out)|(with_reducible exact ALLS.out _ (jH.1.trans hu4))|(with_reducible exact ALLS.out _ (jH.1.alloc _))|exact ALLS.out _ aY|exact ALLS.out _ (((Gg No wb).alloc _).drew))
  refine wpK 0 rfl ?_;refine wpK 2 rfl ?_;refine wpR [1,5] ?_;refine wpC rfl (fun K hK=>?_) ?_
  ·go_simp
   (first
   |(go_at_call 142;refine(oP.out _ jH.1).mono ?_;rintro e w4 ⟨g0,rfl,hb0,e7,hu4⟩;have b8:=Qh hb0;have ka:=Qh (Nat.le_trans jH.1.size e7);(try have L0:=Qh (Fe ZZ.out.lt e7));(try have ZZ:=Qh (ZZ.out.upd hu4 id));clear hb0 e7))
   try (go_wp2_with fail)
   refine hK.out _ _ ?_ fun jH=>?_
   ·(first|(with_reducible exact ALLS.out _ UB.out)|(with_reducible exact ALLS.out _ (jH.1.trans hu4))|(with_reducible exact ALLS.out _ (jH.1.alloc _))|exact ALLS.out _ aY|exact ALLS.out _ (((Gg No wb).alloc _).drew))
   try simp only[Qa]
   refine wpR [3,5] ?_;refine wpC rfl (fun K hK=>?_) ?_
   ·go_simp
    (first
    |(go_at_call 142;refine(oP.out _ jH.1).mono ?_;rintro e w4 ⟨g1,rfl,hb1,di,hu4⟩;have cR:=Qh hb1;have aU:=Qh (Nat.le_trans jH.1.size di);have M01:=Qh (Fe b8.out.lt di);have b8:=Qh (b8.out.upd hu4 id);(try have L1:=Qh (Fe ZZ.out.lt di));(try have ZZ:=Qh (ZZ.out.upd hu4 id));clear hb1 di))
    try (go_wp2_with fail)
    refine hK.out _ _ ?_ fun jH=>?_
    ·(first|(with_reducible exact ALLS.out _ UB.out)|(with_reducible exact ALLS.out _ (jH.1.trans hu4))|(with_reducible exact ALLS.out _ (jH.1.alloc _))|exact ALLS.out _ aY|exact ALLS.out _ (((Gg No wb).alloc _).drew))
    try simp only[Qa]
    refine wpK 4 rfl ?_;refine wpZ 5 rfl fun K hK=>?_;have ll:=Qh jH.1.size
    (try have M0:=Qh b8.out.lt)
    (try have M1:=Qh cR.out.lt)
    go_simp;refine hK.out _ _ ?_ fun jH=>?_
    ·(first|(with_reducible exact ALLS.out _ UB.out)|(with_reducible exact ALLS.out _ (jH.1.trans hu4))|(with_reducible exact ALLS.out _ (jH.1.alloc _))|exact ALLS.out _ aY|exact ALLS.out _ (((Gg No wb).alloc _).drew))
    try simp only[Qa]
    (first|have ZZ:=Qh (ZnE jH.1)|have ZZ:=Qh (Zle jH.1))
    (try have b8:=Qh (b8.out.upd (ZfA jH.1) id))
    (try have cR:=Qh (cR.out.upd (ZfA jH.1) id))
    refine wpZ 6 rfl fun K hK=>?_
    (first
    |(refine Zfb rfl rfl (cells:=[.slice (some ⟨g0,0,none⟩) N N,.slice (some ⟨g1,0,none⟩) N N]) rfl rfl ZZ.out (by kernel_rfl) rfl rfl ?_;intro w5 aS hu5;have aY:=jH.1.then_ hu5 (fun i e=>by unfold One at e;rw[e];exact .inr ll.out)))
    refine hK.out _ _ ?_ fun jH=>?_
    ·(first|(with_reducible exact ALLS.out _ UB.out)|(with_reducible exact ALLS.out _ (jH.1.trans hu4))|(with_reducible exact ALLS.out _ (jH.1.alloc _))|exact ALLS.out _ aY|exact ALLS.out _ (((Gg No wb).alloc _).drew))
    try simp only[Qa]
    refine wpD (Gd ?_);go_wp2_with fail;go_meet;refine⟨_,g0,g1,rfl,aS,?_,?_,⟨?_,?_,?_⟩,⟨ll.out,ka.out,aU.out⟩,jH.1⟩
    ·exact b8.out.upd hu5 (fun e=>by unfold One at e;(first|(have:=L0.out;omega)|(have:=M0.out;omega)))
    ·exact cR.out.upd hu5 (fun e=>by unfold One at e;(first|(have:=L1.out;omega)|(have:=M1.out;omega)))
    ·(first|(have:=L0.out;omega)|(have:=M0.out;omega))
    ·(first|(have:=L1.out;omega)|(have:=M1.out;omega))
    ·(have:=M01.out;omega)
   refine wpC rfl (fun K hK=>?_) AllReadyH.nil;have ll:=Qh jH.1.size
   (try have M0:=Qh b8.out.lt)
   (try have M1:=Qh cR.out.lt)
   go_simp;refine hK.out _ _ ?_ fun jH=>?_
   ·(first|(with_reducible exact ALLS.out _ UB.out)|(with_reducible exact ALLS.out _ (jH.1.trans hu4))|(with_reducible exact ALLS.out _ (jH.1.alloc _))|exact ALLS.out _ aY|exact ALLS.out _ (((Gg No wb).alloc _).drew))
   try simp only[Qa]
   (first|have ZZ:=Qh (ZnE jH.1)|have ZZ:=Qh (Zle jH.1))
   (try have b8:=Qh (b8.out.upd (ZfA jH.1) id))
   (try have cR:=Qh (cR.out.upd (ZfA jH.1) id))
   refine wpZ 3 rfl fun K hK=>?_;go_simp
   (first
   |(go_at_call 142;refine(oP.out _ jH.1).mono ?_;rintro e w4 ⟨g1,rfl,hb1,di,hu4⟩;have cR:=Qh hb1;have aU:=Qh (Nat.le_trans jH.1.size di);have M01:=Qh (Fe b8.out.lt di);have b8:=Qh (b8.out.upd hu4 id);(try have L1:=Qh (Fe ZZ.out.lt di));(try have ZZ:=Qh (ZZ.out.upd hu4 id));clear hb1 di))
   try (go_wp2_with fail)
   refine hK.out _ _ ?_ fun jH=>?_
   ·(first|(with_reducible exact ALLS.out _ UB.out)|(with_reducible exact ALLS.out _ (jH.1.trans hu4))|(with_reducible exact ALLS.out _ (jH.1.alloc _))|exact ALLS.out _ aY|exact ALLS.out _ (((Gg No wb).alloc _).drew))
   try simp only[Qa]
   refine wpK 4 rfl ?_;refine wpZ 6 rfl fun K hK=>?_
   (first
   |(refine Zfb rfl rfl (cells:=[.slice (some ⟨g0,0,none⟩) N N,.slice (some ⟨g1,0,none⟩) N N]) rfl rfl ZZ.out (by kernel_rfl) rfl rfl ?_;intro w5 aS hu5;have aY:=jH.1.then_ hu5 (fun i e=>by unfold One at e;rw[e];exact .inr ll.out)))
   refine hK.out _ _ ?_ fun jH=>?_
   ·(first|(with_reducible exact ALLS.out _ UB.out)|(with_reducible exact ALLS.out _ (jH.1.trans hu4))|(with_reducible exact ALLS.out _ (jH.1.alloc _))|exact ALLS.out _ aY|exact ALLS.out _ (((Gg No wb).alloc _).drew))
   try simp only[Qa]
   refine wpD (Gd ?_);go_wp2_with fail;go_meet;refine⟨_,g0,g1,rfl,aS,?_,?_,⟨?_,?_,?_⟩,⟨ll.out,ka.out,aU.out⟩,jH.1⟩
   ·exact b8.out.upd hu5 (fun e=>by unfold One at e;(first|(have:=L0.out;omega)|(have:=M0.out;omega)))
   ·exact cR.out.upd hu5 (fun e=>by unfold One at e;(first|(have:=L1.out;omega)|(have:=M1.out;omega)))
   ·(first|(have:=L0.out;omega)|(have:=M0.out;omega))
   ·(first|(have:=L1.out;omega)|(have:=M1.out;omega))
   ·(have:=M01.out;omega)
  refine wpC rfl (fun K hK=>?_) AllReadyH.nil;have ll:=Qh jH.1.size
  (try have M0:=Qh b8.out.lt)
  (try have M1:=Qh cR.out.lt)
  go_simp;refine hK.out _ _ ?_ fun jH=>?_
  ·(first|(with_reducible exact ALLS.out _ UB.out)|(with_reducible exact ALLS.out _ (jH.1.trans hu4))|(with_reducible exact ALLS.out _ (jH.1.alloc _))|exact ALLS.out _ aY|exact ALLS.out _ (((Gg No wb).alloc _).drew))
  try simp only[Qa]
  (first|have ZZ:=Qh (ZnE jH.1)|have ZZ:=Qh (Zle jH.1))
  (try have b8:=Qh (b8.out.upd (ZfA jH.1) id))
  (try have cR:=Qh (cR.out.upd (ZfA jH.1) id))
  refine wpZ 1 rfl fun K hK=>?_;go_simp
  (first
  |(go_at_call 142;refine(oP.out _ jH.1).mono ?_;rintro e w4 ⟨g0,rfl,hb0,e7,hu4⟩;have b8:=Qh hb0;have ka:=Qh (Nat.le_trans jH.1.size e7);(try have L0:=Qh (Fe ZZ.out.lt e7));(try have ZZ:=Qh (ZZ.out.upd hu4 id));clear hb0 e7))
  try (go_wp2_with fail)
  refine hK.out _ _ ?_ fun jH=>?_
  ·(first|(with_reducible exact ALLS.out _ UB.out)|(with_reducible exact ALLS.out _ (jH.1.trans hu4))|(with_reducible exact ALLS.out _ (jH.1.alloc _))|exact ALLS.out _ aY|exact ALLS.out _ (((Gg No wb).alloc _).drew))
  try simp only[Qa]
  refine wpZ 3 rfl fun K hK=>?_;go_simp
  (first
  |(go_at_call 142;refine(oP.out _ jH.1).mono ?_;rintro e w4 ⟨g1,rfl,hb1,di,hu4⟩;have cR:=Qh hb1;have aU:=Qh (Nat.le_trans jH.1.size di);have M01:=Qh (Fe b8.out.lt di);have b8:=Qh (b8.out.upd hu4 id);(try have L1:=Qh (Fe ZZ.out.lt di));(try have ZZ:=Qh (ZZ.out.upd hu4 id));clear hb1 di))
  try (go_wp2_with fail)
  refine hK.out _ _ ?_ fun jH=>?_
  ·(first|(with_reducible exact ALLS.out _ UB.out)|(with_reducible exact ALLS.out _ (jH.1.trans hu4))|(with_reducible exact ALLS.out _ (jH.1.alloc _))|exact ALLS.out _ aY|exact ALLS.out _ (((Gg No wb).alloc _).drew))
  try simp only[Qa]
  refine wpK 4 rfl ?_;refine wpZ 6 rfl fun K hK=>?_
  (first
  |(refine Zfb rfl rfl (cells:=[.slice (some ⟨g0,0,none⟩) N N,.slice (some ⟨g1,0,none⟩) N N]) rfl rfl ZZ.out (by kernel_rfl) rfl rfl ?_;intro w5 aS hu5;have aY:=jH.1.then_ hu5 (fun i e=>by unfold One at e;rw[e];exact .inr ll.out)))
  refine hK.out _ _ ?_ fun jH=>?_
  ·(first|(with_reducible exact ALLS.out _ UB.out)|(with_reducible exact ALLS.out _ (jH.1.trans hu4))|(with_reducible exact ALLS.out _ (jH.1.alloc _))|exact ALLS.out _ aY|exact ALLS.out _ (((Gg No wb).alloc _).drew))
  try simp only[Qa]
  refine wpD (Gd ?_);go_wp2_with fail;go_meet;refine⟨_,g0,g1,rfl,aS,?_,?_,⟨?_,?_,?_⟩,⟨ll.out,ka.out,aU.out⟩,jH.1⟩
  ·exact b8.out.upd hu5 (fun e=>by unfold One at e;(first|(have:=L0.out;omega)|(have:=M0.out;omega)))
  ·exact cR.out.upd hu5 (fun e=>by unfold One at e;(first|(have:=L1.out;omega)|(have:=M1.out;omega)))
  ·(first|(have:=L0.out;omega)|(have:=M0.out;omega))
  ·(first|(have:=L1.out;omega)|(have:=M1.out;omega))
  ·(have:=M01.out;omega)
 case rest=>
  obtain⟨ab,g0,g1,rfl,ha,hb0,hb1,hne,dd,hu1⟩:=hcut;have r8:=fun(W:Gy) (u:Upd No wc W)=>(ALLS.out W (hu1.trans u)).2
  have rD:=Qh r8;obtain⟨c0,c1,c2⟩:=r8 wc (Gg _ _);have a1:=ha.cell 1;simp only[Qz,Qs]at a1;clear r8
  cases hs:ZaF N least node
  ·have ag:=Qh (hs▸Zjh (HG.out wc hu1) mask least node);have HV:=Qh (show ZbY N (ZdZ N p1 p2 m1 m2 least node) 1=List.replicate N (-1) by unfold ZdZ;rw[hs];exact ZfQ N (-1) 1);go_wp2_with fail;refine Ck ag.out fun w2 hu2=>?_;have a1':=(ha.upd hu2 id).cell 1;simp only[Qz,Qs]at a1';go_wp2;go_ret;rw[HV.out];exact⟨g1,by simp,hb1.upd hu2 id,by have:=U0.out.size;omega,(U0.out.trans hu1).trans hu2⟩
  ·have ag:=Qh (hs▸Zjh (HG.out wc hu1) mask least node);have HV:=Qh (show ZdZ N p1 p2 m1 m2 least node=Zbw (Zn least) (ZC p1 p2 m1 m2) (2*N) (ZbA (node*2),[node*2]) by unfold ZdZ;rw[hs];rfl);unfold ZaF at hs;rw[Fp,Ff,Ff]at hs;obtain⟨nd,rfl⟩:∃nd:Nat,node=(nd:Int):=⟨node.toNat,by omega⟩;have cn:nd<N:=by omega
   have cF:least<=(nd:Int):=by omega
   clear hs;go_wp2_with fail;refine Ck ag.out fun w2 hu2=>?_;go_wp2_with fail;refine(Zhr (HG.out w2 (hu1.trans hu2))).mono ?_;rintro e w3 ⟨rfl,rfl⟩;have eB:ZcU ((2*N:Nat):Int)=((2*N:Nat):Int):=by unfold ZcU;omega
   have zY:IntKind.i64.wrap (2*(N:Int))=((2*N:Nat):Int):=by rw[show(2:Int)*(N:Int)=((2*N:Nat):Int) by omega];exact IntWalk.i64_in _ (by omega)
   have qc:=Qh (eB▸Zug w2 ((2*N:Nat):Int));go_wp2_with fail;refine(qc.out).mono ?_;rintro e w4 ⟨qg,rfl,BG,pe,hu4⟩;have je:=hu2.trans hu4;have l0:=(hb0.upd hu2 id).lt;have l1:=(hb1.upd hu2 id).lt;have la:=(ha.upd hu2 id).lt
   have jU:DQ2 wb ab g0 g1 qg N (fun _=> -1) [] none [] w4:=⟨One qg,fun _=>False,ha.upd je id,by rw[ZfQ];exact hb0.upd je id,by rw[ZfQ];exact hb1.upd je id,pe,
    ⟨fun e=>by unfold One at e;omega,fun e=>by unfold One at e;omega,fun e=>by unfold One at e;omega⟩,hne,fun i e=>by unfold One at e;have:=(hu1.trans hu2).size;omega,dd,hu1.trans je,Ints.nil_,fun _ e=>e.elim⟩
   have fr:=jU.free (k:=0) (by omega) nd;have cc:=jU.cell (k:=0) (by omega) cn;have ca:=jU.arr (k:=0) (by omega);have i1:(0:Int)<=(nd:Int):=by omega
   have i2:(nd:Int)<(N:Int):=by omega
   have HD:=Qh (show DQ2 wb ab g0 g1 qg N (ZbA ((nd:Int)*2)) [] none [] (w4.setCell ⟨gOf g0 g1 0,nd,none⟩ (Qi 0)) from by
    have:=jU.set_ (k:=0) (by omega) cn 0;rw[show(nd:Int)*2+((0:Nat):Int)=(nd:Int)*2 by omega]at this;exact this)
   have xa:IntKind.i64.wrap ((nd:Int)*2)=(nd:Int)*2:=IntWalk.i64_in _ (by omega);have lP:bits .or .i64 ((nd:Int)*2) 0=(nd:Int)*2:=by have:=ZiQ nd 0 (by omega) (by omega);simpa using this
   clear ha hb0 hb1 hne hu1 hu2 pe hu4 je jU ag qc a1 c0 c1 c2 l0 l1 la oP;generalize hgg0:gOf g0 g1 0=gz at*;go_wp2_with fail;refine(HD.out.push (by omega) (by simp;omega) ((nd:Int)*2)).mono ?_;rintro e w5 ⟨rfl,nc⟩;rw[Fy]at nc;have jP:(nd:Int)*2∈Ze (2*N):=mem_nodesZ.2 ⟨by omega,by omega⟩;have cO:∀v∈Ze (2*N),∀u∈ZC p1 p2 m1 m2 v,Zn least u=true->u∈Ze (2*N):=fun v _ u hu _=>Zh0 pZ.out qC.out v u hu
   have B0:=BInv.start (ok:=Zn least) (ps:=ZC p1 p2 m1 m2) jP (Zv (2*N));have B1:Hid (BInv (Zn least) (ZC p1 p2 m1 m2) (Ze (2*N)) ((nd:Int)*2) (ZbA ((nd:Int)*2)) [(nd:Int)*2]):=Qh B0;have HM:=Qh (show Zav (Ze (2*N)) (ZbA ((nd:Int)*2))+[(nd:Int)*2].length<=2*N by have:=B1.out.fit;unfold Fits at this;rw[Z7]at this;exact this);have fF:=Qh cO;clear HD B0 jP cO HG fr cc ca rD ALLS;go_wp2_with fail;refine(nc.popA).mono ?_;rintro e w6 ⟨x,b,qu,rfl,pH,hb6⟩;have fE:=Qh hb6;have ut:=Qh pH;clear nc hb6 pH;go_wp2
   go_loopg [14,15] (2*N) (fun gk sx sb wr=>∃(d:Int->Int) (pend qu:Gv) (x:Int) (b:Bool),sx= Qi x∧sb= .bool b∧Hid (if b=true then pend=x::qu else pend=[]∧qu=[])∧Hid (DQ2 wb ab g0 g1 qg N d qu none [] wr)∧
    Hid (BInv (Zn least) (ZC p1 p2 m1 m2) (Ze (2*N)) ((nd:Int)*2) d pend)∧Hid (Zbw (Zn least) (ZC p1 p2 m1 m2) gk (d,pend)=Zbw (Zn least) (ZC p1 p2 m1 m2) (2*N) (ZbA ((nd:Int)*2),[(nd:Int)*2]))∧Hid (Zav (Ze (2*N)) d+pend.length<=gk))
   case atStart=>exact⟨ZbA ((nd:Int)*2),[(nd:Int)*2],qu,x,b,rfl,rfl,fE,ut,B1,Qh rfl,HM⟩
   case round=>
    obtain⟨d,pend,qu,x,b,rfl,rfl,kS,hd,gy,aO,bh⟩:=hrel
    cases b
    ·have ia:pend=[]:=(show pend=[]∧qu=[] from by simpa using kS.out).1;have HR:=Qh (show d=ZdZ N p1 p2 m1 m2 least (nd:Int) by rw[HV.out,<-aO.out,ia,ZmA]);have ca1:=hd.out.arr (k:=1) (by omega);have hb:=hd.out.row1;have hu:=hd.out.upd;have hg:=hd.out.ge1;clear kS aO bh gy ia hd;go_wp2;go_ret;have:=U0.out.size;refine⟨g1,by simp[ZbY,Zcy,gOf],?_,by omega,U0.out.trans hu⟩;rw[<-HR.out];exact hb
    ·have ia:pend=x::qu:=by simpa using kS.out
     subst ia;have aE:=gy.out.pop;have aQ:=gy.out.q0 x Fc;have mh:=mem_nodesZ.1 (gy.out.dm x aQ);obtain⟨xi,rfl⟩:∃xi:Nat,x=(xi:Int):=⟨x.toNat,by omega⟩;obtain⟨ai,qo⟩:=Qe (xi/2);obtain⟨hh,ot⟩:=Qe (xi%2);have nB:ai<N:=by omega
     have bq:hh<=1:=by omega
     have e1:(xi:Int)/2=(ai:Int):=by omega
     have e2:bits .and .i64 (xi:Int) 1=(hh:Int):=by rw[ZtE];omega
     have e3:(xi:Int)%2=(hh:Int):=by omega
     have e4:(xi:Int)=(ai:Int)*2+(hh:Int):=by omega
     have jr:=bh.out;simp only[Fs]at jr;obtain⟨gg,rfl⟩:∃g1,gk=g1+1:=⟨gk-1,by omega⟩;have ag:=aO.out;rw[Zhb]at ag;obtain⟨u1,hu1⟩:∃us,nxA (ai:Int) true p1=us:=⟨_,rfl⟩;obtain⟨u2,hu2⟩:∃us,nxA (ai:Int) true p2=us:=⟨_,rfl⟩;have s8:ZC p1 p2 m1 m2 (xi:Int)=(u1.map fun u=>u*2+Zfh m1 m2 (hh:Int))++(u2.map fun u=>u*2+1):=by unfold ZC;rw[e1,e3,hu1,hu2]
     have nT:=Qh s8;have o9:=Qh (fun(W:Gy) (u:Upd No wb W)=>hu1▸DN.out W u (ai:Int));have uZ:=Qh (fun(W:Gy) (u:Upd No wb W)=>hu2▸rS.out W u (ai:Int));have co:u1.length<=p1.length:=by rw[<-hu1];exact Zh5 _ _ _
     have aN:u2.length<=p2.length:=by rw[<-hu2];exact Zh5 _ _ _
     have gD:=Qh (show u1.length<=100000∧u2.length<=100000 by have:=kv.out;omega);have px:=Qh (show∀u∈u1,0<=u∧u<(N:Int) from fun u hu=>mem_nodesZ.1 (Zc9 pZ.out (ai:Int) u (by unfold Zax;rw[hu1];exact hu)));have tZ:=Qh (show∀u∈u2,0<=u∧u<(N:Int) from fun u hu=>mem_nodesZ.1 (Zc9 qC.out (ai:Int) u (by unfold Zax;rw[hu2];exact hu)));rw[s8]at ag;have aD:=Qh ag;have pJ:=Qh aE;obtain⟨dx,qa⟩:∃v,d (xi:Int)=v:=⟨_,rfl⟩;rw[qa]at aD pJ;obtain⟨M,hM⟩:=Qe (Zav (Ze (2*N)) d+qu.length);have uR:=Qh (show M<=gg by omega);have oe:=Qh hM;have kz:=hd;have E4:=Qh e4;clear kS gy aO bh aE aQ mh jr ag hM qa hd e3 e4 s8 co aN qo ot hu1 hu2;obtain⟨nw,kr⟩:∃v,Zfh m1 m2 (hh:Int)=v:=⟨_,rfl⟩;rw[kr]at nT aD;obtain⟨L1,nG⟩:∃L,(u1.map fun u=>u*2+nw)=L:=⟨_,rfl⟩;obtain⟨L2,nC⟩:∃L,(u2.map fun u=>u*2+(1:Int))=L:=⟨_,rfl⟩;have xV:=Qh kr;have j8:=Qh nG;have l7:=Qh nC;rw[nG,nC]at aD;have sR:Hid (RInv (Zn least) (ZC p1 p2 m1 m2) (Ze (2*N)) ((nd:Int)*2) (xi:Int) dx (Zbm L1 L2 0) d qu):=Qh pJ.out;clear kr nG nC;go_wp2_with fail
     go_loopg [73] 2 (fun gm s wr=>∃(i:Nat) (iz:Int) (d':Int->Int) (qu':Gv),i+gm=2∧s= Qi iz∧iz=(i:Int)∧Hid (DQ2 wb ab g0 g1 qg N d' qu' none [] wr)∧Hid (RInv (Zn least) (ZC p1 p2 m1 m2) (Ze (2*N)) ((nd:Int)*2) (xi:Int) dx (Zbm L1 L2 i) d' qu')∧
      Hid (Zt (Zn least) dx (ZdU L1 L2 i) (d',qu')=Zt (Zn least) dx (L1++L2) (d,qu))∧Hid (Zav (Ze (2*N)) d'+qu'.length=M))
     case atStart=>exact⟨0,0,d,qu,by omega,rfl,rfl,kz,sR,Qh rfl,oe⟩
     case round=>
      obtain⟨i,iz,d',qu',ph,rfl,tR,hd,aE,aO,bh⟩:=hrel;have hi:i=0∨i=1∨i=2:=by omega
      have cD:=Zvz;have a7:=Zvy;generalize gk=gm at*;rcases hi with rfl|rfl|rfl
      ·have jk:iz=0:=by omega
       clear tR;subst jk
       by_cases hm:m1=m2
       ·have nW:nw=1:=by rw[<-xV.out];unfold Zfh;rw[if_pos hm]
        subst nW;have sL:(m1==m2)=true:=by simpa using hm
        clear hm;go_wp2_with fail;refine(o9.out wr hd.out.upd).mono ?_;rintro e w7 ⟨A7,c7,rfl,fm,hu7⟩;have kz:=Qh (hd.out.list_ hu7 fm);have jp:Hid (RInv (Zn least) (ZC p1 p2 m1 m2) (Ze (2*N)) ((nd:Int)*2) (xi:Int) dx ((Zbm L1 L2 0)++(u1.take 0).map fun u=>u*2+(1:Int)) d' qu'):=Qh (by have:=aE.out;simpa[Zbm]using this);have jx:Hid (Zt (Zn least) dx (((u1.drop 0).map fun u=>u*2+(1:Int))++L2) (d',qu')=Zt (Zn least) dx (L1++L2) (d,qu)):=Qh (by have:=aO.out;rw[List.drop_zero,j8.out];simpa[ZdU]using this);clear fm hu7 hd aE aO;go_wp2
        go_loopg [87] u1.length (fun gk i wr=>∃(j:Nat) (d':Int->Int) (qu':Gv),j+gk=u1.length∧i= Qi j∧Hid (DQ2 wb ab g0 g1 qg N d' qu' A7 u1 wr)∧Hid (RInv (Zn least) (ZC p1 p2 m1 m2) (Ze (2*N)) ((nd:Int)*2) (xi:Int) dx ((Zbm L1 L2 0)++(u1.take j).map fun u=>u*2+(1:Int)) d' qu')∧
         Hid (Zt (Zn least) dx (((u1.drop j).map fun u=>u*2+(1:Int))++L2) (d',qu')=Zt (Zn least) dx (L1++L2) (d,qu))∧Hid (Zav (Ze (2*N)) d'+qu'.length=M))
        case atStart=>exact⟨0,d',qu',by omega,rfl,kz,jp,jx,bh⟩
        case round=>
         obtain⟨j,d',qu',pP,rfl,hd,aE,aO,bh⟩:=hrel
         by_cases hlt:j<u1.length
         ·obtain⟨F2,hI⟩:=hd.out.sl;obtain⟨ad,rfl,_,_,hc⟩:=hI.at_ hlt;obtain⟨u,hu⟩:=Qe (u1[j]);rw[hu]at hc;have jL:=px.out u (hu▸Fr hlt);obtain⟨ui,rfl⟩:∃ui:Nat,u=(ui:Int):=⟨u.toNat,by omega⟩;have jN:ui<N:=by omega
          have bQ:(Zbm L1 L2 0)++((u1.take (j+1)).map fun u=>u*2+(1:Int))=((Zbm L1 L2 0)++(u1.take j).map fun u=>u*2+(1:Int))++[(ui:Int)*2+(1:Int)]:=by
           rw[Es hlt,hu];simp
          have ag:=aO.out;rw[show(((u1.drop j).map fun u=>u*2+(1:Int))++L2)=((ui:Int)*2+(1:Int))::(((u1.drop (j+1)).map fun u=>u*2+(1:Int))++L2) by rw[Ev hlt,hu];rfl,Zcm]at ag
          have fH:(ui:Int)*2+(1:Int)∈ZC p1 p2 m1 m2 (xi:Int):=by
           rw[nT.out];exact(fun u h=>E9 _ (Gc.2 ⟨u,h,rfl⟩)) (ui:Int) (hu▸Fr hlt)
          have b1:(0:Int)<=(j:Int):=Qn _;have b2:(j:Int)<(u1.length:Int):=by omega
          have b7:u1.length<=100000:=gD.out.1;have b3:(0:Int)<=(ui:Int):=Qn _;have b4:(ui:Int)<(N:Int):=by omega
          have b5:(0:Int)<=(1:Int):=by omega
          have b6:(1:Int)<2:=by omega
          have cu:wr.cell? ⟨gOf g0 g1 1,ui,none⟩=some (Qi (d' ((ui:Int)*2+(1:Int)))):=by simpa using hd.out.cell (k:=1) (by omega) jN
          have ca1:=hd.out.arr (k:=1) (by omega);have dt:((ui:Int)*2+(1:Int))/2=(ui:Int):=by omega
          clear hu jL hI
          by_cases hl:least<=(ui:Int)
          ·by_cases hneg:d' ((ui:Int)*2+(1:Int))<0
           ·have aC:(Zn least ((ui:Int)*2+(1:Int))&&decide (d' ((ui:Int)*2+(1:Int))<0))=true:=by unfold Zn;rw[dt,Qt hl,Qt hneg];rfl
            rw[if_pos aC]at ag;have cx:=hd.out.cell (k:=hh) bq nB;rw[<-E4.out,aE.out.dxe]at cx;have ch:=hd.out.arr (k:=hh) bq;have gG:(ui:Int)*2+(1:Int)∈Ze (2*N):=mem_nodesZ.2 ⟨by omega,by omega⟩;have cd:=aE.out.push (Zv (2*N)) fF.out fH aC;rw[<-bQ]at cd;have aR:=aE.out.fit.push (Zv (2*N)) gG hneg (v:=dx+1) (by have:=aE.out.dxp;omega);rw[Z7]at aR;have io:=Zcb (v:=dx+1) (Zv (2*N)) gG hneg (by have:=aE.out.dxp;omega);have iZ:=Qh (show Zav (Ze (2*N)) (ZaC d' ((ui:Int)*2+(1:Int)) (dx+1))+(qu'++[(ui:Int)*2+(1:Int)]).length=M by rw[Fb,Ez,<-bh.out];omega)
            have nD:dx<=10000:=by
             have:=aE.out.cap (xi:Int);rw[Z7,aE.out.dxe]at this;omega
            have kC:=aE.out.dxp;have hw:IntKind.i64.wrap (dx+1)=dx+1:=IntWalk.i64_in _ (by omega);have cH:IntKind.i64.wrap ((ui:Int)*2)=(ui:Int)*2:=IntWalk.i64_in _ (by omega);have rf:bits .or .i64 ((ui:Int)*2) (1:Int)=(ui:Int)*2+(1:Int):=by have:=ZiQ ui 1 (by omega) (by omega);simpa using this
            have fu:=hd.out.free (k:=1) (by omega) ui;have iF:Hid (DQ2 wb ab g0 g1 qg N (ZaC d' ((ui:Int)*2+(1:Int)) (dx+1)) qu' (some ad) u1 (wr.setCell ⟨gOf g0 g1 1,ui,none⟩ (Qi (dx+1)))):=Qh (by simpa using hd.out.set_ (k:=1) (by omega) jN (dx+1));have aP:=Qh cd;have aZ:=Qh ag;have kq:=Qh aR.2;clear ag aE cd aR io bh aO aC hd fH bQ gG;go_wp2;go_region;go_wp2_with fail;refine Ck ((iF.out.no ((Gg No _).drewN 1)).push (by omega) kq.out ((ui:Int)*2+(1:Int))) fun w9 hd9=>?_;go_wp2;go_roundg (gk-1);exact⟨j+1,_,_,by omega,by go_num,Qh hd9,aP,aZ,iZ⟩;omega
           ·have aC:¬(Zn least ((ui:Int)*2+(1:Int))&&decide (d' ((ui:Int)*2+(1:Int))<0))=true:=by rw[Qf hneg];simp
            rw[if_neg aC]at ag;have aP:=Qh (bQ▸aE.out.skip aC);have aZ:=Qh ag;clear ag aE aO aC fH bQ;go_wp2;go_roundg (gk-1);exact⟨j+1,d',qu',by omega,by go_num,hd,aP,aZ,bh⟩;omega
          ·have aC:¬(Zn least ((ui:Int)*2+(1:Int))&&decide (d' ((ui:Int)*2+(1:Int))<0))=true:=by unfold Zn;rw[dt,Qf hl];simp
           rw[if_neg aC]at ag;have aP:=Qh (bQ▸aE.out.skip aC);have aZ:=Qh ag;clear ag aE aO aC fH bQ;go_wp2;go_roundg (gk-1);exact⟨j+1,d',qu',by omega,by go_num,hd,aP,aZ,bh⟩;omega
         ·obtain rfl:j=u1.length:=by omega
          have ag:=aO.out;rw[Fq]at ag;have ag:Zt (Zn least) dx L2 (d',qu')=Zt (Zn least) dx (L1++L2) (d,qu):=ag;have ce:=aE.out;rw[Fj,j8.out]at ce;have aP:Hid (RInv (Zn least) (ZC p1 p2 m1 m2) (Ze (2*N)) ((nd:Int)*2) (xi:Int) dx (Zbm L1 L2 1) d' qu'):=Qh (by simpa[Zbm]using ce);have aZ:Hid (Zt (Zn least) dx (ZdU L1 L2 1) (d',qu')=Zt (Zn least) dx (L1++L2) (d,qu)):=Qh (by simpa[ZdU]using ag);have kZ:=Qh hd.out.bare;clear ag ce aE aO hd;go_wp2;go_roundg (gm-1);exact⟨1,1,d',qu',by omega,by first|rfl|go_num,by omega,kZ,aP,aZ,bh⟩;omega
       ·have nW:nw=(hh:Int):=by rw[<-xV.out];unfold Zfh;rw[if_neg hm]
        subst nW;have sL:(m1==m2)=false:=by simpa using hm
        clear hm;go_wp2_with fail;refine(o9.out wr hd.out.upd).mono ?_;rintro e w7 ⟨A7,c7,rfl,fm,hu7⟩;have kz:=Qh (hd.out.list_ hu7 fm);have jp:Hid (RInv (Zn least) (ZC p1 p2 m1 m2) (Ze (2*N)) ((nd:Int)*2) (xi:Int) dx ((Zbm L1 L2 0)++(u1.take 0).map fun u=>u*2+(hh:Int)) d' qu'):=Qh (by have:=aE.out;simpa[Zbm]using this);have jx:Hid (Zt (Zn least) dx (((u1.drop 0).map fun u=>u*2+(hh:Int))++L2) (d',qu')=Zt (Zn least) dx (L1++L2) (d,qu)):=Qh (by have:=aO.out;rw[List.drop_zero,j8.out];simpa[ZdU]using this);clear fm hu7 hd aE aO;go_wp2
        go_loopg [87] u1.length (fun gk i wr=>∃(j:Nat) (d':Int->Int) (qu':Gv),j+gk=u1.length∧i= Qi j∧Hid (DQ2 wb ab g0 g1 qg N d' qu' A7 u1 wr)∧Hid (RInv (Zn least) (ZC p1 p2 m1 m2) (Ze (2*N)) ((nd:Int)*2) (xi:Int) dx ((Zbm L1 L2 0)++(u1.take j).map fun u=>u*2+(hh:Int)) d' qu')∧
         Hid (Zt (Zn least) dx (((u1.drop j).map fun u=>u*2+(hh:Int))++L2) (d',qu')=Zt (Zn least) dx (L1++L2) (d,qu))∧Hid (Zav (Ze (2*N)) d'+qu'.length=M))
        case atStart=>exact⟨0,d',qu',by omega,rfl,kz,jp,jx,bh⟩
        case round=>
         obtain⟨j,d',qu',pP,rfl,hd,aE,aO,bh⟩:=hrel
         by_cases hlt:j<u1.length
         ·obtain⟨F2,hI⟩:=hd.out.sl;obtain⟨ad,rfl,_,_,hc⟩:=hI.at_ hlt;obtain⟨u,hu⟩:=Qe (u1[j]);rw[hu]at hc;have jL:=px.out u (hu▸Fr hlt);obtain⟨ui,rfl⟩:∃ui:Nat,u=(ui:Int):=⟨u.toNat,by omega⟩;have jN:ui<N:=by omega
          have bQ:(Zbm L1 L2 0)++((u1.take (j+1)).map fun u=>u*2+(hh:Int))=((Zbm L1 L2 0)++(u1.take j).map fun u=>u*2+(hh:Int))++[(ui:Int)*2+(hh:Int)]:=by
           rw[Es hlt,hu];simp
          have ag:=aO.out;rw[show(((u1.drop j).map fun u=>u*2+(hh:Int))++L2)=((ui:Int)*2+(hh:Int))::(((u1.drop (j+1)).map fun u=>u*2+(hh:Int))++L2) by rw[Ev hlt,hu];rfl,Zcm]at ag
          have fH:(ui:Int)*2+(hh:Int)∈ZC p1 p2 m1 m2 (xi:Int):=by
           rw[nT.out];exact(fun u h=>E9 _ (Gc.2 ⟨u,h,rfl⟩)) (ui:Int) (hu▸Fr hlt)
          have b1:(0:Int)<=(j:Int):=Qn _;have b2:(j:Int)<(u1.length:Int):=by omega
          have b7:u1.length<=100000:=gD.out.1;have b3:(0:Int)<=(ui:Int):=Qn _;have b4:(ui:Int)<(N:Int):=by omega
          have b5:(0:Int)<=(hh:Int):=by omega
          have b6:(hh:Int)<2:=by omega
          have cu:wr.cell? ⟨gOf g0 g1 hh,ui,none⟩=some (Qi (d' ((ui:Int)*2+(hh:Int)))):=by simpa using hd.out.cell (k:=hh) (by omega) jN
          have ca1:=hd.out.arr (k:=hh) (by omega);have dt:((ui:Int)*2+(hh:Int))/2=(ui:Int):=by omega
          clear hu jL hI
          by_cases hl:least<=(ui:Int)
          ·by_cases hneg:d' ((ui:Int)*2+(hh:Int))<0
           ·have aC:(Zn least ((ui:Int)*2+(hh:Int))&&decide (d' ((ui:Int)*2+(hh:Int))<0))=true:=by unfold Zn;rw[dt,Qt hl,Qt hneg];rfl
            rw[if_pos aC]at ag;have cx:=hd.out.cell (k:=hh) bq nB;rw[<-E4.out,aE.out.dxe]at cx;have ch:=hd.out.arr (k:=hh) bq;have gG:(ui:Int)*2+(hh:Int)∈Ze (2*N):=mem_nodesZ.2 ⟨by omega,by omega⟩;have cd:=aE.out.push (Zv (2*N)) fF.out fH aC;rw[<-bQ]at cd;have aR:=aE.out.fit.push (Zv (2*N)) gG hneg (v:=dx+1) (by have:=aE.out.dxp;omega);rw[Z7]at aR;have io:=Zcb (v:=dx+1) (Zv (2*N)) gG hneg (by have:=aE.out.dxp;omega);have iZ:=Qh (show Zav (Ze (2*N)) (ZaC d' ((ui:Int)*2+(hh:Int)) (dx+1))+(qu'++[(ui:Int)*2+(hh:Int)]).length=M by rw[Fb,Ez,<-bh.out];omega)
            have nD:dx<=10000:=by
             have:=aE.out.cap (xi:Int);rw[Z7,aE.out.dxe]at this;omega
            have kC:=aE.out.dxp;have hw:IntKind.i64.wrap (dx+1)=dx+1:=IntWalk.i64_in _ (by omega);have cH:IntKind.i64.wrap ((ui:Int)*2)=(ui:Int)*2:=IntWalk.i64_in _ (by omega);have rf:bits .or .i64 ((ui:Int)*2) (hh:Int)=(ui:Int)*2+(hh:Int):=by have:=ZiQ ui hh (by omega) (by omega);simpa using this
            have fu:=hd.out.free (k:=hh) (by omega) ui;have iF:Hid (DQ2 wb ab g0 g1 qg N (ZaC d' ((ui:Int)*2+(hh:Int)) (dx+1)) qu' (some ad) u1 (wr.setCell ⟨gOf g0 g1 hh,ui,none⟩ (Qi (dx+1)))):=Qh (by simpa using hd.out.set_ (k:=hh) (by omega) jN (dx+1));have aP:=Qh cd;have aZ:=Qh ag;have kq:=Qh aR.2;clear ag aE cd aR io bh aO aC hd fH bQ gG;go_wp2;go_region;go_wp2_with fail;refine Ck ((iF.out.no ((Gg No _).drewN 1)).push (by omega) kq.out ((ui:Int)*2+(hh:Int))) fun w9 hd9=>?_;go_wp2;go_roundg (gk-1);exact⟨j+1,_,_,by omega,by go_num,Qh hd9,aP,aZ,iZ⟩;omega
           ·have aC:¬(Zn least ((ui:Int)*2+(hh:Int))&&decide (d' ((ui:Int)*2+(hh:Int))<0))=true:=by rw[Qf hneg];simp
            rw[if_neg aC]at ag;have aP:=Qh (bQ▸aE.out.skip aC);have aZ:=Qh ag;clear ag aE aO aC fH bQ;go_wp2;go_roundg (gk-1);exact⟨j+1,d',qu',by omega,by go_num,hd,aP,aZ,bh⟩;omega
          ·have aC:¬(Zn least ((ui:Int)*2+(hh:Int))&&decide (d' ((ui:Int)*2+(hh:Int))<0))=true:=by unfold Zn;rw[dt,Qf hl];simp
           rw[if_neg aC]at ag;have aP:=Qh (bQ▸aE.out.skip aC);have aZ:=Qh ag;clear ag aE aO aC fH bQ;go_wp2;go_roundg (gk-1);exact⟨j+1,d',qu',by omega,by go_num,hd,aP,aZ,bh⟩;omega
         ·obtain rfl:j=u1.length:=by omega
          have ag:=aO.out;rw[Fq]at ag;have ag:Zt (Zn least) dx L2 (d',qu')=Zt (Zn least) dx (L1++L2) (d,qu):=ag;have ce:=aE.out;rw[Fj,j8.out]at ce;have aP:Hid (RInv (Zn least) (ZC p1 p2 m1 m2) (Ze (2*N)) ((nd:Int)*2) (xi:Int) dx (Zbm L1 L2 1) d' qu'):=Qh (by simpa[Zbm]using ce);have aZ:Hid (Zt (Zn least) dx (ZdU L1 L2 1) (d',qu')=Zt (Zn least) dx (L1++L2) (d,qu)):=Qh (by simpa[ZdU]using ag);have kZ:=Qh hd.out.bare;clear ag ce aE aO hd;go_wp2;go_roundg (gm-1);exact⟨1,1,d',qu',by omega,by first|rfl|go_num,by omega,kZ,aP,aZ,bh⟩;omega
      ·have jk:iz=1:=by omega
       clear tR;subst jk;go_wp2_with fail;refine(uZ.out wr hd.out.upd).mono ?_;rintro e w7 ⟨A7,c7,rfl,fm,hu7⟩;have kz:=Qh (hd.out.list_ hu7 fm);have jp:Hid (RInv (Zn least) (ZC p1 p2 m1 m2) (Ze (2*N)) ((nd:Int)*2) (xi:Int) dx ((Zbm L1 L2 1)++(u2.take 0).map fun u=>u*2+(1:Int)) d' qu'):=Qh (by have:=aE.out;simpa[Zbm]using this);have jx:Hid (Zt (Zn least) dx (((u2.drop 0).map fun u=>u*2+(1:Int))++[]) (d',qu')=Zt (Zn least) dx (L1++L2) (d,qu)):=Qh (by have:=aO.out;rw[List.drop_zero,l7.out];simpa[ZdU]using this);clear fm hu7 hd aE aO;go_wp2
       go_loopg [87] u2.length (fun gk i wr=>∃(j:Nat) (d':Int->Int) (qu':Gv),j+gk=u2.length∧i= Qi j∧Hid (DQ2 wb ab g0 g1 qg N d' qu' A7 u2 wr)∧Hid (RInv (Zn least) (ZC p1 p2 m1 m2) (Ze (2*N)) ((nd:Int)*2) (xi:Int) dx ((Zbm L1 L2 1)++(u2.take j).map fun u=>u*2+(1:Int)) d' qu')∧
        Hid (Zt (Zn least) dx (((u2.drop j).map fun u=>u*2+(1:Int))++[]) (d',qu')=Zt (Zn least) dx (L1++L2) (d,qu))∧Hid (Zav (Ze (2*N)) d'+qu'.length=M))
       case atStart=>exact⟨0,d',qu',by omega,rfl,kz,jp,jx,bh⟩
       case round=>
        obtain⟨j,d',qu',pP,rfl,hd,aE,aO,bh⟩:=hrel
        by_cases hlt:j<u2.length
        ·obtain⟨F2,hI⟩:=hd.out.sl;obtain⟨ad,rfl,_,_,hc⟩:=hI.at_ hlt;obtain⟨u,hu⟩:=Qe (u2[j]);rw[hu]at hc;have jL:=tZ.out u (hu▸Fr hlt);obtain⟨ui,rfl⟩:∃ui:Nat,u=(ui:Int):=⟨u.toNat,by omega⟩;have jN:ui<N:=by omega
         have bQ:(Zbm L1 L2 1)++((u2.take (j+1)).map fun u=>u*2+(1:Int))=((Zbm L1 L2 1)++(u2.take j).map fun u=>u*2+(1:Int))++[(ui:Int)*2+(1:Int)]:=by
          rw[Es hlt,hu];simp
         have ag:=aO.out;rw[show(((u2.drop j).map fun u=>u*2+(1:Int))++[])=((ui:Int)*2+(1:Int))::(((u2.drop (j+1)).map fun u=>u*2+(1:Int))++[]) by rw[Ev hlt,hu];rfl,Zcm]at ag
         have fH:(ui:Int)*2+(1:Int)∈ZC p1 p2 m1 m2 (xi:Int):=by
          rw[nT.out];exact(fun u h=>Ey _ (Gc.2 ⟨u,h,rfl⟩)) (ui:Int) (hu▸Fr hlt)
         have b1:(0:Int)<=(j:Int):=Qn _;have b2:(j:Int)<(u2.length:Int):=by omega
         have b7:u2.length<=100000:=gD.out.2;have b3:(0:Int)<=(ui:Int):=Qn _;have b4:(ui:Int)<(N:Int):=by omega
         have b5:(0:Int)<=(1:Int):=by omega
         have b6:(1:Int)<2:=by omega
         have cu:wr.cell? ⟨gOf g0 g1 1,ui,none⟩=some (Qi (d' ((ui:Int)*2+(1:Int)))):=by simpa using hd.out.cell (k:=1) (by omega) jN
         have ca1:=hd.out.arr (k:=1) (by omega);have dt:((ui:Int)*2+(1:Int))/2=(ui:Int):=by omega
         clear hu jL hI
         by_cases hl:least<=(ui:Int)
         ·by_cases hneg:d' ((ui:Int)*2+(1:Int))<0
          ·have aC:(Zn least ((ui:Int)*2+(1:Int))&&decide (d' ((ui:Int)*2+(1:Int))<0))=true:=by unfold Zn;rw[dt,Qt hl,Qt hneg];rfl
           rw[if_pos aC]at ag;have cx:=hd.out.cell (k:=hh) bq nB;rw[<-E4.out,aE.out.dxe]at cx;have ch:=hd.out.arr (k:=hh) bq;have gG:(ui:Int)*2+(1:Int)∈Ze (2*N):=mem_nodesZ.2 ⟨by omega,by omega⟩;have cd:=aE.out.push (Zv (2*N)) fF.out fH aC;rw[<-bQ]at cd;have aR:=aE.out.fit.push (Zv (2*N)) gG hneg (v:=dx+1) (by have:=aE.out.dxp;omega);rw[Z7]at aR;have io:=Zcb (v:=dx+1) (Zv (2*N)) gG hneg (by have:=aE.out.dxp;omega);have iZ:=Qh (show Zav (Ze (2*N)) (ZaC d' ((ui:Int)*2+(1:Int)) (dx+1))+(qu'++[(ui:Int)*2+(1:Int)]).length=M by rw[Fb,Ez,<-bh.out];omega)
           have nD:dx<=10000:=by
            have:=aE.out.cap (xi:Int);rw[Z7,aE.out.dxe]at this;omega
           have kC:=aE.out.dxp;have hw:IntKind.i64.wrap (dx+1)=dx+1:=IntWalk.i64_in _ (by omega);have cH:IntKind.i64.wrap ((ui:Int)*2)=(ui:Int)*2:=IntWalk.i64_in _ (by omega);have rf:bits .or .i64 ((ui:Int)*2) (1:Int)=(ui:Int)*2+(1:Int):=by have:=ZiQ ui 1 (by omega) (by omega);simpa using this
           have fu:=hd.out.free (k:=1) (by omega) ui;have iF:Hid (DQ2 wb ab g0 g1 qg N (ZaC d' ((ui:Int)*2+(1:Int)) (dx+1)) qu' (some ad) u2 (wr.setCell ⟨gOf g0 g1 1,ui,none⟩ (Qi (dx+1)))):=Qh (by simpa using hd.out.set_ (k:=1) (by omega) jN (dx+1));have aP:=Qh cd;have aZ:=Qh ag;have kq:=Qh aR.2;clear ag aE cd aR io bh aO aC hd fH bQ gG;go_wp2;go_region;go_wp2_with fail;refine Ck ((iF.out.no ((Gg No _).drewN 1)).push (by omega) kq.out ((ui:Int)*2+(1:Int))) fun w9 hd9=>?_;go_wp2;go_roundg (gk-1);exact⟨j+1,_,_,by omega,by go_num,Qh hd9,aP,aZ,iZ⟩;omega
          ·have aC:¬(Zn least ((ui:Int)*2+(1:Int))&&decide (d' ((ui:Int)*2+(1:Int))<0))=true:=by rw[Qf hneg];simp
           rw[if_neg aC]at ag;have aP:=Qh (bQ▸aE.out.skip aC);have aZ:=Qh ag;clear ag aE aO aC fH bQ;go_wp2;go_roundg (gk-1);exact⟨j+1,d',qu',by omega,by go_num,hd,aP,aZ,bh⟩;omega
         ·have aC:¬(Zn least ((ui:Int)*2+(1:Int))&&decide (d' ((ui:Int)*2+(1:Int))<0))=true:=by unfold Zn;rw[dt,Qf hl];simp
          rw[if_neg aC]at ag;have aP:=Qh (bQ▸aE.out.skip aC);have aZ:=Qh ag;clear ag aE aO aC fH bQ;go_wp2;go_roundg (gk-1);exact⟨j+1,d',qu',by omega,by go_num,hd,aP,aZ,bh⟩;omega
        ·obtain rfl:j=u2.length:=by omega
         have ag:=aO.out;rw[Fq]at ag;have ag:Zt (Zn least) dx [] (d',qu')=Zt (Zn least) dx (L1++L2) (d,qu):=ag;have ce:=aE.out;rw[Fj,l7.out]at ce;have aP:Hid (RInv (Zn least) (ZC p1 p2 m1 m2) (Ze (2*N)) ((nd:Int)*2) (xi:Int) dx (Zbm L1 L2 2) d' qu'):=Qh (by simpa[Zbm]using ce);have aZ:Hid (Zt (Zn least) dx (ZdU L1 L2 2) (d',qu')=Zt (Zn least) dx (L1++L2) (d,qu)):=Qh (by simpa[ZdU]using ag);have kZ:=Qh hd.out.bare;clear ag ce aE aO hd;go_wp2;go_roundg (gm-1);exact⟨2,2,d',qu',by omega,by first|rfl|go_num,by omega,kZ,aP,aZ,bh⟩;omega
      ·have jk:iz=2:=by omega
       clear tR;subst jk;have ce:=aE.out;have cd:RInv (Zn least) (ZC p1 p2 m1 m2) (Ze (2*N)) ((nd:Int)*2) (xi:Int) dx (ZC p1 p2 m1 m2 (xi:Int)) d' qu':=by rw[nT.out,j8.out,l7.out];exact ce
       have wN:=Qh cd.done;have ag:(d',qu')=Zt (Zn least) dx (L1++L2) (d,qu):=aO.out;have HE:=Qh (show Zbw (Zn least) (ZC p1 p2 m1 m2) gg (d',qu')=Zbw (Zn least) (ZC p1 p2 m1 m2) (2*N) (ZbA ((nd:Int)*2),[(nd:Int)*2]) by rw[ag];exact aD.out);have iZ:=Qh (show Zav (Ze (2*N)) d'+qu'.length<=gg by rw[bh.out];exact uR.out);have kZ:=Qh hd.out.bare;clear ag ce cd aE aO bh hd;go_wp2_with fail;refine(kZ.out.popA).mono ?_;rintro e w8 ⟨x2,b2,qu2,rfl,qt,ru⟩;have vJ:=Qh qt;have tS:=Qh ru;clear qt ru;go_wp2;go_roundg gg;exact⟨d',qu',qu2,x2,b2,rfl,rfl,tS,vJ,wN,HE,iZ⟩;omega
/- Closed walks:what is left Za7 an arc. -/
structure LoopI (w:World) (A B:OA) (N:Nat) (da dw:Int->Int):Prop where
 a:Ints (fun _=>True) w A (ZaR N da)
 b:Ints (fun _=>True) w B (ZaR N dw)
theorem LoopI.upd{w w':Gy}{A B:OA}{N:Nat}{da dw:Int->Int}(h:LoopI w A B N da dw)(hu:Upd No w w'):LoopI w' A B N da dw:=⟨h.a.upd hu Qo,h.b.upd hu Qo⟩
theorem Zdc(x:Int):(bits .and .i64 x 1==0)= !decide (x%2=1):=by
 have h:=Zhw x 1 (by omega);rw[Nat.and_one_is_mod]at h;have h':bits .and .i64 x 1=(((x%18446744073709551616).toNat%2:Nat):Int):=h;rw[h',Bool.eq_iff_iff,beq_iff_eq,Bool.not_eq_true',decide_eq_false_iff_not];omega
theorem ZsB(w:Gy)(p0 A B:OA)(N:Nat)(mask must:Int)(da dw:Int->Int)(h:LoopI w A B N da dw)(a:HArc)(hk1:1<=a.kind)(hk2:a.kind<=3)(jT:0<=a.t)(jc:a.t<(N:Int))(need:Bool):
  CN 113 #[.agg #[.pointer p0,Qi mask,Qi must,.slice A N N,.slice B N N],.agg a.cells.toArray,.bool need] w (Qi (ZT must da dw need a)):=by
 obtain⟨af,at',ak,al⟩:=a;simp only at hk1 hk2 jT jc;obtain⟨t,rfl⟩:∃t:Nat,at'=(t:Int):=⟨at'.toNat,by omega⟩;have ht:t<N:=by omega
 have hk:ak=1∨ak=2∨ak=3:=by omega
 obtain⟨wb,ah⟩:=Qe ((w.alloc (.cells #[.pointer p0,Qi mask,Qi must,.slice A N N,.slice B N N] 127)).alloc (.cells #[Qi af,Qi (t:Int),Qi ak,Qi al] 132));have u0:Upd No w wb:=by rw[<-ah];exact((Gg No w).alloc _).alloc _
 obtain⟨aa,rfl,_,_,ca⟩:=(h.upd u0).a.at_ (k:=t) (by rw[Zcy];exact ht);obtain⟨ab,rfl,_,_,cb⟩:=(h.upd u0).b.at_ (k:=t) (by rw[Zcy];exact ht);have ea:(ZaR N da)[t]'(by rw[Zcy];exact ht)=da t:=by have:=Zfr da ht;rw[List.getElem?_eq_some_iff]at this;exact this.2
 have eb:(ZaR N dw)[t]'(by rw[Zcy];exact ht)=dw t:=by have:=Zfr dw ht;rw[List.getElem?_eq_some_iff]at this;exact this.2
 rw[ea]at ca;rw[eb]at cb;have i1:(0:Int)<=(t:Int):=Qn _;rw[<-ah]at ca cb;have U0:=Qh u0;subst ah;unfold HArc.cells;clear h u0 ea eb hk1 hk2 jT;rcases hk with rfl|rfl|rfl
 ·have hb:=Zdc (must/2);rw[show decide ((must/2)%2=1)=Zj must 1 from rfl]at hb;have hv:Hid (ZT must da dw need ⟨af,t,1,al⟩=if (need&& !Zj must 1)=true then dw t else da t):=Qh rfl
  cases hbm:Zj must 1
  all_goals
   rw[hbm]at hb hv;have ly:=hv.out
   first|rw[Bool.not_false]at hb|rw[Bool.not_true]at hb
   cases need
   all_goals
    have HV:=Qh ly;clear hv ly hbm;go_enter Tryz.func113,Tryz.ntmps113;go_wp2;go_ret;exact⟨by rw[HV.out];rfl,U0.out⟩
 ·have hb:=Zdc (must/4);rw[show decide ((must/4)%2=1)=Zj must 2 from rfl]at hb;have hv:Hid (ZT must da dw need ⟨af,t,2,al⟩=if (need&& !Zj must 2)=true then dw t else da t):=Qh rfl
  cases hbm:Zj must 2
  all_goals
   rw[hbm]at hb hv;have ly:=hv.out
   first|rw[Bool.not_false]at hb|rw[Bool.not_true]at hb
   cases need
   all_goals
    have HV:=Qh ly;clear hv ly hbm;go_enter Tryz.func113,Tryz.ntmps113;go_wp2;go_ret;exact⟨by rw[HV.out];rfl,U0.out⟩
 ·have hb:=Zdc (must/8);rw[show decide ((must/8)%2=1)=Zj must 3 from rfl]at hb;have hv:Hid (ZT must da dw need ⟨af,t,3,al⟩=if (need&& !Zj must 3)=true then dw t else da t):=Qh rfl
  cases hbm:Zj must 3
  all_goals
   rw[hbm]at hb hv;have ly:=hv.out
   first|rw[Bool.not_false]at hb|rw[Bool.not_true]at hb
   cases need
   all_goals
    have HV:=Qh ly;clear hv ly hbm;go_enter Tryz.func113,Tryz.ntmps113;go_wp2;go_ret;exact⟨by rw[HV.out];rfl,U0.out⟩
/- Closed walks:the rows at a node. -/
def Zag(N:Nat)(q:List HArc)(mask i:Int):Int->Int:=Zch N (ofA mask q) i i
theorem Zpg(N:Nat)(q:List HArc)(mask must i:Int):ZbY N (ZdZ N (ofA (bits .andNot .i64 mask must) q) (ofA (bits .and .i64 mask must) q) (bits .andNot .i64 mask must) (bits .and .i64 mask must) i i) 1=ZaR N (Zy N q mask must i):=rfl
theorem Zg9{w:Gy}{g:Nat}{xs:Gv}(h:Blk w g 3 (xs.map (Value.int .i64))):Ints (fun i=>i=g) w (some ⟨g,0,none⟩) xs:=
 Ints.of_row h rfl fun j v hj=>by rw[List.getElem?_toArray,List.getElem?_map,hj];rfl
theorem Zww(w:Gy)(G:Gt)(p0:OA)(N K:Nat)(q:List HArc)(h:DG w G p0 N K q)(hK:K<=100000)(mask must i:Int):
  Calls Tryz.prog 71 #[.pointer p0,Qi mask,Qi must,Qi i] w fun e w'=>∃A B,e= .returned (.agg #[.pointer p0,Qi mask,Qi must,.slice A N N,.slice B N N])∧LoopI w' A B N (Zag N q mask i) (Zy N q mask must i)∧Upd No w w':=by
 obtain⟨wb,ah⟩:=Qe (w.alloc (.cells #[.pointer none,Qi 0,Qi 0,.slice none 0 0,.slice none 0 0] 127));have u0:Upd No w wb:=by rw[<-ah];exact(Gg No w).alloc _
 have HT:=Qh (fun(W:Gy) (u:Upd No wb W)=>dto W G p0 N K q (h.no (u0.trans u)) hK mask i i);have HM:=Qh (fun(W:Gy) (u:Upd No wb W)=>Zpg N q mask must i▸ZvJ W G p0 N K q (h.no (u0.trans u)) hK mask must i i);have bL:Blk wb w.heap.size 127 [.pointer none,Qi 0,Qi 0,.slice none 0 0,.slice none 0 0]:=by rw[<-ah];exact Gh w _ _
 have U0:=Qh u0;clear h u0;go_enter Tryz.func71,Tryz.ntmps71;go_wp2_with fail;refine(HT.out wb (Gg _ _)).mono ?_;rintro e w1 ⟨ga,rfl,hb1,di,hu1⟩;go_wp2_with fail;refine(HM.out w1 hu1).mono ?_;rintro e w2 ⟨gb,rfl,hb2,cJ,hu2⟩;have hb:=(bL.upd hu1 id).upd hu2 id;obtain⟨c0,c1,c2,c3,c4⟩:=hb.c5;obtain⟨f0,f1,f2,f3,f4⟩:=hb.f5;have hlt:=bL.lt;have DZ:=hu1.size;have U1:=Qh (((U0.out.trans hu1).trans hu2));have cR:=Qh (hb1.upd hu2 id);have gY:=Qh hb2;have n1:ga≠w.heap.size:=by omega
 have n2:gb≠w.heap.size:=by omega
 have HB:=Qh hb;clear ah bL hb hb1 hb2 HT HM hu1 hu2;go_wp2;have b3:=(((((HB.out).set_ 0 (.pointer p0)).set_ 1 (Qi mask)).set_ 2 (Qi must)).set_ 3 (.slice (some ⟨ga,0,none⟩) (ZaR N (Zch N (ofA mask q) i i)).length (ZaR N (Zch N (ofA mask q) i i)).length)).set_ 4 (.slice (some ⟨gb,0,none⟩) (ZaR N (Zy N q mask must i)).length (ZaR N (Zy N q mask must i)).length);simp only[List.set_cons_zero,List.set_cons_succ]at b3;have US:=(((((Gg (One w.heap.size) w2).setOne 0 (.pointer p0)).setOne 1 (Qi mask)).setOne 2 (Qi must)).setOne 3 (.slice (some ⟨ga,0,none⟩) (ZaR N (Zch N (ofA mask q) i i)).length (ZaR N (Zch N (ofA mask q) i i)).length)).setOne 4 (.slice (some ⟨gb,0,none⟩) (ZaR N (Zy N q mask must i)).length (ZaR N (Zy N q mask must i)).length);refine bodyPost_ret (results_cell_row (p:=8) rfl _ _ _ _ _ _ _ rfl b3 Tryz.underlying127 rfl (by kernel_rfl)) rfl ⟨some ⟨ga,0,none⟩,some ⟨gb,0,none⟩,by simp only[Zcy],⟨?_,?_⟩,?_⟩
 ·exact(Zg9 (cR.out.upd US n1)).weak (fun _ _ _=>trivial)
 ·exact(Zg9 (gY.out.upd US n2)).weak (fun _ _ _=>trivial)
 ·exact U1.out.then_ US fun k e=> .inr (by unfold One at e;omega)
/- Closed walks,plain:the bounds of the rows. -/
theorem ZpF{p:List HArc}{i:Int}:∀{l:List HArc} {u:Int},okW p i u l i->i<=u
 |[],u,h=>by have h:u=i:=h;omega
 |_::_,_,h=>h.2.2.1
theorem Zlv{N:Nat}{q:List HArc}(hN:N<=100000)(hr:∀a∈q,Zs N a=true)(mask must i:Int)(h0:0<=i)(h1:i<(N:Int)):
  ∀u,(-1<=Zag N q mask i u∧Zag N q mask i u<=900000)∧-1<=Zy N q mask must i u∧Zy N q mask must i u<=900000:=by
 intro u
 have hf:∀m,∀x∈ofA m q,0<=x.f∧x.f<(N:Int):=fun m x hx=>by
  have:=(Z0 _ _).1 (hr x (mem_ofA.1 hx).1);exact⟨this.1,this.2.1⟩
 have hs:=ZhA h0 h1;have hd:=Zmp (hf mask) i i;refine⟨⟨hd.lo u,?_⟩,?_⟩
 ·have:=hd.hi u;unfold Zag;omega
 have jP:i*2∈Ze (2*N):=mem_nodesZ.2 ⟨by omega,by omega⟩;have cO:∀v∈Ze (2*N),∀u∈ZC (ofA (bits .andNot .i64 mask must) q) (ofA (bits .and .i64 mask must) q) (bits .andNot .i64 mask must) (bits .and .i64 mask must) v,Zn i u=true->u∈Ze (2*N):=fun v _ u hu _=>Zh0 (hf _) (hf _) v u hu
 have B0:=BInv.start (ok:=Zn i) (ps:=ZC (ofA (bits .andNot .i64 mask must) q) (ofA (bits .and .i64 mask must) q) (bits .andNot .i64 mask must) (bits .and .i64 mask must)) jP (Zv (2*N));have B1:=Zgh (Zv (2*N)) cO (2*N) _ _ B0 (by have:=B0.fit;unfold Fits at this;rw[Z7]at this;exact this)
 have hw:Zy N q mask must i u=Zbw (Zn i) (ZC (ofA (bits .andNot .i64 mask must) q) (ofA (bits .and .i64 mask must) q) (bits .andNot .i64 mask must) (bits .and .i64 mask must)) (2*N) ((fun u=>if u=i*2 then 0 else -1),[i*2]) (u*2+1):=by
  unfold Zy ZdZ;rw[if_pos hs];rfl
 have h2:=B1.lo (u*2+1);have h3:=B1.cap (u*2+1);rw[Z7]at h3;rw[hw];exact⟨h2,by omega⟩
theorem Zne{N:Nat}{q:List HArc}(hN:N<=100000)(hr:∀a∈q,Zs N a=true)(mask must i:Int)(h0:0<=i)(h1:i<(N:Int)):
  ∀u,(-1<=Zag N q mask i u∧Zag N q mask i u<=1000000)∧-1<=Zy N q mask must i u∧Zy N q mask must i u<=1000000:=fun u=>by
 have:=Zlv hN hr mask must i h0 h1 u;omega
theorem Zqv{N:Nat}{q:List HArc}(hr:∀a∈q,Zs N a=true)(mask must i:Int)(h0:0<=i)(h1:i<(N:Int))(u:Int)(hu:0<=Zag N q mask i u):i<=u:=by
 obtain⟨l,h,_⟩:=(ZfZ hr mask must i h0 h1).a2 u hu;exact ZpF h
theorem Zm5{N:Nat}{q:List HArc}(hr:∀a∈q,Zs N a=true)(mask must i:Int)(h0:0<=i)(h1:i<(N:Int))(u:Int)(hu:0<=Zy N q mask must i u):i<=u:=by
 obtain⟨l,h,_⟩:=(ZfZ hr mask must i h0 h1).w2 u hu;exact ZpF h
/- Closed walks:how many arcs the shortest has. -/
theorem Zta{must:Int}{da dw:Int->Int}(k8:∀u,(-1<=da u∧da u<=1000000)∧-1<=dw u∧dw u<=1000000)(need:Bool)(x:HArc): -1<=ZT must da dw need x∧ZT must da dw need x<=1000000:=by
 unfold ZT
 split
 ·exact(k8 x.t).2
 ·exact(k8 x.t).1
theorem ZmL(lf:HArc->Int)(best:Int)(a:HArc)(l:List HArc):Z6 lf best (a::l)=Z6 lf (if (decide (0<=lf a)&&(best==0||decide (lf a+1<best)))=true then lf a+1 else best) l:=rfl
theorem Zql(w:Gy)(G:Gt)(p0 A B:OA)(N K:Nat)(q:List HArc)(hG:DG w G p0 N K q)(hK:K<=100000)(mask must:Int)(da dw:Int->Int)(h:LoopI w A B N da dw)
  (k8:∀u,(-1<=da u∧da u<=1000000)∧-1<=dw u∧dw u<=1000000) (i:Int) (need:Bool):
  CN 72 #[.agg #[.pointer p0,Qi mask,Qi must,.slice A N N,.slice B N N],Qi i,.bool need] w (Qi (Zal (ofA mask q) must i da dw need)):=by
 obtain⟨wb,ah⟩:=Qe (w.alloc (.cells #[.pointer p0,Qi mask,Qi must,.slice A N N,.slice B N N] 127));have u0:Upd No w wb:=by rw[<-ah];exact(Gg No w).alloc _
 have bL:Blk wb w.heap.size 127 [.pointer p0,Qi mask,Qi must,.slice A N N,.slice B N N]:=by rw[<-ah];exact Gh w _ _
 have U0:=Qh u0;obtain⟨ys,gs⟩:∃ys,((ofA mask q).filter fun a=>a.f==i)=ys:=⟨_,rfl⟩
 have hyr:∀y∈ys,(1<=y.kind∧y.kind<=3)∧0<=y.t∧y.t<(N:Int):=fun y hy=>by
  rw[<-gs]at hy;have:=(Z0 _ _).1 (hG.right y (mem_ofA.1 (Fw.1 hy).1).1);exact⟨⟨this.2.2.2.2.1,this.2.2.2.2.2.1⟩,this.2.2.1,this.2.2.2.1⟩
 have fC:ys.length<=1000000:=by
  rw[<-gs];have h1:=E3 (fun a:HArc=>a.f==i) (ofA mask q);have h2:=E3 (fun x:HArc=>Zj mask x.kind) q;have h3:=hG.few;unfold ofA at h1 ⊢;omega
 have HO:=Qh (gs▸Zsy (hG.no u0) i mask);have oW:=Qh (fun(W:Gy) (u:Upd No wb W)=>h.upd (u0.trans u));have qU:=Qh (fun(W:Gy) (u:Upd No wb W)=>bL.upd u id);obtain⟨R,hR⟩:=Qe (Zal (ofA mask q) must i da dw need);have HR:=Qh (show Z6 (ZT must da dw need) 0 ys=R by rw[<-hR,<-gs];rfl);rw[hR];obtain⟨c0,c1⟩:=bL.c2;have HY:=Qh hyr;clear hR gs hG h bL u0 hyr;go_enter Tryz.func72,Tryz.ntmps72;go_wp2_with fail;refine(HO.out).mono ?_;rintro e w1 ⟨A1,k1,rfl,aW,hu1⟩;have rY:=Qh (Zhc aW);have dG:=Qh hu1;clear aW hu1 HO c0 c1;go_wp2
 go_loopg [7,18] ys.length (fun gk s j wr=>∃(k:Nat) (b:Int),k+gk=ys.length∧j= Qi k∧s= Qi b∧0<=b∧b<=1000001∧Hid (Z6 (ZT must da dw need) b (ys.drop k)=R)∧Upd No w1 wr)
 case atStart=>exact⟨0,0,by omega,rfl,rfl,by omega,by omega,HR,Gg _ _⟩
 case round=>
  obtain⟨k,b,aK,rfl,rfl,hb0,hb1,hs,hu⟩:=hrel
  by_cases hlt:k<ys.length
  ·obtain⟨ax,rfl,q0,q1,q2,q3⟩:=(rY.out.upd hu Qo).at_ hlt;obtain⟨x,hx⟩:=Qe (ys[k]);obtain⟨⟨hk1,hk2⟩,jT,jc⟩:=HY.out _ (Fr hlt);rw[hx]at q0 q1 q2 q3 hk1 hk2 jT jc;have gA:=hs.out;rw[Ev hlt,hx,ZmL]at gA;have hv:=Zta (must:=must) k8 need x;have i1:(0:Int)<=(k:Int):=Qn _;have i2:(k:Int)<(ys.length:Int):=by omega
   have uA:=(Gg No wr).alloc (.cells #[Qi x.f,Qi x.t,Qi x.kind,Qi x.label] 132);have bo:=Gh wr 132 [Qi x.f,Qi x.t,Qi x.kind,Qi x.label];obtain⟨g0,g1,g2,g3⟩:=bo.c4;have bw:=qU.out _ ((dG.out.trans hu).trans uA);obtain⟨c0,c1,c2,c3,c4⟩:=bw.c5;have HF:=Qh (ZsB _ p0 A B N mask must da dw (oW.out _ ((dG.out.trans hu).trans uA)) x hk1 hk2 jT jc need);generalize ZT must da dw need x=v at gA hv HF;have au:IntKind.i64.wrap (v+1)=v+1:=IntWalk.i64_in _ (by omega);have tI:=Qh (hu.trans uA);have HS:=Qh gA;unfold HArc.cells at HF;clear hs gA hx hk1 hk2 jT jc bo bw uA;go_wp2_with fail;refine Ck HF.out fun w2 hu2=>?_;have bC:=Qh (tI.out.trans hu2);clear hu2 HF
   by_cases hv0:0<=v
   ·have hn1:decide (0<=v)=true:=Qt hv0
    by_cases hbz:b=0
    ·subst hbz;have aZ:=Qh (show Z6 (ZT must da dw need) (v+1) (ys.drop (k+1))=R by have:=HS.out;rw[hn1]at this;exact this);go_wp2;go_roundg (gk-1);exact⟨k+1,v+1,by omega,by go_num,by first|rfl|simp,by omega,by omega,aZ,bC.out⟩;omega
    ·have ex:(b==0)=false:=beq_eq_false_iff_ne.2 hbz
     by_cases hvb:v+1<b
     ·have hn3:decide (v+1<b)=true:=Qt hvb;have aZ:=Qh (show Z6 (ZT must da dw need) (v+1) (ys.drop (k+1))=R by have:=HS.out;rw[hn1,ex,hn3]at this;exact this);go_wp2;go_roundg (gk-1);exact⟨k+1,v+1,by omega,by go_num,by first|rfl|simp,by omega,by omega,aZ,bC.out⟩;omega
     ·have hn3:decide (v+1<b)=false:=Qf hvb;have aZ:=Qh (show Z6 (ZT must da dw need) b (ys.drop (k+1))=R by have:=HS.out;rw[hn1,ex,hn3]at this;exact this);go_wp2;go_roundg (gk-1);exact⟨k+1,b,by omega,by go_num,by first|rfl|simp,by omega,by omega,aZ,bC.out⟩;omega
   ·have hn1:decide (0<=v)=false:=Qf hv0;have aZ:=Qh (show Z6 (ZT must da dw need) b (ys.drop (k+1))=R by have:=HS.out;rw[hn1]at this;exact this);go_wp2;go_roundg (gk-1);exact⟨k+1,b,by omega,by go_num,by first|rfl|simp,by omega,by omega,aZ,bC.out⟩;omega
  ·obtain rfl:k=ys.length:=by omega
   have Hx:=Qh (show b=R by have:=hs.out;rw[Fq]at this;exact this);clear hs;go_wp2;go_ret;exact⟨by first|rfl|(rw[Hx.out];rfl)|(rw[<-Hx.out];rfl),(U0.out.trans dG.out).trans hu⟩
/- Closed walks:the first of so many arcs. -/
def isC(must i:Int)(da dw:Int->Int)(n:Int)(need:Bool)(a:HArc):Bool:=decide (i<=a.t)&&decide (ZT must da dw need a=n)
theorem ZnJ{p:List HArc}{must i:Int}{da dw:Int->Int}{n:Nat}{aq:Int}{need:Bool}{a:HArc}(h:(p.filter fun a=>a.f==aq).find? (isC must i da dw (n:Int) need)=some a):
  ZN p must i da dw (n+1) aq need=a::ZN p must i da dw n a.t (need&& !isM must a):=by
 show(match (p.filter fun a=>a.f==aq).find? (isC must i da dw (n:Int) need)with|some a=>a::ZN p must i da dw n a.t (need&& !isM must a)|none=>ZN p must i da dw n aq need)=_
 rw[h]
theorem ZnK{p:List HArc}{must i:Int}{da dw:Int->Int}{n:Nat}{aq:Int}{need:Bool}(h:(p.filter fun a=>a.f==aq).find? (isC must i da dw (n:Int) need)=none):
  ZN p must i da dw (n+1) aq need=ZN p must i da dw n aq need:=by
 show(match (p.filter fun a=>a.f==aq).find? (isC must i da dw (n:Int) need)with|some a=>a::ZN p must i da dw n a.t (need&& !isM must a)|none=>ZN p must i da dw n aq need)=_
 rw[h]
theorem Zot{l:List HArc}{k:Nat}{x:HArc}{P:HArc->Bool}(hk:k<l.length)(hx:l[k]=x)(h:P x=true):(l.drop k).find? P=some x:=by
 rw[Ev hk,hx,List.find?_cons_of_pos h]
theorem Zji{l:List HArc}{k:Nat}{x:HArc}{P:HArc->Bool}(hk:k<l.length)(hx:l[k]=x)(h:P x=false):(l.drop k).find? P=(l.drop (k+1)).find? P:=by
 rw[Ev hk,hx,List.find?_cons_of_neg (by simp[h])]
theorem ZpN(must:Int)(x:HArc):(x.kind=1->(bits .and .i64 (must/2) 1==0)= !isM must x)∧(x.kind=2->(bits .and .i64 (must/4) 1==0)= !isM must x)∧(x.kind=3->(bits .and .i64 (must/8) 1==0)= !isM must x):=by
 unfold isM Zj;refine⟨fun e=>?_,fun e=>?_,fun e=>?_⟩<;>(rw[Zdc,e];rfl)
theorem ZvP(w:Gy)(G:Gt)(p0 A B:OA)(N K:Nat)(q:List HArc)(hG:DG w G p0 N K q)(hK:K<=100000)(mask must:Int)(da dw:Int->Int)(h:LoopI w A B N da dw)
  (k8:∀u,(-1<=da u∧da u<=1000000)∧-1<=dw u∧dw u<=1000000) (i:Int) (n:Nat) (hn:n<=1000000) (need:Bool):
  Calls Tryz.prog 73 #[.agg #[.pointer p0,Qi mask,Qi must,.slice A N N,.slice B N N],Qi i,Qi n,.bool need] w (ZmF w (ZN (ofA mask q) must i da dw n i need)):=by
 obtain⟨wb,ah⟩:=Qe (w.alloc (.cells #[.pointer p0,Qi mask,Qi must,.slice A N N,.slice B N N] 127));have u0:Upd No w wb:=by rw[<-ah];exact(Gg No w).alloc _
 have bL:Blk wb w.heap.size 127 [.pointer p0,Qi mask,Qi must,.slice A N N,.slice B N N]:=by rw[<-ah];exact Gh w _ _
 have U0:=Qh u0;obtain⟨p,hp⟩:=Qe (ofA mask q)
 have jD:∀y∈p,(1<=y.kind∧y.kind<=3)∧0<=y.t∧y.t<(N:Int):=fun y hy=>by
  rw[<-hp]at hy;have:=(Z0 _ _).1 (hG.right y (mem_ofA.1 hy).1);exact⟨⟨this.2.2.2.2.1,this.2.2.2.2.2.1⟩,this.2.2.1,this.2.2.2.1⟩
 have eU:p.length<=1000000:=by
  rw[<-hp];have h2:=E3 (fun x:HArc=>Zj mask x.kind) q;have h3:=hG.few;unfold ofA;omega
 have HO:=Qh (fun(W:Gy) (u:Upd No wb W) (j:Int)=>hp▸Zsy (hG.no (u0.trans u)) j mask);have oW:=Qh (fun(W:Gy) (u:Upd No wb W)=>h.upd (u0.trans u));have qU:=Qh (fun(W:Gy) (u:Upd No wb W)=>bL.upd u id);have iu:=Qh bL.lt;rw[hp];obtain⟨R,hR⟩:=Qe (ZN p must i da dw n i need);have HR:=Qh hR;rw[hR];have HP:=Qh jD;clear hR hp hG h bL u0 jD;go_enter Tryz.func73,Tryz.ntmps73;go_wp2
 go_loopg [2,3,9,10] n (fun gk sn sd s a wr=>∃(nd:Bool) (A5:OA) (c5:Nat) (xs:List HArc) (ai:Int),sn= Qi (gk:Int)∧sd= .bool nd∧s= .slice A5 xs.length c5∧a= Qi ai∧Hid (xs++ZN p must i da dw gk ai nd=R)∧
  xs.length+gk<=n∧wr.ownsRow wb.heap.size 132 4 (.slice A5 xs.length c5) xs.length (ZbT xs)∧Upd No wb wr)
 case atStart=>exact⟨need,none,0,[],i,rfl,rfl,rfl,rfl,Qh (by rw[Fy];exact HR.out),by simp,Gf _ _ _ _,Gg _ _⟩
 case round=>
  obtain⟨nd,A5,c5,xs,ai,rfl,rfl,rfl,rfl,hR,hxl,ae,hu⟩:=hrel
  cases gk with
  |zero=>
   have wO:=Qh (show xs=R by have:=hR.out;simpa[ZN]using this);clear hR;go_wp2;go_ret;have:=U0.out.size;rw[<-wO.out];exact⟨A5,c5,rfl,Zz ae this,U0.out.trans hu⟩
  |succ g1=>
   obtain⟨ys,gs⟩:∃ys,(p.filter fun a=>a.f==ai)=ys:=⟨_,rfl⟩;have fC:ys.length<=1000000:=by rw[<-gs];exact Nat.le_trans (E3 _ _) eU
   have fH:∀y∈ys,y∈p:=fun y hy=>by rw[<-gs]at hy;exact(Fw.1 hy).1
   have hO:=Qh (gs▸HO.out wr hu ai);have xU:=Qh gs;have DK:=Qh fH;have aP:=hR;have bw:=qU.out wr hu;obtain⟨c0,c1⟩:=bw.c2;have e7:(0:Int)<((g1+1:Nat):Int):=by omega
   clear gs fH hR bw;obtain⟨ng,io⟩:=Qe (((g1+1:Nat):Int):Int);rw[io]at e7;have au:IntKind.i64.wrap (ng-1)=ng-1:=IntWalk.i64_in _ (by omega);generalize hgg:g1+1=m0 at*;rw[io];go_wp2_with fail;refine(hO.out).mono ?_;rintro e w3 ⟨A7,c7,rfl,fm,hu7⟩;have gd:=Qh ae;have HY:=Qh (Zhc fm);have eY:=Qh (Za ae hu7 Qo);have bJ:=Qh (hu.trans hu7);clear hO fm hu7 ae hu c0 c1;go_wp2;obtain⟨fo,eh⟩:=Qe (ys.find? (isC must i da dw (g1:Int) nd));have jh:=Qh eh;have aU:=Qh (show(g1:Int)=ng-1 by omega);clear eh
   go_loopg [3,9,10,25] ys.length (fun gk sd s a j wr=>∃(k:Nat),k+gk=ys.length∧j= Qi k∧sd= .bool nd∧s= .slice A5 xs.length c5∧a= Qi ai∧Hid ((ys.drop k).find? (isC must i da dw (g1:Int) nd)=fo)∧Upd No w3 wr)
   case atStart=>exact⟨0,by omega,rfl,rfl,rfl,rfl,jh,Gg _ _⟩
   case round=>
    obtain⟨k,iK,rfl,rfl,rfl,rfl,hf,hu⟩:=hrel
    by_cases hlt:k<ys.length
    ·obtain⟨ax,rfl,q0,q1,q2,q3⟩:=(HY.out.upd hu Qo).at_ hlt;obtain⟨x,hx⟩:=Qe (ys[k]);obtain⟨⟨hk1,hk2⟩,jT,jc⟩:=HP.out _ (DK.out _ (Fr hlt));rw[hx]at q0 q1 q2 q3 hk1 hk2 jT jc;have i1:(0:Int)<=(k:Int):=Qn _;have i2:(k:Int)<(ys.length:Int):=by omega
     obtain⟨wx,aJ⟩:=Qe (wr.alloc (.cells #[Qi x.f,Qi x.t,Qi x.kind,Qi x.label] 132));have ux:Upd No wr wx:=by rw[<-aJ];exact(Gg No wr).alloc _
     have bo:Blk wx wr.heap.size 132 [Qi x.f,Qi x.t,Qi x.kind,Qi x.label]:=by rw[<-aJ];exact Gh wr _ _
     have aX:=Qh (hu.trans ux);obtain⟨g0,g1',g2,g3⟩:=bo.c4;have bw:=qU.out wx (bJ.out.trans aX.out);obtain⟨c0,c1,c2,c3,c4⟩:=bw.c5;have dK:=Za eY.out hu Qo;have eQ:=Qh (fun i e=>(dK.lt i e).2);have b8:=Qh (fun i e=>(dK.lt i e).1);have qM:=Qh (Za dK ux Qo);have BO:=Qh bo;have HF:=Qh (ZsB wx p0 A B N mask must da dw (oW.out wx (bJ.out.trans aX.out)) x hk1 hk2 jT jc nd);have HK:=Qh (show x.kind=1∨x.kind=2∨x.kind=3 by omega);have HX:=Qh hx;have bj:isC must i da dw (g1:Int) nd x=(decide (i<=x.t)&&decide (ZT must da dw nd x=ng-1)):=by unfold isC;rw[aU.out]
     generalize ZT must da dw nd x=v at bj HF;have jE:=Qh bj;unfold HArc.cells at HF;clear hx hk1 hk2 jT jc bo bw ux dK bj hu
     by_cases hl:x.t<i
     ·have HN:=Qh (show(ys.drop (k+1)).find? (isC must i da dw (g1:Int) nd)=fo by rw[<-hf.out,Zji hlt HX.out (by rw[jE.out,Qf (by omega)];rfl)]);go_wp2;go_roundg (gk-1);exact⟨k+1,by omega,by go_num,rfl,rfl,rfl,HN,aX.out⟩;omega
     ·go_wp2_with fail;refine Ck HF.out fun w4 hu4=>?_;have bo4:=BO.out.upd hu4 id;obtain⟨g0,g1',g2,g3⟩:=bo4.c4;have sA:=Qh (qU.out w4 ((bJ.out.trans aX.out).trans hu4));have kB:=Qh (Za qM.out hu4 Qo);have cN:=Qh ((bJ.out.trans aX.out).trans hu4);have uP:=Qh (aX.out.trans hu4);have lg:=((bJ.out.trans aX.out).trans hu4).size;have kG:=Qh bo4;clear bo4 BO qM HF hu4 c0 c1 c2 c3 c4 q0 q1 q2 q3 aJ
      by_cases hv:v=ng-1
      ·have hv1:(v==ng-1)=true:=by simpa using hv
       have hv2:(v != ng-1)=false:=by simpa using hv
       have lz:=Qh (show fo=some x by rw[<-hf.out,Zot hlt HX.out (by rw[jE.out,Qt hl,Qt hv];rfl)])
       have eK:=Qh (show xs++(x::ZN p must i da dw g1 x.t (nd&& !isM must x))=R by
        have:=aP.out;rw[<-hgg,ZnJ (by rw[xU.out,jh.out,lz.out])]at this;exact this)
       clear jE HX lz hv hf;have HL:=Qh (Zk3 xs);obtain⟨xf,xt,xk,xl⟩:=x;simp only at g0 g1' g2 g3 eK HK
       cases nd
       ·have mv:=Qh (show(xs++[(⟨xf,xt,xk,xl⟩:HArc)])++ZN p must i da dw g1 xt false=R by have:=eK.out;rw[Bool.false_and]at this;rw[Fg];exact this);clear eK;go_wp2_with (at_builtin;refine ZX rfl rfl Zfq (v:= .slice A5 xs.length c5) (n:=xs.length) (xs:=ZbT xs) (by rfl) rfl kB.out rfl rfl (by omega) (by omega) lg ?_;intro g9 c9 w9 aG aI gu d8;have b9:=kG.out.upd aI (fun e=>absurd (eQ.out _ e) (Nat.lt_irrefl _));have l9:=sA.out.upd aI (fun e=>absurd iu.out (Nat.not_lt.2 (b8.out _ e)));have r1:=b9.cell 1;have r2:=b9.cell 2;have r3:=l9.cell 2;simp only[Qz,Qs]at r1 r2 r3;have ir:=Qh aG;have cY:=Qh aI;clear aG aI gu b9 l9 g0 g1' g2 g3);go_roundg g1;exact⟨_,some ⟨g9,0,none⟩,c9,_,_,by rw[aU.out],rfl,by simp,rfl,mv,by simp;omega,by simpa[ZbT,HArc.cells]using ir.out,cN.out.then_ cY.out fun i e=> .inr (b8.out i e)⟩;omega
       ·have br:=Qh (ZpN must ⟨xf,xt,xk,xl⟩);rcases HK.out with rfl|rfl|rfl
        ·have mv:=Qh (show(xs++[(⟨xf,xt,1,xl⟩:HArc)])++ZN p must i da dw g1 xt (bits .and .i64 (must/2) 1==0)=R by have:=eK.out;rw[Bool.true_and,<-br.out.1 rfl]at this;rw[Fg];exact this);clear eK HK;go_wp2_with (at_builtin;refine ZX rfl rfl Zfq (v:= .slice A5 xs.length c5) (n:=xs.length) (xs:=ZbT xs) (by rfl) rfl kB.out rfl rfl (by omega) (by omega) lg ?_;intro g9 c9 w9 aG aI gu d8;have b9:=kG.out.upd aI (fun e=>absurd (eQ.out _ e) (Nat.lt_irrefl _));have l9:=sA.out.upd aI (fun e=>absurd iu.out (Nat.not_lt.2 (b8.out _ e)));have r1:=b9.cell 1;have r2:=b9.cell 2;have r3:=l9.cell 2;simp only[Qz,Qs]at r1 r2 r3;have ir:=Qh aG;have cY:=Qh aI;clear aG aI gu b9 l9 g0 g1' g2 g3);go_roundg g1;exact⟨_,some ⟨g9,0,none⟩,c9,_,_,by rw[aU.out],rfl,by simp,rfl,mv,by simp;omega,by simpa[ZbT,HArc.cells]using ir.out,cN.out.then_ cY.out fun i e=> .inr (b8.out i e)⟩;omega
        ·have mv:=Qh (show(xs++[(⟨xf,xt,2,xl⟩:HArc)])++ZN p must i da dw g1 xt (bits .and .i64 (must/4) 1==0)=R by have:=eK.out;rw[Bool.true_and,<-br.out.2.1 rfl]at this;rw[Fg];exact this);clear eK HK;go_wp2_with (at_builtin;refine ZX rfl rfl Zfq (v:= .slice A5 xs.length c5) (n:=xs.length) (xs:=ZbT xs) (by rfl) rfl kB.out rfl rfl (by omega) (by omega) lg ?_;intro g9 c9 w9 aG aI gu d8;have b9:=kG.out.upd aI (fun e=>absurd (eQ.out _ e) (Nat.lt_irrefl _));have l9:=sA.out.upd aI (fun e=>absurd iu.out (Nat.not_lt.2 (b8.out _ e)));have r1:=b9.cell 1;have r2:=b9.cell 2;have r3:=l9.cell 2;simp only[Qz,Qs]at r1 r2 r3;have ir:=Qh aG;have cY:=Qh aI;clear aG aI gu b9 l9 g0 g1' g2 g3);go_roundg g1;exact⟨_,some ⟨g9,0,none⟩,c9,_,_,by rw[aU.out],rfl,by simp,rfl,mv,by simp;omega,by simpa[ZbT,HArc.cells]using ir.out,cN.out.then_ cY.out fun i e=> .inr (b8.out i e)⟩;omega
        ·have mv:=Qh (show(xs++[(⟨xf,xt,3,xl⟩:HArc)])++ZN p must i da dw g1 xt (bits .and .i64 (must/8) 1==0)=R by have:=eK.out;rw[Bool.true_and,<-br.out.2.2 rfl]at this;rw[Fg];exact this);clear eK HK;go_wp2_with (at_builtin;refine ZX rfl rfl Zfq (v:= .slice A5 xs.length c5) (n:=xs.length) (xs:=ZbT xs) (by rfl) rfl kB.out rfl rfl (by omega) (by omega) lg ?_;intro g9 c9 w9 aG aI gu d8;have b9:=kG.out.upd aI (fun e=>absurd (eQ.out _ e) (Nat.lt_irrefl _));have l9:=sA.out.upd aI (fun e=>absurd iu.out (Nat.not_lt.2 (b8.out _ e)));have r1:=b9.cell 1;have r2:=b9.cell 2;have r3:=l9.cell 2;simp only[Qz,Qs]at r1 r2 r3;have ir:=Qh aG;have cY:=Qh aI;clear aG aI gu b9 l9 g0 g1' g2 g3);go_roundg g1;exact⟨_,some ⟨g9,0,none⟩,c9,_,_,by rw[aU.out],rfl,by simp,rfl,mv,by simp;omega,by simpa[ZbT,HArc.cells]using ir.out,cN.out.then_ cY.out fun i e=> .inr (b8.out i e)⟩;omega
      ·have hv1:(v==ng-1)=false:=by simpa using hv
       have hv2:(v != ng-1)=true:=by simpa using hv
       have HN:=Qh (show(ys.drop (k+1)).find? (isC must i da dw (g1:Int) nd)=fo by rw[<-hf.out,Zji hlt HX.out (by rw[jE.out,Qf hv,Bool.and_false])]);clear jE HX hv hf;go_wp2;go_roundg (gk-1);exact⟨k+1,by omega,by go_num,rfl,rfl,rfl,HN,uP.out⟩;omega
    ·obtain rfl:k=ys.length:=by omega
     have eK:=Qh (show xs++ZN p must i da dw g1 ai nd=R by
      have eh:=hf.out;rw[Fq,List.find?_nil]at eh;have:=aP.out;rw[<-hgg,ZnK (by rw[xU.out,jh.out,<-eh])]at this;exact this)
     clear hf jh;go_wp2;go_roundg g1;exact⟨nd,A5,c5,xs,ai,by rw[aU.out],rfl,rfl,rfl,eK,by omega,Za eY.out hu Qo,bJ.out.trans hu⟩;omega
/- Closed walks:numbers by ranks. -/
theorem Zfx(w:Gy)(base:Nat)(A:OA)(c:Nat)(l:Gv)(ae:w.ownsRow base 3 1 (.slice A l.length c) l.length (l.map (Value.int .i64)))(hl:l.length<=17592186044415):
  Calls Tryz.prog 106 #[.slice A l.length c] w fun e w'=>e= .returned (.slice A (ZG l).length c)∧w'.ownsRow base 3 1 (.slice A (ZG l).length c) (ZG l).length ((ZG l).map (Value.int .i64))∧Upd (Own (.slice A l.length c)) w w':=by
 have HS:=Qh (Zi9 w base A c l ae hl)
 have HC:=Qh (fun(W:Gy) (ho:W.ownsRow base 3 1 (.slice A l.length c) l.length ((Zaj l).map (Value.int .i64)))=>(by
  have h1:=Zif W base A c (Zaj l) (by rw[Zb7];exact ho) (by rw[Zb7];exact hl);rw[Zb7,Zdx]at h1;exact h1:Calls Tryz.prog 136 #[.slice A l.length c] W fun e w'=>e= .returned (.slice A (ZG l).length c)∧w'.ownsRow base 3 1 (.slice A (ZG l).length c) (ZG l).length ((ZG l).map (Value.int .i64))∧Upd (Own (.slice A l.length c)) W w'))
 clear ae;go_enter Tryz.func106,Tryz.ntmps106;go_wp2_with fail;refine(HS.out).mono ?_;rintro e w1 ⟨rfl,aW,hu1⟩;go_wp2_with fail;refine(HC.out w1 aW).mono ?_;rintro e w2 ⟨rfl,bi,hu2⟩;go_wp2;go_ret;exact⟨rfl,bi,hu1.trans hu2⟩
