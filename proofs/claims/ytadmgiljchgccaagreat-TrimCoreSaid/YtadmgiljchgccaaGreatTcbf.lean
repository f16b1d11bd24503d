/- Ways: how far each node is, by walks with an arc of another mask: the walk. -/
import Derived.Test.YtadmgiljchgccaaGreatTcbe
namespace Go.Proofs.YtadmgiljchgccaaGreat
open Go.RowKit
set_option linter.unusedVariables false
set_option linter.unusedSimpArgs false
set_option maxRecDepth 100000
set_option maxHeartbeats 8000000
theorem Zoo{wb W:I0}{a b:Iz}{t:Iy}(_h:Upd No wb (W.alloc (.cells #[a,b] t))):Blk (W.alloc (.cells #[a,b] t)) W.heap.size t [a,b]:=Im W t [a,b]
theorem Zlr{wb W:I0}{a b:Iz}{t:Iy}(_h:Upd No wb (W.alloc (.cells #[a,b] t)).drew):Blk (W.alloc (.cells #[a,b] t)).drew W.heap.size t [a,b]:=Im W t [a,b]
theorem ZfL{wb W:I0}{o:Obj}(_h:Upd No wb (W.alloc o)):Upd No W (W.alloc o):=(Il No W).alloc o
theorem Zfi{P:Ix}{ops:Array Oper}{o:Oper}{a:Act}{W:I0}{K:Act->I0->Prop}{Q:Exit->Act->I0->Prop}{E:Prop}(cm:o.guard=none){ty:Iy}{x y:Operand}(ho:o.op= .store ty x y)
  {g:Nat} {t:Iy} {old cells:Ip} (hx:a.eval x= .pointer (some ⟨g,0,none⟩)) (hy:a.eval y= .agg cells.toArray) (hb:Blk W g t old) (hi:(P.info? ty).map (·.size)=some cells.length) (hold:old.length=cells.length)
  (h1:cells.all (·.oneCell')=true) (h:∀w',Blk w' g t cells->Upd (One g) W w'->K (a.put o.dst undef) w'):if Region.wanted o (yielded ops a.tmps)=true then Oper.wp P o a W K Q else E:=by
 rw[if_pos (by simp[Region.wanted,cm])];refine wp_store_row ty x y ho g cells.toArray hx hy t old.toArray hb (by simpa using hi) (by simpa using hold) (by simpa using h1) ?_;exact h _ (setRow_heap W g old.toArray cells.toArray t (0,0) hb) ⟨rfl,rfl,rfl,by simp[World.setRow],fun k hk hn=>setRow_other W g k _ hn⟩
theorem Zxl(W:I0)(a b:Int):(Instr.index 243 (.agg #[Qi a,Qi b]) (Qi 0)).run Tryz.prog W= .ok (Qi a) W:=by
 have hi:(Tryz.prog.info? 3).map (fun i=>(i.zero,i.size))=some (some (Qi 0),1):=by kernel_rfl
 obtain⟨i,h1,h2⟩:=Option.map_eq_some_iff.1 hi;simp only[Ig]at h2;simp[Instr.index,run_underlying Tryz.underlying243,asIntOf,go_sem,sizeOf,typeInfo,h1,h2]
theorem Zxk(W:I0)(a b:Int):(Instr.index 243 (.agg #[Qi a,Qi b]) (Qi 1)).run Tryz.prog W= .ok (Qi b) W:=by
 have hi:(Tryz.prog.info? 3).map (fun i=>(i.zero,i.size))=some (some (Qi 0),1):=by kernel_rfl
 obtain⟨i,h1,h2⟩:=Option.map_eq_some_iff.1 hi;simp only[Ig]at h2;simp[Instr.index,run_underlying Tryz.underlying243,asIntOf,go_sem,sizeOf,typeInfo,h1,h2]
def Zbr(a b:Iv):Nat->List Int
 |0=>[]
 |1=>a
 |_=>a++b
def Zd6(a b:Iv):Nat->List Int
 |0=>a++b
 |1=>b
 |_=>[]
theorem Zxx(w:I0)(G:Iw)(p0:OA)(N K:Nat)(q:List HArc)(h:DG w G p0 N K q)(hK:K<=100000)(mask must node least:Int):
  Calls Tryz.prog 221 #[.pointer p0,Qi mask,Qi must,Qi node,Qi least] w (ZpI w (ZbR N (Zd8 N (ofA (bits .andNot .i64 mask must) q) (ofA (bits .and .i64 mask must) q) (bits .andNot .i64 mask must) (bits .and .i64 mask must) least node) 1)):=by
 have hN:=h.nodes_le;obtain⟨m1,cd⟩:∃m,bits .andNot .i64 mask must=m:=⟨_,rfl⟩;obtain⟨m2,bh⟩:∃m,bits .and .i64 mask must=m:=⟨_,rfl⟩;rw[cd,bh];obtain⟨p1,dh⟩:∃p,ofA m1 q=p:=⟨_,rfl⟩;obtain⟨p2,hp2⟩:∃p,ofA m2 q=p:=⟨_,rfl⟩
 have rB:∀x∈p1,0<=x.f∧x.f<(N:Int):=fun x hx=>by
  rw[<-dh]at hx;have:=(ZQ _ _).1 (h.right x (mem_ofA.1 hx).1);exact⟨this.1,this.2.1⟩
 have qL:∀x∈p2,0<=x.f∧x.f<(N:Int):=fun x hx=>by
  rw[<-hp2]at hx;have:=(ZQ _ _).1 (h.right x (mem_ofA.1 hx).1);exact⟨this.1,this.2.1⟩
 obtain⟨wb,ag⟩:=Qe (w.alloc (.cells #[.pointer p0,Qi mask,Qi least] 288));have u0:Upd No w wb:=by rw[<-ag];exact(Il No w).alloc _
 have bS:Blk wb w.heap.size 288 [.pointer p0,Qi mask,Qi least]:=by rw[<-ag];exact Im w _ _
 have HG:=Qh (fun(W:I0) (u:Upd No wb W)=>h.no (u0.trans u));have vO:=Qh (fun(W:I0) (u:Upd No wb W) (i:Int)=>dh▸ZmP (h.no (u0.trans u)) i m1);have xL:=Qh (fun(W:I0) (u:Upd No wb W) (i:Int)=>hp2▸ZmP (h.no (u0.trans u)) i m2);have ALLS:=Qh (show∀W,Upd No wb W->Upd No wb W∧W.cell? ⟨w.heap.size,0,none⟩=some (.pointer p0)∧W.cell? ⟨w.heap.size,1,none⟩=some (Qi mask)∧W.cell? ⟨w.heap.size,2,none⟩=some (Qi least) from fun W u=>⟨u,(bS.upd u id).cell 0,(bS.upd u id).cell 1,(bS.upd u id).cell 2⟩);have qj:=Qh rB;have rL:=Qh qL
 have i6:=Qh (show p1.length<=100000∧p2.length<=100000 from by
  rw[<-dh,<-hp2];have:=h.few;have a1:=Gj (fun x=>Zf m1 x.kind) q;have a2:=Gj (fun x=>Zf m2 x.kind) q;unfold ofA;omega)
 have U0:=Qh u0;have d8:=Qh (fun(W:I0) (u:Upd No wb W)=>Zua (h.no (u0.trans u)) mask least);rw[dh,hp2];clear dh hp2 rB qL h bS u0;have UB:=Qh ((Il No wb).drew);go_enter Tryz.func221,Tryz.ntmps221
 go_upto_region 2 with fail
 go_cut [12] (fun s12 wx=>∃(ab g0 g1:Nat),s12= .pointer (some ⟨ab,0,none⟩)∧Blk wx ab 292 [.slice (some ⟨g0,0,none⟩) N N,.slice (some ⟨g1,0,none⟩) N N]∧Blk wx g0 3 ((List.replicate N (-1)).map (Value.int .i64))∧Blk wx g1 3 ((List.replicate N (-1)).map (Value.int .i64))∧
  (ab≠g0∧ab≠g1∧g0≠g1)∧(wb.heap.size<=ab∧wb.heap.size<=g0∧wb.heap.size<=g1)∧Upd No wb wx)
 case first=>
  refine wpS (fun W'=>Upd No wb W'∧W'.cell? ⟨w.heap.size,0,none⟩=some (.pointer p0)∧W'.cell? ⟨w.heap.size,1,none⟩=some (Qi mask)∧W'.cell? ⟨w.heap.size,2,none⟩=some (Qi least)) ?_ fun jH=>?_
  ·(first|(with_reducible exact ALLS.out _ UB.out)|(with_reducible exact ALLS.out _ (jH.1.trans hu4))|(with_reducible exact ALLS.out _ (jH.1.alloc _))|exact ALLS.out _ cC|exact ALLS.out _ (((Il No wb).alloc _).drew))
  refine wpK 0 rfl ?_;refine wpK 2 rfl ?_;refine wpR [1,5] ?_;refine wpC rfl (fun K hK=>?_) ?_
  ·go_simp
   (first
   |(go_at_call 246;refine(d8.out _ jH.1).mono ?_;rintro e w4 ⟨g0,rfl,hb0,jm,hu4⟩;have di:=Qh hb0;have kY:=Qh (Nat.le_trans jH.1.size jm);(try have L0:=Qh (Gu ZZ.out.lt jm));(try have ZZ:=Qh (ZZ.out.upd hu4 id));clear hb0 jm))
   try (go_wp2_with fail)
   refine hK.out _ _ ?_ fun jH=>?_
   ·(first|(with_reducible exact ALLS.out _ UB.out)|(with_reducible exact ALLS.out _ (jH.1.trans hu4))|(with_reducible exact ALLS.out _ (jH.1.alloc _))|exact ALLS.out _ cC|exact ALLS.out _ (((Il No wb).alloc _).drew))
   try simp only[Qa]
   refine wpR [3,5] ?_;refine wpC rfl (fun K hK=>?_) ?_
   ·go_simp
    (first
    |(go_at_call 246;refine(d8.out _ jH.1).mono ?_;rintro e w4 ⟨g1,rfl,aX,dN,hu4⟩;have dq:=Qh aX;have b8:=Qh (Nat.le_trans jH.1.size dN);have M01:=Qh (Gu di.out.lt dN);have di:=Qh (di.out.upd hu4 id);(try have L1:=Qh (Gu ZZ.out.lt dN));(try have ZZ:=Qh (ZZ.out.upd hu4 id));clear aX dN))
    try (go_wp2_with fail)
    refine hK.out _ _ ?_ fun jH=>?_
    ·(first|(with_reducible exact ALLS.out _ UB.out)|(with_reducible exact ALLS.out _ (jH.1.trans hu4))|(with_reducible exact ALLS.out _ (jH.1.alloc _))|exact ALLS.out _ cC|exact ALLS.out _ (((Il No wb).alloc _).drew))
    try simp only[Qa]
    refine wpK 4 rfl ?_;refine wpZ 5 rfl fun K hK=>?_;have fD:=Qh jH.1.size
    (try have M0:=Qh di.out.lt)
    (try have M1:=Qh dq.out.lt)
    go_simp;refine hK.out _ _ ?_ fun jH=>?_
    ·(first|(with_reducible exact ALLS.out _ UB.out)|(with_reducible exact ALLS.out _ (jH.1.trans hu4))|(with_reducible exact ALLS.out _ (jH.1.alloc _))|exact ALLS.out _ cC|exact ALLS.out _ (((Il No wb).alloc _).drew))
    try simp only[Qa]
    (first|have ZZ:=Qh (Zoo jH.1)|have ZZ:=Qh (Zlr jH.1))
    (try have di:=Qh (di.out.upd (ZfL jH.1) id))
    (try have dq:=Qh (dq.out.upd (ZfL jH.1) id))
    refine wpZ 6 rfl fun K hK=>?_
    (first
    |(refine Zfi rfl rfl (cells:=[.slice (some ⟨g0,0,none⟩) N N,.slice (some ⟨g1,0,none⟩) N N]) rfl rfl ZZ.out (by kernel_rfl) rfl rfl ?_;intro w5 cw hu5;have cC:=jH.1.then_ hu5 (fun i e=>by unfold One at e;rw[e];exact .inr fD.out)))
    refine hK.out _ _ ?_ fun jH=>?_
    ·(first|(with_reducible exact ALLS.out _ UB.out)|(with_reducible exact ALLS.out _ (jH.1.trans hu4))|(with_reducible exact ALLS.out _ (jH.1.alloc _))|exact ALLS.out _ cC|exact ALLS.out _ (((Il No wb).alloc _).drew))
    try simp only[Qa]
    refine wpD (Ii ?_);go_wp2_with fail;go_meet;refine⟨_,g0,g1,rfl,cw,?_,?_,⟨?_,?_,?_⟩,⟨fD.out,kY.out,b8.out⟩,jH.1⟩
    ·exact di.out.upd hu5 (fun e=>by unfold One at e;(first|(have:=L0.out;omega)|(have:=M0.out;omega)))
    ·exact dq.out.upd hu5 (fun e=>by unfold One at e;(first|(have:=L1.out;omega)|(have:=M1.out;omega)))
    ·(first|(have:=L0.out;omega)|(have:=M0.out;omega))
    ·(first|(have:=L1.out;omega)|(have:=M1.out;omega))
    ·(have:=M01.out;omega)
   refine wpC rfl (fun K hK=>?_) AllReadyH.nil;have fD:=Qh jH.1.size
   (try have M0:=Qh di.out.lt)
   (try have M1:=Qh dq.out.lt)
   go_simp;refine hK.out _ _ ?_ fun jH=>?_
   ·(first|(with_reducible exact ALLS.out _ UB.out)|(with_reducible exact ALLS.out _ (jH.1.trans hu4))|(with_reducible exact ALLS.out _ (jH.1.alloc _))|exact ALLS.out _ cC|exact ALLS.out _ (((Il No wb).alloc _).drew))
   try simp only[Qa]
   (first|have ZZ:=Qh (Zoo jH.1)|have ZZ:=Qh (Zlr jH.1))
   (try have di:=Qh (di.out.upd (ZfL jH.1) id))
   (try have dq:=Qh (dq.out.upd (ZfL jH.1) id))
   refine wpZ 3 rfl fun K hK=>?_;go_simp
   (first
   |(go_at_call 246;refine(d8.out _ jH.1).mono ?_;rintro e w4 ⟨g1,rfl,aX,dN,hu4⟩;have dq:=Qh aX;have b8:=Qh (Nat.le_trans jH.1.size dN);have M01:=Qh (Gu di.out.lt dN);have di:=Qh (di.out.upd hu4 id);(try have L1:=Qh (Gu ZZ.out.lt dN));(try have ZZ:=Qh (ZZ.out.upd hu4 id));clear aX dN))
   try (go_wp2_with fail)
   refine hK.out _ _ ?_ fun jH=>?_
   ·(first|(with_reducible exact ALLS.out _ UB.out)|(with_reducible exact ALLS.out _ (jH.1.trans hu4))|(with_reducible exact ALLS.out _ (jH.1.alloc _))|exact ALLS.out _ cC|exact ALLS.out _ (((Il No wb).alloc _).drew))
   try simp only[Qa]
   refine wpK 4 rfl ?_;refine wpZ 6 rfl fun K hK=>?_
   (first
   |(refine Zfi rfl rfl (cells:=[.slice (some ⟨g0,0,none⟩) N N,.slice (some ⟨g1,0,none⟩) N N]) rfl rfl ZZ.out (by kernel_rfl) rfl rfl ?_;intro w5 cw hu5;have cC:=jH.1.then_ hu5 (fun i e=>by unfold One at e;rw[e];exact .inr fD.out)))
   refine hK.out _ _ ?_ fun jH=>?_
   ·(first|(with_reducible exact ALLS.out _ UB.out)|(with_reducible exact ALLS.out _ (jH.1.trans hu4))|(with_reducible exact ALLS.out _ (jH.1.alloc _))|exact ALLS.out _ cC|exact ALLS.out _ (((Il No wb).alloc _).drew))
   try simp only[Qa]
   refine wpD (Ii ?_);go_wp2_with fail;go_meet;refine⟨_,g0,g1,rfl,cw,?_,?_,⟨?_,?_,?_⟩,⟨fD.out,kY.out,b8.out⟩,jH.1⟩
   ·exact di.out.upd hu5 (fun e=>by unfold One at e;(first|(have:=L0.out;omega)|(have:=M0.out;omega)))
   ·exact dq.out.upd hu5 (fun e=>by unfold One at e;(first|(have:=L1.out;omega)|(have:=M1.out;omega)))
   ·(first|(have:=L0.out;omega)|(have:=M0.out;omega))
   ·(first|(have:=L1.out;omega)|(have:=M1.out;omega))
   ·(have:=M01.out;omega)
  refine wpC rfl (fun K hK=>?_) AllReadyH.nil;have fD:=Qh jH.1.size
  (try have M0:=Qh di.out.lt)
  (try have M1:=Qh dq.out.lt)
  go_simp;refine hK.out _ _ ?_ fun jH=>?_
  ·(first|(with_reducible exact ALLS.out _ UB.out)|(with_reducible exact ALLS.out _ (jH.1.trans hu4))|(with_reducible exact ALLS.out _ (jH.1.alloc _))|exact ALLS.out _ cC|exact ALLS.out _ (((Il No wb).alloc _).drew))
  try simp only[Qa]
  (first|have ZZ:=Qh (Zoo jH.1)|have ZZ:=Qh (Zlr jH.1))
  (try have di:=Qh (di.out.upd (ZfL jH.1) id))
  (try have dq:=Qh (dq.out.upd (ZfL jH.1) id))
  refine wpZ 1 rfl fun K hK=>?_;go_simp
  (first
  |(go_at_call 246;refine(d8.out _ jH.1).mono ?_;rintro e w4 ⟨g0,rfl,hb0,jm,hu4⟩;have di:=Qh hb0;have kY:=Qh (Nat.le_trans jH.1.size jm);(try have L0:=Qh (Gu ZZ.out.lt jm));(try have ZZ:=Qh (ZZ.out.upd hu4 id));clear hb0 jm))
  try (go_wp2_with fail)
  refine hK.out _ _ ?_ fun jH=>?_
  ·(first|(with_reducible exact ALLS.out _ UB.out)|(with_reducible exact ALLS.out _ (jH.1.trans hu4))|(with_reducible exact ALLS.out _ (jH.1.alloc _))|exact ALLS.out _ cC|exact ALLS.out _ (((Il No wb).alloc _).drew))
  try simp only[Qa]
  refine wpZ 3 rfl fun K hK=>?_;go_simp
  (first
  |(go_at_call 246;refine(d8.out _ jH.1).mono ?_;rintro e w4 ⟨g1,rfl,aX,dN,hu4⟩;have dq:=Qh aX;have b8:=Qh (Nat.le_trans jH.1.size dN);have M01:=Qh (Gu di.out.lt dN);have di:=Qh (di.out.upd hu4 id);(try have L1:=Qh (Gu ZZ.out.lt dN));(try have ZZ:=Qh (ZZ.out.upd hu4 id));clear aX dN))
  try (go_wp2_with fail)
  refine hK.out _ _ ?_ fun jH=>?_
  ·(first|(with_reducible exact ALLS.out _ UB.out)|(with_reducible exact ALLS.out _ (jH.1.trans hu4))|(with_reducible exact ALLS.out _ (jH.1.alloc _))|exact ALLS.out _ cC|exact ALLS.out _ (((Il No wb).alloc _).drew))
  try simp only[Qa]
  refine wpK 4 rfl ?_;refine wpZ 6 rfl fun K hK=>?_
  (first
  |(refine Zfi rfl rfl (cells:=[.slice (some ⟨g0,0,none⟩) N N,.slice (some ⟨g1,0,none⟩) N N]) rfl rfl ZZ.out (by kernel_rfl) rfl rfl ?_;intro w5 cw hu5;have cC:=jH.1.then_ hu5 (fun i e=>by unfold One at e;rw[e];exact .inr fD.out)))
  refine hK.out _ _ ?_ fun jH=>?_
  ·(first|(with_reducible exact ALLS.out _ UB.out)|(with_reducible exact ALLS.out _ (jH.1.trans hu4))|(with_reducible exact ALLS.out _ (jH.1.alloc _))|exact ALLS.out _ cC|exact ALLS.out _ (((Il No wb).alloc _).drew))
  try simp only[Qa]
  refine wpD (Ii ?_);go_wp2_with fail;go_meet;refine⟨_,g0,g1,rfl,cw,?_,?_,⟨?_,?_,?_⟩,⟨fD.out,kY.out,b8.out⟩,jH.1⟩
  ·exact di.out.upd hu5 (fun e=>by unfold One at e;(first|(have:=L0.out;omega)|(have:=M0.out;omega)))
  ·exact dq.out.upd hu5 (fun e=>by unfold One at e;(first|(have:=L1.out;omega)|(have:=M1.out;omega)))
  ·(first|(have:=L0.out;omega)|(have:=M0.out;omega))
  ·(first|(have:=L1.out;omega)|(have:=M1.out;omega))
  ·(have:=M01.out;omega)
 case rest=>
  obtain⟨ab,g0,g1,rfl,ha,hb0,aX,hne,du,hu1⟩:=hcut;have vH:=fun(W:I0) (u:Upd No wc W)=>(ALLS.out W (hu1.trans u)).2
  have wE:=Qh vH;obtain⟨c0,c1,c2⟩:=vH wc (Il _ _);have a1:=ha.cell 1;simp only[Qz,Qs]at a1;clear vH
  cases hs:ZaV N least node
  ·have am:=Qh (hs▸Zjk (HG.out wc hu1) mask least node);have HV:=Qh (show ZbR N (Zd8 N p1 p2 m1 m2 least node) 1=List.replicate N (-1) by unfold Zd8;rw[hs];exact ZfX N (-1) 1);go_wp2_with fail;refine Ck am.out fun w2 hu2=>?_;have a1':=(ha.upd hu2 id).cell 1;simp only[Qz,Qs]at a1';go_wp2;go_ret;rw[HV.out];exact⟨g1,by simp,aX.upd hu2 id,by have:=U0.out.size;omega,(U0.out.trans hu1).trans hu2⟩
  ·have am:=Qh (hs▸Zjk (HG.out wc hu1) mask least node);have HV:=Qh (show Zd8 N p1 p2 m1 m2 least node=Zbx (Zm least) (ZG p1 p2 m1 m2) (2*N) (ZbA (node*2),[node*2]) by unfold Zd8;rw[hs];rfl);unfold ZaV at hs;rw[Hj,Gw,Gw]at hs;obtain⟨nd,rfl⟩:∃nd:Nat,node=(nd:Int):=⟨node.toNat,by omega⟩;have hnd:nd<N:=by omega
   have nU:least<=(nd:Int):=by omega
   clear hs;go_wp2_with fail;refine Ck am.out fun w2 hu2=>?_;go_wp2_with fail;refine(ZfH (HG.out w2 (hu1.trans hu2))).mono ?_;rintro e w3 ⟨rfl,rfl⟩;have fd:Zbc ((2*N:Nat):Int)=((2*N:Nat):Int):=by unfold Zbc;omega
   have uk:IntKind.i64.wrap (2*(N:Int))=((2*N:Nat):Int):=by rw[show(2:Int)*(N:Int)=((2*N:Nat):Int) by omega];exact IntWalk.i64_in _ (by omega)
   have rS:=Qh (fd▸ZvW w2 ((2*N:Nat):Int));go_wp2_with fail;refine(rS.out).mono ?_;rintro e w4 ⟨qg,rfl,C7,qQ,hu4⟩;have jC:=hu2.trans hu4;have l0:=(hb0.upd hu2 id).lt;have l1:=(aX.upd hu2 id).lt;have la:=(ha.upd hu2 id).lt
   have kI:DQ2 wb ab g0 g1 qg N (fun _=> -1) [] none [] w4:=⟨One qg,fun _=>False,ha.upd jC id,by rw[ZfX];exact hb0.upd jC id,by rw[ZfX];exact aX.upd jC id,qQ,
    ⟨fun e=>by unfold One at e;omega,fun e=>by unfold One at e;omega,fun e=>by unfold One at e;omega⟩,hne,fun i e=>by unfold One at e;have:=(hu1.trans hu2).size;omega,du,hu1.trans jC,Ints.nil_,fun _ e=>e.elim⟩
   have fr:=kI.free (k:=0) (by omega) nd;have cc:=kI.cell (k:=0) (by omega) hnd;have ca:=kI.arr (k:=0) (by omega);have i1:(0:Int)<=(nd:Int):=by omega
   have i2:(nd:Int)<(N:Int):=by omega
   have HD:=Qh (show DQ2 wb ab g0 g1 qg N (ZbA ((nd:Int)*2)) [] none [] (w4.setCell ⟨gOf g0 g1 0,nd,none⟩ (Qi 0)) from by
    have:=kI.set_ (k:=0) (by omega) hnd 0;rw[show(nd:Int)*2+((0:Nat):Int)=(nd:Int)*2 by omega]at this;exact this)
   have F3:IntKind.i64.wrap ((nd:Int)*2)=(nd:Int)*2:=IntWalk.i64_in _ (by omega);have m5:bits .or .i64 ((nd:Int)*2) 0=(nd:Int)*2:=by have:=ZiO nd 0 (by omega) (by omega);simpa using this
   clear ha hb0 aX hne hu1 hu2 qQ hu4 jC kI am rS a1 c0 c1 c2 l0 l1 la d8;generalize hgg0:gOf g0 g1 0=gz at*;go_wp2_with fail;refine(HD.out.push (by omega) (by simp;omega) ((nd:Int)*2)).mono ?_;rintro e w5 ⟨rfl,oO⟩;rw[H8]at oO;have j9:(nd:Int)*2∈Zg (2*N):=mem_nodesZ.2 ⟨by omega,by omega⟩;have aT:∀v∈Zg (2*N),∀u∈ZG p1 p2 m1 m2 v,Zm least u=true->u∈Zg (2*N):=fun v _ u hu _=>ZhS qj.out rL.out v u hu
   have B0:=BInv.start (ok:=Zm least) (ps:=ZG p1 p2 m1 m2) j9 (Zv (2*N));have B1:Hid (BInv (Zm least) (ZG p1 p2 m1 m2) (Zg (2*N)) ((nd:Int)*2) (ZbA ((nd:Int)*2)) [(nd:Int)*2]):=Qh B0;have HM:=Qh (show Zas (Zg (2*N)) (ZbA ((nd:Int)*2))+[(nd:Int)*2].length<=2*N by have:=B1.out.fit;unfold Fits at this;rw[Z6]at this;exact this);have cS:=Qh aT;clear HD B0 j9 aT HG fr cc ca wE ALLS;go_wp2_with fail;refine(oO.popA).mono ?_;rintro e w6 ⟨x,b,qu,rfl,qd,bQ⟩;have cG:=Qh bQ;have uK:=Qh qd;clear oO bQ qd;go_wp2
   go_loopg [14,15] (2*N) (fun gk sx sb wr=>∃(d:Int->Int) (pend qu:Iv) (x:Int) (b:Bool),sx= Qi x∧sb= .bool b∧Hid (if b=true then pend=x::qu else pend=[]∧qu=[])∧Hid (DQ2 wb ab g0 g1 qg N d qu none [] wr)∧
    Hid (BInv (Zm least) (ZG p1 p2 m1 m2) (Zg (2*N)) ((nd:Int)*2) d pend)∧Hid (Zbx (Zm least) (ZG p1 p2 m1 m2) gk (d,pend)=Zbx (Zm least) (ZG p1 p2 m1 m2) (2*N) (ZbA ((nd:Int)*2),[(nd:Int)*2]))∧Hid (Zas (Zg (2*N)) d+pend.length<=gk))
   case atStart=>exact⟨ZbA ((nd:Int)*2),[(nd:Int)*2],qu,x,b,rfl,rfl,cG,uK,B1,Qh rfl,HM⟩
   case round=>
    obtain⟨d,pend,qu,x,b,rfl,rfl,lC,hd,ir,aV,bB⟩:=hrel
    cases b
    ·have hp0:pend=[]:=(show pend=[]∧qu=[] from by simpa using lC.out).1;have HR:=Qh (show d=Zd8 N p1 p2 m1 m2 least (nd:Int) by rw[HV.out,<-aV.out,hp0,Zm0]);have ca1:=hd.out.arr (k:=1) (by omega);have hb:=hd.out.row1;have hu:=hd.out.upd;have hg:=hd.out.ge1;clear lC aV bB ir hp0 hd;go_wp2;go_ret;have:=U0.out.size;refine⟨g1,by simp[ZbR,ZcC,gOf],?_,by omega,U0.out.trans hu⟩;rw[<-HR.out];exact hb
    ·have hp0:pend=x::qu:=by simpa using lC.out
     subst hp0;have aE:=ir.out.pop;have aZ:=ir.out.q0 x Gv;have mY:=mem_nodesZ.1 (ir.out.dm x aZ);obtain⟨xi,rfl⟩:∃xi:Nat,x=(xi:Int):=⟨x.toNat,by omega⟩;obtain⟨ai,sr⟩:=Qe (xi/2);obtain⟨hh,mB⟩:=Qe (xi%2);have ov:ai<N:=by omega
     have cD:hh<=1:=by omega
     have e1:(xi:Int)/2=(ai:Int):=by omega
     have e2:bits .and .i64 (xi:Int) 1=(hh:Int):=by rw[ZvC];omega
     have e3:(xi:Int)%2=(hh:Int):=by omega
     have e4:(xi:Int)=(ai:Int)*2+(hh:Int):=by omega
     have ka:=bB.out;simp only[G1]at ka;obtain⟨gg,rfl⟩:∃g1,gk=g1+1:=⟨gk-1,by omega⟩;have am:=aV.out;rw[Zha]at am;obtain⟨u1,hu1⟩:∃us,nxA (ai:Int) true p1=us:=⟨_,rfl⟩;obtain⟨u2,hu2⟩:∃us,nxA (ai:Int) true p2=us:=⟨_,rfl⟩;have zh:ZG p1 p2 m1 m2 (xi:Int)=(u1.map fun u=>u*2+Zfr m1 m2 (hh:Int))++(u2.map fun u=>u*2+1):=by unfold ZG;rw[e1,e3,hu1,hu2]
     have nM:=Qh zh;have qf:=Qh (fun(W:I0) (u:Upd No wb W)=>hu1▸vO.out W u (ai:Int));have zj:=Qh (fun(W:I0) (u:Upd No wb W)=>hu2▸xL.out W u (ai:Int));have aN:u1.length<=p1.length:=by rw[<-hu1];exact Zh0 _ _ _
     have bC:u2.length<=p2.length:=by rw[<-hu2];exact Zh0 _ _ _
     have jS:=Qh (show u1.length<=100000∧u2.length<=100000 by have:=i6.out;omega);have ru:=Qh (show∀u∈u1,0<=u∧u<(N:Int) from fun u hu=>mem_nodesZ.1 (Zdi qj.out (ai:Int) u (by unfold Zau;rw[hu1];exact hu)));have vN:=Qh (show∀u∈u2,0<=u∧u<(N:Int) from fun u hu=>mem_nodesZ.1 (Zdi rL.out (ai:Int) u (by unfold Zau;rw[hu2];exact hu)));rw[zh]at am;have gI:=Qh am;have qF:=Qh aE;obtain⟨dx,r8⟩:∃v,d (xi:Int)=v:=⟨_,rfl⟩;rw[r8]at gI qF;obtain⟨M,hM⟩:=Qe (Zas (Zg (2*N)) d+qu.length);have qW:=Qh (show M<=gg by omega);have lU:=Qh hM;have lR:=hd;have E4:=Qh e4;clear lC ir aV bB aE aZ mY ka am hM r8 hd e3 e4 zh aN bC sr mB hu1 hu2;obtain⟨nw,lv⟩:∃v,Zfr m1 m2 (hh:Int)=v:=⟨_,rfl⟩;rw[lv]at nM gI;obtain⟨L1,js⟩:∃L,(u1.map fun u=>u*2+nw)=L:=⟨_,rfl⟩;obtain⟨L2,f8⟩:∃L,(u2.map fun u=>u*2+(1:Int))=L:=⟨_,rfl⟩;have Au:=Qh lv;have ow:=Qh js;have mz:=Qh f8;rw[js,f8]at gI;have xe:Hid (RInv (Zm least) (ZG p1 p2 m1 m2) (Zg (2*N)) ((nd:Int)*2) (xi:Int) dx (Zbr L1 L2 0) d qu):=Qh qF.out;clear lv js f8;go_wp2_with fail
     go_loopg [73] 2 (fun gm s wr=>∃(i:Nat) (iz:Int) (d':Int->Int) (qu':Iv),i+gm=2∧s= Qi iz∧iz=(i:Int)∧Hid (DQ2 wb ab g0 g1 qg N d' qu' none [] wr)∧Hid (RInv (Zm least) (ZG p1 p2 m1 m2) (Zg (2*N)) ((nd:Int)*2) (xi:Int) dx (Zbr L1 L2 i) d' qu')∧
      Hid (Zu (Zm least) dx (Zd6 L1 L2 i) (d',qu')=Zu (Zm least) dx (L1++L2) (d,qu))∧Hid (Zas (Zg (2*N)) d'+qu'.length=M))
     case atStart=>exact⟨0,0,d,qu,by omega,rfl,rfl,lR,xe,Qh rfl,lU⟩
     case round=>
      obtain⟨i,iz,d',qu',kx,rfl,vT,hd,aE,aV,bB⟩:=hrel;have hi:i=0∨i=1∨i=2:=by omega
      have eo:=Zxl;have cO:=Zxk;generalize gk=gm at*;rcases hi with rfl|rfl|rfl
      ·have kB:iz=0:=by omega
       clear vT;subst kB
       by_cases hm:m1=m2
       ·have nF:nw=1:=by rw[<-Au.out];unfold Zfr;rw[if_pos hm]
        subst nF;have sU:(m1==m2)=true:=by simpa using hm
        clear hm;go_wp2_with fail;refine(qf.out wr hd.out.upd).mono ?_;rintro e w7 ⟨A7,c7,rfl,ed,aq⟩;have lR:=Qh (hd.out.list_ aq ed);have jM:Hid (RInv (Zm least) (ZG p1 p2 m1 m2) (Zg (2*N)) ((nd:Int)*2) (xi:Int) dx ((Zbr L1 L2 0)++(u1.take 0).map fun u=>u*2+(1:Int)) d' qu'):=Qh (by have:=aE.out;simpa[Zbr]using this);have j7:Hid (Zu (Zm least) dx (((u1.drop 0).map fun u=>u*2+(1:Int))++L2) (d',qu')=Zu (Zm least) dx (L1++L2) (d,qu)):=Qh (by have:=aV.out;rw[List.drop_zero,ow.out];simpa[Zd6]using this);clear ed aq hd aE aV;go_wp2
        go_loopg [87] u1.length (fun gk i wr=>∃(j:Nat) (d':Int->Int) (qu':Iv),j+gk=u1.length∧i= Qi j∧Hid (DQ2 wb ab g0 g1 qg N d' qu' A7 u1 wr)∧Hid (RInv (Zm least) (ZG p1 p2 m1 m2) (Zg (2*N)) ((nd:Int)*2) (xi:Int) dx ((Zbr L1 L2 0)++(u1.take j).map fun u=>u*2+(1:Int)) d' qu')∧
         Hid (Zu (Zm least) dx (((u1.drop j).map fun u=>u*2+(1:Int))++L2) (d',qu')=Zu (Zm least) dx (L1++L2) (d,qu))∧Hid (Zas (Zg (2*N)) d'+qu'.length=M))
        case atStart=>exact⟨0,d',qu',by omega,rfl,lR,jM,j7,bB⟩
        case round=>
         obtain⟨j,d',qu',rI,rfl,hd,aE,aV,bB⟩:=hrel
         by_cases hlt:j<u1.length
         ·obtain⟨F2,hI⟩:=hd.out.sl;obtain⟨ad,rfl,_,_,hc⟩:=hI.at_ hlt;obtain⟨u,hu⟩:=Qe (u1[j]);rw[hu]at hc;have fw:=ru.out u (hu▸Hg hlt);obtain⟨ui,rfl⟩:∃ui:Nat,u=(ui:Int):=⟨u.toNat,by omega⟩;have hui:ui<N:=by omega
          have bi:(Zbr L1 L2 0)++((u1.take (j+1)).map fun u=>u*2+(1:Int))=((Zbr L1 L2 0)++(u1.take j).map fun u=>u*2+(1:Int))++[(ui:Int)*2+(1:Int)]:=by
           rw[Gb hlt,hu];simp
          have am:=aV.out;rw[show(((u1.drop j).map fun u=>u*2+(1:Int))++L2)=((ui:Int)*2+(1:Int))::(((u1.drop (j+1)).map fun u=>u*2+(1:Int))++L2) by rw[Ge hlt,hu];rfl,Zci]at am
          have gi:(ui:Int)*2+(1:Int)∈ZG p1 p2 m1 m2 (xi:Int):=by
           rw[nM.out];exact(fun u h=>Gp _ (Ih.2 ⟨u,h,rfl⟩)) (ui:Int) (hu▸Hg hlt)
          have b1:(0:Int)<=(j:Int):=Qn _;have b2:(j:Int)<(u1.length:Int):=by omega
          have b7:u1.length<=100000:=jS.out.1;have b3:(0:Int)<=(ui:Int):=Qn _;have b4:(ui:Int)<(N:Int):=by omega
          have b5:(0:Int)<=(1:Int):=by omega
          have b6:(1:Int)<2:=by omega
          have cu:wr.cell? ⟨gOf g0 g1 1,ui,none⟩=some (Qi (d' ((ui:Int)*2+(1:Int)))):=by simpa using hd.out.cell (k:=1) (by omega) hui
          have ca1:=hd.out.arr (k:=1) (by omega);have dO:((ui:Int)*2+(1:Int))/2=(ui:Int):=by omega
          clear hu fw hI
          by_cases hl:least<=(ui:Int)
          ·by_cases hneg:d' ((ui:Int)*2+(1:Int))<0
           ·have aC:(Zm least ((ui:Int)*2+(1:Int))&&decide (d' ((ui:Int)*2+(1:Int))<0))=true:=by unfold Zm;rw[dO,Qt hl,Qt hneg];rfl
            rw[if_pos aC]at am;have cx:=hd.out.cell (k:=hh) cD ov;rw[<-E4.out,aE.out.dxe]at cx;have ch:=hd.out.arr (k:=hh) cD;have gc:(ui:Int)*2+(1:Int)∈Zg (2*N):=mem_nodesZ.2 ⟨by omega,by omega⟩;have cz:=aE.out.push (Zv (2*N)) cS.out gi aC;rw[<-bi]at cz;have aR:=aE.out.fit.push (Zv (2*N)) gc hneg (v:=dx+1) (by have:=aE.out.dxp;omega);rw[Z6]at aR;have jy:=Zb6 (v:=dx+1) (Zv (2*N)) gc hneg (by have:=aE.out.dxp;omega);have km:=Qh (show Zas (Zg (2*N)) (ZaD d' ((ui:Int)*2+(1:Int)) (dx+1))+(qu'++[(ui:Int)*2+(1:Int)]).length=M by rw[Gt,Gi,<-bB.out];omega)
            have oN:dx<=10000:=by
             have:=aE.out.cap (xi:Int);rw[Z6,aE.out.dxe]at this;omega
            have lA:=aE.out.dxp;have hw:IntKind.i64.wrap (dx+1)=dx+1:=IntWalk.i64_in _ (by omega);have bZ:IntKind.i64.wrap ((ui:Int)*2)=(ui:Int)*2:=IntWalk.i64_in _ (by omega);have su:bits .or .i64 ((ui:Int)*2) (1:Int)=(ui:Int)*2+(1:Int):=by have:=ZiO ui 1 (by omega) (by omega);simpa using this
            have fu:=hd.out.free (k:=1) (by omega) ui;have nP:Hid (DQ2 wb ab g0 g1 qg N (ZaD d' ((ui:Int)*2+(1:Int)) (dx+1)) qu' (some ad) u1 (wr.setCell ⟨gOf g0 g1 1,ui,none⟩ (Qi (dx+1)))):=Qh (by simpa using hd.out.set_ (k:=1) (by omega) hui (dx+1));have cM:=Qh cz;have aU:=Qh am;have oy:=Qh aR.2;clear am aE cz aR jy bB aV aC hd gi bi gc;go_wp2;go_region;go_wp2_with fail;refine Ck ((nP.out.no ((Il No _).drewN 1)).push (by omega) oy.out ((ui:Int)*2+(1:Int))) fun w9 hd9=>?_;go_wp2;go_roundg (gk-1);exact⟨j+1,_,_,by omega,by go_num,Qh hd9,cM,aU,km⟩;omega
           ·have aC:¬(Zm least ((ui:Int)*2+(1:Int))&&decide (d' ((ui:Int)*2+(1:Int))<0))=true:=by rw[Qf hneg];simp
            rw[if_neg aC]at am;have cM:=Qh (bi▸aE.out.skip aC);have aU:=Qh am;clear am aE aV aC gi bi;go_wp2;go_roundg (gk-1);exact⟨j+1,d',qu',by omega,by go_num,hd,cM,aU,bB⟩;omega
          ·have aC:¬(Zm least ((ui:Int)*2+(1:Int))&&decide (d' ((ui:Int)*2+(1:Int))<0))=true:=by unfold Zm;rw[dO,Qf hl];simp
           rw[if_neg aC]at am;have cM:=Qh (bi▸aE.out.skip aC);have aU:=Qh am;clear am aE aV aC gi bi;go_wp2;go_roundg (gk-1);exact⟨j+1,d',qu',by omega,by go_num,hd,cM,aU,bB⟩;omega
         ·obtain rfl:j=u1.length:=by omega
          have am:=aV.out;rw[G9]at am;have am:Zu (Zm least) dx L2 (d',qu')=Zu (Zm least) dx (L1++L2) (d,qu):=am;have cB:=aE.out;rw[G7,ow.out]at cB;have cM:Hid (RInv (Zm least) (ZG p1 p2 m1 m2) (Zg (2*N)) ((nd:Int)*2) (xi:Int) dx (Zbr L1 L2 1) d' qu'):=Qh (by simpa[Zbr]using cB);have aU:Hid (Zu (Zm least) dx (Zd6 L1 L2 1) (d',qu')=Zu (Zm least) dx (L1++L2) (d,qu)):=Qh (by simpa[Zd6]using am);have lP:=Qh hd.out.bare;clear am cB aE aV hd;go_wp2;go_roundg (gm-1);exact⟨1,1,d',qu',by omega,by first|rfl|go_num,by omega,lP,cM,aU,bB⟩;omega
       ·have nF:nw=(hh:Int):=by rw[<-Au.out];unfold Zfr;rw[if_neg hm]
        subst nF;have sU:(m1==m2)=false:=by simpa using hm
        clear hm;go_wp2_with fail;refine(qf.out wr hd.out.upd).mono ?_;rintro e w7 ⟨A7,c7,rfl,ed,aq⟩;have lR:=Qh (hd.out.list_ aq ed);have jM:Hid (RInv (Zm least) (ZG p1 p2 m1 m2) (Zg (2*N)) ((nd:Int)*2) (xi:Int) dx ((Zbr L1 L2 0)++(u1.take 0).map fun u=>u*2+(hh:Int)) d' qu'):=Qh (by have:=aE.out;simpa[Zbr]using this);have j7:Hid (Zu (Zm least) dx (((u1.drop 0).map fun u=>u*2+(hh:Int))++L2) (d',qu')=Zu (Zm least) dx (L1++L2) (d,qu)):=Qh (by have:=aV.out;rw[List.drop_zero,ow.out];simpa[Zd6]using this);clear ed aq hd aE aV;go_wp2
        go_loopg [87] u1.length (fun gk i wr=>∃(j:Nat) (d':Int->Int) (qu':Iv),j+gk=u1.length∧i= Qi j∧Hid (DQ2 wb ab g0 g1 qg N d' qu' A7 u1 wr)∧Hid (RInv (Zm least) (ZG p1 p2 m1 m2) (Zg (2*N)) ((nd:Int)*2) (xi:Int) dx ((Zbr L1 L2 0)++(u1.take j).map fun u=>u*2+(hh:Int)) d' qu')∧
         Hid (Zu (Zm least) dx (((u1.drop j).map fun u=>u*2+(hh:Int))++L2) (d',qu')=Zu (Zm least) dx (L1++L2) (d,qu))∧Hid (Zas (Zg (2*N)) d'+qu'.length=M))
        case atStart=>exact⟨0,d',qu',by omega,rfl,lR,jM,j7,bB⟩
        case round=>
         obtain⟨j,d',qu',rI,rfl,hd,aE,aV,bB⟩:=hrel
         by_cases hlt:j<u1.length
         ·obtain⟨F2,hI⟩:=hd.out.sl;obtain⟨ad,rfl,_,_,hc⟩:=hI.at_ hlt;obtain⟨u,hu⟩:=Qe (u1[j]);rw[hu]at hc;have fw:=ru.out u (hu▸Hg hlt);obtain⟨ui,rfl⟩:∃ui:Nat,u=(ui:Int):=⟨u.toNat,by omega⟩;have hui:ui<N:=by omega
          have bi:(Zbr L1 L2 0)++((u1.take (j+1)).map fun u=>u*2+(hh:Int))=((Zbr L1 L2 0)++(u1.take j).map fun u=>u*2+(hh:Int))++[(ui:Int)*2+(hh:Int)]:=by
           rw[Gb hlt,hu];simp
          have am:=aV.out;rw[show(((u1.drop j).map fun u=>u*2+(hh:Int))++L2)=((ui:Int)*2+(hh:Int))::(((u1.drop (j+1)).map fun u=>u*2+(hh:Int))++L2) by rw[Ge hlt,hu];rfl,Zci]at am
          have gi:(ui:Int)*2+(hh:Int)∈ZG p1 p2 m1 m2 (xi:Int):=by
           rw[nM.out];exact(fun u h=>Gp _ (Ih.2 ⟨u,h,rfl⟩)) (ui:Int) (hu▸Hg hlt)
          have b1:(0:Int)<=(j:Int):=Qn _;have b2:(j:Int)<(u1.length:Int):=by omega
          have b7:u1.length<=100000:=jS.out.1;have b3:(0:Int)<=(ui:Int):=Qn _;have b4:(ui:Int)<(N:Int):=by omega
          have b5:(0:Int)<=(hh:Int):=by omega
          have b6:(hh:Int)<2:=by omega
          have cu:wr.cell? ⟨gOf g0 g1 hh,ui,none⟩=some (Qi (d' ((ui:Int)*2+(hh:Int)))):=by simpa using hd.out.cell (k:=hh) (by omega) hui
          have ca1:=hd.out.arr (k:=hh) (by omega);have dO:((ui:Int)*2+(hh:Int))/2=(ui:Int):=by omega
          clear hu fw hI
          by_cases hl:least<=(ui:Int)
          ·by_cases hneg:d' ((ui:Int)*2+(hh:Int))<0
           ·have aC:(Zm least ((ui:Int)*2+(hh:Int))&&decide (d' ((ui:Int)*2+(hh:Int))<0))=true:=by unfold Zm;rw[dO,Qt hl,Qt hneg];rfl
            rw[if_pos aC]at am;have cx:=hd.out.cell (k:=hh) cD ov;rw[<-E4.out,aE.out.dxe]at cx;have ch:=hd.out.arr (k:=hh) cD;have gc:(ui:Int)*2+(hh:Int)∈Zg (2*N):=mem_nodesZ.2 ⟨by omega,by omega⟩;have cz:=aE.out.push (Zv (2*N)) cS.out gi aC;rw[<-bi]at cz;have aR:=aE.out.fit.push (Zv (2*N)) gc hneg (v:=dx+1) (by have:=aE.out.dxp;omega);rw[Z6]at aR;have jy:=Zb6 (v:=dx+1) (Zv (2*N)) gc hneg (by have:=aE.out.dxp;omega);have km:=Qh (show Zas (Zg (2*N)) (ZaD d' ((ui:Int)*2+(hh:Int)) (dx+1))+(qu'++[(ui:Int)*2+(hh:Int)]).length=M by rw[Gt,Gi,<-bB.out];omega)
            have oN:dx<=10000:=by
             have:=aE.out.cap (xi:Int);rw[Z6,aE.out.dxe]at this;omega
            have lA:=aE.out.dxp;have hw:IntKind.i64.wrap (dx+1)=dx+1:=IntWalk.i64_in _ (by omega);have bZ:IntKind.i64.wrap ((ui:Int)*2)=(ui:Int)*2:=IntWalk.i64_in _ (by omega);have su:bits .or .i64 ((ui:Int)*2) (hh:Int)=(ui:Int)*2+(hh:Int):=by have:=ZiO ui hh (by omega) (by omega);simpa using this
            have fu:=hd.out.free (k:=hh) (by omega) ui;have nP:Hid (DQ2 wb ab g0 g1 qg N (ZaD d' ((ui:Int)*2+(hh:Int)) (dx+1)) qu' (some ad) u1 (wr.setCell ⟨gOf g0 g1 hh,ui,none⟩ (Qi (dx+1)))):=Qh (by simpa using hd.out.set_ (k:=hh) (by omega) hui (dx+1));have cM:=Qh cz;have aU:=Qh am;have oy:=Qh aR.2;clear am aE cz aR jy bB aV aC hd gi bi gc;go_wp2;go_region;go_wp2_with fail;refine Ck ((nP.out.no ((Il No _).drewN 1)).push (by omega) oy.out ((ui:Int)*2+(hh:Int))) fun w9 hd9=>?_;go_wp2;go_roundg (gk-1);exact⟨j+1,_,_,by omega,by go_num,Qh hd9,cM,aU,km⟩;omega
           ·have aC:¬(Zm least ((ui:Int)*2+(hh:Int))&&decide (d' ((ui:Int)*2+(hh:Int))<0))=true:=by rw[Qf hneg];simp
            rw[if_neg aC]at am;have cM:=Qh (bi▸aE.out.skip aC);have aU:=Qh am;clear am aE aV aC gi bi;go_wp2;go_roundg (gk-1);exact⟨j+1,d',qu',by omega,by go_num,hd,cM,aU,bB⟩;omega
          ·have aC:¬(Zm least ((ui:Int)*2+(hh:Int))&&decide (d' ((ui:Int)*2+(hh:Int))<0))=true:=by unfold Zm;rw[dO,Qf hl];simp
           rw[if_neg aC]at am;have cM:=Qh (bi▸aE.out.skip aC);have aU:=Qh am;clear am aE aV aC gi bi;go_wp2;go_roundg (gk-1);exact⟨j+1,d',qu',by omega,by go_num,hd,cM,aU,bB⟩;omega
         ·obtain rfl:j=u1.length:=by omega
          have am:=aV.out;rw[G9]at am;have am:Zu (Zm least) dx L2 (d',qu')=Zu (Zm least) dx (L1++L2) (d,qu):=am;have cB:=aE.out;rw[G7,ow.out]at cB;have cM:Hid (RInv (Zm least) (ZG p1 p2 m1 m2) (Zg (2*N)) ((nd:Int)*2) (xi:Int) dx (Zbr L1 L2 1) d' qu'):=Qh (by simpa[Zbr]using cB);have aU:Hid (Zu (Zm least) dx (Zd6 L1 L2 1) (d',qu')=Zu (Zm least) dx (L1++L2) (d,qu)):=Qh (by simpa[Zd6]using am);have lP:=Qh hd.out.bare;clear am cB aE aV hd;go_wp2;go_roundg (gm-1);exact⟨1,1,d',qu',by omega,by first|rfl|go_num,by omega,lP,cM,aU,bB⟩;omega
      ·have kB:iz=1:=by omega
       clear vT;subst kB;go_wp2_with fail;refine(zj.out wr hd.out.upd).mono ?_;rintro e w7 ⟨A7,c7,rfl,ed,aq⟩;have lR:=Qh (hd.out.list_ aq ed);have jM:Hid (RInv (Zm least) (ZG p1 p2 m1 m2) (Zg (2*N)) ((nd:Int)*2) (xi:Int) dx ((Zbr L1 L2 1)++(u2.take 0).map fun u=>u*2+(1:Int)) d' qu'):=Qh (by have:=aE.out;simpa[Zbr]using this);have j7:Hid (Zu (Zm least) dx (((u2.drop 0).map fun u=>u*2+(1:Int))++[]) (d',qu')=Zu (Zm least) dx (L1++L2) (d,qu)):=Qh (by have:=aV.out;rw[List.drop_zero,mz.out];simpa[Zd6]using this);clear ed aq hd aE aV;go_wp2
       go_loopg [87] u2.length (fun gk i wr=>∃(j:Nat) (d':Int->Int) (qu':Iv),j+gk=u2.length∧i= Qi j∧Hid (DQ2 wb ab g0 g1 qg N d' qu' A7 u2 wr)∧Hid (RInv (Zm least) (ZG p1 p2 m1 m2) (Zg (2*N)) ((nd:Int)*2) (xi:Int) dx ((Zbr L1 L2 1)++(u2.take j).map fun u=>u*2+(1:Int)) d' qu')∧
        Hid (Zu (Zm least) dx (((u2.drop j).map fun u=>u*2+(1:Int))++[]) (d',qu')=Zu (Zm least) dx (L1++L2) (d,qu))∧Hid (Zas (Zg (2*N)) d'+qu'.length=M))
       case atStart=>exact⟨0,d',qu',by omega,rfl,lR,jM,j7,bB⟩
       case round=>
        obtain⟨j,d',qu',rI,rfl,hd,aE,aV,bB⟩:=hrel
        by_cases hlt:j<u2.length
        ·obtain⟨F2,hI⟩:=hd.out.sl;obtain⟨ad,rfl,_,_,hc⟩:=hI.at_ hlt;obtain⟨u,hu⟩:=Qe (u2[j]);rw[hu]at hc;have fw:=vN.out u (hu▸Hg hlt);obtain⟨ui,rfl⟩:∃ui:Nat,u=(ui:Int):=⟨u.toNat,by omega⟩;have hui:ui<N:=by omega
         have bi:(Zbr L1 L2 1)++((u2.take (j+1)).map fun u=>u*2+(1:Int))=((Zbr L1 L2 1)++(u2.take j).map fun u=>u*2+(1:Int))++[(ui:Int)*2+(1:Int)]:=by
          rw[Gb hlt,hu];simp
         have am:=aV.out;rw[show(((u2.drop j).map fun u=>u*2+(1:Int))++[])=((ui:Int)*2+(1:Int))::(((u2.drop (j+1)).map fun u=>u*2+(1:Int))++[]) by rw[Ge hlt,hu];rfl,Zci]at am
         have gi:(ui:Int)*2+(1:Int)∈ZG p1 p2 m1 m2 (xi:Int):=by
          rw[nM.out];exact(fun u h=>Gh _ (Ih.2 ⟨u,h,rfl⟩)) (ui:Int) (hu▸Hg hlt)
         have b1:(0:Int)<=(j:Int):=Qn _;have b2:(j:Int)<(u2.length:Int):=by omega
         have b7:u2.length<=100000:=jS.out.2;have b3:(0:Int)<=(ui:Int):=Qn _;have b4:(ui:Int)<(N:Int):=by omega
         have b5:(0:Int)<=(1:Int):=by omega
         have b6:(1:Int)<2:=by omega
         have cu:wr.cell? ⟨gOf g0 g1 1,ui,none⟩=some (Qi (d' ((ui:Int)*2+(1:Int)))):=by simpa using hd.out.cell (k:=1) (by omega) hui
         have ca1:=hd.out.arr (k:=1) (by omega);have dO:((ui:Int)*2+(1:Int))/2=(ui:Int):=by omega
         clear hu fw hI
         by_cases hl:least<=(ui:Int)
         ·by_cases hneg:d' ((ui:Int)*2+(1:Int))<0
          ·have aC:(Zm least ((ui:Int)*2+(1:Int))&&decide (d' ((ui:Int)*2+(1:Int))<0))=true:=by unfold Zm;rw[dO,Qt hl,Qt hneg];rfl
           rw[if_pos aC]at am;have cx:=hd.out.cell (k:=hh) cD ov;rw[<-E4.out,aE.out.dxe]at cx;have ch:=hd.out.arr (k:=hh) cD;have gc:(ui:Int)*2+(1:Int)∈Zg (2*N):=mem_nodesZ.2 ⟨by omega,by omega⟩;have cz:=aE.out.push (Zv (2*N)) cS.out gi aC;rw[<-bi]at cz;have aR:=aE.out.fit.push (Zv (2*N)) gc hneg (v:=dx+1) (by have:=aE.out.dxp;omega);rw[Z6]at aR;have jy:=Zb6 (v:=dx+1) (Zv (2*N)) gc hneg (by have:=aE.out.dxp;omega);have km:=Qh (show Zas (Zg (2*N)) (ZaD d' ((ui:Int)*2+(1:Int)) (dx+1))+(qu'++[(ui:Int)*2+(1:Int)]).length=M by rw[Gt,Gi,<-bB.out];omega)
           have oN:dx<=10000:=by
            have:=aE.out.cap (xi:Int);rw[Z6,aE.out.dxe]at this;omega
           have lA:=aE.out.dxp;have hw:IntKind.i64.wrap (dx+1)=dx+1:=IntWalk.i64_in _ (by omega);have bZ:IntKind.i64.wrap ((ui:Int)*2)=(ui:Int)*2:=IntWalk.i64_in _ (by omega);have su:bits .or .i64 ((ui:Int)*2) (1:Int)=(ui:Int)*2+(1:Int):=by have:=ZiO ui 1 (by omega) (by omega);simpa using this
           have fu:=hd.out.free (k:=1) (by omega) ui;have nP:Hid (DQ2 wb ab g0 g1 qg N (ZaD d' ((ui:Int)*2+(1:Int)) (dx+1)) qu' (some ad) u2 (wr.setCell ⟨gOf g0 g1 1,ui,none⟩ (Qi (dx+1)))):=Qh (by simpa using hd.out.set_ (k:=1) (by omega) hui (dx+1));have cM:=Qh cz;have aU:=Qh am;have oy:=Qh aR.2;clear am aE cz aR jy bB aV aC hd gi bi gc;go_wp2;go_region;go_wp2_with fail;refine Ck ((nP.out.no ((Il No _).drewN 1)).push (by omega) oy.out ((ui:Int)*2+(1:Int))) fun w9 hd9=>?_;go_wp2;go_roundg (gk-1);exact⟨j+1,_,_,by omega,by go_num,Qh hd9,cM,aU,km⟩;omega
          ·have aC:¬(Zm least ((ui:Int)*2+(1:Int))&&decide (d' ((ui:Int)*2+(1:Int))<0))=true:=by rw[Qf hneg];simp
           rw[if_neg aC]at am;have cM:=Qh (bi▸aE.out.skip aC);have aU:=Qh am;clear am aE aV aC gi bi;go_wp2;go_roundg (gk-1);exact⟨j+1,d',qu',by omega,by go_num,hd,cM,aU,bB⟩;omega
         ·have aC:¬(Zm least ((ui:Int)*2+(1:Int))&&decide (d' ((ui:Int)*2+(1:Int))<0))=true:=by unfold Zm;rw[dO,Qf hl];simp
          rw[if_neg aC]at am;have cM:=Qh (bi▸aE.out.skip aC);have aU:=Qh am;clear am aE aV aC gi bi;go_wp2;go_roundg (gk-1);exact⟨j+1,d',qu',by omega,by go_num,hd,cM,aU,bB⟩;omega
        ·obtain rfl:j=u2.length:=by omega
         have am:=aV.out;rw[G9]at am;have am:Zu (Zm least) dx [] (d',qu')=Zu (Zm least) dx (L1++L2) (d,qu):=am;have cB:=aE.out;rw[G7,mz.out]at cB;have cM:Hid (RInv (Zm least) (ZG p1 p2 m1 m2) (Zg (2*N)) ((nd:Int)*2) (xi:Int) dx (Zbr L1 L2 2) d' qu'):=Qh (by simpa[Zbr]using cB);have aU:Hid (Zu (Zm least) dx (Zd6 L1 L2 2) (d',qu')=Zu (Zm least) dx (L1++L2) (d,qu)):=Qh (by simpa[Zd6]using am);have lP:=Qh hd.out.bare;clear am cB aE aV hd;go_wp2;go_roundg (gm-1);exact⟨2,2,d',qu',by omega,by first|rfl|go_num,by omega,lP,cM,aU,bB⟩;omega
      ·have kB:iz=2:=by omega
       clear vT;subst kB;have cB:=aE.out;have cz:RInv (Zm least) (ZG p1 p2 m1 m2) (Zg (2*N)) ((nd:Int)*2) (xi:Int) dx (ZG p1 p2 m1 m2 (xi:Int)) d' qu':=by rw[nM.out,ow.out,mz.out];exact cB
       have xJ:=Qh cz.done;have am:(d',qu')=Zu (Zm least) dx (L1++L2) (d,qu):=aV.out;have HE:=Qh (show Zbx (Zm least) (ZG p1 p2 m1 m2) gg (d',qu')=Zbx (Zm least) (ZG p1 p2 m1 m2) (2*N) (ZbA ((nd:Int)*2),[(nd:Int)*2]) by rw[am];exact gI.out);have km:=Qh (show Zas (Zg (2*N)) d'+qu'.length<=gg by rw[bB.out];exact qW.out);have lP:=Qh hd.out.bare;clear am cB cz aE aV bB hd;go_wp2_with fail;refine(lP.out.popA).mono ?_;rintro e w8 ⟨x2,b2,qu2,rfl,qr,pW⟩;have xQ:=Qh qr;have qJ:=Qh pW;clear qr pW;go_wp2;go_roundg gg;exact⟨d',qu',qu2,x2,b2,rfl,rfl,qJ,xQ,xJ,HE,km⟩;omega
/- Closed walks:what is left ZaC an arc. -/
structure LoopI (w:World) (A B:OA) (N:Nat) (da dw:Int->Int):Prop where
 a:Ints (fun _=>True) w A (ZaO N da)
 b:Ints (fun _=>True) w B (ZaO N dw)
theorem LoopI.upd{w w':I0}{A B:OA}{N:Nat}{da dw:Int->Int}(h:LoopI w A B N da dw)(hu:Upd No w w'):LoopI w' A B N da dw:=⟨h.a.upd hu Qo,h.b.upd hu Qo⟩
theorem Zdn(x:Int):(bits .and .i64 x 1==0)= !decide (x%2=1):=by
 have h:=Zka x 1 (by omega);rw[Nat.and_one_is_mod]at h;have h':bits .and .i64 x 1=(((x%18446744073709551616).toNat%2:Nat):Int):=h;rw[h',Bool.eq_iff_iff,beq_iff_eq,Bool.not_eq_true',decide_eq_false_iff_not];omega
theorem Zuh(w:I0)(p0 A B:OA)(N:Nat)(mask must:Int)(da dw:Int->Int)(h:LoopI w A B N da dw)(a:HArc)(hk1:1<=a.kind)(hk2:a.kind<=3)(kQ:0<=a.t)(lO:a.t<(N:Int))(need:Bool):
  CN 223 #[.agg #[.pointer p0,Qi mask,Qi must,.slice A N N,.slice B N N],.agg a.cells.toArray,.bool need] w (Qi (ZR must da dw need a)):=by
 obtain⟨af,at',ak,al⟩:=a;simp only at hk1 hk2 kQ lO;obtain⟨t,rfl⟩:∃t:Nat,at'=(t:Int):=⟨at'.toNat,by omega⟩;have ht:t<N:=by omega
 have hk:ak=1∨ak=2∨ak=3:=by omega
 obtain⟨wb,ag⟩:=Qe ((w.alloc (.cells #[.pointer p0,Qi mask,Qi must,.slice A N N,.slice B N N] 213)).alloc (.cells #[Qi af,Qi (t:Int),Qi ak,Qi al] 119));have u0:Upd No w wb:=by rw[<-ag];exact((Il No w).alloc _).alloc _
 obtain⟨aa,rfl,_,_,ca⟩:=(h.upd u0).a.at_ (k:=t) (by rw[ZcC];exact ht);obtain⟨ab,rfl,_,_,cb⟩:=(h.upd u0).b.at_ (k:=t) (by rw[ZcC];exact ht);have ea:(ZaO N da)[t]'(by rw[ZcC];exact ht)=da t:=by have:=ZfA da ht;rw[List.getElem?_eq_some_iff]at this;exact this.2
 have eb:(ZaO N dw)[t]'(by rw[ZcC];exact ht)=dw t:=by have:=ZfA dw ht;rw[List.getElem?_eq_some_iff]at this;exact this.2
 rw[ea]at ca;rw[eb]at cb;have i1:(0:Int)<=(t:Int):=Qn _;rw[<-ag]at ca cb;have U0:=Qh u0;subst ag;unfold HArc.cells;clear h u0 ea eb hk1 hk2 kQ;rcases hk with rfl|rfl|rfl
 ·have hb:=Zdn (must/2);rw[show decide ((must/2)%2=1)=Zf must 1 from rfl]at hb;have hv:Hid (ZR must da dw need ⟨af,t,1,al⟩=if (need&& !Zf must 1)=true then dw t else da t):=Qh rfl
  cases hbm:Zf must 1
  all_goals
   rw[hbm]at hb hv;have mU:=hv.out
   first|rw[Bool.not_false]at hb|rw[Bool.not_true]at hb
   cases need
   all_goals
    have HV:=Qh mU;clear hv mU hbm;go_enter Tryz.func223,Tryz.ntmps223;go_wp2;go_ret;exact⟨by rw[HV.out];rfl,U0.out⟩
 ·have hb:=Zdn (must/4);rw[show decide ((must/4)%2=1)=Zf must 2 from rfl]at hb;have hv:Hid (ZR must da dw need ⟨af,t,2,al⟩=if (need&& !Zf must 2)=true then dw t else da t):=Qh rfl
  cases hbm:Zf must 2
  all_goals
   rw[hbm]at hb hv;have mU:=hv.out
   first|rw[Bool.not_false]at hb|rw[Bool.not_true]at hb
   cases need
   all_goals
    have HV:=Qh mU;clear hv mU hbm;go_enter Tryz.func223,Tryz.ntmps223;go_wp2;go_ret;exact⟨by rw[HV.out];rfl,U0.out⟩
 ·have hb:=Zdn (must/8);rw[show decide ((must/8)%2=1)=Zf must 3 from rfl]at hb;have hv:Hid (ZR must da dw need ⟨af,t,3,al⟩=if (need&& !Zf must 3)=true then dw t else da t):=Qh rfl
  cases hbm:Zf must 3
  all_goals
   rw[hbm]at hb hv;have mU:=hv.out
   first|rw[Bool.not_false]at hb|rw[Bool.not_true]at hb
   cases need
   all_goals
    have HV:=Qh mU;clear hv mU hbm;go_enter Tryz.func223,Tryz.ntmps223;go_wp2;go_ret;exact⟨by rw[HV.out];rfl,U0.out⟩
/- Closed walks:the rows at a node. -/
def Zab(N:Nat)(q:List HArc)(mask i:Int):Int->Int:=Zcd N (ofA mask q) i i
theorem Zqe(N:Nat)(q:List HArc)(mask must i:Int):ZbR N (Zd8 N (ofA (bits .andNot .i64 mask must) q) (ofA (bits .and .i64 mask must) q) (bits .andNot .i64 mask must) (bits .and .i64 mask must) i i) 1=ZaO N (ZA N q mask must i):=rfl
theorem Zla{w:I0}{g:Nat}{xs:Iv}(h:Blk w g 3 (xs.map (Value.int .i64))):Ints (fun i=>i=g) w (some ⟨g,0,none⟩) xs:=
 Ints.of_row h rfl fun j v hj=>by rw[List.getElem?_toArray,List.getElem?_map,hj];rfl
theorem Zyn(w:I0)(G:Iw)(p0:OA)(N K:Nat)(q:List HArc)(h:DG w G p0 N K q)(hK:K<=100000)(mask must i:Int):
  Calls Tryz.prog 170 #[.pointer p0,Qi mask,Qi must,Qi i] w fun e w'=>∃A B,e= .returned (.agg #[.pointer p0,Qi mask,Qi must,.slice A N N,.slice B N N])∧LoopI w' A B N (Zab N q mask i) (ZA N q mask must i)∧Upd No w w':=by
 obtain⟨wb,ag⟩:=Qe (w.alloc (.cells #[.pointer none,Qi 0,Qi 0,.slice none 0 0,.slice none 0 0] 213));have u0:Upd No w wb:=by rw[<-ag];exact(Il No w).alloc _
 have HT:=Qh (fun(W:I0) (u:Upd No wb W)=>dto W G p0 N K q (h.no (u0.trans u)) hK mask i i);have HM:=Qh (fun(W:I0) (u:Upd No wb W)=>Zqe N q mask must i▸Zxx W G p0 N K q (h.no (u0.trans u)) hK mask must i i);have bL:Blk wb w.heap.size 213 [.pointer none,Qi 0,Qi 0,.slice none 0 0,.slice none 0 0]:=by rw[<-ag];exact Im w _ _
 have U0:=Qh u0;clear h u0;go_enter Tryz.func170,Tryz.ntmps170;go_wp2_with fail;refine(HT.out wb (Il _ _)).mono ?_;rintro e w1 ⟨ga,rfl,aX,dN,hu1⟩;go_wp2_with fail;refine(HM.out w1 hu1).mono ?_;rintro e w2 ⟨gb,rfl,aS,dF,hu2⟩;have hb:=(bL.upd hu1 id).upd hu2 id;obtain⟨c0,c1,c2,c3,c4⟩:=hb.c5;obtain⟨f0,f1,f2,f3,f4⟩:=hb.f5;have hlt:=bL.lt;have FZ:=hu1.size;have U1:=Qh (((U0.out.trans hu1).trans hu2));have dq:=Qh (aX.upd hu2 id);have dR:=Qh aS;have n1:ga≠w.heap.size:=by omega
 have n2:gb≠w.heap.size:=by omega
 have HB:=Qh hb;clear ag bL hb aX aS HT HM hu1 hu2;go_wp2;have b3:=(((((HB.out).set_ 0 (.pointer p0)).set_ 1 (Qi mask)).set_ 2 (Qi must)).set_ 3 (.slice (some ⟨ga,0,none⟩) (ZaO N (Zcd N (ofA mask q) i i)).length (ZaO N (Zcd N (ofA mask q) i i)).length)).set_ 4 (.slice (some ⟨gb,0,none⟩) (ZaO N (ZA N q mask must i)).length (ZaO N (ZA N q mask must i)).length);simp only[List.set_cons_zero,List.set_cons_succ]at b3;have US:=(((((Il (One w.heap.size) w2).setOne 0 (.pointer p0)).setOne 1 (Qi mask)).setOne 2 (Qi must)).setOne 3 (.slice (some ⟨ga,0,none⟩) (ZaO N (Zcd N (ofA mask q) i i)).length (ZaO N (Zcd N (ofA mask q) i i)).length)).setOne 4 (.slice (some ⟨gb,0,none⟩) (ZaO N (ZA N q mask must i)).length (ZaO N (ZA N q mask must i)).length);refine bodyPost_ret (results_cell_row (p:=8) rfl _ _ _ _ _ _ _ rfl b3 Tryz.underlying213 rfl (by kernel_rfl)) rfl ⟨some ⟨ga,0,none⟩,some ⟨gb,0,none⟩,by simp only[ZcC],⟨?_,?_⟩,?_⟩
 ·exact(Zla (dq.out.upd US n1)).weak (fun _ _ _=>trivial)
 ·exact(Zla (dR.out.upd US n2)).weak (fun _ _ _=>trivial)
 ·exact U1.out.then_ US fun k e=> .inr (by unfold One at e;omega)
/- Closed walks,plain:the bounds of the rows. -/
theorem Zqz{p:List HArc}{i:Int}:∀{l:List HArc} {u:Int},okW p i u l i->i<=u
 |[],u,h=>by have h:u=i:=h;omega
 |_::_,_,h=>h.2.2.1
theorem ZlH{N:Nat}{q:List HArc}(hN:N<=100000)(hr:∀a∈q,Zo N a=true)(mask must i:Int)(h0:0<=i)(h1:i<(N:Int)):
  ∀u,(-1<=Zab N q mask i u∧Zab N q mask i u<=900000)∧-1<=ZA N q mask must i u∧ZA N q mask must i u<=900000:=by
 intro u
 have hf:∀m,∀x∈ofA m q,0<=x.f∧x.f<(N:Int):=fun m x hx=>by
  have:=(ZQ _ _).1 (hr x (mem_ofA.1 hx).1);exact⟨this.1,this.2.1⟩
 have hs:=Zhx h0 h1;have hd:=ZmN (hf mask) i i;refine⟨⟨hd.lo u,?_⟩,?_⟩
 ·have:=hd.hi u;unfold Zab;omega
 have j9:i*2∈Zg (2*N):=mem_nodesZ.2 ⟨by omega,by omega⟩;have aT:∀v∈Zg (2*N),∀u∈ZG (ofA (bits .andNot .i64 mask must) q) (ofA (bits .and .i64 mask must) q) (bits .andNot .i64 mask must) (bits .and .i64 mask must) v,Zm i u=true->u∈Zg (2*N):=fun v _ u hu _=>ZhS (hf _) (hf _) v u hu
 have B0:=BInv.start (ok:=Zm i) (ps:=ZG (ofA (bits .andNot .i64 mask must) q) (ofA (bits .and .i64 mask must) q) (bits .andNot .i64 mask must) (bits .and .i64 mask must)) j9 (Zv (2*N));have B1:=Zgp (Zv (2*N)) aT (2*N) _ _ B0 (by have:=B0.fit;unfold Fits at this;rw[Z6]at this;exact this)
 have hw:ZA N q mask must i u=Zbx (Zm i) (ZG (ofA (bits .andNot .i64 mask must) q) (ofA (bits .and .i64 mask must) q) (bits .andNot .i64 mask must) (bits .and .i64 mask must)) (2*N) ((fun u=>if u=i*2 then 0 else -1),[i*2]) (u*2+1):=by
  unfold ZA Zd8;rw[if_pos hs];rfl
 have h2:=B1.lo (u*2+1);have h3:=B1.cap (u*2+1);rw[Z6]at h3;rw[hw];exact⟨h2,by omega⟩
theorem ZnE{N:Nat}{q:List HArc}(hN:N<=100000)(hr:∀a∈q,Zo N a=true)(mask must i:Int)(h0:0<=i)(h1:i<(N:Int)):
  ∀u,(-1<=Zab N q mask i u∧Zab N q mask i u<=1000000)∧-1<=ZA N q mask must i u∧ZA N q mask must i u<=1000000:=fun u=>by
 have:=ZlH hN hr mask must i h0 h1 u;omega
theorem ZrR{N:Nat}{q:List HArc}(hr:∀a∈q,Zo N a=true)(mask must i:Int)(h0:0<=i)(h1:i<(N:Int))(u:Int)(hu:0<=Zab N q mask i u):i<=u:=by
 obtain⟨l,h,_⟩:=(Zf9 hr mask must i h0 h1).a2 u hu;exact Zqz h
theorem Znx{N:Nat}{q:List HArc}(hr:∀a∈q,Zo N a=true)(mask must i:Int)(h0:0<=i)(h1:i<(N:Int))(u:Int)(hu:0<=ZA N q mask must i u):i<=u:=by
 obtain⟨l,h,_⟩:=(Zf9 hr mask must i h0 h1).w2 u hu;exact Zqz h
/- Closed walks:how many arcs the shortest has. -/
theorem Zu3{must:Int}{da dw:Int->Int}(lc:∀u,(-1<=da u∧da u<=1000000)∧-1<=dw u∧dw u<=1000000)(need:Bool)(x:HArc): -1<=ZR must da dw need x∧ZR must da dw need x<=1000000:=by
 unfold ZR
 split
 ·exact(lc x.t).2
 ·exact(lc x.t).1
theorem Zne(lf:HArc->Int)(best:Int)(a:HArc)(l:List HArc):Z4 lf best (a::l)=Z4 lf (if (decide (0<=lf a)&&(best==0||decide (lf a+1<best)))=true then lf a+1 else best) l:=rfl
theorem Zrv(w:I0)(G:Iw)(p0 A B:OA)(N K:Nat)(q:List HArc)(hG:DG w G p0 N K q)(hK:K<=100000)(mask must:Int)(da dw:Int->Int)(h:LoopI w A B N da dw)
  (lc:∀u,(-1<=da u∧da u<=1000000)∧-1<=dw u∧dw u<=1000000) (i:Int) (need:Bool):
  CN 171 #[.agg #[.pointer p0,Qi mask,Qi must,.slice A N N,.slice B N N],Qi i,.bool need] w (Qi (Zag (ofA mask q) must i da dw need)):=by
 obtain⟨wb,ag⟩:=Qe (w.alloc (.cells #[.pointer p0,Qi mask,Qi must,.slice A N N,.slice B N N] 213));have u0:Upd No w wb:=by rw[<-ag];exact(Il No w).alloc _
 have bL:Blk wb w.heap.size 213 [.pointer p0,Qi mask,Qi must,.slice A N N,.slice B N N]:=by rw[<-ag];exact Im w _ _
 have U0:=Qh u0;obtain⟨ys,iO⟩:∃ys,((ofA mask q).filter fun a=>a.f==i)=ys:=⟨_,rfl⟩
 have hyr:∀y∈ys,(1<=y.kind∧y.kind<=3)∧0<=y.t∧y.t<(N:Int):=fun y hy=>by
  rw[<-iO]at hy;have:=(ZQ _ _).1 (hG.right y (mem_ofA.1 (Hy.1 hy).1).1);exact⟨⟨this.2.2.2.2.1,this.2.2.2.2.2.1⟩,this.2.2.1,this.2.2.2.1⟩
 have lB:ys.length<=1000000:=by
  rw[<-iO];have h1:=Gj (fun a:HArc=>a.f==i) (ofA mask q);have h2:=Gj (fun x:HArc=>Zf mask x.kind) q;have h3:=hG.few;unfold ofA at h1 ⊢;omega
 have HO:=Qh (iO▸Zub (hG.no u0) i mask);have eq:=Qh (fun(W:I0) (u:Upd No wb W)=>h.upd (u0.trans u));have qD:=Qh (fun(W:I0) (u:Upd No wb W)=>bL.upd u id);obtain⟨R,hR⟩:=Qe (Zag (ofA mask q) must i da dw need);have HR:=Qh (show Z4 (ZR must da dw need) 0 ys=R by rw[<-hR,<-iO];rfl);rw[hR];obtain⟨c0,c1⟩:=bL.c2;have HY:=Qh hyr;clear hR iO hG h bL u0 hyr;go_enter Tryz.func171,Tryz.ntmps171;go_wp2_with fail;refine(HO.out).mono ?_;rintro e w1 ⟨A1,k1,rfl,cn,hu1⟩;have uf:=Qh (Zff cn);have ie:=Qh hu1;clear cn hu1 HO c0 c1;go_wp2
 go_loopg [7,18] ys.length (fun gk s j wr=>∃(k:Nat) (b:Int),k+gk=ys.length∧j= Qi k∧s= Qi b∧0<=b∧b<=1000001∧Hid (Z4 (ZR must da dw need) b (ys.drop k)=R)∧Upd No w1 wr)
 case atStart=>exact⟨0,0,by omega,rfl,rfl,by omega,by omega,HR,Il _ _⟩
 case round=>
  obtain⟨k,b,aI,rfl,rfl,hb0,aX,hs,hu⟩:=hrel
  by_cases hlt:k<ys.length
  ·obtain⟨ax,rfl,q0,q1,q2,q3⟩:=(uf.out.upd hu Qo).at_ hlt;obtain⟨x,hx⟩:=Qe (ys[k]);obtain⟨⟨hk1,hk2⟩,kQ,lO⟩:=HY.out _ (Hg hlt);rw[hx]at q0 q1 q2 q3 hk1 hk2 kQ lO;have ip:=hs.out;rw[Ge hlt,hx,Zne]at ip;have hv:=Zu3 (must:=must) lc need x;have i1:(0:Int)<=(k:Int):=Qn _;have i2:(k:Int)<(ys.length:Int):=by omega
   have uA:=(Il No wr).alloc (.cells #[Qi x.f,Qi x.t,Qi x.kind,Qi x.label] 119);have bo:=Im wr 119 [Qi x.f,Qi x.t,Qi x.kind,Qi x.label];obtain⟨g0,g1,g2,g3⟩:=bo.c4;have bw:=qD.out _ ((ie.out.trans hu).trans uA);obtain⟨c0,c1,c2,c3,c4⟩:=bw.c5;have HF:=Qh (Zuh _ p0 A B N mask must da dw (eq.out _ ((ie.out.trans hu).trans uA)) x hk1 hk2 kQ lO need);generalize ZR must da dw need x=v at ip hv HF;have ap:IntKind.i64.wrap (v+1)=v+1:=IntWalk.i64_in _ (by omega);have zc:=Qh (hu.trans uA);have HS:=Qh ip;unfold HArc.cells at HF;clear hs ip hx hk1 hk2 kQ lO bo bw uA;go_wp2_with fail;refine Ck HF.out fun w2 hu2=>?_;have de:=Qh (zc.out.trans hu2);clear hu2 HF
   by_cases hv0:0<=v
   ·have hn1:decide (0<=v)=true:=Qt hv0
    by_cases hbz:b=0
    ·subst hbz;have aU:=Qh (show Z4 (ZR must da dw need) (v+1) (ys.drop (k+1))=R by have:=HS.out;rw[hn1]at this;exact this);go_wp2;go_roundg (gk-1);exact⟨k+1,v+1,by omega,by go_num,by first|rfl|simp,by omega,by omega,aU,de.out⟩;omega
    ·have dY:(b==0)=false:=beq_eq_false_iff_ne.2 hbz
     by_cases hvb:v+1<b
     ·have wX:decide (v+1<b)=true:=Qt hvb;have aU:=Qh (show Z4 (ZR must da dw need) (v+1) (ys.drop (k+1))=R by have:=HS.out;rw[hn1,dY,wX]at this;exact this);go_wp2;go_roundg (gk-1);exact⟨k+1,v+1,by omega,by go_num,by first|rfl|simp,by omega,by omega,aU,de.out⟩;omega
     ·have wX:decide (v+1<b)=false:=Qf hvb;have aU:=Qh (show Z4 (ZR must da dw need) b (ys.drop (k+1))=R by have:=HS.out;rw[hn1,dY,wX]at this;exact this);go_wp2;go_roundg (gk-1);exact⟨k+1,b,by omega,by go_num,by first|rfl|simp,by omega,by omega,aU,de.out⟩;omega
   ·have hn1:decide (0<=v)=false:=Qf hv0;have aU:=Qh (show Z4 (ZR must da dw need) b (ys.drop (k+1))=R by have:=HS.out;rw[hn1]at this;exact this);go_wp2;go_roundg (gk-1);exact⟨k+1,b,by omega,by go_num,by first|rfl|simp,by omega,by omega,aU,de.out⟩;omega
  ·obtain rfl:k=ys.length:=by omega
   have Hx:=Qh (show b=R by have:=hs.out;rw[G9]at this;exact this);clear hs;go_wp2;go_ret;exact⟨by first|rfl|(rw[Hx.out];rfl)|(rw[<-Hx.out];rfl),(U0.out.trans ie.out).trans hu⟩
/- Closed walks:the first of so many arcs. -/
def isC(must i:Int)(da dw:Int->Int)(n:Int)(need:Bool)(a:HArc):Bool:=decide (i<=a.t)&&decide (ZR must da dw need a=n)
theorem Zor{p:List HArc}{must i:Int}{da dw:Int->Int}{n:Nat}{av:Int}{need:Bool}{a:HArc}(h:(p.filter fun a=>a.f==av).find? (isC must i da dw (n:Int) need)=some a):
  ZO p must i da dw (n+1) av need=a::ZO p must i da dw n a.t (need&& !isM must a):=by
 show(match (p.filter fun a=>a.f==av).find? (isC must i da dw (n:Int) need)with|some a=>a::ZO p must i da dw n a.t (need&& !isM must a)|none=>ZO p must i da dw n av need)=_
 rw[h]
theorem Zos{p:List HArc}{must i:Int}{da dw:Int->Int}{n:Nat}{av:Int}{need:Bool}(h:(p.filter fun a=>a.f==av).find? (isC must i da dw (n:Int) need)=none):
  ZO p must i da dw (n+1) av need=ZO p must i da dw n av need:=by
 show(match (p.filter fun a=>a.f==av).find? (isC must i da dw (n:Int) need)with|some a=>a::ZO p must i da dw n a.t (need&& !isM must a)|none=>ZO p must i da dw n av need)=_
 rw[h]
theorem Zpm{l:List HArc}{k:Nat}{x:HArc}{P:HArc->Bool}(hk:k<l.length)(hx:l[k]=x)(h:P x=true):(l.drop k).find? P=some x:=by
 rw[Ge hk,hx,List.find?_cons_of_pos h]
theorem Zjl{l:List HArc}{k:Nat}{x:HArc}{P:HArc->Bool}(hk:k<l.length)(hx:l[k]=x)(h:P x=false):(l.drop k).find? P=(l.drop (k+1)).find? P:=by
 rw[Ge hk,hx,List.find?_cons_of_neg (by simp[h])]
theorem ZqG(must:Int)(x:HArc):(x.kind=1->(bits .and .i64 (must/2) 1==0)= !isM must x)∧(x.kind=2->(bits .and .i64 (must/4) 1==0)= !isM must x)∧(x.kind=3->(bits .and .i64 (must/8) 1==0)= !isM must x):=by
 unfold isM Zf;refine⟨fun e=>?_,fun e=>?_,fun e=>?_⟩<;>(rw[Zdn,e];rfl)
theorem ZxE(w:I0)(G:Iw)(p0 A B:OA)(N K:Nat)(q:List HArc)(hG:DG w G p0 N K q)(hK:K<=100000)(mask must:Int)(da dw:Int->Int)(h:LoopI w A B N da dw)
  (lc:∀u,(-1<=da u∧da u<=1000000)∧-1<=dw u∧dw u<=1000000) (i:Int) (n:Nat) (hn:n<=1000000) (need:Bool):
  Calls Tryz.prog 172 #[.agg #[.pointer p0,Qi mask,Qi must,.slice A N N,.slice B N N],Qi i,Qi n,.bool need] w (Zm5 w (ZO (ofA mask q) must i da dw n i need)):=by
 obtain⟨wb,ag⟩:=Qe (w.alloc (.cells #[.pointer p0,Qi mask,Qi must,.slice A N N,.slice B N N] 213));have u0:Upd No w wb:=by rw[<-ag];exact(Il No w).alloc _
 have bL:Blk wb w.heap.size 213 [.pointer p0,Qi mask,Qi must,.slice A N N,.slice B N N]:=by rw[<-ag];exact Im w _ _
 have U0:=Qh u0;obtain⟨p,hp⟩:=Qe (ofA mask q)
 have iF:∀y∈p,(1<=y.kind∧y.kind<=3)∧0<=y.t∧y.t<(N:Int):=fun y hy=>by
  rw[<-hp]at hy;have:=(ZQ _ _).1 (hG.right y (mem_ofA.1 hy).1);exact⟨⟨this.2.2.2.2.1,this.2.2.2.2.2.1⟩,this.2.2.1,this.2.2.2.1⟩
 have hpl:p.length<=1000000:=by
  rw[<-hp];have h2:=Gj (fun x:HArc=>Zf mask x.kind) q;have h3:=hG.few;unfold ofA;omega
 have HO:=Qh (fun(W:I0) (u:Upd No wb W) (j:Int)=>hp▸Zub (hG.no (u0.trans u)) j mask);have eq:=Qh (fun(W:I0) (u:Upd No wb W)=>h.upd (u0.trans u));have qD:=Qh (fun(W:I0) (u:Upd No wb W)=>bL.upd u id);have aG:=Qh bL.lt;rw[hp];obtain⟨R,hR⟩:=Qe (ZO p must i da dw n i need);have HR:=Qh hR;rw[hR];have HP:=Qh iF;clear hR hp hG h bL u0 iF;go_enter Tryz.func172,Tryz.ntmps172;go_wp2
 go_loopg [2,3,9,10] n (fun gk sn sd s a wr=>∃(nd:Bool) (A5:OA) (c5:Nat) (xs:List HArc) (ai:Int),sn= Qi (gk:Int)∧sd= .bool nd∧s= .slice A5 xs.length c5∧a= Qi ai∧Hid (xs++ZO p must i da dw gk ai nd=R)∧
  xs.length+gk<=n∧wr.ownsRow wb.heap.size 119 4 (.slice A5 xs.length c5) xs.length (Za4 xs)∧Upd No wb wr)
 case atStart=>exact⟨need,none,0,[],i,rfl,rfl,rfl,rfl,Qh (by rw[H8];exact HR.out),by simp,Ik _ _ _ _,Il _ _⟩
 case round=>
  obtain⟨nd,A5,c5,xs,ai,rfl,rfl,rfl,rfl,hR,hxl,ae,hu⟩:=hrel
  cases gk with
  |zero=>
   have Eh:=Qh (show xs=R by have:=hR.out;simpa[ZO]using this);clear hR;go_wp2;go_ret;have:=U0.out.size;rw[<-Eh.out];exact⟨A5,c5,rfl,ZK ae this,U0.out.trans hu⟩
  |succ g1=>
   obtain⟨ys,iO⟩:∃ys,(p.filter fun a=>a.f==ai)=ys:=⟨_,rfl⟩;have lB:ys.length<=1000000:=by rw[<-iO];exact Nat.le_trans (Gj _ _) hpl
   have gi:∀y∈ys,y∈p:=fun y hy=>by rw[<-iO]at hy;exact(Hy.1 hy).1
   have hO:=Qh (iO▸HO.out wr hu ai);have nv:=Qh iO;have Ej:=Qh gi;have cM:=hR;have bw:=qD.out wr hu;obtain⟨c0,c1⟩:=bw.c2;have jm:(0:Int)<((g1+1:Nat):Int):=by omega
   clear iO gi hR bw;obtain⟨ng,jy⟩:=Qe (((g1+1:Nat):Int):Int);rw[jy]at jm;have ap:IntKind.i64.wrap (ng-1)=ng-1:=IntWalk.i64_in _ (by omega);generalize hgg:g1+1=m0 at*;rw[jy];go_wp2_with fail;refine(hO.out).mono ?_;rintro e w3 ⟨A7,c7,rfl,ed,aq⟩;have oS:=Qh ae;have HY:=Qh (Zff ed);have eH:=Qh (Za ae aq Qo);have bg:=Qh (hu.trans aq);clear hO ed aq ae hu c0 c1;go_wp2;obtain⟨fo,iC⟩:=Qe (ys.find? (isC must i da dw (g1:Int) nd));have oY:=Qh iC;have b8:=Qh (show(g1:Int)=ng-1 by omega);clear iC
   go_loopg [3,9,10,25] ys.length (fun gk sd s a j wr=>∃(k:Nat),k+gk=ys.length∧j= Qi k∧sd= .bool nd∧s= .slice A5 xs.length c5∧a= Qi ai∧Hid ((ys.drop k).find? (isC must i da dw (g1:Int) nd)=fo)∧Upd No w3 wr)
   case atStart=>exact⟨0,by omega,rfl,rfl,rfl,rfl,oY,Il _ _⟩
   case round=>
    obtain⟨k,kP,rfl,rfl,rfl,rfl,hf,hu⟩:=hrel
    by_cases hlt:k<ys.length
    ·obtain⟨ax,rfl,q0,q1,q2,q3⟩:=(HY.out.upd hu Qo).at_ hlt;obtain⟨x,hx⟩:=Qe (ys[k]);obtain⟨⟨hk1,hk2⟩,kQ,lO⟩:=HP.out _ (Ej.out _ (Hg hlt));rw[hx]at q0 q1 q2 q3 hk1 hk2 kQ lO;have i1:(0:Int)<=(k:Int):=Qn _;have i2:(k:Int)<(ys.length:Int):=by omega
     obtain⟨wx,aJ⟩:=Qe (wr.alloc (.cells #[Qi x.f,Qi x.t,Qi x.kind,Qi x.label] 119));have ux:Upd No wr wx:=by rw[<-aJ];exact(Il No wr).alloc _
     have bo:Blk wx wr.heap.size 119 [Qi x.f,Qi x.t,Qi x.kind,Qi x.label]:=by rw[<-aJ];exact Im wr _ _
     have a9:=Qh (hu.trans ux);obtain⟨g0,g1',g2,g3⟩:=bo.c4;have bw:=qD.out wx (bg.out.trans a9.out);obtain⟨c0,c1,c2,c3,c4⟩:=bw.c5;have ep:=Za eH.out hu Qo;have eB:=Qh (fun i e=>(ep.lt i e).2);have di:=Qh (fun i e=>(ep.lt i e).1);have Cd:=Qh (Za ep ux Qo);have BO:=Qh bo;have HF:=Qh (Zuh wx p0 A B N mask must da dw (eq.out wx (bg.out.trans a9.out)) x hk1 hk2 kQ lO nd);have HK:=Qh (show x.kind=1∨x.kind=2∨x.kind=3 by omega);have HX:=Qh hx;have bP:isC must i da dw (g1:Int) nd x=(decide (i<=x.t)&&decide (ZR must da dw nd x=ng-1)):=by unfold isC;rw[b8.out]
     generalize ZR must da dw nd x=v at bP HF;have kh:=Qh bP;unfold HArc.cells at HF;clear hx hk1 hk2 kQ lO bo bw ux ep bP hu
     by_cases hl:x.t<i
     ·have HN:=Qh (show(ys.drop (k+1)).find? (isC must i da dw (g1:Int) nd)=fo by rw[<-hf.out,Zjl hlt HX.out (by rw[kh.out,Qf (by omega)];rfl)]);go_wp2;go_roundg (gk-1);exact⟨k+1,by omega,by go_num,rfl,rfl,rfl,HN,a9.out⟩;omega
     ·go_wp2_with fail;refine Ck HF.out fun w4 hu4=>?_;have bo4:=BO.out.upd hu4 id;obtain⟨g0,g1',g2,g3⟩:=bo4.c4;have tS:=Qh (qD.out w4 ((bg.out.trans a9.out).trans hu4));have lM:=Qh (Za Cd.out hu4 Qo);have dl:=Qh ((bg.out.trans a9.out).trans hu4);have yT:=Qh (a9.out.trans hu4);have fT:=((bg.out.trans a9.out).trans hu4).size;have ld:=Qh bo4;clear bo4 BO Cd HF hu4 c0 c1 c2 c3 c4 q0 q1 q2 q3 aJ
      by_cases hv:v=ng-1
      ·have dS:(v==ng-1)=true:=by simpa using hv
       have dH:(v != ng-1)=false:=by simpa using hv
       have zR:=Qh (show fo=some x by rw[<-hf.out,Zpm hlt HX.out (by rw[kh.out,Qt hl,Qt hv];rfl)])
       have jF:=Qh (show xs++(x::ZO p must i da dw g1 x.t (nd&& !isM must x))=R by
        have:=cM.out;rw[<-hgg,Zor (by rw[nv.out,oY.out,zR.out])]at this;exact this)
       clear kh HX zR hv hf;have HL:=Qh (Zlf xs);obtain⟨xf,xt,xk,xl⟩:=x;simp only at g0 g1' g2 g3 jF HK
       cases nd
       ·have n9:=Qh (show(xs++[(⟨xf,xt,xk,xl⟩:HArc)])++ZO p must i da dw g1 xt false=R by have:=jF.out;rw[Bool.false_and]at this;rw[Gx];exact this);clear jF;go_wp2_with (at_builtin;refine ZbG rfl rfl Zey (v:= .slice A5 xs.length c5) (n:=xs.length) (xs:=Za4 xs) (by rfl) rfl lM.out rfl rfl (by omega) (by omega) fT ?_;intro g9 c9 w9 aO aL fI eG;have b9:=ld.out.upd aL (fun e=>absurd (eB.out _ e) (Nat.lt_irrefl _));have l9:=tS.out.upd aL (fun e=>absurd aG.out (Nat.not_lt.2 (di.out _ e)));have r1:=b9.cell 1;have r2:=b9.cell 2;have r3:=l9.cell 2;simp only[Qz,Qs]at r1 r2 r3;have fM:=Qh aO;have eZ:=Qh aL;clear aO aL fI b9 l9 g0 g1' g2 g3);go_roundg g1;exact⟨_,some ⟨g9,0,none⟩,c9,_,_,by rw[b8.out],rfl,by simp,rfl,n9,by simp;omega,by simpa[Za4,HArc.cells]using fM.out,dl.out.then_ eZ.out fun i e=> .inr (di.out i e)⟩;omega
       ·have i9:=Qh (ZqG must ⟨xf,xt,xk,xl⟩);rcases HK.out with rfl|rfl|rfl
        ·have n9:=Qh (show(xs++[(⟨xf,xt,1,xl⟩:HArc)])++ZO p must i da dw g1 xt (bits .and .i64 (must/2) 1==0)=R by have:=jF.out;rw[Bool.true_and,<-i9.out.1 rfl]at this;rw[Gx];exact this);clear jF HK;go_wp2_with (at_builtin;refine ZbG rfl rfl Zey (v:= .slice A5 xs.length c5) (n:=xs.length) (xs:=Za4 xs) (by rfl) rfl lM.out rfl rfl (by omega) (by omega) fT ?_;intro g9 c9 w9 aO aL fI eG;have b9:=ld.out.upd aL (fun e=>absurd (eB.out _ e) (Nat.lt_irrefl _));have l9:=tS.out.upd aL (fun e=>absurd aG.out (Nat.not_lt.2 (di.out _ e)));have r1:=b9.cell 1;have r2:=b9.cell 2;have r3:=l9.cell 2;simp only[Qz,Qs]at r1 r2 r3;have fM:=Qh aO;have eZ:=Qh aL;clear aO aL fI b9 l9 g0 g1' g2 g3);go_roundg g1;exact⟨_,some ⟨g9,0,none⟩,c9,_,_,by rw[b8.out],rfl,by simp,rfl,n9,by simp;omega,by simpa[Za4,HArc.cells]using fM.out,dl.out.then_ eZ.out fun i e=> .inr (di.out i e)⟩;omega
        ·have n9:=Qh (show(xs++[(⟨xf,xt,2,xl⟩:HArc)])++ZO p must i da dw g1 xt (bits .and .i64 (must/4) 1==0)=R by have:=jF.out;rw[Bool.true_and,<-i9.out.2.1 rfl]at this;rw[Gx];exact this);clear jF HK;go_wp2_with (at_builtin;refine ZbG rfl rfl Zey (v:= .slice A5 xs.length c5) (n:=xs.length) (xs:=Za4 xs) (by rfl) rfl lM.out rfl rfl (by omega) (by omega) fT ?_;intro g9 c9 w9 aO aL fI eG;have b9:=ld.out.upd aL (fun e=>absurd (eB.out _ e) (Nat.lt_irrefl _));have l9:=tS.out.upd aL (fun e=>absurd aG.out (Nat.not_lt.2 (di.out _ e)));have r1:=b9.cell 1;have r2:=b9.cell 2;have r3:=l9.cell 2;simp only[Qz,Qs]at r1 r2 r3;have fM:=Qh aO;have eZ:=Qh aL;clear aO aL fI b9 l9 g0 g1' g2 g3);go_roundg g1;exact⟨_,some ⟨g9,0,none⟩,c9,_,_,by rw[b8.out],rfl,by simp,rfl,n9,by simp;omega,by simpa[Za4,HArc.cells]using fM.out,dl.out.then_ eZ.out fun i e=> .inr (di.out i e)⟩;omega
        ·have n9:=Qh (show(xs++[(⟨xf,xt,3,xl⟩:HArc)])++ZO p must i da dw g1 xt (bits .and .i64 (must/8) 1==0)=R by have:=jF.out;rw[Bool.true_and,<-i9.out.2.2 rfl]at this;rw[Gx];exact this);clear jF HK;go_wp2_with (at_builtin;refine ZbG rfl rfl Zey (v:= .slice A5 xs.length c5) (n:=xs.length) (xs:=Za4 xs) (by rfl) rfl lM.out rfl rfl (by omega) (by omega) fT ?_;intro g9 c9 w9 aO aL fI eG;have b9:=ld.out.upd aL (fun e=>absurd (eB.out _ e) (Nat.lt_irrefl _));have l9:=tS.out.upd aL (fun e=>absurd aG.out (Nat.not_lt.2 (di.out _ e)));have r1:=b9.cell 1;have r2:=b9.cell 2;have r3:=l9.cell 2;simp only[Qz,Qs]at r1 r2 r3;have fM:=Qh aO;have eZ:=Qh aL;clear aO aL fI b9 l9 g0 g1' g2 g3);go_roundg g1;exact⟨_,some ⟨g9,0,none⟩,c9,_,_,by rw[b8.out],rfl,by simp,rfl,n9,by simp;omega,by simpa[Za4,HArc.cells]using fM.out,dl.out.then_ eZ.out fun i e=> .inr (di.out i e)⟩;omega
      ·have dS:(v==ng-1)=false:=by simpa using hv
       have dH:(v != ng-1)=true:=by simpa using hv
       have HN:=Qh (show(ys.drop (k+1)).find? (isC must i da dw (g1:Int) nd)=fo by rw[<-hf.out,Zjl hlt HX.out (by rw[kh.out,Qf hv,Bool.and_false])]);clear kh HX hv hf;go_wp2;go_roundg (gk-1);exact⟨k+1,by omega,by go_num,rfl,rfl,rfl,HN,yT.out⟩;omega
    ·obtain rfl:k=ys.length:=by omega
     have jF:=Qh (show xs++ZO p must i da dw g1 ai nd=R by
      have iC:=hf.out;rw[G9,List.find?_nil]at iC;have:=cM.out;rw[<-hgg,Zos (by rw[nv.out,oY.out,<-iC])]at this;exact this)
     clear hf oY;go_wp2;go_roundg g1;exact⟨nd,A5,c5,xs,ai,by rw[b8.out],rfl,rfl,rfl,jF,by omega,Za eH.out hu Qo,bg.out.trans hu⟩;omega
/- Closed walks:numbers by ranks. -/
theorem ZfI(w:I0)(base:Nat)(A:OA)(c:Nat)(l:Iv)(ae:w.ownsRow base 3 1 (.slice A l.length c) l.length (l.map (Value.int .i64)))(hl:l.length<=17592186044415):
  Calls Tryz.prog 218 #[.slice A l.length c] w fun e w'=>e= .returned (.slice A (ZJ l).length c)∧w'.ownsRow base 3 1 (.slice A (ZJ l).length c) (ZJ l).length ((ZJ l).map (Value.int .i64))∧Upd (Own (.slice A l.length c)) w w':=by
 have HS:=Qh (Zgb w base A c l ae hl)
 have HC:=Qh (fun(W:I0) (ho:W.ownsRow base 3 1 (.slice A l.length c) l.length ((Z1 l).map (Value.int .i64)))=>(by
  have h1:=ZeO W base A c (Z1 l) (by rw[Zbk];exact ho) (by rw[Zbk];exact hl);rw[Zbk,ZbP]at h1;exact h1:Calls Tryz.prog 49 #[.slice A l.length c] W fun e w'=>e= .returned (.slice A (ZJ l).length c)∧w'.ownsRow base 3 1 (.slice A (ZJ l).length c) (ZJ l).length ((ZJ l).map (Value.int .i64))∧Upd (Own (.slice A l.length c)) W w'))
 clear ae;go_enter Tryz.func218,Tryz.ntmps218;go_wp2_with fail;refine(HS.out).mono ?_;rintro e w1 ⟨rfl,cn,hu1⟩;go_wp2_with fail;refine(HC.out w1 cn).mono ?_;rintro e w2 ⟨rfl,cE,hu2⟩;go_wp2;go_ret;exact⟨rfl,cE,hu1.trans hu2⟩
