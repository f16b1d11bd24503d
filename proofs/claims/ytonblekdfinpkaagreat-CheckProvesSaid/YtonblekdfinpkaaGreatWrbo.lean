/- Ways: how far each node is, by walks with an arc of another mask: the walk. -/
import Derived.Test.YtonblekdfinpkaaGreatWrbn
namespace Go.Proofs.YtonblekdfinpkaaGreat
set_option linter.unusedVariables false
set_option linter.unusedSimpArgs false
section
open Go.RowKit
theorem Zm5 {wb W:World} {a b:Value} {t:TypeId} (_h:Upd No wb (W.alloc (.cells #[a,b] t))):Blk (W.alloc (.cells #[a,b] t)) W.heap.size t [a,b]:=Blk.new W t [a,b]
theorem Zky {wb W:World} {a b:Value} {t:TypeId} (_h:Upd No wb (W.alloc (.cells #[a,b] t)).drew):Blk (W.alloc (.cells #[a,b] t)).drew W.heap.size t [a,b]:=Blk.new W t [a,b]
theorem Zfk {wb W:World} {o:Obj} (_h:Upd No wb (W.alloc o)):Upd No W (W.alloc o):=(Upd.refl No W).alloc o
theorem ZeU {P:Program} {ops:Array Oper} {o:Oper} {a:Act} {W:World} {K:Act→World→Prop} {Q:Exit→Act→World→Prop} {E:Prop} (hgd:o.guard=none) {ty:TypeId} {x y:Operand} (ho:o.op= .store ty x y)
  {g:Nat} {t:TypeId} {old cells:List Value} (hx:a.eval x= .pointer (some ⟨g,0,none⟩)) (hy:a.eval y= .agg cells.toArray) (hb:Blk W g t old) (hi:(P.info? ty).map (·.size)=some cells.length) (hold:old.length=cells.length)
  (h1:cells.all (·.oneCell')=true) (h:∀w',Blk w' g t cells→Upd (One g) W w'→K (a.put o.dst undef) w'):if Region.wanted o (yielded ops a.tmps)=true then Oper.wp P o a W K Q else E:=by
 rw[if_pos (by simp[Region.wanted,hgd])];refine wp_store_row ty x y ho g cells.toArray hx hy t old.toArray hb (by simpa using hi) (by simpa using hold) (by simpa using h1) ?_;exact h _ (setRow_heap W g old.toArray cells.toArray t (0,0) hb) ⟨rfl,rfl,rfl,by simp[World.setRow],fun k hk hn=>setRow_other W g k _ hn⟩
theorem ZuF (W:World) (a b:Int):(Instr.index 265 (.agg #[.int .i64 a,.int .i64 b]) (.int .i64 0)).run Tryz.prog W= .ok (.int .i64 a) W:=by
 have hi:(Tryz.prog.info? 3).map (fun i=>(i.zero,i.size))=some (some (.int .i64 0),1):=by kernel_rfl
 obtain⟨i,h1,h2⟩:=Option.map_eq_some_iff.1 hi;simp only[Prod.mk.injEq]at h2;simp[Instr.index,run_underlying Tryz.underlying265,asIntOf,go_sem,sizeOf,typeInfo,h1,h2]
theorem ZuE (W:World) (a b:Int):(Instr.index 265 (.agg #[.int .i64 a,.int .i64 b]) (.int .i64 1)).run Tryz.prog W= .ok (.int .i64 b) W:=by
 have hi:(Tryz.prog.info? 3).map (fun i=>(i.zero,i.size))=some (some (.int .i64 0),1):=by kernel_rfl
 obtain⟨i,h1,h2⟩:=Option.map_eq_some_iff.1 hi;simp only[Prod.mk.injEq]at h2;simp[Instr.index,run_underlying Tryz.underlying265,asIntOf,go_sem,sizeOf,typeInfo,h1,h2]
def Zbd (a b:List Int):Nat→List Int
 |0=>[]
 |1=>a
 |_=>a++b
def ZdC (a b:List Int):Nat→List Int
 |0=>a++b
 |1=>b
 |_=>[]
set_option maxRecDepth 100000 in
set_option maxHeartbeats 8000000 in
theorem ZuO (w:World) (G:Nat→Prop) (p0:Option Addr) (N K:Nat) (q:List HArc) (h:DG w G p0 N K q) (hK:K≤100000) (mask must node least:Int):
  Calls Tryz.prog 186 #[.pointer p0,.int .i64 mask,.int .i64 must,.int .i64 node,.int .i64 least] w (Zoa w (ZbC N (ZdF N (ofA (bits .andNot .i64 mask must) q) (ofA (bits .and .i64 mask must) q) (bits .andNot .i64 mask must) (bits .and .i64 mask must) least node) 1)):=by
 have hN:=h.nodes_le;obtain⟨m1,hm1⟩:∃m,bits .andNot .i64 mask must=m:=⟨_,rfl⟩;obtain⟨m2,hm2⟩:∃m,bits .and .i64 mask must=m:=⟨_,rfl⟩;rw[hm1,hm2];obtain⟨p1,hp1⟩:∃p,ofA m1 q=p:=⟨_,rfl⟩;obtain⟨p2,hp2⟩:∃p,ofA m2 q=p:=⟨_,rfl⟩
 have hpr1:∀x∈p1,0≤x.f∧x.f<(N:Int):=fun x hx=>by
  rw[←hp1]at hx;have:=(ZI _ _).1 (h.right x (mem_ofA.1 hx).1);exact⟨this.1,this.2.1⟩
 have hpr2:∀x∈p2,0≤x.f∧x.f<(N:Int):=fun x hx=>by
  rw[←hp2]at hx;have:=(ZI _ _).1 (h.right x (mem_ofA.1 hx).1);exact⟨this.1,this.2.1⟩
 obtain⟨wb,hwb⟩:∃wb,w.alloc (.cells #[.pointer p0,.int .i64 mask,.int .i64 least] 295)=wb:=⟨_,rfl⟩;have u0:Upd No w wb:=by rw[←hwb];exact(Upd.refl No w).alloc _
 have bS:Blk wb w.heap.size 295 [.pointer p0,.int .i64 mask,.int .i64 least]:=by rw[←hwb];exact Blk.new w _ _
 have HG:=Qh (fun(W:World) (u:Upd No wb W)=>h.no (u0.trans u));have HP1:=Qh (fun(W:World) (u:Upd No wb W) (i:Int)=>hp1▸ZlK (h.no (u0.trans u)) i m1);have HP2:=Qh (fun(W:World) (u:Upd No wb W) (i:Int)=>hp2▸ZlK (h.no (u0.trans u)) i m2);have ALLS:=Qh (show∀W,Upd No wb W→Upd No wb W∧W.cell? ⟨w.heap.size,0,none⟩=some (.pointer p0)∧W.cell? ⟨w.heap.size,1,none⟩=some (.int .i64 mask)∧W.cell? ⟨w.heap.size,2,none⟩=some (.int .i64 least) from fun W u=>⟨u,(bS.upd u id).cell 0,(bS.upd u id).cell 1,(bS.upd u id).cell 2⟩);have HPR1:=Qh hpr1;have HPR2:=Qh hpr2
 have HPL:=Qh (show p1.length≤100000∧p2.length≤100000 from by
  rw[←hp1,←hp2];have:=h.few;have a1:=List.length_filter_le (fun x=>Zd m1 x.kind) q;have a2:=List.length_filter_le (fun x=>Zd m2 x.kind) q;unfold ofA;omega)
 have U0:=Qh u0;have HNO:=Qh (fun(W:World) (u:Upd No wb W)=>ZrL (h.no (u0.trans u)) mask least);rw[hp1,hp2];clear hp1 hp2 hpr1 hpr2 h bS u0;have UB:=Qh ((Upd.refl No wb).drew)
 go_enter Tryz.func186,Tryz.ntmps186
 go_upto_region 2 with fail
 go_cut [12] (fun s12 wx=>∃(ab g0 g1:Nat),s12= .pointer (some ⟨ab,0,none⟩)∧Blk wx ab 299 [.slice (some ⟨g0,0,none⟩) N N,.slice (some ⟨g1,0,none⟩) N N]∧Blk wx g0 3 ((List.replicate N (-1)).map (Value.int .i64))∧Blk wx g1 3 ((List.replicate N (-1)).map (Value.int .i64))∧
  (ab≠g0∧ab≠g1∧g0≠g1)∧(wb.heap.size≤ab∧wb.heap.size≤g0∧wb.heap.size≤g1)∧Upd No wb wx)
 case first=>
  refine wp_region_noPanic ?_;refine wp_region_held_drew (S:=(fun W'=>Upd No wb W'∧W'.cell? ⟨w.heap.size,0,none⟩=some (.pointer p0)∧W'.cell? ⟨w.heap.size,1,none⟩=some (.int .i64 mask)∧W'.cell? ⟨w.heap.size,2,none⟩=some (.int .i64 least))) (by kernel_rfl) ?_ (fun hHeld=> ?_)
  ·(first|(with_reducible exact ALLS.out _ UB.out)|(with_reducible exact ALLS.out _ (hHeld.1.trans hu4))|(with_reducible exact ALLS.out _ (hHeld.1.alloc _))|exact ALLS.out _ hU5|exact ALLS.out _ (((Upd.refl No wb).alloc _).drew))
  refine wpK 0 rfl ?_;refine wpK 2 rfl ?_;refine wpR [1,5] ?_;refine wpC rfl (fun K hK=> ?_) ?_
  ·go_simp
   (first
   |(go_at_call 225;refine(HNO.out _ hHeld.1).mono ?_;rintro e w4 ⟨g0,rfl,hb0,hg0,hu4⟩;have HB0:=Qh hb0;have HG0:=Qh (Nat.le_trans hHeld.1.size hg0);(try have L0:=Qh (Nat.lt_of_lt_of_le ZZ.out.lt hg0));(try have ZZ:=Qh (ZZ.out.upd hu4 id));clear hb0 hg0))
   try (go_wp2_with fail)
   refine hK.out _ _ ?_ (fun hHeld=> ?_)
   ·(first|(with_reducible exact ALLS.out _ UB.out)|(with_reducible exact ALLS.out _ (hHeld.1.trans hu4))|(with_reducible exact ALLS.out _ (hHeld.1.alloc _))|exact ALLS.out _ hU5|exact ALLS.out _ (((Upd.refl No wb).alloc _).drew))
   clear hK K
   try simp only[Act.put,sT,sS,sZ]
   refine wpR [3,5] ?_;refine wpC rfl (fun K hK=> ?_) ?_
   ·go_simp
    (first
    |(go_at_call 225;refine(HNO.out _ hHeld.1).mono ?_;rintro e w4 ⟨g1,rfl,hb1,hg1,hu4⟩;have HB1:=Qh hb1;have HG1:=Qh (Nat.le_trans hHeld.1.size hg1);have M01:=Qh (Nat.lt_of_lt_of_le HB0.out.lt hg1);have HB0:=Qh (HB0.out.upd hu4 id);(try have L1:=Qh (Nat.lt_of_lt_of_le ZZ.out.lt hg1));(try have ZZ:=Qh (ZZ.out.upd hu4 id));clear hb1 hg1))
    try (go_wp2_with fail)
    refine hK.out _ _ ?_ (fun hHeld=> ?_)
    ·(first|(with_reducible exact ALLS.out _ UB.out)|(with_reducible exact ALLS.out _ (hHeld.1.trans hu4))|(with_reducible exact ALLS.out _ (hHeld.1.alloc _))|exact ALLS.out _ hU5|exact ALLS.out _ (((Upd.refl No wb).alloc _).drew))
    clear hK K
    try simp only[Act.put,sT,sS,sZ]
    refine wpK 4 rfl ?_;refine wpR [5] ?_;refine wpC rfl (fun K hK=> ?_) AllReadyH.nil;have HAB:=Qh hHeld.1.size
    (try have M0:=Qh HB0.out.lt)
    (try have M1:=Qh HB1.out.lt)
    go_simp;refine hK.out _ _ ?_ (fun hHeld=> ?_)
    ·(first|(with_reducible exact ALLS.out _ UB.out)|(with_reducible exact ALLS.out _ (hHeld.1.trans hu4))|(with_reducible exact ALLS.out _ (hHeld.1.alloc _))|exact ALLS.out _ hU5|exact ALLS.out _ (((Upd.refl No wb).alloc _).drew))
    clear hK K
    try simp only[Act.put,sT,sS,sZ]
    (first|have ZZ:=Qh (Zm5 hHeld.1)|have ZZ:=Qh (Zky hHeld.1))
    (try have HB0:=Qh (HB0.out.upd (Zfk hHeld.1) id))
    (try have HB1:=Qh (HB1.out.upd (Zfk hHeld.1) id))
    refine wpR [6] ?_;refine wpC rfl (fun K hK=> ?_) AllReadyH.nil
    (first
    |(refine ZeU rfl rfl (cells:=[.slice (some ⟨g0,0,none⟩) N N,.slice (some ⟨g1,0,none⟩) N N]) rfl rfl ZZ.out (by kernel_rfl) rfl rfl ?_;intro w5 hb5 hu5;have hU5:=hHeld.1.then_ hu5 (fun i e=>by unfold One at e;rw[e];exact .inr HAB.out)))
    refine hK.out _ _ ?_ (fun hHeld=> ?_)
    ·(first|(with_reducible exact ALLS.out _ UB.out)|(with_reducible exact ALLS.out _ (hHeld.1.trans hu4))|(with_reducible exact ALLS.out _ (hHeld.1.alloc _))|exact ALLS.out _ hU5|exact ALLS.out _ (((Upd.refl No wb).alloc _).drew))
    clear hK K
    try simp only[Act.put,sT,sS,sZ]
    refine wpD (NoPanic.normal ?_)
    go_wp2_with fail
    go_meet
    refine⟨_,g0,g1,rfl,hb5,?_,?_,⟨?_,?_,?_⟩,⟨HAB.out,HG0.out,HG1.out⟩,hHeld.1⟩
    ·exact HB0.out.upd hu5 (fun e=>by unfold One at e;(first|(have:=L0.out;omega)|(have:=M0.out;omega)))
    ·exact HB1.out.upd hu5 (fun e=>by unfold One at e;(first|(have:=L1.out;omega)|(have:=M1.out;omega)))
    ·(first|(have:=L0.out;omega)|(have:=M0.out;omega))
    ·(first|(have:=L1.out;omega)|(have:=M1.out;omega))
    ·(have:=M01.out;omega)
   refine wpC rfl (fun K hK=> ?_) AllReadyH.nil;have HAB:=Qh hHeld.1.size
   (try have M0:=Qh HB0.out.lt)
   (try have M1:=Qh HB1.out.lt)
   go_simp;refine hK.out _ _ ?_ (fun hHeld=> ?_)
   ·(first|(with_reducible exact ALLS.out _ UB.out)|(with_reducible exact ALLS.out _ (hHeld.1.trans hu4))|(with_reducible exact ALLS.out _ (hHeld.1.alloc _))|exact ALLS.out _ hU5|exact ALLS.out _ (((Upd.refl No wb).alloc _).drew))
   clear hK K
   try simp only[Act.put,sT,sS,sZ]
   (first|have ZZ:=Qh (Zm5 hHeld.1)|have ZZ:=Qh (Zky hHeld.1))
   (try have HB0:=Qh (HB0.out.upd (Zfk hHeld.1) id))
   (try have HB1:=Qh (HB1.out.upd (Zfk hHeld.1) id))
   refine wpR [3] ?_;refine wpC rfl (fun K hK=> ?_) AllReadyH.nil;go_simp
   (first
   |(go_at_call 225;refine(HNO.out _ hHeld.1).mono ?_;rintro e w4 ⟨g1,rfl,hb1,hg1,hu4⟩;have HB1:=Qh hb1;have HG1:=Qh (Nat.le_trans hHeld.1.size hg1);have M01:=Qh (Nat.lt_of_lt_of_le HB0.out.lt hg1);have HB0:=Qh (HB0.out.upd hu4 id);(try have L1:=Qh (Nat.lt_of_lt_of_le ZZ.out.lt hg1));(try have ZZ:=Qh (ZZ.out.upd hu4 id));clear hb1 hg1))
   try (go_wp2_with fail)
   refine hK.out _ _ ?_ (fun hHeld=> ?_)
   ·(first|(with_reducible exact ALLS.out _ UB.out)|(with_reducible exact ALLS.out _ (hHeld.1.trans hu4))|(with_reducible exact ALLS.out _ (hHeld.1.alloc _))|exact ALLS.out _ hU5|exact ALLS.out _ (((Upd.refl No wb).alloc _).drew))
   clear hK K
   try simp only[Act.put,sT,sS,sZ]
   refine wpK 4 rfl ?_;refine wpR [6] ?_;refine wpC rfl (fun K hK=> ?_) AllReadyH.nil
   (first
   |(refine ZeU rfl rfl (cells:=[.slice (some ⟨g0,0,none⟩) N N,.slice (some ⟨g1,0,none⟩) N N]) rfl rfl ZZ.out (by kernel_rfl) rfl rfl ?_;intro w5 hb5 hu5;have hU5:=hHeld.1.then_ hu5 (fun i e=>by unfold One at e;rw[e];exact .inr HAB.out)))
   refine hK.out _ _ ?_ (fun hHeld=> ?_)
   ·(first|(with_reducible exact ALLS.out _ UB.out)|(with_reducible exact ALLS.out _ (hHeld.1.trans hu4))|(with_reducible exact ALLS.out _ (hHeld.1.alloc _))|exact ALLS.out _ hU5|exact ALLS.out _ (((Upd.refl No wb).alloc _).drew))
   clear hK K
   try simp only[Act.put,sT,sS,sZ]
   refine wpD (NoPanic.normal ?_)
   go_wp2_with fail
   go_meet
   refine⟨_,g0,g1,rfl,hb5,?_,?_,⟨?_,?_,?_⟩,⟨HAB.out,HG0.out,HG1.out⟩,hHeld.1⟩
   ·exact HB0.out.upd hu5 (fun e=>by unfold One at e;(first|(have:=L0.out;omega)|(have:=M0.out;omega)))
   ·exact HB1.out.upd hu5 (fun e=>by unfold One at e;(first|(have:=L1.out;omega)|(have:=M1.out;omega)))
   ·(first|(have:=L0.out;omega)|(have:=M0.out;omega))
   ·(first|(have:=L1.out;omega)|(have:=M1.out;omega))
   ·(have:=M01.out;omega)
  refine wpC rfl (fun K hK=> ?_) AllReadyH.nil;have HAB:=Qh hHeld.1.size
  (try have M0:=Qh HB0.out.lt)
  (try have M1:=Qh HB1.out.lt)
  go_simp;refine hK.out _ _ ?_ (fun hHeld=> ?_)
  ·(first|(with_reducible exact ALLS.out _ UB.out)|(with_reducible exact ALLS.out _ (hHeld.1.trans hu4))|(with_reducible exact ALLS.out _ (hHeld.1.alloc _))|exact ALLS.out _ hU5|exact ALLS.out _ (((Upd.refl No wb).alloc _).drew))
  clear hK K
  try simp only[Act.put,sT,sS,sZ]
  (first|have ZZ:=Qh (Zm5 hHeld.1)|have ZZ:=Qh (Zky hHeld.1))
  (try have HB0:=Qh (HB0.out.upd (Zfk hHeld.1) id))
  (try have HB1:=Qh (HB1.out.upd (Zfk hHeld.1) id))
  refine wpR [1] ?_;refine wpC rfl (fun K hK=> ?_) AllReadyH.nil;go_simp
  (first
  |(go_at_call 225;refine(HNO.out _ hHeld.1).mono ?_;rintro e w4 ⟨g0,rfl,hb0,hg0,hu4⟩;have HB0:=Qh hb0;have HG0:=Qh (Nat.le_trans hHeld.1.size hg0);(try have L0:=Qh (Nat.lt_of_lt_of_le ZZ.out.lt hg0));(try have ZZ:=Qh (ZZ.out.upd hu4 id));clear hb0 hg0))
  try (go_wp2_with fail)
  refine hK.out _ _ ?_ (fun hHeld=> ?_)
  ·(first|(with_reducible exact ALLS.out _ UB.out)|(with_reducible exact ALLS.out _ (hHeld.1.trans hu4))|(with_reducible exact ALLS.out _ (hHeld.1.alloc _))|exact ALLS.out _ hU5|exact ALLS.out _ (((Upd.refl No wb).alloc _).drew))
  clear hK K
  try simp only[Act.put,sT,sS,sZ]
  refine wpR [3] ?_;refine wpC rfl (fun K hK=> ?_) AllReadyH.nil;go_simp
  (first
  |(go_at_call 225;refine(HNO.out _ hHeld.1).mono ?_;rintro e w4 ⟨g1,rfl,hb1,hg1,hu4⟩;have HB1:=Qh hb1;have HG1:=Qh (Nat.le_trans hHeld.1.size hg1);have M01:=Qh (Nat.lt_of_lt_of_le HB0.out.lt hg1);have HB0:=Qh (HB0.out.upd hu4 id);(try have L1:=Qh (Nat.lt_of_lt_of_le ZZ.out.lt hg1));(try have ZZ:=Qh (ZZ.out.upd hu4 id));clear hb1 hg1))
  try (go_wp2_with fail)
  refine hK.out _ _ ?_ (fun hHeld=> ?_)
  ·(first|(with_reducible exact ALLS.out _ UB.out)|(with_reducible exact ALLS.out _ (hHeld.1.trans hu4))|(with_reducible exact ALLS.out _ (hHeld.1.alloc _))|exact ALLS.out _ hU5|exact ALLS.out _ (((Upd.refl No wb).alloc _).drew))
  clear hK K
  try simp only[Act.put,sT,sS,sZ]
  refine wpK 4 rfl ?_;refine wpR [6] ?_;refine wpC rfl (fun K hK=> ?_) AllReadyH.nil
  (first
  |(refine ZeU rfl rfl (cells:=[.slice (some ⟨g0,0,none⟩) N N,.slice (some ⟨g1,0,none⟩) N N]) rfl rfl ZZ.out (by kernel_rfl) rfl rfl ?_;intro w5 hb5 hu5;have hU5:=hHeld.1.then_ hu5 (fun i e=>by unfold One at e;rw[e];exact .inr HAB.out)))
  refine hK.out _ _ ?_ (fun hHeld=> ?_)
  ·(first|(with_reducible exact ALLS.out _ UB.out)|(with_reducible exact ALLS.out _ (hHeld.1.trans hu4))|(with_reducible exact ALLS.out _ (hHeld.1.alloc _))|exact ALLS.out _ hU5|exact ALLS.out _ (((Upd.refl No wb).alloc _).drew))
  clear hK K
  try simp only[Act.put,sT,sS,sZ]
  refine wpD (NoPanic.normal ?_)
  go_wp2_with fail
  go_meet
  refine⟨_,g0,g1,rfl,hb5,?_,?_,⟨?_,?_,?_⟩,⟨HAB.out,HG0.out,HG1.out⟩,hHeld.1⟩
  ·exact HB0.out.upd hu5 (fun e=>by unfold One at e;(first|(have:=L0.out;omega)|(have:=M0.out;omega)))
  ·exact HB1.out.upd hu5 (fun e=>by unfold One at e;(first|(have:=L1.out;omega)|(have:=M1.out;omega)))
  ·(first|(have:=L0.out;omega)|(have:=M0.out;omega))
  ·(first|(have:=L1.out;omega)|(have:=M1.out;omega))
  ·(have:=M01.out;omega)
 case rest=>
  obtain⟨ab,g0,g1,rfl,ha,hb0,hb1,hne,hge,hu1⟩:=hcut;have hd0:=fun(W:World) (u:Upd No wc W)=>(ALLS.out W (hu1.trans u)).2
  have HD0:=Qh hd0;obtain⟨c0,c1,c2⟩:=hd0 wc (Upd.refl _ _);have a1:=ha.cell 1;simp only[Qz,Qs]at a1;clear hd0
  cases hs:Zay N least node
  ·have hst:=Qh (hs▸ZiD (HG.out wc hu1) mask least node);have HV:=Qh (show ZbC N (ZdF N p1 p2 m1 m2 least node) 1=List.replicate N (-1) by unfold ZdF;rw[hs];exact Zfu N (-1) 1)
   go_wp2_with fail
   refine(hst.out).mono ?_;rintro e w2 ⟨rfl,hu2⟩;have a1':=(ha.upd hu2 id).cell 1;simp only[Qz,Qs]at a1';go_wp2
   go_ret
   rw[HV.out];exact⟨g1,by simp,hb1.upd hu2 id,by have:=U0.out.size;omega,(U0.out.trans hu1).trans hu2⟩
  ·have hst:=Qh (hs▸ZiD (HG.out wc hu1) mask least node);have HV:=Qh (show ZdF N p1 p2 m1 m2 least node=Zbi (Zg least) (ZA p1 p2 m1 m2) (2*N) (Zbk (node*2),[node*2]) by unfold ZdF;rw[hs];rfl);unfold Zay at hs;rw[Bool.and_eq_true,decide_eq_true_eq,decide_eq_true_eq]at hs;obtain⟨nd,rfl⟩:∃nd:Nat,node=(nd:Int):=⟨node.toNat,by omega⟩;have hnd:nd<N:=by omega
   have hln:least≤(nd:Int):=by omega
   clear hs
   go_wp2_with fail
   refine(hst.out).mono ?_;rintro e w2 ⟨rfl,hu2⟩
   go_wp2_with fail
   refine(Zfg (HG.out w2 (hu1.trans hu2))).mono ?_;rintro e w3 ⟨rfl,rfl⟩;have hwn:Za2 ((2*N:Nat):Int)=((2*N:Nat):Int):=by unfold Za2;omega
   have hwm:IntKind.i64.wrap (2*(N:Int))=((2*N:Nat):Int):=by rw[show(2:Int)*(N:Int)=((2*N:Nat):Int) by omega];exact IntWalk.i64_in _ (by omega)
   have hqn:=Qh (hwn▸Ztm w2 ((2*N:Nat):Int))
   go_wp2_with fail
   refine(hqn.out).mono ?_;rintro e w4 ⟨qg,rfl,hqg,hq4,hu4⟩;have hu24:=hu2.trans hu4;have l0:=(hb0.upd hu2 id).lt;have l1:=(hb1.upd hu2 id).lt;have la:=(ha.upd hu2 id).lt
   have hdq:DQ2 wb ab g0 g1 qg N (fun _=> -1) [] none [] w4:=⟨One qg,fun _=>False,ha.upd hu24 id,by rw[Zfu];exact hb0.upd hu24 id,by rw[Zfu];exact hb1.upd hu24 id,hq4,
    ⟨fun e=>by unfold One at e;omega,fun e=>by unfold One at e;omega,fun e=>by unfold One at e;omega⟩,hne,fun i e=>by unfold One at e;have:=(hu1.trans hu2).size;omega,hge,hu1.trans hu24,Ints.nil_,fun _ e=>e.elim⟩
   have fr:=hdq.free (k:=0) (by omega) nd;have cc:=hdq.cell (k:=0) (by omega) hnd;have ca:=hdq.arr (k:=0) (by omega);have i1:(0:Int)≤(nd:Int):=by omega
   have i2:(nd:Int)<(N:Int):=by omega
   have HD:=Qh (show DQ2 wb ab g0 g1 qg N (Zbk ((nd:Int)*2)) [] none [] (w4.setCell ⟨gOf g0 g1 0,nd,none⟩ (.int .i64 0)) from by
    have:=hdq.set_ (k:=0) (by omega) hnd 0;rw[show(nd:Int)*2+((0:Nat):Int)=(nd:Int)*2 by omega]at this;exact this)
   have hsh:IntKind.i64.wrap ((nd:Int)*2)=(nd:Int)*2:=IntWalk.i64_in _ (by omega);have hor:bits .or .i64 ((nd:Int)*2) 0=(nd:Int)*2:=by have:=Zh8 nd 0 (by omega) (by omega);simpa using this
   clear ha hb0 hb1 hne hu1 hu2 hq4 hu4 hu24 hdq hst hqn a1 c0 c1 c2 l0 l1 la HNO
   generalize hgg0:gOf g0 g1 0=gz at*
   go_wp2_with fail
   refine(HD.out.push (by omega) (by simp;omega) ((nd:Int)*2)).mono ?_;rintro e w5 ⟨rfl,hd5⟩;rw[List.nil_append]at hd5;have hdm:(nd:Int)*2∈Ze (2*N):=mem_nodesZ.2 ⟨by omega,by omega⟩;have hcl:∀v∈Ze (2*N),∀u∈ZA p1 p2 m1 m2 v,Zg least u=true→u∈Ze (2*N):=fun v _ u hu _=>Zhi HPR1.out HPR2.out v u hu
   have B0:=BInv.start (ok:=Zg least) (ps:=ZA p1 p2 m1 m2) hdm (Zo (2*N));have B1:=Qh (show BInv (Zg least) (ZA p1 p2 m1 m2) (Ze (2*N)) ((nd:Int)*2) (Zbk ((nd:Int)*2)) [(nd:Int)*2] from B0);have HM:=Qh (show Zak (Ze (2*N)) (Zbk ((nd:Int)*2))+[(nd:Int)*2].length≤2*N by have:=B1.out.fit;unfold Fits at this;rw[ZY]at this;exact this);have HCL:=Qh hcl;clear HD B0 hdm hcl HG fr cc ca HD0 ALLS
   go_wp2_with fail
   refine(hd5.popA).mono ?_;rintro e w6 ⟨x,b,qu,rfl,hd6,hb6⟩;have HB6:=Qh hb6;have HD6:=Qh hd6;clear hd5 hb6 hd6;go_wp2
   go_loopg [14,15] (2*N) (fun gk sx sb wr=>∃(d:Int→Int) (pend qu:List Int) (x:Int) (b:Bool),sx= .int .i64 x∧sb= .bool b∧Hid (if b=true then pend=x::qu else pend=[]∧qu=[])∧Hid (DQ2 wb ab g0 g1 qg N d qu none [] wr)∧
    Hid (BInv (Zg least) (ZA p1 p2 m1 m2) (Ze (2*N)) ((nd:Int)*2) d pend)∧Hid (Zbi (Zg least) (ZA p1 p2 m1 m2) gk (d,pend)=Zbi (Zg least) (ZA p1 p2 m1 m2) (2*N) (Zbk ((nd:Int)*2),[(nd:Int)*2]))∧Hid (Zak (Ze (2*N)) d+pend.length≤gk))
   case atStart=>exact⟨Zbk ((nd:Int)*2),[(nd:Int)*2],qu,x,b,rfl,rfl,HB6,HD6,B1,Qh rfl,HM⟩
   case round=>
    obtain⟨d,pend,qu,x,b,rfl,rfl,hpe,hd,hbi,heq,hme⟩:=hrel
    cases b
    ·have hp0:pend=[]:=(show pend=[]∧qu=[] from by simpa using hpe.out).1;have HR:=Qh (show d=ZdF N p1 p2 m1 m2 least (nd:Int) by rw[HV.out,←heq.out,hp0,ZlV]);have ca1:=hd.out.arr (k:=1) (by omega);have hb:=hd.out.row1;have hu:=hd.out.upd;have hg:=hd.out.ge1;clear hpe heq hme hbi hp0 hd;go_wp2
     go_ret
     have:=U0.out.size;refine⟨g1,by simp[ZbC,Zch,gOf],?_,by omega,U0.out.trans hu⟩;rw[←HR.out];exact hb
    ·have hp0:pend=x::qu:=by simpa using hpe.out
     subst hp0;have hri:=hbi.out.pop;have hx0:=hbi.out.q0 x List.mem_cons_self;have hxd:=mem_nodesZ.1 (hbi.out.dm x hx0);obtain⟨xi,rfl⟩:∃xi:Nat,x=(xi:Int):=⟨x.toNat,by omega⟩;obtain⟨ai,hai⟩:∃ai,xi/2=ai:=⟨_,rfl⟩;obtain⟨hh,hhh⟩:∃hh,xi%2=hh:=⟨_,rfl⟩;have hai1:ai<N:=by omega
     have hh1:hh≤1:=by omega
     have e1:(xi:Int)/2=(ai:Int):=by omega
     have e2:bits .and .i64 (xi:Int) 1=(hh:Int):=by rw[ZsZ];omega
     have e3:(xi:Int)%2=(hh:Int):=by omega
     have e4:(xi:Int)=(ai:Int)*2+(hh:Int):=by omega
     have hme':=hme.out;simp only[List.length_cons]at hme';obtain⟨gg,rfl⟩:∃g1,gk=g1+1:=⟨gk-1,by omega⟩;have hst:=heq.out;rw[ZgC]at hst;obtain⟨u1,hu1⟩:∃us,nxA (ai:Int) true p1=us:=⟨_,rfl⟩;obtain⟨u2,hu2⟩:∃us,nxA (ai:Int) true p2=us:=⟨_,rfl⟩;have hps:ZA p1 p2 m1 m2 (xi:Int)=(u1.map fun u=>u*2+Ze1 m1 m2 (hh:Int))++(u2.map fun u=>u*2+1):=by unfold ZA;rw[e1,e3,hu1,hu2]
     have HPS:=Qh hps;have HPx1:=Qh (fun(W:World) (u:Upd No wb W)=>hu1▸HP1.out W u (ai:Int));have HPx2:=Qh (fun(W:World) (u:Upd No wb W)=>hu2▸HP2.out W u (ai:Int));have hl1:u1.length≤p1.length:=by rw[←hu1];exact Zhn _ _ _
     have hl2:u2.length≤p2.length:=by rw[←hu2];exact Zhn _ _ _
     have HLL:=Qh (show u1.length≤100000∧u2.length≤100000 by have:=HPL.out;omega);have HUN1:=Qh (show∀u∈u1,0≤u∧u<(N:Int) from fun u hu=>mem_nodesZ.1 (ZcR HPR1.out (ai:Int) u (by unfold Zam;rw[hu1];exact hu)));have HUN2:=Qh (show∀u∈u2,0≤u∧u<(N:Int) from fun u hu=>mem_nodesZ.1 (ZcR HPR2.out (ai:Int) u (by unfold Zam;rw[hu2];exact hu)));rw[hps]at hst;have HST:=Qh hst;have HRI:=Qh hri;obtain⟨dx,hdx⟩:∃v,d (xi:Int)=v:=⟨_,rfl⟩;rw[hdx]at HST HRI;obtain⟨M,hM⟩:∃M,Zak (Ze (2*N)) d+qu.length=M:=⟨_,rfl⟩;have HMM:=Qh (show M≤gg by omega);have HM1:=Qh hM;have HD7:=hd;have E4:=Qh e4;clear hpe hbi heq hme hri hx0 hxd hme' hst hM hdx hd e3 e4 hps hl1 hl2 hai hhh hu1 hu2;obtain⟨nw,hnw⟩:∃v,Ze1 m1 m2 (hh:Int)=v:=⟨_,rfl⟩;rw[hnw]at HPS HST;obtain⟨L1,hL1⟩:∃L,(u1.map fun u=>u*2+nw)=L:=⟨_,rfl⟩;obtain⟨L2,hL2⟩:∃L,(u2.map fun u=>u*2+(1:Int))=L:=⟨_,rfl⟩;have HNW:=Qh hnw;have HL1:=Qh hL1;have HL2:=Qh hL2;rw[hL1,hL2]at HST;have HRI0:=Qh (show RInv (Zg least) (ZA p1 p2 m1 m2) (Ze (2*N)) ((nd:Int)*2) (xi:Int) dx (Zbd L1 L2 0) d qu from HRI.out);clear hnw hL1 hL2
     go_wp2_with fail
     go_loopg [73] 2 (fun gm s wr=>∃(i:Nat) (iz:Int) (d':Int→Int) (qu':List Int),i+gm=2∧s= .int .i64 iz∧iz=(i:Int)∧Hid (DQ2 wb ab g0 g1 qg N d' qu' none [] wr)∧Hid (RInv (Zg least) (ZA p1 p2 m1 m2) (Ze (2*N)) ((nd:Int)*2) (xi:Int) dx (Zbd L1 L2 i) d' qu')∧
      Hid (Zn (Zg least) dx (ZdC L1 L2 i) (d',qu')=Zn (Zg least) dx (L1++L2) (d,qu))∧Hid (Zak (Ze (2*N)) d'+qu'.length=M))
     case atStart=>exact⟨0,0,d,qu,by omega,rfl,rfl,HD7,HRI0,Qh rfl,HM1⟩
     case round=>
      obtain⟨i,iz,d',qu',hgm,rfl,hiz,hd,hri,heq,hme⟩:=hrel;have hi:i=0∨i=1∨i=2:=by omega
      have hx1:=ZuF;have hx2:=ZuE
      generalize gk=gm at*
      rcases hi with rfl|rfl|rfl
      ·have hiz2:iz=0:=by omega
       clear hiz;subst hiz2
       by_cases hm:m1=m2
       ·have hnw1:nw=1:=by rw[←HNW.out];unfold Ze1;rw[if_pos hm]
        subst hnw1;have hmb:(m1==m2)=true:=by simpa using hm
        clear hm
        go_wp2_with fail
        refine(HPx1.out wr hd.out.upd).mono ?_;rintro e w7 ⟨A7,c7,rfl,ho7,hu7⟩;have HD7:=Qh (hd.out.list_ hu7 ho7);have HRI7:=Qh (show RInv (Zg least) (ZA p1 p2 m1 m2) (Ze (2*N)) ((nd:Int)*2) (xi:Int) dx ((Zbd L1 L2 0)++(u1.take 0).map fun u=>u*2+(1:Int)) d' qu' from by have:=hri.out;simpa[Zbd]using this);have HEQ7:=Qh (show Zn (Zg least) dx (((u1.drop 0).map fun u=>u*2+(1:Int))++L2) (d',qu')=Zn (Zg least) dx (L1++L2) (d,qu) from by have:=heq.out;rw[List.drop_zero,HL1.out];simpa[ZdC]using this);clear ho7 hu7 hd hri heq;go_wp2
        go_loopg [87] u1.length (fun gk i wr=>∃(j:Nat) (d':Int→Int) (qu':List Int),j+gk=u1.length∧i= .int .i64 j∧Hid (DQ2 wb ab g0 g1 qg N d' qu' A7 u1 wr)∧Hid (RInv (Zg least) (ZA p1 p2 m1 m2) (Ze (2*N)) ((nd:Int)*2) (xi:Int) dx ((Zbd L1 L2 0)++(u1.take j).map fun u=>u*2+(1:Int)) d' qu')∧
         Hid (Zn (Zg least) dx (((u1.drop j).map fun u=>u*2+(1:Int))++L2) (d',qu')=Zn (Zg least) dx (L1++L2) (d,qu))∧Hid (Zak (Ze (2*N)) d'+qu'.length=M))
        case atStart=>exact⟨0,d',qu',by omega,rfl,HD7,HRI7,HEQ7,hme⟩
        case round=>
         obtain⟨j,d',qu',hgj2,rfl,hd,hri,heq,hme⟩:=hrel
         by_cases hlt:j<u1.length
         ·obtain⟨F2,hI⟩:=hd.out.sl;obtain⟨ad,rfl,_,_,hc⟩:=hI.at_ hlt;obtain⟨u,hu⟩:∃u,u1[j]=u:=⟨_,rfl⟩;rw[hu]at hc;have hud:=HUN1.out u (hu▸List.getElem_mem hlt);obtain⟨ui,rfl⟩:∃ui:Nat,u=(ui:Int):=⟨u.toNat,by omega⟩;have hui:ui<N:=by omega
          have htk:(Zbd L1 L2 0)++((u1.take (j+1)).map fun u=>u*2+(1:Int))=((Zbd L1 L2 0)++(u1.take j).map fun u=>u*2+(1:Int))++[(ui:Int)*2+(1:Int)]:=by
           rw[List.take_succ_eq_append_getElem hlt,hu];simp
          have hst:=heq.out;rw[show(((u1.drop j).map fun u=>u*2+(1:Int))++L2)=((ui:Int)*2+(1:Int))::(((u1.drop (j+1)).map fun u=>u*2+(1:Int))++L2) by rw[List.drop_eq_getElem_cons hlt,hu];rfl,Zb3]at hst
          have hyp:(ui:Int)*2+(1:Int)∈ZA p1 p2 m1 m2 (xi:Int):=by
           rw[HPS.out];exact(fun u h=>List.mem_append_left _ (List.mem_map.2 ⟨u,h,rfl⟩)) (ui:Int) (hu▸List.getElem_mem hlt)
          have b1:(0:Int)≤(j:Int):=Qn _;have b2:(j:Int)<(u1.length:Int):=by omega
          have b7:u1.length≤100000:=HLL.out.1;have b3:(0:Int)≤(ui:Int):=Qn _;have b4:(ui:Int)<(N:Int):=by omega
          have b5:(0:Int)≤(1:Int):=by omega
          have b6:(1:Int)<2:=by omega
          have cu:wr.cell? ⟨gOf g0 g1 1,ui,none⟩=some (.int .i64 (d' ((ui:Int)*2+(1:Int)))):=by simpa using hd.out.cell (k:=1) (by omega) hui
          have ca1:=hd.out.arr (k:=1) (by omega);have hhalf:((ui:Int)*2+(1:Int))/2=(ui:Int):=by omega
          clear hu hud hI
          by_cases hl:least≤(ui:Int)
          ·by_cases hneg:d' ((ui:Int)*2+(1:Int))<0
           ·have hok:(Zg least ((ui:Int)*2+(1:Int))&&decide (d' ((ui:Int)*2+(1:Int))<0))=true:=by unfold Zg;rw[hhalf,decide_eq_true hl,decide_eq_true hneg];rfl
            rw[if_pos hok]at hst;have cx:=hd.out.cell (k:=hh) hh1 hai1;rw[←E4.out,hri.out.dxe]at cx;have ch:=hd.out.arr (k:=hh) hh1;have hdn:(ui:Int)*2+(1:Int)∈Ze (2*N):=mem_nodesZ.2 ⟨by omega,by omega⟩;have hri2:=hri.out.push (Zo (2*N)) HCL.out hyp hok;rw[←htk]at hri2;have hfit:=hri.out.fit.push (Zo (2*N)) hdn hneg (v:=dx+1) (by have:=hri.out.dxp;omega);rw[ZY]at hfit;have hng:=ZbS (v:=dx+1) (Zo (2*N)) hdn hneg (by have:=hri.out.dxp;omega);have HME:=Qh (show Zak (Ze (2*N)) (Zav d' ((ui:Int)*2+(1:Int)) (dx+1))+(qu'++[(ui:Int)*2+(1:Int)]).length=M by rw[List.length_append,List.length_singleton,←hme.out];omega)
            have hdxl:dx≤10000:=by
             have:=hri.out.cap (xi:Int);rw[ZY,hri.out.dxe]at this;omega
            have hdx0:=hri.out.dxp;have hw:IntKind.i64.wrap (dx+1)=dx+1:=IntWalk.i64_in _ (by omega);have hw2:IntKind.i64.wrap ((ui:Int)*2)=(ui:Int)*2:=IntWalk.i64_in _ (by omega);have hor2:bits .or .i64 ((ui:Int)*2) (1:Int)=(ui:Int)*2+(1:Int):=by have:=Zh8 ui 1 (by omega) (by omega);simpa using this
            have fu:=hd.out.free (k:=1) (by omega) ui;have HD2:=Qh (show DQ2 wb ab g0 g1 qg N (Zav d' ((ui:Int)*2+(1:Int)) (dx+1)) qu' (some ad) u1 (wr.setCell ⟨gOf g0 g1 1,ui,none⟩ (.int .i64 (dx+1))) from by simpa using hd.out.set_ (k:=1) (by omega) hui (dx+1));have HR2:=Qh hri2;have HS2:=Qh hst;have HF2:=Qh hfit.2;clear hst hri hri2 hfit hng hme heq hok hd hyp htk hdn;go_wp2
            go_region
            go_wp2_with fail
            refine((HD2.out.no ((Upd.refl No _).drewN 1)).push (by omega) HF2.out ((ui:Int)*2+(1:Int))).mono ?_;rintro e w9 ⟨rfl,hd9⟩;go_wp2
            go_roundg (gk-1)
            case measure=>omega
            case rel=>exact⟨j+1,_,_,by omega,by go_num,Qh hd9,HR2,HS2,HME⟩
           ·have hok:¬(Zg least ((ui:Int)*2+(1:Int))&&decide (d' ((ui:Int)*2+(1:Int))<0))=true:=by rw[decide_eq_false hneg];simp
            rw[if_neg hok]at hst;have HR2:=Qh (htk▸hri.out.skip hok);have HS2:=Qh hst;clear hst hri heq hok hyp htk;go_wp2
            go_roundg (gk-1)
            case measure=>omega
            case rel=>exact⟨j+1,d',qu',by omega,by go_num,hd,HR2,HS2,hme⟩
          ·have hok:¬(Zg least ((ui:Int)*2+(1:Int))&&decide (d' ((ui:Int)*2+(1:Int))<0))=true:=by unfold Zg;rw[hhalf,decide_eq_false hl];simp
           rw[if_neg hok]at hst;have HR2:=Qh (htk▸hri.out.skip hok);have HS2:=Qh hst;clear hst hri heq hok hyp htk;go_wp2
           go_roundg (gk-1)
           case measure=>omega
           case rel=>exact⟨j+1,d',qu',by omega,by go_num,hd,HR2,HS2,hme⟩
         ·obtain rfl:j=u1.length:=by omega
          have hst:=heq.out;rw[List.drop_length]at hst;have hst:Zn (Zg least) dx L2 (d',qu')=Zn (Zg least) dx (L1++L2) (d,qu):=hst;have hri':=hri.out;rw[List.take_length,HL1.out]at hri';have HR2:=Qh (show RInv (Zg least) (ZA p1 p2 m1 m2) (Ze (2*N)) ((nd:Int)*2) (xi:Int) dx (Zbd L1 L2 1) d' qu' from by simpa[Zbd]using hri');have HS2:=Qh (show Zn (Zg least) dx (ZdC L1 L2 1) (d',qu')=Zn (Zg least) dx (L1++L2) (d,qu) from by simpa[ZdC]using hst);have HDb:=Qh hd.out.bare;clear hst hri' hri heq hd;go_wp2
          go_roundg (gm-1)
          case measure=>omega
          case rel=>exact⟨1,1,d',qu',by omega,by first|rfl|go_num,by omega,HDb,HR2,HS2,hme⟩
       ·have hnw1:nw=(hh:Int):=by rw[←HNW.out];unfold Ze1;rw[if_neg hm]
        subst hnw1;have hmb:(m1==m2)=false:=by simpa using hm
        clear hm
        go_wp2_with fail
        refine(HPx1.out wr hd.out.upd).mono ?_;rintro e w7 ⟨A7,c7,rfl,ho7,hu7⟩;have HD7:=Qh (hd.out.list_ hu7 ho7);have HRI7:=Qh (show RInv (Zg least) (ZA p1 p2 m1 m2) (Ze (2*N)) ((nd:Int)*2) (xi:Int) dx ((Zbd L1 L2 0)++(u1.take 0).map fun u=>u*2+(hh:Int)) d' qu' from by have:=hri.out;simpa[Zbd]using this);have HEQ7:=Qh (show Zn (Zg least) dx (((u1.drop 0).map fun u=>u*2+(hh:Int))++L2) (d',qu')=Zn (Zg least) dx (L1++L2) (d,qu) from by have:=heq.out;rw[List.drop_zero,HL1.out];simpa[ZdC]using this);clear ho7 hu7 hd hri heq;go_wp2
        go_loopg [87] u1.length (fun gk i wr=>∃(j:Nat) (d':Int→Int) (qu':List Int),j+gk=u1.length∧i= .int .i64 j∧Hid (DQ2 wb ab g0 g1 qg N d' qu' A7 u1 wr)∧Hid (RInv (Zg least) (ZA p1 p2 m1 m2) (Ze (2*N)) ((nd:Int)*2) (xi:Int) dx ((Zbd L1 L2 0)++(u1.take j).map fun u=>u*2+(hh:Int)) d' qu')∧
         Hid (Zn (Zg least) dx (((u1.drop j).map fun u=>u*2+(hh:Int))++L2) (d',qu')=Zn (Zg least) dx (L1++L2) (d,qu))∧Hid (Zak (Ze (2*N)) d'+qu'.length=M))
        case atStart=>exact⟨0,d',qu',by omega,rfl,HD7,HRI7,HEQ7,hme⟩
        case round=>
         obtain⟨j,d',qu',hgj2,rfl,hd,hri,heq,hme⟩:=hrel
         by_cases hlt:j<u1.length
         ·obtain⟨F2,hI⟩:=hd.out.sl;obtain⟨ad,rfl,_,_,hc⟩:=hI.at_ hlt;obtain⟨u,hu⟩:∃u,u1[j]=u:=⟨_,rfl⟩;rw[hu]at hc;have hud:=HUN1.out u (hu▸List.getElem_mem hlt);obtain⟨ui,rfl⟩:∃ui:Nat,u=(ui:Int):=⟨u.toNat,by omega⟩;have hui:ui<N:=by omega
          have htk:(Zbd L1 L2 0)++((u1.take (j+1)).map fun u=>u*2+(hh:Int))=((Zbd L1 L2 0)++(u1.take j).map fun u=>u*2+(hh:Int))++[(ui:Int)*2+(hh:Int)]:=by
           rw[List.take_succ_eq_append_getElem hlt,hu];simp
          have hst:=heq.out;rw[show(((u1.drop j).map fun u=>u*2+(hh:Int))++L2)=((ui:Int)*2+(hh:Int))::(((u1.drop (j+1)).map fun u=>u*2+(hh:Int))++L2) by rw[List.drop_eq_getElem_cons hlt,hu];rfl,Zb3]at hst
          have hyp:(ui:Int)*2+(hh:Int)∈ZA p1 p2 m1 m2 (xi:Int):=by
           rw[HPS.out];exact(fun u h=>List.mem_append_left _ (List.mem_map.2 ⟨u,h,rfl⟩)) (ui:Int) (hu▸List.getElem_mem hlt)
          have b1:(0:Int)≤(j:Int):=Qn _;have b2:(j:Int)<(u1.length:Int):=by omega
          have b7:u1.length≤100000:=HLL.out.1;have b3:(0:Int)≤(ui:Int):=Qn _;have b4:(ui:Int)<(N:Int):=by omega
          have b5:(0:Int)≤(hh:Int):=by omega
          have b6:(hh:Int)<2:=by omega
          have cu:wr.cell? ⟨gOf g0 g1 hh,ui,none⟩=some (.int .i64 (d' ((ui:Int)*2+(hh:Int)))):=by simpa using hd.out.cell (k:=hh) (by omega) hui
          have ca1:=hd.out.arr (k:=hh) (by omega);have hhalf:((ui:Int)*2+(hh:Int))/2=(ui:Int):=by omega
          clear hu hud hI
          by_cases hl:least≤(ui:Int)
          ·by_cases hneg:d' ((ui:Int)*2+(hh:Int))<0
           ·have hok:(Zg least ((ui:Int)*2+(hh:Int))&&decide (d' ((ui:Int)*2+(hh:Int))<0))=true:=by unfold Zg;rw[hhalf,decide_eq_true hl,decide_eq_true hneg];rfl
            rw[if_pos hok]at hst;have cx:=hd.out.cell (k:=hh) hh1 hai1;rw[←E4.out,hri.out.dxe]at cx;have ch:=hd.out.arr (k:=hh) hh1;have hdn:(ui:Int)*2+(hh:Int)∈Ze (2*N):=mem_nodesZ.2 ⟨by omega,by omega⟩;have hri2:=hri.out.push (Zo (2*N)) HCL.out hyp hok;rw[←htk]at hri2;have hfit:=hri.out.fit.push (Zo (2*N)) hdn hneg (v:=dx+1) (by have:=hri.out.dxp;omega);rw[ZY]at hfit;have hng:=ZbS (v:=dx+1) (Zo (2*N)) hdn hneg (by have:=hri.out.dxp;omega);have HME:=Qh (show Zak (Ze (2*N)) (Zav d' ((ui:Int)*2+(hh:Int)) (dx+1))+(qu'++[(ui:Int)*2+(hh:Int)]).length=M by rw[List.length_append,List.length_singleton,←hme.out];omega)
            have hdxl:dx≤10000:=by
             have:=hri.out.cap (xi:Int);rw[ZY,hri.out.dxe]at this;omega
            have hdx0:=hri.out.dxp;have hw:IntKind.i64.wrap (dx+1)=dx+1:=IntWalk.i64_in _ (by omega);have hw2:IntKind.i64.wrap ((ui:Int)*2)=(ui:Int)*2:=IntWalk.i64_in _ (by omega);have hor2:bits .or .i64 ((ui:Int)*2) (hh:Int)=(ui:Int)*2+(hh:Int):=by have:=Zh8 ui hh (by omega) (by omega);simpa using this
            have fu:=hd.out.free (k:=hh) (by omega) ui;have HD2:=Qh (show DQ2 wb ab g0 g1 qg N (Zav d' ((ui:Int)*2+(hh:Int)) (dx+1)) qu' (some ad) u1 (wr.setCell ⟨gOf g0 g1 hh,ui,none⟩ (.int .i64 (dx+1))) from by simpa using hd.out.set_ (k:=hh) (by omega) hui (dx+1));have HR2:=Qh hri2;have HS2:=Qh hst;have HF2:=Qh hfit.2;clear hst hri hri2 hfit hng hme heq hok hd hyp htk hdn;go_wp2
            go_region
            go_wp2_with fail
            refine((HD2.out.no ((Upd.refl No _).drewN 1)).push (by omega) HF2.out ((ui:Int)*2+(hh:Int))).mono ?_;rintro e w9 ⟨rfl,hd9⟩;go_wp2
            go_roundg (gk-1)
            case measure=>omega
            case rel=>exact⟨j+1,_,_,by omega,by go_num,Qh hd9,HR2,HS2,HME⟩
           ·have hok:¬(Zg least ((ui:Int)*2+(hh:Int))&&decide (d' ((ui:Int)*2+(hh:Int))<0))=true:=by rw[decide_eq_false hneg];simp
            rw[if_neg hok]at hst;have HR2:=Qh (htk▸hri.out.skip hok);have HS2:=Qh hst;clear hst hri heq hok hyp htk;go_wp2
            go_roundg (gk-1)
            case measure=>omega
            case rel=>exact⟨j+1,d',qu',by omega,by go_num,hd,HR2,HS2,hme⟩
          ·have hok:¬(Zg least ((ui:Int)*2+(hh:Int))&&decide (d' ((ui:Int)*2+(hh:Int))<0))=true:=by unfold Zg;rw[hhalf,decide_eq_false hl];simp
           rw[if_neg hok]at hst;have HR2:=Qh (htk▸hri.out.skip hok);have HS2:=Qh hst;clear hst hri heq hok hyp htk;go_wp2
           go_roundg (gk-1)
           case measure=>omega
           case rel=>exact⟨j+1,d',qu',by omega,by go_num,hd,HR2,HS2,hme⟩
         ·obtain rfl:j=u1.length:=by omega
          have hst:=heq.out;rw[List.drop_length]at hst;have hst:Zn (Zg least) dx L2 (d',qu')=Zn (Zg least) dx (L1++L2) (d,qu):=hst;have hri':=hri.out;rw[List.take_length,HL1.out]at hri';have HR2:=Qh (show RInv (Zg least) (ZA p1 p2 m1 m2) (Ze (2*N)) ((nd:Int)*2) (xi:Int) dx (Zbd L1 L2 1) d' qu' from by simpa[Zbd]using hri');have HS2:=Qh (show Zn (Zg least) dx (ZdC L1 L2 1) (d',qu')=Zn (Zg least) dx (L1++L2) (d,qu) from by simpa[ZdC]using hst);have HDb:=Qh hd.out.bare;clear hst hri' hri heq hd;go_wp2
          go_roundg (gm-1)
          case measure=>omega
          case rel=>exact⟨1,1,d',qu',by omega,by first|rfl|go_num,by omega,HDb,HR2,HS2,hme⟩
      ·have hiz2:iz=1:=by omega
       clear hiz;subst hiz2
       go_wp2_with fail
       refine(HPx2.out wr hd.out.upd).mono ?_;rintro e w7 ⟨A7,c7,rfl,ho7,hu7⟩;have HD7:=Qh (hd.out.list_ hu7 ho7);have HRI7:=Qh (show RInv (Zg least) (ZA p1 p2 m1 m2) (Ze (2*N)) ((nd:Int)*2) (xi:Int) dx ((Zbd L1 L2 1)++(u2.take 0).map fun u=>u*2+(1:Int)) d' qu' from by have:=hri.out;simpa[Zbd]using this);have HEQ7:=Qh (show Zn (Zg least) dx (((u2.drop 0).map fun u=>u*2+(1:Int))++[]) (d',qu')=Zn (Zg least) dx (L1++L2) (d,qu) from by have:=heq.out;rw[List.drop_zero,HL2.out];simpa[ZdC]using this);clear ho7 hu7 hd hri heq;go_wp2
       go_loopg [87] u2.length (fun gk i wr=>∃(j:Nat) (d':Int→Int) (qu':List Int),j+gk=u2.length∧i= .int .i64 j∧Hid (DQ2 wb ab g0 g1 qg N d' qu' A7 u2 wr)∧Hid (RInv (Zg least) (ZA p1 p2 m1 m2) (Ze (2*N)) ((nd:Int)*2) (xi:Int) dx ((Zbd L1 L2 1)++(u2.take j).map fun u=>u*2+(1:Int)) d' qu')∧
        Hid (Zn (Zg least) dx (((u2.drop j).map fun u=>u*2+(1:Int))++[]) (d',qu')=Zn (Zg least) dx (L1++L2) (d,qu))∧Hid (Zak (Ze (2*N)) d'+qu'.length=M))
       case atStart=>exact⟨0,d',qu',by omega,rfl,HD7,HRI7,HEQ7,hme⟩
       case round=>
        obtain⟨j,d',qu',hgj2,rfl,hd,hri,heq,hme⟩:=hrel
        by_cases hlt:j<u2.length
        ·obtain⟨F2,hI⟩:=hd.out.sl;obtain⟨ad,rfl,_,_,hc⟩:=hI.at_ hlt;obtain⟨u,hu⟩:∃u,u2[j]=u:=⟨_,rfl⟩;rw[hu]at hc;have hud:=HUN2.out u (hu▸List.getElem_mem hlt);obtain⟨ui,rfl⟩:∃ui:Nat,u=(ui:Int):=⟨u.toNat,by omega⟩;have hui:ui<N:=by omega
         have htk:(Zbd L1 L2 1)++((u2.take (j+1)).map fun u=>u*2+(1:Int))=((Zbd L1 L2 1)++(u2.take j).map fun u=>u*2+(1:Int))++[(ui:Int)*2+(1:Int)]:=by
          rw[List.take_succ_eq_append_getElem hlt,hu];simp
         have hst:=heq.out;rw[show(((u2.drop j).map fun u=>u*2+(1:Int))++[])=((ui:Int)*2+(1:Int))::(((u2.drop (j+1)).map fun u=>u*2+(1:Int))++[]) by rw[List.drop_eq_getElem_cons hlt,hu];rfl,Zb3]at hst
         have hyp:(ui:Int)*2+(1:Int)∈ZA p1 p2 m1 m2 (xi:Int):=by
          rw[HPS.out];exact(fun u h=>List.mem_append_right _ (List.mem_map.2 ⟨u,h,rfl⟩)) (ui:Int) (hu▸List.getElem_mem hlt)
         have b1:(0:Int)≤(j:Int):=Qn _;have b2:(j:Int)<(u2.length:Int):=by omega
         have b7:u2.length≤100000:=HLL.out.2;have b3:(0:Int)≤(ui:Int):=Qn _;have b4:(ui:Int)<(N:Int):=by omega
         have b5:(0:Int)≤(1:Int):=by omega
         have b6:(1:Int)<2:=by omega
         have cu:wr.cell? ⟨gOf g0 g1 1,ui,none⟩=some (.int .i64 (d' ((ui:Int)*2+(1:Int)))):=by simpa using hd.out.cell (k:=1) (by omega) hui
         have ca1:=hd.out.arr (k:=1) (by omega);have hhalf:((ui:Int)*2+(1:Int))/2=(ui:Int):=by omega
         clear hu hud hI
         by_cases hl:least≤(ui:Int)
         ·by_cases hneg:d' ((ui:Int)*2+(1:Int))<0
          ·have hok:(Zg least ((ui:Int)*2+(1:Int))&&decide (d' ((ui:Int)*2+(1:Int))<0))=true:=by unfold Zg;rw[hhalf,decide_eq_true hl,decide_eq_true hneg];rfl
           rw[if_pos hok]at hst;have cx:=hd.out.cell (k:=hh) hh1 hai1;rw[←E4.out,hri.out.dxe]at cx;have ch:=hd.out.arr (k:=hh) hh1;have hdn:(ui:Int)*2+(1:Int)∈Ze (2*N):=mem_nodesZ.2 ⟨by omega,by omega⟩;have hri2:=hri.out.push (Zo (2*N)) HCL.out hyp hok;rw[←htk]at hri2;have hfit:=hri.out.fit.push (Zo (2*N)) hdn hneg (v:=dx+1) (by have:=hri.out.dxp;omega);rw[ZY]at hfit;have hng:=ZbS (v:=dx+1) (Zo (2*N)) hdn hneg (by have:=hri.out.dxp;omega);have HME:=Qh (show Zak (Ze (2*N)) (Zav d' ((ui:Int)*2+(1:Int)) (dx+1))+(qu'++[(ui:Int)*2+(1:Int)]).length=M by rw[List.length_append,List.length_singleton,←hme.out];omega)
           have hdxl:dx≤10000:=by
            have:=hri.out.cap (xi:Int);rw[ZY,hri.out.dxe]at this;omega
           have hdx0:=hri.out.dxp;have hw:IntKind.i64.wrap (dx+1)=dx+1:=IntWalk.i64_in _ (by omega);have hw2:IntKind.i64.wrap ((ui:Int)*2)=(ui:Int)*2:=IntWalk.i64_in _ (by omega);have hor2:bits .or .i64 ((ui:Int)*2) (1:Int)=(ui:Int)*2+(1:Int):=by have:=Zh8 ui 1 (by omega) (by omega);simpa using this
           have fu:=hd.out.free (k:=1) (by omega) ui;have HD2:=Qh (show DQ2 wb ab g0 g1 qg N (Zav d' ((ui:Int)*2+(1:Int)) (dx+1)) qu' (some ad) u2 (wr.setCell ⟨gOf g0 g1 1,ui,none⟩ (.int .i64 (dx+1))) from by simpa using hd.out.set_ (k:=1) (by omega) hui (dx+1));have HR2:=Qh hri2;have HS2:=Qh hst;have HF2:=Qh hfit.2;clear hst hri hri2 hfit hng hme heq hok hd hyp htk hdn;go_wp2
           go_region
           go_wp2_with fail
           refine((HD2.out.no ((Upd.refl No _).drewN 1)).push (by omega) HF2.out ((ui:Int)*2+(1:Int))).mono ?_;rintro e w9 ⟨rfl,hd9⟩;go_wp2
           go_roundg (gk-1)
           case measure=>omega
           case rel=>exact⟨j+1,_,_,by omega,by go_num,Qh hd9,HR2,HS2,HME⟩
          ·have hok:¬(Zg least ((ui:Int)*2+(1:Int))&&decide (d' ((ui:Int)*2+(1:Int))<0))=true:=by rw[decide_eq_false hneg];simp
           rw[if_neg hok]at hst;have HR2:=Qh (htk▸hri.out.skip hok);have HS2:=Qh hst;clear hst hri heq hok hyp htk;go_wp2
           go_roundg (gk-1)
           case measure=>omega
           case rel=>exact⟨j+1,d',qu',by omega,by go_num,hd,HR2,HS2,hme⟩
         ·have hok:¬(Zg least ((ui:Int)*2+(1:Int))&&decide (d' ((ui:Int)*2+(1:Int))<0))=true:=by unfold Zg;rw[hhalf,decide_eq_false hl];simp
          rw[if_neg hok]at hst;have HR2:=Qh (htk▸hri.out.skip hok);have HS2:=Qh hst;clear hst hri heq hok hyp htk;go_wp2
          go_roundg (gk-1)
          case measure=>omega
          case rel=>exact⟨j+1,d',qu',by omega,by go_num,hd,HR2,HS2,hme⟩
        ·obtain rfl:j=u2.length:=by omega
         have hst:=heq.out;rw[List.drop_length]at hst;have hst:Zn (Zg least) dx [] (d',qu')=Zn (Zg least) dx (L1++L2) (d,qu):=hst;have hri':=hri.out;rw[List.take_length,HL2.out]at hri';have HR2:=Qh (show RInv (Zg least) (ZA p1 p2 m1 m2) (Ze (2*N)) ((nd:Int)*2) (xi:Int) dx (Zbd L1 L2 2) d' qu' from by simpa[Zbd]using hri');have HS2:=Qh (show Zn (Zg least) dx (ZdC L1 L2 2) (d',qu')=Zn (Zg least) dx (L1++L2) (d,qu) from by simpa[ZdC]using hst);have HDb:=Qh hd.out.bare;clear hst hri' hri heq hd;go_wp2
         go_roundg (gm-1)
         case measure=>omega
         case rel=>exact⟨2,2,d',qu',by omega,by first|rfl|go_num,by omega,HDb,HR2,HS2,hme⟩
      ·have hiz2:iz=2:=by omega
       clear hiz;subst hiz2;have hri':=hri.out;have hri2:RInv (Zg least) (ZA p1 p2 m1 m2) (Ze (2*N)) ((nd:Int)*2) (xi:Int) dx (ZA p1 p2 m1 m2 (xi:Int)) d' qu':=by rw[HPS.out,HL1.out,HL2.out];exact hri'
       have HBI:=Qh hri2.done;have hst:(d',qu')=Zn (Zg least) dx (L1++L2) (d,qu):=heq.out;have HE:=Qh (show Zbi (Zg least) (ZA p1 p2 m1 m2) gg (d',qu')=Zbi (Zg least) (ZA p1 p2 m1 m2) (2*N) (Zbk ((nd:Int)*2),[(nd:Int)*2]) by rw[hst];exact HST.out);have HME:=Qh (show Zak (Ze (2*N)) d'+qu'.length≤gg by rw[hme.out];exact HMM.out);have HDb:=Qh hd.out.bare;clear hst hri' hri2 hri heq hme hd
       go_wp2_with fail
       refine(HDb.out.popA).mono ?_;rintro e w8 ⟨x2,b2,qu2,rfl,hd8,hb8⟩;have HD8:=Qh hd8;have HB8:=Qh hb8;clear hd8 hb8;go_wp2
       go_roundg gg
       case measure=>omega
       case rel=>exact⟨d',qu',qu2,x2,b2,rfl,rfl,HB8,HD8,HBI,HE,HME⟩
end
/- Closed walks:what is left Zat an arc. -/
section
open Go.RowKit
structure LoopI (w:World) (A B:Option Addr) (N:Nat) (da dw:Int→Int):Prop where
 a:Ints (fun _=>True) w A (ZaG N da)
 b:Ints (fun _=>True) w B (ZaG N dw)
theorem LoopI.upd {w w':World} {A B:Option Addr} {N:Nat} {da dw:Int→Int} (h:LoopI w A B N da dw) (hu:Upd No w w'):LoopI w' A B N da dw:=⟨h.a.upd hu (fun _ _=>id),h.b.upd hu (fun _ _=>id)⟩
theorem ZcW (x:Int):(bits .and .i64 x 1==0)= !decide (x%2=1):=by
 have h:=Zjp x 1 (by omega);rw[Nat.and_one_is_mod]at h;have h':bits .and .i64 x 1=(((x%18446744073709551616).toNat%2:Nat):Int):=h;rw[h',Bool.eq_iff_iff,beq_iff_eq,Bool.not_eq_true',decide_eq_false_iff_not];omega
set_option maxRecDepth 100000 in
set_option maxHeartbeats 4000000 in
theorem ZrS (w:World) (p0 A B:Option Addr) (N:Nat) (mask must:Int) (da dw:Int→Int) (h:LoopI w A B N da dw) (a:HArc) (hk1:1≤a.kind) (hk2:a.kind≤3) (ht0:0≤a.t) (ht1:a.t<(N:Int)) (need:Bool):
  Calls Tryz.prog 188 #[.agg #[.pointer p0,.int .i64 mask,.int .i64 must,.slice A N N,.slice B N N],.agg a.cells.toArray,.bool need] w fun e w'=>e= .returned (.int .i64 (ZJ must da dw need a))∧Upd No w w':=by
 obtain⟨af,at',ak,al⟩:=a;simp only at hk1 hk2 ht0 ht1;obtain⟨t,rfl⟩:∃t:Nat,at'=(t:Int):=⟨at'.toNat,by omega⟩;have ht:t<N:=by omega
 have hk:ak=1∨ak=2∨ak=3:=by omega
 obtain⟨wb,hwb⟩:∃wb,(w.alloc (.cells #[.pointer p0,.int .i64 mask,.int .i64 must,.slice A N N,.slice B N N] 185)).alloc (.cells #[.int .i64 af,.int .i64 (t:Int),.int .i64 ak,.int .i64 al] 34)=wb:=⟨_,rfl⟩;have u0:Upd No w wb:=by rw[←hwb];exact((Upd.refl No w).alloc _).alloc _
 obtain⟨aa,rfl,_,_,ca⟩:=(h.upd u0).a.at_ (k:=t) (by rw[Zch];exact ht);obtain⟨ab,rfl,_,_,cb⟩:=(h.upd u0).b.at_ (k:=t) (by rw[Zch];exact ht);have ea:(ZaG N da)[t]'(by rw[Zch];exact ht)=da t:=by have:=Ze8 da ht;rw[List.getElem?_eq_some_iff]at this;exact this.2
 have eb:(ZaG N dw)[t]'(by rw[Zch];exact ht)=dw t:=by have:=Ze8 dw ht;rw[List.getElem?_eq_some_iff]at this;exact this.2
 rw[ea]at ca;rw[eb]at cb;have i1:(0:Int)≤(t:Int):=Qn _;rw[←hwb]at ca cb;have U0:=Qh u0;subst hwb;unfold HArc.cells;clear h u0 ea eb hk1 hk2 ht0;rcases hk with rfl|rfl|rfl
 ·have hb:=ZcW (must/2);rw[show decide ((must/2)%2=1)=Zd must 1 from rfl]at hb;have hv:=Qh (show ZJ must da dw need ⟨af,t,1,al⟩=if (need&& !Zd must 1)=true then dw t else da t from rfl)
  cases hbm:Zd must 1
  all_goals
   rw[hbm]at hb hv;have hv':=hv.out
   first|rw[Bool.not_false]at hb|rw[Bool.not_true]at hb
   cases need
   all_goals
    have HV:=Qh hv';clear hv hv' hbm
    go_enter Tryz.func188,Tryz.ntmps188
    go_wp2
    go_ret
    exact⟨by rw[HV.out];rfl,U0.out⟩
 ·have hb:=ZcW (must/4);rw[show decide ((must/4)%2=1)=Zd must 2 from rfl]at hb;have hv:=Qh (show ZJ must da dw need ⟨af,t,2,al⟩=if (need&& !Zd must 2)=true then dw t else da t from rfl)
  cases hbm:Zd must 2
  all_goals
   rw[hbm]at hb hv;have hv':=hv.out
   first|rw[Bool.not_false]at hb|rw[Bool.not_true]at hb
   cases need
   all_goals
    have HV:=Qh hv';clear hv hv' hbm
    go_enter Tryz.func188,Tryz.ntmps188
    go_wp2
    go_ret
    exact⟨by rw[HV.out];rfl,U0.out⟩
 ·have hb:=ZcW (must/8);rw[show decide ((must/8)%2=1)=Zd must 3 from rfl]at hb;have hv:=Qh (show ZJ must da dw need ⟨af,t,3,al⟩=if (need&& !Zd must 3)=true then dw t else da t from rfl)
  cases hbm:Zd must 3
  all_goals
   rw[hbm]at hb hv;have hv':=hv.out
   first|rw[Bool.not_false]at hb|rw[Bool.not_true]at hb
   cases need
   all_goals
    have HV:=Qh hv';clear hv hv' hbm
    go_enter Tryz.func188,Tryz.ntmps188
    go_wp2
    go_ret
    exact⟨by rw[HV.out];rfl,U0.out⟩
end
/- Closed walks:the rows at a node. -/
section
open Go.RowKit
def Z4 (N:Nat) (q:List HArc) (mask i:Int):Int→Int:=ZbZ N (ofA mask q) i i
theorem ZoA (N:Nat) (q:List HArc) (mask must i:Int):ZbC N (ZdF N (ofA (bits .andNot .i64 mask must) q) (ofA (bits .and .i64 mask must) q) (bits .andNot .i64 mask must) (bits .and .i64 mask must) i i) 1=ZaG N (Zv N q mask must i):=rfl
theorem Zki {w:World} {g:Nat} {xs:List Int} (h:Blk w g 3 (xs.map (Value.int .i64))):Ints (fun i=>i=g) w (some ⟨g,0,none⟩) xs:=
 Ints.of_row h rfl fun j v hj=>by rw[List.getElem?_toArray,List.getElem?_map,hj];rfl
set_option maxRecDepth 100000 in
set_option maxHeartbeats 4000000 in
theorem Zvy (w:World) (G:Nat→Prop) (p0:Option Addr) (N K:Nat) (q:List HArc) (h:DG w G p0 N K q) (hK:K≤100000) (mask must i:Int):
  Calls Tryz.prog 116 #[.pointer p0,.int .i64 mask,.int .i64 must,.int .i64 i] w fun e w'=>∃A B,e= .returned (.agg #[.pointer p0,.int .i64 mask,.int .i64 must,.slice A N N,.slice B N N])∧LoopI w' A B N (Z4 N q mask i) (Zv N q mask must i)∧Upd No w w':=by
 obtain⟨wb,hwb⟩:∃wb,w.alloc (.cells #[.pointer none,.int .i64 0,.int .i64 0,.slice none 0 0,.slice none 0 0] 185)=wb:=⟨_,rfl⟩;have u0:Upd No w wb:=by rw[←hwb];exact(Upd.refl No w).alloc _
 have HT:=Qh (fun(W:World) (u:Upd No wb W)=>dto W G p0 N K q (h.no (u0.trans u)) hK mask i i);have HM:=Qh (fun(W:World) (u:Upd No wb W)=>ZoA N q mask must i▸ZuO W G p0 N K q (h.no (u0.trans u)) hK mask must i i);have bL:Blk wb w.heap.size 185 [.pointer none,.int .i64 0,.int .i64 0,.slice none 0 0,.slice none 0 0]:=by rw[←hwb];exact Blk.new w _ _
 have U0:=Qh u0;clear h u0
 go_enter Tryz.func116,Tryz.ntmps116
 go_wp2_with fail
 refine(HT.out wb (Upd.refl _ _)).mono ?_;rintro e w1 ⟨ga,rfl,hb1,hg1,hu1⟩
 go_wp2_with fail
 refine(HM.out w1 hu1).mono ?_;rintro e w2 ⟨gb,rfl,hb2,hg2,hu2⟩;have hb:=(bL.upd hu1 id).upd hu2 id;have c0:=hb.cell 0;have c1:=hb.cell 1;have c2:=hb.cell 2;have c3:=hb.cell 3;have c4:=hb.cell 4;have f0:=hb.free 0;have f1:=hb.free 1;have f2:=hb.free 2;have f3:=hb.free 3;have f4:=hb.free 4;simp only[Qz,Qs]at c0 c1 c2 c3 c4;have hlt:=bL.lt;have h1s:=hu1.size;have U1:=Qh (((U0.out.trans hu1).trans hu2));have HB1:=Qh (hb1.upd hu2 id);have HB2:=Qh hb2;have n1:ga≠w.heap.size:=by omega
 have n2:gb≠w.heap.size:=by omega
 have HB:=Qh hb;clear hwb bL hb hb1 hb2 HT HM hu1 hu2;go_wp2;have b3:=(((((HB.out).set_ 0 (.pointer p0)).set_ 1 (.int .i64 mask)).set_ 2 (.int .i64 must)).set_ 3 (.slice (some ⟨ga,0,none⟩) (ZaG N (ZbZ N (ofA mask q) i i)).length (ZaG N (ZbZ N (ofA mask q) i i)).length)).set_ 4 (.slice (some ⟨gb,0,none⟩) (ZaG N (Zv N q mask must i)).length (ZaG N (Zv N q mask must i)).length);simp only[List.set_cons_zero,List.set_cons_succ]at b3;have US:=(((((Upd.refl (One w.heap.size) w2).setOne 0 (.pointer p0)).setOne 1 (.int .i64 mask)).setOne 2 (.int .i64 must)).setOne 3 (.slice (some ⟨ga,0,none⟩) (ZaG N (ZbZ N (ofA mask q) i i)).length (ZaG N (ZbZ N (ofA mask q) i i)).length)).setOne 4 (.slice (some ⟨gb,0,none⟩) (ZaG N (Zv N q mask must i)).length (ZaG N (Zv N q mask must i)).length);refine bodyPost_ret (results_cell_row (p:=8) rfl _ _ _ _ _ _ _ rfl b3 Tryz.underlying185 rfl (by kernel_rfl)) rfl ⟨some ⟨ga,0,none⟩,some ⟨gb,0,none⟩,by simp only[Zch],⟨?_,?_⟩,?_⟩
 ·exact(Zki (HB1.out.upd US n1)).weak (fun _ _ _=>trivial)
 ·exact(Zki (HB2.out.upd US n2)).weak (fun _ _ _=>trivial)
 ·exact U1.out.then_ US fun k e=> .inr (by unfold One at e;omega)
end
/- Closed walks,plain:the bounds of the rows. -/
section
open Go.RowKit
theorem ZoT {p:List HArc} {i:Int}:∀{l:List HArc} {u:Int},okW p i u l i→i≤u
 |[],u,h=>by have h:u=i:=h;omega
 |_::_,_,h=>h.2.2.1
theorem ZkJ {N:Nat} {q:List HArc} (hN:N≤100000) (hr:∀a∈q,Zi N a=true) (mask must i:Int) (h0:0≤i) (h1:i<(N:Int)):
  ∀u,(-1≤Z4 N q mask i u∧Z4 N q mask i u≤900000)∧-1≤Zv N q mask must i u∧Zv N q mask must i u≤900000:=by
 intro u
 have hf:∀m,∀x∈ofA m q,0≤x.f∧x.f<(N:Int):=fun m x hx=>by
  have:=(ZI _ _).1 (hr x (mem_ofA.1 hx).1);exact⟨this.1,this.2.1⟩
 have hs:=ZgW h0 h1;have hd:=ZlI (hf mask) i i;refine⟨⟨hd.lo u,?_⟩,?_⟩
 ·have:=hd.hi u;unfold Z4;omega
 have hdm:i*2∈Ze (2*N):=mem_nodesZ.2 ⟨by omega,by omega⟩;have hcl:∀v∈Ze (2*N),∀u∈ZA (ofA (bits .andNot .i64 mask must) q) (ofA (bits .and .i64 mask must) q) (bits .andNot .i64 mask must) (bits .and .i64 mask must) v,Zg i u=true→u∈Ze (2*N):=fun v _ u hu _=>Zhi (hf _) (hf _) v u hu
 have B0:=BInv.start (ok:=Zg i) (ps:=ZA (ofA (bits .andNot .i64 mask must) q) (ofA (bits .and .i64 mask must) q) (bits .andNot .i64 mask must) (bits .and .i64 mask must)) hdm (Zo (2*N));have B1:=ZfP (Zo (2*N)) hcl (2*N) _ _ B0 (by have:=B0.fit;unfold Fits at this;rw[ZY]at this;exact this)
 have hw:Zv N q mask must i u=Zbi (Zg i) (ZA (ofA (bits .andNot .i64 mask must) q) (ofA (bits .and .i64 mask must) q) (bits .andNot .i64 mask must) (bits .and .i64 mask must)) (2*N) ((fun u=>if u=i*2 then 0 else -1),[i*2]) (u*2+1):=by
  unfold Zv ZdF;rw[if_pos hs];rfl
 have h2:=B1.lo (u*2+1);have h3:=B1.cap (u*2+1);rw[ZY]at h3;rw[hw];exact⟨h2,by omega⟩
theorem Zms {N:Nat} {q:List HArc} (hN:N≤100000) (hr:∀a∈q,Zi N a=true) (mask must i:Int) (h0:0≤i) (h1:i<(N:Int)):
  ∀u,(-1≤Z4 N q mask i u∧Z4 N q mask i u≤1000000)∧-1≤Zv N q mask must i u∧Zv N q mask must i u≤1000000:=fun u=>by
 have:=ZkJ hN hr mask must i h0 h1 u;omega
theorem ZpT {N:Nat} {q:List HArc} (hr:∀a∈q,Zi N a=true) (mask must i:Int) (h0:0≤i) (h1:i<(N:Int)) (u:Int) (hu:0≤Z4 N q mask i u):i≤u:=by
 obtain⟨l,h,_⟩:=(ZfC hr mask must i h0 h1).a2 u hu;exact ZoT h
theorem Zmo {N:Nat} {q:List HArc} (hr:∀a∈q,Zi N a=true) (mask must i:Int) (h0:0≤i) (h1:i<(N:Int)) (u:Int) (hu:0≤Zv N q mask must i u):i≤u:=by
 obtain⟨l,h,_⟩:=(ZfC hr mask must i h0 h1).w2 u hu;exact ZoT h
end
/- Closed walks:how many arcs the shortest has. -/
section
open Go.RowKit
theorem Zsz {must:Int} {da dw:Int→Int} (hbd:∀u,(-1≤da u∧da u≤1000000)∧-1≤dw u∧dw u≤1000000) (need:Bool) (x:HArc): -1≤ZJ must da dw need x∧ZJ must da dw need x≤1000000:=by
 unfold ZJ
 split
 ·exact(hbd x.t).2
 ·exact(hbd x.t).1
theorem Zl6 (lf:HArc→Int) (best:Int) (a:HArc) (l:List HArc):ZV lf best (a::l)=ZV lf (if (decide (0≤lf a)&&(best==0||decide (lf a+1<best)))=true then lf a+1 else best) l:=rfl
set_option maxRecDepth 100000 in
set_option maxHeartbeats 4000000 in
theorem ZpD (w:World) (G:Nat→Prop) (p0 A B:Option Addr) (N K:Nat) (q:List HArc) (hG:DG w G p0 N K q) (hK:K≤100000) (mask must:Int) (da dw:Int→Int) (h:LoopI w A B N da dw)
  (hbd:∀u,(-1≤da u∧da u≤1000000)∧-1≤dw u∧dw u≤1000000) (i:Int) (need:Bool):
  Calls Tryz.prog 117 #[.agg #[.pointer p0,.int .i64 mask,.int .i64 must,.slice A N N,.slice B N N],.int .i64 i,.bool need] w fun e w'=>e= .returned (.int .i64 (Zaa (ofA mask q) must i da dw need))∧Upd No w w':=by
 obtain⟨wb,hwb⟩:∃wb,w.alloc (.cells #[.pointer p0,.int .i64 mask,.int .i64 must,.slice A N N,.slice B N N] 185)=wb:=⟨_,rfl⟩;have u0:Upd No w wb:=by rw[←hwb];exact(Upd.refl No w).alloc _
 have bL:Blk wb w.heap.size 185 [.pointer p0,.int .i64 mask,.int .i64 must,.slice A N N,.slice B N N]:=by rw[←hwb];exact Blk.new w _ _
 have U0:=Qh u0;obtain⟨ys,hys⟩:∃ys,((ofA mask q).filter fun a=>a.f==i)=ys:=⟨_,rfl⟩
 have hyr:∀y∈ys,(1≤y.kind∧y.kind≤3)∧0≤y.t∧y.t<(N:Int):=fun y hy=>by
  rw[←hys]at hy;have:=(ZI _ _).1 (hG.right y (mem_ofA.1 (List.mem_filter.1 hy).1).1);exact⟨⟨this.2.2.2.2.1,this.2.2.2.2.2.1⟩,this.2.2.1,this.2.2.2.1⟩
 have hyl:ys.length≤1000000:=by
  rw[←hys];have h1:=List.length_filter_le (fun a:HArc=>a.f==i) (ofA mask q);have h2:=List.length_filter_le (fun x:HArc=>Zd mask x.kind) q;have h3:=hG.few;unfold ofA at h1 ⊢;omega
 have HO:=Qh (hys▸ZrM (hG.no u0) i mask);have HLI:=Qh (fun(W:World) (u:Upd No wb W)=>h.upd (u0.trans u));have HBL:=Qh (fun(W:World) (u:Upd No wb W)=>bL.upd u id);obtain⟨R,hR⟩:∃R,Zaa (ofA mask q) must i da dw need=R:=⟨_,rfl⟩;have HR:=Qh (show ZV (ZJ must da dw need) 0 ys=R by rw[←hR,←hys];rfl);rw[hR];have c0:=bL.cell 0;have c1:=bL.cell 1;simp only[Qz,Qs]at c0 c1;have HY:=Qh hyr;clear hR hys hG h bL u0 hyr
 go_enter Tryz.func117,Tryz.ntmps117
 go_wp2_with fail
 refine(HO.out).mono ?_;rintro e w1 ⟨A1,k1,rfl,ho1,hu1⟩;have Ho1:=Qh (ZeQ ho1);have Hu1:=Qh hu1;clear ho1 hu1 HO c0 c1;go_wp2
 go_loopg [7,18] ys.length (fun gk s j wr=>∃(k:Nat) (b:Int),k+gk=ys.length∧j= .int .i64 k∧s= .int .i64 b∧0≤b∧b≤1000001∧Hid (ZV (ZJ must da dw need) b (ys.drop k)=R)∧Upd No w1 wr)
 case atStart=>exact⟨0,0,by omega,rfl,rfl,by omega,by omega,HR,Upd.refl _ _⟩
 case round=>
  obtain⟨k,b,hgk,rfl,rfl,hb0,hb1,hs,hu⟩:=hrel
  by_cases hlt:k<ys.length
  ·obtain⟨ax,rfl,q0,q1,q2,q3⟩:=(Ho1.out.upd hu (fun _ _=>id)).at_ hlt;obtain⟨x,hx⟩:∃x,ys[k]=x:=⟨_,rfl⟩;obtain⟨⟨hk1,hk2⟩,ht0,ht1⟩:=HY.out _ (List.getElem_mem hlt);rw[hx]at q0 q1 q2 q3 hk1 hk2 ht0 ht1;have hs':=hs.out;rw[List.drop_eq_getElem_cons hlt,hx,Zl6]at hs';have hv:=Zsz (must:=must) hbd need x;have i1:(0:Int)≤(k:Int):=Qn _;have i2:(k:Int)<(ys.length:Int):=by omega
   have uA:=(Upd.refl No wr).alloc (.cells #[.int .i64 x.f,.int .i64 x.t,.int .i64 x.kind,.int .i64 x.label] 34);have bo:=Blk.new wr 34 [.int .i64 x.f,.int .i64 x.t,.int .i64 x.kind,.int .i64 x.label];have g0:=bo.cell 0;have g1:=bo.cell 1;have g2:=bo.cell 2;have g3:=bo.cell 3;have bw:=HBL.out _ ((Hu1.out.trans hu).trans uA);have c0:=bw.cell 0;have c1:=bw.cell 1;have c2:=bw.cell 2;have c3:=bw.cell 3;have c4:=bw.cell 4;simp only[Qz,Qs]at g0 g1 g2 g3 c0 c1 c2 c3 c4;have HF:=Qh (ZrS _ p0 A B N mask must da dw (HLI.out _ ((Hu1.out.trans hu).trans uA)) x hk1 hk2 ht0 ht1 need)
   generalize ZJ must da dw need x=v at hs' hv HF
   have hw1:IntKind.i64.wrap (v+1)=v+1:=IntWalk.i64_in _ (by omega);have HUA:=Qh (hu.trans uA);have HS:=Qh hs';unfold HArc.cells at HF;clear hs hs' hx hk1 hk2 ht0 ht1 bo bw uA
   go_wp2_with fail
   refine(HF.out).mono ?_;rintro e w2 ⟨rfl,hu2⟩;have HU2:=Qh (HUA.out.trans hu2);clear hu2 HF
   by_cases hv0:0≤v
   ·have hn1:decide (0≤v)=true:=decide_eq_true hv0
    by_cases hbz:b=0
    ·subst hbz;have HS2:=Qh (show ZV (ZJ must da dw need) (v+1) (ys.drop (k+1))=R by have:=HS.out;rw[hn1]at this;exact this);go_wp2
     go_roundg (gk-1)
     case measure=>omega
     case rel=>exact⟨k+1,v+1,by omega,by go_num,by first|rfl|simp,by omega,by omega,HS2,HU2.out⟩
    ·have hn2:(b==0)=false:=beq_eq_false_iff_ne.2 hbz
     by_cases hvb:v+1<b
     ·have hn3:decide (v+1<b)=true:=decide_eq_true hvb;have HS2:=Qh (show ZV (ZJ must da dw need) (v+1) (ys.drop (k+1))=R by have:=HS.out;rw[hn1,hn2,hn3]at this;exact this);go_wp2
      go_roundg (gk-1)
      case measure=>omega
      case rel=>exact⟨k+1,v+1,by omega,by go_num,by first|rfl|simp,by omega,by omega,HS2,HU2.out⟩
     ·have hn3:decide (v+1<b)=false:=decide_eq_false hvb;have HS2:=Qh (show ZV (ZJ must da dw need) b (ys.drop (k+1))=R by have:=HS.out;rw[hn1,hn2,hn3]at this;exact this);go_wp2
      go_roundg (gk-1)
      case measure=>omega
      case rel=>exact⟨k+1,b,by omega,by go_num,by first|rfl|simp,by omega,by omega,HS2,HU2.out⟩
   ·have hn1:decide (0≤v)=false:=decide_eq_false hv0;have HS2:=Qh (show ZV (ZJ must da dw need) b (ys.drop (k+1))=R by have:=HS.out;rw[hn1]at this;exact this);go_wp2
    go_roundg (gk-1)
    case measure=>omega
    case rel=>exact⟨k+1,b,by omega,by go_num,by first|rfl|simp,by omega,by omega,HS2,HU2.out⟩
  ·obtain rfl:k=ys.length:=by omega
   have Hx:=Qh (show b=R by have:=hs.out;rw[List.drop_length]at this;exact this);clear hs;go_wp2
   go_ret
   exact⟨by first|rfl|(rw[Hx.out];rfl)|(rw[←Hx.out];rfl),(U0.out.trans Hu1.out).trans hu⟩
end
end Go.Proofs.YtonblekdfinpkaaGreat
