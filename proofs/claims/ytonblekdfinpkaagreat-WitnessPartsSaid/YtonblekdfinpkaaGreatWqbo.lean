/- Ways: how far each node is, by walks with an arc of another mask. -/
import Derived.Test.YtonblekdfinpkaaGreatWqbn
namespace Go.Proofs.YtonblekdfinpkaaGreat
set_option linter.unusedVariables false
set_option linter.unusedSimpArgs false
section
open Go.RowKit
def DQ2 (w:World) (ab g0 g1 qg N:Nat) (d:Int→Int) (qu:List Int) (A:Option Addr) (us:List Int) (W:World):Prop:=
 ∃F F2,Blk W ab 299 [.slice (some ⟨g0,0,none⟩) N N,.slice (some ⟨g1,0,none⟩) N N]∧Blk W g0 3 ((Zbq N d 0).map (Value.int .i64))∧Blk W g1 3 ((Zbq N d 1).map (Value.int .i64))∧
  Que W F qg ((2*N:Nat):Int) qu∧(¬F ab∧¬F g0∧¬F g1)∧(ab≠g0∧ab≠g1∧g0≠g1)∧(∀i,F i→w.heap.size≤i)∧(w.heap.size≤ab∧w.heap.size≤g0∧w.heap.size≤g1)∧Upd No w W∧Ints F2 W A us∧
  (∀i,F2 i→¬F i∧(i≠ab∧i≠g0∧i≠g1)∧i<W.heap.size)
def gOf (g0 g1:Nat) (h:Nat):Nat:=if h=0 then g0 else g1
namespace DQ2
variable {w W W':World} {ab g0 g1 qg N:Nat} {d:Int→Int} {qu us:List Int} {A:Option Addr}
theorem no (h:DQ2 w ab g0 g1 qg N d qu A us W) (k:Upd No W W'):DQ2 w ab g0 g1 qg N d qu A us W':=by
 obtain⟨F,F2,a1,a2,a3,h2,h3,h9,h4,h5,h6,h7,h8⟩:=h;exact⟨F,F2,a1.upd k id,a2.upd k id,a3.upd k id,h2.upd k (fun _ _=>id),h3,h9,h4,h5,h6.trans k,h7.upd k (fun _ _=>id),fun i hi=>⟨(h8 i hi).1,(h8 i hi).2.1,Nat.lt_of_lt_of_le (h8 i hi).2.2 k.size⟩⟩
theorem upd (h:DQ2 w ab g0 g1 qg N d qu A us W):Upd No w W:=by
 obtain⟨F,F2,a1,a2,a3,h2,h3,h9,h4,h5,h6,h7,h8⟩:=h;exact h6
theorem row1 (h:DQ2 w ab g0 g1 qg N d qu A us W):Blk W g1 3 ((Zbq N d 1).map (Value.int .i64)):=by
 obtain⟨F,F2,a1,a2,a3,h2,h3,h9,h4,h5,h6,h7,h8⟩:=h;exact a3
theorem ge1 (h:DQ2 w ab g0 g1 qg N d qu A us W):w.heap.size≤g1:=by
 obtain⟨F,F2,a1,a2,a3,h2,h3,h9,h4,h5,h6,h7,h8⟩:=h;exact h5.2.2
theorem arr (h:DQ2 w ab g0 g1 qg N d qu A us W) {k:Nat} (hk:k≤1):W.cell? ⟨ab,k,none⟩=some (.slice (some ⟨gOf g0 g1 k,0,none⟩) N N):=by
 obtain⟨F,F2,a1,a2,a3,h2,h3,h9,h4,h5,h6,h7,h8⟩:=h;have hk:k=0∨k=1:=by omega
 rcases hk with rfl|rfl
 ·exact a1.cell 0
 ·exact a1.cell 1
theorem sl (h:DQ2 w ab g0 g1 qg N d qu A us W):∃F2,Ints F2 W A us:=by
 obtain⟨F,F2,a1,a2,a3,h2,h3,h9,h4,h5,h6,h7,h8⟩:=h;exact⟨F2,h7⟩
theorem bare (h:DQ2 w ab g0 g1 qg N d qu A us W):DQ2 w ab g0 g1 qg N d qu none [] W:=by
 obtain⟨F,F2,a1,a2,a3,h2,h3,h9,h4,h5,h6,h7,h8⟩:=h;exact⟨F,fun _=>False,a1,a2,a3,h2,h3,h9,h4,h5,h6,Ints.nil_,fun _ e=>e.elim⟩
theorem list_ (h:DQ2 w ab g0 g1 qg N d qu A us W) {A':Option Addr} {c':Nat} {us':List Int} (k:Upd No W W') (ho:W'.ownsRow W.heap.size 3 1 (.slice A' us'.length c') us'.length (us'.map (Value.int .i64))):DQ2 w ab g0 g1 qg N d qu A' us' W':=by
 obtain⟨F,F2,a1,a2,a3,h2,h3,h9,h4,h5,h6,h7,h8⟩:=h
 have hI:Ints (fun i=>W.heap.size≤i∧i<W'.heap.size) W' A' us':=fun hne=>by
  obtain⟨ad,e,hf,hl,hc⟩:=(Ints.of_own ho) hne;exact⟨ad,e,⟨hf,hl⟩,hl,hc⟩
 have l1:=a1.lt;have l2:=a2.lt;have l3:=a3.lt;refine⟨F,_,a1.upd k id,a2.upd k id,a3.upd k id,h2.upd k (fun _ _=>id),h3,h9,h4,h5,h6.trans k,hI,fun i hi=>⟨fun e=> ?_,⟨fun e=> ?_,fun e=> ?_,fun e=> ?_⟩,hi.2⟩⟩
 ·have:=h2.lt i e;omega
 ·omega
 ·omega
 ·omega
theorem cell (h:DQ2 w ab g0 g1 qg N d qu A us W) {i k:Nat} (hk:k≤1) (hi:i<N):W.cell? ⟨gOf g0 g1 k,i,none⟩=some (.int .i64 (d ((i:Int)*2+(k:Int)))):=by
 obtain⟨F,F2,a1,a2,a3,h2,h3,h9,h4,h5,h6,h7,h8⟩:=h;have hk:k=0∨k=1:=by omega
 rcases hk with rfl|rfl
 ·show W.cell? ⟨g0,i,none⟩=_
  rw[a2.cell i,List.getElem?_map];unfold Zbq;rw[ZeO _ hi];rfl
 ·show W.cell? ⟨g1,i,none⟩=_
  rw[a3.cell i,List.getElem?_map];unfold Zbq;rw[ZeO _ hi];rfl
theorem free (h:DQ2 w ab g0 g1 qg N d qu A us W) {k:Nat} (hk:k≤1) (i:Nat):W.frozen? ⟨gOf g0 g1 k,i,none⟩=false:=by
 obtain⟨F,F2,a1,a2,a3,h2,h3,h9,h4,h5,h6,h7,h8⟩:=h;have hk:k=0∨k=1:=by omega
 rcases hk with rfl|rfl
 ·exact a2.free i
 ·exact a3.free i
theorem set_ (h:DQ2 w ab g0 g1 qg N d qu A us W) {k u:Nat} (hk:k≤1) (hu:u<N) (v:Int):DQ2 w ab g0 g1 qg N (Zal d ((u:Int)*2+(k:Int)) v) qu A us (W.setCell ⟨gOf g0 g1 k,u,none⟩ (.int .i64 v)):=by
 obtain⟨F,F2,a1,a2,a3,h2,h3,h9,h4,h5,h6,h7,h8⟩:=h;have hk:k=0∨k=1:=by omega
 rcases hk with rfl|rfl
 ·show DQ2 w ab g0 g1 qg N _ qu A us (W.setCell ⟨g0,u,none⟩ (.int .i64 v))
  have k:=Upd.setOne (Upd.refl (One g0) W) u (.int .i64 v);refine⟨F,F2,a1.upd k (fun e=>h9.1 e),?_,?_,h2.upd k (fun i hi e=>h3.2.1 (e▸hi)),h3,h9,h4,h5,h6.then_ k fun i e=> .inr (by rw[e];exact h5.2.1),h7.upd k (fun i hi e=>(h8 i hi).2.1.2.1 e),fun i hi=>⟨(h8 i hi).1,(h8 i hi).2.1,Nat.lt_of_lt_of_le (h8 i hi).2.2 k.size⟩⟩
  ·have:=a2.set_ u (.int .i64 v);rw[←List.map_set,ZkB d (.inl rfl) v hu]at this;exact this
  ·have e:Zbq N (Zal d ((u:Int)*2+((0:Nat):Int)) v) 1=Zbq N d 1:=ZhG d (.inl rfl) (.inr rfl) (by decide) v;rw[e];exact a3.upd k (fun e=>h9.2.2 e.symm)
 ·show DQ2 w ab g0 g1 qg N _ qu A us (W.setCell ⟨g1,u,none⟩ (.int .i64 v))
  have k:=Upd.setOne (Upd.refl (One g1) W) u (.int .i64 v);refine⟨F,F2,a1.upd k (fun e=>h9.2.1 e),?_,?_,h2.upd k (fun i hi e=>h3.2.2 (e▸hi)),h3,h9,h4,h5,h6.then_ k fun i e=> .inr (by rw[e];exact h5.2.2),h7.upd k (fun i hi e=>(h8 i hi).2.1.2.2 e),fun i hi=>⟨(h8 i hi).1,(h8 i hi).2.1,Nat.lt_of_lt_of_le (h8 i hi).2.2 k.size⟩⟩
  ·have e:Zbq N (Zal d ((u:Int)*2+((1:Nat):Int)) v) 0=Zbq N d 0:=ZhG d (.inr rfl) (.inl rfl) (by decide) v;rw[e];exact a2.upd k (fun e=>h9.2.2 e)
  ·have:=a3.set_ u (.int .i64 v);rw[←List.map_set,ZkB d (.inr rfl) v hu]at this;exact this
theorem push (h:DQ2 w ab g0 g1 qg N d qu A us W) (hN:N≤32768) (hf:qu.length<2*N) (u:Int):Calls Tryz.prog 228 #[.pointer (some ⟨qg,0,none⟩),.int .i64 u] W fun e w'=>e= .returned (.int .i64 0)∧DQ2 w ab g0 g1 qg N d (qu++[u]) A us w':=by
 obtain⟨F,F2,a1,a2,a3,h2,h3,h9,h4,h5,h6,h7,h8⟩:=h;refine(ZqP W F qg ((2*N:Nat):Int) qu u h2 (by omega) (by omega) (by omega)).mono ?_;rintro e w' ⟨rfl,F',hF',hq,hu⟩;have hs:=h6.size
 have hne:∀i,i<W.heap.size→¬F i→¬F' i:=fun i hi hn e=>by
  rcases hF' i e with e|e
  ·exact hn e
  ·omega
 refine⟨rfl,F',F2,a1.upd hu h3.1,a2.upd hu h3.2.1,a3.upd hu h3.2.2,hq,⟨hne ab a1.lt h3.1,hne g0 a2.lt h3.2.1,hne g1 a3.lt h3.2.2⟩,h9,fun i hi=> ?_,h5,h6.then_ hu fun i e=> .inr (h4 i e),h7.upd hu (fun i hi=>(h8 i hi).1),fun i hi=>⟨hne i (h8 i hi).2.2 (h8 i hi).1,(h8 i hi).2.1,Nat.lt_of_lt_of_le (h8 i hi).2.2 hu.size⟩⟩;rcases hF' i hi with e|e
 ·exact h4 i e
 ·omega
theorem popA (h:DQ2 w ab g0 g1 qg N d qu A us W):Calls Tryz.prog 229 #[.pointer (some ⟨qg,0,none⟩)] W fun e w'=>∃x b qu',e= .returned (.tuple #[.int .i64 x,.bool b])∧DQ2 w ab g0 g1 qg N d qu' A us w'∧(if b=true then qu=x::qu' else qu=[]∧qu'=[]):=by
 have h':=h;obtain⟨F,F2,a1,a2,a3,h2,h3,h9,h4,h5,h6,h7,h8⟩:=h
 cases qu with
 |nil=>
  refine(Zji W F qg ((2*N:Nat):Int) h2).mono ?_;rintro e w' ⟨rfl,rfl⟩;exact⟨0,false,[],rfl,h',by simp⟩
 |cons x qu=>
  refine(Zsk W F qg ((2*N:Nat):Int) x qu h2).mono ?_;rintro e w' ⟨rfl,hq,hu⟩;exact⟨x,true,qu,rfl,⟨F,F2,a1.upd hu h3.1,a2.upd hu h3.2.1,a3.upd hu h3.2.2,hq,h3,h9,h4,h5,h6.then_ hu fun i e=> .inr (h4 i e),h7.upd hu (fun i hi=>(h8 i hi).1),fun i hi=>⟨(h8 i hi).1,(h8 i hi).2.1,Nat.lt_of_lt_of_le (h8 i hi).2.2 hu.size⟩⟩,by simp⟩
end DQ2
end
/- Ways:how far each node is,by walks with an arc of another mask:the walk. -/
section
open Go.RowKit
theorem ZmF {wb W:World} {a b:Value} {t:TypeId} (_h:Upd No wb (W.alloc (.cells #[a,b] t))):Blk (W.alloc (.cells #[a,b] t)) W.heap.size t [a,b]:=Blk.new W t [a,b]
theorem Zkl {wb W:World} {a b:Value} {t:TypeId} (_h:Upd No wb (W.alloc (.cells #[a,b] t)).drew):Blk (W.alloc (.cells #[a,b] t)).drew W.heap.size t [a,b]:=Blk.new W t [a,b]
theorem Ze0 {wb W:World} {o:Obj} (_h:Upd No wb (W.alloc o)):Upd No W (W.alloc o):=(Upd.refl No W).alloc o
theorem Zew {P:Program} {ops:Array Oper} {o:Oper} {a:Act} {W:World} {K:Act→World→Prop} {Q:Exit→Act→World→Prop} {E:Prop} (hgd:o.guard=none) {ty:TypeId} {x y:Operand} (ho:o.op= .store ty x y)
  {g:Nat} {t:TypeId} {old cells:List Value} (hx:a.eval x= .pointer (some ⟨g,0,none⟩)) (hy:a.eval y= .agg cells.toArray) (hb:Blk W g t old) (hi:(P.info? ty).map (·.size)=some cells.length) (hold:old.length=cells.length)
  (h1:cells.all (·.oneCell')=true) (h:∀w',Blk w' g t cells→Upd (One g) W w'→K (a.put o.dst undef) w'):if Region.wanted o (yielded ops a.tmps)=true then Oper.wp P o a W K Q else E:=by
 rw[if_pos (by simp[Region.wanted,hgd])];refine wp_store_row ty x y ho g cells.toArray hx hy t old.toArray hb (by simpa using hi) (by simpa using hold) (by simpa using h1) ?_;exact h _ (setRow_heap W g old.toArray cells.toArray t (0,0) hb) ⟨rfl,rfl,rfl,by simp[World.setRow],fun k hk hn=>setRow_other W g k _ hn⟩
theorem Ztw (W:World) (a b:Int):(Instr.index 265 (.agg #[.int .i64 a,.int .i64 b]) (.int .i64 0)).run Tryz.prog W= .ok (.int .i64 a) W:=by
 have hi:(Tryz.prog.info? 3).map (fun i=>(i.zero,i.size))=some (some (.int .i64 0),1):=by kernel_rfl
 obtain⟨i,h1,h2⟩:=Option.map_eq_some_iff.1 hi;simp only[Prod.mk.injEq]at h2;simp[Instr.index,run_underlying Tryz.underlying265,asIntOf,go_sem,sizeOf,typeInfo,h1,h2]
theorem Ztv (W:World) (a b:Int):(Instr.index 265 (.agg #[.int .i64 a,.int .i64 b]) (.int .i64 1)).run Tryz.prog W= .ok (.int .i64 b) W:=by
 have hi:(Tryz.prog.info? 3).map (fun i=>(i.zero,i.size))=some (some (.int .i64 0),1):=by kernel_rfl
 obtain⟨i,h1,h2⟩:=Option.map_eq_some_iff.1 hi;simp only[Prod.mk.injEq]at h2;simp[Instr.index,run_underlying Tryz.underlying265,asIntOf,go_sem,sizeOf,typeInfo,h1,h2]
def Za2 (a b:List Int):Nat→List Int
 |0=>[]
 |1=>a
 |_=>a++b
def Zc5 (a b:List Int):Nat→List Int
 |0=>a++b
 |1=>b
 |_=>[]
set_option maxRecDepth 100000 in
set_option maxHeartbeats 8000000 in
theorem ZtG (w:World) (G:Nat→Prop) (p0:Option Addr) (N K:Nat) (q:List HArc) (h:DG w G p0 N K q) (hK:K≤100000) (mask must node least:Int):
  Calls Tryz.prog 186 #[.pointer p0,.int .i64 mask,.int .i64 must,.int .i64 node,.int .i64 least] w (ZnJ w (Zbq N (Zc8 N (ofA (bits .andNot .i64 mask must) q) (ofA (bits .and .i64 mask must) q) (bits .andNot .i64 mask must) (bits .and .i64 mask must) least node) 1)):=by
 have hN:=h.nodes_le;obtain⟨m1,hm1⟩:∃m,bits .andNot .i64 mask must=m:=⟨_,rfl⟩;obtain⟨m2,hm2⟩:∃m,bits .and .i64 mask must=m:=⟨_,rfl⟩;rw[hm1,hm2];obtain⟨p1,hp1⟩:∃p,ofA m1 q=p:=⟨_,rfl⟩;obtain⟨p2,hp2⟩:∃p,ofA m2 q=p:=⟨_,rfl⟩
 have hpr1:∀x∈p1,0≤x.f∧x.f<(N:Int):=fun x hx=>by
  rw[←hp1]at hx;have:=(ZC _ _).1 (h.right x (mem_ofA.1 hx).1);exact⟨this.1,this.2.1⟩
 have hpr2:∀x∈p2,0≤x.f∧x.f<(N:Int):=fun x hx=>by
  rw[←hp2]at hx;have:=(ZC _ _).1 (h.right x (mem_ofA.1 hx).1);exact⟨this.1,this.2.1⟩
 obtain⟨wb,hwb⟩:∃wb,w.alloc (.cells #[.pointer p0,.int .i64 mask,.int .i64 least] 295)=wb:=⟨_,rfl⟩;have u0:Upd No w wb:=by rw[←hwb];exact(Upd.refl No w).alloc _
 have bS:Blk wb w.heap.size 295 [.pointer p0,.int .i64 mask,.int .i64 least]:=by rw[←hwb];exact Blk.new w _ _
 have HG:=Qh (fun(W:World) (u:Upd No wb W)=>h.no (u0.trans u));have HP1:=Qh (fun(W:World) (u:Upd No wb W) (i:Int)=>hp1▸Zlq (h.no (u0.trans u)) i m1);have HP2:=Qh (fun(W:World) (u:Upd No wb W) (i:Int)=>hp2▸Zlq (h.no (u0.trans u)) i m2);have ALLS:=Qh (show∀W,Upd No wb W→Upd No wb W∧W.cell? ⟨w.heap.size,0,none⟩=some (.pointer p0)∧W.cell? ⟨w.heap.size,1,none⟩=some (.int .i64 mask)∧W.cell? ⟨w.heap.size,2,none⟩=some (.int .i64 least) from fun W u=>⟨u,(bS.upd u id).cell 0,(bS.upd u id).cell 1,(bS.upd u id).cell 2⟩);have HPR1:=Qh hpr1;have HPR2:=Qh hpr2
 have HPL:=Qh (show p1.length≤100000∧p2.length≤100000 from by
  rw[←hp1,←hp2];have:=h.few;have a1:=List.length_filter_le (fun x=>Zf m1 x.kind) q;have a2:=List.length_filter_le (fun x=>Zf m2 x.kind) q;unfold ofA;omega)
 have U0:=Qh u0;have HNO:=Qh (fun(W:World) (u:Upd No wb W)=>ZqY (h.no (u0.trans u)) mask least);rw[hp1,hp2];clear hp1 hp2 hpr1 hpr2 h bS u0;have UB:=Qh ((Upd.refl No wb).drew)
 go_enter Tryz.func186,Tryz.ntmps186
 go_upto_region 2 with fail
 go_cut [12] (fun s12 wx=>∃(ab g0 g1:Nat),s12= .pointer (some ⟨ab,0,none⟩)∧Blk wx ab 299 [.slice (some ⟨g0,0,none⟩) N N,.slice (some ⟨g1,0,none⟩) N N]∧Blk wx g0 3 ((List.replicate N (-1)).map (Value.int .i64))∧Blk wx g1 3 ((List.replicate N (-1)).map (Value.int .i64))∧
  (ab≠g0∧ab≠g1∧g0≠g1)∧(wb.heap.size≤ab∧wb.heap.size≤g0∧wb.heap.size≤g1)∧Upd No wb wx)
 case first=>
  refine wp_region_noPanic ?_;refine wp_region_held_drew (S:=(fun W'=>Upd No wb W'∧W'.cell? ⟨w.heap.size,0,none⟩=some (.pointer p0)∧W'.cell? ⟨w.heap.size,1,none⟩=some (.int .i64 mask)∧W'.cell? ⟨w.heap.size,2,none⟩=some (.int .i64 least))) (by kernel_rfl) ?_ (fun hHeld=> ?_)
  ·(first|(with_reducible exact ALLS.out _ UB.out)|(with_reducible exact ALLS.out _ (hHeld.1.trans hu4))|(with_reducible exact ALLS.out _ (hHeld.1.alloc _))|exact ALLS.out _ hU5|exact ALLS.out _ (((Upd.refl No wb).alloc _).drew))
  refine wpK 0 rfl ?_;refine wpK 2 rfl ?_;refine wpR [1,5] ?_;refine wpC rfl (fun K hK=> ?_) ?_
  ·go_simp
   (first
   |(go_at_call 225;refine(HNO.out _ hHeld.1).mono ?_;rintro e w4 ⟨g0,rfl,hb0,hg0,hu4⟩;have HB0:=Qh hb0;have HG0:=Qh (Nat.le_trans hHeld.1.size hg0);(try have L0:=Qh (Nat.lt_of_lt_of_le ZZ.out.lt hg0));(try have ZZ:=Qh (ZZ.out.upd hu4 id));clear hb0 hg0))
   try (go_wp2_with fail)
   refine hK.out _ _ ?_ (fun hHeld=> ?_)
   ·(first|(with_reducible exact ALLS.out _ UB.out)|(with_reducible exact ALLS.out _ (hHeld.1.trans hu4))|(with_reducible exact ALLS.out _ (hHeld.1.alloc _))|exact ALLS.out _ hU5|exact ALLS.out _ (((Upd.refl No wb).alloc _).drew))
   clear hK K
   try simp only[Act.put,sT,sS,sZ]
   refine wpR [3,5] ?_;refine wpC rfl (fun K hK=> ?_) ?_
   ·go_simp
    (first
    |(go_at_call 225;refine(HNO.out _ hHeld.1).mono ?_;rintro e w4 ⟨g1,rfl,hb1,hg1,hu4⟩;have HB1:=Qh hb1;have HG1:=Qh (Nat.le_trans hHeld.1.size hg1);have M01:=Qh (Nat.lt_of_lt_of_le HB0.out.lt hg1);have HB0:=Qh (HB0.out.upd hu4 id);(try have L1:=Qh (Nat.lt_of_lt_of_le ZZ.out.lt hg1));(try have ZZ:=Qh (ZZ.out.upd hu4 id));clear hb1 hg1))
    try (go_wp2_with fail)
    refine hK.out _ _ ?_ (fun hHeld=> ?_)
    ·(first|(with_reducible exact ALLS.out _ UB.out)|(with_reducible exact ALLS.out _ (hHeld.1.trans hu4))|(with_reducible exact ALLS.out _ (hHeld.1.alloc _))|exact ALLS.out _ hU5|exact ALLS.out _ (((Upd.refl No wb).alloc _).drew))
    clear hK K
    try simp only[Act.put,sT,sS,sZ]
    refine wpK 4 rfl ?_;refine wpR [5] ?_;refine wpC rfl (fun K hK=> ?_) AllReadyH.nil;have HAB:=Qh hHeld.1.size
    (try have M0:=Qh HB0.out.lt)
    (try have M1:=Qh HB1.out.lt)
    go_simp;refine hK.out _ _ ?_ (fun hHeld=> ?_)
    ·(first|(with_reducible exact ALLS.out _ UB.out)|(with_reducible exact ALLS.out _ (hHeld.1.trans hu4))|(with_reducible exact ALLS.out _ (hHeld.1.alloc _))|exact ALLS.out _ hU5|exact ALLS.out _ (((Upd.refl No wb).alloc _).drew))
    clear hK K
    try simp only[Act.put,sT,sS,sZ]
    (first|have ZZ:=Qh (ZmF hHeld.1)|have ZZ:=Qh (Zkl hHeld.1))
    (try have HB0:=Qh (HB0.out.upd (Ze0 hHeld.1) id))
    (try have HB1:=Qh (HB1.out.upd (Ze0 hHeld.1) id))
    refine wpR [6] ?_;refine wpC rfl (fun K hK=> ?_) AllReadyH.nil
    (first
    |(refine Zew rfl rfl (cells:=[.slice (some ⟨g0,0,none⟩) N N,.slice (some ⟨g1,0,none⟩) N N]) rfl rfl ZZ.out (by kernel_rfl) rfl rfl ?_;intro w5 hb5 hu5;have hU5:=hHeld.1.then_ hu5 (fun i e=>by unfold One at e;rw[e];exact .inr HAB.out)))
    refine hK.out _ _ ?_ (fun hHeld=> ?_)
    ·(first|(with_reducible exact ALLS.out _ UB.out)|(with_reducible exact ALLS.out _ (hHeld.1.trans hu4))|(with_reducible exact ALLS.out _ (hHeld.1.alloc _))|exact ALLS.out _ hU5|exact ALLS.out _ (((Upd.refl No wb).alloc _).drew))
    clear hK K
    try simp only[Act.put,sT,sS,sZ]
    refine wpD (NoPanic.normal ?_)
    go_wp2_with fail
    go_meet
    refine⟨_,g0,g1,rfl,hb5,?_,?_,⟨?_,?_,?_⟩,⟨HAB.out,HG0.out,HG1.out⟩,hHeld.1⟩
    ·exact HB0.out.upd hu5 (fun e=>by unfold One at e;(first|(have:=L0.out;omega)|(have:=M0.out;omega)))
    ·exact HB1.out.upd hu5 (fun e=>by unfold One at e;(first|(have:=L1.out;omega)|(have:=M1.out;omega)))
    ·(first|(have:=L0.out;omega)|(have:=M0.out;omega))
    ·(first|(have:=L1.out;omega)|(have:=M1.out;omega))
    ·(have:=M01.out;omega)
   refine wpC rfl (fun K hK=> ?_) AllReadyH.nil;have HAB:=Qh hHeld.1.size
   (try have M0:=Qh HB0.out.lt)
   (try have M1:=Qh HB1.out.lt)
   go_simp;refine hK.out _ _ ?_ (fun hHeld=> ?_)
   ·(first|(with_reducible exact ALLS.out _ UB.out)|(with_reducible exact ALLS.out _ (hHeld.1.trans hu4))|(with_reducible exact ALLS.out _ (hHeld.1.alloc _))|exact ALLS.out _ hU5|exact ALLS.out _ (((Upd.refl No wb).alloc _).drew))
   clear hK K
   try simp only[Act.put,sT,sS,sZ]
   (first|have ZZ:=Qh (ZmF hHeld.1)|have ZZ:=Qh (Zkl hHeld.1))
   (try have HB0:=Qh (HB0.out.upd (Ze0 hHeld.1) id))
   (try have HB1:=Qh (HB1.out.upd (Ze0 hHeld.1) id))
   refine wpR [3] ?_;refine wpC rfl (fun K hK=> ?_) AllReadyH.nil;go_simp
   (first
   |(go_at_call 225;refine(HNO.out _ hHeld.1).mono ?_;rintro e w4 ⟨g1,rfl,hb1,hg1,hu4⟩;have HB1:=Qh hb1;have HG1:=Qh (Nat.le_trans hHeld.1.size hg1);have M01:=Qh (Nat.lt_of_lt_of_le HB0.out.lt hg1);have HB0:=Qh (HB0.out.upd hu4 id);(try have L1:=Qh (Nat.lt_of_lt_of_le ZZ.out.lt hg1));(try have ZZ:=Qh (ZZ.out.upd hu4 id));clear hb1 hg1))
   try (go_wp2_with fail)
   refine hK.out _ _ ?_ (fun hHeld=> ?_)
   ·(first|(with_reducible exact ALLS.out _ UB.out)|(with_reducible exact ALLS.out _ (hHeld.1.trans hu4))|(with_reducible exact ALLS.out _ (hHeld.1.alloc _))|exact ALLS.out _ hU5|exact ALLS.out _ (((Upd.refl No wb).alloc _).drew))
   clear hK K
   try simp only[Act.put,sT,sS,sZ]
   refine wpK 4 rfl ?_;refine wpR [6] ?_;refine wpC rfl (fun K hK=> ?_) AllReadyH.nil
   (first
   |(refine Zew rfl rfl (cells:=[.slice (some ⟨g0,0,none⟩) N N,.slice (some ⟨g1,0,none⟩) N N]) rfl rfl ZZ.out (by kernel_rfl) rfl rfl ?_;intro w5 hb5 hu5;have hU5:=hHeld.1.then_ hu5 (fun i e=>by unfold One at e;rw[e];exact .inr HAB.out)))
   refine hK.out _ _ ?_ (fun hHeld=> ?_)
   ·(first|(with_reducible exact ALLS.out _ UB.out)|(with_reducible exact ALLS.out _ (hHeld.1.trans hu4))|(with_reducible exact ALLS.out _ (hHeld.1.alloc _))|exact ALLS.out _ hU5|exact ALLS.out _ (((Upd.refl No wb).alloc _).drew))
   clear hK K
   try simp only[Act.put,sT,sS,sZ]
   refine wpD (NoPanic.normal ?_)
   go_wp2_with fail
   go_meet
   refine⟨_,g0,g1,rfl,hb5,?_,?_,⟨?_,?_,?_⟩,⟨HAB.out,HG0.out,HG1.out⟩,hHeld.1⟩
   ·exact HB0.out.upd hu5 (fun e=>by unfold One at e;(first|(have:=L0.out;omega)|(have:=M0.out;omega)))
   ·exact HB1.out.upd hu5 (fun e=>by unfold One at e;(first|(have:=L1.out;omega)|(have:=M1.out;omega)))
   ·(first|(have:=L0.out;omega)|(have:=M0.out;omega))
   ·(first|(have:=L1.out;omega)|(have:=M1.out;omega))
   ·(have:=M01.out;omega)
  refine wpC rfl (fun K hK=> ?_) AllReadyH.nil;have HAB:=Qh hHeld.1.size
  (try have M0:=Qh HB0.out.lt)
  (try have M1:=Qh HB1.out.lt)
  go_simp;refine hK.out _ _ ?_ (fun hHeld=> ?_)
  ·(first|(with_reducible exact ALLS.out _ UB.out)|(with_reducible exact ALLS.out _ (hHeld.1.trans hu4))|(with_reducible exact ALLS.out _ (hHeld.1.alloc _))|exact ALLS.out _ hU5|exact ALLS.out _ (((Upd.refl No wb).alloc _).drew))
  clear hK K
  try simp only[Act.put,sT,sS,sZ]
  (first|have ZZ:=Qh (ZmF hHeld.1)|have ZZ:=Qh (Zkl hHeld.1))
  (try have HB0:=Qh (HB0.out.upd (Ze0 hHeld.1) id))
  (try have HB1:=Qh (HB1.out.upd (Ze0 hHeld.1) id))
  refine wpR [1] ?_;refine wpC rfl (fun K hK=> ?_) AllReadyH.nil;go_simp
  (first
  |(go_at_call 225;refine(HNO.out _ hHeld.1).mono ?_;rintro e w4 ⟨g0,rfl,hb0,hg0,hu4⟩;have HB0:=Qh hb0;have HG0:=Qh (Nat.le_trans hHeld.1.size hg0);(try have L0:=Qh (Nat.lt_of_lt_of_le ZZ.out.lt hg0));(try have ZZ:=Qh (ZZ.out.upd hu4 id));clear hb0 hg0))
  try (go_wp2_with fail)
  refine hK.out _ _ ?_ (fun hHeld=> ?_)
  ·(first|(with_reducible exact ALLS.out _ UB.out)|(with_reducible exact ALLS.out _ (hHeld.1.trans hu4))|(with_reducible exact ALLS.out _ (hHeld.1.alloc _))|exact ALLS.out _ hU5|exact ALLS.out _ (((Upd.refl No wb).alloc _).drew))
  clear hK K
  try simp only[Act.put,sT,sS,sZ]
  refine wpR [3] ?_;refine wpC rfl (fun K hK=> ?_) AllReadyH.nil;go_simp
  (first
  |(go_at_call 225;refine(HNO.out _ hHeld.1).mono ?_;rintro e w4 ⟨g1,rfl,hb1,hg1,hu4⟩;have HB1:=Qh hb1;have HG1:=Qh (Nat.le_trans hHeld.1.size hg1);have M01:=Qh (Nat.lt_of_lt_of_le HB0.out.lt hg1);have HB0:=Qh (HB0.out.upd hu4 id);(try have L1:=Qh (Nat.lt_of_lt_of_le ZZ.out.lt hg1));(try have ZZ:=Qh (ZZ.out.upd hu4 id));clear hb1 hg1))
  try (go_wp2_with fail)
  refine hK.out _ _ ?_ (fun hHeld=> ?_)
  ·(first|(with_reducible exact ALLS.out _ UB.out)|(with_reducible exact ALLS.out _ (hHeld.1.trans hu4))|(with_reducible exact ALLS.out _ (hHeld.1.alloc _))|exact ALLS.out _ hU5|exact ALLS.out _ (((Upd.refl No wb).alloc _).drew))
  clear hK K
  try simp only[Act.put,sT,sS,sZ]
  refine wpK 4 rfl ?_;refine wpR [6] ?_;refine wpC rfl (fun K hK=> ?_) AllReadyH.nil
  (first
  |(refine Zew rfl rfl (cells:=[.slice (some ⟨g0,0,none⟩) N N,.slice (some ⟨g1,0,none⟩) N N]) rfl rfl ZZ.out (by kernel_rfl) rfl rfl ?_;intro w5 hb5 hu5;have hU5:=hHeld.1.then_ hu5 (fun i e=>by unfold One at e;rw[e];exact .inr HAB.out)))
  refine hK.out _ _ ?_ (fun hHeld=> ?_)
  ·(first|(with_reducible exact ALLS.out _ UB.out)|(with_reducible exact ALLS.out _ (hHeld.1.trans hu4))|(with_reducible exact ALLS.out _ (hHeld.1.alloc _))|exact ALLS.out _ hU5|exact ALLS.out _ (((Upd.refl No wb).alloc _).drew))
  clear hK K
  try simp only[Act.put,sT,sS,sZ]
  refine wpD (NoPanic.normal ?_)
  go_wp2_with fail
  go_meet
  refine⟨_,g0,g1,rfl,hb5,?_,?_,⟨?_,?_,?_⟩,⟨HAB.out,HG0.out,HG1.out⟩,hHeld.1⟩
  ·exact HB0.out.upd hu5 (fun e=>by unfold One at e;(first|(have:=L0.out;omega)|(have:=M0.out;omega)))
  ·exact HB1.out.upd hu5 (fun e=>by unfold One at e;(first|(have:=L1.out;omega)|(have:=M1.out;omega)))
  ·(first|(have:=L0.out;omega)|(have:=M0.out;omega))
  ·(first|(have:=L1.out;omega)|(have:=M1.out;omega))
  ·(have:=M01.out;omega)
 case rest=>
  obtain⟨ab,g0,g1,rfl,ha,hb0,hb1,hne,hge,hu1⟩:=hcut;have hd0:=fun(W:World) (u:Upd No wc W)=>(ALLS.out W (hu1.trans u)).2
  have HD0:=Qh hd0;obtain⟨c0,c1,c2⟩:=hd0 wc (Upd.refl _ _);have a1:=ha.cell 1;simp only[Qz,Qs]at a1;clear hd0
  cases hs:Zao N least node
  ·have hst:=Qh (hs▸Zir (HG.out wc hu1) mask least node);have HV:=Qh (show Zbq N (Zc8 N p1 p2 m1 m2 least node) 1=List.replicate N (-1) by unfold Zc8;rw[hs];exact Zfd N (-1) 1)
   go_wp2_with fail
   refine(hst.out).mono ?_;rintro e w2 ⟨rfl,hu2⟩;have a1':=(ha.upd hu2 id).cell 1;simp only[Qz,Qs]at a1';go_wp2
   go_ret
   rw[HV.out];exact⟨g1,by simp,hb1.upd hu2 id,by have:=U0.out.size;omega,(U0.out.trans hu1).trans hu2⟩
  ·have hst:=Qh (hs▸Zir (HG.out wc hu1) mask least node);have HV:=Qh (show Zc8 N p1 p2 m1 m2 least node=Za7 (Zg least) (Zt p1 p2 m1 m2) (2*N) (Za9 (node*2),[node*2]) by unfold Zc8;rw[hs];rfl);unfold Zao at hs;rw[Bool.and_eq_true,decide_eq_true_eq,decide_eq_true_eq]at hs;obtain⟨nd,rfl⟩:∃nd:Nat,node=(nd:Int):=⟨node.toNat,by omega⟩;have hnd:nd<N:=by omega
   have hln:least≤(nd:Int):=by omega
   clear hs
   go_wp2_with fail
   refine(hst.out).mono ?_;rintro e w2 ⟨rfl,hu2⟩
   go_wp2_with fail
   refine(ZeW (HG.out w2 (hu1.trans hu2))).mono ?_;rintro e w3 ⟨rfl,rfl⟩;have hwn:ZaR ((2*N:Nat):Int)=((2*N:Nat):Int):=by unfold ZaR;omega
   have hwm:IntKind.i64.wrap (2*(N:Int))=((2*N:Nat):Int):=by rw[show(2:Int)*(N:Int)=((2*N:Nat):Int) by omega];exact IntWalk.i64_in _ (by omega)
   have hqn:=Qh (hwn▸Zsl w2 ((2*N:Nat):Int))
   go_wp2_with fail
   refine(hqn.out).mono ?_;rintro e w4 ⟨qg,rfl,hqg,hq4,hu4⟩;have hu24:=hu2.trans hu4;have l0:=(hb0.upd hu2 id).lt;have l1:=(hb1.upd hu2 id).lt;have la:=(ha.upd hu2 id).lt
   have hdq:DQ2 wb ab g0 g1 qg N (fun _=> -1) [] none [] w4:=⟨One qg,fun _=>False,ha.upd hu24 id,by rw[Zfd];exact hb0.upd hu24 id,by rw[Zfd];exact hb1.upd hu24 id,hq4,
    ⟨fun e=>by unfold One at e;omega,fun e=>by unfold One at e;omega,fun e=>by unfold One at e;omega⟩,hne,fun i e=>by unfold One at e;have:=(hu1.trans hu2).size;omega,hge,hu1.trans hu24,Ints.nil_,fun _ e=>e.elim⟩
   have fr:=hdq.free (k:=0) (by omega) nd;have cc:=hdq.cell (k:=0) (by omega) hnd;have ca:=hdq.arr (k:=0) (by omega);have i1:(0:Int)≤(nd:Int):=by omega
   have i2:(nd:Int)<(N:Int):=by omega
   have HD:=Qh (show DQ2 wb ab g0 g1 qg N (Za9 ((nd:Int)*2)) [] none [] (w4.setCell ⟨gOf g0 g1 0,nd,none⟩ (.int .i64 0)) from by
    have:=hdq.set_ (k:=0) (by omega) hnd 0;rw[show(nd:Int)*2+((0:Nat):Int)=(nd:Int)*2 by omega]at this;exact this)
   have hsh:IntKind.i64.wrap ((nd:Int)*2)=(nd:Int)*2:=IntWalk.i64_in _ (by omega);have hor:bits .or .i64 ((nd:Int)*2) 0=(nd:Int)*2:=by have:=ZhQ nd 0 (by omega) (by omega);simpa using this
   clear ha hb0 hb1 hne hu1 hu2 hq4 hu4 hu24 hdq hst hqn a1 c0 c1 c2 l0 l1 la HNO
   generalize hgg0:gOf g0 g1 0=gz at*
   go_wp2_with fail
   refine(HD.out.push (by omega) (by simp;omega) ((nd:Int)*2)).mono ?_;rintro e w5 ⟨rfl,hd5⟩;rw[List.nil_append]at hd5;have hdm:(nd:Int)*2∈Zd (2*N):=mem_nodesZ.2 ⟨by omega,by omega⟩;have hcl:∀v∈Zd (2*N),∀u∈Zt p1 p2 m1 m2 v,Zg least u=true→u∈Zd (2*N):=fun v _ u hu _=>ZgY HPR1.out HPR2.out v u hu
   have B0:=BInv.start (ok:=Zg least) (ps:=Zt p1 p2 m1 m2) hdm (Zl (2*N));have B1:=Qh (show BInv (Zg least) (Zt p1 p2 m1 m2) (Zd (2*N)) ((nd:Int)*2) (Za9 ((nd:Int)*2)) [(nd:Int)*2] from B0);have HM:=Qh (show Zad (Zd (2*N)) (Za9 ((nd:Int)*2))+[(nd:Int)*2].length≤2*N by have:=B1.out.fit;unfold Fits at this;rw[ZT]at this;exact this);have HCL:=Qh hcl;clear HD B0 hdm hcl HG fr cc ca HD0 ALLS
   go_wp2_with fail
   refine(hd5.popA).mono ?_;rintro e w6 ⟨x,b,qu,rfl,hd6,hb6⟩;have HB6:=Qh hb6;have HD6:=Qh hd6;clear hd5 hb6 hd6;go_wp2
   go_loopg [14,15] (2*N) (fun gk sx sb wr=>∃(d:Int→Int) (pend qu:List Int) (x:Int) (b:Bool),sx= .int .i64 x∧sb= .bool b∧Hid (if b=true then pend=x::qu else pend=[]∧qu=[])∧Hid (DQ2 wb ab g0 g1 qg N d qu none [] wr)∧
    Hid (BInv (Zg least) (Zt p1 p2 m1 m2) (Zd (2*N)) ((nd:Int)*2) d pend)∧Hid (Za7 (Zg least) (Zt p1 p2 m1 m2) gk (d,pend)=Za7 (Zg least) (Zt p1 p2 m1 m2) (2*N) (Za9 ((nd:Int)*2),[(nd:Int)*2]))∧Hid (Zad (Zd (2*N)) d+pend.length≤gk))
   case atStart=>exact⟨Za9 ((nd:Int)*2),[(nd:Int)*2],qu,x,b,rfl,rfl,HB6,HD6,B1,Qh rfl,HM⟩
   case round=>
    obtain⟨d,pend,qu,x,b,rfl,rfl,hpe,hd,hbi,heq,hme⟩:=hrel
    cases b
    ·have hp0:pend=[]:=(show pend=[]∧qu=[] from by simpa using hpe.out).1;have HR:=Qh (show d=Zc8 N p1 p2 m1 m2 least (nd:Int) by rw[HV.out,←heq.out,hp0,Zlz]);have ca1:=hd.out.arr (k:=1) (by omega);have hb:=hd.out.row1;have hu:=hd.out.upd;have hg:=hd.out.ge1;clear hpe heq hme hbi hp0 hd;go_wp2
     go_ret
     have:=U0.out.size;refine⟨g1,by simp[Zbq,ZbV,gOf],?_,by omega,U0.out.trans hu⟩;rw[←HR.out];exact hb
    ·have hp0:pend=x::qu:=by simpa using hpe.out
     subst hp0;have hri:=hbi.out.pop;have hx0:=hbi.out.q0 x List.mem_cons_self;have hxd:=mem_nodesZ.1 (hbi.out.dm x hx0);obtain⟨xi,rfl⟩:∃xi:Nat,x=(xi:Int):=⟨x.toNat,by omega⟩;obtain⟨ai,hai⟩:∃ai,xi/2=ai:=⟨_,rfl⟩;obtain⟨hh,hhh⟩:∃hh,xi%2=hh:=⟨_,rfl⟩;have hai1:ai<N:=by omega
     have hh1:hh≤1:=by omega
     have e1:(xi:Int)/2=(ai:Int):=by omega
     have e2:bits .and .i64 (xi:Int) 1=(hh:Int):=by rw[ZrZ];omega
     have e3:(xi:Int)%2=(hh:Int):=by omega
     have e4:(xi:Int)=(ai:Int)*2+(hh:Int):=by omega
     have hme':=hme.out;simp only[List.length_cons]at hme';obtain⟨gg,rfl⟩:∃g1,gk=g1+1:=⟨gk-1,by omega⟩;have hst:=heq.out;rw[Zgh]at hst;obtain⟨u1,hu1⟩:∃us,nxA (ai:Int) true p1=us:=⟨_,rfl⟩;obtain⟨u2,hu2⟩:∃us,nxA (ai:Int) true p2=us:=⟨_,rfl⟩;have hps:Zt p1 p2 m1 m2 (xi:Int)=(u1.map fun u=>u*2+ZeF m1 m2 (hh:Int))++(u2.map fun u=>u*2+1):=by unfold Zt;rw[e1,e3,hu1,hu2]
     have HPS:=Qh hps;have HPx1:=Qh (fun(W:World) (u:Upd No wb W)=>hu1▸HP1.out W u (ai:Int));have HPx2:=Qh (fun(W:World) (u:Upd No wb W)=>hu2▸HP2.out W u (ai:Int));have hl1:u1.length≤p1.length:=by rw[←hu1];exact Zg3 _ _ _
     have hl2:u2.length≤p2.length:=by rw[←hu2];exact Zg3 _ _ _
     have HLL:=Qh (show u1.length≤100000∧u2.length≤100000 by have:=HPL.out;omega);have HUN1:=Qh (show∀u∈u1,0≤u∧u<(N:Int) from fun u hu=>mem_nodesZ.1 (Zct HPR1.out (ai:Int) u (by unfold Zag;rw[hu1];exact hu)));have HUN2:=Qh (show∀u∈u2,0≤u∧u<(N:Int) from fun u hu=>mem_nodesZ.1 (Zct HPR2.out (ai:Int) u (by unfold Zag;rw[hu2];exact hu)));rw[hps]at hst;have HST:=Qh hst;have HRI:=Qh hri;obtain⟨dx,hdx⟩:∃v,d (xi:Int)=v:=⟨_,rfl⟩;rw[hdx]at HST HRI;obtain⟨M,hM⟩:∃M,Zad (Zd (2*N)) d+qu.length=M:=⟨_,rfl⟩;have HMM:=Qh (show M≤gg by omega);have HM1:=Qh hM;have HD7:=hd;have E4:=Qh e4;clear hpe hbi heq hme hri hx0 hxd hme' hst hM hdx hd e3 e4 hps hl1 hl2 hai hhh hu1 hu2;obtain⟨nw,hnw⟩:∃v,ZeF m1 m2 (hh:Int)=v:=⟨_,rfl⟩;rw[hnw]at HPS HST;obtain⟨L1,hL1⟩:∃L,(u1.map fun u=>u*2+nw)=L:=⟨_,rfl⟩;obtain⟨L2,hL2⟩:∃L,(u2.map fun u=>u*2+(1:Int))=L:=⟨_,rfl⟩;have HNW:=Qh hnw;have HL1:=Qh hL1;have HL2:=Qh hL2;rw[hL1,hL2]at HST;have HRI0:=Qh (show RInv (Zg least) (Zt p1 p2 m1 m2) (Zd (2*N)) ((nd:Int)*2) (xi:Int) dx (Za2 L1 L2 0) d qu from HRI.out);clear hnw hL1 hL2
     go_wp2_with fail
     go_loopg [73] 2 (fun gm s wr=>∃(i:Nat) (iz:Int) (d':Int→Int) (qu':List Int),i+gm=2∧s= .int .i64 iz∧iz=(i:Int)∧Hid (DQ2 wb ab g0 g1 qg N d' qu' none [] wr)∧Hid (RInv (Zg least) (Zt p1 p2 m1 m2) (Zd (2*N)) ((nd:Int)*2) (xi:Int) dx (Za2 L1 L2 i) d' qu')∧
      Hid (Zk (Zg least) dx (Zc5 L1 L2 i) (d',qu')=Zk (Zg least) dx (L1++L2) (d,qu))∧Hid (Zad (Zd (2*N)) d'+qu'.length=M))
     case atStart=>exact⟨0,0,d,qu,by omega,rfl,rfl,HD7,HRI0,Qh rfl,HM1⟩
     case round=>
      obtain⟨i,iz,d',qu',hgm,rfl,hiz,hd,hri,heq,hme⟩:=hrel;have hi:i=0∨i=1∨i=2:=by omega
      have hx1:=Ztw;have hx2:=Ztv
      generalize gk=gm at*
      rcases hi with rfl|rfl|rfl
      ·have hiz2:iz=0:=by omega
       clear hiz;subst hiz2
       by_cases hm:m1=m2
       ·have hnw1:nw=1:=by rw[←HNW.out];unfold ZeF;rw[if_pos hm]
        subst hnw1;have hmb:(m1==m2)=true:=by simpa using hm
        clear hm
        go_wp2_with fail
        refine(HPx1.out wr hd.out.upd).mono ?_;rintro e w7 ⟨A7,c7,rfl,ho7,hu7⟩;have HD7:=Qh (hd.out.list_ hu7 ho7);have HRI7:=Qh (show RInv (Zg least) (Zt p1 p2 m1 m2) (Zd (2*N)) ((nd:Int)*2) (xi:Int) dx ((Za2 L1 L2 0)++(u1.take 0).map fun u=>u*2+(1:Int)) d' qu' from by have:=hri.out;simpa[Za2]using this);have HEQ7:=Qh (show Zk (Zg least) dx (((u1.drop 0).map fun u=>u*2+(1:Int))++L2) (d',qu')=Zk (Zg least) dx (L1++L2) (d,qu) from by have:=heq.out;rw[List.drop_zero,HL1.out];simpa[Zc5]using this);clear ho7 hu7 hd hri heq;go_wp2
        go_loopg [87] u1.length (fun gk i wr=>∃(j:Nat) (d':Int→Int) (qu':List Int),j+gk=u1.length∧i= .int .i64 j∧Hid (DQ2 wb ab g0 g1 qg N d' qu' A7 u1 wr)∧Hid (RInv (Zg least) (Zt p1 p2 m1 m2) (Zd (2*N)) ((nd:Int)*2) (xi:Int) dx ((Za2 L1 L2 0)++(u1.take j).map fun u=>u*2+(1:Int)) d' qu')∧
         Hid (Zk (Zg least) dx (((u1.drop j).map fun u=>u*2+(1:Int))++L2) (d',qu')=Zk (Zg least) dx (L1++L2) (d,qu))∧Hid (Zad (Zd (2*N)) d'+qu'.length=M))
        case atStart=>exact⟨0,d',qu',by omega,rfl,HD7,HRI7,HEQ7,hme⟩
        case round=>
         obtain⟨j,d',qu',hgj2,rfl,hd,hri,heq,hme⟩:=hrel
         by_cases hlt:j<u1.length
         ·obtain⟨F2,hI⟩:=hd.out.sl;obtain⟨ad,rfl,_,_,hc⟩:=hI.at_ hlt;obtain⟨u,hu⟩:∃u,u1[j]=u:=⟨_,rfl⟩;rw[hu]at hc;have hud:=HUN1.out u (hu▸List.getElem_mem hlt);obtain⟨ui,rfl⟩:∃ui:Nat,u=(ui:Int):=⟨u.toNat,by omega⟩;have hui:ui<N:=by omega
          have htk:(Za2 L1 L2 0)++((u1.take (j+1)).map fun u=>u*2+(1:Int))=((Za2 L1 L2 0)++(u1.take j).map fun u=>u*2+(1:Int))++[(ui:Int)*2+(1:Int)]:=by
           rw[List.take_succ_eq_append_getElem hlt,hu];simp
          have hst:=heq.out;rw[show(((u1.drop j).map fun u=>u*2+(1:Int))++L2)=((ui:Int)*2+(1:Int))::(((u1.drop (j+1)).map fun u=>u*2+(1:Int))++L2) by rw[List.drop_eq_getElem_cons hlt,hu];rfl,ZbH]at hst
          have hyp:(ui:Int)*2+(1:Int)∈Zt p1 p2 m1 m2 (xi:Int):=by
           rw[HPS.out];exact(fun u h=>List.mem_append_left _ (List.mem_map.2 ⟨u,h,rfl⟩)) (ui:Int) (hu▸List.getElem_mem hlt)
          have b1:(0:Int)≤(j:Int):=Qn _;have b2:(j:Int)<(u1.length:Int):=by omega
          have b7:u1.length≤100000:=HLL.out.1;have b3:(0:Int)≤(ui:Int):=Qn _;have b4:(ui:Int)<(N:Int):=by omega
          have b5:(0:Int)≤(1:Int):=by omega
          have b6:(1:Int)<2:=by omega
          have cu:wr.cell? ⟨gOf g0 g1 1,ui,none⟩=some (.int .i64 (d' ((ui:Int)*2+(1:Int)))):=by simpa using hd.out.cell (k:=1) (by omega) hui
          have ca1:=hd.out.arr (k:=1) (by omega);have hhalf:((ui:Int)*2+(1:Int))/2=(ui:Int):=by omega
          clear hu hud hI
          by_cases hl:least≤(ui:Int)
          ·by_cases hneg:d' ((ui:Int)*2+(1:Int))<0
           ·have hok:(Zg least ((ui:Int)*2+(1:Int))&&decide (d' ((ui:Int)*2+(1:Int))<0))=true:=by unfold Zg;rw[hhalf,decide_eq_true hl,decide_eq_true hneg];rfl
            rw[if_pos hok]at hst;have cx:=hd.out.cell (k:=hh) hh1 hai1;rw[←E4.out,hri.out.dxe]at cx;have ch:=hd.out.arr (k:=hh) hh1;have hdn:(ui:Int)*2+(1:Int)∈Zd (2*N):=mem_nodesZ.2 ⟨by omega,by omega⟩;have hri2:=hri.out.push (Zl (2*N)) HCL.out hyp hok;rw[←htk]at hri2;have hfit:=hri.out.fit.push (Zl (2*N)) hdn hneg (v:=dx+1) (by have:=hri.out.dxp;omega);rw[ZT]at hfit;have hng:=ZbA (v:=dx+1) (Zl (2*N)) hdn hneg (by have:=hri.out.dxp;omega);have HME:=Qh (show Zad (Zd (2*N)) (Zal d' ((ui:Int)*2+(1:Int)) (dx+1))+(qu'++[(ui:Int)*2+(1:Int)]).length=M by rw[List.length_append,List.length_singleton,←hme.out];omega)
            have hdxl:dx≤10000:=by
             have:=hri.out.cap (xi:Int);rw[ZT,hri.out.dxe]at this;omega
            have hdx0:=hri.out.dxp;have hw:IntKind.i64.wrap (dx+1)=dx+1:=IntWalk.i64_in _ (by omega);have hw2:IntKind.i64.wrap ((ui:Int)*2)=(ui:Int)*2:=IntWalk.i64_in _ (by omega);have hor2:bits .or .i64 ((ui:Int)*2) (1:Int)=(ui:Int)*2+(1:Int):=by have:=ZhQ ui 1 (by omega) (by omega);simpa using this
            have fu:=hd.out.free (k:=1) (by omega) ui;have HD2:=Qh (show DQ2 wb ab g0 g1 qg N (Zal d' ((ui:Int)*2+(1:Int)) (dx+1)) qu' (some ad) u1 (wr.setCell ⟨gOf g0 g1 1,ui,none⟩ (.int .i64 (dx+1))) from by simpa using hd.out.set_ (k:=1) (by omega) hui (dx+1));have HR2:=Qh hri2;have HS2:=Qh hst;have HF2:=Qh hfit.2;clear hst hri hri2 hfit hng hme heq hok hd hyp htk hdn;go_wp2
            go_region
            go_wp2_with fail
            refine((HD2.out.no ((Upd.refl No _).drewN 1)).push (by omega) HF2.out ((ui:Int)*2+(1:Int))).mono ?_;rintro e w9 ⟨rfl,hd9⟩;go_wp2
            go_roundg (gk-1)
            case measure=>omega
            case rel=>exact⟨j+1,_,_,by omega,by go_num,Qh hd9,HR2,HS2,HME⟩
           ·have hok:¬(Zg least ((ui:Int)*2+(1:Int))&&decide (d' ((ui:Int)*2+(1:Int))<0))=true:=by rw[decide_eq_false hneg];simp
            rw[if_neg hok]at hst;have HR2:=Qh (htk▸hri.out.skip hok);have HS2:=Qh hst;clear hst hri heq hok hyp htk;go_wp2
            go_roundg (gk-1)
            case measure=>omega
            case rel=>exact⟨j+1,d',qu',by omega,by go_num,hd,HR2,HS2,hme⟩
          ·have hok:¬(Zg least ((ui:Int)*2+(1:Int))&&decide (d' ((ui:Int)*2+(1:Int))<0))=true:=by unfold Zg;rw[hhalf,decide_eq_false hl];simp
           rw[if_neg hok]at hst;have HR2:=Qh (htk▸hri.out.skip hok);have HS2:=Qh hst;clear hst hri heq hok hyp htk;go_wp2
           go_roundg (gk-1)
           case measure=>omega
           case rel=>exact⟨j+1,d',qu',by omega,by go_num,hd,HR2,HS2,hme⟩
         ·obtain rfl:j=u1.length:=by omega
          have hst:=heq.out;rw[List.drop_length]at hst;have hst:Zk (Zg least) dx L2 (d',qu')=Zk (Zg least) dx (L1++L2) (d,qu):=hst;have hri':=hri.out;rw[List.take_length,HL1.out]at hri';have HR2:=Qh (show RInv (Zg least) (Zt p1 p2 m1 m2) (Zd (2*N)) ((nd:Int)*2) (xi:Int) dx (Za2 L1 L2 1) d' qu' from by simpa[Za2]using hri');have HS2:=Qh (show Zk (Zg least) dx (Zc5 L1 L2 1) (d',qu')=Zk (Zg least) dx (L1++L2) (d,qu) from by simpa[Zc5]using hst);have HDb:=Qh hd.out.bare;clear hst hri' hri heq hd;go_wp2
          go_roundg (gm-1)
          case measure=>omega
          case rel=>exact⟨1,1,d',qu',by omega,by first|rfl|go_num,by omega,HDb,HR2,HS2,hme⟩
       ·have hnw1:nw=(hh:Int):=by rw[←HNW.out];unfold ZeF;rw[if_neg hm]
        subst hnw1;have hmb:(m1==m2)=false:=by simpa using hm
        clear hm
        go_wp2_with fail
        refine(HPx1.out wr hd.out.upd).mono ?_;rintro e w7 ⟨A7,c7,rfl,ho7,hu7⟩;have HD7:=Qh (hd.out.list_ hu7 ho7);have HRI7:=Qh (show RInv (Zg least) (Zt p1 p2 m1 m2) (Zd (2*N)) ((nd:Int)*2) (xi:Int) dx ((Za2 L1 L2 0)++(u1.take 0).map fun u=>u*2+(hh:Int)) d' qu' from by have:=hri.out;simpa[Za2]using this);have HEQ7:=Qh (show Zk (Zg least) dx (((u1.drop 0).map fun u=>u*2+(hh:Int))++L2) (d',qu')=Zk (Zg least) dx (L1++L2) (d,qu) from by have:=heq.out;rw[List.drop_zero,HL1.out];simpa[Zc5]using this);clear ho7 hu7 hd hri heq;go_wp2
        go_loopg [87] u1.length (fun gk i wr=>∃(j:Nat) (d':Int→Int) (qu':List Int),j+gk=u1.length∧i= .int .i64 j∧Hid (DQ2 wb ab g0 g1 qg N d' qu' A7 u1 wr)∧Hid (RInv (Zg least) (Zt p1 p2 m1 m2) (Zd (2*N)) ((nd:Int)*2) (xi:Int) dx ((Za2 L1 L2 0)++(u1.take j).map fun u=>u*2+(hh:Int)) d' qu')∧
         Hid (Zk (Zg least) dx (((u1.drop j).map fun u=>u*2+(hh:Int))++L2) (d',qu')=Zk (Zg least) dx (L1++L2) (d,qu))∧Hid (Zad (Zd (2*N)) d'+qu'.length=M))
        case atStart=>exact⟨0,d',qu',by omega,rfl,HD7,HRI7,HEQ7,hme⟩
        case round=>
         obtain⟨j,d',qu',hgj2,rfl,hd,hri,heq,hme⟩:=hrel
         by_cases hlt:j<u1.length
         ·obtain⟨F2,hI⟩:=hd.out.sl;obtain⟨ad,rfl,_,_,hc⟩:=hI.at_ hlt;obtain⟨u,hu⟩:∃u,u1[j]=u:=⟨_,rfl⟩;rw[hu]at hc;have hud:=HUN1.out u (hu▸List.getElem_mem hlt);obtain⟨ui,rfl⟩:∃ui:Nat,u=(ui:Int):=⟨u.toNat,by omega⟩;have hui:ui<N:=by omega
          have htk:(Za2 L1 L2 0)++((u1.take (j+1)).map fun u=>u*2+(hh:Int))=((Za2 L1 L2 0)++(u1.take j).map fun u=>u*2+(hh:Int))++[(ui:Int)*2+(hh:Int)]:=by
           rw[List.take_succ_eq_append_getElem hlt,hu];simp
          have hst:=heq.out;rw[show(((u1.drop j).map fun u=>u*2+(hh:Int))++L2)=((ui:Int)*2+(hh:Int))::(((u1.drop (j+1)).map fun u=>u*2+(hh:Int))++L2) by rw[List.drop_eq_getElem_cons hlt,hu];rfl,ZbH]at hst
          have hyp:(ui:Int)*2+(hh:Int)∈Zt p1 p2 m1 m2 (xi:Int):=by
           rw[HPS.out];exact(fun u h=>List.mem_append_left _ (List.mem_map.2 ⟨u,h,rfl⟩)) (ui:Int) (hu▸List.getElem_mem hlt)
          have b1:(0:Int)≤(j:Int):=Qn _;have b2:(j:Int)<(u1.length:Int):=by omega
          have b7:u1.length≤100000:=HLL.out.1;have b3:(0:Int)≤(ui:Int):=Qn _;have b4:(ui:Int)<(N:Int):=by omega
          have b5:(0:Int)≤(hh:Int):=by omega
          have b6:(hh:Int)<2:=by omega
          have cu:wr.cell? ⟨gOf g0 g1 hh,ui,none⟩=some (.int .i64 (d' ((ui:Int)*2+(hh:Int)))):=by simpa using hd.out.cell (k:=hh) (by omega) hui
          have ca1:=hd.out.arr (k:=hh) (by omega);have hhalf:((ui:Int)*2+(hh:Int))/2=(ui:Int):=by omega
          clear hu hud hI
          by_cases hl:least≤(ui:Int)
          ·by_cases hneg:d' ((ui:Int)*2+(hh:Int))<0
           ·have hok:(Zg least ((ui:Int)*2+(hh:Int))&&decide (d' ((ui:Int)*2+(hh:Int))<0))=true:=by unfold Zg;rw[hhalf,decide_eq_true hl,decide_eq_true hneg];rfl
            rw[if_pos hok]at hst;have cx:=hd.out.cell (k:=hh) hh1 hai1;rw[←E4.out,hri.out.dxe]at cx;have ch:=hd.out.arr (k:=hh) hh1;have hdn:(ui:Int)*2+(hh:Int)∈Zd (2*N):=mem_nodesZ.2 ⟨by omega,by omega⟩;have hri2:=hri.out.push (Zl (2*N)) HCL.out hyp hok;rw[←htk]at hri2;have hfit:=hri.out.fit.push (Zl (2*N)) hdn hneg (v:=dx+1) (by have:=hri.out.dxp;omega);rw[ZT]at hfit;have hng:=ZbA (v:=dx+1) (Zl (2*N)) hdn hneg (by have:=hri.out.dxp;omega);have HME:=Qh (show Zad (Zd (2*N)) (Zal d' ((ui:Int)*2+(hh:Int)) (dx+1))+(qu'++[(ui:Int)*2+(hh:Int)]).length=M by rw[List.length_append,List.length_singleton,←hme.out];omega)
            have hdxl:dx≤10000:=by
             have:=hri.out.cap (xi:Int);rw[ZT,hri.out.dxe]at this;omega
            have hdx0:=hri.out.dxp;have hw:IntKind.i64.wrap (dx+1)=dx+1:=IntWalk.i64_in _ (by omega);have hw2:IntKind.i64.wrap ((ui:Int)*2)=(ui:Int)*2:=IntWalk.i64_in _ (by omega);have hor2:bits .or .i64 ((ui:Int)*2) (hh:Int)=(ui:Int)*2+(hh:Int):=by have:=ZhQ ui hh (by omega) (by omega);simpa using this
            have fu:=hd.out.free (k:=hh) (by omega) ui;have HD2:=Qh (show DQ2 wb ab g0 g1 qg N (Zal d' ((ui:Int)*2+(hh:Int)) (dx+1)) qu' (some ad) u1 (wr.setCell ⟨gOf g0 g1 hh,ui,none⟩ (.int .i64 (dx+1))) from by simpa using hd.out.set_ (k:=hh) (by omega) hui (dx+1));have HR2:=Qh hri2;have HS2:=Qh hst;have HF2:=Qh hfit.2;clear hst hri hri2 hfit hng hme heq hok hd hyp htk hdn;go_wp2
            go_region
            go_wp2_with fail
            refine((HD2.out.no ((Upd.refl No _).drewN 1)).push (by omega) HF2.out ((ui:Int)*2+(hh:Int))).mono ?_;rintro e w9 ⟨rfl,hd9⟩;go_wp2
            go_roundg (gk-1)
            case measure=>omega
            case rel=>exact⟨j+1,_,_,by omega,by go_num,Qh hd9,HR2,HS2,HME⟩
           ·have hok:¬(Zg least ((ui:Int)*2+(hh:Int))&&decide (d' ((ui:Int)*2+(hh:Int))<0))=true:=by rw[decide_eq_false hneg];simp
            rw[if_neg hok]at hst;have HR2:=Qh (htk▸hri.out.skip hok);have HS2:=Qh hst;clear hst hri heq hok hyp htk;go_wp2
            go_roundg (gk-1)
            case measure=>omega
            case rel=>exact⟨j+1,d',qu',by omega,by go_num,hd,HR2,HS2,hme⟩
          ·have hok:¬(Zg least ((ui:Int)*2+(hh:Int))&&decide (d' ((ui:Int)*2+(hh:Int))<0))=true:=by unfold Zg;rw[hhalf,decide_eq_false hl];simp
           rw[if_neg hok]at hst;have HR2:=Qh (htk▸hri.out.skip hok);have HS2:=Qh hst;clear hst hri heq hok hyp htk;go_wp2
           go_roundg (gk-1)
           case measure=>omega
           case rel=>exact⟨j+1,d',qu',by omega,by go_num,hd,HR2,HS2,hme⟩
         ·obtain rfl:j=u1.length:=by omega
          have hst:=heq.out;rw[List.drop_length]at hst;have hst:Zk (Zg least) dx L2 (d',qu')=Zk (Zg least) dx (L1++L2) (d,qu):=hst;have hri':=hri.out;rw[List.take_length,HL1.out]at hri';have HR2:=Qh (show RInv (Zg least) (Zt p1 p2 m1 m2) (Zd (2*N)) ((nd:Int)*2) (xi:Int) dx (Za2 L1 L2 1) d' qu' from by simpa[Za2]using hri');have HS2:=Qh (show Zk (Zg least) dx (Zc5 L1 L2 1) (d',qu')=Zk (Zg least) dx (L1++L2) (d,qu) from by simpa[Zc5]using hst);have HDb:=Qh hd.out.bare;clear hst hri' hri heq hd;go_wp2
          go_roundg (gm-1)
          case measure=>omega
          case rel=>exact⟨1,1,d',qu',by omega,by first|rfl|go_num,by omega,HDb,HR2,HS2,hme⟩
      ·have hiz2:iz=1:=by omega
       clear hiz;subst hiz2
       go_wp2_with fail
       refine(HPx2.out wr hd.out.upd).mono ?_;rintro e w7 ⟨A7,c7,rfl,ho7,hu7⟩;have HD7:=Qh (hd.out.list_ hu7 ho7);have HRI7:=Qh (show RInv (Zg least) (Zt p1 p2 m1 m2) (Zd (2*N)) ((nd:Int)*2) (xi:Int) dx ((Za2 L1 L2 1)++(u2.take 0).map fun u=>u*2+(1:Int)) d' qu' from by have:=hri.out;simpa[Za2]using this);have HEQ7:=Qh (show Zk (Zg least) dx (((u2.drop 0).map fun u=>u*2+(1:Int))++[]) (d',qu')=Zk (Zg least) dx (L1++L2) (d,qu) from by have:=heq.out;rw[List.drop_zero,HL2.out];simpa[Zc5]using this);clear ho7 hu7 hd hri heq;go_wp2
       go_loopg [87] u2.length (fun gk i wr=>∃(j:Nat) (d':Int→Int) (qu':List Int),j+gk=u2.length∧i= .int .i64 j∧Hid (DQ2 wb ab g0 g1 qg N d' qu' A7 u2 wr)∧Hid (RInv (Zg least) (Zt p1 p2 m1 m2) (Zd (2*N)) ((nd:Int)*2) (xi:Int) dx ((Za2 L1 L2 1)++(u2.take j).map fun u=>u*2+(1:Int)) d' qu')∧
        Hid (Zk (Zg least) dx (((u2.drop j).map fun u=>u*2+(1:Int))++[]) (d',qu')=Zk (Zg least) dx (L1++L2) (d,qu))∧Hid (Zad (Zd (2*N)) d'+qu'.length=M))
       case atStart=>exact⟨0,d',qu',by omega,rfl,HD7,HRI7,HEQ7,hme⟩
       case round=>
        obtain⟨j,d',qu',hgj2,rfl,hd,hri,heq,hme⟩:=hrel
        by_cases hlt:j<u2.length
        ·obtain⟨F2,hI⟩:=hd.out.sl;obtain⟨ad,rfl,_,_,hc⟩:=hI.at_ hlt;obtain⟨u,hu⟩:∃u,u2[j]=u:=⟨_,rfl⟩;rw[hu]at hc;have hud:=HUN2.out u (hu▸List.getElem_mem hlt);obtain⟨ui,rfl⟩:∃ui:Nat,u=(ui:Int):=⟨u.toNat,by omega⟩;have hui:ui<N:=by omega
         have htk:(Za2 L1 L2 1)++((u2.take (j+1)).map fun u=>u*2+(1:Int))=((Za2 L1 L2 1)++(u2.take j).map fun u=>u*2+(1:Int))++[(ui:Int)*2+(1:Int)]:=by
          rw[List.take_succ_eq_append_getElem hlt,hu];simp
         have hst:=heq.out;rw[show(((u2.drop j).map fun u=>u*2+(1:Int))++[])=((ui:Int)*2+(1:Int))::(((u2.drop (j+1)).map fun u=>u*2+(1:Int))++[]) by rw[List.drop_eq_getElem_cons hlt,hu];rfl,ZbH]at hst
         have hyp:(ui:Int)*2+(1:Int)∈Zt p1 p2 m1 m2 (xi:Int):=by
          rw[HPS.out];exact(fun u h=>List.mem_append_right _ (List.mem_map.2 ⟨u,h,rfl⟩)) (ui:Int) (hu▸List.getElem_mem hlt)
         have b1:(0:Int)≤(j:Int):=Qn _;have b2:(j:Int)<(u2.length:Int):=by omega
         have b7:u2.length≤100000:=HLL.out.2;have b3:(0:Int)≤(ui:Int):=Qn _;have b4:(ui:Int)<(N:Int):=by omega
         have b5:(0:Int)≤(1:Int):=by omega
         have b6:(1:Int)<2:=by omega
         have cu:wr.cell? ⟨gOf g0 g1 1,ui,none⟩=some (.int .i64 (d' ((ui:Int)*2+(1:Int)))):=by simpa using hd.out.cell (k:=1) (by omega) hui
         have ca1:=hd.out.arr (k:=1) (by omega);have hhalf:((ui:Int)*2+(1:Int))/2=(ui:Int):=by omega
         clear hu hud hI
         by_cases hl:least≤(ui:Int)
         ·by_cases hneg:d' ((ui:Int)*2+(1:Int))<0
          ·have hok:(Zg least ((ui:Int)*2+(1:Int))&&decide (d' ((ui:Int)*2+(1:Int))<0))=true:=by unfold Zg;rw[hhalf,decide_eq_true hl,decide_eq_true hneg];rfl
           rw[if_pos hok]at hst;have cx:=hd.out.cell (k:=hh) hh1 hai1;rw[←E4.out,hri.out.dxe]at cx;have ch:=hd.out.arr (k:=hh) hh1;have hdn:(ui:Int)*2+(1:Int)∈Zd (2*N):=mem_nodesZ.2 ⟨by omega,by omega⟩;have hri2:=hri.out.push (Zl (2*N)) HCL.out hyp hok;rw[←htk]at hri2;have hfit:=hri.out.fit.push (Zl (2*N)) hdn hneg (v:=dx+1) (by have:=hri.out.dxp;omega);rw[ZT]at hfit;have hng:=ZbA (v:=dx+1) (Zl (2*N)) hdn hneg (by have:=hri.out.dxp;omega);have HME:=Qh (show Zad (Zd (2*N)) (Zal d' ((ui:Int)*2+(1:Int)) (dx+1))+(qu'++[(ui:Int)*2+(1:Int)]).length=M by rw[List.length_append,List.length_singleton,←hme.out];omega)
           have hdxl:dx≤10000:=by
            have:=hri.out.cap (xi:Int);rw[ZT,hri.out.dxe]at this;omega
           have hdx0:=hri.out.dxp;have hw:IntKind.i64.wrap (dx+1)=dx+1:=IntWalk.i64_in _ (by omega);have hw2:IntKind.i64.wrap ((ui:Int)*2)=(ui:Int)*2:=IntWalk.i64_in _ (by omega);have hor2:bits .or .i64 ((ui:Int)*2) (1:Int)=(ui:Int)*2+(1:Int):=by have:=ZhQ ui 1 (by omega) (by omega);simpa using this
           have fu:=hd.out.free (k:=1) (by omega) ui;have HD2:=Qh (show DQ2 wb ab g0 g1 qg N (Zal d' ((ui:Int)*2+(1:Int)) (dx+1)) qu' (some ad) u2 (wr.setCell ⟨gOf g0 g1 1,ui,none⟩ (.int .i64 (dx+1))) from by simpa using hd.out.set_ (k:=1) (by omega) hui (dx+1));have HR2:=Qh hri2;have HS2:=Qh hst;have HF2:=Qh hfit.2;clear hst hri hri2 hfit hng hme heq hok hd hyp htk hdn;go_wp2
           go_region
           go_wp2_with fail
           refine((HD2.out.no ((Upd.refl No _).drewN 1)).push (by omega) HF2.out ((ui:Int)*2+(1:Int))).mono ?_;rintro e w9 ⟨rfl,hd9⟩;go_wp2
           go_roundg (gk-1)
           case measure=>omega
           case rel=>exact⟨j+1,_,_,by omega,by go_num,Qh hd9,HR2,HS2,HME⟩
          ·have hok:¬(Zg least ((ui:Int)*2+(1:Int))&&decide (d' ((ui:Int)*2+(1:Int))<0))=true:=by rw[decide_eq_false hneg];simp
           rw[if_neg hok]at hst;have HR2:=Qh (htk▸hri.out.skip hok);have HS2:=Qh hst;clear hst hri heq hok hyp htk;go_wp2
           go_roundg (gk-1)
           case measure=>omega
           case rel=>exact⟨j+1,d',qu',by omega,by go_num,hd,HR2,HS2,hme⟩
         ·have hok:¬(Zg least ((ui:Int)*2+(1:Int))&&decide (d' ((ui:Int)*2+(1:Int))<0))=true:=by unfold Zg;rw[hhalf,decide_eq_false hl];simp
          rw[if_neg hok]at hst;have HR2:=Qh (htk▸hri.out.skip hok);have HS2:=Qh hst;clear hst hri heq hok hyp htk;go_wp2
          go_roundg (gk-1)
          case measure=>omega
          case rel=>exact⟨j+1,d',qu',by omega,by go_num,hd,HR2,HS2,hme⟩
        ·obtain rfl:j=u2.length:=by omega
         have hst:=heq.out;rw[List.drop_length]at hst;have hst:Zk (Zg least) dx [] (d',qu')=Zk (Zg least) dx (L1++L2) (d,qu):=hst;have hri':=hri.out;rw[List.take_length,HL2.out]at hri';have HR2:=Qh (show RInv (Zg least) (Zt p1 p2 m1 m2) (Zd (2*N)) ((nd:Int)*2) (xi:Int) dx (Za2 L1 L2 2) d' qu' from by simpa[Za2]using hri');have HS2:=Qh (show Zk (Zg least) dx (Zc5 L1 L2 2) (d',qu')=Zk (Zg least) dx (L1++L2) (d,qu) from by simpa[Zc5]using hst);have HDb:=Qh hd.out.bare;clear hst hri' hri heq hd;go_wp2
         go_roundg (gm-1)
         case measure=>omega
         case rel=>exact⟨2,2,d',qu',by omega,by first|rfl|go_num,by omega,HDb,HR2,HS2,hme⟩
      ·have hiz2:iz=2:=by omega
       clear hiz;subst hiz2;have hri':=hri.out;have hri2:RInv (Zg least) (Zt p1 p2 m1 m2) (Zd (2*N)) ((nd:Int)*2) (xi:Int) dx (Zt p1 p2 m1 m2 (xi:Int)) d' qu':=by rw[HPS.out,HL1.out,HL2.out];exact hri'
       have HBI:=Qh hri2.done;have hst:(d',qu')=Zk (Zg least) dx (L1++L2) (d,qu):=heq.out;have HE:=Qh (show Za7 (Zg least) (Zt p1 p2 m1 m2) gg (d',qu')=Za7 (Zg least) (Zt p1 p2 m1 m2) (2*N) (Za9 ((nd:Int)*2),[(nd:Int)*2]) by rw[hst];exact HST.out);have HME:=Qh (show Zad (Zd (2*N)) d'+qu'.length≤gg by rw[hme.out];exact HMM.out);have HDb:=Qh hd.out.bare;clear hst hri' hri2 hri heq hme hd
       go_wp2_with fail
       refine(HDb.out.popA).mono ?_;rintro e w8 ⟨x2,b2,qu2,rfl,hd8,hb8⟩;have HD8:=Qh hd8;have HB8:=Qh hb8;clear hd8 hb8;go_wp2
       go_roundg gg
       case measure=>omega
       case rel=>exact⟨d',qu',qu2,x2,b2,rfl,rfl,HB8,HD8,HBI,HE,HME⟩
end
/- Closed walks:what is left ZaC an arc. -/
section
open Go.RowKit
structure LoopI (w:World) (A B:Option Addr) (N:Nat) (da dw:Int→Int):Prop where
 a:Ints (fun _=>True) w A (Zaw N da)
 b:Ints (fun _=>True) w B (Zaw N dw)
theorem LoopI.upd {w w':World} {A B:Option Addr} {N:Nat} {da dw:Int→Int} (h:LoopI w A B N da dw) (hu:Upd No w w'):LoopI w' A B N da dw:=⟨h.a.upd hu (fun _ _=>id),h.b.upd hu (fun _ _=>id)⟩
theorem ZcA (x:Int):(bits .and .i64 x 1==0)= !decide (x%2=1):=by
 have h:=Zi9 x 1 (by omega);rw[Nat.and_one_is_mod]at h;have h':bits .and .i64 x 1=(((x%18446744073709551616).toNat%2:Nat):Int):=h;rw[h',Bool.eq_iff_iff,beq_iff_eq,Bool.not_eq_true',decide_eq_false_iff_not];omega
set_option maxRecDepth 100000 in
set_option maxHeartbeats 4000000 in
theorem Zq4 (w:World) (p0 A B:Option Addr) (N:Nat) (mask must:Int) (da dw:Int→Int) (h:LoopI w A B N da dw) (a:HArc) (hk1:1≤a.kind) (hk2:a.kind≤3) (ht0:0≤a.t) (ht1:a.t<(N:Int)) (need:Bool):
  Calls Tryz.prog 188 #[.agg #[.pointer p0,.int .i64 mask,.int .i64 must,.slice A N N,.slice B N N],.agg a.cells.toArray,.bool need] w fun e w'=>e= .returned (.int .i64 (ZD must da dw need a))∧Upd No w w':=by
 obtain⟨af,at',ak,al⟩:=a;simp only at hk1 hk2 ht0 ht1;obtain⟨t,rfl⟩:∃t:Nat,at'=(t:Int):=⟨at'.toNat,by omega⟩;have ht:t<N:=by omega
 have hk:ak=1∨ak=2∨ak=3:=by omega
 obtain⟨wb,hwb⟩:∃wb,(w.alloc (.cells #[.pointer p0,.int .i64 mask,.int .i64 must,.slice A N N,.slice B N N] 185)).alloc (.cells #[.int .i64 af,.int .i64 (t:Int),.int .i64 ak,.int .i64 al] 34)=wb:=⟨_,rfl⟩;have u0:Upd No w wb:=by rw[←hwb];exact((Upd.refl No w).alloc _).alloc _
 obtain⟨aa,rfl,_,_,ca⟩:=(h.upd u0).a.at_ (k:=t) (by rw[ZbV];exact ht);obtain⟨ab,rfl,_,_,cb⟩:=(h.upd u0).b.at_ (k:=t) (by rw[ZbV];exact ht);have ea:(Zaw N da)[t]'(by rw[ZbV];exact ht)=da t:=by have:=ZeO da ht;rw[List.getElem?_eq_some_iff]at this;exact this.2
 have eb:(Zaw N dw)[t]'(by rw[ZbV];exact ht)=dw t:=by have:=ZeO dw ht;rw[List.getElem?_eq_some_iff]at this;exact this.2
 rw[ea]at ca;rw[eb]at cb;have i1:(0:Int)≤(t:Int):=Qn _;rw[←hwb]at ca cb;have U0:=Qh u0;subst hwb;unfold HArc.cells;clear h u0 ea eb hk1 hk2 ht0;rcases hk with rfl|rfl|rfl
 ·have hb:=ZcA (must/2);rw[show decide ((must/2)%2=1)=Zf must 1 from rfl]at hb;have hv:=Qh (show ZD must da dw need ⟨af,t,1,al⟩=if (need&& !Zf must 1)=true then dw t else da t from rfl)
  cases hbm:Zf must 1
  all_goals
   rw[hbm]at hb hv;have hv':=hv.out
   first|rw[Bool.not_false]at hb|rw[Bool.not_true]at hb
   cases need
   all_goals
    have HV:=Qh hv';clear hv hv' hbm
    go_enter Tryz.func188,Tryz.ntmps188
    go_wp2
    go_ret
    exact⟨by rw[HV.out];rfl,U0.out⟩
 ·have hb:=ZcA (must/4);rw[show decide ((must/4)%2=1)=Zf must 2 from rfl]at hb;have hv:=Qh (show ZD must da dw need ⟨af,t,2,al⟩=if (need&& !Zf must 2)=true then dw t else da t from rfl)
  cases hbm:Zf must 2
  all_goals
   rw[hbm]at hb hv;have hv':=hv.out
   first|rw[Bool.not_false]at hb|rw[Bool.not_true]at hb
   cases need
   all_goals
    have HV:=Qh hv';clear hv hv' hbm
    go_enter Tryz.func188,Tryz.ntmps188
    go_wp2
    go_ret
    exact⟨by rw[HV.out];rfl,U0.out⟩
 ·have hb:=ZcA (must/8);rw[show decide ((must/8)%2=1)=Zf must 3 from rfl]at hb;have hv:=Qh (show ZD must da dw need ⟨af,t,3,al⟩=if (need&& !Zf must 3)=true then dw t else da t from rfl)
  cases hbm:Zf must 3
  all_goals
   rw[hbm]at hb hv;have hv':=hv.out
   first|rw[Bool.not_false]at hb|rw[Bool.not_true]at hb
   cases need
   all_goals
    have HV:=Qh hv';clear hv hv' hbm
    go_enter Tryz.func188,Tryz.ntmps188
    go_wp2
    go_ret
    exact⟨by rw[HV.out];rfl,U0.out⟩
end
/- Closed walks:the rows at a node. -/
section
open Go.RowKit
def Z1 (N:Nat) (q:List HArc) (mask i:Int):Int→Int:=ZbE N (ofA mask q) i i
theorem Zn7 (N:Nat) (q:List HArc) (mask must i:Int):Zbq N (Zc8 N (ofA (bits .andNot .i64 mask must) q) (ofA (bits .and .i64 mask must) q) (bits .andNot .i64 mask must) (bits .and .i64 mask must) i i) 1=Zaw N (Zp N q mask must i):=rfl
theorem Zj4 {w:World} {g:Nat} {xs:List Int} (h:Blk w g 3 (xs.map (Value.int .i64))):Ints (fun i=>i=g) w (some ⟨g,0,none⟩) xs:=
 Ints.of_row h rfl fun j v hj=>by rw[List.getElem?_toArray,List.getElem?_map,hj];rfl
set_option maxRecDepth 100000 in
set_option maxHeartbeats 4000000 in
theorem Zuf (w:World) (G:Nat→Prop) (p0:Option Addr) (N K:Nat) (q:List HArc) (h:DG w G p0 N K q) (hK:K≤100000) (mask must i:Int):
  Calls Tryz.prog 116 #[.pointer p0,.int .i64 mask,.int .i64 must,.int .i64 i] w fun e w'=>∃A B,e= .returned (.agg #[.pointer p0,.int .i64 mask,.int .i64 must,.slice A N N,.slice B N N])∧LoopI w' A B N (Z1 N q mask i) (Zp N q mask must i)∧Upd No w w':=by
 obtain⟨wb,hwb⟩:∃wb,w.alloc (.cells #[.pointer none,.int .i64 0,.int .i64 0,.slice none 0 0,.slice none 0 0] 185)=wb:=⟨_,rfl⟩;have u0:Upd No w wb:=by rw[←hwb];exact(Upd.refl No w).alloc _
 have HT:=Qh (fun(W:World) (u:Upd No wb W)=>dto W G p0 N K q (h.no (u0.trans u)) hK mask i i);have HM:=Qh (fun(W:World) (u:Upd No wb W)=>Zn7 N q mask must i▸ZtG W G p0 N K q (h.no (u0.trans u)) hK mask must i i);have bL:Blk wb w.heap.size 185 [.pointer none,.int .i64 0,.int .i64 0,.slice none 0 0,.slice none 0 0]:=by rw[←hwb];exact Blk.new w _ _
 have U0:=Qh u0;clear h u0
 go_enter Tryz.func116,Tryz.ntmps116
 go_wp2_with fail
 refine(HT.out wb (Upd.refl _ _)).mono ?_;rintro e w1 ⟨ga,rfl,hb1,hg1,hu1⟩
 go_wp2_with fail
 refine(HM.out w1 hu1).mono ?_;rintro e w2 ⟨gb,rfl,hb2,hg2,hu2⟩;have hb:=(bL.upd hu1 id).upd hu2 id;have c0:=hb.cell 0;have c1:=hb.cell 1;have c2:=hb.cell 2;have c3:=hb.cell 3;have c4:=hb.cell 4;have f0:=hb.free 0;have f1:=hb.free 1;have f2:=hb.free 2;have f3:=hb.free 3;have f4:=hb.free 4;simp only[Qz,Qs]at c0 c1 c2 c3 c4;have hlt:=bL.lt;have h1s:=hu1.size;have U1:=Qh (((U0.out.trans hu1).trans hu2));have HB1:=Qh (hb1.upd hu2 id);have HB2:=Qh hb2;have n1:ga≠w.heap.size:=by omega
 have n2:gb≠w.heap.size:=by omega
 have HB:=Qh hb;clear hwb bL hb hb1 hb2 HT HM hu1 hu2;go_wp2;have b3:=(((((HB.out).set_ 0 (.pointer p0)).set_ 1 (.int .i64 mask)).set_ 2 (.int .i64 must)).set_ 3 (.slice (some ⟨ga,0,none⟩) (Zaw N (ZbE N (ofA mask q) i i)).length (Zaw N (ZbE N (ofA mask q) i i)).length)).set_ 4 (.slice (some ⟨gb,0,none⟩) (Zaw N (Zp N q mask must i)).length (Zaw N (Zp N q mask must i)).length);simp only[List.set_cons_zero,List.set_cons_succ]at b3;have US:=(((((Upd.refl (One w.heap.size) w2).setOne 0 (.pointer p0)).setOne 1 (.int .i64 mask)).setOne 2 (.int .i64 must)).setOne 3 (.slice (some ⟨ga,0,none⟩) (Zaw N (ZbE N (ofA mask q) i i)).length (Zaw N (ZbE N (ofA mask q) i i)).length)).setOne 4 (.slice (some ⟨gb,0,none⟩) (Zaw N (Zp N q mask must i)).length (Zaw N (Zp N q mask must i)).length);refine bodyPost_ret (results_cell_row (p:=8) rfl _ _ _ _ _ _ _ rfl b3 Tryz.underlying185 rfl (by kernel_rfl)) rfl ⟨some ⟨ga,0,none⟩,some ⟨gb,0,none⟩,by simp only[ZbV],⟨?_,?_⟩,?_⟩
 ·exact(Zj4 (HB1.out.upd US n1)).weak (fun _ _ _=>trivial)
 ·exact(Zj4 (HB2.out.upd US n2)).weak (fun _ _ _=>trivial)
 ·exact U1.out.then_ US fun k e=> .inr (by unfold One at e;omega)
end
/- Closed walks,plain:the bounds of the rows. -/
section
open Go.RowKit
theorem Zon {p:List HArc} {i:Int}:∀{l:List HArc} {u:Int},okW p i u l i→i≤u
 |[],u,h=>by have h:u=i:=h;omega
 |_::_,_,h=>h.2.2.1
theorem Zky {N:Nat} {q:List HArc} (hN:N≤100000) (hr:∀a∈q,Zi N a=true) (mask must i:Int) (h0:0≤i) (h1:i<(N:Int)):
  ∀u,(-1≤Z1 N q mask i u∧Z1 N q mask i u≤900000)∧-1≤Zp N q mask must i u∧Zp N q mask must i u≤900000:=by
 intro u
 have hf:∀m,∀x∈ofA m q,0≤x.f∧x.f<(N:Int):=fun m x hx=>by
  have:=(ZC _ _).1 (hr x (mem_ofA.1 hx).1);exact⟨this.1,this.2.1⟩
 have hs:=ZgE h0 h1;have hd:=Zlo (hf mask) i i;refine⟨⟨hd.lo u,?_⟩,?_⟩
 ·have:=hd.hi u;unfold Z1;omega
 have hdm:i*2∈Zd (2*N):=mem_nodesZ.2 ⟨by omega,by omega⟩;have hcl:∀v∈Zd (2*N),∀u∈Zt (ofA (bits .andNot .i64 mask must) q) (ofA (bits .and .i64 mask must) q) (bits .andNot .i64 mask must) (bits .and .i64 mask must) v,Zg i u=true→u∈Zd (2*N):=fun v _ u hu _=>ZgY (hf _) (hf _) v u hu
 have B0:=BInv.start (ok:=Zg i) (ps:=Zt (ofA (bits .andNot .i64 mask must) q) (ofA (bits .and .i64 mask must) q) (bits .andNot .i64 mask must) (bits .and .i64 mask must)) hdm (Zl (2*N));have B1:=Zfw (Zl (2*N)) hcl (2*N) _ _ B0 (by have:=B0.fit;unfold Fits at this;rw[ZT]at this;exact this)
 have hw:Zp N q mask must i u=Za7 (Zg i) (Zt (ofA (bits .andNot .i64 mask must) q) (ofA (bits .and .i64 mask must) q) (bits .andNot .i64 mask must) (bits .and .i64 mask must)) (2*N) ((fun u=>if u=i*2 then 0 else -1),[i*2]) (u*2+1):=by
  unfold Zp Zc8;rw[if_pos hs];rfl
 have h2:=B1.lo (u*2+1);have h3:=B1.cap (u*2+1);rw[ZT]at h3;rw[hw];exact⟨h2,by omega⟩
theorem Zl8 {N:Nat} {q:List HArc} (hN:N≤100000) (hr:∀a∈q,Zi N a=true) (mask must i:Int) (h0:0≤i) (h1:i<(N:Int)):
  ∀u,(-1≤Z1 N q mask i u∧Z1 N q mask i u≤1000000)∧-1≤Zp N q mask must i u∧Zp N q mask must i u≤1000000:=fun u=>by
 have:=Zky hN hr mask must i h0 h1 u;omega
theorem Zpe {N:Nat} {q:List HArc} (hr:∀a∈q,Zi N a=true) (mask must i:Int) (h0:0≤i) (h1:i<(N:Int)) (u:Int) (hu:0≤Z1 N q mask i u):i≤u:=by
 obtain⟨l,h,_⟩:=(Zfk hr mask must i h0 h1).a2 u hu;exact Zon h
theorem Zl4 {N:Nat} {q:List HArc} (hr:∀a∈q,Zi N a=true) (mask must i:Int) (h0:0≤i) (h1:i<(N:Int)) (u:Int) (hu:0≤Zp N q mask must i u):i≤u:=by
 obtain⟨l,h,_⟩:=(Zfk hr mask must i h0 h1).w2 u hu;exact Zon h
end
end Go.Proofs.YtonblekdfinpkaaGreat
