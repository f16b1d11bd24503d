/- Closed walks: the arc of an edge. -/
import Derived.Test.YtklmahmfmbppkaaGreatMaf
import Derived.Test.YtklmahmfmbppkaaGreatMam
import Derived.Test.YtklmahmfmbppkaaGreatMbn
import Derived.Test.YtklmahmfmbppkaaGreatMbp
namespace Go.Proofs.YtklmahmfmbppkaaGreat
set_option linter.unusedSimpArgs false
set_option linter.unusedVariables false
open Go.RowKit
theorem ZjG (x:Int):∀{s:List Int},s.Pairwise (·<·)→((s.countP (·<x):Nat):Int)=rk s x
 |[],_=>rfl
 |a::s,h=>by
  rw[List.pairwise_cons]at h
  unfold rk
  rw[List.countP_cons]
  by_cases ha:a<x
  ·rw[if_pos ha,if_pos (by simpa using ha),Int.natCast_add,ZjG x h.2]
   rfl
  ·rw[if_neg ha,if_neg (by simpa using ha),Nat.add_zero]
   have:s.countP (·<x)=0:=by
    rw[List.countP_eq_zero]
    intro b hb
    have:=h.1 b hb
    simp
    omega
   rw[this]
   rfl
theorem Zrf (F:Nat→Prop) (w:World) (A:Option Addr) (c:Nat) (l:List Int) (x:Int) (h:Ints F w A l) (hne:l≠[]) (hs:l.Pairwise (·<·)) (hl:l.length≤1000000):
  Calls Tryz.prog 137 #[.slice A l.length c,.int .i64 x] w fun e w'=>∃b,e= .returned (.tuple #[.int .i64 (rk l x),.bool b])∧Upd No w w':=by
 obtain⟨b,o,rfl,hc⟩:=h.cells_ hne
 refine Calls.mono (AnyG.slices_BinarySearch_int Zpj b o l.length c l x w (Nat.le_refl _) (by omega) hc (by rw[List.take_length];exact hs.imp fun {a b} h=>Int.le_of_lt h)) ?_
 rintro e w' ⟨rfl,q,rfl⟩
 rw[List.take_length,ZjG x hs]
 exact⟨_,rfl,(Upd.refl _ _).drewN q⟩
set_option maxRecDepth 100000 in
set_option maxHeartbeats 4000000 in
theorem ZsQ (F1 F2:Nat→Prop) (w:World) (A B:Option Addr) (ca cb:Nat) (ids keys:List Int) (hA:Ints F1 w A ids) (hB:Ints F2 w B keys) (hsi:ids.Pairwise (·<·)) (hsk:keys.Pairwise (·<·)) (hni:ids≠[]) (hnk:keys≠[]) (hl1:ids.length≤1000000) (hl2:keys.length≤1000000) (e:Edge):
  Calls Tryz.prog 99 #[.agg #[.slice A ids.length ca,.slice B keys.length cb],.agg e.cells.toArray] w fun x w'=>x= .returned (.agg (toR ids keys ⟨e.f,e.t,e.k,e.key⟩).cells.toArray)∧Upd No w w':=by
 obtain⟨ef,et,ek,ey⟩:=e
 obtain⟨wb,hwb⟩:∃wb,((w.alloc (.cells #[.slice A ids.length ca,.slice B keys.length cb] 98)).alloc (.cells #[.int .i64 ef,.int .i64 et,.int .i64 ek,.int .i64 ey] 61)).alloc (.cells #[.int .i64 0,.int .i64 0,.int .i64 0,.int .i64 0] 70)=wb:=⟨_,rfl⟩
 have u0:Upd No w wb:=by rw[←hwb];exact(((Upd.refl No w).alloc _).alloc _).alloc _
 have bN:Blk wb w.heap.size 98 [.slice A ids.length ca,.slice B keys.length cb]:=by rw[←hwb];exact((Blk.new w _ _).alloc _).alloc _
 have bE:Blk wb (w.heap.size+1) 61 [.int .i64 ef,.int .i64 et,.int .i64 ek,.int .i64 ey]:=by
  rw[←hwb];have:=(Blk.new (w.alloc (.cells #[.slice A ids.length ca,.slice B keys.length cb] 98)) 61 [.int .i64 ef,.int .i64 et,.int .i64 ek,.int .i64 ey]).alloc (.cells #[.int .i64 0,.int .i64 0,.int .i64 0,.int .i64 0] 70);simpa only[World.size_alloc]using this
 have bR:Blk wb (w.heap.size+2) 70 [.int .i64 0,.int .i64 0,.int .i64 0,.int .i64 0]:=by
  rw[←hwb];have:=Blk.new ((w.alloc (.cells #[.slice A ids.length ca,.slice B keys.length cb] 98)).alloc (.cells #[.int .i64 ef,.int .i64 et,.int .i64 ek,.int .i64 ey] 61)) 70 [.int .i64 0,.int .i64 0,.int .i64 0,.int .i64 0];simpa only[World.size_alloc]using this
 have n0:∀W,Upd No wb W→W.cell? ⟨w.heap.size,0,none⟩=some (.slice A ids.length ca):=fun W u=>by have:=(bN.upd u id).cell 0;simpa using this
 have n1:∀W,Upd No wb W→W.cell? ⟨w.heap.size,1,none⟩=some (.slice B keys.length cb):=fun W u=>by have:=(bN.upd u id).cell 1;simpa using this
 have e0:∀W,Upd No wb W→W.cell? ⟨w.heap.size+1,0,none⟩=some (.int .i64 ef):=fun W u=>by have:=(bE.upd u id).cell 0;simpa using this
 have e1:∀W,Upd No wb W→W.cell? ⟨w.heap.size+1,1,none⟩=some (.int .i64 et):=fun W u=>by have:=(bE.upd u id).cell 1;simpa using this
 have e2:∀W,Upd No wb W→W.cell? ⟨w.heap.size+1,2,none⟩=some (.int .i64 ek):=fun W u=>by have:=(bE.upd u id).cell 2;simpa using this
 have e3:∀W,Upd No wb W→W.cell? ⟨w.heap.size+1,3,none⟩=some (.int .i64 ey):=fun W u=>by have:=(bE.upd u id).cell 3;simpa using this
 have HA:=Lib.hid (fun(W:World) (u:Upd No wb W) (x:Int)=>Zrf F1 W A ca ids x (hA.upd (u0.trans u) (fun _ _=>id)) hni hsi hl1)
 have HB:=Lib.hid (fun(W:World) (u:Upd No wb W) (x:Int)=>Zrf F2 W B cb keys x (hB.upd (u0.trans u) (fun _ _=>id)) hnk hsk hl2)
 have U0:=Lib.hid u0
 have BR:=Lib.hid bR
 have hr:Upd No wb wb:=Upd.refl _ _
 unfold toR HArc.cells Edge.cells
 simp only
 clear hA hB bN bE bR u0
 go_enter Tryz.func99,Tryz.ntmps99
 go_wp2_with fail
 refine(HA.out wb (Upd.refl _ _) ef).mono ?_
 rintro e w1 ⟨b1,rfl,hu1⟩
 go_wp2_with fail
 refine(HA.out w1 hu1 et).mono ?_
 rintro e w2 ⟨b2,rfl,hu2'⟩
 have hu2:=hu1.trans hu2'
 clear hu2'
 go_wp2_with fail
 refine(HB.out w2 hu2 ey).mono ?_
 rintro e w3 ⟨b3,rfl,hu3'⟩
 have hu3:=hu2.trans hu3'
 clear hu3'
 have HB3:=Lib.hid (BR.out.upd hu3 id)
 have U3:=Lib.hid hu3
 have hb3:=HB3.out
 have r0:=hb3.cell 0
 have r1:=hb3.cell 1
 have r2:=hb3.cell 2
 have r3:=hb3.cell 3
 have f0:=hb3.free 0
 have f1:=hb3.free 1
 have f2:=hb3.free 2
 have f3:=hb3.free 3
 simp only[List.getElem?_cons_zero,List.getElem?_cons_succ]at r0 r1 r2 r3
 clear hb3
 go_wp2
 have b4:=((((HB3.out).set_ 0 (.int .i64 (rk ids ef))).set_ 1 (.int .i64 (rk ids et))).set_ 2 (.int .i64 ek)).set_ 3 (.int .i64 (rk keys ey))
 simp only[List.set_cons_zero,List.set_cons_succ]at b4
 have US:=((((Upd.refl (One (w.heap.size+2)) w3).setOne 0 (.int .i64 (rk ids ef))).setOne 1 (.int .i64 (rk ids et))).setOne 2 (.int .i64 ek)).setOne 3 (.int .i64 (rk keys ey))
 refine bodyPost_ret (results_cell_row (p:=4) rfl _ _ _ _ _ _ _ rfl b4 Tryz.underlying70 rfl (by kernel_rfl)) rfl ⟨rfl,?_⟩
 exact(U0.out.trans U3.out).then_ US fun k e=> .inr (by unfold One at e;omega)
end Go.Proofs.YtklmahmfmbppkaaGreat
/- Closed walks:the numbers of some edges. -/
namespace Go.Proofs.YtklmahmfmbppkaaGreat
set_option linter.unusedSimpArgs false
set_option linter.unusedVariables false
open Go.RowKit
theorem ZhR {P:Program} (w:World) (g i:Nat) (t ty:TypeId) (old:Array Value) (v:Value) (hg:w.heap[g]? =some (.cells old t (0,0))) (hi:(P.info? ty).map (·.size)=some 1)
  (ho:i<old.size) (h1:v.oneCell'=true):
  (storeVar ty ⟨g,i,none⟩ v).run P w= .ok () (w.setCell ⟨g,i,none⟩ v):=by
 have hst:∀m,(store ⟨g,i,none⟩ v m).run P w= .ok () (w.setCell ⟨g,i,none⟩ v):=fun m=>by
  rw[run_store P w _ v m h1]
  simp[World.cell?,World.frozen?,hg,ho]
 have hadd:(⟨g,i,none⟩:Addr).add 0=⟨g,i,none⟩:=by unfold Addr.add;simp
 have hsc:(storeCells ⟨g,i,none⟩ [v] 0).run P w= .ok () (w.setCell ⟨g,i,none⟩ v):=by
  simp only[storeCells,Sem.run_bind,hadd,hst,Result.andThen_ok]
  rfl
 cases hq:P.info? ty with
 |none=>simp[hq]at hi
 |some j=>
  have hs:j.size=1:=by simpa[hq]using hi
  cases v<;>first|(simp[Value.oneCell']at h1;done)|simp[storeVar,sizeOf,typeInfo,hq,hs,Value.cells,hsc]
theorem ZpS {P:Program} {o:Oper} {a:Act} {W:World} {K:Act→World→Prop} {Q:Exit→Act→World→Prop} {ty:TypeId} {x y:Operand} (ho:o.op= .store ty x y)
  {g i:Nat} {t:TypeId} {old:List Value} {v:Value} (hx:a.eval x= .pointer (some ⟨g,i,none⟩)) (hy:a.eval y=v) (hb:Blk W g t old) (hi:(P.info? ty).map (·.size)=some 1) (hl:i<old.length) (h1:v.oneCell'=true)
  (h:∀w',Blk w' g t (old.set i v)→Upd (One g) W w'→K (a.put o.dst undef) w'):o.wp P a W K Q:=by
 unfold Oper.wp execOp
 simp only[ho,hx,hy,Instr.storeAt,Instr.sureAddr,Sem.run_bind,Sem.run_pure,Result.andThen_ok,ZhR W g i t ty old.toArray v hb hi (by simpa using hl) h1]
 exact h _ (hb.set_ i v) ((Upd.refl (One g) W).setOne i v)
theorem Zf {P:Program} {ops:Array Oper} {o:Oper} {a:Act} {W:World} {K:Act→World→Prop} {Q:Exit→Act→World→Prop} {E:Prop} (hgd:o.guard=none) {ty:TypeId} {x y:Operand} (ho:o.op= .store ty x y)
  {g i:Nat} {t:TypeId} {old:List Value} {v:Value} (hx:a.eval x= .pointer (some ⟨g,i,none⟩)) (hy:a.eval y=v) (hb:Blk W g t old) (hi:(P.info? ty).map (·.size)=some 1) (hl:i<old.length) (h1:v.oneCell'=true)
  (h:∀w',Blk w' g t (old.set i v)→Upd (One g) W w'→K (a.put o.dst undef) w'):if Region.wanted o (yielded ops a.tmps)=true then Oper.wp P o a W K Q else E:=by
 rw[if_pos (by simp[Region.wanted,hgd])]
 exact ZpS ho hx hy hb hi hl h1 h
theorem Zb {A:Option Addr} {n m c d i:Nat} (h:Own (.slice A n c) i):Own (.slice A m d) i:=by
 cases A with
 |none=>cases h
 |some a=>exact h
theorem ZkZ {W:World} {cs:List Value} {e:TypeId} {n m:Nat} (hn:n=W.heap.size) (hm:cs.length=m):Src (W.alloc (.cells cs.toArray e)) (some ⟨n,0,none⟩) m 1 cs:=by
 subst hn
 exact⟨by omega,fun _=>⟨_,rfl,fun j v hj=>ZcJ j v hj⟩⟩
set_option maxRecDepth 100000 in
set_option maxHeartbeats 8000000 in
theorem Zrr (F:Nat→Prop) (w:World) (A:Option Addr) (c:Nat) (l:List Edge) (h:Walk F w A l) (hl:l.length≤1000000):
  Calls Tryz.prog 62 #[.slice A l.length c] w fun e w'=>∃A1 c1 A2 c2,e= .returned (.agg #[.slice A1 (Zaq l).length c1,.slice A2 (ZaZ l).length c2])∧Ints (fun i=>w.heap.size≤i) w' A1 (Zaq l)∧Ints (fun i=>w.heap.size≤i) w' A2 (ZaZ l)∧Upd No w w':=by
 have HA:=Lib.hid h
 have HL:=Lib.hid (show(ZbC l).length=2*l.length from Zgv l)
 clear h
 go_enter Tryz.func62,Tryz.ntmps62
 go_wp2
 go_loopg [8] l.length (fun gk i wr=>∃(k:Nat) (A1:Option Addr) (c1:Nat) (xs:List Int) (A2:Option Addr) (c2:Nat) (ys:List Int),k+gk=l.length∧i= .int .i64 k∧Hid (xs++ZbC (l.drop k)=ZbC l)∧Hid (ys++(l.drop k).map Edge.key=l.map Edge.key)∧xs.length=2*k∧ys.length=k∧
  Blk wr (w.heap.size+1) 98 [.slice A1 xs.length c1,.slice A2 ys.length c2]∧Blk wr w.heap.size 98 [.slice none 0 0,.slice none 0 0]∧
  wr.ownsRow (w.heap.size+2) 3 1 (.slice A1 xs.length c1) xs.length (xs.map (Value.int .i64))∧wr.ownsRow (w.heap.size+2) 3 1 (.slice A2 ys.length c2) ys.length (ys.map (Value.int .i64))∧(∀i,Own (.slice A1 0 0) i→¬Own (.slice A2 0 0) i)∧Upd No w wr)
 case atStart=>
  refine⟨0,none,0,[],none,0,[],by omega,rfl,Lib.hid rfl,Lib.hid rfl,rfl,rfl,?_,?_,World.ownsRow_nil _ _ _ _,World.ownsRow_nil _ _ _ _,?_,?_⟩
  ·simpa using Blk.new (w.alloc (.cells #[.slice none 0 0,.slice none 0 0] 98)) 98 [.slice none 0 0,.slice none 0 0]
  ·exact(Blk.new w 98 [.slice none 0 0,.slice none 0 0]).alloc _
  ·intro i e
   exact(by cases e)
  ·exact((Upd.refl No w).alloc _).alloc _
 case round=>
  obtain⟨k,A1,c1,xs,A2,c2,ys,hgk,rfl,hx,hy,hxl,hyl,bN,bR,ho1,ho2,hd,hu⟩:=hrel
  by_cases hlt:k<l.length
  ·obtain⟨ax,rfl,q0,q1,q2,q3⟩:=(HA.out.upd hu (fun _ _=>id)).at_ hlt
   obtain⟨x,hxx⟩:∃x,l[k]=x:=⟨_,rfl⟩
   have hdr:=List.drop_eq_getElem_cons hlt
   rw[hxx]at q0 q1 q2 q3 hdr
   have HX:=Lib.hid (show(xs++[x.f,x.t])++ZbC (l.drop (k+1))=ZbC l by rw[←hx.out,hdr];simp[ZbC])
   have HY:=Lib.hid (show(ys++[x.key])++(l.drop (k+1)).map Edge.key=l.map Edge.key by rw[←hy.out,hdr];simp)
   have i1:(0:Int)≤(k:Int):=Int.natCast_nonneg _
   have i2:(k:Int)<(l.length:Int):=by omega
   obtain⟨wx,hwx⟩:∃wx,wr.alloc (.cells #[.int .i64 x.f,.int .i64 x.t,.int .i64 x.k,.int .i64 x.key] 61)=wx:=⟨_,rfl⟩
   have ux:Upd No wr wx:=by rw[←hwx];exact(Upd.refl No wr).alloc _
   have bo:Blk wx wr.heap.size 61 [.int .i64 x.f,.int .i64 x.t,.int .i64 x.k,.int .i64 x.key]:=by rw[←hwx];exact Blk.new wr _ _
   have hsx:wx.heap.size=wr.heap.size+1:=by rw[←hwx];simp
   have HUX:=Lib.hid (hu.trans ux)
   have hNl:=bN.lt
   have bNx:=bN.upd ux id
   have HBR:=Lib.hid (bR.upd ux id)
   have g0:=bo.cell 0
   have g1:=bo.cell 1
   have g2:=bo.cell 2
   have g3:=bo.cell 3
   have c0:=bNx.cell 0
   have c1':=bNx.cell 1
   simp only[List.getElem?_cons_zero,List.getElem?_cons_succ]at g0 g1 g2 g3 c0 c1'
   have HG1:=Lib.hid (fun i e=>ho1.lt i e)
   have HG2:=Lib.hid (fun i e=>ho2.lt i e)
   have HO1:=Lib.hid (Za ho1 ux (fun _ _=>id))
   have HO2:=Lib.hid (Za ho2 ux (fun _ _=>id))
   have HD:=Lib.hid hd
   have BO:=Lib.hid bo
   have BN:=Lib.hid bNx
   have HXL:=Lib.hid hxl
   have HYL:=Lib.hid hyl
   have ne1:¬w.heap.size+1=wr.heap.size:=by omega
   have ne2:¬wr.heap.size=w.heap.size+1:=by omega
   clear bN bR ho1 ho2 hd ux bo bNx hdr hxx hx hy hxl hyl
   go_wp2_with (at_builtin;(first
    |(refine ZgI rfl rfl Zbb (v:= .slice A1 xs.length c1) (n:=xs.length) (m:=2) (xs:=xs.map (Value.int .i64)) (news:=[.int .i64 x.f,.int .i64 x.t]) rfl rfl (Za HO1.out ((Upd.refl No _).alloc _) (fun _ _=>id)) (ZkZ hsx.symm rfl) (by simp[Value.oneCell']) (by have:=HXL.out;omega) (by have:=HXL.out;omega) (by simp;omega) ?_
      intro v4 w4 hown4 hu4 hg4
      obtain⟨A4,c4,rfl⟩:=Zac hown4
      have U4:Upd (Own (.slice A1 xs.length c1)) wx w4:=((Upd.refl _ wx).alloc _).trans hu4
      have hs4:=U4.size
      have bN4:=BN.out.upd U4 (fun e=>by have:=(HG1.out _ e).1;omega)
      have bo4:=BO.out.upd U4 (fun e=>by have:=(HG1.out _ e).2;omega)
      have HBR4:=Lib.hid (HBR.out.upd U4 (fun e=>by have:=(HG1.out _ e).1;omega))
      have HO24:=Lib.hid (Za HO2.out U4 (fun i e e2=>HD.out i (Zb e2) (Zb e)))
      have HUX4:=Lib.hid (HUX.out.then_ U4 (fun i e=> .inr (by have:=(HG1.out i e).1;omega)))
      have HG4:=Lib.hid (fun i (e:Own (.slice A4 (xs.length+2) c4) i)=>(show w.heap.size+2≤i∧i<w4.heap.size∧¬Own (.slice A2 0 0) i from⟨(hown4.lt i e).1,(hown4.lt i e).2,fun e2=>by
       rcases hg4 with e3|⟨j,e3,e4⟩
       ·exact HD.out i (Zb (n:=xs.length) (c:=c1) (by unfold Own at e ⊢;rw[←e3];exact e)) e2
       ·have h5:=(HG2.out i (Zb e2)).2
        have:i=j:=by unfold Own at e;rw[e3]at e;injection e with e;exact e.symm
        simp at e4
        omega⟩))
      have k0:=bN4.cell 0
      have k1:=bN4.cell 1
      have k3:=bo4.cell 3
      have fr0:=bN4.free 0
      simp only[List.getElem?_cons_zero,List.getElem?_cons_succ]at k0 k1 k3
      have BN4:=Lib.hid bN4
      have HO4:=Lib.hid hown4
      clear bN4 bo4 U4 hu4 hg4 hown4 c0 c1' g0 g1 g2 g3 q0 q1 q2 q3)
    |(refine ZgI rfl rfl Zbb (v:= .slice A2 ys.length c2) (n:=ys.length) (m:=1) (xs:=ys.map (Value.int .i64)) (news:=[.int .i64 x.key]) rfl rfl (Za (Za HO24.out ((Upd.refl (One (w.heap.size+1)) w4).setOne 0 _) (fun i e e2=>by have:=(HG2.out i (Zb e)).1;unfold One at e2;omega)) ((Upd.refl No _).alloc _) (fun _ _=>id)) (ZkZ (by simp) rfl) (by simp[Value.oneCell']) (by have:=HYL.out;omega) (by have:=HYL.out;omega) (by simp;omega) ?_
      intro v6 w6 hown6 hu6 hg6
      obtain⟨A6,c6,rfl⟩:=Zac hown6
      have U5:=(Upd.refl (One (w.heap.size+1)) w4).setOne 0 (.slice A4 (xs.length+2) c4)
      have U6:Upd (Own (.slice A2 ys.length c2)) (w4.setCell ⟨w.heap.size+1,0,none⟩ (.slice A4 (xs.length+2) c4)) w6:=((Upd.refl _ _).alloc _).trans hu6
      have hs6:=U6.size
      simp only[World.size_setCell]at hs6
      have bN6:=(BN4.out.set_ 0 (.slice A4 (xs.length+2) c4)).upd U6 (fun e=>by have:=(HG2.out _ e).1;omega)
      have HBR6:=Lib.hid ((HBR4.out.upd U5 (by unfold One;omega)).upd U6 (fun e=>by have:=(HG2.out _ e).1;omega))
      have HO46:=Lib.hid (Za (Za HO4.out U5 (fun i e e2=>by have:=(HG4.out i e).1;unfold One at e2;omega)) U6 (fun i e e2=>(HG4.out i e).2.2 (Zb e2)))
      have HUX6:=Lib.hid ((HUX4.out.then_ U5 (fun i e=> .inr (by unfold One at e;omega))).then_ U6 (fun i e=> .inr (by have:=(HG2.out i e).1;omega)))
      have HG6:=Lib.hid (fun i (e:Own (.slice A6 (ys.length+1) c6) i)=>(show w.heap.size+2≤i∧¬Own (.slice A4 0 0) i from⟨(hown6.lt i e).1,fun e2=>by
       rcases hg6 with e3|⟨j,e3,e4⟩
       ·exact(HG4.out i (Zb e2)).2.2 (Zb (n:=ys.length) (c:=c2) (by unfold Own at e ⊢;rw[←e3];exact e))
       ·have h5:=(HG4.out i (Zb e2)).2.1
        have:i=j:=by unfold Own at e;rw[e3]at e;injection e with e;exact e.symm
        simp at e4
        omega⟩))
      have k0:=bN6.cell 0
      have k1:=bN6.cell 1
      have fr1:=bN6.free 1
      simp only[List.set_cons_zero,List.getElem?_cons_zero,List.getElem?_cons_succ]at k0 k1
      have BN6:=Lib.hid bN6
      have HO6:=Lib.hid hown6
      clear bN6 U6 U5 hu6 hg6 hown6)))
   go_roundg (gk-1)
   case measure=>omega
   case rel=>
    have U7:=(Upd.refl (One (w.heap.size+1)) w6).setOne 1 (.slice A6 (ys.length+1) c6)
    have b7:=BN6.out.set_ 1 (.slice A6 (ys.length+1) c6)
    simp only[List.set_cons_zero,List.set_cons_succ]at b7
    refine⟨k+1,A4,c4,xs++[x.f,x.t],A6,c6,ys++[x.key],by omega,by go_num,HX,HY,by have:=HXL.out;simp;omega,by have:=HYL.out;simp;omega,by simpa using b7,HBR6.out.upd U7 (by unfold One;omega),?_,?_,fun i e e2=>(HG6.out i (Zb e2)).2 (Zb e),HUX6.out.then_ U7 (fun i e=> .inr (by unfold One at e;omega))⟩
    ·have:=Za HO46.out U7 (fun i e e2=>by have:=(HG4.out i e).1;unfold One at e2;omega)
     simpa using this
    ·have:=Za HO6.out U7 (fun i e e2=>by have:=(HG6.out i e).1;unfold One at e2;omega)
     simpa using this
  ·obtain rfl:k=l.length:=by omega
   have hxs:xs=ZbC l:=by have:=hx.out;rw[List.drop_length]at this;simpa[ZbC]using this
   have hys:ys=l.map Edge.key:=by have:=hy.out;rw[List.drop_length]at this;simpa using this
   have hEx:ZA xs=Zaq l:=by rw[hxs];rfl
   have hEy:ZA ys=ZaZ l:=by rw[hys];rfl
   have HEX:=Lib.hid hEx
   have HEY:=Lib.hid hEy
   have HXL:=Lib.hid hxl
   have HYL:=Lib.hid hyl
   have HN:=Lib.hid bN
   have HR:=Lib.hid bR
   have HO1:=Lib.hid (Za ho1 ((Upd.refl No wr).drew) (fun _ _=>id))
   have HO2:=Lib.hid (Za ho2 ((Upd.refl No wr).drew) (fun _ _=>id))
   have HG1:=Lib.hid (fun i (e:Own (.slice A1 0 0) i)=>(ho1.lt i (Zb e)).1)
   have HG2:=Lib.hid (fun i (e:Own (.slice A2 0 0) i)=>(ho2.lt i (Zb e)).1)
   have HD:=Lib.hid hd
   have HU:=Lib.hid hu
   have c0:=bN.cell 0
   have c1':=bN.cell 1
   simp only[List.getElem?_cons_zero,List.getElem?_cons_succ]at c0 c1'
   clear hxs hys hEx hEy bN bR ho1 ho2 hd hx hy hu hxl hyl
   go_wp2
   refine wp_region_noPanic ?_
   refine wp_region_held_drew (S:=(fun w'=>Upd (fun i=>w.heap.size≤i) w w')) (by kernel_rfl) ?_ (fun hHeld=> ?_)
   ·(first|exact((HU.out.mono (fun _ _ e=>e.elim)).drew)|exact hHeld|exact hHeld.trans hq)
   refine wpK 0 rfl ?_
   refine wpK 3 rfl ?_
   refine wpR [1,4] ?_
   refine wpC rfl (fun K hK=> ?_) ?_
   ·go_simp
    refine hK.out _ _ ?_ (fun hHeld=> ?_)
    ·(first|exact((HU.out.mono (fun _ _ e=>e.elim)).drew)|exact hHeld|exact hHeld.trans hq)
    clear hK K
    try simp only[Act.put,sT,sS,sZ]
    refine wpR [2,4] ?_
    refine wpC rfl (fun K hK=> ?_) ?_
    ·go_simp
     (first
    |(go_at_call 98;refine(Zer wr.drew _ A1 c1 xs HO1.out (by have:=HXL.out;omega)).mono ?_;rintro e w4 ⟨rfl,ho4,hu4⟩;have HN4:=Lib.hid ((show Blk wr.drew _ _ _ from HN.out).upd hu4 (fun e=>by have:=HG1.out _ (Zb e);omega));have HR4:=Lib.hid ((show Blk wr.drew _ _ _ from HR.out).upd hu4 (fun e=>by have:=HG1.out _ (Zb e);omega));have HO14:=Lib.hid ho4;have HO24:=Lib.hid (Za HO2.out hu4 (fun i e e2=>HD.out i (Zb e2) (Zb e)));have hq:Upd (fun i=>w.heap.size≤i) wr.drew w4:=hu4.mono (fun i _ e=>by have:=HG1.out _ (Zb e);omega);have c41:=HN4.out.cell 1;simp only[List.getElem?_cons_zero,List.getElem?_cons_succ]at c41))
     try (go_wp2_with fail)
     refine hK.out _ _ ?_ (fun hHeld=> ?_)
     ·(first|exact((HU.out.mono (fun _ _ e=>e.elim)).drew)|exact hHeld|exact hHeld.trans hq)
     clear hK K
     try simp only[Act.put,sT,sS,sZ]
     refine wpR [4] ?_
     refine wpC rfl (fun K hK=> ?_) AllReadyH.nil
     go_simp
     refine hK.out _ _ ?_ (fun hHeld=> ?_)
     ·(first|exact((HU.out.mono (fun _ _ e=>e.elim)).drew)|exact hHeld|exact hHeld.trans hq)
     clear hK K
     try simp only[Act.put,sT,sS,sZ]
     refine wpK 6 rfl ?_
     refine wpR [5] ?_
     refine wpC rfl (fun K hK=> ?_) AllReadyH.nil
     go_simp
     (first
    |(go_at_call 98;refine(Zer w4 _ A2 c2 ys HO24.out (by have:=HYL.out;omega)).mono ?_;rintro e w5 ⟨rfl,ho5,hu5⟩;have HN5:=Lib.hid (HN4.out.upd hu5 (fun e=>by have:=HG2.out _ (Zb e);omega));have HR5:=Lib.hid (HR4.out.upd hu5 (fun e=>by have:=HG2.out _ (Zb e);omega));have HO25:=Lib.hid ho5;have HO15:=Lib.hid (Za HO14.out hu5 (fun i e e2=>HD.out i (Zb e) (Zb e2)));have hq:Upd (fun i=>w.heap.size≤i) w4 w5:=hu5.mono (fun i _ e=>by have:=HG2.out _ (Zb e);omega)))
     try (go_wp2_with fail)
     refine hK.out _ _ ?_ (fun hHeld=> ?_)
     ·(first|exact((HU.out.mono (fun _ _ e=>e.elim)).drew)|exact hHeld|exact hHeld.trans hq)
     clear hK K
     try simp only[Act.put,sT,sS,sZ]
     refine wpR [7] ?_
     refine wpC rfl (fun K hK=> ?_) AllReadyH.nil
     (first
    |(refine Zf rfl rfl (g:=w.heap.size+1) (i:=0) (v:= .slice A1 (ZA xs).length c1) rfl rfl HN5.out (by kernel_rfl) (by simp) rfl ?_;intro w6 hb6 hu6;have HN6:=Lib.hid hb6;have HR6:=Lib.hid (HR5.out.upd hu6 (by unfold One;omega));have HO16:=Lib.hid (Za HO15.out hu6 (fun i e e2=>by have:=HG1.out _ (Zb e);unfold One at e2;omega));have HO26:=Lib.hid (Za HO25.out hu6 (fun i e e2=>by have:=HG2.out _ (Zb e);unfold One at e2;omega));have hq:Upd (fun i=>w.heap.size≤i) w5 w6:=hu6.mono (fun i _ e=>by unfold One at e;omega))
    |(refine Zf rfl rfl (g:=w.heap.size+1) (i:=1) (v:= .slice A2 (ZA ys).length c2) rfl rfl HN6.out (by kernel_rfl) (by simp) rfl ?_;intro w7 hb7 hu7;have HN7:=Lib.hid hb7;have HR7:=Lib.hid (HR6.out.upd hu7 (by unfold One;omega));have HO17:=Lib.hid (Za HO16.out hu7 (fun i e e2=>by have:=HG1.out _ (Zb e);unfold One at e2;omega));have HO27:=Lib.hid (Za HO26.out hu7 (fun i e e2=>by have:=HG2.out _ (Zb e);unfold One at e2;omega));have hq:Upd (fun i=>w.heap.size≤i) w6 w7:=hu7.mono (fun i _ e=>by unfold One at e;omega)))
     refine hK.out _ _ ?_ (fun hHeld=> ?_)
     ·(first|exact((HU.out.mono (fun _ _ e=>e.elim)).drew)|exact hHeld|exact hHeld.trans hq)
     clear hK K
     try simp only[Act.put,sT,sS,sZ]
     refine wpK 8 rfl ?_
     refine wpR [9] ?_
     refine wpC rfl (fun K hK=> ?_) AllReadyH.nil
     (first
    |(refine Zf rfl rfl (g:=w.heap.size+1) (i:=0) (v:= .slice A1 (ZA xs).length c1) rfl rfl HN5.out (by kernel_rfl) (by simp) rfl ?_;intro w6 hb6 hu6;have HN6:=Lib.hid hb6;have HR6:=Lib.hid (HR5.out.upd hu6 (by unfold One;omega));have HO16:=Lib.hid (Za HO15.out hu6 (fun i e e2=>by have:=HG1.out _ (Zb e);unfold One at e2;omega));have HO26:=Lib.hid (Za HO25.out hu6 (fun i e e2=>by have:=HG2.out _ (Zb e);unfold One at e2;omega));have hq:Upd (fun i=>w.heap.size≤i) w5 w6:=hu6.mono (fun i _ e=>by unfold One at e;omega))
    |(refine Zf rfl rfl (g:=w.heap.size+1) (i:=1) (v:= .slice A2 (ZA ys).length c2) rfl rfl HN6.out (by kernel_rfl) (by simp) rfl ?_;intro w7 hb7 hu7;have HN7:=Lib.hid hb7;have HR7:=Lib.hid (HR6.out.upd hu7 (by unfold One;omega));have HO17:=Lib.hid (Za HO16.out hu7 (fun i e e2=>by have:=HG1.out _ (Zb e);unfold One at e2;omega));have HO27:=Lib.hid (Za HO26.out hu7 (fun i e e2=>by have:=HG2.out _ (Zb e);unfold One at e2;omega));have hq:Upd (fun i=>w.heap.size≤i) w6 w7:=hu7.mono (fun i _ e=>by unfold One at e;omega)))
     refine hK.out _ _ ?_ (fun hHeld=> ?_)
     ·(first|exact((HU.out.mono (fun _ _ e=>e.elim)).drew)|exact hHeld|exact hHeld.trans hq)
     clear hK K
     try simp only[Act.put,sT,sS,sZ]
     refine wpD (NoPanic.normal ?_)
     have m0:=HN7.out.cell 0
     have m1:=HN7.out.cell 1
     have s0:=HR7.out.cell 0
     have s1:=HR7.out.cell 1
     have t0:=HR7.out.free 0
     have t1:=HR7.out.free 1
     simp only[List.set_cons_zero,List.set_cons_succ,List.getElem?_cons_zero,List.getElem?_cons_succ]at m0 m1 s0 s1
     have HZ:=Lib.hid hHeld
     clear hHeld hq hb6 hb7 ho4 ho5 hu4 hu5 hu6 hu7 c0 c1' c41 HN4 HN5 HN6 HN7 HR4 HR5 HR6 HO14 HO24 HO15 HO25 HO16 HO26
     go_wp2
     have b9:=(HR7.out.set_ 0 (.slice A1 (ZA xs).length c1)).set_ 1 (.slice A2 (ZA ys).length c2)
     simp only[List.set_cons_zero,List.set_cons_succ]at b9
     have US:=((Upd.refl (One w.heap.size) w7).setOne 0 (.slice A1 (ZA xs).length c1)).setOne 1 (.slice A2 (ZA ys).length c2)
     refine bodyPost_ret (results_cell_row (p:=2) rfl _ _ _ _ _ _ _ rfl b9 Tryz.underlying98 rfl (by kernel_rfl)) rfl ⟨A1,c1,A2,c2,by rw[←HEX.out,←HEY.out],?_,?_,?_⟩
     ·rw[←HEX.out];exact(Ints.of_owned (Za HO17.out US (fun i e e2=>by have:=HG1.out _ (Zb e);unfold One at e2;omega))).weak (fun i _ h=>by omega)
     ·rw[←HEY.out];exact(Ints.of_owned (Za HO27.out US (fun i e e2=>by have:=HG2.out _ (Zb e);unfold One at e2;omega))).weak (fun i _ h=>by omega)
     ·exact((Upd.refl No w).then_ (HZ.out.then_ US (fun i e=> .inr (by unfold One at e;omega))) (fun i e=> .inr e))
    refine wpC rfl (fun K hK=> ?_) AllReadyH.nil
    go_simp
    refine hK.out _ _ ?_ (fun hHeld=> ?_)
    ·(first|exact((HU.out.mono (fun _ _ e=>e.elim)).drew)|exact hHeld|exact hHeld.trans hq)
    clear hK K
    try simp only[Act.put,sT,sS,sZ]
    refine wpR [2] ?_
    refine wpC rfl (fun K hK=> ?_) AllReadyH.nil
    go_simp
    (first
   |(go_at_call 98;refine(Zer wr.drew _ A1 c1 xs HO1.out (by have:=HXL.out;omega)).mono ?_;rintro e w4 ⟨rfl,ho4,hu4⟩;have HN4:=Lib.hid ((show Blk wr.drew _ _ _ from HN.out).upd hu4 (fun e=>by have:=HG1.out _ (Zb e);omega));have HR4:=Lib.hid ((show Blk wr.drew _ _ _ from HR.out).upd hu4 (fun e=>by have:=HG1.out _ (Zb e);omega));have HO14:=Lib.hid ho4;have HO24:=Lib.hid (Za HO2.out hu4 (fun i e e2=>HD.out i (Zb e2) (Zb e)));have hq:Upd (fun i=>w.heap.size≤i) wr.drew w4:=hu4.mono (fun i _ e=>by have:=HG1.out _ (Zb e);omega);have c41:=HN4.out.cell 1;simp only[List.getElem?_cons_zero,List.getElem?_cons_succ]at c41))
    try (go_wp2_with fail)
    refine hK.out _ _ ?_ (fun hHeld=> ?_)
    ·(first|exact((HU.out.mono (fun _ _ e=>e.elim)).drew)|exact hHeld|exact hHeld.trans hq)
    clear hK K
    try simp only[Act.put,sT,sS,sZ]
    refine wpK 6 rfl ?_
    refine wpR [5] ?_
    refine wpC rfl (fun K hK=> ?_) AllReadyH.nil
    go_simp
    (first
   |(go_at_call 98;refine(Zer w4 _ A2 c2 ys HO24.out (by have:=HYL.out;omega)).mono ?_;rintro e w5 ⟨rfl,ho5,hu5⟩;have HN5:=Lib.hid (HN4.out.upd hu5 (fun e=>by have:=HG2.out _ (Zb e);omega));have HR5:=Lib.hid (HR4.out.upd hu5 (fun e=>by have:=HG2.out _ (Zb e);omega));have HO25:=Lib.hid ho5;have HO15:=Lib.hid (Za HO14.out hu5 (fun i e e2=>HD.out i (Zb e) (Zb e2)));have hq:Upd (fun i=>w.heap.size≤i) w4 w5:=hu5.mono (fun i _ e=>by have:=HG2.out _ (Zb e);omega)))
    try (go_wp2_with fail)
    refine hK.out _ _ ?_ (fun hHeld=> ?_)
    ·(first|exact((HU.out.mono (fun _ _ e=>e.elim)).drew)|exact hHeld|exact hHeld.trans hq)
    clear hK K
    try simp only[Act.put,sT,sS,sZ]
    refine wpR [7] ?_
    refine wpC rfl (fun K hK=> ?_) AllReadyH.nil
    (first
   |(refine Zf rfl rfl (g:=w.heap.size+1) (i:=0) (v:= .slice A1 (ZA xs).length c1) rfl rfl HN5.out (by kernel_rfl) (by simp) rfl ?_;intro w6 hb6 hu6;have HN6:=Lib.hid hb6;have HR6:=Lib.hid (HR5.out.upd hu6 (by unfold One;omega));have HO16:=Lib.hid (Za HO15.out hu6 (fun i e e2=>by have:=HG1.out _ (Zb e);unfold One at e2;omega));have HO26:=Lib.hid (Za HO25.out hu6 (fun i e e2=>by have:=HG2.out _ (Zb e);unfold One at e2;omega));have hq:Upd (fun i=>w.heap.size≤i) w5 w6:=hu6.mono (fun i _ e=>by unfold One at e;omega))
   |(refine Zf rfl rfl (g:=w.heap.size+1) (i:=1) (v:= .slice A2 (ZA ys).length c2) rfl rfl HN6.out (by kernel_rfl) (by simp) rfl ?_;intro w7 hb7 hu7;have HN7:=Lib.hid hb7;have HR7:=Lib.hid (HR6.out.upd hu7 (by unfold One;omega));have HO17:=Lib.hid (Za HO16.out hu7 (fun i e e2=>by have:=HG1.out _ (Zb e);unfold One at e2;omega));have HO27:=Lib.hid (Za HO26.out hu7 (fun i e e2=>by have:=HG2.out _ (Zb e);unfold One at e2;omega));have hq:Upd (fun i=>w.heap.size≤i) w6 w7:=hu7.mono (fun i _ e=>by unfold One at e;omega)))
    refine hK.out _ _ ?_ (fun hHeld=> ?_)
    ·(first|exact((HU.out.mono (fun _ _ e=>e.elim)).drew)|exact hHeld|exact hHeld.trans hq)
    clear hK K
    try simp only[Act.put,sT,sS,sZ]
    refine wpK 8 rfl ?_
    refine wpR [9] ?_
    refine wpC rfl (fun K hK=> ?_) AllReadyH.nil
    (first
   |(refine Zf rfl rfl (g:=w.heap.size+1) (i:=0) (v:= .slice A1 (ZA xs).length c1) rfl rfl HN5.out (by kernel_rfl) (by simp) rfl ?_;intro w6 hb6 hu6;have HN6:=Lib.hid hb6;have HR6:=Lib.hid (HR5.out.upd hu6 (by unfold One;omega));have HO16:=Lib.hid (Za HO15.out hu6 (fun i e e2=>by have:=HG1.out _ (Zb e);unfold One at e2;omega));have HO26:=Lib.hid (Za HO25.out hu6 (fun i e e2=>by have:=HG2.out _ (Zb e);unfold One at e2;omega));have hq:Upd (fun i=>w.heap.size≤i) w5 w6:=hu6.mono (fun i _ e=>by unfold One at e;omega))
   |(refine Zf rfl rfl (g:=w.heap.size+1) (i:=1) (v:= .slice A2 (ZA ys).length c2) rfl rfl HN6.out (by kernel_rfl) (by simp) rfl ?_;intro w7 hb7 hu7;have HN7:=Lib.hid hb7;have HR7:=Lib.hid (HR6.out.upd hu7 (by unfold One;omega));have HO17:=Lib.hid (Za HO16.out hu7 (fun i e e2=>by have:=HG1.out _ (Zb e);unfold One at e2;omega));have HO27:=Lib.hid (Za HO26.out hu7 (fun i e e2=>by have:=HG2.out _ (Zb e);unfold One at e2;omega));have hq:Upd (fun i=>w.heap.size≤i) w6 w7:=hu7.mono (fun i _ e=>by unfold One at e;omega)))
    refine hK.out _ _ ?_ (fun hHeld=> ?_)
    ·(first|exact((HU.out.mono (fun _ _ e=>e.elim)).drew)|exact hHeld|exact hHeld.trans hq)
    clear hK K
    try simp only[Act.put,sT,sS,sZ]
    refine wpD (NoPanic.normal ?_)
    have m0:=HN7.out.cell 0
    have m1:=HN7.out.cell 1
    have s0:=HR7.out.cell 0
    have s1:=HR7.out.cell 1
    have t0:=HR7.out.free 0
    have t1:=HR7.out.free 1
    simp only[List.set_cons_zero,List.set_cons_succ,List.getElem?_cons_zero,List.getElem?_cons_succ]at m0 m1 s0 s1
    have HZ:=Lib.hid hHeld
    clear hHeld hq hb6 hb7 ho4 ho5 hu4 hu5 hu6 hu7 c0 c1' c41 HN4 HN5 HN6 HN7 HR4 HR5 HR6 HO14 HO24 HO15 HO25 HO16 HO26
    go_wp2
    have b9:=(HR7.out.set_ 0 (.slice A1 (ZA xs).length c1)).set_ 1 (.slice A2 (ZA ys).length c2)
    simp only[List.set_cons_zero,List.set_cons_succ]at b9
    have US:=((Upd.refl (One w.heap.size) w7).setOne 0 (.slice A1 (ZA xs).length c1)).setOne 1 (.slice A2 (ZA ys).length c2)
    refine bodyPost_ret (results_cell_row (p:=2) rfl _ _ _ _ _ _ _ rfl b9 Tryz.underlying98 rfl (by kernel_rfl)) rfl ⟨A1,c1,A2,c2,by rw[←HEX.out,←HEY.out],?_,?_,?_⟩
    ·rw[←HEX.out];exact(Ints.of_owned (Za HO17.out US (fun i e e2=>by have:=HG1.out _ (Zb e);unfold One at e2;omega))).weak (fun i _ h=>by omega)
    ·rw[←HEY.out];exact(Ints.of_owned (Za HO27.out US (fun i e e2=>by have:=HG2.out _ (Zb e);unfold One at e2;omega))).weak (fun i _ h=>by omega)
    ·exact((Upd.refl No w).then_ (HZ.out.then_ US (fun i e=> .inr (by unfold One at e;omega))) (fun i e=> .inr e))
   refine wpC rfl (fun K hK=> ?_) AllReadyH.nil
   go_simp
   refine hK.out _ _ ?_ (fun hHeld=> ?_)
   ·(first|exact((HU.out.mono (fun _ _ e=>e.elim)).drew)|exact hHeld|exact hHeld.trans hq)
   clear hK K
   try simp only[Act.put,sT,sS,sZ]
   refine wpR [1] ?_
   refine wpC rfl (fun K hK=> ?_) AllReadyH.nil
   go_simp
   refine hK.out _ _ ?_ (fun hHeld=> ?_)
   ·(first|exact((HU.out.mono (fun _ _ e=>e.elim)).drew)|exact hHeld|exact hHeld.trans hq)
   clear hK K
   try simp only[Act.put,sT,sS,sZ]
   refine wpR [2] ?_
   refine wpC rfl (fun K hK=> ?_) AllReadyH.nil
   go_simp
   (first
  |(go_at_call 98;refine(Zer wr.drew _ A1 c1 xs HO1.out (by have:=HXL.out;omega)).mono ?_;rintro e w4 ⟨rfl,ho4,hu4⟩;have HN4:=Lib.hid ((show Blk wr.drew _ _ _ from HN.out).upd hu4 (fun e=>by have:=HG1.out _ (Zb e);omega));have HR4:=Lib.hid ((show Blk wr.drew _ _ _ from HR.out).upd hu4 (fun e=>by have:=HG1.out _ (Zb e);omega));have HO14:=Lib.hid ho4;have HO24:=Lib.hid (Za HO2.out hu4 (fun i e e2=>HD.out i (Zb e2) (Zb e)));have hq:Upd (fun i=>w.heap.size≤i) wr.drew w4:=hu4.mono (fun i _ e=>by have:=HG1.out _ (Zb e);omega);have c41:=HN4.out.cell 1;simp only[List.getElem?_cons_zero,List.getElem?_cons_succ]at c41))
   try (go_wp2_with fail)
   refine hK.out _ _ ?_ (fun hHeld=> ?_)
   ·(first|exact((HU.out.mono (fun _ _ e=>e.elim)).drew)|exact hHeld|exact hHeld.trans hq)
   clear hK K
   try simp only[Act.put,sT,sS,sZ]
   refine wpK 6 rfl ?_
   refine wpR [5] ?_
   refine wpC rfl (fun K hK=> ?_) AllReadyH.nil
   go_simp
   (first
  |(go_at_call 98;refine(Zer w4 _ A2 c2 ys HO24.out (by have:=HYL.out;omega)).mono ?_;rintro e w5 ⟨rfl,ho5,hu5⟩;have HN5:=Lib.hid (HN4.out.upd hu5 (fun e=>by have:=HG2.out _ (Zb e);omega));have HR5:=Lib.hid (HR4.out.upd hu5 (fun e=>by have:=HG2.out _ (Zb e);omega));have HO25:=Lib.hid ho5;have HO15:=Lib.hid (Za HO14.out hu5 (fun i e e2=>HD.out i (Zb e) (Zb e2)));have hq:Upd (fun i=>w.heap.size≤i) w4 w5:=hu5.mono (fun i _ e=>by have:=HG2.out _ (Zb e);omega)))
   try (go_wp2_with fail)
   refine hK.out _ _ ?_ (fun hHeld=> ?_)
   ·(first|exact((HU.out.mono (fun _ _ e=>e.elim)).drew)|exact hHeld|exact hHeld.trans hq)
   clear hK K
   try simp only[Act.put,sT,sS,sZ]
   refine wpR [7] ?_
   refine wpC rfl (fun K hK=> ?_) AllReadyH.nil
   (first
  |(refine Zf rfl rfl (g:=w.heap.size+1) (i:=0) (v:= .slice A1 (ZA xs).length c1) rfl rfl HN5.out (by kernel_rfl) (by simp) rfl ?_;intro w6 hb6 hu6;have HN6:=Lib.hid hb6;have HR6:=Lib.hid (HR5.out.upd hu6 (by unfold One;omega));have HO16:=Lib.hid (Za HO15.out hu6 (fun i e e2=>by have:=HG1.out _ (Zb e);unfold One at e2;omega));have HO26:=Lib.hid (Za HO25.out hu6 (fun i e e2=>by have:=HG2.out _ (Zb e);unfold One at e2;omega));have hq:Upd (fun i=>w.heap.size≤i) w5 w6:=hu6.mono (fun i _ e=>by unfold One at e;omega))
  |(refine Zf rfl rfl (g:=w.heap.size+1) (i:=1) (v:= .slice A2 (ZA ys).length c2) rfl rfl HN6.out (by kernel_rfl) (by simp) rfl ?_;intro w7 hb7 hu7;have HN7:=Lib.hid hb7;have HR7:=Lib.hid (HR6.out.upd hu7 (by unfold One;omega));have HO17:=Lib.hid (Za HO16.out hu7 (fun i e e2=>by have:=HG1.out _ (Zb e);unfold One at e2;omega));have HO27:=Lib.hid (Za HO26.out hu7 (fun i e e2=>by have:=HG2.out _ (Zb e);unfold One at e2;omega));have hq:Upd (fun i=>w.heap.size≤i) w6 w7:=hu7.mono (fun i _ e=>by unfold One at e;omega)))
   refine hK.out _ _ ?_ (fun hHeld=> ?_)
   ·(first|exact((HU.out.mono (fun _ _ e=>e.elim)).drew)|exact hHeld|exact hHeld.trans hq)
   clear hK K
   try simp only[Act.put,sT,sS,sZ]
   refine wpK 8 rfl ?_
   refine wpR [9] ?_
   refine wpC rfl (fun K hK=> ?_) AllReadyH.nil
   (first
  |(refine Zf rfl rfl (g:=w.heap.size+1) (i:=0) (v:= .slice A1 (ZA xs).length c1) rfl rfl HN5.out (by kernel_rfl) (by simp) rfl ?_;intro w6 hb6 hu6;have HN6:=Lib.hid hb6;have HR6:=Lib.hid (HR5.out.upd hu6 (by unfold One;omega));have HO16:=Lib.hid (Za HO15.out hu6 (fun i e e2=>by have:=HG1.out _ (Zb e);unfold One at e2;omega));have HO26:=Lib.hid (Za HO25.out hu6 (fun i e e2=>by have:=HG2.out _ (Zb e);unfold One at e2;omega));have hq:Upd (fun i=>w.heap.size≤i) w5 w6:=hu6.mono (fun i _ e=>by unfold One at e;omega))
  |(refine Zf rfl rfl (g:=w.heap.size+1) (i:=1) (v:= .slice A2 (ZA ys).length c2) rfl rfl HN6.out (by kernel_rfl) (by simp) rfl ?_;intro w7 hb7 hu7;have HN7:=Lib.hid hb7;have HR7:=Lib.hid (HR6.out.upd hu7 (by unfold One;omega));have HO17:=Lib.hid (Za HO16.out hu7 (fun i e e2=>by have:=HG1.out _ (Zb e);unfold One at e2;omega));have HO27:=Lib.hid (Za HO26.out hu7 (fun i e e2=>by have:=HG2.out _ (Zb e);unfold One at e2;omega));have hq:Upd (fun i=>w.heap.size≤i) w6 w7:=hu7.mono (fun i _ e=>by unfold One at e;omega)))
   refine hK.out _ _ ?_ (fun hHeld=> ?_)
   ·(first|exact((HU.out.mono (fun _ _ e=>e.elim)).drew)|exact hHeld|exact hHeld.trans hq)
   clear hK K
   try simp only[Act.put,sT,sS,sZ]
   refine wpD (NoPanic.normal ?_)
   have m0:=HN7.out.cell 0
   have m1:=HN7.out.cell 1
   have s0:=HR7.out.cell 0
   have s1:=HR7.out.cell 1
   have t0:=HR7.out.free 0
   have t1:=HR7.out.free 1
   simp only[List.set_cons_zero,List.set_cons_succ,List.getElem?_cons_zero,List.getElem?_cons_succ]at m0 m1 s0 s1
   have HZ:=Lib.hid hHeld
   clear hHeld hq hb6 hb7 ho4 ho5 hu4 hu5 hu6 hu7 c0 c1' c41 HN4 HN5 HN6 HN7 HR4 HR5 HR6 HO14 HO24 HO15 HO25 HO16 HO26
   go_wp2
   have b9:=(HR7.out.set_ 0 (.slice A1 (ZA xs).length c1)).set_ 1 (.slice A2 (ZA ys).length c2)
   simp only[List.set_cons_zero,List.set_cons_succ]at b9
   have US:=((Upd.refl (One w.heap.size) w7).setOne 0 (.slice A1 (ZA xs).length c1)).setOne 1 (.slice A2 (ZA ys).length c2)
   refine bodyPost_ret (results_cell_row (p:=2) rfl _ _ _ _ _ _ _ rfl b9 Tryz.underlying98 rfl (by kernel_rfl)) rfl ⟨A1,c1,A2,c2,by rw[←HEX.out,←HEY.out],?_,?_,?_⟩
   ·rw[←HEX.out];exact(Ints.of_owned (Za HO17.out US (fun i e e2=>by have:=HG1.out _ (Zb e);unfold One at e2;omega))).weak (fun i _ h=>by omega)
   ·rw[←HEY.out];exact(Ints.of_owned (Za HO27.out US (fun i e e2=>by have:=HG2.out _ (Zb e);unfold One at e2;omega))).weak (fun i _ h=>by omega)
   ·exact((Upd.refl No w).then_ (HZ.out.then_ US (fun i e=> .inr (by unfold One at e;omega))) (fun i e=> .inr e))
end Go.Proofs.YtklmahmfmbppkaaGreat
/- Closed walks:the digraph of some edges. -/
namespace Go.Proofs.YtklmahmfmbppkaaGreat
set_option linter.unusedSimpArgs false
set_option linter.unusedVariables false
open Go.RowKit
set_option maxRecDepth 100000 in
set_option maxHeartbeats 4000000 in
theorem Zrt (F F1 F2:Nat→Prop) (w:World) (A:Option Addr) (c:Nat) (l:List Edge) (hW:Walk F w A l) (A1 A2:Option Addr) (c1 c2:Nat) (ids keys:List Int) (hA:Ints F1 w A1 ids) (hB:Ints F2 w A2 keys)
  (hsi:ids.Pairwise (·<·)) (hsk:keys.Pairwise (·<·)) (hni:l≠[]→ids≠[]∧keys≠[]) (hl:l.length≤50000) (hl1:ids.length≤4096) (hl2:keys.length≤100000):
  Calls Tryz.prog 63 #[.slice A l.length c,.agg #[.slice A1 ids.length c1,.slice A2 keys.length c2]] w fun e w'=>∃G g K,e= .returned (.tuple #[.pointer (some ⟨g,0,none⟩),.int .i64 0])∧K≤50000∧DG w' G (some ⟨g,0,none⟩) ids.length K (ZbZ ids keys ids.length [] l)∧Upd No w w':=by
 obtain⟨wb,hwb⟩:∃wb,w.alloc (.cells #[.slice A1 ids.length c1,.slice A2 keys.length c2] 98)=wb:=⟨_,rfl⟩
 have u0:Upd No w wb:=by rw[←hwb];exact(Upd.refl No w).alloc _
 have bN:Blk wb w.heap.size 98 [.slice A1 ids.length c1,.slice A2 keys.length c2]:=by rw[←hwb];exact Blk.new w _ _
 have n0:∀W,Upd No wb W→W.cell? ⟨w.heap.size,0,none⟩=some (.slice A1 ids.length c1):=fun W u=>by have:=(bN.upd u id).cell 0;simpa using this
 have n1:∀W,Upd No wb W→W.cell? ⟨w.heap.size,1,none⟩=some (.slice A2 keys.length c2):=fun W u=>by have:=(bN.upd u id).cell 1;simpa using this
 have d1:decide (4096<(ids.length:Int))=false:=decide_eq_false (by omega)
 have d2:decide (1048575<(keys.length:Int))=false:=decide_eq_false (by omega)
 have hroom:ZbG (ids.length:Int)=ids.length:=by unfold ZbG;omega
 have HNew:=Lib.hid (hroom▸ZpH wb (ids.length:Int))
 have HCa:=Lib.hid (fun(W:World) (u:Upd No wb W) (e:Edge) (he:l≠[])=>ZsQ F1 F2 W A1 A2 c1 c2 ids keys (hA.upd (u0.trans u) (fun _ _=>id)) (hB.upd (u0.trans u) (fun _ _=>id)) hsi hsk (hni he).1 (hni he).2 (by omega) (by omega) e)
 have HW:=Lib.hid (fun(W:World) (u:Upd No wb W)=>hW.upd (u0.trans u) (fun _ _=>id))
 have U0:=Lib.hid u0
 have hr:Upd No wb wb:=Upd.refl _ _
 obtain⟨R,hR⟩:∃R,ZbZ ids keys ids.length [] l=R:=⟨_,rfl⟩
 have HR:=Lib.hid hR
 rw[hR]
 clear hR hA hB hW bN u0 hsi hsk hni hroom
 go_enter Tryz.func63,Tryz.ntmps63
 go_wp2_with fail
 refine(HNew.out).mono ?_
 rintro e w1 ⟨G0,g0,rfl,hdg,hu1,hG0⟩
 have HDG:=Lib.hid hdg
 have HG0:=Lib.hid hG0
 have HU1:=Lib.hid hu1
 clear hdg hG0 hu1 hwb hr HNew
 go_wp2
 go_loopg [25] l.length (fun gk i wr=>∃(k:Nat) (G:Nat→Prop) (q:List HArc),k+gk=l.length∧i= .int .i64 k∧Hid (ZbZ ids keys ids.length q (l.drop k)=R)∧Hid (DG wr G (some ⟨g0,0,none⟩) ids.length k q)∧Hid (∀j,G j→wb.heap.size≤j)∧Upd No wb wr)
 case atStart=>exact⟨0,G0,[],by omega,rfl,HR,HDG,HG0,HU1.out⟩
 case round=>
  obtain⟨k,G,q,hgk,rfl,hq,hD,hG,hu⟩:=hrel
  by_cases hlt:k<l.length
  ·obtain⟨ax,rfl,q0,q1,q2,q3⟩:=(HW.out wr hu).at_ hlt
   obtain⟨x,hxx⟩:∃x,l[k]=x:=⟨_,rfl⟩
   have hdr:=List.drop_eq_getElem_cons hlt
   rw[hxx]at q0 q1 q2 q3 hdr
   have HQ:=Lib.hid (show ZbZ ids keys ids.length (ZbE ids.length q (toR ids keys x.arc)) (l.drop (k+1))=R by rw[←hq.out,hdr];rfl)
   have i1:(0:Int)≤(k:Int):=Int.natCast_nonneg _
   have i2:(k:Int)<(l.length:Int):=by omega
   have hne:l≠[]:=fun e=>by rw[e]at hlt;simp at hlt
   obtain⟨wx,hwx⟩:∃wx,wr.alloc (.cells #[.int .i64 x.f,.int .i64 x.t,.int .i64 x.k,.int .i64 x.key] 61)=wx:=⟨_,rfl⟩
   have ux:Upd No wr wx:=by rw[←hwx];exact(Upd.refl No wr).alloc _
   have bo:Blk wx wr.heap.size 61 [.int .i64 x.f,.int .i64 x.t,.int .i64 x.k,.int .i64 x.key]:=by rw[←hwx];exact Blk.new wr _ _
   have hux:=hu.trans ux
   have g0':=bo.cell 0
   have g1:=bo.cell 1
   have g2:=bo.cell 2
   have g3:=bo.cell 3
   simp only[List.getElem?_cons_zero,List.getElem?_cons_succ]at g0' g1 g2 g3
   have HC:=Lib.hid (HCa.out wx hux x hne)
   have HDX:=Lib.hid (fun(W:World) (u:Upd No wx W)=>ZpI (hD.out.no (ux.trans u)) (by omega) (toR ids keys ⟨x.f,x.t,x.k,x.key⟩))
   have hZ:=hux.size
   have HUX:=Lib.hid hux
   unfold Edge.cells at HC
   clear hq hdr hxx ux bo
   go_wp2_with fail
   refine(HC.out).mono ?_
   rintro e w2 ⟨rfl,hu2⟩
   go_wp2_with fail
   refine(HDX.out w2 hu2).mono ?_
   rintro e w3 ⟨G3,rfl,hd3,hu3,hg3⟩
   have HD3:=Lib.hid hd3
   have hz2:=hu2.size
   have hG3:=Lib.hid (show∀j,G3 j→wb.heap.size≤j from fun j h=>(hg3 j h).elim (hG.out j) (fun h=>by omega))
   have U3:Upd No wb w3:=(HUX.out.trans hu2).then_ hu3 (fun i e=> .inr (hG.out i e))
   clear hd3 hu3 hg3 hu2 HDX HC
   go_wp2
   go_roundg (gk-1)
   case measure=>omega
   case rel=>exact⟨k+1,G3,_,by omega,by go_num,HQ,HD3,hG3,U3⟩
  ·obtain rfl:k=l.length:=by omega
   have hqR:q=R:=by have:=hq.out;rw[List.drop_length]at this;exact this
   have HqR:=Lib.hid hqR
   clear hqR hq
   go_wp2
   go_ret2
   rw[←HqR.out]
   exact⟨G,g0,l.length,rfl,hl,hD.out,U0.out.trans hu⟩
end Go.Proofs.YtklmahmfmbppkaaGreat
/- Closed walks:the edges that do not count are dropped. -/
namespace Go.Proofs.YtklmahmfmbppkaaGreat
set_option linter.unusedSimpArgs false
set_option linter.unusedVariables false
open Go.RowKit
def ZcI (l:List Edge) (mask:Int):Nat:=l.findIdx (ZaF mask)
def Zee (l:List Edge) (mask:Int):Int:=if ZcI l mask<l.length then (ZcI l mask:Int) else -1
theorem ZoA {l:List Edge} {mask:Int} {k:Nat} (hk:k<l.length) (h:∀(j:Nat) (hj:j<k),ZaF mask (l[j]'(by omega))=false) (h1:ZaF mask l[k]=true):ZcI l mask=k:=by
 unfold ZcI
 rw[List.findIdx_eq hk]
 exact⟨h1,fun j hj=>by simp only[h j hj]⟩
theorem Zm1 {l:List Edge} {mask:Int} (h:∀(j:Nat) (hj:j<l.length),ZaF mask l[j]=false):ZcI l mask=l.length:=by
 unfold ZcI
 rw[List.findIdx_eq_length]
 intro x hx
 obtain⟨k,hk,rfl⟩:=List.mem_iff_getElem.1 hx
 simp only[h k hk]
set_option maxRecDepth 100000 in
theorem Zrs (F:Nat→Prop) (w:World) (B:Option Addr) (d:Nat) (l:List Edge) (p:Addr) (mask:Int) (H:Walk F w B l) (hl:l.length≤1000000) (hp:w.cell? p=some (.int .i64 mask)):
  Calls Tryz.prog 97 #[.slice B l.length d,.func (.func 61) #[] #[.pointer (some p)]] w fun e w'=>e= .returned (.int .i64 (Zee l mask))∧Upd No w w':=by
 go_enter Tryz.func97,Tryz.ntmps97
 go_wp2
 go_loopg [8] l.length (fun gk s wr=>∃k:Nat,k+gk=l.length∧s= .int .i64 k∧Hid (∀(j:Nat) (hj:j<l.length),j<k→ZaF mask l[j]=false)∧Upd No w wr)
 case atStart=>exact⟨0,by omega,rfl,Lib.hid (fun j _ hj=>by omega),Upd.refl _ _⟩
 case round=>
  obtain⟨k,hgk,rfl,hall,hu⟩:=hrel
  by_cases hlt:k<l.length
  ·obtain⟨ad,rfl,q0,q1,q2,q3⟩:=(H.upd hu (fun _ _=>id)).at_ hlt
   obtain⟨x,hx⟩:∃x,l[k]=x:=⟨_,rfl⟩
   rw[hx]at q0 q1 q2 q3
   have hpr:=hu.keepNo hp
   have X:=Lib.hid hx
   have b2:(k:Int)<(l.length:Int):=by omega
   have b1:(0:Int)≤(k:Int):=Int.natCast_nonneg _
   have HC:=Lib.hid (ZpM wr p mask hpr x)
   unfold Edge.cells at HC
   clear hx
   by_cases he:ZaF mask x=true
   ·have hpos:=Lib.hid (show Zee l mask=(k:Int) by unfold Zee;rw[ZoA (l:=l) (mask:=mask) hlt (fun j hj=>hall.out j (by omega) hj) (by rw[X.out];exact he),if_pos hlt])
    have He:=Lib.hid he
    clear he
    go_wp2_with fail
    refine(HC.out).mono ?_
    rintro e w1 ⟨hee,hu1⟩
    rw[He.out]at hee
    subst hee
    go_wp2
    go_ret
    exact⟨by rw[hpos.out];rfl,hu.trans hu1⟩
   ·have hef:ZaF mask x=false:=by simpa using he
    have He:=Lib.hid hef
    clear he hef
    go_wp2_with fail
    refine(HC.out).mono ?_
    rintro e w1 ⟨hee,hu1⟩
    rw[He.out]at hee
    subst hee
    go_wp2
    go_roundg (gk-1)
    case measure=>omega
    case rel=>exact⟨k+1,by omega,by go_num,Lib.hid (fun j hj hjk=>by
      by_cases e:j=k
      ·subst e;rw[X.out];exact He.out
      ·exact hall.out j hj (by omega)),hu.trans hu1⟩
  ·obtain rfl:k=l.length:=by omega
   have hpos:=Lib.hid (show Zee l mask= -1 by unfold Zee;rw[Zm1 (l:=l) (mask:=mask) fun j hj=>hall.out j hj hj,if_neg (by omega)])
   go_wp2
   go_ret
   exact⟨by rw[hpos.out];rfl,hu⟩
theorem ZkA {P:Program} {ops:Array Oper} {rest:List Oper} {o:Oper} {a:Act} {W:World} {Q:Exit→Act→World→Prop} (hgd:o.guard=none) {ty:TypeId} {x y:Operand} (ho:o.op= .store ty x y)
  {g off:Nat} {t:TypeId} {cur cells:List Value} {A:Addr} (hx:a.eval x= .pointer (some A)) (hA:A=⟨g,off,none⟩) (hy:a.eval y= .agg cells.toArray) (hb:Blk W g t cur) (hi:(P.info? ty).map (·.size)=some cells.length) (hfit:off+cells.length≤cur.length)
  (h1:∀v∈cells,v.oneCell'=true) (h:∀w',Blk w' g t (cur.take off++cells++cur.drop (off+cells.length))→Upd (One g) W w'→wpList P ops Q rest (a.put o.dst undef) w'):wpList P ops Q (o::rest) a W:=by
 subst hA
 have hst:=run_storeCells_at P g off t cells 0 cur.toArray W hb (by simpa using hfit) h1
 simp only[Nat.add_zero]at hst
 have hrun:(storeVar ty ⟨g,off,none⟩ (.agg cells.toArray)).run P W= .ok () (W.setRow g (cur.take off++cells++cur.drop (off+cells.length)).toArray):=by
  cases hq:P.info? ty with
  |none=>simp[hq]at hi
  |some i=>
   have hs:cells.length=i.size:=by simp[hq]at hi;omega
   simp[storeVar,sizeOf,typeInfo,hq,Value.cells,hs,hst]
 refine wpList_plain hgd fun _ hK=> ?_
 unfold Oper.wp execOp
 simp only[ho,hx,hy,Instr.storeAt,Instr.sureAddr,Sem.run_bind,Sem.run_pure,Result.andThen_ok,hrun]
 exact hK _ _ (h _ (ZcD hb) (Zcr _ _))
theorem Zf8 (a:Edge) (l:List Edge):ZB (a::l)=a.cells++ZB l:=rfl
theorem ZeW (l m:List Edge):ZB (l++m)=ZB l++ZB m:=by unfold ZB;simp
theorem Zf7 (l:List Edge) (i:Nat):(ZB l).take (i*4)=ZB (l.take i):=by
 rcases Nat.lt_or_ge l.length i with h|h
 ·rw[List.take_of_length_le (by rw[Za2];omega),List.take_of_length_le (by omega)]
 ·conv=>lhs;rw[←List.take_append_drop i l,ZeW]
  rw[List.take_append_of_le_length (by rw[Za2,List.length_take];omega),List.take_of_length_le (by rw[Za2,List.length_take];omega)]
theorem Zmb {xs:List Edge} {m n:Nat} {x:Edge} {cs:List Value} (hm:m<n) (hn:xs.length=n) (hc:n*4≤cs.length) (h:cs.take (n*4)=ZB xs):
  (cs.take (m*4)++x.cells++cs.drop (m*4+x.cells.length)).take (n*4)=ZB (xs.set m x):=by
 have hcs:cs=ZB xs++cs.drop (n*4):=by rw[←h,List.take_append_drop]
 have hl:x.cells.length=4:=rfl
 have hsp:xs=xs.take m++xs[m]'(by omega)::xs.drop (m+1):=by rw[←List.drop_eq_getElem_cons (by omega:m<xs.length),List.take_append_drop]
 have hset:xs.set m x=xs.take m++x::xs.drop (m+1):=by rw[List.set_eq_take_append_cons_drop,if_pos (by omega)]
 have e1:cs.take (m*4)=ZB (xs.take m):=by
  rw[←Zf7,←h,List.take_take,Nat.min_eq_left (by omega)]
 have e2:cs.drop (m*4+4)=ZB (xs.drop (m+1))++cs.drop (n*4):=by
  conv=>lhs;rw[hcs,hsp,ZeW,Zf8,←List.append_assoc]
  rw[List.append_assoc (ZB (xs.take m)++_),List.drop_append,List.drop_of_length_le (by rw[List.length_append,Za2,List.length_take];show _+4≤_;omega)]
  have:m*4+4-(ZB (List.take m xs)++(xs[m]'(by omega)).cells).length=0:=by rw[List.length_append,Za2,List.length_take];show m*4+4-(_+4)=0;omega
  rw[this]
  simp
 rw[hl,e1,e2,hset,ZeW,Zf8,←List.append_assoc,←List.append_assoc]
 rw[List.take_append_of_le_length (by simp only[List.length_append,Za2,hl,List.length_take,List.length_drop];omega),List.take_of_length_le (by simp only[List.length_append,Za2,hl,List.length_take,List.length_drop];omega)]
theorem Zgb {w:World} {g:Nat} {cs:List Value} {l:List Edge} (hb:Blk w g 61 cs) (h:cs.take (l.length*4)=ZB l):Walk (fun i=>i=g) w (some ⟨g,0,none⟩) l:=by
 intro _
 refine⟨_,rfl,rfl,hb.lt,fun i row hi j v hj=> ?_⟩
 have e1:(⟨g,0,none⟩:Addr).add (i*4+j)=⟨g,i*4+j,none⟩:=by unfold Addr.add;split<;>simp_all
 rw[e1,hb.cell]
 have h1:=ZdD (size:=4) (rows:=l.map Edge.cells) ZaD hi hj
 have h2:(cs.take (l.length*4))[i*4+j]? =some v:=by rw[h];exact h1
 rw[List.getElem?_take]at h2
 split at h2
 ·exact h2
 ·cases h2
def ZaA (l:List Edge) (mask:Int):List Edge:=l.filter fun x=> !ZaF mask x
set_option maxRecDepth 100000 in
set_option maxHeartbeats 8000000 in
theorem ZsO (w:World) (ad:Addr) (g c:Nat) (HAD:Hid (ad=⟨g,0,none⟩)) (l:List Edge) (cur:List Value) (p:Addr) (mask:Int) (hb:Blk w g 61 cur) (ht:cur.take (l.length*4)=ZB l) (hcl:cur.length=c*4) (hlc:l.length≤c) (hl:l.length≤1000000)
  (hp:w.cell? p=some (.int .i64 mask)) (hpg:p.block≠g):
  Calls Tryz.prog 59 #[.slice (some ad) l.length c,.func (.func 61) #[] #[.pointer (some p)]] w fun e w'=>e= .returned (.slice (some ad) (ZaA l mask).length c)∧(∃cs,Blk w' g 61 cs∧cs.take ((ZaA l mask).length*4)=ZB (ZaA l mask))∧Upd (One g) w w':=by
 have hW:Walk (fun i=>i=g) w (some ad) l:=by rw[HAD.out];exact Zgb hb ht
 have HI:=Lib.hid (Zrs (fun i=>i=g) w (some ad) c l p mask hW hl hp)
 by_cases hpos:ZcI l mask<l.length
 ·have hix:Zee l mask=(ZcI l mask:Int):=by unfold Zee;rw[if_pos hpos]
  rw[hix]at HI
  have hbad:ZaF mask l[ZcI l mask]=true:=List.findIdx_getElem (p:=ZaF mask) (w:=hpos)
  have hgood:∀(j:Nat) (hj:j<ZcI l mask),ZaF mask (l[j]'(by omega))=false:=fun j hj=>by
   have:=List.not_of_lt_findIdx (p:=ZaF mask) (xs:=l) hj
   simpa using this
  obtain⟨k,hk⟩:∃k,ZcI l mask=k:=⟨_,rfl⟩
  have hkl:k<l.length:=by omega
  have htk:ZaA (l.take (k+1)) mask=l.take k:=by
   unfold ZaA
   rw[List.take_succ_eq_append_getElem hkl,List.filter_append,List.filter_cons_of_neg (by rw[show ZaF mask l[k]=true by simpa[hk]using hbad];decide)]
   rw[List.filter_eq_self.2 (fun x hx=>by
    obtain⟨j,hj,rfl⟩:=List.mem_iff_getElem.1 hx
    rw[List.getElem_take,hgood j (by rw[hk];simp at hj;omega)]
    rfl)]
   simp
  have hkneg:((k:Int)== -1)=false:=by rw[beq_eq_false_iff_ne];omega
  have hkw:IntKind.i64.wrap ((k:Int)+1)=(k:Int)+1:=IntWalk.i64_in _ (by omega)
  rw[hk]at HI
  have HTK:=Lib.hid htk
  have HB:=Lib.hid hb
  have HT:=Lib.hid ht
  have HCL:=Lib.hid hcl
  clear hix hbad hgood hpos hk htk hW hb ht hcl
  go_enter Tryz.func59,Tryz.ntmps59
  go_wp2_with fail
  refine(HI.out).mono ?_
  rintro e w1 ⟨rfl,hu1⟩
  have HB1:=Lib.hid (HB.out.upd hu1 id)
  have HU1:=Lib.hid (show Upd (One g) w w1 from hu1.mono (fun _ _ e=>e.elim))
  have HXL:=Lib.hid (List.length_take_of_le (Nat.le_of_lt hkl):(l.take k).length=k)
  clear hu1
  go_wp2
  go_loopg [5,6] (l.length-(k+1)) (fun gk si sj wr=>∃(m j:Nat) (xs:List Edge) (cs:List Value),j+gk=l.length∧si= .int .i64 m∧sj= .int .i64 j∧m<j∧Hid (xs.length=l.length)∧Hid (xs.take m=ZaA (l.take j) mask∧(ZaA (l.take j) mask).length=m)∧Hid (xs.drop j=l.drop j)∧Hid (Blk wr g 61 cs)∧Hid (cs.take (l.length*4)=ZB xs∧cs.length=c*4)∧Upd (One g) w wr)
  case atStart=>exact⟨k,k+1,l,cur,by omega,rfl,by go_num,by omega,Lib.hid rfl,Lib.hid ⟨HTK.out.symm,by rw[HTK.out];exact HXL.out⟩,Lib.hid rfl,HB1,Lib.hid ⟨HT.out,HCL.out⟩,HU1.out⟩
  case round=>
   obtain⟨m,j,xs,cs,hgk,rfl,rfl,hmj,HXN,HM,HD,HBc,HCS,hu⟩:=hrel
   have i0:(0:Int)≤(m:Int):=Int.natCast_nonneg _
   by_cases hlt:j<l.length
   ·obtain⟨x,hx⟩:∃x,l[j]=x:=⟨_,rfl⟩
    have hjx:j<xs.length:=by rw[HXN.out];exact hlt
    have hxj:xs[j]=x:=by
     have h1:=List.drop_eq_getElem_cons hjx
     have h2:=List.drop_eq_getElem_cons hlt
     rw[HD.out,h2]at h1
     injection h1 with h1 _
     rw[←h1,hx]
    have hWx:Walk (fun i=>i=g) wr (some ad) xs:=by rw[HAD.out];exact Zgb HBc.out (by rw[HXN.out];exact HCS.out.1)
    obtain⟨ad',e',q0,q1,q2,q3⟩:=hWx.at_ hjx
    cases e'
    rw[hxj]at q0 q1 q2 q3
    have hDn:xs.drop (j+1)=l.drop (j+1):=by
     have h1:=List.drop_eq_getElem_cons hjx
     have h2:=List.drop_eq_getElem_cons hlt
     rw[HD.out,h2]at h1
     injection h1 with _ h1
     exact h1.symm
    have HDN:=Lib.hid hDn
    have HX:=Lib.hid hx
    have i1:(0:Int)≤(j:Int):=Int.natCast_nonneg _
    have i2:(j:Int)<(l.length:Int):=by omega
    have i3:(m:Int)<(l.length:Int):=by omega
    have hpr:=hu.keep hp hpg
    obtain⟨wx,hwx⟩:∃wx,wr.alloc (.cells #[.int .i64 x.f,.int .i64 x.t,.int .i64 x.k,.int .i64 x.key] 61)=wx:=⟨_,rfl⟩
    have ux:Upd No wr wx:=by rw[←hwx];exact(Upd.refl No wr).alloc _
    have bo:Blk wx wr.heap.size 61 [.int .i64 x.f,.int .i64 x.t,.int .i64 x.k,.int .i64 x.key]:=by rw[←hwx];exact Blk.new wr _ _
    have g0:=bo.cell 0
    have g1:=bo.cell 1
    have g2:=bo.cell 2
    have g3:=bo.cell 3
    simp only[List.getElem?_cons_zero,List.getElem?_cons_succ]at g0 g1 g2 g3
    have HC:=Lib.hid (ZpM wx p mask (ux.keepNo hpr) x)
    have BO:=Lib.hid bo
    have UX:=Lib.hid ux
    have HPR:=Lib.hid hpr
    unfold Edge.cells at HC
    clear hx hjx hxj hWx hDn bo ux hpr HD
    cases hbx:ZaF mask x
    ·rw[hbx]at HC
     have HBX:=Lib.hid hbx
     clear hbx
     go_wp2_with fail
     refine(HC.out).mono ?_
     rintro e w2 ⟨rfl,hu2⟩
     have bo2:=BO.out.upd hu2 id
     have g0:=bo2.cell 0
     have g1:=bo2.cell 1
     have g2:=bo2.cell 2
     have g3:=bo2.cell 3
     simp only[List.getElem?_cons_zero,List.getElem?_cons_succ]at g0 g1 g2 g3
     have HB2:=Lib.hid ((HBc.out.upd UX.out id).upd hu2 id)
     have HU2:=Lib.hid (hu.trans ((UX.out.trans hu2).mono (fun _ _ e=>e.elim)))
     clear hu2 HC
     go_wp2_with (refine ZkA rfl rfl (g:=g) (off:=m*4) (cells:=[.int .i64 x.f,.int .i64 x.t,.int .i64 x.k,.int .i64 x.key]) rfl (by rw[HAD.out,Zlb,Nat.zero_add]) rfl HB2.out (by kernel_rfl) (by have:=HCS.out.2;simp only[List.length_cons,List.length_nil];omega) (by intro v hv;simp only[List.mem_cons,List.not_mem_nil,or_false]at hv;rcases hv with rfl|rfl|rfl|rfl<;>rfl) ?_;intro w5 hb5 hu5)
     have hcs5:=Zmb (m:=m) (n:=l.length) (x:=x) (xs:=xs) (cs:=cs) (by omega) HXN.out (by have:=HCS.out.2;omega) HCS.out.1
     have hl5:(cs.take (m*4)++x.cells++cs.drop (m*4+x.cells.length)).length=c*4:=by
      have h4:x.cells.length=4:=rfl
      have:=HCS.out.2
      rw[List.length_append,List.length_append,List.length_take,List.length_drop,h4]
      omega
     have hgo:ZaA (l.take (j+1)) mask=ZaA (l.take j) mask++[x]:=ZnE hlt HX.out (by rw[HBX.out];rfl)
     have HB5:=Lib.hid hb5
     have HU5:=Lib.hid (HU2.out.trans hu5)
     have HC5:=Lib.hid (And.intro hcs5 hl5)
     have HG5:=Lib.hid hgo
     clear hb5 hu5 hcs5 hl5 hgo
     go_roundg (gk-1)
     case measure=>omega
     case rel=>
      refine⟨m+1,j+1,xs.set m x,_,by omega,by go_num,by go_num,by omega,Lib.hid (by rw[List.length_set];exact HXN.out),Lib.hid ⟨?_,?_⟩,Lib.hid ?_,HB5,HC5,HU5.out⟩
      ·rw[HG5.out,←HM.out.1,List.set_eq_take_append_cons_drop,if_pos (by have:=HXN.out;omega),List.take_append,List.take_of_length_le (by rw[List.length_take];omega),List.length_take,Nat.min_eq_left (by have:=HXN.out;omega),Nat.add_sub_cancel_left]
       rfl
      ·rw[HG5.out,List.length_append,HM.out.2]
       rfl
      ·rw[List.drop_set_of_lt (by omega)]
       exact HDN.out
    ·rw[hbx]at HC
     have hgo:ZaA (l.take (j+1)) mask=ZaA (l.take j) mask:=Zo8 hlt HX.out (by rw[hbx];rfl)
     have HG5:=Lib.hid hgo
     clear hbx hgo
     go_wp2_with fail
     refine(HC.out).mono ?_
     rintro e w2 ⟨rfl,hu2⟩
     have HB2:=Lib.hid ((HBc.out.upd UX.out id).upd hu2 id)
     have HU2:=Lib.hid (hu.trans ((UX.out.trans hu2).mono (fun _ _ e=>e.elim)))
     clear hu2 HC
     go_wp2
     go_roundg (gk-1)
     case measure=>omega
     case rel=>exact⟨m,j+1,xs,cs,by omega,rfl,by go_num,by omega,HXN,Lib.hid (by rw[HG5.out];exact HM.out),HDN,HB2,HCS,HU2.out⟩
   ·obtain rfl:j=l.length:=by omega
    have hA:=HAD.out
    subst hA
    have hgl:ZaA l mask=xs.take m∧(ZaA l mask).length=m:=by
     have:=HM.out
     rw[List.take_length]at this
     exact⟨this.1.symm,this.2⟩
    have HGL:=Lib.hid hgl
    have i3:(m:Int)≤(l.length:Int):=by omega
    have hci:¬c=m:=by omega
    have k1:∀W,(Instr.slice 26 (.slice (some ⟨g,0,none⟩) l.length c) (some (.int .i64 (m:Int))) none none).run Tryz.prog W= .ok (.slice (some ⟨g,m*4,none⟩) (l.length-m) (c-m)) W:=fun W=>by
     have:=Zbk (P:=Tryz.prog) (W:=W) Zbj (some ⟨g,0,none⟩) l.length c m (by omega)
     rwa [ZeY hci]at this
    have k2:∀W,(Instr.slice 26 (.slice (some ⟨g,0,none⟩) l.length c) none (some (.int .i64 (m:Int))) none).run Tryz.prog W= .ok (.slice (some ⟨g,0,none⟩) m c) W:=fun W=>by
     have:=ZcV (P:=Tryz.prog) (W:=W) Zbj (some ⟨g,0,none⟩) l.length c m (by omega)
     rwa [Zji]at this
    have HU:=Lib.hid hu
    clear hgl hu HB1 HU1 HTK HT HCL HXL HM HD
    go_wp2_with (refine Zmy rfl rfl Zbj (z:= .agg #[.int .i64 0,.int .i64 0,.int .i64 0,.int .i64 0]) (fun w=>by kernel_rfl) rfl (by intro v hv;simp[Value.cells]at hv;subst hv;rfl) (g:=g) (off:=m*4) (n:=l.length-m) rfl (by omega) HBc.out (by have:=HCS.out.2;omega) ?_;intro zs w6 hzs hB6 hu6)
    have hfin:(cs.take (m*4)++zs++cs.drop (m*4+zs.length)).take (m*4)=ZB (ZaA l mask):=by
     rw[List.append_assoc,List.take_append_of_le_length (by rw[List.length_take];have:=HCS.out.2;omega),List.take_take,Nat.min_self,HGL.out.1,←Zf7,←HCS.out.1,List.take_take,Nat.min_eq_left (by omega)]
    have HF:=Lib.hid hfin
    have HB7:=Lib.hid hB6
    have HU7:=Lib.hid (HU.out.trans hu6)
    clear hfin hB6 hu6
    go_wp2
    go_ret
    exact⟨by rw[HGL.out.2];rfl,⟨_,HB7.out,by rw[HGL.out.2];exact HF.out⟩,HU7.out⟩
 ·have hix:Zee l mask= -1:=by unfold Zee;rw[if_neg hpos]
  rw[hix]at HI
  have hall:ZaA l mask=l:=by
   unfold ZaA
   rw[List.filter_eq_self]
   intro x hx
   have h0:ZcI l mask=l.length:=by
    have:=List.findIdx_le_length (xs:=l) (p:=ZaF mask)
    unfold ZcI at hpos ⊢
    omega
   have h1:=(List.findIdx_eq_length (p:=ZaF mask) (xs:=l)).1 h0 x hx
   rw[h1]
   rfl
  have HALL:=Lib.hid hall
  have HB:=Lib.hid hb
  have HT:=Lib.hid ht
  clear hix hpos hall hW hb ht
  go_enter Tryz.func59,Tryz.ntmps59
  go_wp2_with fail
  refine(HI.out).mono ?_
  rintro e w1 ⟨rfl,hu1⟩
  go_wp2
  go_ret
  exact⟨by rw[HALL.out];rfl,⟨cur,HB.out.upd hu1 id,by rw[HALL.out];exact HT.out⟩,hu1.mono (fun _ _ e=>e.elim)⟩
end Go.Proofs.YtklmahmfmbppkaaGreat
/- Closed walks:the first of the shortest:what is called,and what is known of walks. -/
namespace Go.Proofs.YtklmahmfmbppkaaGreat
set_option linter.unusedSimpArgs false
set_option linter.unusedVariables false
open Go.RowKit
theorem ZoH {W:World} {B n:Nat} {e:TypeId} (hn:n=W.heap.size) (hB:B≤W.heap.size):(W.alloc (.cells #[] e)).ownsRow B e 4 (.slice (some ⟨n,0,none⟩) 0 0) 0 []:=by
 subst hn
 exact Z9 (World.ownsRow_made W #[] 0 (Nat.le_refl _) (by decide) rfl) hB
theorem Zoc {F:Nat→Prop} {w:World} {A:Option Addr} {l:List Edge} (h:Walk F w A l):Src w A l.length 4 (ZB l):=by
 have:=Recs.src h ZaD
 rwa [List.length_map]at this
theorem Zrv (F:Nat→Prop) (w:World) (A:Option Addr) (c:Nat) (l:List Edge) (h:Walk F w A l) (hl:l.length≤1000000):
  Calls Tryz.prog 60 #[.slice A l.length c] w (ZrE w l):=by
 have qT:∀(w:World) (a:Option Addr) (n c:Nat),(binOp .eql 26 (.slice a n c) (.slice none 0 0)).run Tryz.prog w= .ok (.bool a.isNone) w:=fun w a n c=>Lib.run_eql_slice_nil w _ _ a n c 0 0 Tryz.underlying26
 cases A with
 |none=>
  have h0:l=[]:=by
   cases l with
   |nil=>rfl
   |cons a l=>obtain⟨_,e,_⟩:=h (by simp);cases e
  subst h0
  go_enter Tryz.func60,Tryz.ntmps60
  go_wp2
  go_ret
  exact⟨none,0,rfl,World.ownsRow_nil _ _ _ _,Upd.refl _ _⟩
 |some ad=>
  have hs:=Lib.hid (h.upd ((Upd.refl No w).alloc (.cells #[] 61)) (fun _ _=>id))
  go_enter Tryz.func60,Tryz.ntmps60
  go_wp2_with (at_builtin;refine ZgI rfl rfl Zbj (base:=w.heap.size) (v:= .slice (some ⟨w.heap.size,0,none⟩) 0 0) (n:=0) (m:=l.length) (xs:=[]) rfl rfl (ZoH rfl (Nat.le_refl _)) (Zoc hs.out) Zft (by omega) (by omega) (by simp) ?_)
  intro v4 w4 hown4 hu4 hg4
  obtain⟨A4,c4,rfl⟩:=Zac hown4
  have uw4:Upd No w w4:=((Upd.refl No w).alloc _).then_ hu4 (fun j e=> .inr (Zg6 e))
  go_wp2
  go_ret
  exact⟨A4,c4,by simp,by simpa using hown4,uw4⟩
set_option maxRecDepth 100000 in
theorem Zsj (w:World) (base:Nat) (A:Option Addr) (c:Nat) (l:List Edge) (p:Addr) (mask:Int) (ho:w.ownsRow base 61 4 (.slice A l.length c) l.length (ZB l)) (hl:l.length≤1000000)
  (hp:w.cell? p=some (.int .i64 mask)) (hpb:p.block<base):
  Calls Tryz.prog 59 #[.slice A l.length c,.func (.func 61) #[] #[.pointer (some p)]] w fun e w'=>e= .returned (.slice A (ZaA l mask).length c)∧Walk (fun i=>base≤i) w' A (ZaA l mask)∧Upd (Own (.slice A l.length c)) w w':=by
 by_cases h0:l=[]
 ·subst h0
  have HI:=Lib.hid (Zrs (fun _=>True) w A c [] p mask (fun h=>absurd rfl h) (by simp) hp)
  rw[show Zee [] mask= -1 from rfl]at HI
  go_enter Tryz.func59,Tryz.ntmps59
  go_wp2_with fail
  refine(HI.out).mono ?_
  rintro e w1 ⟨rfl,hu1⟩
  go_wp2
  go_ret
  exact⟨rfl,fun h=>absurd rfl h,hu1.mono (fun _ _ e=>e.elim)⟩
 ·obtain⟨g,cur,rfl,hgb,hB,hnc,hcl,hct,hcm⟩:=Zbz ho (List.length_pos_iff.2 h0)
  refine(ZsO w ⟨g,0,none⟩ g c (Lib.hid rfl) l cur p mask hB hct hcl hnc hl hp (by omega)).mono ?_
  rintro e w' ⟨rfl,⟨cs,hb,ht⟩,hu⟩
  exact⟨rfl,Recs.weak (Zgb hb ht) (fun i _ e=>by subst e;exact hgb),hu.mono (fun i _ e=>by cases e;rfl)⟩
theorem Zn8 {N:Nat} {q:List HArc} (hr:∀a∈q,Zi N a=true) (hs:ZW q) (mask must:Int) (need:Bool) {i:Int} (h0:0≤i) (h1:i<(N:Int)) (hk:0<Z1 (ofA mask q) must i (ZU N q mask i) (Zp N q mask must i) need):
  ((ZC (ofA mask q) must i (ZU N q mask i) (Zp N q mask must i) (Z1 (ofA mask q) must i (ZU N q mask i) (Zp N q mask must i) need).toNat i need).length:Int)=Z1 (ofA mask q) must i (ZU N q mask i) (Zp N q mask must i) need:=by
 have hL:LoopD (ofA mask q) must i (ZU N q mask i) (Zp N q mask must i):=ZeO hr mask must i h0 h1
 obtain⟨c,c1,c2,c3,c4⟩:=Zjy hL need hk
 have hsp:=Zex (hs.filter _) hL (ZnX hr mask must i h0 h1) (ZkW hr mask must i h0 h1) (Z1 (ofA mask q) must i (ZU N q mask i) (Zp N q mask must i) need).toNat i need (Int.le_refl _) ⟨c,c2,by omega,c4⟩ (fun l l1 l2 l3=>by
  have:=(Zgd hL need l1 l2 l3).2
  omega)
 exact(congrArg (fun n:Nat=>(n:Int)) hsp.2.1).trans (Int.toNat_of_nonneg (Int.le_of_lt hk))
theorem Zoh {N:Nat} {q:List HArc} (hN:N≤100000) (hr:∀a∈q,Zi N a=true) (mask must:Int) (need:Bool) {i:Int} (h0:0≤i) (h1:i<(N:Int)):
  0≤Z1 (ofA mask q) must i (ZU N q mask i) (Zp N q mask must i) need∧Z1 (ofA mask q) must i (ZU N q mask i) (Zp N q mask must i) need≤1000000:=by
 have hb:=Zjz hN hr mask must i h0 h1
 have hsp:=Zb4 (ZG must (ZU N q mask i) (Zp N q mask must i) need) ((ofA mask q).filter fun a=>a.f==i) 0 (Int.le_refl _)
 refine⟨hsp.1,?_⟩
 refine Classical.byContradiction fun hc=> ?_
 have hc2:0<ZN (ZG must (ZU N q mask i) (Zp N q mask must i) need) 0 ((ofA mask q).filter fun a=>a.f==i):=by unfold Z1 at hc;omega
 rcases hsp.2.2.2 hc2 with e|⟨a,_,ha,e⟩
 ·omega
 ·have hle:ZG must (ZU N q mask i) (Zp N q mask must i) need a≤900000:=by
   unfold ZG
   split
   ·exact(hb a.t).2.2
   ·exact(hb a.t).1.2
  unfold Z1 at hc
  omega
theorem Zns (l:List Edge) (mask:Int):ZaA l (bits .and .i64 mask 14)=Ze l mask:=by
 unfold ZaA Ze
 congr 1
 funext e
 rw[ZrB,Bool.not_not]
end Go.Proofs.YtklmahmfmbppkaaGreat
