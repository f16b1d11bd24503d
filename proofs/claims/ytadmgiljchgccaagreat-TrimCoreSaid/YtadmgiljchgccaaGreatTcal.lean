/- From the form's reading of an argument to lists of cells, with the reach: structs, slices, and what lies in them. -/
import Derived.Deep.Slices
import Derived.Test.YtadmgiljchgccaaGreatTcad
namespace Go.Proofs.YtadmgiljchgccaaGreat
open Go.RowKit
set_option linter.unusedVariables false
set_option linter.unusedSimpArgs false
section
open Go.RowKit Go.ChangeShapes Go.WideShapes Go.Deep
section
variable {H:Type} (enc:Iy×Iz->H) (P:Ix) (w:I0) (base:Nat) (spare:Nat->Bool) (held:Bool)
def Rdz(t:Iy)(cs:Ip):Prop:=∃n y,DataW.trod enc P w base spare held n t cs=some y∧∀z∈y.1.weights P t,z<=reachBytes
end
section
variable {H:Type} {enc:Iy×Iz->H} {P:Ix} {w:I0} {base:Nat} {spare:Nat->Bool} {held:Bool} {t e:Iy} {cs:Ip}
theorem Zfy{d:DataW H}:∀{l:List (DataW H)},d∈l->∀n∈d.weights P e,n∈DataW.weightsAll P e l
 |x::l,h,n,hn=>by
  simp only[DataW.weightsAll,Ib];rcases Ie.1 h with rfl|h
  ·exact .inl hn
  ·exact .inr (Zfy h n hn)
 |[],h,_,_=>by simp at h
theorem Rdz.int_{k:IntKind}(ht:P.underlying t=some (.int k))(h:Rdz enc P w base spare held t cs):∃n,cs=[.int k n]∧(Lit.int k n).wf=true:=by
 obtain⟨n,y,h,_⟩:=h;obtain⟨a,rfl,_,hw⟩:=DataW.trod_int ht h;exact⟨a,rfl,hw⟩
theorem Rdz.bool_(ht:P.underlying t=some .bool)(h:Rdz enc P w base spare held t cs):∃b,cs=[.bool b]:=by
 obtain⟨n,y,h,_⟩:=h;obtain⟨a,rfl,_⟩:=DataW.trod_bool ht h;exact⟨a,rfl⟩
theorem Rdz.struct_{fs:Array Field}(ht:P.underlying t=some (.struct fs))(h:Rdz enc P w base spare held t cs):
  cs.length=P.cellsOf t∧∀(i:Nat) (f:Field),fs[i]? =some f->Rdz enc P w base spare held f.type ((cs.drop f.offset).take (P.cellsOf f.type)):=by
 obtain⟨n,y,h,hz⟩:=h;obtain⟨xs,m,_,rfl,hl,hxl,hf⟩:=DataW.trod_struct ht h;refine⟨hl,fun i f hi=>?_⟩;have cR:i<xs.length:=by rw[hxl];exact(Array.getElem?_eq_some_iff.1 hi).1
 refine⟨m,xs[i],(hf i f hi).trans (Qg cR),fun z hzz=>hz z ?_⟩;simp only[DataW.weights,ht];refine DataW.weights_mem_each (j:=i) (t:=f.type) (d:=xs[i].1) ?_ ?_ z hzz
 ·rw[List.getElem?_map,Array.getElem?_toList,hi];rfl
 ·rw[List.getElem?_map,Qg cR];rfl
theorem Rdz.slice_{C:Nat}(ht:P.underlying t=some (.slice e))(hC:P.cellsOf e=C)(Et:0<C)(h:Rdz enc P w base spare held t cs):
  cs=[.slice none 0 0]∨∃(a:Addr) (len cap:Nat) (rows:List (Ip)),cs=[.slice (some a) len cap]∧len<=cap∧cap<=maxLen∧rows.length=len∧len*P.bytesOf e<=reachBytes∧
   Recs (fun _=>True) w (some a) C rows∧∀row∈rows,row.length=C∧Rdz enc P w base spare held e row:=by
 obtain⟨n,y,h,hz⟩:=h;rcases open_slice ht h with ⟨cf,_⟩|⟨a,len,cap,m,n',D,Pl,cf,hb,hl,hm,eT,hx,hi⟩
 ·exact .inl cf
 ·right
  rw[hC]at hi;subst hx;simp only[DataW.weights,ht]at hz;have oV:len<=m:=by rw[eT];split<;>omega
  have n5:len*P.bytesOf e<=reachBytes:=by
   have:=hz _ (Gv ..);simp only[Hw,List.length_range]at this;exact Nat.le_trans (Nat.mul_le_mul_right _ (by omega)) this
  have BL:∀i:Fin len,∃row:Ip,w.cells? base (a.add (i.1*C)) C=some row∧Rdz enc P w base spare held e row:=fun i=>by
   obtain⟨cs',h1,h2⟩:=hi i.1 (by have:=i.2;omega);refine⟨cs',h1,n',_,h2,fun z hzz=>hz z (Gk _ (Gp _ (Zfy (d:=D i.1) ?_ z hzz)))⟩;exact Ih.2 ⟨i.1,Ic.2 i.2,rfl⟩
  have hf:=fun i=>Classical.choose_spec (BL i)
  generalize hg:(fun i=>Classical.choose (BL i))=f at*;have hf:∀i:Fin len,w.cells? base (a.add (i.1*C)) C=some (f i)∧Rdz enc P w base spare held e (f i):=fun i=>by rw[<-hg];exact hf i
  refine⟨a,len,cap,List.ofFn f,cf,hl,hm,by simp,n5,fun hne=>?_,fun row aK=>?_⟩
  ·have au:0<len:=by
    rcases Nat.eq_zero_or_pos len with h0|h0
    ·subst h0;simp at hne
    ·exact h0
   obtain⟨_,hl0,pQ⟩:=World.cells?_some (hf ⟨0,au⟩).1;have hv:(f ⟨0,au⟩)[0]? =some ((f ⟨0,au⟩)[0]'(by omega)):=Qg (by omega);have ft:=block_lt_of_cell ((pQ 0 Et).trans hv);simp only[Ints.block_add]at ft;refine⟨a,rfl,trivial,ft,fun i row hi' j v hj=>?_⟩;obtain⟨cR,EJ⟩:=List.getElem?_eq_some_iff.1 hi';have rz:i<len:=by simpa using cR
   have qe:f ⟨i,rz⟩=row:=by rw[<-EJ];simp
   obtain⟨_,aN,dP⟩:=World.cells?_some (hf ⟨i,rz⟩).1;have sH:=(List.getElem?_eq_some_iff.1 hj).1;rw[<-Ints.add_add,dP j (by rw[<-aN,qe];exact sH),qe];exact hj
  ·obtain⟨i,rfl⟩:=(List.mem_ofFn).1 aK;exact⟨(World.cells?_some (hf i).1).2.1,(hf i).2⟩
theorem ZfU{α:Type}{f:α->Ip}{Q:α->Prop}{rows:List (Ip)}(h:∀row∈rows,∃d,row=f d∧Q d):∃ds:List α,rows=ds.map f∧∀d∈ds,Q d:=by
 induction rows with
 |nil=>exact⟨[],rfl,fun d hd=>by simp at hd⟩
 |cons r rs ih=>
  obtain⟨d,rfl,hd⟩:=h _ (Gv ..);obtain⟨ds,rfl,Ek⟩:=ih fun row hr=>h row (Gk _ hr)
  exact⟨d::ds,rfl,fun x hx=>by
   rcases Ie.1 hx with rfl|hx
   ·exact hd
   ·exact Ek x hx⟩
end
end
/- How histories that come in read. -/
theorem cs4{l:Ip}(h:l.length=4):∃a b c d,l=[a,b,c,d]:=
 match l,h with
 |[a,b,c,d],_=>⟨a,b,c,d,rfl⟩
theorem cs3{l:Ip}(h:l.length=3):∃a b c,l=[a,b,c]:=
 match l,h with
 |[a,b,c],_=>⟨a,b,c,rfl⟩
theorem cs2{l:Ip}(h:l.length=2):∃a b,l=[a,b]:=
 match l,h with
 |[a,b],_=>⟨a,b,rfl⟩
theorem cs1{l:Ip}(h:l.length=1):∃a,l=[a]:=
 match l,h with
 |[a],_=>⟨a,rfl⟩
theorem ZvK{n:Int}(h:(Lit.int .i64 n).wf=true):i64 n:=by
 unfold i64;simp[Lit.wf,IntKind.min,IntKind.max,IntKind.signed,IntKind.bits]at h;omega
theorem Zlq:Tryz.prog.cellsOf 3=1:=by kernel_rfl
theorem ZrZ:Tryz.prog.cellsOf 4=1:=by kernel_rfl
theorem ZwO:Tryz.prog.cellsOf 66=4:=by kernel_rfl
theorem Zyy:Tryz.prog.bytesOf 66=32:=by kernel_rfl
theorem ZxU:Tryz.prog.cellsOf 37=1:=by kernel_rfl
theorem ZwM:Tryz.prog.cellsOf 39=3:=by kernel_rfl
theorem Zyx:Tryz.prog.bytesOf 39=40:=by kernel_rfl
theorem ZxT:Tryz.prog.cellsOf 22=1:=by kernel_rfl
theorem ZwP:Tryz.prog.cellsOf 27=1:=by kernel_rfl
theorem ZxW:Tryz.prog.bytesOf 3=8:=by kernel_rfl
theorem Zum:Tryz.prog.cellsOf 68=2:=by kernel_rfl
theorem ZxV:Tryz.prog.bytesOf 68=32:=by kernel_rfl
theorem ZwN:Tryz.prog.cellsOf 23=1:=by kernel_rfl
theorem ZwQ:Tryz.prog.cellsOf 25=2:=by kernel_rfl
section
variable {H:Type} {enc:Iy×Iz->H} {w:I0} {base:Nat} {spare:Nat->Bool} {held:Bool} {row:Ip}
theorem rhi{v:Iz}(h:Rdz enc Tryz.prog w base spare held 3 [v]):∃n,v= Qi n∧i64 n:=by
 obtain⟨n,e,hw⟩:=Rdz.int_ Tryz.underlying3 h
 cases e
 exact⟨n,rfl,ZvK hw⟩
theorem rhb{v:Iz}(h:Rdz enc Tryz.prog w base spare held 4 [v]):∃n,v= .bool n:=by
 obtain⟨n,e⟩:=Rdz.bool_ Tryz.underlying4 h
 cases e
 exact⟨n,rfl⟩
theorem Zx6(h:Rdz enc Tryz.prog w base spare held 66 row):∃o:HOp,row=o.cells∧o.ok:=by
 obtain⟨hl,hf⟩:=h.struct_ Tryz.underlying66;rw[ZwO]at hl;obtain⟨c0,c1,c2,c3,rfl⟩:=cs4 hl;have h0:Rdz enc Tryz.prog w base spare held 4 (([c0,c1,c2,c3].drop 0).take (Tryz.prog.cellsOf 4)):=hf 0 _ rfl;have h1:Rdz enc Tryz.prog w base spare held 3 (([c0,c1,c2,c3].drop 1).take (Tryz.prog.cellsOf 3)):=hf 1 _ rfl;have h2:Rdz enc Tryz.prog w base spare held 3 (([c0,c1,c2,c3].drop 2).take (Tryz.prog.cellsOf 3)):=hf 2 _ rfl;have h3:Rdz enc Tryz.prog w base spare held 3 (([c0,c1,c2,c3].drop 3).take (Tryz.prog.cellsOf 3)):=hf 3 _ rfl;rw[Zlq]at h1 h2 h3;rw[ZrZ]at h0;obtain⟨n0,rfl⟩:=rhb h0;obtain⟨n1,rfl,b1⟩:=rhi h1;obtain⟨n2,rfl,b2⟩:=rhi h2;obtain⟨n3,rfl,b3⟩:=rhi h3;exact⟨⟨n0,n1,n2,n3⟩,rfl,b1,b2,b3⟩
theorem Zw4{v:Iz}(h:Rdz enc Tryz.prog w base spare held 37 [v]):∃(A:OA) (c:Nat) (l:Is),v= .slice A l.length c∧HOps (fun _=>True) w A l∧l.length<=c∧Zt l.length∧∀o∈l,o.ok:=by
 rcases h.slice_ Tryz.underlying37 ZwO (by omega)with h|⟨a,len,cap,rows,hv,hl,hm,au,hz,ix,aK⟩
 ·cases h
  exact⟨none,0,[],rfl,fun h=>absurd rfl h,by simp,by unfold Zt;simp,fun e he=>by simp at he⟩
 ·cases hv
  obtain⟨l,rfl,aC⟩:=ZfU (f:=HOp.cells) (Q:=HOp.ok) fun row hr=>Zx6 (aK row hr).2
  rw[Hw]at au;subst au;rw[Zyy]at hz;unfold reachBytes at hz;exact⟨some a,cap,l,rfl,ix,hl,by unfold Zt;omega,aC⟩
theorem ZvU{v:Iz}(h:Rdz enc Tryz.prog w base spare held 27 [v]):∃(A:OA) (c:Nat) (l:Iv),v= .slice A l.length c∧Ints (fun _=>True) w A l∧l.length<=c∧l.length<=17592186044415∧∀n∈l,i64 n:=by
 rcases h.slice_ Tryz.underlying27 Zlq (by omega)with h|⟨a,len,cap,rows,hv,hl,hm,au,hz,ix,aK⟩
 ·cases h
  exact⟨none,0,[],rfl,fun h=>absurd rfl h,by simp,by simp,fun e he=>by simp at he⟩
 ·cases hv
  obtain⟨l,rfl,aC⟩:=ZfU (f:=fun n:Int=>[Value.int .i64 n]) (Q:=i64) fun row hr=>by
   obtain⟨h1,h2⟩:=aK row hr;obtain⟨a,rfl⟩:=cs1 h1;obtain⟨n,rfl,hn⟩:=rhi h2;exact⟨n,rfl,hn⟩
  rw[Hw]at au;subst au;rw[ZxW]at hz;unfold reachBytes at hz;refine⟨some a,cap,l,rfl,fun hne=>?_,hl,by omega,aC⟩;obtain⟨ad,e,hf,hb,hc⟩:=ix (by simpa using hne);refine⟨ad,e,hf,hb,fun j v hj=>?_⟩;have:=hc j [Qi v] (by rw[List.getElem?_map,hj];rfl) 0 (Qi v) rfl
  simpa using this
theorem Zx5(h:Rdz enc Tryz.prog w base spare held 39 row):∃t:HTx,row=t.cells∧t.lies (fun _=>True) w:=by
 obtain⟨hl,hf⟩:=h.struct_ Tryz.underlying39;rw[ZwM]at hl;obtain⟨c0,c1,c2,rfl⟩:=cs3 hl;have h0:Rdz enc Tryz.prog w base spare held 3 (([c0,c1,c2].drop 0).take (Tryz.prog.cellsOf 3)):=hf 0 _ rfl;have h1:Rdz enc Tryz.prog w base spare held 4 (([c0,c1,c2].drop 1).take (Tryz.prog.cellsOf 4)):=hf 1 _ rfl;have h2:Rdz enc Tryz.prog w base spare held 37 (([c0,c1,c2].drop 2).take (Tryz.prog.cellsOf 37)):=hf 2 _ rfl;rw[Zlq]at h0;rw[ZrZ]at h1;rw[ZxU]at h2;obtain⟨n0,rfl,b0⟩:=rhi h0;obtain⟨n1,rfl⟩:=rhb h1;obtain⟨A,c,l,rfl,hh,hc,hs,aC⟩:=Zw4 h2;exact⟨⟨n0,n1,l,A,c⟩,rfl,hh,hc,hs,b0,aC⟩
theorem Zw3(h:Rdz enc Tryz.prog w base spare held 68 row):∃o:HOrd,row=o.cells∧o.lies (fun _=>True) w:=by
 obtain⟨hl,hf⟩:=h.struct_ Tryz.underlying68;rw[Zum]at hl;obtain⟨c0,c1,rfl⟩:=cs2 hl;have h0:Rdz enc Tryz.prog w base spare held 3 (([c0,c1].drop 0).take (Tryz.prog.cellsOf 3)):=hf 0 _ rfl;have h1:Rdz enc Tryz.prog w base spare held 27 (([c0,c1].drop 1).take (Tryz.prog.cellsOf 27)):=hf 1 _ rfl;rw[Zlq]at h0;rw[ZwP]at h1;obtain⟨n0,rfl,b0⟩:=rhi h0;obtain⟨A,c,l,rfl,hh,hc,hs,aC⟩:=ZvU h1;exact⟨⟨n0,l,A,c⟩,rfl,hh,hc,hs,b0,aC⟩
theorem Zw5(h:Rdz enc Tryz.prog w base spare held 25 row):∃x:Hist,row=x.cells∧x.lies (fun _=>True) w:=by
 obtain⟨hl,hf⟩:=h.struct_ Tryz.underlying25;rw[ZwQ]at hl;obtain⟨c0,c1,rfl⟩:=cs2 hl;have h0:Rdz enc Tryz.prog w base spare held 22 (([c0,c1].drop 0).take (Tryz.prog.cellsOf 22)):=hf 0 _ rfl;have h1:Rdz enc Tryz.prog w base spare held 23 (([c0,c1].drop 1).take (Tryz.prog.cellsOf 23)):=hf 1 _ rfl;rw[ZxT]at h0;rw[ZwN]at h1;clear hl
 have q0:∃(A:OA) (c:Nat) (l:List HTx),c0= .slice A l.length c∧Recs (fun _=>True) w A 3 (l.map HTx.cells)∧l.length<=c∧l.length<=4398046511103∧∀t∈l,t.lies (fun _=>True) w:=by
  have CV:Rdz enc Tryz.prog w base spare held 22 [c0]:=h0;rcases CV.slice_ Tryz.underlying22 ZwM (by omega)with h|⟨a,len,cap,rows,hv,hl,hm,au,hz,ix,aK⟩
  ·cases h
   exact⟨none,0,[],rfl,fun h=>absurd rfl h,by simp,by simp,fun e he=>by simp at he⟩
  ·cases hv
   obtain⟨l,rfl,aC⟩:=ZfU (f:=HTx.cells) (Q:=fun t=>t.lies (fun _=>True) w) fun row hr=>Zx5 (aK row hr).2
   rw[Hw]at au;subst au;rw[Zyx]at hz;unfold reachBytes at hz;exact⟨some a,cap,l,rfl,ix,hl,by omega,aC⟩
 have q1:∃(A:OA) (c:Nat) (l:List HOrd),c1= .slice A l.length c∧Recs (fun _=>True) w A 2 (l.map HOrd.cells)∧l.length<=c∧l.length<=4398046511103∧∀t∈l,t.lies (fun _=>True) w:=by
  have Di:Rdz enc Tryz.prog w base spare held 23 [c1]:=h1;rcases Di.slice_ Tryz.underlying23 Zum (by omega)with h|⟨a,len,cap,rows,hv,hl,hm,au,hz,ix,aK⟩
  ·cases h
   exact⟨none,0,[],rfl,fun h=>absurd rfl h,by simp,by simp,fun e he=>by simp at he⟩
  ·cases hv
   obtain⟨l,rfl,aC⟩:=ZfU (f:=HOrd.cells) (Q:=fun t=>t.lies (fun _=>True) w) fun row hr=>Zw3 (aK row hr).2
   rw[Hw]at au;subst au;rw[ZxV]at hz;unfold reachBytes at hz;exact⟨some a,cap,l,rfl,ix,hl,by omega,aC⟩
 obtain⟨A,c,l,rfl,r1,r2,r3,r4⟩:=q0;obtain⟨B,d,m,rfl,s1,s2,s3,s4⟩:=q1;exact⟨⟨l,m,A,c,B,d⟩,rfl,r1,s1,r4,s4,r2,s2,r3,s3⟩
end
