/- Edges of a history: maps that count. -/
import Derived.Test.YtbefgiboikfojaaGreatRcba
namespace Go.Proofs.YtbefgiboikfojaaGreat
open Go.RowKit
set_option linter.unusedVariables false
set_option linter.unusedSimpArgs false
set_option maxRecDepth 100000
set_option maxHeartbeats 8000000
theorem Zor(w:Gy)(x y:Edge):(Op.equal 94 (Zad x) (Zad y)).run Tryz.prog w= .ok (decide (x=y)) w:=by
 obtain⟨a,b,c,d⟩:=x;obtain⟨a',b',c',d'⟩:=y;unfold Zad
 show(Op.equalIn 10000 _ _ _).run _ w=_
 rw[run_equalIn_struct w _ _ _ _ (by kernel_rfl) (by kernel_rfl)];have hI:∀(w:Gy) (d:Nat) (x y:Int),(Op.equalIn (d+1) 3 (Qi x) (Qi y)).run Tryz.prog w= .ok (x==y) w:=fun w d x y=>run_equalIn_int w d _ _ _ x y Tryz.underlying3
 by_cases h1:a=a'<;>by_cases h2:b=b'<;>by_cases h3:c=c'<;>by_cases h4:d=d'<;>
  simp[Program.fieldsOf,Tryz.underlying94,Op.eqFields,part,hI,h1,h2,h3,h4,Result.andThen]
theorem Zos(w:Gy)(e:Bool)(p:Edge):(Instr.checkKey e 10000 94 (Zad p)).run Tryz.prog w= .ok () w:=by
 show(Instr.checkKey e (9998+1+1) _ _).run _ w=_
 generalize 9998=d;have hI:∀(w:Gy) (x:Int),(Instr.checkKey e (d+1) 3 (Qi x)).run Tryz.prog w= .ok () w:=fun w x=>by unfold Instr.checkKey;simp[run_underlying Tryz.underlying3]
 unfold Instr.checkKey Zad;simp[run_underlying Tryz.underlying94,<-Array.forIn_toList,part,hI,Result.andThen]
theorem Zb5:KeyBy Tryz.prog 94 Zad:=KeyBy.agg_ Tryz.underlying94 (fun a=>⟨_,rfl⟩) Zos (fun a=>by simp[Zad,Instr.sameBits]) Zor
/- Edges of a history:what is looked up in it once. -/
def ZW(txs:List HTx):Gv:=(txs.filter (·.done)).map (·.id)
def ZbU(id:Int)(l:Gu):List (Int×Int):=(l.filter fun o=> !o.read).map fun o=>(id,o.key)
def Zo(txs:List HTx):List (Int×Int):=(txs.filter (·.done)).flatMap fun t=>ZbU t.id t.ops
def Za6(key a:Int):Gv->List ((Int×Int)×Int)
 |[]=>[]
 |x::l=>((key,a),x)::Za6 key x l
def ZK(ords:Gq):List ((Int×Int)×Int):=ords.flatMap fun o=>Za6 o.key 0 o.txs
def Zak(L:List ((Int×Int)×Int))(p:Int×Int):Int:=L.foldl (fun a e=>if e.1=p then e.2 else a) 0
theorem Zn9(L:List ((Int×Int)×Int))(p q:Int×Int)(x:Int):Zak (L++[(p,x)]) q=if p=q then x else Zak L q:=by
 unfold Zak;rw[List.foldl_append];rfl
theorem Zow{txs:List HTx}{k:Nat}{x:HTx}(hk:k<txs.length)(hx:txs[k]=x):ZW (txs.take (k+1))=ZW (txs.take k)++if x.done then [x.id] else []:=by
 subst hx;unfold ZW;rw[Es hk,List.filter_append,F4]
 cases h:txs[k].done<;>simp[h]
theorem Zlg{txs:List HTx}{k:Nat}{x:HTx}(hk:k<txs.length)(hx:txs[k]=x):Zo (txs.take (k+1))=Zo (txs.take k)++if x.done then ZbU x.id x.ops else []:=by
 subst hx;unfold Zo;rw[Es hk,List.filter_append,List.flatMap_append]
 cases h:txs[k].done<;>simp[h]
theorem ZoY{l:Gu}{k:Nat}{x:HOp}(id:Int)(hk:k<l.length)(hx:l[k]=x):ZbU id (l.take (k+1))=ZbU id (l.take k)++if x.read then [] else [(id,x.key)]:=by
 subst hx;unfold ZbU;rw[Es hk,List.filter_append,F4]
 cases h:l[k].read<;>simp[h]
theorem ZmR{ords:Gq}{k:Nat}{x:HOrd}(hk:k<ords.length)(hx:ords[k]=x):ZK (ords.take (k+1))=ZK (ords.take k)++Za6 x.key 0 x.txs:=by
 subst hx;unfold ZK;rw[Es hk,List.flatMap_append];simp
def Ze5(a:Int):Gv->Int
 |[]=>a
 |x::l=>Ze5 x l
theorem Zi6:∀(l:Gv) (a:Int) {k:Nat} {x:Int} (hk:k<l.length),l[k]=x->Ze5 a (l.take (k+1))=x
 |y::l,a,0,x,_,hx=>by simp at hx;subst hx;simp[Ze5]
 |y::l,a,k+1,x,hk,hx=>by
  rw[List.take_succ_cons];exact Zi6 l y (by simpa using hk) (by simpa using hx)
theorem ZhD:∀(l:Gv) (key a:Int) {k:Nat} {x:Int} (hk:k<l.length),l[k]=x->Za6 key a (l.take (k+1))=Za6 key a (l.take k)++[((key,Ze5 a (l.take k)),x)]
 |y::l,key,a,0,x,_,hx=>by simp at hx;subst hx;simp[Za6,Ze5]
 |y::l,key,a,k+1,x,hk,hx=>by
  rw[List.take_succ_cons,List.take_succ_cons]
  show((key,a),y)::Za6 key y (l.take (k+1))=((key,a),y)::Za6 key y (l.take k)++_
  rw[ZhD l key y (by simpa using hk) (by simpa using hx)];rfl
def DoneM(m:List (Int×Gz))(L:Gv):Prop:=∀i,(Zac m i).getD (Qi 0)= Qi (if i∈L then 1 else 0)
def NxtM(m:List ((Int×Int)×Gz))(L:List ((Int×Int)×Int)):Prop:=∀p,(Zac m p).getD (Qi 0)= Qi (Zak L p)
theorem DoneM.put{m:List (Int×Gz)}{L:Gv}(h:DoneM m L)(x:Int):DoneM (ZL m x (Qi 1)) (L++[x]):=fun i=>by
 rw[Zdj]
 by_cases e:i=x
 ·subst e;simp
 ·rw[if_neg e,h i];simp[e]
theorem NxtM.put{m:List ((Int×Int)×Gz)}{L:List ((Int×Int)×Int)}(h:NxtM m L)(p:Int×Int)(x:Int):NxtM (ZL m p (Qi x)) (L++[(p,x)]):=fun q=>by
 rw[Zdj,Zn9]
 by_cases e:q=p
 ·subst e;rw[if_pos rfl,if_pos rfl];rfl
 ·rw[if_neg e,if_neg (fun h=>e h.symm),h q]
def ZA{α:Type}[DecidableEq α](L:List α)(a:α):Nat:=(L.filter fun x=>decide (x=a)).length
theorem ZkY{α:Type}[DecidableEq α](L:List α)(a x:α):ZA (L++[a]) x=if x=a then ZA L a+1 else ZA L x:=by
 unfold ZA;rw[List.filter_append,Fb]
 by_cases e:x=a
 ·subst e;rw[if_pos rfl,List.filter_cons_of_pos (by simp)];rfl
 ·rw[if_neg e,List.filter_cons_of_neg (by simpa using fun h=>e h.symm)];rfl
theorem ZjS{α:Type}[DecidableEq α](L:List α)(x:α):ZA L x<=L.length:=E3 _ _
theorem ZaZ{α:Type}[DecidableEq α](L M:List α)(x:α):ZA (L++M) x=ZA L x+ZA M x:=by unfold ZA;rw[List.filter_append,Fb]
def Zx(bd bl bx:Nat):Nat->Prop:=fun i=>i=bd∨i=bl∨i=bx
structure FindW (w:World) (fb bd bl bx:Nat) (txs:List HTx) (ords:List HOrd) (A:OA) (c:Nat) (B:OA) (d:Nat) (md:List (Int×Value)) (ml mx:List ((Int×Int)×Value)) (LD:List Int) (LW:List (Int×Int)) (LN:List ((Int×Int)×Int)):Prop where
 blk:Blk w fb 184 [.slice A txs.length c,.slice B ords.length d,.map (some bd),.map (some bl),.map (some bx)]
 md_:MapE w bd (fun n:Int=>Value.int .i64 n) md
 ml_:MapE w bl Zij ml
 mx_:MapE w bx Zij mx
 dm:DoneM md LD
 lm:CntM ml (ZA LW)
 nm:NxtM mx LN
 a1:fb≠bd∧fb≠bl∧fb≠bx
 a2:bd≠bl∧bd≠bx∧bl≠bx
theorem FindW.upd{S:Gt}{w w':Gy}{fb bd bl bx:Nat}{txs:List HTx}{ords:Gq}{A:OA}{c:Nat}{B:OA}{d:Nat}{md:List (Int×Gz)}{ml mx:List ((Int×Int)×Gz)}{LD:Gv}{LW:List (Int×Int)}{LN:List ((Int×Int)×Int)}
  (h:FindW w fb bd bl bx txs ords A c B d md ml mx LD LW LN) (k:Upd S w w') (h1:¬S fb) (h2:¬S bd) (h3:¬S bl) (h4:¬S bx):FindW w' fb bd bl bx txs ords A c B d md ml mx LD LW LN:=
 ⟨h.blk.upd k h1,h.md_.upd k h2,h.ml_.upd k h3,h.mx_.upd k h4,h.dm,h.lm,h.nm,h.a1,h.a2⟩
/- Edges of a history:dsg.look is walked. -/
def ZuP(w:Gy)(txs:List HTx)(ords:Gq)(A:OA)(c:Nat)(B:OA)(d:Nat)(e:Ending)(w':Gy):Prop:=
 ∃fb bd bl bx md ml mx,e= .returned (.pointer (some ⟨fb,0,none⟩))∧FindW w' fb bd bl bx txs ords A c B d md ml mx (ZW txs) (Zo txs) (ZK ords)∧(w.heap.size<=fb∧w.heap.size<=bd∧w.heap.size<=bl∧w.heap.size<=bx)∧Upd No w w'
theorem ZvK(F:Gt)(w:Gy)(txs:List HTx)(ords:Gq)(A:OA)(c:Nat)(B:OA)(d:Nat)(H:Hist.lies F w ⟨txs,ords,A,c,B,d⟩)(n1:txs.length<=4096)(n2:∀t∈txs,t.ops.length<=4095):
  Calls Tryz.prog 79 #[.agg #[.slice A txs.length c,.slice B ords.length d]] w (ZuP w txs ords A c B d):=by
 have e8:= @run_makeMap Tryz.prog;have HH:=Qh H;have n3:ords.length<=4398046511103:=H.fewo;obtain⟨z,hz⟩:=Qe w.heap.size;obtain⟨w1,au⟩:=Qe (w.alloc (.cells #[.slice A txs.length c,.slice B ords.length d] 29));have s1:w1.heap.size=z+1:=by rw[<-au,<-hz];simp
 obtain⟨w2,cH⟩:=Qe (w1.alloc (.map #[] 0));have s2:w2.heap.size=z+1+1:=by rw[<-cH,<-s1];simp
 obtain⟨w3,fe⟩:=Qe (w2.alloc (.map #[] 0));have s3:w3.heap.size=z+1+1+1:=by rw[<-fe,<-s2];simp
 obtain⟨w4,eq⟩:=Qe (w3.alloc (.map #[] 0));have s4:w4.heap.size=z+1+1+1+1:=by rw[<-eq,<-s3];simp
 obtain⟨wb,ah⟩:=Qe (w4.alloc (.cells #[.slice A txs.length c,.slice B ords.length d,.map (some (z+1)),.map (some (z+1+1)),.map (some (z+1+1+1))] 184));have u1:Upd No w w1:=by rw[<-au];exact(Gg No w).alloc _
 have u2:Upd No w1 w2:=by rw[<-cH];exact(Gg No w1).alloc _
 have u3:Upd No w2 w3:=by rw[<-fe];exact(Gg No w2).alloc _
 have u4:Upd No w3 w4:=by rw[<-eq];exact(Gg No w3).alloc _
 have u5:Upd No w4 wb:=by rw[<-ah];exact(Gg No w4).alloc _
 have m2:MapE w2 (z+1) (fun n:Int=>Value.int .i64 n) []:=by rw[<-cH,<-s1];exact MapE.new w1 _
 have m3:MapE w3 (z+1+1) Zij []:=by rw[<-fe,<-s2];exact MapE.new w2 _
 have m4:MapE w4 (z+1+1+1) Zij []:=by rw[<-eq,<-s3];exact MapE.new w3 _
 have bF:Blk wb (z+1+1+1+1) 184 [.slice A txs.length c,.slice B ords.length d,.map (some (z+1)),.map (some (z+1+1)),.map (some (z+1+1+1))]:=by rw[<-ah,<-s4];exact Gh w4 _ _
 have bH1:Blk w1 z 29 [.slice A txs.length c,.slice B ords.length d]:=by rw[<-au,<-hz];exact Gh w _ _
 have bH:Blk wb z 29 [.slice A txs.length c,.slice B ords.length d]:=(((bH1.upd u2 id).upd u3 id).upd u4 id).upd u5 id;obtain⟨g0,g1⟩:=bH1.c2
 have HF:Hid (FindW wb (z+1+1+1+1) (z+1) (z+1+1) (z+1+1+1) txs ords A c B d [] [] [] [] [] []):=Qh
  ⟨bF,((m2.upd u3 id).upd u4 id).upd u5 id,(m3.upd u4 id).upd u5 id,m4.upd u5 id,fun i=>by rw[ZdM];simp,CntM.new.congr (fun p=>rfl),fun p=>by rw[ZdM];rfl,⟨by omega,by omega,by omega⟩,⟨by omega,by omega,by omega⟩⟩
 have HU:=Qh ((((u1.trans u2).trans u3).trans u4).trans u5);have zZ:=Qh bH;have HZ:=Qh hz;clear u1 u2 u3 u4 u5 m2 m3 m4 bF bH bH1 H;go_enter Tryz.func79,Tryz.ntmps79;have h0:∀W,Upd (Zx (z+1) (z+1+1) (z+1+1+1)) wb W->W.cell? ⟨z,0,none⟩=some (.slice A txs.length c):=fun W u=>by have:=(zZ.out.upd u (by unfold Zx;omega)).cell 0;simpa using this
 have h1:∀W,Upd (Zx (z+1) (z+1+1) (z+1+1+1)) wb W->W.cell? ⟨z,1,none⟩=some (.slice B ords.length d):=fun W u=>by have:=(zZ.out.upd u (by unfold Zx;omega)).cell 1;simpa using this
 have hbz:Upd (Zx (z+1) (z+1+1) (z+1+1+1)) wb wb:=Gg _ _;go_wp2;clear e8 g0 g1 au cH fe eq ah hz;obtain⟨bd,k8⟩:=Qe (z+1);obtain⟨bl,cf⟩:=Qe (z+1+1);obtain⟨bx,hbx⟩:=Qe (z+1+1+1);obtain⟨fb,s6⟩:=Qe (z+1+1+1+1);rw[s6,hbx,cf,k8]at HF;rw[hbx,cf,k8]at h0 h1 hbz;rw[s6];have sM:=Qh (show w.heap.size<=fb∧w.heap.size<=bd∧w.heap.size<=bl∧w.heap.size<=bx by have:=HZ.out;omega);have iJ:=Qh (show∀i,Zx bd bl bx i->w.heap.size<=i from fun i e=>by have:=sM.out;unfold Zx at e;omega);clear k8 cf hbx s6 s1 s2 s3 s4
 go_loopg [22] txs.length (fun gk i wr=>∃(k:Nat) (md:List (Int×Gz)) (ml:List ((Int×Int)×Gz)),k+gk=txs.length∧i= Qi k∧Hid (FindW wr fb bd bl bx txs ords A c B d md ml [] (ZW (txs.take k)) (Zo (txs.take k)) [])∧Hid ((Zo (txs.take k)).length<=4095*k)∧Upd (Zx bd bl bx) wb wr)
 case atStart=>exact⟨0,[],[],by omega,rfl,HF,Qh (by simp[Zo]),hbz⟩
 case round=>
  clear HF;obtain⟨k,md,ml,aK,rfl,hf,oq,hu⟩:=hrel;have dz:=HU.out.then_ hu (fun i e=>Or.inr (iJ.out i e))
  by_cases hlt:k<txs.length
  ·have H1:=HH.out.upd dz Qo;obtain⟨ad,aA,q0,q1,q2⟩:=H1.tx_at hlt;simp only at aA q0 q1 q2;have a7:=n2 _ (Fr hlt);have aQ:=HH.out.tx txs[k] (Fr hlt);obtain⟨⟨xi,xd,xo,xA,xc⟩,hx⟩:∃x,txs[k]=x:=⟨_,rfl⟩;rw[hx]at q0 q1 q2 a7 aQ;simp only at q0 q1 q2 a7;subst aA;have kf:Hid (HOps F w xA xo):=Qh aQ.1;have b1:(0:Int)<=(k:Int):=Qn _;have b2:(k:Int)<(txs.length:Int):=by omega
   obtain⟨wx,aJ⟩:=Qe (wr.alloc (.cells #[Qi xi,.bool xd,.slice xA xo.length xc] 53));have ux:Upd No wr wx:=by rw[<-aJ];exact(Gg No wr).alloc _
   have bo:Blk wx wr.heap.size 53 [Qi xi,.bool xd,.slice xA xo.length xc]:=by rw[<-aJ];exact Gh wr _ _
   have oD:=Qh (show fb<wr.heap.size∧bd<wr.heap.size∧bl<wr.heap.size∧bx<wr.heap.size by exact⟨hf.out.blk.lt,hf.out.md_.lt,hf.out.ml_.lt,hf.out.mx_.lt⟩);have FX:=Qh (hf.out.upd ux id id id id);have aX:=Qh (hu.trans (ux.mono (fun _ _ e=>e.elim)));have ta:=Qh (dz.trans ux);have t0:∀W,Upd (Zx bd bl bx) wx W->W.cell? ⟨wr.heap.size,0,none⟩=some (Qi xi):=fun W u=>by have:=(bo.upd u (by have:=oD.out;unfold Zx;omega)).cell 0;simpa using this
   have t1:∀W,Upd (Zx bd bl bx) wx W->W.cell? ⟨wr.heap.size,1,none⟩=some (.bool xd):=fun W u=>by have:=(bo.upd u (by have:=oD.out;unfold Zx;omega)).cell 1;simpa using this
   have t2:∀W,Upd (Zx bd bl bx) wx W->W.cell? ⟨wr.heap.size,2,none⟩=some (.slice xA xo.length xc):=fun W u=>by have:=(bo.upd u (by have:=oD.out;unfold Zx;omega)).cell 2;simpa using this
   have f2:∀W,Upd (Zx bd bl bx) wx W->W.cell? ⟨fb,2,none⟩=some (.map (some bd)):=fun W u=>by have:=(FX.out.blk.upd u (by have:=FX.out.a1;unfold Zx;omega)).cell 2;simpa using this
   have bP:Upd (Zx bd bl bx) wx wx:=Gg _ _;have HX:=Qh hx;have HD:=Qh (Zow hlt hx);have HW:=Qh (Zlg hlt hx);simp only at HD HW;clear hx bo H1 ux dz aQ
   cases xd
   ·have HN:=Qh (show FindW wx fb bd bl bx txs ords (some ad) c B d md ml [] (ZW (txs.take (k+1))) (Zo (txs.take (k+1))) [] by rw[HD.out,HW.out];simpa using FX.out);have Ds:=Qh (show(Zo (txs.take (k+1))).length<=4095*(k+1) by rw[HW.out];have:=oq.out;simp;omega);go_wp2;go_roundg (gk-1);exact⟨k+1,md,ml,by omega,by go_num,HN,Ds,aX.out⟩;omega
   ·have cy:MapE wx.drew bd (fun n:Int=>Value.int .i64 n) md:=FX.out.md_;obtain⟨w5,rK,iA,hu5⟩:=ZfK ZeI Tryz.underlying181 cy xi (Qi 1);have aY:Upd (Zx bd bl bx) wx w5:=(hu5.of_drew).mono (fun i _ e=>Or.inl e)
    have F5:Hid (FindW w5 fb bd bl bx txs ords (some ad) c B d (ZL md xi (Qi 1)) ml [] (ZW (txs.take (k+1))) (Zo (txs.take k)) []):=Qh (by
     have h:=FX.out;have h5:=hu5.of_drew;exact⟨h.blk.upd h5 (by have:=h.a1;unfold One;omega),iA,h.ml_.upd h5 (by have:=h.a2;unfold One;omega),h.mx_.upd h5 (by have:=h.a2;unfold One;omega),by rw[HD.out];exact h.dm.put xi,h.lm,h.nm,h.a1,h.a2⟩)
    clear cy iA hu5;go_wp2
    go_region_held3 (fun W'=>Upd (Zx bd bl bx) wx W') (first|exact bP.drew|exact aY) (fail)
    clear rK;obtain⟨wo,dR⟩:∃wo,wo=wr:=⟨_,rfl⟩;subst dR;generalize gk=GK at*;go_wp2
    go_loopg [38] xo.length (fun gj i wr=>∃(j:Nat) (m2:List ((Int×Int)×Gz)),j+gj=xo.length∧i= Qi j∧Hid (FindW wr fb bd bl bx txs ords (some ad) c B d (ZL md xi (Qi 1)) m2 [] (ZW (txs.take (k+1))) (Zo (txs.take k)++ZbU xi (xo.take j)) [])∧Hid ((Zo (txs.take k)++ZbU xi (xo.take j)).length<=4095*k+j)∧Upd (Zx bd bl bx) wx wr)
    case atStart=>exact⟨0,ml,by omega,rfl,Qh (by have:=F5.out;simpa[ZbU]using this),Qh (by have:=oq.out;simpa[ZbU]using this),aY⟩
    case round=>
     clear F5 aY;obtain⟨j,m2,iK,rfl,jK,aN,hu2⟩:=hrel;have fI:=ta.out.then_ hu2 (fun i e=>Or.inr (iJ.out i e))
     by_cases hltj:j<xo.length
     ·obtain⟨ad2,aT,p0,p1,p2,p3⟩:=(kf.out.upd fI Qo).at_ hltj;obtain⟨⟨yr,yk,yt,yn⟩,hy⟩:∃y,xo[j]=y:=⟨_,rfl⟩;rw[hy]at p0 p1 p2 p3;simp only at p0 p1 p2 p3;subst aT;have c1:(0:Int)<=(j:Int):=Qn _;have c2:(j:Int)<(xo.length:Int):=by omega
      obtain⟨wy,gt⟩:=Qe (wr.alloc (.cells #[.bool yr,Qi yk,Qi yt,Qi yn] 50));have uy:Upd No wr wy:=by rw[<-gt];exact(Gg No wr).alloc _
      have bo:Blk wy wr.heap.size 50 [.bool yr,Qi yk,Qi yt,Qi yn]:=by rw[<-gt];exact Gh wr _ _
      have yV:=Qh (show fb<wr.heap.size∧bd<wr.heap.size∧bl<wr.heap.size∧bx<wr.heap.size by exact⟨jK.out.blk.lt,jK.out.md_.lt,jK.out.ml_.lt,jK.out.mx_.lt⟩);have FY:=Qh (jK.out.upd uy id id id id);have fX:=Qh (hu2.trans (uy.mono (fun _ _ e=>e.elim)));have o0:∀W,Upd (Zx bd bl bx) wy W->W.cell? ⟨wr.heap.size,0,none⟩=some (.bool yr):=fun W u=>by have:=(bo.upd u (by have:=yV.out;unfold Zx;omega)).cell 0;simpa using this
      have o1:∀W,Upd (Zx bd bl bx) wy W->W.cell? ⟨wr.heap.size,1,none⟩=some (Qi yk):=fun W u=>by have:=(bo.upd u (by have:=yV.out;unfold Zx;omega)).cell 1;simpa using this
      have t0y:∀W,Upd (Zx bd bl bx) wy W->W.cell? ⟨wo.heap.size,0,none⟩=some (Qi xi):=fun W u=>t0 W (fX.out.trans u)
      have f3:∀W,Upd (Zx bd bl bx) wy W->W.cell? ⟨fb,3,none⟩=some (.map (some bl)):=fun W u=>by have:=(FY.out.blk.upd u (by have:=FY.out.a1;unfold Zx;omega)).cell 3;simpa using this
      have lY:Upd (Zx bd bl bx) wy wy:=Gg _ _;have qz:=Qh (ZoY xi hltj hy);simp only at qz;clear hy bo uy fI
      cases yr
      ·have cy:MapE wy.drew bl Zij m2:=FY.out.ml_;obtain⟨N,hN⟩:=Qe (ZA (Zo (txs.take k)++ZbU xi (xo.take j)) (xi,yk));have bj:(Zac m2 (xi,yk)).getD (Qi 0)= Qi (N:Int):=by rw[FY.out.lm.val,hN]
       have sF:N<=20000000:=by have:=aN.out;have h1:=ZjS (Zo (txs.take k)++ZbU xi (xo.take j)) (xi,yk);rw[hN]at h1;omega
       obtain⟨st,w6,e2,fd,hu6,ag⟩:=Zdg ZeB Tryz.underlying182 ZaN cy (xi,yk);have e1:=ZO ZeB Tryz.underlying182 ZaN cy.is (xi,yk);have e3:=ZO ZeB Tryz.underlying182 ZaN fd.is (xi,yk);rw[Zam,Option.getD_some]at e3;rw[bj]at e1 e2 e3;obtain⟨w7,e4,jv,hu7⟩:=ag (Qi ((N:Int)+1));change (Instr.lookup 182 (.map (some bl)) (.agg #[Qi xi,Qi yk]) false).run Tryz.prog wy.drew= .ok (Qi N) wy.drew at e1;change (Instr.lookup 182 (.map (some bl)) (.agg #[Qi xi,Qi yk]) false).run Tryz.prog w6= .ok (Qi N) w6 at e3;change (Instr.mapEntry 182 (.map (some bl)) (.agg #[Qi xi,Qi yk])).run Tryz.prog wy.drew= .ok (.tuple #[Qi N,Qi st]) w6 at e2;change (Instr.entryStore 182 (.map (some bl)) (Qi st) (Qi ((N:Int)+1))).run Tryz.prog w6= .ok () w7 at e4;have de:Upd (Zx bd bl bx) wy w6:=(hu6.of_drew).mono (fun i _ e=>Or.inr (Or.inl e));have fp:Upd (Zx bd bl bx) wy w7:=(hu7.of_drew).mono (fun i _ e=>Or.inr (Or.inl e))
       have F7:Hid (FindW w7 fb bd bl bx txs ords (some ad) c B d (ZL md xi (Qi 1)) (ZL m2 (xi,yk) (Qi ((N:Int)+1))) [] (ZW (txs.take (k+1))) (Zo (txs.take k)++ZbU xi (xo.take (j+1))) []):=Qh (by
        have h:=FY.out;have h5:=hu7.of_drew;refine⟨h.blk.upd h5 (by have:=h.a1;unfold One;omega),h.md_.upd h5 (by have:=h.a2;unfold One;omega),jv,h.mx_.upd h5 (by have:=h.a2;unfold One;omega),h.dm,?_,h.nm,h.a1,h.a2⟩;have h8:=h.lm.put (xi,yk) (N+1) (by omega);rw[qz.out];refine CntM.congr (show CntM _ _ from h8) (fun p=>?_);simp only[Bool.false_eq_true,if_false];rw[<-Fg,ZkY,hN])
       have p9:=Qh (show(Zo (txs.take k)++ZbU xi (xo.take (j+1))).length<=4095*k+(j+1) by rw[qz.out];have:=aN.out;simp at this ⊢;omega);clear cy hN bj ag fd jv hu6 hu7;have gH:IntKind.i64.wrap ((N:Int)+1)=(N:Int)+1:=IntWalk.i64_in _ (by omega);go_wp2
       go_region_held3 (fun W'=>Upd (Zx bd bl bx) wy W') (first|exact lY.drew|exact de|exact fp) (fail)
       all_goals
        clear e1 e2 e3 e4 gH;go_wp2;go_roundg (gk-1);exact⟨j+1,_,by omega,by go_num,F7,p9,fX.out.trans fp⟩;omega
      ·have F7:=Qh (show FindW wy fb bd bl bx txs ords (some ad) c B d (ZL md xi (Qi 1)) m2 [] (ZW (txs.take (k+1))) (Zo (txs.take k)++ZbU xi (xo.take (j+1))) [] by rw[qz.out];simpa using FY.out);have p9:=Qh (show(Zo (txs.take k)++ZbU xi (xo.take (j+1))).length<=4095*k+(j+1) by rw[qz.out];have:=aN.out;simp at this ⊢;omega);go_wp2;go_roundg (gk-1);exact⟨j+1,m2,by omega,by go_num,F7,p9,fX.out⟩;omega
     ·obtain rfl:j=xo.length:=by omega
      have F7:=Qh (show FindW wr fb bd bl bx txs ords (some ad) c B d (ZL md xi (Qi 1)) m2 [] (ZW (txs.take (k+1))) (Zo (txs.take (k+1))) [] by rw[HW.out];have:=jK.out;rw[Fj]at this;simpa using this);have p9:=Qh (show(Zo (txs.take (k+1))).length<=4095*(k+1) by rw[HW.out];have:=aN.out;rw[Fj]at this;simp at this ⊢;omega);go_wp2;go_roundg (GK-1);exact⟨k+1,_,m2,by omega,by go_num,F7,p9,aX.out.trans hu2⟩;omega
  ·obtain rfl:k=txs.length:=by omega
   have lc:Hid (FindW wr fb bd bl bx txs ords A c B d md ml [] (ZW txs) (Zo txs) []):=Qh (by have:=hf.out;rwa [Fj]at this);have fU:=Qh dz;have Eo:∀W,Upd (Zx bd bl bx) wr W->W.cell? ⟨z,1,none⟩=some (.slice B ords.length d):=fun W u=>h1 W (hu.trans u)
   have tz:Upd (Zx bd bl bx) wr wr:=Gg _ _;obtain⟨wo,dR⟩:∃wo,wo=wr:=⟨_,rfl⟩;subst dR;clear hf oq dz h0 h1 hbz;go_wp2
   go_loopg [63] ords.length (fun gk i wr=>∃(k:Nat) (mx:List ((Int×Int)×Gz)),k+gk=ords.length∧i= Qi k∧Hid (FindW wr fb bd bl bx txs ords A c B d md ml mx (ZW txs) (Zo txs) (ZK (ords.take k)))∧Upd (Zx bd bl bx) wo wr)
   case atStart=>exact⟨0,[],by omega,rfl,lc,tz⟩
   case round=>
    clear lc hu;obtain⟨k,mx,aK,rfl,hf,hu⟩:=hrel;have dz:=fU.out.then_ hu (fun i e=>Or.inr (iJ.out i e))
    by_cases hlt:k<ords.length
    ·obtain⟨ad,aA,q0,q1⟩:=(HH.out.upd dz Qo).ord_at hlt;simp only at aA q0 q1;have aQ:=HH.out.ord ords[k] (Fr hlt);obtain⟨⟨yk,yt,yA,yc⟩,hx⟩:∃x,ords[k]=x:=⟨_,rfl⟩;rw[hx]at q0 q1 aQ;simp only at q0 q1;subst aA;have kf:Hid (Ints F w yA yt):=Qh aQ.1;have fC:yt.length<=17592186044415:=aQ.2.2.1;have b1:(0:Int)<=(k:Int):=Qn _;have b2:(k:Int)<(ords.length:Int):=by omega
     obtain⟨wx,aJ⟩:=Qe (wr.alloc (.cells #[Qi yk,.slice yA yt.length yc] 59));have ux:Upd No wr wx:=by rw[<-aJ];exact(Gg No wr).alloc _
     have bo:Blk wx wr.heap.size 59 [Qi yk,.slice yA yt.length yc]:=by rw[<-aJ];exact Gh wr _ _
     have oD:=Qh (show fb<wr.heap.size∧bd<wr.heap.size∧bl<wr.heap.size∧bx<wr.heap.size by exact⟨hf.out.blk.lt,hf.out.md_.lt,hf.out.ml_.lt,hf.out.mx_.lt⟩);have FX:=Qh (hf.out.upd ux id id id id);have aX:=Qh (hu.trans (ux.mono (fun _ _ e=>e.elim)));have ta:=Qh (dz.trans ux);have t0:∀W,Upd (Zx bd bl bx) wx W->W.cell? ⟨wr.heap.size,0,none⟩=some (Qi yk):=fun W u=>by have:=(bo.upd u (by have:=oD.out;unfold Zx;omega)).cell 0;simpa using this
     have t1:∀W,Upd (Zx bd bl bx) wx W->W.cell? ⟨wr.heap.size,1,none⟩=some (.slice yA yt.length yc):=fun W u=>by have:=(bo.upd u (by have:=oD.out;unfold Zx;omega)).cell 1;simpa using this
     have f4:∀W,Upd (Zx bd bl bx) wx W->W.cell? ⟨fb,4,none⟩=some (.map (some bx)):=fun W u=>by have:=(FX.out.blk.upd u (by have:=FX.out.a1;unfold Zx;omega)).cell 4;simpa using this
     have bP:Upd (Zx bd bl bx) wx wx:=Gg _ _;have HX:=Qh (ZmR hlt hx);simp only at HX;clear hx bo ux dz aQ;obtain⟨wp,oB⟩:∃wp,wp=wr:=⟨_,rfl⟩;subst oB;generalize gk=GK at*;go_wp2
     go_loopg [10,70] yt.length (fun gj a i wr=>∃(j:Nat) (m2:List ((Int×Int)×Gz)),j+gj=yt.length∧a= Qi (Ze5 0 (yt.take j))∧i= Qi j∧Hid (FindW wr fb bd bl bx txs ords A c (some ad) d md ml m2 (ZW txs) (Zo txs) (ZK (ords.take k)++Za6 yk 0 (yt.take j)))∧Upd (Zx bd bl bx) wx wr)
     case atStart=>exact⟨0,mx,by omega,rfl,rfl,Qh (by have:=FX.out;simpa[Za6]using this),bP⟩
     case round=>
      obtain⟨j,m2,iK,rfl,rfl,jK,hu2⟩:=hrel;have fI:=ta.out.then_ hu2 (fun i e=>Or.inr (iJ.out i e))
      by_cases hltj:j<yt.length
      ·obtain⟨ad2,aT,_,_,p0⟩:=(kf.out.upd fI Qo).at_ hltj;obtain⟨v,hv⟩:=Qe (yt[j]);rw[hv]at p0;subst aT;have c1:(0:Int)<=(j:Int):=Qn _;have c2:(j:Int)<(yt.length:Int):=by omega
       have t0y:∀W,Upd (Zx bd bl bx) wr W->W.cell? ⟨wp.heap.size,0,none⟩=some (Qi yk):=fun W u=>t0 W (hu2.trans u)
       have f4y:∀W,Upd (Zx bd bl bx) wr W->W.cell? ⟨fb,4,none⟩=some (.map (some bx)):=fun W u=>f4 W (hu2.trans u)
       have lY:Upd (Zx bd bl bx) wr wr:=Gg _ _;obtain⟨aj,xv⟩:=Qe (Ze5 0 (yt.take j));have nT:=Qh (show Za6 yk 0 (yt.take (j+1))=Za6 yk 0 (yt.take j)++[((yk,aj),v)] by rw[ZhD yt yk 0 hltj hv,xv]);have Az:Hid (Ze5 0 (yt.take (j+1))=v):=Qh (Zi6 yt 0 hltj hv);rw[xv];have cy:MapE wr.drew bx Zij m2:=jK.out.mx_;obtain⟨w5,rK,iA,hu5⟩:=ZfK ZeB Tryz.underlying182 cy (yk,aj) (Qi v);change (Instr.mapUpdate 182 (.map (some bx)) (.agg #[Qi yk,Qi aj]) (Qi v)).run Tryz.prog wr.drew= .ok () w5 at rK;have aY:Upd (Zx bd bl bx) wr w5:=(hu5.of_drew).mono (fun i _ e=>Or.inr (Or.inr e))
       have F5:Hid (FindW w5 fb bd bl bx txs ords A c (some ad) d md ml (ZL m2 (yk,aj) (Qi v)) (ZW txs) (Zo txs) (ZK (ords.take k)++Za6 yk 0 (yt.take (j+1)))):=Qh (by
        have h:=jK.out;have h5:=hu5.of_drew;exact⟨h.blk.upd h5 (by have:=h.a1;unfold One;omega),h.md_.upd h5 (by have:=h.a2;unfold One;omega),h.ml_.upd h5 (by have:=h.a2;unfold One;omega),iA,h.dm,h.lm,by rw[nT.out,<-Fg];exact h.nm.put _ _,h.a1,h.a2⟩)
       clear cy iA hu5 xv hv fI;go_wp2
       go_region_held3 (fun W'=>Upd (Zx bd bl bx) wr W') (first|exact lY.drew|exact aY) (fail)
       clear rK;go_wp2;go_roundg (gk-1);exact⟨j+1,_,by omega,by rw[Az.out],by go_num,F5,hu2.trans aY⟩;omega
      ·obtain rfl:j=yt.length:=by omega
       have F5:Hid (FindW wr fb bd bl bx txs ords A c (some ad) d md ml m2 (ZW txs) (Zo txs) (ZK (ords.take (k+1)))):=Qh (by have:=jK.out;rw[Fj]at this;rw[HX.out];exact this);go_wp2;go_roundg (GK-1);exact⟨k+1,m2,by omega,by go_num,F5,aX.out.trans hu2⟩;omega
    ·obtain rfl:k=ords.length:=by omega
     go_wp2;go_ret;exact⟨fb,bd,bl,bx,md,ml,mx,rfl,by have:=hf.out;rwa [Fj]at this,sM.out,dz⟩
/- Edges of a history:what a read is a reason for. -/
def Z4(LD:Gv)(LW:List (Int×Int))(LN:List ((Int×Int)×Int))(ti:Int)(o:HOp):List Edge:=
 if o.tx=ti then [] else if o.tx≠0∧o.tx∉LD then [] else if o.tx≠0∧(ZA LW (o.tx,o.key):Int)≠o.nth then []
 else (if o.tx≠0 then [⟨o.tx,ti,2,o.key⟩] else [])++if Zak LN (o.key,o.tx)≠0∧Zak LN (o.key,o.tx)≠ti then [⟨ti,Zak LN (o.key,o.tx),3,o.key⟩] else []
theorem ZcF{α:Type}[DecidableEq α](x:α):ZA ([]:List α) x=0:=rfl
theorem ZeR{α:Type}[DecidableEq α](a x:α):ZA [a] x=if x=a then 1 else 0:=by
 have:=ZkY ([]:List α) a x
 simpa[ZcF]using this
theorem CntM.inc{m:List (Edge×Gz)}{g:Edge->Nat}(h:CntM m g)(a:Edge):CntM (ZL m a (Qi ((g a:Int)+1))) (fun x=>g x+ZA [a] x):=by
 refine(h.put a (g a+1) (by omega)).congr fun x=>?_
 rw[ZeR]
 by_cases e:x=a
 ·subst e;simp
 ·simp[e]
def ZwC(w:Gy)(bc:Nat)(g:Edge->Nat)(l:List Edge)(e:Ending)(w':Gy):Prop:=
 e= .returned (.tuple #[])∧∃mc,MapE w' bc Zad mc∧CntM mc (fun x=>g x+ZA l x)∧Upd (One bc) w w'
theorem ZvF(w:Gy)(fb bd bl bx bc:Nat)(txs:List HTx)(ords:Gq)(A:OA)(c:Nat)(B:OA)(d:Nat)(md:List (Int×Gz))(ml mx:List ((Int×Int)×Gz))(LD:Gv)(LW:List (Int×Int))(LN:List ((Int×Int)×Int))
  (ti:Int) (tv:Bool) (tA:OA) (tl tc:Nat) (yr:Bool) (yk yt yn:Int) (mc:List (Edge×Gz)) (g:Edge->Nat)
  (h:FindW w fb bd bl bx txs ords A c B d md ml mx LD LW LN) (hm:MapE w bc Zad mc) (hg:CntM mc g) (hb:∀e,g e<=1000000000) (hd:bc≠fb∧bc≠bd∧bc≠bl∧bc≠bx):
  Calls Tryz.prog 80 #[.pointer (some ⟨fb,0,none⟩),.agg #[Qi ti,.bool tv,.slice tA tl tc],.agg #[.bool yr,Qi yk,Qi yt,Qi yn],.map (some bc)] w (ZwC w bc g (Z4 LD LW LN ti ⟨yr,yk,yt,yn⟩)):=by
 obtain⟨wb,ah⟩:=Qe ((w.alloc (.cells #[Qi ti,.bool tv,.slice tA tl tc] 53)).alloc (.cells #[.bool yr,Qi yk,Qi yt,Qi yn] 50));have u0:Upd No w wb:=by rw[<-ah];exact((Gg No w).alloc _).alloc _
 have bT:Blk wb w.heap.size 53 [Qi ti,.bool tv,.slice tA tl tc]:=by rw[<-ah];exact(Gh w _ _).alloc _
 have bO:Blk wb (w.heap.size+1) 50 [.bool yr,Qi yk,Qi yt,Qi yn]:=by
  rw[<-ah];have:=Gh (w.alloc (.cells #[Qi ti,.bool tv,.slice tA tl tc] 53)) 50 [.bool yr,Qi yk,Qi yt,Qi yn]
  simpa using this
 have cf:=hm.lt;have FB:=Qh (h.upd u0 id id id id);have MB:=Qh (hm.upd u0 id);have HG:=Qh hg;have BND:=Qh hb;have UB:=Qh (u0.mono (T:=One bc) (fun _ _ e=>e.elim));have t0:∀W,Upd (One bc) wb W->W.cell? ⟨w.heap.size,0,none⟩=some (Qi ti):=fun W u=>by have:=(bT.upd u (by unfold One;omega)).cell 0;simpa using this
 have o1:∀W,Upd (One bc) wb W->W.cell? ⟨w.heap.size+1,1,none⟩=some (Qi yk):=fun W u=>by have:=(bO.upd u (by unfold One;omega)).cell 1;simpa using this
 have o2:∀W,Upd (One bc) wb W->W.cell? ⟨w.heap.size+1,2,none⟩=some (Qi yt):=fun W u=>by have:=(bO.upd u (by unfold One;omega)).cell 2;simpa using this
 have o3:∀W,Upd (One bc) wb W->W.cell? ⟨w.heap.size+1,3,none⟩=some (Qi yn):=fun W u=>by have:=(bO.upd u (by unfold One;omega)).cell 3;simpa using this
 have f2:∀W,Upd (One bc) wb W->W.cell? ⟨fb,2,none⟩=some (.map (some bd)):=fun W u=>by have:=(FB.out.blk.upd u (by unfold One;omega)).cell 2;simpa using this
 have f3:∀W,Upd (One bc) wb W->W.cell? ⟨fb,3,none⟩=some (.map (some bl)):=fun W u=>by have:=(FB.out.blk.upd u (by unfold One;omega)).cell 3;simpa using this
 have f4:∀W,Upd (One bc) wb W->W.cell? ⟨fb,4,none⟩=some (.map (some bx)):=fun W u=>by have:=(FB.out.blk.upd u (by unfold One;omega)).cell 4;simpa using this
 have L1:∀W,Upd (One bc) wb W->(Instr.lookup 181 (.map (some bd)) (Qi yt) false).run Tryz.prog W= .ok (Qi (if yt∈LD then 1 else 0)) W:=fun W u=>by
  have:=ZO ZeI Tryz.underlying181 ZaN (FB.out.md_.upd u (by unfold One;omega)).is yt
  rwa [FB.out.dm yt]at this
 have L2:∀W,Upd (One bc) wb W->(Instr.lookup 182 (.map (some bl)) (.agg #[Qi yt,Qi yk]) false).run Tryz.prog W= .ok (Qi (ZA LW (yt,yk):Int)) W:=fun W u=>by
  have:=ZO ZeB Tryz.underlying182 ZaN (FB.out.ml_.upd u (by unfold One;omega)).is (yt,yk)
  rwa [FB.out.lm.val]at this
 have L3:∀W,Upd (One bc) wb W->(Instr.lookup 182 (.map (some bx)) (.agg #[Qi yk,Qi yt]) false).run Tryz.prog W= .ok (Qi (Zak LN (yk,yt))) W:=fun W u=>by
  have:=ZO ZeB Tryz.underlying182 ZaN (FB.out.mx_.upd u (by unfold One;omega)).is (yk,yt)
  rwa [FB.out.nm (yk,yt)]at this
 have hr:Upd (One bc) wb wb:=Gg _ _;have yO:=fun n=>hr.drewN n
 have H1:=Qh (hg.congr (f:=fun x=>g x+ZA [] x) (fun x=>by rw[ZcF];rfl));clear h hm hg hb cf hd u0 bT bO
 by_cases c1:yt=ti
 ·have HV:=Qh (show Z4 LD LW LN ti ⟨yr,yk,yt,yn⟩=[] by unfold Z4;rw[if_pos c1]);have c2:(yt==ti)=true:=by simpa using c1
  have HC:=Qh c1;clear c1;go_enter Tryz.func80,Tryz.ntmps80;go_wp2
  go_quiet (fail)
  go_wp2
  go_end0
  exact⟨rfl,mc,MB.out,by rw[HV.out];exact H1.out,UB.out.trans (hr.drewN _)⟩
 ·have c2:(yt==ti)=false:=by simpa using c1
  by_cases c3:yt=0
  ·have c4:(yt != 0)=false:=by simpa using c3
   have HR:Hid (Z4 LD LW LN ti ⟨yr,yk,yt,yn⟩=[]++if Zak LN (yk,yt)≠0∧Zak LN (yk,yt)≠ti then [⟨ti,Zak LN (yk,yt),3,yk⟩] else []):=Qh (by
    unfold Z4;rw[if_neg c1,if_neg (fun h=>h.1 c3),if_neg (fun h=>h.1 c3),if_neg (fun h=>h c3)])
   clear c1 c3;go_enter Tryz.func80,Tryz.ntmps80;go_wp2
   go_quiet (fail)
   have pE:=yO nq;have jX:MapE (wb.drewN nq) bc Zad mc:=MB.out;generalize wb.drewN nq=wu at*;have HE:=Qh (show∀z,g z=g z+ZA ([]:List Edge) z from fun z=>by rw[ZcF];rfl);obtain⟨x,hx⟩:=Qe (Zak LN (yk,yt));rw[hx]at L3 HR;clear hx;have hq:=fun n=>Upd.drewN pE n
   by_cases aQ:x=0
   ·have HV:=Qh (show Z4 LD LW LN ti ⟨yr,yk,yt,yn⟩=[] by rw[HR.out,if_neg (fun h=>h.1 aQ),Fv]);subst aQ;go_wp2
    go_quiet (fail)
    go_wp2
    go_end0
    exact⟨rfl,_,jX,by rw[HV.out];exact(HG.out).congr HE.out,UB.out.trans (Upd.drewN pE _)⟩
   ·have cD:(x != 0)=true:=by simpa using aQ
    by_cases hxt:x=ti
    ·have a7:(x != ti)=false:=by simpa using hxt
     have HV:=Qh (show Z4 LD LW LN ti ⟨yr,yk,yt,yn⟩=[] by rw[HR.out,if_neg (fun h=>h.2 hxt),Fv]);clear hxt aQ;go_wp2
     go_quiet (fail)
     go_wp2
     go_end0
     exact⟨rfl,_,jX,by rw[HV.out];exact(HG.out).congr HE.out,UB.out.trans (Upd.drewN pE _)⟩
    ·have a7:(x != ti)=true:=by simpa using hxt
     have HV:=Qh (show Z4 LD LW LN ti ⟨yr,yk,yt,yn⟩=[]++[⟨ti,x,3,yk⟩] by rw[HR.out,if_pos ⟨aQ,hxt⟩]);clear hxt aQ;go_wp2
     go_quiet (fail)
     have vz:=hq nq;have uF:MapE ((wu).drewN nq) bc Zad mc:=jX;generalize (wu).drewN nq=wq at*;go_wp2;have cy:MapE wq.drew bc Zad mc:=uF;obtain⟨N,hN⟩:=Qe (g ⟨ti,x,3,yk⟩);have bj:(Zac mc (⟨ti,x,3,yk⟩:Edge)).getD (Qi 0)= Qi (N:Int):=by rw[(HG.out).val,hN]
     have sF:N<=2000000000:=by have:=(BND.out ⟨ti,x,3,yk⟩);omega
     obtain⟨st,w6,e2,fd,hu6,ag⟩:=Zdg Zb5 Tryz.underlying98 ZaN cy (⟨ti,x,3,yk⟩:Edge);have e1:=ZO Zb5 Tryz.underlying98 ZaN cy.is (⟨ti,x,3,yk⟩:Edge);have e3:=ZO Zb5 Tryz.underlying98 ZaN fd.is (⟨ti,x,3,yk⟩:Edge);rw[Zam,Option.getD_some]at e3;rw[bj]at e1 e2 e3;obtain⟨w7,e4,jv,hu7⟩:=ag (Qi ((N:Int)+1));change (Instr.lookup 98 (.map (some bc)) (.agg #[Qi ti,Qi x,Qi 3,Qi yk]) false).run Tryz.prog wq.drew= .ok (Qi N) wq.drew at e1;change (Instr.lookup 98 (.map (some bc)) (.agg #[Qi ti,Qi x,Qi 3,Qi yk]) false).run Tryz.prog w6= .ok (Qi N) w6 at e3;change (Instr.mapEntry 98 (.map (some bc)) (.agg #[Qi ti,Qi x,Qi 3,Qi yk])).run Tryz.prog wq.drew= .ok (.tuple #[Qi N,Qi st]) w6 at e2;change (Instr.entryStore 98 (.map (some bc)) (Qi st) (Qi ((N:Int)+1))).run Tryz.prog w6= .ok () w7 at e4;have bP:Upd (One bc) wb wq:=vz;have de:Upd (One bc) wb w6:=bP.trans hu6.of_drew;have fp:Upd (One bc) wb w7:=bP.trans hu7.of_drew;have mQ:=Qh jv;have gF:=Qh ((HG.out).inc (⟨ti,x,3,yk⟩:Edge));rw[hN]at gF;clear cy hN bj ag fd jv hu6 hu7;have gH:IntKind.i64.wrap ((N:Int)+1)=(N:Int)+1:=IntWalk.i64_in _ (by omega)
     go_region_held3 (fun W'=>Upd (One bc) wb W') (first|exact bP.drew|exact de|exact fp) (fail)
     all_goals
      clear e1 e2 e3 e4 gH;go_wp2
      go_end0
      exact⟨rfl,_,mQ.out,by rw[HV.out];exact gF.out.congr (fun z=>by rw[ZaZ];have:=HE.out z;omega),UB.out.trans fp⟩
  ·have c4:(yt != 0)=true:=by simpa using c3
   by_cases c5:yt∈LD
   ·obtain⟨N0,hN0⟩:=Qe (ZA LW (yt,yk));rw[hN0]at L2;simp only[if_pos c5]at L1
    by_cases c6:(N0:Int)=yn
    ·have c7:((N0:Int) != yn)=false:=by simpa using c6
     have HR:Hid (Z4 LD LW LN ti ⟨yr,yk,yt,yn⟩=[⟨yt,ti,2,yk⟩]++if Zak LN (yk,yt)≠0∧Zak LN (yk,yt)≠ti then [⟨ti,Zak LN (yk,yt),3,yk⟩] else []):=Qh (by
      unfold Z4;rw[if_neg c1,if_neg (fun h=>h.2 c5),if_neg (fun h=>h.2 (by rw[hN0];exact c6)),if_pos c3])
     clear c1 c3 c5 c6 hN0;go_enter Tryz.func80,Tryz.ntmps80;go_wp2
     go_quiet (fail)
     have pE:=yO nq;have jX:MapE (wb.drewN nq) bc Zad mc:=MB.out;generalize wb.drewN nq=wu at*;go_wp2;have cy:MapE wu.drew bc Zad mc:=jX;obtain⟨N,hN⟩:=Qe (g ⟨yt,ti,2,yk⟩);have bj:(Zac mc (⟨yt,ti,2,yk⟩:Edge)).getD (Qi 0)= Qi (N:Int):=by rw[(HG.out).val,hN]
     have sF:N<=2000000000:=by have:=(BND.out ⟨yt,ti,2,yk⟩);omega
     obtain⟨st,w6,e2,fd,hu6,ag⟩:=Zdg Zb5 Tryz.underlying98 ZaN cy (⟨yt,ti,2,yk⟩:Edge);have e1:=ZO Zb5 Tryz.underlying98 ZaN cy.is (⟨yt,ti,2,yk⟩:Edge);have e3:=ZO Zb5 Tryz.underlying98 ZaN fd.is (⟨yt,ti,2,yk⟩:Edge);rw[Zam,Option.getD_some]at e3;rw[bj]at e1 e2 e3;obtain⟨w7,e4,jv,hu7⟩:=ag (Qi ((N:Int)+1));change (Instr.lookup 98 (.map (some bc)) (.agg #[Qi yt,Qi ti,Qi 2,Qi yk]) false).run Tryz.prog wu.drew= .ok (Qi N) wu.drew at e1;change (Instr.lookup 98 (.map (some bc)) (.agg #[Qi yt,Qi ti,Qi 2,Qi yk]) false).run Tryz.prog w6= .ok (Qi N) w6 at e3;change (Instr.mapEntry 98 (.map (some bc)) (.agg #[Qi yt,Qi ti,Qi 2,Qi yk])).run Tryz.prog wu.drew= .ok (.tuple #[Qi N,Qi st]) w6 at e2;change (Instr.entryStore 98 (.map (some bc)) (Qi st) (Qi ((N:Int)+1))).run Tryz.prog w6= .ok () w7 at e4;have bP:Upd (One bc) wb wu:=pE;have de:Upd (One bc) wb w6:=bP.trans hu6.of_drew;have fp:Upd (One bc) wb w7:=bP.trans hu7.of_drew;have mQ:=Qh jv;have gF:=Qh ((HG.out).inc (⟨yt,ti,2,yk⟩:Edge));rw[hN]at gF;clear cy hN bj ag fd jv hu6 hu7;have gH:IntKind.i64.wrap ((N:Int)+1)=(N:Int)+1:=IntWalk.i64_in _ (by omega)
     go_region_held3 (fun W'=>Upd (One bc) wb W') (first|exact bP.drew|exact de|exact fp) (fail)
     all_goals
      clear e1 e2 e3 e4 gH;obtain⟨M2,pC⟩:=Qe (ZL mc (⟨yt,ti,2,yk⟩:Edge) (Qi ((N:Int)+1)));obtain⟨g1,di⟩:∃g1:Edge->Nat,(fun x=>g x+ZA [(⟨yt,ti,2,yk⟩:Edge)] x)=g1:=⟨_,rfl⟩;rw[pC,di]at gF;rw[pC]at mQ;have HE:=Qh (show∀z,g1 z=g z+ZA [(⟨yt,ti,2,yk⟩:Edge)] z from fun z=>by rw[<-di]);have cR:=Qh (show∀z,g1 z<=1000000001 from fun z=>by have h1:=BND.out z;have h2:=ZjS [(⟨yt,ti,2,yk⟩:Edge)] z;simp at h2;rw[HE.out];omega);have tF:=mQ;have ss:=gF;have ue:=fp;clear pC di mQ gF de fp bP;obtain⟨x,hx⟩:=Qe (Zak LN (yk,yt));rw[hx]at L3 HR;clear hx;have hq:=fun n=>Upd.drewN ue n
      by_cases aQ:x=0
      ·have HV:=Qh (show Z4 LD LW LN ti ⟨yr,yk,yt,yn⟩=[⟨yt,ti,2,yk⟩] by rw[HR.out,if_neg (fun h=>h.1 aQ),Fv]);subst aQ;go_wp2
       go_quiet (fail)
       go_wp2
       go_end0
       exact⟨rfl,_,tF.out,by rw[HV.out];exact(ss.out).congr HE.out,UB.out.trans (Upd.drewN ue _)⟩
      ·have cD:(x != 0)=true:=by simpa using aQ
       by_cases hxt:x=ti
       ·have a7:(x != ti)=false:=by simpa using hxt
        have HV:=Qh (show Z4 LD LW LN ti ⟨yr,yk,yt,yn⟩=[⟨yt,ti,2,yk⟩] by rw[HR.out,if_neg (fun h=>h.2 hxt),Fv]);clear hxt aQ;go_wp2
        go_quiet (fail)
        go_wp2
        go_end0
        exact⟨rfl,_,tF.out,by rw[HV.out];exact(ss.out).congr HE.out,UB.out.trans (Upd.drewN ue _)⟩
       ·have a7:(x != ti)=true:=by simpa using hxt
        have HV:=Qh (show Z4 LD LW LN ti ⟨yr,yk,yt,yn⟩=[⟨yt,ti,2,yk⟩]++[⟨ti,x,3,yk⟩] by rw[HR.out,if_pos ⟨aQ,hxt⟩]);clear hxt aQ;go_wp2
        go_quiet (fail)
        have vz:=hq nq;have uF:MapE ((w7).drewN nq) bc Zad M2:=tF.out;generalize (w7).drewN nq=wq at*;go_wp2;have cy:MapE wq.drew bc Zad M2:=uF;obtain⟨N,hN⟩:=Qe (g1 ⟨ti,x,3,yk⟩);have bj:(Zac M2 (⟨ti,x,3,yk⟩:Edge)).getD (Qi 0)= Qi (N:Int):=by rw[(ss.out).val,hN]
        have sF:N<=2000000000:=by have:=(cR.out ⟨ti,x,3,yk⟩);omega
        obtain⟨st,w6,e2,fd,hu6,ag⟩:=Zdg Zb5 Tryz.underlying98 ZaN cy (⟨ti,x,3,yk⟩:Edge);have e1:=ZO Zb5 Tryz.underlying98 ZaN cy.is (⟨ti,x,3,yk⟩:Edge);have e3:=ZO Zb5 Tryz.underlying98 ZaN fd.is (⟨ti,x,3,yk⟩:Edge);rw[Zam,Option.getD_some]at e3;rw[bj]at e1 e2 e3;obtain⟨w7,e4,jv,hu7⟩:=ag (Qi ((N:Int)+1));change (Instr.lookup 98 (.map (some bc)) (.agg #[Qi ti,Qi x,Qi 3,Qi yk]) false).run Tryz.prog wq.drew= .ok (Qi N) wq.drew at e1;change (Instr.lookup 98 (.map (some bc)) (.agg #[Qi ti,Qi x,Qi 3,Qi yk]) false).run Tryz.prog w6= .ok (Qi N) w6 at e3;change (Instr.mapEntry 98 (.map (some bc)) (.agg #[Qi ti,Qi x,Qi 3,Qi yk])).run Tryz.prog wq.drew= .ok (.tuple #[Qi N,Qi st]) w6 at e2;change (Instr.entryStore 98 (.map (some bc)) (Qi st) (Qi ((N:Int)+1))).run Tryz.prog w6= .ok () w7 at e4;have bP:Upd (One bc) wb wq:=vz;have de:Upd (One bc) wb w6:=bP.trans hu6.of_drew;have fp:Upd (One bc) wb w7:=bP.trans hu7.of_drew;have mQ:=Qh jv;have gF:=Qh ((ss.out).inc (⟨ti,x,3,yk⟩:Edge));rw[hN]at gF;clear cy hN bj ag fd jv hu6 hu7;have gH:IntKind.i64.wrap ((N:Int)+1)=(N:Int)+1:=IntWalk.i64_in _ (by omega)
        go_region_held3 (fun W'=>Upd (One bc) wb W') (first|exact bP.drew|exact de|exact fp) (fail)
        all_goals
         clear e1 e2 e3 e4 gH;go_wp2
         go_end0
         exact⟨rfl,_,mQ.out,by rw[HV.out];exact gF.out.congr (fun z=>by rw[ZaZ];have:=HE.out z;omega),UB.out.trans fp⟩
    ·have c7:((N0:Int) != yn)=true:=by simpa using c6
     have HV:=Qh (show Z4 LD LW LN ti ⟨yr,yk,yt,yn⟩=[] by unfold Z4;rw[if_neg c1,if_neg (fun h=>h.2 c5),if_pos ⟨c3,by rw[hN0];exact c6⟩]);clear c1 c3 c5 c6 hN0;go_enter Tryz.func80,Tryz.ntmps80;go_wp2
     go_quiet (fail)
     go_wp2
     go_end0
     exact⟨rfl,mc,MB.out,by rw[HV.out];exact H1.out,UB.out.trans (hr.drewN _)⟩
   ·have HV:=Qh (show Z4 LD LW LN ti ⟨yr,yk,yt,yn⟩=[] by unfold Z4;rw[if_neg c1,if_pos ⟨c3,c5⟩]);simp only[if_neg c5]at L1;clear c1 c3 c5;go_enter Tryz.func80,Tryz.ntmps80;go_wp2
    go_quiet (fail)
    go_wp2
    go_end0
    exact⟨rfl,mc,MB.out,by rw[HV.out];exact H1.out,UB.out.trans (hr.drewN _)⟩
/- Edges of a history,as they are counted:in plain words. -/
def wwO(key:Int):Gv->List Edge
 |[]=>[]
 |a::l=>(match l with|[]=>[]|b::_=>[⟨a,b,1,key⟩])++wwO key l
theorem Zlf(key:Int):∀(l:Gv) {k:Nat} {a b:Int} (h1:k+1<l.length),l[k]=a->l[k+1]=b->wwO key (l.take (k+2))=wwO key (l.take (k+1))++[⟨a,b,1,key⟩]
 |x::y::l,0,a,b,_,ha,hb=>by
  simp at ha hb;subst ha hb;simp[wwO]
 |x::y::l,k+1,a,b,h,ha,hb=>by
  have ih:=Zlf key (y::l) (k:=k) (a:=a) (b:=b) (by simpa using h) (by simpa using ha) (by simpa using hb);have e1:(x::y::l).take (k+1+2)=x::(y::l).take (k+2):=rfl;have e2:(x::y::l).take (k+1+1)=x::(y::l).take (k+1):=rfl;rw[e1,e2];have e3:∀n,wwO key (x::(y::l).take (n+1))=[⟨x,y,1,key⟩]++wwO key ((y::l).take (n+1)):=fun n=>rfl
  rw[e3 (k+1),e3 k,ih,Fg]
def wwC(cnt:Int->Bool)(o:HOrd):List Edge:=if cnt o.key then wwO o.key o.txs else []
def wwL(cnt:Int->Bool)(ords:Gq):List Edge:=ords.flatMap (wwC cnt)
theorem ZqE{cnt:Int->Bool}{ords:Gq}{k:Nat}{x:HOrd}(hk:k<ords.length)(hx:ords[k]=x):wwL cnt (ords.take (k+1))=wwL cnt (ords.take k)++wwC cnt x:=by
 subst hx;unfold wwL;rw[Es hk,List.flatMap_append];simp
def Zbv(L:List Edge)(e:Edge):Nat:=if e∈L then 1 else 0
theorem Zry{m:List (Edge×Gz)}{L:List Edge}(h:CntM m (Zbv L))(a:Edge):CntM (ZL m a (Qi 1)) (Zbv (L++[a])):=by
 refine CntM.congr (show CntM (ZL m a (Qi ((1:Nat):Int))) _ from h.put a 1 (by omega)) fun x=>?_
 unfold Zbv
 by_cases e:x=a
 ·subst e;simp
 ·simp[e]
def rdO(cnt:Int->Bool)(LD:Gv)(LW:List (Int×Int))(LN:List ((Int×Int)×Int))(ti:Int)(l:Gu):List Edge:=(l.filter fun o=>o.read&&cnt o.key).flatMap (Z4 LD LW LN ti)
theorem Zq1{cnt:Int->Bool}{LD:Gv}{LW:List (Int×Int)}{LN:List ((Int×Int)×Int)}{ti:Int}{l:Gu}{k:Nat}{x:HOp}(hk:k<l.length)(hx:l[k]=x):
  rdO cnt LD LW LN ti (l.take (k+1))=rdO cnt LD LW LN ti (l.take k)++if x.read&&cnt x.key then Z4 LD LW LN ti x else []:=by
 subst hx;unfold rdO;rw[Es hk,List.filter_append,List.flatMap_append]
 cases h:(l[k].read&&cnt l[k].key)<;>simp[h]
def rdL(cnt:Int->Bool)(LD:Gv)(LW:List (Int×Int))(LN:List ((Int×Int)×Int))(txs:List HTx):List Edge:=(txs.filter (·.done)).flatMap fun t=>rdO cnt LD LW LN t.id t.ops
theorem Zq2{cnt:Int->Bool}{LD:Gv}{LW:List (Int×Int)}{LN:List ((Int×Int)×Int)}{txs:List HTx}{k:Nat}{x:HTx}(hk:k<txs.length)(hx:txs[k]=x):
  rdL cnt LD LW LN (txs.take (k+1))=rdL cnt LD LW LN (txs.take k)++if x.done then rdO cnt LD LW LN x.id x.ops else []:=by
 subst hx;unfold rdL;rw[Es hk,List.filter_append,List.flatMap_append]
 cases h:txs[k].done<;>simp[h]
theorem Zkd(LD:Gv)(LW:List (Int×Int))(LN:List ((Int×Int)×Int))(ti:Int)(o:HOp):(Z4 LD LW LN ti o).length<=2:=by
 unfold Z4
 split
 ·simp
 ·split
  ·simp
  ·split
   ·simp
   ·rw[Fb]
    split<;>split<;>simp
def Zoh(cnt:Int->Bool)(txs:List HTx)(ords:Gq)(e:Edge):Nat:=Zbv (wwL cnt ords) e+ZA (rdL cnt (ZW txs) (Zo txs) (ZK ords) txs) e
def Zeh(cnt:Int->Bool)(h:Hist)(e:Edge):Nat:=if Zc h=true then Zoh cnt h.txs h.ords e else 0
theorem Zs8(L:List Edge)(e:Edge):Zbv L e<=1:=by unfold Zbv;split<;>omega
theorem Zpm{h:Hist}(hr:Zc h=true):h.txs.length<=4096:=by
 apply Classical.byContradiction
 intro hn;rw[ZiB (by omega)]at hr
 cases hr
theorem Zkb{h:Hist}(hr:Zc h=true){t:HTx}(ht:t∈h.txs):t.ops.length<=4095:=by
 have h1:=(ZbJ hr ht).1;unfold Z3 at h1
 split at h1
 ·cases h1
 ·split at h1
  ·cases h1
  ·omega
/- Edges of a history:dsg.counted is walked. -/
def ZtH(w:Gy)(g:Edge->Nat)(e:Ending)(w':Gy):Prop:=
 ∃bc mc,e= .returned (.map (some bc))∧w.heap.size<=bc∧MapE w' bc Zad mc∧CntM mc g∧Upd No w w'
theorem Ztx(w:Gy)(key:Int):CN 46 #[Qi key] w (.bool true):=by
 go_enter Tryz.func46,Tryz.ntmps46;go_wp2;go_ret;exact⟨rfl,Gg _ _⟩
/- Edges of a history:dsg.counted,called by dsg.Edges$1. -/
theorem Zqk(F:Gt)(w:Gy)(txs:List HTx)(ords:Gq)(A:OA)(c:Nat)(B:OA)(d:Nat)(cnt:Int->Bool)(H:Hist.lies F w ⟨txs,ords,A,c,B,d⟩)
  (hc:Hid (∀W key,Upd No w W->CN 46 #[Qi key] W (.bool (cnt key)))):
  Calls Tryz.prog 45 #[.agg #[.slice A txs.length c,.slice B ords.length d],.func (.func 46) #[] #[]] w (ZtH w (Zeh cnt ⟨txs,ords,A,c,B,d⟩)):=by
 have e8:= @run_makeMap Tryz.prog;have HH:=Qh H;have n3:ords.length<=4398046511103:=H.fewo;obtain⟨z,hz⟩:=Qe w.heap.size;obtain⟨w1,au⟩:=Qe (w.alloc (.cells #[.slice A txs.length c,.slice B ords.length d] 29));have s1:w1.heap.size=z+1:=by rw[<-au,<-hz];simp
 obtain⟨wb,ah⟩:=Qe (w1.alloc (.map #[] 0));have u1:Upd No w w1:=by rw[<-au];exact(Gg No w).alloc _
 have u2:Upd No w1 wb:=by rw[<-ah];exact(Gg No w1).alloc _
 have hM:MapE wb (z+1) Zad []:=by rw[<-ah,<-s1];exact MapE.new w1 _
 have bH:Blk wb z 29 [.slice A txs.length c,.slice B ords.length d]:=by
  have:Blk w1 z 29 [.slice A txs.length c,.slice B ords.length d]:=by rw[<-au,<-hz];exact Gh w _ _
  exact this.upd u2 id
 have HU:=Qh (u1.trans u2);have iN:=Qh hM;have HZ:=Qh (show w.heap.size<=z∧z+1<wb.heap.size by rw[<-ah];simp;omega);have eH:z<wb.heap.size:=bH.lt;have g0:∀W,Upd (One (z+1)) wb W->W.cell? ⟨z,0,none⟩=some (.slice A txs.length c):=fun W u=>by have:=(bH.upd u (by unfold One;omega)).cell 0;simpa using this
 have g1:∀W,Upd (One (z+1)) wb W->W.cell? ⟨z,1,none⟩=some (.slice B ords.length d):=fun W u=>by have:=(bH.upd u (by unfold One;omega)).cell 1;simpa using this
 have hbz:Upd (One (z+1)) wb wb:=Gg _ _;have HR:=Qh (fun W (u:Upd No w W)=>Zp6 F W ⟨txs,ords,A,c,B,d⟩ (H.upd u Qo));unfold Hist.val at HR;simp only at HR;clear u1 u2 hM bH H eH
 cases hr:Zc ⟨txs,ords,A,c,B,d⟩
 ·rw[hr]at HR;have HG:=Qh (show∀e,(fun _=>0) e=Zeh cnt ⟨txs,ords,A,c,B,d⟩ e from fun e=>by unfold Zeh;rw[hr];rfl);clear hr;go_enter Tryz.func45,Tryz.ntmps45;go_wp2_with fail;refine Ck (HR.out _ HU.out) fun w2 hu2=>?_;go_wp2;go_ret;exact⟨z+1,[],rfl,by have:=HZ.out;omega,iN.out.upd hu2 id,CntM.new.congr HG.out,HU.out.trans hu2⟩
 ·rw[hr]at HR;have n1:=Zpm hr;have n2:∀t∈txs,t.ops.length<=4095:=fun t ht=>Zkb hr ht
  simp only at n1;have HG:=Qh (show∀e,Zbv (wwL cnt ords) e+ZA (rdL cnt (ZW txs) (Zo txs) (ZK ords) txs) e=Zeh cnt ⟨txs,ords,A,c,B,d⟩ e from fun e=>by unfold Zeh;rw[hr];rfl);have wH:=Qh (fun W (u:Upd No w W)=>ZvK F W txs ords A c B d (HH.out.upd u Qo) n1 n2);clear hr;go_enter Tryz.func45,Tryz.ntmps45;go_wp2_with fail;refine Ck (HR.out _ HU.out) fun w2 hu2=>?_;have hv2:=HU.out.trans hu2;have er:=hu2.size;have qL:Upd (One (z+1)) wb w2:=hu2.mono (fun _ _ e=>e.elim);go_wp2_with fail;refine(wH.out w2 hv2).mono ?_;rintro e w3 ⟨fb,bd,bl,bx,md,ml,mx,rfl,yZ,dd,hu3⟩;have eZ:=hv2.trans hu3;have kE:Upd (One (z+1)) wb w3:=qL.trans (hu3.mono (fun _ _ e=>e.elim));have o5:=Qh yZ;have HD:=Qh (show z+1≠fb∧z+1≠bd∧z+1≠bl∧z+1≠bx by have:=HZ.out;omega);obtain⟨bc,qS⟩:=Qe (z+1);have Bx:Hid (MapE w3 bc Zad []):=Qh (by rw[<-qS];exact(iN.out.upd hu2 id).upd hu3 id);have ym:=Qh (show w.heap.size<=bc by have:=HZ.out;omega);have mM:=Qh eZ;rw[qS]at HD g0 g1 kE;have g0:∀W,Upd (One bc) w3 W->W.cell? ⟨z,0,none⟩=some (.slice A txs.length c):=fun W u=>g0 W (kE.trans u)
  have g1:∀W,Upd (One bc) w3 W->W.cell? ⟨z,1,none⟩=some (.slice B ords.length d):=fun W u=>g1 W (kE.trans u)
  have eF:Upd (One bc) w3 w3:=Gg _ _;have iJ:=Qh (show∀W,Upd (One bc) w3 W->Upd No w W from fun W u=>mM.out.then_ u (fun i e=>Or.inr (by unfold One at e;have:=ym.out;omega)));clear yZ dd hu3 eZ hv2 er hbz qL kE hu2 e8 au ah hz;rw[qS];go_wp2
  go_loopg [24] ords.length (fun gk i wr=>∃(k:Nat) (mc:List (Edge×Gz)),k+gk=ords.length∧i= Qi k∧Hid (MapE wr bc Zad mc)∧Hid (CntM mc (Zbv (wwL cnt (ords.take k))))∧Upd (One bc) w3 wr)
  case atStart=>exact⟨0,[],by omega,rfl,Bx,Qh (CntM.new.congr (fun e=>by simp[Zbv,wwL])),eF⟩
  case round=>
   obtain⟨k,mc,aK,rfl,hm,hg,hu⟩:=hrel;have dz:=iJ.out _ hu
   by_cases hlt:k<ords.length
   ·obtain⟨ad,aA,q0,q1⟩:=(HH.out.upd dz Qo).ord_at hlt;simp only at aA q0 q1;have aQ:=HH.out.ord ords[k] (Fr hlt);obtain⟨⟨yk,yt,yA,yc⟩,hx⟩:∃x,ords[k]=x:=⟨_,rfl⟩;rw[hx]at q0 q1 aQ;simp only at q0 q1;subst aA;have kf:Hid (Ints F w yA yt):=Qh aQ.1;have fC:yt.length<=17592186044415:=aQ.2.2.1;have b1:(0:Int)<=(k:Int):=Qn _;have b2:(k:Int)<(ords.length:Int):=by omega
    obtain⟨wx,aJ⟩:=Qe (wr.alloc (.cells #[Qi yk,.slice yA yt.length yc] 59));have ux:Upd No wr wx:=by rw[<-aJ];exact(Gg No wr).alloc _
    have bo:Blk wx wr.heap.size 59 [Qi yk,.slice yA yt.length yc]:=by rw[<-aJ];exact Gh wr _ _
    have gX:=hm.out.lt;have MX:=Qh (hm.out.upd ux id);have aX:=Qh (hu.trans (ux.mono (fun _ _ e=>e.elim)));have t0:∀W,Upd (One bc) wx W->W.cell? ⟨wr.heap.size,0,none⟩=some (Qi yk):=fun W u=>by have:=(bo.upd u (by unfold One;omega)).cell 0;simpa using this
    have t1:∀W,Upd (One bc) wx W->W.cell? ⟨wr.heap.size,1,none⟩=some (.slice yA yt.length yc):=fun W u=>by have:=(bo.upd u (by unfold One;omega)).cell 1;simpa using this
    have bP:Upd (One bc) wx wx:=Gg _ _;have HX:=Qh (ZqE (cnt:=cnt) hlt hx);have HC:=Qh (fun W (u:Upd (One bc) wx W)=>hc.out W yk (iJ.out W (aX.out.trans u)));obtain⟨cv,iq⟩:=Qe (cnt yk);rw[iq]at HC;have iX:=Qh iq;clear hx bo ux dz aQ gX iq;obtain⟨wp,oB⟩:∃wp,wp=wr:=⟨_,rfl⟩;subst oB;generalize gk=GK at*;go_wp2
    go_loopg [9] yt.length (fun gj i wr=>∃(j:Nat) (m2:List (Edge×Gz)),gj=yt.length-j∧i= Qi ((j:Int)+1)∧j<=yt.length∧Hid (cv=false->j=0)∧Hid (MapE wr bc Zad m2)∧Hid (CntM m2 (Zbv (wwL cnt (ords.take k)++wwO yk (yt.take (j+1)))))∧Upd (One bc) wx wr)
    case atStart=>exact⟨0,mc,by omega,rfl,by omega,Qh (fun _=>rfl),MX,Qh (by have:=hg.out;cases yt<;>simpa[wwO]using this),bP⟩
    case round=>
     obtain⟨j,m2,iK,rfl,rh,zg,cX,cJ,hu2⟩:=hrel
     by_cases hltj:j+1<yt.length
     ·have c1:(0:Int)<=(j:Int):=Qn _;have c2:(j:Int)+1<(yt.length:Int):=by omega
      have c3:(j:Int)<(yt.length:Int):=by omega
      have oO:=HC.out _ hu2
      cases cv
      ·obtain rfl:j=0:=zg.out rfl;have bU:Hid (CntM m2 (Zbv (wwL cnt (ords.take (k+1))))):=Qh (by rw[HX.out];unfold wwC;rw[iX.out];have:=cJ.out;cases yt<;>simpa[wwO]using this);go_wp2_with fail;refine Calls.mono oO ?_;rintro e w5 ⟨rfl,hu5⟩;go_wp2;go_roundg (GK-1);exact⟨k+1,m2,by omega,by go_num,Qh (cX.out.upd (S:=No) hu5 id),bU,(aX.out.trans hu2).trans (hu5.mono (fun _ _ e=>e.elim))⟩;omega
      ·go_wp2_with fail;refine Calls.mono oO ?_;rintro e w5 ⟨rfl,hu5⟩;have fR:Upd (One bc) wr w5:=hu5.mono (fun _ _ e=>e.elim);have ff:=Qh ((aX.out.trans hu2).trans fR);have qe:j<yt.length:=by omega
       obtain⟨ad2,aT,_,_,p0⟩:=kf.out.at_ qe;obtain⟨ad3,rm,_,_,p1⟩:=kf.out.at_ hltj;obtain rfl:ad2=ad3:=by rw[aT]at rm;exact Option.some.inj rm
       obtain⟨va,ip⟩:∃v,yt[j]=v:=⟨_,rfl⟩;obtain⟨vb,hvb⟩:∃v,yt[j+1]=v:=⟨_,rfl⟩;rw[ip]at p0;rw[hvb]at p1;subst aT;have p0:∀W,Upd (One bc) w5 W->W.cell? (ad2.add j)=some (Qi va):=fun W u=>(iJ.out W (ff.out.trans u)).keepNo p0
       have kK:ad2.add (j+1)=⟨ad2.block,ad2.off+(j+1),none⟩:=by unfold Addr.add;split<;>simp_all
       have p1:∀W,Upd (One bc) w5 W->W.cell? ⟨ad2.block,ad2.off+(j+1),none⟩=some (Qi vb):=fun W u=>by rw[<-kK];exact(iJ.out W (ff.out.trans u)).keepNo p1
       have t0y:∀W,Upd (One bc) w5 W->W.cell? ⟨wp.heap.size,0,none⟩=some (Qi yk):=fun W u=>t0 W ((hu2.trans fR).trans u)
       have t1y:∀W,Upd (One bc) w5 W->W.cell? ⟨wp.heap.size,1,none⟩=some (.slice (some ad2) yt.length yc):=fun W u=>t1 W ((hu2.trans fR).trans u)
       have lY:Upd (One bc) w5 w5:=Gg _ _;have cy:MapE w5.drew bc Zad m2:=(cX.out.upd (S:=No) hu5 id:MapE w5 bc Zad m2);obtain⟨w6,zJ,fd,hu6⟩:=ZfK Zb5 Tryz.underlying98 cy (⟨va,vb,1,yk⟩:Edge) (Qi 1);change (Instr.mapUpdate 98 (.map (some bc)) (.agg #[Qi va,Qi vb,Qi 1,Qi yk]) (Qi 1)).run Tryz.prog w5.drew= .ok () w6 at zJ;have de:Upd (One bc) w5 w6:=hu6.of_drew;have uL:=Qh fd
       have dr:=Qh (show CntM _ (Zbv (wwL cnt (ords.take k)++wwO yk (yt.take (j+1+1)))) from by
        have:=Zry cJ.out (⟨va,vb,1,yk⟩:Edge);rw[Fg,<-Zlf yk yt hltj ip hvb]at this;exact this)
       have c4:(0:Int)<=(j:Int)+1:=by omega
       have c5:(j:Int)<=17592186044415:=by omega
       have au:IntKind.i64.wrap ((j:Int)+1-1)=(j:Int):=by rw[Int.add_sub_cancel];exact IntWalk.i64_in _ (by omega)
       have cH:IntKind.i64.wrap (j:Int)=(j:Int):=IntWalk.i64_in _ (by omega);clear cy fd hu6 ip hvb kK fR;go_wp2
       go_region_held3 (fun W'=>Upd (One bc) w5 W') (first|exact lY.drew|exact de) (fail)
       clear zJ;go_wp2;go_roundg (gk-1);exact⟨j+1,_,by omega,by go_num,by omega,Qh (fun h=>by cases h),uL,dr,(hu2.trans (hu5.mono (fun _ _ e=>e.elim))).trans de⟩;omega
     ·have bU:Hid (CntM m2 (Zbv (wwL cnt (ords.take (k+1))))):=Qh (by
       rw[HX.out];unfold wwC;rw[iX.out];have h1:=cJ.out
       cases cv
       ·obtain rfl:j=0:=zg.out rfl;simp only[Bool.false_eq_true,if_false]
        cases yt with
        |nil=>simpa[wwO]using h1
        |cons y l=>cases l with
         |nil=>simpa[wwO]using h1
         |cons y2 l=>simp at hltj
       ·rw[List.take_of_length_le (l:=yt) (i:=j+1) (by omega)]at h1
        simpa using h1)
      have c2:¬(j:Int)+1<(yt.length:Int):=by omega
      go_wp2;go_roundg (GK-1);exact⟨k+1,m2,by omega,by go_num,cX,bU,aX.out.trans hu2⟩;omega
   ·obtain rfl:k=ords.length:=by omega
    have ka:Hid (CntM mc (Zbv (wwL cnt ords))):=Qh (by have:=hg.out;rwa [Fj]at this);have oe:=hm;have dH:=hu;clear hm hg dz;obtain⟨wo,dR⟩:∃wo,wo=wr:=⟨_,rfl⟩;subst dR;have g0o:∀W,Upd (One bc) wo W->W.cell? ⟨z,0,none⟩=some (.slice A txs.length c):=fun W u=>g0 W (dH.trans u)
    have tz:Upd (One bc) wo wo:=Gg _ _;obtain⟨LD,uN⟩:=Qe (ZW txs);obtain⟨LW,tH⟩:=Qe (Zo txs);obtain⟨LN,xu⟩:=Qe (ZK ords);obtain⟨WW,wC⟩:=Qe (wwL cnt ords);rw[uN,tH,xu]at o5;rw[uN,tH,xu,wC]at HG;rw[wC]at ka;clear uN tH xu wC g0 g1;go_wp2
    go_loopg [60] txs.length (fun gk i wr=>∃(k:Nat) (mc:List (Edge×Gz)),k+gk=txs.length∧i= Qi k∧Hid (MapE wr bc Zad mc)∧Hid (CntM mc (fun e=>Zbv WW e+ZA (rdL cnt LD LW LN (txs.take k)) e))∧Hid ((rdL cnt LD LW LN (txs.take k)).length<=8190*k)∧Upd (One bc) wo wr)
    case atStart=>exact⟨0,mc,by omega,rfl,oe,Qh (ka.out.congr (fun e=>rfl)),Qh (by simp[rdL]),tz⟩
    case round=>
     clear oe ka;obtain⟨k,mc,aK,rfl,hm,hg,zu,hu⟩:=hrel;have dz:=iJ.out _ (dH.trans hu)
     by_cases hlt:k<txs.length
     ·obtain⟨ad,aA,q0,q1,q2⟩:=(HH.out.upd dz Qo).tx_at hlt;simp only at aA q0 q1 q2;have a7:=n2 _ (Fr hlt);have aQ:=HH.out.tx txs[k] (Fr hlt);obtain⟨⟨xi,xd,xo,xA,xc⟩,hx⟩:∃x,txs[k]=x:=⟨_,rfl⟩;rw[hx]at q0 q1 q2 a7 aQ;simp only at q0 q1 q2 a7;subst aA;have kf:Hid (HOps F w xA xo):=Qh aQ.1;have b1:(0:Int)<=(k:Int):=Qn _;have b2:(k:Int)<(txs.length:Int):=by omega
      obtain⟨wx,aJ⟩:=Qe (wr.alloc (.cells #[Qi xi,.bool xd,.slice xA xo.length xc] 53));have ux:Upd No wr wx:=by rw[<-aJ];exact(Gg No wr).alloc _
      have bo:Blk wx wr.heap.size 53 [Qi xi,.bool xd,.slice xA xo.length xc]:=by rw[<-aJ];exact Gh wr _ _
      have gX:=hm.out.lt;have MX:=Qh (hm.out.upd ux id);have aX:=Qh (hu.trans (ux.mono (fun _ _ e=>e.elim)));have t0:∀W,Upd (One bc) wx W->W.cell? ⟨wr.heap.size,0,none⟩=some (Qi xi):=fun W u=>by have:=(bo.upd u (by unfold One;omega)).cell 0;simpa using this
      have t1:∀W,Upd (One bc) wx W->W.cell? ⟨wr.heap.size,1,none⟩=some (.bool xd):=fun W u=>by have:=(bo.upd u (by unfold One;omega)).cell 1;simpa using this
      have t2:∀W,Upd (One bc) wx W->W.cell? ⟨wr.heap.size,2,none⟩=some (.slice xA xo.length xc):=fun W u=>by have:=(bo.upd u (by unfold One;omega)).cell 2;simpa using this
      have bP:Upd (One bc) wx wx:=Gg _ _;have HX:=Qh (Zq2 (cnt:=cnt) (LD:=LD) (LW:=LW) (LN:=LN) hlt hx);simp only at HX;clear hx bo ux dz aQ gX;obtain⟨wp,oB⟩:∃wp,wp=wr:=⟨_,rfl⟩;subst oB;generalize gk=GK at*;go_wp2
      go_loopg [67] xo.length (fun gj i wr=>∃(j:Nat) (m2:List (Edge×Gz)),j+gj=xo.length∧i= Qi j∧Hid (MapE wr bc Zad m2)∧Hid (CntM m2 (fun e=>Zbv WW e+ZA (rdL cnt LD LW LN (txs.take k)++if xd then rdO cnt LD LW LN xi (xo.take j) else []) e))∧Hid ((rdL cnt LD LW LN (txs.take k)++if xd then rdO cnt LD LW LN xi (xo.take j) else []).length<=8190*k+2*j)∧Upd (One bc) wx wr)
      case atStart=>exact⟨0,mc,by omega,rfl,MX,Qh (by have:=hg.out;cases xd<;>simpa[rdO]using this),Qh (by have:=zu.out;cases xd<;>simpa[rdO]using this),bP⟩
      case round=>
       obtain⟨j,m2,iK,rfl,cX,cJ,aN,hu2⟩:=hrel;have fI:=iJ.out _ (dH.trans (aX.out.trans hu2))
       by_cases hltj:j<xo.length
       ·obtain⟨ad2,aT,p0,p1,p2,p3⟩:=(kf.out.upd fI Qo).at_ hltj;obtain⟨⟨yr,yk,yt,yn⟩,hy⟩:∃y,xo[j]=y:=⟨_,rfl⟩;rw[hy]at p0 p1 p2 p3;simp only at p0 p1 p2 p3;subst aT;have c1:(0:Int)<=(j:Int):=Qn _;have c2:(j:Int)<(xo.length:Int):=by omega
        obtain⟨wy,gt⟩:=Qe (wr.alloc (.cells #[.bool yr,Qi yk,Qi yt,Qi yn] 50));have uy:Upd No wr wy:=by rw[<-gt];exact(Gg No wr).alloc _
        have bo:Blk wy wr.heap.size 50 [.bool yr,Qi yk,Qi yt,Qi yn]:=by rw[<-gt];exact Gh wr _ _
        have gX:=cX.out.lt;have MY:=Qh (cX.out.upd uy id);have fX:=Qh (hu2.trans (uy.mono (fun _ _ e=>e.elim)));have o0:∀W,Upd (One bc) wy W->W.cell? ⟨wr.heap.size,0,none⟩=some (.bool yr):=fun W u=>by have:=(bo.upd u (by unfold One;omega)).cell 0;simpa using this
        have o1:∀W,Upd (One bc) wy W->W.cell? ⟨wr.heap.size,1,none⟩=some (Qi yk):=fun W u=>by have:=(bo.upd u (by unfold One;omega)).cell 1;simpa using this
        have o2:∀W,Upd (One bc) wy W->W.cell? ⟨wr.heap.size,2,none⟩=some (Qi yt):=fun W u=>by have:=(bo.upd u (by unfold One;omega)).cell 2;simpa using this
        have o3:∀W,Upd (One bc) wy W->W.cell? ⟨wr.heap.size,3,none⟩=some (Qi yn):=fun W u=>by have:=(bo.upd u (by unfold One;omega)).cell 3;simpa using this
        have t0y:∀W,Upd (One bc) wy W->W.cell? ⟨wp.heap.size,0,none⟩=some (Qi xi):=fun W u=>t0 W (fX.out.trans u)
        have t1y:∀W,Upd (One bc) wy W->W.cell? ⟨wp.heap.size,1,none⟩=some (.bool xd):=fun W u=>t1 W (fX.out.trans u)
        have t2y:∀W,Upd (One bc) wy W->W.cell? ⟨wp.heap.size,2,none⟩=some (.slice (some ad2) xo.length xc):=fun W u=>t2 W (fX.out.trans u)
        have lY:Upd (One bc) wy wy:=Gg _ _;have sG:=Qh (Zq1 (cnt:=cnt) (LD:=LD) (LW:=LW) (LN:=LN) (ti:=xi) hltj hy);simp only at sG;clear hy bo uy fI gX
        cases xd
        ·have HN:=Qh (show(rdL cnt LD LW LN (txs.take k)++if false then rdO cnt LD LW LN xi (xo.take (j+1)) else [])=(rdL cnt LD LW LN (txs.take k)++if false then rdO cnt LD LW LN xi (xo.take j) else []) by simp);go_wp2;go_roundg (gk-1);exact⟨j+1,m2,by omega,by go_num,MY,Qh (by rw[HN.out];exact cJ.out),Qh (by rw[HN.out];have:=aN.out;omega),fX.out⟩;omega
        ·cases yr
         ·have HN:=Qh (show(rdL cnt LD LW LN (txs.take k)++if true then rdO cnt LD LW LN xi (xo.take (j+1)) else [])=(rdL cnt LD LW LN (txs.take k)++if true then rdO cnt LD LW LN xi (xo.take j) else []) by rw[sG.out];simp);go_wp2;go_roundg (gk-1);exact⟨j+1,m2,by omega,by go_num,MY,Qh (by rw[HN.out];exact cJ.out),Qh (by rw[HN.out];have:=aN.out;omega),fX.out⟩;omega
         ·obtain⟨cv,iq⟩:=Qe (cnt yk);have oO:=hc.out wy yk (iJ.out wy (dH.trans (aX.out.trans fX.out)));rw[iq]at oO;have iX:=Qh iq;clear iq
          cases cv
          ·go_wp2_with fail;refine Calls.mono oO ?_;rintro e w5 ⟨rfl,hu5⟩;have Bh:=Qh (MY.out.upd (S:=No) hu5 id);have tb:=Qh (fX.out.trans (hu5.mono (fun _ _ e=>e.elim)));have HN:=Qh (show(rdL cnt LD LW LN (txs.take k)++if true then rdO cnt LD LW LN xi (xo.take (j+1)) else [])=(rdL cnt LD LW LN (txs.take k)++if true then rdO cnt LD LW LN xi (xo.take j) else []) by rw[sG.out,iX.out];simp);go_wp2;go_roundg (gk-1);exact⟨j+1,m2,by omega,by go_num,Bh,Qh (by rw[HN.out];exact cJ.out),Qh (by rw[HN.out];have:=aN.out;omega),tb.out⟩;omega
          ·have HN:=Qh (show(rdL cnt LD LW LN (txs.take k)++if true then rdO cnt LD LW LN xi (xo.take (j+1)) else [])=(rdL cnt LD LW LN (txs.take k)++if true then rdO cnt LD LW LN xi (xo.take j) else [])++Z4 LD LW LN xi ⟨true,yk,yt,yn⟩ by rw[sG.out,iX.out];simp);obtain⟨RR,gh⟩:=Qe ((rdL cnt LD LW LN (txs.take k)++if true then rdO cnt LD LW LN xi (xo.take j) else []));rw[gh]at HN cJ aN;go_wp2_with fail;refine Calls.mono oO ?_;rintro e w5 ⟨rfl,hu5⟩;have fR:Upd (One bc) wy w5:=hu5.mono (fun _ _ e=>e.elim)
           have DE:=Qh (ZvF w5 fb bd bl bx bc txs ords _ c _ d md ml mx LD LW LN xi true (some ad2) xo.length xc true yk yt yn m2 (fun e=>Zbv WW e+ZA RR e)
            (o5.out.upd ((dH.trans (aX.out.trans fX.out)).trans fR) (by have:=HD.out;unfold One;omega) (by have:=HD.out;unfold One;omega) (by have:=HD.out;unfold One;omega) (by have:=HD.out;unfold One;omega))
            (MY.out.upd (S:=No) hu5 id) cJ.out (fun e=>by have h1:=Zs8 WW e;have h2:=ZjS RR e;have h3:=aN.out;omega) HD.out)
           go_wp2_with fail;refine Calls.mono DE.out ?_;rintro e w6 ⟨rfl,m6,fd,dC,hu6⟩;have uL:=Qh fd;have dr:Hid (CntM m6 (fun e=>Zbv WW e+ZA (RR++Z4 LD LW LN xi ⟨true,yk,yt,yn⟩) e)):=Qh (dC.congr (fun e=>by simp only[ZaZ];omega));have eu:=Qh ((fX.out.trans fR).trans hu6);clear fd dC hu6 fR gh;go_wp2;go_roundg (gk-1);exact⟨j+1,m6,by omega,by go_num,uL,Qh (by rw[HN.out];exact dr.out),Qh (by rw[HN.out,Fb];have:=aN.out;have:=Zkd LD LW LN xi ⟨true,yk,yt,yn⟩;omega),eu.out⟩;omega
       ·obtain rfl:j=xo.length:=by omega
        have HN:=Qh (show rdL cnt LD LW LN (txs.take (k+1))=(rdL cnt LD LW LN (txs.take k)++if xd then rdO cnt LD LW LN xi (xo.take xo.length) else []) by rw[HX.out,Fj]);go_wp2;go_roundg (GK-1);exact⟨k+1,m2,by omega,by go_num,cX,Qh (by rw[HN.out];exact cJ.out),Qh (by rw[HN.out];have:=aN.out;omega),aX.out.trans hu2⟩;omega
     ·obtain rfl:k=txs.length:=by omega
      have CI:Hid (CntM mc (Zeh cnt ⟨txs,ords,A,c,B,d⟩)):=Qh (by have:=hg.out;rw[Fj]at this;exact this.congr HG.out);go_wp2;go_ret;exact⟨bc,mc,rfl,ym.out,hm.out,CI.out,dz⟩
