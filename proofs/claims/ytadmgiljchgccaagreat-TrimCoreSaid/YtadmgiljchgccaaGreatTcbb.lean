/- Edges of a history: maps that count. -/
import Derived.Test.YtadmgiljchgccaaGreatTcay
namespace Go.Proofs.YtadmgiljchgccaaGreat
open Go.RowKit
set_option linter.unusedVariables false
set_option linter.unusedSimpArgs false
set_option maxRecDepth 100000
set_option maxHeartbeats 8000000
theorem Zpk(w:I0)(x y:Edge):(Op.equal 58 (Zaa x) (Zaa y)).run Tryz.prog w= .ok (decide (x=y)) w:=by
 obtain⟨a,b,c,d⟩:=x;obtain⟨a',b',c',d'⟩:=y;unfold Zaa
 show(Op.equalIn 10000 _ _ _).run _ w=_
 rw[run_equalIn_struct w _ _ _ _ (by kernel_rfl) (by kernel_rfl)];have hI:∀(w:I0) (d:Nat) (x y:Int),(Op.equalIn (d+1) 3 (Qi x) (Qi y)).run Tryz.prog w= .ok (x==y) w:=fun w d x y=>run_equalIn_int w d _ _ _ x y Tryz.underlying3
 by_cases h1:a=a'<;>by_cases h2:b=b'<;>by_cases h3:c=c'<;>by_cases h4:d=d'<;>
  simp[Program.fieldsOf,Tryz.underlying58,Op.eqFields,part,hI,h1,h2,h3,h4,Result.andThen]
theorem Zpl(w:I0)(e:Bool)(p:Edge):(Instr.checkKey e 10000 58 (Zaa p)).run Tryz.prog w= .ok () w:=by
 show(Instr.checkKey e (9998+1+1) _ _).run _ w=_
 generalize 9998=d;have hI:∀(w:I0) (x:Int),(Instr.checkKey e (d+1) 3 (Qi x)).run Tryz.prog w= .ok () w:=fun w x=>by unfold Instr.checkKey;simp[run_underlying Tryz.underlying3]
 unfold Instr.checkKey Zaa;simp[run_underlying Tryz.underlying58,<-Array.forIn_toList,part,hI,Result.andThen]
theorem ZbV:KeyBy Tryz.prog 58 Zaa:=KeyBy.agg_ Tryz.underlying58 (fun a=>⟨_,rfl⟩) Zpl (fun a=>by simp[Zaa,Instr.sameBits]) Zpk
/- Edges of a history:what is looked up in it once. -/
def ZV(txs:List HTx):Iv:=(txs.filter (·.done)).map (·.id)
def ZbN(id:Int)(l:Is):List (Int×Int):=(l.filter fun o=> !o.read).map fun o=>(id,o.key)
def Zn(txs:List HTx):List (Int×Int):=(txs.filter (·.done)).flatMap fun t=>ZbN t.id t.ops
def Zbd(key a:Int):Iv->List ((Int×Int)×Int)
 |[]=>[]
 |x::l=>((key,a),x)::Zbd key x l
def ZL(ords:List HOrd):List ((Int×Int)×Int):=ords.flatMap fun o=>Zbd o.key 0 o.txs
def Zaf(L:List ((Int×Int)×Int))(p:Int×Int):Int:=L.foldl (fun a e=>if e.1=p then e.2 else a) 0
theorem ZoY(L:List ((Int×Int)×Int))(p q:Int×Int)(x:Int):Zaf (L++[(p,x)]) q=if p=q then x else Zaf L q:=by
 unfold Zaf;rw[List.foldl_append];rfl
theorem Zpo{txs:List HTx}{k:Nat}{x:HTx}(hk:k<txs.length)(hx:txs[k]=x):ZV (txs.take (k+1))=ZV (txs.take k)++if x.done then [x.id] else []:=by
 subst hx;unfold ZV;rw[Gb hk,List.filter_append,Hu]
 cases h:txs[k].done<;>simp[h]
theorem Zlt{txs:List HTx}{k:Nat}{x:HTx}(hk:k<txs.length)(hx:txs[k]=x):Zn (txs.take (k+1))=Zn (txs.take k)++if x.done then ZbN x.id x.ops else []:=by
 subst hx;unfold Zn;rw[Gb hk,List.filter_append,List.flatMap_append]
 cases h:txs[k].done<;>simp[h]
theorem ZpU{l:Is}{k:Nat}{x:HOp}(id:Int)(hk:k<l.length)(hx:l[k]=x):ZbN id (l.take (k+1))=ZbN id (l.take k)++if x.read then [] else [(id,x.key)]:=by
 subst hx;unfold ZbN;rw[Gb hk,List.filter_append,Hu]
 cases h:l[k].read<;>simp[h]
theorem Znk{ords:List HOrd}{k:Nat}{x:HOrd}(hk:k<ords.length)(hx:ords[k]=x):ZL (ords.take (k+1))=ZL (ords.take k)++Zbd x.key 0 x.txs:=by
 subst hx;unfold ZL;rw[Gb hk,List.flatMap_append];simp
def Ze9(a:Int):Iv->Int
 |[]=>a
 |x::l=>Ze9 x l
theorem Zi9:∀(l:Iv) (a:Int) {k:Nat} {x:Int} (hk:k<l.length),l[k]=x->Ze9 a (l.take (k+1))=x
 |y::l,a,0,x,_,hx=>by simp at hx;subst hx;simp[Ze9]
 |y::l,a,k+1,x,hk,hx=>by
  rw[List.take_succ_cons];exact Zi9 l y (by simpa using hk) (by simpa using hx)
theorem ZhA:∀(l:Iv) (key a:Int) {k:Nat} {x:Int} (hk:k<l.length),l[k]=x->Zbd key a (l.take (k+1))=Zbd key a (l.take k)++[((key,Ze9 a (l.take k)),x)]
 |y::l,key,a,0,x,_,hx=>by simp at hx;subst hx;simp[Zbd,Ze9]
 |y::l,key,a,k+1,x,hk,hx=>by
  rw[List.take_succ_cons,List.take_succ_cons]
  show((key,a),y)::Zbd key y (l.take (k+1))=((key,a),y)::Zbd key y (l.take k)++_
  rw[ZhA l key y (by simpa using hk) (by simpa using hx)];rfl
def DoneM(m:List (Int×Iz))(L:Iv):Prop:=∀i,(ZX m i).getD (Qi 0)= Qi (if i∈L then 1 else 0)
def NxtM(m:List ((Int×Int)×Iz))(L:List ((Int×Int)×Int)):Prop:=∀p,(ZX m p).getD (Qi 0)= Qi (Zaf L p)
theorem DoneM.put{m:List (Int×Iz)}{L:Iv}(h:DoneM m L)(x:Int):DoneM (ZI m x (Qi 1)) (L++[x]):=fun i=>by
 rw[Zdt]
 by_cases e:i=x
 ·subst e;simp
 ·rw[if_neg e,h i];simp[e]
theorem NxtM.put{m:List ((Int×Int)×Iz)}{L:List ((Int×Int)×Int)}(h:NxtM m L)(p:Int×Int)(x:Int):NxtM (ZI m p (Qi x)) (L++[(p,x)]):=fun q=>by
 rw[Zdt,ZoY]
 by_cases e:q=p
 ·subst e;rw[if_pos rfl,if_pos rfl];rfl
 ·rw[if_neg e,if_neg (fun h=>e h.symm),h q]
def ZD{α:Type}[DecidableEq α](L:List α)(a:α):Nat:=(L.filter fun x=>decide (x=a)).length
theorem Zk9{α:Type}[DecidableEq α](L:List α)(a x:α):ZD (L++[a]) x=if x=a then ZD L a+1 else ZD L x:=by
 unfold ZD;rw[List.filter_append,Gt]
 by_cases e:x=a
 ·subst e;rw[if_pos rfl,List.filter_cons_of_pos (by simp)];rfl
 ·rw[if_neg e,List.filter_cons_of_neg (by simpa using fun h=>e h.symm)];rfl
theorem Zj3{α:Type}[DecidableEq α](L:List α)(x:α):ZD L x<=L.length:=Gj _ _
theorem Za3{α:Type}[DecidableEq α](L M:List α)(x:α):ZD (L++M) x=ZD L x+ZD M x:=by unfold ZD;rw[List.filter_append,Gt]
def Zz(bd bl bx:Nat):Nat->Prop:=fun i=>i=bd∨i=bl∨i=bx
structure FindW (w:World) (fb bd bl bx:Nat) (txs:List HTx) (ords:List HOrd) (A:OA) (c:Nat) (B:OA) (d:Nat) (md:List (Int×Value)) (ml mx:List ((Int×Int)×Value)) (LD:List Int) (LW:List (Int×Int)) (LN:List ((Int×Int)×Int)):Prop where
 blk:Blk w fb 242 [.slice A txs.length c,.slice B ords.length d,.map (some bd),.map (some bl),.map (some bx)]
 md_:MapE w bd (fun n:Int=>Value.int .i64 n) md
 ml_:MapE w bl Zim ml
 mx_:MapE w bx Zim mx
 dm:DoneM md LD
 lm:CntM ml (ZD LW)
 nm:NxtM mx LN
 a1:fb≠bd∧fb≠bl∧fb≠bx
 a2:bd≠bl∧bd≠bx∧bl≠bx
theorem FindW.upd{S:Iw}{w w':I0}{fb bd bl bx:Nat}{txs:List HTx}{ords:List HOrd}{A:OA}{c:Nat}{B:OA}{d:Nat}{md:List (Int×Iz)}{ml mx:List ((Int×Int)×Iz)}{LD:Iv}{LW:List (Int×Int)}{LN:List ((Int×Int)×Int)}
  (h:FindW w fb bd bl bx txs ords A c B d md ml mx LD LW LN) (k:Upd S w w') (h1:¬S fb) (h2:¬S bd) (h3:¬S bl) (h4:¬S bx):FindW w' fb bd bl bx txs ords A c B d md ml mx LD LW LN:=
 ⟨h.blk.upd k h1,h.md_.upd k h2,h.ml_.upd k h3,h.mx_.upd k h4,h.dm,h.lm,h.nm,h.a1,h.a2⟩
/- Edges of a history:dsg.look is walked. -/
def ZwK(w:I0)(txs:List HTx)(ords:List HOrd)(A:OA)(c:Nat)(B:OA)(d:Nat)(e:Ending)(w':I0):Prop:=
 ∃fb bd bl bx md ml mx,e= .returned (.pointer (some ⟨fb,0,none⟩))∧FindW w' fb bd bl bx txs ords A c B d md ml mx (ZV txs) (Zn txs) (ZL ords)∧(w.heap.size<=fb∧w.heap.size<=bd∧w.heap.size<=bl∧w.heap.size<=bx)∧Upd No w w'
theorem ZxA(F:Iw)(w:I0)(txs:List HTx)(ords:List HOrd)(A:OA)(c:Nat)(B:OA)(d:Nat)(H:Hist.lies F w ⟨txs,ords,A,c,B,d⟩)(n1:txs.length<=4096)(n2:∀t∈txs,t.ops.length<=4095):
  Calls Tryz.prog 139 #[.agg #[.slice A txs.length c,.slice B ords.length d]] w (ZwK w txs ords A c B d):=by
 have eT:= @run_makeMap Tryz.prog;have HH:=Qh H;have n3:ords.length<=4398046511103:=H.fewo;obtain⟨z,hz⟩:=Qe w.heap.size;obtain⟨w1,ap⟩:=Qe (w.alloc (.cells #[.slice A txs.length c,.slice B ords.length d] 25));have s1:w1.heap.size=z+1:=by rw[<-ap,<-hz];simp
 obtain⟨w2,bZ⟩:=Qe (w1.alloc (.map #[] 0));have s2:w2.heap.size=z+1+1:=by rw[<-bZ,<-s1];simp
 obtain⟨w3,fp⟩:=Qe (w2.alloc (.map #[] 0));have s3:w3.heap.size=z+1+1+1:=by rw[<-fp,<-s2];simp
 obtain⟨w4,cW⟩:=Qe (w3.alloc (.map #[] 0));have s4:w4.heap.size=z+1+1+1+1:=by rw[<-cW,<-s3];simp
 obtain⟨wb,ag⟩:=Qe (w4.alloc (.cells #[.slice A txs.length c,.slice B ords.length d,.map (some (z+1)),.map (some (z+1+1)),.map (some (z+1+1+1))] 242));have u1:Upd No w w1:=by rw[<-ap];exact(Il No w).alloc _
 have u2:Upd No w1 w2:=by rw[<-bZ];exact(Il No w1).alloc _
 have u3:Upd No w2 w3:=by rw[<-fp];exact(Il No w2).alloc _
 have u4:Upd No w3 w4:=by rw[<-cW];exact(Il No w3).alloc _
 have u5:Upd No w4 wb:=by rw[<-ag];exact(Il No w4).alloc _
 have m2:MapE w2 (z+1) (fun n:Int=>Value.int .i64 n) []:=by rw[<-bZ,<-s1];exact MapE.new w1 _
 have m3:MapE w3 (z+1+1) Zim []:=by rw[<-fp,<-s2];exact MapE.new w2 _
 have m4:MapE w4 (z+1+1+1) Zim []:=by rw[<-cW,<-s3];exact MapE.new w3 _
 have bF:Blk wb (z+1+1+1+1) 242 [.slice A txs.length c,.slice B ords.length d,.map (some (z+1)),.map (some (z+1+1)),.map (some (z+1+1+1))]:=by rw[<-ag,<-s4];exact Im w4 _ _
 have bH1:Blk w1 z 25 [.slice A txs.length c,.slice B ords.length d]:=by rw[<-ap,<-hz];exact Im w _ _
 have bH:Blk wb z 25 [.slice A txs.length c,.slice B ords.length d]:=(((bH1.upd u2 id).upd u3 id).upd u4 id).upd u5 id;obtain⟨g0,g1⟩:=bH1.c2
 have HF:Hid (FindW wb (z+1+1+1+1) (z+1) (z+1+1) (z+1+1+1) txs ords A c B d [] [] [] [] [] []):=Qh
  ⟨bF,((m2.upd u3 id).upd u4 id).upd u5 id,(m3.upd u4 id).upd u5 id,m4.upd u5 id,fun i=>by rw[ZdW];simp,CntM.new.congr (fun p=>rfl),fun p=>by rw[ZdW];rfl,⟨by omega,by omega,by omega⟩,⟨by omega,by omega,by omega⟩⟩
 have HU:=Qh ((((u1.trans u2).trans u3).trans u4).trans u5);have Bp:=Qh bH;have HZ:=Qh hz;clear u1 u2 u3 u4 u5 m2 m3 m4 bF bH bH1 H;go_enter Tryz.func139,Tryz.ntmps139;have h0:∀W,Upd (Zz (z+1) (z+1+1) (z+1+1+1)) wb W->W.cell? ⟨z,0,none⟩=some (.slice A txs.length c):=fun W u=>by have:=(Bp.out.upd u (by unfold Zz;omega)).cell 0;simpa using this
 have h1:∀W,Upd (Zz (z+1) (z+1+1) (z+1+1+1)) wb W->W.cell? ⟨z,1,none⟩=some (.slice B ords.length d):=fun W u=>by have:=(Bp.out.upd u (by unfold Zz;omega)).cell 1;simpa using this
 have hbz:Upd (Zz (z+1) (z+1+1) (z+1+1+1)) wb wb:=Il _ _;go_wp2;clear eT g0 g1 ap bZ fp cW ag hz;obtain⟨bd,lc⟩:=Qe (z+1);obtain⟨bl,ft⟩:=Qe (z+1+1);obtain⟨bx,hbx⟩:=Qe (z+1+1+1);obtain⟨fb,sf⟩:=Qe (z+1+1+1+1);rw[sf,hbx,ft,lc]at HF;rw[hbx,ft,lc]at h0 h1 hbz;rw[sf];have tV:=Qh (show w.heap.size<=fb∧w.heap.size<=bd∧w.heap.size<=bl∧w.heap.size<=bx by have:=HZ.out;omega);have jA:=Qh (show∀i,Zz bd bl bx i->w.heap.size<=i from fun i e=>by have:=tV.out;unfold Zz at e;omega);clear lc ft hbx sf s1 s2 s3 s4
 go_loopg [22] txs.length (fun gk i wr=>∃(k:Nat) (md:List (Int×Iz)) (ml:List ((Int×Int)×Iz)),k+gk=txs.length∧i= Qi k∧Hid (FindW wr fb bd bl bx txs ords A c B d md ml [] (ZV (txs.take k)) (Zn (txs.take k)) [])∧Hid ((Zn (txs.take k)).length<=4095*k)∧Upd (Zz bd bl bx) wb wr)
 case atStart=>exact⟨0,[],[],by omega,rfl,HF,Qh (by simp[Zn]),hbz⟩
 case round=>
  clear HF;obtain⟨k,md,ml,aI,rfl,hf,nH,hu⟩:=hrel;have dW:=HU.out.then_ hu (fun i e=>Or.inr (jA.out i e))
  by_cases hlt:k<txs.length
  ·have H1:=HH.out.upd dW Qo;obtain⟨ad,aH,q0,q1,q2⟩:=H1.tx_at hlt;simp only at aH q0 q1 q2;have cO:=n2 _ (Hg hlt);have aZ:=HH.out.tx txs[k] (Hg hlt);obtain⟨⟨xi,xd,xo,xA,xc⟩,hx⟩:∃x,txs[k]=x:=⟨_,rfl⟩;rw[hx]at q0 q1 q2 cO aZ;simp only at q0 q1 q2 cO;subst aH;have lZ:Hid (HOps F w xA xo):=Qh aZ.1;have b1:(0:Int)<=(k:Int):=Qn _;have b2:(k:Int)<(txs.length:Int):=by omega
   obtain⟨wx,aJ⟩:=Qe (wr.alloc (.cells #[Qi xi,.bool xd,.slice xA xo.length xc] 39));have ux:Upd No wr wx:=by rw[<-aJ];exact(Il No wr).alloc _
   have bo:Blk wx wr.heap.size 39 [Qi xi,.bool xd,.slice xA xo.length xc]:=by rw[<-aJ];exact Im wr _ _
   have o4:=Qh (show fb<wr.heap.size∧bd<wr.heap.size∧bl<wr.heap.size∧bx<wr.heap.size by exact⟨hf.out.blk.lt,hf.out.md_.lt,hf.out.ml_.lt,hf.out.mx_.lt⟩);have FX:=Qh (hf.out.upd ux id id id id);have a9:=Qh (hu.trans (ux.mono (fun _ _ e=>e.elim)));have sq:=Qh (dW.trans ux);have t0:∀W,Upd (Zz bd bl bx) wx W->W.cell? ⟨wr.heap.size,0,none⟩=some (Qi xi):=fun W u=>by have:=(bo.upd u (by have:=o4.out;unfold Zz;omega)).cell 0;simpa using this
   have t1:∀W,Upd (Zz bd bl bx) wx W->W.cell? ⟨wr.heap.size,1,none⟩=some (.bool xd):=fun W u=>by have:=(bo.upd u (by have:=o4.out;unfold Zz;omega)).cell 1;simpa using this
   have t2:∀W,Upd (Zz bd bl bx) wx W->W.cell? ⟨wr.heap.size,2,none⟩=some (.slice xA xo.length xc):=fun W u=>by have:=(bo.upd u (by have:=o4.out;unfold Zz;omega)).cell 2;simpa using this
   have f2:∀W,Upd (Zz bd bl bx) wx W->W.cell? ⟨fb,2,none⟩=some (.map (some bd)):=fun W u=>by have:=(FX.out.blk.upd u (by have:=FX.out.a1;unfold Zz;omega)).cell 2;simpa using this
   have hxz:Upd (Zz bd bl bx) wx wx:=Il _ _;have HX:=Qh hx;have HD:=Qh (Zpo hlt hx);have HW:=Qh (Zlt hlt hx);simp only at HD HW;clear hx bo H1 ux dW aZ
   cases xd
   ·have HN:=Qh (show FindW wx fb bd bl bx txs ords (some ad) c B d md ml [] (ZV (txs.take (k+1))) (Zn (txs.take (k+1))) [] by rw[HD.out,HW.out];simpa using FX.out);have Fp:=Qh (show(Zn (txs.take (k+1))).length<=4095*(k+1) by rw[HW.out];have:=nH.out;simp;omega);go_wp2;go_roundg (gk-1);exact⟨k+1,md,ml,by omega,by go_num,HN,Fp,a9.out⟩;omega
   ·have cy:MapE wx.drew bd (fun n:Int=>Value.int .i64 n) md:=FX.out.md_;obtain⟨w5,tz,fR,hu5⟩:=ZfT ZdN Tryz.underlying113 cy xi (Qi 1);have cC:Upd (Zz bd bl bx) wx w5:=(hu5.of_drew).mono (fun i _ e=>Or.inl e)
    have F5:Hid (FindW w5 fb bd bl bx txs ords (some ad) c B d (ZI md xi (Qi 1)) ml [] (ZV (txs.take (k+1))) (Zn (txs.take k)) []):=Qh (by
     have h:=FX.out;have h5:=hu5.of_drew;exact⟨h.blk.upd h5 (by have:=h.a1;unfold One;omega),fR,h.ml_.upd h5 (by have:=h.a2;unfold One;omega),h.mx_.upd h5 (by have:=h.a2;unfold One;omega),by rw[HD.out];exact h.dm.put xi,h.lm,h.nm,h.a1,h.a2⟩)
    clear cy fR hu5;go_wp2
    go_region_held3 (fun W'=>Upd (Zz bd bl bx) wx W') (first|exact hxz.drew|exact cC) (fail)
    clear tz;obtain⟨wo,gU⟩:∃wo,wo=wr:=⟨_,rfl⟩;subst gU;generalize gk=GK at*;go_wp2
    go_loopg [38] xo.length (fun gj i wr=>∃(j:Nat) (m2:List ((Int×Int)×Iz)),j+gj=xo.length∧i= Qi j∧Hid (FindW wr fb bd bl bx txs ords (some ad) c B d (ZI md xi (Qi 1)) m2 [] (ZV (txs.take (k+1))) (Zn (txs.take k)++ZbN xi (xo.take j)) [])∧Hid ((Zn (txs.take k)++ZbN xi (xo.take j)).length<=4095*k+j)∧Upd (Zz bd bl bx) wx wr)
    case atStart=>exact⟨0,ml,by omega,rfl,Qh (by have:=F5.out;simpa[ZbN]using this),Qh (by have:=nH.out;simpa[ZbN]using this),cC⟩
    case round=>
     clear F5 cC;obtain⟨j,m2,kP,rfl,gN,bC,hu2⟩:=hrel;have gv:=sq.out.then_ hu2 (fun i e=>Or.inr (jA.out i e))
     by_cases hltj:j<xo.length
     ·obtain⟨ad2,cq,p0,p1,p2,p3⟩:=(lZ.out.upd gv Qo).at_ hltj;obtain⟨⟨yr,yk,yt,yn⟩,hy⟩:∃y,xo[j]=y:=⟨_,rfl⟩;rw[hy]at p0 p1 p2 p3;simp only at p0 p1 p2 p3;subst cq;have c1:(0:Int)<=(j:Int):=Qn _;have c2:(j:Int)<(xo.length:Int):=by omega
      obtain⟨wy,iP⟩:=Qe (wr.alloc (.cells #[.bool yr,Qi yk,Qi yt,Qi yn] 66));have uy:Upd No wr wy:=by rw[<-iP];exact(Il No wr).alloc _
      have bo:Blk wy wr.heap.size 66 [.bool yr,Qi yk,Qi yt,Qi yn]:=by rw[<-iP];exact Im wr _ _
      have Ba:=Qh (show fb<wr.heap.size∧bd<wr.heap.size∧bl<wr.heap.size∧bx<wr.heap.size by exact⟨gN.out.blk.lt,gN.out.md_.lt,gN.out.ml_.lt,gN.out.mx_.lt⟩);have FY:=Qh (gN.out.upd uy id id id id);have eS:=Qh (hu2.trans (uy.mono (fun _ _ e=>e.elim)));have o0:∀W,Upd (Zz bd bl bx) wy W->W.cell? ⟨wr.heap.size,0,none⟩=some (.bool yr):=fun W u=>by have:=(bo.upd u (by have:=Ba.out;unfold Zz;omega)).cell 0;simpa using this
      have o1:∀W,Upd (Zz bd bl bx) wy W->W.cell? ⟨wr.heap.size,1,none⟩=some (Qi yk):=fun W u=>by have:=(bo.upd u (by have:=Ba.out;unfold Zz;omega)).cell 1;simpa using this
      have t0y:∀W,Upd (Zz bd bl bx) wy W->W.cell? ⟨wo.heap.size,0,none⟩=some (Qi xi):=fun W u=>t0 W (eS.out.trans u)
      have f3:∀W,Upd (Zz bd bl bx) wy W->W.cell? ⟨fb,3,none⟩=some (.map (some bl)):=fun W u=>by have:=(FY.out.blk.upd u (by have:=FY.out.a1;unfold Zz;omega)).cell 3;simpa using this
      have ii:Upd (Zz bd bl bx) wy wy:=Il _ _;have ry:=Qh (ZpU xi hltj hy);simp only at ry;clear hy bo uy gv
      cases yr
      ·have cy:MapE wy.drew bl Zim m2:=FY.out.ml_;obtain⟨N,hN⟩:=Qe (ZD (Zn (txs.take k)++ZbN xi (xo.take j)) (xi,yk));have bP:(ZX m2 (xi,yk)).getD (Qi 0)= Qi (N:Int):=by rw[FY.out.lm.val,hN]
       have uj:N<=20000000:=by have:=bC.out;have h1:=Zj3 (Zn (txs.take k)++ZbN xi (xo.take j)) (xi,yk);rw[hN]at h1;omega
       obtain⟨st,w6,e2,gu,hu6,am⟩:=Zdr ZeE Tryz.underlying240 ZaN cy (xi,yk);have e1:=ZP ZeE Tryz.underlying240 ZaN cy.is (xi,yk);have e3:=ZP ZeE Tryz.underlying240 ZaN gu.is (xi,yk);rw[Zai,Option.getD_some]at e3;rw[bP]at e1 e2 e3;obtain⟨w7,e4,jD,aq⟩:=am (Qi ((N:Int)+1));change (Instr.lookup 240 (.map (some bl)) (.agg #[Qi xi,Qi yk]) false).run Tryz.prog wy.drew= .ok (Qi N) wy.drew at e1;change (Instr.lookup 240 (.map (some bl)) (.agg #[Qi xi,Qi yk]) false).run Tryz.prog w6= .ok (Qi N) w6 at e3;change (Instr.mapEntry 240 (.map (some bl)) (.agg #[Qi xi,Qi yk])).run Tryz.prog wy.drew= .ok (.tuple #[Qi N,Qi st]) w6 at e2;change (Instr.entryStore 240 (.map (some bl)) (Qi st) (Qi ((N:Int)+1))).run Tryz.prog w6= .ok () w7 at e4;have aw:Upd (Zz bd bl bx) wy w6:=(hu6.of_drew).mono (fun i _ e=>Or.inr (Or.inl e));have az:Upd (Zz bd bl bx) wy w7:=(aq.of_drew).mono (fun i _ e=>Or.inr (Or.inl e))
       have F7:Hid (FindW w7 fb bd bl bx txs ords (some ad) c B d (ZI md xi (Qi 1)) (ZI m2 (xi,yk) (Qi ((N:Int)+1))) [] (ZV (txs.take (k+1))) (Zn (txs.take k)++ZbN xi (xo.take (j+1))) []):=Qh (by
        have h:=FY.out;have h5:=aq.of_drew;refine⟨h.blk.upd h5 (by have:=h.a1;unfold One;omega),h.md_.upd h5 (by have:=h.a2;unfold One;omega),jD,h.mx_.upd h5 (by have:=h.a2;unfold One;omega),h.dm,?_,h.nm,h.a1,h.a2⟩;have h8:=h.lm.put (xi,yk) (N+1) (by omega);rw[ry.out];refine CntM.congr (show CntM _ _ from h8) (fun p=>?_);simp only[Bool.false_eq_true,if_false];rw[<-Gx,Zk9,hN])
       have jE:=Qh (show(Zn (txs.take k)++ZbN xi (xo.take (j+1))).length<=4095*k+(j+1) by rw[ry.out];have:=bC.out;simp at this ⊢;omega);clear cy hN bP am gu jD hu6 aq;have jJ:IntKind.i64.wrap ((N:Int)+1)=(N:Int)+1:=IntWalk.i64_in _ (by omega);go_wp2
       go_region_held3 (fun W'=>Upd (Zz bd bl bx) wy W') (first|exact ii.drew|exact aw|exact az) (fail)
       all_goals
        clear e1 e2 e3 e4 jJ;go_wp2;go_roundg (gk-1);exact⟨j+1,_,by omega,by go_num,F7,jE,eS.out.trans az⟩;omega
      ·have F7:=Qh (show FindW wy fb bd bl bx txs ords (some ad) c B d (ZI md xi (Qi 1)) m2 [] (ZV (txs.take (k+1))) (Zn (txs.take k)++ZbN xi (xo.take (j+1))) [] by rw[ry.out];simpa using FY.out);have jE:=Qh (show(Zn (txs.take k)++ZbN xi (xo.take (j+1))).length<=4095*k+(j+1) by rw[ry.out];have:=bC.out;simp at this ⊢;omega);go_wp2;go_roundg (gk-1);exact⟨j+1,m2,by omega,by go_num,F7,jE,eS.out⟩;omega
     ·obtain rfl:j=xo.length:=by omega
      have F7:=Qh (show FindW wr fb bd bl bx txs ords (some ad) c B d (ZI md xi (Qi 1)) m2 [] (ZV (txs.take (k+1))) (Zn (txs.take (k+1))) [] by rw[HW.out];have:=gN.out;rw[G7]at this;simpa using this);have jE:=Qh (show(Zn (txs.take (k+1))).length<=4095*(k+1) by rw[HW.out];have:=bC.out;rw[G7]at this;simp at this ⊢;omega);go_wp2;go_roundg (GK-1);exact⟨k+1,_,m2,by omega,by go_num,F7,jE,a9.out.trans hu2⟩;omega
  ·obtain rfl:k=txs.length:=by omega
   have BJ:Hid (FindW wr fb bd bl bx txs ords A c B d md ml [] (ZV txs) (Zn txs) []):=Qh (by have:=hf.out;rwa [G7]at this);have jk:=Qh dW;have FO:∀W,Upd (Zz bd bl bx) wr W->W.cell? ⟨z,1,none⟩=some (.slice B ords.length d):=fun W u=>h1 W (hu.trans u)
   have jZ:Upd (Zz bd bl bx) wr wr:=Il _ _;obtain⟨wo,gU⟩:∃wo,wo=wr:=⟨_,rfl⟩;subst gU;clear hf nH dW h0 h1 hbz;go_wp2
   go_loopg [63] ords.length (fun gk i wr=>∃(k:Nat) (mx:List ((Int×Int)×Iz)),k+gk=ords.length∧i= Qi k∧Hid (FindW wr fb bd bl bx txs ords A c B d md ml mx (ZV txs) (Zn txs) (ZL (ords.take k)))∧Upd (Zz bd bl bx) wo wr)
   case atStart=>exact⟨0,[],by omega,rfl,BJ,jZ⟩
   case round=>
    clear BJ hu;obtain⟨k,mx,aI,rfl,hf,hu⟩:=hrel;have dW:=jk.out.then_ hu (fun i e=>Or.inr (jA.out i e))
    by_cases hlt:k<ords.length
    ·obtain⟨ad,aH,q0,q1⟩:=(HH.out.upd dW Qo).ord_at hlt;simp only at aH q0 q1;have aZ:=HH.out.ord ords[k] (Hg hlt);obtain⟨⟨yk,yt,yA,yc⟩,hx⟩:∃x,ords[k]=x:=⟨_,rfl⟩;rw[hx]at q0 q1 aZ;simp only at q0 q1;subst aH;have lZ:Hid (Ints F w yA yt):=Qh aZ.1;have lB:yt.length<=17592186044415:=aZ.2.2.1;have b1:(0:Int)<=(k:Int):=Qn _;have b2:(k:Int)<(ords.length:Int):=by omega
     obtain⟨wx,aJ⟩:=Qe (wr.alloc (.cells #[Qi yk,.slice yA yt.length yc] 68));have ux:Upd No wr wx:=by rw[<-aJ];exact(Il No wr).alloc _
     have bo:Blk wx wr.heap.size 68 [Qi yk,.slice yA yt.length yc]:=by rw[<-aJ];exact Im wr _ _
     have o4:=Qh (show fb<wr.heap.size∧bd<wr.heap.size∧bl<wr.heap.size∧bx<wr.heap.size by exact⟨hf.out.blk.lt,hf.out.md_.lt,hf.out.ml_.lt,hf.out.mx_.lt⟩);have FX:=Qh (hf.out.upd ux id id id id);have a9:=Qh (hu.trans (ux.mono (fun _ _ e=>e.elim)));have sq:=Qh (dW.trans ux);have t0:∀W,Upd (Zz bd bl bx) wx W->W.cell? ⟨wr.heap.size,0,none⟩=some (Qi yk):=fun W u=>by have:=(bo.upd u (by have:=o4.out;unfold Zz;omega)).cell 0;simpa using this
     have t1:∀W,Upd (Zz bd bl bx) wx W->W.cell? ⟨wr.heap.size,1,none⟩=some (.slice yA yt.length yc):=fun W u=>by have:=(bo.upd u (by have:=o4.out;unfold Zz;omega)).cell 1;simpa using this
     have f4:∀W,Upd (Zz bd bl bx) wx W->W.cell? ⟨fb,4,none⟩=some (.map (some bx)):=fun W u=>by have:=(FX.out.blk.upd u (by have:=FX.out.a1;unfold Zz;omega)).cell 4;simpa using this
     have hxz:Upd (Zz bd bl bx) wx wx:=Il _ _;have HX:=Qh (Znk hlt hx);simp only at HX;clear hx bo ux dW aZ;obtain⟨wp,pi⟩:∃wp,wp=wr:=⟨_,rfl⟩;subst pi;generalize gk=GK at*;go_wp2
     go_loopg [10,70] yt.length (fun gj a i wr=>∃(j:Nat) (m2:List ((Int×Int)×Iz)),j+gj=yt.length∧a= Qi (Ze9 0 (yt.take j))∧i= Qi j∧Hid (FindW wr fb bd bl bx txs ords A c (some ad) d md ml m2 (ZV txs) (Zn txs) (ZL (ords.take k)++Zbd yk 0 (yt.take j)))∧Upd (Zz bd bl bx) wx wr)
     case atStart=>exact⟨0,mx,by omega,rfl,rfl,Qh (by have:=FX.out;simpa[Zbd]using this),hxz⟩
     case round=>
      obtain⟨j,m2,kP,rfl,rfl,gN,hu2⟩:=hrel;have gv:=sq.out.then_ hu2 (fun i e=>Or.inr (jA.out i e))
      by_cases hltj:j<yt.length
      ·obtain⟨ad2,cq,_,_,p0⟩:=(lZ.out.upd gv Qo).at_ hltj;obtain⟨v,hv⟩:=Qe (yt[j]);rw[hv]at p0;subst cq;have c1:(0:Int)<=(j:Int):=Qn _;have c2:(j:Int)<(yt.length:Int):=by omega
       have t0y:∀W,Upd (Zz bd bl bx) wr W->W.cell? ⟨wp.heap.size,0,none⟩=some (Qi yk):=fun W u=>t0 W (hu2.trans u)
       have f4y:∀W,Upd (Zz bd bl bx) wr W->W.cell? ⟨fb,4,none⟩=some (.map (some bx)):=fun W u=>f4 W (hu2.trans u)
       have ii:Upd (Zz bd bl bx) wr wr:=Il _ _;obtain⟨aj,yK⟩:=Qe (Ze9 0 (yt.take j));have nM:=Qh (show Zbd yk 0 (yt.take (j+1))=Zbd yk 0 (yt.take j)++[((yk,aj),v)] by rw[ZhA yt yk 0 hltj hv,yK]);have wH:Hid (Ze9 0 (yt.take (j+1))=v):=Qh (Zi9 yt 0 hltj hv);rw[yK];have cy:MapE wr.drew bx Zim m2:=gN.out.mx_;obtain⟨w5,tz,fR,hu5⟩:=ZfT ZeE Tryz.underlying240 cy (yk,aj) (Qi v);change (Instr.mapUpdate 240 (.map (some bx)) (.agg #[Qi yk,Qi aj]) (Qi v)).run Tryz.prog wr.drew= .ok () w5 at tz;have cC:Upd (Zz bd bl bx) wr w5:=(hu5.of_drew).mono (fun i _ e=>Or.inr (Or.inr e))
       have F5:Hid (FindW w5 fb bd bl bx txs ords A c (some ad) d md ml (ZI m2 (yk,aj) (Qi v)) (ZV txs) (Zn txs) (ZL (ords.take k)++Zbd yk 0 (yt.take (j+1)))):=Qh (by
        have h:=gN.out;have h5:=hu5.of_drew;exact⟨h.blk.upd h5 (by have:=h.a1;unfold One;omega),h.md_.upd h5 (by have:=h.a2;unfold One;omega),h.ml_.upd h5 (by have:=h.a2;unfold One;omega),fR,h.dm,h.lm,by rw[nM.out,<-Gx];exact h.nm.put _ _,h.a1,h.a2⟩)
       clear cy fR hu5 yK hv gv;go_wp2
       go_region_held3 (fun W'=>Upd (Zz bd bl bx) wr W') (first|exact ii.drew|exact cC) (fail)
       clear tz;go_wp2;go_roundg (gk-1);exact⟨j+1,_,by omega,by rw[wH.out],by go_num,F5,hu2.trans cC⟩;omega
      ·obtain rfl:j=yt.length:=by omega
       have F5:Hid (FindW wr fb bd bl bx txs ords A c (some ad) d md ml m2 (ZV txs) (Zn txs) (ZL (ords.take (k+1)))):=Qh (by have:=gN.out;rw[G7]at this;rw[HX.out];exact this);go_wp2;go_roundg (GK-1);exact⟨k+1,m2,by omega,by go_num,F5,a9.out.trans hu2⟩;omega
    ·obtain rfl:k=ords.length:=by omega
     go_wp2;go_ret;exact⟨fb,bd,bl,bx,md,ml,mx,rfl,by have:=hf.out;rwa [G7]at this,tV.out,dW⟩
/- Edges of a history:what a read is a reason for. -/
def Z2(LD:Iv)(LW:List (Int×Int))(LN:List ((Int×Int)×Int))(ti:Int)(o:HOp):List Edge:=
 if o.tx=ti then [] else if o.tx≠0∧o.tx∉LD then [] else if o.tx≠0∧(ZD LW (o.tx,o.key):Int)≠o.nth then []
 else (if o.tx≠0 then [⟨o.tx,ti,2,o.key⟩] else [])++if Zaf LN (o.key,o.tx)≠0∧Zaf LN (o.key,o.tx)≠ti then [⟨ti,Zaf LN (o.key,o.tx),3,o.key⟩] else []
theorem ZcI{α:Type}[DecidableEq α](x:α):ZD ([]:List α) x=0:=rfl
theorem ZeW{α:Type}[DecidableEq α](a x:α):ZD [a] x=if x=a then 1 else 0:=by
 have:=Zk9 ([]:List α) a x
 simpa[ZcI]using this
theorem CntM.inc{m:List (Edge×Iz)}{g:Edge->Nat}(h:CntM m g)(a:Edge):CntM (ZI m a (Qi ((g a:Int)+1))) (fun x=>g x+ZD [a] x):=by
 refine(h.put a (g a+1) (by omega)).congr fun x=>?_
 rw[ZeW]
 by_cases e:x=a
 ·subst e;simp
 ·simp[e]
def Zyv(w:I0)(bc:Nat)(g:Edge->Nat)(l:List Edge)(e:Ending)(w':I0):Prop:=
 e= .returned (.tuple #[])∧∃mc,MapE w' bc Zaa mc∧CntM mc (fun x=>g x+ZD l x)∧Upd (One bc) w w'
theorem Zxt(w:I0)(fb bd bl bx bc:Nat)(txs:List HTx)(ords:List HOrd)(A:OA)(c:Nat)(B:OA)(d:Nat)(md:List (Int×Iz))(ml mx:List ((Int×Int)×Iz))(LD:Iv)(LW:List (Int×Int))(LN:List ((Int×Int)×Int))
  (ti:Int) (tv:Bool) (tA:OA) (tl tc:Nat) (yr:Bool) (yk yt yn:Int) (mc:List (Edge×Iz)) (g:Edge->Nat)
  (h:FindW w fb bd bl bx txs ords A c B d md ml mx LD LW LN) (hm:MapE w bc Zaa mc) (hg:CntM mc g) (hb:∀e,g e<=1000000000) (hd:bc≠fb∧bc≠bd∧bc≠bl∧bc≠bx):
  Calls Tryz.prog 140 #[.pointer (some ⟨fb,0,none⟩),.agg #[Qi ti,.bool tv,.slice tA tl tc],.agg #[.bool yr,Qi yk,Qi yt,Qi yn],.map (some bc)] w (Zyv w bc g (Z2 LD LW LN ti ⟨yr,yk,yt,yn⟩)):=by
 obtain⟨wb,ag⟩:=Qe ((w.alloc (.cells #[Qi ti,.bool tv,.slice tA tl tc] 39)).alloc (.cells #[.bool yr,Qi yk,Qi yt,Qi yn] 66));have u0:Upd No w wb:=by rw[<-ag];exact((Il No w).alloc _).alloc _
 have bT:Blk wb w.heap.size 39 [Qi ti,.bool tv,.slice tA tl tc]:=by rw[<-ag];exact(Im w _ _).alloc _
 have bO:Blk wb (w.heap.size+1) 66 [.bool yr,Qi yk,Qi yt,Qi yn]:=by
  rw[<-ag];have:=Im (w.alloc (.cells #[Qi ti,.bool tv,.slice tA tl tc] 39)) 66 [.bool yr,Qi yk,Qi yt,Qi yn]
  simpa using this
 have ft:=hm.lt;have FB:=Qh (h.upd u0 id id id id);have MB:=Qh (hm.upd u0 id);have HG:=Qh hg;have BND:=Qh hb;have UB:=Qh (u0.mono (T:=One bc) (fun _ _ e=>e.elim));have t0:∀W,Upd (One bc) wb W->W.cell? ⟨w.heap.size,0,none⟩=some (Qi ti):=fun W u=>by have:=(bT.upd u (by unfold One;omega)).cell 0;simpa using this
 have o1:∀W,Upd (One bc) wb W->W.cell? ⟨w.heap.size+1,1,none⟩=some (Qi yk):=fun W u=>by have:=(bO.upd u (by unfold One;omega)).cell 1;simpa using this
 have o2:∀W,Upd (One bc) wb W->W.cell? ⟨w.heap.size+1,2,none⟩=some (Qi yt):=fun W u=>by have:=(bO.upd u (by unfold One;omega)).cell 2;simpa using this
 have o3:∀W,Upd (One bc) wb W->W.cell? ⟨w.heap.size+1,3,none⟩=some (Qi yn):=fun W u=>by have:=(bO.upd u (by unfold One;omega)).cell 3;simpa using this
 have f2:∀W,Upd (One bc) wb W->W.cell? ⟨fb,2,none⟩=some (.map (some bd)):=fun W u=>by have:=(FB.out.blk.upd u (by unfold One;omega)).cell 2;simpa using this
 have f3:∀W,Upd (One bc) wb W->W.cell? ⟨fb,3,none⟩=some (.map (some bl)):=fun W u=>by have:=(FB.out.blk.upd u (by unfold One;omega)).cell 3;simpa using this
 have f4:∀W,Upd (One bc) wb W->W.cell? ⟨fb,4,none⟩=some (.map (some bx)):=fun W u=>by have:=(FB.out.blk.upd u (by unfold One;omega)).cell 4;simpa using this
 have L1:∀W,Upd (One bc) wb W->(Instr.lookup 113 (.map (some bd)) (Qi yt) false).run Tryz.prog W= .ok (Qi (if yt∈LD then 1 else 0)) W:=fun W u=>by
  have:=ZP ZdN Tryz.underlying113 ZaN (FB.out.md_.upd u (by unfold One;omega)).is yt
  rwa [FB.out.dm yt]at this
 have L2:∀W,Upd (One bc) wb W->(Instr.lookup 240 (.map (some bl)) (.agg #[Qi yt,Qi yk]) false).run Tryz.prog W= .ok (Qi (ZD LW (yt,yk):Int)) W:=fun W u=>by
  have:=ZP ZeE Tryz.underlying240 ZaN (FB.out.ml_.upd u (by unfold One;omega)).is (yt,yk)
  rwa [FB.out.lm.val]at this
 have L3:∀W,Upd (One bc) wb W->(Instr.lookup 240 (.map (some bx)) (.agg #[Qi yk,Qi yt]) false).run Tryz.prog W= .ok (Qi (Zaf LN (yk,yt))) W:=fun W u=>by
  have:=ZP ZeE Tryz.underlying240 ZaN (FB.out.mx_.upd u (by unfold One;omega)).is (yk,yt)
  rwa [FB.out.nm (yk,yt)]at this
 have hr:Upd (One bc) wb wb:=Il _ _;have zp:=fun n=>hr.drewN n
 have H1:=Qh (hg.congr (f:=fun x=>g x+ZD [] x) (fun x=>by rw[ZcI];rfl));clear h hm hg hb ft hd u0 bT bO
 by_cases c1:yt=ti
 ·have HV:=Qh (show Z2 LD LW LN ti ⟨yr,yk,yt,yn⟩=[] by unfold Z2;rw[if_pos c1]);have c2:(yt==ti)=true:=by simpa using c1
  have HC:=Qh c1;clear c1;go_enter Tryz.func140,Tryz.ntmps140;go_wp2
  go_quiet (fail)
  go_wp2
  go_end0
  exact⟨rfl,mc,MB.out,by rw[HV.out];exact H1.out,UB.out.trans (hr.drewN _)⟩
 ·have c2:(yt==ti)=false:=by simpa using c1
  by_cases c3:yt=0
  ·have c4:(yt != 0)=false:=by simpa using c3
   have HR:Hid (Z2 LD LW LN ti ⟨yr,yk,yt,yn⟩=[]++if Zaf LN (yk,yt)≠0∧Zaf LN (yk,yt)≠ti then [⟨ti,Zaf LN (yk,yt),3,yk⟩] else []):=Qh (by
    unfold Z2;rw[if_neg c1,if_neg (fun h=>h.1 c3),if_neg (fun h=>h.1 c3),if_neg (fun h=>h c3)])
   clear c1 c3;go_enter Tryz.func140,Tryz.ntmps140;go_wp2
   go_quiet (fail)
   have sP:=zp nq;have il:MapE (wb.drewN nq) bc Zaa mc:=MB.out;generalize wb.drewN nq=wu at*;have HE:=Qh (show∀z,g z=g z+ZD ([]:List Edge) z from fun z=>by rw[ZcI];rfl);obtain⟨x,hx⟩:=Qe (Zaf LN (yk,yt));rw[hx]at L3 HR;clear hx;have hq:=fun n=>Upd.drewN sP n
   by_cases aZ:x=0
   ·have HV:=Qh (show Z2 LD LW LN ti ⟨yr,yk,yt,yn⟩=[] by rw[HR.out,if_neg (fun h=>h.1 aZ),Ho]);subst aZ;go_wp2
    go_quiet (fail)
    go_wp2
    go_end0
    exact⟨rfl,_,il,by rw[HV.out];exact(HG.out).congr HE.out,UB.out.trans (Upd.drewN sP _)⟩
   ·have eo:(x != 0)=true:=by simpa using aZ
    by_cases hxt:x=ti
    ·have cO:(x != ti)=false:=by simpa using hxt
     have HV:=Qh (show Z2 LD LW LN ti ⟨yr,yk,yt,yn⟩=[] by rw[HR.out,if_neg (fun h=>h.2 hxt),Ho]);clear hxt aZ;go_wp2
     go_quiet (fail)
     go_wp2
     go_end0
     exact⟨rfl,_,il,by rw[HV.out];exact(HG.out).congr HE.out,UB.out.trans (Upd.drewN sP _)⟩
    ·have cO:(x != ti)=true:=by simpa using hxt
     have HV:=Qh (show Z2 LD LW LN ti ⟨yr,yk,yt,yn⟩=[]++[⟨ti,x,3,yk⟩] by rw[HR.out,if_pos ⟨aZ,hxt⟩]);clear hxt aZ;go_wp2
     go_quiet (fail)
     have wW:=hq nq;have wK:MapE ((wu).drewN nq) bc Zaa mc:=il;generalize (wu).drewN nq=wq at*;go_wp2;have cy:MapE wq.drew bc Zaa mc:=wK;obtain⟨N,hN⟩:=Qe (g ⟨ti,x,3,yk⟩);have bP:(ZX mc (⟨ti,x,3,yk⟩:Edge)).getD (Qi 0)= Qi (N:Int):=by rw[(HG.out).val,hN]
     have uj:N<=2000000000:=by have:=(BND.out ⟨ti,x,3,yk⟩);omega
     obtain⟨st,w6,e2,gu,hu6,am⟩:=Zdr ZbV Tryz.underlying130 ZaN cy (⟨ti,x,3,yk⟩:Edge);have e1:=ZP ZbV Tryz.underlying130 ZaN cy.is (⟨ti,x,3,yk⟩:Edge);have e3:=ZP ZbV Tryz.underlying130 ZaN gu.is (⟨ti,x,3,yk⟩:Edge);rw[Zai,Option.getD_some]at e3;rw[bP]at e1 e2 e3;obtain⟨w7,e4,jD,aq⟩:=am (Qi ((N:Int)+1));change (Instr.lookup 130 (.map (some bc)) (.agg #[Qi ti,Qi x,Qi 3,Qi yk]) false).run Tryz.prog wq.drew= .ok (Qi N) wq.drew at e1;change (Instr.lookup 130 (.map (some bc)) (.agg #[Qi ti,Qi x,Qi 3,Qi yk]) false).run Tryz.prog w6= .ok (Qi N) w6 at e3;change (Instr.mapEntry 130 (.map (some bc)) (.agg #[Qi ti,Qi x,Qi 3,Qi yk])).run Tryz.prog wq.drew= .ok (.tuple #[Qi N,Qi st]) w6 at e2;change (Instr.entryStore 130 (.map (some bc)) (Qi st) (Qi ((N:Int)+1))).run Tryz.prog w6= .ok () w7 at e4;have hxz:Upd (One bc) wb wq:=wW;have aw:Upd (One bc) wb w6:=hxz.trans hu6.of_drew;have az:Upd (One bc) wb w7:=hxz.trans aq.of_drew;have oQ:=Qh jD;have iw:=Qh ((HG.out).inc (⟨ti,x,3,yk⟩:Edge));rw[hN]at iw;clear cy hN bP am gu jD hu6 aq;have jJ:IntKind.i64.wrap ((N:Int)+1)=(N:Int)+1:=IntWalk.i64_in _ (by omega)
     go_region_held3 (fun W'=>Upd (One bc) wb W') (first|exact hxz.drew|exact aw|exact az) (fail)
     all_goals
      clear e1 e2 e3 e4 jJ;go_wp2
      go_end0
      exact⟨rfl,_,oQ.out,by rw[HV.out];exact iw.out.congr (fun z=>by rw[Za3];have:=HE.out z;omega),UB.out.trans az⟩
  ·have c4:(yt != 0)=true:=by simpa using c3
   by_cases c5:yt∈LD
   ·obtain⟨N0,gQ⟩:=Qe (ZD LW (yt,yk));rw[gQ]at L2;simp only[if_pos c5]at L1
    by_cases c6:(N0:Int)=yn
    ·have c7:((N0:Int) != yn)=false:=by simpa using c6
     have HR:Hid (Z2 LD LW LN ti ⟨yr,yk,yt,yn⟩=[⟨yt,ti,2,yk⟩]++if Zaf LN (yk,yt)≠0∧Zaf LN (yk,yt)≠ti then [⟨ti,Zaf LN (yk,yt),3,yk⟩] else []):=Qh (by
      unfold Z2;rw[if_neg c1,if_neg (fun h=>h.2 c5),if_neg (fun h=>h.2 (by rw[gQ];exact c6)),if_pos c3])
     clear c1 c3 c5 c6 gQ;go_enter Tryz.func140,Tryz.ntmps140;go_wp2
     go_quiet (fail)
     have sP:=zp nq;have il:MapE (wb.drewN nq) bc Zaa mc:=MB.out;generalize wb.drewN nq=wu at*;go_wp2;have cy:MapE wu.drew bc Zaa mc:=il;obtain⟨N,hN⟩:=Qe (g ⟨yt,ti,2,yk⟩);have bP:(ZX mc (⟨yt,ti,2,yk⟩:Edge)).getD (Qi 0)= Qi (N:Int):=by rw[(HG.out).val,hN]
     have uj:N<=2000000000:=by have:=(BND.out ⟨yt,ti,2,yk⟩);omega
     obtain⟨st,w6,e2,gu,hu6,am⟩:=Zdr ZbV Tryz.underlying130 ZaN cy (⟨yt,ti,2,yk⟩:Edge);have e1:=ZP ZbV Tryz.underlying130 ZaN cy.is (⟨yt,ti,2,yk⟩:Edge);have e3:=ZP ZbV Tryz.underlying130 ZaN gu.is (⟨yt,ti,2,yk⟩:Edge);rw[Zai,Option.getD_some]at e3;rw[bP]at e1 e2 e3;obtain⟨w7,e4,jD,aq⟩:=am (Qi ((N:Int)+1));change (Instr.lookup 130 (.map (some bc)) (.agg #[Qi yt,Qi ti,Qi 2,Qi yk]) false).run Tryz.prog wu.drew= .ok (Qi N) wu.drew at e1;change (Instr.lookup 130 (.map (some bc)) (.agg #[Qi yt,Qi ti,Qi 2,Qi yk]) false).run Tryz.prog w6= .ok (Qi N) w6 at e3;change (Instr.mapEntry 130 (.map (some bc)) (.agg #[Qi yt,Qi ti,Qi 2,Qi yk])).run Tryz.prog wu.drew= .ok (.tuple #[Qi N,Qi st]) w6 at e2;change (Instr.entryStore 130 (.map (some bc)) (Qi st) (Qi ((N:Int)+1))).run Tryz.prog w6= .ok () w7 at e4;have hxz:Upd (One bc) wb wu:=sP;have aw:Upd (One bc) wb w6:=hxz.trans hu6.of_drew;have az:Upd (One bc) wb w7:=hxz.trans aq.of_drew;have oQ:=Qh jD;have iw:=Qh ((HG.out).inc (⟨yt,ti,2,yk⟩:Edge));rw[hN]at iw;clear cy hN bP am gu jD hu6 aq;have jJ:IntKind.i64.wrap ((N:Int)+1)=(N:Int)+1:=IntWalk.i64_in _ (by omega)
     go_region_held3 (fun W'=>Upd (One bc) wb W') (first|exact hxz.drew|exact aw|exact az) (fail)
     all_goals
      clear e1 e2 e3 e4 jJ;obtain⟨M2,rG⟩:=Qe (ZI mc (⟨yt,ti,2,yk⟩:Edge) (Qi ((N:Int)+1)));obtain⟨g1,dN⟩:∃g1:Edge->Nat,(fun x=>g x+ZD [(⟨yt,ti,2,yk⟩:Edge)] x)=g1:=⟨_,rfl⟩;rw[rG,dN]at iw;rw[rG]at oQ;have HE:=Qh (show∀z,g1 z=g z+ZD [(⟨yt,ti,2,yk⟩:Edge)] z from fun z=>by rw[<-dN]);have dq:=Qh (show∀z,g1 z<=1000000001 from fun z=>by have h1:=BND.out z;have h2:=Zj3 [(⟨yt,ti,2,yk⟩:Edge)] z;simp at h2;rw[HE.out];omega);have y7:=oQ;have tK:=iw;have wZ:=az;clear rG dN oQ iw aw az hxz;obtain⟨x,hx⟩:=Qe (Zaf LN (yk,yt));rw[hx]at L3 HR;clear hx;have hq:=fun n=>Upd.drewN wZ n
      by_cases aZ:x=0
      ·have HV:=Qh (show Z2 LD LW LN ti ⟨yr,yk,yt,yn⟩=[⟨yt,ti,2,yk⟩] by rw[HR.out,if_neg (fun h=>h.1 aZ),Ho]);subst aZ;go_wp2
       go_quiet (fail)
       go_wp2
       go_end0
       exact⟨rfl,_,y7.out,by rw[HV.out];exact(tK.out).congr HE.out,UB.out.trans (Upd.drewN wZ _)⟩
      ·have eo:(x != 0)=true:=by simpa using aZ
       by_cases hxt:x=ti
       ·have cO:(x != ti)=false:=by simpa using hxt
        have HV:=Qh (show Z2 LD LW LN ti ⟨yr,yk,yt,yn⟩=[⟨yt,ti,2,yk⟩] by rw[HR.out,if_neg (fun h=>h.2 hxt),Ho]);clear hxt aZ;go_wp2
        go_quiet (fail)
        go_wp2
        go_end0
        exact⟨rfl,_,y7.out,by rw[HV.out];exact(tK.out).congr HE.out,UB.out.trans (Upd.drewN wZ _)⟩
       ·have cO:(x != ti)=true:=by simpa using hxt
        have HV:=Qh (show Z2 LD LW LN ti ⟨yr,yk,yt,yn⟩=[⟨yt,ti,2,yk⟩]++[⟨ti,x,3,yk⟩] by rw[HR.out,if_pos ⟨aZ,hxt⟩]);clear hxt aZ;go_wp2
        go_quiet (fail)
        have wW:=hq nq;have wK:MapE ((w7).drewN nq) bc Zaa M2:=y7.out;generalize (w7).drewN nq=wq at*;go_wp2;have cy:MapE wq.drew bc Zaa M2:=wK;obtain⟨N,hN⟩:=Qe (g1 ⟨ti,x,3,yk⟩);have bP:(ZX M2 (⟨ti,x,3,yk⟩:Edge)).getD (Qi 0)= Qi (N:Int):=by rw[(tK.out).val,hN]
        have uj:N<=2000000000:=by have:=(dq.out ⟨ti,x,3,yk⟩);omega
        obtain⟨st,w6,e2,gu,hu6,am⟩:=Zdr ZbV Tryz.underlying130 ZaN cy (⟨ti,x,3,yk⟩:Edge);have e1:=ZP ZbV Tryz.underlying130 ZaN cy.is (⟨ti,x,3,yk⟩:Edge);have e3:=ZP ZbV Tryz.underlying130 ZaN gu.is (⟨ti,x,3,yk⟩:Edge);rw[Zai,Option.getD_some]at e3;rw[bP]at e1 e2 e3;obtain⟨w7,e4,jD,aq⟩:=am (Qi ((N:Int)+1));change (Instr.lookup 130 (.map (some bc)) (.agg #[Qi ti,Qi x,Qi 3,Qi yk]) false).run Tryz.prog wq.drew= .ok (Qi N) wq.drew at e1;change (Instr.lookup 130 (.map (some bc)) (.agg #[Qi ti,Qi x,Qi 3,Qi yk]) false).run Tryz.prog w6= .ok (Qi N) w6 at e3;change (Instr.mapEntry 130 (.map (some bc)) (.agg #[Qi ti,Qi x,Qi 3,Qi yk])).run Tryz.prog wq.drew= .ok (.tuple #[Qi N,Qi st]) w6 at e2;change (Instr.entryStore 130 (.map (some bc)) (Qi st) (Qi ((N:Int)+1))).run Tryz.prog w6= .ok () w7 at e4;have hxz:Upd (One bc) wb wq:=wW;have aw:Upd (One bc) wb w6:=hxz.trans hu6.of_drew;have az:Upd (One bc) wb w7:=hxz.trans aq.of_drew;have oQ:=Qh jD;have iw:=Qh ((tK.out).inc (⟨ti,x,3,yk⟩:Edge));rw[hN]at iw;clear cy hN bP am gu jD hu6 aq;have jJ:IntKind.i64.wrap ((N:Int)+1)=(N:Int)+1:=IntWalk.i64_in _ (by omega)
        go_region_held3 (fun W'=>Upd (One bc) wb W') (first|exact hxz.drew|exact aw|exact az) (fail)
        all_goals
         clear e1 e2 e3 e4 jJ;go_wp2
         go_end0
         exact⟨rfl,_,oQ.out,by rw[HV.out];exact iw.out.congr (fun z=>by rw[Za3];have:=HE.out z;omega),UB.out.trans az⟩
    ·have c7:((N0:Int) != yn)=true:=by simpa using c6
     have HV:=Qh (show Z2 LD LW LN ti ⟨yr,yk,yt,yn⟩=[] by unfold Z2;rw[if_neg c1,if_neg (fun h=>h.2 c5),if_pos ⟨c3,by rw[gQ];exact c6⟩]);clear c1 c3 c5 c6 gQ;go_enter Tryz.func140,Tryz.ntmps140;go_wp2
     go_quiet (fail)
     go_wp2
     go_end0
     exact⟨rfl,mc,MB.out,by rw[HV.out];exact H1.out,UB.out.trans (hr.drewN _)⟩
   ·have HV:=Qh (show Z2 LD LW LN ti ⟨yr,yk,yt,yn⟩=[] by unfold Z2;rw[if_neg c1,if_pos ⟨c3,c5⟩]);simp only[if_neg c5]at L1;clear c1 c3 c5;go_enter Tryz.func140,Tryz.ntmps140;go_wp2
    go_quiet (fail)
    go_wp2
    go_end0
    exact⟨rfl,mc,MB.out,by rw[HV.out];exact H1.out,UB.out.trans (hr.drewN _)⟩
/- Edges of a history,as they are counted:in plain words. -/
def wwO(key:Int):Iv->List Edge
 |[]=>[]
 |a::l=>(match l with|[]=>[]|b::_=>[⟨a,b,1,key⟩])++wwO key l
theorem Zls(key:Int):∀(l:Iv) {k:Nat} {a b:Int} (h1:k+1<l.length),l[k]=a->l[k+1]=b->wwO key (l.take (k+2))=wwO key (l.take (k+1))++[⟨a,b,1,key⟩]
 |x::y::l,0,a,b,_,ha,hb=>by
  simp at ha hb;subst ha hb;simp[wwO]
 |x::y::l,k+1,a,b,h,ha,hb=>by
  have ih:=Zls key (y::l) (k:=k) (a:=a) (b:=b) (by simpa using h) (by simpa using ha) (by simpa using hb);have e1:(x::y::l).take (k+1+2)=x::(y::l).take (k+2):=rfl;have e2:(x::y::l).take (k+1+1)=x::(y::l).take (k+1):=rfl;rw[e1,e2];have e3:∀n,wwO key (x::(y::l).take (n+1))=[⟨x,y,1,key⟩]++wwO key ((y::l).take (n+1)):=fun n=>rfl
  rw[e3 (k+1),e3 k,ih,Gx]
def wwC(cnt:Int->Bool)(o:HOrd):List Edge:=if cnt o.key then wwO o.key o.txs else []
def wwL(cnt:Int->Bool)(ords:List HOrd):List Edge:=ords.flatMap (wwC cnt)
theorem Zr1{cnt:Int->Bool}{ords:List HOrd}{k:Nat}{x:HOrd}(hk:k<ords.length)(hx:ords[k]=x):wwL cnt (ords.take (k+1))=wwL cnt (ords.take k)++wwC cnt x:=by
 subst hx;unfold wwL;rw[Gb hk,List.flatMap_append];simp
def Zbw(L:List Edge)(e:Edge):Nat:=if e∈L then 1 else 0
theorem ZsV{m:List (Edge×Iz)}{L:List Edge}(h:CntM m (Zbw L))(a:Edge):CntM (ZI m a (Qi 1)) (Zbw (L++[a])):=by
 refine CntM.congr (show CntM (ZI m a (Qi ((1:Nat):Int))) _ from h.put a 1 (by omega)) fun x=>?_
 unfold Zbw
 by_cases e:x=a
 ·subst e;simp
 ·simp[e]
def rdO(cnt:Int->Bool)(LD:Iv)(LW:List (Int×Int))(LN:List ((Int×Int)×Int))(ti:Int)(l:Is):List Edge:=(l.filter fun o=>o.read&&cnt o.key).flatMap (Z2 LD LW LN ti)
theorem Zsp{cnt:Int->Bool}{LD:Iv}{LW:List (Int×Int)}{LN:List ((Int×Int)×Int)}{ti:Int}{l:Is}{k:Nat}{x:HOp}(hk:k<l.length)(hx:l[k]=x):
  rdO cnt LD LW LN ti (l.take (k+1))=rdO cnt LD LW LN ti (l.take k)++if x.read&&cnt x.key then Z2 LD LW LN ti x else []:=by
 subst hx;unfold rdO;rw[Gb hk,List.filter_append,List.flatMap_append]
 cases h:(l[k].read&&cnt l[k].key)<;>simp[h]
def rdL(cnt:Int->Bool)(LD:Iv)(LW:List (Int×Int))(LN:List ((Int×Int)×Int))(txs:List HTx):List Edge:=(txs.filter (·.done)).flatMap fun t=>rdO cnt LD LW LN t.id t.ops
theorem Zsq{cnt:Int->Bool}{LD:Iv}{LW:List (Int×Int)}{LN:List ((Int×Int)×Int)}{txs:List HTx}{k:Nat}{x:HTx}(hk:k<txs.length)(hx:txs[k]=x):
  rdL cnt LD LW LN (txs.take (k+1))=rdL cnt LD LW LN (txs.take k)++if x.done then rdO cnt LD LW LN x.id x.ops else []:=by
 subst hx;unfold rdL;rw[Gb hk,List.filter_append,List.flatMap_append]
 cases h:txs[k].done<;>simp[h]
theorem Zkj(LD:Iv)(LW:List (Int×Int))(LN:List ((Int×Int)×Int))(ti:Int)(o:HOp):(Z2 LD LW LN ti o).length<=2:=by
 unfold Z2
 split
 ·simp
 ·split
  ·simp
  ·split
   ·simp
   ·rw[Gt]
    split<;>split<;>simp
def Zo7(cnt:Int->Bool)(txs:List HTx)(ords:List HOrd)(e:Edge):Nat:=Zbw (wwL cnt ords) e+ZD (rdL cnt (ZV txs) (Zn txs) (ZL ords) txs) e
def Zei(cnt:Int->Bool)(h:Hist)(e:Edge):Nat:=if Zb h=true then Zo7 cnt h.txs h.ords e else 0
theorem Zu1(L:List Edge)(e:Edge):Zbw L e<=1:=by unfold Zbw;split<;>omega
theorem Zkh{h:Hist}(hr:Zb h=true):h.txs.length<=4096:=by
 apply Classical.byContradiction
 intro hn;rw[ZiJ (by omega)]at hr
 cases hr
theorem Zqj{h:Hist}(hr:Zb h=true){t:HTx}(ht:t∈h.txs):t.ops.length<=4095:=by
 have h1:=(Zc6 hr ht).1;unfold ZaT at h1
 split at h1
 ·cases h1
 ·split at h1
  ·cases h1
  ·omega
/- Edges of a history:dsg.counted is walked. -/
def ZvH(w:I0)(g:Edge->Nat)(e:Ending)(w':I0):Prop:=
 ∃bc mc,e= .returned (.map (some bc))∧w.heap.size<=bc∧MapE w' bc Zaa mc∧CntM mc g∧Upd No w w'
theorem Zvr(w:I0)(key:Int):CN 84 #[Qi key] w (.bool true):=by
 go_enter Tryz.func84,Tryz.ntmps84;go_wp2;go_ret;exact⟨rfl,Il _ _⟩
/- Edges of a history:dsg.counted,called by dsg.Edges$1. -/
theorem Zru(F:Iw)(w:I0)(txs:List HTx)(ords:List HOrd)(A:OA)(c:Nat)(B:OA)(d:Nat)(cnt:Int->Bool)(H:Hist.lies F w ⟨txs,ords,A,c,B,d⟩)
  (hc:Hid (∀W key,Upd No w W->CN 84 #[Qi key] W (.bool (cnt key)))):
  Calls Tryz.prog 83 #[.agg #[.slice A txs.length c,.slice B ords.length d],.func (.func 84) #[] #[]] w (ZvH w (Zei cnt ⟨txs,ords,A,c,B,d⟩)):=by
 have eT:= @run_makeMap Tryz.prog;have HH:=Qh H;have n3:ords.length<=4398046511103:=H.fewo;obtain⟨z,hz⟩:=Qe w.heap.size;obtain⟨w1,ap⟩:=Qe (w.alloc (.cells #[.slice A txs.length c,.slice B ords.length d] 25));have s1:w1.heap.size=z+1:=by rw[<-ap,<-hz];simp
 obtain⟨wb,ag⟩:=Qe (w1.alloc (.map #[] 0));have u1:Upd No w w1:=by rw[<-ap];exact(Il No w).alloc _
 have u2:Upd No w1 wb:=by rw[<-ag];exact(Il No w1).alloc _
 have hM:MapE wb (z+1) Zaa []:=by rw[<-ag,<-s1];exact MapE.new w1 _
 have bH:Blk wb z 25 [.slice A txs.length c,.slice B ords.length d]:=by
  have:Blk w1 z 25 [.slice A txs.length c,.slice B ords.length d]:=by rw[<-ap,<-hz];exact Im w _ _
  exact this.upd u2 id
 have HU:=Qh (u1.trans u2);have iu:=Qh hM;have HZ:=Qh (show w.heap.size<=z∧z+1<wb.heap.size by rw[<-ag];simp;omega);have dK:z<wb.heap.size:=bH.lt;have g0:∀W,Upd (One (z+1)) wb W->W.cell? ⟨z,0,none⟩=some (.slice A txs.length c):=fun W u=>by have:=(bH.upd u (by unfold One;omega)).cell 0;simpa using this
 have g1:∀W,Upd (One (z+1)) wb W->W.cell? ⟨z,1,none⟩=some (.slice B ords.length d):=fun W u=>by have:=(bH.upd u (by unfold One;omega)).cell 1;simpa using this
 have hbz:Upd (One (z+1)) wb wb:=Il _ _;have HR:=Qh (fun W (u:Upd No w W)=>ZeP F W ⟨txs,ords,A,c,B,d⟩ (H.upd u Qo));unfold Hist.val at HR;simp only at HR;clear u1 u2 hM bH H dK
 cases hr:Zb ⟨txs,ords,A,c,B,d⟩
 ·rw[hr]at HR;have HG:=Qh (show∀e,(fun _=>0) e=Zei cnt ⟨txs,ords,A,c,B,d⟩ e from fun e=>by unfold Zei;rw[hr];rfl);clear hr;go_enter Tryz.func83,Tryz.ntmps83;go_wp2_with fail;refine Ck (HR.out _ HU.out) fun w2 hu2=>?_;go_wp2;go_ret;exact⟨z+1,[],rfl,by have:=HZ.out;omega,iu.out.upd hu2 id,CntM.new.congr HG.out,HU.out.trans hu2⟩
 ·rw[hr]at HR;have n1:=Zkh hr;have n2:∀t∈txs,t.ops.length<=4095:=fun t ht=>Zqj hr ht
  simp only at n1;have HG:=Qh (show∀e,Zbw (wwL cnt ords) e+ZD (rdL cnt (ZV txs) (Zn txs) (ZL ords) txs) e=Zei cnt ⟨txs,ords,A,c,B,d⟩ e from fun e=>by unfold Zei;rw[hr];rfl);have vh:=Qh (fun W (u:Upd No w W)=>ZxA F W txs ords A c B d (HH.out.upd u Qo) n1 n2);clear hr;go_enter Tryz.func83,Tryz.ntmps83;go_wp2_with fail;refine Ck (HR.out _ HU.out) fun w2 hu2=>?_;have dH:=HU.out.trans hu2;have fy:=hu2.size;have pS:Upd (One (z+1)) wb w2:=hu2.mono (fun _ _ e=>e.elim);go_wp2_with fail;refine(vh.out w2 dH).mono ?_;rintro e w3 ⟨fb,bd,bl,bx,md,ml,mx,rfl,Cs,du,hu3⟩;have fW:=dH.trans hu3;have lJ:Upd (One (z+1)) wb w3:=pS.trans (hu3.mono (fun _ _ e=>e.elim));have r9:=Qh Cs;have HD:=Qh (show z+1≠fb∧z+1≠bd∧z+1≠bl∧z+1≠bx by have:=HZ.out;omega);obtain⟨bc,cN⟩:=Qe (z+1);have lz:Hid (MapE w3 bc Zaa []):=Qh (by rw[<-cN];exact(iu.out.upd hu2 id).upd hu3 id);have AH:=Qh (show w.heap.size<=bc by have:=HZ.out;omega);have mV:=Qh fW;rw[cN]at HD g0 g1 lJ;have g0:∀W,Upd (One bc) w3 W->W.cell? ⟨z,0,none⟩=some (.slice A txs.length c):=fun W u=>g0 W (lJ.trans u)
  have g1:∀W,Upd (One bc) w3 W->W.cell? ⟨z,1,none⟩=some (.slice B ords.length d):=fun W u=>g1 W (lJ.trans u)
  have eY:Upd (One bc) w3 w3:=Il _ _;have jA:=Qh (show∀W,Upd (One bc) w3 W->Upd No w W from fun W u=>mV.out.then_ u (fun i e=>Or.inr (by unfold One at e;have:=AH.out;omega)));clear Cs du hu3 fW dH fy hbz pS lJ hu2 eT ap ag hz;rw[cN];go_wp2
  go_loopg [24] ords.length (fun gk i wr=>∃(k:Nat) (mc:List (Edge×Iz)),k+gk=ords.length∧i= Qi k∧Hid (MapE wr bc Zaa mc)∧Hid (CntM mc (Zbw (wwL cnt (ords.take k))))∧Upd (One bc) w3 wr)
  case atStart=>exact⟨0,[],by omega,rfl,lz,Qh (CntM.new.congr (fun e=>by simp[Zbw,wwL])),eY⟩
  case round=>
   obtain⟨k,mc,aI,rfl,hm,hg,hu⟩:=hrel;have dW:=jA.out _ hu
   by_cases hlt:k<ords.length
   ·obtain⟨ad,aH,q0,q1⟩:=(HH.out.upd dW Qo).ord_at hlt;simp only at aH q0 q1;have aZ:=HH.out.ord ords[k] (Hg hlt);obtain⟨⟨yk,yt,yA,yc⟩,hx⟩:∃x,ords[k]=x:=⟨_,rfl⟩;rw[hx]at q0 q1 aZ;simp only at q0 q1;subst aH;have lZ:Hid (Ints F w yA yt):=Qh aZ.1;have lB:yt.length<=17592186044415:=aZ.2.2.1;have b1:(0:Int)<=(k:Int):=Qn _;have b2:(k:Int)<(ords.length:Int):=by omega
    obtain⟨wx,aJ⟩:=Qe (wr.alloc (.cells #[Qi yk,.slice yA yt.length yc] 68));have ux:Upd No wr wx:=by rw[<-aJ];exact(Il No wr).alloc _
    have bo:Blk wx wr.heap.size 68 [Qi yk,.slice yA yt.length yc]:=by rw[<-aJ];exact Im wr _ _
    have ej:=hm.out.lt;have MX:=Qh (hm.out.upd ux id);have a9:=Qh (hu.trans (ux.mono (fun _ _ e=>e.elim)));have t0:∀W,Upd (One bc) wx W->W.cell? ⟨wr.heap.size,0,none⟩=some (Qi yk):=fun W u=>by have:=(bo.upd u (by unfold One;omega)).cell 0;simpa using this
    have t1:∀W,Upd (One bc) wx W->W.cell? ⟨wr.heap.size,1,none⟩=some (.slice yA yt.length yc):=fun W u=>by have:=(bo.upd u (by unfold One;omega)).cell 1;simpa using this
    have hxz:Upd (One bc) wx wx:=Il _ _;have HX:=Qh (Zr1 (cnt:=cnt) hlt hx);have HC:=Qh (fun W (u:Upd (One bc) wx W)=>hc.out W yk (jA.out W (a9.out.trans u)));obtain⟨cv,hcv⟩:=Qe (cnt yk);rw[hcv]at HC;have qM:=Qh hcv;clear hx bo ux dW aZ ej hcv;obtain⟨wp,pi⟩:∃wp,wp=wr:=⟨_,rfl⟩;subst pi;generalize gk=GK at*;go_wp2
    go_loopg [9] yt.length (fun gj i wr=>∃(j:Nat) (m2:List (Edge×Iz)),gj=yt.length-j∧i= Qi ((j:Int)+1)∧j<=yt.length∧Hid (cv=false->j=0)∧Hid (MapE wr bc Zaa m2)∧Hid (CntM m2 (Zbw (wwL cnt (ords.take k)++wwO yk (yt.take (j+1)))))∧Upd (One bc) wx wr)
    case atStart=>exact⟨0,mc,by omega,rfl,by omega,Qh (fun _=>rfl),MX,Qh (by have:=hg.out;cases yt<;>simpa[wwO]using this),hxz⟩
    case round=>
     obtain⟨j,m2,kP,rfl,sH,Ad,bh,dF,hu2⟩:=hrel
     by_cases hltj:j+1<yt.length
     ·have c1:(0:Int)<=(j:Int):=Qn _;have c2:(j:Int)+1<(yt.length:Int):=by omega
      have c3:(j:Int)<(yt.length:Int):=by omega
      have po:=HC.out _ hu2
      cases cv
      ·obtain rfl:j=0:=Ad.out rfl;have cJ:Hid (CntM m2 (Zbw (wwL cnt (ords.take (k+1))))):=Qh (by rw[HX.out];unfold wwC;rw[qM.out];have:=dF.out;cases yt<;>simpa[wwO]using this);go_wp2_with fail;refine Calls.mono po ?_;rintro e w5 ⟨rfl,hu5⟩;go_wp2;go_roundg (GK-1);exact⟨k+1,m2,by omega,by go_num,Qh (bh.out.upd (S:=No) hu5 id),cJ,(a9.out.trans hu2).trans (hu5.mono (fun _ _ e=>e.elim))⟩;omega
      ·go_wp2_with fail;refine Calls.mono po ?_;rintro e w5 ⟨rfl,hu5⟩;have gt:Upd (One bc) wr w5:=hu5.mono (fun _ _ e=>e.elim);have cF:=Qh ((a9.out.trans hu2).trans gt);have kK:j<yt.length:=by omega
       obtain⟨ad2,cq,_,_,p0⟩:=lZ.out.at_ kK;obtain⟨ad3,qh,_,_,p1⟩:=lZ.out.at_ hltj;obtain rfl:ad2=ad3:=by rw[cq]at qh;exact Option.some.inj qh
       obtain⟨va,jf⟩:∃v,yt[j]=v:=⟨_,rfl⟩;obtain⟨vb,hvb⟩:∃v,yt[j+1]=v:=⟨_,rfl⟩;rw[jf]at p0;rw[hvb]at p1;subst cq;have p0:∀W,Upd (One bc) w5 W->W.cell? (ad2.add j)=some (Qi va):=fun W u=>(jA.out W (cF.out.trans u)).keepNo p0
       have iW:ad2.add (j+1)=⟨ad2.block,ad2.off+(j+1),none⟩:=by unfold Addr.add;split<;>simp_all
       have p1:∀W,Upd (One bc) w5 W->W.cell? ⟨ad2.block,ad2.off+(j+1),none⟩=some (Qi vb):=fun W u=>by rw[<-iW];exact(jA.out W (cF.out.trans u)).keepNo p1
       have t0y:∀W,Upd (One bc) w5 W->W.cell? ⟨wp.heap.size,0,none⟩=some (Qi yk):=fun W u=>t0 W ((hu2.trans gt).trans u)
       have t1y:∀W,Upd (One bc) w5 W->W.cell? ⟨wp.heap.size,1,none⟩=some (.slice (some ad2) yt.length yc):=fun W u=>t1 W ((hu2.trans gt).trans u)
       have ii:Upd (One bc) w5 w5:=Il _ _;have cy:MapE w5.drew bc Zaa m2:=(bh.out.upd (S:=No) hu5 id:MapE w5 bc Zaa m2);obtain⟨w6,Bu,gu,hu6⟩:=ZfT ZbV Tryz.underlying130 cy (⟨va,vb,1,yk⟩:Edge) (Qi 1);change (Instr.mapUpdate 130 (.map (some bc)) (.agg #[Qi va,Qi vb,Qi 1,Qi yk]) (Qi 1)).run Tryz.prog w5.drew= .ok () w6 at Bu;have aw:Upd (One bc) w5 w6:=hu6.of_drew;have lW:=Qh gu
       have fa:=Qh (show CntM _ (Zbw (wwL cnt (ords.take k)++wwO yk (yt.take (j+1+1)))) from by
        have:=ZsV dF.out (⟨va,vb,1,yk⟩:Edge);rw[Gx,<-Zls yk yt hltj jf hvb]at this;exact this)
       have c4:(0:Int)<=(j:Int)+1:=by omega
       have c5:(j:Int)<=17592186044415:=by omega
       have ap:IntKind.i64.wrap ((j:Int)+1-1)=(j:Int):=by rw[Int.add_sub_cancel];exact IntWalk.i64_in _ (by omega)
       have bZ:IntKind.i64.wrap (j:Int)=(j:Int):=IntWalk.i64_in _ (by omega);clear cy gu hu6 jf hvb iW gt;go_wp2
       go_region_held3 (fun W'=>Upd (One bc) w5 W') (first|exact ii.drew|exact aw) (fail)
       clear Bu;go_wp2;go_roundg (gk-1);exact⟨j+1,_,by omega,by go_num,by omega,Qh (fun h=>by cases h),lW,fa,(hu2.trans (hu5.mono (fun _ _ e=>e.elim))).trans aw⟩;omega
     ·have cJ:Hid (CntM m2 (Zbw (wwL cnt (ords.take (k+1))))):=Qh (by
       rw[HX.out];unfold wwC;rw[qM.out];have h1:=dF.out
       cases cv
       ·obtain rfl:j=0:=Ad.out rfl;simp only[Bool.false_eq_true,if_false]
        cases yt with
        |nil=>simpa[wwO]using h1
        |cons y l=>cases l with
         |nil=>simpa[wwO]using h1
         |cons y2 l=>simp at hltj
       ·rw[List.take_of_length_le (l:=yt) (i:=j+1) (by omega)]at h1
        simpa using h1)
      have c2:¬(j:Int)+1<(yt.length:Int):=by omega
      go_wp2;go_roundg (GK-1);exact⟨k+1,m2,by omega,by go_num,bh,cJ,a9.out.trans hu2⟩;omega
   ·obtain rfl:k=ords.length:=by omega
    have kY:Hid (CntM mc (Zbw (wwL cnt ords))):=Qh (by have:=hg.out;rwa [G7]at this);have lU:=hm;have fC:=hu;clear hm hg dW;obtain⟨wo,gU⟩:∃wo,wo=wr:=⟨_,rfl⟩;subst gU;have g0o:∀W,Upd (One bc) wo W->W.cell? ⟨z,0,none⟩=some (.slice A txs.length c):=fun W u=>g0 W (fC.trans u)
    have jZ:Upd (One bc) wo wo:=Il _ _;obtain⟨LD,xG⟩:=Qe (ZV txs);obtain⟨LW,vr⟩:=Qe (Zn txs);obtain⟨LN,oa⟩:=Qe (ZL ords);obtain⟨WW,yR⟩:=Qe (wwL cnt ords);rw[xG,vr,oa]at r9;rw[xG,vr,oa,yR]at HG;rw[yR]at kY;clear xG vr oa yR g0 g1;go_wp2
    go_loopg [60] txs.length (fun gk i wr=>∃(k:Nat) (mc:List (Edge×Iz)),k+gk=txs.length∧i= Qi k∧Hid (MapE wr bc Zaa mc)∧Hid (CntM mc (fun e=>Zbw WW e+ZD (rdL cnt LD LW LN (txs.take k)) e))∧Hid ((rdL cnt LD LW LN (txs.take k)).length<=8190*k)∧Upd (One bc) wo wr)
    case atStart=>exact⟨0,mc,by omega,rfl,lU,Qh (kY.out.congr (fun e=>rfl)),Qh (by simp[rdL]),jZ⟩
    case round=>
     clear lU kY;obtain⟨k,mc,aI,rfl,hm,hg,AN,hu⟩:=hrel;have dW:=jA.out _ (fC.trans hu)
     by_cases hlt:k<txs.length
     ·obtain⟨ad,aH,q0,q1,q2⟩:=(HH.out.upd dW Qo).tx_at hlt;simp only at aH q0 q1 q2;have cO:=n2 _ (Hg hlt);have aZ:=HH.out.tx txs[k] (Hg hlt);obtain⟨⟨xi,xd,xo,xA,xc⟩,hx⟩:∃x,txs[k]=x:=⟨_,rfl⟩;rw[hx]at q0 q1 q2 cO aZ;simp only at q0 q1 q2 cO;subst aH;have lZ:Hid (HOps F w xA xo):=Qh aZ.1;have b1:(0:Int)<=(k:Int):=Qn _;have b2:(k:Int)<(txs.length:Int):=by omega
      obtain⟨wx,aJ⟩:=Qe (wr.alloc (.cells #[Qi xi,.bool xd,.slice xA xo.length xc] 39));have ux:Upd No wr wx:=by rw[<-aJ];exact(Il No wr).alloc _
      have bo:Blk wx wr.heap.size 39 [Qi xi,.bool xd,.slice xA xo.length xc]:=by rw[<-aJ];exact Im wr _ _
      have ej:=hm.out.lt;have MX:=Qh (hm.out.upd ux id);have a9:=Qh (hu.trans (ux.mono (fun _ _ e=>e.elim)));have t0:∀W,Upd (One bc) wx W->W.cell? ⟨wr.heap.size,0,none⟩=some (Qi xi):=fun W u=>by have:=(bo.upd u (by unfold One;omega)).cell 0;simpa using this
      have t1:∀W,Upd (One bc) wx W->W.cell? ⟨wr.heap.size,1,none⟩=some (.bool xd):=fun W u=>by have:=(bo.upd u (by unfold One;omega)).cell 1;simpa using this
      have t2:∀W,Upd (One bc) wx W->W.cell? ⟨wr.heap.size,2,none⟩=some (.slice xA xo.length xc):=fun W u=>by have:=(bo.upd u (by unfold One;omega)).cell 2;simpa using this
      have hxz:Upd (One bc) wx wx:=Il _ _;have HX:=Qh (Zsq (cnt:=cnt) (LD:=LD) (LW:=LW) (LN:=LN) hlt hx);simp only at HX;clear hx bo ux dW aZ ej;obtain⟨wp,pi⟩:∃wp,wp=wr:=⟨_,rfl⟩;subst pi;generalize gk=GK at*;go_wp2
      go_loopg [67] xo.length (fun gj i wr=>∃(j:Nat) (m2:List (Edge×Iz)),j+gj=xo.length∧i= Qi j∧Hid (MapE wr bc Zaa m2)∧Hid (CntM m2 (fun e=>Zbw WW e+ZD (rdL cnt LD LW LN (txs.take k)++if xd then rdO cnt LD LW LN xi (xo.take j) else []) e))∧Hid ((rdL cnt LD LW LN (txs.take k)++if xd then rdO cnt LD LW LN xi (xo.take j) else []).length<=8190*k+2*j)∧Upd (One bc) wx wr)
      case atStart=>exact⟨0,mc,by omega,rfl,MX,Qh (by have:=hg.out;cases xd<;>simpa[rdO]using this),Qh (by have:=AN.out;cases xd<;>simpa[rdO]using this),hxz⟩
      case round=>
       obtain⟨j,m2,kP,rfl,bh,dF,bC,hu2⟩:=hrel;have gv:=jA.out _ (fC.trans (a9.out.trans hu2))
       by_cases hltj:j<xo.length
       ·obtain⟨ad2,cq,p0,p1,p2,p3⟩:=(lZ.out.upd gv Qo).at_ hltj;obtain⟨⟨yr,yk,yt,yn⟩,hy⟩:∃y,xo[j]=y:=⟨_,rfl⟩;rw[hy]at p0 p1 p2 p3;simp only at p0 p1 p2 p3;subst cq;have c1:(0:Int)<=(j:Int):=Qn _;have c2:(j:Int)<(xo.length:Int):=by omega
        obtain⟨wy,iP⟩:=Qe (wr.alloc (.cells #[.bool yr,Qi yk,Qi yt,Qi yn] 66));have uy:Upd No wr wy:=by rw[<-iP];exact(Il No wr).alloc _
        have bo:Blk wy wr.heap.size 66 [.bool yr,Qi yk,Qi yt,Qi yn]:=by rw[<-iP];exact Im wr _ _
        have ej:=bh.out.lt;have MY:=Qh (bh.out.upd uy id);have eS:=Qh (hu2.trans (uy.mono (fun _ _ e=>e.elim)));have o0:∀W,Upd (One bc) wy W->W.cell? ⟨wr.heap.size,0,none⟩=some (.bool yr):=fun W u=>by have:=(bo.upd u (by unfold One;omega)).cell 0;simpa using this
        have o1:∀W,Upd (One bc) wy W->W.cell? ⟨wr.heap.size,1,none⟩=some (Qi yk):=fun W u=>by have:=(bo.upd u (by unfold One;omega)).cell 1;simpa using this
        have o2:∀W,Upd (One bc) wy W->W.cell? ⟨wr.heap.size,2,none⟩=some (Qi yt):=fun W u=>by have:=(bo.upd u (by unfold One;omega)).cell 2;simpa using this
        have o3:∀W,Upd (One bc) wy W->W.cell? ⟨wr.heap.size,3,none⟩=some (Qi yn):=fun W u=>by have:=(bo.upd u (by unfold One;omega)).cell 3;simpa using this
        have t0y:∀W,Upd (One bc) wy W->W.cell? ⟨wp.heap.size,0,none⟩=some (Qi xi):=fun W u=>t0 W (eS.out.trans u)
        have t1y:∀W,Upd (One bc) wy W->W.cell? ⟨wp.heap.size,1,none⟩=some (.bool xd):=fun W u=>t1 W (eS.out.trans u)
        have t2y:∀W,Upd (One bc) wy W->W.cell? ⟨wp.heap.size,2,none⟩=some (.slice (some ad2) xo.length xc):=fun W u=>t2 W (eS.out.trans u)
        have ii:Upd (One bc) wy wy:=Il _ _;have kL:=Qh (Zsp (cnt:=cnt) (LD:=LD) (LW:=LW) (LN:=LN) (ti:=xi) hltj hy);simp only at kL;clear hy bo uy gv ej
        cases xd
        ·have HN:=Qh (show(rdL cnt LD LW LN (txs.take k)++if false then rdO cnt LD LW LN xi (xo.take (j+1)) else [])=(rdL cnt LD LW LN (txs.take k)++if false then rdO cnt LD LW LN xi (xo.take j) else []) by simp);go_wp2;go_roundg (gk-1);exact⟨j+1,m2,by omega,by go_num,MY,Qh (by rw[HN.out];exact dF.out),Qh (by rw[HN.out];have:=bC.out;omega),eS.out⟩;omega
        ·cases yr
         ·have HN:=Qh (show(rdL cnt LD LW LN (txs.take k)++if true then rdO cnt LD LW LN xi (xo.take (j+1)) else [])=(rdL cnt LD LW LN (txs.take k)++if true then rdO cnt LD LW LN xi (xo.take j) else []) by rw[kL.out];simp);go_wp2;go_roundg (gk-1);exact⟨j+1,m2,by omega,by go_num,MY,Qh (by rw[HN.out];exact dF.out),Qh (by rw[HN.out];have:=bC.out;omega),eS.out⟩;omega
         ·obtain⟨cv,hcv⟩:=Qe (cnt yk);have po:=hc.out wy yk (jA.out wy (fC.trans (a9.out.trans eS.out)));rw[hcv]at po;have qM:=Qh hcv;clear hcv
          cases cv
          ·go_wp2_with fail;refine Calls.mono po ?_;rintro e w5 ⟨rfl,hu5⟩;have Fe:=Qh (MY.out.upd (S:=No) hu5 id);have xa:=Qh (eS.out.trans (hu5.mono (fun _ _ e=>e.elim)));have HN:=Qh (show(rdL cnt LD LW LN (txs.take k)++if true then rdO cnt LD LW LN xi (xo.take (j+1)) else [])=(rdL cnt LD LW LN (txs.take k)++if true then rdO cnt LD LW LN xi (xo.take j) else []) by rw[kL.out,qM.out];simp);go_wp2;go_roundg (gk-1);exact⟨j+1,m2,by omega,by go_num,Fe,Qh (by rw[HN.out];exact dF.out),Qh (by rw[HN.out];have:=bC.out;omega),xa.out⟩;omega
          ·have HN:=Qh (show(rdL cnt LD LW LN (txs.take k)++if true then rdO cnt LD LW LN xi (xo.take (j+1)) else [])=(rdL cnt LD LW LN (txs.take k)++if true then rdO cnt LD LW LN xi (xo.take j) else [])++Z2 LD LW LN xi ⟨true,yk,yt,yn⟩ by rw[kL.out,qM.out];simp);obtain⟨RR,AL⟩:=Qe ((rdL cnt LD LW LN (txs.take k)++if true then rdO cnt LD LW LN xi (xo.take j) else []));rw[AL]at HN dF bC;go_wp2_with fail;refine Calls.mono po ?_;rintro e w5 ⟨rfl,hu5⟩;have gt:Upd (One bc) wy w5:=hu5.mono (fun _ _ e=>e.elim)
           have Ds:=Qh (Zxt w5 fb bd bl bx bc txs ords _ c _ d md ml mx LD LW LN xi true (some ad2) xo.length xc true yk yt yn m2 (fun e=>Zbw WW e+ZD RR e)
            (r9.out.upd ((fC.trans (a9.out.trans eS.out)).trans gt) (by have:=HD.out;unfold One;omega) (by have:=HD.out;unfold One;omega) (by have:=HD.out;unfold One;omega) (by have:=HD.out;unfold One;omega))
            (MY.out.upd (S:=No) hu5 id) dF.out (fun e=>by have h1:=Zu1 WW e;have h2:=Zj3 RR e;have h3:=bC.out;omega) HD.out)
           go_wp2_with fail;refine Calls.mono Ds.out ?_;rintro e w6 ⟨rfl,m6,gu,cI,hu6⟩;have lW:=Qh gu;have fa:Hid (CntM m6 (fun e=>Zbw WW e+ZD (RR++Z2 LD LW LN xi ⟨true,yk,yt,yn⟩) e)):=Qh (cI.congr (fun e=>by simp only[Za3];omega));have eh:=Qh ((eS.out.trans gt).trans hu6);clear gu cI hu6 gt AL;go_wp2;go_roundg (gk-1);exact⟨j+1,m6,by omega,by go_num,lW,Qh (by rw[HN.out];exact fa.out),Qh (by rw[HN.out,Gt];have:=bC.out;have:=Zkj LD LW LN xi ⟨true,yk,yt,yn⟩;omega),eh.out⟩;omega
       ·obtain rfl:j=xo.length:=by omega
        have HN:=Qh (show rdL cnt LD LW LN (txs.take (k+1))=(rdL cnt LD LW LN (txs.take k)++if xd then rdO cnt LD LW LN xi (xo.take xo.length) else []) by rw[HX.out,G7]);go_wp2;go_roundg (GK-1);exact⟨k+1,m2,by omega,by go_num,bh,Qh (by rw[HN.out];exact dF.out),Qh (by rw[HN.out];have:=bC.out;omega),a9.out.trans hu2⟩;omega
     ·obtain rfl:k=txs.length:=by omega
      have ue:Hid (CntM mc (Zei cnt ⟨txs,ords,A,c,B,d⟩)):=Qh (by have:=hg.out;rw[G7]at this;exact this.congr HG.out);go_wp2;go_ret;exact⟨bc,mc,rfl,AH.out,hm.out,ue.out,dW⟩
