/- The kinds of a phenomenon; who is next in an order. -/
import Derived.Test.YtbefgiboikfojaaGreatRcah
import Derived.Test.YtbefgiboikfojaaGreatRcaq
namespace Go.Proofs.YtbefgiboikfojaaGreat
open Go.RowKit
set_option linter.unusedVariables false
set_option linter.unusedSimpArgs false
set_option maxRecDepth 100000
set_option maxHeartbeats 4000000
def Zba(p:Int):Int:=if p=1 then 2 else if p=4 then 6 else if p=5 then 14 else 0
def ZbQ(p:Int):Int:=if p=5 then 8 else 0
theorem Zul(w:Gy)(p:Int):CE 42 #[Qi p] w (.tuple #[Qi (Zba p),Qi (ZbQ p)]):=by
 by_cases h1:p=1
 ·subst h1;go_enter Tryz.func42,Tryz.ntmps42;go_wp2;go_ret2;exact⟨rfl,rfl⟩
 ·by_cases h4:p=4
  ·subst h4;go_enter Tryz.func42,Tryz.ntmps42;go_wp2;go_ret2;exact⟨rfl,rfl⟩
  ·by_cases h5:p=5
   ·subst h5;go_enter Tryz.func42,Tryz.ntmps42;go_wp2;go_ret2;exact⟨rfl,rfl⟩
   ·have b1:(p==1)=false:=by simpa using h1
    have b4:(p==4)=false:=by simpa using h4
    have b5:(p==5)=false:=by simpa using h5
    have hm:=Qh (show Zba p=0 by unfold Zba;rw[if_neg h1,if_neg h4,if_neg h5]);have hu:=Qh (show ZbQ p=0 by unfold ZbQ;rw[if_neg h5]);clear h1 h4 h5;go_enter Tryz.func42,Tryz.ntmps42;go_wp2;go_ret2;exact⟨by rw[hm.out,hu.out];rfl,rfl⟩
def Zbt(l:Gv)(x:Int):Nat:=l.findIdx (·==x)
def ZaI(l:Gv)(tx:Int):Option Int:=if tx=0 then l[0]? else if Zbt l tx<l.length then l[Zbt l tx+1]? else none
def ZqA(w:Gy)(o:Option Int)(e:Ending)(w':Gy):Prop:=e= .returned (match o with|some x=> .tuple #[Qi x,.bool true]|none=> .tuple #[Qi 0,.bool false])∧Upd No w w'
/- The order of a key. -/
theorem Znp(w:Gy)(o:HOp):CN 192 #[.agg o.cells.toArray] w (.bool (!o.read)):=by
 unfold HOp.cells;go_enter Tryz.func192,Tryz.ntmps192;go_wp2;go_ret;exact⟨rfl,(Gg _ _).alloc _⟩
def Zh1(l:Gq)(key:Int):Nat:=l.findIdx fun o=>o.key==key
theorem Zre{l:Gq}{key:Int}{k:Nat}(hk:k<l.length)(h:∀(j:Nat) (hj:j<k),((l[j]'(by omega)).key==key)=false)(h1:(l[k].key==key)=true):Zh1 l key=k:=by
 unfold Zh1;rw[List.findIdx_eq hk];exact⟨h1,fun j hj=>by simp only[h j hj]⟩
def ZdJ(l:Gq)(key:Int):Gv:=match l[Zh1 l key]? with|some o=>o.txs|none=>[]
/- The document on histories:orders,writers,keys. -/
def ZfV(key:Int):Gq->List Int
 |[]=>[]
 |o::l=>if o.key=key then o.txs else ZfV key l
theorem Zkm(key:Int)(o:HOrd)(l:Gq):ZfV key (o::l)=if o.key=key then o.txs else ZfV key l:=rfl
theorem Znk(key:Int):∀l:Gq,ZfV key l=ZdJ l key
 |[]=>rfl
 |o::l=>by
  have ih:=Znk key l;rw[Zkm,ih];unfold ZdJ Zh1;rw[List.findIdx_cons]
  by_cases h:o.key=key
  ·rw[if_pos h,show(o.key==key)=true by simpa using h];rfl
  ·rw[if_neg h,show(o.key==key)=false by simpa using h];rfl
def ZwD(F:Gt)(w:Gy)(l:Gv)(e:Ending)(w':Gy):Prop:=∃A c,e= .returned (.slice A l.length c)∧Ints F w' A l∧l.length<=17592186044415∧Upd No w w'
theorem Zub(F:Gt)(w:Gy)(txs:List HTx)(ords:Gq)(A:OA)(c:Nat)(B:OA)(d:Nat)(key:Int)(H:Hist.lies F w ⟨txs,ords,A,c,B,d⟩):
  Calls Tryz.prog 97 #[.agg #[.slice A txs.length c,.slice B ords.length d],Qi key] w (ZwD F w (ZfV key ords)):=by
 have eh:=H.fewo;simp only at eh;go_enter Tryz.func97,Tryz.ntmps97;go_wp2
 go_loopg [10] ords.length (fun gk i wr=>∃(k:Nat),k+gk=ords.length∧i= Qi k∧Hid (ZfV key (ords.drop k)=ZfV key ords)∧Upd No w wr)
 case atStart=>exact⟨0,by omega,rfl,Qh rfl,(Gg No w).alloc _⟩
 case round=>
  obtain⟨k,aK,rfl,hs,hu⟩:=hrel
  by_cases hlt:k<ords.length
  ·obtain⟨ad,aA,q0,q1⟩:=(H.upd hu Qo).ord_at hlt;have aM:=H.ord ords[k] (Fr hlt);simp only at aA q0 q1;obtain⟨x,hx⟩:=Qe (ords[k]);rw[hx]at q0 q1 aM;subst aA;have X:=Qh (show ords.drop k=x::ords.drop (k+1) by rw[<-hx];exact Ev hlt);have HL:=Qh aM;have b1:(0:Int)<=(k:Int):=Qn _;have b2:(k:Int)<(ords.length:Int):=by omega
   have uA:=hu.alloc (.cells #[Qi x.key,.slice x.A x.txs.length x.c] 59);have ag:=hs.out;rw[X.out,Zkm]at ag;clear hx aM
   by_cases he:x.key=key
   ·have dO:(x.key==key)=true:=by simpa using he
    rw[if_pos he]at ag;have HS:=Qh ag;clear ag he;go_wp2;go_ret;exact⟨x.A,x.c,by rw[<-HS.out];rfl,by rw[<-HS.out];exact HL.out.1.upd uA Qo,by rw[<-HS.out];exact HL.out.2.2.1,uA⟩
   ·have dO:(x.key==key)=false:=by simpa using he
    rw[if_neg he]at ag;have HS:=Qh ag;clear ag he;go_wp2;go_roundg (gk-1);exact⟨k+1,by omega,by go_num,HS,uA⟩;omega
  ·obtain rfl:k=ords.length:=by omega
   have HS:=Qh (show([]:Gv)=ZfV key ords by rw[<-hs.out,Fq];rfl);go_wp2;go_ret;exact⟨none,0,by rw[<-HS.out];rfl,by rw[<-HS.out];exact Ints.nil_,by rw[<-HS.out];simp,hu⟩
def wrS(key:Int)(acc:Gv):List HTx->List Int
 |[]=>acc
 |t::l=>wrS key (if t.done&&decide (0<Zd t.ops key) then acc++[t.id] else acc) l
theorem ZhP(key:Int)(acc:Gv)(t:HTx)(l:List HTx):wrS key acc (t::l)=wrS key (if t.done&&decide (0<Zd t.ops key) then acc++[t.id] else acc) l:=rfl
theorem Zq4(F:Gt)(w:Gy)(txs:List HTx)(ords:Gq)(A:OA)(c:Nat)(B:OA)(d:Nat)(key:Int)(H:Hist.lies F w ⟨txs,ords,A,c,B,d⟩):
  Calls Tryz.prog 86 #[.agg #[.slice A txs.length c,.slice B ords.length d],Qi key] w (Zin w (wrS key [] txs)):=by
 have eh:=H.few;simp only at eh;go_enter Tryz.func86,Tryz.ntmps86;go_wp2
 go_loopg [5,11] txs.length (fun gk s i wr=>∃(k:Nat) (A3:OA) (c3:Nat) (xs:Gv),k+gk=txs.length∧i= Qi k∧s= .slice A3 xs.length c3∧Hid (wrS key xs (txs.drop k)=wrS key [] txs)∧xs.length<=k∧
  Hid (wr.ownsRow w.heap.size 3 1 (.slice A3 xs.length c3) xs.length (xs.map (Value.int .i64)))∧Upd No w wr)
 case atStart=>exact⟨0,none,0,[],by omega,rfl,rfl,Qh rfl,by simp,Qh (Gf _ _ _ _),(Gg No w).alloc _⟩
 case round=>
  obtain⟨k,A3,c3,xs,aK,rfl,rfl,hs,hxl,ae,hu⟩:=hrel
  by_cases hlt:k<txs.length
  ·obtain⟨ad,aA,q0,q1,q2⟩:=(H.upd hu Qo).tx_at hlt;have aM:=H.tx txs[k] (Fr hlt);simp only at aA q0 q1 q2;obtain⟨x,hx⟩:=Qe (txs[k]);rw[hx]at q0 q1 q2 aM;obtain⟨xi,xd,xo,xA,xc⟩:=x;simp only at q0 q1 q2;subst aA;have X:=Qh (show txs.drop k=⟨xi,xd,xo,xA,xc⟩::txs.drop (k+1) by rw[<-hx];exact Ev hlt);have HL:=Qh aM;have XM:=Qh (show(⟨xi,xd,xo,xA,xc⟩:HTx)∈txs by rw[<-hx];exact Fr hlt);have b1:(0:Int)<=(k:Int):=Qn _;have b2:(k:Int)<(txs.length:Int):=by omega
   have uA:=hu.alloc (.cells #[Qi xi,.bool xd,.slice xA xo.length xc] 53);clear hx aM;have ag:=hs.out;rw[X.out,ZhP]at ag;have aD:=Qh ag;have bb:=Gh wr 53 [Qi xi,.bool xd,.slice xA xo.length xc];have hz:=hu.size;have HO:=Qh (Za ae.out ((Gg No wr).alloc (.cells #[Qi xi,.bool xd,.slice xA xo.length xc] 53)) Qo);have BB:=Qh bb;clear ag bb
   cases xd
   ·have HS:Hid (wrS key xs (txs.drop (k+1))=wrS key [] txs):=Qh aD.out;go_wp2;go_roundg (gk-1);exact⟨k+1,A3,c3,xs,by omega,by go_num,rfl,HS,by omega,HO,uA⟩;omega
   ·have e2:(wr.alloc (.cells #[Qi xi,.bool true,.slice xA xo.length xc] 53)).cell? ⟨wr.heap.size,0,none⟩=some (Qi xi):=BB.out.cell 0;go_wp2_with fail;refine Ck (ZcI F _ xA xc xo key (HOps.upd HL.out.1 uA Qo) HL.out.2.2.1) fun w1 hu1=>?_;have e0:w1.cell? ⟨wr.heap.size,0,none⟩=some (Qi xi):=(BB.out.upd hu1 id).cell 0;have dW:=Za HO.out hu1 Qo;have dj:=hu1.size;simp only[Ge]at dj;have HU:=Qh (uA.trans hu1);clear hu1 e2
    by_cases hw:0<Zd xo key
    ·have HS:=Qh (show wrS key (xs++[xi]) (txs.drop (k+1))=wrS key [] txs by rw[<-aD.out,Qt hw];rfl);have DJ:decide ((0:Int)<((Zd xo key:Nat):Int))=true:=Qt (by omega);have vI:decide (0<Zd xo key)=true:=Qt hw;clear hw;go_wp2_with (at_builtin;refine ZX rfl rfl Zc7 (v:= .slice A3 xs.length c3) (cells:=[Qi xi]) (by rfl) rfl dW rfl rfl (by omega) (by omega) (by omega) ?_;intro g' c' w4 ar hu4 cQ nr);go_roundg (gk-1);exact⟨k+1,some ⟨g',0,none⟩,c',xs++[xi],by omega,by go_num,by simp,HS,by simp;omega,Qh (by simpa using ar),HU.out.then_ hu4 fun i e=> .inr (dW.lt i e).1⟩;omega
    ·have HS:=Qh (show wrS key xs (txs.drop (k+1))=wrS key [] txs by rw[<-aD.out,Qf hw];rfl);have DJ:decide ((0:Int)<((Zd xo key:Nat):Int))=false:=Qf (by omega);have vI:decide (0<Zd xo key)=false:=Qf hw;clear hw;go_wp2;go_roundg (gk-1);exact⟨k+1,A3,c3,xs,by omega,by go_num,rfl,HS,by omega,Qh dW,HU.out⟩;omega
  ·obtain rfl:k=txs.length:=by omega
   have HV:=Qh (show xs=wrS key [] txs by rw[<-hs.out,Fq];rfl);go_wp2;go_ret;exact⟨A3,c3,by rw[<-HV.out];rfl,by rw[<-HV.out];exact ae.out,hu⟩
/- The document on histories:the keys that are written;whether one is right. -/
theorem Zn1{w':Gy}{base:Nat}{A:OA}{c:Nat}{l:Gv}(h:w'.ownsRow base 3 1 (.slice A l.length c) l.length (l.map (Value.int .i64))):Ints (fun i=>base<=i) w' A l:=Ints.of_own h
def Za1(s:Gv):List HTx->List Int
 |[]=>s
 |t::l=>Za1 (if t.done then Z2 s (ZbS false [] t.ops) else s) l
theorem ZhG(s:Gv)(t:HTx)(l:List HTx):Za1 s (t::l)=Za1 (if t.done then Z2 s (ZbS false [] t.ops) else s) l:=rfl
theorem ZmP(s:Gv)(k:Int)(l:Gv):Z2 s (k::l)=Z2 (Zg k s) l:=rfl
theorem ZkE(tch:Bool):∀(l:Gu) (s:Gv),(ZbS tch s l).length<=s.length+l.length
 |[],s=>by simp[ZbS]
 |o::l,s=>by
  rw[Zf1];have:=ZkE tch l (if tch|| !o.read then Zg o.key s else s)
  have h2:(if tch|| !o.read then Zg o.key s else s).length<=s.length+1:=by
   split
   ·exact Zq _ _
   ·omega
  rw[Fs];omega
theorem Zud(F:Gt)(w:Gy)(txs:List HTx)(ords:Gq)(A:OA)(c:Nat)(B:OA)(d:Nat)(H:Hist.lies F w ⟨txs,ords,A,c,B,d⟩)(hn:txs.length<=4096)(ho:∀t∈txs,t.ops.length<=4095):
  Calls Tryz.prog 84 #[.agg #[.slice A txs.length c,.slice B ords.length d]] w (Zin w (Za1 [] txs)):=by
 go_enter Tryz.func84,Tryz.ntmps84;go_wp2
 go_loopg [3,11] txs.length (fun gk s i wr=>∃(k:Nat) (A3:OA) (c3:Nat) (xs:Gv),k+gk=txs.length∧i= Qi k∧s= .slice A3 xs.length c3∧Hid (Za1 xs (txs.drop k)=Za1 [] txs)∧xs.length<=4095*k∧
  Hid (wr.ownsRow w.heap.size 3 1 (.slice A3 xs.length c3) xs.length (xs.map (Value.int .i64)))∧Upd No w wr)
 case atStart=>exact⟨0,none,0,[],by omega,rfl,rfl,Qh rfl,by simp,Qh (Gf _ _ _ _),(Gg No w).alloc _⟩
 case round=>
  obtain⟨k,A3,c3,xs,aK,rfl,rfl,hs,hxl,ae,hu⟩:=hrel
  by_cases hlt:k<txs.length
  ·obtain⟨ad,aA,q0,q1,q2⟩:=(H.upd hu Qo).tx_at hlt;have aM:=H.tx txs[k] (Fr hlt);simp only at aA q0 q1 q2;obtain⟨x,hx⟩:=Qe (txs[k]);rw[hx]at q0 q1 q2 aM;obtain⟨xi,xd,xo,xA,xc⟩:=x;simp only at q0 q1 q2;subst aA;have X:=Qh (show txs.drop k=⟨xi,xd,xo,xA,xc⟩::txs.drop (k+1) by rw[<-hx];exact Ev hlt);have HL:=Qh aM;have XM:=Qh (show(⟨xi,xd,xo,xA,xc⟩:HTx)∈txs by rw[<-hx];exact Fr hlt);have b1:(0:Int)<=(k:Int):=Qn _;have b2:(k:Int)<(txs.length:Int):=by omega
   have uA:=hu.alloc (.cells #[Qi xi,.bool xd,.slice xA xo.length xc] 53);clear hx aM;have ag:=hs.out;rw[X.out,ZhG]at ag;have aD:=Qh ag;have hz:=hu.size;have HO:=Qh (Za ae.out ((Gg No wr).alloc (.cells #[Qi xi,.bool xd,.slice xA xo.length xc] 53)) Qo);have kD:=ho _ XM.out;simp only at kD;clear ag
   cases xd
   ·have HS:Hid (Za1 xs (txs.drop (k+1))=Za1 [] txs):=Qh aD.out;go_wp2;go_roundg (gk-1);exact⟨k+1,A3,c3,xs,by omega,by go_num,rfl,HS,by omega,HO,uA⟩;omega
   ·have fL:=ZkE false xo [];have HK:=Qh (Zvi F _ xi true xA xc xo false (HOps.upd HL.out.1 uA Qo) (by omega));have qX:Hid (Za1 (Z2 xs (ZbS false [] xo)) (txs.drop (k+1))=Za1 [] txs):=Qh aD.out;obtain⟨ks,ep⟩:=Qe (ZbS false [] xo);rw[ep]at HK qX fL;simp only[Fz,Nat.zero_add]at fL;clear ep;go_wp2_with fail;refine(HK.out).mono ?_;rintro e w1 ⟨A5,c5,rfl,iB,hu1⟩;have HI:=Qh (Zd9 iB);have dW:=Qh (Za HO.out hu1 Qo);have HU:=Qh (uA.trans hu1);clear iB hu1;generalize gk=m0 at*;go_wp2
    go_loopg [3,20] ks.length (fun gm s i w2=>∃(j:Nat) (A4:OA) (c4:Nat) (ys:Gv),j+gm=ks.length∧i= Qi j∧s= .slice A4 ys.length c4∧Hid (Z2 ys (ks.drop j)=Z2 xs ks)∧ys.length<=xs.length+j∧
     Hid (w2.ownsRow w.heap.size 3 1 (.slice A4 ys.length c4) ys.length (ys.map (Value.int .i64)))∧Upd No w1 w2)
    case atStart=>exact⟨0,A3,c3,xs,by omega,rfl,rfl,Qh rfl,by omega,dW,Gg _ _⟩
    case round=>
     obtain⟨j,A4,c4,ys,ph,rfl,rfl,er,fC,am,hu2⟩:=hrel
     by_cases hlt2:j<ks.length
     ·obtain⟨ad2,rj,_,_,fV⟩:=(HI.out.upd hu2 Qo).at_ hlt2;obtain⟨y,hy⟩:=Qe (ks[j]);rw[hy]at fV;subst rj;have Y:=Qh (show ks.drop j=y::ks.drop (j+1) by rw[<-hy];exact Ev hlt2);have c1:(0:Int)<=(j:Int):=Qn _;have c2:(j:Int)<(ks.length:Int):=by omega
      have ag:=er.out;rw[Y.out,ZmP]at ag;have HS:=Qh ag;have eU:=Zq y ys;have mP:4095*k<=4095*4096:=Nat.mul_le_mul_left _ (by omega);have dB:=(HU.out.trans hu2).size;clear hy ag;go_wp2_with fail;refine(ZlF _ _ A4 c4 ys y (Zn1 am.out) (by omega)).mono ?_;rintro e w3 ⟨A6,c6,rfl,gV,hu3⟩;go_wp2;go_roundg (gk-1);exact⟨j+1,A6,c6,Zg y ys,by omega,by go_num,rfl,HS,by omega,Qh (Zz gV dB),hu2.trans hu3⟩;omega
     ·obtain rfl:j=ks.length:=by omega
      have HV:=Qh (show ys=Z2 xs ks by rw[<-er.out,Fq];rfl);go_wp2;go_roundg (m0-1);exact⟨k+1,A4,c4,ys,by omega,by go_num,rfl,Qh (by rw[HV.out];exact qX.out),by omega,am,HU.out.trans hu2⟩;omega
  ·obtain rfl:k=txs.length:=by omega
   have HV:=Qh (show xs=Za1 [] txs by rw[<-hs.out,Fq];rfl);go_wp2;go_ret;exact⟨A3,c3,by rw[<-HV.out];rfl,by rw[<-HV.out];exact ae.out,hu⟩
/- Whether a history is right,by the document. -/
def Zju(txs:List HTx):Nat->Int->Bool
 |0,_=>true
 |j+1,id=>match txs[j]? with|some u=>decide (u.id<id)|none=>true
def txR(txs:List HTx)(k:Nat)(t:HTx):Bool:=Zju txs k t.id&&Z3 t.id t.ops==0&&(ZS t.id [] t.ops).all (ZcE txs)
def Zc6(txs:List HTx):List HTx->Nat->Bool
 |[],_=>true
 |t::l,k=>txR txs k t&&Zc6 txs l (k+1)
theorem Zgz(txs:List HTx)(t:HTx)(l:List HTx)(k:Nat):Zc6 txs (t::l) k=(txR txs k t&&Zc6 txs l (k+1)):=rfl
def ZdC(txs:List HTx)(keys:Gv):Gq->Nat->Bool
 |[],_=>true
 |o::l,k=>(o.key==keys.getD k 0&&(o.txs.length==(wrS o.key [] txs).length&&o.txs.all fun x=>o.txs.count x==(wrS o.key [] txs).count x))&&ZdC txs keys l (k+1)
theorem ZiP(txs:List HTx)(keys:Gv)(o:HOrd)(l:Gq)(k:Nat):ZdC txs keys (o::l) k=((o.key==keys.getD k 0&&(o.txs.length==(wrS o.key [] txs).length&&o.txs.all fun x=>o.txs.count x==(wrS o.key [] txs).count x))&&ZdC txs keys l (k+1)):=rfl
def Za0(txs:List HTx)(ords:Gq):Bool:=
 decide (txs.length<=4096)&&(Zc6 txs txs 0&&(ords.length==(Za1 [] txs).length&&ZdC txs (Za1 [] txs) ords 0))
theorem Zsc{txs:List HTx}{k:Nat}{id:Int}(hk:¬k=0)(hp:k-1<txs.length):Zju txs k id=decide ((txs[k-1]'hp).id<id):=by
 obtain⟨j,rfl⟩:∃j,k=j+1:=⟨k-1,by omega⟩;simp only[Nat.add_sub_cancel]
 show(match txs[j]? with|some u=>decide (u.id<id)|none=>true)=_
 rw[Qg (by simpa using hp)]
theorem Zll(txs:List HTx):∀(l:List HTx) (k:Nat),Zc6 txs l k=true->∀t∈l,Z3 t.id t.ops=0
 |[],_,_,t,ht=>by cases ht
 |u::l,k,h,t,ht=>by
  rw[Zgz,Fp]at h;rcases F9.1 ht with rfl|ht
  ·have:=h.1;unfold txR at this;simp only[Fp,beq_iff_eq]at this;exact this.1.2
  ·exact Zll txs l (k+1) h.2 t ht
theorem ZeV{id:Int}{l:Gu}(h:Z3 id l=0):l.length<=4095:=by
 unfold Z3 at h
 split at h
 ·cases h
 ·split at h
  ·cases h
  ·omega
theorem Zm4(key:Int):∀(l:List HTx) (acc:Gv),(wrS key acc l).length<=acc.length+l.length
 |[],acc=>by simp[wrS]
 |t::l,acc=>by
  rw[ZhP];have:=Zm4 key l (if t.done&&decide (0<Zd t.ops key) then acc++[t.id] else acc);have h2:(if t.done&&decide (0<Zd t.ops key) then acc++[t.id] else acc).length<=acc.length+1:=by split<;>simp
  rw[Fs];omega
theorem Zt4{F G:Gt}{w:Gy}{A B:OA}{c d:Nat}{l m:Gv}{v:Bool}(h:Ints F w A l)(hm:Ints G w B m)(hl:l.length<=17592186044415)(aN:m.length<=17592186044415)(hv:(l.length==m.length&&l.all fun x=>l.count x==m.count x)=v):
  CN 85 #[.slice A l.length c,.slice B m.length d] w (.bool v):=by subst hv;exact Zu8 F G w A B c d l m h hm hl aN
section
variable {F:Gt} {w:Gy} {txs:List HTx} {ords:Gq} {A:OA} {c:Nat} {B:OA} {d:Nat} {i0:Int} {dn:Bool} {A1:OA} {c1:Nat} {l:Gu}
theorem ZsV{v:Bool}(H:Hist.lies F w ⟨txs,ords,A,c,B,d⟩)(h:HOps F w A1 l)(hl:l.length<=100000)(hv:(ZS i0 [] l).all (ZcE txs)=v):
  CN 83 #[.agg #[.slice A txs.length c,.slice B ords.length d],.agg #[Qi i0,.bool dn,.slice A1 l.length c1]] w (.bool v):=by subst hv;exact Zt5 F w txs ords A c B d i0 dn A1 c1 l H h hl
theorem Zpv{v:Int}(h:HOps F w A1 l)(og:l.length<=c1)(hl:Zp l.length)(hv:Z3 i0 l=v):
  CN 82 #[.agg #[Qi i0,.bool dn,.slice A1 l.length c1]] w (Qi v):=by subst hv;exact Zq6 F w i0 dn A1 c1 l h og hl
end
theorem Zua(F:Gt)(w:Gy)(txs:List HTx)(ords:Gq)(A:OA)(c:Nat)(B:OA)(d:Nat)(H:Hist.lies F w ⟨txs,ords,A,c,B,d⟩):
  CN 50 #[.agg #[.slice A txs.length c,.slice B ords.length d]] w (.bool (Za0 txs ords)):=by
 have hf:=H.few;have eh:=H.fewo;simp only at hf eh;have u0:=(Gg No w).alloc (.cells #[.slice A txs.length c,.slice B ords.length d] 29);have bH:=Qh (Gh w 29 [.slice A txs.length c,.slice B ords.length d]);have U0:=Qh u0;clear u0
 by_cases hmany:4096<txs.length
 ·have HV:=Qh (show Za0 txs ords=false by unfold Za0;rw[Qf (by omega)];rfl);go_enter Tryz.func50,Tryz.ntmps50;go_wp2;go_ret;exact⟨by rw[HV.out];rfl,U0.out⟩
 ·have hv0:Za0 txs ords=(Zc6 txs txs 0&&(ords.length==(Za1 [] txs).length&&ZdC txs (Za1 [] txs) ords 0)):=by unfold Za0;rw[Qt (by omega)];rfl
  have HV:=Qh hv0;clear hv0;go_enter Tryz.func50,Tryz.ntmps50;go_wp2
  go_loopg [15] txs.length (fun gk i wr=>∃(k:Nat),k+gk=txs.length∧i= Qi k∧Hid (Zc6 txs (txs.drop k) k=Zc6 txs txs 0)∧Upd No (w.alloc (.cells #[.slice A txs.length c,.slice B ords.length d] 29)) wr)
  case atStart=>exact⟨0,by omega,rfl,Qh rfl,Gg _ _⟩
  case round=>
   obtain⟨k,aK,rfl,hs,hu1⟩:=hrel
   by_cases hlt:k<txs.length
   ·have hu:=U0.out.trans hu1;obtain⟨ad,aA,q0,q1,q2⟩:=(H.upd hu Qo).tx_at hlt;have aM:=H.tx txs[k] (Fr hlt);simp only at aA q0 q1 q2;obtain⟨x,hx⟩:=Qe (txs[k]);rw[hx]at q0 q1 q2 aM;obtain⟨xi,xd,xo,xA,xc⟩:=x;simp only at q0 q1 q2;subst aA;have X:=Qh (show txs.drop k=⟨xi,xd,xo,xA,xc⟩::txs.drop (k+1) by rw[<-hx];exact Ev hlt);have HL:=Qh aM;have XM:=Qh (show(⟨xi,xd,xo,xA,xc⟩:HTx)∈txs by rw[<-hx];exact Fr hlt);have b1:(0:Int)<=(k:Int):=Qn _;have b2:(k:Int)<(txs.length:Int):=by omega
    have uA:=hu.alloc (.cells #[Qi xi,.bool xd,.slice xA xo.length xc] 53);clear hx aM;have ag:=hs.out;rw[X.out,Zgz]at ag;have aD:=Qh ag;have UA:=Qh (hu1.alloc (.cells #[Qi xi,.bool xd,.slice xA xo.length xc] 53));have BT:=Qh (Gh wr 53 [Qi xi,.bool xd,.slice xA xo.length xc]);have e0:∀W,Upd No (wr.alloc (.cells #[Qi xi,.bool xd,.slice xA xo.length xc] 53)) W->W.cell? ⟨wr.heap.size,0,none⟩=some (Qi xi):=fun W hW=>(BT.out.upd hW id).cell 0
    have e1:∀W,Upd No (wr.alloc (.cells #[Qi xi,.bool xd,.slice xA xo.length xc] 53)) W->W.cell? ⟨wr.heap.size,1,none⟩=some (.bool xd):=fun W hW=>(BT.out.upd hW id).cell 1
    have e2:∀W,Upd No (wr.alloc (.cells #[Qi xi,.bool xd,.slice xA xo.length xc] 53)) W->W.cell? ⟨wr.heap.size,2,none⟩=some (.slice xA xo.length xc):=fun W hW=>(BT.out.upd hW id).cell 2
    have g0:∀W,Upd No (wr.alloc (.cells #[Qi xi,.bool xd,.slice xA xo.length xc] 53)) W->W.cell? ⟨w.heap.size,0,none⟩=some (.slice (some ad) txs.length c):=fun W hW=>(bH.out.upd (UA.out.trans hW) id).cell 0
    have g1:∀W,Upd No (wr.alloc (.cells #[Qi xi,.bool xd,.slice xA xo.length xc] 53)) W->W.cell? ⟨w.heap.size,1,none⟩=some (.slice B ords.length d):=fun W hW=>(bH.out.upd (UA.out.trans hW) id).cell 1
    obtain⟨E,hE⟩:=Qe (Z3 xi xo);obtain⟨N,hN⟩:=Qe ((ZS xi [] xo).all (ZcE txs));have oo:=Qh fun W (hW:Upd No (wr.alloc (.cells #[Qi xi,.bool xd,.slice xA xo.length xc] 53)) W)=>Zpv (F:=F) (w:=W) (i0:=xi) (dn:=xd) (A1:=xA) (c1:=xc) (HOps.upd HL.out.1 (U0.out.trans (UA.out.trans hW)) Qo) HL.out.2.1 HL.out.2.2.1 hE
    have hxl:E=0->xo.length<=100000:=fun e=>by have:=ZeV (hE.trans e);omega
    have mY:=Qh fun(e:E=0) W (hW:Upd No (wr.alloc (.cells #[Qi xi,.bool xd,.slice xA xo.length xc] 53)) W)=>ZsV (F:=F) (w:=W) (i0:=xi) (dn:=xd) (A1:=xA) (c1:=xc) (H.upd (U0.out.trans (UA.out.trans hW)) Qo) (HOps.upd HL.out.1 (U0.out.trans (UA.out.trans hW)) Qo) (hxl e) hN
    have HTx:=Qh (show txR txs k ⟨xi,xd,xo,xA,xc⟩=(Zju txs k xi&&E==0&&N) by unfold txR;simp only[hE,hN]);clear hE hN hxl
    by_cases hk0:k=0
    ·have bG:decide ((0:Int)<(k:Int))=false:=Qf (by omega);have nY:decide (0<k)=false:=Qf (by omega);have HA:=Qh (show txR txs k ⟨xi,xd,xo,xA,xc⟩=(E==0&&N) by rw[HTx.out,hk0];rfl);clear hk0
     by_cases hE1:E=0
     ·have jo:=Qh (mY.out hE1);subst hE1
      cases N
      ·have HS:=Qh (show Za0 txs ords=false by rw[HV.out,<-aD.out,HA.out];rfl);go_wp2;refine wpS (fun w'=>Upd No (wr.alloc (.cells #[Qi xi,.bool xd,.slice xA xo.length xc] 53)) w') ?_ fun jH=>?_
       ·(first|exact(Gg No _).drew|exact jH.trans hu3)
       (iterate 16 refine wpF ?_);refine wpZ 16 rfl fun K hK=>?_;go_simp
       (first
  |(go_at_call 82;refine Ck (oo.out _ jH) fun w3 hu3=>?_))
       try (go_wp2_with fail)
       refine hK.out _ _ ?_ fun jH=>?_
       ·(first|exact(Gg No _).drew|exact jH.trans hu3)
       try simp only[Qa]
       (iterate 5 refine wpF ?_);refine wpZ 22 rfl fun K hK=>?_;go_simp
       (first
  |(go_at_call 83;refine Ck (jo.out _ jH) fun w3 hu3=>?_))
       try (go_wp2_with fail)
       refine hK.out _ _ ?_ fun jH=>?_
       ·(first|exact(Gg No _).drew|exact jH.trans hu3)
       try simp only[Qa]
       (iterate 2 refine wpF ?_);refine wpD (Gd ?_);have HU:=Qh (UA.out.trans jH);clear jH e0 e1 e2 g0 g1;go_wp2;go_ret;exact⟨by rw[HS.out];rfl,U0.out.trans HU.out⟩
      ·have HS:=Qh (show Zc6 txs (txs.drop (k+1)) (k+1)=Zc6 txs txs 0 by rw[<-aD.out,HA.out];rfl);go_wp2;refine wpS (fun w'=>Upd No (wr.alloc (.cells #[Qi xi,.bool xd,.slice xA xo.length xc] 53)) w') ?_ fun jH=>?_
       ·(first|exact(Gg No _).drew|exact jH.trans hu3)
       (iterate 16 refine wpF ?_);refine wpZ 16 rfl fun K hK=>?_;go_simp
       (first
  |(go_at_call 82;refine Ck (oo.out _ jH) fun w3 hu3=>?_))
       try (go_wp2_with fail)
       refine hK.out _ _ ?_ fun jH=>?_
       ·(first|exact(Gg No _).drew|exact jH.trans hu3)
       try simp only[Qa]
       (iterate 5 refine wpF ?_);refine wpZ 22 rfl fun K hK=>?_;go_simp
       (first
  |(go_at_call 83;refine Ck (jo.out _ jH) fun w3 hu3=>?_))
       try (go_wp2_with fail)
       refine hK.out _ _ ?_ fun jH=>?_
       ·(first|exact(Gg No _).drew|exact jH.trans hu3)
       try simp only[Qa]
       (iterate 2 refine wpF ?_);refine wpD (Gd ?_);have HU:=Qh (UA.out.trans jH);clear jH e0 e1 e2 g0 g1;go_wp2;go_roundg (gk-1);exact⟨k+1,by omega,by go_num,HS,HU.out⟩;omega
     ·have nE:(E != 0)=true:=by rw[bne_iff_ne];exact hE1
      have HS:=Qh (show Za0 txs ords=false by rw[HV.out,<-aD.out,HA.out,beq_eq_false_iff_ne.2 hE1];rfl);clear hE1;go_wp2;refine wpS (fun w'=>Upd No (wr.alloc (.cells #[Qi xi,.bool xd,.slice xA xo.length xc] 53)) w') ?_ fun jH=>?_
      ·(first|exact(Gg No _).drew|exact jH.trans hu3)
      (iterate 16 refine wpF ?_);refine wpZ 16 rfl fun K hK=>?_;go_simp
      (first
  |(go_at_call 82;refine Ck (oo.out _ jH) fun w3 hu3=>?_))
      try (go_wp2_with fail)
      refine hK.out _ _ ?_ fun jH=>?_
      ·(first|exact(Gg No _).drew|exact jH.trans hu3)
      try simp only[Qa]
      (iterate 5 refine wpF ?_);refine wpZ 22 rfl fun K hK=>?_;go_simp;refine hK.out _ _ ?_ fun jH=>?_
      ·exact jH
      try simp only[Qa]
      (iterate 2 refine wpF ?_);refine wpD (Gd ?_);have HU:=Qh (UA.out.trans jH);clear jH e0 e1 e2 g0 g1;go_wp2;go_ret;exact⟨by rw[HS.out];rfl,U0.out.trans HU.out⟩
    ·have cV:k-1<txs.length:=by omega
     have hq:∀W,Upd No (wr.alloc (.cells #[Qi xi,.bool xd,.slice xA xo.length xc] 53)) W->W.cell? (ad.add ((k-1)*3))=some (Qi (txs[k-1]'cV).id):=fun W hW=>by
      obtain⟨ad2,aT,p0,_,_⟩:=(H.upd (U0.out.trans (UA.out.trans hW)) Qo).tx_at (k:=k-1) cV;simp only at aT p0
      cases aT
      exact p0
     obtain⟨y,hy⟩:=Qe ((txs[k-1]'cV).id);rw[hy]at hq
     have sm:=Qh (show txR txs k ⟨xi,xd,xo,xA,xc⟩=(decide (y<xi)&&E==0&&N) by
      rw[HTx.out,Zsc hk0 cV,hy])
     have bG:decide ((0:Int)<(k:Int))=true:=Qt (by omega);have nY:decide (0<k)=true:=Qt (by omega);have au:IntKind.i64.wrap ((k:Int)-1)=(k:Int)-1:=IntWalk.i64_in _ (by omega);have cH:(0:Int)<=(k:Int)-1:=by omega
     have fe:(1:Int)<=(k:Int):=by omega
     have eq:(k:Int)-1<(txs.length:Int):=by omega
     have oU:((k:Int)-1).toNat=k-1:=by omega
     clear hy hk0
     by_cases hyx:y<xi
     ·have HA:=Qh (show txR txs k ⟨xi,xd,xo,xA,xc⟩=(E==0&&N) by rw[sm.out,Qt hyx];rfl);have tq:decide (xi<=y)=false:=Qf (by omega);clear hyx
      by_cases hE1:E=0
      ·have jo:=Qh (mY.out hE1);subst hE1
       cases N
       ·have HS:=Qh (show Za0 txs ords=false by rw[HV.out,<-aD.out,HA.out];rfl);go_wp2;refine wpS (fun w'=>Upd No (wr.alloc (.cells #[Qi xi,.bool xd,.slice xA xo.length xc] 53)) w') ?_ fun jH=>?_
        ·(first|exact(Gg No _).drew|exact jH.trans hu3)
        (iterate 16 refine wpF ?_);refine wpZ 16 rfl fun K hK=>?_;go_simp
        (first
  |(go_at_call 82;refine Ck (oo.out _ jH) fun w3 hu3=>?_))
        try (go_wp2_with fail)
        refine hK.out _ _ ?_ fun jH=>?_
        ·(first|exact(Gg No _).drew|exact jH.trans hu3)
        try simp only[Qa]
        (iterate 5 refine wpF ?_);refine wpZ 22 rfl fun K hK=>?_;go_simp
        (first
  |(go_at_call 83;refine Ck (jo.out _ jH) fun w3 hu3=>?_))
        try (go_wp2_with fail)
        refine hK.out _ _ ?_ fun jH=>?_
        ·(first|exact(Gg No _).drew|exact jH.trans hu3)
        try simp only[Qa]
        (iterate 2 refine wpF ?_);refine wpD (Gd ?_);have HU:=Qh (UA.out.trans jH);clear jH e0 e1 e2 g0 g1;go_wp2;go_ret;exact⟨by rw[HS.out];rfl,U0.out.trans HU.out⟩
       ·have HS:=Qh (show Zc6 txs (txs.drop (k+1)) (k+1)=Zc6 txs txs 0 by rw[<-aD.out,HA.out];rfl);go_wp2;refine wpS (fun w'=>Upd No (wr.alloc (.cells #[Qi xi,.bool xd,.slice xA xo.length xc] 53)) w') ?_ fun jH=>?_
        ·(first|exact(Gg No _).drew|exact jH.trans hu3)
        (iterate 16 refine wpF ?_);refine wpZ 16 rfl fun K hK=>?_;go_simp
        (first
  |(go_at_call 82;refine Ck (oo.out _ jH) fun w3 hu3=>?_))
        try (go_wp2_with fail)
        refine hK.out _ _ ?_ fun jH=>?_
        ·(first|exact(Gg No _).drew|exact jH.trans hu3)
        try simp only[Qa]
        (iterate 5 refine wpF ?_);refine wpZ 22 rfl fun K hK=>?_;go_simp
        (first
  |(go_at_call 83;refine Ck (jo.out _ jH) fun w3 hu3=>?_))
        try (go_wp2_with fail)
        refine hK.out _ _ ?_ fun jH=>?_
        ·(first|exact(Gg No _).drew|exact jH.trans hu3)
        try simp only[Qa]
        (iterate 2 refine wpF ?_);refine wpD (Gd ?_);have HU:=Qh (UA.out.trans jH);clear jH e0 e1 e2 g0 g1;go_wp2;go_roundg (gk-1);exact⟨k+1,by omega,by go_num,HS,HU.out⟩;omega
      ·have nE:(E != 0)=true:=by rw[bne_iff_ne];exact hE1
       have HS:=Qh (show Za0 txs ords=false by rw[HV.out,<-aD.out,HA.out,beq_eq_false_iff_ne.2 hE1];rfl);clear hE1;go_wp2;refine wpS (fun w'=>Upd No (wr.alloc (.cells #[Qi xi,.bool xd,.slice xA xo.length xc] 53)) w') ?_ fun jH=>?_
       ·(first|exact(Gg No _).drew|exact jH.trans hu3)
       (iterate 16 refine wpF ?_);refine wpZ 16 rfl fun K hK=>?_;go_simp
       (first
  |(go_at_call 82;refine Ck (oo.out _ jH) fun w3 hu3=>?_))
       try (go_wp2_with fail)
       refine hK.out _ _ ?_ fun jH=>?_
       ·(first|exact(Gg No _).drew|exact jH.trans hu3)
       try simp only[Qa]
       (iterate 5 refine wpF ?_);refine wpZ 22 rfl fun K hK=>?_;go_simp;refine hK.out _ _ ?_ fun jH=>?_
       ·exact jH
       try simp only[Qa]
       (iterate 2 refine wpF ?_);refine wpD (Gd ?_);have HU:=Qh (UA.out.trans jH);clear jH e0 e1 e2 g0 g1;go_wp2;go_ret;exact⟨by rw[HS.out];rfl,U0.out.trans HU.out⟩
     ·have HA:=Qh (show txR txs k ⟨xi,xd,xo,xA,xc⟩=false by rw[sm.out,Qf hyx];rfl);have tq:decide (xi<=y)=true:=Qt (by omega);clear hyx;have HS:=Qh (show Za0 txs ords=false by rw[HV.out,<-aD.out,HA.out];rfl);go_wp2;refine wpS (fun w'=>Upd No (wr.alloc (.cells #[Qi xi,.bool xd,.slice xA xo.length xc] 53)) w') ?_ fun jH=>?_
      ·(first|exact(Gg No _).drew|exact jH.trans hu3)
      (iterate 16 refine wpF ?_);refine wpZ 16 rfl fun K hK=>?_;go_simp;refine hK.out _ _ ?_ fun jH=>?_
      ·exact jH
      try simp only[Qa]
      (iterate 5 refine wpF ?_);refine wpZ 22 rfl fun K hK=>?_;go_simp;refine hK.out _ _ ?_ fun jH=>?_
      ·exact jH
      try simp only[Qa]
      (iterate 2 refine wpF ?_);refine wpD (Gd ?_);have HU:=Qh (UA.out.trans jH);clear jH e0 e1 e2 g0 g1;go_wp2;go_ret;exact⟨by rw[HS.out];rfl,U0.out.trans HU.out⟩
   ·obtain rfl:k=txs.length:=by omega
    have HT:=Qh (show Zc6 txs txs 0=true by rw[<-hs.out,Fq];rfl);have aH:=Zll txs txs 0 HT.out;have HK:=Qh (Zud F wr txs ords A c B d (H.upd (U0.out.trans hu1) Qo) (by omega) (fun t ht=>ZeV (aH t ht)));have h0:=(bH.out.upd hu1 id).cell 0;have h1:=(bH.out.upd hu1 id).cell 1;simp only[Qz,Qs]at h0 h1;obtain⟨ks,ep⟩:=Qe (Za1 [] txs);rw[ep]at HK HV;clear aH ep hs;go_wp2_with fail;refine(HK.out).mono ?_;rintro e w2 ⟨A2,c2,rfl,bi,hu2⟩;have HI:=Qh (Zd9 bi);have HU:=Qh ((U0.out.trans hu1).trans hu2);have HB:=Qh ((bH.out.upd hu1 id).upd hu2 id);have g1:=HB.out.cell 1;simp only[Qz,Qs]at g1;clear bi hu1 hu2 h0 h1
    by_cases hlen:ords.length=ks.length
    ·have jn:((ords.length:Int) != (ks.length:Int))=false:=by rw[hlen];simp
     have vg:=Qh (show(ords.length==ks.length)=true by simpa using hlen);have oK:=Qh hlen;clear hlen;have fc:=Qh fun W (hW:Upd No w2 W)=>HU.out.trans hW
     go_wp2
     go_loopg [57] ords.length (fun gk i wr=>∃(k:Nat),k+gk=ords.length∧i= Qi k∧Hid (ZdC txs ks (ords.drop k) k=ZdC txs ks ords 0)∧Upd No w2 wr)
     case atStart=>exact⟨0,by omega,rfl,Qh rfl,Gg _ _⟩
     case round=>
      obtain⟨k,aK,rfl,hs,hu⟩:=hrel
      by_cases hlt2:k<ords.length
      ·obtain⟨ad,aA,q0,q1⟩:=(H.upd (fc.out _ hu) Qo).ord_at hlt2;have aM:=H.ord ords[k] (Fr hlt2);simp only at aA q0 q1;obtain⟨x,hx⟩:=Qe (ords[k]);rw[hx]at q0 q1 aM;obtain⟨xk,xl,xA,xc⟩:=x;simp only at q0 q1;subst aA;have X:=Qh (show ords.drop k=⟨xk,xl,xA,xc⟩::ords.drop (k+1) by rw[<-hx];exact Ev hlt2);have HL:=Qh aM;have b1:(0:Int)<=(k:Int):=Qn _;have b2:(k:Int)<(ords.length:Int):=by omega
       have b3:k<ks.length:=by rw[<-oK.out];exact hlt2
       have b4:(k:Int)<(ks.length:Int):=by omega
       clear hx aM;have ag:=hs.out;rw[X.out,ZiP,List.getD_eq_getElem?_getD,Qg b3]at ag;have UA:=Qh (hu.alloc (.cells #[Qi xk,.slice xA xl.length xc] 59));have BO:=Qh (Gh wr 59 [Qi xk,.slice xA xl.length xc]);have e0:∀W,Upd No (wr.alloc (.cells #[Qi xk,.slice xA xl.length xc] 59)) W->W.cell? ⟨wr.heap.size,0,none⟩=some (Qi xk):=fun W hW=>(BO.out.upd hW id).cell 0
       have e1:∀W,Upd No (wr.alloc (.cells #[Qi xk,.slice xA xl.length xc] 59)) W->W.cell? ⟨wr.heap.size,1,none⟩=some (.slice xA xl.length xc):=fun W hW=>(BO.out.upd hW id).cell 1
       have g0:∀W,Upd No (wr.alloc (.cells #[Qi xk,.slice xA xl.length xc] 59)) W->W.cell? ⟨w.heap.size,0,none⟩=some (.slice A txs.length c):=fun W hW=>(HB.out.upd (UA.out.trans hW) id).cell 0
       have g1:∀W,Upd No (wr.alloc (.cells #[Qi xk,.slice xA xl.length xc] 59)) W->W.cell? ⟨w.heap.size,1,none⟩=some (.slice (some ad) ords.length d):=fun W hW=>(HB.out.upd (UA.out.trans hW) id).cell 1
       obtain⟨ad2,rj,_,_,_⟩:=(HI.out.upd hu Qo).at_ b3
       have kc:∀W,Upd No (wr.alloc (.cells #[Qi xk,.slice xA xl.length xc] 59)) W->W.cell? (ad2.add k)=some (Qi ks[k]):=fun W hW=>by
        obtain⟨ad3,zr,_,_,sJ⟩:=(HI.out.upd (UA.out.trans hW) Qo).at_ b3;rw[rj]at zr
        cases zr
        exact sJ
       obtain⟨ws,r9⟩:=Qe (wrS xk [] txs);have ix:=Zm4 xk txs [];rw[r9]at ix ag;simp only[Fz,Nat.zero_add]at ix;have yj:=Qh fun W (hW:Upd No (wr.alloc (.cells #[Qi xk,.slice xA xl.length xc] 59)) W)=>(Zq4 F W txs ords A c (some ad) d xk (H.upd (fc.out _ (UA.out.trans hW)) Qo)).mono (R':=Zin W ws) (fun e w' h=>by rw[r9]at h;exact h)
       obtain⟨P,hP⟩:∃P,(xl.length==ws.length&&xl.all fun x=>xl.count x==ws.count x)=P:=⟨_,rfl⟩;simp only at ag;rw[hP]at ag;have yK:=Qh fun W (hW:Upd No (wr.alloc (.cells #[Qi xk,.slice xA xl.length xc] 59)) W) (G:Gt) A6 c6 (hI:Ints G W A6 ws)=>Zt4 (F:=F) (G:=G) (w:=W) (A:=xA) (B:=A6) (c:=xc) (d:=c6) (HL.out.1.upd (fc.out _ (UA.out.trans hW)) Qo) hI HL.out.2.2.1 (by omega) hP
       obtain⟨y,hy⟩:=Qe (ks[k]);rw[hy]at kc;rw[show(some ks[k]).getD 0=y from hy]at ag;have aD:=Qh ag;have D5:=Qh rj;subst rj;clear ag r9 hP hy
       by_cases hky:xk=y
       ·have e9:(xk != y)=false:=by rw[hky];simp
        have kT:(xk==y)=true:=by simpa using hky
        clear hky
        cases P
        ·have HS:=Qh (show Za0 txs ords=false by rw[HV.out,HT.out,vg.out,<-aD.out,kT];rfl);go_wp2;refine wpS (fun w'=>Upd No (wr.alloc (.cells #[Qi xk,.slice xA xl.length xc] 59)) w') ?_ fun jH=>?_
         ·(first|exact(Gg No _).drew|exact jH.trans hu3)
         (iterate 13 refine wpF ?_);refine wpZ 13 rfl fun K hK=>?_;go_simp
         (first
  |(go_at_call 86;refine(yj.out _ jH).mono ?_;rintro e w3 ⟨A6,c6,rfl,gV,hu3⟩;have vL:=Zd9 gV))
         try (go_wp2_with fail)
         refine hK.out _ _ ?_ fun jH=>?_
         ·(first|exact(Gg No _).drew|exact jH.trans hu3)
         try simp only[Qa]
         refine wpZ 14 rfl fun K hK=>?_;go_simp
         (first
  |(go_at_call 85;refine Ck (yK.out _ jH _ A6 c6 vL) fun w3 hu3=>?_))
         try (go_wp2_with fail)
         refine hK.out _ _ ?_ fun jH=>?_
         ·(first|exact(Gg No _).drew|exact jH.trans hu3)
         try simp only[Qa]
         (iterate 2 refine wpF ?_);refine wpD (Gd ?_);have bC:=Qh (UA.out.trans jH);clear jH e0 e1 g0 g1 kc;go_wp2;go_ret;exact⟨by rw[HS.out];rfl,fc.out _ bC.out⟩
        ·have HS:=Qh (show ZdC txs ks (ords.drop (k+1)) (k+1)=ZdC txs ks ords 0 by rw[<-aD.out,kT];rfl);go_wp2;refine wpS (fun w'=>Upd No (wr.alloc (.cells #[Qi xk,.slice xA xl.length xc] 59)) w') ?_ fun jH=>?_
         ·(first|exact(Gg No _).drew|exact jH.trans hu3)
         (iterate 13 refine wpF ?_);refine wpZ 13 rfl fun K hK=>?_;go_simp
         (first
  |(go_at_call 86;refine(yj.out _ jH).mono ?_;rintro e w3 ⟨A6,c6,rfl,gV,hu3⟩;have vL:=Zd9 gV))
         try (go_wp2_with fail)
         refine hK.out _ _ ?_ fun jH=>?_
         ·(first|exact(Gg No _).drew|exact jH.trans hu3)
         try simp only[Qa]
         refine wpZ 14 rfl fun K hK=>?_;go_simp
         (first
  |(go_at_call 85;refine Ck (yK.out _ jH _ A6 c6 vL) fun w3 hu3=>?_))
         try (go_wp2_with fail)
         refine hK.out _ _ ?_ fun jH=>?_
         ·(first|exact(Gg No _).drew|exact jH.trans hu3)
         try simp only[Qa]
         (iterate 2 refine wpF ?_);refine wpD (Gd ?_);have bC:=Qh (UA.out.trans jH);clear jH e0 e1 g0 g1 kc;go_wp2;go_roundg (gk-1);exact⟨k+1,by omega,by go_num,HS,bC.out⟩;omega
       ·have e9:(xk != y)=true:=by rw[bne_iff_ne];exact hky
        have HS:=Qh (show Za0 txs ords=false by rw[HV.out,HT.out,vg.out,<-aD.out,beq_eq_false_iff_ne.2 hky];rfl);clear hky;go_wp2;refine wpS (fun w'=>Upd No (wr.alloc (.cells #[Qi xk,.slice xA xl.length xc] 59)) w') ?_ fun jH=>?_
        ·(first|exact(Gg No _).drew|exact jH.trans hu3)
        (iterate 13 refine wpF ?_);refine wpZ 13 rfl fun K hK=>?_;go_simp;refine hK.out _ _ ?_ fun jH=>?_
        ·exact jH
        try simp only[Qa]
        refine wpZ 14 rfl fun K hK=>?_;go_simp;refine hK.out _ _ ?_ fun jH=>?_
        ·exact jH
        try simp only[Qa]
        (iterate 2 refine wpF ?_);refine wpD (Gd ?_);have bC:=Qh (UA.out.trans jH);clear jH e0 e1 g0 g1 kc;go_wp2;go_ret;exact⟨by rw[HS.out];rfl,fc.out _ bC.out⟩
      ·obtain rfl:k=ords.length:=by omega
       have HS:=Qh (show Za0 txs ords=true by rw[HV.out,HT.out,vg.out,<-hs.out,Fq];rfl);go_wp2;go_ret;exact⟨by rw[HS.out];rfl,fc.out _ hu⟩
    ·have jn:((ords.length:Int) != (ks.length:Int))=true:=by rw[bne_iff_ne];omega
     have HS:=Qh (show Za0 txs ords=false by rw[HV.out,HT.out,show(ords.length==ks.length)=false by simpa using hlen];rfl);clear hlen;go_wp2;go_ret;exact⟨by rw[HS.out];rfl,HU.out⟩
