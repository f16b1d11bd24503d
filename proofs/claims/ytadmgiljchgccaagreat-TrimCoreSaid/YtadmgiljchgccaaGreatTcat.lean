/- order.Without: slices.DeleteFunc at ints: those that are one number go. -/
import Derived.Test.YtadmgiljchgccaaGreatTcaf
import Derived.Test.YtadmgiljchgccaaGreatTcao
namespace Go.Proofs.YtadmgiljchgccaaGreat
open Go.RowKit
set_option linter.unusedVariables false
set_option linter.unusedSimpArgs false
set_option maxRecDepth 100000
set_option maxHeartbeats 8000000
theorem ZpP{P:Ix}{ops:Array Oper}{rest:List Oper}{o:Oper}{a:Act}{W:I0}{Q:Exit->Act->I0->Prop}(cm:o.guard=none){ty:Iy}{x y:Operand}(ho:o.op= .store ty x y)
  {g i:Nat} {t:Iy} {old:Ip} {v:Iz} {A:Addr} (hx:a.eval x= .pointer (some A)) (hA:A=⟨g,i,none⟩) (hy:a.eval y=v) (hb:Blk W g t old) (hi:(P.info? ty).map (·.size)=some 1) (hl:i<old.length) (h1:v.oneCell'=true)
  (h:∀w',Blk w' g t (old.set i v)->Upd (One g) W w'->wpList P ops Q rest (a.put o.dst undef) w'):wpList P ops Q (o::rest) a W:=by
 subst hA;exact Zr2 cm ho hx hy hb hi hl h1 h
def woI(tx:Int)(l:Iv):Iv:=l.filter fun n=> !(n==tx)
theorem cwo(w:I0)(x tx:Int)(b:Nat)(hb:w.cell? ⟨b,0,none⟩=some (Qi tx)):CN 241 #[Qi x,.pointer (some ⟨b,0,none⟩)] w (.bool (x==tx)):=by
 go_enter Tryz.func241,Tryz.ntmps241;go_wp2;go_ret;exact⟨rfl,Il _ _⟩
theorem Zwe(F:Iw)(w:I0)(A:OA)(c:Nat)(l:Iv)(tx:Int)(b:Nat)(H:Ints F w A l)(hl:l.length<=17592186044415)(hb:w.cell? ⟨b,0,none⟩=some (Qi tx)):
  CN 267 #[.slice A l.length c,.func (.func 241) #[] #[.pointer (some ⟨b,0,none⟩)]] w (Qi (Zfu (fun n=>n==tx) l)):=by
 have HB:=Qh hb;clear hb;go_enter Tryz.func267,Tryz.ntmps267;go_wp2
 go_loopg [8] l.length (fun gk s wr=>∃k:Nat,k+gk=l.length∧s= Qi k∧Hid (∀(j:Nat) (hj:j<l.length),j<k->(l[j]==tx)=false)∧Upd No w wr)
 case atStart=>exact⟨0,by omega,rfl,Qh (fun j _ hj=>by omega),Il _ _⟩
 case round=>
  obtain⟨k,aI,rfl,ah,hu⟩:=hrel
  by_cases hlt:k<l.length
  ·obtain⟨ad,rfl,_,_,q0⟩:=(H.upd hu Qo).at_ hlt;obtain⟨x,hx⟩:=Qe (l[k]);rw[hx]at q0;have X:=Qh hx;have b2:(k:Int)<(l.length:Int):=by omega
   have b1:(0:Int)<=(k:Int):=Qn _;have HC:=Qh (cwo wr x tx b (hu.keepNo HB.out));clear hx
   cases he:(x==tx)
   ·rw[he]at HC;have He:=Qh he;clear he;go_wp2_with fail;refine Ck HC.out fun w1 hu1=>?_;go_wp2;go_roundg (gk-1)
    case measure=>omega
    case rel=>exact⟨k+1,by omega,by go_num,Qh (fun j hj hjk=>by
      by_cases e:j=k
      ·subst e;rw[X.out];exact He.out
      ·exact ah.out j hj (by omega)),hu.trans hu1⟩
   ·rw[he]at HC;have aA:=Qh (Ztf (p:=fun n=>n==tx) (l:=l) hlt (fun j hj=>ah.out j (by omega) hj) (by rw[X.out];exact he));clear he;go_wp2_with fail;refine Ck HC.out fun w1 hu1=>?_;go_wp2;go_ret;exact⟨by rw[aA.out];rfl,hu.trans hu1⟩
  ·obtain rfl:k=l.length:=by omega
   have aA:=Qh (Zrg (p:=fun n=>n==tx) (l:=l) fun j hj=>ah.out j hj hj);go_wp2;go_ret;exact⟨by rw[aA.out];rfl,hu⟩
theorem Zri{l:Iv}{p:Int->Bool}{j:Nat}{x:Int}(hj:j<l.length)(hx:l[j]=x)(h:p x=true):(l.take (j+1)).filter p=(l.take j).filter p++[x]:=by
 rw[Gb hj,List.filter_append,hx,List.filter_cons_of_pos h];rfl
theorem Zti{l:Iv}{p:Int->Bool}{j:Nat}{x:Int}(hj:j<l.length)(hx:l[j]=x)(h:p x=false):(l.take (j+1)).filter p=(l.take j).filter p:=by
 rw[Gb hj,List.filter_append,hx,List.filter_cons_of_neg (by rw[h];decide)];simp
theorem ZkM{w:I0}{g:Nat}{cs:Ip}{l:Iv}(hb:Blk w g 3 cs)(h:cs.take l.length=l.map (Value.int .i64)):Ints (fun i=>i=g) w (some ⟨g,0,none⟩) l:=
 Ints.of_row hb rfl fun j v hj=>by
  have hlt:=(List.getElem?_eq_some_iff.1 hj).1;have h2:(cs.take l.length)[j]? =some (Qi v):=by rw[h,List.getElem?_map,hj];rfl
  rw[List.getElem?_take,if_pos hlt]at h2
  simpa using h2
theorem Zxm(w:I0)(ad:Addr)(g c b:Nat)(ff:Hid (ad=⟨g,0,none⟩))(l:Iv)(tx:Int)(cur:Ip)(hb:Blk w g 3 cur)(ht:cur.take l.length=l.map (Value.int .i64))(aT:cur.length=c)(mQ:l.length<=c)(hl:l.length<=17592186044415)
  (hbx:w.cell? ⟨b,0,none⟩=some (Qi tx)) (nh:b≠g):
  Calls Tryz.prog 240 #[.slice (some ad) l.length c,.func (.func 241) #[] #[.pointer (some ⟨b,0,none⟩)]] w fun e w'=>e= .returned (.slice (some ad) (woI tx l).length c)∧(∃cs,Blk w' g 3 cs∧cs.length=c∧cs.take (woI tx l).length=(woI tx l).map (Value.int .i64))∧Upd (One g) w w':=by
 have hW:Ints (fun i=>i=g) w (some ad) l:=by rw[ff.out];exact ZkM hb ht
 have HI:=Qh (Zwe (fun i=>i=g) w (some ad) c l tx b hW hl hbx);have nS:=Qh (show∀W,Upd (One g) w W->W.cell? ⟨b,0,none⟩=some (Qi tx) from fun W u=>u.keep hbx nh)
 by_cases aA:l.findIdx (fun n=>n==tx)<l.length
 ·have fU:Zfu (fun n=>n==tx) l=(l.findIdx (fun n=>n==tx):Int):=by unfold Zfu;rw[if_pos aA]
  rw[fU]at HI;have gA:(l[l.findIdx (fun n=>n==tx)]==tx)=true:=List.findIdx_getElem (p:=fun n=>n==tx) (w:=aA)
  have cH:∀(j:Nat) (hj:j<l.findIdx (fun n=>n==tx)),(l[j]'(by omega)==tx)=false:=fun j hj=>by
   have:=List.not_of_lt_findIdx (p:=fun n=>n==tx) (xs:=l) hj
   simpa using this
  obtain⟨k,hk⟩:∃k,l.findIdx (fun n=>n==tx)=k:=⟨_,rfl⟩;have gC:k<l.length:=by omega
  have bi:woI tx (l.take (k+1))=l.take k:=by
   unfold woI;rw[Gb gC,List.filter_append,List.filter_cons_of_neg (by rw[show(l[k]==tx)=true by simpa[hk]using gA];decide)]
   rw[List.filter_eq_self.2 (fun x hx=>by
    obtain⟨j,hj,rfl⟩:=Gl.1 hx;rw[List.getElem_take,cH j (by rw[hk];simp at hj;omega)];rfl)]
   simp
  have mf:((k:Int)== -1)=false:=by rw[beq_eq_false_iff_ne];omega
  have zw:IntKind.i64.wrap ((k:Int)+1)=(k:Int)+1:=IntWalk.i64_in _ (by omega);rw[hk]at HI;have ij:=Qh bi;have HB:=Qh hb;have HT:=Qh ht;have cS:=Qh aT;clear fU gA cH aA hk bi hW hb ht aT hbx;go_enter Tryz.func240,Tryz.ntmps240;go_wp2_with fail;refine Ck HI.out fun w1 hu1=>?_;have dq:=Qh (HB.out.upd hu1 id);have fF:Hid (Upd (One g) w w1):=Qh (hu1.mono (fun _ _ e=>e.elim));have dX:=Qh (List.length_take_of_le (Nat.le_of_lt gC):(l.take k).length=k);clear hu1;go_wp2
  go_loopg [5,6] (l.length-(k+1)) (fun gk si sj wr=>∃(m j:Nat) (xs:Iv) (cs:Ip),j+gk=l.length∧si= Qi m∧sj= Qi j∧m<j∧Hid (xs.length=l.length)∧Hid (xs.take m=woI tx (l.take j)∧(woI tx (l.take j)).length=m)∧Hid (xs.drop j=l.drop j)∧Hid (Blk wr g 3 cs)∧Hid (cs.take l.length=xs.map (Value.int .i64)∧cs.length=c)∧Upd (One g) w wr)
  case atStart=>exact⟨k,k+1,l,cur,by omega,rfl,by go_num,by omega,Qh rfl,Qh ⟨ij.out.symm,by rw[ij.out];exact dX.out⟩,Qh rfl,dq,Qh ⟨HT.out,cS.out⟩,fF.out⟩
  case round=>
   obtain⟨m,j,xs,cs,aI,rfl,rfl,mH,eA,HM,HD,fV,dz,hu⟩:=hrel;have i0:(0:Int)<=(m:Int):=Qn _
   by_cases hlt:j<l.length
   ·obtain⟨x,hx⟩:=Qe (l[j]);have iM:j<xs.length:=by rw[eA.out];exact hlt
    have mn:xs[j]=x:=by
     have h1:=Ge iM;have h2:=Ge hlt;rw[HD.out,h2]at h1
     injection h1 with h1 _
     rw[<-h1,hx]
    have mh:Ints (fun i=>i=g) wr (some ad) xs:=by rw[ff.out];exact ZkM fV.out (by rw[eA.out];exact dz.out.1)
    obtain⟨ad',e',_,_,q0⟩:=mh.at_ iM
    cases e'
    rw[mn]at q0
    have lY:xs.drop (j+1)=l.drop (j+1):=by
     have h1:=Ge iM;have h2:=Ge hlt;rw[HD.out,h2]at h1
     injection h1 with _ h1
     exact h1.symm
    have l6:=Qh lY;have HX:=Qh hx;have i1:(0:Int)<=(j:Int):=Qn _;have i2:(j:Int)<(l.length:Int):=by omega
    have i3:(m:Int)<(l.length:Int):=by omega
    have HC:=Qh (cwo wr x tx b (nS.out wr hu));clear hx iM mn mh lY HD
    cases hbx:(x==tx)
    ·rw[hbx]at HC;have hgo:woI tx (l.take (j+1))=woI tx (l.take j)++[x]:=Zri hlt HX.out (by rw[hbx];rfl);have iT:=Qh hgo;clear hbx hgo;go_wp2_with fail;refine Ck HC.out fun w2 hu2=>?_;have dR:=Qh (fV.out.upd hu2 id);have de:=Qh (hu.trans (hu2.mono (fun _ _ e=>e.elim)));clear hu2 HC;go_wp2_with (refine ZpP rfl rfl (g:=g) (i:=m) (v:= Qi x) rfl (by rw[ff.out,ZjQ,Nat.zero_add]) rfl dR.out (by kernel_rfl) (by have:=dz.out.2;omega) rfl ?_;intro w5 cw hu5);have fZ:(cs.set m (Qi x)).take l.length=(xs.set m x).map (Value.int .i64):=by rw[List.take_set,dz.out.1,List.map_set]
     have jP:=Qh cw;have cF:=Qh (de.out.trans hu5);have oH:=Qh (And.intro fZ (show(cs.set m (Qi x)).length=c by rw[List.length_set];exact dz.out.2));clear cw hu5 fZ;go_roundg (gk-1)
     case measure=>omega
     case rel=>
      refine⟨m+1,j+1,xs.set m x,_,by omega,by go_num,by go_num,by omega,Qh (by rw[List.length_set];exact eA.out),Qh ⟨?_,?_⟩,Qh ?_,jP,oH,cF.out⟩
      ·rw[iT.out,<-HM.out.1,List.set_eq_take_append_cons_drop,if_pos (by have:=eA.out;omega),List.take_append,List.take_of_length_le (by rw[Hm];omega),Hm,Nat.min_eq_left (by have:=eA.out;omega),Nat.add_sub_cancel_left];rfl
      ·rw[iT.out,Gt,HM.out.2];rfl
      ·rw[List.drop_set_of_lt (by omega)];exact l6.out
    ·rw[hbx]at HC;have hgo:woI tx (l.take (j+1))=woI tx (l.take j):=Zti hlt HX.out (by rw[hbx];rfl);have iT:=Qh hgo;clear hbx hgo;go_wp2_with fail;refine Ck HC.out fun w2 hu2=>?_;have dR:=Qh (fV.out.upd hu2 id);have de:=Qh (hu.trans (hu2.mono (fun _ _ e=>e.elim)));clear hu2 HC;go_wp2;go_roundg (gk-1);exact⟨m,j+1,xs,cs,by omega,rfl,by go_num,by omega,eA,Qh (by rw[iT.out];exact HM.out),l6,dR,dz,de.out⟩;omega
   ·obtain rfl:j=l.length:=by omega
    have hA:=ff.out;subst hA
    have d7:woI tx l=xs.take m∧(woI tx l).length=m:=by
     have:=HM.out;rw[G7]at this;exact⟨this.1.symm,this.2⟩
    have fO:=Qh d7;have i3:(m:Int)<=(l.length:Int):=by omega
    have j5:¬c=m:=by omega
    have k1:∀W,(Instr.slice 27 (.slice (some ⟨g,0,none⟩) l.length c) (some (Qi (m:Int))) none none).run Tryz.prog W= .ok (.slice (some ⟨g,m,none⟩) (l.length-m) (c-m)) W:=fun W=>by
     have:=Za5 (P:=Tryz.prog) (W:=W) Zay (some ⟨g,0,none⟩) l.length c m (by omega)
     rwa [ZdQ j5,Nat.mul_one]at this
    have k2:∀W,(Instr.slice 27 (.slice (some ⟨g,0,none⟩) l.length c) none (some (Qi (m:Int))) none).run Tryz.prog W= .ok (.slice (some ⟨g,0,none⟩) m c) W:=fun W=>by
     have:=ZbZ (P:=Tryz.prog) (W:=W) Zay (some ⟨g,0,none⟩) l.length c m (by omega)
     rwa [Zgo]at this
    have HU:=Qh hu;clear d7 hu dq fF ij HT cS dX HM HD;go_wp2_with (refine Ze1 rfl rfl Zay (z:= Qi 0) (fun w=>by kernel_rfl) rfl (by intro v hv;simp[Value.cells]at hv;subst hv;rfl) (g:=g) (off:=m) (n:=l.length-m) rfl (by omega) fV.out (by have:=dz.out.2;omega) ?_;intro zs w6 eM fx hu6)
    have cp:(cs.take (m)++zs++cs.drop (m+zs.length)).take m=(woI tx l).map (Value.int .i64):=by
     rw[Gx,Gc (by rw[Hm];have:=dz.out.2;omega),List.take_take,Nat.min_self,fO.out.1,List.map_take,<-dz.out.1,List.take_take,Nat.min_eq_left (by omega)]
    have dM:(cs.take (m)++zs++cs.drop (m+zs.length)).length=c:=by
     have:=dz.out.2;rw[Gt,Gt,Hm,G5,eM];omega
    have HF:=Qh cp;have mX:=Qh dM;have cP:=Qh fx;have bI:=Qh (HU.out.trans hu6);clear cp fx hu6 dM;go_wp2;go_ret;exact⟨by rw[fO.out.2];rfl,⟨_,cP.out,mX.out,by rw[fO.out.2];exact HF.out⟩,bI.out⟩
 ·have fU:Zfu (fun n=>n==tx) l= -1:=by unfold Zfu;rw[if_neg aA]
  rw[fU]at HI
  have ah:woI tx l=l:=by
   unfold woI;rw[List.filter_eq_self];intro x hx
   have h0:l.findIdx (fun n=>n==tx)=l.length:=by
    have:=List.findIdx_le_length (xs:=l) (p:=fun n=>n==tx);omega
   have h1:=(List.findIdx_eq_length (p:=fun n=>n==tx) (xs:=l)).1 h0 x hx;rw[h1];rfl
  have ez:=Qh ah;have HB:=Qh hb;have HT:=Qh (And.intro aT ht);clear fU aA ah hW hb ht aT;go_enter Tryz.func240,Tryz.ntmps240;go_wp2_with fail;refine Ck HI.out fun w1 hu1=>?_;go_wp2;go_ret;exact⟨by rw[ez.out];rfl,⟨cur,HB.out.upd hu1 id,HT.out.1,by rw[ez.out];exact HT.out.2⟩,hu1.mono (fun _ _ e=>e.elim)⟩
theorem Zxn(w:I0)(A:OA)(c b:Nat)(tx:Int)(hbx:w.cell? ⟨b,0,none⟩=some (Qi tx)):
  CN 240 #[.slice A (List.length ([]:Iv)) c,.func (.func 241) #[] #[.pointer (some ⟨b,0,none⟩)]] w (.slice A (List.length ([]:Iv)) c):=by
 have HI:=Qh (Zwe (fun _=>True) w A c [] tx b Ints.nil_ (by simp) hbx);rw[show Zfu (fun n=>n==tx) []= -1 from rfl]at HI;clear hbx;go_enter Tryz.func240,Tryz.ntmps240;go_wp2_with fail;refine Ck HI.out fun w1 hu1=>?_;go_wp2;go_ret;exact⟨rfl,hu1⟩
theorem ZsK(F:Iw)(w:I0)(A:OA)(c:Nat)(l:Iv)(tx:Int)(h:Ints F w A l)(hl:l.length<=17592186044415):
  Calls Tryz.prog 201 #[.slice A l.length c,Qi tx] w (Zcs w (woI tx l)):=by
 obtain⟨z,hz⟩:=Qe w.heap.size;obtain⟨wb,ag⟩:=Qe (w.alloc (.cells #[Qi tx] 3));have u1:Upd No w wb:=by rw[<-ag];exact(Il No w).alloc _
 have b1:Blk wb z 3 [Qi tx]:=by rw[<-ag,<-hz];exact Im w _ _
 have s1:wb.heap.size=z+1:=by rw[<-ag,<-hz];simp
 have HC:=Qh (ZfG F wb A c l (h.upd u1 Qo) hl);have U1:=Qh u1;have B1:=Qh b1;have S1:=Qh s1;have HZ:=Qh hz;clear u1 b1 s1 h;go_enter Tryz.func201,Tryz.ntmps201;go_wp2_with fail;refine(HC.out).mono ?_;rintro e w2 ⟨A2,c2,rfl,cE,hu2⟩;have q2:w2.cell? ⟨z,0,none⟩=some (Qi tx):=by have:=(B1.out.upd hu2 id).cell 0;simpa using this
 by_cases hl0:0<l.length
 ·obtain⟨g,cur,iG,iL,tR,bG,aT,gL,eK⟩:=Zbz cE hl0;have EP:z≠g:=by have:=S1.out;omega
  have HI:=Qh (Zxm w2 ⟨g,0,none⟩ g c2 z (Qh rfl) l tx cur tR (by simpa using gL) (by simpa using aT) bG hl q2 EP);have HG:=Qh (And.intro iL eK);have HN:=Qh bG;have de:=Qh (U1.out.trans hu2);subst iG;clear cE hu2 tR aT gL bG eK iL;go_wp2_with fail;refine(HI.out).mono ?_;rintro e w3 ⟨rfl,⟨cs,dp,jv,pB⟩,hu3⟩;have dV:(woI tx l).length<=l.length:=Gj ..;have eH:=Qh (Zbh (base:=w.heap.size) (size:=1) (n:=(woI tx l).length) (xs:=(woI tx l).map (Value.int .i64)) dp (by have:=HG.out.1;have:=S1.out;have:=HZ.out;omega) (by have:=HN.out;omega) (by omega) (by rw[Nat.mul_one];exact pB) HG.out.2 (by simp));have bg:=Qh (de.out.then_ hu3 (fun i e=> .inr (by cases e;have:=HG.out.1;have:=S1.out;have:=HZ.out;omega)));clear dp jv pB hu3;go_wp2;go_ret;exact⟨some ⟨g,0,none⟩,c2,rfl,eH.out,bg.out⟩
 ·have h0:l=[]:=Gd (by omega);subst h0;have HI:=Qh (Zxn w2 A2 c2 z tx q2);have de:=Qh (U1.out.trans hu2);have HO:=Qh (ZK cE (show w.heap.size<=wb.heap.size by have:=S1.out;have:=HZ.out;omega));clear cE hu2;go_wp2_with fail;refine Ck HI.out fun w3 hu3=>?_;have eH:=Qh (Za HO.out hu3 Qo);go_wp2;go_ret;exact⟨A2,c2,rfl,eH.out,de.out.trans hu3⟩
