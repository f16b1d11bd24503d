/- The kinds of a phenomenon; who is next in an order. -/
import Derived.Test.YtadmgiljchgccaaGreatLayIndexI
import Derived.Test.YtadmgiljchgccaaGreatTcaf
import Derived.Test.YtadmgiljchgccaaGreatTcak
import Derived.Test.YtadmgiljchgccaaGreatTcam
namespace Go.Proofs.YtadmgiljchgccaaGreat
open Go.RowKit
set_option linter.unusedVariables false
set_option linter.unusedSimpArgs false
set_option maxRecDepth 100000
set_option maxHeartbeats 4000000
def Zal(p:Int):Int:=if p=1 then 2 else if p=4 then 6 else if p=5 then 14 else 0
def ZaU(p:Int):Int:=if p=5 then 8 else 0
theorem ZlY(w:I0)(p:Int):CE 37 #[Qi p] w (.tuple #[Qi (Zal p),Qi (ZaU p)]):=by
 by_cases h1:p=1
 ·subst h1;go_enter Tryz.func37,Tryz.ntmps37;go_wp2;go_ret2;exact⟨rfl,rfl⟩
 ·by_cases h4:p=4
  ·subst h4;go_enter Tryz.func37,Tryz.ntmps37;go_wp2;go_ret2;exact⟨rfl,rfl⟩
  ·by_cases h5:p=5
   ·subst h5;go_enter Tryz.func37,Tryz.ntmps37;go_wp2;go_ret2;exact⟨rfl,rfl⟩
   ·have b1:(p==1)=false:=by simpa using h1
    have b4:(p==4)=false:=by simpa using h4
    have b5:(p==5)=false:=by simpa using h5
    have hm:=Qh (show Zal p=0 by unfold Zal;rw[if_neg h1,if_neg h4,if_neg h5]);have hu:=Qh (show ZaU p=0 by unfold ZaU;rw[if_neg h5]);clear h1 h4 h5;go_enter Tryz.func37,Tryz.ntmps37;go_wp2;go_ret2;exact⟨by rw[hm.out,hu.out];rfl,rfl⟩
def Zr(l:Iv)(x:Int):Nat:=l.findIdx (·==x)
theorem Zo4(l:Iv)(x:Int):Lib.idxOf l x=if Zr l x<l.length then (Zr l x:Int) else -1:=by
 by_cases h:Zr l x<l.length
 ·rw[if_pos h]
  have h1:=Lib.idxOf_hit l l.length (Zr l x) x h (Nat.le_refl _) (by
   rw[List.getD_eq_getElem?_getD,Qg h];have:=List.findIdx_getElem (p:=(·==x)) (xs:=l) (w:=h);rw[beq_iff_eq]at this;exact this) (fun j hj=>by
   have sH:j<l.length:=Nat.lt_trans hj h;rw[List.getD_eq_getElem?_getD,Qg sH];have:=List.not_of_lt_findIdx (p:=(·==x)) (xs:=l) hj
   simpa using this)
  rwa [G7]at h1
 ·rw[if_neg h]
  have h1:=Lib.idxOf_miss l l.length x (fun j hj=>by
   rw[List.getD_eq_getElem?_getD,Qg hj];have hlt:j<l.findIdx (·==x):=Gu hj (Nat.le_of_not_lt h);have:=List.not_of_lt_findIdx (p:=(·==x)) (xs:=l) hlt
   simpa using this)
  rwa [G7]at h1
theorem Zwd(F:Iw)(w:I0)(A:OA)(c:Nat)(l:Iv)(x:Int)(h:Ints F w A l)(hl:l.length<=17592186044415):
  CE 224 #[.slice A l.length c,Qi x] w (Qi (if Zr l x<l.length then (Zr l x:Int) else -1)):=by
 rw[<-Zo4]
 by_cases h0:l=[]
 ·subst h0;refine Calls.mono (AnyG.slices_Index_int_empty indexI_lay A c x w) ?_;rintro e w' ⟨rfl,rfl⟩;exact⟨rfl,rfl⟩
 ·obtain⟨b,o,rfl,hc⟩:=h.cells_ h0;refine Calls.mono (AnyG.slices_Index_int indexI_lay b o l.length c l x w (Nat.le_refl _) (by omega) hc) ?_;rintro e w' ⟨rfl,rfl⟩;rw[G7];exact⟨rfl,rfl⟩
def ZbL(l:Iv)(tx:Int):Option Int:=if tx=0 then l[0]? else if Zr l tx<l.length then l[Zr l tx+1]? else none
def ZrX(w:I0)(o:Option Int)(e:Ending)(w':I0):Prop:=e= .returned (match o with|some x=> .tuple #[Qi x,.bool true]|none=> .tuple #[Qi 0,.bool false])∧Upd No w w'
theorem Zxc(F:Iw)(w:I0)(A:OA)(c:Nat)(l:Iv)(tx:Int)(h:Ints F w A l)(hl:l.length<=17592186044415):
  Calls Tryz.prog 174 #[.slice A l.length c,Qi tx] w (ZrX w (ZbL l tx)):=by
 by_cases h0:tx=0
 ·have hn:=Qh (show ZbL l tx=l[0]? by unfold ZbL;rw[if_pos h0])
  by_cases hz:l.length=0
  ·have dY:=Qh (show ZbL l tx=none by rw[hn.out];exact List.getElem?_eq_none (by omega));have dK:((0:Int)==(l.length:Int))=true:=by rw[beq_iff_eq];omega
   have pO:(tx != 0)=false:=by rw[h0];rfl
   have Hz:=Qh hz;clear hz h0;go_enter Tryz.func174,Tryz.ntmps174;go_wp2;go_ret2;exact⟨by rw[dY.out];rfl,Il _ _⟩
  ·have hp:0<l.length:=by omega
   have dY:=Qh (show ZbL l tx=some l[0] by rw[hn.out];exact Qg hp);have dK:((0:Int)==(l.length:Int))=false:=by rw[beq_eq_false_iff_ne];omega
   have pO:(tx != 0)=false:=by rw[h0];rfl
   obtain⟨ad,hA,_,_,hc⟩:=h.at_ hp;have ha:ad.add 0=ad:=by unfold Addr.add;simp
   rw[ha]at hc;subst hA;have FU:(0:Int)<(l.length:Int):=by omega
   clear hz h0 ha;go_enter Tryz.func174,Tryz.ntmps174;go_wp2;go_ret2;exact⟨by rw[dY.out];rfl,Il _ _⟩
 ·have pO:(tx != 0)=true:=by simpa using h0
  have hn:=Qh (show ZbL l tx=if Zr l tx<l.length then l[Zr l tx+1]? else none by unfold ZbL;rw[if_neg h0]);clear h0;have eJ:=Zwd F w A c l tx h hl
  by_cases hp:Zr l tx<l.length
  ·rw[if_pos hp]at eJ;have kA:=Qh eJ;clear eJ;obtain⟨k,hk⟩:=Qe (Zr l tx);rw[hk]at kA hn hp;clear hk;have kD:((k:Int)+1==0)=false:=by rw[beq_eq_false_iff_ne];omega
   have hk0:(0:Int)<=(k:Int)+1:=by omega
   by_cases he:k+1=l.length
   ·have dY:=Qh (show ZbL l tx=none by rw[hn.out,if_pos hp];exact List.getElem?_eq_none (by omega));have eO:((k:Int)+1==(l.length:Int))=true:=by rw[beq_iff_eq];omega
    have He:=Qh he;clear he;go_enter Tryz.func174,Tryz.ntmps174;go_wp2_with fail;refine(kA.out).mono ?_;rintro e w1 ⟨rfl,rfl⟩;go_wp2;go_ret2;exact⟨by rw[dY.out];rfl,Il _ _⟩
   ·have hlt:k+1<l.length:=by omega
    have dY:=Qh (show ZbL l tx=some l[k+1] by rw[hn.out,if_pos hp];exact Qg hlt);have eO:((k:Int)+1==(l.length:Int))=false:=by rw[beq_eq_false_iff_ne];omega
    obtain⟨ad,hA,_,_,hc⟩:=h.at_ hlt;subst hA
    have gR:w.cell? ⟨ad.block,ad.off+(k+1),none⟩=some (Qi l[k+1]):=by
     rw[<-hc]
     congr 1
    have EF:(k:Int)+1<(l.length:Int):=by omega
    clear he;go_enter Tryz.func174,Tryz.ntmps174;go_wp2_with fail;refine(kA.out).mono ?_;rintro e w1 ⟨rfl,rfl⟩;go_wp2;go_ret2;exact⟨by rw[dY.out];rfl,Il _ _⟩
  ·rw[if_neg hp]at eJ;have kA:=Qh eJ;clear eJ;have dY:=Qh (show ZbL l tx=none by rw[hn.out,if_neg hp]);clear hp;go_enter Tryz.func174,Tryz.ntmps174;go_wp2_with fail;refine(kA.out).mono ?_;rintro e w1 ⟨rfl,rfl⟩;go_wp2;go_ret2;exact⟨by rw[dY.out];rfl,Il _ _⟩
/- The order of a key. -/
theorem ZnV(w:I0)(o:HOp):CN 122 #[.agg o.cells.toArray] w (.bool (!o.read)):=by
 unfold HOp.cells;go_enter Tryz.func122,Tryz.ntmps122;go_wp2;go_ret;exact⟨rfl,(Il _ _).alloc _⟩
theorem ZmA(w:I0)(o:HOrd)(p:Addr)(key:Int)(hp:w.cell? p=some (Qi key)):CN 226 #[.agg o.cells.toArray,.pointer (some p)] w (.bool (o.key==key)):=by
 unfold HOrd.cells;have dh:=((Il No w).alloc (.cells #[Qi o.key,.slice o.A o.txs.length o.c] 68)).keepNo hp;go_enter Tryz.func226,Tryz.ntmps226;go_wp2;go_ret;exact⟨rfl,(Il _ _).alloc _⟩
def Zcm(l:List HOrd)(key:Int):Nat:=l.findIdx fun o=>o.key==key
def Zgc(l:List HOrd)(key:Int):Int:=if Zcm l key<l.length then (Zcm l key:Int) else -1
theorem ZlW{l:List HOrd}{key:Int}{k:Nat}(hk:k<l.length)(h:∀(j:Nat) (hj:j<k),((l[j]'(by omega)).key==key)=false)(h1:(l[k].key==key)=true):Zcm l key=k:=by
 unfold Zcm;rw[List.findIdx_eq hk];exact⟨h1,fun j hj=>by simp only[h j hj]⟩
theorem Zqp{l:List HOrd}{key:Int}(h:∀(j:Nat) (hj:j<l.length),(l[j].key==key)=false):Zcm l key=l.length:=by
 unfold Zcm;rw[List.findIdx_eq_length];intro x hx;obtain⟨k,hk,rfl⟩:=Gl.1 hx;simp only[h k hk]
theorem Zxj(F:Iw)(w:I0)(B:OA)(d:Nat)(l:List HOrd)(p:Addr)(key:Int)(H:Recs F w B 2 (l.map HOrd.cells))(hl:l.length<=4398046511103)(hp:w.cell? p=some (Qi key)):
  CN 225 #[.slice B l.length d,.func (.func 226) #[] #[.pointer (some p)]] w (Qi (Zgc l key)):=by
 go_enter Tryz.func225,Tryz.ntmps225;go_wp2
 go_loopg [8] l.length (fun gk s wr=>∃k:Nat,k+gk=l.length∧s= Qi k∧Hid (∀(j:Nat) (hj:j<l.length),j<k->(l[j].key==key)=false)∧Upd No w wr)
 case atStart=>exact⟨0,by omega,rfl,Qh (fun j _ hj=>by omega),Il _ _⟩
 case round=>
  obtain⟨k,aI,rfl,ah,hu⟩:=hrel
  by_cases hlt:k<l.length
  ·have dJ:k<(l.map HOrd.cells).length:=by simpa using hlt
   obtain⟨ad,hB,_,_,hc⟩:=Recs.at_ (Recs.upd H hu Qo) dJ;rw[G8]at hc;obtain⟨x,hx⟩:=Qe (l[k]);rw[hx]at hc;have c0:wr.cell? (ad.add (k*2))=some (Qi x.key):=by simpa using hc 0 _ rfl
   have c1:wr.cell? ⟨(ad.add (k*2)).block,(ad.add (k*2)).off+1,none⟩=some (.slice x.A x.txs.length x.c):=by simpa using hc 1 _ rfl
   have iF:=hu.keepNo hp;subst hB;have X:=Qh hx;have b2:(k:Int)<(l.length:Int):=by omega
   have b1:(0:Int)<=(k:Int):=Qn _;clear hx hc dJ
   by_cases he:(x.key==key)=true
   ·have aA:=Qh (show Zgc l key=(k:Int) by unfold Zgc;rw[ZlW (l:=l) (key:=key) hlt (fun j hj=>ah.out j (by omega) hj) (by rw[X.out];exact he),if_pos hlt]);have He:=Qh he;clear he;go_wp2_with fail;refine(ZmA _ x p key iF).mono ?_;rintro e w1 ⟨cX,hu1⟩;rw[He.out]at cX;subst cX;go_wp2;go_ret;exact⟨by rw[aA.out];rfl,hu.trans hu1⟩
   ·have iy:(x.key==key)=false:=by simpa using he
    have He:=Qh iy;clear he iy;go_wp2_with fail;refine(ZmA _ x p key iF).mono ?_;rintro e w1 ⟨cX,hu1⟩;rw[He.out]at cX;subst cX;go_wp2;go_roundg (gk-1)
    case measure=>omega
    case rel=>exact⟨k+1,by omega,by go_num,Qh (fun j hj hjk=>by
      by_cases e:j=k
      ·subst e;rw[X.out];exact He.out
      ·exact ah.out j hj (by omega)),hu.trans hu1⟩
  ·obtain rfl:k=l.length:=by omega
   have aA:=Qh (show Zgc l key= -1 by unfold Zgc;rw[Zqp (l:=l) (key:=key) fun j hj=>ah.out j hj hj,if_neg (by omega)]);go_wp2;go_ret;exact⟨by rw[aA.out];rfl,hu⟩
def ZaA(l:List HOrd)(key:Int):Iv:=match l[Zcm l key]? with|some o=>o.txs|none=>[]
theorem Zye(F:Iw)(w:I0)(h:Hist)(key:Int)(H:h.lies F w):Calls Tryz.prog 175 #[h.val,Qi key] w (Zcs w (ZaA h.ords key)):=by
 obtain⟨txs,ords,A,c,B,d⟩:=h;unfold Hist.val;have iC:=H.fewo;simp only at iC;have u0:=((Il No w).alloc (.cells #[.slice A txs.length c,.slice B ords.length d] 25)).alloc (.cells #[Qi key] 3);have b0:=(Im w 25 [.slice A txs.length c,.slice B ords.length d]).alloc (.cells #[Qi key] 3);have b1:=Im (w.alloc (.cells #[.slice A txs.length c,.slice B ords.length d] 25)) 3 [Qi key];simp only[Ij]at b1;have p1:=b1.cell 0;simp only[Qz]at p1;have hi:=Zxj F _ B d ords ⟨w.heap.size+1,0,none⟩ key (Recs.upd H.ords u0 Qo) iC p1;have Hi:=Qh hi;have B0:=Qh b0;have U0:=Qh u0;clear hi b0 b1 u0 p1
 by_cases hp:Zcm ords key<ords.length
 ·have eo:=Qh (show Zgc ords key=(Zcm ords key:Int) by unfold Zgc;rw[if_pos hp]);obtain⟨k,hk⟩:=Qe (Zcm ords key);rw[hk]at eo hp;have ho:=Qh (show ZaA ords key=ords[k].txs by unfold ZaA;rw[hk,Qg hp]);clear hk;have b2:(k:Int)<(ords.length:Int):=by omega
  have b1:(0:Int)<=(k:Int):=Qn _;have b3:¬(k:Int)<0:=by omega
  go_enter Tryz.func175,Tryz.ntmps175;go_wp2_with fail;refine(Hi.out).mono ?_;rintro e w1 ⟨he,hu1⟩;rw[eo.out]at he;subst he;have hu:Upd No w w1:=U0.out.trans hu1;have g1:w1.cell? ⟨w.heap.size,1,none⟩=some (.slice B ords.length d):=(B0.out.upd hu1 id).cell 1;have H1:=H.upd hu Qo;obtain⟨ad,hB,c0,c1⟩:=H1.ord_at hp;have aY:=H1.ord ords[k] (Hg hp);simp only at hB c0 c1;subst hB;have HL:=Qh aY;clear aY H1;go_wp2_with fail;refine(ZfG F _ ords[k].A ords[k].c ords[k].txs HL.out.1 HL.out.2.2.1).mono ?_;rintro e w2 ⟨A2,c2,rfl,cE,hu2⟩;have HO:=Qh (And.intro cE hu2);clear cE hu2;go_wp2;go_ret;refine⟨A2,c2,by rw[ho.out];rfl,?_,hu.trans HO.out.2⟩;rw[ho.out];exact ZK HO.out.1 hu.size
 ·have eo:=Qh (show Zgc ords key= -1 by unfold Zgc;rw[if_neg hp]);have ho:=Qh (show ZaA ords key=[] by unfold ZaA;rw[List.getElem?_eq_none (by omega)]);clear hp;go_enter Tryz.func175,Tryz.ntmps175;go_wp2_with fail;refine(Hi.out).mono ?_;rintro e w1 ⟨he,hu1⟩;rw[eo.out]at he;subst he;have hu:Upd No w w1:=U0.out.trans hu1;go_wp2;go_ret;refine⟨none,0,by rw[ho.out];rfl,?_,hu⟩;rw[ho.out];exact Ik _ _ _ _
/- What the program tells of histories,in plain words:needs,keys,writers,right;and of edges,reads and witnesses. -/
def Zch(id:Int)(o:HOp):Bool:=o.read&& !((Zk o).tx==0)&& !((Zk o).tx==id)
def ZaH(id:Int)(l:Is):Nat->List Ver
 |0=>[]
 |k+1=>
  match l[k]? with
  |some o=>if Zch id o&& !(ZaH id l k).contains (Zk o) then ZaH id l k++[Zk o] else ZaH id l k
  |none=>ZaH id l k
def ZbS(id:Int)(l:Is):It:=ZaH id l l.length
def Zam(txs:List HTx)(v:Ver):Bool:=
 if v.tx=0∧v.nth=0 then idB v.key
 else match Ze txs v.tx with
  |some t=>decide (1<=v.nth)&&decide (v.nth<=(Z9 t.ops v.key:Int))
  |none=>false
def Za0(txs:List HTx)(id:Int)(l:Is):Bool:=(ZbS id l).all (Zam txs)
def ZbU(l:Is)(f:HOp->Bool):Iv:=(l.filter f).map (·.key)
def ZbB(l:Is):Iv:=ZJ (ZbU l fun o=> !o.read)
def Zcr(s:Iv):Iv->List Int
 |[]=>s
 |k::l=>Zcr (if k∈s then s else s++[k]) l
def ZE:List HTx->Iv->List Int
 |[],s=>s
 |t::l,s=>ZE l (if t.done then Zcr s (ZbB t.ops) else s)
def Zj(txs:List HTx)(key:Int):Iv:=(txs.filter fun t=>t.done&&(ZbB t.ops).contains key).map (·.id)
def Zdf(txs:List HTx)(i:Nat):Bool:=
 match txs[i]? with
 |none=>true
 |some t=>(match i with|0=>true|j+1=>(match txs[j]? with|some u=>decide (u.id<t.id)|none=>true))&&ZaT t.id t.ops==0&&Za0 txs t.id t.ops
def Zb4(txs:List HTx)(ords:List HOrd)(i:Nat):Bool:=
 match ords[i]? with
 |none=>true
 |some o=>(match i with|0=>true|j+1=>(match ords[j]? with|some u=>decide (u.key<o.key)|none=>true))&& !o.txs.isEmpty&&(Zbu o.txs==Zbu (Zj txs o.key))
def Zb(h:Hist):Bool:=
 decide (h.txs.length<=4096)&&(List.range h.txs.length).all (Zdf h.txs)&&(ZE h.txs []).length==h.ords.length&&(List.range h.ords.length).all (Zb4 h.txs h.ords)
def Zh(txs:List HTx)(id:Int):Option HTx:=match Ze txs id with|some t=>if t.done then some t else none|none=>none
def ZU(txs:List HTx)(v:Ver):Bool:=if v.tx=0 then true else match Zh txs v.tx with|some t=>v.nth==(Z9 t.ops v.key:Int)|none=>false
def Zav(ords:List HOrd)(key x y:Int):Bool:=ZbL (ZaA ords key) x==some y
def ZaW(id:Int)(l:Is)(key:Int)(counts:Ver->Bool):Bool:=l.any fun o=>o.read&&o.key==key&& !(o.tx==id)&&counts (Zk o)
def ZS(h:Hist)(e:Edge):Bool:=
 match Zh h.txs e.f,Zh h.txs e.t with
 |some a,some b=>
  if e.f=e.t then false
  else if e.k=1 then Zav h.ords e.key e.f e.t
  else if e.k=2 then ZaW b.id b.ops e.key fun v=>v.tx==e.f&&ZU h.txs v
  else if e.k=3 then ZaW a.id a.ops e.key fun v=>ZU h.txs v&&Zav h.ords e.key v.tx e.t
  else false
 |_,_=>false
structure HBad where
 tx:Int
 place:Int
 of:Ver
deriving DecidableEq
def HBad.cells(b:HBad):Ip:=[Qi b.tx,Qi b.place,Qi b.of.tx,Qi b.of.key,Qi b.of.nth]
def ZaS(txs:List HTx)(p:Int)(b:HBad):Bool:=
 match Zh txs b.tx with
 |none=>false
 |some t=>
  if b.place<0 then false
  else match t.ops[b.place.toNat]? with
   |none=>false
   |some o=>
    if !o.read|| !(Zk o==b.of)||o.tx==0||o.tx==t.id then false
    else if p=2 then (match Ze txs o.tx with|some u=> !u.done|none=>true)
    else if p=3 then decide (o.nth<(Z9 (match Ze txs o.tx with|some u=>u.ops|none=>[]) o.key:Int))
    else false
def ZfE(m p:Int):Bool:=(bits .andNot .i64 m (Zal p)==0)&&(ZaU p==0|| !(bits .and .i64 m (ZaU p)==0))
def ZdJ:HBad:=⟨0,0,⟨0,0,0⟩⟩
def Zp(h:Hist)(p:Int)(l:List Edge)(b:HBad):Bool:=
 Zb h&&(if p=2∨p=3 then decide (l.length=0)&&ZaS h.txs p b
  else !(Zal p==0)&&b==ZdJ&&Zan l&&ZfE (ZcH l) p&&l.all (ZS h))
/-! from any place -/
theorem ZrB{l:List Edge}(h:Zan l=true){j:Nat}(hj:j<l.length):(l[j]?.map (·.t))=(l[(j+1)%l.length]?.map (·.f)):=by
 unfold Zan at h;simp only[Hj,Gw,Hd,Ic]at h;have:=h.2 j hj;unfold okC at this
 simpa using this
/- Whether a version is there. -/
theorem Zra{txs:List HTx}{v:Ver}(h1:v.tx=0)(h2:v.nth=0):Zam txs v=idB v.key:=by unfold Zam;rw[if_pos ⟨h1,h2⟩]
theorem ZkP{txs:List HTx}{v:Ver}(h:¬(v.tx=0∧v.nth=0))(hf:Ze txs v.tx=none):Zam txs v=false:=by unfold Zam;rw[if_neg h,hf]
theorem ZkO{txs:List HTx}{v:Ver}{t:HTx}(h:¬(v.tx=0∧v.nth=0))(hf:Ze txs v.tx=some t):Zam txs v=(decide (1<=v.nth)&&decide (v.nth<=(Z9 t.ops v.key:Int))):=by unfold Zam;rw[if_neg h,hf]
section
variable (F:Iw) (w:I0) (txs:List HTx) (ords:List HOrd) (A:OA) (c:Nat) (B:OA) (d:Nat) (i:Int)
theorem Zep(H:Hist.lies F w ⟨txs,ords,A,c,B,d⟩)(hf:Ze txs i=none):Calls Tryz.prog 14 #[.agg #[.slice A txs.length c,.slice B ords.length d],Qi i] w fun e w'=>
  e= .returned (.tuple #[.agg #[Qi 0,.bool false,.slice none 0 0],.bool false])∧Upd No w w':=by
 refine(ZoN F w ⟨txs,ords,A,c,B,d⟩ i H).mono ?_;intro e w' h;unfold Zht at h;rw[show Ze (Hist.txs ⟨txs,ords,A,c,B,d⟩) i=none from hf]at h;exact h
theorem ZcU{t:HTx}(H:Hist.lies F w ⟨txs,ords,A,c,B,d⟩)(hf:Ze txs i=some t):Calls Tryz.prog 14 #[.agg #[.slice A txs.length c,.slice B ords.length d],Qi i] w fun e w'=>
  ∃A' c',e= .returned (.tuple #[.agg #[Qi t.id,.bool t.done,.slice A' t.ops.length c'],.bool true])∧t.ops.length<=c'∧HOps (fun i=>w.heap.size<=i) w' A' t.ops∧Upd No w w':=by
 refine(ZoN F w ⟨txs,ords,A,c,B,d⟩ i H).mono ?_;intro e w' h;unfold Zht at h;rw[show Ze (Hist.txs ⟨txs,ords,A,c,B,d⟩) i=some t from hf]at h;obtain⟨⟨A',c',h1,h2,h3⟩,h4⟩:=h;exact⟨A',c',h1,h2,h3,h4⟩
end
theorem Zdx{txs:List HTx}{i:Int}{t:HTx}(h:Ze txs i=some t):t∈txs:=List.mem_of_find?_eq_some h
theorem Zyf(F:Iw)(w:I0)(h:Hist)(v:Ver)(H:h.lies F w):CN 68 #[h.val,.agg v.cells.toArray] w (.bool (Zam h.txs v)):=by
 obtain⟨txs,ords,A,c,B,d⟩:=h;obtain⟨tx,key,nth⟩:=v;unfold Hist.val Ver.cells;have uu:=((Il No w).alloc (.cells #[.slice A txs.length c,.slice B ords.length d] 25)).alloc (.cells #[Qi tx,Qi key,Qi nth] 49)
 by_cases h1:tx=0
 ·subst h1
  by_cases h2:nth=0
  ·subst h2;have hv:=Qh (Zra (txs:=txs) (v:=⟨0,key,0⟩) rfl rfl);unfold idB at hv
   by_cases b1:1<=key
   ·by_cases b2:key<=1048575
    ·go_enter Tryz.func68,Tryz.ntmps68;go_wp2;go_ret;exact⟨by rw[hv.out,Qt b1,Qt b2];rfl,uu⟩
    ·go_enter Tryz.func68,Tryz.ntmps68;go_wp2;go_ret;exact⟨by rw[hv.out,Qf (show¬key<=1048575 by omega),Bool.and_false];rfl,uu⟩
   ·go_enter Tryz.func68,Tryz.ntmps68;go_wp2;go_ret;exact⟨by rw[hv.out,Qf (show¬1<=key by omega),Bool.false_and];rfl,uu⟩
  ·have hne:¬((⟨0,key,nth⟩:Ver).tx=0∧(⟨0,key,nth⟩:Ver).nth=0):=fun e=>h2 e.2
   have xM:(nth==0)=false:=by simpa using h2
   clear h2;have HH:=Qh (H.upd uu Qo);have b1:=Im (w.alloc (.cells #[.slice A txs.length c,.slice B ords.length d] 25)) 49 [Qi 0,Qi key,Qi nth];simp only[Ij]at b1;have B1:=Qh b1;clear b1
   cases hf:Ze txs 0 with
   |none=>
    have hv:=Qh (ZkP hne hf);have Hf:=Qh hf;clear hne hf;go_enter Tryz.func68,Tryz.ntmps68;go_wp2_with fail;refine Ck (Zep F _ txs ords A c B d 0 HH.out Hf.out) fun w1 hu1=>?_;have bv:=(B1.out.upd hu1 id).alloc (.cells #[Qi 0,.bool false,.slice none 0 0] 39);obtain⟨g0,g1,g2⟩:=bv.c3;go_wp2
    go_quiet (fail)
    go_wp2;go_ret;exact⟨by rw[hv.out];rfl,((uu.trans hu1).alloc _).drewN _⟩
   |some t=>
    have hv:=Qh (ZkO hne hf);have Hf:=Qh hf;have bD:=Qh (H.tx t (Zdx hf)).2.2.1;clear hne hf
    by_cases hn1:1<=nth
    ·go_enter Tryz.func68,Tryz.ntmps68;go_wp2_with fail;refine(ZcU F _ txs ords A c B d 0 HH.out Hf.out).mono ?_;rintro e w1 ⟨A1,c1,rfl,dP,cD,hu1⟩;have bv:=(B1.out.upd hu1 id).alloc (.cells #[Qi t.id,.bool t.done,.slice A1 t.ops.length c1] 39);have bt:=Im w1 39 [Qi t.id,.bool t.done,.slice A1 t.ops.length c1];have kE:=HOps.upd cD ((Il No w1).alloc (.cells #[Qi t.id,.bool t.done,.slice A1 t.ops.length c1] 39)) Qo;obtain⟨g0,g1,g2⟩:=bv.c3;obtain⟨k0,k1,k2⟩:=bt.c3;have U1:=Qh ((uu.trans hu1).alloc (.cells #[Qi t.id,.bool t.done,.slice A1 t.ops.length c1] 39));go_wp2
     go_region_held3 (fun w'=>w'.cell? ⟨w.heap.size+1,0,none⟩=some (Qi 0)∧w'.cell? ⟨w.heap.size+1,1,none⟩=some (Qi key)∧w'.cell? ⟨w.heap.size+1,2,none⟩=some (Qi nth)∧
       w'.cell? ⟨w1.heap.size,0,none⟩=some (Qi t.id)∧w'.cell? ⟨w1.heap.size,1,none⟩=some (.bool t.done)∧w'.cell? ⟨w1.heap.size,2,none⟩=some (.slice A1 t.ops.length c1)∧Upd No w w')
      (first|exact⟨g0,g1,g2,k0,k1,k2,U1.out.drew⟩|exact⟨g0,g1,g2,k0,k1,k2,U1.out⟩|(go_split_ands;refine⟨?_,?_,?_,?_,?_,?_,?_⟩<;>first|assumption|(exact hu3.keepNo (by assumption))|(exact Upd.trans (by assumption) hu3)))
      ((go_at_call 102;refine Ck (Zez _ _ t.id t.done A1 c1 t.ops key (by exact kE) bD.out) fun w3 hu3=>?_))
     go_wp2;go_ret;exact⟨by rw[hv.out,Qt hn1];rfl,(by go_split_ands;assumption)⟩
    ·go_enter Tryz.func68,Tryz.ntmps68;go_wp2_with fail;refine(ZcU F _ txs ords A c B d 0 HH.out Hf.out).mono ?_;rintro e w1 ⟨A1,c1,rfl,dP,cD,hu1⟩;have bv:=(B1.out.upd hu1 id).alloc (.cells #[Qi t.id,.bool t.done,.slice A1 t.ops.length c1] 39);obtain⟨g0,g1,g2⟩:=bv.c3;have np:decide (1<=nth)=false:=Qf (by omega);go_wp2
     go_quiet (fail)
     go_wp2;go_ret;exact⟨by rw[hv.out,Qf (show¬1<=nth by omega),Bool.false_and];rfl,((uu.trans hu1).alloc _).drewN _⟩
 ·have hne:¬((⟨tx,key,nth⟩:Ver).tx=0∧(⟨tx,key,nth⟩:Ver).nth=0):=fun e=>h1 e.1
  have pJ:(tx==0)=false:=by simpa using h1
  clear h1;have HH:=Qh (H.upd uu Qo);have b1:=Im (w.alloc (.cells #[.slice A txs.length c,.slice B ords.length d] 25)) 49 [Qi tx,Qi key,Qi nth];simp only[Ij]at b1;have B1:=Qh b1;clear b1
  cases hf:Ze txs tx with
  |none=>
   have hv:=Qh (ZkP hne hf);have Hf:=Qh hf;clear hne hf;go_enter Tryz.func68,Tryz.ntmps68;go_wp2_with fail;refine Ck (Zep F _ txs ords A c B d tx HH.out Hf.out) fun w1 hu1=>?_;have bv:=(B1.out.upd hu1 id).alloc (.cells #[Qi 0,.bool false,.slice none 0 0] 39);obtain⟨g0,g1,g2⟩:=bv.c3;go_wp2
   go_quiet (fail)
   go_wp2;go_ret;exact⟨by rw[hv.out];rfl,((uu.trans hu1).alloc _).drewN _⟩
  |some t=>
   have hv:=Qh (ZkO hne hf);have Hf:=Qh hf;have bD:=Qh (H.tx t (Zdx hf)).2.2.1;clear hne hf
   by_cases hn1:1<=nth
   ·go_enter Tryz.func68,Tryz.ntmps68;go_wp2_with fail;refine(ZcU F _ txs ords A c B d tx HH.out Hf.out).mono ?_;rintro e w1 ⟨A1,c1,rfl,dP,cD,hu1⟩;have bv:=(B1.out.upd hu1 id).alloc (.cells #[Qi t.id,.bool t.done,.slice A1 t.ops.length c1] 39);have bt:=Im w1 39 [Qi t.id,.bool t.done,.slice A1 t.ops.length c1];have kE:=HOps.upd cD ((Il No w1).alloc (.cells #[Qi t.id,.bool t.done,.slice A1 t.ops.length c1] 39)) Qo;obtain⟨g0,g1,g2⟩:=bv.c3;obtain⟨k0,k1,k2⟩:=bt.c3;have U1:=Qh ((uu.trans hu1).alloc (.cells #[Qi t.id,.bool t.done,.slice A1 t.ops.length c1] 39));go_wp2
    go_region_held3 (fun w'=>w'.cell? ⟨w.heap.size+1,0,none⟩=some (Qi tx)∧w'.cell? ⟨w.heap.size+1,1,none⟩=some (Qi key)∧w'.cell? ⟨w.heap.size+1,2,none⟩=some (Qi nth)∧
      w'.cell? ⟨w1.heap.size,0,none⟩=some (Qi t.id)∧w'.cell? ⟨w1.heap.size,1,none⟩=some (.bool t.done)∧w'.cell? ⟨w1.heap.size,2,none⟩=some (.slice A1 t.ops.length c1)∧Upd No w w')
     (first|exact⟨g0,g1,g2,k0,k1,k2,U1.out.drew⟩|exact⟨g0,g1,g2,k0,k1,k2,U1.out⟩|(go_split_ands;refine⟨?_,?_,?_,?_,?_,?_,?_⟩<;>first|assumption|(exact hu3.keepNo (by assumption))|(exact Upd.trans (by assumption) hu3)))
     ((go_at_call 102;refine Ck (Zez _ _ t.id t.done A1 c1 t.ops key (by exact kE) bD.out) fun w3 hu3=>?_))
    go_wp2;go_ret;exact⟨by rw[hv.out,Qt hn1];rfl,(by go_split_ands;assumption)⟩
   ·go_enter Tryz.func68,Tryz.ntmps68;go_wp2_with fail;refine(ZcU F _ txs ords A c B d tx HH.out Hf.out).mono ?_;rintro e w1 ⟨A1,c1,rfl,dP,cD,hu1⟩;have bv:=(B1.out.upd hu1 id).alloc (.cells #[Qi t.id,.bool t.done,.slice A1 t.ops.length c1] 39);obtain⟨g0,g1,g2⟩:=bv.c3;have np:decide (1<=nth)=false:=Qf (by omega);go_wp2
    go_quiet (fail)
    go_wp2;go_ret;exact⟨by rw[hv.out,Qf (show¬1<=nth by omega),Bool.false_and];rfl,((uu.trans hu1).alloc _).drewN _⟩
/- What a transaction needs of others. -/
theorem Zsg:SlT Tryz.prog 59 49 3 24:=SlT.mk_ Tryz.underlying59 (z:= .agg #[Qi 0,Qi 0,Qi 0]) (by kernel_rfl) rfl (by omega)
def ZtT(F:Iw)(w:I0)(A:OA)(l:It):Prop:=Recs F w A 3 (l.map Ver.cells)
theorem Zr5{l:It}:∀r∈l.map Ver.cells,r.length=3:=fun r hr=>by
 obtain⟨e,_,rfl⟩:=Ih.1 hr;rfl
def ZvG(w:I0)(l:It)(e:Ending)(w':I0):Prop:=∃A c,e= .returned (.slice A l.length c)∧w'.ownsRow w.heap.size 49 3 (.slice A l.length c) l.length (l.map Ver.cells).flatten∧Upd No w w'
def MetV(m:List (Ver×Iz))(xs:It)(k:Nat):Prop:=∀v:Ver,∃n:Nat,(ZX m v).getD (Qi 0)= Qi n∧n<=k∧(n=0↔v∉xs)
theorem MetV.nil:MetV [] [] 0:=fun v=>⟨0,by rw[ZdW];rfl,Nat.le_refl _,by simp⟩
theorem MetV.mono{m:List (Ver×Iz)}{xs:It}{k:Nat}(h:MetV m xs k):MetV m xs (k+1):=fun v=>by
 obtain⟨n,h1,h2,h3⟩:=h v;exact⟨n,h1,by omega,h3⟩
theorem MetV.put{m:List (Ver×Iz)}{xs:It}{k n:Nat}{v:Ver}(h:MetV m xs k)(hn:(ZX m v).getD (Qi 0)= Qi n):MetV (ZI m v (Qi ((n:Int)+1))) (if n=0 then xs++[v] else xs) (k+1):=fun u=>by
 obtain⟨n',h1,h2,h3⟩:=h v;rw[h1]at hn;obtain rfl:n'=n:=by injection hn with _ hn;omega
 by_cases e:u=v
 ·subst e;refine⟨n'+1,by rw[Zai];rfl,by omega,?_⟩
  constructor
  ·intro e;omega
  ·intro dY
   split at dY
   ·simp at dY
   ·rename_i h0
    exact absurd (h3.2 dY) h0
 ·rw[ZaI _ _ e];obtain⟨q,g1,g2,g3⟩:=h u;refine⟨q,g1,by omega,?_⟩;rw[g3]
  split
  ·simp[e]
  ·rfl
theorem ZgJ{id:Int}{l:Is}{k:Nat}{x:HOp}(hk:k<l.length)(hx:l[k]=x)(h:Zch id x=false):ZaH id l (k+1)=ZaH id l k:=by
 show(match l[k]? with|some o=>_|none=>_)=_
 rw[Qg hk,hx];simp[h]
theorem ZoT{id:Int}{l:Is}{k:Nat}{x:HOp}(hk:k<l.length)(hx:l[k]=x)(h:Zch id x=true):ZaH id l (k+1)=if Zk x∉ZaH id l k then ZaH id l k++[Zk x] else ZaH id l k:=by
 show(match l[k]? with|some o=>_|none=>_)=_
 rw[Qg hk,hx];simp[h]
theorem ZgK(id:Int)(l:Is):∀k,(ZaH id l k).length<=k
 |0=>Nat.le_refl _
 |k+1=>by
  have ih:=ZgK id l k
  show(match l[k]? with|some o=>_|none=>_:It).length<=_
  split
  ·split
   ·simp;omega
   ·omega
  ·omega
theorem Zly(F:Iw)(w:I0)(i0:Int)(dn:Bool)(A:OA)(c:Nat)(l:Is)(h:HOps F w A l)(hl:Zt l.length):
  Calls Tryz.prog 26 #[.agg #[Qi i0,.bool dn,.slice A l.length c]] w (ZvG w (ZbS i0 l)):=by
 unfold Zt at hl;have uT:=(Il No w).alloc (.cells #[Qi i0,.bool dn,.slice A l.length c] 39);have bT:=Qh (Im w 39 [Qi i0,.bool dn,.slice A l.length c]);have eT:= @run_makeMap Tryz.prog;have iJ:=MapE.new (w.alloc (.cells #[Qi i0,.bool dn,.slice A l.length c] 39)) ZdA;simp only[Ij]at iJ;have HN:=Qh iJ;clear iJ;go_enter Tryz.func26,Tryz.ntmps26;go_wp2
 go_loopg [3,12] l.length (fun gk s i wr=>∃(k:Nat) (A3:OA) (c3:Nat) (xs:It) (m:List (Ver×Iz)),k+gk=l.length∧i= Qi k∧s= .slice A3 xs.length c3∧Hid (xs=ZaH i0 l k)∧xs.length<=k∧
  Hid (MapE wr (w.heap.size+1) ZdA m)∧Hid (MetV m xs k)∧wr.ownsRow (w.heap.size+2) 49 3 (.slice A3 xs.length c3) xs.length (xs.map Ver.cells).flatten∧
  Upd No (w.alloc (.cells #[Qi i0,.bool dn,.slice A l.length c] 39)) wr)
 case atStart=>exact⟨0,none,0,[],[],by omega,rfl,rfl,Qh rfl,by simp,Qh HN.out,Qh MetV.nil,Ik _ _ _ _,(Il No _).alloc _⟩
 case round=>
  obtain⟨k,A3,c3,xs,m,aI,rfl,rfl,cZ,hxl,hm,hW,ae,hu⟩:=hrel;clear eT
  by_cases hlt:k<l.length
  ·obtain⟨ad,aH,q0,q1,q2,q3⟩:=(h.upd (uT.trans hu) Qo).at_ hlt;obtain⟨x,hx⟩:=Qe (l[k]);rw[hx]at q0 q1 q2 q3;subst aH;have X:=Qh hx;have b1:(0:Int)<=(k:Int):=Qn _;have b2:(k:Int)<(l.length:Int):=by omega
   have uA:=(Il No wr).alloc (.cells #[.bool x.read,Qi x.key,Qi x.tx,Qi x.nth] 66);have bo:=Qh (Im wr 66 [.bool x.read,Qi x.key,Qi x.tx,Qi x.nth]);clear hx;have aN:=hm.out.lt;have cd:=hm.out.upd uA id;have aM:=Za ae uA Qo;have bT1:=Qh ((bT.out.upd hu id).upd uA id);obtain⟨v,hv⟩:=Qe (Zk x);have dv:=oof (wr.alloc (.cells #[.bool x.read,Qi x.key,Qi x.tx,Qi x.nth] 66)) x;rw[hv]at dv;have qY:=Qh (dv.mono (R':=fun e w'=>e= .returned (.agg #[Qi v.tx,Qi v.key,Qi v.nth])∧Upd No (wr.alloc (.cells #[.bool x.read,Qi x.key,Qi x.tx,Qi x.nth] 66)) w') fun e w' h=>h);have V:=Qh hv;clear dv hv;go_wp2_with fail;refine Ck qY.out fun w1 hu1=>?_;have uV:=hu1.alloc (.cells #[Qi v.tx,Qi v.key,Qi v.nth] 49);have bv:=Im w1 49 [Qi v.tx,Qi v.key,Qi v.nth];have bo1:=bo.out.upd uV id;have bT2:=bT1.out.upd uV id;have bh:=cd.upd uV id;have aD:=Za aM uV Qo;have k0:=bo1.cell 0;have t0:=bT2.cell 0;obtain⟨v0,v1,v2⟩:=bv.c3;simp only[Qz,Qs]at k0 t0;have HU:=Qh ((hu.trans uA).trans uV);have fG:=uV.size;simp only[Ij]at fG;have eI:=hu1.size;simp only[Ij]at eI;have eY:=hu.size;simp only[Ij]at eY;clear uA uV cd aM bo1 bT2 bv hu1
   cases hr:x.read
   ·rw[hr]at k0;have HS:=Qh (ZgJ (id:=i0) hlt X.out (by unfold Zch;rw[hr];rfl));clear hr;go_wp2;go_roundg (gk-1);exact⟨k+1,A3,c3,xs,m,by omega,by go_num,rfl,Qh (by rw[HS.out,cZ.out]),by omega,Qh bh,Qh hW.out.mono,aD,HU.out⟩;omega
   ·rw[hr]at k0
    by_cases h0:v.tx=0
    ·have HS:=Qh (ZgJ (id:=i0) hlt X.out (by unfold Zch;rw[V.out,h0];simp));have pO:(v.tx==0)=true:=by simpa using h0
     clear hr h0;go_wp2;go_roundg (gk-1);exact⟨k+1,A3,c3,xs,m,by omega,by go_num,rfl,Qh (by rw[HS.out,cZ.out]),by omega,Qh bh,Qh hW.out.mono,aD,HU.out⟩;omega
    ·have pO:(v.tx==0)=false:=by simpa using h0
     clear h0
     by_cases h1:v.tx=i0
     ·have pJ:(v.tx==i0)=true:=by simpa using h1
      have HS:=Qh (ZgJ (id:=i0) hlt X.out (by unfold Zch;rw[V.out,pJ];simp));clear hr h1;go_wp2;go_roundg (gk-1);exact⟨k+1,A3,c3,xs,m,by omega,by go_num,rfl,Qh (by rw[HS.out,cZ.out]),by omega,Qh bh,Qh hW.out.mono,aD,HU.out⟩;omega
     ·have pJ:(v.tx==i0)=false:=by simpa using h1
      have HS:=Qh (show ZaH i0 l (k+1)=if v∉xs then xs++[v] else xs by rw[cZ.out,<-V.out];exact ZoT (id:=i0) hlt X.out (by unfold Zch;rw[V.out,pJ,hr,pO];rfl));clear hr h1;obtain⟨N,hN,FG,gQ⟩:=hW.out v;have mR:=Qh (hW.out.put hN);have zt:=Qh gQ;clear gQ;have DH:=Qh (show(w1.alloc (.cells #[Qi v.tx,Qi v.key,Qi v.nth] 49)).heap.size=w1.heap.size+1 by simp);go_wp2;generalize hW0:w1.alloc (.cells #[Qi v.tx,Qi v.key,Qi v.nth] 49)=W0 at*;clear hW0;have tG:=DH.out;have mW:=HU;have jJ:IntKind.i64.wrap ((N:Int)+1)=(N:Int)+1:=IntWalk.i64_in _ (by omega);have fd:w1.heap.size≠w.heap.size+1:=by omega
      have dW:∀i,One (w.heap.size+1) i->w.heap.size+1<=i:=fun i e=>by cases e;exact Nat.le_refl _
      have cy:MapE W0.drew (w.heap.size+1) ZdA m:=bh;obtain⟨st,w2,e2,ic,hu2,am⟩:=Zdr Zjb Tryz.underlying97 Zel cy v;have e1:=ZP Zjb Tryz.underlying97 Zel cy.is v;have e3:=ZP Zjb Tryz.underlying97 Zel ic.is v;rw[Zai]at e3;rw[hN]at e1 e2 e3;obtain⟨w3,e4,mS,hu3⟩:=am (Qi ((N:Int)+1));have e5:=ZP Zjb Tryz.underlying97 Zel mS.is v;rw[Zai]at e5;change (Instr.lookup 97 (.map (some (w.heap.size+1))) (.agg #[Qi v.tx,Qi v.key,Qi v.nth]) false).run Tryz.prog W0.drew= .ok (Qi N) W0.drew at e1;change (Instr.lookup 97 (.map (some (w.heap.size+1))) (.agg #[Qi v.tx,Qi v.key,Qi v.nth]) false).run Tryz.prog w2= .ok (Qi N) w2 at e3;change (Instr.mapEntry 97 (.map (some (w.heap.size+1))) (.agg #[Qi v.tx,Qi v.key,Qi v.nth])).run Tryz.prog W0.drew= .ok (.tuple #[Qi N,Qi st]) w2 at e2;change (Instr.entryStore 97 (.map (some (w.heap.size+1))) (Qi st) (Qi ((N:Int)+1))).run Tryz.prog w2= .ok () w3 at e4;change (Instr.lookup 97 (.map (some (w.heap.size+1))) (.agg #[Qi v.tx,Qi v.key,Qi v.nth]) false).run Tryz.prog w3= .ok (Qi ((N:Int)+1)) w3 at e5;have a0:=Upd.keep hu2 (p:=⟨w1.heap.size,0,none⟩) v0 fd;have a1:=Upd.keep hu2 (p:=⟨w1.heap.size,1,none⟩) v1 fd;have a2:=Upd.keep hu2 (p:=⟨w1.heap.size,2,none⟩) v2 fd;have c0:=Upd.keep hu3 (p:=⟨w1.heap.size,0,none⟩) v0 fd;have c1:=Upd.keep hu3 (p:=⟨w1.heap.size,1,none⟩) v1 fd;have c2:=Upd.keep hu3 (p:=⟨w1.heap.size,2,none⟩) v2 fd
      have aQ:=Za aD hu3.of_drew (fun i hi e=>by have:=(aD.lt i hi).1;cases e;omega);have bg:=Qh (mW.out.then_ hu3.of_drew fun i e=> .inr (by simp only[Ij];exact dW i e));have fT:W0.heap.size<=w3.heap.size:=hu3.size;have zS:=Qh mS;clear hN am cy bh ic mS aD hu2 hu3
      go_region_held3 (fun w'=>w'.cell? ⟨w1.heap.size,0,none⟩=some (Qi v.tx)∧w'.cell? ⟨w1.heap.size,1,none⟩=some (Qi v.key)∧w'.cell? ⟨w1.heap.size,2,none⟩=some (Qi v.nth))
       (first|exact⟨v0,v1,v2⟩|exact⟨a0,a1,a2⟩|exact⟨c0,c1,c2⟩) (fail)
      all_goals
       clear e1 e2 e3 e4 a0 a1 a2 v0 v1 v2 k0 t0 jJ;have Hc:=Qh c0
       by_cases hN1:N=0
       ·have aU:=Qh (show ZaH i0 l (k+1)=xs++[v] by rw[HS.out,if_pos (zt.out.1 hN1)]);have eP:=mR.out;rw[if_pos hN1]at eP;have x8:=Qh eP;have e6:(Instr.lookup 97 (.map (some (w.heap.size+1))) (.agg #[Qi v.tx,Qi v.key,Qi v.nth]) false).run Tryz.prog w3= .ok (Qi 1) w3:=by rw[e5,hN1];rfl
        clear hN1 e5 eP;go_wp2_with (at_builtin;refine ZbG rfl rfl Zsg (v:= .slice A3 xs.length c3) (cells:=[Qi v.tx,Qi v.key,Qi v.nth]) (by rfl) rfl aQ rfl rfl (by omega) (by omega) (by omega) ?_;intro g' c' w4 aF hu4 dd wM);go_roundg (gk-1)
        case measure=>omega
        case rel=>
         refine⟨k+1,some ⟨g',0,none⟩,c',xs++[v],_,by omega,by go_num,by simp,Qh (by rw[aU.out]),by simp;omega,Qh (zS.out.upd hu4 (fun e=>by have:=(aQ.lt _ e).1;omega)),x8,?_,bg.out.then_ hu4 fun i e=> .inr (by have:=(aQ.lt i e).1;simp only[Ij];omega)⟩
         simpa[Ver.cells]using aF
       ·have aU:=Qh (show ZaH i0 l (k+1)=xs by rw[HS.out,if_neg (fun e=>hN1 (zt.out.2 e))]);have eP:=mR.out;rw[if_neg hN1]at eP;have x8:=Qh eP;have aX:((N:Int)+1==1)=false:=by rw[beq_eq_false_iff_ne];omega
        clear hN1 eP;go_wp2;go_roundg (gk-1);exact⟨k+1,A3,c3,xs,_,by omega,by go_num,rfl,Qh (by rw[aU.out]),by omega,zS,x8,aQ,bg.out⟩;omega
  ·obtain rfl:k=l.length:=by omega
   have Hx:=Qh (show xs=ZbS i0 l by rw[cZ.out];rfl);clear cZ;go_wp2;go_ret;exact⟨A3,c3,by rw[Hx.out];rfl,by rw[<-Hx.out];exact ZK ae (by omega),uT.trans hu⟩
/- Whether all that a transaction needs is there. -/
def Zm6(w:I0)(g:Nat)(h:Hist):Prop:=Blk w g 25 h.cells
theorem nd1(F:Iw)(w:I0)(h:Hist)(g:Nat)(v:Ver)(H:h.lies F w)(hg:Zm6 w g h):
  CN 67 #[.agg v.cells.toArray,.pointer (some ⟨g,0,none⟩)] w (.bool (!(Zam h.txs v))):=by
 obtain⟨txs,ords,A,c,B,d⟩:=h;unfold Zm6 Hist.cells at hg;obtain⟨tx,key,nth⟩:=v;unfold Ver.cells;have uA:=(Il No w).alloc (.cells #[Qi tx,Qi key,Qi nth] 49);have g0:=(hg.upd uA id).cell 0;have g1:=(hg.upd uA id).cell 1;simp only[Qz,Qs]at g0 g1;have hh:=Zyf F _ ⟨txs,ords,A,c,B,d⟩ ⟨tx,key,nth⟩ (H.upd uA Qo);obtain⟨b,hb⟩:=Qe (Zam txs ⟨tx,key,nth⟩);rw[show Zam (Hist.txs ⟨txs,ords,A,c,B,d⟩) ⟨tx,key,nth⟩=b from hb]at hh;have HH:=Qh hh;have Hb:=Qh hb;clear hh hb;go_enter Tryz.func67,Tryz.ntmps67;go_wp2_with fail;refine Ck HH.out fun w1 hu1=>?_;go_wp2;go_ret;exact⟨by rw[show Zam (Hist.txs ⟨txs,ords,A,c,B,d⟩) ⟨tx,key,nth⟩=b from Hb.out];rfl,uA.trans hu1⟩
def Zf2(txs:List HTx)(l:It):Nat:=l.findIdx fun v=> !(Zam txs v)
def Zgd(txs:List HTx)(l:It):Int:=if Zf2 txs l<l.length then (Zf2 txs l:Int) else -1
theorem Zsy{txs:List HTx}{l:It}{k:Nat}(hk:k<l.length)(h:∀(j:Nat) (hj:j<k),Zam txs (l[j]'(by omega))=true)(h1:Zam txs l[k]=false):Zf2 txs l=k:=by
 unfold Zf2;rw[List.findIdx_eq hk];refine⟨by rw[h1];rfl,fun j hj=>by simp only[h j hj];rfl⟩
theorem Zkp{txs:List HTx}{l:It}(h:∀(j:Nat) (hj:j<l.length),Zam txs l[j]=true):Zf2 txs l=l.length:=by
 unfold Zf2;rw[List.findIdx_eq_length];intro x hx;obtain⟨k,hk,rfl⟩:=Gl.1 hx;simp only[h k hk];rfl
theorem Zs3(txs:List HTx)(l:It):decide (Zgd txs l≥0)= !(l.all (Zam txs)):=by
 by_cases h:l.all (Zam txs)=true
 ·have hm:Zf2 txs l=l.length:=Zkp fun j hj=>by
   rw[Hd]at h;exact h _ (Hg hj)
  unfold Zgd;rw[hm,if_neg (by omega),h];decide
 ·have hf:l.all (Zam txs)=false:=by simpa using h
  have hm:Zf2 txs l<l.length:=by
   unfold Zf2;rw[List.findIdx_lt_length];rw[List.all_eq_false]at hf;obtain⟨x,hx,hn⟩:=hf;exact⟨x,hx,by simpa using hn⟩
  unfold Zgd;rw[if_pos hm,hf];simp
theorem Zxe(F G:Iw)(w:I0)(A:OA)(d:Nat)(l:It)(h:Hist)(g:Nat)(L:ZtT G w A l)(H:h.lies F w)(hg:Zm6 w g h)(hl:l.length<=4398046511103):
  CN 120 #[.slice A l.length d,.func (.func 67) #[] #[.pointer (some ⟨g,0,none⟩)]] w (Qi (Zgd h.txs l)):=by
 go_enter Tryz.func120,Tryz.ntmps120;go_wp2
 go_loopg [8] l.length (fun gk s wr=>∃k:Nat,k+gk=l.length∧s= Qi k∧Hid (∀(j:Nat) (hj:j<l.length),j<k->Zam h.txs l[j]=true)∧Upd No w wr)
 case atStart=>exact⟨0,by omega,rfl,Qh (fun j _ hj=>by omega),Il _ _⟩
 case round=>
  obtain⟨k,aI,rfl,ah,hu⟩:=hrel
  by_cases hlt:k<l.length
  ·have dJ:k<(l.map Ver.cells).length:=by simpa using hlt
   obtain⟨ad,hB,_,_,hc⟩:=Recs.at_ (Recs.upd L hu Qo) dJ;rw[G8]at hc;obtain⟨x,hx⟩:=Qe (l[k]);rw[hx]at hc;have c0:wr.cell? (ad.add (k*3))=some (Qi x.tx):=by simpa using hc 0 _ rfl
   have c1:wr.cell? ⟨(ad.add (k*3)).block,(ad.add (k*3)).off+1,none⟩=some (Qi x.key):=by simpa using hc 1 _ rfl
   have c2:wr.cell? ⟨(ad.add (k*3)).block,(ad.add (k*3)).off+2,none⟩=some (Qi x.nth):=by simpa using hc 2 _ rfl
   subst hB;have X:=Qh hx;have b2:(k:Int)<(l.length:Int):=by omega
   have b1:(0:Int)<=(k:Int):=Qn _;clear hx hc dJ;have hn:=nd1 F wr h g x (H.upd hu Qo) (hg.upd hu id)
   cases he:Zam h.txs x
   ·have aA:=Qh (show Zgd h.txs l=(k:Int) by unfold Zgd;rw[Zsy (txs:=h.txs) (l:=l) hlt (fun j hj=>ah.out j (by omega) hj) (by rw[X.out];exact he),if_pos hlt]);rw[he]at hn;have HN:=Qh hn;clear he hn;go_wp2_with fail;refine Ck HN.out fun w1 hu1=>?_;go_wp2;go_ret;exact⟨by rw[aA.out];rfl,hu.trans hu1⟩
   ·rw[he]at hn;have HN:=Qh hn;have He:=Qh he;clear he hn;go_wp2_with fail;refine Ck HN.out fun w1 hu1=>?_;go_wp2;go_roundg (gk-1)
    case measure=>omega
    case rel=>exact⟨k+1,by omega,by go_num,Qh (fun j hj hjk=>by
      by_cases e:j=k
      ·subst e;rw[X.out];exact He.out
      ·exact ah.out j hj (by omega)),hu.trans hu1⟩
  ·obtain rfl:k=l.length:=by omega
   have aA:=Qh (show Zgd h.txs l= -1 by unfold Zgd;rw[Zkp (txs:=h.txs) (l:=l) fun j hj=>ah.out j hj hj,if_neg (by omega)]);go_wp2;go_ret;exact⟨by rw[aA.out];rfl,hu⟩
theorem Zxf(F G:Iw)(w:I0)(A:OA)(d:Nat)(l:It)(h:Hist)(g:Nat)(L:ZtT G w A l)(H:h.lies F w)(hg:Zm6 w g h)(hl:l.length<=4398046511103):
  CN 66 #[.slice A l.length d,.func (.func 67) #[] #[.pointer (some ⟨g,0,none⟩)]] w (.bool (!(l.all (Zam h.txs)))):=by
 have hq:=Zs3 h.txs l;have hf:=Zxe F G w A d l h g L H hg hl;obtain⟨b,hb⟩:=Qe (l.all (Zam h.txs));obtain⟨i,hi⟩:=Qe (Zgd h.txs l);rw[hb,hi]at hq;rw[hi]at hf;rw[hb];have HF:=Qh hf;clear hf hb hi
 cases b
 ·have pG:0<=i:=by simpa using hq
  clear hq;go_enter Tryz.func66,Tryz.ntmps66;go_wp2_with fail;refine Ck HF.out fun w1 hu1=>?_;go_wp2;go_ret;exact⟨rfl,hu1⟩
 ·have pG:decide (0<=i)=false:=by simpa using hq
  clear hq;go_enter Tryz.func66,Tryz.ntmps66;go_wp2_with fail;refine Ck HF.out fun w1 hu1=>?_;go_wp2;go_ret;exact⟨rfl,hu1⟩
theorem Zuu{w w':I0}{l:It}{A:OA}{c:Nat}(h:w'.ownsRow w.heap.size 49 3 (.slice A l.length c) l.length (l.map Ver.cells).flatten):ZtT (fun i=>w.heap.size<=i) w' A l:=by
 have h2:=Recs.of_own (n:=l.length) (c:=c) Zr5 (by omega) h;exact Recs.weak h2 fun i _ hi=>(h.lt i hi).1
theorem Zvc(F:Iw)(w:I0)(h:Hist)(i0:Int)(dn:Bool)(A:OA)(c:Nat)(l:Is)(H:h.lies F w)(hA:HOps F w A l)(hl:Zt l.length):
  CN 32 #[h.val,.agg #[Qi i0,.bool dn,.slice A l.length c]] w (.bool (Za0 h.txs i0 l)):=by
 have hle:=ZgK i0 l l.length;obtain⟨txs,ords,A',c',B,d⟩:=h;have uu:=((Il No w).alloc (.cells #[.slice A' txs.length c',.slice B ords.length d] 25)).alloc (.cells #[Qi i0,.bool dn,.slice A l.length c] 39);have hb:Zm6 ((w.alloc (.cells #[.slice A' txs.length c',.slice B ords.length d] 25)).alloc (.cells #[Qi i0,.bool dn,.slice A l.length c] 39)) w.heap.size ⟨txs,ords,A',c',B,d⟩:=(Im w _ _).alloc _;have HB:=Qh hb;have AV:=hA.upd uu Qo;obtain⟨ns,um⟩:=Qe (ZbS i0 l);have nz:=Zly F _ i0 dn A c l AV hl;rw[um]at nz;have rP:(ZaH i0 l l.length)=ns:=um;rw[rP]at hle;unfold Zt at hl;have HT:=Qh nz;have HV:=Qh (show Za0 txs i0 l=ns.all (Zam txs) by unfold Za0;rw[um]);clear hb AV nz um rP;unfold Hist.val;go_enter Tryz.func32,Tryz.ntmps32;go_wp2_with fail;refine(HT.out).mono ?_;rintro e w1 ⟨A1,c1,rfl,cn,hu1⟩;have dS:=Zuu cn;have H1:=(H.upd (uu.trans hu1) Qo);have hc:=Zxf F _ w1 A1 c1 ns ⟨txs,ords,A',c',B,d⟩ w.heap.size dS H1 (HB.out.upd hu1 id) (by omega);obtain⟨b,hb⟩:=Qe (ns.all (Zam txs));rw[show ns.all (Zam (Hist.txs ⟨txs,ords,A',c',B,d⟩))=b from hb]at hc;have HC:=Qh hc;have Hb:=Qh hb;have HU:=Qh (uu.trans hu1);clear hc hb dS H1 cn hu1 uu;go_wp2_with fail;refine Ck HC.out fun w2 hu2=>?_;go_wp2;go_ret;exact⟨by rw[show Za0 (Hist.txs ⟨txs,ords,A',c',B,d⟩) i0 l=b from HV.out.trans Hb.out];rfl,HU.out.trans hu2⟩
/- Whether others need a transaction (history.used,at one that has no operations). -/
def Zhh(id:Int)(v:Ver):Bool:=v.tx==id&&decide (0<v.nth)
def Zem(id:Int)(x:HTx):Bool:= !(x.id==id)&&(ZbS x.id x.ops).any (Zhh id)
theorem Zfx{α:Type}{l:List α}{p:α->Bool}{k:Nat}{x:α}(hk:k<l.length)(hx:l[k]=x)(h:(l.take k).any p=false)(h1:p x=false):(l.take (k+1)).any p=false:=by
 rw[Gb hk,List.any_append,h,hx];simp[h1]
theorem Zol{α:Type}{l:List α}{p:α->Bool}{k:Nat}{x:α}(hk:k<l.length)(hx:l[k]=x)(h1:p x=true):l.any p=true:=by
 rw[Ha];exact⟨x,hx▸Hg hk,h1⟩
theorem Zkx(i:Int)(l:Is):(ZbS i l).length<=l.length:=ZgK i l l.length
theorem ZlT(w:I0)(i0:Int)(key:Int):CN 102 #[.agg #[Qi i0,.bool false,.slice none 0 0],Qi key] w (Qi 0):=Zez (fun _=>True) w i0 false none 0 [] key (fun h=>absurd rfl h) (by unfold Zt;simp)
theorem Zt7(F:Iw)(w:I0)(txs:List HTx)(ords:List HOrd)(A:OA)(c:Nat)(B:OA)(d:Nat)(id:Int)(H:Hist.lies F w ⟨txs,ords,A,c,B,d⟩)(hl:txs.length<=1000000):
  CN 142 #[.agg #[.slice A txs.length c,.slice B ords.length d],.agg #[Qi id,.bool false,.slice none 0 0]] w (.bool (txs.any (Zem id))):=by
 obtain⟨z,hz⟩:=Qe w.heap.size;obtain⟨w1,ap⟩:=Qe (w.alloc (.cells #[.slice A txs.length c,.slice B ords.length d] 25));have s1:w1.heap.size=z+1:=by rw[<-ap,<-hz];simp
 obtain⟨wb,ag⟩:=Qe (w1.alloc (.cells #[Qi id,.bool false,.slice none 0 0] 39));have u1:Upd No w w1:=by rw[<-ap];exact(Il No w).alloc _
 have u2:Upd No w1 wb:=by rw[<-ag];exact(Il No w1).alloc _
 have b0:Blk wb z 25 [.slice A txs.length c,.slice B ords.length d]:=by
  have:Blk w1 z 25 [.slice A txs.length c,.slice B ords.length d]:=by rw[<-ap,<-hz];exact Im w _ _
  exact this.upd u2 (fun e=>e)
 have b1:Blk wb (z+1) 39 [Qi id,.bool false,.slice none 0 0]:=by rw[<-ag,<-s1];exact Im w1 _ _
 have HB:=Qh (H.upd (u1.trans u2) (fun _ _ h=>h));have UB:=Qh (u1.trans u2);have c0:=b0.cell 0;simp only[Qz]at c0;have BT:=Qh b1;have hbz:Upd No wb wb:=Il _ _;clear u1 u2 b0 b1 H;go_enter Tryz.func142,Tryz.ntmps142;go_wp2
 go_loopg [12] txs.length (fun gk s wr=>∃(k:Nat),k+gk=txs.length∧s= Qi (k:Int)∧Hid ((txs.take k).any (Zem id)=false)∧Upd No wb wr)
 case atStart=>exact⟨0,by omega,rfl,Qh (by simp),hbz⟩
 case round=>
  obtain⟨k,aI,rfl,hs,hu⟩:=hrel
  by_cases hlt:k<txs.length
  ·obtain⟨ad,aH,q0,q1,q2⟩:=(HB.out.upd hu (fun _ _ h=>h)).tx_at hlt;have bK:=(HB.out.upd hu (fun _ _ h=>h)).tx txs[k] (Hg hlt);simp only at aH q0 q1 q2 bK;obtain⟨x,hx⟩:=Qe (txs[k]);simp only[hx]at q0 q1 q2 bK;obtain⟨xi,xd,xo,xA,xc⟩:=x;simp only at q0 q1 q2 bK;subst aH;have X:=Qh hx;have b2:(k:Int)<(txs.length:Int):=by omega
   have b1:(0:Int)<=(k:Int):=Qn _;clear hx;obtain⟨wx,aJ⟩:=Qe (wr.alloc (.cells #[Qi xi,.bool xd,.slice xA xo.length xc] 39));have ux:Upd No wr wx:=by rw[<-aJ];exact(Il No wr).alloc _
   have bX:Blk wx wr.heap.size 39 [Qi xi,.bool xd,.slice xA xo.length xc]:=by rw[<-aJ];exact Im wr _ _
   obtain⟨g0,g1,g2⟩:=bX.c3;obtain⟨vs,nf⟩:=Qe (ZbS xi xo);have hN:=Zly _ wx xi xd xA xc xo (HOps.upd bK.1 ux (fun _ _ h=>h)) bK.2.2.1;rw[nf]at hN;have HN:=Qh hN;have qZ:=Qh nf;have oY:=Qh bK.2.2.1;have BX:=Qh bX;have a9:=Qh (hu.trans ux);have oI:=hs;have hgo:=aI;clear bK ux bX hs hu hN nf;go_wp2_with fail;refine(HN.out).mono ?_;rintro e w3 ⟨A3,c3,rfl,aQ,hu3⟩;have vE:=Qh (show vs.length<=4398046511103 by rw[<-qZ.out];exact Nat.le_trans (Zkx _ _) oY.out);have HR:=Qh (Recs.of_own (size:=3) (rows:=vs.map Ver.cells) (fun r hr=>by obtain⟨e,_,rfl⟩:=Ih.1 hr;rfl) (by omega) (by simpa using aQ));have BQ:=Qh (BX.out.upd hu3 (fun h=>h));have bg:=Qh (a9.out.trans hu3);have DP:Upd No w3 w3:=Il _ _;have vU:=vE.out;obtain⟨xb,xv⟩:=Qe wr.heap.size;rw[xv]at BQ;clear aQ hu3 g0 g1 g2 q0 q1 q2 aJ c0 hbz;generalize gk=GK at*;go_wp2
   go_loopg [19] vs.length (fun gj s wr=>∃(j:Nat),j+gj=vs.length∧s= Qi (j:Int)∧Hid ((vs.take j).any (Zhh id)=false∨xi=id)∧Upd No w3 wr)
   case atStart=>exact⟨0,by omega,rfl,Qh (Or.inl (by simp)),DP⟩
   case round=>
    obtain⟨j,kP,rfl,fy,hu2⟩:=hrel
    by_cases hltj:j<vs.length
    ·have tI:j<(vs.map Ver.cells).length:=by simpa using hltj
     obtain⟨ad2,tR,_,_,gR⟩:=Recs.at_ (Recs.upd HR.out hu2 (fun _ _ h=>h)) tI;rw[G8]at gR;obtain⟨⟨vt,vk,vn⟩,hv⟩:∃v,vs[j]=v:=⟨_,rfl⟩;rw[hv]at gR;have p0:wr.cell? (ad2.add (j*3))=some (Qi vt):=by simpa using gR 0 _ rfl
     have p1:wr.cell? ⟨(ad2.add (j*3)).block,(ad2.add (j*3)).off+1,none⟩=some (Qi vk):=by simpa using gR 1 _ rfl
     have p2:wr.cell? ⟨(ad2.add (j*3)).block,(ad2.add (j*3)).off+2,none⟩=some (Qi vn):=by simpa using gR 2 _ rfl
     subst tR;have HV:=Qh hv;have d2:(j:Int)<(vs.length:Int):=by omega
     have d1:(0:Int)<=(j:Int):=Qn _;clear hv gR tI;obtain⟨wy,iP⟩:=Qe (wr.alloc (.cells #[Qi vt,Qi vk,Qi vn] 49));have uy:Upd No wr wy:=by rw[<-iP];exact(Il No wr).alloc _
     have bY:Blk wy wr.heap.size 49 [Qi vt,Qi vk,Qi vn]:=by rw[<-iP];exact Im wr _ _
     have o0:∀W,Upd No wy W->W.cell? ⟨wr.heap.size,0,none⟩=some (Qi vt):=fun W u=>by have:=(bY.upd u (fun h=>h)).cell 0;simpa using this
     have o1:∀W,Upd No wy W->W.cell? ⟨wr.heap.size,1,none⟩=some (Qi vk):=fun W u=>by have:=(bY.upd u (fun h=>h)).cell 1;simpa using this
     have o2:∀W,Upd No wy W->W.cell? ⟨wr.heap.size,2,none⟩=some (Qi vn):=fun W u=>by have:=(bY.upd u (fun h=>h)).cell 2;simpa using this
     have bx4:=BQ.out.upd (hu2.trans uy) (fun h=>h);have bt4:=BT.out.upd (bg.out.trans (hu2.trans uy)) (fun h=>h);have t0:∀W,Upd No wy W->W.cell? ⟨xb,0,none⟩=some (Qi xi):=fun W u=>by have:=(bx4.upd u (fun h=>h)).cell 0;simpa using this
     have r0:∀W,Upd No wy W->W.cell? ⟨z+1,0,none⟩=some (Qi id):=fun W u=>by have:=(bt4.upd u (fun h=>h)).cell 0;simpa using this
     have r1:∀W,Upd No wy W->W.cell? ⟨z+1,1,none⟩=some (.bool false):=fun W u=>by have:=(bt4.upd u (fun h=>h)).cell 1;simpa using this
     have r2:∀W,Upd No wy W->W.cell? ⟨z+1,2,none⟩=some (.slice none 0 0):=fun W u=>by have:=(bt4.upd u (fun h=>h)).cell 2;simpa using this
     have ii:Upd No wy wy:=Il _ _;have eS:=Qh (hu2.trans uy);clear bY bx4 bt4 uy hu2
     by_cases hi:xi=id
     ·have pJ:(xi != id)=false:=by simpa using hi
      have HI:=Qh hi;clear hi;go_wp2;refine wpS (fun W'=>Upd No wy W') ?_ fun hHeld=>?_
      ·(first|exact ii.drew|exact hHeld|exact hHeld.trans hu6)
      (iterate 18 refine wpF ?_);refine wpZ 18 rfl fun K hK=>?_;go_simp;refine hK.out _ _ ?_ fun hHeld=>?_
      ·exact hHeld
      try simp only[Qa]
      (iterate 2 refine wpF ?_);refine wpD (Ii ?_);have fH:=Qh hHeld;clear hHeld;go_wp2;go_roundg (gk-1);exact⟨j+1,by omega,by go_num,Qh (Or.inr HI.out),eS.out.trans fH.out⟩;omega
     ·have pJ:(xi != id)=true:=by simpa using hi
      have tU:=Qh (show(vs.take j).any (Zhh id)=false from fy.out.resolve_right hi);have HI:=Qh hi;clear hi fy
      by_cases ht:vt=id
      ·have xM:(vt==id)=true:=by simpa using ht
       have HT:=Qh ht;clear ht
       by_cases hn:0<vn
       ·have Do:decide (vn>0)=true:=Qt hn
        have HY:=Qh (show txs.any (Zem id)=true from Zol hlt X.out (by
         unfold Zem;simp only;rw[qZ.out,Zol hltj HV.out (by unfold Zhh;simp[xM,hn])];simp[HI.out]))
        clear hn;go_wp2;refine wpS (fun W'=>Upd No wy W') ?_ fun hHeld=>?_
        ·(first|exact ii.drew|exact hHeld|exact hHeld.trans hu6)
        (iterate 18 refine wpF ?_);refine wpZ 18 rfl fun K hK=>?_;go_simp
        (first
  |(go_at_call 102;refine Ck (ZlT _ id vk) fun w6 hu6=>?_))
        try (go_wp2_with fail)
        refine hK.out _ _ ?_ fun hHeld=>?_
        ·(first|exact ii.drew|exact hHeld|exact hHeld.trans hu6)
        try simp only[Qa]
        (iterate 2 refine wpF ?_);refine wpD (Ii ?_);have fH:=Qh hHeld;clear hHeld;go_wp2;go_ret;exact⟨by rw[HY.out];rfl,UB.out.trans (bg.out.trans (eS.out.trans fH.out))⟩
       ·have Do:decide (vn>0)=false:=Qf hn;have vK:=Qh (Zfx hltj HV.out tU.out (by unfold Zhh;simp;omega));clear hn;go_wp2;refine wpS (fun W'=>Upd No wy W') ?_ fun hHeld=>?_
        ·(first|exact ii.drew|exact hHeld|exact hHeld.trans hu6)
        (iterate 18 refine wpF ?_);refine wpZ 18 rfl fun K hK=>?_;go_simp
        (first
  |(go_at_call 102;refine Ck (ZlT _ id vk) fun w6 hu6=>?_))
        try (go_wp2_with fail)
        refine hK.out _ _ ?_ fun hHeld=>?_
        ·(first|exact ii.drew|exact hHeld|exact hHeld.trans hu6)
        try simp only[Qa]
        (iterate 2 refine wpF ?_);refine wpD (Ii ?_);have fH:=Qh hHeld;clear hHeld;go_wp2;go_roundg (gk-1);exact⟨j+1,by omega,by go_num,Qh (Or.inl vK.out),eS.out.trans fH.out⟩;omega
      ·have xM:(vt==id)=false:=by simpa using ht
       have vK:=Qh (Zfx hltj HV.out tU.out (by unfold Zhh;simp[ht]));clear ht;go_wp2;refine wpS (fun W'=>Upd No wy W') ?_ fun hHeld=>?_
       ·(first|exact ii.drew|exact hHeld|exact hHeld.trans hu6)
       (iterate 18 refine wpF ?_);refine wpZ 18 rfl fun K hK=>?_;go_simp;refine hK.out _ _ ?_ fun hHeld=>?_
       ·exact hHeld
       try simp only[Qa]
       (iterate 2 refine wpF ?_);refine wpD (Ii ?_);have fH:=Qh hHeld;clear hHeld;go_wp2;go_roundg (gk-1);exact⟨j+1,by omega,by go_num,Qh (Or.inl vK.out),eS.out.trans fH.out⟩;omega
    ·obtain rfl:j=vs.length:=by omega
     have tU:=Qh (Zfx (p:=Zem id) hlt X.out oI.out (by
      unfold Zem;simp only;rcases fy.out with h|h
      ·rw[qZ.out];rw[G7]at h;rw[h];simp
      ·simp[h]))
     clear fy;go_wp2;go_roundg (GK-1);exact⟨k+1,by omega,by go_num,tU,bg.out.trans hu2⟩;omega
  ·obtain rfl:k=txs.length:=by omega
   have HS:=Qh (show txs.any (Zem id)=false by rw[<-G7 (l:=txs)];exact hs.out);clear hs;go_wp2;go_ret;exact⟨by rw[HS.out];rfl,UB.out.trans hu⟩
/- A history without a transaction,plain:what it is. -/
def Zao(txs:List HTx)(id:Int):List HTx:=txs.filter fun t=> !(t.id==id)
def ZeV(id:Int)(o:HOrd):HOrd:=⟨o.key,o.txs.filter fun n=> !(n==id),none,0⟩
def ZaR(ords:List HOrd)(id:Int):List HOrd:=(ords.map (ZeV id)).filter fun o=> !o.txs.isEmpty
def ZbJ(txs:List HTx)(id:Int):Bool:=txs.any fun x=> !(x.id==id)&&(ZbS x.id x.ops).any fun v=>v.tx==id&&decide (0<v.nth)
def ZaL(h:Hist)(id:Int):Hist:=⟨Zao h.txs id,ZaR h.ords id,none,0,none,0⟩
theorem mem_delT{txs:List HTx}{id:Int}{t:HTx}:t∈Zao txs id↔t∈txs∧t.id≠id:=by
 unfold Zao;rw[Hy];simp
theorem mem_delO{ords:List HOrd}{id:Int}{o:HOrd}:o∈ZaR ords id↔∃u∈ords,o=ZeV id u∧(u.txs.filter fun n=> !(n==id))≠[]:=by
 unfold ZaR;rw[Hy,Ih]
 constructor
 ·rintro⟨⟨u,hu,rfl⟩,h2⟩;exact⟨u,hu,rfl,fun e=>by simp[ZeV,e]at h2⟩
 ·rintro⟨u,hu,rfl,h2⟩;refine⟨⟨u,hu,rfl⟩,?_⟩
  show(!(u.txs.filter fun n=> !(n==id)).isEmpty)=true
  cases hh:(u.txs.filter fun n=> !(n==id))with
  |nil=>exact absurd hh h2
  |cons=>rfl
/- Whether a history is right,by the document. -/
theorem Zp0{id:Int}{l:Is}(h:ZaT id l=0):l.length<=4095:=by
 unfold ZaT at h
 split at h
 ·cases h
 ·split at h
  ·cases h
  ·omega
section
variable {F:Iw} {w:I0} {txs:List HTx} {ords:List HOrd} {A:OA} {c:Nat} {B:OA} {d:Nat} {i0:Int} {dn:Bool} {A1:OA} {c1:Nat} {l:Is}
end
abbrev Ir:=List HBad
