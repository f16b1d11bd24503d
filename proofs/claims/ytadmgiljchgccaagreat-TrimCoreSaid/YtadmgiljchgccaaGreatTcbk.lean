/- Orders, in plain words: what is told goes along, hl1 each id once, and none that goes along is ahead of it. -/
import Derived.Test.YtadmgiljchgccaaGreatTcaz
import Derived.Test.YtadmgiljchgccaaGreatTcbj
namespace Go.Proofs.YtadmgiljchgccaaGreat
open Go.RowKit
set_option linter.unusedVariables false
set_option linter.unusedSimpArgs false
set_option maxRecDepth 100000
set_option maxHeartbeats 8000000
def Goes(l:List Edge):Iv->Iv->Prop
 |L,[]=>L=[]
 |L,x::p=>L.find? (Zxo l L)=some x∧Goes l (L.erase x) p
/- Phenomena:ids are numbered (phen.nodes.node). -/
def Zb5:Nat->Iv->List (Int×Iz)
 |_,[]=>[]
 |k,x::l=>(x,Qi (k:Int))::Zb5 (k+1) l
theorem Zh1:∀(k:Nat) (l:Iv),(Zb5 k l).length=l.length
 |_,[]=>rfl
 |k,x::l=>by unfold Zb5;rw[G1,G1,Zh1]
theorem Zkq(y:Int)(l:Iv)(x:Int):Zr (y::l) x=if x=y then 0 else Zr l x+1:=by
 unfold Zr;rw[List.findIdx_cons]
 by_cases h:x=y
 ·subst h;simp
 ·rw[if_neg h,show(y==x)=false by rw[beq_eq_false_iff_ne];exact fun e=>h e.symm];rfl
theorem ZgN(x:Int):∀(l:Iv) (k i:Nat),look x (Zb5 k l) i=if x∈l then some (i+Zr l x,Qi ((k+Zr l x:Nat):Int)) else none
 |[],k,i=>by simp[Zb5,look]
 |y::l,k,i=>by
  unfold Zb5 look
  by_cases h:x=y
  ·subst h;rw[if_pos rfl,if_pos (Gv ..),Zkq,if_pos rfl];simp
  ·rw[if_neg h,ZgN x l (k+1) (i+1),Zkq,if_neg h]
   by_cases hm:x∈l
   ·rw[if_pos hm,if_pos (Gk _ hm)];rw[show i+1+Zr l x=i+(Zr l x+1) by omega,show k+1+Zr l x=k+(Zr l x+1) by omega]
   ·rw[if_neg hm,if_neg (by rw[Ie,not_or];exact⟨h,hm⟩)]
theorem ZqL(x:Int)(l:Iv):ZX (Zb5 0 l) x=if x∈l then some (Qi (Zr l x:Int)) else none:=by
 unfold ZX;rw[ZgN]
 split
 ·rw[Nat.zero_add];rfl
 ·rfl
theorem Zl9(x:Int):∀(l:Iv) (k:Nat),Zb5 k (l++[x])=Zb5 k l++[(x,Qi ((k+l.length:Nat):Int))]
 |[],k=>rfl
 |y::l,k=>by
  show(y,_)::Zb5 (k+1) (l++[x])=(y,_)::(Zb5 (k+1) l++_)
  rw[Zl9 x l (k+1),G1,show k+1+l.length=k+(l.length+1) by omega]
theorem ZqJ{x:Int}{l:Iv}(h:x∉l):ZI (Zb5 0 l) x (Qi (l.length:Int))=Zb5 0 (l++[x]):=by
 unfold ZI;rw[ZgN,if_neg h,Zl9,Nat.zero_add]
theorem Zr0(w:I0):(zeroValue 3).run Tryz.prog w= .ok (Qi 0) w:=by kernel_rfl
theorem Zt5(w:I0)(b:Nat)(ids:Iv)(x:Int)(h:MapIs w b (fun n:Int=>Value.int .i64 n) (Zb5 0 ids)):
  Calls Tryz.prog 75 #[.map (some b),Qi x] w fun e w'=>e= .returned (Qi (Zr (Z5 ids x) x:Int))∧MapIs w' b (fun n:Int=>Value.int .i64 n) (Zb5 0 (Z5 ids x))∧Upd (One b) w w':=by
 have hl:=Znf ZdN Tryz.underlying114 Zr0 h x;rw[ZqL]at hl;have hn:=ZhO (ty:=3) Tryz.underlying114 h;rw[Zh1]at hn;have HM:=Qh h;clear h
 by_cases hx:x∈ids
 ·rw[if_pos hx]at hl;have HE:Hid (Z5 ids x=ids):=Qh (if_pos hx);simp only[Option.getD_some,Option.isSome_some]at hl;clear hx;rw[HE.out];go_enter Tryz.func75,Tryz.ntmps75;go_wp2;go_ret;exact⟨rfl,HM.out,Il _ _⟩
 ·rw[if_neg hx]at hl;have HE:Hid (Z5 ids x=ids++[x]):=Qh (if_neg hx);have HP:=Qh (Zsz hx);have Fa:=Qh (ZqJ hx);simp only[Option.getD_none,Option.isSome_none]at hl;clear hx;rw[HE.out,HP.out];go_enter Tryz.func75,Tryz.ntmps75;go_wp2_with (at_mapUpdate;refine Zmk rfl rfl ZdN Tryz.underlying114 (a:=x) (val:= Qi (ids.length:Int)) (by rfl) (by rfl) (by rfl) HM.out ?_;intro w5 fR hu5;rw[Fa.out]at fR;have CD:=Qh fR;have cF:=Qh hu5;clear fR hu5);go_ret;exact⟨rfl,CD.out,cF.out⟩
/- Phenomena:whether an arc is Zbc a component (the closure of phen.Round). -/
theorem Zyd{k:Int}(h:k=1∨k=2∨k=3):(2:Int) ^ min (IntKind.u64.wrap k).toNat 64=2 ^ k.toNat:=by
 rcases h with rfl|rfl|rfl<;>rfl
def inP(lab:Iv)(must:Int)(a:HArc):Bool:=decide (lab.getD a.f.toNat 0=lab.getD a.t.toNat 0)&&((bits .and .i64 must 14==0)||Zy must a.kind)
def ZjE(n:Nat)(a:HArc):Prop:=0<=a.f∧a.f<(n:Int)∧0<=a.t∧a.t<(n:Int)∧1<=a.kind∧a.kind<=3
theorem Zx9(F:Iw)(w:I0)(pl pm:Addr)(L:OA)(cL:Nat)(lab:Iv)(must:Int)(a:HArc)(hpl:w.cell? pl=some (.slice L lab.length cL))(eU:w.cell? pm=some (Qi must))
  (hL:Ints F w L lab) (ha:ZjE lab.length a) (hl:lab.length<=100000):
  CN 81 #[.agg a.cells.toArray,.pointer (some pl),.pointer (some pm)] w (.bool (inP lab must a)):=by
 obtain⟨f,t,k,y⟩:=a;obtain⟨h1,h2,h3,h4,h5,h6⟩:=ha;simp only at h1 h2 h3 h4 h5 h6;obtain⟨i,rfl⟩:=Int.eq_ofNat_of_zero_le h1;obtain⟨j,rfl⟩:=Int.eq_ofNat_of_zero_le h3;have hi:i<lab.length:=by omega
 have hj:j<lab.length:=by omega
 obtain⟨ad,rfl,_,_,ci⟩:=hL.at_ hi;obtain⟨ad2,e2,_,_,cj⟩:=hL.at_ hj
 cases e2
 obtain⟨x,hx⟩:=Qe (lab[i]);obtain⟨z,hz⟩:=Qe (lab[j]);rw[hx]at ci;rw[hz]at cj;have gx:lab.getD i 0=x:=by rw[List.getD_eq_getElem?_getD,Qg hi,hx];rfl
 have gz:lab.getD j 0=z:=by rw[List.getD_eq_getElem?_getD,Qg hj,hz];rfl
 obtain⟨v,hv⟩:=Qe (inP lab must ⟨(i:Int),(j:Int),k,y⟩);rw[hv]
 have hv:(decide (x=z)&&((bits .and .i64 must 14==0)||Zy must k))=v:=by
  rw[<-hv];unfold inP;simp only[Int.toNat_natCast,gx,gz]
 obtain⟨wz,jK⟩:=Qe (w.alloc (.cells #[Qi (i:Int),Qi (j:Int),Qi k,Qi y] 119));have uz:Upd No w wz:=by rw[<-jK];exact(Il No w).alloc _
 have bo:Blk wz w.heap.size 119 [Qi (i:Int),Qi (j:Int),Qi k,Qi y]:=by rw[<-jK];exact Im w _ _
 have g0:=bo.ev 0 rfl
 have g1:=bo.ev 1 rfl
 have g2:=bo.ev 2 rfl
 have p0:∀W,Upd No wz W->W.cell? pl=some (.slice (some ad) lab.length cL):=fun W u=>(uz.trans u).keepNo hpl
 have p1:∀W,Upd No wz W->W.cell? pm=some (Qi must):=fun W u=>(uz.trans u).keepNo eU
 have p2:∀W,Upd No wz W->W.cell? (ad.add i)=some (Qi x):=fun W u=>(uz.trans u).keepNo ci
 have p3:∀W,Upd No wz W->W.cell? (ad.add j)=some (Qi z):=fun W u=>(uz.trans u).keepNo cj
 have HU:=Qh uz;have hzz:Upd No wz wz:=Il _ _;have i0:(0:Int)<=(i:Int):=Qn _;have i1:(i:Int)<(lab.length:Int):=by omega
 have j0:(0:Int)<=(j:Int):=Qn _;have j1:(j:Int)<(lab.length:Int):=by omega
 unfold HArc.cells;have hk3:k=1∨k=2∨k=3:=by omega
 have pF:(bits .and .i64 (must/2 ^ min (IntKind.u64.wrap k).toNat 64) 1==1)=Zf must k:=by rw[Zyd hk3,Zgr];rfl
 have n7:(bits .and .i64 (must/2 ^ k.toNat) 1==1)=Zf must k:=by rw[Zgr];rfl
 have aB:Zy must k=Zf must k:=by unfold Zy;rw[Qt h5,Qt h6];rfl
 clear bo uz ci cj hpl eU hL gx gz hx hz h1 h2 h3 h4 hk3 hi hj
 by_cases hxz:x=z
 ·subst hxz;have hq:(x==x)=true:=by simp
  rw[Qt rfl,Bool.true_and]at hv
  cases hm:(bits .and .i64 must 14==0)
  ·rw[hm,Bool.false_or,aB]at hv;rw[hv]at pF n7;clear hv aB;have HV:Hid (v=v):=Qh rfl
   cases v
   ·go_enter Tryz.func81,Tryz.ntmps81;go_wp2;refine wpS (fun W'=>Upd No wz W') ?_ fun jH=>?_
    ·(first|exact hzz.drew|exact jH)
    (iterate 26 refine wpF ?_);refine wpD (Ii ?_);have bg:=Qh (HU.out.trans jH);clear jH;go_wp2;go_ret;exact⟨by first|rfl|(have:=HV.out;subst this;rfl),bg.out⟩
   ·go_enter Tryz.func81,Tryz.ntmps81;go_wp2;refine wpS (fun W'=>Upd No wz W') ?_ fun jH=>?_
    ·(first|exact hzz.drew|exact jH)
    (iterate 26 refine wpF ?_);refine wpD (Ii ?_);have bg:=Qh (HU.out.trans jH);clear jH;go_wp2;go_ret;exact⟨by first|rfl|(have:=HV.out;subst this;rfl),bg.out⟩
  ·rw[hm,Bool.true_or]at hv;have HV:=Qh hv;clear hv aB pF n7;go_enter Tryz.func81,Tryz.ntmps81;go_wp2;refine wpS (fun W'=>Upd No wz W') ?_ fun jH=>?_
   ·(first|exact hzz.drew|exact jH)
   (iterate 26 refine wpF ?_);refine wpD (Ii ?_);have bg:=Qh (HU.out.trans jH);clear jH;go_wp2;go_ret;exact⟨by first|rfl|(have:=HV.out;subst this;rfl),bg.out⟩
 ·have hq:(x==z)=false:=by rw[beq_eq_false_iff_ne];exact hxz
  rw[Qf hxz,Bool.false_and]at hv;have HV:=Qh hv;clear hv aB pF n7 hxz;go_enter Tryz.func81,Tryz.ntmps81;go_wp2;refine wpS (fun W'=>Upd No wz W') ?_ fun jH=>?_
  ·(first|exact hzz.drew|exact jH)
  (iterate 26 refine wpF ?_);refine wpD (Ii ?_);have bg:=Qh (HU.out.trans jH);clear jH;go_wp2;go_ret;exact⟨by first|rfl|(have:=HV.out;subst this;rfl),bg.out⟩
def Zfn(lab:Iv)(must:Int)(l:List HArc):Nat:=l.findIdx (inP lab must)
def ZgW(lab:Iv)(must:Int)(l:List HArc):Int:=if Zfn lab must l<l.length then (Zfn lab must l:Int) else -1
theorem Zsx{lab:Iv}{must:Int}{l:List HArc}{k:Nat}(hk:k<l.length)(h:∀(j:Nat) (hj:j<k),inP lab must (l[j]'(by omega))=false)(h1:inP lab must l[k]=true):Zfn lab must l=k:=by
 unfold Zfn;rw[List.findIdx_eq hk];exact⟨h1,fun j hj=>by simp only[h j hj]⟩
theorem Zqo{lab:Iv}{must:Int}{l:List HArc}(h:∀(j:Nat) (hj:j<l.length),inP lab must l[j]=false):Zfn lab must l=l.length:=by
 unfold Zfn;rw[List.findIdx_eq_length];intro x hx;obtain⟨k,hk,rfl⟩:=Gl.1 hx;simp only[h k hk]
theorem Zs2(lab:Iv)(must:Int)(l:List HArc):decide (0<=ZgW lab must l)=l.any (inP lab must):=by
 unfold ZgW
 by_cases h:Zfn lab must l<l.length
 ·rw[if_pos h,Qt (by omega)];unfold Zfn at h;rw[List.findIdx_lt_length]at h;obtain⟨x,hx,he⟩:=h;exact(Ha.2 ⟨x,hx,he⟩).symm
 ·rw[if_neg h];have h0:Zfn lab must l=l.length:=by have:=List.findIdx_le_length (xs:=l) (p:=inP lab must);unfold Zfn at h ⊢;omega
  have h1:=(List.findIdx_eq_length (p:=inP lab must) (xs:=l)).1 h0;rw[show l.any (inP lab must)=false from List.any_eq_false.2 fun x hx=>by rw[h1 x hx];decide];rfl
section
variable {F G:Iw} {w:I0} {B:OA} {d:Nat} {l:List HArc} {pl pm:Addr} {L:OA} {cL:Nat} {lab:Iv} {must:Int}
theorem Zxa(H:ArcsL F w B l)(hl:l.length<=1000000)(hpl:w.cell? pl=some (.slice L lab.length cL))(eU:w.cell? pm=some (Qi must))(hL:Ints G w L lab)(ha:∀a∈l,ZjE lab.length a)(hn:lab.length<=100000):
  CN 135 #[.slice B l.length d,.func (.func 81) #[] #[.pointer (some pl),.pointer (some pm)]] w (Qi (ZgW lab must l)):=by
 go_enter Tryz.func135,Tryz.ntmps135;go_wp2
 go_loopg [8] l.length (fun gk s wr=>∃k:Nat,k+gk=l.length∧s= Qi k∧Hid (∀(j:Nat) (hj:j<l.length),j<k->inP lab must l[j]=false)∧Upd No w wr)
 case atStart=>exact⟨0,by omega,rfl,Qh (fun j _ hj=>by omega),Il _ _⟩
 case round=>
  obtain⟨k,aI,rfl,ah,hu⟩:=hrel
  by_cases hlt:k<l.length
  ·obtain⟨ad,rfl,q0,q1,q2,q3⟩:=(H.upd hu Qo).at_ hlt;have aC:=ha _ (Hg hlt);obtain⟨x,hx⟩:=Qe (l[k]);rw[hx]at q0 q1 q2 q3 aC;have X:=Qh hx;have b2:(k:Int)<(l.length:Int):=by omega
   have b1:(0:Int)<=(k:Int):=Qn _;have HC:=Qh (Zx9 G wr pl pm L cL lab must x (hu.keepNo hpl) (hu.keepNo eU) (hL.upd hu Qo) aC hn);unfold HArc.cells at HC;clear hx aC
   by_cases he:inP lab must x=true
   ·have aA:=Qh (show ZgW lab must l=(k:Int) by unfold ZgW;rw[Zsx hlt (fun j hj=>ah.out j (by omega) hj) (by rw[X.out];exact he),if_pos hlt]);have He:=Qh he;clear he;go_wp2_with fail;refine(HC.out).mono ?_;rintro e w1 ⟨cX,hu1⟩;rw[He.out]at cX;subst cX;go_wp2;go_ret;exact⟨by rw[aA.out];rfl,hu.trans hu1⟩
   ·have iy:inP lab must x=false:=by simpa using he
    have He:=Qh iy;clear he iy;go_wp2_with fail;refine(HC.out).mono ?_;rintro e w1 ⟨cX,hu1⟩;rw[He.out]at cX;subst cX;go_wp2;go_roundg (gk-1)
    case measure=>omega
    case rel=>exact⟨k+1,by omega,by go_num,Qh (fun j hj hjk=>by
      by_cases e:j=k
      ·subst e;rw[X.out];exact He.out
      ·exact ah.out j hj (by omega)),hu.trans hu1⟩
  ·obtain rfl:k=l.length:=by omega
   have aA:=Qh (show ZgW lab must l= -1 by unfold ZgW;rw[Zqo fun j hj=>ah.out j hj hj,if_neg (by omega)]);go_wp2;go_ret;exact⟨by rw[aA.out];rfl,hu⟩
theorem ZvZ(H:ArcsL F w B l)(hl:l.length<=1000000)(hpl:w.cell? pl=some (.slice L lab.length cL))(eU:w.cell? pm=some (Qi must))(hL:Ints G w L lab)(ha:∀a∈l,ZjE lab.length a)(hn:lab.length<=100000):
  CN 80 #[.slice B l.length d,.func (.func 81) #[] #[.pointer (some pl),.pointer (some pm)]] w (.bool (l.any (inP lab must))):=by
 have hq:=Zs2 lab must l;have hf:=Zxa (d:=d) H hl hpl eU hL ha hn;obtain⟨b,hb⟩:=Qe (l.any (inP lab must));obtain⟨i,hi⟩:=Qe (ZgW lab must l);rw[hb,hi]at hq;rw[hi]at hf;rw[hb];have HF:=Qh hf;clear hf hb hi H hpl eU hL ha;subst hq;go_enter Tryz.func80,Tryz.ntmps80;go_wp2_with fail;refine Ck HF.out fun w1 hu1=>?_;go_wp2;go_ret;exact⟨rfl,hu1⟩
end
/- Phenomena:phen.Round is walked. -/
theorem ZsZ{x:Edge}{m:List Edge}{mask:Int}(h:Zy mask x.k=true):Zi (x::m) mask=x::Zi m mask:=by unfold Zi;rw[List.filter_cons_of_pos (p:=fun e:Edge=>Zy mask e.k) h]
theorem ZjT{x:Edge}{m:List Edge}{mask:Int}(h:Zy mask x.k=false):Zi (x::m) mask=Zi m mask:=by unfold Zi;rw[List.filter_cons_of_neg (p:=fun e:Edge=>Zy mask e.k) (by rw[h];decide)]
theorem Zok{l:List Edge}{mask:Int}:∀a∈Zfg l mask,ZjE (Zca l mask).length a:=by
 intro a ha;have hn:=ZfB l mask;rw[hn.arcs]at ha;obtain⟨e,he,rfl⟩:=Ih.1 ha;have hk:=Zfa he;have hh:=hn.has e he;have a1:=ZdT hh.1;have a2:=ZdT hh.2;unfold ZbX ZjE;refine⟨?_,?_,?_,?_,hk.1,hk.2⟩<;>simp only<;>omega
theorem ZnU{N:Nat}{q:List HArc}{i:Nat}(h:i<N):(ZdM N q).getD i 0=(Zb8 q i:Int):=by
 unfold ZdM;rw[List.getD_eq_getElem?_getD,List.getElem?_map,List.getElem?_range h];rfl
theorem ZvB(l:List Edge)(mask must:Int):(Zfg l mask).any (inP (ZdM (Zca l mask).length (Zdm l mask)) must)=Zcg l mask must:=by
 rw[<-Zqg];unfold ZlK ZtL
 have h:∀a∈Zfg l mask,inP (ZdM (Zca l mask).length (Zdm l mask)) must a=(decide (Zb8 (Zdm l mask) a.f.toNat=Zb8 (Zdm l mask) a.t.toNat)&&((bits .and .i64 must 14==0)||Zy must a.kind)):=by
  intro a ha;obtain⟨h1,h2,h3,h4,_,_⟩:=Zok a ha;unfold inP;rw[ZnU (by omega),ZnU (by omega)]
  congr 1
  rw[Bool.eq_iff_iff,Gw,Gw];omega
 rw[Bool.eq_iff_iff,Ha,Ha]
 constructor
 ·rintro⟨a,ha,h2⟩;exact⟨a,ha,by rw[<-h a ha];exact h2⟩
 ·rintro⟨a,ha,h2⟩;exact⟨a,ha,by rw[h a ha];exact h2⟩
theorem ZqC(ids:Iv)(ac:List HArc)(x:Edge)(m:List Edge):Zeg ids ac (x::m)=Zeg (Z5 (Z5 ids x.f) x.t) (ac++[⟨(Zr (Z5 ids x.f) x.f:Int),(Zr (Z5 (Z5 ids x.f) x.t) x.t:Int),x.k,0⟩]) m:=rfl
theorem ZpB(l:List HArc)(a:HArc):Za4 (l++[a])=Za4 l++a.cells:=by unfold Za4;rw[Hu,List.flatten_append];simp
theorem Zv0(F:Iw)(w:I0)(A:OA)(c:Nat)(l:List Edge)(mask must:Int)(h:Walk F w A l)(hl:l.length<=2000):
  CN 38 #[.slice A l.length c,Qi mask,Qi must] w (.bool (Zcg l mask must)):=by
 obtain⟨II,yJ⟩:=Qe (Zca l mask);obtain⟨AA,yX⟩:=Qe (Zfg l mask);have vz:=Zu5 l mask;have m7:=ZtK l mask;have aC:=Zok (l:=l) (mask:=mask);have jQ:=ZvB l mask must;unfold Zdm at jQ;rw[yJ]at vz aC jQ;rw[yX]at m7 aC jQ;have rn:=Qh (show Zeg [] [] (Zi (l.drop 0) mask)=(II,AA) by rw[List.drop_zero,<-yJ,<-yX];rfl);have eq:=Qh vz;have DE:=Qh m7;have Dd:=Qh aC;have lg:=Qh jQ;have HA:Hid (Walk (fun i=>i<w.heap.size) w A l):=Qh (Recs.lt h);have hroom:Zct (II.length:Int)=II.length:=by unfold Zct;omega
 have qO:=Qh hroom;obtain⟨rv,ur⟩:=Qe (Zcg l mask must);rw[ur]at lg ⊢;clear yJ yX vz m7 aC jQ h hroom ur;obtain⟨z,hz⟩:=Qe w.heap.size;obtain⟨w1,ap⟩:=Qe (w.alloc (.cells #[Qi must] 3));have s1:w1.heap.size=z+1:=by rw[<-ap,<-hz];simp
 obtain⟨wb,ag⟩:=Qe (w1.alloc (.map #[] 0));have u1:Upd No w w1:=by rw[<-ap];exact(Il No w).alloc _
 have u2:Upd No w1 wb:=by rw[<-ag];exact(Il No w1).alloc _
 have hM0:MapIs wb (z+1) (fun n:Int=>Value.int .i64 n) (Zb5 0 []):=by rw[<-ag,<-s1];exact MapIs.new w1 _
 have bM:Blk wb z 3 [Qi must]:=by
  have:Blk w1 z 3 [Qi must]:=by rw[<-ap,<-hz];exact Im w _ _
  exact this.upd u2 id
 have sb:wb.heap.size=z+2:=by rw[<-ag];simp[s1]
 have iu:=Qh hM0;have U0:=Qh (u1.trans u2);have oR:=Qh sb;have BM:=Qh bM;have HZ:=Qh hz;have eT:= @run_makeMap Tryz.prog;clear hM0 u1 u2 bM sb hz;go_enter Tryz.func38,Tryz.ntmps38;go_wp2;clear ap ag s1
 go_loopg [8,18] l.length (fun gk s i wr=>∃(k:Nat) (A5:OA) (c5:Nat) (ids:Iv) (ac:List HArc),k+gk=l.length∧i= Qi (k:Int)∧s= .slice A5 ac.length c5∧Hid (Zeg ids ac (Zi (l.drop k) mask)=(II,AA))∧
  Hid (ids.length<=2*k)∧Hid (ac.length<=k)∧Hid (MapIs wr (z+1) (fun n:Int=>Value.int .i64 n) (Zb5 0 ids))∧Hid (wr.ownsRow (z+2) 119 4 (.slice A5 ac.length c5) ac.length (Za4 ac))∧Hid (Upd (One (z+1)) wb wr))
 case atStart=>exact⟨0,none,0,[],[],by omega,rfl,rfl,rn,Qh (Nat.zero_le _),Qh (Nat.zero_le _),iu,Qh (Ik _ _ _ _),Qh (Il _ _)⟩
 case round=>
  clear rn iu eT;obtain⟨k,A5,c5,ids,ac,aI,rfl,rfl,am,cR,qb,hM,ae,hu⟩:=hrel
  by_cases hk:k<l.length
  ·obtain⟨ax,rfl,q0,q1,q2,q3⟩:=((HA.out.upd U0.out Qo).upd hu.out (fun i hi=>by have:=HZ.out;have hi2:i<w.heap.size:=hi;unfold One;omega)).at_ hk;obtain⟨x,hx⟩:=Qe (l[k]);rw[hx]at q0 q1 q2 q3;have X:=Qh (show l.drop k=x::l.drop (k+1) by rw[<-hx];exact Ge hk);clear hx;have b1:(0:Int)<=(k:Int):=Qn _;have b2:(k:Int)<(l.length:Int):=by omega
   have jw:IntKind.i64.wrap ((k:Int)+1)=(k:Int)+1:=IntWalk.i64_in _ (by omega);obtain⟨wz,jK⟩:=Qe (wr.alloc (.cells #[Qi x.f,Qi x.t,Qi x.k,Qi x.key] 58));have uz:Upd No wr wz:=by rw[<-jK];exact(Il No wr).alloc _
   have bo:Blk wz wr.heap.size 58 [Qi x.f,Qi x.t,Qi x.k,Qi x.key]:=by rw[<-jK];exact Im wr _ _
   have kv:z+2<=wr.heap.size:=by have:=hu.out.size;rw[oR.out]at this;exact this
   have g0:∀W,Upd (fun i=>z+1<=i∧i≠wr.heap.size) wz W->W.cell? ⟨wr.heap.size,0,none⟩=some (Qi x.f):=fun W u=>(bo.upd u (by omega)).cell 0
   have g1:∀W,Upd (fun i=>z+1<=i∧i≠wr.heap.size) wz W->W.cell? ⟨wr.heap.size,1,none⟩=some (Qi x.t):=fun W u=>(bo.upd u (by omega)).cell 1
   have g2:∀W,Upd (fun i=>z+1<=i∧i≠wr.heap.size) wz W->W.cell? ⟨wr.heap.size,2,none⟩=some (Qi x.k):=fun W u=>(bo.upd u (by omega)).cell 2
   have hzz:Upd (fun i=>z+1<=i∧i≠wr.heap.size) wz wz:=Il _ _;have tB:=Qh kv;have o5:=Qh (fun i e=>ae.out.lt i e);have pF:(bits .and .i64 (mask/2 ^ x.k.toNat) 1==1)=Zf mask x.k:=by rw[Zgr];rfl
   clear bo kv
   by_cases k1:1<=x.k
   ·have d1:decide (1<=x.k)=true:=Qt k1
    by_cases k2:x.k<=3
    ·have d2:decide (x.k<=3)=true:=Qt k2;have pD:Zy mask x.k=Zf mask x.k:=by unfold Zy;rw[d1,d2];rfl
     cases hbm:Zf mask x.k
     ·have aB:Zy mask x.k=false:=pD.trans hbm;rw[hbm]at pF;clear hbm pD;have HN:=Qh (show Zeg ids ac (Zi (l.drop (k+1)) mask)=(II,AA) by have:=am.out;rw[X.out,ZjT aB]at this;exact this);clear am X aB;go_wp2;go_roundg (gk-1);exact⟨k+1,A5,c5,ids,ac,by omega,by simp,rfl,HN,Qh (by have:=cR.out;omega),Qh (by have:=qb.out;omega),Qh (hM.out.upd uz id),Qh (Za ae.out uz Qo),Qh (hu.out.then_ uz (fun _ e=>e.elim))⟩;omega
     ·have aB:Zy mask x.k=true:=pD.trans hbm;rw[hbm]at pF;clear hbm pD;have kr:=am.out;rw[X.out,ZsZ aB,ZqC]at kr;obtain⟨i1,hi1⟩:=Qe (Z5 ids x.f);obtain⟨i2,hi2⟩:=Qe (Z5 i1 x.t);have aN:=Zf7 ids x.f;have bC:=Zf7 i1 x.t;rw[hi1,hi2]at kr;rw[hi1]at aN;rw[hi2]at bC;obtain⟨n1,hn1⟩:=Qe (Zr i1 x.f);obtain⟨n2,dY⟩:=Qe (Zr i2 x.t);rw[hn1,dY]at kr;have xH:=Qh kr;have mz:=Qh (show i2.length<=2*(k+1) by have:=cR.out;omega);have dh:=fun W (hW:MapIs W (z+1) (fun n:Int=>Value.int .i64 n) (Zb5 0 ids))=>Zt5 W (z+1) ids x.f hW
      rw[hi1,hn1]at dh;have hp2:=fun W (hW:MapIs W (z+1) (fun n:Int=>Value.int .i64 n) (Zb5 0 i1))=>Zt5 W (z+1) i1 x.t hW
      rw[hi2,dY]at hp2;have vO:=Qh dh;have xL:=Qh hp2;have lU:=Qh (hM.out.upd uz id);have fg:=Qh (Za ae.out uz Qo);have By:=Qh uz;have ah:ac.length<=2000:=by have:=qb.out;omega
      clear am kr aN bC hi1 hi2 hn1 dY dh hp2 uz hM ae cR X aB;go_wp2;refine wpS (fun W'=>Upd (fun i=>z+1<=i∧i≠wr.heap.size) wz W') ?_ fun jH=>?_
      ·(first|exact hzz.drew|(with_reducible exact jH)|(with_reducible exact hq)|exact jH.alloc _)
      (iterate 4 refine wpF ?_);refine wpK 5 rfl ?_;refine wpK 6 rfl ?_;refine wpK 7 rfl ?_;refine wpK 9 rfl ?_;refine wpK 10 rfl ?_;refine wpZ 4 rfl fun K hK=>?_;go_simp
      (first
  |(go_at_call 75;refine(vO.out wz.drew (show MapIs wz.drew (z+1) _ _ from lU.out)).mono ?_;rintro e w3 ⟨rfl,ic,gZ⟩;have hu3:=gZ.of_drew;have lz:=Qh ic;have bg:Hid (Upd (One (z+1)) wz w3):=Qh hu3;have hq:Upd (fun i=>z+1<=i∧i≠wr.heap.size) wz w3:=hu3.mono (fun i _ e=>by have:=tB.out;unfold One at e;omega);clear ic hu3 gZ))
      try (go_wp2_with fail)
      refine hK.out _ _ ?_ fun jH=>?_
      ·(first|exact hzz.drew|(with_reducible exact jH)|(with_reducible exact hq)|exact jH.alloc _)
      try simp only[Qa]
      refine wpZ 8 rfl fun K hK=>?_;go_simp
      (first
  |(go_at_call 75;refine(xL.out _ lz.out).mono ?_;rintro e w4 ⟨rfl,mS,hu4⟩;have Fm:=Qh mS;have dl:=Qh (bg.out.trans hu4);have hq:Upd (fun i=>z+1<=i∧i≠wr.heap.size) wz w4:=dl.out.mono (fun i _ e=>by have:=tB.out;unfold One at e;omega);clear mS hu4))
      try (go_wp2_with fail)
      refine hK.out _ _ ?_ fun jH=>?_
      ·(first|exact hzz.drew|(with_reducible exact jH)|(with_reducible exact hq)|exact jH.alloc _)
      try simp only[Qa]
      refine wpK 11 rfl ?_;refine wpZ 12 rfl fun K hK=>?_;go_simp;refine hK.out _ _ ?_ fun jH=>?_
      ·(first|exact hzz.drew|(with_reducible exact jH)|(with_reducible exact hq)|exact jH.alloc _)
      try simp only[Qa]
      refine wpZ 13 rfl fun K hK=>?_
      (first
  |(refine Zaq (by rfl) (by rfl) Zey (v:= .slice A5 ac.length c5) (n:=ac.length) (xs:=Za4 ac) (cells:=[Qi (n1:Int),Qi (n2:Int),Qi x.k,Qi 0]) (by rfl) (by rfl) (by exact Za fg.out (dl.out.alloc _) (fun i e e2=>by have:=(fg.out.lt i e).1;unfold One at e2;omega)) rfl (by exact Zah) (by rfl) (by omega) (by omega) (by have:=(dl.out.alloc (.cells #[Qi (n1:Int),Qi (n2:Int),Qi x.k,.int .i64 0] 119)).size;have:=By.out.size;have:=tB.out;omega) ?_;intro g6 c6 w6 ar hu6 cI cU;have lx:=Qh ar;have eh:=Qh hu6;have hq:Upd (fun i=>z+1<=i∧i≠wr.heap.size) wz w6:=((dl.out.alloc _).mono (fun i _ e=>by have:=tB.out;unfold One at e;omega)).trans (hu6.mono (fun i _ e=>by have:=o5.out i e;omega));clear ar hu6 cI cU))
      refine hK.out _ _ ?_ fun jH=>?_
      ·(first|exact hzz.drew|(with_reducible exact jH)|(with_reducible exact hq)|exact jH.alloc _)
      try simp only[Qa]
      refine wpK 14 rfl ?_;refine wpD (Ii ?_);have lW:=Qh ((Fm.out.upd ((Il No _).alloc _) id).upd eh.out (fun e=>by have:=(fg.out.lt _ e).1;omega));have Dp:=Qh (show Upd (One (z+1)) wb _ from((hu.out.then_ By.out (fun _ e=>e.elim)).trans (dl.out.alloc _)).then_ eh.out (fun i e=>Or.inr (by have:=(fg.out.lt i e).1;rw[oR.out];exact this)));clear jH;go_wp2;go_roundg (gk-1);exact⟨k+1,some ⟨g6,0,none⟩,c6,i2,ac++[⟨(n1:Int),(n2:Int),x.k,0⟩],by omega,by simp,by simp,xH,mz,Qh (by simp;have:=qb.out;omega),lW,Qh (by have:=lx.out;rw[ZpB];simpa[HArc.cells]using this),Dp⟩;omega
    ·have d2:decide (x.k<=3)=false:=Qf k2;have aB:Zy mask x.k=false:=by unfold Zy;rw[d1,d2];rfl
     have HN:=Qh (show Zeg ids ac (Zi (l.drop (k+1)) mask)=(II,AA) by have:=am.out;rw[X.out,ZjT aB]at this;exact this);clear am X aB;go_wp2;go_roundg (gk-1);exact⟨k+1,A5,c5,ids,ac,by omega,by simp,rfl,HN,Qh (by have:=cR.out;omega),Qh (by have:=qb.out;omega),Qh (hM.out.upd uz id),Qh (Za ae.out uz Qo),Qh (hu.out.then_ uz (fun _ e=>e.elim))⟩;omega
   ·have d1:decide (1<=x.k)=false:=Qf k1;have aB:Zy mask x.k=false:=by unfold Zy;rw[d1];rfl
    have HN:=Qh (show Zeg ids ac (Zi (l.drop (k+1)) mask)=(II,AA) by have:=am.out;rw[X.out,ZjT aB]at this;exact this);clear am X aB;go_wp2;go_roundg (gk-1);exact⟨k+1,A5,c5,ids,ac,by omega,by simp,rfl,HN,Qh (by have:=cR.out;omega),Qh (by have:=qb.out;omega),Qh (hM.out.upd uz id),Qh (Za ae.out uz Qo),Qh (hu.out.then_ uz (fun _ e=>e.elim))⟩;omega
  ·obtain rfl:k=l.length:=by omega
   have cp:=am.out;rw[G9]at cp;have CX:ids=II:=congrArg Prod.fst cp;have gN:ac=AA:=congrArg Prod.snd cp;subst CX gN;clear cp am;have nU:=ZhO (ty:=3) Tryz.underlying114 hM.out;rw[Zh1]at nU;have n1:decide (4096<(ids.length:Int))=false:=Qf (by have:=eq.out;omega);have cd:=BM.out.upd hu.out (by unfold One;omega);have CN:=Qh (Zxy wr (ids.length:Int));rw[qO.out]at CN;have tO:Hid (ArcsL (fun i=>z+2<=i) wr A5 ac):=Qh (Recs.weak (Zff ae.out) (fun i _ e=>(ae.out.lt i e).1));have Ef:=Qh cd;have EH:Hid (Upd No w wr):=Qh (U0.out.then_ hu.out (fun i e=>Or.inr (by unfold One at e;have:=HZ.out;omega)));clear cd ae hu hM;go_wp2_with fail;refine(CN.out).mono ?_;rintro e w3 ⟨g,rfl,oc⟩;have s7:=Qh oc;obtain⟨RQ,zk⟩:=Qe (Zet ids.length [] ac);have BK:=Qh (show Zet ids.length [] (ac.drop 0)=RQ by rw[List.drop_zero];exact zk);rw[zk]at lg;obtain⟨wo,gU⟩:∃wo,wo=wr:=⟨_,rfl⟩;subst gU;have D1:ac.length<=2000:=by have:=DE.out;omega
   clear oc CN nU zk;go_wp2;generalize gk=GK at*
   go_loopg [65] ac.length (fun gk i wx=>∃(j:Nat) (q:List HArc),j+gk=ac.length∧i= Qi (j:Int)∧Hid (DMa wo g ids.length j q wx)∧Hid (Zet ids.length q (ac.drop j)=RQ))
   case atStart=>exact⟨0,[],by omega,rfl,s7,BK⟩
   case round=>
    clear s7 BK;obtain⟨j,q,kP,rfl,hd,hq⟩:=hrel
    by_cases hlt:j<ac.length
    ·obtain⟨ax,rfl,q0,q1,q2,q3⟩:=(tO.out.upd hd.out.upd Qo).at_ hlt;obtain⟨x,hx⟩:=Qe (ac[j]);rw[hx]at q0 q1 q2 q3;have am:=hq.out;rw[show ac.drop j=x::ac.drop (j+1) by rw[<-hx];exact Ge hlt,Zi4]at am;have HS:=Qh am;clear hx am hq;have b1:(0:Int)<=(j:Int):=Qn _;have b2:(j:Int)<(ac.length:Int):=by omega
     have jw:IntKind.i64.wrap ((j:Int)+1)=(j:Int)+1:=IntWalk.i64_in _ (by omega);have bo:=Im wr 119 [Qi x.f,Qi x.t,Qi x.kind,Qi x.label];obtain⟨g0,g1,g2,g3⟩:=bo.c4;have HD:=Qh (hd.out.no ((Il No wr).alloc (.cells #[Qi x.f,Qi x.t,Qi x.kind,Qi x.label] 119)));clear bo hd;go_wp2_with fail;refine Ck (Zxz HD.out (by omega) x) fun w3 oc=>?_;go_wp2;go_roundg (gk-1);exact⟨j+1,Zcq ids.length q x,by omega,by simp,Qh oc,HS⟩;omega
    ·obtain rfl:j=ac.length:=by omega
     have tN:q=RQ:=by have:=hq.out;rw[G9]at this;exact this
     subst tN;clear hq;obtain⟨G,Bk⟩:=hd.out.is;have C5:=Qh hd.out.upd;have CL:=Qh (Zvv Bk (by have:=eq.out;omega) 14);clear hd Bk;go_wp2_with fail;refine(CL.out).mono ?_;rintro e w4 ⟨A4,c4,rfl,aW,hu4⟩;obtain⟨LL,xx⟩:=Qe (ZdM ids.length (ofA 14 q));have oa:LL.length=ids.length:=by rw[<-xx];unfold ZdM;simp
     rw[xx]at aW lg ⊢;obtain⟨wl,dV⟩:=Qe (w4.alloc (.cells #[.slice A4 LL.length c4] 27));have ul:Upd No w4 wl:=by rw[<-dV];exact(Il No w4).alloc _
     have bl:Blk wl w4.heap.size 27 [.slice A4 LL.length c4]:=by rw[<-dV];exact Im w4 _ _
     have dl:=Qh ((C5.out.trans hu4).trans ul);have CC:=Qh (ZvZ (d:=c5) (tO.out.upd dl.out Qo) (by omega) (bl.cell 0) ((Ef.out.upd dl.out id).cell 0) ((Ints.of_own aW).upd ul Qo) (by rw[oa];exact Dd.out) (by rw[oa];have:=eq.out;omega));rw[lg.out,<-HZ.out]at CC;clear aW hu4 ul bl xx oa;go_wp2_with fail;refine Ck CC.out fun w5 hu5=>?_;go_wp2;go_ret;exact⟨rfl,(EH.out.trans dl.out).trans hu5⟩
