/- Closed walks: how many arcs the shortest has. -/
import Derived.Test.YtonblekdfinpkaaGreatWqap
import Derived.Test.YtonblekdfinpkaaGreatWqaw
import Derived.Test.YtonblekdfinpkaaGreatWqbf
import Derived.Test.YtonblekdfinpkaaGreatWqbg
import Derived.Test.YtonblekdfinpkaaGreatWqbk
import Derived.Test.YtonblekdfinpkaaGreatWqbn
import Derived.Test.YtonblekdfinpkaaGreatWqbo
namespace Go.Proofs.YtonblekdfinpkaaGreat
set_option linter.unusedVariables false
set_option linter.unusedSimpArgs false
section
open Go.RowKit
theorem ZrD {must:Int} {da dw:Int→Int} (hbd:∀u,(-1≤da u∧da u≤1000000)∧-1≤dw u∧dw u≤1000000) (need:Bool) (x:HArc): -1≤ZD must da dw need x∧ZD must da dw need x≤1000000:=by
 unfold ZD
 split
 ·exact(hbd x.t).2
 ·exact(hbd x.t).1
theorem ZlM (lf:HArc→Int) (best:Int) (a:HArc) (l:List HArc):ZQ lf best (a::l)=ZQ lf (if (decide (0≤lf a)&&(best==0||decide (lf a+1<best)))=true then lf a+1 else best) l:=rfl
set_option maxRecDepth 100000 in
set_option maxHeartbeats 4000000 in
theorem Zo2 (w:World) (G:Nat→Prop) (p0 A B:Option Addr) (N K:Nat) (q:List HArc) (hG:DG w G p0 N K q) (hK:K≤100000) (mask must:Int) (da dw:Int→Int) (h:LoopI w A B N da dw)
  (hbd:∀u,(-1≤da u∧da u≤1000000)∧-1≤dw u∧dw u≤1000000) (i:Int) (need:Bool):
  Calls Tryz.prog 117 #[.agg #[.pointer p0,.int .i64 mask,.int .i64 must,.slice A N N,.slice B N N],.int .i64 i,.bool need] w fun e w'=>e= .returned (.int .i64 (Z7 (ofA mask q) must i da dw need))∧Upd No w w':=by
 obtain⟨wb,hwb⟩:∃wb,w.alloc (.cells #[.pointer p0,.int .i64 mask,.int .i64 must,.slice A N N,.slice B N N] 185)=wb:=⟨_,rfl⟩;have u0:Upd No w wb:=by rw[←hwb];exact(Upd.refl No w).alloc _
 have bL:Blk wb w.heap.size 185 [.pointer p0,.int .i64 mask,.int .i64 must,.slice A N N,.slice B N N]:=by rw[←hwb];exact Blk.new w _ _
 have U0:=Qh u0;obtain⟨ys,hys⟩:∃ys,((ofA mask q).filter fun a=>a.f==i)=ys:=⟨_,rfl⟩
 have hyr:∀y∈ys,(1≤y.kind∧y.kind≤3)∧0≤y.t∧y.t<(N:Int):=fun y hy=>by
  rw[←hys]at hy;have:=(ZC _ _).1 (hG.right y (mem_ofA.1 (List.mem_filter.1 hy).1).1);exact⟨⟨this.2.2.2.2.1,this.2.2.2.2.2.1⟩,this.2.2.1,this.2.2.2.1⟩
 have hyl:ys.length≤1000000:=by
  rw[←hys];have h1:=List.length_filter_le (fun a:HArc=>a.f==i) (ofA mask q);have h2:=List.length_filter_le (fun x:HArc=>Zf mask x.kind) q;have h3:=hG.few;unfold ofA at h1 ⊢;omega
 have HO:=Qh (hys▸ZqZ (hG.no u0) i mask);have HLI:=Qh (fun(W:World) (u:Upd No wb W)=>h.upd (u0.trans u));have HBL:=Qh (fun(W:World) (u:Upd No wb W)=>bL.upd u id);obtain⟨R,hR⟩:∃R,Z7 (ofA mask q) must i da dw need=R:=⟨_,rfl⟩;have HR:=Qh (show ZQ (ZD must da dw need) 0 ys=R by rw[←hR,←hys];rfl);rw[hR];have c0:=bL.cell 0;have c1:=bL.cell 1;simp only[Qz,Qs]at c0 c1;have HY:=Qh hyr;clear hR hys hG h bL u0 hyr
 go_enter Tryz.func117,Tryz.ntmps117
 go_wp2_with fail
 refine(HO.out).mono ?_;rintro e w1 ⟨A1,k1,rfl,ho1,hu1⟩;have Ho1:=Qh (Zgj ho1);have Hu1:=Qh hu1;clear ho1 hu1 HO c0 c1;go_wp2
 go_loopg [7,18] ys.length (fun gk s j wr=>∃(k:Nat) (b:Int),k+gk=ys.length∧j= .int .i64 k∧s= .int .i64 b∧0≤b∧b≤1000001∧Hid (ZQ (ZD must da dw need) b (ys.drop k)=R)∧Upd No w1 wr)
 case atStart=>exact⟨0,0,by omega,rfl,rfl,by omega,by omega,HR,Upd.refl _ _⟩
 case round=>
  obtain⟨k,b,hgk,rfl,rfl,hb0,hb1,hs,hu⟩:=hrel
  by_cases hlt:k<ys.length
  ·obtain⟨ax,rfl,q0,q1,q2,q3⟩:=(Ho1.out.upd hu (fun _ _=>id)).at_ hlt;obtain⟨x,hx⟩:∃x,ys[k]=x:=⟨_,rfl⟩;obtain⟨⟨hk1,hk2⟩,ht0,ht1⟩:=HY.out _ (List.getElem_mem hlt);rw[hx]at q0 q1 q2 q3 hk1 hk2 ht0 ht1;have hs':=hs.out;rw[List.drop_eq_getElem_cons hlt,hx,ZlM]at hs';have hv:=ZrD (must:=must) hbd need x;have i1:(0:Int)≤(k:Int):=Qn _;have i2:(k:Int)<(ys.length:Int):=by omega
   have uA:=(Upd.refl No wr).alloc (.cells #[.int .i64 x.f,.int .i64 x.t,.int .i64 x.kind,.int .i64 x.label] 34);have bo:=Blk.new wr 34 [.int .i64 x.f,.int .i64 x.t,.int .i64 x.kind,.int .i64 x.label];have g0:=bo.cell 0;have g1:=bo.cell 1;have g2:=bo.cell 2;have g3:=bo.cell 3;have bw:=HBL.out _ ((Hu1.out.trans hu).trans uA);have c0:=bw.cell 0;have c1:=bw.cell 1;have c2:=bw.cell 2;have c3:=bw.cell 3;have c4:=bw.cell 4;simp only[Qz,Qs]at g0 g1 g2 g3 c0 c1 c2 c3 c4;have HF:=Qh (Zq4 _ p0 A B N mask must da dw (HLI.out _ ((Hu1.out.trans hu).trans uA)) x hk1 hk2 ht0 ht1 need)
   generalize ZD must da dw need x=v at hs' hv HF
   have hw1:IntKind.i64.wrap (v+1)=v+1:=IntWalk.i64_in _ (by omega);have HUA:=Qh (hu.trans uA);have HS:=Qh hs';unfold HArc.cells at HF;clear hs hs' hx hk1 hk2 ht0 ht1 bo bw uA
   go_wp2_with fail
   refine(HF.out).mono ?_;rintro e w2 ⟨rfl,hu2⟩;have HU2:=Qh (HUA.out.trans hu2);clear hu2 HF
   by_cases hv0:0≤v
   ·have hn1:decide (0≤v)=true:=decide_eq_true hv0
    by_cases hbz:b=0
    ·subst hbz;have HS2:=Qh (show ZQ (ZD must da dw need) (v+1) (ys.drop (k+1))=R by have:=HS.out;rw[hn1]at this;exact this);go_wp2
     go_roundg (gk-1)
     case measure=>omega
     case rel=>exact⟨k+1,v+1,by omega,by go_num,by first|rfl|simp,by omega,by omega,HS2,HU2.out⟩
    ·have hn2:(b==0)=false:=beq_eq_false_iff_ne.2 hbz
     by_cases hvb:v+1<b
     ·have hn3:decide (v+1<b)=true:=decide_eq_true hvb;have HS2:=Qh (show ZQ (ZD must da dw need) (v+1) (ys.drop (k+1))=R by have:=HS.out;rw[hn1,hn2,hn3]at this;exact this);go_wp2
      go_roundg (gk-1)
      case measure=>omega
      case rel=>exact⟨k+1,v+1,by omega,by go_num,by first|rfl|simp,by omega,by omega,HS2,HU2.out⟩
     ·have hn3:decide (v+1<b)=false:=decide_eq_false hvb;have HS2:=Qh (show ZQ (ZD must da dw need) b (ys.drop (k+1))=R by have:=HS.out;rw[hn1,hn2,hn3]at this;exact this);go_wp2
      go_roundg (gk-1)
      case measure=>omega
      case rel=>exact⟨k+1,b,by omega,by go_num,by first|rfl|simp,by omega,by omega,HS2,HU2.out⟩
   ·have hn1:decide (0≤v)=false:=decide_eq_false hv0;have HS2:=Qh (show ZQ (ZD must da dw need) b (ys.drop (k+1))=R by have:=HS.out;rw[hn1]at this;exact this);go_wp2
    go_roundg (gk-1)
    case measure=>omega
    case rel=>exact⟨k+1,b,by omega,by go_num,by first|rfl|simp,by omega,by omega,HS2,HU2.out⟩
  ·obtain rfl:k=ys.length:=by omega
   have Hx:=Qh (show b=R by have:=hs.out;rw[List.drop_length]at this;exact this);clear hs;go_wp2
   go_ret
   exact⟨by first|rfl|(rw[Hx.out];rfl)|(rw[←Hx.out];rfl),(U0.out.trans Hu1.out).trans hu⟩
end
/- Closed walks:the first of so many arcs. -/
section
open Go.RowKit
def isC (must i:Int) (da dw:Int→Int) (n:Int) (need:Bool) (a:HArc):Bool:=decide (i≤a.t)&&decide (ZD must da dw need a=n)
theorem ZmI {p:List HArc} {must i:Int} {da dw:Int→Int} {n:Nat} {here:Int} {need:Bool} {a:HArc} (h:(p.filter fun a=>a.f==here).find? (isC must i da dw (n:Int) need)=some a):
  ZB p must i da dw (n+1) here need=a::ZB p must i da dw n a.t (need&& !isM must a):=by
 show(match (p.filter fun a=>a.f==here).find? (isC must i da dw (n:Int) need)with|some a=>a::ZB p must i da dw n a.t (need&& !isM must a)|none=>ZB p must i da dw n here need)=_
 rw[h]
theorem ZmJ {p:List HArc} {must i:Int} {da dw:Int→Int} {n:Nat} {here:Int} {need:Bool} (h:(p.filter fun a=>a.f==here).find? (isC must i da dw (n:Int) need)=none):
  ZB p must i da dw (n+1) here need=ZB p must i da dw n here need:=by
 show(match (p.filter fun a=>a.f==here).find? (isC must i da dw (n:Int) need)with|some a=>a::ZB p must i da dw n a.t (need&& !isM must a)|none=>ZB p must i da dw n here need)=_
 rw[h]
theorem Znq {l:List HArc} {k:Nat} {x:HArc} {P:HArc→Bool} (hk:k<l.length) (hx:l[k]=x) (h:P x=true):(l.drop k).find? P=some x:=by
 rw[List.drop_eq_getElem_cons hk,hx,List.find?_cons_of_pos h]
theorem Zis {l:List HArc} {k:Nat} {x:HArc} {P:HArc→Bool} (hk:k<l.length) (hx:l[k]=x) (h:P x=false):(l.drop k).find? P=(l.drop (k+1)).find? P:=by
 rw[List.drop_eq_getElem_cons hk,hx,List.find?_cons_of_neg (by simp[h])]
theorem Zos (must:Int) (x:HArc):(x.kind=1→(bits .and .i64 (must/2) 1==0)= !isM must x)∧(x.kind=2→(bits .and .i64 (must/4) 1==0)= !isM must x)∧(x.kind=3→(bits .and .i64 (must/8) 1==0)= !isM must x):=by
 unfold isM Zf;refine⟨fun e=> ?_,fun e=> ?_,fun e=> ?_⟩<;>(rw[ZcA,e];rfl)
set_option maxRecDepth 100000 in
set_option maxHeartbeats 8000000 in
theorem ZtL (w:World) (G:Nat→Prop) (p0 A B:Option Addr) (N K:Nat) (q:List HArc) (hG:DG w G p0 N K q) (hK:K≤100000) (mask must:Int) (da dw:Int→Int) (h:LoopI w A B N da dw)
  (hbd:∀u,(-1≤da u∧da u≤1000000)∧-1≤dw u∧dw u≤1000000) (i:Int) (n:Nat) (hn:n≤1000000) (need:Bool):
  Calls Tryz.prog 118 #[.agg #[.pointer p0,.int .i64 mask,.int .i64 must,.slice A N N,.slice B N N],.int .i64 i,.int .i64 n,.bool need] w (ZlC w (ZB (ofA mask q) must i da dw n i need)):=by
 obtain⟨wb,hwb⟩:∃wb,w.alloc (.cells #[.pointer p0,.int .i64 mask,.int .i64 must,.slice A N N,.slice B N N] 185)=wb:=⟨_,rfl⟩;have u0:Upd No w wb:=by rw[←hwb];exact(Upd.refl No w).alloc _
 have bL:Blk wb w.heap.size 185 [.pointer p0,.int .i64 mask,.int .i64 must,.slice A N N,.slice B N N]:=by rw[←hwb];exact Blk.new w _ _
 have U0:=Qh u0;obtain⟨p,hp⟩:∃p,ofA mask q=p:=⟨_,rfl⟩
 have hpr:∀y∈p,(1≤y.kind∧y.kind≤3)∧0≤y.t∧y.t<(N:Int):=fun y hy=>by
  rw[←hp]at hy;have:=(ZC _ _).1 (hG.right y (mem_ofA.1 hy).1);exact⟨⟨this.2.2.2.2.1,this.2.2.2.2.2.1⟩,this.2.2.1,this.2.2.2.1⟩
 have hpl:p.length≤1000000:=by
  rw[←hp];have h2:=List.length_filter_le (fun x:HArc=>Zf mask x.kind) q;have h3:=hG.few;unfold ofA;omega
 have HO:=Qh (fun(W:World) (u:Upd No wb W) (j:Int)=>hp▸ZqZ (hG.no (u0.trans u)) j mask);have HLI:=Qh (fun(W:World) (u:Upd No wb W)=>h.upd (u0.trans u));have HBL:=Qh (fun(W:World) (u:Upd No wb W)=>bL.upd u id);have HLT:=Qh bL.lt;rw[hp];obtain⟨R,hR⟩:∃R,ZB p must i da dw n i need=R:=⟨_,rfl⟩;have HR:=Qh hR;rw[hR];have HP:=Qh hpr;clear hR hp hG h bL u0 hpr
 go_enter Tryz.func118,Tryz.ntmps118
 go_wp2
 go_loopg [2,3,9,10] n (fun gk sn sd s a wr=>∃(nd:Bool) (A5:Option Addr) (c5:Nat) (xs:List HArc) (ai:Int),sn= .int .i64 (gk:Int)∧sd= .bool nd∧s= .slice A5 xs.length c5∧a= .int .i64 ai∧Hid (xs++ZB p must i da dw gk ai nd=R)∧
  xs.length+gk≤n∧wr.ownsRow wb.heap.size 34 4 (.slice A5 xs.length c5) xs.length (Zbm xs)∧Upd No wb wr)
 case atStart=>exact⟨need,none,0,[],i,rfl,rfl,rfl,rfl,Qh (by rw[List.nil_append];exact HR.out),by simp,World.ownsRow_nil _ _ _ _,Upd.refl _ _⟩
 case round=>
  obtain⟨nd,A5,c5,xs,ai,rfl,rfl,rfl,rfl,hR,hxl,hown,hu⟩:=hrel
  cases gk with
  |zero=>
   have HRx:=Qh (show xs=R by have:=hR.out;simpa[ZB]using this);clear hR;go_wp2
   go_ret
   have:=U0.out.size;rw[←HRx.out];exact⟨A5,c5,rfl,ZS hown this,U0.out.trans hu⟩
  |succ g1=>
   obtain⟨ys,hys⟩:∃ys,(p.filter fun a=>a.f==ai)=ys:=⟨_,rfl⟩;have hyl:ys.length≤1000000:=by rw[←hys];exact Nat.le_trans (List.length_filter_le _ _) hpl
   have hyp:∀y∈ys,y∈p:=fun y hy=>by rw[←hys]at hy;exact(List.mem_filter.1 hy).1
   have hO:=Qh (hys▸HO.out wr hu ai);have HYS:=Qh hys;have HYP:=Qh hyp;have HR2:=hR;have bw:=HBL.out wr hu;have c0:=bw.cell 0;have c1:=bw.cell 1;simp only[Qz,Qs]at c0 c1;have hg0:(0:Int)<((g1+1:Nat):Int):=by omega
   clear hys hyp hR bw;obtain⟨ng,hng⟩:∃ng:Int,((g1+1:Nat):Int)=ng:=⟨_,rfl⟩;rw[hng]at hg0;have hw1:IntKind.i64.wrap (ng-1)=ng-1:=IntWalk.i64_in _ (by omega)
   generalize hgg:g1+1=m0 at*
   rw[hng]
   go_wp2_with fail
   refine(hO.out).mono ?_;rintro e w3 ⟨A7,c7,rfl,ho7,hu7⟩;have HOW:=Qh hown;have HY:=Qh (Zgj ho7);have HO3:=Qh (Za hown hu7 (fun _ _=>id));have HU3:=Qh (hu.trans hu7);clear hO ho7 hu7 hown hu c0 c1;go_wp2;obtain⟨fo,hfo⟩:∃fo,ys.find? (isC must i da dw (g1:Int) nd)=fo:=⟨_,rfl⟩;have HFO:=Qh hfo;have HG1:=Qh (show(g1:Int)=ng-1 by omega);clear hfo
   go_loopg [3,9,10,25] ys.length (fun gk sd s a j wr=>∃(k:Nat),k+gk=ys.length∧j= .int .i64 k∧sd= .bool nd∧s= .slice A5 xs.length c5∧a= .int .i64 ai∧Hid ((ys.drop k).find? (isC must i da dw (g1:Int) nd)=fo)∧Upd No w3 wr)
   case atStart=>exact⟨0,by omega,rfl,rfl,rfl,rfl,HFO,Upd.refl _ _⟩
   case round=>
    obtain⟨k,hgj,rfl,rfl,rfl,rfl,hf,hu⟩:=hrel
    by_cases hlt:k<ys.length
    ·obtain⟨ax,rfl,q0,q1,q2,q3⟩:=(HY.out.upd hu (fun _ _=>id)).at_ hlt;obtain⟨x,hx⟩:∃x,ys[k]=x:=⟨_,rfl⟩;obtain⟨⟨hk1,hk2⟩,ht0,ht1⟩:=HP.out _ (HYP.out _ (List.getElem_mem hlt));rw[hx]at q0 q1 q2 q3 hk1 hk2 ht0 ht1;have i1:(0:Int)≤(k:Int):=Qn _;have i2:(k:Int)<(ys.length:Int):=by omega
     obtain⟨wx,hwx⟩:∃wx,wr.alloc (.cells #[.int .i64 x.f,.int .i64 x.t,.int .i64 x.kind,.int .i64 x.label] 34)=wx:=⟨_,rfl⟩;have ux:Upd No wr wx:=by rw[←hwx];exact(Upd.refl No wr).alloc _
     have bo:Blk wx wr.heap.size 34 [.int .i64 x.f,.int .i64 x.t,.int .i64 x.kind,.int .i64 x.label]:=by rw[←hwx];exact Blk.new wr _ _
     have HUX:=Qh (hu.trans ux);have g0:=bo.cell 0;have g1':=bo.cell 1;have g2:=bo.cell 2;have g3:=bo.cell 3;have bw:=HBL.out wx (HU3.out.trans HUX.out);have c0:=bw.cell 0;have c1:=bw.cell 1;have c2:=bw.cell 2;have c3:=bw.cell 3;have c4:=bw.cell 4;simp only[Qz,Qs]at g0 g1' g2 g3 c0 c1 c2 c3 c4;have hown0:=Za HO3.out hu (fun _ _=>id);have HGE:=Qh (fun i e=>(hown0.lt i e).2);have HB0:=Qh (fun i e=>(hown0.lt i e).1);have HOX:=Qh (Za hown0 ux (fun _ _=>id));have BO:=Qh bo;have HF:=Qh (Zq4 wx p0 A B N mask must da dw (HLI.out wx (HU3.out.trans HUX.out)) x hk1 hk2 ht0 ht1 nd);have HK:=Qh (show x.kind=1∨x.kind=2∨x.kind=3 by omega);have HX:=Qh hx;have hval:isC must i da dw (g1:Int) nd x=(decide (i≤x.t)&&decide (ZD must da dw nd x=ng-1)):=by unfold isC;rw[HG1.out]
     generalize ZD must da dw nd x=v at hval HF
     have HVAL:=Qh hval;unfold HArc.cells at HF;clear hx hk1 hk2 ht0 ht1 bo bw ux hown0 hval hu
     by_cases hl:x.t<i
     ·have HN:=Qh (show(ys.drop (k+1)).find? (isC must i da dw (g1:Int) nd)=fo by rw[←hf.out,Zis hlt HX.out (by rw[HVAL.out,decide_eq_false (by omega)];rfl)]);go_wp2
      go_roundg (gk-1)
      case measure=>omega
      case rel=>exact⟨k+1,by omega,by go_num,rfl,rfl,rfl,HN,HUX.out⟩
     ·go_wp2_with fail
      refine(HF.out).mono ?_;rintro e w4 ⟨rfl,hu4⟩;have bo4:=BO.out.upd hu4 id;have g0:=bo4.cell 0;have g1':=bo4.cell 1;have g2:=bo4.cell 2;have g3:=bo4.cell 3;have BW4:=Qh (HBL.out w4 ((HU3.out.trans HUX.out).trans hu4));have HO4:=Qh (Za HOX.out hu4 (fun _ _=>id));have HU4:=Qh ((HU3.out.trans HUX.out).trans hu4);have HU43:=Qh (HUX.out.trans hu4);have hz4:=((HU3.out.trans HUX.out).trans hu4).size;have BO4:=Qh bo4;simp only[Qz,Qs]at g0 g1' g2 g3;clear bo4 BO HOX HF hu4 c0 c1 c2 c3 c4 q0 q1 q2 q3 hwx
      by_cases hv:v=ng-1
      ·have hv1:(v==ng-1)=true:=by simpa using hv
       have hv2:(v != ng-1)=false:=by simpa using hv
       have HFX:=Qh (show fo=some x by rw[←hf.out,Znq hlt HX.out (by rw[HVAL.out,decide_eq_true hl,decide_eq_true hv];rfl)])
       have HRX:=Qh (show xs++(x::ZB p must i da dw g1 x.t (nd&& !isM must x))=R by
        have:=HR2.out;rw[←hgg,ZmI (by rw[HYS.out,HFO.out,HFX.out])]at this;exact this)
       clear HVAL HX HFX hv hf;have HL:=Qh (Zj6 xs);obtain⟨xf,xt,xk,xl⟩:=x;simp only at g0 g1' g2 g3 HRX HK
       cases nd
       ·have HRY:=Qh (show(xs++[(⟨xf,xt,xk,xl⟩:HArc)])++ZB p must i da dw g1 xt false=R by have:=HRX.out;rw[Bool.false_and]at this;rw[List.append_assoc];exact this);clear HRX
        go_wp2_with (at_builtin;refine ZaQ rfl rfl ZeM (v:= .slice A5 xs.length c5) (n:=xs.length) (xs:=Zbm xs) (by rfl) rfl HO4.out rfl rfl (by omega) (by omega) hz4 ?_;intro g9 c9 w9 hown9 hu9 hg9 hlt9;have b9:=BO4.out.upd hu9 (fun e=>absurd (HGE.out _ e) (Nat.lt_irrefl _));have l9:=BW4.out.upd hu9 (fun e=>absurd HLT.out (Nat.not_lt.2 (HB0.out _ e)));have r1:=b9.cell 1;have r2:=b9.cell 2;have r3:=l9.cell 2;simp only[Qz,Qs]at r1 r2 r3;have HO9:=Qh hown9;have HU9:=Qh hu9;clear hown9 hu9 hg9 b9 l9 g0 g1' g2 g3)
        go_roundg g1
        case measure=>omega
        case rel=>exact⟨_,some ⟨g9,0,none⟩,c9,_,_,by rw[HG1.out],rfl,by simp,rfl,HRY,by simp;omega,by simpa[Zbm,HArc.cells]using HO9.out,HU4.out.then_ HU9.out fun i e=> .inr (HB0.out i e)⟩
       ·have HNX:=Qh (Zos must ⟨xf,xt,xk,xl⟩);rcases HK.out with rfl|rfl|rfl
        ·have HRY:=Qh (show(xs++[(⟨xf,xt,1,xl⟩:HArc)])++ZB p must i da dw g1 xt (bits .and .i64 (must/2) 1==0)=R by have:=HRX.out;rw[Bool.true_and,←HNX.out.1 rfl]at this;rw[List.append_assoc];exact this);clear HRX HK
         go_wp2_with (at_builtin;refine ZaQ rfl rfl ZeM (v:= .slice A5 xs.length c5) (n:=xs.length) (xs:=Zbm xs) (by rfl) rfl HO4.out rfl rfl (by omega) (by omega) hz4 ?_;intro g9 c9 w9 hown9 hu9 hg9 hlt9;have b9:=BO4.out.upd hu9 (fun e=>absurd (HGE.out _ e) (Nat.lt_irrefl _));have l9:=BW4.out.upd hu9 (fun e=>absurd HLT.out (Nat.not_lt.2 (HB0.out _ e)));have r1:=b9.cell 1;have r2:=b9.cell 2;have r3:=l9.cell 2;simp only[Qz,Qs]at r1 r2 r3;have HO9:=Qh hown9;have HU9:=Qh hu9;clear hown9 hu9 hg9 b9 l9 g0 g1' g2 g3)
         go_roundg g1
         case measure=>omega
         case rel=>exact⟨_,some ⟨g9,0,none⟩,c9,_,_,by rw[HG1.out],rfl,by simp,rfl,HRY,by simp;omega,by simpa[Zbm,HArc.cells]using HO9.out,HU4.out.then_ HU9.out fun i e=> .inr (HB0.out i e)⟩
        ·have HRY:=Qh (show(xs++[(⟨xf,xt,2,xl⟩:HArc)])++ZB p must i da dw g1 xt (bits .and .i64 (must/4) 1==0)=R by have:=HRX.out;rw[Bool.true_and,←HNX.out.2.1 rfl]at this;rw[List.append_assoc];exact this);clear HRX HK
         go_wp2_with (at_builtin;refine ZaQ rfl rfl ZeM (v:= .slice A5 xs.length c5) (n:=xs.length) (xs:=Zbm xs) (by rfl) rfl HO4.out rfl rfl (by omega) (by omega) hz4 ?_;intro g9 c9 w9 hown9 hu9 hg9 hlt9;have b9:=BO4.out.upd hu9 (fun e=>absurd (HGE.out _ e) (Nat.lt_irrefl _));have l9:=BW4.out.upd hu9 (fun e=>absurd HLT.out (Nat.not_lt.2 (HB0.out _ e)));have r1:=b9.cell 1;have r2:=b9.cell 2;have r3:=l9.cell 2;simp only[Qz,Qs]at r1 r2 r3;have HO9:=Qh hown9;have HU9:=Qh hu9;clear hown9 hu9 hg9 b9 l9 g0 g1' g2 g3)
         go_roundg g1
         case measure=>omega
         case rel=>exact⟨_,some ⟨g9,0,none⟩,c9,_,_,by rw[HG1.out],rfl,by simp,rfl,HRY,by simp;omega,by simpa[Zbm,HArc.cells]using HO9.out,HU4.out.then_ HU9.out fun i e=> .inr (HB0.out i e)⟩
        ·have HRY:=Qh (show(xs++[(⟨xf,xt,3,xl⟩:HArc)])++ZB p must i da dw g1 xt (bits .and .i64 (must/8) 1==0)=R by have:=HRX.out;rw[Bool.true_and,←HNX.out.2.2 rfl]at this;rw[List.append_assoc];exact this);clear HRX HK
         go_wp2_with (at_builtin;refine ZaQ rfl rfl ZeM (v:= .slice A5 xs.length c5) (n:=xs.length) (xs:=Zbm xs) (by rfl) rfl HO4.out rfl rfl (by omega) (by omega) hz4 ?_;intro g9 c9 w9 hown9 hu9 hg9 hlt9;have b9:=BO4.out.upd hu9 (fun e=>absurd (HGE.out _ e) (Nat.lt_irrefl _));have l9:=BW4.out.upd hu9 (fun e=>absurd HLT.out (Nat.not_lt.2 (HB0.out _ e)));have r1:=b9.cell 1;have r2:=b9.cell 2;have r3:=l9.cell 2;simp only[Qz,Qs]at r1 r2 r3;have HO9:=Qh hown9;have HU9:=Qh hu9;clear hown9 hu9 hg9 b9 l9 g0 g1' g2 g3)
         go_roundg g1
         case measure=>omega
         case rel=>exact⟨_,some ⟨g9,0,none⟩,c9,_,_,by rw[HG1.out],rfl,by simp,rfl,HRY,by simp;omega,by simpa[Zbm,HArc.cells]using HO9.out,HU4.out.then_ HU9.out fun i e=> .inr (HB0.out i e)⟩
      ·have hv1:(v==ng-1)=false:=by simpa using hv
       have hv2:(v != ng-1)=true:=by simpa using hv
       have HN:=Qh (show(ys.drop (k+1)).find? (isC must i da dw (g1:Int) nd)=fo by rw[←hf.out,Zis hlt HX.out (by rw[HVAL.out,decide_eq_false hv,Bool.and_false])]);clear HVAL HX hv hf;go_wp2
       go_roundg (gk-1)
       case measure=>omega
       case rel=>exact⟨k+1,by omega,by go_num,rfl,rfl,rfl,HN,HU43.out⟩
    ·obtain rfl:k=ys.length:=by omega
     have HRX:=Qh (show xs++ZB p must i da dw g1 ai nd=R by
      have hfo:=hf.out;rw[List.drop_length,List.find?_nil]at hfo;have:=HR2.out;rw[←hgg,ZmJ (by rw[HYS.out,HFO.out,←hfo])]at this;exact this)
     clear hf HFO;go_wp2
     go_roundg g1
     case measure=>omega
     case rel=>exact⟨nd,A5,c5,xs,ai,by rw[HG1.out],rfl,rfl,rfl,HRX,by omega,Za HO3.out hu (fun _ _=>id),HU3.out.trans hu⟩
end
/- Closed walks:numbers by ranks. -/
section
open Go.RowKit
set_option maxRecDepth 100000 in
set_option maxHeartbeats 4000000 in
theorem ZeX (w:World) (base:Nat) (A:Option Addr) (c:Nat) (l:List Int) (hown:w.ownsRow base 3 1 (.slice A l.length c) l.length (l.map (Value.int .i64))) (hl:l.length≤17592186044415):
  Calls Tryz.prog 183 #[.slice A l.length c] w fun e w'=>e= .returned (.slice A (ZG l).length c)∧w'.ownsRow base 3 1 (.slice A (ZG l).length c) (ZG l).length ((ZG l).map (Value.int .i64))∧Upd (Own (.slice A l.length c)) w w':=by
 have HS:=Qh (Zie w base A c l hown hl)
 have HC:=Qh (fun(W:World) (ho:W.ownsRow base 3 1 (.slice A l.length c) l.length ((Z4 l).map (Value.int .i64)))=>(by
  have h1:=Zhf W base A c (Z4 l) (by rw[Zbv];exact ho) (by rw[Zbv];exact hl);rw[Zbv,ZcL]at h1;exact h1:Calls Tryz.prog 208 #[.slice A l.length c] W fun e w'=>e= .returned (.slice A (ZG l).length c)∧w'.ownsRow base 3 1 (.slice A (ZG l).length c) (ZG l).length ((ZG l).map (Value.int .i64))∧Upd (Own (.slice A l.length c)) W w'))
 clear hown
 go_enter Tryz.func183,Tryz.ntmps183
 go_wp2_with fail
 refine(HS.out).mono ?_;rintro e w1 ⟨rfl,ho1,hu1⟩
 go_wp2_with fail
 refine(HC.out w1 ho1).mono ?_;rintro e w2 ⟨rfl,ho2,hu2⟩;go_wp2
 go_ret
 exact⟨rfl,ho2,hu1.trans hu2⟩
end
/- Closed walks,plain:ids and their ranks;what the first of the shortest is. -/
section
open Go.RowKit
def rk:List Int→Int→Int
 |[],_=>0
 |a::s,x=>if a<x then rk s x+1 else 0
theorem ZdA:∀(s:List Int) (x:Int),0≤rk s x∧rk s x≤(s.length:Int)
 |[],x=>by simp[rk]
 |a::s,x=>by
  have:=ZdA s x;unfold rk;simp only[List.length_cons]
  split<;>omega
theorem Zmb:∀{s:List Int} {x:Int},(∀y∈s,x≤y)→rk s x=0
 |[],_,_=>rfl
 |a::s,x,h=>by
  unfold rk;rw[if_neg (by have:=h a List.mem_cons_self;omega)]
theorem Zgo:∀{s:List Int} {x y:Int},s.Pairwise (·<·)→x∈s→x<y→rk s x<rk s y
 |[],x,y,_,h,_=>by cases h
 |a::s,x,y,hs,h,hxy=>by
  rw[List.pairwise_cons]at hs;rcases List.mem_cons.1 h with rfl|h
  ·have e1:rk (x::s) x=0:=Zmb fun z hz=>by
    rcases List.mem_cons.1 hz with rfl|hz
    ·exact Int.le_refl _
    ·exact Int.le_of_lt (hs.1 z hz)
   rw[e1];unfold rk;rw[if_pos hxy];have:=ZdA s y;omega
  ·have h1:=hs.1 x h;have h2:=Zgo hs.2 h hxy;unfold rk;rw[if_pos h1,if_pos (by omega)];omega
theorem Zte {s:List Int} {x y:Int} (hs:s.Pairwise (·<·)) (hx:x∈s) (h:x≤y):rk s x≤rk s y:=by
 rcases Classical.em (x=y)with rfl|e
 ·exact Int.le_refl _
 ·have:=Zgo hs hx (show x<y by omega);omega
theorem ZbX:∀{s:List Int} {x:Int},s.Pairwise (·<·)→x∈s→rk s x<(s.length:Int)∧s.getD (rk s x).toNat 0=x
 |[],x,_,h=>by cases h
 |a::s,x,hs,h=>by
  rw[List.pairwise_cons]at hs;rcases List.mem_cons.1 h with rfl|h
  ·have e1:rk (x::s) x=0:=Zmb fun z hz=>by
    rcases List.mem_cons.1 hz with rfl|hz
    ·exact Int.le_refl _
    ·exact Int.le_of_lt (hs.1 z hz)
   rw[e1];simp
  ·have h1:=hs.1 x h;have h2:=ZbX hs.2 h;have h3:=ZdA s x;unfold rk;rw[if_pos h1];refine⟨by simp only[List.length_cons];omega,?_⟩;rw[show(rk s x+1).toNat=(rk s x).toNat+1 by omega,List.getD_cons_succ];exact h2.2
theorem Zlh {s:List Int} {i:Int} (h0:0≤i) (h1:i<(s.length:Int)):s.getD i.toNat 0∈s:=by
 rw[List.getD_eq_getElem?_getD,Qg (show i.toNat<s.length by omega)];exact List.getElem_mem _
theorem ZiM {s:List Int} {i:Int} (hs:s.Pairwise (·<·)) (h0:0≤i) (h1:i<(s.length:Int)):rk s (s.getD i.toNat 0)=i:=by
 have hm:=Zlh h0 h1;have h2:=ZbX hs hm;have h3:=ZdA s (s.getD i.toNat 0);have hp:=List.pairwise_iff_getElem.1 hs;rw[List.getD_eq_getElem?_getD,List.getD_eq_getElem?_getD]at h2;rw[List.getD_eq_getElem?_getD]at h3 ⊢;have hi:i.toNat<s.length:=by omega
 rw[Qg hi]at h2 h3 ⊢;simp only[Option.getD_some]at h2 h3 ⊢;have hj:(rk s s[i.toNat]).toNat<s.length:=by omega
 rw[Qg hj]at h2;simp only[Option.getD_some]at h2;rcases Nat.lt_trichotomy (rk s s[i.toNat]).toNat i.toNat with e|e|e
 ·have:=hp _ _ hj hi e;omega
 ·omega
 ·have:=hp _ _ hi hj e;omega
theorem Zmw {s:List Int} {i j:Int} (hs:s.Pairwise (·<·)) (h0:0≤i) (h1:j<(s.length:Int)) (h:i≤j):s.getD i.toNat 0≤s.getD j.toNat 0:=by
 rcases Classical.em (i=j)with rfl|e
 ·exact Int.le_refl _
 ·refine Classical.byContradiction fun hc=> ?_
  have:=Zgo hs (Zlh (s:=s) (i:=j) (by omega) h1) (show s.getD j.toNat 0<s.getD i.toNat 0 by omega);rw[ZiM hs h0 (by omega),ZiM hs (by omega) h1]at this;omega
def toR (ids keys:List Int) (a:HArc):HArc:=⟨rk ids a.f,rk ids a.t,a.kind,rk keys a.label⟩
def unR (ids keys:List Int) (a:HArc):HArc:=⟨ids.getD a.f.toNat 0,ids.getD a.t.toNat 0,a.kind,keys.getD a.label.toNat 0⟩
structure Rk (D:List HArc) (ids keys:List Int) (q:List HArc):Prop where
 si:ids.Pairwise (·<·)
 sk:keys.Pairwise (·<·)
 mi:∀a∈D,a.f∈ids∧a.t∈ids
 ml:∀a∈D,a.label∈keys
 mq:∀b,b∈q↔∃a∈D,b=toR ids keys a
section
variable {D:List HArc} {ids keys:List Int} {q:List HArc}
theorem Rk.un (h:Rk D ids keys q) {a:HArc} (ha:a∈D):unR ids keys (toR ids keys a)=a:=by
 obtain⟨h1,h2⟩:=h.mi a ha;have h3:=h.ml a ha;obtain⟨af,at',ak,al⟩:=a;simp only at h1 h2 h3;unfold unR toR;simp only[(ZbX h.si h1).2,(ZbX h.si h2).2,(ZbX h.sk h3).2]
theorem Rk.to (h:Rk D ids keys q) {b:HArc} (hb:b∈q):unR ids keys b∈D∧toR ids keys (unR ids keys b)=b:=by
 obtain⟨a,ha,rfl⟩:=(h.mq b).1 hb;rw[h.un ha];exact⟨ha,rfl⟩
theorem Rk.less (h:Rk D ids keys q) {a b:HArc} (ha:a∈D) (hb:b∈D):ZaV a b=true→ZaV (toR ids keys a) (toR ids keys b)=true:=by
 have a1:=h.mi a ha;have b1:=h.mi b hb;have a2:=h.ml a ha;have b2:=h.ml b hb;rw[ZcG,ZcG];unfold toR;simp only;rintro(e|⟨e1,e|⟨e2,e|⟨e3,e⟩⟩⟩)
 ·exact .inl (Zgo h.si a1.1 e)
 ·exact .inr ⟨by rw[e1],.inl e⟩
 ·exact .inr ⟨by rw[e1],.inr ⟨e2,.inl (Zgo h.sk a2 e)⟩⟩
 ·exact .inr ⟨by rw[e1],.inr ⟨e2,.inr ⟨by rw[e3],Zgo h.si a1.2 e⟩⟩⟩
theorem Rk.less_un (h:Rk D ids keys q) {a b:HArc} (ha:a∈q) (hb:b∈q) (hl:ZaV a b=true):ZaV (unR ids keys a) (unR ids keys b)=true:=by
 have ha':=h.to ha;have hb':=h.to hb;refine Classical.byContradiction fun hc=> ?_
 rcases Classical.em (unR ids keys a=unR ids keys b)with e|e
 ·have:a=b:=by rw[←ha'.2,←hb'.2,e]
  rw[this]at hl;exact Zbx b hl
 ·have:=h.less hb'.1 ha'.1 (ZjE _ _ hc e);rw[ha'.2,hb'.2]at this;exact Zbx a (Zcj a b a hl this)
theorem Rk.lex_un (h:Rk D ids keys q):∀{l m:List HArc},(∀a∈l,a∈q)→(∀a∈m,a∈q)→ZeG l m→ZeG (l.map (unR ids keys)) (m.map (unR ids keys))
 |[],m,_,_,hl=>by cases m<;>exact hl.elim
 |a::l,[],_,_,hl=>hl.elim
 |a::l,b::m,ha,hb,hl=>by
  rcases hl with e|⟨e,hl⟩
  ·exact .inl (h.less_un (ha a List.mem_cons_self) (hb b List.mem_cons_self) e)
  ·exact .inr ⟨by rw[e],h.lex_un (fun x hx=>ha x (List.mem_cons_of_mem _ hx)) (fun x hx=>hb x (List.mem_cons_of_mem _ hx)) hl⟩
theorem Rk.up (h:Rk D ids keys q) {least v:Int} (hl:least∈ids):∀{l:List HArc} {u:Int},okW D least u l v→u∈ids→okW q (rk ids least) (rk ids u) (l.map (toR ids keys)) (rk ids v)
 |[],u,hw,_=>by
  have hw:u=v:=hw;rw[hw];exact rfl
 |a::l,u,hw,hu=>by
  obtain⟨ha,haf,hlu,hw⟩:=hw;exact⟨(h.mq _).2 ⟨a,ha,rfl⟩,by unfold toR;simp only;rw[haf],Zte h.si hl hlu,h.up hl hw (h.mi a ha).2⟩
theorem Rk.down (h:Rk D ids keys q) {i k:Int} (hi:0≤i):∀{l:List HArc} {j:Int},okW q i j l k→0≤j→j<(ids.length:Int)→okW D (ids.getD i.toNat 0) (ids.getD j.toNat 0) (l.map (unR ids keys)) (ids.getD k.toNat 0)
 |[],j,hw,_,_=>by
  have hw:j=k:=hw;rw[hw];exact rfl
 |a::l,j,hw,h0,h1=>by
  obtain⟨ha,haf,hij,hw⟩:=hw;have ha':=h.to ha;obtain⟨b,hb,e⟩:=(h.mq a).1 ha;have ht:a.t=rk ids b.t:=by rw[e];rfl
  have h2:=ZdA ids b.t;have h3:=ZbX h.si (h.mi b hb).2;refine⟨ha'.1,by show ids.getD a.f.toNat 0=_;rw[haf],Zmw h.si hi h1 hij,?_⟩;exact h.down hi hw (by omega) (by omega)
end
theorem Zhi {f:HArc→HArc} (hf:∀a,(f a).kind=a.kind) (must:Int) (l:List HArc):Zj must (l.map f)=Zj must l:=by
 unfold Zj;rw[List.any_map]
 congr 1
 funext a
 show isM must (f a)=isM must a
 unfold isM;rw[hf]
structure Short (D:List HArc) (must:Int) (need:Bool) (v:Int) (c:List HArc):Prop where
 ne:c≠[]
 w:okW D v v c v
 m:need=true→Zj must c=true
 le:∀u c',c'≠[]→okW D u u c' u→(need=true→Zj must c'=true)→c.length≤c'.length∧(c.length=c'.length→v≤u∧(v=u→c'=c∨ZeG c c'))
def NoWay (D:List HArc) (must:Int) (need:Bool):Prop:=∀u c',c'≠[]→okW D u u c' u→(need=true→Zj must c'=true)→False
theorem Zg7:∀{l m:List HArc},ZeG l m→ZeG m l→False
 |[],m,h,_=>by cases m<;>exact h.elim
 |a::l,[],h,_=>h.elim
 |a::l,b::m,h,k=>by
  rcases h with h|⟨e,h⟩
  ·rcases k with k|⟨e,k⟩
   ·exact Zbx a (Zcj a b a h k)
   ·rw[e]at h;exact Zbx a h
  ·rcases k with k|⟨e2,k⟩
   ·rw[e]at k;exact Zbx b k
   ·exact Zg7 h k
theorem Short.same {D:List HArc} {must:Int} {need:Bool} {v u:Int} {c d:List HArc} (h:Short D must need v c) (k:Short D must need u d):v=u∧c=d:=by
 have h1:=h.le u d k.ne k.w k.m;have k1:=k.le v c h.ne h.w h.m;have hl:c.length=d.length:=by omega
 have h2:=h1.2 hl;have k2:=k1.2 hl.symm;have hv:v=u:=by omega
 refine⟨hv,?_⟩;rcases h2.2 hv with e|e
 ·exact e.symm
 ·rcases k2.2 hv.symm with e2|e2
  ·exact e2
  ·exact(Zg7 e e2).elim
theorem Short.some {D:List HArc} {must:Int} {need:Bool} {v:Int} {c:List HArc} (h:Short D must need v c) (k:NoWay D must need):False:=k v c h.ne h.w h.m
theorem Short.simple {D:List HArc} {must:Int} {need:Bool} {v:Int} {c:List HArc} (h:Short D must need v c):c.Pairwise fun a b=>a.f≠b.f:=
 ZmH h.w h.m (fun c' h1 h2 h3=>(h.le v c' h1 h2 h3).1) (fun u c' h1 h2 h3=>(h.le u c' h1 h2 h3).1)
theorem Rk.short {D:List HArc} {ids keys:List Int} {q:List HArc} (h:Rk D ids keys q) {must:Int} {need:Bool} {i:Int} {c:List HArc} (hi:0≤i) (h1:i<(ids.length:Int)) (k:Short q must need i c):
  Short D must need (ids.getD i.toNat 0) (c.map (unR ids keys)):=by
 have hM:=fun l=>Zhi (f:=unR ids keys) (fun _=>rfl) must l
 have hM2:=fun l=>Zhi (f:=toR ids keys) (fun _=>rfl) must l
 refine⟨by have:=k.ne;simpa using this,h.down hi k.w hi h1,fun e=>by rw[hM];exact k.m e,fun u c' n1 n2 n3=> ?_⟩
 have hu:u∈ids:=by
  cases c' with
  |nil=>exact absurd rfl n1
  |cons a l=>rw[←n2.2.1];exact(h.mi a n2.1).1
 have k1:=k.le (rk ids u) (c'.map (toR ids keys)) (by simpa using n1) (h.up hu n2 hu) (fun e=>by rw[hM2];exact n3 e);rw[List.length_map]at k1 ⊢;refine⟨k1.1,fun e=> ?_⟩;have k2:=k1.2 e;have hr:=ZbX h.si hu;have hr0:=ZdA ids u;refine⟨?_,fun e2=> ?_⟩
 ·have:=Zmw h.si hi hr.1 k2.1;rw[hr.2]at this;exact this
 ·have e3:i=rk ids u:=by rw[←e2,ZiM h.si hi h1]
  have hback:(c'.map (toR ids keys)).map (unR ids keys)=c':=by
   rw[List.map_map]
   conv=>rhs;rw[←List.map_id c']
   exact List.map_congr_left fun a ha=>h.un (Za1 n2 a ha)
  rcases k2.2 e3 with e4|e4
  ·left
   rw[←e4,hback]
  ·right
   have:=h.lex_un (Za1 k.w) (fun a ha=>by
    obtain⟨b,hb,rfl⟩:=List.mem_map.1 ha;exact(h.mq _).2 ⟨b,Za1 n2 b hb,rfl⟩) e4
   rw[hback]at this;exact this
theorem Rk.none {D:List HArc} {ids keys:List Int} {q:List HArc} (h:Rk D ids keys q) {must:Int} {need:Bool} (k:NoWay q must need):NoWay D must need:=by
 intro u c' n1 n2 n3
 have hu:u∈ids:=by
  cases c' with
  |nil=>exact absurd rfl n1
  |cons a l=>rw[←n2.2.1];exact(h.mi a n2.1).1
 exact k (rk ids u) (c'.map (toR ids keys)) (by simpa using n1) (h.up hu n2 hu) (fun e=>by rw[Zhi (f:=toR ids keys) (fun _=>rfl)];exact n3 e)
theorem ZiC {N:Nat} {q:List HArc} (hr:∀a∈q,Zi N a=true) (hs:Z3 q) (mask must:Int) (need:Bool) (ks:Int→Int) (ws:Int→List HArc)
  (hk:∀i:Int,0≤i→i<(N:Int)→ks i=Z7 (ofA mask q) must i (Z1 N q mask i) (Zp N q mask must i) need)
  (hk2:∀i:Int,0≤i→(N:Int)≤i→ks i=0) (hk3:∀i:Int,i<0→ks i=0)
  (hw:∀i:Int,0≤i→i<(N:Int)→ws i=ZB (ofA mask q) must i (Z1 N q mask i) (Zp N q mask must i) (ks i).toNat i need):
  (ZF ks ws N=[]∧NoWay (ofA mask q) must need)∨∃v,0≤v∧v<(N:Int)∧Short (ofA mask q) must need v (ZF ks ws N):=by
 have hloop:∀i:Int,0≤i→i<(N:Int)→LoopD (ofA mask q) must i (Z1 N q mask i) (Zp N q mask must i):=fun i h0 h1=>Zfk hr mask must i h0 h1
 have hso:Z3 (ofA mask q):=hs.filter _
 have hwalk:∀i:Int,0<ks i→(0≤i∧i<(N:Int))∧okW (ofA mask q) i i (ws i) i∧((ws i).length:Int)=ks i∧(need=true→Zj must (ws i)=true)∧∀l,okW (ofA mask q) i i l i→(l.length:Int)=ks i→(need=true→Zj must l=true)→l=ws i∨ZeG (ws i) l:=by
  intro i h0
  have h1:0≤i:=by
   refine Classical.byContradiction fun hc=> ?_
   rw[hk3 i (by omega)]at h0;omega
  have h2:i<(N:Int):=by
   refine Classical.byContradiction fun hc=> ?_
   rw[hk2 i h1 (by omega)]at h0;omega
  have hL:=hloop i h1 h2;have h3:=hk i h1 h2;obtain⟨c,c1,c2,c3,c4⟩:=Zkw hL need (by rw[←h3];exact h0)
  have hsp:=Ze4 hso hL (Zpe hr mask must i h1 h2) (Zl4 hr mask must i h1 h2) (ks i).toNat i need (Int.le_refl _) ⟨c,c2,by omega,c4⟩ (fun l l1 l2 l3=>by
   have:=(ZgV hL need l1 l2 l3).2;omega)
  rw[←hw i h1 h2]at hsp;exact⟨⟨h1,h2⟩,hsp.1,by have:=hsp.2.1;omega,hsp.2.2.1,fun l l1 l2 l3=>hsp.2.2.2 l l1 (by omega) l3⟩
 have hcl:∀u c',c'≠[]→okW (ofA mask q) u u c' u→(need=true→Zj must c'=true)→0≤u∧u<(N:Int)∧0<ks u∧ks u≤(c'.length:Int):=by
  intro u c' n1 n2 n3
  have hu:0≤u∧u<(N:Int):=by
   cases c' with
   |nil=>exact absurd rfl n1
   |cons a l=>
    have:=(ZC _ _).1 (hr a (mem_ofA.1 n2.1).1);rw[←n2.2.1];exact⟨this.1,this.2.1⟩
  have:=ZgV (hloop u hu.1 hu.2) need n1 n2 n3;rw[←hk u hu.1 hu.2]at this;exact⟨hu.1,hu.2,this.1,this.2⟩
 rcases ZiD ks ws (fun i h0=>(hwalk i h0).2.2.1) N with ⟨e,h⟩|⟨i,hi,h0,e,h1,h2⟩
 ·refine .inl ⟨e,fun u c' n1 n2 n3=> ?_⟩;have:=hcl u c' n1 n2 n3;obtain⟨n,rfl⟩:∃n:Nat,u=(n:Int):=⟨u.toNat,by omega⟩;exact h n (by omega) this.2.2.1
 ·obtain⟨k1,k2,k3,k4,k5⟩:=hwalk (i:Int) h0;refine .inr ⟨(i:Int),by omega,by omega,?_⟩;rw[e];refine⟨fun e=>by rw[e]at k3;simp at k3;omega,k2,k4,fun u c' n1 n2 n3=> ?_⟩;obtain⟨u1,u2,u3,u4⟩:=hcl u c' n1 n2 n3;obtain⟨n,rfl⟩:∃n:Nat,u=(n:Int):=⟨u.toNat,by omega⟩;have h3:=h1 n (by omega) u3;refine⟨by omega,fun hl=>⟨?_,fun hv=> ?_⟩⟩
  ·refine Classical.byContradiction fun hc=> ?_
   exact h2 n (by omega) ⟨u3,by omega⟩
  ·have hv2:i=n:=by omega
   subst hv2;exact k5 c' n2 (by omega) n3
theorem Short.more {D D':List HArc} {must:Int} {need:Bool} {v u:Int} {c d:List HArc} (h:Short D must need v c) (hD:∀a∈D,a∈D') (k:Short D' must need u d):d.length≤c.length:=
 (k.le v c h.ne (ZdZ hD (Int.le_refl _) h.w) h.m).1
theorem ZhT {p p':List HArc} {least:Int}:∀{l:List HArc} {u v:Int},okW p least u l v→(∀a∈l,a∈p')→okW p' least u l v
 |[],u,v,h,_=>h
 |a::l,u,v,h,hp=>⟨hp a List.mem_cons_self,h.2.1,h.2.2.1,ZhT h.2.2.2 (fun x hx=>hp x (List.mem_cons_of_mem _ hx))⟩
theorem Short.less {D D':List HArc} {must:Int} {need:Bool} {v:Int} {c:List HArc} (h:Short D must need v c) (hD:∀a∈D',a∈D) (hc:∀a∈c,a∈D'):Short D' must need v c:=
 ⟨h.ne,ZhT h.w hc,h.m,fun u c' n1 n2 n3=>h.le u c' n1 (ZdZ hD (Int.le_refl _) n2) n3⟩
theorem Short.must {D:List HArc} {must must':Int} {need:Bool} {v:Int} {c:List HArc} (h:Short D must need v c) (hm:∀a∈D,isM must a=isM must' a):Short D must' need v c:=by
 have hh:∀l:List HArc,(∀a∈l,a∈D)→Zj must l=Zj must' l:=by
  intro l hl;unfold Zj
  induction l with
  |nil=>rfl
  |cons a l ih=>rw[List.any_cons,List.any_cons,hm a (hl a List.mem_cons_self),ih (fun x hx=>hl x (List.mem_cons_of_mem _ hx))]
 exact⟨h.ne,h.w,fun e=>by rw[←hh c (Za1 h.w)];exact h.m e,fun u c' n1 n2 n3=>h.le u c' n1 n2 (fun e=>by rw[hh c' (Za1 n2)];exact n3 e)⟩
theorem NoWay.must {D:List HArc} {must must':Int} {need:Bool} (h:NoWay D must need) (hm:∀a∈D,isM must a=isM must' a):NoWay D must' need:=by
 have hh:∀l:List HArc,(∀a∈l,a∈D)→Zj must l=Zj must' l:=by
  intro l hl;unfold Zj
  induction l with
  |nil=>rfl
  |cons a l ih=>rw[List.any_cons,List.any_cons,hm a (hl a List.mem_cons_self),ih (fun x hx=>hl x (List.mem_cons_of_mem _ hx))]
 exact fun u c' n1 n2 n3=>h u c' n1 n2 (fun e=>by rw[hh c' (Za1 n2)];exact n3 e)
end
/- Closed walks,plain:the document's search tells the same. -/
section
open Go.RowKit
def ZU (mask k:Int):Bool:=decide (1≤k)&&(decide (k≤3)&&Zf mask k)
def Edge.arc (e:Edge):HArc:=⟨e.f,e.t,e.k,e.key⟩
def HArc.edge (a:HArc):Edge:=⟨a.f,a.t,a.kind,a.label⟩
theorem Zfx (e:Edge):e.arc.edge=e:=rfl
theorem Zqn (a:HArc):a.edge.arc=a:=rfl
def ZhD (must:Int) (pa pn:List Int) (b:List Int) (e:Edge):List Int:=
 if decide (e.t∈pn)=true then ZO e.f (if (decide (e.t∈pa)&&ZU must e.k)=true then ZO e.f b else b) else (if (decide (e.t∈pa)&&ZU must e.k)=true then ZO e.f b else b)
def ZhE (pa:List Int) (a:List Int) (e:Edge):List Int:=if decide (e.t∈pa)=true then ZO e.f a else a
def Zc3 (must:Int) (pa pn:List Int):List Int→List Int→List Edge→List Int×List Int
 |a,b,[]=>(a,b)
 |a,b,e::l=>Zc3 must pa pn (ZhE pa a e) (ZhD must pa pn b e) l
def Z5 (must:Int) (l:List Edge) (tgt:Int):Nat→List Int×List Int
 |0=>([tgt],[])
 |n+1=>Zc3 must (Z5 must l tgt n).1 (Z5 must l tgt n).2 [] [] l
theorem Zox (pa a:List Int) (e:Edge) (u:Int):u∈ZhE pa a e↔u∈a∨(e.t∈pa∧u=e.f):=by
 unfold ZhE
 split
 ·rename_i h
  have h:=of_decide_eq_true h;rw[ZaD]
  constructor
  ·rintro(e|e)
   ·exact .inr ⟨h,e⟩
   ·exact .inl e
  ·rintro(e|⟨_,e⟩)
   ·exact .inr e
   ·exact .inl e
 ·rename_i h
  have h:¬e.t∈pa:=fun e=>h (decide_eq_true e)
  exact⟨.inl,fun e=>e.elim id fun e=>absurd e.1 h⟩
theorem Zow (must:Int) (pa pn b:List Int) (e:Edge) (u:Int):u∈ZhD must pa pn b e↔u∈b∨(u=e.f∧((e.t∈pa∧ZU must e.k=true)∨e.t∈pn)):=by
 have h1:∀x:List Int,(u∈(if (decide (e.t∈pa)&&ZU must e.k)=true then ZO e.f x else x))↔u∈x∨(u=e.f∧(e.t∈pa∧ZU must e.k=true)):=by
  intro x
  split
  ·rename_i h
   rw[Bool.and_eq_true,decide_eq_true_eq]at h;rw[ZaD]
   constructor
   ·rintro(e|e)
    ·exact .inr ⟨e,h⟩
    ·exact .inl e
   ·rintro(e|⟨e,_⟩)
    ·exact .inr e
    ·exact .inl e
  ·rename_i h
   rw[Bool.and_eq_true,decide_eq_true_eq]at h;exact⟨.inl,fun e=>e.elim id fun e=>absurd e.2 h⟩
 unfold ZhD
 split
 ·rename_i h
  have h:=of_decide_eq_true h;rw[ZaD,h1]
  constructor
  ·rintro(e|e|e)
   ·exact .inr ⟨e,.inr h⟩
   ·exact .inl e
   ·exact .inr ⟨e.1,.inl e.2⟩
  ·rintro(e|⟨e,k|k⟩)
   ·exact .inr (.inl e)
   ·exact .inl e
   ·exact .inl e
 ·rename_i h
  have h:¬e.t∈pn:=fun e=>h (decide_eq_true e)
  rw[h1]
  constructor
  ·rintro(e|e)
   ·exact .inl e
   ·exact .inr ⟨e.1,.inl e.2⟩
  ·rintro(e|⟨e,k|k⟩)
   ·exact .inl e
   ·exact .inr ⟨e,k⟩
   ·exact absurd k h
theorem Zh2 (must:Int) (pa pn:List Int) (u:Int):∀(l:List Edge) (a b:List Int),u∈(Zc3 must pa pn a b l).1↔u∈a∨∃e∈l,e.t∈pa∧u=e.f
 |[],a,b=>by simp[Zc3]
 |e::l,a,b=>by
  show u∈(Zc3 must pa pn (ZhE pa a e) (ZhD must pa pn b e) l).1↔_
  rw[Zh2 must pa pn u l,Zox]
  constructor
  ·rintro((h|h)|⟨x,hx,h⟩)
   ·exact .inl h
   ·exact .inr ⟨e,List.mem_cons_self,h⟩
   ·exact .inr ⟨x,List.mem_cons_of_mem _ hx,h⟩
  ·rintro(h|⟨x,hx,h⟩)
   ·exact .inl (.inl h)
   ·rcases List.mem_cons.1 hx with rfl|hx
    ·exact .inl (.inr h)
    ·exact .inr ⟨x,hx,h⟩
theorem Zh1 (must:Int) (pa pn:List Int) (u:Int):∀(l:List Edge) (a b:List Int),u∈(Zc3 must pa pn a b l).2↔u∈b∨∃e∈l,u=e.f∧((e.t∈pa∧ZU must e.k=true)∨e.t∈pn)
 |[],a,b=>by simp[Zc3]
 |e::l,a,b=>by
  show u∈(Zc3 must pa pn (ZhE pa a e) (ZhD must pa pn b e) l).2↔_
  rw[Zh1 must pa pn u l,Zow]
  constructor
  ·rintro((h|h)|⟨x,hx,h⟩)
   ·exact .inl h
   ·exact .inr ⟨e,List.mem_cons_self,h⟩
   ·exact .inr ⟨x,List.mem_cons_of_mem _ hx,h⟩
  ·rintro(h|⟨x,hx,h⟩)
   ·exact .inl (.inl h)
   ·rcases List.mem_cons.1 hx with rfl|hx
    ·exact .inl (.inr h)
    ·exact .inr ⟨x,hx,h⟩
section
variable {l:List Edge} {must lo:Int}
theorem ZcF (hlo:∀e∈l,lo≤e.f) (tgt:Int):∀(n:Nat) (u:Int),u∈(Z5 must l tgt n).1↔∃c,okW (l.map Edge.arc) lo u c tgt∧c.length=n
 |0,u=>by
  show u∈[tgt]↔_
  rw[List.mem_singleton]
  constructor
  ·intro e;exact⟨[],e,rfl⟩
  ·rintro⟨c,h,hl⟩;have:c=[]:=List.eq_nil_of_length_eq_zero hl;subst this;exact h
 |n+1,u=>by
  show u∈(Zc3 must (Z5 must l tgt n).1 (Z5 must l tgt n).2 [] [] l).1↔_
  rw[Zh2]
  constructor
  ·rintro(h|⟨e,he,h1,h2⟩)
   ·cases h
   ·obtain⟨c,k1,k2⟩:=(ZcF hlo tgt n e.t).1 h1;exact⟨e.arc::c,⟨List.mem_map.2 ⟨e,he,rfl⟩,h2.symm,by rw[h2];exact hlo e he,k1⟩,by simp[k2]⟩
  ·rintro⟨c,k1,k2⟩
   cases c with
   |nil=>simp at k2
   |cons a c=>
    obtain⟨ha,haf,_,k1⟩:=k1;obtain⟨e,he,rfl⟩:=List.mem_map.1 ha;exact .inr ⟨e,he,(ZcF hlo tgt n e.t).2 ⟨c,k1,by simpa using k2⟩,haf.symm⟩
theorem Zfv {e:Edge} (h1:1≤e.k) (h2:e.k≤3):ZU must e.k=isM must e.arc:=by
 unfold ZU isM;rw[decide_eq_true h1,decide_eq_true h2];rfl
theorem Zem (hlo:∀e∈l,lo≤e.f) (hk:∀e∈l,1≤e.k∧e.k≤3) (tgt:Int):∀(n:Nat) (u:Int),u∈(Z5 must l tgt n).2↔∃c,okW (l.map Edge.arc) lo u c tgt∧c.length=n∧Zj must c=true
 |0,u=>by
  show u∈[]↔_
  constructor
  ·intro e
   cases e
  ·rintro⟨c,h,hl,hm⟩;have:c=[]:=List.eq_nil_of_length_eq_zero hl;subst this
   cases hm
 |n+1,u=>by
  show u∈(Zc3 must (Z5 must l tgt n).1 (Z5 must l tgt n).2 [] [] l).2↔_
  rw[Zh1]
  constructor
  ·rintro(h|⟨e,he,h2,⟨h1,h3⟩|h1⟩)
   ·cases h
   ·obtain⟨c,k1,k2⟩:=(ZcF hlo tgt n e.t).1 h1;rw[Zfv (hk e he).1 (hk e he).2]at h3;exact⟨e.arc::c,⟨List.mem_map.2 ⟨e,he,rfl⟩,h2.symm,by rw[h2];exact hlo e he,k1⟩,by simp[k2],by rw[Zbc,h3];rfl⟩
   ·obtain⟨c,k1,k2,k3⟩:=(Zem hlo hk tgt n e.t).1 h1;exact⟨e.arc::c,⟨List.mem_map.2 ⟨e,he,rfl⟩,h2.symm,by rw[h2];exact hlo e he,k1⟩,by simp[k2],by rw[Zbc,k3];simp⟩
  ·rintro⟨c,k1,k2,k3⟩
   cases c with
   |nil=>simp at k2
   |cons a c=>
    obtain⟨ha,haf,_,k1⟩:=k1;obtain⟨e,he,rfl⟩:=List.mem_map.1 ha;refine .inr ⟨e,he,haf.symm,?_⟩;rw[Zbc,Bool.or_eq_true]at k3;rcases k3 with k3|k3
    ·exact .inl ⟨(ZcF hlo tgt n e.t).2 ⟨c,k1,by simpa using k2⟩,by rw[Zfv (hk e he).1 (hk e he).2];exact k3⟩
    ·exact .inr ((Zem hlo hk tgt n e.t).2 ⟨c,k1,by simpa using k2,k3⟩)
end
def isR (must:Int) (pa pn:List Int) (here:Int) (need:Bool) (e:Edge):Bool:=
 e.f==here&&(if (need&& !ZU must e.k)=true then decide (e.t∈pn) else decide (e.t∈pa))
def Zbd (must:Int) (l:List Edge) (rows:Nat→List Int×List Int):Nat→Int→Bool→List Edge
 |0,_,_=>[]
 |n+1,here,need=>match l.find? (isR must (rows n).1 (rows n).2 here need)with
  |some e=>e::Zbd must l rows n e.t (need&& !ZU must e.k)
  |none=>Zbd must l rows n here need
theorem Zd2 (a b:Edge):ltE a b=ZaV a.arc b.arc:=by
 unfold ltE ZaV Edge.arc;simp only[ne_eq]
 by_cases h1:a.f=b.f
 ·rw[if_neg (by simpa using h1),if_pos h1]
  by_cases h2:a.k=b.k
  ·rw[if_neg (by simpa using h2),if_pos h2]
   by_cases h3:a.key=b.key
   ·rw[if_neg (by simpa using h3),if_pos h3]
   ·rw[if_pos h3,if_neg h3]
  ·rw[if_pos h2,if_neg h2]
 ·rw[if_pos h1,if_neg h1]
theorem ZgN {l:List Edge} {must lo:Int} (hs:l.Pairwise fun a b=>ltE a b=true) (hlo:∀e∈l,lo≤e.f) (hk:∀e∈l,1≤e.k∧e.k≤3) (tgt:Int):
  ∀(n:Nat) (here:Int) (need:Bool),(∃c,okW (l.map Edge.arc) lo here c tgt∧c.length=n∧(need=true→Zj must c=true))→
   okW (l.map Edge.arc) lo here ((Zbd must l (Z5 must l tgt) n here need).map Edge.arc) tgt∧(Zbd must l (Z5 must l tgt) n here need).length=n∧(need=true→Zj must ((Zbd must l (Z5 must l tgt) n here need).map Edge.arc)=true)∧
    ∀c,okW (l.map Edge.arc) lo here c tgt→c.length=n→(need=true→Zj must c=true)→c=(Zbd must l (Z5 must l tgt) n here need).map Edge.arc∨ZeG ((Zbd must l (Z5 must l tgt) n here need).map Edge.arc) c
 |0,here,need,⟨c,k1,k2,k3⟩=>by
  have:c=[]:=List.eq_nil_of_length_eq_zero k2;subst this;exact⟨k1,rfl,k3,fun l _ h2 _=> .inl (List.eq_nil_of_length_eq_zero h2)⟩
 |n+1,here,need,⟨c,k1,k2,k3⟩=>by
  have tailM:∀(e:Edge) (l:List HArc),(need=true→(isM must e.arc||Zj must l)=true)→((need&& !isM must e.arc)=true→Zj must l=true):=by
   intro e l hm hn;rw[Bool.and_eq_true]at hn;have h1:=hm hn.1;have h2:isM must e.arc=false:=by simpa using hn.2
   rw[h2,Bool.false_or]at h1;exact h1
  have headM:∀(e:Edge) (l:List HArc),((need&& !isM must e.arc)=true→Zj must l=true)→(need=true→(isM must e.arc||Zj must l)=true):=by
   intro e l hm hn
   by_cases h:isM must e.arc=true
   ·rw[h];rfl
   ·have e2:isM must e.arc=false:=by simpa using h
    rw[hm (by rw[hn,e2];rfl)];simp
  have good:∀(e:Edge),e∈l→(isR must (Z5 must l tgt n).1 (Z5 must l tgt n).2 here need e=true↔e.f=here∧∃m,okW (l.map Edge.arc) lo e.t m tgt∧m.length=n∧(need=true→(isM must e.arc||Zj must m)=true)):=by
   intro e he;unfold isR;rw[Bool.and_eq_true,beq_iff_eq,Zfv (hk e he).1 (hk e he).2];refine and_congr_right fun _=> ?_
   split
   ·rename_i hn
    rw[decide_eq_true_eq,Zem hlo hk]
    constructor
    ·rintro⟨m,m1,m2,m3⟩;exact⟨m,m1,m2,fun _=>by rw[m3];simp⟩
    ·rintro⟨m,m1,m2,m3⟩;exact⟨m,m1,m2,tailM e m m3 hn⟩
   ·rename_i hn
    rw[decide_eq_true_eq,ZcF hlo]
    constructor
    ·rintro⟨m,m1,m2⟩;refine⟨m,m1,m2,fun e2=> ?_⟩;rw[e2,Bool.true_and]at hn;have:isM must e.arc=true:=by simpa using hn
     rw[this];rfl
    ·rintro⟨m,m1,m2,_⟩;exact⟨m,m1,m2⟩
  cases c with
  |nil=>simp at k2
  |cons a0 c0=>
   obtain⟨ha0,haf0,_,k1⟩:=k1;obtain⟨e0,he0,rfl⟩:=List.mem_map.1 ha0;have g0:=(good e0 he0).2 ⟨haf0,c0,k1,by simpa using k2,k3⟩
   obtain⟨e,hfe⟩:∃e,l.find? (isR must (Z5 must l tgt n).1 (Z5 must l tgt n).2 here need)=some e:=by
    rw[←Option.isSome_iff_exists,List.find?_isSome];exact⟨e0,he0,g0⟩
   have hme:=List.mem_of_find?_eq_some hfe;obtain⟨hef,m,m1,m2,m3⟩:=(good e hme).1 (List.find?_some hfe)
   have hfr:Zbd must l (Z5 must l tgt) (n+1) here need=e::Zbd must l (Z5 must l tgt) n e.t (need&& !ZU must e.k):=by
    show(match l.find? (isR must (Z5 must l tgt n).1 (Z5 must l tgt n).2 here need)with|some e=>e::Zbd must l (Z5 must l tgt) n e.t (need&& !ZU must e.k)|none=>Zbd must l (Z5 must l tgt) n here need)=_
    rw[hfe]
   rw[Zfv (hk e hme).1 (hk e hme).2]at hfr;have ih:=ZgN hs hlo hk tgt n e.t (need&& !isM must e.arc) ⟨m,m1,m2,tailM e m m3⟩;rw[hfr,List.map_cons];refine⟨⟨List.mem_map.2 ⟨e,hme,rfl⟩,hef,by rw[←hef];exact hlo e hme,ih.1⟩,by simp[ih.2.1],fun hn=>by rw[Zbc];exact headM e _ ih.2.2.1 hn,fun c hw hl hm=> ?_⟩
   cases c with
   |nil=>simp at hl
   |cons b c=>
    obtain⟨hb,hbf,_,hw⟩:=hw;obtain⟨x,hx,rfl⟩:=List.mem_map.1 hb
    by_cases hxe:x=e
    ·subst hxe;rcases ih.2.2.2 c hw (by simpa using hl) (tailM x c hm)with h|h
     ·exact .inl (by rw[h])
     ·exact .inr (.inr ⟨rfl,h⟩)
    ·refine .inr (.inl ?_);have gx:=(good x hx).2 ⟨hbf,c,hw,by simpa using hl,hm⟩;obtain⟨l8,l9,h1,h2⟩:=(List.find?_eq_some_iff_append.1 hfe).2;rw[h1]at hx hs;rw[←Zd2];rcases List.mem_append.1 hx with hx|hx
     ·have:=h2 x hx;rw[gx]at this
      cases this
     ·rcases List.mem_cons.1 hx with hx|hx
      ·exact absurd hx hxe
      ·exact(List.pairwise_cons.1 (List.pairwise_append.1 hs).2.1).1 x hx
def inR (hit:Nat→Bool) (most:Nat) (id:Int):Nat→Nat→Nat×Int→Nat×Int
 |0,_,s=>s
 |g+1,i,s=>if (decide (i≤most)&&(s.1==0||decide (i<s.1)))=true then inR hit most id g (i+1) (if hit i=true then (i,id) else s) else s
def ZdF (hit:Int→Nat→Bool) (most:Nat):List Int→Nat×Int→Nat×Int
 |[],s=>s
 |id::l,s=>ZdF hit most l (inR (hit id) most id most 1 s)
theorem Zqa {hit:Nat→Bool} {most:Nat} {id:Int}:∀(g i:Nat) (s:Nat×Int),s.1≠0→s.1≤i→inR hit most id g i s=s
 |0,_,_,_,_=>rfl
 |g+1,i,s,h1,h2=>by
  unfold inR;rw[if_neg];rw[Bool.and_eq_true,Bool.or_eq_true,beq_iff_eq,decide_eq_true_eq,decide_eq_true_eq];omega
theorem Zld {hit:Nat→Bool} {most:Nat} {id:Int}:∀(g i:Nat) (s:Nat×Int),1≤i→g+i=most+1→
  (inR hit most id g i s=s∧∀j,i≤j→j≤most→(s.1=0∨j<s.1)→hit j=false)∨
   (∃k,i≤k∧k≤most∧(s.1=0∨k<s.1)∧hit k=true∧inR hit most id g i s=(k,id)∧∀j,i≤j→j<k→hit j=false)
 |0,i,s,_,hg=> .inl ⟨rfl,fun j h1 h2 _=>by omega⟩
 |g+1,i,s,hi,hg=>by
  unfold inR
  by_cases hc:(decide (i≤most)&&(s.1==0||decide (i<s.1)))=true
  ·rw[if_pos hc];rw[Bool.and_eq_true,Bool.or_eq_true,beq_iff_eq,decide_eq_true_eq,decide_eq_true_eq]at hc
   by_cases hh:hit i=true
   ·rw[if_pos hh];exact .inr ⟨i,Nat.le_refl _,hc.1,hc.2,hh,Zqa g (i+1) (i,id) (by show i≠0;omega) (by show i≤i+1;omega),fun j h1 h2=>by omega⟩
   ·rw[if_neg hh];have hf:hit i=false:=by simpa using hh
    rcases Zld (hit:=hit) (most:=most) (id:=id) g (i+1) s (by omega) (by omega)with ⟨e,h⟩|⟨k,k1,k2,k3,k4,k5,k6⟩
    ·refine .inl ⟨e,fun j h1 h2 h3=> ?_⟩;rcases Nat.eq_or_lt_of_le h1 with e1|e1
     ·rw[←e1];exact hf
     ·exact h j e1 h2 h3
    ·refine .inr ⟨k,by omega,k2,k3,k4,k5,fun j h1 h2=> ?_⟩;rcases Nat.eq_or_lt_of_le h1 with e1|e1
     ·rw[←e1];exact hf
     ·exact k6 j e1 h2
  ·rw[if_neg hc];rw[Bool.and_eq_true,Bool.or_eq_true,beq_iff_eq,decide_eq_true_eq,decide_eq_true_eq]at hc;refine .inl ⟨rfl,fun j h1 h2 h3=> ?_⟩
   exfalso
   apply hc
   omega
def ZiG (hit:Int→Nat→Bool) (most:Nat) (ids:List Int) (s:Nat×Int):Prop:=
 (s.1=0∧∀x∈ids,∀j,1≤j→j≤most→hit x j=false)∨
  (1≤s.1∧s.1≤most∧s.2∈ids∧hit s.2 s.1=true∧∀x∈ids,∀j,1≤j→j≤most→hit x j=true→s.1≤j∧(x<s.2→s.1<j))
theorem Zfg {hit:Int→Nat→Bool} {most:Nat}:∀(l ids:List Int) (s:Nat×Int),(ids++l).Pairwise (·<·)→ZiG hit most ids s→ZiG hit most (ids++l) (ZdF hit most l s)
 |[],ids,s,_,h=>by rw[List.append_nil];exact h
 |x::l,ids,s,hp,h=>by
  have hlt:∀y∈ids,y<x:=fun y hy=>(List.pairwise_append.1 hp).2.2 y hy x List.mem_cons_self
  have key:ZiG hit most (ids++[x]) (inR (hit x) most x most 1 s):=by
   rcases Zld (hit:=hit x) (id:=x) most 1 s (Nat.le_refl _) rfl with ⟨e,k⟩|⟨k,k1,k2,k3,k4,k5,k6⟩
   ·rw[e];rcases h with ⟨h1,h2⟩|⟨h1,h2,h3,h4,h5⟩
    ·refine .inl ⟨h1,fun y hy j j1 j2=> ?_⟩;rcases List.mem_append.1 hy with hy|hy
     ·exact h2 y hy j j1 j2
     ·rw[List.mem_singleton]at hy;subst hy;exact k j j1 j2 (.inl h1)
    ·refine .inr ⟨h1,h2,List.mem_append_left _ h3,h4,fun y hy j j1 j2 hh=> ?_⟩;rcases List.mem_append.1 hy with hy|hy
     ·exact h5 y hy j j1 j2 hh
     ·rw[List.mem_singleton]at hy;subst hy;have hsx:=hlt _ h3;refine⟨?_,fun e2=>by omega⟩;refine Classical.byContradiction fun hc=> ?_
      rw[k j j1 j2 (.inr (by omega))]at hh
      cases hh
   ·rw[k5];refine .inr ⟨k1,k2,List.mem_append_right _ (List.mem_singleton.2 rfl),k4,fun y hy j j1 j2 hh=> ?_⟩;rcases List.mem_append.1 hy with hy|hy
    ·rcases h with ⟨h1,h2⟩|⟨h1,h2,h3,h4,h5⟩
     ·rw[h2 y hy j j1 j2]at hh
      cases hh
     ·have:=(h5 y hy j j1 j2 hh).1
      show k≤j∧(y<x→k<j)
      omega
    ·rw[List.mem_singleton]at hy;subst hy
     show k≤j∧(y<y→k<j)
     refine⟨?_,fun e2=>by omega⟩;refine Classical.byContradiction fun hc=> ?_
     rw[k6 j j1 (by omega)]at hh
     cases hh
  show ZiG hit most (ids++x::l) (ZdF hit most l (inR (hit x) most x most 1 s))
  rw[show ids++x::l=(ids++[x])++l by simp];exact Zfg l (ids++[x]) _ (by rw[show(ids++[x])++l=ids++x::l by simp];exact hp) key
def Zd3 (must:Int) (need:Bool) (l:List Edge) (id:Int) (i:Nat):Bool:=
 if need=true then decide (id∈(Z5 must l id i).2) else decide (id∈(Z5 must l id i).1)
theorem Zhh {l:List Edge} {must lo:Int} (hlo:∀e∈l,lo≤e.f) (hk:∀e∈l,1≤e.k∧e.k≤3) (need:Bool) (id:Int) (i:Nat):
  Zd3 must need l id i=true↔∃c,okW (l.map Edge.arc) lo id c id∧c.length=i∧(need=true→Zj must c=true):=by
 unfold Zd3
 split
 ·rename_i h
  rw[decide_eq_true_eq,Zem hlo hk];exact⟨fun⟨c,a,b,d⟩=>⟨c,a,b,fun _=>d⟩,fun⟨c,a,b,d⟩=>⟨c,a,b,d h⟩⟩
 ·rename_i h
  rw[decide_eq_true_eq,ZcF hlo];exact⟨fun⟨c,a,b⟩=>⟨c,a,b,fun e=>absurd e h⟩,fun⟨c,a,b,_⟩=>⟨c,a,b⟩⟩
theorem Zb1 {p:List HArc} {must least u:Int} {c:List HArc} (h:okW p least u c u) (hc:c≠[]):∃v c',c'≠[]∧okW p v v c' v∧c'.length=c.length∧Zj must c'=Zj must c∧v≤u∧∀b∈c,v≤b.f:=by
 obtain⟨a,ha,hmin⟩:=ZfX hc
 have hu:a.f≤u:=by
  cases c with
  |nil=>exact absurd rfl hc
  |cons b l=>rw[←h.2.1];exact hmin b List.mem_cons_self
 obtain⟨l1,l2,e,h1,h2⟩:=Zg1 h ha;subst e;refine⟨a.f,(a::l2)++l1,by simp,?_,by simp only[List.length_append,List.length_cons];omega,by rw[ZbJ,ZbJ,Bool.or_comm],hu,hmin⟩;refine Zdm (ZdG h2 h1) fun b hb=>hmin b ?_
 rcases List.mem_append.1 hb with hb|hb
 ·exact List.mem_append_right _ hb
 ·exact List.mem_append_left _ hb
theorem ZfO:∀{l m:List Int},l.Pairwise (·≠·)→(∀x∈l,x∈m)→l.length≤m.length
 |[],m,_,_=>by simp
 |a::l,m,h,hm=>by
  rw[List.pairwise_cons]at h;have ha:=hm a List.mem_cons_self;have ih:=ZfO (l:=l) (m:=m.erase a) h.2 (fun x hx=>(List.mem_erase_of_ne (fun e=>h.1 x hx e.symm)).2 (hm x (List.mem_cons_of_mem _ hx)));rw[List.length_erase_of_mem ha]at ih;have:=List.length_pos_of_mem ha;simp only[List.length_cons];omega
theorem Zm4 {l:List Edge} {must lo:Int} {need:Bool} {ids:List Int} (hlo:∀e∈l,lo≤e.f) (hk:∀e∈l,1≤e.k∧e.k≤3) (hp:ids.Pairwise (·<·)) (most:Nat) (h:NoWay (l.map Edge.arc) must need):(ZdF (Zd3 must need l) most ids (0,0)).1=0:=by
 have hF:=Zfg (hit:=Zd3 must need l) (most:=most) ids [] (0,0) hp (.inl ⟨rfl,fun x hx=>by cases hx⟩);rw[List.nil_append]at hF;rcases hF with h1|⟨h1,h2,h3,h4,h5⟩
 ·exact h1.1
 ·exfalso
  obtain⟨c,c1,c2,c3⟩:=(Zhh hlo hk need _ _).1 h4;have hc:c≠[]:=fun e=>by rw[e]at c2;simp at c2;omega
  obtain⟨v,c',k1,k2,k3,k4,_⟩:=Zb1 (must:=must) c1 hc;exact h v c' k1 k2 (fun e=>by rw[k4];exact c3 e)
theorem ZlR {l:List Edge} {must lo:Int} {need:Bool} {ids:List Int} (hs:l.Pairwise fun a b=>ltE a b=true) (hlo:∀e∈l,lo≤e.f) (hk:∀e∈l,1≤e.k∧e.k≤3) (hp:ids.Pairwise (·<·)) (hids:∀e∈l,e.f∈ids)
  {most:Nat} (hmost:ids.length≤most) {v:Int} {c:List HArc} (h:Short (l.map Edge.arc) must need v c):
  ZdF (Zd3 must need l) most ids (0,0)=(c.length,v)∧(Zbd must l (Z5 must l v) c.length v need).map Edge.arc=c:=by
 have hmem:∀a∈c,a.f∈ids:=fun a ha=>by
  obtain⟨e,he,rfl⟩:=List.mem_map.1 (Za1 h.w a ha);exact hids e he
 have hlv:lo≤v:=by
  have hw:=h.w
  cases c with
  |nil=>exact absurd rfl h.ne
  |cons a c=>
   obtain⟨e,he,e2⟩:=List.mem_map.1 hw.1;rw[←hw.2.1,←e2];exact hlo e he
 have hvi:v∈ids:=by
  have hw:=h.w
  cases hc:c with
  |nil=>exact absurd hc h.ne
  |cons a d=>
   rw[hc]at hw;rw[←hw.2.1];exact hmem a (by rw[hc];exact List.mem_cons_self)
 have hcl:c.length≤ids.length:=by
  have:=ZfO (l:=c.map HArc.f) (m:=ids) (List.pairwise_map.2 h.simple) (fun x hx=>by
   obtain⟨a,ha,rfl⟩:=List.mem_map.1 hx;exact hmem a ha)
  rwa [List.length_map]at this
 have hc1:1≤c.length:=by
  cases hc:c with
  |nil=>exact absurd hc h.ne
  |cons a d=>simp
 have hwlo:okW (l.map Edge.arc) lo v c v:=ZdZ (fun _=>id) hlv h.w;have hhit:Zd3 must need l v c.length=true:=(Zhh hlo hk need v c.length).2 ⟨c,hwlo,rfl,h.m⟩;have hF:=Zfg (hit:=Zd3 must need l) (most:=most) ids [] (0,0) hp (.inl ⟨rfl,fun x hx=>by cases hx⟩);rw[List.nil_append]at hF
 constructor
 ·rcases hF with ⟨h1,h2⟩|⟨h1,h2,h3,h4,h5⟩
  ·rw[h2 v hvi c.length hc1 (by omega)]at hhit
   cases hhit
  ·have h6:=h5 v hvi c.length hc1 (by omega) hhit;obtain⟨d,d1,d2,d3⟩:=(Zhh hlo hk need _ _).1 h4;have hd:d≠[]:=fun e=>by rw[e]at d2;simp at d2;omega
   obtain⟨u,c',k1,k2,k3,k4,k5,_⟩:=Zb1 (must:=must) d1 hd;have h7:=h.le u c' k1 k2 (fun e=>by rw[k4];exact d3 e);have h8:c.length=(ZdF (Zd3 must need l) most ids (0,0)).1:=by omega
   have h9:=(h7.2 (by omega)).1;have h10:¬v<(ZdF (Zd3 must need l) most ids (0,0)).2:=fun e=>by have:=h6.2 e;omega
   have h11:v=(ZdF (Zd3 must need l) most ids (0,0)).2:=by omega
   rw[h8,h11]
 ·obtain⟨r1,r2,r3,r4⟩:=ZgN hs hlo hk v c.length v need ⟨c,hwlo,rfl,h.m⟩;obtain⟨r,hr⟩:∃r,(Zbd must l (Z5 must l v) c.length v need).map Edge.arc=r:=⟨_,rfl⟩;rw[hr]at r1 r3 r4 ⊢;have hrl:r.length=c.length:=by rw[←hr,List.length_map];exact r2
  have hrn:r≠[]:=fun e=>by rw[e]at hrl;simp at hrl;omega
  obtain⟨u,c',k1,k2,k3,k4,k5,k6⟩:=Zb1 (must:=must) r1 hrn;have h7:=h.le u c' k1 k2 (fun e=>by rw[k4];exact r3 e);have h9:=(h7.2 (by omega)).1;have hrv:okW (l.map Edge.arc) v v r v:=Zdm r1 (fun b hb=>Int.le_trans h9 (k6 b hb));have h12:=((h.le v r hrn hrv r3).2 hrl.symm).2 rfl;rcases h12 with e|e
  ·exact e
  ·rcases r4 c hwlo rfl h.m with e2|e2
   ·exact e2.symm
   ·exact(Zg7 e e2).elim
end
/- Closed walks,the document's:edges put among others,and those of a mask. -/
section
open Go.RowKit
def Zm (l:List Edge):List Value:=(l.map Edge.cells).flatten
theorem Zbe (l:List Edge):(Zm l).length=l.length*4:=by
 unfold Zm
 induction l with
 |nil=>rfl
 |cons a l ih=>simp only[List.map_cons,List.flatten_cons,List.length_append,List.length_cons,ih];simp[Edge.cells];omega
def Zs0 (w:World) (l:List Edge) (e:Ending) (w':World):Prop:=∃A c,e= .returned (.slice A l.length c)∧w'.ownsRow w.heap.size 26 4 (.slice A l.length c) l.length (Zm l)∧Upd No w w'
def Zfe (a:Edge):List Edge→List Edge
 |[]=>[a]
 |x::l=>if ltE x a=true then x::Zfe a l else a::(x::l).filter (fun y=> !(y==a))
theorem Zql {p:Edge→Bool} {l:List Edge} {k:Nat} {x:Edge} (hk:k<l.length) (hx:l[k]=x) (hr:p x=false):(l.take (k+1)).filter p=(l.take k).filter p:=by
 subst hx;rw[List.take_succ_eq_append_getElem hk,List.filter_append,List.filter_cons_of_neg (by rw[hr];decide)];simp
theorem ZoU {p:Edge→Bool} {l:List Edge} {k:Nat} {x:Edge} (hk:k<l.length) (hx:l[k]=x) (hr:p x=true):(l.take (k+1)).filter p=(l.take k).filter p++[x]:=by
 subst hx;rw[List.take_succ_eq_append_getElem hk,List.filter_append,List.filter_cons_of_pos (by rw[hr])];rfl
theorem Zf6 (a:Edge):∀l:List Edge,(Zfe a l).map Edge.arc=Zcb a.arc (l.map Edge.arc)
 |[]=>rfl
 |x::l=>by
  have hf:∀m:List Edge,(m.filter fun y=> !(y==a)).map Edge.arc=(m.map Edge.arc).filter fun y=> !(y==a.arc):=by
   intro m
   induction m with
   |nil=>rfl
   |cons y m ih=>
    have hb:(y==a)=(y.arc==a.arc):=by
     rw[Bool.eq_iff_iff,beq_iff_eq,beq_iff_eq];exact⟨fun e=>by rw[e],fun e=>by rw[←Zfx y,←Zfx a,e]⟩
    rw[List.map_cons,List.filter_cons,List.filter_cons,hb]
    split
    ·rw[List.map_cons,ih]
    ·exact ih
  show(if ltE x a=true then x::Zfe a l else a::(x::l).filter (fun y=> !(y==a))).map Edge.arc=(if ZaV x.arc a.arc=true then x.arc::Zcb a.arc (l.map Edge.arc) else a.arc::((x::l).map Edge.arc).filter (fun y=> !(y==a.arc)))
  rw[Zd2]
  split
  ·rw[List.map_cons,Zf6 a l]
  ·rw[List.map_cons,hf]
end
/- Closed walks:which edges do not count. -/
section
open Go.RowKit
def ZaP (mask:Int) (e:Edge):Bool:=decide (e.k<1)||(decide (3<e.k)|| !Zf mask e.k)
set_option maxRecDepth 100000 in
set_option maxHeartbeats 4000000 in
theorem Zq5 (w:World) (p:Addr) (mask:Int) (hp:w.cell? p=some (.int .i64 mask)) (e:Edge):
  Calls Tryz.prog 113 #[.agg e.cells.toArray,.pointer (some p)] w fun x w'=>x= .returned (.bool (ZaP mask e))∧Upd No w w':=by
 obtain⟨ef,et,ek,ey⟩:=e;have u0:=(Upd.refl No w).alloc (.cells #[.int .i64 ef,.int .i64 et,.int .i64 ek,.int .i64 ey] 26);have hp1:=u0.keepNo hp;have U0:=Qh u0;unfold Edge.cells;clear u0
 by_cases h1:ek<1
 ·have hv:Hid (ZaP mask ⟨ef,et,ek,ey⟩=true):=Qh (by unfold ZaP;rw[decide_eq_true h1];rfl);have d1:decide (ek<1)=true:=decide_eq_true h1
  go_enter Tryz.func113,Tryz.ntmps113
  go_wp2
  go_ret
  exact⟨by rw[hv.out];rfl,U0.out⟩
 ·have d1:decide (ek<1)=false:=decide_eq_false h1
  by_cases h2:3<ek
  ·have hv:Hid (ZaP mask ⟨ef,et,ek,ey⟩=true):=Qh (by unfold ZaP;rw[d1,decide_eq_true h2];rfl);have d2:decide (3<ek)=true:=decide_eq_true h2
   go_enter Tryz.func113,Tryz.ntmps113
   go_wp2
   go_ret
   exact⟨by rw[hv.out];rfl,U0.out⟩
  ·have hk:ek=1∨ek=2∨ek=3:=by omega
   clear d1 h1 h2;rcases hk with rfl|rfl|rfl
   ·have hv:Hid (ZaP mask ⟨ef,et,1,ey⟩=(bits .and .i64 (mask/2) 1==0)):=Qh (by rw[ZcA];rfl)
    go_enter Tryz.func113,Tryz.ntmps113
    go_wp2
    go_ret
    exact⟨by rw[hv.out];rfl,U0.out⟩
   ·have hv:Hid (ZaP mask ⟨ef,et,2,ey⟩=(bits .and .i64 (mask/4) 1==0)):=Qh (by rw[ZcA];rfl)
    go_enter Tryz.func113,Tryz.ntmps113
    go_wp2
    go_ret
    exact⟨by rw[hv.out];rfl,U0.out⟩
   ·have hv:Hid (ZaP mask ⟨ef,et,3,ey⟩=(bits .and .i64 (mask/8) 1==0)):=Qh (by rw[ZcA];rfl)
    go_enter Tryz.func113,Tryz.ntmps113
    go_wp2
    go_ret
    exact⟨by rw[hv.out];rfl,U0.out⟩
end
/- Phenomena,plain:who is reached by edges,as the document seeks it. -/
section
inductive RchE (l:List Edge):Int→Int→Prop
 |refl (a:Int):RchE l a a
 |step {a b:Int} {e:Edge}:RchE l a b→e∈l→e.f=b→RchE l a e.t
theorem RchE.trans {l:List Edge} {a b c:Int} (h:RchE l a b) (k:RchE l b c):RchE l a c:=by
 induction k with
 |refl=>exact h
 |step _ h2 h3 ih=>exact ih.step h2 h3
end
/- Phenomena,plain:the ids of edges are numbered,and the digraph of the numbers tells the same as the edges. -/
section
def ZH (ids:List Int) (x:Int):List Int:=if x∈ids then ids else ids++[x]
def Zdv (ids:List Int) (e:Edge):HArc:=⟨(Zz ids e.f:Int),(Zz ids e.t:Int),e.k,0⟩
def ZeE:List Int→List HArc→List Edge→List Int×List HArc
 |ids,ac,[]=>(ids,ac)
 |ids,ac,e::l=>ZeE (ZH (ZH ids e.f) e.t) (ac++[⟨(Zz (ZH ids e.f) e.f:Int),(Zz (ZH (ZH ids e.f) e.t) e.t:Int),e.k,0⟩]) l
theorem numE_mem {ids:List Int} {x y:Int}:y∈ZH ids x↔y∈ids∨y=x:=by
 unfold ZH
 split
 ·rename_i h
  exact⟨Or.inl,fun h2=>h2.elim id (fun e=>e▸h)⟩
 ·rw[List.mem_append,List.mem_singleton]
theorem ZhW {ids:List Int} {x:Int} (h:ids.Nodup):(ZH ids x).Nodup:=by
 unfold ZH
 split
 ·exact h
 ·rename_i hx
  exact List.nodup_append.2 ⟨h,by simp,fun y hy z hz=>by rw[List.mem_singleton.1 hz];exact fun e=>hx (e▸hy)⟩
theorem Zfh (ids:List Int) (x:Int):(ZH ids x).length≤ids.length+1:=by
 unfold ZH
 split
 ·omega
 ·simp
theorem ZcX {ids:List Int} {x:Int} (h:x∈ids):Zz ids x<ids.length:=by
 unfold Zz;exact List.findIdx_lt_length_of_exists ⟨x,h,by simp⟩
theorem ZpP {ids:List Int} {x:Int} (h:x∈ids) (l:List Int):Zz (ids++l) x=Zz ids x:=by
 unfold Zz;rw[List.findIdx_append,if_pos (List.findIdx_lt_length_of_exists ⟨x,h,by simp⟩)]
theorem ZgZ {ids:List Int} {x y:Int} (h:x∈ids):Zz (ZH ids y) x=Zz ids x:=by
 unfold ZH
 split
 ·rfl
 ·exact ZpP h _
structure NumOk (ids:List Int) (ac:List HArc) (D:List Edge):Prop where
 nd:ids.Nodup
 arcs:ac=D.map (Zdv ids)
 has:∀e∈D,e.f∈ids∧e.t∈ids
 len:ids.length≤2*D.length
theorem Zmi:∀(l D:List Edge) (ids:List Int) (ac:List HArc),NumOk ids ac D→NumOk (ZeE ids ac l).1 (ZeE ids ac l).2 (D++l)
 |[],D,ids,ac,h=>by rw[List.append_nil];exact h
 |e::l,D,ids,ac,h=>by
  have hf:e.f∈ZH ids e.f:=numE_mem.2 (Or.inr rfl);have ht:e.t∈ZH (ZH ids e.f) e.t:=numE_mem.2 (Or.inr rfl);have hf2:e.f∈ZH (ZH ids e.f) e.t:=numE_mem.2 (Or.inl hf);have hk:∀x,x∈ids→x∈ZH (ZH ids e.f) e.t:=fun x hx=>numE_mem.2 (Or.inl (numE_mem.2 (Or.inl hx)))
  have hp:∀x,x∈ids→Zz (ZH (ZH ids e.f) e.t) x=Zz ids x:=fun x hx=>by rw[ZgZ (numE_mem.2 (Or.inl hx)),ZgZ hx]
  have:=Zmi l (D++[e]) (ZH (ZH ids e.f) e.t) (ac++[⟨(Zz (ZH ids e.f) e.f:Int),(Zz (ZH (ZH ids e.f) e.t) e.t:Int),e.k,0⟩]) ⟨ZhW (ZhW h.nd),?_,?_,?_⟩
  ·rw[List.append_assoc]at this;exact this
  ·rw[List.map_append,h.arcs]
   congr 1
   ·refine List.map_congr_left fun b hb=> ?_
    obtain⟨h1,h2⟩:=h.has b hb;unfold Zdv;rw[hp _ h1,hp _ h2]
   ·show[_]=[Zdv _ e]
    unfold Zdv;rw[ZgZ (y:=e.t) hf]
  ·intro b hb;rcases List.mem_append.1 hb with hb|hb
   ·exact⟨hk _ (h.has b hb).1,hk _ (h.has b hb).2⟩
   ·rw[List.mem_singleton.1 hb];exact⟨hf2,ht⟩
  ·have h1:=Zfh ids e.f;have h2:=Zfh (ZH ids e.f) e.t;have:=h.len;rw[List.length_append,List.length_singleton];omega
theorem Zp6 {N:Nat} {q:List HArc} {a b:HArc}:b∈ZbP N q a↔b∈q∨(b=a∧Zi N a=true):=by
 unfold ZbP
 split
 ·rename_i hr
  split
  ·rename_i hm
   exact⟨Or.inl,fun h=>h.elim id (fun e=>e.1▸hm)⟩
  ·rw[Zbg];exact⟨fun h=>h.elim (fun e=>Or.inr ⟨e,hr⟩) Or.inl,fun h=>h.elim Or.inr (fun e=>Or.inl e.1)⟩
 ·rename_i hr
  exact⟨Or.inl,fun h=>h.elim id (fun e=>absurd e.2 hr)⟩
theorem Zjx {N:Nat} {b:HArc}:∀(l q:List HArc),b∈Zdb N q l↔b∈q∨(b∈l∧Zi N b=true)
 |[],q=>by simp[Zdb]
 |a::l,q=>by
  rw[Zh7,Zjx l,Zp6]
  constructor
  ·rintro((h|⟨rfl,h⟩)|⟨h,k⟩)
   ·exact Or.inl h
   ·exact Or.inr ⟨List.mem_cons_self ..,h⟩
   ·exact Or.inr ⟨List.mem_cons_of_mem _ h,k⟩
  ·rintro(h|⟨h,k⟩)
   ·exact Or.inl (Or.inl h)
   ·rcases List.mem_cons.1 h with rfl|h
    ·exact Or.inl (Or.inr ⟨rfl,k⟩)
    ·exact Or.inr ⟨h,k⟩
section
variable {ids:List Int} {ac:List HArc} {D:List Edge} {q:List HArc} {N:Nat}
def Zpl (ids:List Int) (D:List Edge) (q:List HArc):Prop:=∀a,a∈q↔∃e∈D,Zdv ids e=a
theorem Zmd (h:NumOk ids ac D) (hq:Zb8 N q) (hm:Zpl ids D q) {x y:Int} (hx:x∈ids) (k:RchE D x y):y∈ids∧Rch (nxN q) (Zz ids x) (Zz ids y):=by
 induction k with
 |refl=>exact⟨hx,Rch.refl _⟩
 |step h1 h2 h3 ih=>
  rename_i b e
  refine⟨(h.has e h2).2,ih.2.step ((ZdO hq).2 ⟨Zdv ids e,(hm _).2 ⟨e,h2,rfl⟩,?_,rfl⟩)⟩;rw[←h3];rfl
end
end
end Go.Proofs.YtonblekdfinpkaaGreat
