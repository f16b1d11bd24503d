/- Edges of a history: dsg.counted, called by dsg.Of$1. -/
import Derived.Test.YtblplapkdmhikaaGreatDbbk
namespace Go.Proofs.YtblplapkdmhikaaGreat
set_option linter.unusedVariables false
set_option linter.unusedSimpArgs false
section
open Go.RowKit
set_option maxRecDepth 100000 in
set_option maxHeartbeats 8000000 in
theorem Zlb (F:Nat→Prop) (w:World) (txs:List HTx) (ords:List HOrd) (A:Option Addr) (c:Nat) (B:Option Addr) (d:Nat) (p:Addr)(cnt:Int→Bool) (H:Hist.lies F w ⟨txs,ords,A,c,B,d⟩)
  (hc:Hid (∀W key,Upd No w W→Calls Tryz.prog 146 #[.int .i64 key,.pointer (some p)] W fun e w'=>e= .returned (.bool (cnt key))∧Upd No W w')):
  Calls Tryz.prog 69 #[.agg #[.slice A txs.length c,.slice B ords.length d],.func (.func 146) #[] #[.pointer (some p)]] w (Znr w (Zcc cnt ⟨txs,ords,A,c,B,d⟩)):=by
 have hmm:= @run_makeMap Tryz.prog;have HH:=Qh H;have n3:ords.length≤4398046511103:=H.fewo;obtain⟨z,hz⟩:∃z,w.heap.size=z:=⟨_,rfl⟩;obtain⟨w1,hw1⟩:∃w1,w.alloc (.cells #[.slice A txs.length c,.slice B ords.length d] 29)=w1:=⟨_,rfl⟩;have s1:w1.heap.size=z+1:=by rw[←hw1,←hz];simp
 obtain⟨wb,hwb⟩:∃wb,w1.alloc (.map #[] 0)=wb:=⟨_,rfl⟩;have u1:Upd No w w1:=by rw[←hw1];exact(Upd.refl No w).alloc _
 have u2:Upd No w1 wb:=by rw[←hwb];exact(Upd.refl No w1).alloc _
 have hM:MapE wb (z+1) ZB []:=by rw[←hwb,←s1];exact MapE.new w1 _
 have bH:Blk wb z 29 [.slice A txs.length c,.slice B ords.length d]:=by
  have:Blk w1 z 29 [.slice A txs.length c,.slice B ords.length d]:=by rw[←hw1,←hz];exact Blk.new w _ _
  exact this.upd u2 id
 have HU:=Qh (u1.trans u2);have HM0:=Qh hM;have HZ:=Qh (show w.heap.size≤z∧z+1<wb.heap.size by rw[←hwb];simp;omega);have hzb:z<wb.heap.size:=bH.lt;have g0:∀W,Upd (One (z+1)) wb W→W.cell? ⟨z,0,none⟩=some (.slice A txs.length c):=fun W u=>by have:=(bH.upd u (by unfold One;omega)).cell 0;simpa using this
 have g1:∀W,Upd (One (z+1)) wb W→W.cell? ⟨z,1,none⟩=some (.slice B ords.length d):=fun W u=>by have:=(bH.upd u (by unfold One;omega)).cell 1;simpa using this
 have hbz:Upd (One (z+1)) wb wb:=Upd.refl _ _;have HR:=Qh (fun W (u:Upd No w W)=>ZkT F W ⟨txs,ords,A,c,B,d⟩ (H.upd u (fun _ _=>id)));unfold Hist.val at HR;simp only at HR;clear u1 u2 hM bH H hzb
 cases hr:Za ⟨txs,ords,A,c,B,d⟩
 ·rw[hr]at HR;have HG:=Qh (show∀e,(fun _=>0) e=Zcc cnt ⟨txs,ords,A,c,B,d⟩ e from fun e=>by unfold Zcc;rw[hr];rfl);clear hr
  go_enter Tryz.func69,Tryz.ntmps69
  go_wp2_with fail
  refine(HR.out _ HU.out).mono ?_;rintro e w2 ⟨rfl,hu2⟩;go_wp2
  go_ret
  exact⟨z+1,[],rfl,by have:=HZ.out;omega,HM0.out.upd hu2 id,CntM.new.congr HG.out,HU.out.trans hu2⟩
 ·rw[hr]at HR;have n1:=Zkk hr;have n2:∀t∈txs,t.ops.length≤4095:=fun t ht=>Zki hr ht
  simp only at n1;have HG:=Qh (show∀e,Zay (wwL cnt ords) e+Zn (rdL cnt (ZC txs) (Zi txs) (Zu ords) txs) e=Zcc cnt ⟨txs,ords,A,c,B,d⟩ e from fun e=>by unfold Zcc;rw[hr];rfl);have HLK:=Qh (fun W (u:Upd No w W)=>ZoN F W txs ords A c B d (HH.out.upd u (fun _ _=>id)) n1 n2);clear hr
  go_enter Tryz.func69,Tryz.ntmps69
  go_wp2_with fail
  refine(HR.out _ HU.out).mono ?_;rintro e w2 ⟨rfl,hu2⟩;have hv2:=HU.out.trans hu2;have hs2:=hu2.size;have hbz2:Upd (One (z+1)) wb w2:=hu2.mono (fun _ _ e=>e.elim)
  go_wp2_with fail
  refine(HLK.out w2 hv2).mono ?_;rintro e w3 ⟨fb,bd,bl,bx,md,ml,mx,rfl,hfw,hge,hu3⟩;have hv3:=hv2.trans hu3;have hbz3:Upd (One (z+1)) wb w3:=hbz2.trans (hu3.mono (fun _ _ e=>e.elim));have HFW:=Qh hfw;have HD:=Qh (show z+1≠fb∧z+1≠bd∧z+1≠bl∧z+1≠bx by have:=HZ.out;omega);obtain⟨bc,hbc⟩:∃bc,z+1=bc:=⟨_,rfl⟩;have HM3:Hid (MapE w3 bc ZB []):=Qh (by rw[←hbc];exact(HM0.out.upd hu2 id).upd hu3 id);have HZ3:=Qh (show w.heap.size≤bc by have:=HZ.out;omega);have HV3:=Qh hv3;rw[hbc]at HD g0 g1 hbz3;have g0:∀W,Upd (One bc) w3 W→W.cell? ⟨z,0,none⟩=some (.slice A txs.length c):=fun W u=>g0 W (hbz3.trans u)
  have g1:∀W,Upd (One bc) w3 W→W.cell? ⟨z,1,none⟩=some (.slice B ords.length d):=fun W u=>g1 W (hbz3.trans u)
  have hz3:Upd (One bc) w3 w3:=Upd.refl _ _;have HN3:=Qh (show∀W,Upd (One bc) w3 W→Upd No w W from fun W u=>HV3.out.then_ u (fun i e=>Or.inr (by unfold One at e;have:=HZ3.out;omega)));clear hfw hge hu3 hv3 hv2 hs2 hbz hbz2 hbz3 hu2 hmm hw1 hwb hz;rw[hbc];go_wp2
  go_loopg [24] ords.length (fun gk i wr=>∃(k:Nat) (mc:List (Edge×Value)),k+gk=ords.length∧i= .int .i64 k∧Hid (MapE wr bc ZB mc)∧Hid (CntM mc (Zay (wwL cnt (ords.take k))))∧Upd (One bc) w3 wr)
  case atStart=>exact⟨0,[],by omega,rfl,HM3,Qh (CntM.new.congr (fun e=>by simp[Zay,wwL])),hz3⟩
  case round=>
   obtain⟨k,mc,hgk,rfl,hm,hg,hu⟩:=hrel;have hun:=HN3.out _ hu
   by_cases hlt:k<ords.length
   ·obtain⟨ad,hAd,q0,q1⟩:=(HH.out.upd hun (fun _ _=>id)).ord_at hlt;simp only at hAd q0 q1;have hx0:=HH.out.ord ords[k] (List.getElem_mem hlt);obtain⟨⟨yk,yt,yA,yc⟩,hx⟩:∃x,ords[k]=x:=⟨_,rfl⟩;rw[hx]at q0 q1 hx0;simp only at q0 q1;subst hAd;have HX0:=Qh (show Ints F w yA yt from hx0.1);have hyl:yt.length≤17592186044415:=hx0.2.2.1;have b1:(0:Int)≤(k:Int):=Qn _;have b2:(k:Int)<(ords.length:Int):=by omega
    obtain⟨wx,hwx⟩:∃wx,wr.alloc (.cells #[.int .i64 yk,.slice yA yt.length yc] 100)=wx:=⟨_,rfl⟩;have ux:Upd No wr wx:=by rw[←hwx];exact(Upd.refl No wr).alloc _
    have bo:Blk wx wr.heap.size 100 [.int .i64 yk,.slice yA yt.length yc]:=by rw[←hwx];exact Blk.new wr _ _
    have hml:=hm.out.lt;have MX:=Qh (hm.out.upd ux id);have HUX:=Qh (hu.trans (ux.mono (fun _ _ e=>e.elim)));have t0:∀W,Upd (One bc) wx W→W.cell? ⟨wr.heap.size,0,none⟩=some (.int .i64 yk):=fun W u=>by have:=(bo.upd u (by unfold One;omega)).cell 0;simpa using this
    have t1:∀W,Upd (One bc) wx W→W.cell? ⟨wr.heap.size,1,none⟩=some (.slice yA yt.length yc):=fun W u=>by have:=(bo.upd u (by unfold One;omega)).cell 1;simpa using this
    have hxz:Upd (One bc) wx wx:=Upd.refl _ _;have HX:=Qh (Zlo (cnt:=cnt) hlt hx);have HC:=Qh (fun W (u:Upd (One bc) wx W)=>hc.out W yk (HN3.out W (HUX.out.trans u)));obtain⟨cv,hcv⟩:∃cv,cnt yk=cv:=⟨_,rfl⟩;rw[hcv]at HC;have HCV:=Qh hcv;clear hx bo ux hun hx0 hml hcv;obtain⟨wp,hwp⟩:∃wp,wp=wr:=⟨_,rfl⟩;subst hwp
    generalize gk=GK at*
    go_wp2
    go_loopg [9] yt.length (fun gj i wr=>∃(j:Nat) (m2:List (Edge×Value)),gj=yt.length-j∧i= .int .i64 ((j:Int)+1)∧j≤yt.length∧Hid (cv=false→j=0)∧Hid (MapE wr bc ZB m2)∧Hid (CntM m2 (Zay (wwL cnt (ords.take k)++wwO yk (yt.take (j+1)))))∧Upd (One bc) wx wr)
    case atStart=>exact⟨0,mc,by omega,rfl,by omega,Qh (fun _=>rfl),MX,Qh (by have:=hg.out;cases yt<;>simpa[wwO]using this),hxz⟩
    case round=>
     obtain⟨j,m2,hgj,rfl,hjl,hcj,hm2,hg2,hu2⟩:=hrel
     by_cases hltj:j+1<yt.length
     ·have c1:(0:Int)≤(j:Int):=Qn _;have c2:(j:Int)+1<(yt.length:Int):=by omega
      have c3:(j:Int)<(yt.length:Int):=by omega
      have hHC:=HC.out _ hu2
      cases cv
      ·obtain rfl:j=0:=hcj.out rfl;have HG2:Hid (CntM m2 (Zay (wwL cnt (ords.take (k+1))))):=Qh (by rw[HX.out];unfold wwC;rw[HCV.out];have:=hg2.out;cases yt<;>simpa[wwO]using this)
       go_wp2_with fail
       refine Calls.mono hHC ?_;rintro e w5 ⟨rfl,hu5⟩;go_wp2
       go_roundg (GK-1)
       case measure=>omega
       case rel=>exact⟨k+1,m2,by omega,by go_num,Qh (hm2.out.upd (S:=No) hu5 id),HG2,(HUX.out.trans hu2).trans (hu5.mono (fun _ _ e=>e.elim))⟩
      ·go_wp2_with fail
       refine Calls.mono hHC ?_;rintro e w5 ⟨rfl,hu5⟩;have hu5b:Upd (One bc) wr w5:=hu5.mono (fun _ _ e=>e.elim);have HU5:=Qh ((HUX.out.trans hu2).trans hu5b);have hj1:j<yt.length:=by omega
       obtain⟨ad2,hAd2,_,_,p0⟩:=HX0.out.at_ hj1;obtain⟨ad3,hAd3,_,_,p1⟩:=HX0.out.at_ hltj;obtain rfl:ad2=ad3:=by rw[hAd2]at hAd3;exact Option.some.inj hAd3
       obtain⟨va,hva⟩:∃v,yt[j]=v:=⟨_,rfl⟩;obtain⟨vb,hvb⟩:∃v,yt[j+1]=v:=⟨_,rfl⟩;rw[hva]at p0;rw[hvb]at p1;subst hAd2;have p0:∀W,Upd (One bc) w5 W→W.cell? (ad2.add j)=some (.int .i64 va):=fun W u=>(HN3.out W (HU5.out.trans u)).keepNo p0
       have hadd:ad2.add (j+1)=⟨ad2.block,ad2.off+(j+1),none⟩:=by unfold Addr.add;split<;>simp_all
       have p1:∀W,Upd (One bc) w5 W→W.cell? ⟨ad2.block,ad2.off+(j+1),none⟩=some (.int .i64 vb):=fun W u=>by rw[←hadd];exact(HN3.out W (HU5.out.trans u)).keepNo p1
       have t0y:∀W,Upd (One bc) w5 W→W.cell? ⟨wp.heap.size,0,none⟩=some (.int .i64 yk):=fun W u=>t0 W ((hu2.trans hu5b).trans u)
       have t1y:∀W,Upd (One bc) w5 W→W.cell? ⟨wp.heap.size,1,none⟩=some (.slice (some ad2) yt.length yc):=fun W u=>t1 W ((hu2.trans hu5b).trans u)
       have hyz:Upd (One bc) w5 w5:=Upd.refl _ _;have hmd:MapE w5.drew bc ZB m2:=(hm2.out.upd (S:=No) hu5 id:MapE w5 bc ZB m2);obtain⟨w6,hp6,hm6,hu6⟩:=Zdi ZW Tryz.underlying109 hmd (⟨va,vb,1,yk⟩:Edge) (.int .i64 1);change (Instr.mapUpdate 109 (.map (some bc)) (.agg #[.int .i64 va,.int .i64 vb,.int .i64 1,.int .i64 yk]) (.int .i64 1)).run Tryz.prog w5.drew= .ok () w6 at hp6;have hU6:Upd (One bc) w5 w6:=hu6.of_drew;have HM6:=Qh hm6
       have HG6:=Qh (show CntM _ (Zay (wwL cnt (ords.take k)++wwO yk (yt.take (j+1+1)))) from by
        have:=ZlX hg2.out (⟨va,vb,1,yk⟩:Edge);rw[List.append_assoc,←Zho yk yt hltj hva hvb]at this;exact this)
       have c4:(0:Int)≤(j:Int)+1:=by omega
       have c5:(j:Int)≤17592186044415:=by omega
       have hw1:IntKind.i64.wrap ((j:Int)+1-1)=(j:Int):=by rw[Int.add_sub_cancel];exact IntWalk.i64_in _ (by omega)
       have hw2:IntKind.i64.wrap (j:Int)=(j:Int):=IntWalk.i64_in _ (by omega);clear hmd hm6 hu6 hva hvb hadd hu5b;go_wp2
       go_region_held3 (fun W'=>Upd (One bc) w5 W') (first|exact hyz.drew|exact hU6) (fail)
       clear hp6;go_wp2
       go_roundg (gk-1)
       case measure=>omega
       case rel=>exact⟨j+1,_,by omega,by go_num,by omega,Qh (fun h=>by cases h),HM6,HG6,(hu2.trans (hu5.mono (fun _ _ e=>e.elim))).trans hU6⟩
     ·have HG2:Hid (CntM m2 (Zay (wwL cnt (ords.take (k+1))))):=Qh (by
       rw[HX.out];unfold wwC;rw[HCV.out];have h1:=hg2.out
       cases cv
       ·obtain rfl:j=0:=hcj.out rfl;simp only[Bool.false_eq_true,if_false]
        cases yt with
        |nil=>simpa[wwO]using h1
        |cons y l=>cases l with
         |nil=>simpa[wwO]using h1
         |cons y2 l=>simp at hltj
       ·rw[List.take_of_length_le (l:=yt) (i:=j+1) (by omega)]at h1
        simpa using h1)
      have c2:¬(j:Int)+1<(yt.length:Int):=by omega
      go_wp2
      go_roundg (GK-1)
      case measure=>omega
      case rel=>exact⟨k+1,m2,by omega,by go_num,hm2,HG2,HUX.out.trans hu2⟩
   ·obtain rfl:k=ords.length:=by omega
    have HG0:Hid (CntM mc (Zay (wwL cnt ords))):=Qh (by have:=hg.out;rwa [List.take_length]at this);have HM1:=hm;have hu0:=hu;clear hm hg hun;obtain⟨wo,hwo⟩:∃wo,wo=wr:=⟨_,rfl⟩;subst hwo;have g0o:∀W,Upd (One bc) wo W→W.cell? ⟨z,0,none⟩=some (.slice A txs.length c):=fun W u=>g0 W (hu0.trans u)
    have hoz:Upd (One bc) wo wo:=Upd.refl _ _;obtain⟨LD,hLD⟩:∃LD,ZC txs=LD:=⟨_,rfl⟩;obtain⟨LW,hLW⟩:∃LW,Zi txs=LW:=⟨_,rfl⟩;obtain⟨LN,hLN⟩:∃LN,Zu ords=LN:=⟨_,rfl⟩;obtain⟨WW,hWW⟩:∃WW,wwL cnt ords=WW:=⟨_,rfl⟩;rw[hLD,hLW,hLN]at HFW;rw[hLD,hLW,hLN,hWW]at HG;rw[hWW]at HG0;clear hLD hLW hLN hWW g0 g1;go_wp2
    go_loopg [60] txs.length (fun gk i wr=>∃(k:Nat) (mc:List (Edge×Value)),k+gk=txs.length∧i= .int .i64 k∧Hid (MapE wr bc ZB mc)∧Hid (CntM mc (fun e=>Zay WW e+Zn (rdL cnt LD LW LN (txs.take k)) e))∧Hid ((rdL cnt LD LW LN (txs.take k)).length≤8190*k)∧Upd (One bc) wo wr)
    case atStart=>exact⟨0,mc,by omega,rfl,HM1,Qh (HG0.out.congr (fun e=>rfl)),Qh (by simp[rdL]),hoz⟩
    case round=>
     clear HM1 HG0;obtain⟨k,mc,hgk,rfl,hm,hg,hlr,hu⟩:=hrel;have hun:=HN3.out _ (hu0.trans hu)
     by_cases hlt:k<txs.length
     ·obtain⟨ad,hAd,q0,q1,q2⟩:=(HH.out.upd hun (fun _ _=>id)).tx_at hlt;simp only at hAd q0 q1 q2;have hx2:=n2 _ (List.getElem_mem hlt);have hx0:=HH.out.tx txs[k] (List.getElem_mem hlt);obtain⟨⟨xi,xd,xo,xA,xc⟩,hx⟩:∃x,txs[k]=x:=⟨_,rfl⟩;rw[hx]at q0 q1 q2 hx2 hx0;simp only at q0 q1 q2 hx2;subst hAd;have HX0:=Qh (show HOps F w xA xo from hx0.1);have b1:(0:Int)≤(k:Int):=Qn _;have b2:(k:Int)<(txs.length:Int):=by omega
      obtain⟨wx,hwx⟩:∃wx,wr.alloc (.cells #[.int .i64 xi,.bool xd,.slice xA xo.length xc] 81)=wx:=⟨_,rfl⟩;have ux:Upd No wr wx:=by rw[←hwx];exact(Upd.refl No wr).alloc _
      have bo:Blk wx wr.heap.size 81 [.int .i64 xi,.bool xd,.slice xA xo.length xc]:=by rw[←hwx];exact Blk.new wr _ _
      have hml:=hm.out.lt;have MX:=Qh (hm.out.upd ux id);have HUX:=Qh (hu.trans (ux.mono (fun _ _ e=>e.elim)));have t0:∀W,Upd (One bc) wx W→W.cell? ⟨wr.heap.size,0,none⟩=some (.int .i64 xi):=fun W u=>by have:=(bo.upd u (by unfold One;omega)).cell 0;simpa using this
      have t1:∀W,Upd (One bc) wx W→W.cell? ⟨wr.heap.size,1,none⟩=some (.bool xd):=fun W u=>by have:=(bo.upd u (by unfold One;omega)).cell 1;simpa using this
      have t2:∀W,Upd (One bc) wx W→W.cell? ⟨wr.heap.size,2,none⟩=some (.slice xA xo.length xc):=fun W u=>by have:=(bo.upd u (by unfold One;omega)).cell 2;simpa using this
      have hxz:Upd (One bc) wx wx:=Upd.refl _ _;have HX:=Qh (ZlE (cnt:=cnt) (LD:=LD) (LW:=LW) (LN:=LN) hlt hx);simp only at HX;clear hx bo ux hun hx0 hml;obtain⟨wp,hwp⟩:∃wp,wp=wr:=⟨_,rfl⟩;subst hwp
      generalize gk=GK at*
      go_wp2
      go_loopg [67] xo.length (fun gj i wr=>∃(j:Nat) (m2:List (Edge×Value)),j+gj=xo.length∧i= .int .i64 j∧Hid (MapE wr bc ZB m2)∧Hid (CntM m2 (fun e=>Zay WW e+Zn (rdL cnt LD LW LN (txs.take k)++if xd then rdO cnt LD LW LN xi (xo.take j) else []) e))∧Hid ((rdL cnt LD LW LN (txs.take k)++if xd then rdO cnt LD LW LN xi (xo.take j) else []).length≤8190*k+2*j)∧Upd (One bc) wx wr)
      case atStart=>exact⟨0,mc,by omega,rfl,MX,Qh (by have:=hg.out;cases xd<;>simpa[rdO]using this),Qh (by have:=hlr.out;cases xd<;>simpa[rdO]using this),hxz⟩
      case round=>
       obtain⟨j,m2,hgj,rfl,hm2,hg2,hl2,hu2⟩:=hrel;have hun2:=HN3.out _ (hu0.trans (HUX.out.trans hu2))
       by_cases hltj:j<xo.length
       ·obtain⟨ad2,hAd2,p0,p1,p2,p3⟩:=(HX0.out.upd hun2 (fun _ _=>id)).at_ hltj;obtain⟨⟨yr,yk,yt,yn⟩,hy⟩:∃y,xo[j]=y:=⟨_,rfl⟩;rw[hy]at p0 p1 p2 p3;simp only at p0 p1 p2 p3;subst hAd2;have c1:(0:Int)≤(j:Int):=Qn _;have c2:(j:Int)<(xo.length:Int):=by omega
        obtain⟨wy,hwy⟩:∃wy,wr.alloc (.cells #[.bool yr,.int .i64 yk,.int .i64 yt,.int .i64 yn] 95)=wy:=⟨_,rfl⟩;have uy:Upd No wr wy:=by rw[←hwy];exact(Upd.refl No wr).alloc _
        have bo:Blk wy wr.heap.size 95 [.bool yr,.int .i64 yk,.int .i64 yt,.int .i64 yn]:=by rw[←hwy];exact Blk.new wr _ _
        have hml:=hm2.out.lt;have MY:=Qh (hm2.out.upd uy id);have HUY:=Qh (hu2.trans (uy.mono (fun _ _ e=>e.elim)));have o0:∀W,Upd (One bc) wy W→W.cell? ⟨wr.heap.size,0,none⟩=some (.bool yr):=fun W u=>by have:=(bo.upd u (by unfold One;omega)).cell 0;simpa using this
        have o1:∀W,Upd (One bc) wy W→W.cell? ⟨wr.heap.size,1,none⟩=some (.int .i64 yk):=fun W u=>by have:=(bo.upd u (by unfold One;omega)).cell 1;simpa using this
        have o2:∀W,Upd (One bc) wy W→W.cell? ⟨wr.heap.size,2,none⟩=some (.int .i64 yt):=fun W u=>by have:=(bo.upd u (by unfold One;omega)).cell 2;simpa using this
        have o3:∀W,Upd (One bc) wy W→W.cell? ⟨wr.heap.size,3,none⟩=some (.int .i64 yn):=fun W u=>by have:=(bo.upd u (by unfold One;omega)).cell 3;simpa using this
        have t0y:∀W,Upd (One bc) wy W→W.cell? ⟨wp.heap.size,0,none⟩=some (.int .i64 xi):=fun W u=>t0 W (HUY.out.trans u)
        have t1y:∀W,Upd (One bc) wy W→W.cell? ⟨wp.heap.size,1,none⟩=some (.bool xd):=fun W u=>t1 W (HUY.out.trans u)
        have t2y:∀W,Upd (One bc) wy W→W.cell? ⟨wp.heap.size,2,none⟩=some (.slice (some ad2) xo.length xc):=fun W u=>t2 W (HUY.out.trans u)
        have hyz:Upd (One bc) wy wy:=Upd.refl _ _;have HRO:=Qh (ZlD (cnt:=cnt) (LD:=LD) (LW:=LW) (LN:=LN) (ti:=xi) hltj hy);simp only at HRO;clear hy bo uy hun2 hml
        cases xd
        ·have HN:=Qh (show(rdL cnt LD LW LN (txs.take k)++if false then rdO cnt LD LW LN xi (xo.take (j+1)) else [])=(rdL cnt LD LW LN (txs.take k)++if false then rdO cnt LD LW LN xi (xo.take j) else []) by simp);go_wp2
         go_roundg (gk-1)
         case measure=>omega
         case rel=>exact⟨j+1,m2,by omega,by go_num,MY,Qh (by rw[HN.out];exact hg2.out),Qh (by rw[HN.out];have:=hl2.out;omega),HUY.out⟩
        ·cases yr
         ·have HN:=Qh (show(rdL cnt LD LW LN (txs.take k)++if true then rdO cnt LD LW LN xi (xo.take (j+1)) else [])=(rdL cnt LD LW LN (txs.take k)++if true then rdO cnt LD LW LN xi (xo.take j) else []) by rw[HRO.out];simp);go_wp2
          go_roundg (gk-1)
          case measure=>omega
          case rel=>exact⟨j+1,m2,by omega,by go_num,MY,Qh (by rw[HN.out];exact hg2.out),Qh (by rw[HN.out];have:=hl2.out;omega),HUY.out⟩
         ·obtain⟨cv,hcv⟩:∃cv,cnt yk=cv:=⟨_,rfl⟩;have hHC:=hc.out wy yk (HN3.out wy (hu0.trans (HUX.out.trans HUY.out)));rw[hcv]at hHC;have HCV:=Qh hcv;clear hcv
          cases cv
          ·go_wp2_with fail
           refine Calls.mono hHC ?_;rintro e w5 ⟨rfl,hu5⟩;have MY5:=Qh (MY.out.upd (S:=No) hu5 id);have HUY5:=Qh (HUY.out.trans (hu5.mono (fun _ _ e=>e.elim)));have HN:=Qh (show(rdL cnt LD LW LN (txs.take k)++if true then rdO cnt LD LW LN xi (xo.take (j+1)) else [])=(rdL cnt LD LW LN (txs.take k)++if true then rdO cnt LD LW LN xi (xo.take j) else []) by rw[HRO.out,HCV.out];simp);go_wp2
           go_roundg (gk-1)
           case measure=>omega
           case rel=>exact⟨j+1,m2,by omega,by go_num,MY5,Qh (by rw[HN.out];exact hg2.out),Qh (by rw[HN.out];have:=hl2.out;omega),HUY5.out⟩
          ·have HN:=Qh (show(rdL cnt LD LW LN (txs.take k)++if true then rdO cnt LD LW LN xi (xo.take (j+1)) else [])=(rdL cnt LD LW LN (txs.take k)++if true then rdO cnt LD LW LN xi (xo.take j) else [])++ZH LD LW LN xi ⟨true,yk,yt,yn⟩ by rw[HRO.out,HCV.out];simp);obtain⟨RR,hRR⟩:∃RR,(rdL cnt LD LW LN (txs.take k)++if true then rdO cnt LD LW LN xi (xo.take j) else [])=RR:=⟨_,rfl⟩;rw[hRR]at HN hg2 hl2
           go_wp2_with fail
           refine Calls.mono hHC ?_;rintro e w5 ⟨rfl,hu5⟩;have hu5b:Upd (One bc) wy w5:=hu5.mono (fun _ _ e=>e.elim)
           have HRD:=Qh (ZoM w5 fb bd bl bx bc txs ords _ c _ d md ml mx LD LW LN xi true (some ad2) xo.length xc true yk yt yn m2 (fun e=>Zay WW e+Zn RR e)
            (HFW.out.upd ((hu0.trans (HUX.out.trans HUY.out)).trans hu5b) (by have:=HD.out;unfold One;omega) (by have:=HD.out;unfold One;omega) (by have:=HD.out;unfold One;omega) (by have:=HD.out;unfold One;omega))
            (MY.out.upd (S:=No) hu5 id) hg2.out (fun e=>by have h1:=Zm3 WW e;have h2:=Zgu RR e;have h3:=hl2.out;omega) HD.out)
           go_wp2_with fail
           refine Calls.mono HRD.out ?_;rintro e w6 ⟨rfl,m6,hm6,hg6,hu6⟩;have HM6:=Qh hm6;have HG6:=Qh (show CntM m6 (fun e=>Zay WW e+Zn (RR++ZH LD LW LN xi ⟨true,yk,yt,yn⟩) e) from hg6.congr (fun e=>by simp only[Zaf];omega));have HU6:=Qh ((HUY.out.trans hu5b).trans hu6);clear hm6 hg6 hu6 hu5b hRR;go_wp2
           go_roundg (gk-1)
           case measure=>omega
           case rel=>exact⟨j+1,m6,by omega,by go_num,HM6,Qh (by rw[HN.out];exact HG6.out),Qh (by rw[HN.out,List.length_append];have:=hl2.out;have:=ZgF LD LW LN xi ⟨true,yk,yt,yn⟩;omega),HU6.out⟩
       ·obtain rfl:j=xo.length:=by omega
        have HN:=Qh (show rdL cnt LD LW LN (txs.take (k+1))=(rdL cnt LD LW LN (txs.take k)++if xd then rdO cnt LD LW LN xi (xo.take xo.length) else []) by rw[HX.out,List.take_length]);go_wp2
        go_roundg (GK-1)
        case measure=>omega
        case rel=>exact⟨k+1,m2,by omega,by go_num,hm2,Qh (by rw[HN.out];exact hg2.out),Qh (by rw[HN.out];have:=hl2.out;omega),HUX.out.trans hu2⟩
     ·obtain rfl:k=txs.length:=by omega
      have HGF:Hid (CntM mc (Zcc cnt ⟨txs,ords,A,c,B,d⟩)):=Qh (by have:=hg.out;rw[List.take_length]at this;exact this.congr HG.out);go_wp2
      go_ret
      exact⟨bc,mc,rfl,HZ3.out,hm.out,HGF.out,hun⟩
end
end Go.Proofs.YtblplapkdmhikaaGreat
