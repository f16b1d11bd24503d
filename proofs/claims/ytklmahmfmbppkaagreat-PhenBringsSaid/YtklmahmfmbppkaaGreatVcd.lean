/- The law that one phenomenon brings another: the walk. -/
import Derived.Test.YtklmahmfmbppkaaGreatVca
namespace Go.Proofs.YtklmahmfmbppkaaGreat
open Go.RowKit
set_option linter.unusedVariables false
set_option linter.unusedSimpArgs false
set_option maxRecDepth 100000 in
set_option maxHeartbeats 8000000 in
theorem Zp3 (F:Nat→Prop) (w:World) (txs:List HTx) (ords:List HOrd) (A:Option Addr) (c:Nat) (B:Option Addr) (d:Nat) (H:Hist.lies F w ⟨txs,ords,A,c,B,d⟩) (L:Hid ZhL):
  Calls Tryz.prog 4 #[.agg #[.slice A txs.length c,.slice B ords.length d]] w fun e w'=>e= .returned (.bool true)∧Upd No w w':=by
 obtain⟨z,hz⟩:∃z,w.heap.size=z:=⟨_,rfl⟩;obtain⟨wb,hwb⟩:∃wb,w.alloc (.cells #[.slice A txs.length c,.slice B ords.length d] 25)=wb:=⟨_,rfl⟩;have u0:Upd No w wb:=by rw[←hwb];exact(Upd.refl No w).alloc _
 have bH:Blk wb z 25 [.slice A txs.length c,.slice B ords.length d]:=by rw[←hwb,←hz];exact Blk.new w _ _
 have h0:∀W,Upd No wb W→W.cell? ⟨z,0,none⟩=some (.slice A txs.length c):=fun W u=>(bH.upd u id).cell 0
 have h1:∀W,Upd No wb W→W.cell? ⟨z,1,none⟩=some (.slice B ords.length d):=fun W u=>(bH.upd u id).cell 1
 have U0:=Qh u0;have GH:=Qh (H.upd u0 (fun _ _=>id));obtain⟨v,hv⟩:∃v,ZJ ⟨txs,ords,A,c,B,d⟩=v:=⟨_,rfl⟩;have HV:=Qh hv;have CL:=Qh (fun W (u:Upd No wb W)=>ZfN (GH.out.upd u (fun _ _=>id)) hv);clear u0 bH hv H
 go_enter Tryz.func4,Tryz.ntmps4
 cases v
 ·go_wp2_with fail
  refine(L.out _).mono ?_;rintro e w1 ⟨rfl,hu1⟩
  go_wp2_with fail
  refine(CL.out _ hu1).mono ?_;rintro e w3 ⟨rfl,hu3⟩;go_wp2
  go_ret
  exact⟨rfl,(U0.out.trans hu1).trans hu3⟩
 obtain⟨f,hf⟩:∃f,Zj ⟨txs,ords,A,c,B,d⟩=f:=⟨_,rfl⟩;have CA:=Qh (fun W (u:Upd No wb W)=>Zl6 F W txs ords A c B d (GH.out.upd u (fun _ _=>id)) HV.out);have hav:Zd4 ⟨txs,ords,A,c,B,d⟩= .agg #[.bool (f 0),.bool (f 1),.bool (f 2),.bool (f 3),.bool (f 4),.bool (f 5)]:=by unfold Zd4;rw[hf]
 rw[hav]at CA;have hz0:f 0=false:=by rw[←hf];exact Zkm _
 have hz1:f 1=true→f 4=true:=by rw[←hf];exact Zrx
 have hor:=Zn7 ⟨txs,ords,A,c,B,d⟩;rw[hf]at hor;obtain⟨l,hll⟩:∃l,Zl ⟨txs,ords,A,c,B,d⟩=l:=⟨_,rfl⟩;have hfew:=Zfn HV.out;obtain⟨n1,n2⟩:=ZdR HV.out;have CE:=Qh (fun W (u:Upd No wb W)=>Zm3 (GH.out.upd u (fun _ _=>id)) n1 n2 rfl rfl hll rfl);rw[hll]at hfew hor;obtain⟨pl,hpl⟩:∃pl,Zw l=pl:=⟨_,rfl⟩;have hpn:pl.length=l.length:=by rw[←hpl];unfold Zw;rw[List.length_map]
 rw[hpl]at hor;have HPL:=Qh hpl;have HF:=Qh (show pl.length≤1152∧l.length≤1152 by omega);obtain⟨v0,hv0⟩:∃v,f 0=v:=⟨_,rfl⟩;obtain⟨v1,hv1⟩:∃v,f 1=v:=⟨_,rfl⟩;obtain⟨v2,hv2⟩:∃v,f 2=v:=⟨_,rfl⟩;obtain⟨v3,hv3⟩:∃v,f 3=v:=⟨_,rfl⟩;obtain⟨v4,hv4⟩:∃v,f 4=v:=⟨_,rfl⟩;obtain⟨v5,hv5⟩:∃v,f 5=v:=⟨_,rfl⟩
 have HNO:=Qh (show txs.any (·.done)=false→v1=false∧v2=false∧v3=false∧v4=false∧v5=false from fun hn=>by
  rw[←hv1,←hv2,←hv3,←hv4,←hv5,←hf];exact⟨ZdB hn 1,ZdB hn 2,ZdB hn 3,ZdB hn 4,ZdB hn 5⟩)
 rw[hv0,hv1,hv2,hv3,hv4,hv5]at CA;rw[hv0]at hz0;rw[hv1,hv4]at hz1;rw[hv4,hv5]at hor;have HOR:=Qh hor;have HZ1:=Qh hz1;have HN1:=Qh n1;have h6:= @ZhG;subst hz0;clear hf hav hll hpl hpn hfew n2 hv0 hv1 hv2 hv3 hv4 hv5 hor hz1
 go_wp2_with fail
 refine(L.out _).mono ?_;rintro e w1 ⟨rfl,hu1⟩
 go_wp2_with fail
 refine(CL.out _ hu1).mono ?_;rintro e w3 ⟨rfl,hu3⟩;have hu13:=hu1.trans hu3
 go_wp2_with fail
 refine(CA.out _ hu13).mono ?_;rintro e w5 ⟨rfl,hu5⟩;obtain⟨y,hy⟩:∃y,w5.heap.size=y:=⟨_,rfl⟩;obtain⟨wc,hwc⟩:∃wc,w5.alloc (.cells #[.bool false,.bool v1,.bool v2,.bool v3,.bool v4,.bool v5] 31)=wc:=⟨_,rfl⟩;have uc:Upd No w5 wc:=by rw[←hwc];exact(Upd.refl No w5).alloc _
 have bc:Blk wc y 31 [.bool false,.bool v1,.bool v2,.bool v3,.bool v4,.bool v5]:=by rw[←hwc,←hy];exact Blk.new w5 _ _
 have a0:∀W,Upd No wc W→W.cell? ⟨y,0,none⟩=some (.bool false):=fun W u=>(bc.upd u id).cell 0
 have a1:∀W,Upd No wc W→W.cell? ⟨y,1,none⟩=some (.bool v1):=fun W u=>(bc.upd u id).cell 1
 have a2:∀W,Upd No wc W→W.cell? ⟨y,2,none⟩=some (.bool v2):=fun W u=>(bc.upd u id).cell 2
 have a3:∀W,Upd No wc W→W.cell? ⟨y,3,none⟩=some (.bool v3):=fun W u=>(bc.upd u id).cell 3
 have a4:∀W,Upd No wc W→W.cell? ⟨y,4,none⟩=some (.bool v4):=fun W u=>(bc.upd u id).cell 4
 have a5:∀W,Upd No wc W→W.cell? ⟨y,5,none⟩=some (.bool v5):=fun W u=>(bc.upd u id).cell 5
 have HUC:=Qh ((hu13.trans hu5).trans uc);have hcz:Upd No wc wc:=Upd.refl _ _;have k0:∀W,Upd No wc W→W.cell? ⟨z,0,none⟩=some (.slice A txs.length c):=fun W u=>h0 W (HUC.out.trans u)
 have k1:∀W,Upd No wc W→W.cell? ⟨z,1,none⟩=some (.slice B ords.length d):=fun W u=>h1 W (HUC.out.trans u)
 clear uc bc hu1 hu3 hu13 hu5 h0 h1
 have hcase:v1=false∨(v1=true∧v4=true):=by
  cases hq:v1 with
  |false=>exact Or.inl rfl
  |true=>exact Or.inr ⟨rfl,HZ1.out hq⟩
 have HTX:=Qh (GH.out.upd HUC.out (fun _ _=>id));rcases hcase with rfl|⟨rfl,rfl⟩
 ·go_wp2;clear hwc hy
  go_loopg [4,5,31] txs.length (fun gk dn s i wr=>∃(k:Nat) (A5:Option Addr) (c5:Nat),k+gk=txs.length∧i= .int .i64 (k:Int)∧dn= .bool ((txs.take k).any (·.done))∧s= .slice A5 k c5∧Hid (wr.ownsRow wc.heap.size 3 1 (.slice A5 k c5) k (((txs.take k).map (·.id)).map (Value.int .i64)))∧Hid (Upd No wc wr))
  case atStart=>exact⟨0,none,0,by omega,rfl,rfl,rfl,Qh (World.ownsRow_nil _ _ _ _),Qh (Upd.refl _ _)⟩
  case round=>
   obtain⟨k,A5,c5,hgk,rfl,rfl,rfl,hown,hu⟩:=hrel
   by_cases hlt:k<txs.length
   ·obtain⟨ad,hAd,q0,q1,q2⟩:=(HTX.out.upd hu.out (fun _ _=>id)).tx_at hlt;simp only at hAd q0 q1 q2;obtain⟨x,hx⟩:∃x,txs[k]=x:=⟨_,rfl⟩;rw[hx]at q0 q1 q2;obtain⟨xi,xd,xo,xA,xc⟩:=x;simp only at q0 q1 q2;subst hAd;have X:=Qh (show txs.take (k+1)=txs.take k++[⟨xi,xd,xo,xA,xc⟩] by rw[←hx];exact List.take_succ_eq_append_getElem hlt);have b1:(0:Int)≤(k:Int):=Qn _;have b2:(k:Int)<(txs.length:Int):=by omega
    have jw:IntKind.i64.wrap ((k:Int)+1)=(k:Int)+1:=IntWalk.i64_in _ (by have:=HN1.out;omega);obtain⟨wx,hwx⟩:∃wx,wr.alloc (.cells #[.int .i64 xi,.bool xd,.slice xA xo.length xc] 40)=wx:=⟨_,rfl⟩;have ux:Upd No wr wx:=by rw[←hwx];exact(Upd.refl No wr).alloc _
    have bx:Blk wx wr.heap.size 40 [.int .i64 xi,.bool xd,.slice xA xo.length xc]:=by rw[←hwx];exact Blk.new wr _ _
    have g0:=bx.cell 0;have g1:=bx.cell 1;simp only[Qz,Qs]at g0 g1;have HO:=Qh (Za hown.out ux (fun _ _=>id));have HUX:=Qh (hu.out.trans ux);obtain⟨dv,hdv⟩:∃dv,(txs.take k).any (·.done)=dv:=⟨_,rfl⟩;have HDV:=Qh (show(txs.take (k+1)).any (·.done)=(dv||xd) by rw[X.out,List.any_append,hdv];simp);have HML:=Qh (show(((txs.take k).map (·.id)).map (Value.int .i64))++[.int .i64 xi]=(((txs.take (k+1)).map (·.id)).map (Value.int .i64)) by rw[X.out];simp);rw[hdv];have hk12:k<12:=by have:=HN1.out;omega
    clear hx ux bx hown hu hdv
    cases dv
    ·go_wp2_with (at_builtin;refine Z0 rfl rfl Zdg (v:= .slice A5 k c5) (n:=k) (xs:=((txs.take k).map (·.id)).map (Value.int .i64)) (cells:=[.int .i64 xi]) (by rfl) rfl HO.out rfl rfl (by omega) (by omega) HUX.out.size ?_;intro g9 c9 w9 hown9 hu9 hg9 hlt9;rw[HML.out]at hown9;have HO9:=Qh hown9;have HU9:=Qh (HUX.out.then_ hu9 (fun i e=>Or.inr (HO.out.lt i e).1));clear hown9 hu9 hg9 hlt9)
     go_roundg (gk-1)
     case measure=>omega
     case rel=>exact⟨k+1,some ⟨g9,0,none⟩,c9,by omega,by simp,by rw[HDV.out];simp,rfl,HO9,HU9⟩
    ·go_wp2_with (at_builtin;refine Z0 rfl rfl Zdg (v:= .slice A5 k c5) (n:=k) (xs:=((txs.take k).map (·.id)).map (Value.int .i64)) (cells:=[.int .i64 xi]) (by rfl) rfl HO.out rfl rfl (by omega) (by omega) HUX.out.size ?_;intro g9 c9 w9 hown9 hu9 hg9 hlt9;rw[HML.out]at hown9;have HO9:=Qh hown9;have HU9:=Qh (HUX.out.then_ hu9 (fun i e=>Or.inr (HO.out.lt i e).1));clear hown9 hu9 hg9 hlt9)
     go_roundg (gk-1)
     case measure=>omega
     case rel=>exact⟨k+1,some ⟨g9,0,none⟩,c9,by omega,by simp,by rw[HDV.out];simp,rfl,HO9,HU9⟩
   ·obtain rfl:k=txs.length:=by omega
    rw[List.take_length]at hown ⊢;obtain⟨dv,hdv⟩:∃dv,txs.any (·.done)=dv:=⟨_,rfl⟩;rw[hdv]at HNO ⊢;have HDV:=Qh hdv;have hur:=hu.out;have HI:=Qh (Ints.of_own (xs:=txs.map (·.id)) (n:=txs.length) hown.out);have CE2:=Qh (CE.out _ (HUC.out.trans hu.out));obtain⟨o,ho⟩:∃o,ZlU (ZbW (txs.map (·.id)) pl) 16=o:=⟨_,rfl⟩
    have hq:(o.2==16)=(v4||v5):=by
     rw[←HOR.out,←ho]
     cases hd:ZbW (txs.map (·.id)) pl with
     |none=>rfl
     |some a=>rfl
    have HT:=Qh ho;have HUU:=Qh (HUC.out.trans hu.out);clear hown hu hdv ho
    have hdd:dv=true∨(dv=false∧false=false∧v2=false∧v3=false∧v4=false∧v5=false):=by
     cases dv with
     |true=>exact Or.inl rfl
     |false=>exact Or.inr ⟨rfl,⟨rfl,(HNO.out rfl).2⟩⟩
    clear HNO;rcases hdd with rfl|⟨rfl,_,rfl,rfl,rfl,rfl⟩
    ·go_wp2_with fail
     refine(CE2.out).mono ?_;rintro e w6 ⟨A6,c6,rfl,hx6,hu6⟩;have C2:=Qh (ZgN (c:=c6) hx6 (by have:=HF.out;omega) rfl HPL.out rfl)
     go_wp2_with fail
     refine(C2.out).mono ?_;rintro e w7 ⟨A7,c7,rfl,⟨G7,hx7⟩,hu7⟩;have hu67:=hu6.trans hu7;have ct:=Zju _ G7 w7 A5 A7 c5 c7 (txs.map (·.id)) pl (HI.out.upd hu67 (fun _ _=>id)) hx7 (by rw[List.length_map];have:=HN1.out;omega) (by have:=HF.out;omega);rw[HT.out,List.length_map]at ct;have CT:=Qh ct;have z4:∀W,Upd No w7 W→W.cell? ⟨y,4,none⟩=some (.bool v4):=fun W u=>a4 W ((hur.trans hu67).trans u)
     have z5:∀W,Upd No w7 W→W.cell? ⟨y,5,none⟩=some (.bool _):=fun W u=>a5 W ((hur.trans hu67).trans u)
     clear hx6 hx7 hu6 hu7 ct
     go_wp2_with fail
     refine CT.out.mono ?_;rintro e w8 ⟨A8,c8,rfl,_,hu8⟩;go_wp2
     all_goals (go_ret;exact⟨by first|rfl|(simp only [hq];done),U0.out.trans (HUU.out.trans (hu67.trans hu8))⟩)
    ·go_wp2_with fail
     refine(CE2.out).mono ?_;rintro e w6 ⟨A6,c6,rfl,hx6,hu6⟩;have C2:=Qh (ZgN (c:=c6) hx6 (by have:=HF.out;omega) rfl HPL.out rfl)
     go_wp2_with fail
     refine(C2.out).mono ?_;rintro e w7 ⟨A7,c7,rfl,⟨G7,hx7⟩,hu7⟩;have hu67:=hu6.trans hu7;have ct:=Zju _ G7 w7 A5 A7 c5 c7 (txs.map (·.id)) pl (HI.out.upd hu67 (fun _ _=>id)) hx7 (by rw[List.length_map];have:=HN1.out;omega) (by have:=HF.out;omega);rw[HT.out,List.length_map]at ct;have CT:=Qh ct;have z4:∀W,Upd No w7 W→W.cell? ⟨y,4,none⟩=some (.bool false):=fun W u=>a4 W ((hur.trans hu67).trans u)
     have z5:∀W,Upd No w7 W→W.cell? ⟨y,5,none⟩=some (.bool _):=fun W u=>a5 W ((hur.trans hu67).trans u)
     clear hx6 hx7 hu6 hu7 ct
     go_wp2_with fail
     refine CT.out.mono ?_;rintro e w8 ⟨A8,c8,rfl,_,hu8⟩;go_wp2
     all_goals (go_ret;exact⟨by first|rfl|(simp only [hq];done),U0.out.trans (HUU.out.trans (hu67.trans hu8))⟩)
 ·go_wp2;clear hwc hy
  go_loopg [4,5,31] txs.length (fun gk dn s i wr=>∃(k:Nat) (A5:Option Addr) (c5:Nat),k+gk=txs.length∧i= .int .i64 (k:Int)∧dn= .bool ((txs.take k).any (·.done))∧s= .slice A5 k c5∧Hid (wr.ownsRow wc.heap.size 3 1 (.slice A5 k c5) k (((txs.take k).map (·.id)).map (Value.int .i64)))∧Hid (Upd No wc wr))
  case atStart=>exact⟨0,none,0,by omega,rfl,rfl,rfl,Qh (World.ownsRow_nil _ _ _ _),Qh (Upd.refl _ _)⟩
  case round=>
   obtain⟨k,A5,c5,hgk,rfl,rfl,rfl,hown,hu⟩:=hrel
   by_cases hlt:k<txs.length
   ·obtain⟨ad,hAd,q0,q1,q2⟩:=(HTX.out.upd hu.out (fun _ _=>id)).tx_at hlt;simp only at hAd q0 q1 q2;obtain⟨x,hx⟩:∃x,txs[k]=x:=⟨_,rfl⟩;rw[hx]at q0 q1 q2;obtain⟨xi,xd,xo,xA,xc⟩:=x;simp only at q0 q1 q2;subst hAd;have X:=Qh (show txs.take (k+1)=txs.take k++[⟨xi,xd,xo,xA,xc⟩] by rw[←hx];exact List.take_succ_eq_append_getElem hlt);have b1:(0:Int)≤(k:Int):=Qn _;have b2:(k:Int)<(txs.length:Int):=by omega
    have jw:IntKind.i64.wrap ((k:Int)+1)=(k:Int)+1:=IntWalk.i64_in _ (by have:=HN1.out;omega);obtain⟨wx,hwx⟩:∃wx,wr.alloc (.cells #[.int .i64 xi,.bool xd,.slice xA xo.length xc] 40)=wx:=⟨_,rfl⟩;have ux:Upd No wr wx:=by rw[←hwx];exact(Upd.refl No wr).alloc _
    have bx:Blk wx wr.heap.size 40 [.int .i64 xi,.bool xd,.slice xA xo.length xc]:=by rw[←hwx];exact Blk.new wr _ _
    have g0:=bx.cell 0;have g1:=bx.cell 1;simp only[Qz,Qs]at g0 g1;have HO:=Qh (Za hown.out ux (fun _ _=>id));have HUX:=Qh (hu.out.trans ux);obtain⟨dv,hdv⟩:∃dv,(txs.take k).any (·.done)=dv:=⟨_,rfl⟩;have HDV:=Qh (show(txs.take (k+1)).any (·.done)=(dv||xd) by rw[X.out,List.any_append,hdv];simp);have HML:=Qh (show(((txs.take k).map (·.id)).map (Value.int .i64))++[.int .i64 xi]=(((txs.take (k+1)).map (·.id)).map (Value.int .i64)) by rw[X.out];simp);rw[hdv];have hk12:k<12:=by have:=HN1.out;omega
    clear hx ux bx hown hu hdv
    cases dv
    ·go_wp2_with (at_builtin;refine Z0 rfl rfl Zdg (v:= .slice A5 k c5) (n:=k) (xs:=((txs.take k).map (·.id)).map (Value.int .i64)) (cells:=[.int .i64 xi]) (by rfl) rfl HO.out rfl rfl (by omega) (by omega) HUX.out.size ?_;intro g9 c9 w9 hown9 hu9 hg9 hlt9;rw[HML.out]at hown9;have HO9:=Qh hown9;have HU9:=Qh (HUX.out.then_ hu9 (fun i e=>Or.inr (HO.out.lt i e).1));clear hown9 hu9 hg9 hlt9)
     go_roundg (gk-1)
     case measure=>omega
     case rel=>exact⟨k+1,some ⟨g9,0,none⟩,c9,by omega,by simp,by rw[HDV.out];simp,rfl,HO9,HU9⟩
    ·go_wp2_with (at_builtin;refine Z0 rfl rfl Zdg (v:= .slice A5 k c5) (n:=k) (xs:=((txs.take k).map (·.id)).map (Value.int .i64)) (cells:=[.int .i64 xi]) (by rfl) rfl HO.out rfl rfl (by omega) (by omega) HUX.out.size ?_;intro g9 c9 w9 hown9 hu9 hg9 hlt9;rw[HML.out]at hown9;have HO9:=Qh hown9;have HU9:=Qh (HUX.out.then_ hu9 (fun i e=>Or.inr (HO.out.lt i e).1));clear hown9 hu9 hg9 hlt9)
     go_roundg (gk-1)
     case measure=>omega
     case rel=>exact⟨k+1,some ⟨g9,0,none⟩,c9,by omega,by simp,by rw[HDV.out];simp,rfl,HO9,HU9⟩
   ·obtain rfl:k=txs.length:=by omega
    rw[List.take_length]at hown ⊢;obtain⟨dv,hdv⟩:∃dv,txs.any (·.done)=dv:=⟨_,rfl⟩;rw[hdv]at HNO ⊢;have HDV:=Qh hdv;have hur:=hu.out;have HI:=Qh (Ints.of_own (xs:=txs.map (·.id)) (n:=txs.length) hown.out);have CE2:=Qh (CE.out _ (HUC.out.trans hu.out));obtain⟨o,ho⟩:∃o,ZlU (ZbW (txs.map (·.id)) pl) 16=o:=⟨_,rfl⟩
    have hq:(o.2==16)=(true||v5):=by
     rw[←HOR.out,←ho]
     cases hd:ZbW (txs.map (·.id)) pl with
     |none=>rfl
     |some a=>rfl
    have HT:=Qh ho;have HUU:=Qh (HUC.out.trans hu.out);clear hown hu hdv ho
    have hdd:dv=true∨(dv=false∧true=false∧v2=false∧v3=false∧true=false∧v5=false):=by
     cases dv with
     |true=>exact Or.inl rfl
     |false=>exact Or.inr ⟨rfl,HNO.out rfl⟩
    clear HNO;rcases hdd with rfl|⟨rfl,hbad,_⟩
    ·go_wp2_with fail
     refine(CE2.out).mono ?_;rintro e w6 ⟨A6,c6,rfl,hx6,hu6⟩;have C2:=Qh (ZgN (c:=c6) hx6 (by have:=HF.out;omega) rfl HPL.out rfl)
     go_wp2_with fail
     refine(C2.out).mono ?_;rintro e w7 ⟨A7,c7,rfl,⟨G7,hx7⟩,hu7⟩;have hu67:=hu6.trans hu7;have ct:=Zju _ G7 w7 A5 A7 c5 c7 (txs.map (·.id)) pl (HI.out.upd hu67 (fun _ _=>id)) hx7 (by rw[List.length_map];have:=HN1.out;omega) (by have:=HF.out;omega);rw[HT.out,List.length_map]at ct;have CT:=Qh ct;have z4:∀W,Upd No w7 W→W.cell? ⟨y,4,none⟩=some (.bool true):=fun W u=>a4 W ((hur.trans hu67).trans u)
     have z5:∀W,Upd No w7 W→W.cell? ⟨y,5,none⟩=some (.bool _):=fun W u=>a5 W ((hur.trans hu67).trans u)
     clear hx6 hx7 hu6 hu7 ct
     go_wp2_with fail
     refine CT.out.mono ?_;rintro e w8 ⟨A8,c8,rfl,_,hu8⟩;go_wp2
     all_goals (go_ret;exact⟨by first|rfl|(simp only [hq];done),U0.out.trans (HUU.out.trans (hu67.trans hu8))⟩)
    ·cases hbad
end Go.Proofs.YtklmahmfmbppkaaGreat
