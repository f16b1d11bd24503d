/- Closed walks, the document's: the first of the shortest. -/
import Derived.Test.YtdbjokfejmgepaaRabs
namespace Go.Proofs.Ytdbjokfejmgepaa
set_option linter.unusedVariables false
set_option linter.unusedSimpArgs false
section
open Go.RowKit
theorem ZjR {l:List Edge} {mask must:Int} (h:NoWay ((ZU l mask).map Edge.arc) must (Z3 must)):(ZcM (Zab l mask) must).1=0:=by
 have h2:=h.mem (fun a ha=>(Zef (l:=l) (mask:=mask) a).1 ha);obtain⟨lo,hlo⟩:=Zhz (Zab l mask);have hk:∀e∈Zab l mask,1≤e.k∧e.k≤3:=fun e he=>⟨(Za6 (mem_docQ.1 he).2).1,(Za6 (mem_docQ.1 he).2).2.1⟩
 exact Zfs hlo hk (Zdh _ _ List.Pairwise.nil) _ h2
theorem ZlK {l:List Edge} {mask must:Int} (hl:l.length≤100000) (h:(ZcM (Zab l mask) must).1≠0):Zbi l mask must≠[]:=by
 rcases ZlJ l mask must hl with ⟨_,h2⟩|⟨v,h2⟩
 ·exact absurd (ZjR h2) h
 ·intro e;have:=h2.ne;rw[e]at this;exact this rfl
theorem ZlL {q:List Edge} {must:Int}:(ZcM q must).1≤2*(ZaB [] q).length:=by
 have hF:=Zcx (hit:=ZH must (Z3 must) q) (most:=2*(ZaB [] q).length) (ZaB [] q) [] (0,0) (Zdh _ _ List.Pairwise.nil) (.inl ⟨rfl,fun x hx=>by cases hx⟩);rcases hF with h|h
 ·have:(ZcM q must).1=0:=h.1;omega
 ·exact h.2.1
theorem Zkw {must:Int} (h:Zh must 1=true):Z3 must=true:=by unfold Z3;rw[h];rfl
theorem Zkv {must:Int} (h:Zh must 1=false) (h2:Zh must 2=true):Z3 must=true:=by unfold Z3;rw[h,h2];rfl
theorem Zhp {must:Int} (h:Zh must 1=false) (h2:Zh must 2=false) {b:Bool} (h3:Zh must 3=b):Z3 must=b:=by unfold Z3;rw[h,h2,h3];rfl
theorem ZhG {hit:Nat→Bool} {most:Nat} {id:Int} {g i:Nat} {s:Nat×Int} (h:¬(i≤most∧(s.1=0∨i<s.1))):inR hit most id g i s=s:=by
 cases g with
 |zero=>rfl
 |succ g=>
  unfold inR;rw[if_neg];rw[Bool.and_eq_true,Bool.or_eq_true,beq_iff_eq,decide_eq_true_eq,decide_eq_true_eq];exact h
theorem Za3 {hit:Nat→Bool} {most:Nat} {id:Int} {g i:Nat} {s:Nat×Int} (h:i≤most∧(s.1=0∨i<s.1)):inR hit most id (g+1) i s=inR hit most id g (i+1) (if hit i=true then (i,id) else s):=by
 conv=>lhs;unfold inR
 rw[if_pos];rw[Bool.and_eq_true,Bool.or_eq_true,beq_iff_eq,decide_eq_true_eq,decide_eq_true_eq];exact h
theorem ZiG (hit:Int→Nat→Bool) (most:Nat) (id:Int) (l:List Int) (s:Nat×Int):ZaS hit most (id::l) s=ZaS hit most l (inR (hit id) most id most 1 s):=rfl
set_option maxRecDepth 100000 in
set_option maxHeartbeats 16000000 in
theorem Zjs (F:Nat→Prop) (w:World) (A:Option Addr) (c:Nat) (l:List Edge) (mask must:Int) (h:Walk F w A l) (hl:l.length≤2000):
  Calls Try.prog 59 #[.slice A l.length c,.int .i64 mask,.int .i64 must] w (ToldC w (Zbi l mask must)):=by
 have HOf:=Qh (ZiC F w A c l mask h (by omega));obtain⟨kp,hkp⟩:∃kp,(l.filter fun e=>Zh mask e.k)=kp:=⟨_,rfl⟩;have hkl:kp.length≤2000:=by rw[←hkp];exact Nat.le_trans (List.length_filter_le _ _) hl
 obtain⟨q,hq⟩:∃q,Zab l mask=q:=⟨_,rfl⟩;have hq2:ZaW [] kp=q:=by rw[←hq,←hkp];rfl
 have hql:q.length≤2000:=by rw[←hq2];have:=ZgI kp [];simp at this;omega
 obtain⟨ids,hids⟩:∃ids,ZaB [] q=ids:=⟨_,rfl⟩;have hil:ids.length≤4000:=by rw[←hids];have:=ZhI q [];simp at this;omega
 obtain⟨need,hnd⟩:∃need,Z3 must=need:=⟨_,rfl⟩;obtain⟨M,hM⟩:∃M,2*ids.length=M:=⟨_,rfl⟩;have hMw:IntKind.i64.wrap (2*(ids.length:Int))=(M:Int):=by rw[←hM];exact(IntWalk.i64_in _ (by omega)).trans (by omega)
 obtain⟨RR,hRR⟩:∃RR,ZcM q must=RR:=⟨_,rfl⟩;have hov:ZaS (ZH must need q) M ids (0,0)=RR:=by rw[←hRR,←hM,←hids,←hnd];rfl
 have hle:RR.1≤M:=by rw[←hRR,←hM,←hids];exact ZlL
 have hdoc:Zbi l mask must=if RR.1=0 then [] else Zm must q (Zf must q RR.2) RR.1 RR.2 need:=by unfold Zbi;rw[hq,hRR,hnd]
 have hdne:RR.1≠0→Zbi l mask must≠[]:=fun e=>ZlK (by omega) (by rw[hq,hRR];exact e)
 obtain⟨doc,hdd⟩:∃doc,Zbi l mask must=doc:=⟨_,rfl⟩;rw[hdd]at hdoc hdne ⊢;rw[hkp]at HOf;have HSo:=Qh (fun(W:World) (B:Option Addr) (d:Nat) (G:Nat→Prop) (hw:Walk G W B kp)=>hq2▸Zm5 G W B d kp hw (by omega));have HId:=Qh (fun(W:World) (B:Option Addr) (d:Nat) (G:Nat→Prop) (hw:Walk G W B q)=>hids▸ZnO G W B d q hw (by omega));have HWk:=Qh (fun(W:World) (B:Option Addr) (d:Nat) (G:Nat→Prop) (tgt:Int) (steps:Nat) (hs:steps≤100000) (hw:Walk G W B q)=>Zl5 G W B d q must tgt steps hw (by omega) hs);have HNd:=Qh hnd;have HOV0:=Qh hov;have HDoc:=Qh hdoc;have HDne:=Qh hdne;have HQL:=Qh hql;have HRl:=Qh (fun(tgt:Int)=>Zgk must q tgt);have HLE:=Qh hle;clear h hkp hq hq2 hids hnd hRR hov hdoc hdne hdd hle
 go_enter Try.func59,Try.ntmps59
 go_wp2_with fail
 refine(HOf.out).mono ?_;rintro e w1 ⟨A1,c1,rfl,ho1,hu1⟩;have HW1:=Qh (ZdS ho1);clear ho1 HOf
 go_wp2_with fail
 refine(HSo.out w1 A1 c1 _ HW1.out).mono ?_;rintro e w2 ⟨A2,c2,rfl,ho2,hu2⟩;have HW2:=Qh (ZdS ho2);clear ho2 HSo
 go_wp2_with fail
 refine(HId.out w2 A2 c2 _ HW2.out).mono ?_;rintro e w3 ⟨A3,c3,rfl,ho3,hu3⟩;have HI3:=Qh (Ints.weak (G:=fun _=>True) (Ints.of_owned ho3) (fun _ _ _=>trivial));have HW3:=Qh (Walk.upd HW2.out hu3 (fun _ _=>id));have HU3:=Qh ((hu1.trans hu2).trans hu3);clear ho3 hu1 hu2 hu3 HId HW1 HW2
 go_upto_region 3 with fail
 go_cut [10] (fun s wc=>s= .bool need∧Upd No w3 wc)
 case first=>
  cases h1:Zh must 1
  ·cases h2:Zh must 2
   ·cases h3:Zh must 3
    ·have HB1:=Qh (fun W=>Zal W must 1 h1);have HB2:=Qh (fun W=>Zal W must 2 h2);have HB3:=Qh (fun W=>Zal W must 3 h3);have HNV:=Qh (show false=need by rw[←HNd.out,Zhp h1 h2 h3]);clear h1 h2 h3
     go_wp2_with fail
     refine(HB1.out w3).mono ?_;rintro e w4 ⟨rfl,hu4⟩
     go_wp2_with fail
     refine(HB2.out w4).mono ?_;rintro e w5 ⟨rfl,hu5⟩
     go_wp2_with fail
     refine(HB3.out w5).mono ?_;rintro e w6 ⟨rfl,hu6⟩
     go_wp2_with fail
     go_meet
     exact⟨by rw[HNV.out],(hu4.trans hu5).trans hu6⟩
    ·have HB1:=Qh (fun W=>Zal W must 1 h1);have HB2:=Qh (fun W=>Zal W must 2 h2);have HB3:=Qh (fun W=>Zal W must 3 h3);have HNV:=Qh (show true=need by rw[←HNd.out,Zhp h1 h2 h3]);clear h1 h2 h3
     go_wp2_with fail
     refine(HB1.out w3).mono ?_;rintro e w4 ⟨rfl,hu4⟩
     go_wp2_with fail
     refine(HB2.out w4).mono ?_;rintro e w5 ⟨rfl,hu5⟩
     go_wp2_with fail
     refine(HB3.out w5).mono ?_;rintro e w6 ⟨rfl,hu6⟩
     go_wp2_with fail
     go_meet
     exact⟨by rw[HNV.out],(hu4.trans hu5).trans hu6⟩
   ·have HB1:=Qh (fun W=>Zal W must 1 h1);have HB2:=Qh (fun W=>Zal W must 2 h2);have HNV:=Qh (show true=need by rw[←HNd.out,Zkv h1 h2]);clear h1 h2
    go_wp2_with fail
    refine(HB1.out w3).mono ?_;rintro e w4 ⟨rfl,hu4⟩
    go_wp2_with fail
    refine(HB2.out w4).mono ?_;rintro e w5 ⟨rfl,hu5⟩
    go_wp2_with fail
    go_meet
    exact⟨by rw[HNV.out],hu4.trans hu5⟩
  ·have HB1:=Qh (fun W=>Zal W must 1 h1);have HNV:=Qh (show true=need by rw[←HNd.out,Zkw h1]);clear h1
   go_wp2_with fail
   refine(HB1.out w3).mono ?_;rintro e w4 ⟨rfl,hu4⟩
   go_wp2_with fail
   go_meet
   exact⟨by rw[HNV.out],hu4⟩
 case rest=>
  obtain⟨rfl,hu4⟩:=hcut;obtain⟨w4,hw4⟩:∃w4,w4=wc:=⟨_,rfl⟩;subst hw4;have HI4:=Qh (HI3.out.upd hu4 (fun _ _=>id));have HW4:=Qh (Walk.upd HW3.out hu4 (fun _ _=>id));have HU4:=Qh (HU3.out.trans hu4);clear hu4 HI3 HW3;go_wp2
  go_loopg [12,13,39] ids.length (fun gk sb sf i wr=>∃(k b:Nat) (fr:Int),k+gk=ids.length∧i= .int .i64 k∧sb= .int .i64 (b:Int)∧sf= .int .i64 fr∧Hid (ZaS (ZH must need q) M (ids.drop k) (b,fr)=RR)∧Upd No w4 wr)
  case atStart=>exact⟨0,0,0,by omega,rfl,rfl,rfl,HOV0,Upd.refl _ _⟩
  case round=>
   obtain⟨k,b0,fr0,hgk,rfl,rfl,rfl,hov,hu⟩:=hrel;obtain⟨wo,hwo⟩:∃wo,wo=wr:=⟨_,rfl⟩;subst hwo;obtain⟨gk0,hg0⟩:∃gk0,gk0=gk:=⟨_,rfl⟩;subst hg0
   by_cases hk:k<ids.length
   ·obtain⟨ax,rfl,y0⟩:=(HI4.out.upd hu (fun _ _=>id)).at_ hk;obtain⟨xid,hx⟩:∃xid,ids[k]=xid:=⟨_,rfl⟩;have hdr:=List.drop_eq_getElem_cons hk;rw[hx]at y0 hdr;have i1:(0:Int)≤(k:Int):=Qn _;have i2:(k:Int)<(ids.length:Int):=by omega
    obtain⟨SS,hSS⟩:∃SS,inR (ZH must need q xid) M xid M 1 (b0,fr0)=SS:=⟨_,rfl⟩;have HOV:=Qh (show ZaS (ZH must need q) M (ids.drop (k+1)) SS=RR by rw[←hov.out,hdr,ZiG,hSS]);have HSS:=Qh hSS;have HW5:=Qh (HWk.out wo A2 c2 _ xid M (by omega) (Walk.upd HW4.out hu (fun _ _=>id)));have HUO:=Qh hu;have HRL:=Qh (HRl.out xid);clear hx hdr hSS hov hu
    go_wp2_with fail
    refine(HW5.out).mono ?_;rintro e w5 ⟨v5,rfl,hb5,hu5⟩;obtain⟨B1,d1,B2,d2,rfl,hr1,hr2⟩:=hb5;obtain⟨w6,hw6⟩:∃w6,w5.alloc (.cells #[.slice B1 (M+1) d1,.slice B2 (M+1) d2] 125)=w6:=⟨_,rfl⟩;have u6:Upd No w5 w6:=by rw[←hw6];exact(Upd.refl No w5).alloc _
    have HBX:=Qh (show Blk w6 w5.heap.size 125 [.slice B1 (M+1) d1,.slice B2 (M+1) d2] by rw[←hw6];exact Blk.new w5 _ _);have HR1:=Qh (hr1.upd u6);have HR2:=Qh (hr2.upd u6);have HU6:=Qh (hu5.trans u6);clear hr1 hr2 hu5 u6 HW5;go_wp2;clear hw6
    go_loopg [12,13,17] M (fun gk sb sf i wr=>∃(j b:Nat) (fr:Int),gk+j=M+1∧i= .int .i64 (j:Int)∧sb= .int .i64 (b:Int)∧sf= .int .i64 fr∧Hid (inR (ZH must need q xid) M xid gk j (b,fr)=SS)∧Upd No w6 wr)
    case atStart=>exact⟨1,b0,fr0,by omega,rfl,rfl,rfl,HSS,Upd.refl _ _⟩
    case round=>
     obtain⟨i,b,fr,hgi,rfl,rfl,rfl,HS,huj⟩:=hrel;have j1:(0:Int)≤(i:Int):=Qn _
     cases gk with
     |zero=>
      have e1:decide ((i:Int)≤(M:Int))=false:=decide_eq_false (by omega)
      have HX:=Qh (show(b,fr)=SS by
       have:=HS.out;rw[ZhG (fun e=>by omega)]at this;exact this)
      go_wp2
      go_roundg (gk0-1)
      case measure=>omega
      case rel=>exact⟨k+1,b,fr,by omega,by go_num,rfl,rfl,Qh (by rw[HX.out];exact HOV.out),(HUO.out.trans HU6.out).trans huj⟩
     |succ g0=>
      have e1:decide ((i:Int)≤(M:Int))=true:=decide_eq_true (by omega)
      by_cases hb0:b=0
      ·have e2:((b:Int)==0)=true:=by rw[beq_iff_eq];omega
       have r0:=(HBX.out.upd huj id).cell 0;have r1:=(HBX.out.upd huj id).cell 1;simp only[Qz,Qs]at r0 r1;have i5:(i:Int)<((M+1:Nat):Int):=by omega
       have i6:(i:Int)<(M:Int)+1:=by omega
       cases need
       ·obtain⟨ad1,P,cp,e1,y1,hP⟩:=(HR1.out.upd huj).at_ i (by omega);subst e1;have HPP:=Qh (fun(W:World) (u:Upd No wr W)=>hP.upd u (fun _ _=>id));clear hP
        cases hh:decide (xid∈(Zf must q xid i).1)
        ·have HIN:=Qh (fun(W:World) (u:Upd No wr W)=>ZE W _ P cp (Zf must q xid i).1 xid (HPP.out W u) (by have:=HRL.out i;have:=HQL.out;omega) hh)
         have HNX:=Qh (show inR (ZH must false q xid) M xid g0 (i+1) (b,fr)=SS by
          have:=HS.out;rw[Za3 ⟨by omega,.inl hb0⟩]at this;rw[show ZH must false q xid i=false from hh]at this;exact this)
         clear hh
         go_wp2_with fail
         refine(HIN.out wr (Upd.refl _ _)).mono ?_;rintro e w7 ⟨rfl,hu7⟩;go_wp2
         go_roundg g0
         case measure=>omega
         case rel=>exact⟨i+1,b,fr,by omega,by go_num,by first|rfl|(rw[hb0];rfl),rfl,HNX,huj.trans hu7⟩
        ·have HIN:=Qh (fun(W:World) (u:Upd No wr W)=>ZE W _ P cp (Zf must q xid i).1 xid (HPP.out W u) (by have:=HRL.out i;have:=HQL.out;omega) hh)
         have HNX:=Qh (show inR (ZH must false q xid) M xid g0 (i+1) (i,xid)=SS by
          have:=HS.out;rw[Za3 ⟨by omega,.inl hb0⟩]at this;rw[show ZH must false q xid i=true from hh]at this;exact this)
         clear hh
         go_wp2_with fail
         refine(HIN.out wr (Upd.refl _ _)).mono ?_;rintro e w7 ⟨rfl,hu7⟩;go_wp2
         go_roundg g0
         case measure=>omega
         case rel=>exact⟨i+1,i,xid,by omega,by go_num,rfl,rfl,HNX,huj.trans hu7⟩
       ·obtain⟨ad2,P,cp,e1,y1,hP⟩:=(HR2.out.upd huj).at_ i (by omega);subst e1;have HPP:=Qh (fun(W:World) (u:Upd No wr W)=>hP.upd u (fun _ _=>id));clear hP
        cases hh:decide (xid∈(Zf must q xid i).2)
        ·have HIN:=Qh (fun(W:World) (u:Upd No wr W)=>ZE W _ P cp (Zf must q xid i).2 xid (HPP.out W u) (by have:=HRL.out i;have:=HQL.out;omega) hh)
         have HNX:=Qh (show inR (ZH must true q xid) M xid g0 (i+1) (b,fr)=SS by
          have:=HS.out;rw[Za3 ⟨by omega,.inl hb0⟩]at this;rw[show ZH must true q xid i=false from hh]at this;exact this)
         clear hh
         go_wp2_with fail
         refine(HIN.out wr (Upd.refl _ _)).mono ?_;rintro e w7 ⟨rfl,hu7⟩;go_wp2
         go_roundg g0
         case measure=>omega
         case rel=>exact⟨i+1,b,fr,by omega,by go_num,by first|rfl|(rw[hb0];rfl),rfl,HNX,huj.trans hu7⟩
        ·have HIN:=Qh (fun(W:World) (u:Upd No wr W)=>ZE W _ P cp (Zf must q xid i).2 xid (HPP.out W u) (by have:=HRL.out i;have:=HQL.out;omega) hh)
         have HNX:=Qh (show inR (ZH must true q xid) M xid g0 (i+1) (i,xid)=SS by
          have:=HS.out;rw[Za3 ⟨by omega,.inl hb0⟩]at this;rw[show ZH must true q xid i=true from hh]at this;exact this)
         clear hh
         go_wp2_with fail
         refine(HIN.out wr (Upd.refl _ _)).mono ?_;rintro e w7 ⟨rfl,hu7⟩;go_wp2
         go_roundg g0
         case measure=>omega
         case rel=>exact⟨i+1,i,xid,by omega,by go_num,rfl,rfl,HNX,huj.trans hu7⟩
      ·have e2:((b:Int)==0)=false:=by rw[beq_eq_false_iff_ne];omega
       by_cases hib:i<b
       ·have e3:decide ((i:Int)<(b:Int))=true:=decide_eq_true (by omega);have r0:=(HBX.out.upd huj id).cell 0;have r1:=(HBX.out.upd huj id).cell 1;simp only[Qz,Qs]at r0 r1;have i5:(i:Int)<((M+1:Nat):Int):=by omega
        have i6:(i:Int)<(M:Int)+1:=by omega
        cases need
        ·obtain⟨ad1,P,cp,e1,y1,hP⟩:=(HR1.out.upd huj).at_ i (by omega);subst e1;have HPP:=Qh (fun(W:World) (u:Upd No wr W)=>hP.upd u (fun _ _=>id));clear hP
         cases hh:decide (xid∈(Zf must q xid i).1)
         ·have HIN:=Qh (fun(W:World) (u:Upd No wr W)=>ZE W _ P cp (Zf must q xid i).1 xid (HPP.out W u) (by have:=HRL.out i;have:=HQL.out;omega) hh)
          have HNX:=Qh (show inR (ZH must false q xid) M xid g0 (i+1) (b,fr)=SS by
           have:=HS.out;rw[Za3 ⟨by omega,.inr hib⟩]at this;rw[show ZH must false q xid i=false from hh]at this;exact this)
          clear hh
          go_wp2_with fail
          refine(HIN.out wr (Upd.refl _ _)).mono ?_;rintro e w7 ⟨rfl,hu7⟩;go_wp2
          go_roundg g0
          case measure=>omega
          case rel=>exact⟨i+1,b,fr,by omega,by go_num,by first|rfl|(rw[hb0];rfl),rfl,HNX,huj.trans hu7⟩
         ·have HIN:=Qh (fun(W:World) (u:Upd No wr W)=>ZE W _ P cp (Zf must q xid i).1 xid (HPP.out W u) (by have:=HRL.out i;have:=HQL.out;omega) hh)
          have HNX:=Qh (show inR (ZH must false q xid) M xid g0 (i+1) (i,xid)=SS by
           have:=HS.out;rw[Za3 ⟨by omega,.inr hib⟩]at this;rw[show ZH must false q xid i=true from hh]at this;exact this)
          clear hh
          go_wp2_with fail
          refine(HIN.out wr (Upd.refl _ _)).mono ?_;rintro e w7 ⟨rfl,hu7⟩;go_wp2
          go_roundg g0
          case measure=>omega
          case rel=>exact⟨i+1,i,xid,by omega,by go_num,rfl,rfl,HNX,huj.trans hu7⟩
        ·obtain⟨ad2,P,cp,e1,y1,hP⟩:=(HR2.out.upd huj).at_ i (by omega);subst e1;have HPP:=Qh (fun(W:World) (u:Upd No wr W)=>hP.upd u (fun _ _=>id));clear hP
         cases hh:decide (xid∈(Zf must q xid i).2)
         ·have HIN:=Qh (fun(W:World) (u:Upd No wr W)=>ZE W _ P cp (Zf must q xid i).2 xid (HPP.out W u) (by have:=HRL.out i;have:=HQL.out;omega) hh)
          have HNX:=Qh (show inR (ZH must true q xid) M xid g0 (i+1) (b,fr)=SS by
           have:=HS.out;rw[Za3 ⟨by omega,.inr hib⟩]at this;rw[show ZH must true q xid i=false from hh]at this;exact this)
          clear hh
          go_wp2_with fail
          refine(HIN.out wr (Upd.refl _ _)).mono ?_;rintro e w7 ⟨rfl,hu7⟩;go_wp2
          go_roundg g0
          case measure=>omega
          case rel=>exact⟨i+1,b,fr,by omega,by go_num,by first|rfl|(rw[hb0];rfl),rfl,HNX,huj.trans hu7⟩
         ·have HIN:=Qh (fun(W:World) (u:Upd No wr W)=>ZE W _ P cp (Zf must q xid i).2 xid (HPP.out W u) (by have:=HRL.out i;have:=HQL.out;omega) hh)
          have HNX:=Qh (show inR (ZH must true q xid) M xid g0 (i+1) (i,xid)=SS by
           have:=HS.out;rw[Za3 ⟨by omega,.inr hib⟩]at this;rw[show ZH must true q xid i=true from hh]at this;exact this)
          clear hh
          go_wp2_with fail
          refine(HIN.out wr (Upd.refl _ _)).mono ?_;rintro e w7 ⟨rfl,hu7⟩;go_wp2
          go_roundg g0
          case measure=>omega
          case rel=>exact⟨i+1,i,xid,by omega,by go_num,rfl,rfl,HNX,huj.trans hu7⟩
       ·have e3:decide ((i:Int)<(b:Int))=false:=decide_eq_false (by omega)
        have HX:=Qh (show(b,fr)=SS by
         have:=HS.out;rw[ZhG (fun e=>e.2.elim hb0 hib)]at this;exact this)
        go_wp2
        go_roundg (gk0-1)
        case measure=>omega
        case rel=>exact⟨k+1,b,fr,by omega,by go_num,rfl,rfl,Qh (by rw[HX.out];exact HOV.out),(HUO.out.trans HU6.out).trans huj⟩
   ·obtain rfl:k=ids.length:=by omega
    have hrr:(b0,fr0)=RR:=by have:=hov.out;rw[List.drop_length]at this;exact this
    have HUO:=Qh hu
    by_cases hb0:b0=0
    ·have e2:((b0:Int)==0)=true:=by rw[beq_iff_eq];omega
     have HD0:=Qh (show doc=[] by rw[HDoc.out,←hrr];exact if_pos hb0);clear hrr hov;go_wp2
     go_ret2
     rw[HD0.out];exact⟨none,0,rfl,World.ownsRow_nil _ _ _ _,HU4.out.trans HUO.out⟩
    ·have e2:((b0:Int)==0)=false:=by rw[beq_eq_false_iff_ne];omega
     have hd1:doc=Zm must q (Zf must q fr0) b0 fr0 need:=by rw[HDoc.out,←hrr];exact if_neg hb0
     have hd2:doc≠[]:=HDne.out (by rw[←hrr];exact hb0);have hbM:b0≤M:=by have:=HLE.out;rw[←hrr]at this;exact this
     have HD1:=Qh hd1;have HD2:=Qh (show¬doc.length=0 from fun e=>hd2 (List.eq_nil_of_length_eq_zero e));have HW5:=Qh (HWk.out wo A2 c2 _ fr0 b0 (by omega) (Walk.upd HW4.out hu (fun _ _=>id)));have HFi:=Qh (fun(W:World) (u:Upd No wo W) (v:Value) (hv:BackAt W v b0 (Zf must q fr0))=>hd1▸Zmm _ W A2 c2 q v must fr0 b0 b0 need (Zf must q fr0) (Walk.upd HW4.out (HUO.out.trans u) (fun _ _=>id)) (by omega) (Nat.le_refl _) (by omega) hv (fun j=>by have:=HRl.out fr0 j;omega));clear hrr hov hd1 hd2 hu
     go_wp2_with fail
     refine(HW5.out).mono ?_;rintro e w5 ⟨v5,rfl,hb5,hu5⟩
     go_wp2_with fail
     refine(HFi.out w5 hu5 v5 hb5).mono ?_;rintro e w6 ⟨A6,c6,rfl,ho6,hu6⟩;have HO6:=Qh (Z1 ho6 (show w.heap.size≤w5.heap.size from((HU4.out.trans HUO.out).trans hu5).size));have HU6:=Qh (((HU4.out.trans HUO.out).trans hu5).trans hu6);clear ho6 hu6 hu5 hb5;go_wp2
     go_ret2
     refine⟨A6,c6,?_,HO6.out,HU6.out⟩;rw[if_neg HD2.out];rfl
end
end Go.Proofs.Ytdbjokfejmgepaa
