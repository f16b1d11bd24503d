/- Orders, the document's: the first order that goes along is walked. -/
import Derived.Test.YtonblekdfinpkaaGreatSybq
namespace Go.Proofs.YtonblekdfinpkaaGreat
set_option linter.unusedVariables false
set_option linter.unusedSimpArgs false
section
open Go.RowKit
set_option maxRecDepth 100000 in
set_option maxHeartbeats 8000000 in
theorem Zk4 (F G:Nat→Prop) (w:World) (A B:Option Addr) (c d:Nat) (ids:List Int) (l:List Edge) (hi:Ints F w A ids) (hl:Walk G w B l) (n1:ids.length≤2000) (n2:l.length≤2000):
  Calls Tryz.prog 70 #[.slice A ids.length c,.slice B l.length d] w (ZgR w (Ze0 (Zbk ids l) 16)):=by
 have HI:=Qh hi;have HL:=Qh hl;clear hi hl
 go_enter Tryz.func70,Tryz.ntmps70
 go_wp2
 go_loopg [6,17] ids.length (fun gk s i wr=>∃(k:Nat) (A6:Option Addr) (c6:Nat) (xs:List Int),k+gk=ids.length∧i= .int .i64 k∧s= .slice A6 xs.length c6∧Hid (xs=Zr [] (ids.take k))∧Hid (xs.length≤c6∧Ints (fun i=>w.heap.size≤i) wr A6 xs)∧Upd No w wr)
 case atStart=>exact⟨0,none,0,[],by omega,rfl,rfl,Qh rfl,Qh ⟨Nat.le_refl _,Ints.nil_⟩,Upd.refl _ _⟩
 case round=>
  obtain⟨k,A6,c6,xs,hgk,rfl,rfl,hs,hx,hu⟩:=hrel;have hxl:xs.length≤2000:=by have:=Zda (ids.take k) [];rw[List.length_take]at this;rw[hs.out];simp at this;omega
  by_cases hlt:k<ids.length
  ·obtain⟨ad,hAd,_,_,hc⟩:=(HI.out.upd hu (fun _ _=>id)).at_ hlt;obtain⟨x,hxx⟩:∃x,ids[k]=x:=⟨_,rfl⟩;rw[hxx]at hc;subst hAd;have HS:=Qh (show Zp x xs=Zr [] (ids.take (k+1)) by rw[hs.out,List.take_succ_eq_append_getElem hlt,hxx,ZhT]);have b1:(0:Int)≤(k:Int):=Qn _;have b2:(k:Int)<(ids.length:Int):=by omega
   have HP:=Qh (ZiK _ wr A6 c6 xs x hx.out.2 (by omega));clear hxx
   go_wp2_with fail
   refine(HP.out).mono ?_;rintro e w1 ⟨A1,c1,rfl,ho1,hu1⟩;have HN:=Qh (And.intro (ZfL ho1) ((Ints.of_owned ho1).weak (fun i _ h=>Nat.le_trans hu.size h)));have HU:=Qh (hu.trans hu1);clear ho1 hu1;go_wp2
   go_roundg (gk-1)
   case measure=>omega
   case rel=>exact⟨k+1,A1,c1,_,by omega,by go_num,rfl,HS,HN,HU.out⟩
  ·obtain rfl:k=ids.length:=by omega
   have HS:Hid (xs=Zam ids):=Qh (by rw[hs.out,List.take_length,ZkS]);obtain⟨wo,hwo⟩:∃wo,wo=wr:=⟨_,rfl⟩;subst hwo;clear hs;go_wp2
   go_loopg [6,9] xs.length (fun gk s6 s9 wr=>∃(L out:List Int) (A6:Option Addr) (c6:Nat) (Ao:Option Addr) (co:Nat),s6= .slice A6 L.length c6∧s9= .slice Ao out.length co∧L.length=gk∧Hid (L.length≤c6∧Ints (fun i=>w.heap.size≤i∧¬Own (.slice Ao out.length co) i) wr A6 L)∧
    Hid (wr.ownsRow w.heap.size 3 1 (.slice Ao out.length co) out.length (out.map (Value.int .i64)))∧Hid (ZcQ l L.length L out=Zbk ids l)∧Hid (out.length+L.length=xs.length)∧Upd No w wr)
   case atStart=>exact⟨xs,[],A6,c6,none,0,rfl,rfl,rfl,Qh ⟨hx.out.1,hx.out.2.weak (fun i _ h=>⟨h,by simp[Own,Value.ownBlock]⟩)⟩,Qh (World.ownsRow_nil _ _ _ _),Qh (by rw[HS.out];rfl),Qh (by simp),hu⟩
   case round=>
    clear hx hu;obtain⟨L,out,A6,c6,Ao,co,rfl,rfl,hgk,hL,ho,hS,hn,hu⟩:=hrel;have hLl:L.length≤2000:=by have:=hn.out;omega
    have hol:out.length≤2000:=by have:=hn.out;omega
    by_cases hz:L=[]
    ·subst hz;have HV:=Qh (show Zbk ids l=some out from hS.out.symm);clear hgk;go_wp2
     go_ret2
     exact⟨Ao,co,by rw[HV.out];rfl,by rw[HV.out];exact ho.out,hu⟩
    ·have hLp:=List.length_pos_iff.2 hz;have hLp2:(0:Int)<(L.length:Int):=by omega
     have HZ:=Qh hz;obtain⟨wl,hwl⟩:∃wl,wl=wr:=⟨_,rfl⟩;subst hwl
     generalize gk=GK at*
     have HGK:=Qh hgk;clear hz hgk;go_wp2
     go_loopg [10,11] L.length (fun gj s10 s11 wr=>∃(k:Nat) (a:Int),k=gj∧s10= .int .i64 a∧s11= .int .i64 ((k:Int)-1)∧k≤L.length∧Hid (Zbx (ZF l L) (L.drop k) k=a)∧Upd No wl wr)
     case atStart=>exact⟨L.length,-1,rfl,rfl,by go_num,Nat.le_refl _,Qh (by rw[List.drop_length];rfl),Upd.refl _ _⟩
     case round=>
      obtain⟨k,a,rfl,rfl,h11,hkl,ha,huj⟩:=hrel;have a1: -1≤a:=by rw[←ha.out];exact ZmO _ _ _
      cases k with
      |zero=>
       have e0:((0:Nat):Int)-1= -1:=rfl;rw[e0]at h11;subst h11;clear e0;have HA:Hid (Zbx (ZF l L) L 0=a):=ha
       by_cases hneg:a<0
       ·have HV:=Qh (show Zbk ids l=none by rw[←hS.out];exact Zgj (Zgv _ _ _ (by rw[HA.out];omega)) HZ.out);clear ha;go_wp2
        go_ret2
        refine⟨none,0,by rw[HV.out];rfl,by rw[HV.out];exact World.ownsRow_nil _ _ _ _,hu.trans huj⟩
       ·obtain⟨q,x,hq,rfl,hqx,hfx,hcut⟩:=Zlq HA.out hneg;have HI2:=hL.out.2.upd huj (fun _ _=>id);obtain⟨ad,hAd,_,_,hc⟩:=HI2.at_ hq;rw[hqx]at hc;subst hAd;have HO:=Qh (Zb ho.out huj (fun _ _=>id));have HI2:=Qh HI2;have HV:=Qh (show ZcQ l (L.erase x).length (L.erase x) (out++[x])=Zbk ids l by rw[←hS.out];exact(Zgi hfx).symm);have HCUT:=Qh hcut;have hgk:=HGK.out;have HEL:=Qh (show(L.erase x).length+1=L.length by rw[List.length_erase_of_mem (by rw[←hqx];exact List.getElem_mem _)];omega);have hq2:(q:Int)<(L.length:Int):=by omega
        have hq3:(0:Int)≤(q:Int):=Qn _;have hsz:=(hu.trans huj).size;have HU2:=Qh (hu.trans huj);have HC:=Qh hL.out.1;clear ha HA hqx hfx hcut hgk
        go_wp2_with (at_builtin;refine Z8 rfl rfl Z6 (base:=w.heap.size) (v:= .slice Ao out.length co) (n:=out.length) (xs:=out.map (Value.int .i64)) (cells:=[.int .i64 x]) rfl rfl HO.out rfl rfl (by omega) (by omega) (by omega) ?_;intro g9 c9 w9 hown9 hu9 hg9 hlt9;have HD:=Qh (Zo4 w9 _ (some ad) c6 L q (HI2.out.upd hu9 (fun i hi e=>hi.2 e)) (by omega) HC.out (by omega));have HO9:=Qh hown9;have HU9:=Qh (HU2.out.then_ hu9 (fun i e=>Or.inr (HO.out.lt i e).1));clear hown9 hu9 hg9)
        refine Calls.mono HD.out ?_;rintro e w10 ⟨A10,c10,rfl,hc10,hi10,hu10⟩;rw[HCUT.out]at hc10 hi10 ⊢;have HI10:=Qh hi10;have HC10:=Qh hc10;have HU10:=Qh hu10;clear hi10 hc10 hu10;go_wp2
        go_roundg (GK-1)
        case measure=>have:=HEL.out;have:=HGK.out;omega
        case rel=>
         have hl1:(out++[x]).length=out.length+1:=by simp
         refine⟨L.erase x,out++[x],A10,c10,some ⟨g9,0,none⟩,c9,rfl,by rw[hl1],by have:=HEL.out;have:=HGK.out;omega,Qh ⟨HC10.out,HI10.out.weak (fun i _ h=>⟨?_,fun e=> ?_⟩)⟩,?_,HV,?_,HU9.out.trans HU10.out⟩
         ·have:=HU9.out.size;omega
         ·have:g9=i:=by simpa[Own,Value.ownBlock]using e
          omega
         ·rw[hl1,List.map_append];exact Qh (Zb HO9.out HU10.out (fun _ _=>id))
         ·exact Qh (by have:=HEL.out;have:=hn.out;rw[hl1];omega)
      |succ k=>
       have e0:((k+1:Nat):Int)-1=(k:Int):=by omega
       rw[e0]at h11;subst h11;clear e0;have hkl2:k<L.length:=by omega
       obtain⟨x,hxx⟩:∃x,L[k]=x:=⟨_,rfl⟩;have HST:=Qh (Zkm (p:=ZF l L) hkl2 hxx);have HXX:=Qh hxx;have b1:(0:Int)≤(k:Int):=Qn _;have b2:(k:Int)<(L.length:Int):=by omega
       obtain⟨wj,hwj⟩:∃wj,wj=wr:=⟨_,rfl⟩;subst hwj;clear hxx;go_wp2
       go_loopg [12,37] l.length (fun gq s12 s37 wr=>∃(j:Nat) (b:Bool),j+gq=l.length∧s12= .bool b∧s37= .int .i64 j∧Hid ((b&&ZF (l.drop j) L x)=ZF l L x)∧Upd No wj wr)
       case atStart=>exact⟨0,true,by omega,rfl,rfl,Qh rfl,Upd.refl _ _⟩
       case round=>
        obtain⟨j,b,hgq,rfl,rfl,hfr,huq⟩:=hrel
        by_cases hlt:j<l.length
        ·obtain⟨ax,rfl,q0,q1,q2,q3⟩:=(HL.out.upd ((hu.trans huj).trans huq) (fun _ _=>id)).at_ hlt;obtain⟨y,hyy⟩:∃y,l[j]=y:=⟨_,rfl⟩;rw[hyy]at q0 q1 q2 q3;have HFD:=Qh (Zku hlt hyy L x);have i1:(0:Int)≤(j:Int):=Qn _;have i2:(j:Int)<(l.length:Int):=by omega
         obtain⟨wx,hwx⟩:∃wx,wr.alloc (.cells #[.int .i64 y.f,.int .i64 y.t,.int .i64 y.k,.int .i64 y.key] 26)=wx:=⟨_,rfl⟩;have hux:Upd No wj wx:=by rw[←hwx];exact huq.alloc _
         have bo:Blk wx wr.heap.size 26 [.int .i64 y.f,.int .i64 y.t,.int .i64 y.k,.int .i64 y.key]:=by rw[←hwx];exact Blk.new wr _ _
         have d0:∀W,Upd No wx W→W.cell? ⟨wr.heap.size,0,none⟩=some (.int .i64 y.f):=fun W u=>by have:=(bo.upd u id).cell 0;simpa using this
         obtain⟨yt,hyt⟩:∃yt,y.t=yt:=⟨_,rfl⟩;have d1:∀W,Upd No wx W→W.cell? ⟨wr.heap.size,1,none⟩=some (.int .i64 yt):=fun W u=>by have:=(bo.upd u id).cell 1;rw[←hyt];simpa using this
         have HYT:=Qh hyt;rw[hyt]at HFD;have HIX:=hL.out.2.upd (huj.trans hux) (fun _ _=>id);obtain⟨ad,hAd,_,_,hc⟩:=HIX.at_ hkl2;rw[HXX.out]at hc;subst hAd;have d2:∀W,Upd No wx W→W.cell? (ad.add k)=some (.int .i64 x):=fun W u=>u.keepNo hc
         obtain⟨v,hv⟩:∃v,decide (y.f∈L)=v:=⟨_,rfl⟩;have HIN:=Qh (fun(W:World) (u:Upd No wx W)=>Znp W _ (some ad) c6 L y.f (HIX.upd u (fun _ _=>id)) (by omega) hv);have hxz:Upd No wx wx:=Upd.refl _ _;have HV:=Qh hv;clear hyy bo hc HIX hv hyt
         cases b
         ·go_wp2;have HR:=Qh (show(false&&ZF (l.drop (j+1)) L x)=ZF l L x by rw[←hfr.out,HFD.out];simp[Bool.false_and]);refine wp_region_noPanic ?_;refine wp_region_held_drew (S:=(fun w'=>Upd No wx w')) (by kernel_rfl) ?_ (fun hHeld=> ?_)
          ·(first|exact hxz.drew|exact hHeld.trans hu9)
          refine wpK 0 rfl ?_;refine wpK 1 rfl ?_;refine wpN 2 rfl ?_;refine wpN 3 rfl ?_;refine wpN 4 rfl ?_;refine wpN 5 rfl ?_;refine wpN 6 rfl ?_;refine wpN 7 rfl ?_;refine wpN 8 rfl ?_;refine wpN 9 rfl ?_;refine wpN 10 rfl ?_;refine wpN 11 rfl ?_;refine wpN 12 rfl ?_;refine wpR [13] ?_;refine wpC rfl (fun K hK=> ?_) AllReadyH.nil;go_simp;refine hK.out _ _ ?_ (fun hHeld=> ?_)
          ·exact hHeld
          clear hK K
          try simp only[Act.put,sT,sS,sZ]
          refine wpN 14 rfl ?_;refine wpN 15 rfl ?_;refine wpK 16 rfl ?_;refine wpK 17 rfl ?_;refine wpD (NoPanic.normal ?_);have HU9:=Qh (hux.trans hHeld);clear hHeld;go_wp2
          go_roundg (gk-1)
          case measure=>omega
          case rel=>exact⟨j+1,false,by omega,rfl,by go_num,HR,HU9.out⟩
         ·by_cases ht:yt=x
          ·subst ht
           cases v
           ·go_wp2;have HR:=Qh (show(true&&ZF (l.drop (j+1)) L yt)=ZF l L yt by rw[←hfr.out,HFD.out];simp[HV.out]);refine wp_region_noPanic ?_;refine wp_region_held_drew (S:=(fun w'=>Upd No wx w')) (by kernel_rfl) ?_ (fun hHeld=> ?_)
            ·(first|exact hxz.drew|exact hHeld.trans hu9)
            refine wpK 0 rfl ?_;refine wpK 1 rfl ?_;refine wpK 2 rfl ?_;refine wpK 3 rfl ?_;refine wpK 4 rfl ?_;refine wpK 5 rfl ?_;refine wpK 6 rfl ?_;refine wpK 7 rfl ?_;refine wpK 8 rfl ?_;refine wpK 9 rfl ?_;refine wpK 10 rfl ?_;refine wpK 11 rfl ?_;refine wpK 12 rfl ?_;refine wpR [13] ?_;refine wpC rfl (fun K hK=> ?_) AllReadyH.nil;go_simp
            (first
  |(go_at_call 10;refine Calls.mono (HIN.out _ hHeld) ?_;rintro e w9 ⟨rfl,hu9⟩))
            try (go_wp2_with fail)
            refine hK.out _ _ ?_ (fun hHeld=> ?_)
            ·(first|exact hxz.drew|exact hHeld.trans hu9)
            clear hK K
            try simp only[Act.put,sT,sS,sZ]
            refine wpK 14 rfl ?_;refine wpK 15 rfl ?_;refine wpK 16 rfl ?_;refine wpK 17 rfl ?_;refine wpD (NoPanic.normal ?_);have HU9:=Qh (hux.trans hHeld);clear hHeld;go_wp2
            go_roundg (gk-1)
            case measure=>omega
            case rel=>exact⟨j+1,true,by omega,rfl,by go_num,HR,HU9.out⟩
           ·go_wp2;have HR:=Qh (show(false&&ZF (l.drop (j+1)) L yt)=ZF l L yt by rw[←hfr.out,HFD.out];simp[HV.out]);refine wp_region_noPanic ?_;refine wp_region_held_drew (S:=(fun w'=>Upd No wx w')) (by kernel_rfl) ?_ (fun hHeld=> ?_)
            ·(first|exact hxz.drew|exact hHeld.trans hu9)
            refine wpK 0 rfl ?_;refine wpK 1 rfl ?_;refine wpK 2 rfl ?_;refine wpK 3 rfl ?_;refine wpK 4 rfl ?_;refine wpK 5 rfl ?_;refine wpK 6 rfl ?_;refine wpK 7 rfl ?_;refine wpK 8 rfl ?_;refine wpK 9 rfl ?_;refine wpK 10 rfl ?_;refine wpK 11 rfl ?_;refine wpK 12 rfl ?_;refine wpR [13] ?_;refine wpC rfl (fun K hK=> ?_) AllReadyH.nil;go_simp
            (first
  |(go_at_call 10;refine Calls.mono (HIN.out _ hHeld) ?_;rintro e w9 ⟨rfl,hu9⟩))
            try (go_wp2_with fail)
            refine hK.out _ _ ?_ (fun hHeld=> ?_)
            ·(first|exact hxz.drew|exact hHeld.trans hu9)
            clear hK K
            try simp only[Act.put,sT,sS,sZ]
            refine wpK 14 rfl ?_;refine wpK 15 rfl ?_;refine wpK 16 rfl ?_;refine wpK 17 rfl ?_;refine wpD (NoPanic.normal ?_);have HU9:=Qh (hux.trans hHeld);clear hHeld;go_wp2
            go_roundg (gk-1)
            case measure=>omega
            case rel=>exact⟨j+1,false,by omega,rfl,by go_num,HR,HU9.out⟩
          ·have ht3:(yt != x)=true:=by simpa using ht
           go_wp2;have HR:=Qh (show(true&&ZF (l.drop (j+1)) L x)=ZF l L x by rw[←hfr.out,HFD.out];simp[ht]);refine wp_region_noPanic ?_;refine wp_region_held_drew (S:=(fun w'=>Upd No wx w')) (by kernel_rfl) ?_ (fun hHeld=> ?_)
           ·(first|exact hxz.drew|exact hHeld.trans hu9)
           refine wpK 0 rfl ?_;refine wpK 1 rfl ?_;refine wpK 2 rfl ?_;refine wpK 3 rfl ?_;refine wpK 4 rfl ?_;refine wpK 5 rfl ?_;refine wpK 6 rfl ?_;refine wpK 7 rfl ?_;refine wpK 8 rfl ?_;refine wpK 9 rfl ?_;refine wpN 10 rfl ?_;refine wpN 11 rfl ?_;refine wpN 12 rfl ?_;refine wpR [13] ?_;refine wpC rfl (fun K hK=> ?_) AllReadyH.nil;go_simp;refine hK.out _ _ ?_ (fun hHeld=> ?_)
           ·exact hHeld
           clear hK K
           try simp only[Act.put,sT,sS,sZ]
           refine wpN 14 rfl ?_;refine wpK 15 rfl ?_;refine wpK 16 rfl ?_;refine wpK 17 rfl ?_;refine wpD (NoPanic.normal ?_);have HU9:=Qh (hux.trans hHeld);clear hHeld;go_wp2
           go_roundg (gk-1)
           case measure=>omega
           case rel=>exact⟨j+1,true,by omega,rfl,by go_num,HR,HU9.out⟩
        ·obtain rfl:j=l.length:=by omega
         have HFV:=Qh (show b=ZF l L x by rw[←hfr.out,List.drop_length];simp[ZF]);have huf:=huj.trans huq;clear hfr
         cases b
         ·have HN:=Qh (show Zbx (ZF l L) (L.drop k) k=a by rw[HST.out,←HFV.out];exact ha.out);go_wp2
          go_roundg k
          case measure=>omega
          case rel=>exact⟨k,a,rfl,rfl,by go_num,by omega,HN,huf⟩
         ·have HN:=Qh (show Zbx (ZF l L) (L.drop k) k=(k:Int) by rw[HST.out,←HFV.out];rfl);go_wp2
          go_roundg k
          case measure=>omega
          case rel=>exact⟨k,k,rfl,rfl,by go_num,by omega,HN,huf⟩
end
end Go.Proofs.YtonblekdfinpkaaGreat
