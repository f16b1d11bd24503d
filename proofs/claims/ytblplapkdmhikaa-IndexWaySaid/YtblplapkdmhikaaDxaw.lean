/- Whether a transaction is right. -/
import Derived.IntWalk
import Derived.Test.YtblplapkdmhikaaDxan
import Derived.Test.YtblplapkdmhikaaDxap
namespace Go.Proofs.Ytblplapkdmhikaa
set_option linter.unusedVariables false
set_option linter.unusedSimpArgs false
section
open Go.RowKit
theorem Zb1 {id:Int} {l:List HOp} {k:Nat} (h:ZA id l k≠0):∀n,ZA id l (k+n)=ZA id l k
 |0=>rfl
 |n+1=>by
  have ih:=Zb1 h n
  show(if ZA id l (k+n)=0 then ZU id l (k+n) else ZA id l (k+n))=_
  rw[ih,if_neg h]
theorem Zcl {id:Int} {l:List HOp} {k:Nat} {e:Int} (hk:k<l.length) (h0:ZA id l k=0) (hb:ZU id l k=e) (he:e≠0):ZA id l l.length=e:=by
 have h1:ZA id l (k+1)=e:=by
  show(if ZA id l k=0 then ZU id l k else ZA id l k)=_
  rw[if_pos h0,hb]
 have:=Zb1 (id:=id) (l:=l) (k:=k+1) (by rw[h1];exact he) (l.length-(k+1));rw[show k+1+(l.length-(k+1))=l.length by omega,h1]at this;exact this
theorem ZbN {id:Int} {l:List HOp} {k:Nat} (h0:ZA id l k=0) (hb:ZU id l k=0):ZA id l (k+1)=0:=by
 show(if ZA id l k=0 then ZU id l k else ZA id l k)=_
 rw[if_pos h0,hb]
theorem ZdK {id:Int} {l:List HOp} {k:Nat} {x:HOp} (hk:k<l.length) (hx:l[k]=x) (h:opB x=false):ZU id l k=1:=by
 unfold ZU;rw[Qg hk,hx];simp[h]
theorem ZdU {id:Int} {l:List HOp} {k:Nat} {x:HOp} (hk:k<l.length) (hx:l[k]=x) (h:opB x=true) (hr:x.read=false):ZU id l k=0:=by
 unfold ZU;rw[Qg hk,hx];simp[h,hr]
theorem ZdW {id:Int} {l:List HOp} {k:Nat} {x:HOp} (hk:k<l.length) (hx:l[k]=x) (h:opB x=true) (ht:(x.tx==id)=false):ZU id l k=0:=by
 unfold ZU;rw[Qg hk,hx];simp[h,ht]
theorem ZdV {id:Int} {l:List HOp} {k:Nat} {x:HOp} (hk:k<l.length) (hx:l[k]=x) (h:opB x=true) (hn:x.nth≤(wrN l x.key k:Int)):ZU id l k=0:=by
 unfold ZU;rw[Qg hk,hx];simp[h,hn]
theorem Zfb {id:Int} {l:List HOp} {k:Nat} {x:HOp} (hk:k<l.length) (hx:l[k]=x) (h:opB x=true) (hr:x.read=true) (ht:(x.tx==id)=true) (hn:¬x.nth≤(wrN l x.key k:Int)):ZU id l k=6:=by
 unfold ZU;rw[Qg hk,hx];simp[h,hr,ht,hn]
theorem ZeJ {x:HOp} (h:opB x=true) (hr:x.read=true) (ht:x.tx≠0):1≤x.nth:=by
 unfold opB ZX Zad at h;rw[hr]at h;simp only[if_true,Bool.and_eq_true,Bool.or_eq_true,beq_iff_eq,decide_eq_true_eq]at h;omega
set_option maxRecDepth 100000 in
set_option maxHeartbeats 4000000 in
theorem Zdc (F:Nat→Prop) (w:World) (i0:Int) (dn:Bool) (A:Option Addr) (c:Nat) (l:List HOp) (h:HOps F w A l) (hl:Zd l.length):
  Calls Try.prog 55 #[.agg #[.int .i64 i0,.bool dn,.slice A l.length c]] w fun e w'=>e= .returned (.int .i64 (Zn i0 l))∧Upd No w w':=by
 unfold Zd at hl;have uT:=(Upd.refl No w).alloc (.cells #[.int .i64 i0,.bool dn,.slice A l.length c] 35)
 by_cases hi1:i0<1
 ·have hv:=Qh (show Zn i0 l=1 by unfold Zn idB;rw[decide_eq_false (show¬1≤i0 by omega)];simp)
  go_enter Try.func55,Try.ntmps55
  go_wp2
  go_ret
  exact⟨by rw[hv.out];rfl,uT⟩
 ·by_cases hi2:1048575<i0
  ·have hv:=Qh (show Zn i0 l=1 by unfold Zn idB;rw[decide_eq_false (show¬i0≤1048575 by omega)];simp)
   go_enter Try.func55,Try.ntmps55
   go_wp2
   go_ret
   exact⟨by rw[hv.out];rfl,uT⟩
  ·have hid:idB i0=true:=by unfold idB;simp;omega
   by_cases hi3:4095<l.length
   ·have hv:=Qh (show Zn i0 l=9 by unfold Zn;rw[hid,if_neg (by decide),if_pos hi3]);clear hid
    go_enter Try.func55,Try.ntmps55
    go_wp2
    go_ret
    exact⟨by rw[hv.out];rfl,uT⟩
   ·have HV:=Qh (show Zn i0 l=ZA i0 l l.length by unfold Zn;rw[hid,if_neg (by decide),if_neg hi3]);clear hid;have bT:=Qh (Blk.new w 35 [.int .i64 i0,.bool dn,.slice A l.length c]);have hmm:= @run_makeMap Try.prog;have hn0:=MapE.new (w.alloc (.cells #[.int .i64 i0,.bool dn,.slice A l.length c] 35)) Zam;simp only[World.size_alloc]at hn0;have HN:=Qh hn0;clear hn0
    go_enter Try.func55,Try.ntmps55
    go_wp2
    go_loopg [25] l.length (fun gk i wr=>∃(k:Nat) (m:List ((Int×Int)×Value)),k+gk=l.length∧i= .int .i64 k∧Hid (MapE wr (w.heap.size+1) Zam m)∧Hid (WrM m l k)∧Hid (ZA i0 l k=0)∧Upd No (w.alloc (.cells #[.int .i64 i0,.bool dn,.slice A l.length c] 35)) wr)
    case atStart=>exact⟨0,[],by omega,rfl,Qh HN.out,Qh (WrM.nil l),Qh rfl,(Upd.refl No _).alloc _⟩
    case round=>
     obtain⟨k,m,hgk,rfl,hm,hW,h0,hu⟩:=hrel;clear hmm
     by_cases hlt:k<l.length
     ·obtain⟨ad,hAd,q0,q1,q2,q3⟩:=(h.upd (uT.trans hu) (fun _ _=>id)).at_ hlt;obtain⟨x,hx⟩:∃x,l[k]=x:=⟨_,rfl⟩;rw[hx]at q0 q1 q2 q3;subst hAd;have X:=Qh hx;have b1:(0:Int)≤(k:Int):=Qn _;have b2:(k:Int)<(l.length:Int):=by omega
      have uA:=(Upd.refl No wr).alloc (.cells #[.bool x.read,.int .i64 x.key,.int .i64 x.tx,.int .i64 x.nth] 75);have bo:=Qh (Blk.new wr 75 [.bool x.read,.int .i64 x.key,.int .i64 x.tx,.int .i64 x.nth]);clear hx
      cases hb:opB x
      ·have Hb:=Qh (show Zem (opB x)=1 by rw[hb];rfl);have HV2:=Qh (show Zn i0 l=1 by rw[HV.out];exact Zcl hlt h0.out (ZdK hlt X.out hb) (by decide));clear hb
       go_wp2_with fail
       refine(ZeI _ x).mono ?_;rintro e w1 ⟨he,hu1⟩;rw[Hb.out]at he;subst he;go_wp2
       go_ret
       exact⟨by rw[HV2.out];rfl,((uT.trans hu).trans uA).trans hu1⟩
      ·have Hb:=Qh (show Zem (opB x)=0 by rw[hb];rfl);have Hop:=Qh hb;clear hb;have hl1:=hm.out.lt;have hm1:=hm.out.upd uA id;have bT1:=Qh ((bT.out.upd hu id).upd uA id)
       go_wp2_with fail
       refine(ZeI _ x).mono ?_;rintro e w1 ⟨he,hu1⟩;rw[Hb.out]at he;subst he;have bo1:=bo.out.upd hu1 id;have bT2:=bT1.out.upd hu1 id;have hm2:=hm1.upd hu1 id;have k0:=bo1.cell 0;have k1:=bo1.cell 1;have k2:=bo1.cell 2;have k3:=bo1.cell 3;have t0:=bT2.cell 0;simp only[Qz,Qs]at k0 k1 k2 k3 t0;have HU:=Qh ((hu.trans uA).trans hu1);have Hm2:=Qh hm2;have Hbo:=Qh bo1;have hwn:wr.heap.size≠w.heap.size+1:=by omega
       have hun:∀i,One (w.heap.size+1) i→w.heap.size+1≤i:=fun i e=>by cases e;exact Nat.le_refl _
       clear uA hu1 hm1 hm2 bo1 bT2
       cases hr:x.read
       ·rw[hr]at k0;have hN:=hW.out x.key 0;rw[if_pos rfl]at hN;have hwl:=Zer l x.key k;obtain⟨N,hNN⟩:∃N,wrN l x.key k=N:=⟨_,rfl⟩;have hWp:=hW.out.put hlt X.out hr;rw[hNN]at hN hwl hWp;have HWp:=Qh hWp;have Hr:=Qh hr;have H0:=Qh (ZbN h0.out (ZdU hlt X.out Hop.out hr));have hmd:MapE w1.drew (w.heap.size+1) Zam m:=Hm2.out;obtain⟨st,w2,e2,hm3,hu2,hst⟩:=ZbI ZaR Try.underlying134 ZaG hmd (x.key,0);have e1:=Zw ZaR Try.underlying134 ZaG hmd.is (x.key,0);have e3:=Zw ZaR Try.underlying134 ZaG hm3.is (x.key,0);rw[Zr]at e3;rw[hN]at e1 e2 e3;obtain⟨w3,e4,hm4,hu3⟩:=hst (.int .i64 ((N:Int)+1));have k2':∀{p:Addr} {v:Value},p.block=wr.heap.size→w1.cell? p=some v→w2.cell? p=some v:=fun hp hc=>(Upd.keep hu2 hc (by rw[hp];exact hwn))
        have k3':∀{p:Addr} {v:Value},p.block=wr.heap.size→w1.cell? p=some v→w3.cell? p=some v:=fun hp hc=>(Upd.keep hu3 hc (by rw[hp];exact hwn))
        change (Instr.lookup 134 (.map (some (w.heap.size+1))) (.agg #[.int .i64 x.key,.int .i64 0]) false).run Try.prog w1.drew= .ok (.int .i64 N) w1.drew at e1;change (Instr.lookup 134 (.map (some (w.heap.size+1))) (.agg #[.int .i64 x.key,.int .i64 0]) false).run Try.prog w2= .ok (.int .i64 N) w2 at e3;change (Instr.mapEntry 134 (.map (some (w.heap.size+1))) (.agg #[.int .i64 x.key,.int .i64 0])).run Try.prog w1.drew= .ok (.tuple #[.int .i64 N,.int .i64 st]) w2 at e2;change (Instr.entryStore 134 (.map (some (w.heap.size+1))) (.int .i64 st) (.int .i64 ((N:Int)+1))).run Try.prog w2= .ok () w3 at e4;have k1w2:=k2' rfl k1;have Hk:=Qh (And.intro (k3' rfl k0) (k3' rfl k1));clear hN hNN hWp hr hst k2' hmd;have hwr:IntKind.i64.wrap ((N:Int)+1)=(N:Int)+1:=IntWalk.i64_in _ (by omega);go_wp2
        go_region_held3 (fun w'=>w'.cell? ⟨wr.heap.size,1,none⟩=some (.int .i64 x.key)) (first|exact k1|exact k1w2|exact Hk.out.2) (fail)
        all_goals
         clear e1 e2 e3 e4 k1 k0 k2 k3 k1w2 hwr;have k1:=Hk.out.2;have hmd:MapE w3.drew (w.heap.size+1) Zam (Zu m (x.key,0) (.int .i64 ((N:Int)+1))):=hm4;have e1:=Zw ZaR Try.underlying134 ZaG hmd.is (x.key,0);rw[Zr]at e1;obtain⟨w5,e2,hm5,hu5⟩:=Zdi ZaR Try.underlying134 hmd (x.key,(N:Int)+1) (.int .i64 1);change (Instr.lookup 134 (.map (some (w.heap.size+1))) (.agg #[.int .i64 x.key,.int .i64 0]) false).run Try.prog w3.drew= .ok (.int .i64 ((N:Int)+1)) w3.drew at e1;change (Instr.mapUpdate 134 (.map (some (w.heap.size+1))) (.agg #[.int .i64 x.key,.int .i64 ((N:Int)+1)]) (.int .i64 1)).run Try.prog w3.drew= .ok () w5 at e2;have k5:w5.cell? ⟨wr.heap.size,1,none⟩=some (.int .i64 x.key):=Upd.keep hu5 k1 hwn;go_wp2
         go_region_held3 (fun w'=>w'.cell? ⟨wr.heap.size,1,none⟩=some (.int .i64 x.key)) (first|exact k1|exact k5) (fail)
         clear e1 e2 k1 k5;go_wp2
         go_roundg (gk-1)
         case measure=>omega
         case rel=>exact⟨k+1,_,by omega,by go_num,Qh hm5,HWp,H0,(HU.out.then_ (hu3.trans hu5.of_drew).of_drew fun i e=> .inr (by simp only[World.size_alloc];exact hun i e))⟩
       ·rw[hr]at k0;have Hr:=Qh hr;clear hr
        by_cases ht:x.tx=i0
        ·have htb:(x.tx==i0)=true:=by simpa using ht
         have hn1:1≤x.nth:=ZeJ Hop.out Hr.out (by rw[ht];omega);have hN:=hW.out x.key x.nth;rw[if_neg (show¬x.nth=0 by omega)]at hN;have Htb:=Qh htb;have e1:=Zw ZaR Try.underlying134 ZaG Hm2.out.is (x.key,x.nth);rw[hN]at e1;change (Instr.lookup 134 (.map (some (w.heap.size+1))) (.agg #[.int .i64 x.key,.int .i64 x.nth]) false).run Try.prog w1= .ok _ w1 at e1;clear hN
         by_cases hle:x.nth≤(wrN l x.key k:Int)
         ·rw[if_pos (show 1≤x.nth∧x.nth≤(wrN l x.key k:Int) from⟨hn1,hle⟩)]at e1;have H0:=Qh (ZbN h0.out (ZdV hlt X.out Hop.out hle));have HWp:=Qh (hW.out.skip hlt (by rw[X.out];exact Hr.out));clear ht hle;go_wp2
          go_roundg (gk-1)
          case measure=>omega
          case rel=>exact⟨k+1,m,by omega,by go_num,Hm2,HWp,H0,HU.out⟩
         ·rw[if_neg (show¬(1≤x.nth∧x.nth≤(wrN l x.key k:Int)) from fun e=>hle e.2)]at e1;have HV2:=Qh (show Zn i0 l=6 by rw[HV.out];exact Zcl hlt h0.out (Zfb hlt X.out Hop.out Hr.out htb hle) (by decide));clear ht hle;go_wp2
          go_ret
          exact⟨by rw[HV2.out];rfl,uT.trans HU.out⟩
        ·have htb:(x.tx==i0)=false:=by simpa using ht
         have H0:=Qh (ZbN h0.out (ZdW hlt X.out Hop.out htb));have HWp:=Qh (hW.out.skip hlt (by rw[X.out];exact Hr.out));clear ht;go_wp2
         go_roundg (gk-1)
         case measure=>omega
         case rel=>exact⟨k+1,m,by omega,by go_num,Hm2,HWp,H0,HU.out⟩
     ·obtain rfl:k=l.length:=by omega
      have HV2:=Qh (show Zn i0 l=0 by rw[HV.out];exact h0.out);go_wp2
      go_ret
      exact⟨by rw[HV2.out];rfl,uT.trans hu⟩
end
end Go.Proofs.Ytblplapkdmhikaa
