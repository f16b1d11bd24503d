/- Whether a transaction is right. -/
import Derived.Test.YtadmgiljchgccaaGreatTcaj
namespace Go.Proofs.YtadmgiljchgccaaGreat
open Go.RowKit
set_option linter.unusedVariables false
set_option linter.unusedSimpArgs false
set_option maxRecDepth 100000
set_option maxHeartbeats 4000000
theorem ZhB{id:Int}{l:Is}{k:Nat}(h:ZaG id l k≠0):∀n,ZaG id l (k+n)=ZaG id l k
 |0=>rfl
 |n+1=>by
  have ih:=ZhB h n
  show(if ZaG id l (k+n)=0 then ZbM id l (k+n) else ZaG id l (k+n))=_
  rw[ih,if_neg h]
theorem ZiP{id:Int}{l:Is}{k:Nat}{e:Int}(hk:k<l.length)(h0:ZaG id l k=0)(hb:ZbM id l k=e)(he:e≠0):ZaG id l l.length=e:=by
 have h1:ZaG id l (k+1)=e:=by
  show(if ZaG id l k=0 then ZbM id l k else ZaG id l k)=_
  rw[if_pos h0,hb]
 have:=ZhB (id:=id) (l:=l) (k:=k+1) (by rw[h1];exact he) (l.length-(k+1));rw[show k+1+(l.length-(k+1))=l.length by omega,h1]at this;exact this
theorem ZgF{id:Int}{l:Is}{k:Nat}(h0:ZaG id l k=0)(hb:ZbM id l k=0):ZaG id l (k+1)=0:=by
 show(if ZaG id l k=0 then ZbM id l k else ZaG id l k)=_
 rw[if_pos h0,hb]
theorem ZtJ{id:Int}{l:Is}{k:Nat}{x:HOp}(hk:k<l.length)(hx:l[k]=x)(h:opB x=false):ZbM id l k=1:=by
 unfold ZbM;rw[Qg hk,hx];simp[h]
theorem Znq{id:Int}{l:Is}{k:Nat}{x:HOp}(hk:k<l.length)(hx:l[k]=x)(h:opB x=true)(hr:x.read=false):ZbM id l k=0:=by
 unfold ZbM;rw[Qg hk,hx];simp[h,hr]
theorem Zns{id:Int}{l:Is}{k:Nat}{x:HOp}(hk:k<l.length)(hx:l[k]=x)(h:opB x=true)(ht:(x.tx==id)=false):ZbM id l k=0:=by
 unfold ZbM;rw[Qg hk,hx];simp[h,ht]
theorem Znr{id:Int}{l:Is}{k:Nat}{x:HOp}(hk:k<l.length)(hx:l[k]=x)(h:opB x=true)(hn:x.nth<=(wrN l x.key k:Int)):ZbM id l k=0:=by
 unfold ZbM;rw[Qg hk,hx];simp[h,hn]
theorem ZrO{id:Int}{l:Is}{k:Nat}{x:HOp}(hk:k<l.length)(hx:l[k]=x)(h:opB x=true)(hr:x.read=true)(ht:(x.tx==id)=true)(hn:¬x.nth<=(wrN l x.key k:Int)):ZbM id l k=6:=by
 unfold ZbM;rw[Qg hk,hx];simp[h,hr,ht,hn]
theorem Zv3{x:HOp}(h:opB x=true)(hr:x.read=true)(ht:x.tx≠0):1<=x.nth:=by
 unfold opB ZbO Zk at h;rw[hr]at h;simp only[if_true,Hj,Ia,beq_iff_eq,Gw]at h;omega
theorem ZvN(F:Iw)(w:I0)(i0:Int)(dn:Bool)(A:OA)(c:Nat)(l:Is)(h:HOps F w A l)(hl:Zt l.length):
  CN 31 #[.agg #[Qi i0,.bool dn,.slice A l.length c]] w (Qi (ZaT i0 l)):=by
 unfold Zt at hl;have uT:=(Il No w).alloc (.cells #[Qi i0,.bool dn,.slice A l.length c] 39)
 by_cases hi1:i0<1
 ·have hv:=Qh (show ZaT i0 l=1 by unfold ZaT idB;rw[Qf (show¬1<=i0 by omega)];simp);go_enter Tryz.func31,Tryz.ntmps31;go_wp2;go_ret;exact⟨by rw[hv.out];rfl,uT⟩
 ·by_cases hi2:1048575<i0
  ·have hv:=Qh (show ZaT i0 l=1 by unfold ZaT idB;rw[Qf (show¬i0<=1048575 by omega)];simp);go_enter Tryz.func31,Tryz.ntmps31;go_wp2;go_ret;exact⟨by rw[hv.out];rfl,uT⟩
  ·have hid:idB i0=true:=by unfold idB;simp;omega
   by_cases hi3:4095<l.length
   ·have hv:=Qh (show ZaT i0 l=9 by unfold ZaT;rw[hid,if_neg (by decide),if_pos hi3]);clear hid;go_enter Tryz.func31,Tryz.ntmps31;go_wp2;go_ret;exact⟨by rw[hv.out];rfl,uT⟩
   ·have HV:=Qh (show ZaT i0 l=ZaG i0 l l.length by unfold ZaT;rw[hid,if_neg (by decide),if_neg hi3]);clear hid;have bT:=Qh (Im w 39 [Qi i0,.bool dn,.slice A l.length c]);have eT:= @run_makeMap Tryz.prog;have iJ:=MapE.new (w.alloc (.cells #[Qi i0,.bool dn,.slice A l.length c] 39)) ZdD;simp only[Ij]at iJ;have HN:=Qh iJ;clear iJ;go_enter Tryz.func31,Tryz.ntmps31;go_wp2
    go_loopg [25] l.length (fun gk i wr=>∃(k:Nat) (m:List ((Int×Int)×Iz)),k+gk=l.length∧i= Qi k∧Hid (MapE wr (w.heap.size+1) ZdD m)∧Hid (WrM m l k)∧Hid (ZaG i0 l k=0)∧Upd No (w.alloc (.cells #[Qi i0,.bool dn,.slice A l.length c] 39)) wr)
    case atStart=>exact⟨0,[],by omega,rfl,Qh HN.out,Qh (WrM.nil l),Qh rfl,(Il No _).alloc _⟩
    case round=>
     obtain⟨k,m,aI,rfl,hm,hW,h0,hu⟩:=hrel;clear eT
     by_cases hlt:k<l.length
     ·obtain⟨ad,aH,q0,q1,q2,q3⟩:=(h.upd (uT.trans hu) Qo).at_ hlt;obtain⟨x,hx⟩:=Qe (l[k]);rw[hx]at q0 q1 q2 q3;subst aH;have X:=Qh hx;have b1:(0:Int)<=(k:Int):=Qn _;have b2:(k:Int)<(l.length:Int):=by omega
      have uA:=(Il No wr).alloc (.cells #[.bool x.read,Qi x.key,Qi x.tx,Qi x.nth] 66);have bo:=Qh (Im wr 66 [.bool x.read,Qi x.key,Qi x.tx,Qi x.nth]);clear hx
      cases hb:opB x
      ·have Hb:=Qh (show Zpe (opB x)=1 by rw[hb];rfl);have lj:=Qh (show ZaT i0 l=1 by rw[HV.out];exact ZiP hlt h0.out (ZtJ hlt X.out hb) (by decide));clear hb;go_wp2_with fail;refine(Zqw _ x).mono ?_;rintro e w1 ⟨he,hu1⟩;rw[Hb.out]at he;subst he;go_wp2;go_ret;exact⟨by rw[lj.out];rfl,((uT.trans hu).trans uA).trans hu1⟩
      ·have Hb:=Qh (show Zpe (opB x)=0 by rw[hb];rfl);have qv:=Qh hb;clear hb;have aN:=hm.out.lt;have cd:=hm.out.upd uA id;have bT1:=Qh ((bT.out.upd hu id).upd uA id);go_wp2_with fail;refine(Zqw _ x).mono ?_;rintro e w1 ⟨he,hu1⟩;rw[Hb.out]at he;subst he;have bo1:=bo.out.upd hu1 id;have bT2:=bT1.out.upd hu1 id;have bh:=cd.upd hu1 id;obtain⟨k0,k1,k2,k3⟩:=bo1.c4;have t0:=bT2.cell 0;simp only[Qz,Qs]at t0;have HU:=Qh ((hu.trans uA).trans hu1);have sY:=Qh bh;have FN:=Qh bo1;have fd:wr.heap.size≠w.heap.size+1:=by omega
       have dW:∀i,One (w.heap.size+1) i->w.heap.size+1<=i:=fun i e=>by cases e;exact Nat.le_refl _
       clear uA hu1 cd bh bo1 bT2
       cases hr:x.read
       ·rw[hr]at k0;have hN:=hW.out x.key 0;rw[if_pos rfl]at hN;have dV:=ZpO l x.key k;obtain⟨N,fN⟩:=Qe (wrN l x.key k);have zm:=hW.out.put hlt X.out hr;rw[fN]at hN dV zm;have mR:=Qh zm;have Hr:=Qh hr;have H0:=Qh (ZgF h0.out (Znq hlt X.out qv.out hr));have cy:MapE w1.drew (w.heap.size+1) ZdD m:=sY.out;obtain⟨st,w2,e2,ic,hu2,am⟩:=Zdr ZeD Tryz.underlying102 Zel cy (x.key,0);have e1:=ZP ZeD Tryz.underlying102 Zel cy.is (x.key,0);have e3:=ZP ZeD Tryz.underlying102 Zel ic.is (x.key,0);rw[Zai]at e3;rw[hN]at e1 e2 e3;obtain⟨w3,e4,mS,hu3⟩:=am (Qi ((N:Int)+1));have k2':∀{p:Addr} {v:Iz},p.block=wr.heap.size->w1.cell? p=some v->w2.cell? p=some v:=fun hp hc=>(Upd.keep hu2 hc (by rw[hp];exact fd))
        have k3':∀{p:Addr} {v:Iz},p.block=wr.heap.size->w1.cell? p=some v->w3.cell? p=some v:=fun hp hc=>(Upd.keep hu3 hc (by rw[hp];exact fd))
        change (Instr.lookup 102 (.map (some (w.heap.size+1))) (.agg #[Qi x.key,Qi 0]) false).run Tryz.prog w1.drew= .ok (Qi N) w1.drew at e1;change (Instr.lookup 102 (.map (some (w.heap.size+1))) (.agg #[Qi x.key,Qi 0]) false).run Tryz.prog w2= .ok (Qi N) w2 at e3;change (Instr.mapEntry 102 (.map (some (w.heap.size+1))) (.agg #[Qi x.key,Qi 0])).run Tryz.prog w1.drew= .ok (.tuple #[Qi N,Qi st]) w2 at e2;change (Instr.entryStore 102 (.map (some (w.heap.size+1))) (Qi st) (Qi ((N:Int)+1))).run Tryz.prog w2= .ok () w3 at e4;have k1w2:=k2' rfl k1;have Hk:=Qh (And.intro (k3' rfl k0) (k3' rfl k1));clear hN fN zm hr am k2' cy;have jJ:IntKind.i64.wrap ((N:Int)+1)=(N:Int)+1:=IntWalk.i64_in _ (by omega);go_wp2
        go_region_held3 (fun w'=>w'.cell? ⟨wr.heap.size,1,none⟩=some (Qi x.key)) (first|exact k1|exact k1w2|exact Hk.out.2) (fail)
        all_goals
         clear e1 e2 e3 e4 k1 k0 k2 k3 k1w2 jJ;have k1:=Hk.out.2;have cy:MapE w3.drew (w.heap.size+1) ZdD (ZI m (x.key,0) (Qi ((N:Int)+1))):=mS;have e1:=ZP ZeD Tryz.underlying102 Zel cy.is (x.key,0);rw[Zai]at e1;obtain⟨w5,e2,fR,hu5⟩:=ZfT ZeD Tryz.underlying102 cy (x.key,(N:Int)+1) (Qi 1);change (Instr.lookup 102 (.map (some (w.heap.size+1))) (.agg #[Qi x.key,Qi 0]) false).run Tryz.prog w3.drew= .ok (Qi ((N:Int)+1)) w3.drew at e1;change (Instr.mapUpdate 102 (.map (some (w.heap.size+1))) (.agg #[Qi x.key,Qi ((N:Int)+1)]) (Qi 1)).run Tryz.prog w3.drew= .ok () w5 at e2;have k5:w5.cell? ⟨wr.heap.size,1,none⟩=some (Qi x.key):=Upd.keep hu5 k1 fd;go_wp2
         go_region_held3 (fun w'=>w'.cell? ⟨wr.heap.size,1,none⟩=some (Qi x.key)) (first|exact k1|exact k5) (fail)
         clear e1 e2 k1 k5;go_wp2;go_roundg (gk-1);exact⟨k+1,_,by omega,by go_num,Qh fR,mR,H0,(HU.out.then_ (hu3.trans hu5.of_drew).of_drew fun i e=> .inr (by simp only[Ij];exact dW i e))⟩;omega
       ·rw[hr]at k0;have Hr:=Qh hr;clear hr
        by_cases ht:x.tx=i0
        ·have lG:(x.tx==i0)=true:=by simpa using ht
         have hn1:1<=x.nth:=Zv3 qv.out Hr.out (by rw[ht];omega);have hN:=hW.out x.key x.nth;rw[if_neg (show¬x.nth=0 by omega)]at hN;have Fx:=Qh lG;have e1:=ZP ZeD Tryz.underlying102 Zel sY.out.is (x.key,x.nth);rw[hN]at e1;change (Instr.lookup 102 (.map (some (w.heap.size+1))) (.agg #[Qi x.key,Qi x.nth]) false).run Tryz.prog w1= .ok _ w1 at e1;clear hN
         by_cases hle:x.nth<=(wrN l x.key k:Int)
         ·rw[if_pos (show 1<=x.nth∧x.nth<=(wrN l x.key k:Int) from⟨hn1,hle⟩)]at e1;have H0:=Qh (ZgF h0.out (Znr hlt X.out qv.out hle));have mR:=Qh (hW.out.skip hlt (by rw[X.out];exact Hr.out));clear ht hle;go_wp2;go_roundg (gk-1);exact⟨k+1,m,by omega,by go_num,sY,mR,H0,HU.out⟩;omega
         ·rw[if_neg (show¬(1<=x.nth∧x.nth<=(wrN l x.key k:Int)) from fun e=>hle e.2)]at e1;have lj:=Qh (show ZaT i0 l=6 by rw[HV.out];exact ZiP hlt h0.out (ZrO hlt X.out qv.out Hr.out lG hle) (by decide));clear ht hle;go_wp2;go_ret;exact⟨by rw[lj.out];rfl,uT.trans HU.out⟩
        ·have lG:(x.tx==i0)=false:=by simpa using ht
         have H0:=Qh (ZgF h0.out (Zns hlt X.out qv.out lG));have mR:=Qh (hW.out.skip hlt (by rw[X.out];exact Hr.out));clear ht;go_wp2;go_roundg (gk-1);exact⟨k+1,m,by omega,by go_num,sY,mR,H0,HU.out⟩;omega
     ·obtain rfl:k=l.length:=by omega
      have lj:=Qh (show ZaT i0 l=0 by rw[HV.out];exact h0.out);go_wp2;go_ret;exact⟨by rw[lj.out];rfl,uT.trans hu⟩
/- Maps that count:what they have not is 0. -/
def Zim(p:Int×Int):Iz:= .agg #[Qi p.1,Qi p.2]
theorem ZeE:KeyBy Tryz.prog 243 Zim:=KeyBy.arr2 Tryz.underlying243 Tryz.underlying3 (by kernel_rfl)
theorem ZaN(w:I0):(zeroValue 3).run Tryz.prog w= .ok (Qi 0) w:=by kernel_rfl
section
variable {α:Type} [DecidableEq α]
structure CntM (m:List (α×Value)) (g:α->Nat):Prop where
 nd:(m.map (·.1)).Nodup
 get:∀a,ZX m a=if g a=0 then none else some (Qi (g a:Int))
end
theorem CntM.new{α:Type}[DecidableEq α]:CntM ([]:List (α×Iz)) (fun _=>0):=⟨by simp,fun a=>by simp[ZdW]⟩
theorem CntM.val{α:Type}[DecidableEq α]{m:List (α×Iz)}{g:α->Nat}(h:CntM m g)(a:α):(ZX m a).getD (Qi 0)= Qi (g a:Int):=by
 rw[h.get a];split
 ·rename_i h0;rw[h0];rfl
 ·rfl
theorem ZgO{α:Type}[DecidableEq α](a:α):∀(m:List (α×Iz)) (i:Nat),look a m i=none↔a∉m.map (·.1)
 |[],i=>by simp[look]
 |p::m,i=>by
  unfold look
  by_cases h:a=p.1
  ·rw[if_pos h];simp[h]
  ·rw[if_neg h,ZgO a m (i+1)];simp[h]
theorem ZqM{α:Type}[DecidableEq α](m:List (α×Iz))(a:α):ZX m a=none↔a∉m.map (·.1):=by
 unfold ZX;rw[Option.map_eq_none_iff,ZgO]
theorem ZuY{α:Type}[DecidableEq α]{m:List (α×Iz)}(h:(m.map (·.1)).Nodup)(a:α)(v:Iz):((ZI m a v).map (·.1)).Nodup:=by
 unfold ZI
 cases hl:look a m 0 with
 |none=>
  simp only;rw[Hu,List.nodup_append];refine⟨h,by simp,fun x hx y hy e=>?_⟩;simp at hy;subst hy e;exact(ZgO _ m 0).1 hl hx
 |some r=>
  simp only
  have:(m.modify r.1 fun p=>(p.1,v)).map (·.1)=m.map (·.1):=by
   apply List.ext_getElem?
   intro j;simp only[List.getElem?_map,List.getElem?_modify]
   by_cases hij:r.1=j
   ·subst hij;cases m[r.1]? <;>simp
   ·cases m[j]? <;>simp[hij]
  rw[this];exact h
theorem CntM.put{α:Type}[DecidableEq α]{m:List (α×Iz)}{g:α->Nat}(h:CntM m g)(a:α)(n:Nat)(hn:0<n):CntM (ZI m a (Qi (n:Int))) (fun x=>if x=a then n else g x):=by
 refine⟨ZuY h.nd a _,fun x=>?_⟩;rw[Zdt]
 by_cases e:x=a
 ·subst e;simp only[if_true];rw[if_neg (by omega)]
 ·simp only[if_neg e];exact h.get x
theorem CntM.mem{α:Type}[DecidableEq α]{m:List (α×Iz)}{g:α->Nat}(h:CntM m g)(a:α):a∈m.map (·.1)↔g a≠0:=by
 have h1:=ZqM m a;rw[h.get a]at h1
 by_cases hg:g a=0
 ·rw[if_pos hg]at h1;simp only[true_iff]at h1;constructor
  ·intro hm;exact absurd hm h1
  ·intro hm;exact absurd hg hm
 ·rw[if_neg hg]at h1;have h2:¬(a∉m.map (·.1)):=fun hh=>by have:=h1.2 hh;cases this
  exact⟨fun _=>hg,fun _=>Classical.byContradiction h2⟩
theorem CntM.congr{α:Type}[DecidableEq α]{m:List (α×Iz)}{g f:α->Nat}(h:CntM m g)(e:∀a,g a=f a):CntM m f:=by
 have:g=f:=funext e;rw[<-this];exact h
