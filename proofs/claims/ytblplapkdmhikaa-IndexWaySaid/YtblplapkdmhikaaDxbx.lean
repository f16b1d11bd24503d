/- An index: by whatever way (the law IndexWay). -/
import Derived.Test.YtblplapkdmhikaaDxbw
namespace Go.Proofs.Ytblplapkdmhikaa
set_option linter.unusedVariables false
set_option linter.unusedSimpArgs false
section
open Go.RowKit
theorem ZgS (w:World) (F:Nat→Prop) (A:Option Addr) (c:Nat) (l:List Int) (a:Int) (h:Ints F w A l) (hl:l.length≤4398046511103):
  Calls Try.prog 26 #[.slice A l.length c,.int .i64 a] w fun e w'=>e= .returned (.bool (decide (a∈l)))∧w=w':=by
 go_enter Try.func26,Try.ntmps26
 go_wp2
 go_loopg [9] l.length (fun gk i wr=>∃k:Nat,k+gk=l.length∧i= .int .i64 k∧Hid (decide (a∈l)=decide (a∈l.drop k))∧w=wr)
 case atStart=>exact⟨0,by omega,rfl,Qh (by simp),rfl⟩
 case round=>
  obtain⟨k,hgk,rfl,hs,rfl⟩:=hrel
  by_cases hlt:k<l.length
  ·obtain⟨ax,rfl,hc0⟩:=h.at_ hlt;obtain⟨x,hx⟩:∃x,l[k]=x:=⟨_,rfl⟩;have hd:=Qh (show l.drop k=x::l.drop (k+1) by rw[←hx];exact List.drop_eq_getElem_cons hlt);rw[hx]at hc0;have b1:(0:Int)≤(k:Int):=Qn _;have b2:(k:Int)<(l.length:Int):=by omega
   clear hx
   by_cases he:x=a
   ·have heb:(x==a)=true:=by rw[he];simp
    have He:=Qh he;clear he;go_wp2
    go_ret
    exact⟨by rw[hs.out,hd.out,He.out];simp,rfl⟩
   ·have heb:(x==a)=false:=by simpa using he
    have He:=Qh he;clear he;go_wp2
    go_roundg (gk-1)
    case measure=>omega
    case rel=>
     refine⟨k+1,by omega,by go_num,Qh ?_,rfl⟩;rw[hs.out,hd.out];have:=He.out;simp only[List.mem_cons,decide_eq_decide];exact⟨fun e=>e.elim (fun e=>absurd e.symm this) id,.inr⟩
  ·obtain rfl:k=l.length:=by omega
   go_wp2
   go_ret
   exact⟨by rw[hs.out,List.drop_length];simp,rfl⟩
theorem ZfX (w:World) (F G:Nat→Prop) (A B:Option Addr) (c d n m:Nat) (xs:List Int) (hx:Ints F w A xs) (hy:Ints G w B xs) (hl:xs.length≤1048576) (hn:xs.length=n) (hm:xs.length=m):
  Calls Try.prog 28 #[.slice A n c,.slice B m d] w fun e w'=>e= .returned (.bool true)∧Upd No w w':=by
 subst hn;subst hm;exact Z2 w F G A B c d xs hx hy hl
set_option maxRecDepth 100000 in
set_option maxHeartbeats 16000000 in
theorem ZgP (F G:Nat→Prop) (w:World) (A1:Option Addr) (c1:Nat) (l:List HTx) (A2:Option Addr) (c2:Nat) (o:List HTx) (dk vt vk vn:Int) (hL:TxsY F w A1 l) (hO:TxsY G w A2 o) (hl1:l.length≤9223372036854775807) (hl2:o.length≤9223372036854775807):
  Calls Try.prog 4 #[.slice A1 l.length c1,.slice A2 o.length c2,.int .i64 dk,.agg #[.int .i64 vt,.int .i64 vk,.int .i64 vn]] w fun e w'=>e= .returned (.bool true)∧Upd No w w':=by
 obtain⟨z,hz⟩:∃z,w.heap.size=z:=⟨_,rfl⟩;obtain⟨wb,hwb⟩:∃wb,w.alloc (.cells #[.int .i64 vt,.int .i64 vk,.int .i64 vn] 28)=wb:=⟨_,rfl⟩;have ub:Upd No w wb:=by rw[←hwb];exact(Upd.refl No w).alloc _
 have bb:Blk wb z 28 [.int .i64 vt,.int .i64 vk,.int .i64 vn]:=by rw[←hwb,←hz];exact Blk.new w _ _
 have V0:=Qh (show∀W,Upd No wb W→W.cell? ⟨z,0,none⟩=some (.int .i64 vt)∧W.cell? ⟨z,1,none⟩=some (.int .i64 vk)∧W.cell? ⟨z,2,none⟩=some (.int .i64 vn) from fun W u=>⟨(bb.upd u id).cell 0,(bb.upd u id).cell 1,(bb.upd u id).cell 2⟩);have UB:=Qh ub;have L:=Qh Zga;have HN:=Qh (fun W=>Zgu W);have hlt0:=ub.size;have HR1:=Qh (fun W (u:Upd No wb W)=>Recs.upd hL.1 (ub.trans u) (fun _ _=>id));have HR2:=Qh (fun W (u:Upd No wb W)=>Recs.upd hO.1 (ub.trans u) (fun _ _=>id));have HT1:=Qh (fun(t:HTx) (ht:t∈l) W (u:Upd No wb W)=>((hL.2 t ht).weak (G:=fun i=>i<wb.heap.size) (fun i hi _=>by omega)).upd (ub.trans u) (fun _ _=>id));have HT2:=Qh (fun(t:HTx) (ht:t∈o) W (u:Upd No wb W)=>((hO.2 t ht).weak (G:=fun i=>i<wb.heap.size) (fun i hi _=>by omega)).upd (ub.trans u) (fun _ _=>id));clear hL hO ub bb hlt0
 by_cases h1:(12:Int)<(l.length:Int)
 ·go_enter Try.func4,Try.ntmps4
  go_wp2_with fail
  refine(L.out _).mono ?_;rintro e w0 ⟨rfl,hu0⟩
  go_wp2_with fail
  refine(HN.out _).mono ?_;rintro e w1 ⟨ga,ca,rfl,hx1,hu1,hc1⟩;have HU1:=Qh (hu0.trans hu1);clear hx1 hc1 hu1 hu0
  go_wp2_with fail
  refine(HN.out _).mono ?_;rintro e w2 ⟨gb,cb,rfl,hx2,hu2,hc2⟩;have HU2:=Qh (HU1.out.trans hu2);clear hx2 hc2 hu2;go_wp2
  go_ret
  exact⟨rfl,UB.out.trans HU2.out⟩
 by_cases h2:(12:Int)<(o.length:Int)
 ·go_enter Try.func4,Try.ntmps4
  go_wp2_with fail
  refine(L.out _).mono ?_;rintro e w0 ⟨rfl,hu0⟩
  go_wp2_with fail
  refine(HN.out _).mono ?_;rintro e w1 ⟨ga,ca,rfl,hx1,hu1,hc1⟩;have HU1:=Qh (hu0.trans hu1);clear hx1 hc1 hu1 hu0
  go_wp2_with fail
  refine(HN.out _).mono ?_;rintro e w2 ⟨gb,cb,rfl,hx2,hu2,hc2⟩;have HU2:=Qh (HU1.out.trans hu2);clear hx2 hc2 hu2;go_wp2
  go_ret
  exact⟨rfl,UB.out.trans HU2.out⟩
 go_enter Try.func4,Try.ntmps4
 go_wp2_with fail
 refine(L.out _).mono ?_;rintro e w0 ⟨rfl,hu0⟩;have HU0:=Qh hu0;clear hu0
 go_wp2_with fail
 refine(HN.out _).mono ?_;rintro e w1 ⟨ga,ca,rfl,hx1,hu1,hc1⟩;have HX1:=Qh (And.intro hx1 (And.intro hu1 hc1));clear hx1 hu1 hc1
 go_wp2_with fail
 refine(HN.out _).mono ?_;rintro e w2 ⟨gb,cb,rfl,hx2,hu2,hc2⟩;have HS0:=Qh (Two.made (wb:=wb) HX1.out.1 (HU0.out.trans HX1.out.2.1) (fun i hi=>by have:=HX1.out.2.2 i hi;have:=HU0.out.size;omega) hx2 hu2 hc2);clear hx2 hu2 hc2 HX1 HU0 HN hz hwb;go_wp2
 go_loopg [51] l.length (fun gk i wr=>∃(k:Nat) (qa:List HTx),k+gk=l.length∧i= .int .i64 (k:Int)∧qa.length≤k∧Hid (Two wb ga qa gb [] (fun _=>False) wr))
 case atStart=>exact⟨0,[],by omega,rfl,by simp,HS0⟩
 case round=>
  obtain⟨k,qa,hgk,rfl,hqk,hst⟩:=hrel
  by_cases hlt:k<l.length
  ·obtain⟨ax,rfl,q0,q1,q2⟩:=Zez (HR1.out _ hst.out.upd) hlt;obtain⟨x,hx⟩:∃x,l[k]=x:=⟨_,rfl⟩;have hmem:x∈l:=hx▸List.getElem_mem hlt;rw[hx]at q0 q1 q2;obtain⟨ti,td,tl,tA,tc⟩:=x;simp only at q0 q1 q2;have HTX:=Qh (HT1.out _ hmem);clear hx hmem;have b1:(0:Int)≤(k:Int):=Qn _;have b2:(k:Int)<(l.length:Int):=by omega
   obtain⟨zx,hzx⟩:∃zx,wr.heap.size=zx:=⟨_,rfl⟩;obtain⟨wx,hwx⟩:∃wx,wr.alloc (.cells #[.int .i64 ti,.bool td,.slice tA tl.length tc] 35)=wx:=⟨_,rfl⟩;have ux:Upd No wr wx:=by rw[←hwx];exact(Upd.refl No wr).alloc _
   have bx:Blk wx zx 35 [.int .i64 ti,.bool td,.slice tA tl.length tc]:=by rw[←hwx,←hzx];exact Blk.new wr _ _
   have x0:=bx.cell 0;have x1:=bx.cell 1;have x2:=bx.cell 2;simp only[Qz,Qs]at x0 x1 x2;have UX:=Qh ux;clear ux bx
   by_cases hlong:(24:Int)<(tl.length:Int)
   ·go_wp2
    go_ret
    exact⟨rfl,UB.out.trans (hst.out.upd.trans UX.out)⟩
   have hfew:Zd tl.length:=by unfold Zd;omega
   have HP:=Qh (hst.out.putA UX.out _ ⟨ti,td,tl,tA,tc⟩ (HTX.out _ (hst.out.upd.trans UX.out)).1 (fun i hi=> .inl hi) (by omega) hfew);simp only at HP
   have HQL:=Qh (show(if Zn ti tl=0 then ZG qa (Zq ⟨ti,td,tl,tA,tc⟩) else qa).length≤k+1 from by
    have:=Zb8 qa (Zq ⟨ti,td,tl,tA,tc⟩)
    split<;>omega)
   go_wp2_with fail
   refine(HP.out).mono ?_;rintro e w5 ⟨rfl,hp⟩;go_wp2
   go_roundg (gk-1)
   case measure=>omega
   case rel=>exact⟨k+1,_,by omega,by go_num,HQL.out,Qh hp.1⟩
  ·obtain rfl:k=l.length:=by omega
   clear HR1 HT1 HS0;go_wp2
   go_loopg [65] o.length (fun gk i wr=>∃(k:Nat) (qb:List HTx),k+gk=o.length∧i= .int .i64 (k:Int)∧qb.length≤k∧Hid (Two wb ga qa gb qb (fun _=>False) wr))
   case atStart=>exact⟨0,[],by omega,rfl,by simp,hst⟩
   case round=>
    obtain⟨k,qb,hgk2,rfl,hqk2,hst2⟩:=hrel
    by_cases hlt:k<o.length
    ·obtain⟨ax,rfl,q0,q1,q2⟩:=Zez (HR2.out _ hst2.out.upd) hlt;obtain⟨x,hx⟩:∃x,o[k]=x:=⟨_,rfl⟩;have hmem:x∈o:=hx▸List.getElem_mem hlt;rw[hx]at q0 q1 q2;have hst:=hst2;have hqk:=hqk2;obtain⟨ti,td,tl,tA,tc⟩:=x;simp only at q0 q1 q2;have HTX:=Qh (HT2.out _ hmem);clear hx hmem;have b1:(0:Int)≤(k:Int):=Qn _;have b2:(k:Int)<(o.length:Int):=by omega
     obtain⟨zx,hzx⟩:∃zx,wr.heap.size=zx:=⟨_,rfl⟩;obtain⟨wx,hwx⟩:∃wx,wr.alloc (.cells #[.int .i64 ti,.bool td,.slice tA tl.length tc] 35)=wx:=⟨_,rfl⟩;have ux:Upd No wr wx:=by rw[←hwx];exact(Upd.refl No wr).alloc _
     have bx:Blk wx zx 35 [.int .i64 ti,.bool td,.slice tA tl.length tc]:=by rw[←hwx,←hzx];exact Blk.new wr _ _
     have x0:=bx.cell 0;have x1:=bx.cell 1;have x2:=bx.cell 2;simp only[Qz,Qs]at x0 x1 x2;have UX:=Qh ux;clear ux bx
     by_cases hlong:(24:Int)<(tl.length:Int)
     ·go_wp2
      go_ret
      exact⟨rfl,UB.out.trans (hst.out.upd.trans UX.out)⟩
     have hfew:Zd tl.length:=by unfold Zd;omega
     have HP:=Qh (hst.out.putB UX.out _ ⟨ti,td,tl,tA,tc⟩ (HTX.out _ (hst.out.upd.trans UX.out)).1 (fun i hi=> .inl hi) (by omega) hfew);simp only at HP
     have HQL:=Qh (show(if Zn ti tl=0 then ZG qb (Zq ⟨ti,td,tl,tA,tc⟩) else qb).length≤k+1 from by
      have:=Zb8 qb (Zq ⟨ti,td,tl,tA,tc⟩)
      split<;>omega)
     go_wp2_with fail
     refine(HP.out).mono ?_;rintro e w5 ⟨rfl,hp⟩;go_wp2
     go_roundg (gk-1)
     case measure=>omega
     case rel=>exact⟨k+1,_,by omega,by go_num,HQL.out,Qh hp.1⟩
    ·obtain rfl:k=o.length:=by omega
     clear HR2 HT2 hst;obtain⟨ca0,hia⟩:=hst2.out.ixa;have CI:=Qh (Zd9 hia (by omega));clear hia
     go_wp2_with fail
     refine(CI.out).mono ?_;rintro e w3 ⟨A3,c3,rfl,ho3,hu3⟩;obtain⟨ids,hids⟩:∃ids,qa.map (·.id)=ids:=⟨_,rfl⟩;have hil:ids.length=qa.length:=by rw[←hids];simp
     rw[hids]at ho3;obtain⟨K3,hK3⟩:∃K3:Nat→Prop,K3=fun i=>wr.heap.size≤i∧i<w3.heap.size:=⟨_,rfl⟩
     have HS3:=Qh (hst2.out.new hu3 K3 (fun i hi=> .inr (by rw[hK3]at hi;exact hi)));have HI3:=Qh ((Ints.of_own ho3).weak (G:=K3) (fun i h1 h2=>by rw[hK3];exact⟨h2,h1⟩));have HIDS:=Qh hids;clear ho3 hu3 hids CI hst2 hK3;go_wp2
     go_loopg [81] qa.length (fun gk i wr3=>∃(k:Nat) (q3:List HTx),k+gk=qa.length∧i= .int .i64 (k:Int)∧q3.length≤12+k∧Hid (Inv3 qa q3 k)∧Hid (Two wb ga qa gb q3 K3 wr3)∧Hid (Ints K3 wr3 A3 ids))
     case atStart=>exact⟨0,qb,by omega,rfl,by omega,Qh (fun j hj hl=>by omega),HS3,HI3⟩
     case round=>
      obtain⟨k,q3,hgk3,rfl,hqk3,hinv,hst,hin⟩:=hrel
      by_cases hlt:k<qa.length
      ·obtain⟨m,hm⟩:∃m:Nat,m+1+k=qa.length:=⟨qa.length-1-k,by omega⟩;have hmq:m<qa.length:=by omega
       have hmi:m<ids.length:=by omega
       obtain⟨ad,rfl,_,_,q0⟩:=hin.out.at_ hmi;obtain⟨x,hx⟩:∃x,ids[m]=x:=⟨_,rfl⟩;rw[hx]at q0;obtain⟨t,ht⟩:∃t,qa[m]=t:=⟨_,rfl⟩
       have htx:t.id=x:=by
        have h9:=HIDS.out;subst h9;rw[←hx,←ht];simp
       have hmem:t∈qa:=ht▸List.getElem_mem hmq;have hft:Zb qa x=some t:=(ZT hst.out.riseA x t).2 ⟨hmem,htx⟩;have herr:=hst.out.okA t hmem;have hbare:=hst.out.bareA t hmem;have hstep:=hinv.out.step hst.out.riseA hst.out.riseB hmq hm;rw[ht]at hstep;have HSTEP:=Qh hstep;have CT:=Qh (xtx hst.out.ixa.choose_spec x);rw[hft]at CT;obtain⟨ti,td,tl,tA,tc⟩:=t;unfold Zba at CT;simp only[oId,oDn,Zat,Option.isSome_some]at CT;simp only at herr;have HBARE:=Qh hbare;have HERR:=Qh herr;have hfew:Zd tl.length:=by have:=(Zaw herr).2.1;unfold Zd;omega
       have hidx:(qa.length:Int)-1-(k:Int)=(m:Int):=by omega
       have b1:(0:Int)≤(m:Int):=Qn _;have b2:(m:Int)<(qa.length:Int):=by omega
       have b3:(0:Int)≤(k:Int):=Qn _;have b4:(k:Int)<(qa.length:Int):=by omega
       clear hx ht htx hmem hft hstep hbare herr
       go_wp2_with fail
       refine(CT.out).mono ?_;rintro e w4 ⟨A4,c4,rfl,hc4,hh4,hu4⟩;obtain⟨zx,hzx⟩:∃zx,w4.heap.size=zx:=⟨_,rfl⟩;obtain⟨wx,hwx⟩:∃wx,w4.alloc (.cells #[.int .i64 ti,.bool td,.slice A4 tl.length c4] 35)=wx:=⟨_,rfl⟩;have ux:Upd No w4 wx:=by rw[←hwx];exact(Upd.refl No w4).alloc _
       have bx:Blk wx zx 35 [.int .i64 ti,.bool td,.slice A4 tl.length c4]:=by rw[←hwx,←hzx];exact Blk.new w4 _ _
       have x0:=bx.cell 0;have x1:=bx.cell 1;have x2:=bx.cell 2;simp only[Qz,Qs]at x0 x1 x2;have HP:=Qh (hst.out.putB (hu4.trans ux) _ ⟨ti,td,tl,A4,c4⟩ (HOps.upd hh4 ux (fun _ _=>id)) (fun i hi=> .inr hi) (by omega) hfew);have HI4:=Qh (hin.out.upd (hu4.trans ux) (fun _ _=>id));simp only at HP;rw[HERR.out,if_pos rfl,show Zq ⟨ti,td,tl,A4,c4⟩=(⟨ti,td,tl,tA,tc⟩:HTx) from HBARE.out]at HP;clear hc4 hh4 hu4 ux bx CT q0
       go_wp2_with fail
       refine(HP.out).mono ?_;rintro e w5 ⟨rfl,hp,hup⟩;have HPP:=Qh hp;have HI5:=Qh (Ints.upd HI4.out hup (fun i hi e=>e hi));have HQL:=Qh (show(ZG q3 ⟨ti,td,tl,tA,tc⟩).length≤12+(k+1) by have:=Zb8 q3 ⟨ti,td,tl,tA,tc⟩;omega);clear hp hup HP HI4;go_wp2
       go_roundg (gk-1)
       case measure=>omega
       case rel=>exact⟨k+1,_,by omega,by go_num,HQL.out,HSTEP,HPP,HI5⟩
      ·obtain rfl:k=qa.length:=by omega
       have hall:=Inv3.all hinv.out;have hinv4:=Inv4.start hst.out.riseB hall;have CI:=Qh (Zd9 hst.out.ixb.choose_spec (by omega));obtain⟨L4,hL4⟩:∃L4,q3.map (·.id)=L4:=⟨_,rfl⟩;have hll:L4.length=q3.length:=by rw[←hL4];simp
       have hLn:L4.Nodup:=by rw[←hL4];exact hst.out.riseB.imp fun h=>Int.ne_of_lt h
       have HLL:=Qh hll;have HLN:=Qh hLn;have HIL:=Qh hil;rw[hL4]at hinv4;clear hall hinv HS3 HI3 hil hLn
       go_wp2_with fail
       refine(CI.out).mono ?_;rintro e w5 ⟨A5,c5,rfl,ho5,hu5⟩;rw[hL4]at ho5;obtain⟨K5,hK5⟩:∃K5:Nat→Prop,K5=fun i=>K3 i∨(wr.heap.size≤i∧i<w5.heap.size):=⟨_,rfl⟩
       have HS5:=Qh (hst.out.new hu5 K5 (fun i hi=>by rw[hK5]at hi;exact hi));have HI5:=Qh ((Ints.of_own ho5).weak (G:=K5) (fun i h1 h2=>by rw[hK5];exact .inr ⟨h2,h1⟩));have HI3:=Qh (hin.out.upd hu5 (fun _ _=>id));have HK:=Qh (show∀i,K3 i→K5 i from fun i hi=>by rw[hK5];exact .inl hi);have HINV:=Qh hinv4;clear ho5 hu5 hK5 hst hin CI hinv4 hL4 hll;go_wp2
       go_loopg [109] q3.length (fun gk i wr4=>∃(k:Nat) (q4:List HTx),k+gk=q3.length∧i= .int .i64 (k:Int)∧q4.length≤24∧Hid (Inv4 qa q4 L4 k)∧Hid (Two wb ga qa gb q4 K5 wr4)∧Hid (Ints K3 wr4 A3 ids)∧Hid (Ints K5 wr4 A5 L4))
       case atStart=>exact⟨0,q3,by omega,rfl,by omega,HINV,HS5,HI3,HI5⟩
       case round=>
        obtain⟨k,q4,hgk4,rfl,hqk4,hinv,hst,hin,hin5⟩:=hrel
        by_cases hlt:k<q3.length
        ·have hkL:k<L4.length:=by have:=HLL.out;omega
         obtain⟨ad,rfl,_,_,q0⟩:=hin5.out.at_ hkL;obtain⟨x,hx⟩:∃x,L4[k]=x:=⟨_,rfl⟩;rw[hx]at q0;have hth:(Zb q4 x).isSome=true:=hx▸hinv.out.there hkL;have HIN:=Qh (ZgS wr K3 A3 c3 ids x hin.out (by have:=HIL.out;omega));rw[HIL.out]at HIN;have HD:=Qh (hst.out.dropB x (by omega));rw[hth]at HD;simp only[if_true]at HD;have b1:(0:Int)≤(k:Int):=Qn _;have b2:(k:Int)<(q3.length:Int):=by omega
         by_cases hm:x∈ids
         ·rw[decide_eq_true hm]at HIN;have HST:=Qh (hinv.out.skip hkL (by rw[hx,HIDS.out];exact hm));clear hx hth hm HD
          go_wp2_with fail
          refine(HIN.out).mono ?_;rintro e w6 ⟨rfl,rfl⟩;go_wp2
          go_roundg (gk-1)
          case measure=>omega
          case rel=>exact⟨k+1,q4,by omega,by go_num,hqk4,HST,hst,hin,hin5⟩
         ·rw[decide_eq_false hm]at HIN;have HST:=Qh (hinv.out.drop hst.out.riseB HLN.out hkL (by rw[hx,HIDS.out];exact hm));rw[hx]at HST;clear hx hth hm
          go_wp2_with fail
          refine(HIN.out).mono ?_;rintro e w6 ⟨rfl,rfl⟩
          go_wp2_with fail
          refine(HD.out).mono ?_;rintro e w7 ⟨rfl,hp,hup⟩;have HPP:=Qh hp;have HI3:=Qh (Ints.upd hin.out hup (fun i hi e=>e (HK.out i hi)));have HI5:=Qh (Ints.upd hin5.out hup (fun i hi e=>e hi));have HQL:=Qh (show(Zc q4 x).length≤24 by have:=ZcY q4 x;omega);clear hp hup HD;go_wp2
          go_roundg (gk-1)
          case measure=>omega
          case rel=>exact⟨k+1,_,by omega,by go_num,HQL.out,HST,HPP,HI3,HI5⟩
        ·obtain rfl:k=q3.length:=by omega
         have hqq:=hinv.out.done hst.out.riseA hst.out.riseB (by have:=HLL.out;omega);have hst2:=hst.out;rw[hqq]at hst2;obtain⟨wz,hwz⟩:∃wz,wz=wr:=⟨_,rfl⟩;rw[←hwz]at hst2;have HUZ:=Qh hst2.upd;obtain⟨ca9,ha9⟩:=hst2.ixa;obtain⟨cb9,hb9⟩:=hst2.ixb;have HXA:=Qh (fun W (u:Upd No wz W)=>ha9.no u);have HXB:=Qh (fun W (u:Upd No wz W)=>hb9.no u);have HIZ:=Qh (fun W (u:Upd No wz W)=>(hwz▸hin.out:Ints K3 wz A3 ids).upd u (fun _ _=>id));have hrefl:Upd No wz wz:=Upd.refl _ _;have HOPS:=Qh (Zbj ha9.2.2);subst hwz;clear hinv hst hin hin5 hst2 ha9 hb9 hqq HS5 HI5 HI3 HINV HK HLL HLN;go_wp2
         go_loopg [126] qa.length (fun gk i wr5=>∃k:Nat,k+gk=qa.length∧i= .int .i64 (k:Int)∧Upd No wz wr5)
         case atStart=>exact⟨0,by omega,rfl,hrefl⟩
         case round=>
          obtain⟨k,hgk5,rfl,hu⟩:=hrel
          by_cases hlt:k<qa.length
          ·have hkL:k<ids.length:=by have:=HIL.out;omega
           obtain⟨ad,rfl,_,_,q0⟩:=(HIZ.out _ hu).at_ hkL;obtain⟨x,hx⟩:∃x,ids[k]=x:=⟨_,rfl⟩;rw[hx]at q0;have b1:(0:Int)≤(k:Int):=Qn _;have b2:(k:Int)<(qa.length:Int):=by omega
           have CUa:=Qh (fun W (u:Upd No wz W)=>Zc7 (HXA.out W u) (by omega) x);have CUb:=Qh (fun W (u:Upd No wz W)=>Zc7 (HXB.out W u) (by omega) x);have CWa:=Qh (fun W (u:Upd No wz W)=>Zct (HXA.out W u) x dk);have CWb:=Qh (fun W (u:Upd No wz W)=>Zct (HXB.out W u) x dk);have LU:=Qh (show(Zbi qa x).length≤1048576 from ZM _ qa (by omega));obtain⟨qu,hqu⟩:∃l,Zbi qa x=l:=⟨_,rfl⟩;obtain⟨nw,hnw⟩:∃n,Zac qa x dk=n:=⟨_,rfl⟩;rw[hqu]at CUa CUb LU;rw[hnw]at CWa CWb;unfold Z4 at CUa CUb;have HU:=Qh hu;have CA:=Qh (CUa.out _ hu);clear hx hqu hnw hu
           go_wp2_with fail
           refine(CA.out).mono ?_;rintro e w6 ⟨A6,c6,rfl,hx6,hu6⟩;have CB:=Qh (CUb.out _ (HU.out.trans hu6));have HX6:=Qh hx6;have HU6:=Qh (HU.out.trans hu6);clear hx6 hu6
           go_wp2_with fail
           refine(CB.out).mono ?_;rintro e w7 ⟨A7,c7,rfl,hx7,hu7⟩;have CS:=Qh (Z2 _ _ _ A6 A7 c6 c7 qu (Ints.upd (Ints.of_own HX6.out) hu7 (fun _ _=>id)) (Ints.of_own hx7) LU.out);have HU7:=Qh (HU6.out.trans hu7);clear hx7 hu7
           go_wp2_with fail
           refine(CS.out).mono ?_;rintro e w8 ⟨rfl,hu8⟩;have HU8:=Qh (HU7.out.trans hu8);have CA2:=Qh (CWa.out _ HU8.out);have CB2:=Qh (CWb.out _ HU8.out);clear hu8
           go_wp2_with fail
           refine(CA2.out).mono ?_;rintro e w9 ⟨rfl,rfl⟩
           go_wp2_with fail
           refine(CB2.out).mono ?_;rintro e w9 ⟨rfl,rfl⟩;go_wp2
           go_roundg (gk-1)
           case measure=>omega
           case rel=>exact⟨k+1,by omega,by go_num,HU8.out⟩
          ·obtain rfl:k=qa.length:=by omega
           have CIb:=Qh (fun W (u:Upd No wz W)=>Zd9 (HXB.out W u) (by omega));rw[HIDS.out]at CIb;have CWr:=Qh (fun W (u:Upd No wz W)=>Zb3 (HXA.out W u) (by omega) dk);have CWr2:=Qh (fun W (u:Upd No wz W)=>Zb3 (HXB.out W u) (by omega) dk);have CRd:=Qh (fun W (u:Upd No wz W)=>Zb4 (HXA.out W u) (by omega) ⟨vt,vk,vn⟩);have CRd2:=Qh (fun W (u:Upd No wz W)=>Zb4 (HXB.out W u) (by omega) ⟨vt,vk,vn⟩);have CLk:=Qh (fun W (u:Upd No wz W)=>Zc8 (HXA.out W u) (by omega));have CLk2:=Qh (fun W (u:Upd No wz W)=>Zc8 (HXB.out W u) (by omega));have CWt:=Qh (fun W (u:Upd No wz W)=>Zcu (HXA.out W u));have CWt2:=Qh (fun W (u:Upd No wz W)=>Zcu (HXB.out W u));have LI:=Qh (show ids.length≤1048576 by have:=HIL.out;omega);have LW:=Qh (show(Zz qa dk).length≤1048576 from by rw[ZJ];exact ZM _ qa (by omega));have LR:=Qh (show(Zt qa ⟨vt,vk,vn⟩).length≤1048576 from ZM _ qa (by omega))
           have hLk:(Zap qa).length≤4398046511103:=by
            have h1:=ZcT qa qa [] HOPS.out;simp only[Zap,List.length_nil]at h1 ⊢;omega
           obtain⟨qw,hqw⟩:∃l,Zz qa dk=l:=⟨_,rfl⟩;obtain⟨qr,hqr⟩:∃l,Zt qa ⟨vt,vk,vn⟩=l:=⟨_,rfl⟩;obtain⟨ql,hql⟩:∃l,Zap qa=l:=⟨_,rfl⟩;obtain⟨ng,hng⟩:∃n,Zk qa=n:=⟨_,rfl⟩;rw[hqw]at CWr CWr2 LW;rw[hqr]at CRd CRd2 LR;rw[hql]at CLk CLk2 hLk;rw[hng]at CWt CWt2;unfold Z4 at CIb CWr CWr2 CRd CRd2;unfold Zbo at CLk CLk2;unfold Ver.cells at CRd CRd2;have hLkk:(ql==ql)=true:=by simp
           have LK:=Qh hLk;have LKK:=Qh hLkk;have ALL:=Qh (show∀W,Upd No wz W→Upd No wz W∧W.cell? ⟨z,0,none⟩=some (.int .i64 vt)∧W.cell? ⟨z,1,none⟩=some (.int .i64 vk)∧W.cell? ⟨z,2,none⟩=some (.int .i64 vn) from fun W u=>⟨u,V0.out _ (HUZ.out.trans u)⟩);clear hqw hqr hql hng hLk hLkk;go_wp2;have hHeld:=ALL.out _ (hu.trans ((Upd.refl No wr).drew));clear hu;refine wp_region_noPanic ?_;refine Zck (by kernel_rfl) ?_
           generalize wr.drew=w5 at hHeld ⊢
           refine Zx 5 (by kernel_rfl) (by kernel_rfl) 32 rfl (fun _ _ _ _ _ h=>h) (fun QQ hq hdone=> ?_);simp only[List.append,Za,Zl,Ze,Zf,Zi];refine wpAny_of_held (S:=(fun W=>Upd No wz W∧W.cell? ⟨z,0,none⟩=some (.int .i64 vt)∧W.cell? ⟨z,1,none⟩=some (.int .i64 vk)∧W.cell? ⟨z,2,none⟩=some (.int .i64 vn))) _ _ _ _ ?_;refine wpL hq 0 rfl ?_;refine wpL hq 2 rfl ?_;refine wpR [1] ?_;refine wpC rfl (fun K hK=> ?_) AllReadyH.nil;go_simp
           (first
             |(go_at_call 24;refine(CIb.out _ hHeld.1).mono ?_;rintro e w2 ⟨A2x,c2x,rfl,hx2,hu2⟩))
           try (go_wp2_with fail)
           refine hK.out _ _ ?_ (fun hHeld=> ?_)
           ·(first|exact ALL.out _ (hHeld.1.trans hu4)|exact ALL.out _ (hHeld.1.trans hu2)|exact hHeld)
           clear hK K
           try simp only[Act.put,sT,sS,sZ]
           refine wpR [3] ?_;refine wpC rfl (fun K hK=> ?_) AllReadyH.nil;go_simp
           (first
             |(go_at_call 28;refine(ZfX _ _ _ _ _ _ _ _ _ _ (Ints.of_own hx2) (HIZ.out _ hHeld.1) LI.out (by first|rfl|exact HIL.out) (by first|rfl|exact HIL.out)).mono ?_;rintro e w4 ⟨rfl,hu4⟩))
           try (go_wp2_with fail)
           refine hK.out _ _ ?_ (fun hHeld=> ?_)
           ·(first|exact ALL.out _ (hHeld.1.trans hu4)|exact ALL.out _ (hHeld.1.trans hu2)|exact hHeld)
           clear hK K
           try simp only[Act.put,sT,sS,sZ]
           refine wpL hq 4 rfl ?_;refine wpD (hdone.out _ _ ?_);clear hdone hq QQ;refine Zx 9 (by kernel_rfl) (by kernel_rfl) 23 rfl (fun _ _ _ _ _ h=>h) (fun QQ hq hdone=> ?_);simp only[List.append,Za,Zl,Ze,Zf,Zi];refine wpAny_of_held (S:=(fun W=>Upd No wz W∧W.cell? ⟨z,0,none⟩=some (.int .i64 vt)∧W.cell? ⟨z,1,none⟩=some (.int .i64 vk)∧W.cell? ⟨z,2,none⟩=some (.int .i64 vn))) _ _ _ _ ?_;refine wpL hq 0 rfl ?_;refine wpL hq 1 rfl ?_;refine wpL hq 3 rfl ?_;refine wpL hq 4 rfl ?_;refine wpR [2] ?_;refine wpC rfl (fun K hK=> ?_) AllReadyH.nil;go_simp
           (first
             |(go_at_call 31;refine(CWr.out _ hHeld.1).mono ?_;rintro e w2 ⟨A2x,c2x,rfl,hx2,hu2⟩))
           try (go_wp2_with fail)
           refine hK.out _ _ ?_ (fun hHeld=> ?_)
           ·(first|exact ALL.out _ (hHeld.1.trans hu4)|exact ALL.out _ (hHeld.1.trans hu2)|exact hHeld)
           clear hK K
           try simp only[Act.put,sT,sS,sZ]
           refine wpR [5] ?_;refine wpC rfl (fun K hK=> ?_) AllReadyH.nil;go_simp
           (first
             |(go_at_call 31;refine(CWr2.out _ hHeld.1).mono ?_;rintro e w4 ⟨A4,c4,rfl,hx4,hu4⟩))
           try (go_wp2_with fail)
           refine hK.out _ _ ?_ (fun hHeld=> ?_)
           ·(first|exact ALL.out _ (hHeld.1.trans hu4)|exact ALL.out _ (hHeld.1.trans hu2)|exact hHeld)
           clear hK K
           try simp only[Act.put,sT,sS,sZ]
           refine wpR [6] ?_;refine wpC rfl (fun K hK=> ?_) AllReadyH.nil;go_simp
           (first
             |(go_at_call 28;refine(Z2 _ _ _ _ _ _ _ _ (Ints.upd (Ints.of_own hx2) hu4 (fun _ _=>id)) (Ints.of_own hx4) LW.out).mono ?_;rintro e w2 ⟨rfl,hu2⟩))
           try (go_wp2_with fail)
           refine hK.out _ _ ?_ (fun hHeld=> ?_)
           ·(first|exact ALL.out _ (hHeld.1.trans hu4)|exact ALL.out _ (hHeld.1.trans hu2)|exact hHeld)
           clear hK K
           try simp only[Act.put,sT,sS,sZ]
           refine wpL hq 7 rfl ?_;refine wpL hq 8 rfl ?_;refine wpD (hdone.out _ _ ?_);clear hdone hq QQ;refine Zx 9 (by kernel_rfl) (by kernel_rfl) 14 rfl (fun _ _ _ _ _ h=>h) (fun QQ hq hdone=> ?_);simp only[List.append,Za,Zl,Ze,Zf,Zi];refine wpAny_of_held (S:=(fun W=>Upd No wz W∧W.cell? ⟨z,0,none⟩=some (.int .i64 vt)∧W.cell? ⟨z,1,none⟩=some (.int .i64 vk)∧W.cell? ⟨z,2,none⟩=some (.int .i64 vn))) _ _ _ _ ?_;refine wpL hq 0 rfl ?_;refine wpL hq 1 rfl ?_;refine wpL hq 3 rfl ?_;refine wpL hq 4 rfl ?_;refine wpR [2] ?_;refine wpC rfl (fun K hK=> ?_) AllReadyH.nil;go_simp
           (first
             |(go_at_call 32;refine(CRd.out _ hHeld.1).mono ?_;rintro e w2 ⟨A2x,c2x,rfl,hx2,hu2⟩))
           try (go_wp2_with fail)
           refine hK.out _ _ ?_ (fun hHeld=> ?_)
           ·(first|exact ALL.out _ (hHeld.1.trans hu4)|exact ALL.out _ (hHeld.1.trans hu2)|exact hHeld)
           clear hK K
           try simp only[Act.put,sT,sS,sZ]
           refine wpR [5] ?_;refine wpC rfl (fun K hK=> ?_) AllReadyH.nil;go_simp
           (first
             |(go_at_call 32;refine(CRd2.out _ hHeld.1).mono ?_;rintro e w4 ⟨A4,c4,rfl,hx4,hu4⟩))
           try (go_wp2_with fail)
           refine hK.out _ _ ?_ (fun hHeld=> ?_)
           ·(first|exact ALL.out _ (hHeld.1.trans hu4)|exact ALL.out _ (hHeld.1.trans hu2)|exact hHeld)
           clear hK K
           try simp only[Act.put,sT,sS,sZ]
           refine wpR [6] ?_;refine wpC rfl (fun K hK=> ?_) AllReadyH.nil;go_simp
           (first
             |(go_at_call 28;refine(Z2 _ _ _ _ _ _ _ _ (Ints.upd (Ints.of_own hx2) hu4 (fun _ _=>id)) (Ints.of_own hx4) LR.out).mono ?_;rintro e w2 ⟨rfl,hu2⟩))
           try (go_wp2_with fail)
           refine hK.out _ _ ?_ (fun hHeld=> ?_)
           ·(first|exact ALL.out _ (hHeld.1.trans hu4)|exact ALL.out _ (hHeld.1.trans hu2)|exact hHeld)
           clear hK K
           try simp only[Act.put,sT,sS,sZ]
           refine wpL hq 7 rfl ?_;refine wpL hq 8 rfl ?_;refine wpD (hdone.out _ _ ?_);clear hdone hq QQ;refine Zx 7 (by kernel_rfl) (by kernel_rfl) 7 rfl (fun _ _ _ _ _ h=>h) (fun QQ hq hdone=> ?_);simp only[List.append,Za,Zl,Ze,Zf,Zi];refine wpAny_of_held (S:=(fun W=>Upd No wz W∧W.cell? ⟨z,0,none⟩=some (.int .i64 vt)∧W.cell? ⟨z,1,none⟩=some (.int .i64 vk)∧W.cell? ⟨z,2,none⟩=some (.int .i64 vn))) _ _ _ _ ?_;refine wpL hq 0 rfl ?_;refine wpL hq 2 rfl ?_;refine wpR [1] ?_;refine wpC rfl (fun K hK=> ?_) AllReadyH.nil;go_simp
           (first
             |(go_at_call 34;refine(CLk.out _ hHeld.1).mono ?_;rintro e w2 ⟨A2x,c2x,rfl,hx2,hu2⟩))
           try (go_wp2_with fail)
           refine hK.out _ _ ?_ (fun hHeld=> ?_)
           ·(first|exact ALL.out _ (hHeld.1.trans hu4)|exact ALL.out _ (hHeld.1.trans hu2)|exact hHeld)
           clear hK K
           try simp only[Act.put,sT,sS,sZ]
           refine wpR [3] ?_;refine wpC rfl (fun K hK=> ?_) AllReadyH.nil;go_simp
           (first
             |(go_at_call 34;refine(CLk2.out _ hHeld.1).mono ?_;rintro e w4 ⟨A4,c4,rfl,hx4,hu4⟩))
           try (go_wp2_with fail)
           refine hK.out _ _ ?_ (fun hHeld=> ?_)
           ·(first|exact ALL.out _ (hHeld.1.trans hu4)|exact ALL.out _ (hHeld.1.trans hu2)|exact hHeld)
           clear hK K
           try simp only[Act.put,sT,sS,sZ]
           refine wpR [4] ?_;refine wpC rfl (fun K hK=> ?_) AllReadyH.nil;go_simp
           (first
             |(go_at_call 33;refine(ZeG _ _ _ _ _ _ _ _ _ (Recs.upd (Zav hx2) hu4 (fun _ _=>id)) (Zav hx4) LK.out LK.out (v:=true) LKK.out).mono ?_;rintro e w2 ⟨rfl,hu2⟩))
           try (go_wp2_with fail)
           refine hK.out _ _ ?_ (fun hHeld=> ?_)
           ·(first|exact ALL.out _ (hHeld.1.trans hu4)|exact ALL.out _ (hHeld.1.trans hu2)|exact hHeld)
           clear hK K
           try simp only[Act.put,sT,sS,sZ]
           refine wpL hq 5 rfl ?_;refine wpL hq 6 rfl ?_;refine wpD (hdone.out _ _ ?_);clear hdone hq QQ;refine Zx 7 (by kernel_rfl) (by kernel_rfl) 0 rfl (fun _ _ _ _ _ h=>h) (fun QQ hq hdone=> ?_);simp only[List.append,Za,Zl,Ze,Zf,Zi];refine wpAny_of_held (S:=(fun W=>Upd No wz W∧W.cell? ⟨z,0,none⟩=some (.int .i64 vt)∧W.cell? ⟨z,1,none⟩=some (.int .i64 vk)∧W.cell? ⟨z,2,none⟩=some (.int .i64 vn))) _ _ _ _ ?_;refine wpL hq 0 rfl ?_;refine wpL hq 2 rfl ?_;refine wpR [1] ?_;refine wpC rfl (fun K hK=> ?_) AllReadyH.nil;go_simp
           (first
             |(go_at_call 35;refine(CWt.out _ hHeld.1).mono ?_;rintro e w2 ⟨rfl,rfl⟩))
           try (go_wp2_with fail)
           refine hK.out _ _ ?_ (fun hHeld=> ?_)
           ·(first|exact ALL.out _ (hHeld.1.trans hu4)|exact ALL.out _ (hHeld.1.trans hu2)|exact hHeld)
           clear hK K
           try simp only[Act.put,sT,sS,sZ]
           refine wpR [3] ?_;refine wpC rfl (fun K hK=> ?_) AllReadyH.nil;go_simp
           (first
             |(go_at_call 35;refine(CWt2.out _ hHeld.1).mono ?_;rintro e w4 ⟨rfl,rfl⟩))
           try (go_wp2_with fail)
           refine hK.out _ _ ?_ (fun hHeld=> ?_)
           ·(first|exact ALL.out _ (hHeld.1.trans hu4)|exact ALL.out _ (hHeld.1.trans hu2)|exact hHeld)
           clear hK K
           try simp only[Act.put,sT,sS,sZ]
           refine wpL hq 4 rfl ?_;refine wpL hq 5 rfl ?_;refine wpL hq 6 rfl ?_;refine wpD (hdone.out _ _ ?_);clear hdone hq QQ;refine Zdq (NoPanic.normal ?_);go_wp2
           go_ret
           exact⟨rfl,UB.out.trans (HUZ.out.trans hHeld.1)⟩
end
end Go.Proofs.Ytblplapkdmhikaa
