/- Edges of a history, the document's: all edges are walked. -/
import Derived.Test.YtdbjokfejmgepaaRabh
import Derived.Test.YtdbjokfejmgepaaRabv
namespace Go.Proofs.Ytdbjokfejmgepaa
set_option linter.unusedVariables false
set_option linter.unusedSimpArgs false
section
open Go.RowKit
theorem Zif:∀(txs:List HTx),(∀t∈txs,t.ops.length≤24)→(txK txs).length≤24*txs.length
 |[],_=>by simp[txK]
 |x::l,h=>by
  have h1:=Zif l fun t ht=>h t (List.mem_cons_of_mem _ ht)
  have h2:=h x (List.mem_cons_self ..);unfold txK at h1 ⊢;rw[List.flatMap_cons,List.length_append,List.length_cons];unfold opK at h1 ⊢;rw[List.length_map];omega
theorem ZkT (txs:List HTx) (h:∀t∈txs,t.ops.length≤24):(ZbW txs).length≤24*txs.length:=by
 have h1:=Zfq (txK txs) [];have h2:=Zif txs h;unfold ZbW;simp at h1;omega
set_option maxRecDepth 100000 in
set_option maxHeartbeats 8000000 in
theorem Zkk (F:Nat→Prop) (w:World) (txs:List HTx) (ords:List HOrd) (A:Option Addr) (c:Nat) (B:Option Addr) (d:Nat) (H:Hist.lies F w ⟨txs,ords,A,c,B,d⟩) (n1:txs.length≤12) (n2:∀t∈txs,t.ops.length≤24):
  Calls Try.prog 42 #[.agg #[.slice A txs.length c,.slice B ords.length d]] w (Znz w (ZK ⟨txs,ords,A,c,B,d⟩)):=by
 have HH:=Qh H;obtain⟨z,hz⟩:∃z,w.heap.size=z:=⟨_,rfl⟩;obtain⟨wb,hwb⟩:∃wb,w.alloc (.cells #[.slice A txs.length c,.slice B ords.length d] 39)=wb:=⟨_,rfl⟩;have u1:Upd No w wb:=by rw[←hwb];exact(Upd.refl No w).alloc _
 have bH:Blk wb z 39 [.slice A txs.length c,.slice B ords.length d]:=by rw[←hwb,←hz];exact Blk.new w _ _
 have g0:∀W,Upd No wb W→W.cell? ⟨z,0,none⟩=some (.slice A txs.length c):=fun W u=>by have:=(bH.upd u id).cell 0;simpa using this
 have g1:∀W,Upd No wb W→W.cell? ⟨z,1,none⟩=some (.slice B ords.length d):=fun W u=>by have:=(bH.upd u id).cell 1;simpa using this
 have hbz:Upd No wb wb:=Upd.refl _ _;have HU:=Qh u1;have HR:=Qh (fun W (u:Upd No w W)=>Zik F W txs ords A c B d (H.upd u (fun _ _=>id)));have HKY:=Qh (fun W (u:Upd No w W)=>Zlp F W txs ords A c B d (H.upd u (fun _ _=>id)) (by omega) (fun t ht=>by have:=n2 t ht;omega));have HCT:=Qh (fun W (u:Upd No w W) e=>Zkf F W txs ords A c B d e (H.upd u (fun _ _=>id)));unfold Edge.cells at HCT;have HKL:=Qh (ZkT txs n2);have HZ:=Qh hz;clear bH u1 H;obtain⟨ks,hks⟩:∃ks,ZbW txs=ks:=⟨_,rfl⟩;rw[hks]at HKY HKL;have HKS:=Qh hks;have hkl:ks.length≤288:=by have:=HKL.out;omega
 cases hr:Zg ⟨txs,ords,A,c,B,d⟩
 ·rw[hr]at HR;have HE:=Qh (show ZK ⟨txs,ords,A,c,B,d⟩=[] by unfold ZK;rw[hr];rfl);clear hr hks
  go_enter Try.func42,Try.ntmps42
  go_wp2_with fail
  refine(HR.out _ HU.out).mono ?_;rintro e w2 ⟨rfl,hu2⟩;go_wp2
  go_ret
  exact⟨none,0,by rw[HE.out];rfl,by rw[HE.out];exact World.ownsRow_nil _ _ _ _,HU.out.trans hu2⟩
 ·rw[hr]at HR;have HE:=Qh (show hrA ⟨txs,ords,A,c,B,d⟩ txs=ZK ⟨txs,ords,A,c,B,d⟩ by unfold ZK;rw[hr];rfl);obtain⟨hh,hhh⟩:∃hh,(⟨txs,ords,A,c,B,d⟩:Hist)=hh:=⟨_,rfl⟩;have hht:hh.txs=txs:=by rw[←hhh]
  rw[hhh]at HE HCT;rw[hhh];have HHT:=Qh hht;clear hr hks hhh hht
  go_enter Try.func42,Try.ntmps42
  go_wp2_with fail
  refine(HR.out _ HU.out).mono ?_;rintro e w2 ⟨rfl,hu2⟩;have hv2:=HU.out.trans hu2
  go_wp2_with fail
  refine(HKY.out _ hv2).mono ?_;rintro e w3 ⟨AK,cK,rfl,hik,hu3⟩;have hb3:=hu2.trans hu3;have HV3:=Qh (hv2.trans hu3);have HIK:=Qh hik;have g0:∀W,Upd No w3 W→W.cell? ⟨z,0,none⟩=some (.slice A txs.length c):=fun W u=>g0 W (hb3.trans u)
  have g1:∀W,Upd No w3 W→W.cell? ⟨z,1,none⟩=some (.slice B ords.length d):=fun W u=>g1 W (hb3.trans u)
  have hz3:Upd No w3 w3:=Upd.refl _ _;clear hik hu2 hu3 hv2 hb3 hbz hwb hz;go_wp2
  go_loopg [4,22] txs.length (fun gk s i wr=>∃(k:Nat) (A5:Option Addr) (c5:Nat) (xs:List Hvy),k+gk=txs.length∧i= .int .i64 k∧s= .slice A5 xs.length c5∧Hid (xs=hrA hh (txs.take k))∧Hid (xs.length≤10368*k)∧Hid (wr.ownsRow w3.heap.size 101 5 (.slice A5 xs.length c5) xs.length (Zc6 xs))∧Upd No w3 wr)
  case atStart=>exact⟨0,none,0,[],by omega,rfl,rfl,Qh rfl,Qh (by simp),Qh (World.ownsRow_nil _ _ _ _),hz3⟩
  case round=>
   obtain⟨k,A5,c5,xs,hgk,rfl,rfl,hs,hln,hown,hu⟩:=hrel
   by_cases hlt:k<txs.length
   ·obtain⟨ad,hAd,q0,q1,q2⟩:=(HH.out.upd (HV3.out.trans hu) (fun _ _=>id)).tx_at hlt;simp only at hAd q0 q1 q2;obtain⟨⟨xi,xd,xo,xA,xc⟩,hx⟩:∃x,txs[k]=x:=⟨_,rfl⟩;rw[hx]at q0 q1 q2;simp only at q0 q1 q2;subst hAd;have b1:(0:Int)≤(k:Int):=Qn _;have b2:(k:Int)<(txs.length:Int):=by omega
    obtain⟨wx,hwx⟩:∃wx,wr.alloc (.cells #[.int .i64 xi,.bool xd,.slice xA xo.length xc] 35)=wx:=⟨_,rfl⟩;have ux:Upd No wr wx:=by rw[←hwx];exact(Upd.refl No wr).alloc _
    have bo:Blk wx wr.heap.size 35 [.int .i64 xi,.bool xd,.slice xA xo.length xc]:=by rw[←hwx];exact Blk.new wr _ _
    have HBO:=Qh bo;have HUX:=Qh (hu.trans ux);have HOX:=Qh (Zc hown.out ux (fun _ _=>id));have HAP:=Qh (show∀i,Own (.slice A5 xs.length c5) i→i≠wr.heap.size from fun i e=>by have:=(hown.out.lt i e).2;omega);have HT:=Qh (ZkD (h:=hh) hlt hx);simp only at HT;have HS:=Qh hs.out;clear hx bo ux hs hown;obtain⟨wo,hwo⟩:∃wo,wo=wr:=⟨_,rfl⟩;subst hwo
    generalize gk=GK at*
    go_wp2
    go_loopg [4,7] 3 (fun gn s i wr=>∃(n:Nat) (A6:Option Addr) (c6:Nat) (ys:List Hvy),n+gn=3∧i= .int .i64 ((n:Int)+1)∧s= .slice A6 ys.length c6∧Hid (ys=xs++hrN hh xi n)∧Hid (ys.length≤10368*k+3456*n)∧Hid (wr.ownsRow w3.heap.size 101 5 (.slice A6 ys.length c6) ys.length (Zc6 ys))∧Hid (Blk wr wo.heap.size 35 [.int .i64 xi,.bool xd,.slice xA xo.length xc])∧Hid (∀i,Own (.slice A6 ys.length c6) i→i≠wo.heap.size)∧Upd No w3 wr)
    case atStart=>exact⟨0,A5,c5,xs,by omega,rfl,rfl,Qh (by simp[hrN]),Qh (by have:=hln.out;omega),HOX,HBO,HAP,HUX.out⟩
    case round=>
     clear HOX HBO HAP;obtain⟨n,A6,c6,ys,hgn,rfl,rfl,hs2,hl2,ho2,hbo,hap,hu2⟩:=hrel
     by_cases hn3:n<3
     ·have e1:(n:Int)+1≤3:=by omega
      have e2:(0:Int)≤(n:Int):=Qn _
      generalize gk=GN at*
      go_wp2
      go_loopg [4,32] ks.length (fun gj s i wr=>∃(j:Nat) (A7:Option Addr) (c7:Nat) (vs:List Hvy),j+gj=ks.length∧i= .int .i64 j∧s= .slice A7 vs.length c7∧Hid (vs=ys++hrK hh xi ((n:Int)+1) (ks.take j))∧Hid (vs.length≤10368*k+3456*n+12*j)∧Hid (wr.ownsRow w3.heap.size 101 5 (.slice A7 vs.length c7) vs.length (Zc6 vs))∧Hid (Blk wr wo.heap.size 35 [.int .i64 xi,.bool xd,.slice xA xo.length xc])∧Hid (∀i,Own (.slice A7 vs.length c7) i→i≠wo.heap.size)∧Upd No w3 wr)
      case atStart=>exact⟨0,A6,c6,ys,by omega,rfl,rfl,Qh (by simp[hrK]),Qh (by have:=hl2.out;omega),ho2,hbo,hap,hu2⟩
      case round=>
       obtain⟨j,A7,c7,vs,hgj,rfl,rfl,hs3,hl3,ho3,hbo3,hap3,hu3⟩:=hrel
       by_cases hltj:j<ks.length
       ·obtain⟨adk,hAk,_,_,pk⟩:=(HIK.out.upd hu3 (fun _ _=>id)).at_ hltj;obtain⟨ky,hky⟩:∃ky,ks[j]=ky:=⟨_,rfl⟩;rw[hky]at pk;subst hAk;have c1:(0:Int)≤(j:Int):=Qn _;have c2:(j:Int)<(ks.length:Int):=by omega
        have HKT:=Qh (ZkB (h:=hh) (a:=xi) (kind:=(n:Int)+1) hltj hky);rw[HHT.out]at HKT;clear hky
        generalize gk=GJ at*
        go_wp2
        go_loopg [4,39] txs.length (fun gi s i wr=>∃(m:Nat) (A8:Option Addr) (c8:Nat) (us:List Hvy),m+gi=txs.length∧i= .int .i64 m∧s= .slice A8 us.length c8∧Hid (us=vs++hrB hh xi ((n:Int)+1) ky (txs.take m))∧Hid (us.length≤10368*k+3456*n+12*j+m)∧Hid (wr.ownsRow w3.heap.size 101 5 (.slice A8 us.length c8) us.length (Zc6 us))∧Hid (Blk wr wo.heap.size 35 [.int .i64 xi,.bool xd,.slice xA xo.length xc])∧Hid (∀i,Own (.slice A8 us.length c8) i→i≠wo.heap.size)∧Upd No w3 wr)
        case atStart=>exact⟨0,A7,c7,vs,by omega,rfl,rfl,Qh (by simp[hrB]),Qh (by have:=hl3.out;omega),ho3,hbo3,hap3,hu3⟩
        case round=>
         obtain⟨m,A8,c8,us,hgi,rfl,rfl,hs4,hl4,ho4,hbo4,hap4,hu4⟩:=hrel
         by_cases hltm:m<txs.length
         ·obtain⟨ad2,hAd2,r0,r1,r2⟩:=(HH.out.upd (HV3.out.trans hu4) (fun _ _=>id)).tx_at hltm;simp only at hAd2 r0 r1 r2;obtain rfl:ad=ad2:=Option.some.inj hAd2;obtain⟨⟨yi,yd,yo,yA,yc⟩,hy⟩:∃y,txs[m]=y:=⟨_,rfl⟩;rw[hy]at r0 r1 r2;simp only at r0 r1 r2;have f1:(0:Int)≤(m:Int):=Qn _;have f2:(m:Int)<(txs.length:Int):=by omega
          obtain⟨wy,hwy⟩:∃wy,wr.alloc (.cells #[.int .i64 yi,.bool yd,.slice yA yo.length yc] 35)=wy:=⟨_,rfl⟩;have uy:Upd No wr wy:=by rw[←hwy];exact(Upd.refl No wr).alloc _
          have bY:Blk wy wr.heap.size 35 [.int .i64 yi,.bool yd,.slice yA yo.length yc]:=by rw[←hwy];exact Blk.new wr _ _
          have sy:wy.heap.size=wr.heap.size+1:=by rw[←hwy];simp
          obtain⟨wz,hwz⟩:∃wz,wy.alloc (.cells #[.int .i64 xi,.int .i64 yi,.int .i64 ((n:Int)+1),.int .i64 ky] 89)=wz:=⟨_,rfl⟩;have uz:Upd No wy wz:=by rw[←hwz];exact(Upd.refl No wy).alloc _
          have bZ:Blk wz (wr.heap.size+1) 89 [.int .i64 xi,.int .i64 yi,.int .i64 ((n:Int)+1),.int .i64 ky]:=by rw[←hwz,←sy];exact Blk.new wy _ _
          have x0:∀W,Upd No wr W→W.cell? ⟨wo.heap.size,0,none⟩=some (.int .i64 xi):=fun W u=>by have:=(hbo4.out.upd u id).cell 0;simpa using this
          have y0:∀W,Upd No wy W→W.cell? ⟨wr.heap.size,0,none⟩=some (.int .i64 yi):=fun W u=>by have:=(bY.upd u id).cell 0;simpa using this
          have z0:∀W,Upd No wz W→W.cell? ⟨wr.heap.size+1,0,none⟩=some (.int .i64 xi):=fun W u=>by have:=(bZ.upd u id).cell 0;simpa using this
          have z1:∀W,Upd No wz W→W.cell? ⟨wr.heap.size+1,1,none⟩=some (.int .i64 yi):=fun W u=>by have:=(bZ.upd u id).cell 1;simpa using this
          have z2:∀W,Upd No wz W→W.cell? ⟨wr.heap.size+1,2,none⟩=some (.int .i64 ((n:Int)+1)):=fun W u=>by have:=(bZ.upd u id).cell 2;simpa using this
          have z3:∀W,Upd No wz W→W.cell? ⟨wr.heap.size+1,3,none⟩=some (.int .i64 ky):=fun W u=>by have:=(bZ.upd u id).cell 3;simpa using this
          have x0y:=x0 wy uy;have hyy:Upd No wy wy:=Upd.refl _ _;have hzz:Upd No wz wz:=Upd.refl _ _;have huz:=hu4.trans (uy.trans uz);have g0z:=g0 wz huz;have g1z:=g1 wz huz;have HRZ:=Qh (uy.trans uz);have HUZ:=Qh huz;obtain⟨N,hN⟩:∃N,Zv hh ⟨xi,yi,(n:Int)+1,ky⟩=N:=⟨_,rfl⟩;have hct:=HCT.out wz (HV3.out.trans huz) ⟨xi,yi,(n:Int)+1,ky⟩;rw[hN]at hct;have HC:=Qh hct;have HBT:=Qh (ZkC (h:=hh) (a:=xi) (kind:=(n:Int)+1) (key:=ky) hltm hy);simp only at HBT;rw[hN]at HBT;clear hy bY bZ uy uz hN hct huz x0
          go_wp2_with fail
          refine(HC.out).mono ?_;rintro e w5 ⟨rfl,hu5⟩;have HU5:=Qh (HUZ.out.trans hu5);have HR5:=Qh (HRZ.out.trans hu5);have HO5:=Qh (Zc ho4.out (HRZ.out.trans hu5) (fun _ _=>id));have HB5:=Qh (hbo4.out.upd (HRZ.out.trans hu5) id);have hsz5:=(HUZ.out.trans hu5).size;have hul:us.length≤200000:=by have:=hl4.out;have:=HKL.out;omega
          by_cases hN0:N=0
          ·have HN:=Qh (show us=vs++hrB hh xi ((n:Int)+1) ky (txs.take (m+1)) by rw[HBT.out,if_neg (by omega),List.append_nil];exact hs4.out);subst hN0;go_wp2
           go_roundg (gk-1)
           case measure=>omega
           case rel=>exact⟨m+1,A8,c8,us,by omega,by go_num,rfl,HN,Qh (by have:=hl4.out;omega),HO5,HB5,hap4,HU5.out⟩
          ·have hNp:(0:Int)<(N:Int):=by omega
           have HN:=Qh (show us++[⟨⟨xi,yi,(n:Int)+1,ky⟩,(N:Int)⟩]=vs++hrB hh xi ((n:Int)+1) ky (txs.take (m+1)) by rw[HBT.out,if_pos (by omega),←List.append_assoc,←hs4.out]);clear hN0
           go_wp2_with (at_builtin;refine ZS rfl rfl Zlk (base:=w3.heap.size) (v:= .slice A8 us.length c8) (n:=us.length) (xs:=Zc6 us) (cells:=[.int .i64 xi,.int .i64 yi,.int .i64 ((n:Int)+1),.int .i64 ky,.int .i64 (N:Int)]) (by rfl) (by rfl) HO5.out rfl rfl (by omega) (by omega) (by omega) ?_;intro g9 c9 w9 hown9 hu9 hg9 hlt9)
           go_roundg (gk-1)
           case measure=>omega
           case rel=>
            have hl1:(us++[(⟨⟨xi,yi,(n:Int)+1,ky⟩,(N:Int)⟩:Hvy)]).length=us.length+1:=by simp
            refine⟨m+1,some ⟨g9,0,none⟩,c9,us++[⟨⟨xi,yi,(n:Int)+1,ky⟩,(N:Int)⟩],by omega,by go_num,by rw[hl1],HN,Qh (by rw[hl1];have:=hl4.out;omega),Qh (by rw[hl1,ZjK];exact hown9),Qh (HB5.out.upd hu9 (fun e=>hap4.out _ e rfl)),Qh (fun i e=> ?_),HU5.out.then_ hu9 (fun i e=>Or.inr (HO5.out.lt i e).1)⟩;have e2:g9=i:=by simpa[Own,Value.ownBlock]using e
            rcases hg9 with h1|h1
            ·exact hap4.out i (show _=some i by rw[←e2];exact h1)
            ·have:=HB5.out.lt;omega
         ·obtain rfl:m=txs.length:=by omega
          have HN:=Qh (show us=ys++hrK hh xi ((n:Int)+1) (ks.take (j+1)) by rw[HKT.out,←List.append_assoc,←hs3.out];have:=hs4.out;rwa [List.take_length]at this);go_wp2
          go_roundg (GJ-1)
          case measure=>omega
          case rel=>exact⟨j+1,A8,c8,us,by omega,by go_num,rfl,HN,Qh (by have:=hl4.out;omega),ho4,hbo4,hap4,hu4⟩
       ·obtain rfl:j=ks.length:=by omega
        have HN:=Qh (show vs=xs++hrN hh xi (n+1) by
         have h1:=hs3.out;rw[List.take_length]at h1
         show vs=xs++(hrN hh xi n++hrK hh xi ((n:Int)+1) (ZbW hh.txs))
         rw[HHT.out,HKS.out,←List.append_assoc,←hs2.out];exact h1)
        go_wp2
        go_roundg (GN-1)
        case measure=>omega
        case rel=>exact⟨n+1,A7,c7,vs,by omega,by go_num,rfl,HN,Qh (by have:=hl3.out;have:=HKL.out;omega),ho3,hbo3,hap3,hu3⟩
     ·obtain rfl:n=3:=by omega
      have HN:=Qh (show ys=hrA hh (txs.take (k+1)) by rw[HT.out,←HS.out];exact hs2.out);clear hgn;go_wp2
      go_roundg (GK-1)
      case measure=>omega
      case rel=>exact⟨k+1,A6,c6,ys,by omega,by go_num,rfl,HN,Qh (by have:=hl2.out;omega),ho2,hu2⟩
   ·obtain rfl:k=txs.length:=by omega
    have hxs:xs=ZK hh:=by rw[←HE.out];have:=hs.out;rwa [List.take_length]at this
    subst hxs;go_wp2
    go_ret
    exact⟨A5,c5,rfl,Z1 hown.out HV3.out.size,HV3.out.trans hu⟩
end
/- Edges of a history,in plain words:the lists. -/
section
open Go.RowKit
section
variable {h:Hist}
theorem mem_hrB {a kind key:Int} {bs:List HTx} {x:Hvy}:x∈hrB h a kind key bs↔∃b∈bs,0<Zv h ⟨a,b.id,kind,key⟩∧x=⟨⟨a,b.id,kind,key⟩,(Zv h ⟨a,b.id,kind,key⟩:Int)⟩:=by
 unfold hrB;rw[List.mem_flatMap]
 constructor
 ·rintro⟨b,hb,hx⟩
  split at hx
  ·rename_i hp;exact⟨b,hb,hp,by simpa using hx⟩
  ·cases hx
 ·rintro⟨b,hb,hp,rfl⟩;exact⟨b,hb,by rw[if_pos hp];simp⟩
theorem mem_hrK {a kind:Int} {ks:List Int} {x:Hvy}:x∈hrK h a kind ks↔∃key∈ks,∃b∈h.txs,0<Zv h ⟨a,b.id,kind,key⟩∧x=⟨⟨a,b.id,kind,key⟩,(Zv h ⟨a,b.id,kind,key⟩:Int)⟩:=by
 unfold hrK;rw[List.mem_flatMap];simp only[mem_hrB]
theorem ZmC (a:Int):hrN h a 3=hrK h a 1 (ZbW h.txs)++hrK h a 2 (ZbW h.txs)++hrK h a 3 (ZbW h.txs):=rfl
theorem mem_hrA {ts:List HTx} {x:Hvy}:x∈hrA h ts↔∃t∈ts,∃kind,(kind=1∨kind=2∨kind=3)∧x∈hrK h t.id kind (ZbW h.txs):=by
 unfold hrA;rw[List.mem_flatMap];simp only[ZmC,List.mem_append]
 constructor
 ·rintro⟨t,ht,(h1|h1)|h1⟩
  ·exact⟨t,ht,1,Or.inl rfl,h1⟩
  ·exact⟨t,ht,2,Or.inr (Or.inl rfl),h1⟩
  ·exact⟨t,ht,3,Or.inr (Or.inr rfl),h1⟩
 ·rintro⟨t,ht,kind,rfl|rfl|rfl,h1⟩
  ·exact⟨t,ht,Or.inl (Or.inl h1)⟩
  ·exact⟨t,ht,Or.inl (Or.inr h1)⟩
  ·exact⟨t,ht,Or.inr h1⟩
theorem ZfF {a kind key:Int}:∀{bs:List HTx},(bs.map (·.id)).Pairwise (·<·)→((hrB h a kind key bs).map (·.e)).Pairwise fun a b=>ltE a b=true
 |[],_=>List.Pairwise.nil
 |b::bs,hp=>by
  rw[List.map_cons,List.pairwise_cons]at hp;have ih:=ZfF (a:=a) (kind:=kind) (key:=key) hp.2
  show((((if 0<Zv h ⟨a,b.id,kind,key⟩ then [_] else []):List Hvy)++hrB h a kind key bs).map (·.e)).Pairwise _
  rw[List.map_append]
  split
  ·refine List.pairwise_cons.2 ⟨fun y hy=> ?_,ih⟩;obtain⟨x,hx,rfl⟩:=List.mem_map.1 hy;obtain⟨u,hu,_,rfl⟩:=mem_hrB.1 hx;have:=hp.1 u.id (List.mem_map.2 ⟨u,hu,rfl⟩);exact(ZcE _ _).2 (Or.inr ⟨rfl,Or.inr ⟨rfl,Or.inr ⟨rfl,this⟩⟩⟩)
  ·exact ih
theorem ZfE (hr:(h.txs.map (·.id)).Pairwise (·<·)) {a kind:Int}:∀{ks:List Int},ks.Pairwise (·<·)→((hrK h a kind ks).map (·.e)).Pairwise fun a b=>ltE a b=true
 |[],_=>List.Pairwise.nil
 |k::ks,hp=>by
  rw[List.pairwise_cons]at hp;have ih:=ZfE hr (a:=a) (kind:=kind) hp.2
  show((hrB h a kind k h.txs++hrK h a kind ks).map (·.e)).Pairwise _
  rw[List.map_append,List.pairwise_append];refine⟨ZfF hr,ih,fun y hy z hz=> ?_⟩;obtain⟨x,hx,rfl⟩:=List.mem_map.1 hy;obtain⟨v,hv,rfl⟩:=List.mem_map.1 hz;obtain⟨u,hu,_,rfl⟩:=mem_hrB.1 hx;obtain⟨k2,hk2,u2,hu2,_,rfl⟩:=mem_hrK.1 hv;have:=hp.1 k2 hk2;exact(ZcE _ _).2 (Or.inr ⟨rfl,Or.inr ⟨rfl,Or.inl this⟩⟩)
theorem ZlR (txs:List HTx):(ZbW txs).Pairwise (·<·):=ZdY _ _ List.Pairwise.nil
theorem ZfG (hr:(h.txs.map (·.id)).Pairwise (·<·)):∀{ts:List HTx},(ts.map (·.id)).Pairwise (·<·)→((hrA h ts).map (·.e)).Pairwise fun a b=>ltE a b=true
 |[],_=>List.Pairwise.nil
 |t::ts,hp=>by
  rw[List.map_cons,List.pairwise_cons]at hp;have ih:=ZfG hr hp.2
  show((hrN h t.id 3++hrA h ts).map (·.e)).Pairwise _
  have hkk:=fun kind=>ZfE hr (a:=t.id) (kind:=kind) (ZlR h.txs)
  rw[ZmC,List.map_append,List.map_append,List.map_append,List.pairwise_append,List.pairwise_append,List.pairwise_append];refine⟨⟨⟨hkk 1,hkk 2,fun y hy z hz=> ?_⟩,hkk 3,fun y hy z hz=> ?_⟩,ih,fun y hy z hz=> ?_⟩
  ·obtain⟨x,hx,rfl⟩:=List.mem_map.1 hy;obtain⟨v,hv,rfl⟩:=List.mem_map.1 hz;obtain⟨k2,_,u,_,_,rfl⟩:=mem_hrK.1 hx;obtain⟨k3,_,u3,_,_,rfl⟩:=mem_hrK.1 hv;exact(ZcE _ _).2 (Or.inr ⟨rfl,Or.inl (show(1:Int)<2 by decide)⟩)
  ·obtain⟨v,hv,rfl⟩:=List.mem_map.1 hz;obtain⟨k3,_,u3,_,_,rfl⟩:=mem_hrK.1 hv;rcases List.mem_append.1 hy with hy|hy
   ·obtain⟨x,hx,rfl⟩:=List.mem_map.1 hy;obtain⟨k2,_,u,_,_,rfl⟩:=mem_hrK.1 hx;exact(ZcE _ _).2 (Or.inr ⟨rfl,Or.inl (show(1:Int)<3 by decide)⟩)
   ·obtain⟨x,hx,rfl⟩:=List.mem_map.1 hy;obtain⟨k2,_,u,_,_,rfl⟩:=mem_hrK.1 hx;exact(ZcE _ _).2 (Or.inr ⟨rfl,Or.inl (show(2:Int)<3 by decide)⟩)
  ·obtain⟨v,hv,rfl⟩:=List.mem_map.1 hz;obtain⟨t2,ht2,kind,_,hx2⟩:=mem_hrA.1 hv;obtain⟨k3,_,u3,_,_,rfl⟩:=mem_hrK.1 hx2;have:=hp.1 t2.id (List.mem_map.2 ⟨t2,ht2,rfl⟩)
   have hy2:y.f=t.id:=by
    rcases List.mem_append.1 hy with hy|hy
    ·rcases List.mem_append.1 hy with hy|hy
     ·obtain⟨x,hx,rfl⟩:=List.mem_map.1 hy;obtain⟨k2,_,u,_,_,rfl⟩:=mem_hrK.1 hx;rfl
     ·obtain⟨x,hx,rfl⟩:=List.mem_map.1 hy;obtain⟨k2,_,u,_,_,rfl⟩:=mem_hrK.1 hx;rfl
    ·obtain⟨x,hx,rfl⟩:=List.mem_map.1 hy;obtain⟨k2,_,u,_,_,rfl⟩:=mem_hrK.1 hx;rfl
   exact(ZcE _ _).2 (Or.inl (by rw[hy2];exact this))
theorem Zkx (txs:List HTx) (key:Int):key∈ZbW txs↔∃t∈txs,∃o∈t.ops,o.key=key:=by
 unfold ZbW txK opK;rw[ZdB,List.mem_flatMap];simp only[List.mem_map,List.not_mem_nil,false_or]
theorem ZjT (hr:Zg h=true) {e:Edge} (hc:Zv h e≠0):(∃a∈h.txs,a.id=e.f)∧(∃b∈h.txs,b.id=e.t)∧(e.k=1∨e.k=2∨e.k=3)∧e.key∈ZbW h.txs:=by
 unfold Zv at hc
 cases ha:Zs h.txs e.f with
 |none=>rw[ha]at hc;exact absurd rfl hc
 |some a=>
  cases hb:Zs h.txs e.t with
  |none=>rw[ha,hb]at hc;exact absurd rfl hc
  |some b=>
   rw[ha,hb]at hc;simp only at hc;obtain⟨ha1,ha2⟩:=Zdi (ZbU ha).1;obtain⟨hb1,hb2⟩:=Zdi (ZbU hb).1;refine⟨⟨a,ha1,ha2⟩,⟨b,hb1,hb2⟩,?_⟩;rw[Zkx]
   split at hc
   ·exact absurd rfl hc
   ·split at hc
    ·rename_i hk
     refine⟨Or.inl hk,?_⟩
     split at hc
     ·rename_i hn
      obtain⟨o,ho,hok,i,hi,hy⟩:=(Zcn hr _ _ _).1 hn;have hw:=(Zb3 hr ho).mem_iff.1 (List.mem_of_getElem? hy);unfold ZB at hw;obtain⟨t,ht,_⟩:=List.mem_map.1 hw;rw[List.mem_filter,Bool.and_eq_true,List.contains_iff_mem]at ht;have hk2:=ht.2.2;unfold ZaF at hk2;rw[Zbw]at hk2;unfold ZcJ at hk2;obtain⟨op,hop,hopk⟩:=List.mem_map.1 hk2;rw[List.mem_filter]at hop;exact⟨t,ht.1,op,hop.1,hopk.trans hok⟩
     ·exact absurd rfl hc
    ·split at hc
     ·rename_i hk
      refine⟨Or.inr (Or.inl hk),?_⟩;obtain⟨o,ho,hp⟩:=List.countP_pos_iff.1 (Nat.pos_of_ne_zero hc);unfold p2 at hp;simp only[Bool.and_eq_true,beq_iff_eq]at hp;exact⟨b,hb1,o,ho,hp.1.1.2⟩
     ·split at hc
      ·rename_i hk
       refine⟨Or.inr (Or.inr hk),?_⟩;obtain⟨o,ho,hp⟩:=List.countP_pos_iff.1 (Nat.pos_of_ne_zero hc);unfold p3 at hp;simp only[Bool.and_eq_true,beq_iff_eq]at hp;exact⟨a,ha1,o,ho,hp.1.1.1.2⟩
      ·exact absurd rfl hc
theorem ZiK (hr:Zg h=true) {x:Hvy}:x∈ZK h↔Zv h x.e≠0∧x.n=(Zv h x.e:Int):=by
 unfold ZK;rw[if_pos hr,mem_hrA]
 constructor
 ·rintro⟨t,_,kind,_,hx⟩;obtain⟨key,_,b,_,h1,rfl⟩:=mem_hrK.1 hx;exact⟨by simp only;omega,rfl⟩
 ·rintro⟨h1,h2⟩;obtain⟨⟨a,ha,hae⟩,⟨b,hb,hbe⟩,hk,hkey⟩:=ZjT hr h1;refine⟨a,ha,x.e.k,hk,mem_hrK.2 ⟨x.e.key,hkey,b,hb,?_⟩⟩;obtain⟨⟨ef,et,ek,ey⟩,n⟩:=x;simp only at*;subst hae hbe h2;exact⟨by omega,rfl⟩
theorem ZgP:((ZK h).map (·.e)).Pairwise fun a b=>ltE a b=true:=by
 unfold ZK
 split
 ·rename_i hr;exact ZfG (Zcw hr) (Zcw hr)
 ·exact List.Pairwise.nil
end
end
end Go.Proofs.Ytdbjokfejmgepaa
