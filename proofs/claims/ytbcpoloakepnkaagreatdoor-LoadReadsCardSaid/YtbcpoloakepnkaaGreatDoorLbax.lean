/- Scripts out of numbers: lines. -/
import Derived.Test.YtbcpoloakepnkaaGreatDoorLbaq
import Derived.Test.YtbcpoloakepnkaaGreatDoorLbaw
namespace Go.Proofs.YtbcpoloakepnkaaGreatDoor
set_option linter.unusedVariables false
set_option linter.unusedSimpArgs false
section
open Go.RowKit
def LCmd.text (i:Nat):LCmd→ByteArray
 | .add d ops=>ZF ⟨#[97,100,100]⟩ ⟨(Zp (i:Int) d ops).toArray⟩
 | .mov k j p=>ZF ⟨#[109,111,118]⟩ (ZD [k,j,p])
 | .undo=>⟨#[117,110,100,111]⟩
 | .redo=>⟨#[114,101,100,111]⟩
 | .del j=>ZF ⟨#[100,101,108]⟩ (Za j)
 | .ask=>⟨#[97,115,107]⟩
 | .why p=>ZF ⟨#[119,104,121]⟩ (Zk p)
def LCmd.ok (i:Nat):LCmd→Prop
 | .add _ ops=>ops.length≤4∧∀o∈ops,opB o=true∧o.ok
 | .mov k j p=>Zf k∧Zf j∧Zf p
 | .del j=>Zf j
 | .why p=>1≤p∧p≤5
 |_=>True
theorem ZaG {p:Int} (h:1≤p∧p≤5):(Zk p).toList.isEmpty=false∧(Zk p).size≤100:=by
 obtain rfl|rfl|rfl|rfl|rfl:p=1∨p=2∨p=3∨p=4∨p=5:=by omega
 all_goals exact⟨by kernel_rfl,by decide⟩
theorem Zeg (F:Nat→Prop) (w:World) (i:Nat) (hi:i≤1000) (cm:LCmd) (A:Option Addr) (c:Nat) (hx:HOps F w A cm.ops) (hok:cm.ok i):
  Calls Tryz.prog 16 #[.agg (cm.cells i A c).toArray] w fun e w'=>e= .returned (.string (cm.text i))∧Upd No w w':=by
 cases cm with
 |add d ops=>exact ZdG w F i d A c ops ⟨by omega,by omega⟩ hx (by have:=hok.1;omega) hok.2
 |mov k j p=>exact ZdD w k j p hok.1 hok.2.1 hok.2.2
 |undo=>exact ZdB w
 |redo=>exact ZdC w
 |del j=>exact ZdF w j hok
 |ask=>exact ZdE w
 |why p=>exact ZdA w p (ZaG hok)
theorem Zaz (r:Bool) {k t n:Int} (h:0≤k∧k≤1000000∧0≤t∧t≤1000000∧0≤n∧n≤1000000):(⟨r,k,t,n⟩:HOp).ok:=
 ⟨⟨show _≤k by omega,show k≤_ by omega⟩,⟨show _≤t by omega,show t≤_ by omega⟩,show _≤n by omega,show n≤_ by omega⟩
theorem Zdt (nxt:BitVec 64→BitVec 64) (x:BitVec 64) {i:Nat} (h1:1≤i) (h2:i≤1000):opB (opD nxt x i)=true∧(opD nxt x i).ok:=by
 have a1:=Zg (nxt (nxt x)) i;have a2:=Zi (nxt (nxt x)) (k:=i) (by omega);have k1:=Zaf (ofD (nxt (nxt x)) i);unfold opD
 generalize Zv (ofD (nxt (nxt x)) i)=kk at*
 generalize ofD (nxt (nxt x)) i=j at*
 split
 ·refine⟨?_,Zaz _ (by omega)⟩;unfold opB Zn ZaO idB;simp;omega
 ·refine⟨?_,Zaz _ (by omega)⟩;unfold opB Zn ZaO idB
  split<;>simp<;>omega
theorem Zbv (nxt:BitVec 64→BitVec 64) {i:Nat} (h1:1≤i) (h2:i≤1000):∀(n:Nat) (x:BitVec 64),∀o∈Zj nxt i n x,opB o=true∧o.ok
 |0,x=>fun o ho=>by simp[Zj]at ho
 |n+1,x=>fun o ho=>by
  rw[Zj]at ho;rcases List.mem_cons.1 ho with rfl|ho
  ·exact Zdt nxt x h1 h2
  ·exact Zbv nxt h1 h2 n _ o ho
theorem Zcc (i:Int):opB ⟨false,Zv i,0,0⟩=true∧(⟨false,Zv i,0,0⟩:HOp).ok:=by
 have k1:=Zaf i;refine⟨?_,Zaz _ (by omega)⟩;unfold opB idB;simp;omega
theorem Zau (nxt:BitVec 64→BitVec 64) (x:BitVec 64) {i:Nat} (h1:1≤i) (h2:i≤1000):(ZV nxt x i).ok i:=by
 have num:∀y,Zf (1+ofD y i):=fun y=>by have a1:=Zg y i;have a2:=Zi y (k:=i) (by omega);unfold Zf;omega
 have num3:∀y,0≤ofD y 3∧ofD y 3<3:=fun y=>⟨Zg y 3,Zi y (by omega)⟩
 unfold ZV ZW
 split
 ·refine⟨?_,num _,?_⟩
  ·have:=num3 (nxt (nxt x));unfold Zf;omega
  ·have:=num3 (nxt (nxt (nxt (nxt x))));unfold Zf;omega
 ·split
  ·split
   ·trivial
   ·split
    ·trivial
    ·exact num _
  ·split
   ·split
    ·trivial
    ·have a1:=Zg (nxt (nxt x)) 6;have a2:=Zi (nxt (nxt x)) (k:=6) (by omega);exact⟨by omega,by omega⟩
   ·refine⟨Zcu _ _ _,fun o ho=> ?_⟩;unfold ZQ at ho;rcases List.mem_cons.1 ho with rfl|ho
    ·exact Zcc i
    ·exact Zbv _ h1 h2 _ _ o ho
def ZbT (mx:BitVec 64→BitVec 64) (seed:BitVec 64) (i:Int):BitVec 64:=mx (seed ^^^ mx (BitVec.ofInt 64 i))
def Zd (mx nxt:BitVec 64→BitVec 64) (seed:BitVec 64) (i:Int):ByteArray:=if 1≤i∧i≤1000 then (ZV nxt (ZbT mx seed i) i.toNat).text i.toNat else ⟨#[]⟩
attribute [local go_sem] Bv.xor_
set_option maxRecDepth 100000 in
set_option maxHeartbeats 2000000 in
theorem ZaQ {mx nxt:BitVec 64→BitVec 64} (HM:∀x,mx x=Bv.mix x) (HX:Nx nxt) (w:World) (seed:BitVec 64) (i:Int) (hi:i64 i):
  Calls Tryz.prog 6 #[U seed,.int .i64 i] w fun e w'=>e= .returned (.string (Zd mx nxt seed i))∧Upd No w w':=by
 by_cases h1:i<1
 ·have HV:=Qh (show Zd mx nxt seed i=⟨#[]⟩ by unfold Zd;rw[if_neg (by omega)]);have hb1:decide (i<1)=true:=decide_eq_true h1
  go_enter Tryz.func6,Tryz.ntmps6
  go_wp2
  go_ret
  exact⟨by rw[HV.out];rfl,Upd.refl _ _⟩
 have hb1:decide (i<1)=false:=decide_eq_false h1
 by_cases h2:1000<i
 ·have HV:=Qh (show Zd mx nxt seed i=⟨#[]⟩ by unfold Zd;rw[if_neg (by omega)]);have hb2:decide (1000<i)=true:=decide_eq_true h2
  go_enter Tryz.func6,Tryz.ntmps6
  go_wp2
  go_ret
  exact⟨by rw[HV.out];rfl,Upd.refl _ _⟩
 have hb2:decide (1000<i)=false:=decide_eq_false h2;obtain⟨n,rfl⟩:∃n:Nat,i=(n:Int):=⟨i.toNat,by omega⟩;obtain⟨z,hz⟩:∃z,w.heap.size=z:=⟨_,rfl⟩;obtain⟨s,hs⟩:∃s,ZbT mx seed (n:Int)=s:=⟨_,rfl⟩;obtain⟨wb,hwb⟩:∃wb,w.alloc (.cells #[U s] 44)=wb:=⟨_,rfl⟩;have ub:Upd No w wb:=by rw[←hwb];exact(Upd.refl No w).alloc _
 have bb:Blk wb z 44 [U s]:=by rw[←hwb,←hz];exact Blk.new w _ _
 have HV:=Qh (show Zd mx nxt seed (n:Int)=(ZV nxt s n).text n by unfold Zd;rw[if_pos ⟨by omega,by omega⟩,hs];rfl);have CC:=Qh (Zcz HX wb z s n (by omega) (by omega) bb);have CT:=Qh (fun W A c (hx:HOps (fun j=>wb.heap.size≤j) W A (ZV nxt s n).ops)=>Zeg (fun j=>wb.heap.size≤j) W n (by omega) (ZV nxt s n) A c hx (Zau nxt s (by omega) (by omega)));have C1:=Qh (fun W=>Zbg (BitVec.ofInt 64 (n:Int)) W);have C2:=Qh (fun W=>Zbg (seed ^^^ mx (BitVec.ofInt 64 (n:Int))) W);rw[←HM]at C1 C2;rw[show mx (seed ^^^ mx (BitVec.ofInt 64 (n:Int)))=s from hs]at C2;have hw:u (BitVec.ofInt 64 (n:Int))=(n:Int):=Zbf _ (by omega) (by omega);have hww:IntKind.u64.wrap (n:Int)=(n:Int):=by rw[IntKind.wrap_u64];omega
 have HZ:=Qh hz;have UB:=Qh ub;unfold U at C1 C2 hwb;unfold U;rw[hw]at C1;clear ub bb hs hw HM HX
 generalize mx (BitVec.ofInt 64 (n:Int))=m1 at C1 C2
 go_enter Tryz.func6,Tryz.ntmps6
 go_wp2_with fail
 refine(C1.out _).mono ?_;rintro e w1 ⟨rfl,rfl⟩
 go_wp2_with fail
 refine(C2.out _).mono ?_;rintro e w2 ⟨rfl,rfl⟩
 go_wp2_with fail
 refine(CC.out).mono ?_;rintro e w3 ⟨A,c,rfl,hx,hu3⟩;have HU3:=Qh hu3;have CT2:=Qh (CT.out w3 A c hx);clear hu3 hx CT
 go_wp2_with fail
 refine(CT2.out).mono ?_;rintro e w4 ⟨rfl,hu4⟩;go_wp2
 go_ret
 exact⟨by rw[HV.out];rfl,(UB.out.then_ HU3.out fun j e=> .inr (by cases e;have:=HZ.out;omega)).trans hu4⟩
end
/- Scripts out of numbers:scripts and limits. -/
section
open Go.RowKit
theorem ZK (s x:ByteArray):(ZF s x).size=s.size+(1+x.size):=by unfold ZF;rw[ByteArray.size_append,ByteArray.size_append];rfl
theorem Zbm (i:Nat) {cm:LCmd} (h:cm.ok i):(cm.text i).size≤1000:=by
 cases cm with
 |add d ops=>
  have h1:=Zav i d ops;have h2:=h.1;rw[LCmd.text,ZK];have e:(⟨(Zp (i:Int) d ops).toArray⟩:ByteArray).size=(Zp (i:Int) d ops).length:=by show Array.size _=_;rw[List.size_toArray]
  rw[e,show(⟨#[97,100,100]⟩:ByteArray).size=3 from rfl];omega
 |mov k j p=>
  have h1:=Z1 [k,j,p] 3;rw[LCmd.text,ZK];have e:(ZD [k,j,p]).size=(Zl [k,j,p] 3).length:=by show Array.size _=_;rw[List.size_toArray];rfl
  rw[e,show(⟨#[109,111,118]⟩:ByteArray).size=3 from rfl];omega
 |undo=>exact(by decide:(⟨#[117,110,100,111]⟩:ByteArray).size≤1000)
 |redo=>exact(by decide:(⟨#[114,101,100,111]⟩:ByteArray).size≤1000)
 |del j=>
  have h1:=Ze j;rw[LCmd.text,ZK,show(⟨#[100,101,108]⟩:ByteArray).size=3 from rfl];omega
 |ask=>exact(by decide:(⟨#[97,115,107]⟩:ByteArray).size≤1000)
 |why p=>
  have h1:=(ZaG h).2;rw[LCmd.text,ZK,show(⟨#[119,104,121]⟩:ByteArray).size=3 from rfl];omega
theorem Za8 (mx nxt:BitVec 64→BitVec 64) (seed:BitVec 64) (i:Int):(Zd mx nxt seed i).size≤1000:=by
 unfold Zd
 split
 ·exact Zbm _ (Zau nxt _ (by omega) (by omega))
 ·decide
def Zw (mx nxt:BitVec 64→BitVec 64) (seed:BitVec 64):Nat→List UInt8
 |0=>[]
 |k+1=>Zw mx nxt seed k++(Zd mx nxt seed ((k:Int)+1)++⟨#[10]⟩).data.toList
theorem Zar (mx nxt:BitVec 64→BitVec 64) (seed:BitVec 64):∀k,(Zw mx nxt seed k).length≤1001*k
 |0=>by simp[Zw]
 |k+1=>by
  have h1:=Zar mx nxt seed k;have h2:=Za8 mx nxt seed ((k:Int)+1);rw[Zw,List.length_append,Zbd,ByteArray.size_append,show(⟨#[10]⟩:ByteArray).size=1 from rfl];omega
def Zr (mx nxt:BitVec 64→BitVec 64) (seed:BitVec 64) (n:Int):ByteArray:=⟨(Zw mx nxt seed (min n 1000).toNat).toArray⟩
set_option maxRecDepth 100000 in
set_option maxHeartbeats 2000000 in
theorem Zbh {mx nxt:BitVec 64→BitVec 64} (HM:∀x,mx x=Bv.mix x) (HX:Nx nxt) (w:World) (seed:BitVec 64) (n:Int):
  Calls Tryz.prog 8 #[U seed,.int .i64 n] w fun e w'=>e= .returned (.string (Zr mx nxt seed n))∧Upd No w w':=by
 have HB0:=Qh (BSx.fresh w);have m1:(⟨#[10]⟩:ByteArray).size=1:=rfl;obtain⟨c,hc⟩:∃c,(min n 1000).toNat=c:=⟨_,rfl⟩;have HC:=Qh hc;obtain⟨mn,hmn⟩:∃mn,min n 1000=mn:=⟨_,rfl⟩;have hm2:min 1000 n=mn:=by omega
 have HMN:=Qh hmn;clear hc;have CL:=Qh (fun W i hi=>ZaQ HM HX W seed i hi);clear HM HX;unfold U at CL ⊢
 go_enter Tryz.func8,Tryz.ntmps8
 go_wp2
 go_loopg [6] (c+1) (fun gk s wr=>∃k:Nat,k+gk=c+1∧k≤c∧s= .int .i64 ((k:Int)+1)∧Hid (BSx w w.heap.size (Zw mx nxt seed k) wr))
 case atStart=>exact⟨0,by omega,by omega,rfl,HB0⟩
 case round=>
  obtain⟨k,hgk,hkc,rfl,hst⟩:=hrel
  by_cases hlt:k<c
  ·have hd:decide ((k:Int)+1≤mn)=true:=decide_eq_true (by have:=HMN.out;have:=HC.out;omega);have CLK:=Qh (CL.out wr ((k:Int)+1) ⟨by have:=HC.out;omega,by have:=HC.out;omega⟩);have n1:=Za8 mx nxt seed ((k:Int)+1);have n2:=Zar mx nxt seed k;have hc10:c≤1000:=by have:=HC.out;omega
   have HS:=Qh (show Zw mx nxt seed (k+1)=Zw mx nxt seed k++(Zd mx nxt seed ((k:Int)+1)++⟨#[10]⟩).data.toList from rfl);obtain⟨ln,hln⟩:∃ln,Zd mx nxt seed ((k:Int)+1)=ln:=⟨_,rfl⟩;rw[hln]at CLK n1 HS;have p1:¬9223372036854775807<ln.size+1:=by omega
   have HLN:=Qh (show(Zw mx nxt seed k).length+(ln++⟨#[10]⟩:ByteArray).size≤140737488355328 by rw[ByteArray.size_append,m1];omega);clear n1 n2 hln
   go_wp2_with fail
   refine(CLK.out).mono ?_;rintro e w5 ⟨rfl,hu5⟩;have HW:=Qh ((hst.out.no hu5).write (ln++⟨#[10]⟩) HLN.out);rw[←HS.out]at HW;clear hu5
   go_wp2_with fail
   refine(HW.out).mono ?_;rintro e w6 ⟨rfl,hb6⟩;have HB6:=Qh hb6;clear hb6;have hk2:wrap64 ((k:Int)+1+1)=(k:Int)+1+1:=IntWalk.wrap64_in _ (by omega);go_wp2
   go_roundg (gk-1)
   case measure=>omega
   case rel=>exact⟨k+1,by omega,by omega,by go_num,HB6⟩
  ·have hd:decide ((k:Int)+1≤mn)=false:=decide_eq_false (by have:=HMN.out;have:=HC.out;omega);obtain rfl:k=c:=by omega
   have HST:=Qh (hst.out.str (Nat.le_refl _))
   go_wp2_with fail
   refine(HST.out).mono ?_;rintro e w7 ⟨rfl,hu7⟩;go_wp2
   go_ret
   exact⟨by unfold Zr;rw[HC.out];rfl,hu7⟩
theorem Zdj {W:World} {b:Nat} {ty:TypeId} {c0 c1 c2 c3 c4:Value} (h:Blk W b ty [c0,c1,c2,c3,c4]) (v0 v1 v2 v3 v4:Value):
  Blk (((((W.setCell ⟨b,0,none⟩ v0).setCell ⟨b,1,none⟩ v1).setCell ⟨b,2,none⟩ v2).setCell ⟨b,3,none⟩ v3).setCell ⟨b,4,none⟩ v4) b ty [v0,v1,v2,v3,v4]∧Upd (One b) W (((((W.setCell ⟨b,0,none⟩ v0).setCell ⟨b,1,none⟩ v1).setCell ⟨b,2,none⟩ v2).setCell ⟨b,3,none⟩ v3).setCell ⟨b,4,none⟩ v4):=by
 refine⟨?_,((((((Upd.refl _ _).setOne 0 _).setOne 1 _).setOne 2 _).setOne 3 _).setOne 4 _)⟩;have:=((((h.set_ 0 v0).set_ 1 v1).set_ 2 v2).set_ 3 v3).set_ 4 v4
 simpa only[List.set_cons_zero,List.set_cons_succ]using this
def ZaU (nxt:BitVec 64→BitVec 64) (s:BitVec 64):List Value:=[.int .i64 (4+ofD (nxt s) 60),.int .i64 8,.int .i64 (40+ofD (nxt (nxt s)) 400),.int .i64 (ofD (nxt (nxt (nxt s))) 20),.int .i64 (64+ofD (nxt (nxt (nxt (nxt s)))) 64)]
set_option maxRecDepth 100000 in
set_option maxHeartbeats 2000000 in
theorem ZbO {nxt:BitVec 64→BitVec 64} (HX:Nx nxt) (w:World) (s:BitVec 64):
  Calls Tryz.prog 10 #[U s] w fun e w'=>e= .returned (.agg (ZaU nxt s).toArray)∧Upd No w w':=by
 obtain⟨z,hz⟩:∃z,w.heap.size=z:=⟨_,rfl⟩;obtain⟨wa,hwa⟩:∃wa,w.alloc (.cells #[.int .i64 0,.int .i64 0,.int .i64 0,.int .i64 0,.int .i64 0] 26)=wa:=⟨_,rfl⟩;obtain⟨wb,hwb⟩:∃wb,wa.alloc (.cells #[U s] 44)=wb:=⟨_,rfl⟩;have ua:Upd No w wa:=by rw[←hwa];exact(Upd.refl No w).alloc _
 have ub:Upd No wa wb:=by rw[←hwb];exact(Upd.refl No wa).alloc _
 have sa:wa.heap.size=z+1:=by rw[←hwa,←hz];simp
 have ba:Blk wb z 26 [.int .i64 0,.int .i64 0,.int .i64 0,.int .i64 0,.int .i64 0]:=by
  have:Blk wa z 26 [.int .i64 0,.int .i64 0,.int .i64 0,.int .i64 0,.int .i64 0]:=by rw[←hwa,←hz];exact Blk.new w _ _
  exact this.upd ub id
 have bb:Blk wb (z+1) 44 [U s]:=by rw[←hwb,←sa];exact Blk.new wa _ _
 have CD:=Qh (fun W x k (h1:0<k) (h2:k≤1000000) (hb:Blk W (z+1) 44 [U x])=>Zap HX W (z+1) x k h1 h2 hb);have HV:=Qh (show ZaU nxt s=[.int .i64 (4+ofD (nxt s) 60),.int .i64 8,.int .i64 (40+ofD (nxt (nxt s)) 400),.int .i64 (ofD (nxt (nxt (nxt s))) 20),.int .i64 (64+ofD (nxt (nxt (nxt (nxt s)))) 64)] from rfl);have UB:=Qh (ua.trans ub);have BA:=Qh ba;have BB:=Qh bb;have hzw:wa.heap.size=z+1:=sa;have a0:=Zg (nxt s) 60;have a1:=Zi (nxt s) (k:=60) (by omega);have b0:=Zg (nxt (nxt s)) 400;have b1:=Zi (nxt (nxt s)) (k:=400) (by omega);have d0:=Zg (nxt (nxt (nxt (nxt s)))) 64;have d1:=Zi (nxt (nxt (nxt (nxt s)))) (k:=64) (by omega);have D1:=Qh (CD.out wb s 60 (by omega) (by omega) BB.out);have D2:=Qh (fun W hb=>CD.out W (nxt s) 400 (by omega) (by omega) hb);have D3:=Qh (fun W hb=>CD.out W (nxt (nxt s)) 20 (by omega) (by omega) hb);have D4:=Qh (fun W hb=>CD.out W (nxt (nxt (nxt s))) 64 (by omega) (by omega) hb)
 generalize ofD (nxt s) 60=va at*
 generalize ofD (nxt (nxt s)) 400=vb at*
 generalize ofD (nxt (nxt (nxt s))) 20=vc at*
 generalize ofD (nxt (nxt (nxt (nxt s)))) 64=vd at*
 have e1:wrap64 (4+va)=4+va:=IntWalk.wrap64_in _ (by omega);have e2:wrap64 (40+vb)=40+vb:=IntWalk.wrap64_in _ (by omega);have e3:wrap64 (64+vd)=64+vd:=IntWalk.wrap64_in _ (by omega);clear ua ub sa ba bb CD a0 a1 b0 b1 d0 d1 HX
 go_enter Tryz.func10,Tryz.ntmps10
 go_wp2_with fail
 refine(D1.out).mono ?_;rintro e w1 ⟨rfl,hb1,hu1⟩;have HB1:=Qh hb1;clear hb1
 go_wp2_with fail
 refine(D2.out _ HB1.out).mono ?_;rintro e w2 ⟨rfl,hb2,hu2⟩;have HB2:=Qh hb2;clear hb2
 go_wp2_with fail
 refine(D3.out _ HB2.out).mono ?_;rintro e w3 ⟨rfl,hb3,hu3⟩;have HB3:=Qh hb3;clear hb3
 go_wp2_with fail
 refine(D4.out _ HB3.out).mono ?_;rintro e w4 ⟨rfl,hb4,hu4⟩;have HU:=Qh (((hu1.trans hu2).trans hu3).trans hu4);have bz:=BA.out.upd HU.out (show¬One (z+1) z from fun e=>by unfold One at e;omega);have r0:=bz.cell 0;have k0:=bz.free 0;have r1:=bz.cell 1;have k1:=bz.free 1;have r2:=bz.cell 2;have k2:=bz.free 2;have r3:=bz.cell 3;have k3:=bz.free 3;have r4:=bz.cell 4;have k4:=bz.free 4;have BZ:=Qh bz;clear bz hb4 hu1 hu2 hu3 hu4;simp only[Qz,Qs]at r0 r1 r2 r3 r4;go_wp2;obtain⟨bs,us⟩:=Zdj BZ.out (.int .i64 (4+va)) (.int .i64 8) (.int .i64 (40+vb)) (.int .i64 vc) (.int .i64 (64+vd))
 generalize (((((w4.setCell ⟨z,0,none⟩ (.int .i64 (4+va))).setCell ⟨z,1,none⟩ (.int .i64 8)).setCell ⟨z,2,none⟩ (.int .i64 (40+vb))).setCell ⟨z,3,none⟩ (.int .i64 vc)).setCell ⟨z,4,none⟩ (.int .i64 (64+vd)))=wz at*
 have q0:=bs.cell 0;have q1:=bs.cell 1;have q2:=bs.cell 2;have q3:=bs.cell 3;have q4:=bs.cell 4;simp only[Qz,Qs]at q0 q1 q2 q3 q4;have hu:=(UB.out.then_ HU.out fun i e=> .inr (by unfold One at e;omega)).then_ us fun i e=> .inr (by unfold One at e;omega)
 refine bodyPost_ret (v:= .agg #[.int .i64 (4+va),.int .i64 8,.int .i64 (40+vb),.int .i64 vc,.int .i64 (64+vd)]) (by simp[results,Tryz.results10,go_sem,q0,q1,q2,q3,q4]) rfl ⟨by rw[HV.out],?_⟩;exact hu
end
end Go.Proofs.YtbcpoloakepnkaaGreatDoor
