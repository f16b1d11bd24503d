/- Scripts out of numbers: the document's line, script, limits. -/
import Derived.Test.YtbcpoloakepnkaaGreatDoorLbay
namespace Go.Proofs.YtbcpoloakepnkaaGreatDoor
set_option linter.unusedVariables false
set_option linter.unusedSimpArgs false
section
open Go.RowKit
attribute [local go_sem] Bv.xor_
theorem Zcv (n:Int):Zb ⟨false,Zv n,0,0⟩=⟨#[119]⟩++Za (Zv n):=by
 unfold Zb;rw[if_neg (by rw[(Zcc n).1];decide),if_pos rfl]
theorem ZcM (n:Int) (l:List HOp) {d:Bool} {b:UInt8} (hd:(if d then (99:UInt8) else 97)=b):
  (⟨#[97,100,100,32]⟩++Za n++⟨#[32,b]⟩++⟨#[32,119]⟩++Za (Zv n)++⟨(Zu l).toArray⟩:ByteArray)=ZF ⟨#[97,100,100]⟩ ⟨(Zp n d (⟨false,Zv n,0,0⟩::l)).toArray⟩:=by
 have e:Zp n d (⟨false,Zv n,0,0⟩::l)=Zc n++[32,b]++32::119::(Zc (Zv n)++Zu l):=by
  unfold Zp Zu;rw[hd,List.flatMap_cons,Zcv];unfold Za;simp
 rw[e];unfold ZF Za
 apply ByteArray.ext
 simp
theorem ZaS (a b c x:ByteArray) (h:a=b++c):a++x=b++(c++x):=by rw[h,Zb4]
set_option maxRecDepth 100000 in
set_option maxHeartbeats 4000000 in
theorem Zee {mx nxt:BitVec 64→BitVec 64} (HM:∀x,mx x=Bv.mix x) (HX:Nx nxt) (w:World) (seed:BitVec 64) (i:Int) (hi:i64 i):
  Calls Tryz.prog 7 #[U seed,.int .i64 i] w fun e w'=>e= .returned (.string (Zd mx nxt seed i))∧Upd No w w':=by
 by_cases h1:i<1
 ·have HV:=Qh (show Zd mx nxt seed i=⟨#[]⟩ by unfold Zd;rw[if_neg (by omega)]);have hb1:decide (i<1)=true:=decide_eq_true h1
  go_enter Tryz.func7,Tryz.ntmps7
  go_wp2
  go_ret
  exact⟨by rw[HV.out];rfl,Upd.refl _ _⟩
 have hb1:decide (i<1)=false:=decide_eq_false h1
 by_cases h2:1000<i
 ·have HV:=Qh (show Zd mx nxt seed i=⟨#[]⟩ by unfold Zd;rw[if_neg (by omega)]);have hb2:decide (1000<i)=true:=decide_eq_true h2
  go_enter Tryz.func7,Tryz.ntmps7
  go_wp2
  go_ret
  exact⟨by rw[HV.out];rfl,Upd.refl _ _⟩
 have hb2:decide (1000<i)=false:=decide_eq_false h2;obtain⟨n,rfl⟩:∃n:Nat,i=(n:Int):=⟨i.toNat,by omega⟩;obtain⟨s,hs⟩:∃s,ZbT mx seed (n:Int)=s:=⟨_,rfl⟩;have HV:=Qh (show Zd mx nxt seed (n:Int)=(ZV nxt s n).text n by unfold Zd;rw[if_pos ⟨by omega,by omega⟩,hs];rfl);have C1:=Qh (fun W=>Zax (BitVec.ofInt 64 (n:Int)) W);have C2:=Qh (fun W=>Zax (seed ^^^ mx (BitVec.ofInt 64 (n:Int))) W);rw[←HM]at C1 C2;rw[show mx (seed ^^^ mx (BitVec.ofInt 64 (n:Int)))=s from hs]at C2;have hw:u (BitVec.ofInt 64 (n:Int))=(n:Int):=Zbf _ (by omega) (by omega);have hww:IntKind.u64.wrap (n:Int)=(n:Int):=by rw[IntKind.wrap_u64];omega
 have CN:=Qh (fun W y=>ZbX HX W y);have C3:=Qh (fun W=>Zct W (nxt (nxt s)));have C6:=Qh (fun W=>Zer W (nxt (nxt s)));have C8:=Qh (fun W=>Zeq W (nxt s));have hcm:=show ZV nxt s n=if ofD (nxt s) 8=5 then .mov (1+ofD (nxt (nxt s)) 3) (1+ofD (nxt (nxt (nxt s))) n) (ofD (nxt (nxt (nxt (nxt s)))) 3) else if ofD (nxt s) 8=6 then ZW nxt (nxt s) n else if ofD (nxt s) 8=7 then (if ofD (nxt (nxt s)) 6=0 then .ask else .why (ofD (nxt (nxt s)) 6)) else .add (Z6 nxt (nxt s)) (ZQ nxt (nxt s) n) from rfl;have CI:=Qh (fun W=>Z2 W (n:Int) (by omega) (by omega));have ni:=Ze (n:Int);have V0:=Zg (nxt s) 8;have V1:=Zi (nxt s) (k:=8) (by omega);obtain⟨V,hV⟩:∃v,ofD (nxt s) 8=v:=⟨_,rfl⟩;rw[hV]at C8 V0 V1 hcm;unfold U at C1 C2 CN C3 C6 C8 ⊢;rw[hw]at C1
 generalize mx (BitVec.ofInt 64 (n:Int))=m1 at C1 C2
 have e4:(⟨#[97,100,100,32]⟩:ByteArray).size=4:=rfl;have e5:(⟨#[109,111,118,32]⟩:ByteArray).size=4:=rfl;have e6:(⟨#[100,101,108,32]⟩:ByteArray).size=4:=rfl;have e7:(⟨#[119,104,121,32]⟩:ByteArray).size=4:=rfl;have e2:(⟨#[32,99]⟩:ByteArray).size=2:=rfl;have e3:(⟨#[32,97]⟩:ByteArray).size=2:=rfl;have e8:(⟨#[32,119]⟩:ByteArray).size=2:=rfl;have hvv:V<5∨V=5∨V=6∨V=7:=by omega
 rcases hvv with hv|rfl|rfl|rfl
 ·have d5:decide (V<5)=true:=decide_eq_true hv;have HC:=Qh (show ZV nxt s n= .add (Z6 nxt (nxt s)) (ZQ nxt (nxt s) n) by rw[hcm,if_neg (by omega),if_neg (by omega),if_neg (by omega)]);have CKY:=Qh (fun W=>Z2 W (Zv (n:Int)) (by have:=Zaf (n:Int);omega) (by have:=Zaf (n:Int);omega));have nk:=Ze (Zv (n:Int));have ky:=Zaf (n:Int);have hky:1+(n:Int)%3=Zv (n:Int):=rfl;have C4:=Qh (fun W=>Zes W (nxt (nxt (nxt s))));have hcnt:ofD (nxt (nxt (nxt s))) 4=(Z8 nxt (nxt s):Int):=rfl;have hc4:Z8 nxt (nxt s)<4:=Nat.mod_lt _ (by omega);rw[hcnt]at C4;have CTL:=Qh (fun W=>Zea HX W (nxt (nxt (nxt s))) (Z8 nxt (nxt s)) n (by omega) (by omega) (by omega));have ntl:=Zbn (Zj nxt n (Z8 nxt (nxt s)) (nxt (nxt (nxt s))));rw[ZaI]at ntl;have HT:=Qh (fun d b hd=>(ZcM (n:Int) (Zj nxt n (Z8 nxt (nxt s)) (nxt (nxt (nxt s)))) (d:=d) (b:=b) hd));obtain⟨tl,htl⟩:∃tl:ByteArray,⟨(Zu (Zj nxt n (Z8 nxt (nxt s)) (nxt (nxt (nxt s))))).toArray⟩=tl:=⟨_,rfl⟩
  have htz:tl.size≤400:=by
   rw[←htl]
   show Array.size _≤_
   rw[List.size_toArray];omega
  rw[htl]at CTL HT;unfold U at C4 CTL;have q6:=Zg (nxt (nxt s)) 6;have hdn:=show Z6 nxt (nxt s)=decide (0<ofD (nxt (nxt s)) 6) from rfl;have HOP:=Qh (show ZQ nxt (nxt s) n=⟨false,Zv (n:Int),0,0⟩::Zj nxt n (Z8 nxt (nxt s)) (nxt (nxt (nxt s))) from rfl);obtain⟨D,hD⟩:∃v,ofD (nxt (nxt s)) 6=v:=⟨_,rfl⟩;rw[hD]at C6 q6 hdn;have p1:¬9223372036854775807<4+(Za (n:Int)).size:=by omega
  have p2:¬9223372036854775807<4+(Za (n:Int)).size+2:=by omega
  have p3:¬9223372036854775807<4+(Za (n:Int)).size+2+2:=by omega
  have p4:¬9223372036854775807<4+(Za (n:Int)).size+2+2+(Za (Zv (n:Int))).size:=by omega
  have p5:¬9223372036854775807<4+(Za (n:Int)).size+2+2+(Za (Zv (n:Int))).size+tl.size:=by omega
  have HD:=Qh hdn;clear hs hw HM HX hcm hV V0 V1 htl hD hdn hv ntl hcnt
  go_enter Tryz.func7,Tryz.ntmps7
  go_wp2_with fail
  refine(C1.out _).mono ?_;rintro e w1 ⟨rfl,rfl⟩
  go_wp2_with fail
  refine(C2.out _).mono ?_;rintro e w2 ⟨rfl,rfl⟩
  go_wp2_with fail
  refine(CN.out _ _).mono ?_;rintro e w3 ⟨rfl,rfl⟩
  go_wp2_with fail
  refine(C8.out _).mono ?_;rintro e w4 ⟨rfl,rfl⟩
  go_wp2_with fail
  refine(CN.out _ _).mono ?_;rintro e w5 ⟨rfl,rfl⟩
  go_wp2_with fail
  refine(CI.out _).mono ?_;rintro e w6 ⟨rfl,hu6⟩
  go_wp2_with fail
  refine(C6.out _).mono ?_;rintro e w7 ⟨rfl,rfl⟩
  by_cases hD0:D=0
  ·subst hD0;have HE:=Qh (HT.out false 97 rfl)
   go_wp2_with fail
   refine(CI.out _).mono ?_;rintro e w8 ⟨rfl,hu8⟩
   go_wp2_with fail
   refine(CN.out _ _).mono ?_;rintro e w9 ⟨rfl,rfl⟩;have HKE:=Qh (show _=Zd mx nxt seed (n:Int) from HE.out.trans (by rw[HV.out,HC.out,HOP.out,HD.out];skip;rfl));clear HE
   go_wp2_with fail
   refine(CKY.out _).mono ?_;rintro e w10 ⟨rfl,hu10⟩
   go_wp2_with fail
   refine(C4.out _).mono ?_;rintro e w11 ⟨rfl,rfl⟩
   go_wp2_with fail
   refine(CTL.out _).mono ?_;rintro e w12 ⟨rfl,hu11⟩;go_wp2
   go_ret
   exact⟨by rw[←HKE.out];rfl,((hu6.trans hu8).trans hu10).trans hu11⟩
  ·have hDb:(D==0)=false:=by simpa using hD0
   have HE:=Qh (HT.out true 99 rfl)
   go_wp2_with fail
   refine(CN.out _ _).mono ?_;rintro e w9 ⟨rfl,rfl⟩;have HKE:=Qh (show _=Zd mx nxt seed (n:Int) from HE.out.trans (by rw[HV.out,HC.out,HOP.out,HD.out];(rw[decide_eq_true (by omega)]);rfl));clear HE
   go_wp2_with fail
   refine(CKY.out _).mono ?_;rintro e w10 ⟨rfl,hu10⟩
   go_wp2_with fail
   refine(C4.out _).mono ?_;rintro e w11 ⟨rfl,rfl⟩
   go_wp2_with fail
   refine(CTL.out _).mono ?_;rintro e w12 ⟨rfl,hu11⟩;go_wp2
   go_ret
   exact⟨by rw[←HKE.out];rfl,(hu6.trans hu10).trans hu11⟩
 ·have hcm2:=hcm;rw[if_pos rfl]at hcm2;have CO:=Qh (fun W y=>Zah W y n (by omega) (by omega));have C3z:=Qh (fun W=>Zct W (nxt (nxt (nxt (nxt s)))));unfold U at CO C3z;have COy:=Qh (fun W=>CO.out W (nxt (nxt (nxt s))));have a0:=Zg (nxt (nxt s)) 3;have a1:=Zi (nxt (nxt s)) (k:=3) (by omega);have b0:=Zg (nxt (nxt (nxt s))) n;have b1:=Zi (nxt (nxt (nxt s))) (k:=n) (by omega);have c0:=Zg (nxt (nxt (nxt (nxt s)))) 3;have c1:=Zi (nxt (nxt (nxt (nxt s)))) (k:=3) (by omega)
  generalize ofD (nxt (nxt s)) 3=a at*
  generalize ofD (nxt (nxt (nxt s))) n=b at*
  generalize ofD (nxt (nxt (nxt (nxt s)))) 3=c at*
  have HE:=Qh (show(⟨#[109,111,118,32]⟩:ByteArray)++ZD [1+a,1+b,c]=Zd mx nxt seed (n:Int) by rw[HV.out,hcm2];exact ZaS _ _ _ _ (by rfl));have q1:wrap64 (1+a)=1+a:=IntWalk.wrap64_in _ (by omega);have q2:wrap64 (1+b)=1+b:=IntWalk.wrap64_in _ (by omega);obtain⟨z,hz⟩:∃z,w.heap.size=z:=⟨_,rfl⟩;obtain⟨wa,hwa⟩:∃wa,w.alloc (.cells #[.int .i64 (1+a),.int .i64 (1+b),.int .i64 c] 3)=wa:=⟨_,rfl⟩;have ua:Upd No w wa:=by rw[←hwa];exact(Upd.refl No w).alloc _
  have HI:=Qh (ZbP (l:=[1+a,1+b,c]) (show Blk wa z 3 [.int .i64 (1+a),.int .i64 (1+b),.int .i64 c] by rw[←hwa,←hz];exact Blk.new w _ _));have CW:=Qh (Zdk _ wa (some ⟨z,0,none⟩) 3 [1+a,1+b,c] HI.out (by simp) (by intro m hm;simp only[List.mem_cons,List.not_mem_nil,or_false]at hm;rcases hm with rfl|rfl|rfl<;>exact⟨by omega,by omega⟩));have hws:(ZD [1+a,1+b,c]).size≤100:=by have:=Z1 [1+a,1+b,c] 3;show(Array.size _)≤_;rw[List.size_toArray];show(Zl [1+a,1+b,c] 3).length≤_;omega
  have p1:¬9223372036854775807<4+(ZD [1+a,1+b,c]).size:=by omega
  have UA:=Qh ua;clear hs hw HM HX hcm hcm2 hV V0 V1 hws CO ua
  go_enter Tryz.func7,Tryz.ntmps7
  go_wp2_with fail
  refine(C1.out _).mono ?_;rintro e w1 ⟨rfl,rfl⟩
  go_wp2_with fail
  refine(C2.out _).mono ?_;rintro e w2 ⟨rfl,rfl⟩
  go_wp2_with fail
  refine(CN.out _ _).mono ?_;rintro e w3 ⟨rfl,rfl⟩
  go_wp2_with fail
  refine(C8.out _).mono ?_;rintro e w4 ⟨rfl,rfl⟩
  go_wp2_with fail
  refine(CN.out _ _).mono ?_;rintro e w5 ⟨rfl,rfl⟩
  go_wp2_with fail
  refine(CN.out _ _).mono ?_;rintro e w6 ⟨rfl,rfl⟩
  go_wp2_with fail
  refine(CN.out _ _).mono ?_;rintro e w7 ⟨rfl,rfl⟩
  go_wp2_with fail
  refine(C3.out _).mono ?_;rintro e w8 ⟨rfl,rfl⟩
  go_wp2_with fail
  refine(COy.out _).mono ?_;rintro e w9 ⟨rfl,rfl⟩
  go_wp2_with fail
  refine(C3z.out _).mono ?_;rintro e w10 ⟨rfl,rfl⟩
  go_wp2_with fail
  refine(CW.out).mono ?_;rintro e w11 ⟨rfl,hu11⟩;go_wp2
  go_ret
  exact⟨by rw[←HE.out];rfl,UA.out.trans hu11⟩
 ·have hcm2:=hcm;rw[if_neg (by omega),if_pos rfl]at hcm2;have ht:=show ZW nxt (nxt s) n=if ofD (nxt (nxt s)) 3=0 then .undo else if ofD (nxt (nxt s)) 3=1 then .redo else .del (1+ofD (nxt (nxt (nxt s))) n) from rfl;have CO:=Qh (fun W y=>Zah W y n (by omega) (by omega));unfold U at CO;have COy:=Qh (fun W=>CO.out W (nxt (nxt (nxt s))));have a0:=Zg (nxt (nxt s)) 3;have a1:=Zi (nxt (nxt s)) (k:=3) (by omega);have b0:=Zg (nxt (nxt (nxt s))) n;have b1:=Zi (nxt (nxt (nxt s))) (k:=n) (by omega)
  generalize ofD (nxt (nxt s)) 3=a at*
  generalize ofD (nxt (nxt (nxt s))) n=b at*
  have q2:wrap64 (1+b)=1+b:=IntWalk.wrap64_in _ (by omega);have CT:=Qh (fun W=>Z2 W (1+b) (by omega) (by omega));have nt:=Ze (1+b);have p1:¬9223372036854775807<4+(Za (1+b)).size:=by omega
  have hav:a=0∨a=1∨a=2:=by omega
  clear hs hw HM HX hcm hV V0 V1 CO nt a0 a1;rcases hav with rfl|rfl|rfl
  ·have HE:=Qh (show Zd mx nxt seed (n:Int)=⟨#[117,110,100,111]⟩ by rw[HV.out,hcm2,ht,if_pos rfl];rfl)
   go_enter Tryz.func7,Tryz.ntmps7
   go_wp2_with fail
   refine(C1.out _).mono ?_;rintro e w1 ⟨rfl,rfl⟩
   go_wp2_with fail
   refine(C2.out _).mono ?_;rintro e w2 ⟨rfl,rfl⟩
   go_wp2_with fail
   refine(CN.out _ _).mono ?_;rintro e w3 ⟨rfl,rfl⟩
   go_wp2_with fail
   refine(C8.out _).mono ?_;rintro e w4 ⟨rfl,rfl⟩
   go_wp2_with fail
   refine(CN.out _ _).mono ?_;rintro e w5 ⟨rfl,rfl⟩
   go_wp2_with fail
   refine(C3.out _).mono ?_;rintro e w6 ⟨rfl,rfl⟩;go_wp2
   go_ret
   exact⟨by rw[HE.out];rfl,Upd.refl _ _⟩
  ·have HE:=Qh (show Zd mx nxt seed (n:Int)=⟨#[114,101,100,111]⟩ by rw[HV.out,hcm2,ht,if_neg (by omega),if_pos rfl];rfl)
   go_enter Tryz.func7,Tryz.ntmps7
   go_wp2_with fail
   refine(C1.out _).mono ?_;rintro e w1 ⟨rfl,rfl⟩
   go_wp2_with fail
   refine(C2.out _).mono ?_;rintro e w2 ⟨rfl,rfl⟩
   go_wp2_with fail
   refine(CN.out _ _).mono ?_;rintro e w3 ⟨rfl,rfl⟩
   go_wp2_with fail
   refine(C8.out _).mono ?_;rintro e w4 ⟨rfl,rfl⟩
   go_wp2_with fail
   refine(CN.out _ _).mono ?_;rintro e w5 ⟨rfl,rfl⟩
   go_wp2_with fail
   refine(C3.out _).mono ?_;rintro e w6 ⟨rfl,rfl⟩;go_wp2
   go_ret
   exact⟨by rw[HE.out];rfl,Upd.refl _ _⟩
  ·have HE:=Qh (show(⟨#[100,101,108,32]⟩:ByteArray)++Za (1+b)=Zd mx nxt seed (n:Int) by rw[HV.out,hcm2,ht,if_neg (by omega),if_neg (by omega)];exact ZaS _ _ _ _ (by rfl))
   go_enter Tryz.func7,Tryz.ntmps7
   go_wp2_with fail
   refine(C1.out _).mono ?_;rintro e w1 ⟨rfl,rfl⟩
   go_wp2_with fail
   refine(C2.out _).mono ?_;rintro e w2 ⟨rfl,rfl⟩
   go_wp2_with fail
   refine(CN.out _ _).mono ?_;rintro e w3 ⟨rfl,rfl⟩
   go_wp2_with fail
   refine(C8.out _).mono ?_;rintro e w4 ⟨rfl,rfl⟩
   go_wp2_with fail
   refine(CN.out _ _).mono ?_;rintro e w5 ⟨rfl,rfl⟩
   go_wp2_with fail
   refine(C3.out _).mono ?_;rintro e w6 ⟨rfl,rfl⟩
   go_wp2_with fail
   refine(CN.out _ _).mono ?_;rintro e w7 ⟨rfl,rfl⟩
   go_wp2_with fail
   refine(COy.out _).mono ?_;rintro e w8 ⟨rfl,rfl⟩
   go_wp2_with fail
   refine(CT.out _).mono ?_;rintro e w9 ⟨rfl,hu9⟩;go_wp2
   go_ret
   exact⟨by rw[←HE.out];rfl,hu9⟩
 ·have hcm2:=hcm;rw[if_neg (by omega),if_neg (by omega),if_pos rfl]at hcm2;have a0:=Zg (nxt (nxt s)) 6;have a1:=Zi (nxt (nxt s)) (k:=6) (by omega)
  generalize ofD (nxt (nxt s)) 6=a at*
  have CT:=Qh (fun W=>ZcZ W a);clear hs hw HM HX hcm hV V0 V1
  by_cases ha:a=0
  ·subst ha;have HE:=Qh (show Zd mx nxt seed (n:Int)=⟨#[97,115,107]⟩ by rw[HV.out,hcm2,if_pos rfl];rfl);clear hcm2
   go_enter Tryz.func7,Tryz.ntmps7
   go_wp2_with fail
   refine(C1.out _).mono ?_;rintro e w1 ⟨rfl,rfl⟩
   go_wp2_with fail
   refine(C2.out _).mono ?_;rintro e w2 ⟨rfl,rfl⟩
   go_wp2_with fail
   refine(CN.out _ _).mono ?_;rintro e w3 ⟨rfl,rfl⟩
   go_wp2_with fail
   refine(C8.out _).mono ?_;rintro e w4 ⟨rfl,rfl⟩
   go_wp2_with fail
   refine(CN.out _ _).mono ?_;rintro e w5 ⟨rfl,rfl⟩
   go_wp2_with fail
   refine(C6.out _).mono ?_;rintro e w6 ⟨rfl,rfl⟩;go_wp2
   go_ret
   exact⟨by rw[HE.out];rfl,Upd.refl _ _⟩
  ·have hab:(a==0)=false:=by simpa using ha
   have HE:=Qh (show(⟨#[119,104,121,32]⟩:ByteArray)++Zk a=Zd mx nxt seed (n:Int) by rw[HV.out,hcm2,if_neg ha];exact ZaS _ _ _ _ (by rfl));have nt:=(ZaG (p:=a) (by omega)).2;have p1:¬9223372036854775807<4+(Zk a).size:=by omega
   clear hcm2 ha nt
   go_enter Tryz.func7,Tryz.ntmps7
   go_wp2_with fail
   refine(C1.out _).mono ?_;rintro e w1 ⟨rfl,rfl⟩
   go_wp2_with fail
   refine(C2.out _).mono ?_;rintro e w2 ⟨rfl,rfl⟩
   go_wp2_with fail
   refine(CN.out _ _).mono ?_;rintro e w3 ⟨rfl,rfl⟩
   go_wp2_with fail
   refine(C8.out _).mono ?_;rintro e w4 ⟨rfl,rfl⟩
   go_wp2_with fail
   refine(CN.out _ _).mono ?_;rintro e w5 ⟨rfl,rfl⟩
   go_wp2_with fail
   refine(C6.out _).mono ?_;rintro e w6 ⟨rfl,rfl⟩
   go_wp2_with fail
   refine(C6.out _).mono ?_;rintro e w7 ⟨rfl,rfl⟩
   go_wp2_with fail
   refine(CT.out _).mono ?_;rintro e w8 ⟨rfl,hu8⟩;go_wp2
   go_ret
   exact⟨by rw[←HE.out];rfl,hu8⟩
end
/- Scripts out of numbers:the document's script and limits. -/
section
open Go.RowKit
theorem Zec (W:World) (x:BitVec 64):Calls Tryz.prog 20 #[U x,.int .i64 60] W fun e w'=>e= .returned (.int .i64 (ofD x 60))∧W=w':=Zah W x 60 (by omega) (by omega)
theorem Zdn (W:World) (x:BitVec 64):Calls Tryz.prog 20 #[U x,.int .i64 400] W fun e w'=>e= .returned (.int .i64 (ofD x 400))∧W=w':=Zah W x 400 (by omega) (by omega)
theorem Zed (W:World) (x:BitVec 64):Calls Tryz.prog 20 #[U x,.int .i64 20] W fun e w'=>e= .returned (.int .i64 (ofD x 20))∧W=w':=Zah W x 20 (by omega) (by omega)
theorem Zeb (W:World) (x:BitVec 64):Calls Tryz.prog 20 #[U x,.int .i64 64] W fun e w'=>e= .returned (.int .i64 (ofD x 64))∧W=w':=Zah W x 64 (by omega) (by omega)
set_option maxRecDepth 100000 in
set_option maxHeartbeats 2000000 in
theorem ZcX {nxt:BitVec 64→BitVec 64} (HX:Nx nxt) (w:World) (s:BitVec 64):
  Calls Tryz.prog 11 #[U s] w fun e w'=>e= .returned (.agg (ZaU nxt s).toArray)∧Upd No w w':=by
 obtain⟨z,hz⟩:∃z,w.heap.size=z:=⟨_,rfl⟩;obtain⟨wa,hwa⟩:∃wa,w.alloc (.cells #[.int .i64 0,.int .i64 0,.int .i64 0,.int .i64 0,.int .i64 0] 26)=wa:=⟨_,rfl⟩;have ua:Upd No w wa:=by rw[←hwa];exact(Upd.refl No w).alloc _
 have ba:Blk wa z 26 [.int .i64 0,.int .i64 0,.int .i64 0,.int .i64 0,.int .i64 0]:=by rw[←hwa,←hz];exact Blk.new w _ _
 have CN:=Qh (fun W y=>ZbX HX W y);have D1:=Qh (fun W=>Zec W (nxt s));have D2:=Qh (fun W=>Zdn W (nxt (nxt s)));have D3:=Qh (fun W=>Zed W (nxt (nxt (nxt s))));have D4:=Qh (fun W=>Zeb W (nxt (nxt (nxt (nxt s)))));have HV:=Qh (show ZaU nxt s=[.int .i64 (4+ofD (nxt s) 60),.int .i64 8,.int .i64 (40+ofD (nxt (nxt s)) 400),.int .i64 (ofD (nxt (nxt (nxt s))) 20),.int .i64 (64+ofD (nxt (nxt (nxt (nxt s)))) 64)] from rfl);have a0:=Zg (nxt s) 60;have a1:=Zi (nxt s) (k:=60) (by omega);have b0:=Zg (nxt (nxt s)) 400;have b1:=Zi (nxt (nxt s)) (k:=400) (by omega);have d0:=Zg (nxt (nxt (nxt (nxt s)))) 64;have d1:=Zi (nxt (nxt (nxt (nxt s)))) (k:=64) (by omega)
 generalize ofD (nxt s) 60=va at*
 generalize ofD (nxt (nxt s)) 400=vb at*
 generalize ofD (nxt (nxt (nxt s))) 20=vc at*
 generalize ofD (nxt (nxt (nxt (nxt s)))) 64=vd at*
 have e1:wrap64 (4+va)=4+va:=IntWalk.wrap64_in _ (by omega);have e2:wrap64 (40+vb)=40+vb:=IntWalk.wrap64_in _ (by omega);have e3:wrap64 (64+vd)=64+vd:=IntWalk.wrap64_in _ (by omega);have r0:=ba.cell 0;have k0:=ba.free 0;have r1:=ba.cell 1;have k1:=ba.free 1;have r2:=ba.cell 2;have k2:=ba.free 2;have r3:=ba.cell 3;have k3:=ba.free 3;have r4:=ba.cell 4;have k4:=ba.free 4;simp only[Qz,Qs]at r0 r1 r2 r3 r4;have BZ:=Qh ba;have UA:=Qh ua;have HZ:=Qh hz;clear ua ba a0 a1 b0 b1 d0 d1 HX
 go_enter Tryz.func11,Tryz.ntmps11
 go_wp2_with fail
 refine(CN.out _ _).mono ?_;rintro e w1 ⟨rfl,rfl⟩
 go_wp2_with fail
 refine(CN.out _ _).mono ?_;rintro e w2 ⟨rfl,rfl⟩
 go_wp2_with fail
 refine(CN.out _ _).mono ?_;rintro e w3 ⟨rfl,rfl⟩
 go_wp2_with fail
 refine(CN.out _ _).mono ?_;rintro e w4 ⟨rfl,rfl⟩
 go_wp2_with fail
 refine(D1.out _).mono ?_;rintro e w5 ⟨rfl,rfl⟩
 go_wp2_with fail
 refine(D2.out _).mono ?_;rintro e w6 ⟨rfl,rfl⟩
 go_wp2_with fail
 refine(D3.out _).mono ?_;rintro e w7 ⟨rfl,rfl⟩
 go_wp2_with fail
 refine(D4.out _).mono ?_;rintro e w8 ⟨rfl,rfl⟩;go_wp2;obtain⟨bs,us⟩:=Zdj BZ.out (.int .i64 (4+va)) (.int .i64 8) (.int .i64 (40+vb)) (.int .i64 vc) (.int .i64 (64+vd))
 generalize (((((wa.setCell ⟨z,0,none⟩ (.int .i64 (4+va))).setCell ⟨z,1,none⟩ (.int .i64 8)).setCell ⟨z,2,none⟩ (.int .i64 (40+vb))).setCell ⟨z,3,none⟩ (.int .i64 vc)).setCell ⟨z,4,none⟩ (.int .i64 (64+vd)))=wz at*
 have q0:=bs.cell 0;have q1:=bs.cell 1;have q2:=bs.cell 2;have q3:=bs.cell 3;have q4:=bs.cell 4;simp only[Qz,Qs]at q0 q1 q2 q3 q4;have hu:=UA.out.then_ us fun i e=> .inr (by have:=HZ.out;unfold One at e;omega)
 refine bodyPost_ret (v:= .agg #[.int .i64 (4+va),.int .i64 8,.int .i64 (40+vb),.int .i64 vc,.int .i64 (64+vd)]) (by simp[results,Tryz.results11,go_sem,q0,q1,q2,q3,q4]) rfl ⟨by rw[HV.out],?_⟩;exact hu
end
end Go.Proofs.YtbcpoloakepnkaaGreatDoor
