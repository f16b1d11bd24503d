/- A walk's text: the document's. -/
import Derived.Deep.RegionHeld3
import Derived.Test.YtbcpoloakepnkaaGreatDoorLbai
import Derived.Test.YtbcpoloakepnkaaGreatDoorLbal
import Derived.Test.YtbcpoloakepnkaaGreatDoorLban
namespace Go.Proofs.YtbcpoloakepnkaaGreatDoor
set_option linter.unusedVariables false
set_option linter.unusedSimpArgs false
section
open Go.RowKit
def Edge.ok (e:Edge):Prop:=(-9223372036854775808≤e.f∧e.f≤9223372036854775807)∧(-9223372036854775808≤e.t∧e.t≤9223372036854775807)∧(-9223372036854775808≤e.key∧e.key≤9223372036854775807)
def Za (n:Int):ByteArray:=⟨(Zc n).toArray⟩
theorem Ze (n:Int):(Za n).size≤21:=by
 have:=Zaj n
 simpa[Za,ByteArray.size]using this
theorem Z2 (w:World) (n:Int) (h1: -9223372036854775808≤n) (h2:n≤9223372036854775807):
  Calls Tryz.prog 21 #[.int .i64 n] w fun e w'=>e= .returned (.string (Za n))∧Upd No w w':=Zet w n h1 h2
theorem Z9 (w:World) (n:Int) (h1: -9223372036854775808≤n) (h2:n≤9223372036854775807):
  Calls Tryz.prog 36 #[.int .i64 n] w fun e w'=>e= .returned (.string (Za n))∧Upd No w w':=Zev w n h1 h2
end
/- An operation's text:the program's,and the document's. -/
section
open Go.RowKit
def Zb (o:HOp):ByteArray:=
 if opB o=false then ⟨#[]⟩ else if o.read=false then ⟨#[119]⟩++Za o.key else if o.tx=0 then ⟨#[114]⟩++Za o.key++⟨#[64,48]⟩
 else ⟨#[114]⟩++Za o.key++⟨#[64]⟩++Za o.tx++⟨#[46]⟩++Za o.nth
set_option maxRecDepth 100000 in
set_option maxHeartbeats 1000000 in
theorem Zdp (w:World) (k t n:Int) (hk:i64 k∧i64 t∧i64 n):Calls Tryz.prog 52 #[.agg #[.bool false,.int .i64 k,.int .i64 t,.int .i64 n]] w fun e w'=>e= .returned (.string (Zb ⟨false,k,t,n⟩))∧Upd No w w':=by
 have HR:=Qh (fun W=>Zat W ⟨false,k,t,n⟩);unfold HOp.cells at HR;obtain⟨z,hz⟩:∃z,w.heap.size=z:=⟨_,rfl⟩;obtain⟨wb,hwb⟩:∃wb,w.alloc (.cells #[.bool false,.int .i64 k,.int .i64 t,.int .i64 n] 82)=wb:=⟨_,rfl⟩;have ub:Upd No w wb:=by rw[←hwb];exact(Upd.refl No w).alloc _
 have bb:Blk wb z 82 [.bool false,.int .i64 k,.int .i64 t,.int .i64 n]:=by rw[←hwb,←hz];exact Blk.new w _ _
 have t0:∀W,Upd No wb W→W.cell? ⟨z,0,none⟩=some (.bool false):=fun W u=>(bb.upd u id).cell 0
 have t1:∀W,Upd No wb W→W.cell? ⟨z,1,none⟩=some (.int .i64 k):=fun W u=>(bb.upd u id).cell 1
 have t2:∀W,Upd No wb W→W.cell? ⟨z,2,none⟩=some (.int .i64 t):=fun W u=>(bb.upd u id).cell 2
 have t3:∀W,Upd No wb W→W.cell? ⟨z,3,none⟩=some (.int .i64 n):=fun W u=>(bb.upd u id).cell 3
 have hbz:Upd No wb wb:=Upd.refl _ _;have UB:=Qh ub;have HK:=Qh hk;have n1:=Ze k;have n2:=Ze t;have n3:=Ze n;have m1:(⟨#[119]⟩:ByteArray).size=1:=rfl;have m2:(⟨#[114]⟩:ByteArray).size=1:=rfl;have m3:(⟨#[64]⟩:ByteArray).size=1:=rfl;have m4:(⟨#[46]⟩:ByteArray).size=1:=rfl;have m5:(⟨#[64,48]⟩:ByteArray).size=2:=rfl;have p1:¬9223372036854775807<1+(Za k).size:=by omega
 have p2:¬9223372036854775807<1+(Za k).size+2:=by omega
 have p3:¬9223372036854775807<1+(Za k).size+1:=by omega
 have p4:¬9223372036854775807<1+(Za k).size+1+(Za t).size:=by omega
 have p5:¬9223372036854775807<1+(Za k).size+1+(Za t).size+1:=by omega
 have p6:¬9223372036854775807<1+(Za k).size+1+(Za t).size+1+(Za n).size:=by omega
 clear bb ub hk;obtain⟨bo,hbo⟩:∃b,opB ⟨false,k,t,n⟩=b:=⟨_,rfl⟩;rw[hbo]at HR
 cases bo
 ·have HT:=Qh (show Zb ⟨false,k,t,n⟩=⟨#[]⟩ by unfold Zb;rw[if_pos hbo]);have HR2:=Qh (show Calls Tryz.prog 51 #[.agg #[.bool false,.int .i64 k,.int .i64 t,.int .i64 n]] wb fun e w'=>e= .returned (.int .i64 1)∧Upd No wb w' from HR.out wb);clear HR hbo
  go_enter Tryz.func52,Tryz.ntmps52
  go_wp2_with fail
  refine(HR2.out).mono ?_;rintro e w1 ⟨rfl,hu1⟩;go_wp2
  go_ret
  exact⟨by rw[HT.out];rfl,UB.out.trans hu1⟩
 ·have HT:=Qh (show Zb ⟨false,k,t,n⟩=⟨#[119]⟩++Za k by unfold Zb;rw[if_neg (by rw[hbo];decide),if_pos rfl]);have HR2:=Qh (show Calls Tryz.prog 51 #[.agg #[.bool false,.int .i64 k,.int .i64 t,.int .i64 n]] wb fun e w'=>e= .returned (.int .i64 0)∧Upd No wb w' from HR.out wb);clear HR hbo
  go_enter Tryz.func52,Tryz.ntmps52
  go_wp2_with fail
  refine(HR2.out).mono ?_;rintro e w1 ⟨rfl,hu1⟩
  go_wp2_with fail
  refine(Z9 _ k HK.out.1.1 HK.out.1.2).mono ?_;rintro e w2 ⟨rfl,hu2⟩;go_wp2
  go_ret
  exact⟨by rw[HT.out];rfl,UB.out.trans (hu1.trans hu2)⟩
set_option maxRecDepth 100000 in
set_option maxHeartbeats 1000000 in
theorem Zdr (w:World) (k t n:Int) (hk:i64 k∧i64 t∧i64 n):Calls Tryz.prog 52 #[.agg #[.bool true,.int .i64 k,.int .i64 t,.int .i64 n]] w fun e w'=>e= .returned (.string (Zb ⟨true,k,t,n⟩))∧Upd No w w':=by
 have HR:=Qh (fun W=>Zat W ⟨true,k,t,n⟩);unfold HOp.cells at HR;obtain⟨z,hz⟩:∃z,w.heap.size=z:=⟨_,rfl⟩;obtain⟨wb,hwb⟩:∃wb,w.alloc (.cells #[.bool true,.int .i64 k,.int .i64 t,.int .i64 n] 82)=wb:=⟨_,rfl⟩;have ub:Upd No w wb:=by rw[←hwb];exact(Upd.refl No w).alloc _
 have bb:Blk wb z 82 [.bool true,.int .i64 k,.int .i64 t,.int .i64 n]:=by rw[←hwb,←hz];exact Blk.new w _ _
 have t0:∀W,Upd No wb W→W.cell? ⟨z,0,none⟩=some (.bool true):=fun W u=>(bb.upd u id).cell 0
 have t1:∀W,Upd No wb W→W.cell? ⟨z,1,none⟩=some (.int .i64 k):=fun W u=>(bb.upd u id).cell 1
 have t2:∀W,Upd No wb W→W.cell? ⟨z,2,none⟩=some (.int .i64 t):=fun W u=>(bb.upd u id).cell 2
 have t3:∀W,Upd No wb W→W.cell? ⟨z,3,none⟩=some (.int .i64 n):=fun W u=>(bb.upd u id).cell 3
 have hbz:Upd No wb wb:=Upd.refl _ _;have UB:=Qh ub;have HK:=Qh hk;have n1:=Ze k;have n2:=Ze t;have n3:=Ze n;have m1:(⟨#[119]⟩:ByteArray).size=1:=rfl;have m2:(⟨#[114]⟩:ByteArray).size=1:=rfl;have m3:(⟨#[64]⟩:ByteArray).size=1:=rfl;have m4:(⟨#[46]⟩:ByteArray).size=1:=rfl;have m5:(⟨#[64,48]⟩:ByteArray).size=2:=rfl;have p1:¬9223372036854775807<1+(Za k).size:=by omega
 have p2:¬9223372036854775807<1+(Za k).size+2:=by omega
 have p3:¬9223372036854775807<1+(Za k).size+1:=by omega
 have p4:¬9223372036854775807<1+(Za k).size+1+(Za t).size:=by omega
 have p5:¬9223372036854775807<1+(Za k).size+1+(Za t).size+1:=by omega
 have p6:¬9223372036854775807<1+(Za k).size+1+(Za t).size+1+(Za n).size:=by omega
 clear bb ub hk;obtain⟨bo,hbo⟩:∃b,opB ⟨true,k,t,n⟩=b:=⟨_,rfl⟩;rw[hbo]at HR
 cases bo
 ·have HT:=Qh (show Zb ⟨true,k,t,n⟩=⟨#[]⟩ by unfold Zb;rw[if_pos hbo]);have HR2:=Qh (show Calls Tryz.prog 51 #[.agg #[.bool true,.int .i64 k,.int .i64 t,.int .i64 n]] wb fun e w'=>e= .returned (.int .i64 1)∧Upd No wb w' from HR.out wb);clear HR hbo
  go_enter Tryz.func52,Tryz.ntmps52
  go_wp2_with fail
  refine(HR2.out).mono ?_;rintro e w1 ⟨rfl,hu1⟩;go_wp2
  go_ret
  exact⟨by rw[HT.out];rfl,UB.out.trans hu1⟩
 ·have HR2:=Qh (show Calls Tryz.prog 51 #[.agg #[.bool true,.int .i64 k,.int .i64 t,.int .i64 n]] wb fun e w'=>e= .returned (.int .i64 0)∧Upd No wb w' from HR.out wb);clear HR
  by_cases h0:t=0
  ·have HT:=Qh (show Zb ⟨true,k,t,n⟩=⟨#[114]⟩++Za k++⟨#[64,48]⟩ by unfold Zb;rw[if_neg (by rw[hbo];decide),if_neg (by simp),if_pos h0]);have h0b:(t==0)=true:=by rw[h0];rfl
   clear hbo h0
   go_enter Tryz.func52,Tryz.ntmps52
   go_wp2_with fail
   refine(HR2.out).mono ?_;rintro e w1 ⟨rfl,hu1⟩
   go_wp2_with fail
   refine(Z9 _ k HK.out.1.1 HK.out.1.2).mono ?_;rintro e w2 ⟨rfl,hu2⟩;go_wp2
   go_ret
   exact⟨by rw[HT.out];rfl,UB.out.trans (hu1.trans hu2)⟩
  ·have HT:=Qh (show Zb ⟨true,k,t,n⟩=⟨#[114]⟩++Za k++⟨#[64]⟩++Za t++⟨#[46]⟩++Za n by unfold Zb;rw[if_neg (by rw[hbo];decide),if_neg (by simp),if_neg h0]);have h0b:(t==0)=false:=by simpa using h0
   clear hbo h0
   go_enter Tryz.func52,Tryz.ntmps52
   go_wp2_with fail
   refine(HR2.out).mono ?_;rintro e w1 ⟨rfl,hu1⟩;have s1:∀W,Upd No w1 W→W.cell? ⟨z,1,none⟩=some (.int .i64 k):=fun W u=>t1 W (hu1.trans u)
   have s2:∀W,Upd No w1 W→W.cell? ⟨z,2,none⟩=some (.int .i64 t):=fun W u=>t2 W (hu1.trans u)
   have s3:∀W,Upd No w1 W→W.cell? ⟨z,3,none⟩=some (.int .i64 n):=fun W u=>t3 W (hu1.trans u)
   go_wp2;refine wp_region_noPanic ?_;refine wp_region_held_drew (S:=(fun w'=>Upd No w1 w')) (by kernel_rfl) ?_ (fun hHeld=> ?_)
   ·(first|exact(Upd.refl No _).drew|exact hHeld.trans hu3)
   refine wpK 0 rfl ?_;refine wpK 1 rfl ?_;refine wpK 5 rfl ?_;refine wpK 6 rfl ?_;refine wpK 10 rfl ?_;refine wpK 11 rfl ?_;refine wpR [2] ?_;refine wpC rfl (fun K hK=> ?_) AllReadyH.nil;go_simp
   (first
  |(go_at_call 36;refine(Z9 _ k HK.out.1.1 HK.out.1.2).mono ?_;rintro e w3 ⟨rfl,hu3⟩))
   try (go_wp2_with fail)
   refine hK.out _ _ ?_ (fun hHeld=> ?_)
   ·(first|exact(Upd.refl No _).drew|exact hHeld.trans hu3)
   clear hK K
   try simp only[Act.put,sT,sS,sZ]
   refine wpK 3 rfl ?_;refine wpK 4 rfl ?_;refine wpR [7] ?_;refine wpC rfl (fun K hK=> ?_) AllReadyH.nil;go_simp
   (first
  |(go_at_call 36;refine(Z9 _ t HK.out.2.1.1 HK.out.2.1.2).mono ?_;rintro e w3 ⟨rfl,hu3⟩))
   try (go_wp2_with fail)
   refine hK.out _ _ ?_ (fun hHeld=> ?_)
   ·(first|exact(Upd.refl No _).drew|exact hHeld.trans hu3)
   clear hK K
   try simp only[Act.put,sT,sS,sZ]
   refine wpK 8 rfl ?_;refine wpK 9 rfl ?_;refine wpR [12] ?_;refine wpC rfl (fun K hK=> ?_) AllReadyH.nil;go_simp
   (first
  |(go_at_call 36;refine(Z9 _ n HK.out.2.2.1 HK.out.2.2.2).mono ?_;rintro e w3 ⟨rfl,hu3⟩))
   try (go_wp2_with fail)
   refine hK.out _ _ ?_ (fun hHeld=> ?_)
   ·(first|exact(Upd.refl No _).drew|exact hHeld.trans hu3)
   clear hK K
   try simp only[Act.put,sT,sS,sZ]
   refine wpK 13 rfl ?_;refine wpK 14 rfl ?_;refine wpD (NoPanic.normal ?_);go_wp2
   go_ret
   exact⟨by rw[HT.out];rfl,UB.out.trans (hu1.trans hHeld)⟩
theorem Zcb (w:World) (o:HOp) (hk:o.ok):Calls Tryz.prog 52 #[.agg o.cells.toArray] w fun e w'=>e= .returned (.string (Zb o))∧Upd No w w':=by
 obtain⟨rd,k,t,n⟩:=o
 cases rd
 ·exact Zdp w k t n hk
 ·exact Zdr w k t n hk
end
/- An operation's text:the document's. -/
section
open Go.RowKit
theorem Zd6 (a:ByteArray):a++⟨#[64]⟩++Za 0=a++⟨#[64,48]⟩:=by
 have h:(⟨#[64]⟩:ByteArray)++Za 0=⟨#[64,48]⟩:=by kernel_rfl
 rw[←h]
 apply ByteArray.ext
 simp
set_option maxRecDepth 100000 in
set_option maxHeartbeats 1000000 in
theorem Zdl (w:World) (k t n:Int) (hk:i64 k∧i64 t∧i64 n):Calls Tryz.prog 43 #[.agg #[.bool false,.int .i64 k,.int .i64 t,.int .i64 n]] w fun e w'=>e= .returned (.string (Zb ⟨false,k,t,n⟩))∧Upd No w w':=by
 have HR:=Qh (fun W=>Zb9 W ⟨false,k,t,n⟩);unfold HOp.cells at HR;obtain⟨z,hz⟩:∃z,w.heap.size=z:=⟨_,rfl⟩;obtain⟨wb,hwb⟩:∃wb,w.alloc (.cells #[.bool false,.int .i64 k,.int .i64 t,.int .i64 n] 82)=wb:=⟨_,rfl⟩;have ub:Upd No w wb:=by rw[←hwb];exact(Upd.refl No w).alloc _
 have bb:Blk wb z 82 [.bool false,.int .i64 k,.int .i64 t,.int .i64 n]:=by rw[←hwb,←hz];exact Blk.new w _ _
 have t0:∀W,Upd No wb W→W.cell? ⟨z,0,none⟩=some (.bool false):=fun W u=>(bb.upd u id).cell 0
 have t1:∀W,Upd No wb W→W.cell? ⟨z,1,none⟩=some (.int .i64 k):=fun W u=>(bb.upd u id).cell 1
 have t2:∀W,Upd No wb W→W.cell? ⟨z,2,none⟩=some (.int .i64 t):=fun W u=>(bb.upd u id).cell 2
 have t3:∀W,Upd No wb W→W.cell? ⟨z,3,none⟩=some (.int .i64 n):=fun W u=>(bb.upd u id).cell 3
 have hbz:Upd No wb wb:=Upd.refl _ _;have UB:=Qh ub;have HK:=Qh hk;have n1:=Ze k;have n2:=Ze t;have n3:=Ze n;have m1:(⟨#[119]⟩:ByteArray).size=1:=rfl;have m2:(⟨#[114]⟩:ByteArray).size=1:=rfl;have m3:(⟨#[64]⟩:ByteArray).size=1:=rfl;have m4:(⟨#[46]⟩:ByteArray).size=1:=rfl;have m5:(⟨#[64,48]⟩:ByteArray).size=2:=rfl;have p1:¬9223372036854775807<1+(Za k).size:=by omega
 have p2:¬9223372036854775807<1+(Za k).size+2:=by omega
 have p3:¬9223372036854775807<1+(Za k).size+1:=by omega
 have p4:¬9223372036854775807<1+(Za k).size+1+(Za t).size:=by omega
 have p5:¬9223372036854775807<1+(Za k).size+1+(Za t).size+1:=by omega
 have p6:¬9223372036854775807<1+(Za k).size+1+(Za t).size+1+(Za n).size:=by omega
 clear bb ub hk;obtain⟨bo,hbo⟩:∃b,opB ⟨false,k,t,n⟩=b:=⟨_,rfl⟩;rw[hbo]at HR
 cases bo
 ·have HT:=Qh (show Zb ⟨false,k,t,n⟩=⟨#[]⟩ by unfold Zb;rw[if_pos hbo]);have HR2:=Qh (show Calls Tryz.prog 58 #[.agg #[.bool false,.int .i64 k,.int .i64 t,.int .i64 n]] wb fun e w'=>e= .returned (.bool false)∧Upd No wb w' from HR.out wb);clear HR hbo
  go_enter Tryz.func43,Tryz.ntmps43
  go_wp2_with fail
  refine(HR2.out).mono ?_;rintro e w1 ⟨rfl,hu1⟩;go_wp2
  go_ret
  exact⟨by rw[HT.out];rfl,UB.out.trans hu1⟩
 ·have HT:=Qh (show Zb ⟨false,k,t,n⟩=⟨#[119]⟩++Za k by unfold Zb;rw[if_neg (by rw[hbo];decide),if_pos rfl]);have HR2:=Qh (show Calls Tryz.prog 58 #[.agg #[.bool false,.int .i64 k,.int .i64 t,.int .i64 n]] wb fun e w'=>e= .returned (.bool true)∧Upd No wb w' from HR.out wb);clear HR hbo
  go_enter Tryz.func43,Tryz.ntmps43
  go_wp2_with fail
  refine(HR2.out).mono ?_;rintro e w1 ⟨rfl,hu1⟩
  go_wp2_with fail
  refine(Z2 _ k HK.out.1.1 HK.out.1.2).mono ?_;rintro e w2 ⟨rfl,hu2⟩;go_wp2
  go_ret
  exact⟨by rw[HT.out];rfl,UB.out.trans (hu1.trans hu2)⟩
set_option maxRecDepth 100000 in
set_option maxHeartbeats 1000000 in
theorem Zdm (w:World) (k t n:Int) (hk:i64 k∧i64 t∧i64 n):Calls Tryz.prog 43 #[.agg #[.bool true,.int .i64 k,.int .i64 t,.int .i64 n]] w fun e w'=>e= .returned (.string (Zb ⟨true,k,t,n⟩))∧Upd No w w':=by
 have HR:=Qh (fun W=>Zb9 W ⟨true,k,t,n⟩);unfold HOp.cells at HR;obtain⟨z,hz⟩:∃z,w.heap.size=z:=⟨_,rfl⟩;obtain⟨wb,hwb⟩:∃wb,w.alloc (.cells #[.bool true,.int .i64 k,.int .i64 t,.int .i64 n] 82)=wb:=⟨_,rfl⟩;have ub:Upd No w wb:=by rw[←hwb];exact(Upd.refl No w).alloc _
 have bb:Blk wb z 82 [.bool true,.int .i64 k,.int .i64 t,.int .i64 n]:=by rw[←hwb,←hz];exact Blk.new w _ _
 have t0:∀W,Upd No wb W→W.cell? ⟨z,0,none⟩=some (.bool true):=fun W u=>(bb.upd u id).cell 0
 have t1:∀W,Upd No wb W→W.cell? ⟨z,1,none⟩=some (.int .i64 k):=fun W u=>(bb.upd u id).cell 1
 have t2:∀W,Upd No wb W→W.cell? ⟨z,2,none⟩=some (.int .i64 t):=fun W u=>(bb.upd u id).cell 2
 have t3:∀W,Upd No wb W→W.cell? ⟨z,3,none⟩=some (.int .i64 n):=fun W u=>(bb.upd u id).cell 3
 have hbz:Upd No wb wb:=Upd.refl _ _;have UB:=Qh ub;have HK:=Qh hk;have n1:=Ze k;have n2:=Ze t;have n3:=Ze n;have m1:(⟨#[119]⟩:ByteArray).size=1:=rfl;have m2:(⟨#[114]⟩:ByteArray).size=1:=rfl;have m3:(⟨#[64]⟩:ByteArray).size=1:=rfl;have m4:(⟨#[46]⟩:ByteArray).size=1:=rfl;have m5:(⟨#[64,48]⟩:ByteArray).size=2:=rfl;have p1:¬9223372036854775807<1+(Za k).size:=by omega
 have p2:¬9223372036854775807<1+(Za k).size+2:=by omega
 have p3:¬9223372036854775807<1+(Za k).size+1:=by omega
 have p4:¬9223372036854775807<1+(Za k).size+1+(Za t).size:=by omega
 have p5:¬9223372036854775807<1+(Za k).size+1+(Za t).size+1:=by omega
 have p6:¬9223372036854775807<1+(Za k).size+1+(Za t).size+1+(Za n).size:=by omega
 clear bb ub hk;obtain⟨bo,hbo⟩:∃b,opB ⟨true,k,t,n⟩=b:=⟨_,rfl⟩;rw[hbo]at HR
 cases bo
 ·have HT:=Qh (show Zb ⟨true,k,t,n⟩=⟨#[]⟩ by unfold Zb;rw[if_pos hbo]);have HR2:=Qh (show Calls Tryz.prog 58 #[.agg #[.bool true,.int .i64 k,.int .i64 t,.int .i64 n]] wb fun e w'=>e= .returned (.bool false)∧Upd No wb w' from HR.out wb);clear HR hbo
  go_enter Tryz.func43,Tryz.ntmps43
  go_wp2_with fail
  refine(HR2.out).mono ?_;rintro e w1 ⟨rfl,hu1⟩;go_wp2
  go_ret
  exact⟨by rw[HT.out];rfl,UB.out.trans hu1⟩
 ·have HR2:=Qh (show Calls Tryz.prog 58 #[.agg #[.bool true,.int .i64 k,.int .i64 t,.int .i64 n]] wb fun e w'=>e= .returned (.bool true)∧Upd No wb w' from HR.out wb);clear HR
  by_cases h0:t=0
  ·have HT:=Qh (show Zb ⟨true,k,t,n⟩=⟨#[114]⟩++Za k++⟨#[64]⟩++Za t by unfold Zb;rw[if_neg (by rw[hbo];decide),if_neg (by simp),if_pos h0,h0,Zd6]);have h0b:(t==0)=true:=by rw[h0];rfl
   clear hbo h0
   go_enter Tryz.func43,Tryz.ntmps43
   go_wp2_with fail
   refine(HR2.out).mono ?_;rintro e w1 ⟨rfl,hu1⟩;have s1:∀W,Upd No w1 W→W.cell? ⟨z,1,none⟩=some (.int .i64 k):=fun W u=>t1 W (hu1.trans u)
   have s2:∀W,Upd No w1 W→W.cell? ⟨z,2,none⟩=some (.int .i64 t):=fun W u=>t2 W (hu1.trans u)
   have s3:∀W,Upd No w1 W→W.cell? ⟨z,3,none⟩=some (.int .i64 n):=fun W u=>t3 W (hu1.trans u)
   go_wp2;refine wp_region_noPanic ?_;refine wp_region_held_drew (S:=(fun w'=>Upd No w1 w')) (by kernel_rfl) ?_ (fun hHeld=> ?_)
   ·(first|exact(Upd.refl No _).drew|exact hHeld.trans hu3)
   refine wpK 0 rfl ?_;refine wpK 1 rfl ?_;refine wpK 5 rfl ?_;refine wpK 6 rfl ?_;refine wpR [2] ?_;refine wpC rfl (fun K hK=> ?_) AllReadyH.nil;go_simp
   (first
  |(go_at_call 21;refine(Z2 _ k HK.out.1.1 HK.out.1.2).mono ?_;rintro e w3 ⟨rfl,hu3⟩))
   try (go_wp2_with fail)
   refine hK.out _ _ ?_ (fun hHeld=> ?_)
   ·(first|exact(Upd.refl No _).drew|exact hHeld.trans hu3)
   clear hK K
   try simp only[Act.put,sT,sS,sZ]
   refine wpK 3 rfl ?_;refine wpK 4 rfl ?_;refine wpR [7] ?_;refine wpC rfl (fun K hK=> ?_) AllReadyH.nil;go_simp
   (first
  |(go_at_call 21;refine(Z2 _ t HK.out.2.1.1 HK.out.2.1.2).mono ?_;rintro e w3 ⟨rfl,hu3⟩))
   try (go_wp2_with fail)
   refine hK.out _ _ ?_ (fun hHeld=> ?_)
   ·(first|exact(Upd.refl No _).drew|exact hHeld.trans hu3)
   clear hK K
   try simp only[Act.put,sT,sS,sZ]
   refine wpK 8 rfl ?_;refine wpK 9 rfl ?_;refine wpD (NoPanic.normal ?_);go_wp2
   go_ret
   exact⟨by rw[HT.out];rfl,UB.out.trans (hu1.trans hHeld)⟩
  ·have HT:=Qh (show Zb ⟨true,k,t,n⟩=⟨#[114]⟩++Za k++⟨#[64]⟩++Za t++⟨#[46]⟩++Za n by unfold Zb;rw[if_neg (by rw[hbo];decide),if_neg (by simp),if_neg h0]);have h0b:(t==0)=false:=by simpa using h0
   clear hbo h0
   go_enter Tryz.func43,Tryz.ntmps43
   go_wp2_with fail
   refine(HR2.out).mono ?_;rintro e w1 ⟨rfl,hu1⟩;have s1:∀W,Upd No w1 W→W.cell? ⟨z,1,none⟩=some (.int .i64 k):=fun W u=>t1 W (hu1.trans u)
   have s2:∀W,Upd No w1 W→W.cell? ⟨z,2,none⟩=some (.int .i64 t):=fun W u=>t2 W (hu1.trans u)
   have s3:∀W,Upd No w1 W→W.cell? ⟨z,3,none⟩=some (.int .i64 n):=fun W u=>t3 W (hu1.trans u)
   go_wp2;refine wp_region_noPanic ?_;refine wp_region_held_drew (S:=(fun w'=>Upd No w1 w')) (by kernel_rfl) ?_ (fun hHeld=> ?_)
   ·(first|exact(Upd.refl No _).drew|exact hHeld.trans hu3)
   refine wpK 0 rfl ?_;refine wpK 1 rfl ?_;refine wpK 5 rfl ?_;refine wpK 6 rfl ?_;refine wpR [2] ?_;refine wpC rfl (fun K hK=> ?_) AllReadyH.nil;go_simp
   (first
  |(go_at_call 21;refine(Z2 _ k HK.out.1.1 HK.out.1.2).mono ?_;rintro e w3 ⟨rfl,hu3⟩))
   try (go_wp2_with fail)
   refine hK.out _ _ ?_ (fun hHeld=> ?_)
   ·(first|exact(Upd.refl No _).drew|exact hHeld.trans hu3)
   clear hK K
   try simp only[Act.put,sT,sS,sZ]
   refine wpK 3 rfl ?_;refine wpK 4 rfl ?_;refine wpR [7] ?_;refine wpC rfl (fun K hK=> ?_) AllReadyH.nil;go_simp
   (first
  |(go_at_call 21;refine(Z2 _ t HK.out.2.1.1 HK.out.2.1.2).mono ?_;rintro e w3 ⟨rfl,hu3⟩))
   try (go_wp2_with fail)
   refine hK.out _ _ ?_ (fun hHeld=> ?_)
   ·(first|exact(Upd.refl No _).drew|exact hHeld.trans hu3)
   clear hK K
   try simp only[Act.put,sT,sS,sZ]
   refine wpK 8 rfl ?_;refine wpK 9 rfl ?_;refine wpD (NoPanic.normal ?_)
   go_wp2_with fail
   refine(Z2 _ n HK.out.2.2.1 HK.out.2.2.2).mono ?_;rintro e w4 ⟨rfl,hu4⟩;go_wp2
   go_ret
   exact⟨by rw[HT.out];rfl,UB.out.trans (hu1.trans (hHeld.trans hu4))⟩
theorem Za0 (w:World) (o:HOp) (hk:o.ok):Calls Tryz.prog 43 #[.agg o.cells.toArray] w fun e w'=>e= .returned (.string (Zb o))∧Upd No w w':=by
 obtain⟨rd,k,t,n⟩:=o
 cases rd
 ·exact Zdl w k t n hk
 ·exact Zdm w k t n hk
end
/- A transaction's text:the document's. -/
section
open Go.RowKit
theorem ZM (o:HOp):(Zb o).size≤70:=by
 have n1:=Ze o.key;have n2:=Ze o.tx;have n3:=Ze o.nth;have m1:(⟨#[119]⟩:ByteArray).size=1:=rfl;have m2:(⟨#[114]⟩:ByteArray).size=1:=rfl;have m3:(⟨#[64]⟩:ByteArray).size=1:=rfl;have m4:(⟨#[46]⟩:ByteArray).size=1:=rfl;have m5:(⟨#[64,48]⟩:ByteArray).size=2:=rfl;have m0:(⟨#[]⟩:ByteArray).size=0:=rfl;unfold Zb
 split
 ·omega
 ·split
  ·rw[ByteArray.size_append];omega
  ·split
   ·rw[ByteArray.size_append,ByteArray.size_append];omega
   ·rw[ByteArray.size_append,ByteArray.size_append,ByteArray.size_append,ByteArray.size_append,ByteArray.size_append];omega
def Zp (i:Int) (d:Bool) (l:List HOp):List UInt8:=Zc i++[32,if d then 99 else 97]++l.flatMap fun o=>32::(Zb o).data.toList
theorem Zbl (i:Int) (d:Bool) {l:List HOp} {k:Nat} {x:HOp} (hk:k<l.length) (hx:l[k]=x):Zp i d (l.take (k+1))=Zp i d (l.take k)++32::(Zb x).data.toList:=by
 subst hx;unfold Zp;rw[List.take_succ_eq_append_getElem hk,List.flatMap_append];simp
end
end Go.Proofs.YtbcpoloakepnkaaGreatDoor
