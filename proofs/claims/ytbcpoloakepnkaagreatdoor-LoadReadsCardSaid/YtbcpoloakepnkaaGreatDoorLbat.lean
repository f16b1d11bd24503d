/- Scripts out of numbers: commands are right. -/
import Derived.Test.YtbcpoloakepnkaaGreatDoorLbaj
import Derived.Test.YtbcpoloakepnkaaGreatDoorLbar
import Derived.Test.YtbcpoloakepnkaaGreatDoorLbas
namespace Go.Proofs.YtbcpoloakepnkaaGreatDoor
set_option linter.unusedVariables false
set_option linter.unusedSimpArgs false
section
open Go.RowKit
set_option maxRecDepth 100000 in
theorem Za7 (W:World):Calls Tryz.prog 30 #[.int .i64 1] W fun e w'=>e= .returned (.agg #[.string ⟨#[97,100,100]⟩,.int .i64 3,.int .i64 1073741824])∧Upd No W w':=by
 go_enter Tryz.func30,Tryz.ntmps30
 go_wp2;refine bodyPost_ret (v:= .agg #[.string ⟨#[97,100,100]⟩,.int .i64 3,.int .i64 1073741824]) (by simp[results,Tryz.results30,go_sem]) rfl ⟨rfl,?_⟩;exact(Upd.refl No W).alloc _
set_option maxRecDepth 100000 in
theorem Za6 (W:World):Calls Tryz.prog 30 #[.int .i64 3] W fun e w'=>e= .returned (.agg #[.string ⟨#[100,101,108]⟩,.int .i64 2,.int .i64 2])∧Upd No W w':=by
 go_enter Tryz.func30,Tryz.ntmps30
 go_wp2;refine bodyPost_ret (v:= .agg #[.string ⟨#[100,101,108]⟩,.int .i64 2,.int .i64 2]) (by simp[results,Tryz.results30,go_sem]) rfl ⟨rfl,?_⟩;exact(Upd.refl No W).alloc _
set_option maxRecDepth 100000 in
theorem Za5 (W:World):Calls Tryz.prog 30 #[.int .i64 5] W fun e w'=>e= .returned (.agg #[.string ⟨#[109,111,118]⟩,.int .i64 4,.int .i64 4])∧Upd No W w':=by
 go_enter Tryz.func30,Tryz.ntmps30
 go_wp2;refine bodyPost_ret (v:= .agg #[.string ⟨#[109,111,118]⟩,.int .i64 4,.int .i64 4]) (by simp[results,Tryz.results30,go_sem]) rfl ⟨rfl,?_⟩;exact(Upd.refl No W).alloc _
set_option maxRecDepth 100000 in
theorem Za4 (W:World):Calls Tryz.prog 30 #[.int .i64 6] W fun e w'=>e= .returned (.agg #[.string ⟨#[117,110,100,111]⟩,.int .i64 1,.int .i64 1])∧Upd No W w':=by
 go_enter Tryz.func30,Tryz.ntmps30
 go_wp2;refine bodyPost_ret (v:= .agg #[.string ⟨#[117,110,100,111]⟩,.int .i64 1,.int .i64 1]) (by simp[results,Tryz.results30,go_sem]) rfl ⟨rfl,?_⟩;exact(Upd.refl No W).alloc _
set_option maxRecDepth 100000 in
theorem Za3 (W:World):Calls Tryz.prog 30 #[.int .i64 7] W fun e w'=>e= .returned (.agg #[.string ⟨#[114,101,100,111]⟩,.int .i64 1,.int .i64 1])∧Upd No W w':=by
 go_enter Tryz.func30,Tryz.ntmps30
 go_wp2;refine bodyPost_ret (v:= .agg #[.string ⟨#[114,101,100,111]⟩,.int .i64 1,.int .i64 1]) (by simp[results,Tryz.results30,go_sem]) rfl ⟨rfl,?_⟩;exact(Upd.refl No W).alloc _
set_option maxRecDepth 100000 in
theorem Za2 (W:World):Calls Tryz.prog 30 #[.int .i64 8] W fun e w'=>e= .returned (.agg #[.string ⟨#[97,115,107]⟩,.int .i64 1,.int .i64 1])∧Upd No W w':=by
 go_enter Tryz.func30,Tryz.ntmps30
 go_wp2;refine bodyPost_ret (v:= .agg #[.string ⟨#[97,115,107]⟩,.int .i64 1,.int .i64 1]) (by simp[results,Tryz.results30,go_sem]) rfl ⟨rfl,?_⟩;exact(Upd.refl No W).alloc _
set_option maxRecDepth 100000 in
theorem Za1 (W:World):Calls Tryz.prog 30 #[.int .i64 9] W fun e w'=>e= .returned (.agg #[.string ⟨#[119,104,121]⟩,.int .i64 2,.int .i64 2])∧Upd No W w':=by
 go_enter Tryz.func30,Tryz.ntmps30
 go_wp2;refine bodyPost_ret (v:= .agg #[.string ⟨#[119,104,121]⟩,.int .i64 2,.int .i64 2]) (by simp[results,Tryz.results30,go_sem]) rfl ⟨rfl,?_⟩;exact(Upd.refl No W).alloc _
set_option maxRecDepth 100000 in
set_option maxHeartbeats 1000000 in
theorem ZdY (w:World) (F G:Nat→Prop) (A B:Option Addr) (c d:Nat) (xs ys:List HOp) (hx:Recs F w A 4 (xs.map HOp.cells)) (hy:Recs G w B 4 (ys.map HOp.cells)) (hl:xs.length≤4398046511103) (hl2:ys.length≤4398046511103) {v:Bool} (hv:(xs==ys)=v):
  Calls Tryz.prog 89 #[.slice A xs.length c,.slice B ys.length d] w fun e w'=>e= .returned (.bool v)∧Upd No w w':=by
 have qG:∀(op:BinOp) (x y:Operand) (xs ys:Array Value) (w:World),(eqGuard op 82 x y (.agg xs) (.agg ys)).run Tryz.prog w= .ok () w:=fun op x y xs ys w=>run_eqGuard_agg w op _ x y xs ys (by kernel_rfl)
 subst hv
 by_cases hn:xs.length=ys.length
 ·have hnb:((xs.length:Int) != (ys.length:Int))=false:=by rw[bne_eq_false_iff_eq];omega
  have HN:=Qh hn;clear hn
  go_enter Tryz.func89,Tryz.ntmps89
  go_wp2
  go_loopg [5,13] xs.length (fun gk j i wr=>∃k:Nat,k+gk=xs.length∧i= .int .i64 k∧Hid (xs.take k=ys.take k)∧Upd No w wr)
  case atStart=>exact⟨0,by omega,rfl,Qh rfl,Upd.refl _ _⟩
  case round=>
   obtain⟨k,hgk,rfl,hs,hu⟩:=hrel
   by_cases hlt:k<xs.length
   ·have hlt2:k<ys.length:=by have:=HN.out;omega
    obtain⟨ax,rfl,q0,q1,q2,q3⟩:=HOps.at_ (Recs.upd hx hu (fun _ _=>id)) hlt;obtain⟨ay,rfl,r0,r1,r2,r3⟩:=HOps.at_ (Recs.upd hy hu (fun _ _=>id)) hlt2;obtain⟨x,hxx⟩:∃x,xs[k]=x:=⟨_,rfl⟩;obtain⟨y,hyy⟩:∃y,ys[k]=y:=⟨_,rfl⟩;simp only[hxx]at q0 q1 q2 q3;simp only[hyy]at r0 r1 r2 r3;have hq:=fun W=>ZbQ W x y
    have i1:(0:Int)≤(k:Int):=Qn _;have i2:(k:Int)<(xs.length:Int):=by omega
    have i3:(k:Int)<(ys.length:Int):=by omega
    have HX:=Qh hxx;have HY:=Qh hyy;clear hxx hyy
    by_cases he:x=y
    ·have HN2:=Qh (show xs.take (k+1)=ys.take (k+1) by rw[List.take_succ_eq_append_getElem hlt,List.take_succ_eq_append_getElem hlt2,hs.out,HX.out,HY.out,he]);have heb:(x != y)=false:=by simpa using he
     rw[heb]at hq;clear he heb;go_wp2
     go_quiet (fail)
     go_wp2
     go_roundg (gk-1)
     case measure=>omega
     case rel=>exact⟨k+1,by omega,by go_num,HN2,hu.drewN _⟩
    ·have HF:=Qh (show(xs==ys)=false from by
      rw[beq_eq_false_iff_ne];intro e;subst e;exact he (HX.out.symm.trans HY.out))
     have heb:(x != y)=true:=by simpa using he
     rw[heb]at hq;clear he heb;go_wp2
     go_quiet (fail)
     go_wp2
     go_ret
     exact⟨by rw[HF.out];rfl,hu.drewN _⟩
   ·obtain rfl:k=xs.length:=by omega
    have HT:=Qh (show(xs==ys)=true from by
     rw[beq_iff_eq];have:=hs.out
     rwa [List.take_length,HN.out,List.take_length]at this)
    go_wp2
    go_ret
    exact⟨by rw[HT.out];rfl,hu⟩
 ·have HF:=Qh (show(xs==ys)=false from by
   rw[beq_eq_false_iff_ne];intro e;exact hn (by rw[e]))
  have hnb:((xs.length:Int) != (ys.length:Int))=true:=by rw[bne_iff_ne];omega
  clear hn
  go_enter Tryz.func89,Tryz.ntmps89
  go_wp2
  go_ret
  exact⟨by rw[HF.out];rfl,Upd.refl _ _⟩
set_option maxRecDepth 100000 in
theorem Zcw (F:Nat→Prop) (w:World) (A:Option Addr) (c:Nat) (xs:List HOp) (hx:HOps F w A xs) (hl:xs.length≤1000000):
  Calls Tryz.prog 78 #[.slice A xs.length c,.slice A xs.length c] w fun e w'=>e= .returned (.bool true)∧Upd No w w':=by
 have CE:=Qh (ZdY w F F A A c c xs xs hx hx (by omega) (by omega) (beq_self_eq_true _));clear hx
 go_enter Tryz.func78,Tryz.ntmps78
 go_wp2_with fail
 refine(CE.out).mono ?_;rintro e w1 ⟨rfl,hu1⟩;go_wp2
 go_ret
 exact⟨rfl,hu1⟩
set_option maxRecDepth 100000 in
theorem ZdZ (w:World):Calls Tryz.prog 79 #[.slice none 0 0,.slice none 0 0] w fun e w'=>e= .returned (.bool true)∧Upd No w w':=by
 go_enter Tryz.func79,Tryz.ntmps79
 go_wp2
 go_loopg [5,13] 0 (fun gk j i wr=>i= .int .i64 0∧w=wr)
 case atStart=>exact⟨rfl,rfl⟩
 case round=>
  obtain⟨rfl,rfl⟩:=hrel;go_wp2
  go_ret
  exact⟨rfl,Upd.refl _ _⟩
set_option maxRecDepth 100000 in
theorem Zcx (w:World):Calls Tryz.prog 66 #[.slice none 0 0,.slice none 0 0] w fun e w'=>e= .returned (.bool true)∧Upd No w w':=by
 have CE:=Qh (ZdZ w)
 go_enter Tryz.func66,Tryz.ntmps66
 go_wp2_with fail
 refine(CE.out).mono ?_;rintro e w1 ⟨rfl,hu1⟩;go_wp2
 go_ret
 exact⟨rfl,hu1⟩
set_option maxRecDepth 100000 in
theorem Zc7 (F:Nat→Prop) (w:World) (i:Int) (d:Bool) (A:Option Addr) (c:Nat) (xs:List HOp) (hx:HOps F w A xs) (hl:xs.length≤1000000):
  Calls Tryz.prog 65 #[.agg #[.int .i64 i,.bool d,.slice A xs.length c],.agg #[.int .i64 i,.bool d,.slice A xs.length c]] w fun e w'=>e= .returned (.bool true)∧Upd No w w':=by
 have u2:Upd No w ((w.alloc (.cells #[.int .i64 i,.bool d,.slice A xs.length c] 31)).alloc (.cells #[.int .i64 i,.bool d,.slice A xs.length c] 31)):=((Upd.refl No w).alloc _).alloc _;have CE:=Qh (Zcw F _ A c xs (HOps.upd hx u2 (fun _ _=>id)) hl);have e1:(i==i)=true:=beq_self_eq_true _;have e2:(d==d)=true:=beq_self_eq_true _;have U2:=Qh u2;clear u2 hx
 go_enter Tryz.func65,Tryz.ntmps65
 go_wp2_with fail
 refine(CE.out).mono ?_;rintro e w1 ⟨rfl,hu1⟩;go_wp2
 go_ret
 exact⟨rfl,U2.out.trans hu1⟩
set_option maxRecDepth 100000 in
set_option maxHeartbeats 2000000 in
theorem ZdH (F:Nat→Prop) (w:World) (k i:Int) (d:Bool) (A:Option Addr) (c:Nat) (xs:List HOp) (a b p q:Int) (hx:HOps F w A xs) (hl:xs.length≤1000000):
  Calls Tryz.prog 49 #[.agg #[.int .i64 k,.int .i64 i,.bool d,.slice A xs.length c,.int .i64 0,.slice none 0 0,.int .i64 a,.int .i64 b,.int .i64 p,.int .i64 q],.agg #[.int .i64 k,.int .i64 i,.bool d,.slice A xs.length c,.int .i64 0,.slice none 0 0,.int .i64 a,.int .i64 b,.int .i64 p,.int .i64 q]] w fun e w'=>e= .returned (.bool true)∧Upd No w w':=by
 obtain⟨z,hz⟩:∃z,w.heap.size=z:=⟨_,rfl⟩;obtain⟨wa,hwa⟩:∃wa,w.alloc (.cells #[.int .i64 k,.int .i64 i,.bool d,.slice A xs.length c,.int .i64 0,.slice none 0 0,.int .i64 a,.int .i64 b,.int .i64 p,.int .i64 q] 36)=wa:=⟨_,rfl⟩;obtain⟨wb,hwb⟩:∃wb,wa.alloc (.cells #[.int .i64 k,.int .i64 i,.bool d,.slice A xs.length c,.int .i64 0,.slice none 0 0,.int .i64 a,.int .i64 b,.int .i64 p,.int .i64 q] 36)=wb:=⟨_,rfl⟩;have sa:wa.heap.size=z+1:=by rw[←hwa,←hz];simp
 have ua:Upd No w wa:=by rw[←hwa];exact(Upd.refl No w).alloc _
 have ub:Upd No wa wb:=by rw[←hwb];exact(Upd.refl No wa).alloc _
 have bA:Blk wb z 36 [.int .i64 k,.int .i64 i,.bool d,.slice A xs.length c,.int .i64 0,.slice none 0 0,.int .i64 a,.int .i64 b,.int .i64 p,.int .i64 q]:=by
  have:Blk wa z 36 [.int .i64 k,.int .i64 i,.bool d,.slice A xs.length c,.int .i64 0,.slice none 0 0,.int .i64 a,.int .i64 b,.int .i64 p,.int .i64 q]:=by rw[←hwa,←hz];exact Blk.new w _ _
  exact this.upd ub id
 have bB:Blk wb (z+1) 36 [.int .i64 k,.int .i64 i,.bool d,.slice A xs.length c,.int .i64 0,.slice none 0 0,.int .i64 a,.int .i64 b,.int .i64 p,.int .i64 q]:=by rw[←hwb,←sa];exact Blk.new wa _ _
 have a0:∀W,Upd No wb W→W.cell? ⟨z,0,none⟩=some (.int .i64 k):=fun W u=>(bA.upd u id).cell 0
 have b0:∀W,Upd No wb W→W.cell? ⟨z+1,0,none⟩=some (.int .i64 k):=fun W u=>(bB.upd u id).cell 0
 have a1:∀W,Upd No wb W→W.cell? ⟨z,1,none⟩=some (.int .i64 i):=fun W u=>(bA.upd u id).cell 1
 have b1:∀W,Upd No wb W→W.cell? ⟨z+1,1,none⟩=some (.int .i64 i):=fun W u=>(bB.upd u id).cell 1
 have a2:∀W,Upd No wb W→W.cell? ⟨z,2,none⟩=some (.bool d):=fun W u=>(bA.upd u id).cell 2
 have b2:∀W,Upd No wb W→W.cell? ⟨z+1,2,none⟩=some (.bool d):=fun W u=>(bB.upd u id).cell 2
 have a3:∀W,Upd No wb W→W.cell? ⟨z,3,none⟩=some (.slice A xs.length c):=fun W u=>(bA.upd u id).cell 3
 have b3:∀W,Upd No wb W→W.cell? ⟨z+1,3,none⟩=some (.slice A xs.length c):=fun W u=>(bB.upd u id).cell 3
 have a4:∀W,Upd No wb W→W.cell? ⟨z,4,none⟩=some (.int .i64 0):=fun W u=>(bA.upd u id).cell 4
 have b4:∀W,Upd No wb W→W.cell? ⟨z+1,4,none⟩=some (.int .i64 0):=fun W u=>(bB.upd u id).cell 4
 have a5:∀W,Upd No wb W→W.cell? ⟨z,5,none⟩=some (.slice none 0 0):=fun W u=>(bA.upd u id).cell 5
 have b5:∀W,Upd No wb W→W.cell? ⟨z+1,5,none⟩=some (.slice none 0 0):=fun W u=>(bB.upd u id).cell 5
 have a6:∀W,Upd No wb W→W.cell? ⟨z,6,none⟩=some (.int .i64 a):=fun W u=>(bA.upd u id).cell 6
 have b6:∀W,Upd No wb W→W.cell? ⟨z+1,6,none⟩=some (.int .i64 a):=fun W u=>(bB.upd u id).cell 6
 have a7:∀W,Upd No wb W→W.cell? ⟨z,7,none⟩=some (.int .i64 b):=fun W u=>(bA.upd u id).cell 7
 have b7:∀W,Upd No wb W→W.cell? ⟨z+1,7,none⟩=some (.int .i64 b):=fun W u=>(bB.upd u id).cell 7
 have a8:∀W,Upd No wb W→W.cell? ⟨z,8,none⟩=some (.int .i64 p):=fun W u=>(bA.upd u id).cell 8
 have b8:∀W,Upd No wb W→W.cell? ⟨z+1,8,none⟩=some (.int .i64 p):=fun W u=>(bB.upd u id).cell 8
 have a9:∀W,Upd No wb W→W.cell? ⟨z,9,none⟩=some (.int .i64 q):=fun W u=>(bA.upd u id).cell 9
 have b9:∀W,Upd No wb W→W.cell? ⟨z+1,9,none⟩=some (.int .i64 q):=fun W u=>(bB.upd u id).cell 9
 have CT:=Qh (fun W (u:Upd No wb W)=>Zc7 F W i d A c xs (HOps.upd hx ((ua.trans ub).trans u) (fun _ _=>id)) hl);have CN:=Qh (fun W=>Zcx W);have e1:(k==k)=true:=beq_self_eq_true _;have e2:(a==a)=true:=beq_self_eq_true _;have e3:(b==b)=true:=beq_self_eq_true _;have e4:(p==p)=true:=beq_self_eq_true _;have e5:(q==q)=true:=beq_self_eq_true _;have U:=Qh (ua.trans ub);have hbz:Upd No wb wb:=Upd.refl _ _;clear ua ub bA bB hx
 go_enter Tryz.func49,Tryz.ntmps49
 go_wp2_with fail
 refine(CT.out _ hbz).mono ?_;rintro e w1 ⟨rfl,hu1⟩
 go_wp2_with fail
 refine(CN.out _).mono ?_;rintro e w2 ⟨rfl,hu2⟩;have hq:=hu1.trans hu2;go_wp2
 go_ret
 exact⟨rfl,U.out.trans hq⟩
end
end Go.Proofs.YtbcpoloakepnkaaGreatDoor
