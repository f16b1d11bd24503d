/- Scripts out of numbers: the law that lines, scripts and limits are what the document says: the walk. -/
import Derived.Shelf.Vars
import Derived.Test.YtbcpoloakepnkaaGreatDoorLabb
import Derived.Test.YtbcpoloakepnkaaGreatDoorLabi
namespace Go.Proofs.YtbcpoloakepnkaaGreatDoor
set_option linter.unusedVariables false
set_option linter.unusedSimpArgs false
section
open Go.RowKit
theorem ZaM (w:World) (a b c d e:Int):(binOp .eql 26 (.agg #[.int .i64 a,.int .i64 b,.int .i64 c,.int .i64 d,.int .i64 e]) (.agg #[.int .i64 a,.int .i64 b,.int .i64 c,.int .i64 d,.int .i64 e])).run Tryz.prog w= .ok (.bool true) w:=by
 rw[run_eql_struct,run_equalIn_struct w _ _ _ _ (by kernel_rfl) (by kernel_rfl)];have hI:∀(w:World) (d:Nat) (x y:Int),(Op.equalIn (d+1) 3 (.int .i64 x) (.int .i64 y)).run Tryz.prog w= .ok (x==y) w:=fun w d x y=>run_equalIn_int w d _ _ _ x y Tryz.underlying3
 simp[Program.fieldsOf,Tryz.underlying26,Op.eqFields,part,hI,Result.andThen]
def Zb2:Prop:=∀w:World,MaxL w→Calls Tryz.prog 5 #[] w fun e w'=>e= .returned (.bool true)∧Upd No w w'
theorem ZP (a:ByteArray):(a.toList==a.toList)=true:=by simp
set_option maxRecDepth 100000 in
set_option maxHeartbeats 4000000 in
theorem ZcT {mx nxt:BitVec 64→BitVec 64} (HM:∀x,mx x=Bv.mix x) (HX:Nx nxt):Zb2:=fun w hm=>by
 have eu:u (7#64)=7:=rfl;have he:(⟨#[]⟩:ByteArray).toList.isEmpty=true:=by kernel_rfl
 have e0:Zf mx nxt 7#64 0=⟨#[]⟩:=by unfold Zf;rw[if_neg (by decide)]
 have e1:Zf mx nxt 7#64 1001=⟨#[]⟩:=by unfold Zf;rw[if_neg (by decide)]
 have s0:ZF mx nxt 7#64 0=⟨#[]⟩:=by unfold ZF;rfl
 have s1:ZF mx nxt 7#64 (-1)=⟨#[]⟩:=by unfold ZF;rfl
 have C0:=Qh (fun W=>ZaH HM HX W 7#64 0 ⟨by decide,by decide⟩);have C1:=Qh (fun W=>ZaH HM HX W 7#64 1001 ⟨by decide,by decide⟩);have C5:=Qh (fun W=>ZaH HM HX W 7#64 5 ⟨by decide,by decide⟩);have R5:=Qh (fun W=>Zbi HM HX W 7#64 5 ⟨by decide,by decide⟩);have S0:=Qh (fun W=>ZaF HM HX W 7#64 0);have S1:=Qh (fun W=>ZaF HM HX W 7#64 (-1));have CM:=Qh (fun W=>Za7 HX W 7#64);have RM:=Qh (fun W=>Za5 HX W 7#64);have CP:=Qh (fun W (u:Upd No w W)=>ZcR mx nxt W (hm.upd u) 7#64 5);rw[if_pos (by decide)]at CP;rw[e0]at C0;rw[e1]at C1;rw[s0]at S0;rw[s1]at S1;obtain⟨ln,hln⟩:∃ln,Zf mx nxt 7#64 5=ln:=⟨_,rfl⟩;rw[hln]at C5 R5 CP;have hself:=ZP ln;unfold U at C0 C1 C5 R5 S0 S1 CM RM;rw[eu]at C0 C1 C5 R5 S0 S1 CM RM;unfold ZaN at CM RM
 generalize 4+ofD (nxt 7#64) 60=la at CM RM
 generalize 40+ofD (nxt (nxt 7#64)) 400=lb at CM RM
 generalize ofD (nxt (nxt (nxt 7#64))) 20=lc at CM RM
 generalize 64+ofD (nxt (nxt (nxt (nxt 7#64)))) 64=ld at CM RM
 have hls:=fun W=>ZaM W la 8 lb lc ld
 clear hm HM HX e0 e1 s0 s1 hln eu;have C5a:=Qh (C5.out w)
 go_enter Tryz.func5,Tryz.ntmps5
 go_wp2_with fail
 refine(C5a.out).mono ?_;rintro e w1 ⟨rfl,hu1⟩;have CP1:=Qh (CP.out w1 hu1);clear CP C5a
 go_wp2_with fail
 refine(CP1.out).mono ?_;rintro e w2 ⟨⟨v,⟨v0,v1,v4,v6,v7,v8,v9,v2,A3,A5,n3,m3,n5,m5,rfl⟩,rfl⟩,hu2⟩;have hu2:=hu1.trans hu2;clear hu1 CP1;obtain⟨x,hx⟩:∃x,w2.heap.size=x:=⟨_,rfl⟩;obtain⟨w6,hw6⟩:∃w6,w2.alloc (.cells #[.int .i64 0,.int .i64 0,.bool false,.slice none 0 0,.int .i64 0,.slice none 0 0,.int .i64 0,.int .i64 0,.int .i64 0,.int .i64 0] 36)=w6:=⟨_,rfl⟩;have hu6:Upd No w2 w6:=by rw[←hw6];exact(Upd.refl No w2).alloc _
 have b6w:Blk w6 x 36 [.int .i64 0,.int .i64 0,.bool false,.slice none 0 0,.int .i64 0,.slice none 0 0,.int .i64 0,.int .i64 0,.int .i64 0,.int .i64 0]:=by rw[←hw6,←hx];exact Blk.new w2 _ _
 have k0:=b6w.cell 0;have f0:=b6w.free 0;have k1:=b6w.cell 1;have f1:=b6w.free 1;have k2:=b6w.cell 2;have f2:=b6w.free 2;have k3:=b6w.cell 3;have f3:=b6w.free 3;have k4:=b6w.cell 4;have f4:=b6w.free 4;have k5:=b6w.cell 5;have f5:=b6w.free 5;have k6:=b6w.cell 6;have f6:=b6w.free 6;have k7:=b6w.cell 7;have f7:=b6w.free 7;have k8:=b6w.cell 8;have f8:=b6w.free 8;have k9:=b6w.cell 9;have f9:=b6w.free 9;simp only[Qz,Qs]at k0 k1 k2 k3 k4 k5 k6 k7 k8 k9;have B6:=Qh b6w;have HU6:=Qh (hu2.trans hu6);have HX6:=Qh (show w.heap.size≤x by rw[←hx];exact hu2.size);clear b6w hu6
 go_upto_region 2 with fail
 obtain⟨b7,us⟩:=ZJ B6.out (.int .i64 v0) (.int .i64 v1) (.bool v2) (.slice A3 n3 m3) (.int .i64 v4) (.slice A5 n5 m5) (.int .i64 v6) (.int .i64 v7) (.int .i64 v8) (.int .i64 v9);have HU7:=Qh (HU6.out.then_ us fun j e=> .inr (by have:=HX6.out;unfold One at e;omega))
 generalize ((((((((((w6.setCell ⟨x,0,none⟩ (.int .i64 v0)).setCell ⟨x,1,none⟩ (.int .i64 v1)).setCell ⟨x,2,none⟩ (.bool v2)).setCell ⟨x,3,none⟩ (.slice A3 n3 m3)).setCell ⟨x,4,none⟩ (.int .i64 v4)).setCell ⟨x,5,none⟩ (.slice A5 n5 m5)).setCell ⟨x,6,none⟩ (.int .i64 v6)).setCell ⟨x,7,none⟩ (.int .i64 v7)).setCell ⟨x,8,none⟩ (.int .i64 v8)).setCell ⟨x,9,none⟩ (.int .i64 v9))=w7 at*
 clear us b7 k0 f0 k1 f1 k2 f2 k3 f3 k4 f4 k5 f5 k6 f6 k7 f7 k8 f8 k9 f9 hw6 B6 HU6
 go_wp2_with fail
 refine(C0.out _).mono ?_;rintro e w3 ⟨rfl,hu3⟩
 go_wp2_with fail
 refine(C1.out _).mono ?_;rintro e w4 ⟨rfl,hu4⟩
 go_wp2_with fail
 refine(S0.out _).mono ?_;rintro e w5 ⟨rfl,hu5⟩
 go_wp2_with fail
 refine(S1.out _).mono ?_;rintro e w8 ⟨rfl,hu8⟩
 go_wp2_with fail
 refine(C5.out _).mono ?_;rintro e w9 ⟨rfl,hu9⟩
 go_wp2_with fail
 refine(R5.out _).mono ?_;rintro e w10 ⟨rfl,hu10⟩
 go_wp2_with fail
 refine(CM.out _).mono ?_;rintro e w11 ⟨rfl,hu11⟩
 go_wp2_with fail
 refine(RM.out _).mono ?_;rintro e w12 ⟨rfl,hu12⟩;go_wp2
 go_ret
 exact⟨rfl,HU7.out.trans (hu3.trans (hu4.trans (hu5.trans (hu8.trans (hu9.trans (hu10.trans (hu11.trans hu12)))))))⟩
set_option maxRecDepth 100000 in
set_option maxHeartbeats 4000000 in
theorem ZcF {mx nxt:BitVec 64→BitVec 64} (HM:∀x,mx x=Bv.mix x) (HX:Nx nxt) (L:Zb2) (w:World) (hm:MaxL w) (seed:BitVec 64) (i n:Int) (hi:i64 i):
  Calls Tryz.prog 3 #[U seed,.int .i64 i,.int .i64 n] w fun e w'=>e= .returned (.bool true)∧Upd No w w':=by
 by_cases h1:60<n
 ·have d1:decide (60<n)=true:=decide_eq_true h1
  by_cases h2:n≤1000
  ·have d2:decide (n≤1000)=true:=decide_eq_true h2;have CL:=Qh (L w hm);unfold U;clear HM HX L hm
   go_enter Tryz.func3,Tryz.ntmps3
   go_wp2_with fail
   refine(CL.out).mono ?_;rintro e w1 ⟨rfl,hu1⟩;go_wp2
   go_ret
   exact⟨rfl,hu1⟩
  ·have d2:decide (n≤1000)=false:=decide_eq_false h2;have CI:=Qh (ZaH HM HX w seed i hi);have HSELF:=Qh ZP;have RI:=Qh (fun W=>Zbi HM HX W seed i hi);have CN:=Qh (fun W=>ZaF HM HX W seed n);have CM:=Qh (fun W=>Za7 HX W seed);have RM:=Qh (fun W=>Za5 HX W seed);have CL:=Qh (fun W (u:Upd No w W)=>L W (hm.upd u));obtain⟨ln,hln⟩:∃ln,Zf mx nxt seed i=ln:=⟨_,rfl⟩;rw[hln]at CI RI;obtain⟨sc,hsc⟩:∃sc,ZF mx nxt seed n=sc:=⟨_,rfl⟩;rw[hsc]at CN;have hs1:=ZP ln;have hs2:=ZP sc;unfold ZaN at CM RM
   generalize 4+ofD (nxt seed) 60=la at CM RM
   generalize 40+ofD (nxt (nxt seed)) 400=lb at CM RM
   generalize ofD (nxt (nxt (nxt seed))) 20=lc at CM RM
   generalize 64+ofD (nxt (nxt (nxt (nxt seed)))) 64=ld at CM RM
   have hls:=fun W=>ZaM W la 8 lb lc ld
   clear hm HM HX hln hsc L HSELF;unfold U at CI RI CM RM ⊢
   go_enter Tryz.func3,Tryz.ntmps3
   go_wp2_with fail
   refine(CI.out).mono ?_;rintro e w1 ⟨rfl,hu1⟩
   go_wp2_with fail
   refine(RI.out _).mono ?_;rintro e w2 ⟨rfl,hu2⟩
   go_wp2_with fail
   refine(CM.out _).mono ?_;rintro e w3 ⟨rfl,hu3⟩
   go_wp2_with fail
   refine(RM.out _).mono ?_;rintro e w4 ⟨rfl,hu4⟩;have HU:=Qh (hu1.trans (hu2.trans (hu3.trans hu4)));have CL4:=Qh (CL.out w4 HU.out);clear hu1 hu2 hu3 hu4 CL
   go_wp2_with fail
   refine(CL4.out).mono ?_;rintro e w5 ⟨rfl,hu5⟩;go_wp2
   go_ret
   exact⟨rfl,HU.out.trans hu5⟩
 ·have d1:decide (60<n)=false:=decide_eq_false h1;have RN:=Qh (fun W=>ZcG HM HX W seed n (by omega));have CI:=Qh (ZaH HM HX w seed i hi);have HSELF:=Qh ZP;have RI:=Qh (fun W=>Zbi HM HX W seed i hi);have CN:=Qh (fun W=>ZaF HM HX W seed n);have CM:=Qh (fun W=>Za7 HX W seed);have RM:=Qh (fun W=>Za5 HX W seed);have CL:=Qh (fun W (u:Upd No w W)=>L W (hm.upd u));obtain⟨ln,hln⟩:∃ln,Zf mx nxt seed i=ln:=⟨_,rfl⟩;rw[hln]at CI RI;obtain⟨sc,hsc⟩:∃sc,ZF mx nxt seed n=sc:=⟨_,rfl⟩;rw[hsc]at CN;have hs1:=ZP ln;have hs2:=ZP sc;unfold ZaN at CM RM
  generalize 4+ofD (nxt seed) 60=la at CM RM
  generalize 40+ofD (nxt (nxt seed)) 400=lb at CM RM
  generalize ofD (nxt (nxt (nxt seed))) 20=lc at CM RM
  generalize 64+ofD (nxt (nxt (nxt (nxt seed)))) 64=ld at CM RM
  have hls:=fun W=>ZaM W la 8 lb lc ld
  rw[hsc]at RN;clear hm HM HX hln hsc L HSELF;unfold U at CI RI CM RM CN RN ⊢
  go_enter Tryz.func3,Tryz.ntmps3
  go_wp2_with fail
  refine(CI.out).mono ?_;rintro e w1 ⟨rfl,hu1⟩
  go_wp2_with fail
  refine(RI.out _).mono ?_;rintro e w2 ⟨rfl,hu2⟩
  go_wp2_with fail
  refine(CN.out _).mono ?_;rintro e w6 ⟨rfl,hu6⟩
  go_wp2_with fail
  refine(RN.out _).mono ?_;rintro e w7 ⟨rfl,hu7⟩
  go_wp2_with fail
  refine(CM.out _).mono ?_;rintro e w3 ⟨rfl,hu3⟩
  go_wp2_with fail
  refine(RM.out _).mono ?_;rintro e w4 ⟨rfl,hu4⟩;have HU:=Qh (hu1.trans (hu2.trans (hu6.trans (hu7.trans (hu3.trans hu4)))));have CL4:=Qh (CL.out w4 HU.out);clear hu1 hu2 hu3 hu4 hu6 hu7 CL
  go_wp2_with fail
  refine(CL4.out).mono ?_;rintro e w5 ⟨rfl,hu5⟩;go_wp2
  go_ret
  exact⟨rfl,HU.out.trans hu5⟩
theorem Zdc {W:World} (h:W.ShapedOpen Tryz.prog):MaxL W:=
 cell_of_shapedOpen_int (t:=3) (zero:= #[.int .i64 0]) h (of_decide_eq_true (by kernel_rfl)) (by kernel_rfl) rfl (by kernel_rfl) (by kernel_rfl) (by kernel_rfl)
end
end Go.Proofs.YtbcpoloakepnkaaGreatDoor
