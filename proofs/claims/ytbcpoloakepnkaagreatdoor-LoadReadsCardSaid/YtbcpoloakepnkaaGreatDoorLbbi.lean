/- Scripts out of numbers: the law that lines, scripts and limits are what the document says: the walk. -/
import Derived.Shelf.Vars
import Derived.Test.YtbcpoloakepnkaaGreatDoorLbaz
import Derived.Test.YtbcpoloakepnkaaGreatDoorLbbg
import Derived.Test.YtbcpoloakepnkaaGreatDoorLbbh
namespace Go.Proofs.YtbcpoloakepnkaaGreatDoor
set_option linter.unusedVariables false
set_option linter.unusedSimpArgs false
section
open Go.RowKit
theorem Zcy (w:World) (a b c d e:Int):(binOp .eql 26 (.agg #[.int .i64 a,.int .i64 b,.int .i64 c,.int .i64 d,.int .i64 e]) (.agg #[.int .i64 a,.int .i64 b,.int .i64 c,.int .i64 d,.int .i64 e])).run Tryz.prog w= .ok (.bool true) w:=by
 rw[run_eql_struct,run_equalIn_struct w _ _ _ _ (by kernel_rfl) (by kernel_rfl)];have hI:∀(w:World) (d:Nat) (x y:Int),(Op.equalIn (d+1) 3 (.int .i64 x) (.int .i64 y)).run Tryz.prog w= .ok (x==y) w:=fun w d x y=>run_equalIn_int w d _ _ _ x y Tryz.underlying3
 simp[Program.fieldsOf,Tryz.underlying26,Op.eqFields,part,hI,Result.andThen]
def Zck:Prop:=∀w:World,MaxL w→Calls Tryz.prog 5 #[] w fun e w'=>e= .returned (.bool true)∧Upd No w w'
theorem ZaJ (a:ByteArray):(a.toList==a.toList)=true:=by simp
set_option maxRecDepth 100000 in
set_option maxHeartbeats 4000000 in
theorem Zc9 {mx nxt:BitVec 64→BitVec 64} (HM:∀x,mx x=Bv.mix x) (HX:Nx nxt):Zck:=fun w hm=>by
 have eu:u (7#64)=7:=rfl;have he:(⟨#[]⟩:ByteArray).toList.isEmpty=true:=by kernel_rfl
 have e0:Zd mx nxt 7#64 0=⟨#[]⟩:=by unfold Zd;rw[if_neg (by decide)]
 have e1:Zd mx nxt 7#64 1001=⟨#[]⟩:=by unfold Zd;rw[if_neg (by decide)]
 have s0:Zr mx nxt 7#64 0=⟨#[]⟩:=by unfold Zr;rfl
 have s1:Zr mx nxt 7#64 (-1)=⟨#[]⟩:=by unfold Zr;rfl
 have C0:=Qh (fun W=>ZaQ HM HX W 7#64 0 ⟨by decide,by decide⟩);have C1:=Qh (fun W=>ZaQ HM HX W 7#64 1001 ⟨by decide,by decide⟩);have C5:=Qh (fun W=>ZaQ HM HX W 7#64 5 ⟨by decide,by decide⟩);have R5:=Qh (fun W=>Zee HM HX W 7#64 5 ⟨by decide,by decide⟩);have S0:=Qh (fun W=>Zbh HM HX W 7#64 0);have S1:=Qh (fun W=>Zbh HM HX W 7#64 (-1));have CM:=Qh (fun W=>ZbO HX W 7#64);have RM:=Qh (fun W=>ZcX HX W 7#64);have CP:=Qh (fun W (u:Upd No w W)=>ZbN mx nxt W (hm.upd u) 7#64 5);rw[if_pos (by decide)]at CP;rw[e0]at C0;rw[e1]at C1;rw[s0]at S0;rw[s1]at S1;obtain⟨ln,hln⟩:∃ln,Zd mx nxt 7#64 5=ln:=⟨_,rfl⟩;rw[hln]at C5 R5 CP;have hself:=ZaJ ln;unfold U at C0 C1 C5 R5 S0 S1 CM RM;rw[eu]at C0 C1 C5 R5 S0 S1 CM RM;unfold ZaU at CM RM
 generalize 4+ofD (nxt 7#64) 60=la at CM RM
 generalize 40+ofD (nxt (nxt 7#64)) 400=lb at CM RM
 generalize ofD (nxt (nxt (nxt 7#64))) 20=lc at CM RM
 generalize 64+ofD (nxt (nxt (nxt (nxt 7#64)))) 64=ld at CM RM
 have hls:=fun W=>Zcy W la 8 lb lc ld
 clear hm HM HX e0 e1 s0 s1 hln eu;have C5a:=Qh (C5.out w)
 go_enter Tryz.func5,Tryz.ntmps5
 go_wp2_with fail
 refine(C5a.out).mono ?_;rintro e w1 ⟨rfl,hu1⟩;have CP1:=Qh (CP.out w1 hu1);clear CP C5a
 go_wp2_with fail
 refine(CP1.out).mono ?_;rintro e w2 ⟨⟨v,⟨v0,v1,v4,v6,v7,v8,v9,v2,A3,A5,n3,m3,n5,m5,rfl⟩,rfl⟩,hu2⟩;have hu2:=hu1.trans hu2;clear hu1 CP1;obtain⟨x,hx⟩:∃x,w2.heap.size=x:=⟨_,rfl⟩;obtain⟨w6,hw6⟩:∃w6,w2.alloc (.cells #[.int .i64 0,.int .i64 0,.bool false,.slice none 0 0,.int .i64 0,.slice none 0 0,.int .i64 0,.int .i64 0,.int .i64 0,.int .i64 0] 36)=w6:=⟨_,rfl⟩;have hu6:Upd No w2 w6:=by rw[←hw6];exact(Upd.refl No w2).alloc _
 have b6w:Blk w6 x 36 [.int .i64 0,.int .i64 0,.bool false,.slice none 0 0,.int .i64 0,.slice none 0 0,.int .i64 0,.int .i64 0,.int .i64 0,.int .i64 0]:=by rw[←hw6,←hx];exact Blk.new w2 _ _
 have k0:=b6w.cell 0;have f0:=b6w.free 0;have k1:=b6w.cell 1;have f1:=b6w.free 1;have k2:=b6w.cell 2;have f2:=b6w.free 2;have k3:=b6w.cell 3;have f3:=b6w.free 3;have k4:=b6w.cell 4;have f4:=b6w.free 4;have k5:=b6w.cell 5;have f5:=b6w.free 5;have k6:=b6w.cell 6;have f6:=b6w.free 6;have k7:=b6w.cell 7;have f7:=b6w.free 7;have k8:=b6w.cell 8;have f8:=b6w.free 8;have k9:=b6w.cell 9;have f9:=b6w.free 9;simp only[Qz,Qs]at k0 k1 k2 k3 k4 k5 k6 k7 k8 k9;have B6:=Qh b6w;have HU6:=Qh (hu2.trans hu6);have HX6:=Qh (show w.heap.size≤x by rw[←hx];exact hu2.size);clear b6w hu6
 go_upto_region 2 with fail
 obtain⟨b7,us⟩:=ZH B6.out (.int .i64 v0) (.int .i64 v1) (.bool v2) (.slice A3 n3 m3) (.int .i64 v4) (.slice A5 n5 m5) (.int .i64 v6) (.int .i64 v7) (.int .i64 v8) (.int .i64 v9);have HU7:=Qh (HU6.out.then_ us fun j e=> .inr (by have:=HX6.out;unfold One at e;omega))
 generalize ((((((((((w6.setCell ⟨x,0,none⟩ (.int .i64 v0)).setCell ⟨x,1,none⟩ (.int .i64 v1)).setCell ⟨x,2,none⟩ (.bool v2)).setCell ⟨x,3,none⟩ (.slice A3 n3 m3)).setCell ⟨x,4,none⟩ (.int .i64 v4)).setCell ⟨x,5,none⟩ (.slice A5 n5 m5)).setCell ⟨x,6,none⟩ (.int .i64 v6)).setCell ⟨x,7,none⟩ (.int .i64 v7)).setCell ⟨x,8,none⟩ (.int .i64 v8)).setCell ⟨x,9,none⟩ (.int .i64 v9))=w7 at*
 clear us b7 k0 f0 k1 f1 k2 f2 k3 f3 k4 f4 k5 f5 k6 f6 k7 f7 k8 f8 k9 f9 hw6 B6 HU6
 go_wp2_with fail
 refine(C0.out _).mono ?_;rintro e w3 ⟨rfl,hu3⟩
 go_wp2_with fail
 refine(C1.out _).mono ?_;rintro e w4 ⟨rfl,hu4⟩
 go_wp2_with fail
 refine(S0.out _).mono ?_;rintro e w5 ⟨rfl,hu5⟩
 go_wp2_with fail
 refine(S1.out _).mono ?_;rintro e w8 ⟨rfl,hu8⟩
 go_wp2_with fail
 refine(C5.out _).mono ?_;rintro e w9 ⟨rfl,hu9⟩
 go_wp2_with fail
 refine(R5.out _).mono ?_;rintro e w10 ⟨rfl,hu10⟩
 go_wp2_with fail
 refine(CM.out _).mono ?_;rintro e w11 ⟨rfl,hu11⟩
 go_wp2_with fail
 refine(RM.out _).mono ?_;rintro e w12 ⟨rfl,hu12⟩;go_wp2
 go_ret
 exact⟨rfl,HU7.out.trans (hu3.trans (hu4.trans (hu5.trans (hu8.trans (hu9.trans (hu10.trans (hu11.trans hu12)))))))⟩
theorem Zdu {W:World} (h:W.ShapedOpen Tryz.prog):MaxL W:=
 cell_of_shapedOpen_int (t:=3) (zero:= #[.int .i64 0]) h (of_decide_eq_true (by kernel_rfl)) (by kernel_rfl) rfl (by kernel_rfl) (by kernel_rfl) (by kernel_rfl)
end
/- Scripts out of numbers:a text is cut into lines;each line is a command,and a shorter script begins a longer one:the walk. -/
section
open Go.Shelf Go.RowKit
theorem Zcg (mx nxt:BitVec 64→BitVec 64) (seed:BitVec 64) {M k:Nat} (hk:k<(ZP mx nxt seed M).length):(ZP mx nxt seed M)[k]=Zd mx nxt seed ((k:Int)+1):=by simp[ZP]
theorem ZcV (w:World) (hm:MaxL w) (c:UInt8) (ws:List ByteArray) (h:ws≠[]) (hc:∀x∈ws,c∉x.data.toList) (hz:(Z4 c ws).size<4294967281):
  Calls Tryz.prog 33 #[.string (Z4 c ws),.string ⟨#[c]⟩] w fun e w'=>∃g,e= .returned (.slice (some ⟨g,0,none⟩) ws.length ws.length)∧Strz (fun _=>True) w' (some ⟨g,0,none⟩) ws∧Upd No w w':=by
 obtain⟨m,hm⟩:=hm;obtain⟨e1,e2⟩:=ZbK h hc;have cc:=Any.strings_Split Zbo (by kernel_rfl) (Z4 c ws) ⟨#[c]⟩ m w hz hm (by show 1≤Array.size _;simp);rw[e1,e2]at cc;refine Calls.mono cc ?_;rintro e w' ⟨rfl,rfl⟩;refine⟨_,rfl,fun _=>⟨_,rfl,trivial,?_,fun j v hj=> ?_⟩,(Upd.refl No w).alloc _⟩
 ·show w.heap.size<_
  simp
 ·exact ZbA (cs:=ws.map Value.string) j _ (by rw[List.getElem?_map,hj];rfl)
set_option maxRecDepth 100000 in
set_option maxHeartbeats 2000000 in
theorem ZdM (w:World) (hm:MaxL w) (ls:List ByteArray) (hc:∀x∈ls,(10:UInt8)∉x.data.toList) (hz:(ls.flatMap fun s=>s.data.toList++[10]).length≤10000000) (hn:ls.length≤100000):
  Calls Tryz.prog 14 #[.string ⟨(ls.flatMap fun s=>s.data.toList++[10]).toArray⟩] w fun e w'=>∃A c,e= .returned (.slice A ls.length c)∧Strz (fun _=>True) w' A ls∧Upd No w w':=by
 have ej:(⟨(ls.flatMap fun s=>s.data.toList++[10]).toArray⟩:ByteArray)=Z4 10 (ls++[⟨#[]⟩]):=by unfold Z4;rw[Zba]
 have hcc:∀x∈ls++[(⟨#[]⟩:ByteArray)],(10:UInt8)∉x.data.toList:=fun x hx=>by
  rcases List.mem_append.1 hx with h|h
  ·exact hc x h
  ·rw[List.mem_singleton.1 h];simp
 have CS:=Qh (ZcV w hm 10 (ls++[⟨#[]⟩]) (by simp) hcc (by rw[←ej,bsz];omega));clear hcc;rw[ej];obtain⟨s,hs⟩:∃s,Z4 10 (ls++[⟨#[]⟩])=s:=⟨_,rfl⟩;obtain⟨N,hN⟩:∃N,ls.length=N:=⟨_,rfl⟩;have HL:=Qh (show(ls++[(⟨#[]⟩:ByteArray)]).length=N+1 by rw[List.length_append,hN];rfl);rw[hs,HL.out]at CS;rw[hs,hN];have he:(⟨#[]⟩:ByteArray).toList.isEmpty=true:=by kernel_rfl
 clear hs ej hm hc hz
 go_enter Tryz.func14,Tryz.ntmps14
 go_wp2_with fail
 refine(CS.out).mono ?_;rintro e w1 ⟨g,rfl,hs1,hu1⟩;have hl:=hs1.at_ (k:=N) (by rw[HL.out];omega);rw[List.getElem_append_right (by omega)]at hl;obtain⟨ad,hA,_,_,q0⟩:=hl;simp only[hN,Nat.sub_self,List.getElem_cons_zero]at q0;have HS:=Qh hs1;rw[hA]at HS ⊢;clear hs1;have b1:(0:Int)≤(N:Int):=Qn _;have b2:(N:Int)<((N+1:Nat):Int):=by omega
 have hcut:∀W,(Instr.slice 41 (.slice (some ad) (N+1) (N+1)) none (some (.int .i64 (N:Int))) none).run Tryz.prog W= .ok (.slice (ZO (some ad) (N+1) 0 1) N (N+1)) W:=fun W=>Zb8 (P:=Tryz.prog) W Zz (some ad) (N+1) (N+1) N (by omega)
 have HC:=Qh (HS.out.cut (i:=0) (c:=N+1) (by rw[HL.out];omega))
 generalize ZO (some ad) (N+1) 0 1=A1 at*
 go_wp2
 go_ret
 refine⟨A1,N+1,rfl,fun hne=> ?_,hu1⟩;obtain⟨a2,e2,h1,h2,h3⟩:=HC.out (by simp);refine⟨a2,e2,h1,h2,fun j v hj=>h3 j v ?_⟩;rw[List.drop_zero,List.getElem?_append_left (by have:=(List.getElem?_eq_some_iff.1 hj).1;omega),hj]
set_option maxRecDepth 100000 in
set_option maxHeartbeats 8000000 in
theorem ZcY {mx nxt:BitVec 64→BitVec 64} (HM:∀x,mx x=Bv.mix x) (HX:Nx nxt) (L:Zck) (w:World) (hm:MaxL w) (seed:BitVec 64) (i n m:Int) (hi:i64 i):
  Calls Tryz.prog 4 #[U seed,.int .i64 i,.int .i64 n,.int .i64 m] w fun e w'=>e= .returned (.bool true)∧Upd No w w':=by
 have CL:=Qh (L w hm);have CI:=Qh (fun W=>ZaQ HM HX W seed i hi);have CJ:=Qh (fun W j (hj:i64 j)=>ZaQ HM HX W seed j hj);have CN:=Qh (fun W n=>Zbh HM HX W seed n);have CM:=Qh (fun W=>ZbO HX W seed);have CP:=Qh (fun W (u:Upd No w W)=>ZbN mx nxt W (hm.upd u) seed i);have HMX:=Qh hm
 have RA:=Qh (show∀W:World,Calls Tryz.prog 13 #[.agg (ZaU nxt seed).toArray] W fun en w'=>en= .returned (.bool true)∧Upd No W w' from fun W=>by
  have a0:=Zg (nxt seed) 60;have a1:=Zi (nxt seed) (k:=60) (by omega);have b0:=Zg (nxt (nxt seed)) 400;have b1:=Zi (nxt (nxt seed)) (k:=400) (by omega);have c0:=Zg (nxt (nxt (nxt seed))) 20;have c1:=Zi (nxt (nxt (nxt seed))) (k:=20) (by omega);have d0:=Zg (nxt (nxt (nxt (nxt seed)))) 64;have d1:=Zi (nxt (nxt (nxt (nxt seed)))) (k:=64) (by omega);exact ZdX W _ _ _ _ _ (by omega) (by omega) (by omega) (by omega) (by omega))
 have HSZ:=Zb1 mx nxt seed i;obtain⟨ln,hln⟩:∃ln,Zd mx nxt seed i=ln:=⟨_,rfl⟩;rw[hln]at CI CP HSZ;obtain⟨lim,hlim⟩:∃l,(ZaU nxt seed).toArray=l:=⟨_,rfl⟩;rw[hlim]at CM RA;have z1:decide ((200:Int)<(ln.size:Int))=false:=decide_eq_false (by omega);have z2:decide (200<ln.size)=false:=decide_eq_false (by omega);unfold U at CI CJ CN CM ⊢;obtain⟨sd,hsd⟩:∃sd,u seed=sd:=⟨_,rfl⟩;rw[hsd]at CI CJ CN CM ⊢;clear L hm HM HX hln hlim hsd HSZ;have HI64:=Qh hi;clear hi;have CIw:=Qh (fun W=>CI.out W)
 go_enter Tryz.func4,Tryz.ntmps4
 go_wp2_with fail
 refine(CL.out).mono ?_;rintro e w1 ⟨rfl,hu1⟩
 go_wp2_with fail
 refine(CIw.out _).mono ?_;rintro e w2 ⟨rfl,hu2⟩;have HU2:=Qh (hu1.trans hu2);have CP2:=Qh (CP.out w2 HU2.out);clear hu1 hu2 CP CL
 go_wp2_with fail
 refine(CP2.out).mono ?_;rintro e w3 ⟨⟨v,⟨v0,v1,v4,v6,v7,v8,v9,v2,A3,A5,n3,m3,n5,m5,rfl⟩,rfl⟩,hu3⟩;have hu3:=HU2.out.trans hu3;clear CP2 HU2;obtain⟨why,hwhy⟩:∃y:Int,(if 1≤i∧i≤1000 then (0:Int) else 12)=y:=⟨_,rfl⟩;rw[hwhy];obtain⟨x,hx⟩:∃x,w3.heap.size=x:=⟨_,rfl⟩;obtain⟨w6,hw6⟩:∃w6,w3.alloc (.cells #[.int .i64 0,.int .i64 0,.bool false,.slice none 0 0,.int .i64 0,.slice none 0 0,.int .i64 0,.int .i64 0,.int .i64 0,.int .i64 0] 36)=w6:=⟨_,rfl⟩;have hu6:Upd No w3 w6:=by rw[←hw6];exact(Upd.refl No w3).alloc _
 have b6w:Blk w6 x 36 [.int .i64 0,.int .i64 0,.bool false,.slice none 0 0,.int .i64 0,.slice none 0 0,.int .i64 0,.int .i64 0,.int .i64 0,.int .i64 0]:=by rw[←hw6,←hx];exact Blk.new w3 _ _
 have k0:=b6w.cell 0;have f0:=b6w.free 0;have k1:=b6w.cell 1;have f1:=b6w.free 1;have k2:=b6w.cell 2;have f2:=b6w.free 2;have k3:=b6w.cell 3;have f3:=b6w.free 3;have k4:=b6w.cell 4;have f4:=b6w.free 4;have k5:=b6w.cell 5;have f5:=b6w.free 5;have k6:=b6w.cell 6;have f6:=b6w.free 6;have k7:=b6w.cell 7;have f7:=b6w.free 7;have k8:=b6w.cell 8;have f8:=b6w.free 8;have k9:=b6w.cell 9;have f9:=b6w.free 9;simp only[Qz,Qs]at k0 k1 k2 k3 k4 k5 k6 k7 k8 k9;have B6:=Qh b6w;have HU6:=Qh (hu3.trans hu6);have HX6:=Qh (show w.heap.size≤x by rw[←hx];exact hu3.size);clear b6w hu6
 go_upto_region 4 with fail
 obtain⟨b7,us⟩:=ZH B6.out (.int .i64 v0) (.int .i64 v1) (.bool v2) (.slice A3 n3 m3) (.int .i64 v4) (.slice A5 n5 m5) (.int .i64 v6) (.int .i64 v7) (.int .i64 v8) (.int .i64 v9);have HU7:=Qh (HU6.out.then_ us fun j e=> .inr (by have:=HX6.out;unfold One at e;omega))
 generalize ((((((((((w6.setCell ⟨x,0,none⟩ (.int .i64 v0)).setCell ⟨x,1,none⟩ (.int .i64 v1)).setCell ⟨x,2,none⟩ (.bool v2)).setCell ⟨x,3,none⟩ (.slice A3 n3 m3)).setCell ⟨x,4,none⟩ (.int .i64 v4)).setCell ⟨x,5,none⟩ (.slice A5 n5 m5)).setCell ⟨x,6,none⟩ (.int .i64 v6)).setCell ⟨x,7,none⟩ (.int .i64 v7)).setCell ⟨x,8,none⟩ (.int .i64 v8)).setCell ⟨x,9,none⟩ (.int .i64 v9))=w7 at*
 clear us b7 k0 f0 k1 f1 k2 f2 k3 f3 k4 f4 k5 f5 k6 f6 k7 f7 k8 f8 k9 f9 hw6 B6 HU6
 go_cut [46] (fun s wx=>s= .bool false∧Upd No w wx)
 case first=>
  by_cases h1:1≤i
  ·have d1:decide (1≤i)=true:=decide_eq_true h1
   by_cases h2:i≤1000
   ·have d2:decide (i≤1000)=true:=decide_eq_true h2;rw[if_pos ⟨h1,h2⟩]at hwhy;subst hwhy
    go_wp2_with fail
    refine(CM.out _).mono ?_;rintro e w20 ⟨rfl,hu20⟩
    go_wp2_with fail
    refine(RA.out _).mono ?_;rintro e w21 ⟨rfl,hu21⟩
    go_wp2_with fail
    refine(CI.out _).mono ?_;rintro e w22 ⟨rfl,hu22⟩
    go_wp2_with fail
    go_meet
    exact⟨rfl,HU7.out.trans (hu20.trans (hu21.trans hu22))⟩
   ·have d2:decide (i≤1000)=false:=decide_eq_false h2;rw[if_neg (by omega)]at hwhy;subst hwhy
    go_wp2_with fail
    refine(CM.out _).mono ?_;rintro e w20 ⟨rfl,hu20⟩
    go_wp2_with fail
    refine(RA.out _).mono ?_;rintro e w21 ⟨rfl,hu21⟩
    go_wp2_with fail
    refine(CI.out _).mono ?_;rintro e w22 ⟨rfl,hu22⟩
    go_wp2_with fail
    go_meet
    exact⟨rfl,HU7.out.trans (hu20.trans (hu21.trans hu22))⟩
  ·have d1:decide (1≤i)=false:=decide_eq_false h1;rw[if_neg (by omega)]at hwhy;subst hwhy
   go_wp2_with fail
   refine(CM.out _).mono ?_;rintro e w20 ⟨rfl,hu20⟩
   go_wp2_with fail
   refine(RA.out _).mono ?_;rintro e w21 ⟨rfl,hu21⟩
   go_wp2_with fail
   refine(CI.out _).mono ?_;rintro e w22 ⟨rfl,hu22⟩
   go_wp2_with fail
   go_meet
   exact⟨rfl,HU7.out.trans (hu20.trans (hu21.trans hu22))⟩
 case rest=>
  obtain⟨rfl,hu⟩:=hcut;obtain⟨w8,hw8⟩:∃w8,w8=wc:=⟨_,rfl⟩;subst hw8;have HU8:=Qh hu;clear hu RA CM CI CIw z1 z2 hwhy HU7 hu3
  by_cases c1:n<0
  ·have d1:decide (n<0)=true:=decide_eq_true c1;go_wp2
   go_ret
   exact⟨rfl,HU8.out⟩
  have d1:decide (n<0)=false:=decide_eq_false c1
  by_cases c2:m<n
  ·have d2:decide (m<n)=true:=decide_eq_true c2;go_wp2
   go_ret
   exact⟨rfl,HU8.out⟩
  have d2:decide (m<n)=false:=decide_eq_false c2
  by_cases c3:60<m
  ·have d3:decide (60<m)=true:=decide_eq_true c3;go_wp2
   go_ret
   exact⟨rfl,HU8.out⟩
  have d3:decide (60<m)=false:=decide_eq_false c3;obtain⟨x1,x2⟩:=ZbV mx nxt seed (n:=n) (m:=m) (by omega) (by omega) (by omega);have CA:=Qh (fun W=>CN.out W n);have CB:=Qh (fun W=>CN.out W m);obtain⟨M,rfl⟩:∃M:Nat,m=(M:Int):=⟨m.toNat,by omega⟩
  have hsl:Zr mx nxt seed (M:Int)=⟨((ZP mx nxt seed M).flatMap fun s=>s.data.toList++[10]).toArray⟩:=by
   unfold Zr;rw[show(min ((M:Nat):Int) 1000).toNat=M by omega,ZaL]
  have hsz:(Zr mx nxt seed (M:Int)).size≤1001*60:=by
   unfold Zr;rw[show(min ((M:Nat):Int) 1000).toNat=M by omega,bsz];have:=Zar mx nxt seed M;omega
  have hnf:∀x∈ZP mx nxt seed M,(10:UInt8)∉x.data.toList:=fun x hx=>by
   obtain⟨j,_,rfl⟩:=List.mem_map.1 hx;exact Zda mx nxt seed _
  have CLN:=Qh (fun W (u:Upd No w W)=>ZdM W (HMX.out.upd u) (ZP mx nxt seed M) hnf (by rw[hsl,bsz]at hsz;omega) (by rw[ZaD];omega));clear hnf;rw[←hsl,ZaD]at CLN;obtain⟨sa,hsa⟩:∃s,Zr mx nxt seed n=s:=⟨_,rfl⟩;obtain⟨sb,hsb⟩:∃s,Zr mx nxt seed (M:Int)=s:=⟨_,rfl⟩;rw[hsa]at CA x1 x2;rw[hsb]at CB CLN x1 x2;have y1:decide ((sb.size:Int)<(sa.size:Int))=false:=decide_eq_false (by omega);have y2:decide (sb.size<sa.size)=false:=decide_eq_false (by omega);have y3:(0:Int)≤(sa.size:Int):=Qn _;have y4:(sa.size:Int)≤(sb.size:Int):=by omega
  have y5:=ZaJ sa;clear hsl hsz hsa hsb CN HMX
  go_wp2_with fail
  refine(CA.out _).mono ?_;rintro e w9 ⟨rfl,hu9⟩
  go_wp2_with fail
  refine(CB.out _).mono ?_;rintro e w10 ⟨rfl,hu10⟩;have HU10:=Qh (HU8.out.trans (hu9.trans hu10));have CL10:=Qh (CLN.out w10 HU10.out);clear hu9 hu10 CLN CA CB HU8
  go_wp2_with fail
  refine(CL10.out).mono ?_;rintro e w11 ⟨A,c,rfl,hs11,hu11⟩;have HS:=Qh hs11;have HU11:=Qh (HU10.out.trans hu11);clear hs11 hu11 CL10 HU10;have HLL:=Qh (ZaD mx nxt seed M);have HLK:=Qh (fun(k:Nat) (hk:k<(ZP mx nxt seed M).length)=>Zcg mx nxt seed hk)
  generalize ZP mx nxt seed M=LL at*
  go_wp2;clear x1 x2 y1 y2 y3 y4 y5 d1 d2 d3
  go_loopg [87] M (fun gk i_ wr=>∃k:Nat,k+gk=M∧i_= .int .i64 (k:Int)∧Hid (Upd No w11 wr))
  case atStart=>exact⟨0,by omega,rfl,Qh (Upd.refl _ _)⟩
  case round=>
   obtain⟨k,hgk,rfl,hu⟩:=hrel
   by_cases hlt:k<M
   ·obtain⟨ad,hAd,_,_,q0⟩:=(HS.out.upd hu.out (fun _ _=>id)).at_ (k:=k) (by rw[HLL.out];omega);rw[HLK.out k (by rw[HLL.out];omega)]at q0;subst hAd;have CJK:=Qh (CJ.out wr ((k:Int)+1) ⟨by omega,by omega⟩)
    generalize Zd mx nxt seed ((k:Int)+1)=lk at*
    have e1:=ZaJ lk;have b1:(0:Int)≤(k:Int):=Qn _;have b2:(k:Int)<(M:Int):=by omega
    go_wp2_with fail
    refine(CJK.out).mono ?_;rintro e w12 ⟨rfl,hu12⟩;have HU12:=Qh (hu.out.trans hu12);clear hu12;go_wp2
    go_roundg (gk-1)
    case measure=>omega
    case rel=>exact⟨k+1,by omega,by go_num,HU12⟩
   ·obtain rfl:k=M:=by omega
    go_wp2
    go_ret
    exact⟨rfl,HU11.out.trans hu.out⟩
end
end Go.Proofs.YtbcpoloakepnkaaGreatDoor
