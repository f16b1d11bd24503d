/- Scripts out of numbers: a command's line. -/
import Derived.Test.YtbcpoloakepnkaaGreatDoorLbak
import Derived.Test.YtbcpoloakepnkaaGreatDoorLbau
import Derived.Test.YtbcpoloakepnkaaGreatDoorLbav
namespace Go.Proofs.YtbcpoloakepnkaaGreatDoor
set_option linter.unusedVariables false
set_option linter.unusedSimpArgs false
section
open Go.RowKit
theorem Zz:SlT Tryz.prog 41 9 1 16:=SlT.mk_ Tryz.underlying41 (z:= .string ⟨#[]⟩) (by kernel_rfl) rfl (by omega)
theorem ZG (w:World) {base:Nat} (hb:base≤w.heap.size) (s:ByteArray):(w.alloc (.cells #[.string s] 9)).ownsRow base 9 1 (.slice (some ⟨w.heap.size,0,none⟩) 1 1) 1 (Zs [s]):=
 ⟨rfl,.inr ⟨w.heap.size,1,#[.string s],rfl,hb,heap_alloc_new w _,Nat.le_refl _,by unfold maxLen;omega,rfl,rfl⟩⟩
def ZF (s x:ByteArray):ByteArray:=s++(⟨#[32]⟩++x)
theorem ZL (s x:ByteArray):Zo ([s]++[x])=ZF s x:=by rw[Zb3 (by simp),ZT];rfl
theorem ZY {F:Nat→Prop} {w:World}:HOps F w none []:=fun h=>absurd rfl h
theorem ZbP {w:World} {g:Nat} {l:List Int} (h:Blk w g 3 (l.map (Value.int .i64))):Ints (fun _=>True) w (some ⟨g,0,none⟩) l:=fun _=>
 ⟨_,rfl,trivial,h.lt,fun j v hj=>by
  have e1:(⟨g,0,none⟩:Addr).add j=⟨g,j,none⟩:=by unfold Addr.add;split<;>simp_all
  rw[e1,h.cell,List.getElem?_map,hj];rfl⟩
set_option maxRecDepth 100000 in
set_option maxHeartbeats 4000000 in
theorem ZdB (w:World):
  Calls Tryz.prog 16 #[.agg #[.int .i64 6,.int .i64 0,.bool false,.slice none 0 0,.int .i64 0,.slice none 0 0,.int .i64 0,.int .i64 0,.int .i64 0,.int .i64 0]] w fun e w'=>e= .returned (.string (⟨#[117,110,100,111]⟩:ByteArray))∧Upd No w w':=by
 obtain⟨z,hz⟩:∃z,w.heap.size=z:=⟨_,rfl⟩;obtain⟨wb,hwb⟩:∃wb,w.alloc (.cells #[.int .i64 6,.int .i64 0,.bool false,.slice none 0 0,.int .i64 0,.slice none 0 0,.int .i64 0,.int .i64 0,.int .i64 0,.int .i64 0] 36)=wb:=⟨_,rfl⟩;have ub:Upd No w wb:=by rw[←hwb];exact(Upd.refl No w).alloc _
 have bb:Blk wb z 36 [.int .i64 6,.int .i64 0,.bool false,.slice none 0 0,.int .i64 0,.slice none 0 0,.int .i64 0,.int .i64 0,.int .i64 0,.int .i64 0]:=by rw[←hwb,←hz];exact Blk.new w _ _
 have HB:=Qh (fun W (u:Upd No wb W)=>bb.upd u id);have hhz:Upd No wb wb:=Upd.refl _ _;have UB:=Qh ub;have CS:=Qh (fun W=>Za4 W);have t0:∀W,Upd No wb W→W.cell? ⟨z,0,none⟩=some (.int .i64 6):=fun W u=>(bb.upd u id).cell 0
 have t1:∀W,Upd No wb W→W.cell? ⟨z,1,none⟩=some (.int .i64 0):=fun W u=>(bb.upd u id).cell 1
 have t2:∀W,Upd No wb W→W.cell? ⟨z,2,none⟩=some (.bool false):=fun W u=>(bb.upd u id).cell 2
 have t3:∀W,Upd No wb W→W.cell? ⟨z,3,none⟩=some (.slice none 0 0):=fun W u=>(bb.upd u id).cell 3
 have t4:∀W,Upd No wb W→W.cell? ⟨z,4,none⟩=some (.int .i64 0):=fun W u=>(bb.upd u id).cell 4
 have t5:∀W,Upd No wb W→W.cell? ⟨z,5,none⟩=some (.slice none 0 0):=fun W u=>(bb.upd u id).cell 5
 have t6:∀W,Upd No wb W→W.cell? ⟨z,6,none⟩=some (.int .i64 0):=fun W u=>(bb.upd u id).cell 6
 have t7:∀W,Upd No wb W→W.cell? ⟨z,7,none⟩=some (.int .i64 0):=fun W u=>(bb.upd u id).cell 7
 have t8:∀W,Upd No wb W→W.cell? ⟨z,8,none⟩=some (.int .i64 0):=fun W u=>(bb.upd u id).cell 8
 have t9:∀W,Upd No wb W→W.cell? ⟨z,9,none⟩=some (.int .i64 0):=fun W u=>(bb.upd u id).cell 9
 have CR:=Qh (Zak (fun _=>True) wb 6 0 false none 0 [] 0 0 0 0 ZY (by simp) (by simp) ⟨by decide,by decide⟩ ⟨by decide,by decide⟩ ⟨by decide,by decide⟩ ⟨by decide,by decide⟩ (fun W=>Za4 W) (by kernel_rfl) (fun W=>ZbB W 6 (by decide)) (.inl rfl));clear ub bb
 go_enter Tryz.func16,Tryz.ntmps16
 go_wp2_with fail
 refine(CR.out).mono ?_;rintro e w1 ⟨rfl,hu1⟩;have HR1:=Qh hu1
 go_wp2_with fail
 refine(CS.out _).mono ?_;rintro e w2 ⟨rfl,hu2⟩;obtain⟨y,hy⟩:∃y,w2.heap.size=y:=⟨_,rfl⟩;obtain⟨w3,hw3⟩:∃w3,w2.alloc (.cells #[.string (⟨#[117,110,100,111]⟩:ByteArray)] 9)=w3:=⟨_,rfl⟩;have hub2:Upd No wb w2:=HR1.out.trans hu2;have HO3:=Qh (show w3.ownsRow wb.heap.size 9 1 (.slice (some ⟨y,0,none⟩) 1 1) 1 (Zs [(⟨#[117,110,100,111]⟩:ByteArray)]) by rw[←hw3,←hy];exact ZG w2 hub2.size _);have hu3:Upd No wb w3:=by rw[←hw3];exact hub2.alloc _
 have HU3:=Qh hu3;have hfd:∀W:World,(Instr.field 66 (.agg #[.string (⟨#[117,110,100,111]⟩:ByteArray),.int .i64 1,.int .i64 1]) 0).run Tryz.prog W= .ok (.string (⟨#[117,110,100,111]⟩:ByteArray)) W:=fun W=>by kernel_rfl
 have HSS:=Qh (show((⟨#[117,110,100,111]⟩:ByteArray)).size≤10 by decide);clear hub2 hu2;have CJ:=Qh (ZaC w3 [(⟨#[117,110,100,111]⟩:ByteArray)] HO3.out (by simp) (by simp) (by rw[ZU,ZT];have:=HSS.out;omega));rw[ZT]at CJ
 go_wp2_with fail
 refine(CJ.out).mono ?_;rintro e w10 ⟨rfl,hu10⟩;go_wp2
 go_ret
 exact⟨rfl,UB.out.trans (HU3.out.trans hu10)⟩
set_option maxRecDepth 100000 in
set_option maxHeartbeats 4000000 in
theorem ZdC (w:World):
  Calls Tryz.prog 16 #[.agg #[.int .i64 7,.int .i64 0,.bool false,.slice none 0 0,.int .i64 0,.slice none 0 0,.int .i64 0,.int .i64 0,.int .i64 0,.int .i64 0]] w fun e w'=>e= .returned (.string (⟨#[114,101,100,111]⟩:ByteArray))∧Upd No w w':=by
 obtain⟨z,hz⟩:∃z,w.heap.size=z:=⟨_,rfl⟩;obtain⟨wb,hwb⟩:∃wb,w.alloc (.cells #[.int .i64 7,.int .i64 0,.bool false,.slice none 0 0,.int .i64 0,.slice none 0 0,.int .i64 0,.int .i64 0,.int .i64 0,.int .i64 0] 36)=wb:=⟨_,rfl⟩;have ub:Upd No w wb:=by rw[←hwb];exact(Upd.refl No w).alloc _
 have bb:Blk wb z 36 [.int .i64 7,.int .i64 0,.bool false,.slice none 0 0,.int .i64 0,.slice none 0 0,.int .i64 0,.int .i64 0,.int .i64 0,.int .i64 0]:=by rw[←hwb,←hz];exact Blk.new w _ _
 have HB:=Qh (fun W (u:Upd No wb W)=>bb.upd u id);have hhz:Upd No wb wb:=Upd.refl _ _;have UB:=Qh ub;have CS:=Qh (fun W=>Za3 W);have t0:∀W,Upd No wb W→W.cell? ⟨z,0,none⟩=some (.int .i64 7):=fun W u=>(bb.upd u id).cell 0
 have t1:∀W,Upd No wb W→W.cell? ⟨z,1,none⟩=some (.int .i64 0):=fun W u=>(bb.upd u id).cell 1
 have t2:∀W,Upd No wb W→W.cell? ⟨z,2,none⟩=some (.bool false):=fun W u=>(bb.upd u id).cell 2
 have t3:∀W,Upd No wb W→W.cell? ⟨z,3,none⟩=some (.slice none 0 0):=fun W u=>(bb.upd u id).cell 3
 have t4:∀W,Upd No wb W→W.cell? ⟨z,4,none⟩=some (.int .i64 0):=fun W u=>(bb.upd u id).cell 4
 have t5:∀W,Upd No wb W→W.cell? ⟨z,5,none⟩=some (.slice none 0 0):=fun W u=>(bb.upd u id).cell 5
 have t6:∀W,Upd No wb W→W.cell? ⟨z,6,none⟩=some (.int .i64 0):=fun W u=>(bb.upd u id).cell 6
 have t7:∀W,Upd No wb W→W.cell? ⟨z,7,none⟩=some (.int .i64 0):=fun W u=>(bb.upd u id).cell 7
 have t8:∀W,Upd No wb W→W.cell? ⟨z,8,none⟩=some (.int .i64 0):=fun W u=>(bb.upd u id).cell 8
 have t9:∀W,Upd No wb W→W.cell? ⟨z,9,none⟩=some (.int .i64 0):=fun W u=>(bb.upd u id).cell 9
 have CR:=Qh (Zak (fun _=>True) wb 7 0 false none 0 [] 0 0 0 0 ZY (by simp) (by simp) ⟨by decide,by decide⟩ ⟨by decide,by decide⟩ ⟨by decide,by decide⟩ ⟨by decide,by decide⟩ (fun W=>Za3 W) (by kernel_rfl) (fun W=>ZbB W 7 (by decide)) (.inl rfl));clear ub bb
 go_enter Tryz.func16,Tryz.ntmps16
 go_wp2_with fail
 refine(CR.out).mono ?_;rintro e w1 ⟨rfl,hu1⟩;have HR1:=Qh hu1
 go_wp2_with fail
 refine(CS.out _).mono ?_;rintro e w2 ⟨rfl,hu2⟩;obtain⟨y,hy⟩:∃y,w2.heap.size=y:=⟨_,rfl⟩;obtain⟨w3,hw3⟩:∃w3,w2.alloc (.cells #[.string (⟨#[114,101,100,111]⟩:ByteArray)] 9)=w3:=⟨_,rfl⟩;have hub2:Upd No wb w2:=HR1.out.trans hu2;have HO3:=Qh (show w3.ownsRow wb.heap.size 9 1 (.slice (some ⟨y,0,none⟩) 1 1) 1 (Zs [(⟨#[114,101,100,111]⟩:ByteArray)]) by rw[←hw3,←hy];exact ZG w2 hub2.size _);have hu3:Upd No wb w3:=by rw[←hw3];exact hub2.alloc _
 have HU3:=Qh hu3;have hfd:∀W:World,(Instr.field 66 (.agg #[.string (⟨#[114,101,100,111]⟩:ByteArray),.int .i64 1,.int .i64 1]) 0).run Tryz.prog W= .ok (.string (⟨#[114,101,100,111]⟩:ByteArray)) W:=fun W=>by kernel_rfl
 have HSS:=Qh (show((⟨#[114,101,100,111]⟩:ByteArray)).size≤10 by decide);clear hub2 hu2;have CJ:=Qh (ZaC w3 [(⟨#[114,101,100,111]⟩:ByteArray)] HO3.out (by simp) (by simp) (by rw[ZU,ZT];have:=HSS.out;omega));rw[ZT]at CJ
 go_wp2_with fail
 refine(CJ.out).mono ?_;rintro e w10 ⟨rfl,hu10⟩;go_wp2
 go_ret
 exact⟨rfl,UB.out.trans (HU3.out.trans hu10)⟩
set_option maxRecDepth 100000 in
set_option maxHeartbeats 4000000 in
theorem ZdE (w:World):
  Calls Tryz.prog 16 #[.agg #[.int .i64 8,.int .i64 0,.bool false,.slice none 0 0,.int .i64 0,.slice none 0 0,.int .i64 0,.int .i64 0,.int .i64 0,.int .i64 0]] w fun e w'=>e= .returned (.string (⟨#[97,115,107]⟩:ByteArray))∧Upd No w w':=by
 obtain⟨z,hz⟩:∃z,w.heap.size=z:=⟨_,rfl⟩;obtain⟨wb,hwb⟩:∃wb,w.alloc (.cells #[.int .i64 8,.int .i64 0,.bool false,.slice none 0 0,.int .i64 0,.slice none 0 0,.int .i64 0,.int .i64 0,.int .i64 0,.int .i64 0] 36)=wb:=⟨_,rfl⟩;have ub:Upd No w wb:=by rw[←hwb];exact(Upd.refl No w).alloc _
 have bb:Blk wb z 36 [.int .i64 8,.int .i64 0,.bool false,.slice none 0 0,.int .i64 0,.slice none 0 0,.int .i64 0,.int .i64 0,.int .i64 0,.int .i64 0]:=by rw[←hwb,←hz];exact Blk.new w _ _
 have HB:=Qh (fun W (u:Upd No wb W)=>bb.upd u id);have hhz:Upd No wb wb:=Upd.refl _ _;have UB:=Qh ub;have CS:=Qh (fun W=>Za2 W);have t0:∀W,Upd No wb W→W.cell? ⟨z,0,none⟩=some (.int .i64 8):=fun W u=>(bb.upd u id).cell 0
 have t1:∀W,Upd No wb W→W.cell? ⟨z,1,none⟩=some (.int .i64 0):=fun W u=>(bb.upd u id).cell 1
 have t2:∀W,Upd No wb W→W.cell? ⟨z,2,none⟩=some (.bool false):=fun W u=>(bb.upd u id).cell 2
 have t3:∀W,Upd No wb W→W.cell? ⟨z,3,none⟩=some (.slice none 0 0):=fun W u=>(bb.upd u id).cell 3
 have t4:∀W,Upd No wb W→W.cell? ⟨z,4,none⟩=some (.int .i64 0):=fun W u=>(bb.upd u id).cell 4
 have t5:∀W,Upd No wb W→W.cell? ⟨z,5,none⟩=some (.slice none 0 0):=fun W u=>(bb.upd u id).cell 5
 have t6:∀W,Upd No wb W→W.cell? ⟨z,6,none⟩=some (.int .i64 0):=fun W u=>(bb.upd u id).cell 6
 have t7:∀W,Upd No wb W→W.cell? ⟨z,7,none⟩=some (.int .i64 0):=fun W u=>(bb.upd u id).cell 7
 have t8:∀W,Upd No wb W→W.cell? ⟨z,8,none⟩=some (.int .i64 0):=fun W u=>(bb.upd u id).cell 8
 have t9:∀W,Upd No wb W→W.cell? ⟨z,9,none⟩=some (.int .i64 0):=fun W u=>(bb.upd u id).cell 9
 have CR:=Qh (Zak (fun _=>True) wb 8 0 false none 0 [] 0 0 0 0 ZY (by simp) (by simp) ⟨by decide,by decide⟩ ⟨by decide,by decide⟩ ⟨by decide,by decide⟩ ⟨by decide,by decide⟩ (fun W=>Za2 W) (by kernel_rfl) (fun W=>ZbB W 8 (by decide)) (.inl rfl));clear ub bb
 go_enter Tryz.func16,Tryz.ntmps16
 go_wp2_with fail
 refine(CR.out).mono ?_;rintro e w1 ⟨rfl,hu1⟩;have HR1:=Qh hu1
 go_wp2_with fail
 refine(CS.out _).mono ?_;rintro e w2 ⟨rfl,hu2⟩;obtain⟨y,hy⟩:∃y,w2.heap.size=y:=⟨_,rfl⟩;obtain⟨w3,hw3⟩:∃w3,w2.alloc (.cells #[.string (⟨#[97,115,107]⟩:ByteArray)] 9)=w3:=⟨_,rfl⟩;have hub2:Upd No wb w2:=HR1.out.trans hu2;have HO3:=Qh (show w3.ownsRow wb.heap.size 9 1 (.slice (some ⟨y,0,none⟩) 1 1) 1 (Zs [(⟨#[97,115,107]⟩:ByteArray)]) by rw[←hw3,←hy];exact ZG w2 hub2.size _);have hu3:Upd No wb w3:=by rw[←hw3];exact hub2.alloc _
 have HU3:=Qh hu3;have hfd:∀W:World,(Instr.field 66 (.agg #[.string (⟨#[97,115,107]⟩:ByteArray),.int .i64 1,.int .i64 1]) 0).run Tryz.prog W= .ok (.string (⟨#[97,115,107]⟩:ByteArray)) W:=fun W=>by kernel_rfl
 have HSS:=Qh (show((⟨#[97,115,107]⟩:ByteArray)).size≤10 by decide);clear hub2 hu2;have CJ:=Qh (ZaC w3 [(⟨#[97,115,107]⟩:ByteArray)] HO3.out (by simp) (by simp) (by rw[ZU,ZT];have:=HSS.out;omega));rw[ZT]at CJ
 go_wp2_with fail
 refine(CJ.out).mono ?_;rintro e w10 ⟨rfl,hu10⟩;go_wp2
 go_ret
 exact⟨rfl,UB.out.trans (HU3.out.trans hu10)⟩
set_option maxRecDepth 100000 in
set_option maxHeartbeats 4000000 in
theorem ZdF (w:World) (j:Int) (nj:Zf j):
  Calls Tryz.prog 16 #[.agg #[.int .i64 3,.int .i64 0,.bool false,.slice none 0 0,.int .i64 0,.slice none 0 0,.int .i64 0,.int .i64 j,.int .i64 0,.int .i64 0]] w fun e w'=>e= .returned (.string (ZF (⟨#[100,101,108]⟩:ByteArray) (Za j)))∧Upd No w w':=by
 obtain⟨z,hz⟩:∃z,w.heap.size=z:=⟨_,rfl⟩;obtain⟨wb,hwb⟩:∃wb,w.alloc (.cells #[.int .i64 3,.int .i64 0,.bool false,.slice none 0 0,.int .i64 0,.slice none 0 0,.int .i64 0,.int .i64 j,.int .i64 0,.int .i64 0] 36)=wb:=⟨_,rfl⟩;have ub:Upd No w wb:=by rw[←hwb];exact(Upd.refl No w).alloc _
 have bb:Blk wb z 36 [.int .i64 3,.int .i64 0,.bool false,.slice none 0 0,.int .i64 0,.slice none 0 0,.int .i64 0,.int .i64 j,.int .i64 0,.int .i64 0]:=by rw[←hwb,←hz];exact Blk.new w _ _
 have HB:=Qh (fun W (u:Upd No wb W)=>bb.upd u id);have hhz:Upd No wb wb:=Upd.refl _ _;have UB:=Qh ub;have CS:=Qh (fun W=>Za6 W);have t0:∀W,Upd No wb W→W.cell? ⟨z,0,none⟩=some (.int .i64 3):=fun W u=>(bb.upd u id).cell 0
 have t1:∀W,Upd No wb W→W.cell? ⟨z,1,none⟩=some (.int .i64 0):=fun W u=>(bb.upd u id).cell 1
 have t2:∀W,Upd No wb W→W.cell? ⟨z,2,none⟩=some (.bool false):=fun W u=>(bb.upd u id).cell 2
 have t3:∀W,Upd No wb W→W.cell? ⟨z,3,none⟩=some (.slice none 0 0):=fun W u=>(bb.upd u id).cell 3
 have t4:∀W,Upd No wb W→W.cell? ⟨z,4,none⟩=some (.int .i64 0):=fun W u=>(bb.upd u id).cell 4
 have t5:∀W,Upd No wb W→W.cell? ⟨z,5,none⟩=some (.slice none 0 0):=fun W u=>(bb.upd u id).cell 5
 have t6:∀W,Upd No wb W→W.cell? ⟨z,6,none⟩=some (.int .i64 0):=fun W u=>(bb.upd u id).cell 6
 have t7:∀W,Upd No wb W→W.cell? ⟨z,7,none⟩=some (.int .i64 j):=fun W u=>(bb.upd u id).cell 7
 have t8:∀W,Upd No wb W→W.cell? ⟨z,8,none⟩=some (.int .i64 0):=fun W u=>(bb.upd u id).cell 8
 have t9:∀W,Upd No wb W→W.cell? ⟨z,9,none⟩=some (.int .i64 0):=fun W u=>(bb.upd u id).cell 9
 have HJ:=Qh (show i64 j from by unfold Zf at nj;exact⟨by omega,by omega⟩);have CR:=Qh (Zak (fun _=>True) wb 3 0 false none 0 [] 0 j 0 0 ZY (by simp) (by simp) ⟨by decide,by decide⟩ ⟨by decide,by decide⟩ nj ⟨by decide,by decide⟩ (fun W=>Za6 W) (by kernel_rfl) (fun W=>Zdy W j) (.inl rfl));clear ub bb
 go_enter Tryz.func16,Tryz.ntmps16
 go_wp2_with fail
 refine(CR.out).mono ?_;rintro e w1 ⟨rfl,hu1⟩;have HR1:=Qh hu1
 go_wp2_with fail
 refine(CS.out _).mono ?_;rintro e w2 ⟨rfl,hu2⟩;obtain⟨y,hy⟩:∃y,w2.heap.size=y:=⟨_,rfl⟩;obtain⟨w3,hw3⟩:∃w3,w2.alloc (.cells #[.string (⟨#[100,101,108]⟩:ByteArray)] 9)=w3:=⟨_,rfl⟩;have hub2:Upd No wb w2:=HR1.out.trans hu2;have HO3:=Qh (show w3.ownsRow wb.heap.size 9 1 (.slice (some ⟨y,0,none⟩) 1 1) 1 (Zs [(⟨#[100,101,108]⟩:ByteArray)]) by rw[←hw3,←hy];exact ZG w2 hub2.size _);have hu3:Upd No wb w3:=by rw[←hw3];exact hub2.alloc _
 have HU3:=Qh hu3;have hfd:∀W:World,(Instr.field 66 (.agg #[.string (⟨#[100,101,108]⟩:ByteArray),.int .i64 2,.int .i64 2]) 0).run Tryz.prog W= .ok (.string (⟨#[100,101,108]⟩:ByteArray)) W:=fun W=>by kernel_rfl
 have HSS:=Qh (show((⟨#[100,101,108]⟩:ByteArray)).size≤10 by decide);clear hub2 hu2
 go_wp2_with fail
 refine(Z9 _ j HJ.out.1 HJ.out.2).mono ?_;rintro e w4 ⟨rfl,hu4⟩;have HXS:=Qh (show(Za j).size≤1000000 by have:=Ze j;omega);have HO:=Qh (Zh HO3.out (hu4.alloc (.cells #[.string (Za j)] 9)) (fun _ _=>id));have HU:=Qh (HU3.out.trans hu4);have HO:=Qh (Zh HO3.out hu4 (fun _ _=>id));clear hu4
 go_wp2_with (at_builtin;refine ZS rfl rfl Zz (base:=wb.heap.size) (v:= .slice (some ⟨y,0,none⟩) 1 1) (n:=1) (xs:=Zs [(⟨#[100,101,108]⟩:ByteArray)]) (cells:=[.string (Za j)]) (by rfl) (by rfl) HO.out rfl rfl (by omega) (by omega) (by have:=HU.out.size;omega) ?_;intro g9 c9 w9 hown9 hu9 hg9 hlt9;have HO9:=Qh hown9;have HU9:=Qh (HU.out.then_ hu9 fun j e=> .inr (HO.out.lt j e).1);clear hown9 hu9)
 have CJ:=Qh (ZaC w9 ([(⟨#[100,101,108]⟩:ByteArray)]++[(Za j)]) HO9.out (by simp) (by simp) (by rw[ZU,ZL];unfold ZF;rw[ByteArray.size_append,ByteArray.size_append,show(⟨#[32]⟩:ByteArray).size=1 from rfl];have:=HXS.out;have:=HSS.out;omega));rw[ZL]at CJ
 go_wp2_with fail
 refine(CJ.out).mono ?_;rintro e w10 ⟨rfl,hu10⟩;go_wp2
 go_ret
 exact⟨rfl,UB.out.trans (HU9.out.trans hu10)⟩
set_option maxRecDepth 100000 in
set_option maxHeartbeats 4000000 in
theorem ZdA (w:World) (q:Int) (hq:(Zk q).toList.isEmpty=false∧(Zk q).size≤100):
  Calls Tryz.prog 16 #[.agg #[.int .i64 9,.int .i64 0,.bool false,.slice none 0 0,.int .i64 0,.slice none 0 0,.int .i64 0,.int .i64 0,.int .i64 0,.int .i64 q]] w fun e w'=>e= .returned (.string (ZF (⟨#[119,104,121]⟩:ByteArray) (Zk q)))∧Upd No w w':=by
 obtain⟨z,hz⟩:∃z,w.heap.size=z:=⟨_,rfl⟩;obtain⟨wb,hwb⟩:∃wb,w.alloc (.cells #[.int .i64 9,.int .i64 0,.bool false,.slice none 0 0,.int .i64 0,.slice none 0 0,.int .i64 0,.int .i64 0,.int .i64 0,.int .i64 q] 36)=wb:=⟨_,rfl⟩;have ub:Upd No w wb:=by rw[←hwb];exact(Upd.refl No w).alloc _
 have bb:Blk wb z 36 [.int .i64 9,.int .i64 0,.bool false,.slice none 0 0,.int .i64 0,.slice none 0 0,.int .i64 0,.int .i64 0,.int .i64 0,.int .i64 q]:=by rw[←hwb,←hz];exact Blk.new w _ _
 have HB:=Qh (fun W (u:Upd No wb W)=>bb.upd u id);have hhz:Upd No wb wb:=Upd.refl _ _;have UB:=Qh ub;have CS:=Qh (fun W=>Za1 W);have t0:∀W,Upd No wb W→W.cell? ⟨z,0,none⟩=some (.int .i64 9):=fun W u=>(bb.upd u id).cell 0
 have t1:∀W,Upd No wb W→W.cell? ⟨z,1,none⟩=some (.int .i64 0):=fun W u=>(bb.upd u id).cell 1
 have t2:∀W,Upd No wb W→W.cell? ⟨z,2,none⟩=some (.bool false):=fun W u=>(bb.upd u id).cell 2
 have t3:∀W,Upd No wb W→W.cell? ⟨z,3,none⟩=some (.slice none 0 0):=fun W u=>(bb.upd u id).cell 3
 have t4:∀W,Upd No wb W→W.cell? ⟨z,4,none⟩=some (.int .i64 0):=fun W u=>(bb.upd u id).cell 4
 have t5:∀W,Upd No wb W→W.cell? ⟨z,5,none⟩=some (.slice none 0 0):=fun W u=>(bb.upd u id).cell 5
 have t6:∀W,Upd No wb W→W.cell? ⟨z,6,none⟩=some (.int .i64 0):=fun W u=>(bb.upd u id).cell 6
 have t7:∀W,Upd No wb W→W.cell? ⟨z,7,none⟩=some (.int .i64 0):=fun W u=>(bb.upd u id).cell 7
 have t8:∀W,Upd No wb W→W.cell? ⟨z,8,none⟩=some (.int .i64 0):=fun W u=>(bb.upd u id).cell 8
 have t9:∀W,Upd No wb W→W.cell? ⟨z,9,none⟩=some (.int .i64 q):=fun W u=>(bb.upd u id).cell 9
 have CR:=Qh (Zak (fun _=>True) wb 9 0 false none 0 [] 0 0 0 q ZY (by simp) (by simp) ⟨by decide,by decide⟩ ⟨by decide,by decide⟩ ⟨by decide,by decide⟩ ⟨by decide,by decide⟩ (fun W=>Za1 W) (by kernel_rfl) (fun W=>Zdw W q) (.inr ⟨rfl,hq.1⟩));clear ub bb
 go_enter Tryz.func16,Tryz.ntmps16
 go_wp2_with fail
 refine(CR.out).mono ?_;rintro e w1 ⟨rfl,hu1⟩;have HR1:=Qh hu1
 go_wp2_with fail
 refine(CS.out _).mono ?_;rintro e w2 ⟨rfl,hu2⟩;obtain⟨y,hy⟩:∃y,w2.heap.size=y:=⟨_,rfl⟩;obtain⟨w3,hw3⟩:∃w3,w2.alloc (.cells #[.string (⟨#[119,104,121]⟩:ByteArray)] 9)=w3:=⟨_,rfl⟩;have hub2:Upd No wb w2:=HR1.out.trans hu2;have HO3:=Qh (show w3.ownsRow wb.heap.size 9 1 (.slice (some ⟨y,0,none⟩) 1 1) 1 (Zs [(⟨#[119,104,121]⟩:ByteArray)]) by rw[←hw3,←hy];exact ZG w2 hub2.size _);have hu3:Upd No wb w3:=by rw[←hw3];exact hub2.alloc _
 have HU3:=Qh hu3;have hfd:∀W:World,(Instr.field 66 (.agg #[.string (⟨#[119,104,121]⟩:ByteArray),.int .i64 2,.int .i64 2]) 0).run Tryz.prog W= .ok (.string (⟨#[119,104,121]⟩:ByteArray)) W:=fun W=>by kernel_rfl
 have HSS:=Qh (show((⟨#[119,104,121]⟩:ByteArray)).size≤10 by decide);clear hub2 hu2
 go_wp2_with fail
 refine(Zb2 _ q).mono ?_;rintro e w4 ⟨rfl,rfl⟩;have HXS:=Qh (show(Zk q).size≤1000000 by have:=hq.2;omega);have HO:=HO3;have HU:=HU3
 go_wp2_with (at_builtin;refine ZS rfl rfl Zz (base:=wb.heap.size) (v:= .slice (some ⟨y,0,none⟩) 1 1) (n:=1) (xs:=Zs [(⟨#[119,104,121]⟩:ByteArray)]) (cells:=[.string (Zk q)]) (by rfl) (by rfl) HO.out rfl rfl (by omega) (by omega) (by have:=HU.out.size;omega) ?_;intro g9 c9 w9 hown9 hu9 hg9 hlt9;have HO9:=Qh hown9;have HU9:=Qh (HU.out.then_ hu9 fun j e=> .inr (HO.out.lt j e).1);clear hown9 hu9)
 have CJ:=Qh (ZaC w9 ([(⟨#[119,104,121]⟩:ByteArray)]++[(Zk q)]) HO9.out (by simp) (by simp) (by rw[ZU,ZL];unfold ZF;rw[ByteArray.size_append,ByteArray.size_append,show(⟨#[32]⟩:ByteArray).size=1 from rfl];have:=HXS.out;have:=HSS.out;omega));rw[ZL]at CJ
 go_wp2_with fail
 refine(CJ.out).mono ?_;rintro e w10 ⟨rfl,hu10⟩;go_wp2
 go_ret
 exact⟨rfl,UB.out.trans (HU9.out.trans hu10)⟩
set_option maxRecDepth 100000 in
set_option maxHeartbeats 4000000 in
theorem ZdD (w:World) (a b p:Int) (na:Zf a) (nb:Zf b) (np:Zf p):
  Calls Tryz.prog 16 #[.agg #[.int .i64 5,.int .i64 0,.bool false,.slice none 0 0,.int .i64 0,.slice none 0 0,.int .i64 a,.int .i64 b,.int .i64 p,.int .i64 0]] w fun e w'=>e= .returned (.string (ZF (⟨#[109,111,118]⟩:ByteArray) (ZD [a,b,p])))∧Upd No w w':=by
 obtain⟨z,hz⟩:∃z,w.heap.size=z:=⟨_,rfl⟩;obtain⟨wb,hwb⟩:∃wb,w.alloc (.cells #[.int .i64 5,.int .i64 0,.bool false,.slice none 0 0,.int .i64 0,.slice none 0 0,.int .i64 a,.int .i64 b,.int .i64 p,.int .i64 0] 36)=wb:=⟨_,rfl⟩;have ub:Upd No w wb:=by rw[←hwb];exact(Upd.refl No w).alloc _
 have bb:Blk wb z 36 [.int .i64 5,.int .i64 0,.bool false,.slice none 0 0,.int .i64 0,.slice none 0 0,.int .i64 a,.int .i64 b,.int .i64 p,.int .i64 0]:=by rw[←hwb,←hz];exact Blk.new w _ _
 have HB:=Qh (fun W (u:Upd No wb W)=>bb.upd u id);have hhz:Upd No wb wb:=Upd.refl _ _;have UB:=Qh ub;have CS:=Qh (fun W=>Za5 W);have t0:∀W,Upd No wb W→W.cell? ⟨z,0,none⟩=some (.int .i64 5):=fun W u=>(bb.upd u id).cell 0
 have t1:∀W,Upd No wb W→W.cell? ⟨z,1,none⟩=some (.int .i64 0):=fun W u=>(bb.upd u id).cell 1
 have t2:∀W,Upd No wb W→W.cell? ⟨z,2,none⟩=some (.bool false):=fun W u=>(bb.upd u id).cell 2
 have t3:∀W,Upd No wb W→W.cell? ⟨z,3,none⟩=some (.slice none 0 0):=fun W u=>(bb.upd u id).cell 3
 have t4:∀W,Upd No wb W→W.cell? ⟨z,4,none⟩=some (.int .i64 0):=fun W u=>(bb.upd u id).cell 4
 have t5:∀W,Upd No wb W→W.cell? ⟨z,5,none⟩=some (.slice none 0 0):=fun W u=>(bb.upd u id).cell 5
 have t6:∀W,Upd No wb W→W.cell? ⟨z,6,none⟩=some (.int .i64 a):=fun W u=>(bb.upd u id).cell 6
 have t7:∀W,Upd No wb W→W.cell? ⟨z,7,none⟩=some (.int .i64 b):=fun W u=>(bb.upd u id).cell 7
 have t8:∀W,Upd No wb W→W.cell? ⟨z,8,none⟩=some (.int .i64 p):=fun W u=>(bb.upd u id).cell 8
 have t9:∀W,Upd No wb W→W.cell? ⟨z,9,none⟩=some (.int .i64 0):=fun W u=>(bb.upd u id).cell 9
 have HJ:=Qh (show∀n∈[a,b,p],i64 n by unfold Zf at na nb np;intro n hn;simp only[List.mem_cons,List.not_mem_nil,or_false]at hn;rcases hn with rfl|rfl|rfl<;>exact⟨by omega,by omega⟩);have CR:=Qh (Zak (fun _=>True) wb 5 0 false none 0 [] a b p 0 ZY (by simp) (by simp) ⟨by decide,by decide⟩ na nb np (fun W=>Za5 W) (by kernel_rfl) (fun W=>Zdx W a b p) (.inl rfl));clear ub bb
 go_enter Tryz.func16,Tryz.ntmps16
 go_wp2_with fail
 refine(CR.out).mono ?_;rintro e w1 ⟨rfl,hu1⟩;have HR1:=Qh hu1
 go_wp2_with fail
 refine(CS.out _).mono ?_;rintro e w2 ⟨rfl,hu2⟩;obtain⟨y,hy⟩:∃y,w2.heap.size=y:=⟨_,rfl⟩;obtain⟨w3,hw3⟩:∃w3,w2.alloc (.cells #[.string (⟨#[109,111,118]⟩:ByteArray)] 9)=w3:=⟨_,rfl⟩;have hub2:Upd No wb w2:=HR1.out.trans hu2;have HO3:=Qh (show w3.ownsRow wb.heap.size 9 1 (.slice (some ⟨y,0,none⟩) 1 1) 1 (Zs [(⟨#[109,111,118]⟩:ByteArray)]) by rw[←hw3,←hy];exact ZG w2 hub2.size _);have hu3:Upd No wb w3:=by rw[←hw3];exact hub2.alloc _
 have HU3:=Qh hu3;have hfd:∀W:World,(Instr.field 66 (.agg #[.string (⟨#[109,111,118]⟩:ByteArray),.int .i64 4,.int .i64 4]) 0).run Tryz.prog W= .ok (.string (⟨#[109,111,118]⟩:ByteArray)) W:=fun W=>by kernel_rfl
 have HSS:=Qh (show((⟨#[109,111,118]⟩:ByteArray)).size≤10 by decide);obtain⟨x,hx⟩:∃x,w3.heap.size=x:=⟨_,rfl⟩;obtain⟨w4,hw4⟩:∃w4,w3.alloc (.cells #[.int .i64 a,.int .i64 b,.int .i64 p] 3)=w4:=⟨_,rfl⟩;have hu4:Upd No w3 w4:=by rw[←hw4];exact(Upd.refl No w3).alloc _
 have HI4:=Qh (ZbP (l:=[a,b,p]) (show Blk w4 x 3 [.int .i64 a,.int .i64 b,.int .i64 p] by rw[←hw4,←hx];exact Blk.new w3 _ _));have CW:=Qh (Zdo _ w4 (some ⟨x,0,none⟩) 3 [a,b,p] HI4.out (by simp) HJ.out);have HU4:=Qh hu4;clear hub2 hu2 hu4
 go_wp2_with fail
 refine(CW.out).mono ?_;rintro e w5 ⟨rfl,hu5⟩;have HXS:=Qh (show(ZD [a,b,p]).size≤1000000 by have:=Z1 [a,b,p] 3;show(Array.size _)≤_;rw[List.size_toArray];show(Zl [a,b,p] 3).length≤_;omega);have HU:=Qh (HU3.out.trans (HU4.out.trans hu5));have HO:=Qh (Zh HO3.out (HU4.out.trans hu5) (fun _ _=>id));clear hu5
 go_wp2_with (at_builtin;refine ZS rfl rfl Zz (base:=wb.heap.size) (v:= .slice (some ⟨y,0,none⟩) 1 1) (n:=1) (xs:=Zs [(⟨#[109,111,118]⟩:ByteArray)]) (cells:=[.string (ZD [a,b,p])]) (by rfl) (by rfl) HO.out rfl rfl (by omega) (by omega) (by have:=HU.out.size;omega) ?_;intro g9 c9 w9 hown9 hu9 hg9 hlt9;have HO9:=Qh hown9;have HU9:=Qh (HU.out.then_ hu9 fun j e=> .inr (HO.out.lt j e).1);clear hown9 hu9)
 have CJ:=Qh (ZaC w9 ([(⟨#[109,111,118]⟩:ByteArray)]++[(ZD [a,b,p])]) HO9.out (by simp) (by simp) (by rw[ZU,ZL];unfold ZF;rw[ByteArray.size_append,ByteArray.size_append,show(⟨#[32]⟩:ByteArray).size=1 from rfl];have:=HXS.out;have:=HSS.out;omega));rw[ZL]at CJ
 go_wp2_with fail
 refine(CJ.out).mono ?_;rintro e w10 ⟨rfl,hu10⟩;go_wp2
 go_ret
 exact⟨rfl,UB.out.trans (HU9.out.trans hu10)⟩
set_option maxRecDepth 100000 in
set_option maxHeartbeats 4000000 in
theorem ZdG (w:World) (F:Nat→Prop) (i:Int) (d:Bool) (A:Option Addr) (c:Nat) (xs:List HOp) (ni:Zf i) (hx:HOps F w A xs) (hl:xs.length≤4095) (hok:∀o∈xs,opB o=true∧o.ok):
  Calls Tryz.prog 16 #[.agg #[.int .i64 1,.int .i64 i,.bool d,.slice A xs.length c,.int .i64 0,.slice none 0 0,.int .i64 0,.int .i64 0,.int .i64 0,.int .i64 0]] w fun e w'=>e= .returned (.string (ZF (⟨#[97,100,100]⟩:ByteArray) ⟨(Zp i d xs).toArray⟩))∧Upd No w w':=by
 obtain⟨z,hz⟩:∃z,w.heap.size=z:=⟨_,rfl⟩;obtain⟨wb,hwb⟩:∃wb,w.alloc (.cells #[.int .i64 1,.int .i64 i,.bool d,.slice A xs.length c,.int .i64 0,.slice none 0 0,.int .i64 0,.int .i64 0,.int .i64 0,.int .i64 0] 36)=wb:=⟨_,rfl⟩;have ub:Upd No w wb:=by rw[←hwb];exact(Upd.refl No w).alloc _
 have bb:Blk wb z 36 [.int .i64 1,.int .i64 i,.bool d,.slice A xs.length c,.int .i64 0,.slice none 0 0,.int .i64 0,.int .i64 0,.int .i64 0,.int .i64 0]:=by rw[←hwb,←hz];exact Blk.new w _ _
 have HB:=Qh (fun W (u:Upd No wb W)=>bb.upd u id);have hhz:Upd No wb wb:=Upd.refl _ _;have UB:=Qh ub;have CS:=Qh (fun W=>Za7 W);have t0:∀W,Upd No wb W→W.cell? ⟨z,0,none⟩=some (.int .i64 1):=fun W u=>(bb.upd u id).cell 0
 have t1:∀W,Upd No wb W→W.cell? ⟨z,1,none⟩=some (.int .i64 i):=fun W u=>(bb.upd u id).cell 1
 have t2:∀W,Upd No wb W→W.cell? ⟨z,2,none⟩=some (.bool d):=fun W u=>(bb.upd u id).cell 2
 have t3:∀W,Upd No wb W→W.cell? ⟨z,3,none⟩=some (.slice A xs.length c):=fun W u=>(bb.upd u id).cell 3
 have t4:∀W,Upd No wb W→W.cell? ⟨z,4,none⟩=some (.int .i64 0):=fun W u=>(bb.upd u id).cell 4
 have t5:∀W,Upd No wb W→W.cell? ⟨z,5,none⟩=some (.slice none 0 0):=fun W u=>(bb.upd u id).cell 5
 have t6:∀W,Upd No wb W→W.cell? ⟨z,6,none⟩=some (.int .i64 0):=fun W u=>(bb.upd u id).cell 6
 have t7:∀W,Upd No wb W→W.cell? ⟨z,7,none⟩=some (.int .i64 0):=fun W u=>(bb.upd u id).cell 7
 have t8:∀W,Upd No wb W→W.cell? ⟨z,8,none⟩=some (.int .i64 0):=fun W u=>(bb.upd u id).cell 8
 have t9:∀W,Upd No wb W→W.cell? ⟨z,9,none⟩=some (.int .i64 0):=fun W u=>(bb.upd u id).cell 9
 have HJ:=Qh (show i64 i from by unfold Zf at ni;exact⟨by omega,by omega⟩);have HH:=Qh (fun W (u:Upd No wb W)=>HOps.upd hx (ub.trans u) (fun _ _=>id));have HOK:=Qh (fun o ho=>(hok o ho).2);have CR:=Qh (Zak F wb 1 i d A c xs 0 0 0 0 (HH.out _ hhz) hl (fun o ho=>(hok o ho).1) ni ⟨by decide,by decide⟩ ⟨by decide,by decide⟩ ⟨by decide,by decide⟩ (fun W=>Za7 W) (by kernel_rfl) (fun W=>Zdz W i d A xs.length c) (.inl rfl));clear hx hok;clear ub bb
 go_enter Tryz.func16,Tryz.ntmps16
 go_wp2_with fail
 refine(CR.out).mono ?_;rintro e w1 ⟨rfl,hu1⟩;have HR1:=Qh hu1
 go_wp2_with fail
 refine(CS.out _).mono ?_;rintro e w2 ⟨rfl,hu2⟩;obtain⟨y,hy⟩:∃y,w2.heap.size=y:=⟨_,rfl⟩;obtain⟨w3,hw3⟩:∃w3,w2.alloc (.cells #[.string (⟨#[97,100,100]⟩:ByteArray)] 9)=w3:=⟨_,rfl⟩;have hub2:Upd No wb w2:=HR1.out.trans hu2;have HO3:=Qh (show w3.ownsRow wb.heap.size 9 1 (.slice (some ⟨y,0,none⟩) 1 1) 1 (Zs [(⟨#[97,100,100]⟩:ByteArray)]) by rw[←hw3,←hy];exact ZG w2 hub2.size _);have hu3:Upd No wb w3:=by rw[←hw3];exact hub2.alloc _
 have HU3:=Qh hu3;have hfd:∀W:World,(Instr.field 66 (.agg #[.string (⟨#[97,100,100]⟩:ByteArray),.int .i64 3,.int .i64 1073741824]) 0).run Tryz.prog W= .ok (.string (⟨#[97,100,100]⟩:ByteArray)) W:=fun W=>by kernel_rfl
 have HSS:=Qh (show((⟨#[97,100,100]⟩:ByteArray)).size≤10 by decide);have CT:=Qh (Zdq F w3 i d A c xs HJ.out (HH.out _ hu3) (by omega) HOK.out);clear hub2 hu2
 go_wp2_with fail
 refine(CT.out).mono ?_;rintro e w4 ⟨rfl,hu4⟩;have HXS:=Qh (show(⟨(Zp i d xs).toArray⟩:ByteArray).size≤1000000 by have:=Zav i d xs;show(Array.size _)≤_;rw[List.size_toArray];omega);have HU:=Qh (HU3.out.trans hu4);have HO:=Qh (Zh HO3.out hu4 (fun _ _=>id));clear hu4
 go_wp2_with (at_builtin;refine ZS rfl rfl Zz (base:=wb.heap.size) (v:= .slice (some ⟨y,0,none⟩) 1 1) (n:=1) (xs:=Zs [(⟨#[97,100,100]⟩:ByteArray)]) (cells:=[.string (⟨(Zp i d xs).toArray⟩:ByteArray)]) (by rfl) (by rfl) HO.out rfl rfl (by omega) (by omega) (by have:=HU.out.size;omega) ?_;intro g9 c9 w9 hown9 hu9 hg9 hlt9;have HO9:=Qh hown9;have HU9:=Qh (HU.out.then_ hu9 fun j e=> .inr (HO.out.lt j e).1);clear hown9 hu9)
 have CJ:=Qh (ZaC w9 ([(⟨#[97,100,100]⟩:ByteArray)]++[(⟨(Zp i d xs).toArray⟩:ByteArray)]) HO9.out (by simp) (by simp) (by rw[ZU,ZL];unfold ZF;rw[ByteArray.size_append,ByteArray.size_append,show(⟨#[32]⟩:ByteArray).size=1 from rfl];have:=HXS.out;have:=HSS.out;omega));rw[ZL]at CJ
 go_wp2_with fail
 refine(CJ.out).mono ?_;rintro e w10 ⟨rfl,hu10⟩;go_wp2
 go_ret
 exact⟨rfl,UB.out.trans (HU9.out.trans hu10)⟩
end
end Go.Proofs.YtbcpoloakepnkaaGreatDoor
