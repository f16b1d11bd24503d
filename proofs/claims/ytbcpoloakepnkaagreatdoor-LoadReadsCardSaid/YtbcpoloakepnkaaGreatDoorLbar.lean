/- Scripts out of numbers: what a command uses, and whether two are one. -/
import Derived.Test.YtbcpoloakepnkaaGreatDoorLbaq
namespace Go.Proofs.YtbcpoloakepnkaaGreatDoor
set_option linter.unusedVariables false
set_option linter.unusedSimpArgs false
section
open Go.RowKit
set_option maxRecDepth 100000 in
set_option maxHeartbeats 4000000 in
theorem ZbB (W:World) (k:Int) (hk:k=6∨k=7∨k=8):Calls Tryz.prog 50 #[.agg #[.int .i64 k,.int .i64 0,.bool false,.slice none 0 0,.int .i64 0,.slice none 0 0,.int .i64 0,.int .i64 0,.int .i64 0,.int .i64 0]] W fun e w'=>e= .returned (.agg #[.int .i64 k,.int .i64 0,.bool false,.slice none 0 0,.int .i64 0,.slice none 0 0,.int .i64 0,.int .i64 0,.int .i64 0,.int .i64 0])∧Upd No W w':=by
 have e1:(k==1)=false:=by rcases hk with rfl|rfl|rfl<;>rfl
 have e2:(k==2)=false:=by rcases hk with rfl|rfl|rfl<;>rfl
 have e3:(k==3)=false:=by rcases hk with rfl|rfl|rfl<;>rfl
 have e10:(k==10)=false:=by rcases hk with rfl|rfl|rfl<;>rfl
 have e4:(k==4)=false:=by rcases hk with rfl|rfl|rfl<;>rfl
 have e5:(k==5)=false:=by rcases hk with rfl|rfl|rfl<;>rfl
 have e9:(k==9)=false:=by rcases hk with rfl|rfl|rfl<;>rfl
 clear hk
 go_enter Tryz.func50,Tryz.ntmps50
 go_wp2;refine bodyPost_ret (v:= .agg #[.int .i64 k,.int .i64 0,.bool false,.slice none 0 0,.int .i64 0,.slice none 0 0,.int .i64 0,.int .i64 0,.int .i64 0,.int .i64 0]) (by simp[results,Tryz.results50,go_sem]) rfl ⟨rfl,?_⟩;exact((((Upd.refl No W).alloc _).alloc _).alloc _)
set_option maxRecDepth 100000 in
set_option maxHeartbeats 4000000 in
theorem Zdz (W:World) (i:Int) (d:Bool) (A:Option Addr) (n c:Nat):Calls Tryz.prog 50 #[.agg #[.int .i64 1,.int .i64 i,.bool d,.slice A n c,.int .i64 0,.slice none 0 0,.int .i64 0,.int .i64 0,.int .i64 0,.int .i64 0]] W fun e w'=>e= .returned (.agg #[.int .i64 1,.int .i64 i,.bool d,.slice A n c,.int .i64 0,.slice none 0 0,.int .i64 0,.int .i64 0,.int .i64 0,.int .i64 0])∧Upd No W w':=by
 go_enter Tryz.func50,Tryz.ntmps50
 go_wp2;refine bodyPost_ret (v:= .agg #[.int .i64 1,.int .i64 i,.bool d,.slice A n c,.int .i64 0,.slice none 0 0,.int .i64 0,.int .i64 0,.int .i64 0,.int .i64 0]) (by simp[results,Tryz.results50,go_sem]) rfl ⟨rfl,?_⟩;exact((((Upd.refl No W).alloc _).alloc _).alloc _)
set_option maxRecDepth 100000 in
set_option maxHeartbeats 4000000 in
theorem Zdx (W:World) (a b p:Int):Calls Tryz.prog 50 #[.agg #[.int .i64 5,.int .i64 0,.bool false,.slice none 0 0,.int .i64 0,.slice none 0 0,.int .i64 a,.int .i64 b,.int .i64 p,.int .i64 0]] W fun e w'=>e= .returned (.agg #[.int .i64 5,.int .i64 0,.bool false,.slice none 0 0,.int .i64 0,.slice none 0 0,.int .i64 a,.int .i64 b,.int .i64 p,.int .i64 0])∧Upd No W w':=by
 go_enter Tryz.func50,Tryz.ntmps50
 go_wp2
 go_region
 all_goals (go_wp2;refine bodyPost_ret (v:= .agg #[.int .i64 5,.int .i64 0,.bool false,.slice none 0 0,.int .i64 0,.slice none 0 0,.int .i64 a,.int .i64 b,.int .i64 p,.int .i64 0]) (by simp[results,Tryz.results50,go_sem]) rfl ⟨rfl,?_⟩;exact((((Upd.refl No W).alloc _).alloc _).alloc _).drew)
set_option maxRecDepth 100000 in
set_option maxHeartbeats 4000000 in
theorem Zdy (W:World) (j:Int):Calls Tryz.prog 50 #[.agg #[.int .i64 3,.int .i64 0,.bool false,.slice none 0 0,.int .i64 0,.slice none 0 0,.int .i64 0,.int .i64 j,.int .i64 0,.int .i64 0]] W fun e w'=>e= .returned (.agg #[.int .i64 3,.int .i64 0,.bool false,.slice none 0 0,.int .i64 0,.slice none 0 0,.int .i64 0,.int .i64 j,.int .i64 0,.int .i64 0])∧Upd No W w':=by
 go_enter Tryz.func50,Tryz.ntmps50
 go_wp2;refine bodyPost_ret (v:= .agg #[.int .i64 3,.int .i64 0,.bool false,.slice none 0 0,.int .i64 0,.slice none 0 0,.int .i64 0,.int .i64 j,.int .i64 0,.int .i64 0]) (by simp[results,Tryz.results50,go_sem]) rfl ⟨rfl,?_⟩;exact((((Upd.refl No W).alloc _).alloc _).alloc _)
set_option maxRecDepth 100000 in
set_option maxHeartbeats 4000000 in
theorem Zdw (W:World) (p:Int):Calls Tryz.prog 50 #[.agg #[.int .i64 9,.int .i64 0,.bool false,.slice none 0 0,.int .i64 0,.slice none 0 0,.int .i64 0,.int .i64 0,.int .i64 0,.int .i64 p]] W fun e w'=>e= .returned (.agg #[.int .i64 9,.int .i64 0,.bool false,.slice none 0 0,.int .i64 0,.slice none 0 0,.int .i64 0,.int .i64 0,.int .i64 0,.int .i64 p])∧Upd No W w':=by
 go_enter Tryz.func50,Tryz.ntmps50
 go_wp2;refine bodyPost_ret (v:= .agg #[.int .i64 9,.int .i64 0,.bool false,.slice none 0 0,.int .i64 0,.slice none 0 0,.int .i64 0,.int .i64 0,.int .i64 0,.int .i64 p]) (by simp[results,Tryz.results50,go_sem]) rfl ⟨rfl,?_⟩;exact((((Upd.refl No W).alloc _).alloc _).alloc _)
end
end Go.Proofs.YtbcpoloakepnkaaGreatDoor
