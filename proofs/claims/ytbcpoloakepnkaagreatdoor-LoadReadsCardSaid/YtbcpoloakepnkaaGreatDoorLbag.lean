/- Walks of the layers' mix: what is mixed, and unmixed. -/
import Derived.Test.YtbcpoloakepnkaaGreatDoorProg
import Derived.Test.YtbcpoloakepnkaaGreatDoorLbaa
import Derived.Test.YtbcpoloakepnkaaGreatDoorLbaf
namespace Go.Proofs.YtbcpoloakepnkaaGreatDoor
set_option linter.unusedVariables false
set_option linter.unusedSimpArgs false
section
open Go.RowKit
attribute [local go_sem] Bv.xor_ Bv.shr32 Bv.shr29 Bv.shr1 Bv.mulA Bv.mulB Bv.mulv Bv.sub2 Bv.quo2
theorem Zbg (x:BitVec 64) (w:World):
  Calls Tryz.prog 15 #[U x] w fun e w'=>e= .returned (U (Bv.mix x))∧w=w':=by
 go_enter Tryz.func15,Tryz.ntmps15
 go_wp2
 go_ret
 exact⟨rfl,rfl⟩
theorem ZaW (x:BitVec 64) (n:Nat) (m:Int) (hm:m=n) (hn:n<64) (w:World):
  Calls Tryz.prog 42 #[U x,.int .u64 m] w fun e w'=>e= .returned (U (x ^^^ x >>> n))∧w=w':=by
 subst hm
 go_enter Tryz.func42,Tryz.ntmps42
 go_wp2
 go_loopg [5,6] n (fun g y i wr=>∃k:Nat,k+g=n∧y=U (x >>> k)∧i= .int .u64 k∧w=wr)
 case atStart=>exact⟨0,by omega,by simp,rfl,rfl⟩
 case round=>
  obtain⟨k,hk,rfl,rfl,rfl⟩:=hrel
  by_cases hlt:k<n
  ·go_wp2
   go_roundg (gk-1)
   case measure=>omega
   case rel=>exact⟨k+1,by omega,by rw[BitVec.shiftRight_add],by go_num,rfl⟩
  ·obtain rfl:k=n:=by omega
   go_wp2
   go_ret
   exact⟨rfl,rfl⟩
theorem Zax (x:BitVec 64) (w:World):
  Calls Tryz.prog 19 #[U x] w fun e w'=>e= .returned (U (Bv.mix x))∧w=w':=by
 go_enter Tryz.func19,Tryz.ntmps19
 go_wp2_with fail
 refine(ZaW _ 32 32 rfl (by omega) _).mono ?_;rintro e w' ⟨rfl,rfl⟩
 go_wp2_with fail
 refine(ZaW _ 29 29 rfl (by omega) _).mono ?_;rintro e w' ⟨rfl,rfl⟩
 go_wp2_with fail
 refine(ZaW _ 32 32 rfl (by omega) _).mono ?_;rintro e w' ⟨rfl,rfl⟩
 go_wp2_with fail
 go_ret
 exact⟨rfl,rfl⟩
end
end Go.Proofs.YtbcpoloakepnkaaGreatDoor
