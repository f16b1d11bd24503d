/- How verdicts, witnesses and slices of strings that come in read. -/
import Derived.Test.YtbefgiboikfojaaGreatRcar
import Derived.Test.YtbefgiboikfojaaGreatRcav
namespace Go.Proofs.YtbefgiboikfojaaGreat
open Go.RowKit
set_option linter.unusedVariables false
set_option linter.unusedSimpArgs false
theorem ZuR:Tryz.prog.cellsOf 24=7:=by kernel_rfl
section
variable {H:Type} {enc:Gx×Gz->H} {w:Gy} {base:Nat} {spare:Nat->Bool} {held:Bool} {row:Gl}
theorem Zpc(h:Rdz enc Tryz.prog w base spare held 24 row):∃(b0 b1 b2 b3 b4 b5:Bool) (l:Int),row=[.bool b0,.bool b1,.bool b2,.bool b3,.bool b4,.bool b5,Qi l]∧i64 l:=by
 obtain⟨hl,hf⟩:=h.struct_ Tryz.underlying24;rw[ZuR]at hl;obtain⟨c0,c1,c2,c3,c4,c5,c6,rfl⟩:=cs7 hl;have h0:Rdz enc Tryz.prog w base spare held 22 (([c0,c1,c2,c3,c4,c5,c6].drop 0).take (Tryz.prog.cellsOf 22)):=hf 0 _ rfl;have h1:Rdz enc Tryz.prog w base spare held 3 (([c0,c1,c2,c3,c4,c5,c6].drop 6).take (Tryz.prog.cellsOf 3)):=hf 1 _ rfl;rw[ZqD]at h0;rw[Zjx]at h1;obtain⟨b0,b1,b2,b3,b4,b5,e⟩:=Zt8 h0;obtain⟨n,rfl,hn⟩:=rhi h1
 cases e
 exact⟨b0,b1,b2,b3,b4,b5,n,rfl,hn⟩
end
