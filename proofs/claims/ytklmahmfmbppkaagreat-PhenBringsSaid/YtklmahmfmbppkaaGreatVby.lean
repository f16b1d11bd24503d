/- Closed walks: how edges that come in read. -/
import Derived.Test.YtklmahmfmbppkaaGreatVbo
import Derived.Test.YtklmahmfmbppkaaGreatVbs
namespace Go.Proofs.YtklmahmfmbppkaaGreat
set_option linter.unusedVariables false
set_option linter.unusedSimpArgs false
section
open Go.RowKit
theorem ZoC:Tryz.prog.cellsOf 61=4:=by kernel_rfl
theorem ZsZ:Tryz.prog.bytesOf 61=32:=by kernel_rfl
def Edge.i (a:Edge):Prop:=(-9223372036854775808≤a.f∧a.f≤9223372036854775807)∧(-9223372036854775808≤a.t∧a.t≤9223372036854775807)∧(-9223372036854775808≤a.k∧a.k≤9223372036854775807)∧(-9223372036854775808≤a.key∧a.key≤9223372036854775807)
section
variable {H:Type} {enc:TypeId×Value→H} {w:World} {base:Nat} {spare:Nat→Bool} {held:Bool} {row:List Value}
theorem Zse (h:Rdz enc Tryz.prog w base spare held 61 row):∃e:Edge,row=e.cells∧e.i:=by
 obtain⟨hl,hf⟩:=h.struct_ Tryz.underlying61;rw[ZoC]at hl;obtain⟨c0,c1,c2,c3,rfl⟩:=Zuy hl;have h0:Rdz enc Tryz.prog w base spare held 3 (([c0,c1,c2,c3].drop 0).take (Tryz.prog.cellsOf 3)):=hf 0 _ rfl;have h1:Rdz enc Tryz.prog w base spare held 3 (([c0,c1,c2,c3].drop 1).take (Tryz.prog.cellsOf 3)):=hf 1 _ rfl;have h2:Rdz enc Tryz.prog w base spare held 3 (([c0,c1,c2,c3].drop 2).take (Tryz.prog.cellsOf 3)):=hf 2 _ rfl;have h3:Rdz enc Tryz.prog w base spare held 3 (([c0,c1,c2,c3].drop 3).take (Tryz.prog.cellsOf 3)):=hf 3 _ rfl;rw[ZtY]at h0 h1 h2 h3;obtain⟨n0,rfl,b0⟩:=Zl3 h0;obtain⟨n1,rfl,b1⟩:=Zl3 h1;obtain⟨n2,rfl,b2⟩:=Zl3 h2;obtain⟨n3,rfl,b3⟩:=Zl3 h3;exact⟨⟨n0,n1,n2,n3⟩,rfl,b0,b1,b2,b3⟩
theorem Zq5 {v:Value} (h:Rdz enc Tryz.prog w base spare held 26 [v]):∃(A:Option Addr) (c:Nat) (l:List Edge),v= .slice A l.length c∧Walk (fun _=>True) w A l∧l.length≤c∧l.length≤4398046511103∧∀e∈l,e.i:=by
 rcases h.slice_ Tryz.underlying26 ZoC (by omega)with h|⟨a,len,cap,rows,hv,hl,hm,hlen,hz,hrec,hrow⟩
 ·cases h
  exact⟨none,0,[],rfl,fun h=>absurd rfl h,by simp,by simp,fun e he=>by simp at he⟩
 ·cases hv
  obtain⟨l,rfl,hok⟩:=Zdr (f:=Edge.cells) (Q:=Edge.i) fun row hr=>Zse (hrow row hr).2
  rw[List.length_map]at hlen;subst hlen;rw[ZsZ]at hz;unfold reachBytes at hz;exact⟨some a,cap,l,rfl,hrec,hl,by omega,hok⟩
end
end
end Go.Proofs.YtklmahmfmbppkaaGreat
