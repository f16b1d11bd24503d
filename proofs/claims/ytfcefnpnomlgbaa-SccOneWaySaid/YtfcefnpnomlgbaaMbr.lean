/- How arcs and deeds that come in read. -/
import Derived.Test.YtfcefnpnomlgbaaMar
import Derived.Test.YtfcefnpnomlgbaaMbg
namespace Go.Proofs.Ytfcefnpnomlgbaa
set_option linter.unusedSimpArgs false
set_option linter.unusedVariables false
open Go.RowKit
theorem Zg8 {l:List Value} (h:l.length=4):∃a b c d,l=[a,b,c,d]:=
 match l,h with
 |[a,b,c,d],_=>⟨a,b,c,d,rfl⟩
theorem ZgQ:Try.prog.cellsOf 3=1:=by kernel_rfl
theorem ZfM:Try.prog.cellsOf 28=4:=by kernel_rfl
theorem ZgR:Try.prog.bytesOf 28=32:=by kernel_rfl
def HArc.i (a:HArc):Prop:=(-9223372036854775808≤a.f∧a.f≤9223372036854775807)∧(-9223372036854775808≤a.t∧a.t≤9223372036854775807)∧(-9223372036854775808≤a.kind∧a.kind≤9223372036854775807)∧(-9223372036854775808≤a.label∧a.label≤9223372036854775807)
theorem ZgE {n:Int} (h:(Lit.int .i64 n).wf=true): -9223372036854775808≤n∧n≤9223372036854775807:=by
 simp[Lit.wf,IntKind.min,IntKind.max,IntKind.signed,IntKind.bits]at h;omega
section
variable {H:Type} {enc:TypeId×Value→H} {w:World} {base:Nat} {spare:Nat→Bool} {held:Bool} {row:List Value}
theorem Zd8 {v:Value} (h:Rdz enc Try.prog w base spare held 3 [v]):∃n,v= .int .i64 n∧-9223372036854775808≤n∧n≤9223372036854775807:=by
 obtain⟨n,e,hw⟩:=Rdz.int_ Try.underlying3 h
 cases e
 exact⟨n,rfl,ZgE hw⟩
theorem Zfy (h:Rdz enc Try.prog w base spare held 28 row):∃e:HArc,row=e.cells∧e.i:=by
 obtain⟨hl,hf⟩:=h.struct_ Try.underlying28
 rw[ZfM]at hl
 obtain⟨c0,c1,c2,c3,rfl⟩:=Zg8 hl
 have h0:Rdz enc Try.prog w base spare held 3 (([c0,c1,c2,c3].drop 0).take (Try.prog.cellsOf 3)):=hf 0 _ rfl
 have h1:Rdz enc Try.prog w base spare held 3 (([c0,c1,c2,c3].drop 1).take (Try.prog.cellsOf 3)):=hf 1 _ rfl
 have h2:Rdz enc Try.prog w base spare held 3 (([c0,c1,c2,c3].drop 2).take (Try.prog.cellsOf 3)):=hf 2 _ rfl
 have h3:Rdz enc Try.prog w base spare held 3 (([c0,c1,c2,c3].drop 3).take (Try.prog.cellsOf 3)):=hf 3 _ rfl
 rw[ZgQ]at h0 h1 h2 h3
 obtain⟨n0,rfl,b0⟩:=Zd8 h0
 obtain⟨n1,rfl,b1⟩:=Zd8 h1
 obtain⟨n2,rfl,b2⟩:=Zd8 h2
 obtain⟨n3,rfl,b3⟩:=Zd8 h3
 exact⟨⟨n0,n1,n2,n3⟩,rfl,b0,b1,b2,b3⟩
theorem Zgf {v:Value} (h:Rdz enc Try.prog w base spare held 22 [v]):∃(A:Option Addr) (c:Nat) (l:List HArc),v= .slice A l.length c∧ArcsL (fun _=>True) w A l∧l.length≤c∧l.length≤4398046511103∧∀e∈l,e.i:=by
 rcases h.slice_ Try.underlying22 ZfM (by omega)with h|⟨a,len,cap,rows,hv,hl,hm,hlen,hz,hrec,hrow⟩
 ·cases h
  exact⟨none,0,[],rfl,fun h=>absurd rfl h,by simp,by simp,fun e he=>by simp at he⟩
 ·cases hv
  obtain⟨l,rfl,hok⟩:=Ze4 (f:=HArc.cells) (Q:=HArc.i) fun row hr=>Zfy (hrow row hr).2
  rw[List.length_map]at hlen
  subst hlen
  rw[ZgR]at hz
  unfold reachBytes at hz
  exact⟨some a,cap,l,rfl,hrec,hl,by omega,hok⟩
end
end Go.Proofs.Ytfcefnpnomlgbaa
