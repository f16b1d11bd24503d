/- How rows of transactions come in; all that the law IndexWay needs. -/
import Derived.Test.YtblplapkdmhikaaDxba
import Derived.Test.YtblplapkdmhikaaDxbx
namespace Go.Proofs.Ytblplapkdmhikaa
set_option linter.unusedVariables false
set_option linter.unusedSimpArgs false
section
open Go.RowKit
theorem ZgM:Try.prog.cellsOf 28=3:=by kernel_rfl
section
variable {H:Type} {enc:TypeId×Value→H} {w:World} {base:Nat} {spare:Nat→Bool} {held:Bool} {row:List Value}
theorem ZgC (h:Rdz enc Try.prog w base spare held 28 row):∃v:Ver,row=v.cells:=by
 obtain⟨hl,hf⟩:=h.struct_ Try.underlying28;rw[ZgM]at hl;obtain⟨c0,c1,c2,rfl⟩:=cs3 hl;have h0:Rdz enc Try.prog w base spare held 3 (([c0,c1,c2].drop 0).take (Try.prog.cellsOf 3)):=hf 0 _ rfl;have h1:Rdz enc Try.prog w base spare held 3 (([c0,c1,c2].drop 1).take (Try.prog.cellsOf 3)):=hf 1 _ rfl;have h2:Rdz enc Try.prog w base spare held 3 (([c0,c1,c2].drop 2).take (Try.prog.cellsOf 3)):=hf 2 _ rfl;rw[Zep]at h0 h1 h2;obtain⟨n0,rfl,_⟩:=rhi h0;obtain⟨n1,rfl,_⟩:=rhi h1;obtain⟨n2,rfl,_⟩:=rhi h2;exact⟨⟨n0,n1,n2⟩,rfl⟩
theorem ZfJ {v:Value} (h:Rdz enc Try.prog w base spare held 36 [v]):∃(A:Option Addr) (c:Nat) (l:List HTx),v= .slice A l.length c∧TxsY (fun _=>True) w A l∧l.length≤4398046511103:=by
 rcases h.slice_ Try.underlying36 ZgN (by omega)with h|⟨a,len,cap,rows,hv,hl,hm,hlen,hz,hrec,hrow⟩
 ·cases h
  exact⟨none,0,[],rfl,⟨fun h=>absurd rfl h,fun e he=>by cases he⟩,by simp⟩
 ·cases hv
  obtain⟨l,rfl,hok⟩:=Zdl (f:=HTx.cells) (Q:=fun t=>t.lies (fun _=>True) w) fun row hr=>Zg1 (hrow row hr).2
  rw[List.length_map]at hlen;subst hlen;rw[Zg9]at hz;unfold reachBytes at hz;exact⟨some a,cap,l,rfl,⟨hrec,hok⟩,by omega⟩
end
end
end Go.Proofs.Ytblplapkdmhikaa
