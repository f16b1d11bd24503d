/- How histories that come in read. -/
import Derived.Test.YtblplapkdmhikaaDxak
import Derived.Test.YtblplapkdmhikaaDxau
namespace Go.Proofs.Ytblplapkdmhikaa
set_option linter.unusedVariables false
set_option linter.unusedSimpArgs false
section
open Go.RowKit
theorem cs4 {l:List Value} (h:l.length=4):∃a b c d,l=[a,b,c,d]:=
 match l,h with
 |[a,b,c,d],_=>⟨a,b,c,d,rfl⟩
theorem cs3 {l:List Value} (h:l.length=3):∃a b c,l=[a,b,c]:=
 match l,h with
 |[a,b,c],_=>⟨a,b,c,rfl⟩
theorem Zgx {n:Int} (h:(Lit.int .i64 n).wf=true):i64 n:=by
 unfold i64;simp[Lit.wf,IntKind.min,IntKind.max,IntKind.signed,IntKind.bits]at h;omega
theorem Zep:Try.prog.cellsOf 3=1:=by kernel_rfl
theorem Zfc:Try.prog.cellsOf 4=1:=by kernel_rfl
theorem ZgO:Try.prog.cellsOf 75=4:=by kernel_rfl
theorem Zha:Try.prog.bytesOf 75=32:=by kernel_rfl
theorem ZgZ:Try.prog.cellsOf 33=1:=by kernel_rfl
theorem ZgN:Try.prog.cellsOf 35=3:=by kernel_rfl
theorem Zg9:Try.prog.bytesOf 35=40:=by kernel_rfl
section
variable {H:Type} {enc:TypeId×Value→H} {w:World} {base:Nat} {spare:Nat→Bool} {held:Bool} {row:List Value}
theorem rhi {v:Value} (h:Rdz enc Try.prog w base spare held 3 [v]):∃n,v= .int .i64 n∧i64 n:=by
 obtain⟨n,e,hw⟩:=Rdz.int_ Try.underlying3 h
 cases e
 exact⟨n,rfl,Zgx hw⟩
theorem rhb {v:Value} (h:Rdz enc Try.prog w base spare held 4 [v]):∃n,v= .bool n:=by
 obtain⟨n,e⟩:=Rdz.bool_ Try.underlying4 h
 cases e
 exact⟨n,rfl⟩
theorem Zg2 (h:Rdz enc Try.prog w base spare held 75 row):∃o:HOp,row=o.cells∧o.ok:=by
 obtain⟨hl,hf⟩:=h.struct_ Try.underlying75;rw[ZgO]at hl;obtain⟨c0,c1,c2,c3,rfl⟩:=cs4 hl;have h0:Rdz enc Try.prog w base spare held 4 (([c0,c1,c2,c3].drop 0).take (Try.prog.cellsOf 4)):=hf 0 _ rfl;have h1:Rdz enc Try.prog w base spare held 3 (([c0,c1,c2,c3].drop 1).take (Try.prog.cellsOf 3)):=hf 1 _ rfl;have h2:Rdz enc Try.prog w base spare held 3 (([c0,c1,c2,c3].drop 2).take (Try.prog.cellsOf 3)):=hf 2 _ rfl;have h3:Rdz enc Try.prog w base spare held 3 (([c0,c1,c2,c3].drop 3).take (Try.prog.cellsOf 3)):=hf 3 _ rfl;rw[Zep]at h1 h2 h3;rw[Zfc]at h0;obtain⟨n0,rfl⟩:=rhb h0;obtain⟨n1,rfl,b1⟩:=rhi h1;obtain⟨n2,rfl,b2⟩:=rhi h2;obtain⟨n3,rfl,b3⟩:=rhi h3;exact⟨⟨n0,n1,n2,n3⟩,rfl,b1,b2,b3⟩
theorem ZgT {v:Value} (h:Rdz enc Try.prog w base spare held 33 [v]):∃(A:Option Addr) (c:Nat) (l:List HOp),v= .slice A l.length c∧HOps (fun _=>True) w A l∧l.length≤c∧Zd l.length∧∀o∈l,o.ok:=by
 rcases h.slice_ Try.underlying33 ZgO (by omega)with h|⟨a,len,cap,rows,hv,hl,hm,hlen,hz,hrec,hrow⟩
 ·cases h
  exact⟨none,0,[],rfl,fun h=>absurd rfl h,by simp,by unfold Zd;simp,fun e he=>by simp at he⟩
 ·cases hv
  obtain⟨l,rfl,hok⟩:=Zdl (f:=HOp.cells) (Q:=HOp.ok) fun row hr=>Zg2 (hrow row hr).2
  rw[List.length_map]at hlen;subst hlen;rw[Zha]at hz;unfold reachBytes at hz;exact⟨some a,cap,l,rfl,hrec,hl,by unfold Zd;omega,hok⟩
theorem Zg1 (h:Rdz enc Try.prog w base spare held 35 row):∃t:HTx,row=t.cells∧t.lies (fun _=>True) w:=by
 obtain⟨hl,hf⟩:=h.struct_ Try.underlying35;rw[ZgN]at hl;obtain⟨c0,c1,c2,rfl⟩:=cs3 hl;have h0:Rdz enc Try.prog w base spare held 3 (([c0,c1,c2].drop 0).take (Try.prog.cellsOf 3)):=hf 0 _ rfl;have h1:Rdz enc Try.prog w base spare held 4 (([c0,c1,c2].drop 1).take (Try.prog.cellsOf 4)):=hf 1 _ rfl;have h2:Rdz enc Try.prog w base spare held 33 (([c0,c1,c2].drop 2).take (Try.prog.cellsOf 33)):=hf 2 _ rfl;rw[Zep]at h0;rw[Zfc]at h1;rw[ZgZ]at h2;obtain⟨n0,rfl,b0⟩:=rhi h0;obtain⟨n1,rfl⟩:=rhb h1;obtain⟨A,c,l,rfl,hh,hc,hs,hok⟩:=ZgT h2;exact⟨⟨n0,n1,l,A,c⟩,rfl,hh,hc,hs,b0,hok⟩
end
end
end Go.Proofs.Ytblplapkdmhikaa
