/- Closed walks: how edges that come in read. -/
import Derived.Test.YticmndpiehinjaaGreatMbr
import Derived.Test.YticmndpiehinjaaGreatMbs
import Derived.Test.YticmndpiehinjaaGreatMbt
namespace Go.Proofs.YticmndpiehinjaaGreat
set_option linter.unusedVariables false
set_option linter.unusedSimpArgs false
section
open Go.RowKit
theorem Zof:Tryz.prog.cellsOf 68=4:=by kernel_rfl
theorem Zsk:Tryz.prog.bytesOf 68=32:=by kernel_rfl
def Edge.i (a:Edge):Prop:=(-9223372036854775808≤a.f∧a.f≤9223372036854775807)∧(-9223372036854775808≤a.t∧a.t≤9223372036854775807)∧(-9223372036854775808≤a.k∧a.k≤9223372036854775807)∧(-9223372036854775808≤a.key∧a.key≤9223372036854775807)
section
variable {H:Type} {enc:TypeId×Value→H} {w:World} {base:Nat} {spare:Nat→Bool} {held:Bool} {row:List Value}
theorem ZrF (h:Rdz enc Tryz.prog w base spare held 68 row):∃e:Edge,row=e.cells∧e.i:=by
 obtain⟨hl,hf⟩:=h.struct_ Tryz.underlying68;rw[Zof]at hl;obtain⟨c0,c1,c2,c3,rfl⟩:=ZtR hl;have h0:Rdz enc Tryz.prog w base spare held 3 (([c0,c1,c2,c3].drop 0).take (Tryz.prog.cellsOf 3)):=hf 0 _ rfl;have h1:Rdz enc Tryz.prog w base spare held 3 (([c0,c1,c2,c3].drop 1).take (Tryz.prog.cellsOf 3)):=hf 1 _ rfl;have h2:Rdz enc Tryz.prog w base spare held 3 (([c0,c1,c2,c3].drop 2).take (Tryz.prog.cellsOf 3)):=hf 2 _ rfl;have h3:Rdz enc Tryz.prog w base spare held 3 (([c0,c1,c2,c3].drop 3).take (Tryz.prog.cellsOf 3)):=hf 3 _ rfl;rw[Ztr]at h0 h1 h2 h3;obtain⟨n0,rfl,b0⟩:=Zl4 h0;obtain⟨n1,rfl,b1⟩:=Zl4 h1;obtain⟨n2,rfl,b2⟩:=Zl4 h2;obtain⟨n3,rfl,b3⟩:=Zl4 h3;exact⟨⟨n0,n1,n2,n3⟩,rfl,b0,b1,b2,b3⟩
theorem Zqt {v:Value} (h:Rdz enc Tryz.prog w base spare held 26 [v]):∃(A:Option Addr) (c:Nat) (l:List Edge),v= .slice A l.length c∧Walk (fun _=>True) w A l∧l.length≤c∧l.length≤4398046511103∧∀e∈l,e.i:=by
 rcases h.slice_ Tryz.underlying26 Zof (by omega)with h|⟨a,len,cap,rows,hv,hl,hm,hlen,hz,hrec,hrow⟩
 ·cases h
  exact⟨none,0,[],rfl,fun h=>absurd rfl h,by simp,by simp,fun e he=>by simp at he⟩
 ·cases hv
  obtain⟨l,rfl,hok⟩:=Zc6 (f:=Edge.cells) (Q:=Edge.i) fun row hr=>ZrF (hrow row hr).2
  rw[List.length_map]at hlen;subst hlen;rw[Zsk]at hz;unfold reachBytes at hz;exact⟨some a,cap,l,rfl,hrec,hl,by omega,hok⟩
end
end
/- Closed walks:the law that what is told is what the document says. -/
section
open Go.RowKit
theorem Zq0 (l:List Edge) (mask must:Int) (hl:l.length≤100000):(ZaU l mask must).length≤l.length∨ZaU l mask must=[]:=by
 rcases ZlI l mask must hl with ⟨e,_⟩|⟨v,h⟩
 ·exact .inr e
 ·left
  have hp:=h.simple
  have:=ZfK (l:=(ZaU l mask must).map Edge.f) (m:=l.map Edge.f) (by
   rw[List.pairwise_map]at hp ⊢;exact hp) (fun x hx=>by
   obtain⟨e,he,rfl⟩:=List.mem_map.1 hx;exact List.mem_map.2 ⟨e,(List.mem_filter.1 (mem_arcs.1 (Zbd h.w e.arc (mem_arcs.2 he)))).1,rfl⟩)
  rwa [List.length_map,List.length_map]at this
end
end Go.Proofs.YticmndpiehinjaaGreat
