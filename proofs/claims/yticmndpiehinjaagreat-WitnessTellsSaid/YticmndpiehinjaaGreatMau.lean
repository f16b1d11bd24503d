/- A walk's text: the document's. -/
import Derived.Deep.RegionHeld3
import Derived.Test.YticmndpiehinjaaGreatMam
import Derived.Test.YticmndpiehinjaaGreatMar
namespace Go.Proofs.YticmndpiehinjaaGreat
set_option linter.unusedVariables false
set_option linter.unusedSimpArgs false
section
open Go.RowKit
def Edge.ok (e:Edge):Prop:=(-9223372036854775808≤e.f∧e.f≤9223372036854775807)∧(-9223372036854775808≤e.t∧e.t≤9223372036854775807)∧(-9223372036854775808≤e.key∧e.key≤9223372036854775807)
def Zgk (e:Edge):List UInt8:=[32]++ZeV e.k++ZcD e.key++[32]++ZcD e.t
def Zav (l:List Edge):Nat→List UInt8
 |0=>[]
 |k+1=>match l[k]? with
  |none=>Zav l k
  |some e=>(if k=0 then ZcD e.f else Zav l k)++Zgk e
def ZbT (n:Int):ByteArray:=⟨(ZcD n).toArray⟩
def Zbm (n:Int):ByteArray:=⟨(ZeV n).toArray⟩
theorem Zdt (n:Int):(ZbT n).size≤21:=by
 have:=Zd1 n
 simpa[ZbT,ByteArray.size]using this
theorem ZeU (n:Int):(Zbm n).size≤2:=by
 unfold Zbm ZeV
 split
 ·decide
 ·split
  ·decide
  ·split<;>decide
theorem Zl5 (w:World) (n:Int) (h1: -9223372036854775808≤n) (h2:n≤9223372036854775807):
  Calls Tryz.prog 34 #[.int .i64 n] w fun e w'=>e= .returned (.string (ZbT n))∧Upd No w w':=ZtJ w n h1 h2
theorem Znl (w:World) (n:Int):
  Calls Tryz.prog 35 #[.int .i64 n] w fun e w'=>e= .returned (.string (Zbm n))∧Upd No w w':=ZsQ w n
theorem ZmW (l:List Edge) (k:Nat):(Zav l k).length≤100*k:=by
 have hw:∀n,(ZeV n).length≤2:=fun n=>by
  have:=ZeU n
  simpa[Zbm,ByteArray.size]using this
 induction k with
 |zero=>simp[Zav]
 |succ k ih=>
  unfold Zav
  split
  ·omega
  ·rename_i e _
   have h1:=Zd1 e.f;have h2:=Zd1 e.key;have h3:=Zd1 e.t;have h4:=hw e.k;unfold Zgk
   split<;>simp<;>omega
end
end Go.Proofs.YticmndpiehinjaaGreat
