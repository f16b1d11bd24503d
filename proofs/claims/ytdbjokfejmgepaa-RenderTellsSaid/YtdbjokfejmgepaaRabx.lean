/- Edges of a history: the example's history. -/
import Derived.Test.YtdbjokfejmgepaaRabj
import Derived.Test.YtdbjokfejmgepaaRabw
namespace Go.Proofs.Ytdbjokfejmgepaa
set_option linter.unusedVariables false
set_option linter.unusedSimpArgs false
section
open Go.RowKit
def s1:Hvy:=⟨⟨1,2,1,5⟩,1⟩
def s2:Hvy:=⟨⟨1,2,2,5⟩,1⟩
def s3:Hvy:=⟨⟨3,1,3,5⟩,2⟩
section
variable (n:Nat)
end
end
/- Edges of a history:the answers that the document gives. -/
section
open Go.RowKit
def HvX (w:World) (A:Option Addr) (l:List Hvy):Prop:=∃G,Hvys G w A l
theorem HvX.upd {w w':World} {A:Option Addr} {l:List Hvy} (h:HvX w A l) (k:Upd No w w'):HvX w' A l:=by
 obtain⟨G,h⟩:=h;exact⟨G,Hvys.upd h k (fun _ _=>id)⟩
theorem HvX.own {w:World} {b c:Nat} {A:Option Addr} {l:List Hvy} (h:w.ownsRow b 101 5 (.slice A l.length c) l.length (Zc6 l)):HvX w A l:=⟨_,Recs.of_own ZlF (by omega) h⟩
def EdX (w:World) (A:Option Addr) (l:List Edge):Prop:=∃G,Walk G w A l
theorem EdX.upd {w w':World} {A:Option Addr} {l:List Edge} (h:EdX w A l) (k:Upd No w w'):EdX w' A l:=by
 obtain⟨G,h⟩:=h;exact⟨G,Recs.upd h k (fun _ _=>id)⟩
section
variable {F:Nat→Prop} {w:World} {txs:List HTx} {ords:List HOrd} {A:Option Addr} {c:Nat} {B:Option Addr} {d:Nat} {n m:Nat}
end
end
/- Edges of a history:the law that what is told is what the document says. -/
section
open Go.RowKit
theorem ZbD {h:Hist} (hl:ZF h=true):h.txs.length≤12∧∀t∈h.txs,t.ops.length≤24:=by
 unfold ZF at hl;simp only[Bool.and_eq_true,decide_eq_true_eq,List.all_eq_true]at hl;exact⟨hl.1.1.1,fun t ht=>hl.1.2 t ht⟩
section
variable {F:Nat→Prop} {w:World} {txs:List HTx} {ords:List HOrd} {A:Option Addr} {c:Nat} {B:Option Addr} {d:Nat} {n m:Nat}
theorem Zie (H:Hist.lies F w ⟨txs,ords,A,c,B,d⟩) (n1:txs.length≤12) (n2:∀t∈txs,t.ops.length≤24) {l:List Hvy} (he:ZK ⟨txs,ords,A,c,B,d⟩=l):
  Calls Try.prog 42 #[.agg #[.slice A txs.length c,.slice B ords.length d]] w fun e w'=>∃A' c',e= .returned (.slice A' l.length c')∧HvX w' A' l∧Upd No w w':=by
 subst he;refine(Zkk F w txs ords A c B d H n1 n2).mono ?_;rintro e w' ⟨A',c',rfl,ho,hu⟩;exact⟨A',c',rfl,HvX.own ho,hu⟩
theorem Zid {l:List Hvy} (hx:HvX w A l) (hl:l.length≤1000000):
  Calls Try.prog 41 #[.slice A l.length c] w fun e w'=>∃A' c',e= .returned (.slice A' (ZY l).length c')∧EdX w' A' (ZY l)∧Upd No w w':=by
 obtain⟨F,hx⟩:=hx;refine(Zkj F w A c l hx hl).mono ?_;rintro e w' ⟨A',c',rfl,ho,hu⟩;exact⟨A',c',rfl,⟨_,Recs.of_own Za5 (by omega) ho⟩,hu⟩
end
end
end Go.Proofs.Ytdbjokfejmgepaa
