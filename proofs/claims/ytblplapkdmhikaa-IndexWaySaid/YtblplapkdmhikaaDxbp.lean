/- Who writes each key. -/
import Derived.Test.YtblplapkdmhikaaDxap
import Derived.Test.YtblplapkdmhikaaDxaq
import Derived.Test.YtblplapkdmhikaaDxay
import Derived.Test.YtblplapkdmhikaaDxbb
import Derived.Test.YtblplapkdmhikaaDxbf
import Derived.Test.YtblplapkdmhikaaDxbh
import Derived.Test.YtblplapkdmhikaaDxbm
namespace Go.Proofs.Ytblplapkdmhikaa
set_option linter.unusedVariables false
set_option linter.unusedSimpArgs false
section
open Go.RowKit
structure MapSl (w:World) (base b:Nat) (m:List (Int×Value)) (f:Int→List Int):Prop where
 is:MapIs w b (fun n:Int=>Value.int .i64 n) m
 row:∀key,∃A c,(Zm m key).getD (.slice none 0 0)= .slice A (f key).length c∧w.ownsRow base 3 1 (.slice A (f key).length c) (f key).length ((f key).map (Value.int .i64))
 apart:∀k1 k2,k1≠k2→∀i,Own ((Zm m k1).getD (.slice none 0 0)) i→¬Own ((Zm m k2).getD (.slice none 0 0)) i
theorem MapSl.upd {S:Nat→Prop} {w w':World} {base b:Nat} {m:List (Int×Value)} {f:Int→List Int} (h:MapSl w base b m f) (k:Upd S w w') (hb:¬S b) (hS:∀i,base≤i→i<w.heap.size→¬S i):MapSl w' base b m f:=by
 refine⟨h.is.upd k hb,fun key=> ?_,h.apart⟩;obtain⟨A,c,h1,h2⟩:=h.row key;exact⟨A,c,h1,Zj h2 k fun i hi=>by have:=h2.lt i hi;exact hS i this.1 this.2⟩
theorem MapSl.new {w:World} {base b:Nat} (h:MapIs w b (fun n:Int=>Value.int .i64 n) []):MapSl w base b [] fun _=>[]:=
 ⟨h,fun _=>⟨none,0,rfl,World.ownsRow_nil _ _ _ _⟩,fun _ _ _ i hi=>by simp[Zag,Own,Value.ownBlock]at hi⟩
theorem MapSl.congr {w:World} {base b:Nat} {m:List (Int×Value)} {f g:Int→List Int} (h:MapSl w base b m f) (hfg:∀key,f key=g key):MapSl w base b m g:=by
 have:f=g:=funext hfg;rw[←this];exact h
theorem MapSl.put {w w1 w2:World} {base b:Nat} {m:List (Int×Value)} {f:Int→List Int} {key x:Int} {A A':Option Addr} {c c':Nat} (h:MapSl w base b m f)
  (hA:(Zm m key).getD (.slice none 0 0)= .slice A (f key).length c) (hb:b<base)
  (hown:w1.ownsRow base 3 1 (.slice A' ((f key).length+1) c') ((f key).length+1) ((f key++[x]).map (Value.int .i64)))
  (hu1:Upd (Own (.slice A (f key).length c)) w w1) (hg:∀i,Own (.slice A' ((f key).length+1) c') i→Own (.slice A (f key).length c) i∨w.heap.size≤i)
  (hm2:MapIs w2 b (fun n:Int=>Value.int .i64 n) (Zu m key (.slice A' ((f key).length+1) c'))) (hu2:Upd (One b) w1 w2):
  MapSl w2 base b (Zu m key (.slice A' ((f key).length+1) c')) (fun k=>if k=key then f key++[x] else f k):=by
 have hB:∀i,base≤i→¬One b i:=fun i hi e=>by cases e;omega
 refine⟨hm2,fun k=> ?_,fun k1 k2 hne i hi hi2=> ?_⟩
 ·by_cases hk:k=key
  ·subst hk;simp only[if_true];refine⟨A',c',by rw[Zr];simp,?_⟩;have:=Zj hown hu2 fun i hi=>hB i (hown.lt i hi).1
   simpa using this
  ·simp only[if_neg hk];obtain⟨B,d,h1,h2⟩:=h.row k;refine⟨B,d,by rw[Zo _ _ hk];exact h1,Zj (Zj h2 hu1 fun i hi e=> ?_) hu2 fun i hi=>hB i (h2.lt i hi).1⟩;exact h.apart k key hk i (by rw[h1];exact hi) (by rw[hA];exact e)
 ·by_cases e1:k1=key
  ·subst e1;have hne2:k2≠k1:=fun e=>hne e.symm
   rw[Zr]at hi;rw[Zo _ _ hne2]at hi2;rcases hg i hi with hi|hi
   ·exact h.apart k1 k2 hne i (by rw[hA];exact hi) hi2
   ·obtain⟨B,d,h1,h2⟩:=h.row k2;rw[h1]at hi2;have:=(h2.lt i hi2).2;omega
  ·rw[Zo _ _ e1]at hi
   by_cases e2:k2=key
   ·subst e2;rw[Zr]at hi2;rcases hg i hi2 with hi2|hi2
    ·exact h.apart k1 k2 hne i hi (by rw[hA];exact hi2)
    ·obtain⟨B,d,h1,h2⟩:=h.row k1;rw[h1]at hi;have:=(h2.lt i hi).2;omega
   ·rw[Zo _ _ e2]at hi2;exact h.apart k1 k2 hne i hi hi2
def Apart (m:List (Int×Value)) (g:Nat) (v:Value):Prop:=∀key i,Own ((Zm m key).getD (.slice none 0 0)) i→i≠g∧¬Own v i
theorem Apart.put {m:List (Int×Value)} {g z:Nat} {v old new:Value} {key:Int} (h:Apart m g v) (ho:(Zm m key).getD (.slice none 0 0)=old) (hn:∀i,Own new i→Own old i∨z≤i) (hg:g<z) (hv:∀i,Own v i→i<z):Apart (Zu m key new) g v:=fun k i hi=>by
 by_cases e:k=key
 ·subst e;rw[Zr]at hi;rcases hn i hi with h1|h1
  ·exact h k i (by rw[ho];exact h1)
  ·exact⟨by omega,fun h2=>by have:=hv i h2;omega⟩
 ·rw[Zo _ _ e]at hi;exact h k i hi
end
/- What the document tells of histories,in plain words;it is what the program tells. -/
section
open Go.RowKit
/-! keys -/
theorem ZbP (l:List HOp) (key:Int):key∈ZS l↔0<Zv l key:=by
 unfold ZS Zv wrN ZF;rw[Zfu,List.take_length,List.mem_map,List.length_pos_iff,Ne,List.filter_eq_nil_iff];unfold isW
 constructor
 ·rintro⟨o,ho,rfl⟩ hn;rw[List.mem_filter]at ho;exact hn o ho.1 (by rw[ho.2];simp)
 ·intro h
  apply Classical.byContradiction
  intro hn;refine h fun o ho hw=>hn ⟨o,?_,?_⟩
  ·rw[List.mem_filter];grind
  ·grind
/-! is a history right,by the document -/
end
end Go.Proofs.Ytblplapkdmhikaa
