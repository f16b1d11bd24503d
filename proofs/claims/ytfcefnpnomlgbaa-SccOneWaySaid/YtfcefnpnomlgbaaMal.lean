/- Edges: how lists of them lie in memory; when two are one. -/
import Derived.Test.YtfcefnpnomlgbaaProg
import Derived.Laws.StructEq
import Derived.Test.YtfcefnpnomlgbaaMag
namespace Go.Proofs.Ytfcefnpnomlgbaa
set_option linter.unusedSimpArgs false
set_option linter.unusedVariables false
open Go.RowKit
structure Edge where
 f:Int
 t:Int
 k:Int
 key:Int
deriving DecidableEq
def Edge.cells (e:Edge):List Value:=[.int .i64 e.f,.int .i64 e.t,.int .i64 e.k,.int .i64 e.key]
def Walk (F:Nat→Prop) (w:World) (A:Option Addr) (l:List Edge):Prop:=Recs F w A 4 (l.map Edge.cells)
theorem ZeL {l:List Edge}:∀r∈l.map Edge.cells,r.length=4:=fun r hr=>by
 obtain⟨e,_,rfl⟩:=List.mem_map.1 hr
 rfl
theorem Walk.at_ {F:Nat→Prop} {w:World} {A:Option Addr} {l:List Edge} (h:Walk F w A l) {k:Nat} (hk:k<l.length):∃ad,A=some ad∧
  w.cell? (ad.add (k*4))=some (.int .i64 l[k].f)∧w.cell? ⟨(ad.add (k*4)).block,(ad.add (k*4)).off+1,none⟩=some (.int .i64 l[k].t)∧
  w.cell? ⟨(ad.add (k*4)).block,(ad.add (k*4)).off+2,none⟩=some (.int .i64 l[k].k)∧w.cell? ⟨(ad.add (k*4)).block,(ad.add (k*4)).off+3,none⟩=some (.int .i64 l[k].key):=by
 have hk':k<(l.map Edge.cells).length:=by simpa using hk
 obtain⟨ad,e,_,_,hc⟩:=Recs.at_ h hk'
 rw[List.getElem_map]at hc
 exact⟨ad,e,by simpa using hc 0 _ rfl,by simpa using hc 1 _ rfl,by simpa using hc 2 _ rfl,by simpa using hc 3 _ rfl⟩
theorem Walk.upd {F S:Nat→Prop} {w w':World} {A:Option Addr} {l:List Edge} (h:Walk F w A l) (k:Upd S w w') (hn:∀i,F i→¬S i):Walk F w' A l:=Recs.upd h k hn
end Go.Proofs.Ytfcefnpnomlgbaa
/- Histories:how operations,transactions,orders and histories lie in memory. -/
namespace Go.Proofs.Ytfcefnpnomlgbaa
set_option linter.unusedSimpArgs false
set_option linter.unusedVariables false
open Go.RowKit
def i64 (n:Int):Prop:= -9223372036854775808≤n∧n≤9223372036854775807
structure HOp where
 read:Bool
 key:Int
 tx:Int
 nth:Int
deriving DecidableEq
def HOp.cells (o:HOp):List Value:=[.bool o.read,.int .i64 o.key,.int .i64 o.tx,.int .i64 o.nth]
def HOp.ok (o:HOp):Prop:=i64 o.key∧i64 o.tx∧i64 o.nth
structure Ver where
 tx:Int
 key:Int
 nth:Int
deriving DecidableEq
def Ver.cells (v:Ver):List Value:=[.int .i64 v.tx,.int .i64 v.key,.int .i64 v.nth]
def HOps (F:Nat→Prop) (w:World) (A:Option Addr) (l:List HOp):Prop:=Recs F w A 4 (l.map HOp.cells)
structure HTx where
 id:Int
 done:Bool
 ops:List HOp
 A:Option Addr
 c:Nat
def HTx.cells (t:HTx):List Value:=[.int .i64 t.id,.bool t.done,.slice t.A t.ops.length t.c]
def Zgm (n:Nat):Prop:=n≤4398046511103
def HTx.lies (F:Nat→Prop) (w:World) (t:HTx):Prop:=HOps F w t.A t.ops∧t.ops.length≤t.c∧Zgm t.ops.length∧i64 t.id∧∀o∈t.ops,o.ok
structure HOrd where
 key:Int
 txs:List Int
 A:Option Addr
 c:Nat
def HOrd.cells (o:HOrd):List Value:=[.int .i64 o.key,.slice o.A o.txs.length o.c]
def HOrd.lies (F:Nat→Prop) (w:World) (o:HOrd):Prop:=Ints F w o.A o.txs∧o.txs.length≤o.c∧o.txs.length≤17592186044415∧i64 o.key∧∀n∈o.txs,i64 n
structure Hist where
 txs:List HTx
 ords:List HOrd
 A:Option Addr
 c:Nat
 B:Option Addr
 d:Nat
def Hist.val (h:Hist):Value:= .agg #[.slice h.A h.txs.length h.c,.slice h.B h.ords.length h.d]
def Hist.cells (h:Hist):List Value:=[.slice h.A h.txs.length h.c,.slice h.B h.ords.length h.d]
structure Hist.lies (F:Nat→Prop) (w:World) (h:Hist):Prop where
 txs:Recs F w h.A 3 (h.txs.map HTx.cells)
 ords:Recs F w h.B 2 (h.ords.map HOrd.cells)
 tx:∀t∈h.txs,t.lies F w
 ord:∀o∈h.ords,o.lies F w
 c:h.txs.length≤h.c
 d:h.ords.length≤h.d
 few:h.txs.length≤4398046511103
 fewo:h.ords.length≤4398046511103
section
variable {F S:Nat→Prop} {w w':World}
theorem HOps.upd {A:Option Addr} {l:List HOp} (h:HOps F w A l) (k:Upd S w w') (hn:∀i,F i→¬S i):HOps F w' A l:=Recs.upd h k hn
theorem HTx.lies.upd {t:HTx} (h:t.lies F w) (k:Upd S w w') (hn:∀i,F i→¬S i):t.lies F w':=⟨HOps.upd h.1 k hn,h.2⟩
theorem HOrd.lies.upd {o:HOrd} (h:o.lies F w) (k:Upd S w w') (hn:∀i,F i→¬S i):o.lies F w':=⟨h.1.upd k hn,h.2⟩
theorem Hist.lies.upd {h:Hist} (H:h.lies F w) (k:Upd S w w') (hn:∀i,F i→¬S i):h.lies F w':=
 ⟨Recs.upd H.txs k hn,Recs.upd H.ords k hn,fun t ht=>(H.tx t ht).upd k hn,fun o ho=>(H.ord o ho).upd k hn,H.c,H.d,H.few,H.fewo⟩
theorem HOps.at_ {A:Option Addr} {l:List HOp} (h:HOps F w A l) {k:Nat} (hk:k<l.length):∃ad,A=some ad∧
  w.cell? (ad.add (k*4))=some (.bool l[k].read)∧w.cell? ⟨(ad.add (k*4)).block,(ad.add (k*4)).off+1,none⟩=some (.int .i64 l[k].key)∧
  w.cell? ⟨(ad.add (k*4)).block,(ad.add (k*4)).off+2,none⟩=some (.int .i64 l[k].tx)∧w.cell? ⟨(ad.add (k*4)).block,(ad.add (k*4)).off+3,none⟩=some (.int .i64 l[k].nth):=by
 have hk':k<(l.map HOp.cells).length:=by simpa using hk
 obtain⟨ad,e,_,_,hc⟩:=Recs.at_ h hk'
 rw[List.getElem_map]at hc
 exact⟨ad,e,by simpa using hc 0 _ rfl,by simpa using hc 1 _ rfl,by simpa using hc 2 _ rfl,by simpa using hc 3 _ rfl⟩
end
end Go.Proofs.Ytfcefnpnomlgbaa
/- How many writes of a key there are;whether a history is light. -/
namespace Go.Proofs.Ytfcefnpnomlgbaa
set_option linter.unusedSimpArgs false
set_option linter.unusedVariables false
open Go.RowKit
def isW (key:Int) (o:HOp):Bool:= !o.read&&o.key==key
def wrN (l:List HOp) (key:Int) (k:Nat):Nat:=((l.take k).filter (isW key)).length
theorem Zc4 {l:List HOp} {key:Int} {k:Nat} (hk:k<l.length):wrN l key (k+1)=wrN l key k+if isW key l[k]=true then 1 else 0:=by
 unfold wrN
 rw[List.take_succ_eq_append_getElem hk,List.filter_append,List.length_append]
 by_cases h:isW key l[k]=true
 ·rw[if_pos h,List.filter_cons_of_pos h];rfl
 ·rw[if_neg h,List.filter_cons_of_neg h];rfl
theorem ZfN {l:List HOp} {key:Int} {k:Nat} {x:HOp} (hk:k<l.length) (hx:l[k]=x) (h:isW key x=true):wrN l key (k+1)=wrN l key k+1:=by
 subst hx;rw[Zc4 hk,if_pos h]
theorem Zer {l:List HOp} {key:Int} {k:Nat} {x:HOp} (hk:k<l.length) (hx:l[k]=x) (h:isW key x=false):wrN l key (k+1)=wrN l key k:=by
 subst hx;rw[Zc4 hk,if_neg (by rw[h];decide),Nat.add_zero]
end Go.Proofs.Ytfcefnpnomlgbaa
