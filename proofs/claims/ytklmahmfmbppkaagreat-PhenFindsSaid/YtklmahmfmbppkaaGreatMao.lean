/- Edges: how lists of them lie in memory; when two are one. -/
import Derived.Test.YtklmahmfmbppkaaGreatProg
import Derived.Laws.StructEq
import Derived.IntWalk
import Derived.Test.YtklmahmfmbppkaaGreatMah
namespace Go.Proofs.YtklmahmfmbppkaaGreat
set_option linter.unusedSimpArgs false
set_option linter.unusedVariables false
open Go.RowKit
structure Edge where
 f:Int
 t:Int
 k:Int
 key:Int
deriving DecidableEq
def Edge.cells (e:Edge):List Value:=[.int .i64 e.f,.int .i64 e.t,.int .i64 e.k,.int .i64 e.key]
def Walk (F:Nat→Prop) (w:World) (A:Option Addr) (l:List Edge):Prop:=Recs F w A 4 (l.map Edge.cells)
theorem ZaD {l:List Edge}:∀r∈l.map Edge.cells,r.length=4:=fun r hr=>by
 obtain⟨e,_,rfl⟩:=List.mem_map.1 hr
 rfl
theorem Zft {l:List Edge}:∀v∈(l.map Edge.cells).flatten,v.oneCell'=true:=fun v hv=>by
 obtain⟨r,hr,h⟩:=List.mem_flatten.1 hv
 obtain⟨e,_,rfl⟩:=List.mem_map.1 hr
 simp only[Edge.cells,List.mem_cons,List.not_mem_nil,or_false]at h
 rcases h with rfl|rfl|rfl|rfl<;>rfl
theorem Zbj:SlT Tryz.prog 26 61 4 32:=SlT.mk_ Tryz.underlying26 (z:= .agg #[.int .i64 0,.int .i64 0,.int .i64 0,.int .i64 0]) (by kernel_rfl) rfl (by omega)
theorem Zlt (w:World) (a b c d a' b' c' d':Int):
  (Op.equalIn 10000 61 (.agg #[.int .i64 a,.int .i64 b,.int .i64 c,.int .i64 d]) (.agg #[.int .i64 a',.int .i64 b',.int .i64 c',.int .i64 d'])).run Tryz.prog w= .ok (decide ((⟨a,b,c,d⟩:Edge)=⟨a',b',c',d'⟩)) w:=by
 rw[run_equalIn_struct w _ _ _ _ (by kernel_rfl) (by kernel_rfl)]
 have hI:∀(w:World) (d:Nat) (x y:Int),(Op.equalIn (d+1) 3 (.int .i64 x) (.int .i64 y)).run Tryz.prog w= .ok (x==y) w:=fun w d x y=>run_equalIn_int w d _ _ _ x y Tryz.underlying3
 by_cases h1:a=a'<;>by_cases h2:b=b'<;>by_cases h3:c=c'<;>by_cases h4:d=d'<;>
  simp[Program.fieldsOf,Tryz.underlying61,Op.eqFields,part,hI,h1,h2,h3,h4,Result.andThen]
theorem Zpa (w:World) (x y:Edge):(binOp .neq 61 (.agg #[.int .i64 x.f,.int .i64 x.t,.int .i64 x.k,.int .i64 x.key]) (.agg #[.int .i64 y.f,.int .i64 y.t,.int .i64 y.k,.int .i64 y.key])).run Tryz.prog w= .ok (.bool (x != y)) w:=by
 obtain⟨a,b,c,d⟩:=x
 obtain⟨a',b',c',d'⟩:=y
 rw[run_neq_struct,Zlt]
 simp only[Result.andThen]
 by_cases h:(⟨a,b,c,d⟩:Edge)=⟨a',b',c',d'⟩<;>simp[h]
theorem Walk.at_ {F:Nat→Prop} {w:World} {A:Option Addr} {l:List Edge} (h:Walk F w A l) {k:Nat} (hk:k<l.length):∃ad,A=some ad∧
  w.cell? (ad.add (k*4))=some (.int .i64 l[k].f)∧w.cell? ⟨(ad.add (k*4)).block,(ad.add (k*4)).off+1,none⟩=some (.int .i64 l[k].t)∧
  w.cell? ⟨(ad.add (k*4)).block,(ad.add (k*4)).off+2,none⟩=some (.int .i64 l[k].k)∧w.cell? ⟨(ad.add (k*4)).block,(ad.add (k*4)).off+3,none⟩=some (.int .i64 l[k].key):=by
 have hk':k<(l.map Edge.cells).length:=by simpa using hk
 obtain⟨ad,e,_,_,hc⟩:=Recs.at_ h hk'
 rw[List.getElem_map]at hc
 exact⟨ad,e,by simpa using hc 0 _ rfl,by simpa using hc 1 _ rfl,by simpa using hc 2 _ rfl,by simpa using hc 3 _ rfl⟩
theorem Walk.upd {F S:Nat→Prop} {w w':World} {A:Option Addr} {l:List Edge} (h:Walk F w A l) (k:Upd S w w') (hn:∀i,F i→¬S i):Walk F w' A l:=Recs.upd h k hn
end Go.Proofs.YtklmahmfmbppkaaGreat
/- Walks of edges:whether they are closed,and simple;by the program and by the document. -/
namespace Go.Proofs.YtklmahmfmbppkaaGreat
set_option linter.unusedSimpArgs false
set_option linter.unusedVariables false
open Go.RowKit
def okC (l:List Edge) (i:Nat):Bool:=(l[i]?.map (·.t))==(l[(i+1)%l.length]?.map (·.f))
def ZqG (l:List Edge):Bool:=decide (0<l.length)&&(List.range l.length).all (okC l)
end Go.Proofs.YtklmahmfmbppkaaGreat
/- Histories:how operations,transactions,orders and histories lie in memory. -/
namespace Go.Proofs.YtklmahmfmbppkaaGreat
set_option linter.unusedSimpArgs false
set_option linter.unusedVariables false
open Go.RowKit
def i64 (n:Int):Prop:= -9223372036854775808≤n∧n≤9223372036854775807
structure HOp where
 read:Bool
 key:Int
 tx:Int
 nth:Int
deriving DecidableEq
def HOp.cells (o:HOp):List Value:=[.bool o.read,.int .i64 o.key,.int .i64 o.tx,.int .i64 o.nth]
def HOp.ok (o:HOp):Prop:=i64 o.key∧i64 o.tx∧i64 o.nth
structure Ver where
 tx:Int
 key:Int
 nth:Int
deriving DecidableEq
def Ver.cells (v:Ver):List Value:=[.int .i64 v.tx,.int .i64 v.key,.int .i64 v.nth]
def HOps (F:Nat→Prop) (w:World) (A:Option Addr) (l:List HOp):Prop:=Recs F w A 4 (l.map HOp.cells)
structure HTx where
 id:Int
 done:Bool
 ops:List HOp
 A:Option Addr
 c:Nat
def HTx.cells (t:HTx):List Value:=[.int .i64 t.id,.bool t.done,.slice t.A t.ops.length t.c]
def ZR (n:Nat):Prop:=n≤4398046511103
def HTx.lies (F:Nat→Prop) (w:World) (t:HTx):Prop:=HOps F w t.A t.ops∧t.ops.length≤t.c∧ZR t.ops.length∧i64 t.id∧∀o∈t.ops,o.ok
structure HOrd where
 key:Int
 txs:List Int
 A:Option Addr
 c:Nat
def HOrd.cells (o:HOrd):List Value:=[.int .i64 o.key,.slice o.A o.txs.length o.c]
def HOrd.lies (F:Nat→Prop) (w:World) (o:HOrd):Prop:=Ints F w o.A o.txs∧o.txs.length≤o.c∧o.txs.length≤17592186044415∧i64 o.key∧∀n∈o.txs,i64 n
structure Hist where
 txs:List HTx
 ords:List HOrd
 A:Option Addr
 c:Nat
 B:Option Addr
 d:Nat
def Hist.val (h:Hist):Value:= .agg #[.slice h.A h.txs.length h.c,.slice h.B h.ords.length h.d]
def Hist.cells (h:Hist):List Value:=[.slice h.A h.txs.length h.c,.slice h.B h.ords.length h.d]
structure Hist.lies (F:Nat→Prop) (w:World) (h:Hist):Prop where
 txs:Recs F w h.A 3 (h.txs.map HTx.cells)
 ords:Recs F w h.B 2 (h.ords.map HOrd.cells)
 tx:∀t∈h.txs,t.lies F w
 ord:∀o∈h.ords,o.lies F w
 c:h.txs.length≤h.c
 d:h.ords.length≤h.d
 few:h.txs.length≤4398046511103
 fewo:h.ords.length≤4398046511103
section
variable {F S:Nat→Prop} {w w':World}
theorem HOps.upd {A:Option Addr} {l:List HOp} (h:HOps F w A l) (k:Upd S w w') (hn:∀i,F i→¬S i):HOps F w' A l:=Recs.upd h k hn
theorem HTx.lies.upd {t:HTx} (h:t.lies F w) (k:Upd S w w') (hn:∀i,F i→¬S i):t.lies F w':=⟨HOps.upd h.1 k hn,h.2⟩
theorem HOrd.lies.upd {o:HOrd} (h:o.lies F w) (k:Upd S w w') (hn:∀i,F i→¬S i):o.lies F w':=⟨h.1.upd k hn,h.2⟩
theorem Hist.lies.upd {h:Hist} (H:h.lies F w) (k:Upd S w w') (hn:∀i,F i→¬S i):h.lies F w':=
 ⟨Recs.upd H.txs k hn,Recs.upd H.ords k hn,fun t ht=>(H.tx t ht).upd k hn,fun o ho=>(H.ord o ho).upd k hn,H.c,H.d,H.few,H.fewo⟩
theorem HOps.at_ {A:Option Addr} {l:List HOp} (h:HOps F w A l) {k:Nat} (hk:k<l.length):∃ad,A=some ad∧
  w.cell? (ad.add (k*4))=some (.bool l[k].read)∧w.cell? ⟨(ad.add (k*4)).block,(ad.add (k*4)).off+1,none⟩=some (.int .i64 l[k].key)∧
  w.cell? ⟨(ad.add (k*4)).block,(ad.add (k*4)).off+2,none⟩=some (.int .i64 l[k].tx)∧w.cell? ⟨(ad.add (k*4)).block,(ad.add (k*4)).off+3,none⟩=some (.int .i64 l[k].nth):=by
 have hk':k<(l.map HOp.cells).length:=by simpa using hk
 obtain⟨ad,e,_,_,hc⟩:=Recs.at_ h hk'
 rw[List.getElem_map]at hc
 exact⟨ad,e,by simpa using hc 0 _ rfl,by simpa using hc 1 _ rfl,by simpa using hc 2 _ rfl,by simpa using hc 3 _ rfl⟩
theorem Hist.lies.tx_at {h:Hist} (H:h.lies F w) {k:Nat} (hk:k<h.txs.length):∃ad,h.A=some ad∧
  w.cell? (ad.add (k*3))=some (.int .i64 h.txs[k].id)∧w.cell? ⟨(ad.add (k*3)).block,(ad.add (k*3)).off+1,none⟩=some (.bool h.txs[k].done)∧
  w.cell? ⟨(ad.add (k*3)).block,(ad.add (k*3)).off+2,none⟩=some (.slice h.txs[k].A h.txs[k].ops.length h.txs[k].c):=by
 have hk':k<(h.txs.map HTx.cells).length:=by simpa using hk
 obtain⟨ad,e,_,_,hc⟩:=Recs.at_ H.txs hk'
 rw[List.getElem_map]at hc
 exact⟨ad,e,by simpa using hc 0 _ rfl,by simpa using hc 1 _ rfl,by simpa using hc 2 _ rfl⟩
theorem Hist.lies.ord_at {h:Hist} (H:h.lies F w) {k:Nat} (hk:k<h.ords.length):∃ad,h.B=some ad∧
  w.cell? (ad.add (k*2))=some (.int .i64 h.ords[k].key)∧w.cell? ⟨(ad.add (k*2)).block,(ad.add (k*2)).off+1,none⟩=some (.slice h.ords[k].A h.ords[k].txs.length h.ords[k].c):=by
 have hk':k<(h.ords.map HOrd.cells).length:=by simpa using hk
 obtain⟨ad,e,_,_,hc⟩:=Recs.at_ H.ords hk'
 rw[List.getElem_map]at hc
 exact⟨ad,e,by simpa using hc 0 _ rfl,by simpa using hc 1 _ rfl⟩
end
def Z7 (o:HOp):Ver:=if o.read then ⟨o.tx,o.key,o.nth⟩ else ⟨0,0,0⟩
def idB (n:Int):Bool:=decide (1≤n)&&decide (n≤1048575)
def Zba (v:Ver):Bool:=idB v.key&&((v.tx==0&&v.nth==0)||(idB v.tx&&decide (1≤v.nth)&&decide (v.nth≤4095)))
def opB (o:HOp):Bool:=if o.read then Zba (Z7 o) else idB o.key&&o.tx==0&&o.nth==0
end Go.Proofs.YtklmahmfmbppkaaGreat
/- Operations and versions:which are right,by the program and by the document. -/
namespace Go.Proofs.YtklmahmfmbppkaaGreat
set_option linter.unusedSimpArgs false
set_option linter.unusedVariables false
open Go.RowKit
def Zl7 (b:Bool):Int:=if b then 0 else 1
theorem pid (w:World) (n:Int):Calls Tryz.prog 222 #[.int .i64 n] w fun e w'=>e= .returned (.bool (idB n))∧w=w':=by
 unfold idB
 by_cases h1:1≤n
 ·by_cases h2:n≤1048575
  ·go_enter Tryz.func222,Tryz.ntmps222
   go_wp2
   go_ret
   exact⟨by rw[decide_eq_true h1,decide_eq_true h2];rfl,rfl⟩
  ·go_enter Tryz.func222,Tryz.ntmps222
   go_wp2
   go_ret
   exact⟨by rw[decide_eq_false (show¬n≤1048575 by omega)];rfl,rfl⟩
 ·go_enter Tryz.func222,Tryz.ntmps222
  go_wp2
  go_ret
  exact⟨by rw[decide_eq_false (show¬1≤n by omega),Bool.false_and];rfl,rfl⟩
theorem Zea {w:World} {n:Int} {b:Bool} (h:idB n=b):Calls Tryz.prog 222 #[.int .i64 n] w fun e w'=>e= .returned (.bool b)∧w=w':=by subst h;exact pid w n
def Zpr (w:World) (b:Bool) (e:Ending) (w':World):Prop:=∃x,e= .returned (.tuple #[.int .u64 x,.int .i64 (Zl7 b)])∧Upd No w w'
theorem Zes {b:Bool} (h:¬b=true):b=false:=by simpa using h
set_option maxRecDepth 100000 in
set_option maxHeartbeats 1000000 in
theorem Zsy (w:World) (v:Ver):Calls Tryz.prog 200 #[.agg v.cells.toArray] w (Zpr w (Zba v)):=by
 unfold Ver.cells
 have i0:idB 0=false:=by decide
 by_cases ht:v.tx=0
 ·by_cases hn:v.nth=0
  ·by_cases hk:idB v.key=true
   ·have hv:=Lib.hid (show Zba v=true by unfold Zba;rw[hk,ht,hn];rfl)
    rw[ht,hn]
    clear ht hn i0
    have Hk:=Lib.hid hk
    clear hk
    go_enter Tryz.func200,Tryz.ntmps200
    go_wp2_with fail
    refine(Zea Hk.out).mono ?_
    rintro e w1 ⟨rfl,rfl⟩
    go_wp2
    go_ret2
    exact⟨_,by rw[hv.out];rfl,(Upd.refl _ _).alloc _⟩
   ·have hv:=Lib.hid (show Zba v=false by unfold Zba;rw[Zes hk];rfl)
    rw[ht,hn]
    clear ht hn i0
    have Hk:=Lib.hid (Zes hk)
    clear hk
    go_enter Tryz.func200,Tryz.ntmps200
    go_wp2_with fail
    refine(Zea Hk.out).mono ?_
    rintro e w1 ⟨rfl,rfl⟩
    go_wp2
    go_ret2
    exact⟨_,by rw[hv.out];rfl,(Upd.refl _ _).alloc _⟩
  ·have hv:=Lib.hid (show Zba v=false by
    have:(v.nth==0)=false:=by simpa using hn
    unfold Zba;rw[ht,this,i0];simp)
   rw[ht]
   clear ht
   have Hi:=Lib.hid i0
   clear i0
   have hnb:(v.nth==0)=false:=by simpa using hn
   have Hn:=Lib.hid hn
   clear hn
   go_enter Tryz.func200,Tryz.ntmps200
   go_wp2_with fail
   refine(Zea Hi.out).mono ?_
   rintro e w1 ⟨rfl,rfl⟩
   go_wp2
   go_ret2
   exact⟨_,by rw[hv.out];rfl,(Upd.refl _ _).alloc _⟩
 ·have htb:(v.tx==0)=false:=by simpa using ht
  have Ht:=Lib.hid ht
  clear ht i0
  by_cases hi:idB v.tx=true
  ·have Hi:=Lib.hid hi
   clear hi
   by_cases h1:v.nth<1
   ·have hv:=Lib.hid (show Zba v=false by
     unfold Zba;rw[htb,Hi.out,decide_eq_false (show¬1≤v.nth by omega)];simp)
    go_enter Tryz.func200,Tryz.ntmps200
    go_wp2_with fail
    refine(Zea Hi.out).mono ?_
    rintro e w1 ⟨rfl,rfl⟩
    go_wp2
    go_ret2
    exact⟨_,by rw[hv.out];rfl,(Upd.refl _ _).alloc _⟩
   ·by_cases h2:4095<v.nth
    ·have hv:=Lib.hid (show Zba v=false by
      unfold Zba;rw[htb,Hi.out,decide_eq_false (show¬v.nth≤4095 by omega)];simp)
     go_enter Tryz.func200,Tryz.ntmps200
     go_wp2_with fail
     refine(Zea Hi.out).mono ?_
     rintro e w1 ⟨rfl,rfl⟩
     go_wp2
     go_ret2
     exact⟨_,by rw[hv.out];rfl,(Upd.refl _ _).alloc _⟩
    ·by_cases hk:idB v.key=true
     ·have hv:=Lib.hid (show Zba v=true by
       unfold Zba;rw[htb,Hi.out,hk,decide_eq_true (show v.nth≤4095 by omega),decide_eq_true (show 1≤v.nth by omega)];rfl)
      have Hk:=Lib.hid hk
      clear hk
      go_enter Tryz.func200,Tryz.ntmps200
      go_wp2_with fail
      refine(Zea Hi.out).mono ?_
      rintro e w1 ⟨rfl,rfl⟩
      go_wp2_with fail
      refine(Zea Hk.out).mono ?_
      rintro e w1 ⟨rfl,rfl⟩
      go_wp2
      go_ret2
      exact⟨_,by rw[hv.out];rfl,(Upd.refl _ _).alloc _⟩
     ·have hv:=Lib.hid (show Zba v=false by unfold Zba;rw[Zes hk];rfl)
      have Hk:=Lib.hid (Zes hk)
      clear hk
      go_enter Tryz.func200,Tryz.ntmps200
      go_wp2_with fail
      refine(Zea Hi.out).mono ?_
      rintro e w1 ⟨rfl,rfl⟩
      go_wp2_with fail
      refine(Zea Hk.out).mono ?_
      rintro e w1 ⟨rfl,rfl⟩
      go_wp2
      go_ret2
      exact⟨_,by rw[hv.out];rfl,(Upd.refl _ _).alloc _⟩
  ·have hv:=Lib.hid (show Zba v=false by unfold Zba;rw[htb,Zes hi];simp)
   have Hi:=Lib.hid (Zes hi)
   clear hi
   go_enter Tryz.func200,Tryz.ntmps200
   go_wp2_with fail
   refine(Zea Hi.out).mono ?_
   rintro e w1 ⟨rfl,rfl⟩
   go_wp2
   go_ret2
   exact⟨_,by rw[hv.out];rfl,(Upd.refl _ _).alloc _⟩
end Go.Proofs.YtklmahmfmbppkaaGreat
/- Operations:the version that they read,whether they are right. -/
namespace Go.Proofs.YtklmahmfmbppkaaGreat
set_option linter.unusedSimpArgs false
set_option linter.unusedVariables false
open Go.RowKit
theorem Zrg (w:World) (x y:HOp):(Op.equalIn 10000 113 (.agg x.cells.toArray) (.agg y.cells.toArray)).run Tryz.prog w= .ok (decide (x=y)) w:=by
 obtain⟨a,b,c,d⟩:=x
 obtain⟨a',b',c',d'⟩:=y
 unfold HOp.cells
 rw[run_equalIn_struct w _ _ _ _ (by kernel_rfl) (by kernel_rfl)]
 have hI:∀(w:World) (d:Nat) (x y:Int),(Op.equalIn (d+1) 3 (.int .i64 x) (.int .i64 y)).run Tryz.prog w= .ok (x==y) w:=fun w d x y=>run_equalIn_int w d _ _ _ x y Tryz.underlying3
 have hB:∀(w:World) (d:Nat) (x y:Bool),(Op.equalIn (d+1) 4 (.bool x) (.bool y)).run Tryz.prog w= .ok (x==y) w:=fun w d x y=>run_equalIn_bool w d _ x y Tryz.underlying4
 by_cases h1:a=a'<;>by_cases h2:b=b'<;>by_cases h3:c=c'<;>by_cases h4:d=d'<;>
  simp[Program.fieldsOf,Tryz.underlying113,Op.eqFields,part,hI,hB,h1,h2,h3,h4,Result.andThen]
theorem Zqr (w:World) (x y:HOp):(binOp .neq 113 (.agg #[.bool x.read,.int .i64 x.key,.int .i64 x.tx,.int .i64 x.nth]) (.agg #[.bool y.read,.int .i64 y.key,.int .i64 y.tx,.int .i64 y.nth])).run Tryz.prog w= .ok (.bool (x != y)) w:=by
 rw[run_neq_struct]
 have:=Zrg w x y
 unfold HOp.cells at this
 rw[this]
 simp only[Result.andThen]
 by_cases h:x=y<;>simp[h]
theorem oof (w:World) (o:HOp):Calls Tryz.prog 116 #[.agg o.cells.toArray] w fun e w'=>e= .returned (.agg (Z7 o).cells.toArray)∧Upd No w w':=by
 obtain⟨r,k,t,n⟩:=o
 cases r
 ·unfold HOp.cells
  go_enter Tryz.func116,Tryz.ntmps116
  go_wp2
  exact bodyPost_ret (v:= .agg #[.int .i64 0,.int .i64 0,.int .i64 0]) (by simp[results,Tryz.results116,go_sem]) rfl ⟨rfl,((Upd.refl _ _).alloc _).alloc _⟩
 ·unfold HOp.cells
  go_enter Tryz.func116,Tryz.ntmps116
  go_wp2
  exact bodyPost_ret (v:= .agg #[.int .i64 t,.int .i64 k,.int .i64 n]) (by simp[results,Tryz.results116,go_sem]) rfl ⟨rfl,((Upd.refl _ _).alloc _).alloc _⟩
theorem Zm6 (w:World) (o:HOp):Calls Tryz.prog 165 #[.agg o.cells.toArray] w fun e w'=>e= .returned (.int .i64 (Zl7 (opB o)))∧Upd No w w':=by
 obtain⟨r,k,t,n⟩:=o
 cases r
 ·have hN:=Zqr
  unfold HOp.cells
  by_cases hz:(⟨false,k,t,n⟩:HOp)=⟨false,k,0,0⟩
  ·have hzb:((⟨false,k,t,n⟩:HOp) != ⟨false,k,0,0⟩)=false:=by rw[hz];simp
   have h0:t=0∧n=0:=by injection hz with _ _ h3 h4;exact⟨h3,h4⟩
   by_cases h1:k<1
   ·have hv:=Lib.hid (show opB ⟨false,k,t,n⟩=false by unfold opB idB;rw[decide_eq_false (show¬1≤k by omega)];rfl)
    clear hz h0
    have qn:=fun w=>(hN w ⟨false,k,t,n⟩ ⟨false,k,0,0⟩).trans (by rw[hzb])
    clear hN hzb
    go_enter Tryz.func165,Tryz.ntmps165
    go_wp2
    go_ret
    exact⟨by rw[hv.out];rfl,(Upd.refl _ _).alloc _⟩
   ·by_cases h2:1048575<k
    ·have hv:=Lib.hid (show opB ⟨false,k,t,n⟩=false by unfold opB idB;rw[decide_eq_false (show¬k≤1048575 by omega)];simp)
     clear hz h0
     have qn:=fun w=>(hN w ⟨false,k,t,n⟩ ⟨false,k,0,0⟩).trans (by rw[hzb])
     clear hN hzb
     go_enter Tryz.func165,Tryz.ntmps165
     go_wp2
     go_ret
     exact⟨by rw[hv.out];rfl,(Upd.refl _ _).alloc _⟩
    ·have hv:=Lib.hid (show opB ⟨false,k,t,n⟩=true by unfold opB idB;rw[decide_eq_true (show k≤1048575 by omega),decide_eq_true (show 1≤k by omega),h0.1,h0.2];rfl)
     clear hz h0
     have qn:=fun w=>(hN w ⟨false,k,t,n⟩ ⟨false,k,0,0⟩).trans (by rw[hzb])
     clear hN hzb
     go_enter Tryz.func165,Tryz.ntmps165
     go_wp2
     go_ret
     exact⟨by rw[hv.out];rfl,(Upd.refl _ _).alloc _⟩
  ·have hzb:((⟨false,k,t,n⟩:HOp) != ⟨false,k,0,0⟩)=true:=by simpa using hz
   have hv:=Lib.hid (show opB ⟨false,k,t,n⟩=false by
    unfold opB
    by_cases h3:t=0
    ·by_cases h4:n=0
     ·exact absurd (by rw[h3,h4]) hz
     ·simp[h4]
    ·simp[h3])
   clear hz
   have qn:=fun w=>(hN w ⟨false,k,t,n⟩ ⟨false,k,0,0⟩).trans (by rw[hzb])
   clear hN hzb
   go_enter Tryz.func165,Tryz.ntmps165
   go_wp2
   go_ret
   exact⟨by rw[hv.out];rfl,(Upd.refl _ _).alloc _⟩
 ·have hv:=Lib.hid (show opB ⟨true,k,t,n⟩=Zba ⟨t,k,n⟩ from rfl)
  unfold HOp.cells
  go_enter Tryz.func165,Tryz.ntmps165
  go_wp2_with fail
  refine(oof _ ⟨true,k,t,n⟩).mono ?_
  rintro e w1 ⟨rfl,hu1⟩
  go_wp2_with fail
  refine(Zsy _ ⟨t,k,n⟩).mono ?_
  rintro e w2 ⟨x,rfl,hu2⟩
  go_wp2
  go_ret
  exact⟨by rw[hv.out];rfl,(((Upd.refl _ _).alloc _).trans hu1).trans hu2⟩
end Go.Proofs.YtklmahmfmbppkaaGreat
/- How many writes of a key there are;whether a history is light. -/
namespace Go.Proofs.YtklmahmfmbppkaaGreat
set_option linter.unusedSimpArgs false
set_option linter.unusedVariables false
open Go.RowKit
def isW (key:Int) (o:HOp):Bool:= !o.read&&o.key==key
def wrN (l:List HOp) (key:Int) (k:Nat):Nat:=((l.take k).filter (isW key)).length
def Zaa (l:List HOp) (key:Int):Nat:=wrN l key l.length
theorem Zjq {l:List HOp} {key:Int} {k:Nat} (hk:k<l.length):wrN l key (k+1)=wrN l key k+if isW key l[k]=true then 1 else 0:=by
 unfold wrN
 rw[List.take_succ_eq_append_getElem hk,List.filter_append,List.length_append]
 by_cases h:isW key l[k]=true
 ·rw[if_pos h,List.filter_cons_of_pos h];rfl
 ·rw[if_neg h,List.filter_cons_of_neg h];rfl
theorem ZkV {l:List HOp} {key:Int} {k:Nat} {x:HOp} (hk:k<l.length) (hx:l[k]=x) (h:isW key x=true):wrN l key (k+1)=wrN l key k+1:=by
 subst hx;rw[Zjq hk,if_pos h]
theorem ZgN {l:List HOp} {key:Int} {k:Nat} {x:HOp} (hk:k<l.length) (hx:l[k]=x) (h:isW key x=false):wrN l key (k+1)=wrN l key k:=by
 subst hx;rw[Zjq hk,if_neg (by rw[h];decide),Nat.add_zero]
theorem Zmx (l:List HOp) (key:Int) (k:Nat):wrN l key k≤k:=by
 unfold wrN
 have h1:=List.length_filter_le (isW key) (l.take k)
 have h2:=List.length_take_le k l
 omega
set_option maxRecDepth 100000 in
theorem ZhU (F:Nat→Prop) (w:World) (i0:Int) (dn:Bool) (A:Option Addr) (c:Nat) (l:List HOp) (key:Int) (h:HOps F w A l) (hl:ZR l.length):
  Calls Tryz.prog 153 #[.agg #[.int .i64 i0,.bool dn,.slice A l.length c],.int .i64 key] w fun e w'=>e= .returned (.int .i64 ((Zaa l key:Nat):Int))∧Upd No w w':=by
 unfold ZR at hl
 go_enter Tryz.func153,Tryz.ntmps153
 go_wp2
 go_loopg [5,11] l.length (fun gk n i wr=>∃k:Nat,k+gk=l.length∧i= .int .i64 k∧n= .int .i64 ((wrN l key k:Nat):Int)∧Upd No w wr)
 case atStart=>exact⟨0,by omega,rfl,rfl,(Upd.refl _ _).alloc _⟩
 case round=>
  obtain⟨k,hgk,rfl,rfl,hu⟩:=hrel
  by_cases hlt:k<l.length
  ·obtain⟨ad,hAd,c0,c1,c2,c3⟩:=(h.upd hu (fun _ _=>id)).at_ hlt
   obtain⟨x,hx⟩:∃x,l[k]=x:=⟨_,rfl⟩
   rw[hx]at c0 c1 c2 c3
   have hw:=Zmx l key k
   obtain⟨r,ky,tx,nt⟩:=x
   have X:=Lib.hid hx
   clear hx
   subst hAd
   cases r
   ·by_cases hk:ky=key
    ·have hkb:(ky==key)=true:=by simpa using hk
     have HS:=Lib.hid (ZkV (key:=key) hlt X.out (by unfold isW;rw[hkb];rfl))
     clear hk
     go_wp2
     go_roundg (gk-1)
     case measure=>omega
     case rel=>exact⟨k+1,by omega,by go_num,by rw[HS.out];go_num,hu.alloc _⟩
    ·have hkb:(ky==key)=false:=by simpa using hk
     have HS:=Lib.hid (ZgN (key:=key) hlt X.out (by unfold isW;rw[hkb];rfl))
     clear hk
     go_wp2
     go_roundg (gk-1)
     case measure=>omega
     case rel=>exact⟨k+1,by omega,by go_num,by rw[HS.out],hu.alloc _⟩
   ·have HS:=Lib.hid (ZgN (key:=key) hlt X.out rfl)
    go_wp2
    go_roundg (gk-1)
    case measure=>omega
    case rel=>exact⟨k+1,by omega,by go_num,by rw[HS.out],hu.alloc _⟩
  ·obtain rfl:k=l.length:=by omega
   go_wp2
   go_ret
   exact⟨rfl,hu⟩
def Zcy (h:Hist):Bool:=decide (h.txs.length≤12)&&decide (h.ords.length≤24)&&h.txs.all (fun t=>decide (t.ops.length≤24))&&h.ords.all (fun o=>decide (o.txs.length≤24))
end Go.Proofs.YtklmahmfmbppkaaGreat
/- The document's own small walks over numbers:where one stands,how often,put among rising ones. -/
namespace Go.Proofs.YtklmahmfmbppkaaGreat
set_option linter.unusedSimpArgs false
set_option linter.unusedVariables false
open Go.RowKit
def ZM (n:Int):List Int→List Int
 |[]=>[n]
 |x::l=>if n≤x then n::(x::l).filter (fun y=> !(y==n)) else x::ZM n l
theorem Zaw (n a:Int):∀l,a∈ZM n l↔a=n∨a∈l
 |[]=>by simp[ZM]
 |x::l=>by
  have ih:=Zaw n a l
  unfold ZM
  split
  ·rw[List.mem_cons,List.mem_filter]
   by_cases h:a=n<;>simp[h]
  ·simp only[List.mem_cons,ih];grind
theorem ZcG (n:Int):∀l,l.Pairwise (·<·)→(ZM n l).Pairwise (·<·)
 |[],_=>by simp[ZM]
 |x::l,h=>by
  have h':=List.pairwise_cons.1 h
  unfold ZM
  split
  ·refine List.pairwise_cons.2 ⟨fun a ha=> ?_,h.filter _⟩
   rw[List.mem_filter]at ha
   have h1:a≠n:=by simpa using ha.2
   rcases List.mem_cons.1 ha.1 with rfl|h2
   ·omega
   ·have:=h'.1 a h2;omega
  ·refine List.pairwise_cons.2 ⟨fun a ha=> ?_,ZcG n l h'.2⟩
   rcases(Zaw n a l).1 ha with rfl|h2
   ·omega
   ·exact h'.1 a h2
theorem Zgh (n:Int) (l:List Int):(ZM n l).length≤l.length+1:=by
 induction l with
 |nil=>simp[ZM]
 |cons x l ih=>
  unfold ZM
  split
  ·have:=List.length_filter_le (fun y=> !(y==n)) (x::l)
   simp only[List.length_cons]at*;omega
  ·simp only[List.length_cons]at*;omega
def Zcv (s:List Int):List Int→List Int
 |[]=>s
 |k::l=>Zcv (ZM k s) l
theorem Zhk (a:Int):∀(l s:List Int),a∈Zcv s l↔a∈s∨a∈l
 |[],s=>by simp[Zcv]
 |k::l,s=>by
  have ih:=Zhk a l (ZM k s)
  rw[Zaw]at ih
  show a∈Zcv (ZM k s) l↔_
  rw[ih,List.mem_cons];grind
theorem Zit:∀(l s:List Int),s.Pairwise (·<·)→(Zcv s l).Pairwise (·<·)
 |[],_,h=>h
 |k::l,s,h=>Zit l _ (ZcG k s h)
theorem Zg3:∀(l s:List Int),(Zcv s l).length≤s.length+l.length
 |[],s=>by simp[Zcv]
 |k::l,s=>by
  have:=Zg3 l (ZM k s)
  have:=Zgh k s
  show(Zcv (ZM k s) l).length≤_
  simp only[List.length_cons];omega
end Go.Proofs.YtklmahmfmbppkaaGreat
/- Arrays of six Booleans:they are compared,filled and written. -/
namespace Go.Proofs.YtklmahmfmbppkaaGreat
set_option linter.unusedSimpArgs false
set_option linter.unusedVariables false
open Go.RowKit
theorem ZkT (d:Nat) (w:World) (a0 a1 a2 a3 a4 a5 b0 b1 b2 b3 b4 b5:Bool):
  (Op.equalIn (d+1+1) 31 (.agg #[.bool a0,.bool a1,.bool a2,.bool a3,.bool a4,.bool a5]) (.agg #[.bool b0,.bool b1,.bool b2,.bool b3,.bool b4,.bool b5])).run Tryz.prog w= .ok (a0==b0&&(a1==b1&&(a2==b2&&(a3==b3&&(a4==b4&&a5==b5))))) w:=by
 have ht:=Tryz.underlying31
 have hb:=Tryz.underlying4
 have hsz:∀(w:World),(sizeOf 4).run Tryz.prog w= .ok 1 w:=fun w=>by kernel_rfl
 have hp:∀(w:World) (a0 a1 a2 a3 a4 a5:Value) (i:Nat) (v:Value),#[a0,a1,a2,a3,a4,a5][i]? =some v→(part 4 #[a0,a1,a2,a3,a4,a5] i).run Tryz.prog w= .ok v w:=fun w a0 a1 a2 a3 a4 a5 i v h=>by simp[part,isAgg,run_underlying hb,h]
 have p0:=fun w a0 a1 a2 a3 a4 a5=>hp w a0 a1 a2 a3 a4 a5 0 a0 rfl
 have p1:=fun w a0 a1 a2 a3 a4 a5=>hp w a0 a1 a2 a3 a4 a5 1 a1 rfl
 have p2:=fun w a0 a1 a2 a3 a4 a5=>hp w a0 a1 a2 a3 a4 a5 2 a2 rfl
 have p3:=fun w a0 a1 a2 a3 a4 a5=>hp w a0 a1 a2 a3 a4 a5 3 a3 rfl
 have p4:=fun w a0 a1 a2 a3 a4 a5=>hp w a0 a1 a2 a3 a4 a5 4 a4 rfl
 have p5:=fun w a0 a1 a2 a3 a4 a5=>hp w a0 a1 a2 a3 a4 a5 5 a5 rfl
 have h1:∀(d:Nat) (w:World) (a b:Bool),(Op.equalIn (d+1) 4 (.bool a) (.bool b)).run Tryz.prog w= .ok (a==b) w:=fun d w a b=>run_equalIn_bool w d _ a b hb
 clear hp
 unfold Op.equalIn
 simp only[run_underlying ht,hsz,p0,p1,p2,p3,p4,p5,h1,Sem.run_bind,Sem.run_pure,Result.andThen,List.range',Std.Legacy.Range.forIn_eq_forIn_range',Std.Legacy.Range.size,Result.andThen_ok,List.forIn_cons,List.forIn_nil,Nat.sub_zero,Nat.add_sub_cancel,Nat.div_one,Nat.reduceAdd,Nat.reduceSub,Nat.zero_mul,Nat.mul_one]
 cases e0:(a0==b0)
 ·simp only[Bool.not_true,Bool.not_false,Bool.false_eq_true,if_false,if_true,ite_true,ite_false,reduceIte,p0,p1,p2,p3,p4,p5,h1,Sem.run_bind,Sem.run_pure,Result.andThen,Result.andThen_ok,Bool.true_and,Bool.false_and]
 ·simp only[Bool.not_true,Bool.not_false,Bool.false_eq_true,if_false,if_true,ite_true,ite_false,reduceIte,p0,p1,p2,p3,p4,p5,h1,Sem.run_bind,Sem.run_pure,Result.andThen,Result.andThen_ok,Bool.true_and,Bool.false_and]
  cases e1:(a1==b1)
  ·simp only[Bool.not_true,Bool.not_false,Bool.false_eq_true,if_false,if_true,ite_true,ite_false,reduceIte,p0,p1,p2,p3,p4,p5,h1,Sem.run_bind,Sem.run_pure,Result.andThen,Result.andThen_ok,Bool.true_and,Bool.false_and]
  ·simp only[Bool.not_true,Bool.not_false,Bool.false_eq_true,if_false,if_true,ite_true,ite_false,reduceIte,p0,p1,p2,p3,p4,p5,h1,Sem.run_bind,Sem.run_pure,Result.andThen,Result.andThen_ok,Bool.true_and,Bool.false_and]
   cases e2:(a2==b2)
   ·simp only[Bool.not_true,Bool.not_false,Bool.false_eq_true,if_false,if_true,ite_true,ite_false,reduceIte,p0,p1,p2,p3,p4,p5,h1,Sem.run_bind,Sem.run_pure,Result.andThen,Result.andThen_ok,Bool.true_and,Bool.false_and]
   ·simp only[Bool.not_true,Bool.not_false,Bool.false_eq_true,if_false,if_true,ite_true,ite_false,reduceIte,p0,p1,p2,p3,p4,p5,h1,Sem.run_bind,Sem.run_pure,Result.andThen,Result.andThen_ok,Bool.true_and,Bool.false_and]
    cases e3:(a3==b3)
    ·simp only[Bool.not_true,Bool.not_false,Bool.false_eq_true,if_false,if_true,ite_true,ite_false,reduceIte,p0,p1,p2,p3,p4,p5,h1,Sem.run_bind,Sem.run_pure,Result.andThen,Result.andThen_ok,Bool.true_and,Bool.false_and]
    ·simp only[Bool.not_true,Bool.not_false,Bool.false_eq_true,if_false,if_true,ite_true,ite_false,reduceIte,p0,p1,p2,p3,p4,p5,h1,Sem.run_bind,Sem.run_pure,Result.andThen,Result.andThen_ok,Bool.true_and,Bool.false_and]
     cases e4:(a4==b4)
     ·simp only[Bool.not_true,Bool.not_false,Bool.false_eq_true,if_false,if_true,ite_true,ite_false,reduceIte,p0,p1,p2,p3,p4,p5,h1,Sem.run_bind,Sem.run_pure,Result.andThen,Result.andThen_ok,Bool.true_and,Bool.false_and]
     ·simp only[Bool.not_true,Bool.not_false,Bool.false_eq_true,if_false,if_true,ite_true,ite_false,reduceIte,p0,p1,p2,p3,p4,p5,h1,Sem.run_bind,Sem.run_pure,Result.andThen,Result.andThen_ok,Bool.true_and,Bool.false_and]
      cases e5:(a5==b5)
      ·simp only[Bool.not_true,Bool.not_false,Bool.false_eq_true,if_false,if_true,ite_true,ite_false,reduceIte,p0,p1,p2,p3,p4,p5,h1,Sem.run_bind,Sem.run_pure,Result.andThen,Result.andThen_ok,Bool.true_and,Bool.false_and]
      ·simp only[Bool.not_true,Bool.not_false,Bool.false_eq_true,if_false,if_true,ite_true,ite_false,reduceIte,p0,p1,p2,p3,p4,p5,h1,Sem.run_bind,Sem.run_pure,Result.andThen,Result.andThen_ok,Bool.true_and,Bool.false_and]
theorem Zmm (w:World) (a0 a1 a2 a3 a4 a5 b0 b1 b2 b3 b4 b5:Bool):
  (Op.equalIn 10000 31 (.agg #[.bool a0,.bool a1,.bool a2,.bool a3,.bool a4,.bool a5]) (.agg #[.bool b0,.bool b1,.bool b2,.bool b3,.bool b4,.bool b5])).run Tryz.prog w= .ok (a0==b0&&(a1==b1&&(a2==b2&&(a3==b3&&(a4==b4&&a5==b5))))) w:=ZkT 9998 w a0 a1 a2 a3 a4 a5 b0 b1 b2 b3 b4 b5
def Zd6 (f:Int→Bool) (k:Nat):List Value:=(List.range 6).map fun i=> .bool (decide (i<k)&&f (i:Int))
theorem Zon (f:Int→Bool) (k:Nat):(Zd6 f k).length=6:=by unfold Zd6;simp
theorem ZmN (f:Int→Bool):Zd6 f 0=[.bool false,.bool false,.bool false,.bool false,.bool false,.bool false]:=by unfold Zd6;rfl
theorem Zol (f:Int→Bool):Zd6 f 6=[.bool (f 0),.bool (f 1),.bool (f 2),.bool (f 3),.bool (f 4),.bool (f 5)]:=by unfold Zd6;rfl
theorem Zom (f:Int→Bool) (k:Nat) (hk:k<6):(Zd6 f k).set k (.bool (f (k:Int)))=Zd6 f (k+1):=by
 rcases(show k=0∨k=1∨k=2∨k=3∨k=4∨k=5 by omega)with rfl|rfl|rfl|rfl|rfl|rfl<;>rfl
theorem Zsx {W:World} {b:Nat} {ty:TypeId} {c0 c1 c2 c3 c4 c5:Value} (h:Blk W b ty [c0,c1,c2,c3,c4,c5]) (v0 v1 v2 v3 v4 v5:Value):
  Blk ((((((W.setCell ⟨b,0,none⟩ v0).setCell ⟨b,1,none⟩ v1).setCell ⟨b,2,none⟩ v2).setCell ⟨b,3,none⟩ v3).setCell ⟨b,4,none⟩ v4).setCell ⟨b,5,none⟩ v5) b ty [v0,v1,v2,v3,v4,v5]∧
  Upd (One b) W ((((((W.setCell ⟨b,0,none⟩ v0).setCell ⟨b,1,none⟩ v1).setCell ⟨b,2,none⟩ v2).setCell ⟨b,3,none⟩ v3).setCell ⟨b,4,none⟩ v4).setCell ⟨b,5,none⟩ v5):=by
 refine⟨?_,((((((Upd.refl _ _).setOne 0 _).setOne 1 _).setOne 2 _).setOne 3 _).setOne 4 _).setOne 5 _⟩
 have:=(((((h.set_ 0 v0).set_ 1 v1).set_ 2 v2).set_ 3 v3).set_ 4 v4).set_ 5 v5
 simpa only[List.set_cons_zero,List.set_cons_succ]using this
end Go.Proofs.YtklmahmfmbppkaaGreat
