/- Histories: how operations, transactions, orders and histories lie in memory. -/
import Derived.Test.YtdbjokfejmgepaaProg
import Derived.Laws.StructEq
import Derived.Test.YtdbjokfejmgepaaRaac
namespace Go.Proofs.Ytdbjokfejmgepaa
set_option linter.unusedVariables false
set_option linter.unusedSimpArgs false
section
open Go.RowKit
def i64 (n:Int):Prop:= -9223372036854775808≤n∧n≤9223372036854775807
structure HOp where
 read:Bool
 key:Int
 tx:Int
 nth:Int
deriving DecidableEq
def HOp.cells (o:HOp):List Value:=[.bool o.read,.int .i64 o.key,.int .i64 o.tx,.int .i64 o.nth]
def HOp.ok (o:HOp):Prop:=i64 o.key∧i64 o.tx∧i64 o.nth
structure Ver where
 tx:Int
 key:Int
 nth:Int
deriving DecidableEq
def Ver.cells (v:Ver):List Value:=[.int .i64 v.tx,.int .i64 v.key,.int .i64 v.nth]
def HOps (F:Nat→Prop) (w:World) (A:Option Addr) (l:List HOp):Prop:=Recs F w A 4 (l.map HOp.cells)
structure HTx where
 id:Int
 done:Bool
 ops:List HOp
 A:Option Addr
 c:Nat
def HTx.cells (t:HTx):List Value:=[.int .i64 t.id,.bool t.done,.slice t.A t.ops.length t.c]
def Zy (n:Nat):Prop:=n≤4398046511103
def HTx.lies (F:Nat→Prop) (w:World) (t:HTx):Prop:=HOps F w t.A t.ops∧t.ops.length≤t.c∧Zy t.ops.length∧i64 t.id∧∀o∈t.ops,o.ok
structure HOrd where
 key:Int
 txs:List Int
 A:Option Addr
 c:Nat
def HOrd.cells (o:HOrd):List Value:=[.int .i64 o.key,.slice o.A o.txs.length o.c]
def HOrd.lies (F:Nat→Prop) (w:World) (o:HOrd):Prop:=Ints F w o.A o.txs∧o.txs.length≤o.c∧o.txs.length≤17592186044415∧i64 o.key∧∀n∈o.txs,i64 n
structure Hist where
 txs:List HTx
 ords:List HOrd
 A:Option Addr
 c:Nat
 B:Option Addr
 d:Nat
def Hist.val (h:Hist):Value:= .agg #[.slice h.A h.txs.length h.c,.slice h.B h.ords.length h.d]
def Hist.cells (h:Hist):List Value:=[.slice h.A h.txs.length h.c,.slice h.B h.ords.length h.d]
structure Hist.lies (F:Nat→Prop) (w:World) (h:Hist):Prop where
 txs:Recs F w h.A 3 (h.txs.map HTx.cells)
 ords:Recs F w h.B 2 (h.ords.map HOrd.cells)
 tx:∀t∈h.txs,t.lies F w
 ord:∀o∈h.ords,o.lies F w
 c:h.txs.length≤h.c
 d:h.ords.length≤h.d
 few:h.txs.length≤4398046511103
 fewo:h.ords.length≤4398046511103
section
variable {F S:Nat→Prop} {w w':World}
theorem HOps.upd {A:Option Addr} {l:List HOp} (h:HOps F w A l) (k:Upd S w w') (hn:∀i,F i→¬S i):HOps F w' A l:=Recs.upd h k hn
theorem HTx.lies.upd {t:HTx} (h:t.lies F w) (k:Upd S w w') (hn:∀i,F i→¬S i):t.lies F w':=⟨HOps.upd h.1 k hn,h.2⟩
theorem HOrd.lies.upd {o:HOrd} (h:o.lies F w) (k:Upd S w w') (hn:∀i,F i→¬S i):o.lies F w':=⟨h.1.upd k hn,h.2⟩
theorem Hist.lies.upd {h:Hist} (H:h.lies F w) (k:Upd S w w') (hn:∀i,F i→¬S i):h.lies F w':=
 ⟨Recs.upd H.txs k hn,Recs.upd H.ords k hn,fun t ht=>(H.tx t ht).upd k hn,fun o ho=>(H.ord o ho).upd k hn,H.c,H.d,H.few,H.fewo⟩
theorem HOps.at_ {A:Option Addr} {l:List HOp} (h:HOps F w A l) {k:Nat} (hk:k<l.length):∃ad,A=some ad∧
  w.cell? (ad.add (k*4))=some (.bool l[k].read)∧w.cell? ⟨(ad.add (k*4)).block,(ad.add (k*4)).off+1,none⟩=some (.int .i64 l[k].key)∧
  w.cell? ⟨(ad.add (k*4)).block,(ad.add (k*4)).off+2,none⟩=some (.int .i64 l[k].tx)∧w.cell? ⟨(ad.add (k*4)).block,(ad.add (k*4)).off+3,none⟩=some (.int .i64 l[k].nth):=by
 have hk':k<(l.map HOp.cells).length:=by simpa using hk
 obtain⟨ad,e,_,_,hc⟩:=Recs.at_ h hk';rw[List.getElem_map]at hc;exact⟨ad,e,by simpa using hc 0 _ rfl,by simpa using hc 1 _ rfl,by simpa using hc 2 _ rfl,by simpa using hc 3 _ rfl⟩
theorem Hist.lies.tx_at {h:Hist} (H:h.lies F w) {k:Nat} (hk:k<h.txs.length):∃ad,h.A=some ad∧
  w.cell? (ad.add (k*3))=some (.int .i64 h.txs[k].id)∧w.cell? ⟨(ad.add (k*3)).block,(ad.add (k*3)).off+1,none⟩=some (.bool h.txs[k].done)∧
  w.cell? ⟨(ad.add (k*3)).block,(ad.add (k*3)).off+2,none⟩=some (.slice h.txs[k].A h.txs[k].ops.length h.txs[k].c):=by
 have hk':k<(h.txs.map HTx.cells).length:=by simpa using hk
 obtain⟨ad,e,_,_,hc⟩:=Recs.at_ H.txs hk';rw[List.getElem_map]at hc;exact⟨ad,e,by simpa using hc 0 _ rfl,by simpa using hc 1 _ rfl,by simpa using hc 2 _ rfl⟩
theorem Hist.lies.ord_at {h:Hist} (H:h.lies F w) {k:Nat} (hk:k<h.ords.length):∃ad,h.B=some ad∧
  w.cell? (ad.add (k*2))=some (.int .i64 h.ords[k].key)∧w.cell? ⟨(ad.add (k*2)).block,(ad.add (k*2)).off+1,none⟩=some (.slice h.ords[k].A h.ords[k].txs.length h.ords[k].c):=by
 have hk':k<(h.ords.map HOrd.cells).length:=by simpa using hk
 obtain⟨ad,e,_,_,hc⟩:=Recs.at_ H.ords hk';rw[List.getElem_map]at hc;exact⟨ad,e,by simpa using hc 0 _ rfl,by simpa using hc 1 _ rfl⟩
end
def ZT (o:HOp):Ver:=if o.read then ⟨o.tx,o.key,o.nth⟩ else ⟨0,0,0⟩
def idB (n:Int):Bool:=decide (1≤n)&&decide (n≤1048575)
def ZC (v:Ver):Bool:=idB v.key&&((v.tx==0&&v.nth==0)||(idB v.tx&&decide (1≤v.nth)&&decide (v.nth≤4095)))
def opB (o:HOp):Bool:=if o.read then ZC (ZT o) else idB o.key&&o.tx==0&&o.nth==0
end
/- Edges:how lists of them lie in memory;when two are one. -/
section
open Go.RowKit
structure Edge where
 f:Int
 t:Int
 k:Int
 key:Int
deriving DecidableEq
def Edge.cells (e:Edge):List Value:=[.int .i64 e.f,.int .i64 e.t,.int .i64 e.k,.int .i64 e.key]
def Walk (F:Nat→Prop) (w:World) (A:Option Addr) (l:List Edge):Prop:=Recs F w A 4 (l.map Edge.cells)
theorem Za5 {l:List Edge}:∀r∈l.map Edge.cells,r.length=4:=fun r hr=>by
 obtain⟨e,_,rfl⟩:=List.mem_map.1 hr;rfl
theorem ZV:SlT Try.prog 26 89 4 32:=SlT.mk_ Try.underlying26 (z:= .agg #[.int .i64 0,.int .i64 0,.int .i64 0,.int .i64 0]) (by kernel_rfl) rfl (by omega)
theorem ZlI (w:World) (a b c d a' b' c' d':Int):
  (Op.equalIn 10000 89 (.agg #[.int .i64 a,.int .i64 b,.int .i64 c,.int .i64 d]) (.agg #[.int .i64 a',.int .i64 b',.int .i64 c',.int .i64 d'])).run Try.prog w= .ok (decide ((⟨a,b,c,d⟩:Edge)=⟨a',b',c',d'⟩)) w:=by
 rw[run_equalIn_struct w _ _ _ _ (by kernel_rfl) (by kernel_rfl)];have hI:∀(w:World) (d:Nat) (x y:Int),(Op.equalIn (d+1) 3 (.int .i64 x) (.int .i64 y)).run Try.prog w= .ok (x==y) w:=fun w d x y=>run_equalIn_int w d _ _ _ x y Try.underlying3
 by_cases h1:a=a'<;>by_cases h2:b=b'<;>by_cases h3:c=c'<;>by_cases h4:d=d'<;>
  simp[Program.fieldsOf,Try.underlying89,Op.eqFields,part,hI,h1,h2,h3,h4,Result.andThen]
theorem ZkI (w:World) (x y:Edge):(binOp .neq 89 (.agg #[.int .i64 x.f,.int .i64 x.t,.int .i64 x.k,.int .i64 x.key]) (.agg #[.int .i64 y.f,.int .i64 y.t,.int .i64 y.k,.int .i64 y.key])).run Try.prog w= .ok (.bool (x != y)) w:=by
 obtain⟨a,b,c,d⟩:=x;obtain⟨a',b',c',d'⟩:=y;rw[run_neq_struct,ZlI];simp only[Result.andThen]
 by_cases h:(⟨a,b,c,d⟩:Edge)=⟨a',b',c',d'⟩<;>simp[h]
theorem Walk.at_ {F:Nat→Prop} {w:World} {A:Option Addr} {l:List Edge} (h:Walk F w A l) {k:Nat} (hk:k<l.length):∃ad,A=some ad∧
  w.cell? (ad.add (k*4))=some (.int .i64 l[k].f)∧w.cell? ⟨(ad.add (k*4)).block,(ad.add (k*4)).off+1,none⟩=some (.int .i64 l[k].t)∧
  w.cell? ⟨(ad.add (k*4)).block,(ad.add (k*4)).off+2,none⟩=some (.int .i64 l[k].k)∧w.cell? ⟨(ad.add (k*4)).block,(ad.add (k*4)).off+3,none⟩=some (.int .i64 l[k].key):=by
 have hk':k<(l.map Edge.cells).length:=by simpa using hk
 obtain⟨ad,e,_,_,hc⟩:=Recs.at_ h hk';rw[List.getElem_map]at hc;exact⟨ad,e,by simpa using hc 0 _ rfl,by simpa using hc 1 _ rfl,by simpa using hc 2 _ rfl,by simpa using hc 3 _ rfl⟩
theorem Walk.upd {F S:Nat→Prop} {w w':World} {A:Option Addr} {l:List Edge} (h:Walk F w A l) (k:Upd S w w') (hn:∀i,F i→¬S i):Walk F w' A l:=Recs.upd h k hn
end
/- Operations and versions:which are right,by the program and by the document. -/
section
open Go.RowKit
def ZmF (b:Bool):Int:=if b then 0 else 1
theorem pid (w:World) (n:Int):Calls Try.prog 100 #[.int .i64 n] w fun e w'=>e= .returned (.bool (idB n))∧w=w':=by
 unfold idB
 by_cases h1:1≤n
 ·by_cases h2:n≤1048575
  ·go_enter Try.func100,Try.ntmps100
   go_wp2
   go_ret
   exact⟨by rw[decide_eq_true h1,decide_eq_true h2];rfl,rfl⟩
  ·go_enter Try.func100,Try.ntmps100
   go_wp2
   go_ret
   exact⟨by rw[decide_eq_false (show¬n≤1048575 by omega)];rfl,rfl⟩
 ·go_enter Try.func100,Try.ntmps100
  go_wp2
  go_ret
  exact⟨by rw[decide_eq_false (show¬1≤n by omega),Bool.false_and];rfl,rfl⟩
theorem rid (w:World) (n:Int):Calls Try.prog 68 #[.int .i64 n] w fun e w'=>e= .returned (.bool (idB n))∧w=w':=by
 unfold idB
 by_cases h1:1≤n
 ·by_cases h2:n≤1048575
  ·go_enter Try.func68,Try.ntmps68
   go_wp2
   go_ret
   exact⟨by rw[decide_eq_true h1,decide_eq_true h2];rfl,rfl⟩
  ·go_enter Try.func68,Try.ntmps68
   go_wp2
   go_ret
   exact⟨by rw[decide_eq_false (show¬n≤1048575 by omega)];rfl,rfl⟩
 ·go_enter Try.func68,Try.ntmps68
  go_wp2
  go_ret
  exact⟨by rw[decide_eq_false (show¬1≤n by omega),Bool.false_and];rfl,rfl⟩
theorem Zc3 {w:World} {n:Int} {b:Bool} (h:idB n=b):Calls Try.prog 100 #[.int .i64 n] w fun e w'=>e= .returned (.bool b)∧w=w':=by subst h;exact pid w n
theorem Zay {w:World} {n:Int} {b:Bool} (h:idB n=b):Calls Try.prog 68 #[.int .i64 n] w fun e w'=>e= .returned (.bool b)∧w=w':=by subst h;exact rid w n
def ZkW (w:World) (b:Bool) (e:Ending) (w':World):Prop:=∃x,e= .returned (.tuple #[.int .u64 x,.int .i64 (ZmF b)])∧Upd No w w'
theorem Zas {b:Bool} (h:¬b=true):b=false:=by simpa using h
set_option maxRecDepth 100000 in
set_option maxHeartbeats 1000000 in
theorem ZnW (w:World) (v:Ver):Calls Try.prog 90 #[.agg v.cells.toArray] w (ZkW w (ZC v)):=by
 unfold Ver.cells;have i0:idB 0=false:=by decide
 by_cases ht:v.tx=0
 ·by_cases hn:v.nth=0
  ·by_cases hk:idB v.key=true
   ·have hv:=Qh (show ZC v=true by unfold ZC;rw[hk,ht,hn];rfl);rw[ht,hn];clear ht hn i0;have Hk:=Qh hk;clear hk
    go_enter Try.func90,Try.ntmps90
    go_wp2_with fail
    refine(Zc3 Hk.out).mono ?_;rintro e w1 ⟨rfl,rfl⟩;go_wp2
    go_ret2
    exact⟨_,by rw[hv.out];rfl,(Upd.refl _ _).alloc _⟩
   ·have hv:=Qh (show ZC v=false by unfold ZC;rw[Zas hk];rfl);rw[ht,hn];clear ht hn i0;have Hk:=Qh (Zas hk);clear hk
    go_enter Try.func90,Try.ntmps90
    go_wp2_with fail
    refine(Zc3 Hk.out).mono ?_;rintro e w1 ⟨rfl,rfl⟩;go_wp2
    go_ret2
    exact⟨_,by rw[hv.out];rfl,(Upd.refl _ _).alloc _⟩
  ·have hv:=Qh (show ZC v=false by
    have:(v.nth==0)=false:=by simpa using hn
    unfold ZC;rw[ht,this,i0];simp)
   rw[ht];clear ht;have Hi:=Qh i0;clear i0;have hnb:(v.nth==0)=false:=by simpa using hn
   have Hn:=Qh hn;clear hn
   go_enter Try.func90,Try.ntmps90
   go_wp2_with fail
   refine(Zc3 Hi.out).mono ?_;rintro e w1 ⟨rfl,rfl⟩;go_wp2
   go_ret2
   exact⟨_,by rw[hv.out];rfl,(Upd.refl _ _).alloc _⟩
 ·have htb:(v.tx==0)=false:=by simpa using ht
  have Ht:=Qh ht;clear ht i0
  by_cases hi:idB v.tx=true
  ·have Hi:=Qh hi;clear hi
   by_cases h1:v.nth<1
   ·have hv:=Qh (show ZC v=false by
     unfold ZC;rw[htb,Hi.out,decide_eq_false (show¬1≤v.nth by omega)];simp)
    go_enter Try.func90,Try.ntmps90
    go_wp2_with fail
    refine(Zc3 Hi.out).mono ?_;rintro e w1 ⟨rfl,rfl⟩;go_wp2
    go_ret2
    exact⟨_,by rw[hv.out];rfl,(Upd.refl _ _).alloc _⟩
   ·by_cases h2:4095<v.nth
    ·have hv:=Qh (show ZC v=false by
      unfold ZC;rw[htb,Hi.out,decide_eq_false (show¬v.nth≤4095 by omega)];simp)
     go_enter Try.func90,Try.ntmps90
     go_wp2_with fail
     refine(Zc3 Hi.out).mono ?_;rintro e w1 ⟨rfl,rfl⟩;go_wp2
     go_ret2
     exact⟨_,by rw[hv.out];rfl,(Upd.refl _ _).alloc _⟩
    ·by_cases hk:idB v.key=true
     ·have hv:=Qh (show ZC v=true by
       unfold ZC;rw[htb,Hi.out,hk,decide_eq_true (show v.nth≤4095 by omega),decide_eq_true (show 1≤v.nth by omega)];rfl)
      have Hk:=Qh hk;clear hk
      go_enter Try.func90,Try.ntmps90
      go_wp2_with fail
      refine(Zc3 Hi.out).mono ?_;rintro e w1 ⟨rfl,rfl⟩
      go_wp2_with fail
      refine(Zc3 Hk.out).mono ?_;rintro e w1 ⟨rfl,rfl⟩;go_wp2
      go_ret2
      exact⟨_,by rw[hv.out];rfl,(Upd.refl _ _).alloc _⟩
     ·have hv:=Qh (show ZC v=false by unfold ZC;rw[Zas hk];rfl);have Hk:=Qh (Zas hk);clear hk
      go_enter Try.func90,Try.ntmps90
      go_wp2_with fail
      refine(Zc3 Hi.out).mono ?_;rintro e w1 ⟨rfl,rfl⟩
      go_wp2_with fail
      refine(Zc3 Hk.out).mono ?_;rintro e w1 ⟨rfl,rfl⟩;go_wp2
      go_ret2
      exact⟨_,by rw[hv.out];rfl,(Upd.refl _ _).alloc _⟩
  ·have hv:=Qh (show ZC v=false by unfold ZC;rw[htb,Zas hi];simp);have Hi:=Qh (Zas hi);clear hi
   go_enter Try.func90,Try.ntmps90
   go_wp2_with fail
   refine(Zc3 Hi.out).mono ?_;rintro e w1 ⟨rfl,rfl⟩;go_wp2
   go_ret2
   exact⟨_,by rw[hv.out];rfl,(Upd.refl _ _).alloc _⟩
end
/- Operations:the version that they read,whether they are right. -/
section
open Go.RowKit
theorem ZmD (w:World) (x y:HOp):(Op.equalIn 10000 58 (.agg x.cells.toArray) (.agg y.cells.toArray)).run Try.prog w= .ok (decide (x=y)) w:=by
 obtain⟨a,b,c,d⟩:=x;obtain⟨a',b',c',d'⟩:=y;unfold HOp.cells;rw[run_equalIn_struct w _ _ _ _ (by kernel_rfl) (by kernel_rfl)];have hI:∀(w:World) (d:Nat) (x y:Int),(Op.equalIn (d+1) 3 (.int .i64 x) (.int .i64 y)).run Try.prog w= .ok (x==y) w:=fun w d x y=>run_equalIn_int w d _ _ _ x y Try.underlying3
 have hB:∀(w:World) (d:Nat) (x y:Bool),(Op.equalIn (d+1) 4 (.bool x) (.bool y)).run Try.prog w= .ok (x==y) w:=fun w d x y=>run_equalIn_bool w d _ x y Try.underlying4
 by_cases h1:a=a'<;>by_cases h2:b=b'<;>by_cases h3:c=c'<;>by_cases h4:d=d'<;>
  simp[Program.fieldsOf,Try.underlying58,Op.eqFields,part,hI,hB,h1,h2,h3,h4,Result.andThen]
theorem ZlG (w:World) (x y:HOp):(binOp .neq 58 (.agg #[.bool x.read,.int .i64 x.key,.int .i64 x.tx,.int .i64 x.nth]) (.agg #[.bool y.read,.int .i64 y.key,.int .i64 y.tx,.int .i64 y.nth])).run Try.prog w= .ok (.bool (x != y)) w:=by
 rw[run_neq_struct];have:=ZmD w x y;unfold HOp.cells at this;rw[this];simp only[Result.andThen]
 by_cases h:x=y<;>simp[h]
theorem oof (w:World) (o:HOp):Calls Try.prog 91 #[.agg o.cells.toArray] w fun e w'=>e= .returned (.agg (ZT o).cells.toArray)∧Upd No w w':=by
 obtain⟨r,k,t,n⟩:=o
 cases r
 ·unfold HOp.cells
  go_enter Try.func91,Try.ntmps91
  go_wp2;exact bodyPost_ret (v:= .agg #[.int .i64 0,.int .i64 0,.int .i64 0]) (by simp[results,Try.results91,go_sem]) rfl ⟨rfl,((Upd.refl _ _).alloc _).alloc _⟩
 ·unfold HOp.cells
  go_enter Try.func91,Try.ntmps91
  go_wp2;exact bodyPost_ret (v:= .agg #[.int .i64 t,.int .i64 k,.int .i64 n]) (by simp[results,Try.results91,go_sem]) rfl ⟨rfl,((Upd.refl _ _).alloc _).alloc _⟩
theorem rof (w:World) (o:HOp):Calls Try.prog 57 #[.agg o.cells.toArray] w fun e w'=>e= .returned (.agg (ZT o).cells.toArray)∧Upd No w w':=by
 obtain⟨r,k,t,n⟩:=o
 cases r
 ·unfold HOp.cells
  go_enter Try.func57,Try.ntmps57
  go_wp2;exact bodyPost_ret (v:= .agg #[.int .i64 0,.int .i64 0,.int .i64 0]) (by simp[results,Try.results57,go_sem]) rfl ⟨rfl,((Upd.refl _ _).alloc _).alloc _⟩
 ·unfold HOp.cells
  go_enter Try.func57,Try.ntmps57
  go_wp2;exact bodyPost_ret (v:= .agg #[.int .i64 t,.int .i64 k,.int .i64 n]) (by simp[results,Try.results57,go_sem]) rfl ⟨rfl,((Upd.refl _ _).alloc _).alloc _⟩
theorem ZnK (w:World) (v:Ver):Calls Try.prog 67 #[.agg v.cells.toArray] w fun e w'=>e= .returned (.bool (ZC v))∧Upd No w w':=by
 unfold Ver.cells;have i0:idB 0=false:=by decide
 by_cases ht:v.tx=0
 ·by_cases hk:idB v.key=true
  ·have hv:=Qh (show ZC v=(v.nth==0) by unfold ZC;rw[hk,ht,i0];simp);rw[ht];have Hk:=Qh hk;clear ht hk i0
   by_cases hn:v.nth=0
   ·have hnb:(v.nth==0)=true:=by simpa using hn
    have Hn:=Qh hn;clear hn
    go_enter Try.func67,Try.ntmps67
    go_wp2_with fail
    refine(Zay Hk.out).mono ?_;rintro e w1 ⟨rfl,rfl⟩;go_wp2
    go_ret
    exact⟨by rw[hv.out,hnb];rfl,(Upd.refl _ _).alloc _⟩
   ·have hnb:(v.nth==0)=false:=by simpa using hn
    have Hn:=Qh hn;clear hn
    go_enter Try.func67,Try.ntmps67
    go_wp2_with fail
    refine(Zay Hk.out).mono ?_;rintro e w1 ⟨rfl,rfl⟩;go_wp2
    go_ret
    exact⟨by rw[hv.out,hnb];rfl,(Upd.refl _ _).alloc _⟩
  ·have hv:=Qh (show ZC v=false by unfold ZC;rw[Zas hk];rfl);rw[ht];have Hk:=Qh (Zas hk);clear ht hk i0
   go_enter Try.func67,Try.ntmps67
   go_wp2_with fail
   refine(Zay Hk.out).mono ?_;rintro e w1 ⟨rfl,rfl⟩;go_wp2
   go_ret
   exact⟨by rw[hv.out];rfl,(Upd.refl _ _).alloc _⟩
 ·have htb:(v.tx==0)=false:=by simpa using ht
  have Ht:=Qh ht;clear ht i0
  by_cases hi:idB v.tx=true
  ·have Hi:=Qh hi;clear hi
   by_cases hk:idB v.key=true
   ·have Hk:=Qh hk;clear hk
    by_cases h1:1≤v.nth
    ·by_cases h2:v.nth≤4095
     ·have hv:=Qh (show ZC v=true by unfold ZC;rw[htb,Hi.out,Hk.out,decide_eq_true h1,decide_eq_true h2];rfl)
      go_enter Try.func67,Try.ntmps67
      go_wp2_with fail
      refine(Zay Hi.out).mono ?_;rintro e w1 ⟨rfl,rfl⟩
      go_wp2_with fail
      refine(Zay Hk.out).mono ?_;rintro e w1 ⟨rfl,rfl⟩;go_wp2
      go_ret
      exact⟨by rw[hv.out];rfl,(Upd.refl _ _).alloc _⟩
     ·have hv:=Qh (show ZC v=false by unfold ZC;rw[htb,Hi.out,Hk.out,decide_eq_false h2];simp);have h2b:decide (v.nth≤4095)=false:=decide_eq_false h2
      go_enter Try.func67,Try.ntmps67
      go_wp2_with fail
      refine(Zay Hi.out).mono ?_;rintro e w1 ⟨rfl,rfl⟩
      go_wp2_with fail
      refine(Zay Hk.out).mono ?_;rintro e w1 ⟨rfl,rfl⟩;go_wp2
      go_ret
      exact⟨by rw[hv.out];rfl,(Upd.refl _ _).alloc _⟩
    ·have hv:=Qh (show ZC v=false by unfold ZC;rw[htb,Hi.out,Hk.out,decide_eq_false h1];simp)
     go_enter Try.func67,Try.ntmps67
     go_wp2_with fail
     refine(Zay Hi.out).mono ?_;rintro e w1 ⟨rfl,rfl⟩
     go_wp2_with fail
     refine(Zay Hk.out).mono ?_;rintro e w1 ⟨rfl,rfl⟩;go_wp2
     go_ret
     exact⟨by rw[hv.out];rfl,(Upd.refl _ _).alloc _⟩
   ·have hv:=Qh (show ZC v=false by unfold ZC;rw[Zas hk];rfl);have Hk:=Qh (Zas hk);clear hk
    go_enter Try.func67,Try.ntmps67
    go_wp2_with fail
    refine(Zay Hi.out).mono ?_;rintro e w1 ⟨rfl,rfl⟩
    go_wp2_with fail
    refine(Zay Hk.out).mono ?_;rintro e w1 ⟨rfl,rfl⟩;go_wp2
    go_ret
    exact⟨by rw[hv.out];rfl,(Upd.refl _ _).alloc _⟩
  ·have hv:=Qh (show ZC v=false by unfold ZC;rw[htb,Zas hi];simp);have Hi:=Qh (Zas hi);clear hi
   go_enter Try.func67,Try.ntmps67
   go_wp2_with fail
   refine(Zay Hi.out).mono ?_;rintro e w1 ⟨rfl,rfl⟩;go_wp2
   go_ret
   exact⟨by rw[hv.out];rfl,(Upd.refl _ _).alloc _⟩
theorem Zjx (w:World) (o:HOp):Calls Try.prog 66 #[.agg o.cells.toArray] w fun e w'=>e= .returned (.int .i64 (ZmF (opB o)))∧Upd No w w':=by
 obtain⟨r,k,t,n⟩:=o
 cases r
 ·have hN:=ZlG;unfold HOp.cells
  by_cases hz:(⟨false,k,t,n⟩:HOp)=⟨false,k,0,0⟩
  ·have hzb:((⟨false,k,t,n⟩:HOp) != ⟨false,k,0,0⟩)=false:=by rw[hz];simp
   have h0:t=0∧n=0:=by injection hz with _ _ h3 h4;exact⟨h3,h4⟩
   by_cases h1:k<1
   ·have hv:=Qh (show opB ⟨false,k,t,n⟩=false by unfold opB idB;rw[decide_eq_false (show¬1≤k by omega)];rfl);clear hz h0;have qn:=fun w=>(hN w ⟨false,k,t,n⟩ ⟨false,k,0,0⟩).trans (by rw[hzb])
    clear hN hzb
    go_enter Try.func66,Try.ntmps66
    go_wp2
    go_ret
    exact⟨by rw[hv.out];rfl,(Upd.refl _ _).alloc _⟩
   ·by_cases h2:1048575<k
    ·have hv:=Qh (show opB ⟨false,k,t,n⟩=false by unfold opB idB;rw[decide_eq_false (show¬k≤1048575 by omega)];simp);clear hz h0;have qn:=fun w=>(hN w ⟨false,k,t,n⟩ ⟨false,k,0,0⟩).trans (by rw[hzb])
     clear hN hzb
     go_enter Try.func66,Try.ntmps66
     go_wp2
     go_ret
     exact⟨by rw[hv.out];rfl,(Upd.refl _ _).alloc _⟩
    ·have hv:=Qh (show opB ⟨false,k,t,n⟩=true by unfold opB idB;rw[decide_eq_true (show k≤1048575 by omega),decide_eq_true (show 1≤k by omega),h0.1,h0.2];rfl);clear hz h0;have qn:=fun w=>(hN w ⟨false,k,t,n⟩ ⟨false,k,0,0⟩).trans (by rw[hzb])
     clear hN hzb
     go_enter Try.func66,Try.ntmps66
     go_wp2
     go_ret
     exact⟨by rw[hv.out];rfl,(Upd.refl _ _).alloc _⟩
  ·have hzb:((⟨false,k,t,n⟩:HOp) != ⟨false,k,0,0⟩)=true:=by simpa using hz
   have hv:=Qh (show opB ⟨false,k,t,n⟩=false by
    unfold opB
    by_cases h3:t=0
    ·by_cases h4:n=0
     ·exact absurd (by rw[h3,h4]) hz
     ·simp[h4]
    ·simp[h3])
   clear hz;have qn:=fun w=>(hN w ⟨false,k,t,n⟩ ⟨false,k,0,0⟩).trans (by rw[hzb])
   clear hN hzb
   go_enter Try.func66,Try.ntmps66
   go_wp2
   go_ret
   exact⟨by rw[hv.out];rfl,(Upd.refl _ _).alloc _⟩
 ·have hv:=Qh (show opB ⟨true,k,t,n⟩=ZC ⟨t,k,n⟩ from rfl);unfold HOp.cells
  go_enter Try.func66,Try.ntmps66
  go_wp2_with fail
  refine(oof _ ⟨true,k,t,n⟩).mono ?_;rintro e w1 ⟨rfl,hu1⟩
  go_wp2_with fail
  refine(ZnW _ ⟨t,k,n⟩).mono ?_;rintro e w2 ⟨x,rfl,hu2⟩;go_wp2
  go_ret
  exact⟨by rw[hv.out];rfl,(((Upd.refl _ _).alloc _).trans hu1).trans hu2⟩
theorem Zg8 (w:World) (o:HOp):Calls Try.prog 49 #[.agg o.cells.toArray] w fun e w'=>e= .returned (.bool (opB o))∧Upd No w w':=by
 obtain⟨r,k,t,n⟩:=o
 cases r
 ·unfold HOp.cells
  by_cases hk:idB k=true
  ·have Hk:=Qh hk;clear hk
   by_cases h3:t=0
   ·have hv:=Qh (show opB ⟨false,k,t,n⟩=(n==0) by unfold opB;rw[h3,Hk.out];rfl);have h3b:(t==0)=true:=by simpa using h3
    clear h3
    by_cases h4:n=0
    ·have h4b:(n==0)=true:=by simpa using h4
     clear h4
     go_enter Try.func49,Try.ntmps49
     go_wp2_with fail
     refine(Zay Hk.out).mono ?_;rintro e w1 ⟨rfl,rfl⟩;go_wp2
     go_ret
     exact⟨by rw[hv.out,h4b];rfl,(Upd.refl _ _).alloc _⟩
    ·have h4b:(n==0)=false:=by simpa using h4
     clear h4
     go_enter Try.func49,Try.ntmps49
     go_wp2_with fail
     refine(Zay Hk.out).mono ?_;rintro e w1 ⟨rfl,rfl⟩;go_wp2
     go_ret
     exact⟨by rw[hv.out,h4b];rfl,(Upd.refl _ _).alloc _⟩
   ·have h3b:(t==0)=false:=by simpa using h3
    have hv:=Qh (show opB ⟨false,k,t,n⟩=false by unfold opB;simp[h3]);clear h3
    go_enter Try.func49,Try.ntmps49
    go_wp2_with fail
    refine(Zay Hk.out).mono ?_;rintro e w1 ⟨rfl,rfl⟩;go_wp2
    go_ret
    exact⟨by rw[hv.out];rfl,(Upd.refl _ _).alloc _⟩
  ·have hv:=Qh (show opB ⟨false,k,t,n⟩=false by unfold opB;simp[Zas hk]);have Hk:=Qh (Zas hk);clear hk
   go_enter Try.func49,Try.ntmps49
   go_wp2_with fail
   refine(Zay Hk.out).mono ?_;rintro e w1 ⟨rfl,rfl⟩;go_wp2
   go_ret
   exact⟨by rw[hv.out];rfl,(Upd.refl _ _).alloc _⟩
 ·have hv:=Qh (show opB ⟨true,k,t,n⟩=ZC ⟨t,k,n⟩ from rfl);unfold HOp.cells
  go_enter Try.func49,Try.ntmps49
  go_wp2_with fail
  refine(rof _ ⟨true,k,t,n⟩).mono ?_;rintro e w1 ⟨rfl,hu1⟩
  go_wp2_with fail
  refine(ZnK _ ⟨t,k,n⟩).mono ?_;rintro e w2 ⟨rfl,hu2⟩;go_wp2
  go_ret
  exact⟨by rw[hv.out];rfl,(((Upd.refl _ _).alloc _).trans hu1).trans hu2⟩
end
/- Levels:which level bars which phenomenon;the words. -/
section
open Go.RowKit
def Zcl (l p:Int):Bool:=decide (1≤l∧l≤3∧1≤p∧p≤5)&&(p==1||((decide (p<5)&&decide (2≤l))||l==3))
def Zhx (b1 b2 b3 b4 b5:Bool):Int:=if b1 then 0 else if b2 then 1 else if b3 then 1 else if b4 then 1 else if b5 then 2 else 3
def Zaa (l:Int):ByteArray:=if l=0 then ⟨#[110,111,110,101]⟩ else if l=1 then ⟨#[80,76,45,49]⟩ else if l=2 then ⟨#[80,76,45,50]⟩ else if l=3 then ⟨#[80,76,45,51]⟩ else ⟨#[]⟩
def Zae (p:Int):ByteArray:=if p=1 then ⟨#[71,48]⟩ else if p=2 then ⟨#[71,49,97]⟩ else if p=3 then ⟨#[71,49,98]⟩ else if p=4 then ⟨#[71,49,99]⟩ else if p=5 then ⟨#[71,50,45,105,116,101,109]⟩ else ⟨#[]⟩
def Zi0 (p:Int):ByteArray:=if p=1 then ⟨#[103,48]⟩ else if p=2 then ⟨#[103,49,97]⟩ else if p=3 then ⟨#[103,49,98]⟩ else if p=4 then ⟨#[103,49,99]⟩ else if p=5 then ⟨#[103,50]⟩ else ⟨#[]⟩
theorem ZgN {l p:Int} (h:¬(1≤l∧l≤3)):Zcl l p=false:=by unfold Zcl;rw[decide_eq_false (by omega)];rfl
theorem ZfM {l p:Int} (h:¬(1≤p∧p≤5)):Zcl l p=false:=by unfold Zcl;rw[decide_eq_false (by omega)];rfl
set_option maxRecDepth 100000 in
set_option maxHeartbeats 2000000 in
theorem Zlt (w:World) (l p:Int):Calls Try.prog 64 #[.int .i64 l,.int .i64 p] w fun e w'=>e= .returned (.bool (Zcl l p))∧w=w':=by
 by_cases h1:l<1
 ·have d1:decide (l<1)=true:=decide_eq_true h1;rw[ZgN (by omega)]
  go_enter Try.func64,Try.ntmps64
  go_wp2
  go_ret
  exact⟨rfl,rfl⟩
 have d1:decide (l<1)=false:=decide_eq_false h1
 by_cases h2:3<l
 ·have d2:decide (3<l)=true:=decide_eq_true h2;rw[ZgN (by omega)]
  go_enter Try.func64,Try.ntmps64
  go_wp2
  go_ret
  exact⟨rfl,rfl⟩
 have d2:decide (3<l)=false:=decide_eq_false h2
 by_cases h3:p<1
 ·have d3:decide (p<1)=true:=decide_eq_true h3;rw[ZfM (by omega)]
  go_enter Try.func64,Try.ntmps64
  go_wp2
  go_ret
  exact⟨rfl,rfl⟩
 have d3:decide (p<1)=false:=decide_eq_false h3
 by_cases h4:5<p
 ·have d4:decide (5<p)=true:=decide_eq_true h4;rw[ZfM (by omega)]
  go_enter Try.func64,Try.ntmps64
  go_wp2
  go_ret
  exact⟨rfl,rfl⟩
 have hl:l=1∨l=2∨l=3:=by omega
 have hp:p=1∨p=2∨p=3∨p=4∨p=5:=by omega
 clear d1 d2 d3 h1 h2 h3 h4;rcases hl with rfl|rfl|rfl
 ·rcases hp with rfl|rfl|rfl|rfl|rfl
  ·go_enter Try.func64,Try.ntmps64
   go_wp2
   go_ret
   exact⟨rfl,rfl⟩
  ·go_enter Try.func64,Try.ntmps64
   go_wp2
   go_ret
   exact⟨rfl,rfl⟩
  ·go_enter Try.func64,Try.ntmps64
   go_wp2
   go_ret
   exact⟨rfl,rfl⟩
  ·go_enter Try.func64,Try.ntmps64
   go_wp2
   go_ret
   exact⟨rfl,rfl⟩
  ·go_enter Try.func64,Try.ntmps64
   go_wp2
   go_ret
   exact⟨rfl,rfl⟩
 ·rcases hp with rfl|rfl|rfl|rfl|rfl
  ·go_enter Try.func64,Try.ntmps64
   go_wp2
   go_ret
   exact⟨rfl,rfl⟩
  ·go_enter Try.func64,Try.ntmps64
   go_wp2
   go_ret
   exact⟨rfl,rfl⟩
  ·go_enter Try.func64,Try.ntmps64
   go_wp2
   go_ret
   exact⟨rfl,rfl⟩
  ·go_enter Try.func64,Try.ntmps64
   go_wp2
   go_ret
   exact⟨rfl,rfl⟩
  ·go_enter Try.func64,Try.ntmps64
   go_wp2
   go_ret
   exact⟨rfl,rfl⟩
 ·rcases hp with rfl|rfl|rfl|rfl|rfl
  ·go_enter Try.func64,Try.ntmps64
   go_wp2
   go_ret
   exact⟨rfl,rfl⟩
  ·go_enter Try.func64,Try.ntmps64
   go_wp2
   go_ret
   exact⟨rfl,rfl⟩
  ·go_enter Try.func64,Try.ntmps64
   go_wp2
   go_ret
   exact⟨rfl,rfl⟩
  ·go_enter Try.func64,Try.ntmps64
   go_wp2
   go_ret
   exact⟨rfl,rfl⟩
  ·go_enter Try.func64,Try.ntmps64
   go_wp2
   go_ret
   exact⟨rfl,rfl⟩
set_option maxRecDepth 100000 in
theorem Znv (w:World) (l:Int):Calls Try.prog 23 #[.int .i64 l] w fun e w'=>e= .returned (.string (Zaa l))∧Upd No w w':=by
 by_cases h1:l<0
 ·have d1:decide (l<0)=true:=decide_eq_true h1;rw[show Zaa l=⟨#[]⟩ by unfold Zaa;rw[if_neg (by omega),if_neg (by omega),if_neg (by omega),if_neg (by omega)]]
  go_enter Try.func23,Try.ntmps23
  go_wp2
  go_ret
  exact⟨rfl,(Upd.refl No w).alloc _⟩
 by_cases h2:4≤l
 ·have d1:decide (l<0)=false:=decide_eq_false h1;have d2:decide (4≤l)=true:=decide_eq_true h2;rw[show Zaa l=⟨#[]⟩ by unfold Zaa;rw[if_neg (by omega),if_neg (by omega),if_neg (by omega),if_neg (by omega)]]
  go_enter Try.func23,Try.ntmps23
  go_wp2
  go_ret
  exact⟨rfl,(Upd.refl No w).alloc _⟩
 have hl:l=0∨l=1∨l=2∨l=3:=by omega
 clear h1 h2;rcases hl with rfl|rfl|rfl|rfl
 ·go_enter Try.func23,Try.ntmps23
  go_wp2
  go_ret
  exact⟨rfl,(Upd.refl No w).alloc _⟩
 ·go_enter Try.func23,Try.ntmps23
  go_wp2
  go_ret
  exact⟨rfl,(Upd.refl No w).alloc _⟩
 ·go_enter Try.func23,Try.ntmps23
  go_wp2
  go_ret
  exact⟨rfl,(Upd.refl No w).alloc _⟩
 ·go_enter Try.func23,Try.ntmps23
  go_wp2
  go_ret
  exact⟨rfl,(Upd.refl No w).alloc _⟩
set_option maxRecDepth 100000 in
theorem Zlq (w:World) (l:Int):Calls Try.prog 26 #[.int .i64 l] w fun e w'=>e= .returned (.string (Zaa l))∧Upd No w w':=by
 by_cases h1:l<0
 ·have d1:decide (l<0)=true:=decide_eq_true h1;rw[show Zaa l=⟨#[]⟩ by unfold Zaa;rw[if_neg (by omega),if_neg (by omega),if_neg (by omega),if_neg (by omega)]]
  go_enter Try.func26,Try.ntmps26
  go_wp2
  go_ret
  exact⟨rfl,(Upd.refl No w).alloc _⟩
 by_cases h2:3<l
 ·have d1:decide (l<0)=false:=decide_eq_false h1;have d2:decide (3<l)=true:=decide_eq_true h2;rw[show Zaa l=⟨#[]⟩ by unfold Zaa;rw[if_neg (by omega),if_neg (by omega),if_neg (by omega),if_neg (by omega)]]
  go_enter Try.func26,Try.ntmps26
  go_wp2
  go_ret
  exact⟨rfl,(Upd.refl No w).alloc _⟩
 have hl:l=0∨l=1∨l=2∨l=3:=by omega
 clear h1 h2;rcases hl with rfl|rfl|rfl|rfl
 ·go_enter Try.func26,Try.ntmps26
  go_wp2
  go_ret
  exact⟨rfl,(Upd.refl No w).alloc _⟩
 ·go_enter Try.func26,Try.ntmps26
  go_wp2
  go_ret
  exact⟨rfl,(Upd.refl No w).alloc _⟩
 ·go_enter Try.func26,Try.ntmps26
  go_wp2
  go_ret
  exact⟨rfl,(Upd.refl No w).alloc _⟩
 ·go_enter Try.func26,Try.ntmps26
  go_wp2
  go_ret
  exact⟨rfl,(Upd.refl No w).alloc _⟩
set_option maxRecDepth 100000 in
theorem Znu (w:World) (p:Int):Calls Try.prog 45 #[.int .i64 p] w fun e w'=>e= .returned (.tuple #[.string (Zae p),.string (Zi0 p)])∧w=w':=by
 by_cases p1:p=1
 ·subst p1
  go_enter Try.func45,Try.ntmps45
  go_wp2
  go_ret2
  exact⟨rfl,rfl⟩
 by_cases p2:p=2
 ·subst p2
  go_enter Try.func45,Try.ntmps45
  go_wp2
  go_ret2
  exact⟨rfl,rfl⟩
 by_cases p3:p=3
 ·subst p3
  go_enter Try.func45,Try.ntmps45
  go_wp2
  go_ret2
  exact⟨rfl,rfl⟩
 by_cases p4:p=4
 ·subst p4
  go_enter Try.func45,Try.ntmps45
  go_wp2
  go_ret2
  exact⟨rfl,rfl⟩
 by_cases p5:p=5
 ·subst p5
  go_enter Try.func45,Try.ntmps45
  go_wp2
  go_ret2
  exact⟨rfl,rfl⟩
 have q1:(p==1)=false:=by simpa using p1
 have q2:(p==2)=false:=by simpa using p2
 have q3:(p==3)=false:=by simpa using p3
 have q4:(p==4)=false:=by simpa using p4
 have q5:(p==5)=false:=by simpa using p5
 rw[show Zae p=⟨#[]⟩ by unfold Zae;rw[if_neg p1,if_neg p2,if_neg p3,if_neg p4,if_neg p5],show Zi0 p=⟨#[]⟩ by unfold Zi0;rw[if_neg p1,if_neg p2,if_neg p3,if_neg p4,if_neg p5]]
 go_enter Try.func45,Try.ntmps45
 go_wp2
 go_ret2
 exact⟨rfl,rfl⟩
theorem Zk6 (w:World) (p:Int):Calls Try.prog 24 #[.int .i64 p] w fun e w'=>e= .returned (.string (Zae p))∧w=w':=by
 have C:=Qh (Znu w p)
 go_enter Try.func24,Try.ntmps24
 go_wp2_with fail
 refine(C.out).mono ?_;rintro e w1 ⟨rfl,rfl⟩;go_wp2
 go_ret
 exact⟨rfl,rfl⟩
set_option maxRecDepth 100000 in
theorem Zil (w:World) (p:Int):Calls Try.prog 27 #[.int .i64 p] w fun e w'=>e= .returned (.string (Zae p))∧Upd No w w':=by
 by_cases h1:p<0
 ·have d1:decide (p<0)=true:=decide_eq_true h1;rw[show Zae p=⟨#[]⟩ by unfold Zae;rw[if_neg (by omega),if_neg (by omega),if_neg (by omega),if_neg (by omega),if_neg (by omega)]]
  go_enter Try.func27,Try.ntmps27
  go_wp2
  go_ret
  exact⟨rfl,(Upd.refl No w).alloc _⟩
 by_cases h2:5<p
 ·have d1:decide (p<0)=false:=decide_eq_false h1;have d2:decide (5<p)=true:=decide_eq_true h2;rw[show Zae p=⟨#[]⟩ by unfold Zae;rw[if_neg (by omega),if_neg (by omega),if_neg (by omega),if_neg (by omega),if_neg (by omega)]]
  go_enter Try.func27,Try.ntmps27
  go_wp2
  go_ret
  exact⟨rfl,(Upd.refl No w).alloc _⟩
 have hp:p=0∨p=1∨p=2∨p=3∨p=4∨p=5:=by omega
 clear h1 h2;rcases hp with rfl|rfl|rfl|rfl|rfl|rfl
 ·go_enter Try.func27,Try.ntmps27
  go_wp2
  go_ret
  exact⟨rfl,(Upd.refl No w).alloc _⟩
 ·go_enter Try.func27,Try.ntmps27
  go_wp2
  go_ret
  exact⟨rfl,(Upd.refl No w).alloc _⟩
 ·go_enter Try.func27,Try.ntmps27
  go_wp2
  go_ret
  exact⟨rfl,(Upd.refl No w).alloc _⟩
 ·go_enter Try.func27,Try.ntmps27
  go_wp2
  go_ret
  exact⟨rfl,(Upd.refl No w).alloc _⟩
 ·go_enter Try.func27,Try.ntmps27
  go_wp2
  go_ret
  exact⟨rfl,(Upd.refl No w).alloc _⟩
 ·go_enter Try.func27,Try.ntmps27
  go_wp2
  go_ret
  exact⟨rfl,(Upd.refl No w).alloc _⟩
end
/- Arrays of six Booleans:they are compared,filled and written. -/
section
open Go.RowKit
def ZfY (f:Int→Bool) (k:Nat):List Value:=(List.range 6).map fun i=> .bool (decide (i<k)&&f (i:Int))
theorem Zbs (f:Int→Bool):ZfY f 6=[.bool (f 0),.bool (f 1),.bool (f 2),.bool (f 3),.bool (f 4),.bool (f 5)]:=by unfold ZfY;rfl
theorem ZeM (f:Int→Bool) {k:Nat} (hk:k<6):(ZfY f 6)[k]? =some (.bool (f (k:Int))):=by
 rcases(show k=0∨k=1∨k=2∨k=3∨k=4∨k=5 by omega)with rfl|rfl|rfl|rfl|rfl|rfl<;>rfl
end
/- Levels:the strongest level;the phenomenon of a code. -/
section
open Go.RowKit
def Zar (f:Int→Bool) (l:Int):Nat→Bool
 |0=>true
 |n+1=>if (f ((n+1:Nat):Int)&&Zcl l ((n+1:Nat):Int))=true then false else Zar f l n
def Zck (f:Int→Bool):Nat→Int
 |0=>0
 |n+1=>if Zar f ((n+1:Nat):Int) 5=true then ((n+1:Nat):Int) else Zck f n
theorem ZkO (f:Int→Bool):Zck f 3=Zhx (f 1) (f 2) (f 3) (f 4) (f 5):=by
 have h:∀b1 b2 b3 b4 b5:Bool,(∀g:Int→Bool,g 1=b1→g 2=b2→g 3=b3→g 4=b4→g 5=b5→Zck g 3=Zhx b1 b2 b3 b4 b5):=by
  intro b1 b2 b3 b4 b5 g h1 h2 h3 h4 h5;have c:∀l p:Int,∀v,Zcl l p=v→Zcl l p=v:=fun _ _ _ h=>h
  unfold Zck Zar Zck Zar Zck Zar Zck Zar Zar Zar Zar Zar;simp only[Zar,show((0+1:Nat):Int)=1 from rfl,show((1+1:Nat):Int)=2 from rfl,show((2+1:Nat):Int)=3 from rfl,show((3+1:Nat):Int)=4 from rfl,show((4+1:Nat):Int)=5 from rfl,h1,h2,h3,h4,h5]
  cases b1<;>cases b2<;>cases b3<;>cases b4<;>cases b5<;>rfl
 exact h _ _ _ _ _ f rfl rfl rfl rfl rfl
set_option maxRecDepth 100000 in
set_option maxHeartbeats 2000000 in
theorem Znk (w:World) (f:Int→Bool):Calls Try.prog 44 #[.agg #[.bool (f 0),.bool (f 1),.bool (f 2),.bool (f 3),.bool (f 4),.bool (f 5)]] w fun e w'=>e= .returned (.int .i64 (Zhx (f 1) (f 2) (f 3) (f 4) (f 5)))∧Upd No w w':=by
 rw[←ZkO];obtain⟨z,hz⟩:∃z,w.heap.size=z:=⟨_,rfl⟩;obtain⟨wb,hwb⟩:∃wb,w.alloc (.cells #[.bool (f 0),.bool (f 1),.bool (f 2),.bool (f 3),.bool (f 4),.bool (f 5)] 23)=wb:=⟨_,rfl⟩;have u0:Upd No w wb:=by rw[←hwb];exact(Upd.refl No w).alloc _
 have bA:Blk wb z 23 (ZfY f 6):=by rw[Zbs,←hwb,←hz];exact Blk.new w _ _
 have HC:=Qh (fun W (u:Upd No wb W) k (hk:k<6)=>show W.cell? ⟨z,k,none⟩=some (.bool (f (k:Int))) from by rw[(bA.upd u id).cell];exact ZeM f hk);have U0:=Qh u0;have HB:=Qh (fun W l p=>Zlt W l p);clear u0 bA
 go_enter Try.func44,Try.ntmps44
 go_wp2;clear hwb
 go_loopg [3,4] 3 (fun gk b i wr=>∃k:Nat,k+gk=3∧i= .int .i64 (((k+1:Nat):Int))∧b= .int .i64 (Zck f k)∧Hid (Upd No wb wr))
 case atStart=>exact⟨0,by omega,rfl,rfl,Qh (Upd.refl _ _)⟩
 case round=>
  obtain⟨k,hgk,rfl,rfl,hu⟩:=hrel
  by_cases hk:k<3
  ·obtain⟨LV,hLV⟩:∃LV:Int,((k+1:Nat):Int)=LV:=⟨_,rfl⟩;have HLV:=Qh hLV;rw[hLV];have l1:LV≤3:=by omega
   have lw:IntKind.i64.wrap (LV+1)=LV+1:=IntWalk.i64_in _ (by omega);obtain⟨BK,hBK⟩:∃BK,Zck f k=BK:=⟨_,rfl⟩;have HBK:=Qh (show Zck f (k+1)=if Zar f LV 5=true then LV else BK by rw[←hBK,←hLV];rfl);rw[hBK];obtain⟨wo,hwo⟩:∃wo,wo=wr:=⟨_,rfl⟩;subst hwo;clear hLV hBK;go_wp2
   generalize gk=GK at*
   go_loopg [5,6] 5 (fun gk fn i wx=>∃j:Nat,j+gk=5∧i= .int .i64 (((j+1:Nat):Int))∧fn= .bool (Zar f LV j)∧Hid (Upd No wo wx))
   case atStart=>exact⟨0,by omega,rfl,rfl,Qh (Upd.refl _ _)⟩
   case round=>
    obtain⟨j,hgj,rfl,rfl,hu2⟩:=hrel
    by_cases hj:j<5
    ·have HCJ:=HC.out wr (hu.out.trans hu2.out) (j+1) (by omega);have HF:=Qh (show Zar f LV (j+1)=if (f ((j+1:Nat):Int)&&Zcl LV ((j+1:Nat):Int))=true then false else Zar f LV j from rfl);obtain⟨PJ,hPJ⟩:∃PJ:Int,((j+1:Nat):Int)=PJ:=⟨_,rfl⟩;have HPJ:=Qh hPJ;have hpn:PJ.toNat=j+1:=by omega
     rw[hPJ]at HCJ HF ⊢;have l2:PJ≤5:=by omega
     have l3:(0:Int)≤PJ:=by omega
     have l4:PJ<6:=by omega
     have pw:IntKind.i64.wrap (PJ+1)=PJ+1:=IntWalk.i64_in _ (by omega);obtain⟨fv,hfv⟩:∃fv,f PJ=fv:=⟨_,rfl⟩;obtain⟨bv,hbv⟩:∃bv,Zcl LV PJ=bv:=⟨_,rfl⟩;obtain⟨nv,hnv⟩:∃nv,Zar f LV j=nv:=⟨_,rfl⟩;have CB:=Qh (HB.out wr LV PJ);rw[hfv]at HCJ HF;rw[hbv]at HF CB;rw[hnv]at HF ⊢;clear hPJ hfv hbv hnv
     cases fv
     ·go_wp2
      go_roundg (gk-1)
      case measure=>omega
      case rel=>exact⟨j+1,by omega,by have:=HPJ.out;simp;omega,by rw[HF.out];simp,hu2⟩
     ·cases bv
      ·go_wp2_with fail
       refine(CB.out).mono ?_;rintro e w3 ⟨rfl,rfl⟩;go_wp2
       go_roundg (gk-1)
       case measure=>omega
       case rel=>exact⟨j+1,by omega,by have:=HPJ.out;simp;omega,by rw[HF.out];simp,hu2⟩
      ·go_wp2_with fail
       refine(CB.out).mono ?_;rintro e w3 ⟨rfl,rfl⟩;go_wp2
       go_roundg (gk-1)
       case measure=>omega
       case rel=>exact⟨j+1,by omega,by have:=HPJ.out;simp;omega,by rw[HF.out];simp,hu2⟩
    ·obtain rfl:j=5:=by omega
     obtain⟨fv,hfv⟩:∃fv,Zar f LV 5=fv:=⟨_,rfl⟩;rw[hfv]at HBK ⊢;clear hfv
     cases fv
     ·go_wp2
      go_roundg (GK-1)
      case measure=>omega
      case rel=>exact⟨k+1,by omega,by have:=HLV.out;simp;omega,by rw[HBK.out];simp,Qh (hu.out.trans hu2.out)⟩
     ·go_wp2
      go_roundg (GK-1)
      case measure=>omega
      case rel=>exact⟨k+1,by omega,by have:=HLV.out;simp;omega,by rw[HBK.out];simp,Qh (hu.out.trans hu2.out)⟩
  ·obtain rfl:k=3:=by omega
   go_wp2
   go_ret
   exact⟨rfl,U0.out.trans hu.out⟩
end
/- How many writes of a key there are;whether a history is light. -/
section
open Go.RowKit
def isW (key:Int) (o:HOp):Bool:= !o.read&&o.key==key
def wrN (l:List HOp) (key:Int) (k:Nat):Nat:=((l.take k).filter (isW key)).length
def Ze (l:List HOp) (key:Int):Nat:=wrN l key l.length
theorem ZgY {l:List HOp} {key:Int} {k:Nat} (hk:k<l.length):wrN l key (k+1)=wrN l key k+if isW key l[k]=true then 1 else 0:=by
 unfold wrN;rw[List.take_succ_eq_append_getElem hk,List.filter_append,List.length_append]
 by_cases h:isW key l[k]=true
 ·rw[if_pos h,List.filter_cons_of_pos h];rfl
 ·rw[if_neg h,List.filter_cons_of_neg h];rfl
theorem Zib {l:List HOp} {key:Int} {k:Nat} {x:HOp} (hk:k<l.length) (hx:l[k]=x) (h:isW key x=true):wrN l key (k+1)=wrN l key k+1:=by
 subst hx;rw[ZgY hk,if_pos h]
theorem Ze9 {l:List HOp} {key:Int} {k:Nat} {x:HOp} (hk:k<l.length) (hx:l[k]=x) (h:isW key x=false):wrN l key (k+1)=wrN l key k:=by
 subst hx;rw[ZgY hk,if_neg (by rw[h];decide),Nat.add_zero]
theorem ZlW (l:List HOp) (key:Int) (k:Nat):wrN l key k≤k:=by
 unfold wrN;have h1:=List.length_filter_le (isW key) (l.take k);have h2:=List.length_take_le k l;omega
set_option maxRecDepth 100000 in
theorem Za8 (F:Nat→Prop) (w:World) (A:Option Addr) (c:Nat) (l:List HOp) (key:Int) (h:HOps F w A l) (hl:Zy l.length):
  Calls Try.prog 76 #[.slice A l.length c,.int .i64 key] w fun e w'=>e= .returned (.int .i64 ((Ze l key:Nat):Int))∧Upd No w w':=by
 unfold Zy at hl
 go_enter Try.func76,Try.ntmps76
 go_wp2
 go_loopg [5,10] l.length (fun gk n i wr=>∃k:Nat,k+gk=l.length∧i= .int .i64 k∧n= .int .i64 ((wrN l key k:Nat):Int)∧Upd No w wr)
 case atStart=>exact⟨0,by omega,rfl,rfl,Upd.refl _ _⟩
 case round=>
  obtain⟨k,hgk,rfl,rfl,hu⟩:=hrel
  by_cases hlt:k<l.length
  ·obtain⟨ad,hAd,c0,c1,c2,c3⟩:=(h.upd hu (fun _ _=>id)).at_ hlt;obtain⟨x,hx⟩:∃x,l[k]=x:=⟨_,rfl⟩;rw[hx]at c0 c1 c2 c3;have hw:=ZlW l key k;obtain⟨r,ky,tx,nt⟩:=x;have X:=Qh hx;clear hx;subst hAd
   cases r
   ·by_cases hk:ky=key
    ·have hkb:(ky==key)=true:=by simpa using hk
     have HS:=Qh (Zib (key:=key) hlt X.out (by unfold isW;rw[hkb];rfl));clear hk;go_wp2
     go_roundg (gk-1)
     case measure=>omega
     case rel=>exact⟨k+1,by omega,by go_num,by rw[HS.out];go_num,hu.alloc _⟩
    ·have hkb:(ky==key)=false:=by simpa using hk
     have HS:=Qh (Ze9 (key:=key) hlt X.out (by unfold isW;rw[hkb];rfl));clear hk;go_wp2
     go_roundg (gk-1)
     case measure=>omega
     case rel=>exact⟨k+1,by omega,by go_num,by rw[HS.out],hu.alloc _⟩
   ·have HS:=Qh (Ze9 (key:=key) hlt X.out rfl);go_wp2
    go_roundg (gk-1)
    case measure=>omega
    case rel=>exact⟨k+1,by omega,by go_num,by rw[HS.out],hu.alloc _⟩
  ·obtain rfl:k=l.length:=by omega
   go_wp2
   go_ret
   exact⟨rfl,hu⟩
def ZF (h:Hist):Bool:=decide (h.txs.length≤12)&&decide (h.ords.length≤24)&&h.txs.all (fun t=>decide (t.ops.length≤24))&&h.ords.all (fun o=>decide (o.txs.length≤24))
end
/- Whether a history is light,by the document. -/
section
open Go.RowKit
theorem ZhX {α:Type} {l:List α} {p:α→Bool} {k:Nat} (hk:k<l.length) (h:(l.take k).all p=true) (h1:p l[k]=true):(l.take (k+1)).all p=true:=by
 rw[List.take_succ_eq_append_getElem hk,List.all_append,h];simp[h1]
theorem Zix {α:Type} {l:List α} {p:α→Bool} {k:Nat} (hk:k<l.length) (h1:p l[k]=false):l.all p=false:=by
 rw[←Bool.not_eq_true];intro h;rw[List.all_eq_true.1 h _ (List.getElem_mem hk)]at h1
 cases h1
set_option maxRecDepth 100000 in
theorem Zmh (F:Nat→Prop) (w:World) (h:Hist) (H:h.lies F w):Calls Try.prog 4 #[h.val] w fun e w'=>e= .returned (.bool (ZF h))∧Upd No w w':=by
 obtain⟨txs,ords,A,c,B,d⟩:=h;unfold Hist.val;have hf:=H.few;have hfo:=H.fewo;simp only at hf hfo
 by_cases h1:12<txs.length
 ·have hv:=Qh (show ZF ⟨txs,ords,A,c,B,d⟩=false by unfold ZF;rw[decide_eq_false (by simp only;omega)];rfl)
  go_enter Try.func4,Try.ntmps4
  go_wp2
  go_ret
  exact⟨by rw[hv.out];rfl,(Upd.refl _ _).alloc _⟩
 ·by_cases h2:24<ords.length
  ·have hv:=Qh (show ZF ⟨txs,ords,A,c,B,d⟩=false by unfold ZF;rw[decide_eq_false (show¬ords.length≤24 by omega)];simp)
   go_enter Try.func4,Try.ntmps4
   go_wp2
   go_ret
   exact⟨by rw[hv.out];rfl,(Upd.refl _ _).alloc _⟩
  ·have hb:=Blk.new w 39 [.slice A txs.length c,.slice B ords.length d];have e0:(w.alloc (.cells #[.slice A txs.length c,.slice B ords.length d] 39)).cell? ⟨w.heap.size,1,none⟩=some (.slice B ords.length d):=hb.cell 1;have E0:=Qh e0;clear e0 hb
   go_enter Try.func4,Try.ntmps4
   go_wp2
   go_loopg [20] txs.length (fun gk i wr=>∃k:Nat,k+gk=txs.length∧i= .int .i64 k∧Hid ((txs.take k).all (fun t=>decide (t.ops.length≤24))=true)∧Upd No (w.alloc (.cells #[.slice A txs.length c,.slice B ords.length d] 39)) wr)
   case atStart=>exact⟨0,by omega,rfl,Qh (by simp),Upd.refl _ _⟩
   case round=>
    obtain⟨k,hgk,rfl,hall,hu⟩:=hrel;have hu0:Upd No w wr:=((Upd.refl No w).alloc _).trans hu
    by_cases hlt:k<txs.length
    ·obtain⟨ad,hAd,c0,c1,c2⟩:=(H.upd hu0 (fun _ _=>id)).tx_at hlt;simp only at hAd c0 c1 c2;obtain⟨x,hx⟩:∃x,txs[k]=x:=⟨_,rfl⟩;rw[hx]at c0 c1 c2;subst hAd;have X:=Qh hx;clear hx;have hfx:=((H.upd hu0 (fun _ _=>id)).tx x (by rw[←X.out];exact List.getElem_mem hlt)).2.2.1;unfold Zy at hfx
     by_cases ht:24<x.ops.length
     ·have hv:=Qh (show ZF ⟨txs,ords,some ad,c,B,d⟩=false by
       unfold ZF;rw[Zix (l:=txs) (k:=k) hlt (by rw[X.out];exact decide_eq_false (by omega))];simp)
      go_wp2
      go_ret
      exact⟨by rw[hv.out];rfl,hu0.alloc _⟩
     ·go_wp2
      go_roundg (gk-1)
      case measure=>omega
      case rel=>exact⟨k+1,by omega,by go_num,Qh (ZhX hlt hall.out (by rw[X.out];exact decide_eq_true (by omega))),hu.alloc _⟩
    ·obtain rfl:k=txs.length:=by omega
     have e1:wr.cell? ⟨w.heap.size,1,none⟩=some (.slice B ords.length d):=hu.keepNo E0.out;have hall1:=Qh (show txs.all (fun t=>decide (t.ops.length≤24))=true by have:=hall.out;rwa [List.take_length]at this);clear hall;go_wp2
     go_loopg [32] ords.length (fun gk i wr=>∃k:Nat,k+gk=ords.length∧i= .int .i64 k∧Hid ((ords.take k).all (fun t=>decide (t.txs.length≤24))=true)∧Upd No w wr)
     case atStart=>exact⟨0,by omega,rfl,Qh (by simp),hu0⟩
     case round=>
      obtain⟨k,hgk,rfl,hall,hu2⟩:=hrel
      by_cases hlt2:k<ords.length
      ·obtain⟨ad,hAd,c0,c1⟩:=(H.upd hu2 (fun _ _=>id)).ord_at hlt2;simp only at hAd c0 c1;obtain⟨x,hx⟩:∃x,ords[k]=x:=⟨_,rfl⟩;rw[hx]at c0 c1;subst hAd;have X:=Qh hx;clear hx;have hfx:=((H.upd hu2 (fun _ _=>id)).ord x (by rw[←X.out];exact List.getElem_mem hlt2)).2.2.1
       by_cases ht:24<x.txs.length
       ·have hv:=Qh (show ZF ⟨txs,ords,A,c,some ad,d⟩=false by
         unfold ZF;rw[Zix (l:=ords) (k:=k) hlt2 (by rw[X.out];exact decide_eq_false (by omega))];simp)
        go_wp2
        go_ret
        exact⟨by rw[hv.out];rfl,hu2.alloc _⟩
       ·go_wp2
        go_roundg (gk-1)
        case measure=>omega
        case rel=>exact⟨k+1,by omega,by go_num,Qh (ZhX hlt2 hall.out (by rw[X.out];exact decide_eq_true (by omega))),hu2.alloc _⟩
      ·obtain rfl:k=ords.length:=by omega
       have hv:=Qh (show ZF ⟨txs,ords,A,c,B,d⟩=true by
        have h3:=hall.out;rw[List.take_length]at h3;unfold ZF;rw[decide_eq_true (show txs.length≤12 by omega),decide_eq_true (show ords.length≤24 by omega),hall1.out,h3];rfl)
       go_wp2
       go_ret
       exact⟨by rw[hv.out];rfl,hu2⟩
end
end Go.Proofs.Ytdbjokfejmgepaa
