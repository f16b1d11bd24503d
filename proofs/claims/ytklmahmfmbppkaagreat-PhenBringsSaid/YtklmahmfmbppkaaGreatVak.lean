/- Edges: how lists of them lie in memory; when two are one. -/
import Derived.Test.YtklmahmfmbppkaaGreatProg
import Derived.Laws.StructEq
import Derived.Test.YtklmahmfmbppkaaGreatVaf
namespace Go.Proofs.YtklmahmfmbppkaaGreat
set_option linter.unusedVariables false
set_option linter.unusedSimpArgs false
section
open Go.RowKit
structure Edge where
 f:Int
 t:Int
 k:Int
 key:Int
deriving DecidableEq
def Edge.cells (e:Edge):List Value:=[.int .i64 e.f,.int .i64 e.t,.int .i64 e.k,.int .i64 e.key]
def Walk (F:Nat→Prop) (w:World) (A:Option Addr) (l:List Edge):Prop:=Recs F w A 4 (l.map Edge.cells)
theorem Zai {l:List Edge}:∀r∈l.map Edge.cells,r.length=4:=fun r hr=>by
 obtain⟨e,_,rfl⟩:=List.mem_map.1 hr;rfl
theorem ZiW {l:List Edge}:∀v∈(l.map Edge.cells).flatten,v.oneCell'=true:=fun v hv=>by
 obtain⟨r,hr,h⟩:=List.mem_flatten.1 hv;obtain⟨e,_,rfl⟩:=List.mem_map.1 hr;simp only[Edge.cells,List.mem_cons,List.not_mem_nil,or_false]at h;rcases h with rfl|rfl|rfl|rfl<;>rfl
theorem ZcQ:SlT Tryz.prog 26 61 4 32:=SlT.mk_ Tryz.underlying26 (z:= .agg #[.int .i64 0,.int .i64 0,.int .i64 0,.int .i64 0]) (by kernel_rfl) rfl (by omega)
theorem ZlK (w:World) (a b c d a' b' c' d':Int):
  (Op.equalIn 10000 61 (.agg #[.int .i64 a,.int .i64 b,.int .i64 c,.int .i64 d]) (.agg #[.int .i64 a',.int .i64 b',.int .i64 c',.int .i64 d'])).run Tryz.prog w= .ok (decide ((⟨a,b,c,d⟩:Edge)=⟨a',b',c',d'⟩)) w:=by
 rw[run_equalIn_struct w _ _ _ _ (by kernel_rfl) (by kernel_rfl)];have hI:∀(w:World) (d:Nat) (x y:Int),(Op.equalIn (d+1) 3 (.int .i64 x) (.int .i64 y)).run Tryz.prog w= .ok (x==y) w:=fun w d x y=>run_equalIn_int w d _ _ _ x y Tryz.underlying3
 by_cases h1:a=a'<;>by_cases h2:b=b'<;>by_cases h3:c=c'<;>by_cases h4:d=d'<;>
  simp[Program.fieldsOf,Tryz.underlying61,Op.eqFields,part,hI,h1,h2,h3,h4,Result.andThen]
theorem ZpV (w:World) (x y:Edge):(binOp .neq 61 (.agg #[.int .i64 x.f,.int .i64 x.t,.int .i64 x.k,.int .i64 x.key]) (.agg #[.int .i64 y.f,.int .i64 y.t,.int .i64 y.k,.int .i64 y.key])).run Tryz.prog w= .ok (.bool (x != y)) w:=by
 obtain⟨a,b,c,d⟩:=x;obtain⟨a',b',c',d'⟩:=y;rw[run_neq_struct,ZlK];simp only[Result.andThen]
 by_cases h:(⟨a,b,c,d⟩:Edge)=⟨a',b',c',d'⟩<;>simp[h]
theorem Walk.at_ {F:Nat→Prop} {w:World} {A:Option Addr} {l:List Edge} (h:Walk F w A l) {k:Nat} (hk:k<l.length):∃ad,A=some ad∧
  w.cell? (ad.add (k*4))=some (.int .i64 l[k].f)∧w.cell? ⟨(ad.add (k*4)).block,(ad.add (k*4)).off+1,none⟩=some (.int .i64 l[k].t)∧
  w.cell? ⟨(ad.add (k*4)).block,(ad.add (k*4)).off+2,none⟩=some (.int .i64 l[k].k)∧w.cell? ⟨(ad.add (k*4)).block,(ad.add (k*4)).off+3,none⟩=some (.int .i64 l[k].key):=by
 have hk':k<(l.map Edge.cells).length:=by simpa using hk
 obtain⟨ad,e,_,_,hc⟩:=Recs.at_ h hk';rw[List.getElem_map]at hc;exact⟨ad,e,by simpa using hc 0 _ rfl,by simpa using hc 1 _ rfl,by simpa using hc 2 _ rfl,by simpa using hc 3 _ rfl⟩
theorem Walk.upd {F S:Nat→Prop} {w w':World} {A:Option Addr} {l:List Edge} (h:Walk F w A l) (k:Upd S w w') (hn:∀i,F i→¬S i):Walk F w' A l:=Recs.upd h k hn
end
/- Histories:how operations,transactions,orders and histories lie in memory. -/
section
open Go.RowKit
def i64 (n:Int):Prop:= -9223372036854775808≤n∧n≤9223372036854775807
structure HOp where
 read:Bool
 key:Int
 tx:Int
 nth:Int
deriving DecidableEq
def HOp.cells (o:HOp):List Value:=[.bool o.read,.int .i64 o.key,.int .i64 o.tx,.int .i64 o.nth]
def HOp.ok (o:HOp):Prop:=i64 o.key∧i64 o.tx∧i64 o.nth
structure Ver where
 tx:Int
 key:Int
 nth:Int
deriving DecidableEq
def Ver.cells (v:Ver):List Value:=[.int .i64 v.tx,.int .i64 v.key,.int .i64 v.nth]
def HOps (F:Nat→Prop) (w:World) (A:Option Addr) (l:List HOp):Prop:=Recs F w A 4 (l.map HOp.cells)
structure HTx where
 id:Int
 done:Bool
 ops:List HOp
 A:Option Addr
 c:Nat
def HTx.cells (t:HTx):List Value:=[.int .i64 t.id,.bool t.done,.slice t.A t.ops.length t.c]
def Zh (n:Nat):Prop:=n≤4398046511103
def HTx.lies (F:Nat→Prop) (w:World) (t:HTx):Prop:=HOps F w t.A t.ops∧t.ops.length≤t.c∧Zh t.ops.length∧i64 t.id∧∀o∈t.ops,o.ok
structure HOrd where
 key:Int
 txs:List Int
 A:Option Addr
 c:Nat
def HOrd.cells (o:HOrd):List Value:=[.int .i64 o.key,.slice o.A o.txs.length o.c]
def HOrd.lies (F:Nat→Prop) (w:World) (o:HOrd):Prop:=Ints F w o.A o.txs∧o.txs.length≤o.c∧o.txs.length≤17592186044415∧i64 o.key∧∀n∈o.txs,i64 n
structure Hist where
 txs:List HTx
 ords:List HOrd
 A:Option Addr
 c:Nat
 B:Option Addr
 d:Nat
def Hist.val (h:Hist):Value:= .agg #[.slice h.A h.txs.length h.c,.slice h.B h.ords.length h.d]
def Hist.cells (h:Hist):List Value:=[.slice h.A h.txs.length h.c,.slice h.B h.ords.length h.d]
structure Hist.lies (F:Nat→Prop) (w:World) (h:Hist):Prop where
 txs:Recs F w h.A 3 (h.txs.map HTx.cells)
 ords:Recs F w h.B 2 (h.ords.map HOrd.cells)
 tx:∀t∈h.txs,t.lies F w
 ord:∀o∈h.ords,o.lies F w
 c:h.txs.length≤h.c
 d:h.ords.length≤h.d
 few:h.txs.length≤4398046511103
 fewo:h.ords.length≤4398046511103
section
variable {F S:Nat→Prop} {w w':World}
theorem HOps.upd {A:Option Addr} {l:List HOp} (h:HOps F w A l) (k:Upd S w w') (hn:∀i,F i→¬S i):HOps F w' A l:=Recs.upd h k hn
theorem HTx.lies.upd {t:HTx} (h:t.lies F w) (k:Upd S w w') (hn:∀i,F i→¬S i):t.lies F w':=⟨HOps.upd h.1 k hn,h.2⟩
theorem HOrd.lies.upd {o:HOrd} (h:o.lies F w) (k:Upd S w w') (hn:∀i,F i→¬S i):o.lies F w':=⟨h.1.upd k hn,h.2⟩
theorem Hist.lies.upd {h:Hist} (H:h.lies F w) (k:Upd S w w') (hn:∀i,F i→¬S i):h.lies F w':=
 ⟨Recs.upd H.txs k hn,Recs.upd H.ords k hn,fun t ht=>(H.tx t ht).upd k hn,fun o ho=>(H.ord o ho).upd k hn,H.c,H.d,H.few,H.fewo⟩
theorem HOps.at_ {A:Option Addr} {l:List HOp} (h:HOps F w A l) {k:Nat} (hk:k<l.length):∃ad,A=some ad∧
  w.cell? (ad.add (k*4))=some (.bool l[k].read)∧w.cell? ⟨(ad.add (k*4)).block,(ad.add (k*4)).off+1,none⟩=some (.int .i64 l[k].key)∧
  w.cell? ⟨(ad.add (k*4)).block,(ad.add (k*4)).off+2,none⟩=some (.int .i64 l[k].tx)∧w.cell? ⟨(ad.add (k*4)).block,(ad.add (k*4)).off+3,none⟩=some (.int .i64 l[k].nth):=by
 have hk':k<(l.map HOp.cells).length:=by simpa using hk
 obtain⟨ad,e,_,_,hc⟩:=Recs.at_ h hk';rw[List.getElem_map]at hc;exact⟨ad,e,by simpa using hc 0 _ rfl,by simpa using hc 1 _ rfl,by simpa using hc 2 _ rfl,by simpa using hc 3 _ rfl⟩
theorem Hist.lies.tx_at {h:Hist} (H:h.lies F w) {k:Nat} (hk:k<h.txs.length):∃ad,h.A=some ad∧
  w.cell? (ad.add (k*3))=some (.int .i64 h.txs[k].id)∧w.cell? ⟨(ad.add (k*3)).block,(ad.add (k*3)).off+1,none⟩=some (.bool h.txs[k].done)∧
  w.cell? ⟨(ad.add (k*3)).block,(ad.add (k*3)).off+2,none⟩=some (.slice h.txs[k].A h.txs[k].ops.length h.txs[k].c):=by
 have hk':k<(h.txs.map HTx.cells).length:=by simpa using hk
 obtain⟨ad,e,_,_,hc⟩:=Recs.at_ H.txs hk';rw[List.getElem_map]at hc;exact⟨ad,e,by simpa using hc 0 _ rfl,by simpa using hc 1 _ rfl,by simpa using hc 2 _ rfl⟩
theorem Hist.lies.ord_at {h:Hist} (H:h.lies F w) {k:Nat} (hk:k<h.ords.length):∃ad,h.B=some ad∧
  w.cell? (ad.add (k*2))=some (.int .i64 h.ords[k].key)∧w.cell? ⟨(ad.add (k*2)).block,(ad.add (k*2)).off+1,none⟩=some (.slice h.ords[k].A h.ords[k].txs.length h.ords[k].c):=by
 have hk':k<(h.ords.map HOrd.cells).length:=by simpa using hk
 obtain⟨ad,e,_,_,hc⟩:=Recs.at_ H.ords hk';rw[List.getElem_map]at hc;exact⟨ad,e,by simpa using hc 0 _ rfl,by simpa using hc 1 _ rfl⟩
end
def ZA (o:HOp):Ver:=if o.read then ⟨o.tx,o.key,o.nth⟩ else ⟨0,0,0⟩
def idB (n:Int):Bool:=decide (1≤n)&&decide (n≤1048575)
def ZV (v:Ver):Bool:=idB v.key&&((v.tx==0&&v.nth==0)||(idB v.tx&&decide (1≤v.nth)&&decide (v.nth≤4095)))
def opB (o:HOp):Bool:=if o.read then ZV (ZA o) else idB o.key&&o.tx==0&&o.nth==0
end
/- Operations and versions:which are right,by the program and by the document. -/
section
open Go.RowKit
def Zmw (b:Bool):Int:=if b then 0 else 1
theorem pid (w:World) (n:Int):Calls Tryz.prog 222 #[.int .i64 n] w fun e w'=>e= .returned (.bool (idB n))∧w=w':=by
 unfold idB
 by_cases h1:1≤n
 ·by_cases h2:n≤1048575
  ·go_enter Tryz.func222,Tryz.ntmps222
   go_wp2
   go_ret
   exact⟨by rw[decide_eq_true h1,decide_eq_true h2];rfl,rfl⟩
  ·go_enter Tryz.func222,Tryz.ntmps222
   go_wp2
   go_ret
   exact⟨by rw[decide_eq_false (show¬n≤1048575 by omega)];rfl,rfl⟩
 ·go_enter Tryz.func222,Tryz.ntmps222
  go_wp2
  go_ret
  exact⟨by rw[decide_eq_false (show¬1≤n by omega),Bool.false_and];rfl,rfl⟩
theorem rid (w:World) (n:Int):Calls Tryz.prog 145 #[.int .i64 n] w fun e w'=>e= .returned (.bool (idB n))∧w=w':=by
 unfold idB
 by_cases h1:1≤n
 ·by_cases h2:n≤1048575
  ·go_enter Tryz.func145,Tryz.ntmps145
   go_wp2
   go_ret
   exact⟨by rw[decide_eq_true h1,decide_eq_true h2];rfl,rfl⟩
  ·go_enter Tryz.func145,Tryz.ntmps145
   go_wp2
   go_ret
   exact⟨by rw[decide_eq_false (show¬n≤1048575 by omega)];rfl,rfl⟩
 ·go_enter Tryz.func145,Tryz.ntmps145
  go_wp2
  go_ret
  exact⟨by rw[decide_eq_false (show¬1≤n by omega),Bool.false_and];rfl,rfl⟩
theorem ZdY {w:World} {n:Int} {b:Bool} (h:idB n=b):Calls Tryz.prog 222 #[.int .i64 n] w fun e w'=>e= .returned (.bool b)∧w=w':=by subst h;exact pid w n
theorem Za8 {w:World} {n:Int} {b:Bool} (h:idB n=b):Calls Tryz.prog 145 #[.int .i64 n] w fun e w'=>e= .returned (.bool b)∧w=w':=by subst h;exact rid w n
def Zqg (w:World) (b:Bool) (e:Ending) (w':World):Prop:=∃x,e= .returned (.tuple #[.int .u64 x,.int .i64 (Zmw b)])∧Upd No w w'
theorem ZaW {b:Bool} (h:¬b=true):b=false:=by simpa using h
set_option maxRecDepth 100000 in
set_option maxHeartbeats 1000000 in
theorem Zul (w:World) (v:Ver):Calls Tryz.prog 200 #[.agg v.cells.toArray] w (Zqg w (ZV v)):=by
 unfold Ver.cells;have i0:idB 0=false:=by decide
 by_cases ht:v.tx=0
 ·by_cases hn:v.nth=0
  ·by_cases hk:idB v.key=true
   ·have hv:=Qh (show ZV v=true by unfold ZV;rw[hk,ht,hn];rfl);rw[ht,hn];clear ht hn i0;have Hk:=Qh hk;clear hk
    go_enter Tryz.func200,Tryz.ntmps200
    go_wp2_with fail
    refine(ZdY Hk.out).mono ?_;rintro e w1 ⟨rfl,rfl⟩;go_wp2
    go_ret2
    exact⟨_,by rw[hv.out];rfl,(Upd.refl _ _).alloc _⟩
   ·have hv:=Qh (show ZV v=false by unfold ZV;rw[ZaW hk];rfl);rw[ht,hn];clear ht hn i0;have Hk:=Qh (ZaW hk);clear hk
    go_enter Tryz.func200,Tryz.ntmps200
    go_wp2_with fail
    refine(ZdY Hk.out).mono ?_;rintro e w1 ⟨rfl,rfl⟩;go_wp2
    go_ret2
    exact⟨_,by rw[hv.out];rfl,(Upd.refl _ _).alloc _⟩
  ·have hv:=Qh (show ZV v=false by
    have:(v.nth==0)=false:=by simpa using hn
    unfold ZV;rw[ht,this,i0];simp)
   rw[ht];clear ht;have Hi:=Qh i0;clear i0;have hnb:(v.nth==0)=false:=by simpa using hn
   have Hn:=Qh hn;clear hn
   go_enter Tryz.func200,Tryz.ntmps200
   go_wp2_with fail
   refine(ZdY Hi.out).mono ?_;rintro e w1 ⟨rfl,rfl⟩;go_wp2
   go_ret2
   exact⟨_,by rw[hv.out];rfl,(Upd.refl _ _).alloc _⟩
 ·have htb:(v.tx==0)=false:=by simpa using ht
  have Ht:=Qh ht;clear ht i0
  by_cases hi:idB v.tx=true
  ·have Hi:=Qh hi;clear hi
   by_cases h1:v.nth<1
   ·have hv:=Qh (show ZV v=false by
     unfold ZV;rw[htb,Hi.out,decide_eq_false (show¬1≤v.nth by omega)];simp)
    go_enter Tryz.func200,Tryz.ntmps200
    go_wp2_with fail
    refine(ZdY Hi.out).mono ?_;rintro e w1 ⟨rfl,rfl⟩;go_wp2
    go_ret2
    exact⟨_,by rw[hv.out];rfl,(Upd.refl _ _).alloc _⟩
   ·by_cases h2:4095<v.nth
    ·have hv:=Qh (show ZV v=false by
      unfold ZV;rw[htb,Hi.out,decide_eq_false (show¬v.nth≤4095 by omega)];simp)
     go_enter Tryz.func200,Tryz.ntmps200
     go_wp2_with fail
     refine(ZdY Hi.out).mono ?_;rintro e w1 ⟨rfl,rfl⟩;go_wp2
     go_ret2
     exact⟨_,by rw[hv.out];rfl,(Upd.refl _ _).alloc _⟩
    ·by_cases hk:idB v.key=true
     ·have hv:=Qh (show ZV v=true by
       unfold ZV;rw[htb,Hi.out,hk,decide_eq_true (show v.nth≤4095 by omega),decide_eq_true (show 1≤v.nth by omega)];rfl)
      have Hk:=Qh hk;clear hk
      go_enter Tryz.func200,Tryz.ntmps200
      go_wp2_with fail
      refine(ZdY Hi.out).mono ?_;rintro e w1 ⟨rfl,rfl⟩
      go_wp2_with fail
      refine(ZdY Hk.out).mono ?_;rintro e w1 ⟨rfl,rfl⟩;go_wp2
      go_ret2
      exact⟨_,by rw[hv.out];rfl,(Upd.refl _ _).alloc _⟩
     ·have hv:=Qh (show ZV v=false by unfold ZV;rw[ZaW hk];rfl);have Hk:=Qh (ZaW hk);clear hk
      go_enter Tryz.func200,Tryz.ntmps200
      go_wp2_with fail
      refine(ZdY Hi.out).mono ?_;rintro e w1 ⟨rfl,rfl⟩
      go_wp2_with fail
      refine(ZdY Hk.out).mono ?_;rintro e w1 ⟨rfl,rfl⟩;go_wp2
      go_ret2
      exact⟨_,by rw[hv.out];rfl,(Upd.refl _ _).alloc _⟩
  ·have hv:=Qh (show ZV v=false by unfold ZV;rw[htb,ZaW hi];simp);have Hi:=Qh (ZaW hi);clear hi
   go_enter Tryz.func200,Tryz.ntmps200
   go_wp2_with fail
   refine(ZdY Hi.out).mono ?_;rintro e w1 ⟨rfl,rfl⟩;go_wp2
   go_ret2
   exact⟨_,by rw[hv.out];rfl,(Upd.refl _ _).alloc _⟩
end
/- Operations:the version that they read,whether they are right. -/
section
open Go.RowKit
theorem ZsD (w:World) (x y:HOp):(Op.equalIn 10000 113 (.agg x.cells.toArray) (.agg y.cells.toArray)).run Tryz.prog w= .ok (decide (x=y)) w:=by
 obtain⟨a,b,c,d⟩:=x;obtain⟨a',b',c',d'⟩:=y;unfold HOp.cells;rw[run_equalIn_struct w _ _ _ _ (by kernel_rfl) (by kernel_rfl)];have hI:∀(w:World) (d:Nat) (x y:Int),(Op.equalIn (d+1) 3 (.int .i64 x) (.int .i64 y)).run Tryz.prog w= .ok (x==y) w:=fun w d x y=>run_equalIn_int w d _ _ _ x y Tryz.underlying3
 have hB:∀(w:World) (d:Nat) (x y:Bool),(Op.equalIn (d+1) 4 (.bool x) (.bool y)).run Tryz.prog w= .ok (x==y) w:=fun w d x y=>run_equalIn_bool w d _ x y Tryz.underlying4
 by_cases h1:a=a'<;>by_cases h2:b=b'<;>by_cases h3:c=c'<;>by_cases h4:d=d'<;>
  simp[Program.fieldsOf,Tryz.underlying113,Op.eqFields,part,hI,hB,h1,h2,h3,h4,Result.andThen]
theorem Zru (w:World) (x y:HOp):(binOp .neq 113 (.agg #[.bool x.read,.int .i64 x.key,.int .i64 x.tx,.int .i64 x.nth]) (.agg #[.bool y.read,.int .i64 y.key,.int .i64 y.tx,.int .i64 y.nth])).run Tryz.prog w= .ok (.bool (x != y)) w:=by
 rw[run_neq_struct];have:=ZsD w x y;unfold HOp.cells at this;rw[this];simp only[Result.andThen]
 by_cases h:x=y<;>simp[h]
theorem oof (w:World) (o:HOp):Calls Tryz.prog 116 #[.agg o.cells.toArray] w fun e w'=>e= .returned (.agg (ZA o).cells.toArray)∧Upd No w w':=by
 obtain⟨r,k,t,n⟩:=o
 cases r
 ·unfold HOp.cells
  go_enter Tryz.func116,Tryz.ntmps116
  go_wp2;exact bodyPost_ret (v:= .agg #[.int .i64 0,.int .i64 0,.int .i64 0]) (by simp[results,Tryz.results116,go_sem]) rfl ⟨rfl,((Upd.refl _ _).alloc _).alloc _⟩
 ·unfold HOp.cells
  go_enter Tryz.func116,Tryz.ntmps116
  go_wp2;exact bodyPost_ret (v:= .agg #[.int .i64 t,.int .i64 k,.int .i64 n]) (by simp[results,Tryz.results116,go_sem]) rfl ⟨rfl,((Upd.refl _ _).alloc _).alloc _⟩
theorem rof (w:World) (o:HOp):Calls Tryz.prog 71 #[.agg o.cells.toArray] w fun e w'=>e= .returned (.agg (ZA o).cells.toArray)∧Upd No w w':=by
 obtain⟨r,k,t,n⟩:=o
 cases r
 ·unfold HOp.cells
  go_enter Tryz.func71,Tryz.ntmps71
  go_wp2;exact bodyPost_ret (v:= .agg #[.int .i64 0,.int .i64 0,.int .i64 0]) (by simp[results,Tryz.results71,go_sem]) rfl ⟨rfl,((Upd.refl _ _).alloc _).alloc _⟩
 ·unfold HOp.cells
  go_enter Tryz.func71,Tryz.ntmps71
  go_wp2;exact bodyPost_ret (v:= .agg #[.int .i64 t,.int .i64 k,.int .i64 n]) (by simp[results,Tryz.results71,go_sem]) rfl ⟨rfl,((Upd.refl _ _).alloc _).alloc _⟩
theorem Zuc (w:World) (v:Ver):Calls Tryz.prog 181 #[.agg v.cells.toArray] w fun e w'=>e= .returned (.bool (ZV v))∧Upd No w w':=by
 unfold Ver.cells;have i0:idB 0=false:=by decide
 by_cases ht:v.tx=0
 ·by_cases hk:idB v.key=true
  ·have hv:=Qh (show ZV v=(v.nth==0) by unfold ZV;rw[hk,ht,i0];simp);rw[ht];have Hk:=Qh hk;clear ht hk i0
   by_cases hn:v.nth=0
   ·have hnb:(v.nth==0)=true:=by simpa using hn
    have Hn:=Qh hn;clear hn
    go_enter Tryz.func181,Tryz.ntmps181
    go_wp2_with fail
    refine(Za8 Hk.out).mono ?_;rintro e w1 ⟨rfl,rfl⟩;go_wp2
    go_ret
    exact⟨by rw[hv.out,hnb];rfl,(Upd.refl _ _).alloc _⟩
   ·have hnb:(v.nth==0)=false:=by simpa using hn
    have Hn:=Qh hn;clear hn
    go_enter Tryz.func181,Tryz.ntmps181
    go_wp2_with fail
    refine(Za8 Hk.out).mono ?_;rintro e w1 ⟨rfl,rfl⟩;go_wp2
    go_ret
    exact⟨by rw[hv.out,hnb];rfl,(Upd.refl _ _).alloc _⟩
  ·have hv:=Qh (show ZV v=false by unfold ZV;rw[ZaW hk];rfl);rw[ht];have Hk:=Qh (ZaW hk);clear ht hk i0
   go_enter Tryz.func181,Tryz.ntmps181
   go_wp2_with fail
   refine(Za8 Hk.out).mono ?_;rintro e w1 ⟨rfl,rfl⟩;go_wp2
   go_ret
   exact⟨by rw[hv.out];rfl,(Upd.refl _ _).alloc _⟩
 ·have htb:(v.tx==0)=false:=by simpa using ht
  have Ht:=Qh ht;clear ht i0
  by_cases hi:idB v.tx=true
  ·have Hi:=Qh hi;clear hi
   by_cases hk:idB v.key=true
   ·have Hk:=Qh hk;clear hk
    by_cases h1:1≤v.nth
    ·by_cases h2:v.nth≤4095
     ·have hv:=Qh (show ZV v=true by unfold ZV;rw[htb,Hi.out,Hk.out,decide_eq_true h1,decide_eq_true h2];rfl)
      go_enter Tryz.func181,Tryz.ntmps181
      go_wp2_with fail
      refine(Za8 Hi.out).mono ?_;rintro e w1 ⟨rfl,rfl⟩
      go_wp2_with fail
      refine(Za8 Hk.out).mono ?_;rintro e w1 ⟨rfl,rfl⟩;go_wp2
      go_ret
      exact⟨by rw[hv.out];rfl,(Upd.refl _ _).alloc _⟩
     ·have hv:=Qh (show ZV v=false by unfold ZV;rw[htb,Hi.out,Hk.out,decide_eq_false h2];simp);have h2b:decide (v.nth≤4095)=false:=decide_eq_false h2
      go_enter Tryz.func181,Tryz.ntmps181
      go_wp2_with fail
      refine(Za8 Hi.out).mono ?_;rintro e w1 ⟨rfl,rfl⟩
      go_wp2_with fail
      refine(Za8 Hk.out).mono ?_;rintro e w1 ⟨rfl,rfl⟩;go_wp2
      go_ret
      exact⟨by rw[hv.out];rfl,(Upd.refl _ _).alloc _⟩
    ·have hv:=Qh (show ZV v=false by unfold ZV;rw[htb,Hi.out,Hk.out,decide_eq_false h1];simp)
     go_enter Tryz.func181,Tryz.ntmps181
     go_wp2_with fail
     refine(Za8 Hi.out).mono ?_;rintro e w1 ⟨rfl,rfl⟩
     go_wp2_with fail
     refine(Za8 Hk.out).mono ?_;rintro e w1 ⟨rfl,rfl⟩;go_wp2
     go_ret
     exact⟨by rw[hv.out];rfl,(Upd.refl _ _).alloc _⟩
   ·have hv:=Qh (show ZV v=false by unfold ZV;rw[ZaW hk];rfl);have Hk:=Qh (ZaW hk);clear hk
    go_enter Tryz.func181,Tryz.ntmps181
    go_wp2_with fail
    refine(Za8 Hi.out).mono ?_;rintro e w1 ⟨rfl,rfl⟩
    go_wp2_with fail
    refine(Za8 Hk.out).mono ?_;rintro e w1 ⟨rfl,rfl⟩;go_wp2
    go_ret
    exact⟨by rw[hv.out];rfl,(Upd.refl _ _).alloc _⟩
  ·have hv:=Qh (show ZV v=false by unfold ZV;rw[htb,ZaW hi];simp);have Hi:=Qh (ZaW hi);clear hi
   go_enter Tryz.func181,Tryz.ntmps181
   go_wp2_with fail
   refine(Za8 Hi.out).mono ?_;rintro e w1 ⟨rfl,rfl⟩;go_wp2
   go_ret
   exact⟨by rw[hv.out];rfl,(Upd.refl _ _).alloc _⟩
theorem ZnG (w:World) (o:HOp):Calls Tryz.prog 165 #[.agg o.cells.toArray] w fun e w'=>e= .returned (.int .i64 (Zmw (opB o)))∧Upd No w w':=by
 obtain⟨r,k,t,n⟩:=o
 cases r
 ·have hN:=Zru;unfold HOp.cells
  by_cases hz:(⟨false,k,t,n⟩:HOp)=⟨false,k,0,0⟩
  ·have hzb:((⟨false,k,t,n⟩:HOp) != ⟨false,k,0,0⟩)=false:=by rw[hz];simp
   have h0:t=0∧n=0:=by injection hz with _ _ h3 h4;exact⟨h3,h4⟩
   by_cases h1:k<1
   ·have hv:=Qh (show opB ⟨false,k,t,n⟩=false by unfold opB idB;rw[decide_eq_false (show¬1≤k by omega)];rfl);clear hz h0;have qn:=fun w=>(hN w ⟨false,k,t,n⟩ ⟨false,k,0,0⟩).trans (by rw[hzb])
    clear hN hzb
    go_enter Tryz.func165,Tryz.ntmps165
    go_wp2
    go_ret
    exact⟨by rw[hv.out];rfl,(Upd.refl _ _).alloc _⟩
   ·by_cases h2:1048575<k
    ·have hv:=Qh (show opB ⟨false,k,t,n⟩=false by unfold opB idB;rw[decide_eq_false (show¬k≤1048575 by omega)];simp);clear hz h0;have qn:=fun w=>(hN w ⟨false,k,t,n⟩ ⟨false,k,0,0⟩).trans (by rw[hzb])
     clear hN hzb
     go_enter Tryz.func165,Tryz.ntmps165
     go_wp2
     go_ret
     exact⟨by rw[hv.out];rfl,(Upd.refl _ _).alloc _⟩
    ·have hv:=Qh (show opB ⟨false,k,t,n⟩=true by unfold opB idB;rw[decide_eq_true (show k≤1048575 by omega),decide_eq_true (show 1≤k by omega),h0.1,h0.2];rfl);clear hz h0;have qn:=fun w=>(hN w ⟨false,k,t,n⟩ ⟨false,k,0,0⟩).trans (by rw[hzb])
     clear hN hzb
     go_enter Tryz.func165,Tryz.ntmps165
     go_wp2
     go_ret
     exact⟨by rw[hv.out];rfl,(Upd.refl _ _).alloc _⟩
  ·have hzb:((⟨false,k,t,n⟩:HOp) != ⟨false,k,0,0⟩)=true:=by simpa using hz
   have hv:=Qh (show opB ⟨false,k,t,n⟩=false by
    unfold opB
    by_cases h3:t=0
    ·by_cases h4:n=0
     ·exact absurd (by rw[h3,h4]) hz
     ·simp[h4]
    ·simp[h3])
   clear hz;have qn:=fun w=>(hN w ⟨false,k,t,n⟩ ⟨false,k,0,0⟩).trans (by rw[hzb])
   clear hN hzb
   go_enter Tryz.func165,Tryz.ntmps165
   go_wp2
   go_ret
   exact⟨by rw[hv.out];rfl,(Upd.refl _ _).alloc _⟩
 ·have hv:=Qh (show opB ⟨true,k,t,n⟩=ZV ⟨t,k,n⟩ from rfl);unfold HOp.cells
  go_enter Tryz.func165,Tryz.ntmps165
  go_wp2_with fail
  refine(oof _ ⟨true,k,t,n⟩).mono ?_;rintro e w1 ⟨rfl,hu1⟩
  go_wp2_with fail
  refine(Zul _ ⟨t,k,n⟩).mono ?_;rintro e w2 ⟨x,rfl,hu2⟩;go_wp2
  go_ret
  exact⟨by rw[hv.out];rfl,(((Upd.refl _ _).alloc _).trans hu1).trans hu2⟩
theorem Zr4 (w:World) (o:HOp):Calls Tryz.prog 146 #[.agg o.cells.toArray] w fun e w'=>e= .returned (.bool (opB o))∧Upd No w w':=by
 obtain⟨r,k,t,n⟩:=o
 cases r
 ·unfold HOp.cells
  by_cases hk:idB k=true
  ·have Hk:=Qh hk;clear hk
   by_cases h3:t=0
   ·have hv:=Qh (show opB ⟨false,k,t,n⟩=(n==0) by unfold opB;rw[h3,Hk.out];rfl);have h3b:(t==0)=true:=by simpa using h3
    clear h3
    by_cases h4:n=0
    ·have h4b:(n==0)=true:=by simpa using h4
     clear h4
     go_enter Tryz.func146,Tryz.ntmps146
     go_wp2_with fail
     refine(Za8 Hk.out).mono ?_;rintro e w1 ⟨rfl,rfl⟩;go_wp2
     go_ret
     exact⟨by rw[hv.out,h4b];rfl,(Upd.refl _ _).alloc _⟩
    ·have h4b:(n==0)=false:=by simpa using h4
     clear h4
     go_enter Tryz.func146,Tryz.ntmps146
     go_wp2_with fail
     refine(Za8 Hk.out).mono ?_;rintro e w1 ⟨rfl,rfl⟩;go_wp2
     go_ret
     exact⟨by rw[hv.out,h4b];rfl,(Upd.refl _ _).alloc _⟩
   ·have h3b:(t==0)=false:=by simpa using h3
    have hv:=Qh (show opB ⟨false,k,t,n⟩=false by unfold opB;simp[h3]);clear h3
    go_enter Tryz.func146,Tryz.ntmps146
    go_wp2_with fail
    refine(Za8 Hk.out).mono ?_;rintro e w1 ⟨rfl,rfl⟩;go_wp2
    go_ret
    exact⟨by rw[hv.out];rfl,(Upd.refl _ _).alloc _⟩
  ·have hv:=Qh (show opB ⟨false,k,t,n⟩=false by unfold opB;simp[ZaW hk]);have Hk:=Qh (ZaW hk);clear hk
   go_enter Tryz.func146,Tryz.ntmps146
   go_wp2_with fail
   refine(Za8 Hk.out).mono ?_;rintro e w1 ⟨rfl,rfl⟩;go_wp2
   go_ret
   exact⟨by rw[hv.out];rfl,(Upd.refl _ _).alloc _⟩
 ·have hv:=Qh (show opB ⟨true,k,t,n⟩=ZV ⟨t,k,n⟩ from rfl);unfold HOp.cells
  go_enter Tryz.func146,Tryz.ntmps146
  go_wp2_with fail
  refine(rof _ ⟨true,k,t,n⟩).mono ?_;rintro e w1 ⟨rfl,hu1⟩
  go_wp2_with fail
  refine(Zuc _ ⟨t,k,n⟩).mono ?_;rintro e w2 ⟨rfl,hu2⟩;go_wp2
  go_ret
  exact⟨by rw[hv.out];rfl,(((Upd.refl _ _).alloc _).trans hu1).trans hu2⟩
end
/- How many writes of a key there are;whether a history is light. -/
section
open Go.RowKit
def isW (key:Int) (o:HOp):Bool:= !o.read&&o.key==key
def wrN (l:List HOp) (key:Int) (k:Nat):Nat:=((l.take k).filter (isW key)).length
def Zc (l:List HOp) (key:Int):Nat:=wrN l key l.length
theorem Zjn {l:List HOp} {key:Int} {k:Nat} (hk:k<l.length):wrN l key (k+1)=wrN l key k+if isW key l[k]=true then 1 else 0:=by
 unfold wrN;rw[List.take_succ_eq_append_getElem hk,List.filter_append,List.length_append]
 by_cases h:isW key l[k]=true
 ·rw[if_pos h,List.filter_cons_of_pos h];rfl
 ·rw[if_neg h,List.filter_cons_of_neg h];rfl
theorem ZhO {l:List HOp} {key:Int} {k:Nat} {x:HOp} (hk:k<l.length) (hx:l[k]=x) (h:isW key x=true):wrN l key (k+1)=wrN l key k+1:=by
 subst hx;rw[Zjn hk,if_pos h]
theorem Zd5 {l:List HOp} {key:Int} {k:Nat} {x:HOp} (hk:k<l.length) (hx:l[k]=x) (h:isW key x=false):wrN l key (k+1)=wrN l key k:=by
 subst hx;rw[Zjn hk,if_neg (by rw[h];decide),Nat.add_zero]
theorem Zjo (l:List HOp) (key:Int) (k:Nat):wrN l key k≤k:=by
 unfold wrN;have h1:=List.length_filter_le (isW key) (l.take k);have h2:=List.length_take_le k l;omega
set_option maxRecDepth 100000 in
theorem ZbM (F:Nat→Prop) (w:World) (A:Option Addr) (c:Nat) (l:List HOp) (key:Int) (h:HOps F w A l) (hl:Zh l.length):
  Calls Tryz.prog 110 #[.slice A l.length c,.int .i64 key] w fun e w'=>e= .returned (.int .i64 ((Zc l key:Nat):Int))∧Upd No w w':=by
 unfold Zh at hl
 go_enter Tryz.func110,Tryz.ntmps110
 go_wp2
 go_loopg [5,10] l.length (fun gk n i wr=>∃k:Nat,k+gk=l.length∧i= .int .i64 k∧n= .int .i64 ((wrN l key k:Nat):Int)∧Upd No w wr)
 case atStart=>exact⟨0,by omega,rfl,rfl,Upd.refl _ _⟩
 case round=>
  obtain⟨k,hgk,rfl,rfl,hu⟩:=hrel
  by_cases hlt:k<l.length
  ·obtain⟨ad,hAd,c0,c1,c2,c3⟩:=(h.upd hu (fun _ _=>id)).at_ hlt;obtain⟨x,hx⟩:∃x,l[k]=x:=⟨_,rfl⟩;rw[hx]at c0 c1 c2 c3;have hw:=Zjo l key k;obtain⟨r,ky,tx,nt⟩:=x;have X:=Qh hx;clear hx;subst hAd
   cases r
   ·by_cases hk:ky=key
    ·have hkb:(ky==key)=true:=by simpa using hk
     have HS:=Qh (ZhO (key:=key) hlt X.out (by unfold isW;rw[hkb];rfl));clear hk;go_wp2
     go_roundg (gk-1)
     case measure=>omega
     case rel=>exact⟨k+1,by omega,by go_num,by rw[HS.out];go_num,hu.alloc _⟩
    ·have hkb:(ky==key)=false:=by simpa using hk
     have HS:=Qh (Zd5 (key:=key) hlt X.out (by unfold isW;rw[hkb];rfl));clear hk;go_wp2
     go_roundg (gk-1)
     case measure=>omega
     case rel=>exact⟨k+1,by omega,by go_num,by rw[HS.out],hu.alloc _⟩
   ·have HS:=Qh (Zd5 (key:=key) hlt X.out rfl);go_wp2
    go_roundg (gk-1)
    case measure=>omega
    case rel=>exact⟨k+1,by omega,by go_num,by rw[HS.out],hu.alloc _⟩
  ·obtain rfl:k=l.length:=by omega
   go_wp2
   go_ret
   exact⟨rfl,hu⟩
set_option maxRecDepth 100000 in
theorem ZhT (F:Nat→Prop) (w:World) (i0:Int) (dn:Bool) (A:Option Addr) (c:Nat) (l:List HOp) (key:Int) (h:HOps F w A l) (hl:Zh l.length):
  Calls Tryz.prog 153 #[.agg #[.int .i64 i0,.bool dn,.slice A l.length c],.int .i64 key] w fun e w'=>e= .returned (.int .i64 ((Zc l key:Nat):Int))∧Upd No w w':=by
 unfold Zh at hl
 go_enter Tryz.func153,Tryz.ntmps153
 go_wp2
 go_loopg [5,11] l.length (fun gk n i wr=>∃k:Nat,k+gk=l.length∧i= .int .i64 k∧n= .int .i64 ((wrN l key k:Nat):Int)∧Upd No w wr)
 case atStart=>exact⟨0,by omega,rfl,rfl,(Upd.refl _ _).alloc _⟩
 case round=>
  obtain⟨k,hgk,rfl,rfl,hu⟩:=hrel
  by_cases hlt:k<l.length
  ·obtain⟨ad,hAd,c0,c1,c2,c3⟩:=(h.upd hu (fun _ _=>id)).at_ hlt;obtain⟨x,hx⟩:∃x,l[k]=x:=⟨_,rfl⟩;rw[hx]at c0 c1 c2 c3;have hw:=Zjo l key k;obtain⟨r,ky,tx,nt⟩:=x;have X:=Qh hx;clear hx;subst hAd
   cases r
   ·by_cases hk:ky=key
    ·have hkb:(ky==key)=true:=by simpa using hk
     have HS:=Qh (ZhO (key:=key) hlt X.out (by unfold isW;rw[hkb];rfl));clear hk;go_wp2
     go_roundg (gk-1)
     case measure=>omega
     case rel=>exact⟨k+1,by omega,by go_num,by rw[HS.out];go_num,hu.alloc _⟩
    ·have hkb:(ky==key)=false:=by simpa using hk
     have HS:=Qh (Zd5 (key:=key) hlt X.out (by unfold isW;rw[hkb];rfl));clear hk;go_wp2
     go_roundg (gk-1)
     case measure=>omega
     case rel=>exact⟨k+1,by omega,by go_num,by rw[HS.out],hu.alloc _⟩
   ·have HS:=Qh (Zd5 (key:=key) hlt X.out rfl);go_wp2
    go_roundg (gk-1)
    case measure=>omega
    case rel=>exact⟨k+1,by omega,by go_num,by rw[HS.out],hu.alloc _⟩
  ·obtain rfl:k=l.length:=by omega
   go_wp2
   go_ret
   exact⟨rfl,hu⟩
def ZJ (h:Hist):Bool:=decide (h.txs.length≤12)&&decide (h.ords.length≤24)&&h.txs.all (fun t=>decide (t.ops.length≤24))&&h.ords.all (fun o=>decide (o.txs.length≤24))
end
/- Whether a history is light,by the document. -/
section
open Go.RowKit
theorem ZkE {α:Type} {l:List α} {p:α→Bool} {k:Nat} (hk:k<l.length) (h:(l.take k).all p=true) (h1:p l[k]=true):(l.take (k+1)).all p=true:=by
 rw[List.take_succ_eq_append_getElem hk,List.all_append,h];simp[h1]
theorem ZlR {α:Type} {l:List α} {p:α→Bool} {k:Nat} (hk:k<l.length) (h1:p l[k]=false):l.all p=false:=by
 rw[←Bool.not_eq_true];intro h;rw[List.all_eq_true.1 h _ (List.getElem_mem hk)]at h1
 cases h1
set_option maxRecDepth 100000 in
theorem Zr8 (F:Nat→Prop) (w:World) (h:Hist) (H:h.lies F w):Calls Tryz.prog 8 #[h.val] w fun e w'=>e= .returned (.bool (ZJ h))∧Upd No w w':=by
 obtain⟨txs,ords,A,c,B,d⟩:=h;unfold Hist.val;have hf:=H.few;have hfo:=H.fewo;simp only at hf hfo
 by_cases h1:12<txs.length
 ·have hv:=Qh (show ZJ ⟨txs,ords,A,c,B,d⟩=false by unfold ZJ;rw[decide_eq_false (by simp only;omega)];rfl)
  go_enter Tryz.func8,Tryz.ntmps8
  go_wp2
  go_ret
  exact⟨by rw[hv.out];rfl,(Upd.refl _ _).alloc _⟩
 ·by_cases h2:24<ords.length
  ·have hv:=Qh (show ZJ ⟨txs,ords,A,c,B,d⟩=false by unfold ZJ;rw[decide_eq_false (show¬ords.length≤24 by omega)];simp)
   go_enter Tryz.func8,Tryz.ntmps8
   go_wp2
   go_ret
   exact⟨by rw[hv.out];rfl,(Upd.refl _ _).alloc _⟩
  ·have hb:=Blk.new w 25 [.slice A txs.length c,.slice B ords.length d];have e0:(w.alloc (.cells #[.slice A txs.length c,.slice B ords.length d] 25)).cell? ⟨w.heap.size,1,none⟩=some (.slice B ords.length d):=hb.cell 1;have E0:=Qh e0;clear e0 hb
   go_enter Tryz.func8,Tryz.ntmps8
   go_wp2
   go_loopg [20] txs.length (fun gk i wr=>∃k:Nat,k+gk=txs.length∧i= .int .i64 k∧Hid ((txs.take k).all (fun t=>decide (t.ops.length≤24))=true)∧Upd No (w.alloc (.cells #[.slice A txs.length c,.slice B ords.length d] 25)) wr)
   case atStart=>exact⟨0,by omega,rfl,Qh (by simp),Upd.refl _ _⟩
   case round=>
    obtain⟨k,hgk,rfl,hall,hu⟩:=hrel;have hu0:Upd No w wr:=((Upd.refl No w).alloc _).trans hu
    by_cases hlt:k<txs.length
    ·obtain⟨ad,hAd,c0,c1,c2⟩:=(H.upd hu0 (fun _ _=>id)).tx_at hlt;simp only at hAd c0 c1 c2;obtain⟨x,hx⟩:∃x,txs[k]=x:=⟨_,rfl⟩;rw[hx]at c0 c1 c2;subst hAd;have X:=Qh hx;clear hx;have hfx:=((H.upd hu0 (fun _ _=>id)).tx x (by rw[←X.out];exact List.getElem_mem hlt)).2.2.1;unfold Zh at hfx
     by_cases ht:24<x.ops.length
     ·have hv:=Qh (show ZJ ⟨txs,ords,some ad,c,B,d⟩=false by
       unfold ZJ;rw[ZlR (l:=txs) (k:=k) hlt (by rw[X.out];exact decide_eq_false (by omega))];simp)
      go_wp2
      go_ret
      exact⟨by rw[hv.out];rfl,hu0.alloc _⟩
     ·go_wp2
      go_roundg (gk-1)
      case measure=>omega
      case rel=>exact⟨k+1,by omega,by go_num,Qh (ZkE hlt hall.out (by rw[X.out];exact decide_eq_true (by omega))),hu.alloc _⟩
    ·obtain rfl:k=txs.length:=by omega
     have e1:wr.cell? ⟨w.heap.size,1,none⟩=some (.slice B ords.length d):=hu.keepNo E0.out;have hall1:=Qh (show txs.all (fun t=>decide (t.ops.length≤24))=true by have:=hall.out;rwa [List.take_length]at this);clear hall;go_wp2
     go_loopg [32] ords.length (fun gk i wr=>∃k:Nat,k+gk=ords.length∧i= .int .i64 k∧Hid ((ords.take k).all (fun t=>decide (t.txs.length≤24))=true)∧Upd No w wr)
     case atStart=>exact⟨0,by omega,rfl,Qh (by simp),hu0⟩
     case round=>
      obtain⟨k,hgk,rfl,hall,hu2⟩:=hrel
      by_cases hlt2:k<ords.length
      ·obtain⟨ad,hAd,c0,c1⟩:=(H.upd hu2 (fun _ _=>id)).ord_at hlt2;simp only at hAd c0 c1;obtain⟨x,hx⟩:∃x,ords[k]=x:=⟨_,rfl⟩;rw[hx]at c0 c1;subst hAd;have X:=Qh hx;clear hx;have hfx:=((H.upd hu2 (fun _ _=>id)).ord x (by rw[←X.out];exact List.getElem_mem hlt2)).2.2.1
       by_cases ht:24<x.txs.length
       ·have hv:=Qh (show ZJ ⟨txs,ords,A,c,some ad,d⟩=false by
         unfold ZJ;rw[ZlR (l:=ords) (k:=k) hlt2 (by rw[X.out];exact decide_eq_false (by omega))];simp)
        go_wp2
        go_ret
        exact⟨by rw[hv.out];rfl,hu2.alloc _⟩
       ·go_wp2
        go_roundg (gk-1)
        case measure=>omega
        case rel=>exact⟨k+1,by omega,by go_num,Qh (ZkE hlt2 hall.out (by rw[X.out];exact decide_eq_true (by omega))),hu2.alloc _⟩
      ·obtain rfl:k=ords.length:=by omega
       have hv:=Qh (show ZJ ⟨txs,ords,A,c,B,d⟩=true by
        have h3:=hall.out;rw[List.take_length]at h3;unfold ZJ;rw[decide_eq_true (show txs.length≤12 by omega),decide_eq_true (show ords.length≤24 by omega),hall1.out,h3];rfl)
       go_wp2
       go_ret
       exact⟨by rw[hv.out];rfl,hu2⟩
end
/- Arrays of six Booleans:they are compared,filled and written. -/
section
open Go.RowKit
theorem Zgd (d:Nat) (w:World) (a0 a1 a2 a3 a4 a5 b0 b1 b2 b3 b4 b5:Bool):
  (Op.equalIn (d+1+1) 31 (.agg #[.bool a0,.bool a1,.bool a2,.bool a3,.bool a4,.bool a5]) (.agg #[.bool b0,.bool b1,.bool b2,.bool b3,.bool b4,.bool b5])).run Tryz.prog w= .ok (a0==b0&&(a1==b1&&(a2==b2&&(a3==b3&&(a4==b4&&a5==b5))))) w:=by
 have ht:=Tryz.underlying31;have hb:=Tryz.underlying4;have hsz:∀(w:World),(sizeOf 4).run Tryz.prog w= .ok 1 w:=fun w=>by kernel_rfl
 have hp:∀(w:World) (a0 a1 a2 a3 a4 a5:Value) (i:Nat) (v:Value),#[a0,a1,a2,a3,a4,a5][i]? =some v→(part 4 #[a0,a1,a2,a3,a4,a5] i).run Tryz.prog w= .ok v w:=fun w a0 a1 a2 a3 a4 a5 i v h=>by simp[part,isAgg,run_underlying hb,h]
 have p0:=fun w a0 a1 a2 a3 a4 a5=>hp w a0 a1 a2 a3 a4 a5 0 a0 rfl
 have p1:=fun w a0 a1 a2 a3 a4 a5=>hp w a0 a1 a2 a3 a4 a5 1 a1 rfl
 have p2:=fun w a0 a1 a2 a3 a4 a5=>hp w a0 a1 a2 a3 a4 a5 2 a2 rfl
 have p3:=fun w a0 a1 a2 a3 a4 a5=>hp w a0 a1 a2 a3 a4 a5 3 a3 rfl
 have p4:=fun w a0 a1 a2 a3 a4 a5=>hp w a0 a1 a2 a3 a4 a5 4 a4 rfl
 have p5:=fun w a0 a1 a2 a3 a4 a5=>hp w a0 a1 a2 a3 a4 a5 5 a5 rfl
 have h1:∀(d:Nat) (w:World) (a b:Bool),(Op.equalIn (d+1) 4 (.bool a) (.bool b)).run Tryz.prog w= .ok (a==b) w:=fun d w a b=>run_equalIn_bool w d _ a b hb
 clear hp;unfold Op.equalIn;simp only[run_underlying ht,hsz,p0,p1,p2,p3,p4,p5,h1,Sem.run_bind,Sem.run_pure,Result.andThen,List.range',Std.Legacy.Range.forIn_eq_forIn_range',Std.Legacy.Range.size,Result.andThen_ok,List.forIn_cons,List.forIn_nil,Nat.sub_zero,Nat.add_sub_cancel,Nat.div_one,Nat.reduceAdd,Nat.reduceSub,Nat.zero_mul,Nat.mul_one]
 cases e0:(a0==b0)
 ·simp only[Bool.not_true,Bool.not_false,Bool.false_eq_true,if_false,if_true,ite_true,ite_false,reduceIte,p0,p1,p2,p3,p4,p5,h1,Sem.run_bind,Sem.run_pure,Result.andThen,Result.andThen_ok,Bool.true_and,Bool.false_and]
 ·simp only[Bool.not_true,Bool.not_false,Bool.false_eq_true,if_false,if_true,ite_true,ite_false,reduceIte,p0,p1,p2,p3,p4,p5,h1,Sem.run_bind,Sem.run_pure,Result.andThen,Result.andThen_ok,Bool.true_and,Bool.false_and]
  cases e1:(a1==b1)
  ·simp only[Bool.not_true,Bool.not_false,Bool.false_eq_true,if_false,if_true,ite_true,ite_false,reduceIte,p0,p1,p2,p3,p4,p5,h1,Sem.run_bind,Sem.run_pure,Result.andThen,Result.andThen_ok,Bool.true_and,Bool.false_and]
  ·simp only[Bool.not_true,Bool.not_false,Bool.false_eq_true,if_false,if_true,ite_true,ite_false,reduceIte,p0,p1,p2,p3,p4,p5,h1,Sem.run_bind,Sem.run_pure,Result.andThen,Result.andThen_ok,Bool.true_and,Bool.false_and]
   cases e2:(a2==b2)
   ·simp only[Bool.not_true,Bool.not_false,Bool.false_eq_true,if_false,if_true,ite_true,ite_false,reduceIte,p0,p1,p2,p3,p4,p5,h1,Sem.run_bind,Sem.run_pure,Result.andThen,Result.andThen_ok,Bool.true_and,Bool.false_and]
   ·simp only[Bool.not_true,Bool.not_false,Bool.false_eq_true,if_false,if_true,ite_true,ite_false,reduceIte,p0,p1,p2,p3,p4,p5,h1,Sem.run_bind,Sem.run_pure,Result.andThen,Result.andThen_ok,Bool.true_and,Bool.false_and]
    cases e3:(a3==b3)
    ·simp only[Bool.not_true,Bool.not_false,Bool.false_eq_true,if_false,if_true,ite_true,ite_false,reduceIte,p0,p1,p2,p3,p4,p5,h1,Sem.run_bind,Sem.run_pure,Result.andThen,Result.andThen_ok,Bool.true_and,Bool.false_and]
    ·simp only[Bool.not_true,Bool.not_false,Bool.false_eq_true,if_false,if_true,ite_true,ite_false,reduceIte,p0,p1,p2,p3,p4,p5,h1,Sem.run_bind,Sem.run_pure,Result.andThen,Result.andThen_ok,Bool.true_and,Bool.false_and]
     cases e4:(a4==b4)
     ·simp only[Bool.not_true,Bool.not_false,Bool.false_eq_true,if_false,if_true,ite_true,ite_false,reduceIte,p0,p1,p2,p3,p4,p5,h1,Sem.run_bind,Sem.run_pure,Result.andThen,Result.andThen_ok,Bool.true_and,Bool.false_and]
     ·simp only[Bool.not_true,Bool.not_false,Bool.false_eq_true,if_false,if_true,ite_true,ite_false,reduceIte,p0,p1,p2,p3,p4,p5,h1,Sem.run_bind,Sem.run_pure,Result.andThen,Result.andThen_ok,Bool.true_and,Bool.false_and]
      cases e5:(a5==b5)
      ·simp only[Bool.not_true,Bool.not_false,Bool.false_eq_true,if_false,if_true,ite_true,ite_false,reduceIte,p0,p1,p2,p3,p4,p5,h1,Sem.run_bind,Sem.run_pure,Result.andThen,Result.andThen_ok,Bool.true_and,Bool.false_and]
      ·simp only[Bool.not_true,Bool.not_false,Bool.false_eq_true,if_false,if_true,ite_true,ite_false,reduceIte,p0,p1,p2,p3,p4,p5,h1,Sem.run_bind,Sem.run_pure,Result.andThen,Result.andThen_ok,Bool.true_and,Bool.false_and]
theorem ZhG (w:World) (a0 a1 a2 a3 a4 a5 b0 b1 b2 b3 b4 b5:Bool):
  (Op.equalIn 10000 31 (.agg #[.bool a0,.bool a1,.bool a2,.bool a3,.bool a4,.bool a5]) (.agg #[.bool b0,.bool b1,.bool b2,.bool b3,.bool b4,.bool b5])).run Tryz.prog w= .ok (a0==b0&&(a1==b1&&(a2==b2&&(a3==b3&&(a4==b4&&a5==b5))))) w:=Zgd 9998 w a0 a1 a2 a3 a4 a5 b0 b1 b2 b3 b4 b5
def Zcz (f:Int→Bool) (k:Nat):List Value:=(List.range 6).map fun i=> .bool (decide (i<k)&&f (i:Int))
theorem ZoV (f:Int→Bool) (k:Nat):(Zcz f k).length=6:=by unfold Zcz;simp
theorem Zni (f:Int→Bool):Zcz f 0=[.bool false,.bool false,.bool false,.bool false,.bool false,.bool false]:=by unfold Zcz;rfl
theorem Zgg (f:Int→Bool):Zcz f 6=[.bool (f 0),.bool (f 1),.bool (f 2),.bool (f 3),.bool (f 4),.bool (f 5)]:=by unfold Zcz;rfl
theorem ZoU (f:Int→Bool) (k:Nat) (hk:k<6):(Zcz f k).set k (.bool (f (k:Int)))=Zcz f (k+1):=by
 rcases(show k=0∨k=1∨k=2∨k=3∨k=4∨k=5 by omega)with rfl|rfl|rfl|rfl|rfl|rfl<;>rfl
theorem ZjB (f:Int→Bool) {k:Nat} (hk:k<6):(Zcz f 6)[k]? =some (.bool (f (k:Int))):=by
 rcases(show k=0∨k=1∨k=2∨k=3∨k=4∨k=5 by omega)with rfl|rfl|rfl|rfl|rfl|rfl<;>rfl
theorem Zub {W:World} {b:Nat} {ty:TypeId} {c0 c1 c2 c3 c4 c5:Value} (h:Blk W b ty [c0,c1,c2,c3,c4,c5]) (v0 v1 v2 v3 v4 v5:Value):
  Blk ((((((W.setCell ⟨b,0,none⟩ v0).setCell ⟨b,1,none⟩ v1).setCell ⟨b,2,none⟩ v2).setCell ⟨b,3,none⟩ v3).setCell ⟨b,4,none⟩ v4).setCell ⟨b,5,none⟩ v5) b ty [v0,v1,v2,v3,v4,v5]∧
  Upd (One b) W ((((((W.setCell ⟨b,0,none⟩ v0).setCell ⟨b,1,none⟩ v1).setCell ⟨b,2,none⟩ v2).setCell ⟨b,3,none⟩ v3).setCell ⟨b,4,none⟩ v4).setCell ⟨b,5,none⟩ v5):=by
 refine⟨?_,((((((Upd.refl _ _).setOne 0 _).setOne 1 _).setOne 2 _).setOne 3 _).setOne 4 _).setOne 5 _⟩;have:=(((((h.set_ 0 v0).set_ 1 v1).set_ 2 v2).set_ 3 v3).set_ 4 v4).set_ 5 v5
 simpa only[List.set_cons_zero,List.set_cons_succ]using this
end
/- Levels:which level bars which phenomenon;the words. -/
section
open Go.RowKit
def ZD (l p:Int):Bool:=decide (1≤l∧l≤3∧1≤p∧p≤5)&&(p==1||((decide (p<5)&&decide (2≤l))||l==3))
def Zt (b1 b2 b3 b4 b5:Bool):Int:=if b1 then 0 else if b2 then 1 else if b3 then 1 else if b4 then 1 else if b5 then 2 else 3
def Zbs (l:Int):ByteArray:=if l=0 then ⟨#[110,111,110,101]⟩ else if l=1 then ⟨#[80,76,45,49]⟩ else if l=2 then ⟨#[80,76,45,50]⟩ else if l=3 then ⟨#[80,76,45,51]⟩ else ⟨#[]⟩
def Zcu (p:Int):ByteArray:=if p=1 then ⟨#[71,48]⟩ else if p=2 then ⟨#[71,49,97]⟩ else if p=3 then ⟨#[71,49,98]⟩ else if p=4 then ⟨#[71,49,99]⟩ else if p=5 then ⟨#[71,50,45,105,116,101,109]⟩ else ⟨#[]⟩
def Za3 (p:Int):ByteArray:=if p=1 then ⟨#[103,48]⟩ else if p=2 then ⟨#[103,49,97]⟩ else if p=3 then ⟨#[103,49,98]⟩ else if p=4 then ⟨#[103,49,99]⟩ else if p=5 then ⟨#[103,50]⟩ else ⟨#[]⟩
theorem Zfz {l p:Int} (h:¬(1≤l∧l≤3)):ZD l p=false:=by unfold ZD;rw[decide_eq_false (by omega)];rfl
theorem Zcw {l p:Int} (h:¬(1≤p∧p≤5)):ZD l p=false:=by unfold ZD;rw[decide_eq_false (by omega)];rfl
set_option maxRecDepth 100000 in
set_option maxHeartbeats 2000000 in
theorem Zqy (w:World) (l p:Int):Calls Tryz.prog 23 #[.int .i64 l,.int .i64 p] w fun e w'=>e= .returned (.bool (ZD l p))∧w=w':=by
 by_cases l3:l=3
 ·subst l3
  by_cases p1:p=1
  ·subst p1
   go_enter Tryz.func23,Tryz.ntmps23
   go_wp2
   go_ret
   exact⟨rfl,rfl⟩
  by_cases p2:p=2
  ·subst p2
   go_enter Tryz.func23,Tryz.ntmps23
   go_wp2
   go_ret
   exact⟨rfl,rfl⟩
  by_cases p3:p=3
  ·subst p3
   go_enter Tryz.func23,Tryz.ntmps23
   go_wp2
   go_ret
   exact⟨rfl,rfl⟩
  by_cases p4:p=4
  ·subst p4
   go_enter Tryz.func23,Tryz.ntmps23
   go_wp2
   go_ret
   exact⟨rfl,rfl⟩
  by_cases p5:p=5
  ·subst p5
   go_enter Tryz.func23,Tryz.ntmps23
   go_wp2
   go_ret
   exact⟨rfl,rfl⟩
  have q1:(p==1)=false:=by simpa using p1
  have q5:(p==5)=false:=by simpa using p5
  rw[Zcw (by omega)]
  by_cases h:2≤p
  ·have d1:decide (2≤p)=true:=decide_eq_true h;have d2:decide (p≤4)=false:=decide_eq_false (by omega)
   go_enter Tryz.func23,Tryz.ntmps23
   go_wp2
   go_ret
   exact⟨rfl,rfl⟩
  ·have d1:decide (2≤p)=false:=decide_eq_false h
   go_enter Tryz.func23,Tryz.ntmps23
   go_wp2
   go_ret
   exact⟨rfl,rfl⟩
 by_cases l2:l=2
 ·subst l2
  by_cases p1:p=1
  ·subst p1
   go_enter Tryz.func23,Tryz.ntmps23
   go_wp2
   go_ret
   exact⟨rfl,rfl⟩
  by_cases p2:p=2
  ·subst p2
   go_enter Tryz.func23,Tryz.ntmps23
   go_wp2
   go_ret
   exact⟨rfl,rfl⟩
  by_cases p3:p=3
  ·subst p3
   go_enter Tryz.func23,Tryz.ntmps23
   go_wp2
   go_ret
   exact⟨rfl,rfl⟩
  by_cases p4:p=4
  ·subst p4
   go_enter Tryz.func23,Tryz.ntmps23
   go_wp2
   go_ret
   exact⟨rfl,rfl⟩
  by_cases p5:p=5
  ·subst p5
   go_enter Tryz.func23,Tryz.ntmps23
   go_wp2
   go_ret
   exact⟨rfl,rfl⟩
  have q1:(p==1)=false:=by simpa using p1
  rw[Zcw (by omega)]
  by_cases h:2≤p
  ·have d1:decide (2≤p)=true:=decide_eq_true h;have d2:decide (p≤4)=false:=decide_eq_false (by omega)
   go_enter Tryz.func23,Tryz.ntmps23
   go_wp2
   go_ret
   exact⟨rfl,rfl⟩
  ·have d1:decide (2≤p)=false:=decide_eq_false h
   go_enter Tryz.func23,Tryz.ntmps23
   go_wp2
   go_ret
   exact⟨rfl,rfl⟩
 by_cases l1:l=1
 ·subst l1
  by_cases p1:p=1
  ·subst p1
   go_enter Tryz.func23,Tryz.ntmps23
   go_wp2
   go_ret
   exact⟨rfl,rfl⟩
  by_cases p2:p=2
  ·subst p2
   go_enter Tryz.func23,Tryz.ntmps23
   go_wp2
   go_ret
   exact⟨rfl,rfl⟩
  by_cases p3:p=3
  ·subst p3
   go_enter Tryz.func23,Tryz.ntmps23
   go_wp2
   go_ret
   exact⟨rfl,rfl⟩
  by_cases p4:p=4
  ·subst p4
   go_enter Tryz.func23,Tryz.ntmps23
   go_wp2
   go_ret
   exact⟨rfl,rfl⟩
  by_cases p5:p=5
  ·subst p5
   go_enter Tryz.func23,Tryz.ntmps23
   go_wp2
   go_ret
   exact⟨rfl,rfl⟩
  have q1:(p==1)=false:=by simpa using p1
  rw[Zcw (by omega)]
  go_enter Tryz.func23,Tryz.ntmps23
  go_wp2
  go_ret
  exact⟨rfl,rfl⟩
 have r1:(l==1)=false:=by simpa using l1
 have r2:(l==2)=false:=by simpa using l2
 have r3:(l==3)=false:=by simpa using l3
 rw[Zfz (by omega)]
 go_enter Tryz.func23,Tryz.ntmps23
 go_wp2
 go_ret
 exact⟨rfl,rfl⟩
set_option maxRecDepth 100000 in
set_option maxHeartbeats 2000000 in
theorem Zlh (w:World) (l p:Int):Calls Tryz.prog 24 #[.int .i64 l,.int .i64 p] w fun e w'=>e= .returned (.bool (ZD l p))∧w=w':=by
 by_cases h1:l<1
 ·have d1:decide (l<1)=true:=decide_eq_true h1;rw[Zfz (by omega)]
  go_enter Tryz.func24,Tryz.ntmps24
  go_wp2
  go_ret
  exact⟨rfl,rfl⟩
 have d1:decide (l<1)=false:=decide_eq_false h1
 by_cases h2:3<l
 ·have d2:decide (3<l)=true:=decide_eq_true h2;rw[Zfz (by omega)]
  go_enter Tryz.func24,Tryz.ntmps24
  go_wp2
  go_ret
  exact⟨rfl,rfl⟩
 have d2:decide (3<l)=false:=decide_eq_false h2
 by_cases h3:p<1
 ·have d3:decide (p<1)=true:=decide_eq_true h3;rw[Zcw (by omega)]
  go_enter Tryz.func24,Tryz.ntmps24
  go_wp2
  go_ret
  exact⟨rfl,rfl⟩
 have d3:decide (p<1)=false:=decide_eq_false h3
 by_cases h4:5<p
 ·have d4:decide (5<p)=true:=decide_eq_true h4;rw[Zcw (by omega)]
  go_enter Tryz.func24,Tryz.ntmps24
  go_wp2
  go_ret
  exact⟨rfl,rfl⟩
 have hl:l=1∨l=2∨l=3:=by omega
 have hp:p=1∨p=2∨p=3∨p=4∨p=5:=by omega
 clear d1 d2 d3 h1 h2 h3 h4;rcases hl with rfl|rfl|rfl
 ·rcases hp with rfl|rfl|rfl|rfl|rfl
  ·go_enter Tryz.func24,Tryz.ntmps24
   go_wp2
   go_ret
   exact⟨rfl,rfl⟩
  ·go_enter Tryz.func24,Tryz.ntmps24
   go_wp2
   go_ret
   exact⟨rfl,rfl⟩
  ·go_enter Tryz.func24,Tryz.ntmps24
   go_wp2
   go_ret
   exact⟨rfl,rfl⟩
  ·go_enter Tryz.func24,Tryz.ntmps24
   go_wp2
   go_ret
   exact⟨rfl,rfl⟩
  ·go_enter Tryz.func24,Tryz.ntmps24
   go_wp2
   go_ret
   exact⟨rfl,rfl⟩
 ·rcases hp with rfl|rfl|rfl|rfl|rfl
  ·go_enter Tryz.func24,Tryz.ntmps24
   go_wp2
   go_ret
   exact⟨rfl,rfl⟩
  ·go_enter Tryz.func24,Tryz.ntmps24
   go_wp2
   go_ret
   exact⟨rfl,rfl⟩
  ·go_enter Tryz.func24,Tryz.ntmps24
   go_wp2
   go_ret
   exact⟨rfl,rfl⟩
  ·go_enter Tryz.func24,Tryz.ntmps24
   go_wp2
   go_ret
   exact⟨rfl,rfl⟩
  ·go_enter Tryz.func24,Tryz.ntmps24
   go_wp2
   go_ret
   exact⟨rfl,rfl⟩
 ·rcases hp with rfl|rfl|rfl|rfl|rfl
  ·go_enter Tryz.func24,Tryz.ntmps24
   go_wp2
   go_ret
   exact⟨rfl,rfl⟩
  ·go_enter Tryz.func24,Tryz.ntmps24
   go_wp2
   go_ret
   exact⟨rfl,rfl⟩
  ·go_enter Tryz.func24,Tryz.ntmps24
   go_wp2
   go_ret
   exact⟨rfl,rfl⟩
  ·go_enter Tryz.func24,Tryz.ntmps24
   go_wp2
   go_ret
   exact⟨rfl,rfl⟩
  ·go_enter Tryz.func24,Tryz.ntmps24
   go_wp2
   go_ret
   exact⟨rfl,rfl⟩
set_option maxRecDepth 100000 in
theorem Zqv (w:World) (l:Int):Calls Tryz.prog 29 #[.int .i64 l] w fun e w'=>e= .returned (.string (Zbs l))∧Upd No w w':=by
 by_cases h1:l<0
 ·have d1:decide (l<0)=true:=decide_eq_true h1;rw[show Zbs l=⟨#[]⟩ by unfold Zbs;rw[if_neg (by omega),if_neg (by omega),if_neg (by omega),if_neg (by omega)]]
  go_enter Tryz.func29,Tryz.ntmps29
  go_wp2
  go_ret
  exact⟨rfl,(Upd.refl No w).alloc _⟩
 by_cases h2:4≤l
 ·have d1:decide (l<0)=false:=decide_eq_false h1;have d2:decide (4≤l)=true:=decide_eq_true h2;rw[show Zbs l=⟨#[]⟩ by unfold Zbs;rw[if_neg (by omega),if_neg (by omega),if_neg (by omega),if_neg (by omega)]]
  go_enter Tryz.func29,Tryz.ntmps29
  go_wp2
  go_ret
  exact⟨rfl,(Upd.refl No w).alloc _⟩
 have hl:l=0∨l=1∨l=2∨l=3:=by omega
 clear h1 h2;rcases hl with rfl|rfl|rfl|rfl
 ·go_enter Tryz.func29,Tryz.ntmps29
  go_wp2
  go_ret
  exact⟨rfl,(Upd.refl No w).alloc _⟩
 ·go_enter Tryz.func29,Tryz.ntmps29
  go_wp2
  go_ret
  exact⟨rfl,(Upd.refl No w).alloc _⟩
 ·go_enter Tryz.func29,Tryz.ntmps29
  go_wp2
  go_ret
  exact⟨rfl,(Upd.refl No w).alloc _⟩
 ·go_enter Tryz.func29,Tryz.ntmps29
  go_wp2
  go_ret
  exact⟨rfl,(Upd.refl No w).alloc _⟩
set_option maxRecDepth 100000 in
theorem Zq6 (w:World) (l:Int):Calls Tryz.prog 30 #[.int .i64 l] w fun e w'=>e= .returned (.string (Zbs l))∧Upd No w w':=by
 by_cases h1:l<0
 ·have d1:decide (l<0)=true:=decide_eq_true h1;rw[show Zbs l=⟨#[]⟩ by unfold Zbs;rw[if_neg (by omega),if_neg (by omega),if_neg (by omega),if_neg (by omega)]]
  go_enter Tryz.func30,Tryz.ntmps30
  go_wp2
  go_ret
  exact⟨rfl,(Upd.refl No w).alloc _⟩
 by_cases h2:3<l
 ·have d1:decide (l<0)=false:=decide_eq_false h1;have d2:decide (3<l)=true:=decide_eq_true h2;rw[show Zbs l=⟨#[]⟩ by unfold Zbs;rw[if_neg (by omega),if_neg (by omega),if_neg (by omega),if_neg (by omega)]]
  go_enter Tryz.func30,Tryz.ntmps30
  go_wp2
  go_ret
  exact⟨rfl,(Upd.refl No w).alloc _⟩
 have hl:l=0∨l=1∨l=2∨l=3:=by omega
 clear h1 h2;rcases hl with rfl|rfl|rfl|rfl
 ·go_enter Tryz.func30,Tryz.ntmps30
  go_wp2
  go_ret
  exact⟨rfl,(Upd.refl No w).alloc _⟩
 ·go_enter Tryz.func30,Tryz.ntmps30
  go_wp2
  go_ret
  exact⟨rfl,(Upd.refl No w).alloc _⟩
 ·go_enter Tryz.func30,Tryz.ntmps30
  go_wp2
  go_ret
  exact⟨rfl,(Upd.refl No w).alloc _⟩
 ·go_enter Tryz.func30,Tryz.ntmps30
  go_wp2
  go_ret
  exact⟨rfl,(Upd.refl No w).alloc _⟩
set_option maxRecDepth 100000 in
theorem Zqt (w:World) (p:Int):Calls Tryz.prog 68 #[.int .i64 p] w fun e w'=>e= .returned (.tuple #[.string (Zcu p),.string (Za3 p)])∧w=w':=by
 by_cases p1:p=1
 ·subst p1
  go_enter Tryz.func68,Tryz.ntmps68
  go_wp2
  go_ret2
  exact⟨rfl,rfl⟩
 by_cases p2:p=2
 ·subst p2
  go_enter Tryz.func68,Tryz.ntmps68
  go_wp2
  go_ret2
  exact⟨rfl,rfl⟩
 by_cases p3:p=3
 ·subst p3
  go_enter Tryz.func68,Tryz.ntmps68
  go_wp2
  go_ret2
  exact⟨rfl,rfl⟩
 by_cases p4:p=4
 ·subst p4
  go_enter Tryz.func68,Tryz.ntmps68
  go_wp2
  go_ret2
  exact⟨rfl,rfl⟩
 by_cases p5:p=5
 ·subst p5
  go_enter Tryz.func68,Tryz.ntmps68
  go_wp2
  go_ret2
  exact⟨rfl,rfl⟩
 have q1:(p==1)=false:=by simpa using p1
 have q2:(p==2)=false:=by simpa using p2
 have q3:(p==3)=false:=by simpa using p3
 have q4:(p==4)=false:=by simpa using p4
 have q5:(p==5)=false:=by simpa using p5
 rw[show Zcu p=⟨#[]⟩ by unfold Zcu;rw[if_neg p1,if_neg p2,if_neg p3,if_neg p4,if_neg p5],show Za3 p=⟨#[]⟩ by unfold Za3;rw[if_neg p1,if_neg p2,if_neg p3,if_neg p4,if_neg p5]]
 go_enter Tryz.func68,Tryz.ntmps68
 go_wp2
 go_ret2
 exact⟨rfl,rfl⟩
theorem Zqx (w:World) (p:Int):Calls Tryz.prog 31 #[.int .i64 p] w fun e w'=>e= .returned (.string (Zcu p))∧w=w':=by
 have C:=Qh (Zqt w p)
 go_enter Tryz.func31,Tryz.ntmps31
 go_wp2_with fail
 refine(C.out).mono ?_;rintro e w1 ⟨rfl,rfl⟩;go_wp2
 go_ret
 exact⟨rfl,rfl⟩
theorem Zmo (w:World) (p:Int):Calls Tryz.prog 33 #[.int .i64 p] w fun e w'=>e= .returned (.string (Za3 p))∧w=w':=by
 have C:=Qh (Zqt w p)
 go_enter Tryz.func33,Tryz.ntmps33
 go_wp2_with fail
 refine(C.out).mono ?_;rintro e w1 ⟨rfl,rfl⟩;go_wp2
 go_ret
 exact⟨rfl,rfl⟩
set_option maxRecDepth 100000 in
theorem Zq9 (w:World) (p:Int):Calls Tryz.prog 32 #[.int .i64 p] w fun e w'=>e= .returned (.string (Zcu p))∧Upd No w w':=by
 by_cases h1:p<0
 ·have d1:decide (p<0)=true:=decide_eq_true h1;rw[show Zcu p=⟨#[]⟩ by unfold Zcu;rw[if_neg (by omega),if_neg (by omega),if_neg (by omega),if_neg (by omega),if_neg (by omega)]]
  go_enter Tryz.func32,Tryz.ntmps32
  go_wp2
  go_ret
  exact⟨rfl,(Upd.refl No w).alloc _⟩
 by_cases h2:5<p
 ·have d1:decide (p<0)=false:=decide_eq_false h1;have d2:decide (5<p)=true:=decide_eq_true h2;rw[show Zcu p=⟨#[]⟩ by unfold Zcu;rw[if_neg (by omega),if_neg (by omega),if_neg (by omega),if_neg (by omega),if_neg (by omega)]]
  go_enter Tryz.func32,Tryz.ntmps32
  go_wp2
  go_ret
  exact⟨rfl,(Upd.refl No w).alloc _⟩
 have hp:p=0∨p=1∨p=2∨p=3∨p=4∨p=5:=by omega
 clear h1 h2;rcases hp with rfl|rfl|rfl|rfl|rfl|rfl
 ·go_enter Tryz.func32,Tryz.ntmps32
  go_wp2
  go_ret
  exact⟨rfl,(Upd.refl No w).alloc _⟩
 ·go_enter Tryz.func32,Tryz.ntmps32
  go_wp2
  go_ret
  exact⟨rfl,(Upd.refl No w).alloc _⟩
 ·go_enter Tryz.func32,Tryz.ntmps32
  go_wp2
  go_ret
  exact⟨rfl,(Upd.refl No w).alloc _⟩
 ·go_enter Tryz.func32,Tryz.ntmps32
  go_wp2
  go_ret
  exact⟨rfl,(Upd.refl No w).alloc _⟩
 ·go_enter Tryz.func32,Tryz.ntmps32
  go_wp2
  go_ret
  exact⟨rfl,(Upd.refl No w).alloc _⟩
 ·go_enter Tryz.func32,Tryz.ntmps32
  go_wp2
  go_ret
  exact⟨rfl,(Upd.refl No w).alloc _⟩
set_option maxRecDepth 100000 in
theorem Zlg (w:World) (p:Int):Calls Tryz.prog 34 #[.int .i64 p] w fun e w'=>e= .returned (.string (Za3 p))∧Upd No w w':=by
 by_cases h1:p<0
 ·have d1:decide (p<0)=true:=decide_eq_true h1;rw[show Za3 p=⟨#[]⟩ by unfold Za3;rw[if_neg (by omega),if_neg (by omega),if_neg (by omega),if_neg (by omega),if_neg (by omega)]]
  go_enter Tryz.func34,Tryz.ntmps34
  go_wp2
  go_ret
  exact⟨rfl,(Upd.refl No w).alloc _⟩
 by_cases h2:5<p
 ·have d1:decide (p<0)=false:=decide_eq_false h1;have d2:decide (5<p)=true:=decide_eq_true h2;rw[show Za3 p=⟨#[]⟩ by unfold Za3;rw[if_neg (by omega),if_neg (by omega),if_neg (by omega),if_neg (by omega),if_neg (by omega)]]
  go_enter Tryz.func34,Tryz.ntmps34
  go_wp2
  go_ret
  exact⟨rfl,(Upd.refl No w).alloc _⟩
 have hp:p=0∨p=1∨p=2∨p=3∨p=4∨p=5:=by omega
 clear h1 h2;rcases hp with rfl|rfl|rfl|rfl|rfl|rfl
 ·go_enter Tryz.func34,Tryz.ntmps34
  go_wp2
  go_ret
  exact⟨rfl,(Upd.refl No w).alloc _⟩
 ·go_enter Tryz.func34,Tryz.ntmps34
  go_wp2
  go_ret
  exact⟨rfl,(Upd.refl No w).alloc _⟩
 ·go_enter Tryz.func34,Tryz.ntmps34
  go_wp2
  go_ret
  exact⟨rfl,(Upd.refl No w).alloc _⟩
 ·go_enter Tryz.func34,Tryz.ntmps34
  go_wp2
  go_ret
  exact⟨rfl,(Upd.refl No w).alloc _⟩
 ·go_enter Tryz.func34,Tryz.ntmps34
  go_wp2
  go_ret
  exact⟨rfl,(Upd.refl No w).alloc _⟩
 ·go_enter Tryz.func34,Tryz.ntmps34
  go_wp2
  go_ret
  exact⟨rfl,(Upd.refl No w).alloc _⟩
end
/- Levels:the strongest level;the phenomenon of a code. -/
section
open Go.RowKit
set_option maxRecDepth 100000 in
theorem lOf (w:World) (b0 b1 b2 b3 b4 b5:Bool):Calls Tryz.prog 25 #[.agg #[.bool b0,.bool b1,.bool b2,.bool b3,.bool b4,.bool b5]] w fun e w'=>e= .returned (.int .i64 (Zt b1 b2 b3 b4 b5))∧Upd No w w':=by
 cases b1
 ·cases b2
  ·cases b3
   ·cases b4
    ·cases b5
     ·go_enter Tryz.func25,Tryz.ntmps25
      go_wp2
      go_ret
      exact⟨rfl,(Upd.refl No w).alloc _⟩
     ·go_enter Tryz.func25,Tryz.ntmps25
      go_wp2
      go_ret
      exact⟨rfl,(Upd.refl No w).alloc _⟩
    ·go_enter Tryz.func25,Tryz.ntmps25
     go_wp2
     go_ret
     exact⟨rfl,(Upd.refl No w).alloc _⟩
   ·go_enter Tryz.func25,Tryz.ntmps25
    go_wp2
    go_ret
    exact⟨rfl,(Upd.refl No w).alloc _⟩
  ·go_enter Tryz.func25,Tryz.ntmps25
   go_wp2
   go_ret
   exact⟨rfl,(Upd.refl No w).alloc _⟩
 ·go_enter Tryz.func25,Tryz.ntmps25
  go_wp2
  go_ret
  exact⟨rfl,(Upd.refl No w).alloc _⟩
def ZaV (f:Int→Bool) (l:Int):Nat→Bool
 |0=>true
 |n+1=>if (f ((n+1:Nat):Int)&&ZD l ((n+1:Nat):Int))=true then false else ZaV f l n
def ZcN (f:Int→Bool):Nat→Int
 |0=>0
 |n+1=>if ZaV f ((n+1:Nat):Int) 5=true then ((n+1:Nat):Int) else ZcN f n
theorem Zp5 (f:Int→Bool):ZcN f 3=Zt (f 1) (f 2) (f 3) (f 4) (f 5):=by
 have h:∀b1 b2 b3 b4 b5:Bool,(∀g:Int→Bool,g 1=b1→g 2=b2→g 3=b3→g 4=b4→g 5=b5→ZcN g 3=Zt b1 b2 b3 b4 b5):=by
  intro b1 b2 b3 b4 b5 g h1 h2 h3 h4 h5;have c:∀l p:Int,∀v,ZD l p=v→ZD l p=v:=fun _ _ _ h=>h
  unfold ZcN ZaV ZcN ZaV ZcN ZaV ZcN ZaV ZaV ZaV ZaV ZaV;simp only[ZaV,show((0+1:Nat):Int)=1 from rfl,show((1+1:Nat):Int)=2 from rfl,show((2+1:Nat):Int)=3 from rfl,show((3+1:Nat):Int)=4 from rfl,show((4+1:Nat):Int)=5 from rfl,h1,h2,h3,h4,h5]
  cases b1<;>cases b2<;>cases b3<;>cases b4<;>cases b5<;>rfl
 exact h _ _ _ _ _ f rfl rfl rfl rfl rfl
set_option maxRecDepth 100000 in
set_option maxHeartbeats 2000000 in
theorem Zql (w:World) (f:Int→Bool):Calls Tryz.prog 26 #[.agg #[.bool (f 0),.bool (f 1),.bool (f 2),.bool (f 3),.bool (f 4),.bool (f 5)]] w fun e w'=>e= .returned (.int .i64 (Zt (f 1) (f 2) (f 3) (f 4) (f 5)))∧Upd No w w':=by
 rw[←Zp5];obtain⟨z,hz⟩:∃z,w.heap.size=z:=⟨_,rfl⟩;obtain⟨wb,hwb⟩:∃wb,w.alloc (.cells #[.bool (f 0),.bool (f 1),.bool (f 2),.bool (f 3),.bool (f 4),.bool (f 5)] 31)=wb:=⟨_,rfl⟩;have u0:Upd No w wb:=by rw[←hwb];exact(Upd.refl No w).alloc _
 have bA:Blk wb z 31 (Zcz f 6):=by rw[Zgg,←hwb,←hz];exact Blk.new w _ _
 have HC:=Qh (fun W (u:Upd No wb W) k (hk:k<6)=>show W.cell? ⟨z,k,none⟩=some (.bool (f (k:Int))) from by rw[(bA.upd u id).cell];exact ZjB f hk);have U0:=Qh u0;have HB:=Qh (fun W l p=>Zlh W l p);clear u0 bA
 go_enter Tryz.func26,Tryz.ntmps26
 go_wp2;clear hwb
 go_loopg [3,4] 3 (fun gk b i wr=>∃k:Nat,k+gk=3∧i= .int .i64 (((k+1:Nat):Int))∧b= .int .i64 (ZcN f k)∧Hid (Upd No wb wr))
 case atStart=>exact⟨0,by omega,rfl,rfl,Qh (Upd.refl _ _)⟩
 case round=>
  obtain⟨k,hgk,rfl,rfl,hu⟩:=hrel
  by_cases hk:k<3
  ·obtain⟨LV,hLV⟩:∃LV:Int,((k+1:Nat):Int)=LV:=⟨_,rfl⟩;have HLV:=Qh hLV;rw[hLV];have l1:LV≤3:=by omega
   have lw:IntKind.i64.wrap (LV+1)=LV+1:=IntWalk.i64_in _ (by omega);obtain⟨BK,hBK⟩:∃BK,ZcN f k=BK:=⟨_,rfl⟩;have HBK:=Qh (show ZcN f (k+1)=if ZaV f LV 5=true then LV else BK by rw[←hBK,←hLV];rfl);rw[hBK];obtain⟨wo,hwo⟩:∃wo,wo=wr:=⟨_,rfl⟩;subst hwo;clear hLV hBK;go_wp2
   generalize gk=GK at*
   go_loopg [5,6] 5 (fun gk fn i wx=>∃j:Nat,j+gk=5∧i= .int .i64 (((j+1:Nat):Int))∧fn= .bool (ZaV f LV j)∧Hid (Upd No wo wx))
   case atStart=>exact⟨0,by omega,rfl,rfl,Qh (Upd.refl _ _)⟩
   case round=>
    obtain⟨j,hgj,rfl,rfl,hu2⟩:=hrel
    by_cases hj:j<5
    ·have HCJ:=HC.out wr (hu.out.trans hu2.out) (j+1) (by omega);have HF:=Qh (show ZaV f LV (j+1)=if (f ((j+1:Nat):Int)&&ZD LV ((j+1:Nat):Int))=true then false else ZaV f LV j from rfl);obtain⟨PJ,hPJ⟩:∃PJ:Int,((j+1:Nat):Int)=PJ:=⟨_,rfl⟩;have HPJ:=Qh hPJ;have hpn:PJ.toNat=j+1:=by omega
     rw[hPJ]at HCJ HF ⊢;have l2:PJ≤5:=by omega
     have l3:(0:Int)≤PJ:=by omega
     have l4:PJ<6:=by omega
     have pw:IntKind.i64.wrap (PJ+1)=PJ+1:=IntWalk.i64_in _ (by omega);obtain⟨fv,hfv⟩:∃fv,f PJ=fv:=⟨_,rfl⟩;obtain⟨bv,hbv⟩:∃bv,ZD LV PJ=bv:=⟨_,rfl⟩;obtain⟨nv,hnv⟩:∃nv,ZaV f LV j=nv:=⟨_,rfl⟩;have CB:=Qh (HB.out wr LV PJ);rw[hfv]at HCJ HF;rw[hbv]at HF CB;rw[hnv]at HF ⊢;clear hPJ hfv hbv hnv
     cases fv
     ·go_wp2
      go_roundg (gk-1)
      case measure=>omega
      case rel=>exact⟨j+1,by omega,by have:=HPJ.out;simp;omega,by rw[HF.out];simp,hu2⟩
     ·cases bv
      ·go_wp2_with fail
       refine(CB.out).mono ?_;rintro e w3 ⟨rfl,rfl⟩;go_wp2
       go_roundg (gk-1)
       case measure=>omega
       case rel=>exact⟨j+1,by omega,by have:=HPJ.out;simp;omega,by rw[HF.out];simp,hu2⟩
      ·go_wp2_with fail
       refine(CB.out).mono ?_;rintro e w3 ⟨rfl,rfl⟩;go_wp2
       go_roundg (gk-1)
       case measure=>omega
       case rel=>exact⟨j+1,by omega,by have:=HPJ.out;simp;omega,by rw[HF.out];simp,hu2⟩
    ·obtain rfl:j=5:=by omega
     obtain⟨fv,hfv⟩:∃fv,ZaV f LV 5=fv:=⟨_,rfl⟩;rw[hfv]at HBK ⊢;clear hfv
     cases fv
     ·go_wp2
      go_roundg (GK-1)
      case measure=>omega
      case rel=>exact⟨k+1,by omega,by have:=HLV.out;simp;omega,by rw[HBK.out];simp,Qh (hu.out.trans hu2.out)⟩
     ·go_wp2
      go_roundg (GK-1)
      case measure=>omega
      case rel=>exact⟨k+1,by omega,by have:=HLV.out;simp;omega,by rw[HBK.out];simp,Qh (hu.out.trans hu2.out)⟩
  ·obtain rfl:k=3:=by omega
   go_wp2
   go_ret
   exact⟨rfl,U0.out.trans hu.out⟩
theorem Zm6 {a b:ByteArray} (h:¬a=b):(a.toList==b.toList)=false:=by
 rw[beq_eq_false_iff_ne,Go.ByteArray.toList_eq,Go.ByteArray.toList_eq];intro e;exact h (ByteArray.ext (Array.toList_inj.1 e))
def Zb5 (s:ByteArray):Nat→Nat→Int
 |0,_=>0
 |n+1,i=>if Za3 (i:Int)=s then (i:Int) else Zb5 s n (i+1)
def ZcH (s:ByteArray):Int:=Zb5 s 5 1
set_option maxRecDepth 100000 in
theorem Zqw (w:World) (s:ByteArray):Calls Tryz.prog 35 #[.string s] w fun e w'=>e= .returned (.int .i64 (ZcH s))∧Upd No w w':=by
 have HC:=Qh (fun W p=>Zmo W p);obtain⟨R,hR⟩:∃R,ZcH s=R:=⟨_,rfl⟩;have HR:=Qh (show Zb5 s 5 1=R from hR);rw[hR];clear hR
 go_enter Tryz.func35,Tryz.ntmps35
 go_wp2
 go_loopg [3] 5 (fun gk i wr=>∃k:Nat,k+gk=5∧i= .int .i64 (((k+1:Nat):Int))∧Hid (Zb5 s gk (k+1)=R)∧Hid (Upd No w wr))
 case atStart=>exact⟨0,by omega,rfl,HR,Qh (Upd.refl _ _)⟩
 case round=>
  clear HR;obtain⟨k,hgk,rfl,hs,hu⟩:=hrel
  by_cases hk:k<5
  ·obtain⟨g1,rfl⟩:∃g1,gk=g1+1:=⟨gk-1,by omega⟩;have hst:=hs.out;unfold Zb5 at hst;have HPK:=Qh (show Zb5 s g1 (k+1+1)=Zb5 s g1 (k+1+1) from rfl);obtain⟨PK,hPK⟩:∃PK:Int,((k+1:Nat):Int)=PK:=⟨_,rfl⟩;have HP:=Qh hPK;rw[hPK]at hst ⊢;have l1:PK<6:=by omega
   have l2:PK≤5:=by omega
   have pw:IntKind.i64.wrap (PK+1)=PK+1:=IntWalk.i64_in _ (by omega);have CC:=Qh (HC.out wr PK);obtain⟨cv,hcv⟩:∃cv,Za3 PK=cv:=⟨_,rfl⟩;rw[hcv]at hst CC;clear hcv hPK hs HPK
   by_cases hc:cv=s
   ·subst hc;rw[if_pos rfl]at hst;have HST:=Qh hst;clear hst
    go_wp2_with fail
    refine(CC.out).mono ?_;rintro e w3 ⟨rfl,rfl⟩;go_wp2
    go_ret
    exact⟨by rw[←HST.out];rfl,hu.out⟩
   ·rw[if_neg hc]at hst;have HST:=Qh hst;have hce:(cv.toList==s.toList)=false:=Zm6 hc;clear hst
    go_wp2_with fail
    refine(CC.out).mono ?_;rintro e w3 ⟨rfl,rfl⟩;go_wp2
    go_roundg g1
    case measure=>omega
    case rel=>exact⟨k+1,by omega,by have:=HP.out;simp;omega,HST,Qh (hu.out)⟩
  ·obtain rfl:k=5:=by omega
   obtain rfl:gk=0:=by omega
   have HST:=Qh (show 0=R from hs.out);clear hs;go_wp2
   go_ret
   exact⟨by rw[←HST.out];rfl,hu.out⟩
set_option maxRecDepth 100000 in
theorem Zq8 (w:World) (s:ByteArray):Calls Tryz.prog 36 #[.string s] w fun e w'=>e= .returned (.int .i64 (ZcH s))∧Upd No w w':=by
 have HC:=Qh (fun W p=>Zlg W p);obtain⟨R,hR⟩:∃R,ZcH s=R:=⟨_,rfl⟩;have HR:=Qh (show Zb5 s 5 1=R from hR);rw[hR];clear hR
 go_enter Tryz.func36,Tryz.ntmps36
 go_wp2
 go_loopg [3] 5 (fun gk i wr=>∃k:Nat,k+gk=5∧i= .int .i64 (((k+1:Nat):Int))∧Hid (Zb5 s gk (k+1)=R)∧Hid (Upd No w wr))
 case atStart=>exact⟨0,by omega,rfl,HR,Qh (Upd.refl _ _)⟩
 case round=>
  clear HR;obtain⟨k,hgk,rfl,hs,hu⟩:=hrel
  by_cases hk:k<5
  ·obtain⟨g1,rfl⟩:∃g1,gk=g1+1:=⟨gk-1,by omega⟩;have hst:=hs.out;unfold Zb5 at hst;have HPK:=Qh (show Zb5 s g1 (k+1+1)=Zb5 s g1 (k+1+1) from rfl);obtain⟨PK,hPK⟩:∃PK:Int,((k+1:Nat):Int)=PK:=⟨_,rfl⟩;have HP:=Qh hPK;rw[hPK]at hst ⊢;have l1:PK<6:=by omega
   have l2:PK≤5:=by omega
   have pw:IntKind.i64.wrap (PK+1)=PK+1:=IntWalk.i64_in _ (by omega);have CC:=Qh (HC.out wr PK);obtain⟨cv,hcv⟩:∃cv,Za3 PK=cv:=⟨_,rfl⟩;rw[hcv]at hst CC;clear hcv hPK hs HPK
   by_cases hc:cv=s
   ·subst hc;rw[if_pos rfl]at hst;have HST:=Qh hst;clear hst
    go_wp2_with fail
    refine(CC.out).mono ?_;rintro e w3 ⟨rfl,hu3⟩;go_wp2
    go_ret
    exact⟨by rw[←HST.out];rfl,hu.out.trans hu3⟩
   ·rw[if_neg hc]at hst;have HST:=Qh hst;have hce:(cv.toList==s.toList)=false:=Zm6 hc;clear hst
    go_wp2_with fail
    refine(CC.out).mono ?_;rintro e w3 ⟨rfl,hu3⟩;go_wp2
    go_roundg g1
    case measure=>omega
    case rel=>exact⟨k+1,by omega,by have:=HP.out;simp;omega,HST,Qh (hu.out.trans hu3)⟩
  ·obtain rfl:k=5:=by omega
   obtain rfl:gk=0:=by omega
   have HST:=Qh (show 0=R from hs.out);clear hs;go_wp2
   go_ret
   exact⟨by rw[←HST.out];rfl,hu.out⟩
end
end Go.Proofs.YtklmahmfmbppkaaGreat
