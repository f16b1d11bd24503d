/- Histories: how operations, transactions, orders and histories lie in memory. -/
import Derived.Test.YtbcpoloakepnkaaGreatDoorProg
import Derived.Laws.StructEq
import Derived.Test.YtbcpoloakepnkaaGreatDoorLbaf
namespace Go.Proofs.YtbcpoloakepnkaaGreatDoor
set_option linter.unusedVariables false
set_option linter.unusedSimpArgs false
section
open Go.RowKit
def i64 (n:Int):Prop:= -9223372036854775808≤n∧n≤9223372036854775807
structure HOp where
 read:Bool
 key:Int
 tx:Int
 nth:Int
deriving DecidableEq
def HOp.cells (o:HOp):List Value:=[.bool o.read,.int .i64 o.key,.int .i64 o.tx,.int .i64 o.nth]
def HOp.ok (o:HOp):Prop:=i64 o.key∧i64 o.tx∧i64 o.nth
structure Ver where
 tx:Int
 key:Int
 nth:Int
deriving DecidableEq
def Ver.cells (v:Ver):List Value:=[.int .i64 v.tx,.int .i64 v.key,.int .i64 v.nth]
def HOps (F:Nat→Prop) (w:World) (A:Option Addr) (l:List HOp):Prop:=Recs F w A 4 (l.map HOp.cells)
structure HTx where
 id:Int
 done:Bool
 ops:List HOp
 A:Option Addr
 c:Nat
def HTx.cells (t:HTx):List Value:=[.int .i64 t.id,.bool t.done,.slice t.A t.ops.length t.c]
def Zd3 (n:Nat):Prop:=n≤4398046511103
def HTx.lies (F:Nat→Prop) (w:World) (t:HTx):Prop:=HOps F w t.A t.ops∧t.ops.length≤t.c∧Zd3 t.ops.length∧i64 t.id∧∀o∈t.ops,o.ok
structure HOrd where
 key:Int
 txs:List Int
 A:Option Addr
 c:Nat
def HOrd.cells (o:HOrd):List Value:=[.int .i64 o.key,.slice o.A o.txs.length o.c]
def HOrd.lies (F:Nat→Prop) (w:World) (o:HOrd):Prop:=Ints F w o.A o.txs∧o.txs.length≤o.c∧o.txs.length≤17592186044415∧i64 o.key∧∀n∈o.txs,i64 n
structure Hist where
 txs:List HTx
 ords:List HOrd
 A:Option Addr
 c:Nat
 B:Option Addr
 d:Nat
def Hist.val (h:Hist):Value:= .agg #[.slice h.A h.txs.length h.c,.slice h.B h.ords.length h.d]
def Hist.cells (h:Hist):List Value:=[.slice h.A h.txs.length h.c,.slice h.B h.ords.length h.d]
structure Hist.lies (F:Nat→Prop) (w:World) (h:Hist):Prop where
 txs:Recs F w h.A 3 (h.txs.map HTx.cells)
 ords:Recs F w h.B 2 (h.ords.map HOrd.cells)
 tx:∀t∈h.txs,t.lies F w
 ord:∀o∈h.ords,o.lies F w
 c:h.txs.length≤h.c
 d:h.ords.length≤h.d
 few:h.txs.length≤4398046511103
 fewo:h.ords.length≤4398046511103
section
variable {F S:Nat→Prop} {w w':World}
theorem HOps.upd {A:Option Addr} {l:List HOp} (h:HOps F w A l) (k:Upd S w w') (hn:∀i,F i→¬S i):HOps F w' A l:=Recs.upd h k hn
theorem HTx.lies.upd {t:HTx} (h:t.lies F w) (k:Upd S w w') (hn:∀i,F i→¬S i):t.lies F w':=⟨HOps.upd h.1 k hn,h.2⟩
theorem HOrd.lies.upd {o:HOrd} (h:o.lies F w) (k:Upd S w w') (hn:∀i,F i→¬S i):o.lies F w':=⟨h.1.upd k hn,h.2⟩
theorem Hist.lies.upd {h:Hist} (H:h.lies F w) (k:Upd S w w') (hn:∀i,F i→¬S i):h.lies F w':=
 ⟨Recs.upd H.txs k hn,Recs.upd H.ords k hn,fun t ht=>(H.tx t ht).upd k hn,fun o ho=>(H.ord o ho).upd k hn,H.c,H.d,H.few,H.fewo⟩
theorem HOps.at_ {A:Option Addr} {l:List HOp} (h:HOps F w A l) {k:Nat} (hk:k<l.length):∃ad,A=some ad∧
  w.cell? (ad.add (k*4))=some (.bool l[k].read)∧w.cell? ⟨(ad.add (k*4)).block,(ad.add (k*4)).off+1,none⟩=some (.int .i64 l[k].key)∧
  w.cell? ⟨(ad.add (k*4)).block,(ad.add (k*4)).off+2,none⟩=some (.int .i64 l[k].tx)∧w.cell? ⟨(ad.add (k*4)).block,(ad.add (k*4)).off+3,none⟩=some (.int .i64 l[k].nth):=by
 have hk':k<(l.map HOp.cells).length:=by simpa using hk
 obtain⟨ad,e,_,_,hc⟩:=Recs.at_ h hk';rw[List.getElem_map]at hc;exact⟨ad,e,by simpa using hc 0 _ rfl,by simpa using hc 1 _ rfl,by simpa using hc 2 _ rfl,by simpa using hc 3 _ rfl⟩
end
def ZaO (o:HOp):Ver:=if o.read then ⟨o.tx,o.key,o.nth⟩ else ⟨0,0,0⟩
def idB (n:Int):Bool:=decide (1≤n)&&decide (n≤1048575)
def Zn (v:Ver):Bool:=idB v.key&&((v.tx==0&&v.nth==0)||(idB v.tx&&decide (1≤v.nth)&&decide (v.nth≤4095)))
def opB (o:HOp):Bool:=if o.read then Zn (ZaO o) else idB o.key&&o.tx==0&&o.nth==0
end
/- Operations and versions:which are right,by the program and by the document. -/
section
open Go.RowKit
def ZcG (b:Bool):Int:=if b then 0 else 1
theorem pid (w:World) (n:Int):Calls Tryz.prog 80 #[.int .i64 n] w fun e w'=>e= .returned (.bool (idB n))∧w=w':=by
 unfold idB
 by_cases h1:1≤n
 ·by_cases h2:n≤1048575
  ·go_enter Tryz.func80,Tryz.ntmps80
   go_wp2
   go_ret
   exact⟨by rw[decide_eq_true h1,decide_eq_true h2];rfl,rfl⟩
  ·go_enter Tryz.func80,Tryz.ntmps80
   go_wp2
   go_ret
   exact⟨by rw[decide_eq_false (show¬n≤1048575 by omega)];rfl,rfl⟩
 ·go_enter Tryz.func80,Tryz.ntmps80
  go_wp2
  go_ret
  exact⟨by rw[decide_eq_false (show¬1≤n by omega),Bool.false_and];rfl,rfl⟩
theorem rid (w:World) (n:Int):Calls Tryz.prog 72 #[.int .i64 n] w fun e w'=>e= .returned (.bool (idB n))∧w=w':=by
 unfold idB
 by_cases h1:1≤n
 ·by_cases h2:n≤1048575
  ·go_enter Tryz.func72,Tryz.ntmps72
   go_wp2
   go_ret
   exact⟨by rw[decide_eq_true h1,decide_eq_true h2];rfl,rfl⟩
  ·go_enter Tryz.func72,Tryz.ntmps72
   go_wp2
   go_ret
   exact⟨by rw[decide_eq_false (show¬n≤1048575 by omega)];rfl,rfl⟩
 ·go_enter Tryz.func72,Tryz.ntmps72
  go_wp2
  go_ret
  exact⟨by rw[decide_eq_false (show¬1≤n by omega),Bool.false_and];rfl,rfl⟩
theorem Zas {w:World} {n:Int} {b:Bool} (h:idB n=b):Calls Tryz.prog 80 #[.int .i64 n] w fun e w'=>e= .returned (.bool b)∧w=w':=by subst h;exact pid w n
theorem ZX {w:World} {n:Int} {b:Bool} (h:idB n=b):Calls Tryz.prog 72 #[.int .i64 n] w fun e w'=>e= .returned (.bool b)∧w=w':=by subst h;exact rid w n
def ZcN (w:World) (b:Bool) (e:Ending) (w':World):Prop:=∃x,e= .returned (.tuple #[.int .u64 x,.int .i64 (ZcG b)])∧Upd No w w'
theorem ZE {b:Bool} (h:¬b=true):b=false:=by simpa using h
set_option maxRecDepth 100000 in
set_option maxHeartbeats 1000000 in
theorem Zeu (w:World) (v:Ver):Calls Tryz.prog 67 #[.agg v.cells.toArray] w (ZcN w (Zn v)):=by
 unfold Ver.cells;have i0:idB 0=false:=by decide
 by_cases ht:v.tx=0
 ·by_cases hn:v.nth=0
  ·by_cases hk:idB v.key=true
   ·have hv:=Qh (show Zn v=true by unfold Zn;rw[hk,ht,hn];rfl);rw[ht,hn];clear ht hn i0;have Hk:=Qh hk;clear hk
    go_enter Tryz.func67,Tryz.ntmps67
    go_wp2_with fail
    refine(Zas Hk.out).mono ?_;rintro e w1 ⟨rfl,rfl⟩;go_wp2
    go_ret2
    exact⟨_,by rw[hv.out];rfl,(Upd.refl _ _).alloc _⟩
   ·have hv:=Qh (show Zn v=false by unfold Zn;rw[ZE hk];rfl);rw[ht,hn];clear ht hn i0;have Hk:=Qh (ZE hk);clear hk
    go_enter Tryz.func67,Tryz.ntmps67
    go_wp2_with fail
    refine(Zas Hk.out).mono ?_;rintro e w1 ⟨rfl,rfl⟩;go_wp2
    go_ret2
    exact⟨_,by rw[hv.out];rfl,(Upd.refl _ _).alloc _⟩
  ·have hv:=Qh (show Zn v=false by
    have:(v.nth==0)=false:=by simpa using hn
    unfold Zn;rw[ht,this,i0];simp)
   rw[ht];clear ht;have Hi:=Qh i0;clear i0;have hnb:(v.nth==0)=false:=by simpa using hn
   have Hn:=Qh hn;clear hn
   go_enter Tryz.func67,Tryz.ntmps67
   go_wp2_with fail
   refine(Zas Hi.out).mono ?_;rintro e w1 ⟨rfl,rfl⟩;go_wp2
   go_ret2
   exact⟨_,by rw[hv.out];rfl,(Upd.refl _ _).alloc _⟩
 ·have htb:(v.tx==0)=false:=by simpa using ht
  have Ht:=Qh ht;clear ht i0
  by_cases hi:idB v.tx=true
  ·have Hi:=Qh hi;clear hi
   by_cases h1:v.nth<1
   ·have hv:=Qh (show Zn v=false by
     unfold Zn;rw[htb,Hi.out,decide_eq_false (show¬1≤v.nth by omega)];simp)
    go_enter Tryz.func67,Tryz.ntmps67
    go_wp2_with fail
    refine(Zas Hi.out).mono ?_;rintro e w1 ⟨rfl,rfl⟩;go_wp2
    go_ret2
    exact⟨_,by rw[hv.out];rfl,(Upd.refl _ _).alloc _⟩
   ·by_cases h2:4095<v.nth
    ·have hv:=Qh (show Zn v=false by
      unfold Zn;rw[htb,Hi.out,decide_eq_false (show¬v.nth≤4095 by omega)];simp)
     go_enter Tryz.func67,Tryz.ntmps67
     go_wp2_with fail
     refine(Zas Hi.out).mono ?_;rintro e w1 ⟨rfl,rfl⟩;go_wp2
     go_ret2
     exact⟨_,by rw[hv.out];rfl,(Upd.refl _ _).alloc _⟩
    ·by_cases hk:idB v.key=true
     ·have hv:=Qh (show Zn v=true by
       unfold Zn;rw[htb,Hi.out,hk,decide_eq_true (show v.nth≤4095 by omega),decide_eq_true (show 1≤v.nth by omega)];rfl)
      have Hk:=Qh hk;clear hk
      go_enter Tryz.func67,Tryz.ntmps67
      go_wp2_with fail
      refine(Zas Hi.out).mono ?_;rintro e w1 ⟨rfl,rfl⟩
      go_wp2_with fail
      refine(Zas Hk.out).mono ?_;rintro e w1 ⟨rfl,rfl⟩;go_wp2
      go_ret2
      exact⟨_,by rw[hv.out];rfl,(Upd.refl _ _).alloc _⟩
     ·have hv:=Qh (show Zn v=false by unfold Zn;rw[ZE hk];rfl);have Hk:=Qh (ZE hk);clear hk
      go_enter Tryz.func67,Tryz.ntmps67
      go_wp2_with fail
      refine(Zas Hi.out).mono ?_;rintro e w1 ⟨rfl,rfl⟩
      go_wp2_with fail
      refine(Zas Hk.out).mono ?_;rintro e w1 ⟨rfl,rfl⟩;go_wp2
      go_ret2
      exact⟨_,by rw[hv.out];rfl,(Upd.refl _ _).alloc _⟩
  ·have hv:=Qh (show Zn v=false by unfold Zn;rw[htb,ZE hi];simp);have Hi:=Qh (ZE hi);clear hi
   go_enter Tryz.func67,Tryz.ntmps67
   go_wp2_with fail
   refine(Zas Hi.out).mono ?_;rintro e w1 ⟨rfl,rfl⟩;go_wp2
   go_ret2
   exact⟨_,by rw[hv.out];rfl,(Upd.refl _ _).alloc _⟩
end
/- Operations:the version that they read,whether they are right. -/
section
open Go.RowKit
theorem Zd2 (w:World) (x y:HOp):(Op.equalIn 10000 82 (.agg x.cells.toArray) (.agg y.cells.toArray)).run Tryz.prog w= .ok (decide (x=y)) w:=by
 obtain⟨a,b,c,d⟩:=x;obtain⟨a',b',c',d'⟩:=y;unfold HOp.cells;rw[run_equalIn_struct w _ _ _ _ (by kernel_rfl) (by kernel_rfl)];have hI:∀(w:World) (d:Nat) (x y:Int),(Op.equalIn (d+1) 3 (.int .i64 x) (.int .i64 y)).run Tryz.prog w= .ok (x==y) w:=fun w d x y=>run_equalIn_int w d _ _ _ x y Tryz.underlying3
 have hB:∀(w:World) (d:Nat) (x y:Bool),(Op.equalIn (d+1) 4 (.bool x) (.bool y)).run Tryz.prog w= .ok (x==y) w:=fun w d x y=>run_equalIn_bool w d _ x y Tryz.underlying4
 by_cases h1:a=a'<;>by_cases h2:b=b'<;>by_cases h3:c=c'<;>by_cases h4:d=d'<;>
  simp[Program.fieldsOf,Tryz.underlying82,Op.eqFields,part,hI,hB,h1,h2,h3,h4,Result.andThen]
theorem ZbQ (w:World) (x y:HOp):(binOp .neq 82 (.agg #[.bool x.read,.int .i64 x.key,.int .i64 x.tx,.int .i64 x.nth]) (.agg #[.bool y.read,.int .i64 y.key,.int .i64 y.tx,.int .i64 y.nth])).run Tryz.prog w= .ok (.bool (x != y)) w:=by
 rw[run_neq_struct];have:=Zd2 w x y;unfold HOp.cells at this;rw[this];simp only[Result.andThen]
 by_cases h:x=y<;>simp[h]
theorem oof (w:World) (o:HOp):Calls Tryz.prog 68 #[.agg o.cells.toArray] w fun e w'=>e= .returned (.agg (ZaO o).cells.toArray)∧Upd No w w':=by
 obtain⟨r,k,t,n⟩:=o
 cases r
 ·unfold HOp.cells
  go_enter Tryz.func68,Tryz.ntmps68
  go_wp2;exact bodyPost_ret (v:= .agg #[.int .i64 0,.int .i64 0,.int .i64 0]) (by simp[results,Tryz.results68,go_sem]) rfl ⟨rfl,((Upd.refl _ _).alloc _).alloc _⟩
 ·unfold HOp.cells
  go_enter Tryz.func68,Tryz.ntmps68
  go_wp2;exact bodyPost_ret (v:= .agg #[.int .i64 t,.int .i64 k,.int .i64 n]) (by simp[results,Tryz.results68,go_sem]) rfl ⟨rfl,((Upd.refl _ _).alloc _).alloc _⟩
theorem rof (w:World) (o:HOp):Calls Tryz.prog 71 #[.agg o.cells.toArray] w fun e w'=>e= .returned (.agg (ZaO o).cells.toArray)∧Upd No w w':=by
 obtain⟨r,k,t,n⟩:=o
 cases r
 ·unfold HOp.cells
  go_enter Tryz.func71,Tryz.ntmps71
  go_wp2;exact bodyPost_ret (v:= .agg #[.int .i64 0,.int .i64 0,.int .i64 0]) (by simp[results,Tryz.results71,go_sem]) rfl ⟨rfl,((Upd.refl _ _).alloc _).alloc _⟩
 ·unfold HOp.cells
  go_enter Tryz.func71,Tryz.ntmps71
  go_wp2;exact bodyPost_ret (v:= .agg #[.int .i64 t,.int .i64 k,.int .i64 n]) (by simp[results,Tryz.results71,go_sem]) rfl ⟨rfl,((Upd.refl _ _).alloc _).alloc _⟩
theorem Zep (w:World) (v:Ver):Calls Tryz.prog 70 #[.agg v.cells.toArray] w fun e w'=>e= .returned (.bool (Zn v))∧Upd No w w':=by
 unfold Ver.cells;have i0:idB 0=false:=by decide
 by_cases ht:v.tx=0
 ·by_cases hk:idB v.key=true
  ·have hv:=Qh (show Zn v=(v.nth==0) by unfold Zn;rw[hk,ht,i0];simp);rw[ht];have Hk:=Qh hk;clear ht hk i0
   by_cases hn:v.nth=0
   ·have hnb:(v.nth==0)=true:=by simpa using hn
    have Hn:=Qh hn;clear hn
    go_enter Tryz.func70,Tryz.ntmps70
    go_wp2_with fail
    refine(ZX Hk.out).mono ?_;rintro e w1 ⟨rfl,rfl⟩;go_wp2
    go_ret
    exact⟨by rw[hv.out,hnb];rfl,(Upd.refl _ _).alloc _⟩
   ·have hnb:(v.nth==0)=false:=by simpa using hn
    have Hn:=Qh hn;clear hn
    go_enter Tryz.func70,Tryz.ntmps70
    go_wp2_with fail
    refine(ZX Hk.out).mono ?_;rintro e w1 ⟨rfl,rfl⟩;go_wp2
    go_ret
    exact⟨by rw[hv.out,hnb];rfl,(Upd.refl _ _).alloc _⟩
  ·have hv:=Qh (show Zn v=false by unfold Zn;rw[ZE hk];rfl);rw[ht];have Hk:=Qh (ZE hk);clear ht hk i0
   go_enter Tryz.func70,Tryz.ntmps70
   go_wp2_with fail
   refine(ZX Hk.out).mono ?_;rintro e w1 ⟨rfl,rfl⟩;go_wp2
   go_ret
   exact⟨by rw[hv.out];rfl,(Upd.refl _ _).alloc _⟩
 ·have htb:(v.tx==0)=false:=by simpa using ht
  have Ht:=Qh ht;clear ht i0
  by_cases hi:idB v.tx=true
  ·have Hi:=Qh hi;clear hi
   by_cases hk:idB v.key=true
   ·have Hk:=Qh hk;clear hk
    by_cases h1:1≤v.nth
    ·by_cases h2:v.nth≤4095
     ·have hv:=Qh (show Zn v=true by unfold Zn;rw[htb,Hi.out,Hk.out,decide_eq_true h1,decide_eq_true h2];rfl)
      go_enter Tryz.func70,Tryz.ntmps70
      go_wp2_with fail
      refine(ZX Hi.out).mono ?_;rintro e w1 ⟨rfl,rfl⟩
      go_wp2_with fail
      refine(ZX Hk.out).mono ?_;rintro e w1 ⟨rfl,rfl⟩;go_wp2
      go_ret
      exact⟨by rw[hv.out];rfl,(Upd.refl _ _).alloc _⟩
     ·have hv:=Qh (show Zn v=false by unfold Zn;rw[htb,Hi.out,Hk.out,decide_eq_false h2];simp);have h2b:decide (v.nth≤4095)=false:=decide_eq_false h2
      go_enter Tryz.func70,Tryz.ntmps70
      go_wp2_with fail
      refine(ZX Hi.out).mono ?_;rintro e w1 ⟨rfl,rfl⟩
      go_wp2_with fail
      refine(ZX Hk.out).mono ?_;rintro e w1 ⟨rfl,rfl⟩;go_wp2
      go_ret
      exact⟨by rw[hv.out];rfl,(Upd.refl _ _).alloc _⟩
    ·have hv:=Qh (show Zn v=false by unfold Zn;rw[htb,Hi.out,Hk.out,decide_eq_false h1];simp)
     go_enter Tryz.func70,Tryz.ntmps70
     go_wp2_with fail
     refine(ZX Hi.out).mono ?_;rintro e w1 ⟨rfl,rfl⟩
     go_wp2_with fail
     refine(ZX Hk.out).mono ?_;rintro e w1 ⟨rfl,rfl⟩;go_wp2
     go_ret
     exact⟨by rw[hv.out];rfl,(Upd.refl _ _).alloc _⟩
   ·have hv:=Qh (show Zn v=false by unfold Zn;rw[ZE hk];rfl);have Hk:=Qh (ZE hk);clear hk
    go_enter Tryz.func70,Tryz.ntmps70
    go_wp2_with fail
    refine(ZX Hi.out).mono ?_;rintro e w1 ⟨rfl,rfl⟩
    go_wp2_with fail
    refine(ZX Hk.out).mono ?_;rintro e w1 ⟨rfl,rfl⟩;go_wp2
    go_ret
    exact⟨by rw[hv.out];rfl,(Upd.refl _ _).alloc _⟩
  ·have hv:=Qh (show Zn v=false by unfold Zn;rw[htb,ZE hi];simp);have Hi:=Qh (ZE hi);clear hi
   go_enter Tryz.func70,Tryz.ntmps70
   go_wp2_with fail
   refine(ZX Hi.out).mono ?_;rintro e w1 ⟨rfl,rfl⟩;go_wp2
   go_ret
   exact⟨by rw[hv.out];rfl,(Upd.refl _ _).alloc _⟩
theorem Zat (w:World) (o:HOp):Calls Tryz.prog 51 #[.agg o.cells.toArray] w fun e w'=>e= .returned (.int .i64 (ZcG (opB o)))∧Upd No w w':=by
 obtain⟨r,k,t,n⟩:=o
 cases r
 ·have hN:=ZbQ;unfold HOp.cells
  by_cases hz:(⟨false,k,t,n⟩:HOp)=⟨false,k,0,0⟩
  ·have hzb:((⟨false,k,t,n⟩:HOp) != ⟨false,k,0,0⟩)=false:=by rw[hz];simp
   have h0:t=0∧n=0:=by injection hz with _ _ h3 h4;exact⟨h3,h4⟩
   by_cases h1:k<1
   ·have hv:=Qh (show opB ⟨false,k,t,n⟩=false by unfold opB idB;rw[decide_eq_false (show¬1≤k by omega)];rfl);clear hz h0;have qn:=fun w=>(hN w ⟨false,k,t,n⟩ ⟨false,k,0,0⟩).trans (by rw[hzb])
    clear hN hzb
    go_enter Tryz.func51,Tryz.ntmps51
    go_wp2
    go_ret
    exact⟨by rw[hv.out];rfl,(Upd.refl _ _).alloc _⟩
   ·by_cases h2:1048575<k
    ·have hv:=Qh (show opB ⟨false,k,t,n⟩=false by unfold opB idB;rw[decide_eq_false (show¬k≤1048575 by omega)];simp);clear hz h0;have qn:=fun w=>(hN w ⟨false,k,t,n⟩ ⟨false,k,0,0⟩).trans (by rw[hzb])
     clear hN hzb
     go_enter Tryz.func51,Tryz.ntmps51
     go_wp2
     go_ret
     exact⟨by rw[hv.out];rfl,(Upd.refl _ _).alloc _⟩
    ·have hv:=Qh (show opB ⟨false,k,t,n⟩=true by unfold opB idB;rw[decide_eq_true (show k≤1048575 by omega),decide_eq_true (show 1≤k by omega),h0.1,h0.2];rfl);clear hz h0;have qn:=fun w=>(hN w ⟨false,k,t,n⟩ ⟨false,k,0,0⟩).trans (by rw[hzb])
     clear hN hzb
     go_enter Tryz.func51,Tryz.ntmps51
     go_wp2
     go_ret
     exact⟨by rw[hv.out];rfl,(Upd.refl _ _).alloc _⟩
  ·have hzb:((⟨false,k,t,n⟩:HOp) != ⟨false,k,0,0⟩)=true:=by simpa using hz
   have hv:=Qh (show opB ⟨false,k,t,n⟩=false by
    unfold opB
    by_cases h3:t=0
    ·by_cases h4:n=0
     ·exact absurd (by rw[h3,h4]) hz
     ·simp[h4]
    ·simp[h3])
   clear hz;have qn:=fun w=>(hN w ⟨false,k,t,n⟩ ⟨false,k,0,0⟩).trans (by rw[hzb])
   clear hN hzb
   go_enter Tryz.func51,Tryz.ntmps51
   go_wp2
   go_ret
   exact⟨by rw[hv.out];rfl,(Upd.refl _ _).alloc _⟩
 ·have hv:=Qh (show opB ⟨true,k,t,n⟩=Zn ⟨t,k,n⟩ from rfl);unfold HOp.cells
  go_enter Tryz.func51,Tryz.ntmps51
  go_wp2_with fail
  refine(oof _ ⟨true,k,t,n⟩).mono ?_;rintro e w1 ⟨rfl,hu1⟩
  go_wp2_with fail
  refine(Zeu _ ⟨t,k,n⟩).mono ?_;rintro e w2 ⟨x,rfl,hu2⟩;go_wp2
  go_ret
  exact⟨by rw[hv.out];rfl,(((Upd.refl _ _).alloc _).trans hu1).trans hu2⟩
theorem Zb9 (w:World) (o:HOp):Calls Tryz.prog 58 #[.agg o.cells.toArray] w fun e w'=>e= .returned (.bool (opB o))∧Upd No w w':=by
 obtain⟨r,k,t,n⟩:=o
 cases r
 ·unfold HOp.cells
  by_cases hk:idB k=true
  ·have Hk:=Qh hk;clear hk
   by_cases h3:t=0
   ·have hv:=Qh (show opB ⟨false,k,t,n⟩=(n==0) by unfold opB;rw[h3,Hk.out];rfl);have h3b:(t==0)=true:=by simpa using h3
    clear h3
    by_cases h4:n=0
    ·have h4b:(n==0)=true:=by simpa using h4
     clear h4
     go_enter Tryz.func58,Tryz.ntmps58
     go_wp2_with fail
     refine(ZX Hk.out).mono ?_;rintro e w1 ⟨rfl,rfl⟩;go_wp2
     go_ret
     exact⟨by rw[hv.out,h4b];rfl,(Upd.refl _ _).alloc _⟩
    ·have h4b:(n==0)=false:=by simpa using h4
     clear h4
     go_enter Tryz.func58,Tryz.ntmps58
     go_wp2_with fail
     refine(ZX Hk.out).mono ?_;rintro e w1 ⟨rfl,rfl⟩;go_wp2
     go_ret
     exact⟨by rw[hv.out,h4b];rfl,(Upd.refl _ _).alloc _⟩
   ·have h3b:(t==0)=false:=by simpa using h3
    have hv:=Qh (show opB ⟨false,k,t,n⟩=false by unfold opB;simp[h3]);clear h3
    go_enter Tryz.func58,Tryz.ntmps58
    go_wp2_with fail
    refine(ZX Hk.out).mono ?_;rintro e w1 ⟨rfl,rfl⟩;go_wp2
    go_ret
    exact⟨by rw[hv.out];rfl,(Upd.refl _ _).alloc _⟩
  ·have hv:=Qh (show opB ⟨false,k,t,n⟩=false by unfold opB;simp[ZE hk]);have Hk:=Qh (ZE hk);clear hk
   go_enter Tryz.func58,Tryz.ntmps58
   go_wp2_with fail
   refine(ZX Hk.out).mono ?_;rintro e w1 ⟨rfl,rfl⟩;go_wp2
   go_ret
   exact⟨by rw[hv.out];rfl,(Upd.refl _ _).alloc _⟩
 ·have hv:=Qh (show opB ⟨true,k,t,n⟩=Zn ⟨t,k,n⟩ from rfl);unfold HOp.cells
  go_enter Tryz.func58,Tryz.ntmps58
  go_wp2_with fail
  refine(rof _ ⟨true,k,t,n⟩).mono ?_;rintro e w1 ⟨rfl,hu1⟩
  go_wp2_with fail
  refine(Zep _ ⟨t,k,n⟩).mono ?_;rintro e w2 ⟨rfl,hu2⟩;go_wp2
  go_ret
  exact⟨by rw[hv.out];rfl,(((Upd.refl _ _).alloc _).trans hu1).trans hu2⟩
end
end Go.Proofs.YtbcpoloakepnkaaGreatDoor
