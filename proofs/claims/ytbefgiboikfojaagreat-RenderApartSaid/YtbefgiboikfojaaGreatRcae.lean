/- Edges: how lists of them lie in memory; when two are one. -/
import Derived.Test.YtbefgiboikfojaaGreatRcac
namespace Go.Proofs.YtbefgiboikfojaaGreat
open Go.RowKit
set_option linter.unusedVariables false
set_option linter.unusedSimpArgs false
set_option maxRecDepth 100000
set_option maxHeartbeats 4000000
structure Edge where
 f:Int
 t:Int
 k:Int
 key:Int
deriving DecidableEq
def Edge.cells(e:Edge):Gl:=[Qi e.f,Qi e.t,Qi e.k,Qi e.key]
def Walk(F:Gt)(w:Gy)(A:OA)(l:List Edge):Prop:=Recs F w A 4 (l.map Edge.cells)
theorem Zao{l:List Edge}:∀r∈l.map Edge.cells,r.length=4:=fun r hr=>by
 obtain⟨e,_,rfl⟩:=Gc.1 hr;rfl
theorem ZgY{l:List Edge}:∀v∈(l.map Edge.cells).flatten,v.oneCell'=true:=fun v hv=>by
 obtain⟨r,hr,h⟩:=List.mem_flatten.1 hv;obtain⟨e,_,rfl⟩:=Gc.1 hr;simp only[Edge.cells,F9,Ft,or_false]at h;rcases h with rfl|rfl|rfl|rfl<;>rfl
theorem ZQ:SlT Tryz.prog 34 94 4 32:=SlT.mk_ Tryz.underlying34 (z:= .agg #[Qi 0,Qi 0,Qi 0,Qi 0]) (by kernel_rfl) rfl (by omega)
theorem Znx(w:Gy)(a b c d a' b' c' d':Int):
  (Op.equalIn 10000 94 (.agg #[Qi a,Qi b,Qi c,Qi d]) (.agg #[Qi a',Qi b',Qi c',Qi d'])).run Tryz.prog w= .ok (decide ((⟨a,b,c,d⟩:Edge)=⟨a',b',c',d'⟩)) w:=by
 rw[run_equalIn_struct w _ _ _ _ (by kernel_rfl) (by kernel_rfl)];have hI:∀(w:Gy) (d:Nat) (x y:Int),(Op.equalIn (d+1) 3 (Qi x) (Qi y)).run Tryz.prog w= .ok (x==y) w:=fun w d x y=>run_equalIn_int w d _ _ _ x y Tryz.underlying3
 by_cases h1:a=a'<;>by_cases h2:b=b'<;>by_cases h3:c=c'<;>by_cases h4:d=d'<;>
  simp[Program.fieldsOf,Tryz.underlying94,Op.eqFields,part,hI,h1,h2,h3,h4,Result.andThen]
theorem Zik(w:Gy)(x y:Edge):(binOp .neq 94 (.agg #[Qi x.f,Qi x.t,Qi x.k,Qi x.key]) (.agg #[Qi y.f,Qi y.t,Qi y.k,Qi y.key])).run Tryz.prog w= .ok (.bool (x != y)) w:=by
 obtain⟨a,b,c,d⟩:=x;obtain⟨a',b',c',d'⟩:=y;rw[run_neq_struct,Znx];simp only[Result.andThen]
 by_cases h:(⟨a,b,c,d⟩:Edge)=⟨a',b',c',d'⟩<;>simp[h]
theorem Walk.at_{F:Gt}{w:Gy}{A:OA}{l:List Edge}(h:Walk F w A l){k:Nat}(hk:k<l.length):∃ad,A=some ad∧
  w.cell? (ad.add (k*4))=some (Qi l[k].f)∧w.cell? ⟨(ad.add (k*4)).block,(ad.add (k*4)).off+1,none⟩=some (Qi l[k].t)∧
  w.cell? ⟨(ad.add (k*4)).block,(ad.add (k*4)).off+2,none⟩=some (Qi l[k].k)∧w.cell? ⟨(ad.add (k*4)).block,(ad.add (k*4)).off+3,none⟩=some (Qi l[k].key):=by
 have dq:k<(l.map Edge.cells).length:=by simpa using hk
 obtain⟨ad,e,_,_,hc⟩:=Recs.at_ h dq;rw[Fk]at hc;exact⟨ad,e,by simpa using hc 0 _ rfl,by simpa using hc 1 _ rfl,by simpa using hc 2 _ rfl,by simpa using hc 3 _ rfl⟩
theorem Walk.upd{F S:Gt}{w w':Gy}{A:OA}{l:List Edge}(h:Walk F w A l)(k:Upd S w w')(hn:∀i,F i->¬S i):Walk F w' A l:=Recs.upd h k hn
/- Histories:how operations,transactions,orders and histories lie in memory. -/
def i64(n:Int):Prop:= -9223372036854775808<=n∧n<=9223372036854775807
structure HOp where
 read:Bool
 key:Int
 tx:Int
 nth:Int
deriving DecidableEq
def HOp.cells(o:HOp):Gl:=[.bool o.read,Qi o.key,Qi o.tx,Qi o.nth]
def HOp.ok(o:HOp):Prop:=i64 o.key∧i64 o.tx∧i64 o.nth
structure Ver where
 tx:Int
 key:Int
 nth:Int
deriving DecidableEq
def Ver.cells(v:Ver):Gl:=[Qi v.tx,Qi v.key,Qi v.nth]
def HOps(F:Gt)(w:Gy)(A:OA)(l:List HOp):Prop:=Recs F w A 4 (l.map HOp.cells)
structure HTx where
 id:Int
 done:Bool
 ops:List HOp
 A:Option Addr
 c:Nat
def HTx.cells(t:HTx):Gl:=[Qi t.id,.bool t.done,.slice t.A t.ops.length t.c]
def Zp(n:Nat):Prop:=n<=4398046511103
def HTx.lies(F:Gt)(w:Gy)(t:HTx):Prop:=HOps F w t.A t.ops∧t.ops.length<=t.c∧Zp t.ops.length∧i64 t.id∧∀o∈t.ops,o.ok
structure HOrd where
 key:Int
 txs:List Int
 A:Option Addr
 c:Nat
def HOrd.cells(o:HOrd):Gl:=[Qi o.key,.slice o.A o.txs.length o.c]
def HOrd.lies(F:Gt)(w:Gy)(o:HOrd):Prop:=Ints F w o.A o.txs∧o.txs.length<=o.c∧o.txs.length<=17592186044415∧i64 o.key∧∀n∈o.txs,i64 n
structure Hist where
 txs:List HTx
 ords:List HOrd
 A:Option Addr
 c:Nat
 B:Option Addr
 d:Nat
def Hist.val(h:Hist):Gz:= .agg #[.slice h.A h.txs.length h.c,.slice h.B h.ords.length h.d]
def Hist.cells(h:Hist):Gl:=[.slice h.A h.txs.length h.c,.slice h.B h.ords.length h.d]
structure Hist.lies (F:Nat->Prop) (w:World) (h:Hist):Prop where
 txs:Recs F w h.A 3 (h.txs.map HTx.cells)
 ords:Recs F w h.B 2 (h.ords.map HOrd.cells)
 tx:∀t∈h.txs,t.lies F w
 ord:∀o∈h.ords,o.lies F w
 c:h.txs.length<=h.c
 d:h.ords.length<=h.d
 few:h.txs.length<=4398046511103
 fewo:h.ords.length<=4398046511103
section
variable {F S:Gt} {w w':Gy}
theorem HOps.upd{A:OA}{l:List HOp}(h:HOps F w A l)(k:Upd S w w')(hn:∀i,F i->¬S i):HOps F w' A l:=Recs.upd h k hn
theorem HTx.lies.upd{t:HTx}(h:t.lies F w)(k:Upd S w w')(hn:∀i,F i->¬S i):t.lies F w':=⟨HOps.upd h.1 k hn,h.2⟩
theorem HOrd.lies.upd{o:HOrd}(h:o.lies F w)(k:Upd S w w')(hn:∀i,F i->¬S i):o.lies F w':=⟨h.1.upd k hn,h.2⟩
theorem Hist.lies.upd{h:Hist}(H:h.lies F w)(k:Upd S w w')(hn:∀i,F i->¬S i):h.lies F w':=
 ⟨Recs.upd H.txs k hn,Recs.upd H.ords k hn,fun t ht=>(H.tx t ht).upd k hn,fun o ho=>(H.ord o ho).upd k hn,H.c,H.d,H.few,H.fewo⟩
theorem HOps.at_{A:OA}{l:List HOp}(h:HOps F w A l){k:Nat}(hk:k<l.length):∃ad,A=some ad∧
  w.cell? (ad.add (k*4))=some (.bool l[k].read)∧w.cell? ⟨(ad.add (k*4)).block,(ad.add (k*4)).off+1,none⟩=some (Qi l[k].key)∧
  w.cell? ⟨(ad.add (k*4)).block,(ad.add (k*4)).off+2,none⟩=some (Qi l[k].tx)∧w.cell? ⟨(ad.add (k*4)).block,(ad.add (k*4)).off+3,none⟩=some (Qi l[k].nth):=by
 have dq:k<(l.map HOp.cells).length:=by simpa using hk
 obtain⟨ad,e,_,_,hc⟩:=Recs.at_ h dq;rw[Fk]at hc;exact⟨ad,e,by simpa using hc 0 _ rfl,by simpa using hc 1 _ rfl,by simpa using hc 2 _ rfl,by simpa using hc 3 _ rfl⟩
theorem Hist.lies.tx_at{h:Hist}(H:h.lies F w){k:Nat}(hk:k<h.txs.length):∃ad,h.A=some ad∧
  w.cell? (ad.add (k*3))=some (Qi h.txs[k].id)∧w.cell? ⟨(ad.add (k*3)).block,(ad.add (k*3)).off+1,none⟩=some (.bool h.txs[k].done)∧
  w.cell? ⟨(ad.add (k*3)).block,(ad.add (k*3)).off+2,none⟩=some (.slice h.txs[k].A h.txs[k].ops.length h.txs[k].c):=by
 have dq:k<(h.txs.map HTx.cells).length:=by simpa using hk
 obtain⟨ad,e,_,_,hc⟩:=Recs.at_ H.txs dq;rw[Fk]at hc;exact⟨ad,e,by simpa using hc 0 _ rfl,by simpa using hc 1 _ rfl,by simpa using hc 2 _ rfl⟩
theorem Hist.lies.ord_at{h:Hist}(H:h.lies F w){k:Nat}(hk:k<h.ords.length):∃ad,h.B=some ad∧
  w.cell? (ad.add (k*2))=some (Qi h.ords[k].key)∧w.cell? ⟨(ad.add (k*2)).block,(ad.add (k*2)).off+1,none⟩=some (.slice h.ords[k].A h.ords[k].txs.length h.ords[k].c):=by
 have dq:k<(h.ords.map HOrd.cells).length:=by simpa using hk
 obtain⟨ad,e,_,_,hc⟩:=Recs.at_ H.ords dq;rw[Fk]at hc;exact⟨ad,e,by simpa using hc 0 _ rfl,by simpa using hc 1 _ rfl⟩
end
def Zw(o:HOp):Ver:=if o.read then ⟨o.tx,o.key,o.nth⟩ else ⟨0,0,0⟩
def idB(n:Int):Bool:=decide (1<=n)&&decide (n<=1048575)
def Z8(v:Ver):Bool:=idB v.key&&((v.tx==0&&v.nth==0)||(idB v.tx&&decide (1<=v.nth)&&decide (v.nth<=4095)))
def opB(o:HOp):Bool:=if o.read then Z8 (Zw o) else idB o.key&&o.tx==0&&o.nth==0
/- Operations and versions:which are right,by the program and by the document. -/
def Zom(b:Bool):Int:=if b then 0 else 1
theorem pid(w:Gy)(n:Int):CE 161 #[Qi n] w (.bool (idB n)):=by
 unfold idB
 by_cases h1:1<=n
 ·by_cases h2:n<=1048575
  ·go_enter Tryz.func161,Tryz.ntmps161;go_wp2;go_ret;exact⟨by rw[Qt h1,Qt h2];rfl,rfl⟩
  ·go_enter Tryz.func161,Tryz.ntmps161;go_wp2;go_ret;exact⟨by rw[Qf (show¬n<=1048575 by omega)];rfl,rfl⟩
 ·go_enter Tryz.func161,Tryz.ntmps161;go_wp2;go_ret;exact⟨by rw[Qf (show¬1<=n by omega),Bool.false_and];rfl,rfl⟩
theorem rid(w:Gy)(n:Int):CE 124 #[Qi n] w (.bool (idB n)):=by
 unfold idB
 by_cases h1:1<=n
 ·by_cases h2:n<=1048575
  ·go_enter Tryz.func124,Tryz.ntmps124;go_wp2;go_ret;exact⟨by rw[Qt h1,Qt h2];rfl,rfl⟩
  ·go_enter Tryz.func124,Tryz.ntmps124;go_wp2;go_ret;exact⟨by rw[Qf (show¬n<=1048575 by omega)];rfl,rfl⟩
 ·go_enter Tryz.func124,Tryz.ntmps124;go_wp2;go_ret;exact⟨by rw[Qf (show¬1<=n by omega),Bool.false_and];rfl,rfl⟩
theorem Zff{w:Gy}{n:Int}{b:Bool}(h:idB n=b):CE 161 #[Qi n] w (.bool b):=by subst h;exact pid w n
theorem ZbZ{w:Gy}{n:Int}{b:Bool}(h:idB n=b):CE 124 #[Qi n] w (.bool b):=by subst h;exact rid w n
def Zse(w:Gy)(b:Bool)(e:Ending)(w':Gy):Prop:=∃x,e= .returned (.tuple #[.int .u64 x,Qi (Zom b)])∧Upd No w w'
theorem ZbH{b:Bool}(h:¬b=true):b=false:=by simpa using h
theorem Zwe(w:Gy)(v:Ver):Calls Tryz.prog 123 #[.agg v.cells.toArray] w (Zse w (Z8 v)):=by
 unfold Ver.cells;have i0:idB 0=false:=by decide
 by_cases ht:v.tx=0
 ·by_cases hn:v.nth=0
  ·by_cases hk:idB v.key=true
   ·have hv:=Qh (show Z8 v=true by unfold Z8;rw[hk,ht,hn];rfl);rw[ht,hn];clear ht hn i0;have Hk:=Qh hk;clear hk;go_enter Tryz.func123,Tryz.ntmps123;go_wp2_with fail;refine(Zff Hk.out).mono ?_;rintro e w1 ⟨rfl,rfl⟩;go_wp2;go_ret2;exact⟨_,by rw[hv.out];rfl,(Gg _ _).alloc _⟩
   ·have hv:=Qh (show Z8 v=false by unfold Z8;rw[ZbH hk];rfl);rw[ht,hn];clear ht hn i0;have Hk:=Qh (ZbH hk);clear hk;go_enter Tryz.func123,Tryz.ntmps123;go_wp2_with fail;refine(Zff Hk.out).mono ?_;rintro e w1 ⟨rfl,rfl⟩;go_wp2;go_ret2;exact⟨_,by rw[hv.out];rfl,(Gg _ _).alloc _⟩
  ·have hv:=Qh (show Z8 v=false by
    have:(v.nth==0)=false:=by simpa using hn
    unfold Z8;rw[ht,this,i0];simp)
   rw[ht];clear ht;have Hi:=Qh i0;clear i0;have gr:(v.nth==0)=false:=by simpa using hn
   have Hn:=Qh hn;clear hn;go_enter Tryz.func123,Tryz.ntmps123;go_wp2_with fail;refine(Zff Hi.out).mono ?_;rintro e w1 ⟨rfl,rfl⟩;go_wp2;go_ret2;exact⟨_,by rw[hv.out];rfl,(Gg _ _).alloc _⟩
 ·have eS:(v.tx==0)=false:=by simpa using ht
  have Ht:=Qh ht;clear ht i0
  by_cases hi:idB v.tx=true
  ·have Hi:=Qh hi;clear hi
   by_cases h1:v.nth<1
   ·have hv:=Qh (show Z8 v=false by
     unfold Z8;rw[eS,Hi.out,Qf (show¬1<=v.nth by omega)];simp)
    go_enter Tryz.func123,Tryz.ntmps123;go_wp2_with fail;refine(Zff Hi.out).mono ?_;rintro e w1 ⟨rfl,rfl⟩;go_wp2;go_ret2;exact⟨_,by rw[hv.out];rfl,(Gg _ _).alloc _⟩
   ·by_cases h2:4095<v.nth
    ·have hv:=Qh (show Z8 v=false by
      unfold Z8;rw[eS,Hi.out,Qf (show¬v.nth<=4095 by omega)];simp)
     go_enter Tryz.func123,Tryz.ntmps123;go_wp2_with fail;refine(Zff Hi.out).mono ?_;rintro e w1 ⟨rfl,rfl⟩;go_wp2;go_ret2;exact⟨_,by rw[hv.out];rfl,(Gg _ _).alloc _⟩
    ·by_cases hk:idB v.key=true
     ·have hv:=Qh (show Z8 v=true by
       unfold Z8;rw[eS,Hi.out,hk,Qt (show v.nth<=4095 by omega),Qt (show 1<=v.nth by omega)];rfl)
      have Hk:=Qh hk;clear hk;go_enter Tryz.func123,Tryz.ntmps123;go_wp2_with fail;refine(Zff Hi.out).mono ?_;rintro e w1 ⟨rfl,rfl⟩;go_wp2_with fail;refine(Zff Hk.out).mono ?_;rintro e w1 ⟨rfl,rfl⟩;go_wp2;go_ret2;exact⟨_,by rw[hv.out];rfl,(Gg _ _).alloc _⟩
     ·have hv:=Qh (show Z8 v=false by unfold Z8;rw[ZbH hk];rfl);have Hk:=Qh (ZbH hk);clear hk;go_enter Tryz.func123,Tryz.ntmps123;go_wp2_with fail;refine(Zff Hi.out).mono ?_;rintro e w1 ⟨rfl,rfl⟩;go_wp2_with fail;refine(Zff Hk.out).mono ?_;rintro e w1 ⟨rfl,rfl⟩;go_wp2;go_ret2;exact⟨_,by rw[hv.out];rfl,(Gg _ _).alloc _⟩
  ·have hv:=Qh (show Z8 v=false by unfold Z8;rw[eS,ZbH hi];simp);have Hi:=Qh (ZbH hi);clear hi;go_enter Tryz.func123,Tryz.ntmps123;go_wp2_with fail;refine(Zff Hi.out).mono ?_;rintro e w1 ⟨rfl,rfl⟩;go_wp2;go_ret2;exact⟨_,by rw[hv.out];rfl,(Gg _ _).alloc _⟩
/- Operations:the version that they read,whether they are right. -/
theorem Zuw(w:Gy)(x y:HOp):(Op.equalIn 10000 50 (.agg x.cells.toArray) (.agg y.cells.toArray)).run Tryz.prog w= .ok (decide (x=y)) w:=by
 obtain⟨a,b,c,d⟩:=x;obtain⟨a',b',c',d'⟩:=y;unfold HOp.cells;rw[run_equalIn_struct w _ _ _ _ (by kernel_rfl) (by kernel_rfl)];have hI:∀(w:Gy) (d:Nat) (x y:Int),(Op.equalIn (d+1) 3 (Qi x) (Qi y)).run Tryz.prog w= .ok (x==y) w:=fun w d x y=>run_equalIn_int w d _ _ _ x y Tryz.underlying3
 have hB:∀(w:Gy) (d:Nat) (x y:Bool),(Op.equalIn (d+1) 4 (.bool x) (.bool y)).run Tryz.prog w= .ok (x==y) w:=fun w d x y=>run_equalIn_bool w d _ x y Tryz.underlying4
 by_cases h1:a=a'<;>by_cases h2:b=b'<;>by_cases h3:c=c'<;>by_cases h4:d=d'<;>
  simp[Program.fieldsOf,Tryz.underlying50,Op.eqFields,part,hI,hB,h1,h2,h3,h4,Result.andThen]
theorem Zth(w:Gy)(x y:HOp):(binOp .neq 50 (.agg #[.bool x.read,Qi x.key,Qi x.tx,Qi x.nth]) (.agg #[.bool y.read,Qi y.key,Qi y.tx,Qi y.nth])).run Tryz.prog w= .ok (.bool (x != y)) w:=by
 rw[run_neq_struct];have:=Zuw w x y;unfold HOp.cells at this;rw[this];simp only[Result.andThen]
 by_cases h:x=y<;>simp[h]
theorem oof(w:Gy)(o:HOp):CN 104 #[.agg o.cells.toArray] w (.agg (Zw o).cells.toArray):=by
 obtain⟨r,k,t,n⟩:=o
 cases r
 ·unfold HOp.cells;go_enter Tryz.func104,Tryz.ntmps104;go_wp2;exact bodyPost_ret (v:= .agg #[Qi 0,Qi 0,Qi 0]) (by simp[results,Tryz.results104,go_sem]) rfl ⟨rfl,((Gg _ _).alloc _).alloc _⟩
 ·unfold HOp.cells;go_enter Tryz.func104,Tryz.ntmps104;go_wp2;exact bodyPost_ret (v:= .agg #[Qi t,Qi k,Qi n]) (by simp[results,Tryz.results104,go_sem]) rfl ⟨rfl,((Gg _ _).alloc _).alloc _⟩
theorem rof(w:Gy)(o:HOp):CN 52 #[.agg o.cells.toArray] w (.agg (Zw o).cells.toArray):=by
 obtain⟨r,k,t,n⟩:=o
 cases r
 ·unfold HOp.cells;go_enter Tryz.func52,Tryz.ntmps52;go_wp2;exact bodyPost_ret (v:= .agg #[Qi 0,Qi 0,Qi 0]) (by simp[results,Tryz.results52,go_sem]) rfl ⟨rfl,((Gg _ _).alloc _).alloc _⟩
 ·unfold HOp.cells;go_enter Tryz.func52,Tryz.ntmps52;go_wp2;exact bodyPost_ret (v:= .agg #[Qi t,Qi k,Qi n]) (by simp[results,Tryz.results52,go_sem]) rfl ⟨rfl,((Gg _ _).alloc _).alloc _⟩
theorem Zv5(w:Gy)(v:Ver):CN 162 #[.agg v.cells.toArray] w (.bool (Z8 v)):=by
 unfold Ver.cells;have i0:idB 0=false:=by decide
 by_cases ht:v.tx=0
 ·by_cases hk:idB v.key=true
  ·have hv:=Qh (show Z8 v=(v.nth==0) by unfold Z8;rw[hk,ht,i0];simp);rw[ht];have Hk:=Qh hk;clear ht hk i0
   by_cases hn:v.nth=0
   ·have gr:(v.nth==0)=true:=by simpa using hn
    have Hn:=Qh hn;clear hn;go_enter Tryz.func162,Tryz.ntmps162;go_wp2_with fail;refine(ZbZ Hk.out).mono ?_;rintro e w1 ⟨rfl,rfl⟩;go_wp2;go_ret;exact⟨by rw[hv.out,gr];rfl,(Gg _ _).alloc _⟩
   ·have gr:(v.nth==0)=false:=by simpa using hn
    have Hn:=Qh hn;clear hn;go_enter Tryz.func162,Tryz.ntmps162;go_wp2_with fail;refine(ZbZ Hk.out).mono ?_;rintro e w1 ⟨rfl,rfl⟩;go_wp2;go_ret;exact⟨by rw[hv.out,gr];rfl,(Gg _ _).alloc _⟩
  ·have hv:=Qh (show Z8 v=false by unfold Z8;rw[ZbH hk];rfl);rw[ht];have Hk:=Qh (ZbH hk);clear ht hk i0;go_enter Tryz.func162,Tryz.ntmps162;go_wp2_with fail;refine(ZbZ Hk.out).mono ?_;rintro e w1 ⟨rfl,rfl⟩;go_wp2;go_ret;exact⟨by rw[hv.out];rfl,(Gg _ _).alloc _⟩
 ·have eS:(v.tx==0)=false:=by simpa using ht
  have Ht:=Qh ht;clear ht i0
  by_cases hi:idB v.tx=true
  ·have Hi:=Qh hi;clear hi
   by_cases hk:idB v.key=true
   ·have Hk:=Qh hk;clear hk
    by_cases h1:1<=v.nth
    ·by_cases h2:v.nth<=4095
     ·have hv:=Qh (show Z8 v=true by unfold Z8;rw[eS,Hi.out,Hk.out,Qt h1,Qt h2];rfl);go_enter Tryz.func162,Tryz.ntmps162;go_wp2_with fail;refine(ZbZ Hi.out).mono ?_;rintro e w1 ⟨rfl,rfl⟩;go_wp2_with fail;refine(ZbZ Hk.out).mono ?_;rintro e w1 ⟨rfl,rfl⟩;go_wp2;go_ret;exact⟨by rw[hv.out];rfl,(Gg _ _).alloc _⟩
     ·have hv:=Qh (show Z8 v=false by unfold Z8;rw[eS,Hi.out,Hk.out,Qf h2];simp);have vE:decide (v.nth<=4095)=false:=Qf h2;go_enter Tryz.func162,Tryz.ntmps162;go_wp2_with fail;refine(ZbZ Hi.out).mono ?_;rintro e w1 ⟨rfl,rfl⟩;go_wp2_with fail;refine(ZbZ Hk.out).mono ?_;rintro e w1 ⟨rfl,rfl⟩;go_wp2;go_ret;exact⟨by rw[hv.out];rfl,(Gg _ _).alloc _⟩
    ·have hv:=Qh (show Z8 v=false by unfold Z8;rw[eS,Hi.out,Hk.out,Qf h1];simp);go_enter Tryz.func162,Tryz.ntmps162;go_wp2_with fail;refine(ZbZ Hi.out).mono ?_;rintro e w1 ⟨rfl,rfl⟩;go_wp2_with fail;refine(ZbZ Hk.out).mono ?_;rintro e w1 ⟨rfl,rfl⟩;go_wp2;go_ret;exact⟨by rw[hv.out];rfl,(Gg _ _).alloc _⟩
   ·have hv:=Qh (show Z8 v=false by unfold Z8;rw[ZbH hk];rfl);have Hk:=Qh (ZbH hk);clear hk;go_enter Tryz.func162,Tryz.ntmps162;go_wp2_with fail;refine(ZbZ Hi.out).mono ?_;rintro e w1 ⟨rfl,rfl⟩;go_wp2_with fail;refine(ZbZ Hk.out).mono ?_;rintro e w1 ⟨rfl,rfl⟩;go_wp2;go_ret;exact⟨by rw[hv.out];rfl,(Gg _ _).alloc _⟩
  ·have hv:=Qh (show Z8 v=false by unfold Z8;rw[eS,ZbH hi];simp);have Hi:=Qh (ZbH hi);clear hi;go_enter Tryz.func162,Tryz.ntmps162;go_wp2_with fail;refine(ZbZ Hi.out).mono ?_;rintro e w1 ⟨rfl,rfl⟩;go_wp2;go_ret;exact⟨by rw[hv.out];rfl,(Gg _ _).alloc _⟩
theorem ZiO(w:Gy)(o:HOp):CN 81 #[.agg o.cells.toArray] w (Qi (Zom (opB o))):=by
 obtain⟨r,k,t,n⟩:=o
 cases r
 ·have hN:=Zth;unfold HOp.cells
  by_cases hz:(⟨false,k,t,n⟩:HOp)=⟨false,k,0,0⟩
  ·have eH:((⟨false,k,t,n⟩:HOp) != ⟨false,k,0,0⟩)=false:=by rw[hz];simp
   have h0:t=0∧n=0:=by injection hz with _ _ h3 h4;exact⟨h3,h4⟩
   by_cases h1:k<1
   ·have hv:=Qh (show opB ⟨false,k,t,n⟩=false by unfold opB idB;rw[Qf (show¬1<=k by omega)];rfl);clear hz h0;have qn:=fun w=>(hN w ⟨false,k,t,n⟩ ⟨false,k,0,0⟩).trans (by rw[eH])
    clear hN eH;go_enter Tryz.func81,Tryz.ntmps81;go_wp2;go_ret;exact⟨by rw[hv.out];rfl,(Gg _ _).alloc _⟩
   ·by_cases h2:1048575<k
    ·have hv:=Qh (show opB ⟨false,k,t,n⟩=false by unfold opB idB;rw[Qf (show¬k<=1048575 by omega)];simp);clear hz h0;have qn:=fun w=>(hN w ⟨false,k,t,n⟩ ⟨false,k,0,0⟩).trans (by rw[eH])
     clear hN eH;go_enter Tryz.func81,Tryz.ntmps81;go_wp2;go_ret;exact⟨by rw[hv.out];rfl,(Gg _ _).alloc _⟩
    ·have hv:=Qh (show opB ⟨false,k,t,n⟩=true by unfold opB idB;rw[Qt (show k<=1048575 by omega),Qt (show 1<=k by omega),h0.1,h0.2];rfl);clear hz h0;have qn:=fun w=>(hN w ⟨false,k,t,n⟩ ⟨false,k,0,0⟩).trans (by rw[eH])
     clear hN eH;go_enter Tryz.func81,Tryz.ntmps81;go_wp2;go_ret;exact⟨by rw[hv.out];rfl,(Gg _ _).alloc _⟩
  ·have eH:((⟨false,k,t,n⟩:HOp) != ⟨false,k,0,0⟩)=true:=by simpa using hz
   have hv:=Qh (show opB ⟨false,k,t,n⟩=false by
    unfold opB
    by_cases h3:t=0
    ·by_cases h4:n=0
     ·exact absurd (by rw[h3,h4]) hz
     ·simp[h4]
    ·simp[h3])
   clear hz;have qn:=fun w=>(hN w ⟨false,k,t,n⟩ ⟨false,k,0,0⟩).trans (by rw[eH])
   clear hN eH;go_enter Tryz.func81,Tryz.ntmps81;go_wp2;go_ret;exact⟨by rw[hv.out];rfl,(Gg _ _).alloc _⟩
 ·have hv:Hid (opB ⟨true,k,t,n⟩=Z8 ⟨t,k,n⟩):=Qh rfl;unfold HOp.cells;go_enter Tryz.func81,Tryz.ntmps81;go_wp2_with fail;refine Ck (oof _ ⟨true,k,t,n⟩) fun w1 hu1=>?_;go_wp2_with fail;refine(Zwe _ ⟨t,k,n⟩).mono ?_;rintro e w2 ⟨x,rfl,hu2⟩;go_wp2;go_ret;exact⟨by rw[hv.out];rfl,(((Gg _ _).alloc _).trans hu1).trans hu2⟩
theorem Zt3(w:Gy)(o:HOp):CN 125 #[.agg o.cells.toArray] w (.bool (opB o)):=by
 obtain⟨r,k,t,n⟩:=o
 cases r
 ·unfold HOp.cells
  by_cases hk:idB k=true
  ·have Hk:=Qh hk;clear hk
   by_cases h3:t=0
   ·have hv:=Qh (show opB ⟨false,k,t,n⟩=(n==0) by unfold opB;rw[h3,Hk.out];rfl);have pi:(t==0)=true:=by simpa using h3
    clear h3
    by_cases h4:n=0
    ·have vF:(n==0)=true:=by simpa using h4
     clear h4;go_enter Tryz.func125,Tryz.ntmps125;go_wp2_with fail;refine(ZbZ Hk.out).mono ?_;rintro e w1 ⟨rfl,rfl⟩;go_wp2;go_ret;exact⟨by rw[hv.out,vF];rfl,(Gg _ _).alloc _⟩
    ·have vF:(n==0)=false:=by simpa using h4
     clear h4;go_enter Tryz.func125,Tryz.ntmps125;go_wp2_with fail;refine(ZbZ Hk.out).mono ?_;rintro e w1 ⟨rfl,rfl⟩;go_wp2;go_ret;exact⟨by rw[hv.out,vF];rfl,(Gg _ _).alloc _⟩
   ·have pi:(t==0)=false:=by simpa using h3
    have hv:=Qh (show opB ⟨false,k,t,n⟩=false by unfold opB;simp[h3]);clear h3;go_enter Tryz.func125,Tryz.ntmps125;go_wp2_with fail;refine(ZbZ Hk.out).mono ?_;rintro e w1 ⟨rfl,rfl⟩;go_wp2;go_ret;exact⟨by rw[hv.out];rfl,(Gg _ _).alloc _⟩
  ·have hv:=Qh (show opB ⟨false,k,t,n⟩=false by unfold opB;simp[ZbH hk]);have Hk:=Qh (ZbH hk);clear hk;go_enter Tryz.func125,Tryz.ntmps125;go_wp2_with fail;refine(ZbZ Hk.out).mono ?_;rintro e w1 ⟨rfl,rfl⟩;go_wp2;go_ret;exact⟨by rw[hv.out];rfl,(Gg _ _).alloc _⟩
 ·have hv:Hid (opB ⟨true,k,t,n⟩=Z8 ⟨t,k,n⟩):=Qh rfl;unfold HOp.cells;go_enter Tryz.func125,Tryz.ntmps125;go_wp2_with fail;refine Ck (rof _ ⟨true,k,t,n⟩) fun w1 hu1=>?_;go_wp2_with fail;refine Ck (Zv5 _ ⟨t,k,n⟩) fun w2 hu2=>?_;go_wp2;go_ret;exact⟨by rw[hv.out];rfl,(((Gg _ _).alloc _).trans hu1).trans hu2⟩
/- Levels:which level bars which phenomenon;the words. -/
def Zd3(l p:Int):Bool:=decide (1<=l∧l<=3∧1<=p∧p<=5)&&(p==1||((decide (p<5)&&decide (2<=l))||l==3))
def ZlZ(b1 b2 b3 b4 b5:Bool):Int:=if b1 then 0 else if b2 then 1 else if b3 then 1 else if b4 then 1 else if b5 then 2 else 3
def Zb2(l:Int):Gm:=if l=0 then ⟨#[110,111,110,101]⟩ else if l=1 then ⟨#[80,76,45,49]⟩ else if l=2 then ⟨#[80,76,45,50]⟩ else if l=3 then ⟨#[80,76,45,51]⟩ else ⟨#[]⟩
def ZcO(p:Int):Gm:=if p=1 then ⟨#[71,48]⟩ else if p=2 then ⟨#[71,49,97]⟩ else if p=3 then ⟨#[71,49,98]⟩ else if p=4 then ⟨#[71,49,99]⟩ else if p=5 then ⟨#[71,50,45,105,116,101,109]⟩ else ⟨#[]⟩
def ZoD(p:Int):Gm:=if p=1 then ⟨#[103,48]⟩ else if p=2 then ⟨#[103,49,97]⟩ else if p=3 then ⟨#[103,49,98]⟩ else if p=4 then ⟨#[103,49,99]⟩ else if p=5 then ⟨#[103,50]⟩ else ⟨#[]⟩
theorem Zk1{l p:Int}(h:¬(1<=l∧l<=3)):Zd3 l p=false:=by unfold Zd3;rw[Qf (by omega)];rfl
theorem Zjs{l p:Int}(h:¬(1<=p∧p<=5)):Zd3 l p=false:=by unfold Zd3;rw[Qf (by omega)];rfl
theorem ZsZ(w:Gy)(l p:Int):CE 59 #[Qi l,Qi p] w (.bool (Zd3 l p)):=by
 by_cases h1:l<1
 ·have d1:decide (l<1)=true:=Qt h1;rw[Zk1 (by omega)];go_enter Tryz.func59,Tryz.ntmps59;go_wp2;go_ret;exact⟨rfl,rfl⟩
 have d1:decide (l<1)=false:=Qf h1
 by_cases h2:3<l
 ·have d2:decide (3<l)=true:=Qt h2;rw[Zk1 (by omega)];go_enter Tryz.func59,Tryz.ntmps59;go_wp2;go_ret;exact⟨rfl,rfl⟩
 have d2:decide (3<l)=false:=Qf h2
 by_cases h3:p<1
 ·have d3:decide (p<1)=true:=Qt h3;rw[Zjs (by omega)];go_enter Tryz.func59,Tryz.ntmps59;go_wp2;go_ret;exact⟨rfl,rfl⟩
 have d3:decide (p<1)=false:=Qf h3
 by_cases h4:5<p
 ·have d4:decide (5<p)=true:=Qt h4;rw[Zjs (by omega)];go_enter Tryz.func59,Tryz.ntmps59;go_wp2;go_ret;exact⟨rfl,rfl⟩
 have hl:l=1∨l=2∨l=3:=by omega
 have hp:p=1∨p=2∨p=3∨p=4∨p=5:=by omega
 clear d1 d2 d3 h1 h2 h3 h4;rcases hl with rfl|rfl|rfl
 ·rcases hp with rfl|rfl|rfl|rfl|rfl
  ·go_enter Tryz.func59,Tryz.ntmps59;go_wp2;go_ret;exact⟨rfl,rfl⟩
  ·go_enter Tryz.func59,Tryz.ntmps59;go_wp2;go_ret;exact⟨rfl,rfl⟩
  ·go_enter Tryz.func59,Tryz.ntmps59;go_wp2;go_ret;exact⟨rfl,rfl⟩
  ·go_enter Tryz.func59,Tryz.ntmps59;go_wp2;go_ret;exact⟨rfl,rfl⟩
  ·go_enter Tryz.func59,Tryz.ntmps59;go_wp2;go_ret;exact⟨rfl,rfl⟩
 ·rcases hp with rfl|rfl|rfl|rfl|rfl
  ·go_enter Tryz.func59,Tryz.ntmps59;go_wp2;go_ret;exact⟨rfl,rfl⟩
  ·go_enter Tryz.func59,Tryz.ntmps59;go_wp2;go_ret;exact⟨rfl,rfl⟩
  ·go_enter Tryz.func59,Tryz.ntmps59;go_wp2;go_ret;exact⟨rfl,rfl⟩
  ·go_enter Tryz.func59,Tryz.ntmps59;go_wp2;go_ret;exact⟨rfl,rfl⟩
  ·go_enter Tryz.func59,Tryz.ntmps59;go_wp2;go_ret;exact⟨rfl,rfl⟩
 ·rcases hp with rfl|rfl|rfl|rfl|rfl
  ·go_enter Tryz.func59,Tryz.ntmps59;go_wp2;go_ret;exact⟨rfl,rfl⟩
  ·go_enter Tryz.func59,Tryz.ntmps59;go_wp2;go_ret;exact⟨rfl,rfl⟩
  ·go_enter Tryz.func59,Tryz.ntmps59;go_wp2;go_ret;exact⟨rfl,rfl⟩
  ·go_enter Tryz.func59,Tryz.ntmps59;go_wp2;go_ret;exact⟨rfl,rfl⟩
  ·go_enter Tryz.func59,Tryz.ntmps59;go_wp2;go_ret;exact⟨rfl,rfl⟩
theorem Zvv(w:Gy)(l:Int):CN 18 #[Qi l] w (.string (Zb2 l)):=by
 by_cases h1:l<0
 ·have d1:decide (l<0)=true:=Qt h1;rw[show Zb2 l=⟨#[]⟩ by unfold Zb2;rw[if_neg (by omega),if_neg (by omega),if_neg (by omega),if_neg (by omega)]];go_enter Tryz.func18,Tryz.ntmps18;go_wp2;go_ret;exact⟨rfl,(Gg No w).alloc _⟩
 by_cases h2:4<=l
 ·have d1:decide (l<0)=false:=Qf h1;have d2:decide (4<=l)=true:=Qt h2;rw[show Zb2 l=⟨#[]⟩ by unfold Zb2;rw[if_neg (by omega),if_neg (by omega),if_neg (by omega),if_neg (by omega)]];go_enter Tryz.func18,Tryz.ntmps18;go_wp2;go_ret;exact⟨rfl,(Gg No w).alloc _⟩
 have hl:l=0∨l=1∨l=2∨l=3:=by omega
 clear h1 h2;rcases hl with rfl|rfl|rfl|rfl
 ·go_enter Tryz.func18,Tryz.ntmps18;go_wp2;go_ret;exact⟨rfl,(Gg No w).alloc _⟩
 ·go_enter Tryz.func18,Tryz.ntmps18;go_wp2;go_ret;exact⟨rfl,(Gg No w).alloc _⟩
 ·go_enter Tryz.func18,Tryz.ntmps18;go_wp2;go_ret;exact⟨rfl,(Gg No w).alloc _⟩
 ·go_enter Tryz.func18,Tryz.ntmps18;go_wp2;go_ret;exact⟨rfl,(Gg No w).alloc _⟩
theorem Zvu(w:Gy)(p:Int):CE 39 #[Qi p] w (.tuple #[.string (ZcO p),.string (ZoD p)]):=by
 by_cases p1:p=1
 ·subst p1;go_enter Tryz.func39,Tryz.ntmps39;go_wp2;go_ret2;exact⟨rfl,rfl⟩
 by_cases p2:p=2
 ·subst p2;go_enter Tryz.func39,Tryz.ntmps39;go_wp2;go_ret2;exact⟨rfl,rfl⟩
 by_cases p3:p=3
 ·subst p3;go_enter Tryz.func39,Tryz.ntmps39;go_wp2;go_ret2;exact⟨rfl,rfl⟩
 by_cases p4:p=4
 ·subst p4;go_enter Tryz.func39,Tryz.ntmps39;go_wp2;go_ret2;exact⟨rfl,rfl⟩
 by_cases p5:p=5
 ·subst p5;go_enter Tryz.func39,Tryz.ntmps39;go_wp2;go_ret2;exact⟨rfl,rfl⟩
 have q1:(p==1)=false:=by simpa using p1
 have q2:(p==2)=false:=by simpa using p2
 have q3:(p==3)=false:=by simpa using p3
 have q4:(p==4)=false:=by simpa using p4
 have q5:(p==5)=false:=by simpa using p5
 rw[show ZcO p=⟨#[]⟩ by unfold ZcO;rw[if_neg p1,if_neg p2,if_neg p3,if_neg p4,if_neg p5],show ZoD p=⟨#[]⟩ by unfold ZoD;rw[if_neg p1,if_neg p2,if_neg p3,if_neg p4,if_neg p5]];go_enter Tryz.func39,Tryz.ntmps39;go_wp2;go_ret2;exact⟨rfl,rfl⟩
theorem Zss(w:Gy)(p:Int):CE 19 #[Qi p] w (.string (ZcO p)):=by
 have C:=Qh (Zvu w p);go_enter Tryz.func19,Tryz.ntmps19;go_wp2_with fail;refine(C.out).mono ?_;rintro e w1 ⟨rfl,rfl⟩;go_wp2;go_ret;exact⟨rfl,rfl⟩
/- Arrays of six Booleans:they are compared,filled and written. -/
theorem Zm2(d:Nat)(w:Gy)(a0 a1 a2 a3 a4 a5 b0 b1 b2 b3 b4 b5:Bool):
  (Op.equalIn (d+1+1) 22 (.agg #[.bool a0,.bool a1,.bool a2,.bool a3,.bool a4,.bool a5]) (.agg #[.bool b0,.bool b1,.bool b2,.bool b3,.bool b4,.bool b5])).run Tryz.prog w= .ok (a0==b0&&(a1==b1&&(a2==b2&&(a3==b3&&(a4==b4&&a5==b5))))) w:=by
 have ht:=Tryz.underlying22;have hb:=Tryz.underlying4;have ci:∀(w:Gy),(sizeOf 4).run Tryz.prog w= .ok 1 w:=fun w=>by kernel_rfl
 have hp:∀(w:Gy) (a0 a1 a2 a3 a4 a5:Gz) (i:Nat) (v:Gz),#[a0,a1,a2,a3,a4,a5][i]? =some v->(part 4 #[a0,a1,a2,a3,a4,a5] i).run Tryz.prog w= .ok v w:=fun w a0 a1 a2 a3 a4 a5 i v h=>by simp[part,isAgg,run_underlying hb,h]
 have p0:=fun w a0 a1 a2 a3 a4 a5=>hp w a0 a1 a2 a3 a4 a5 0 a0 rfl
 have p1:=fun w a0 a1 a2 a3 a4 a5=>hp w a0 a1 a2 a3 a4 a5 1 a1 rfl
 have p2:=fun w a0 a1 a2 a3 a4 a5=>hp w a0 a1 a2 a3 a4 a5 2 a2 rfl
 have p3:=fun w a0 a1 a2 a3 a4 a5=>hp w a0 a1 a2 a3 a4 a5 3 a3 rfl
 have p4:=fun w a0 a1 a2 a3 a4 a5=>hp w a0 a1 a2 a3 a4 a5 4 a4 rfl
 have p5:=fun w a0 a1 a2 a3 a4 a5=>hp w a0 a1 a2 a3 a4 a5 5 a5 rfl
 have h1:∀(d:Nat) (w:Gy) (a b:Bool),(Op.equalIn (d+1) 4 (.bool a) (.bool b)).run Tryz.prog w= .ok (a==b) w:=fun d w a b=>run_equalIn_bool w d _ a b hb
 clear hp;unfold Op.equalIn;simp only[run_underlying ht,ci,p0,p1,p2,p3,p4,p5,h1,Sem.run_bind,Sem.run_pure,Result.andThen,List.range',Std.Legacy.Range.forIn_eq_forIn_range',Std.Legacy.Range.size,Result.andThen_ok,List.forIn_cons,List.forIn_nil,Nat.sub_zero,Nat.add_sub_cancel,Nat.div_one,Nat.reduceAdd,Nat.reduceSub,Nat.zero_mul,Nat.mul_one]
 cases e0:(a0==b0)
 ·simp only[Bool.not_true,Bool.not_false,Bool.false_eq_true,if_false,if_true,ite_true,ite_false,reduceIte,p0,p1,p2,p3,p4,p5,h1,Sem.run_bind,Sem.run_pure,Result.andThen,Result.andThen_ok,Bool.true_and,Bool.false_and]
 ·simp only[Bool.not_true,Bool.not_false,Bool.false_eq_true,if_false,if_true,ite_true,ite_false,reduceIte,p0,p1,p2,p3,p4,p5,h1,Sem.run_bind,Sem.run_pure,Result.andThen,Result.andThen_ok,Bool.true_and,Bool.false_and]
  cases e1:(a1==b1)
  ·simp only[Bool.not_true,Bool.not_false,Bool.false_eq_true,if_false,if_true,ite_true,ite_false,reduceIte,p0,p1,p2,p3,p4,p5,h1,Sem.run_bind,Sem.run_pure,Result.andThen,Result.andThen_ok,Bool.true_and,Bool.false_and]
  ·simp only[Bool.not_true,Bool.not_false,Bool.false_eq_true,if_false,if_true,ite_true,ite_false,reduceIte,p0,p1,p2,p3,p4,p5,h1,Sem.run_bind,Sem.run_pure,Result.andThen,Result.andThen_ok,Bool.true_and,Bool.false_and]
   cases e2:(a2==b2)
   ·simp only[Bool.not_true,Bool.not_false,Bool.false_eq_true,if_false,if_true,ite_true,ite_false,reduceIte,p0,p1,p2,p3,p4,p5,h1,Sem.run_bind,Sem.run_pure,Result.andThen,Result.andThen_ok,Bool.true_and,Bool.false_and]
   ·simp only[Bool.not_true,Bool.not_false,Bool.false_eq_true,if_false,if_true,ite_true,ite_false,reduceIte,p0,p1,p2,p3,p4,p5,h1,Sem.run_bind,Sem.run_pure,Result.andThen,Result.andThen_ok,Bool.true_and,Bool.false_and]
    cases e3:(a3==b3)
    ·simp only[Bool.not_true,Bool.not_false,Bool.false_eq_true,if_false,if_true,ite_true,ite_false,reduceIte,p0,p1,p2,p3,p4,p5,h1,Sem.run_bind,Sem.run_pure,Result.andThen,Result.andThen_ok,Bool.true_and,Bool.false_and]
    ·simp only[Bool.not_true,Bool.not_false,Bool.false_eq_true,if_false,if_true,ite_true,ite_false,reduceIte,p0,p1,p2,p3,p4,p5,h1,Sem.run_bind,Sem.run_pure,Result.andThen,Result.andThen_ok,Bool.true_and,Bool.false_and]
     cases e4:(a4==b4)
     ·simp only[Bool.not_true,Bool.not_false,Bool.false_eq_true,if_false,if_true,ite_true,ite_false,reduceIte,p0,p1,p2,p3,p4,p5,h1,Sem.run_bind,Sem.run_pure,Result.andThen,Result.andThen_ok,Bool.true_and,Bool.false_and]
     ·simp only[Bool.not_true,Bool.not_false,Bool.false_eq_true,if_false,if_true,ite_true,ite_false,reduceIte,p0,p1,p2,p3,p4,p5,h1,Sem.run_bind,Sem.run_pure,Result.andThen,Result.andThen_ok,Bool.true_and,Bool.false_and]
      cases e5:(a5==b5)
      ·simp only[Bool.not_true,Bool.not_false,Bool.false_eq_true,if_false,if_true,ite_true,ite_false,reduceIte,p0,p1,p2,p3,p4,p5,h1,Sem.run_bind,Sem.run_pure,Result.andThen,Result.andThen_ok,Bool.true_and,Bool.false_and]
      ·simp only[Bool.not_true,Bool.not_false,Bool.false_eq_true,if_false,if_true,ite_true,ite_false,reduceIte,p0,p1,p2,p3,p4,p5,h1,Sem.run_bind,Sem.run_pure,Result.andThen,Result.andThen_ok,Bool.true_and,Bool.false_and]
def Zlx(f:Int->Bool)(k:Nat):Gl:=(List.range 6).map fun i=> .bool (decide (i<k)&&f (i:Int))
theorem ZfN(f:Int->Bool):Zlx f 6=[.bool (f 0),.bool (f 1),.bool (f 2),.bool (f 3),.bool (f 4),.bool (f 5)]:=by unfold Zlx;rfl
theorem Zlw(f:Int->Bool){k:Nat}(hk:k<6):(Zlx f 6)[k]? =some (.bool (f (k:Int))):=by
 rcases(show k=0∨k=1∨k=2∨k=3∨k=4∨k=5 by omega)with rfl|rfl|rfl|rfl|rfl|rfl<;>rfl
/- The words of errors. -/
def wordsE:Gi:=[⟨#[111,107]⟩,⟨#[114,97,110,103,101]⟩,⟨#[102,117,108,108]⟩,⟨#[110,111,110,101]⟩,⟨#[116,104,101,114,101]⟩,⟨#[102,111,114,109]⟩,⟨#[114,101,97,100]⟩,⟨#[117,115,101,100]⟩,⟨#[111,114,100,101,114]⟩,⟨#[108,111,110,103]⟩,⟨#[110,117,109,98,101,114]⟩,⟨#[119,111,114,100]⟩,⟨#[115,104,111,114,116]⟩,⟨#[109,111,114,101]⟩,⟨#[98,108,97,110,107]⟩,⟨#[101,109,112,116,121]⟩,⟨#[99,121,99,108,101]⟩,⟨#[115,116,97,116,101]⟩]
def wordsW:Gl:=wordsE.map Value.string
def Zbq(e:Int):Gm:=if 0<=e∧e<=17 then wordsE.getD e.toNat ⟨#[]⟩ else ⟨#[120]⟩
theorem ZoS(e:Int)(h0:¬e<0)(h1:e<18):wordsW[e.toNat]? =some (Value.string (Zbq e)):=by
 have h:e=0∨e=1∨e=2∨e=3∨e=4∨e=5∨e=6∨e=7∨e=8∨e=9∨e=10∨e=11∨e=12∨e=13∨e=14∨e=15∨e=16∨e=17:=by omega
 rcases h with h|h|h|h|h|h|h|h|h|h|h|h|h|h|h|h|h|h<;>subst h<;>rfl
theorem ZnG(e:Int):(Zbq e).size<=6:=by
 unfold Zbq
 split
 ·rename_i h
  have:∀k:Fin 18,(wordsE.getD k.val ⟨#[]⟩).size<=6:=by decide+kernel
  exact this ⟨e.toNat,by omega⟩
 ·decide
theorem ZlG(w:Gy)(e:Int):Calls Tryz.prog 14 #[Qi e] w fun x w'=>x= .returned (.string (Zbq e))∧Upd No w w':=by
 obtain⟨z,hz⟩:=Qe w.heap.size;obtain⟨wb,ah⟩:=Qe (w.alloc (.cells wordsW.toArray 72));have ub:Upd No w wb:=by rw[<-ah];exact(Gg No w).alloc _
 have bb:Blk wb z 72 wordsW:=by rw[<-ah,<-hz];exact Gh w _ _
 go_enter Tryz.func14,Tryz.ntmps14
 go_upto_region 1 with fail
 go_cut [3] (fun s wx=>s= .pointer (some ⟨z,0,none⟩)∧wx=wb)
 case first=>
  clear bb ub;go_wp2_with fail;go_meet
  case rel=>exact⟨by rw[<-hz],by rw[<-ah];rfl⟩
 case rest=>
  obtain⟨rfl,rfl⟩:=hcut;clear ah;have UB:=Qh ub
  by_cases h0:e<0
  ·have HT:=Qh (show Zbq e=⟨#[120]⟩ by unfold Zbq;rw[if_neg (by omega)]);have d0:decide (e<0)=true:=Qt h0;clear h0 bb ub;go_wp2;go_ret;exact⟨by rw[HT.out];rfl,UB.out⟩
  by_cases h1:18<=e
  ·have HT:=Qh (show Zbq e=⟨#[120]⟩ by unfold Zbq;rw[if_neg (by omega)]);have d0:decide (e<0)=false:=Qf h0;have d1:decide (18<=e)=true:=Qt h1;clear h0 h1 bb ub;go_wp2;go_ret;exact⟨by rw[HT.out];rfl,UB.out⟩
  have c0:wc.cell? ⟨z,e.toNat,none⟩=some (.string (Zbq e)):=by rw[bb.cell];exact ZoS e h0 (by omega)
  have d0:decide (e<0)=false:=Qf h0;have d1:decide (18<=e)=false:=Qf h1;have l0:0<=e:=by omega
  have l1:e<18:=by omega
  clear h0 h1 bb ub;go_wp2;go_ret;exact⟨rfl,UB.out⟩
/- What is said of errors. -/
def Zbc(e:Int):Gm:=if e=0 then ⟨#[111,107,10]⟩ else ⟨#[110,111,32]⟩++Zbq e++⟨#[10]⟩
theorem Zk7(w:Gy)(e:Int):Calls Tryz.prog 7 #[Qi e] w fun x w'=>x= .returned (.string (Zbc e))∧Upd No w w':=by
 by_cases h:e=0
 ·subst h;have HW:=Qh (ZlG w 0);rw[show Zbq 0=⟨#[111,107]⟩ from rfl]at HW;go_enter Tryz.func7,Tryz.ntmps7;go_wp2_with fail;refine Ck HW.out fun w1 hu1=>?_;go_wp2;go_ret;exact⟨rfl,hu1⟩
 ·have hb:(e==0)=false:=by simpa using h
  have HW:=Qh (ZlG w e);have HT:=Qh (show Zbc e=⟨#[110,111,32]⟩++Zbq e++⟨#[10]⟩ by unfold Zbc;rw[if_neg h]);have hs:=ZnG e;have m1:(⟨#[110,111,32]⟩:Gm).size=3:=rfl;have m2:(⟨#[10]⟩:Gm).size=1:=rfl;have p1:¬9223372036854775807<3+(Zbq e).size:=by omega
  have p2:¬9223372036854775807<3+(Zbq e).size+1:=by omega
  clear h;go_enter Tryz.func7,Tryz.ntmps7;go_wp2_with fail;refine Ck HW.out fun w1 hu1=>?_;go_wp2;go_ret;exact⟨by rw[HT.out];rfl,hu1⟩
/- Levels:the strongest level;the phenomenon of a code. -/
def ZbG(f:Int->Bool)(l:Int):Nat->Bool
 |0=>true
 |n+1=>if (f ((n+1:Nat):Int)&&Zd3 l ((n+1:Nat):Int))=true then false else ZbG f l n
def Zd2(f:Int->Bool):Nat->Int
 |0=>0
 |n+1=>if ZbG f ((n+1:Nat):Int) 5=true then ((n+1:Nat):Int) else Zd2 f n
theorem Zr1(f:Int->Bool):Zd2 f 3=ZlZ (f 1) (f 2) (f 3) (f 4) (f 5):=by
 have h:∀b1 b2 b3 b4 b5:Bool,(∀g:Int->Bool,g 1=b1->g 2=b2->g 3=b3->g 4=b4->g 5=b5->Zd2 g 3=ZlZ b1 b2 b3 b4 b5):=by
  intro b1 b2 b3 b4 b5 g h1 h2 h3 h4 h5;have c:∀l p:Int,∀v,Zd3 l p=v->Zd3 l p=v:=fun _ _ _ h=>h
  unfold Zd2 ZbG Zd2 ZbG Zd2 ZbG Zd2 ZbG ZbG ZbG ZbG ZbG;simp only[ZbG,show((0+1:Nat):Int)=1 from rfl,show((1+1:Nat):Int)=2 from rfl,show((2+1:Nat):Int)=3 from rfl,show((3+1:Nat):Int)=4 from rfl,show((4+1:Nat):Int)=5 from rfl,h1,h2,h3,h4,h5]
  cases b1<;>cases b2<;>cases b3<;>cases b4<;>cases b5<;>rfl
 exact h _ _ _ _ _ f rfl rfl rfl rfl rfl
theorem Zve(w:Gy)(f:Int->Bool):CN 33 #[.agg #[.bool (f 0),.bool (f 1),.bool (f 2),.bool (f 3),.bool (f 4),.bool (f 5)]] w (Qi (ZlZ (f 1) (f 2) (f 3) (f 4) (f 5))):=by
 rw[<-Zr1];obtain⟨z,hz⟩:=Qe w.heap.size;obtain⟨wb,ah⟩:=Qe (w.alloc (.cells #[.bool (f 0),.bool (f 1),.bool (f 2),.bool (f 3),.bool (f 4),.bool (f 5)] 22));have u0:Upd No w wb:=by rw[<-ah];exact(Gg No w).alloc _
 have bA:Blk wb z 22 (Zlx f 6):=by rw[ZfN,<-ah,<-hz];exact Gh w _ _
 have HC:=Qh (fun W (u:Upd No wb W) k (hk:k<6)=>show W.cell? ⟨z,k,none⟩=some (.bool (f (k:Int))) from by rw[(bA.upd u id).cell];exact Zlw f hk);have U0:=Qh u0;have HB:=Qh (fun W l p=>ZsZ W l p);clear u0 bA;go_enter Tryz.func33,Tryz.ntmps33;go_wp2;clear ah
 go_loopg [3,4] 3 (fun gk b i wr=>∃k:Nat,k+gk=3∧i= Qi (((k+1:Nat):Int))∧b= Qi (Zd2 f k)∧Hid (Upd No wb wr))
 case atStart=>exact⟨0,by omega,rfl,rfl,Qh (Gg _ _)⟩
 case round=>
  obtain⟨k,aK,rfl,rfl,hu⟩:=hrel
  by_cases hk:k<3
  ·obtain⟨LV,lQ⟩:=Qe (((k+1:Nat):Int):Int);have yF:=Qh lQ;rw[lQ];have l1:LV<=3:=by omega
   have lw:IntKind.i64.wrap (LV+1)=LV+1:=IntWalk.i64_in _ (by omega);obtain⟨BK,uq⟩:=Qe (Zd2 f k);have eG:=Qh (show Zd2 f (k+1)=if ZbG f LV 5=true then LV else BK by rw[<-uq,<-lQ];rfl);rw[uq];obtain⟨wo,dR⟩:∃wo,wo=wr:=⟨_,rfl⟩;subst dR;clear lQ uq;go_wp2;generalize gk=GK at*
   go_loopg [5,6] 5 (fun gk fn i wx=>∃j:Nat,j+gk=5∧i= Qi (((j+1:Nat):Int))∧fn= .bool (ZbG f LV j)∧Hid (Upd No wo wx))
   case atStart=>exact⟨0,by omega,rfl,rfl,Qh (Gg _ _)⟩
   case round=>
    obtain⟨j,iK,rfl,rfl,hu2⟩:=hrel
    by_cases hj:j<5
    ·have xT:=HC.out wr (hu.out.trans hu2.out) (j+1) (by omega);have HF:Hid (ZbG f LV (j+1)=if (f ((j+1:Nat):Int)&&Zd3 LV ((j+1:Nat):Int))=true then false else ZbG f LV j):=Qh rfl;obtain⟨PJ,vu⟩:=Qe (((j+1:Nat):Int):Int);have v7:=Qh vu;have hpn:PJ.toNat=j+1:=by omega
     rw[vu]at xT HF ⊢;have l2:PJ<=5:=by omega
     have l3:(0:Int)<=PJ:=by omega
     have l4:PJ<6:=by omega
     have pw:IntKind.i64.wrap (PJ+1)=PJ+1:=IntWalk.i64_in _ (by omega);obtain⟨fv,kl⟩:=Qe (f PJ);obtain⟨bv,n9⟩:=Qe (Zd3 LV PJ);obtain⟨nv,jy⟩:=Qe (ZbG f LV j);have CB:=Qh (HB.out wr LV PJ);rw[kl]at xT HF;rw[n9]at HF CB;rw[jy]at HF ⊢;clear vu kl n9 jy
     cases fv
     ·go_wp2;go_roundg (gk-1);exact⟨j+1,by omega,by have:=v7.out;simp;omega,by rw[HF.out];simp,hu2⟩;omega
     ·cases bv
      ·go_wp2_with fail;refine(CB.out).mono ?_;rintro e w3 ⟨rfl,rfl⟩;go_wp2;go_roundg (gk-1);exact⟨j+1,by omega,by have:=v7.out;simp;omega,by rw[HF.out];simp,hu2⟩;omega
      ·go_wp2_with fail;refine(CB.out).mono ?_;rintro e w3 ⟨rfl,rfl⟩;go_wp2;go_roundg (gk-1);exact⟨j+1,by omega,by have:=v7.out;simp;omega,by rw[HF.out];simp,hu2⟩;omega
    ·obtain rfl:j=5:=by omega
     obtain⟨fv,kl⟩:=Qe (ZbG f LV 5);rw[kl]at eG ⊢;clear kl
     cases fv
     ·go_wp2;go_roundg (GK-1);exact⟨k+1,by omega,by have:=yF.out;simp;omega,by rw[eG.out];simp,Qh (hu.out.trans hu2.out)⟩;omega
     ·go_wp2;go_roundg (GK-1);exact⟨k+1,by omega,by have:=yF.out;simp;omega,by rw[eG.out];simp,Qh (hu.out.trans hu2.out)⟩;omega
  ·obtain rfl:k=3:=by omega
   go_wp2;go_ret;exact⟨rfl,U0.out.trans hu.out⟩
theorem ZtT{a b:Gm}(h:¬a=b):(a.toList==b.toList)=false:=by
 rw[beq_eq_false_iff_ne,Go.ByteArray.toList_eq,Go.ByteArray.toList_eq];intro e;exact h (ByteArray.ext (Array.toList_inj.1 e))
/- How many writes of a key there are;whether a history is light. -/
def isW(key:Int)(o:HOp):Bool:= !o.read&&o.key==key
def wrN(l:List HOp)(key:Int)(k:Nat):Nat:=((l.take k).filter (isW key)).length
def Zd(l:List HOp)(key:Int):Nat:=wrN l key l.length
theorem Zlh{l:List HOp}{key:Int}{k:Nat}(hk:k<l.length):wrN l key (k+1)=wrN l key k+if isW key l[k]=true then 1 else 0:=by
 unfold wrN;rw[Es hk,List.filter_append,Fb]
 by_cases h:isW key l[k]=true
 ·rw[if_pos h,List.filter_cons_of_pos h];rfl
 ·rw[if_neg h,List.filter_cons_of_neg h];rfl
theorem Zjy{l:List HOp}{key:Int}{k:Nat}{x:HOp}(hk:k<l.length)(hx:l[k]=x)(h:isW key x=true):wrN l key (k+1)=wrN l key k+1:=by
 subst hx;rw[Zlh hk,if_pos h]
theorem Zfo{l:List HOp}{key:Int}{k:Nat}{x:HOp}(hk:k<l.length)(hx:l[k]=x)(h:isW key x=false):wrN l key (k+1)=wrN l key k:=by
 subst hx;rw[Zlh hk,if_neg (by rw[h];decide),Nat.add_zero]
theorem Zli(l:List HOp)(key:Int)(k:Nat):wrN l key k<=k:=by
 unfold wrN;have h1:=E3 (isW key) (l.take k);have h2:=List.length_take_le k l;omega
theorem ZcI(F:Gt)(w:Gy)(A:OA)(c:Nat)(l:List HOp)(key:Int)(h:HOps F w A l)(hl:Zp l.length):
  CN 88 #[.slice A l.length c,Qi key] w (Qi ((Zd l key:Nat):Int)):=by
 unfold Zp at hl;go_enter Tryz.func88,Tryz.ntmps88;go_wp2
 go_loopg [5,10] l.length (fun gk n i wr=>∃k:Nat,k+gk=l.length∧i= Qi k∧n= Qi ((wrN l key k:Nat):Int)∧Upd No w wr)
 case atStart=>exact⟨0,by omega,rfl,rfl,Gg _ _⟩
 case round=>
  obtain⟨k,aK,rfl,rfl,hu⟩:=hrel
  by_cases hlt:k<l.length
  ·obtain⟨ad,aA,c0,c1,c2,c3⟩:=(h.upd hu Qo).at_ hlt;obtain⟨x,hx⟩:=Qe (l[k]);rw[hx]at c0 c1 c2 c3;have hw:=Zli l key k;obtain⟨r,ky,tx,nt⟩:=x;have X:=Qh hx;clear hx;subst aA
   cases r
   ·by_cases hk:ky=key
    ·have e9:(ky==key)=true:=by simpa using hk
     have HS:=Qh (Zjy (key:=key) hlt X.out (by unfold isW;rw[e9];rfl));clear hk;go_wp2;go_roundg (gk-1);exact⟨k+1,by omega,by go_num,by rw[HS.out];go_num,hu.alloc _⟩;omega
    ·have e9:(ky==key)=false:=by simpa using hk
     have HS:=Qh (Zfo (key:=key) hlt X.out (by unfold isW;rw[e9];rfl));clear hk;go_wp2;go_roundg (gk-1);exact⟨k+1,by omega,by go_num,by rw[HS.out],hu.alloc _⟩;omega
   ·have HS:=Qh (Zfo (key:=key) hlt X.out rfl);go_wp2;go_roundg (gk-1);exact⟨k+1,by omega,by go_num,by rw[HS.out],hu.alloc _⟩;omega
  ·obtain rfl:k=l.length:=by omega
   go_wp2;go_ret;exact⟨rfl,hu⟩
theorem ZjE(F:Gt)(w:Gy)(i0:Int)(dn:Bool)(A:OA)(c:Nat)(l:List HOp)(key:Int)(h:HOps F w A l)(hl:Zp l.length):
  CN 134 #[.agg #[Qi i0,.bool dn,.slice A l.length c],Qi key] w (Qi ((Zd l key:Nat):Int)):=by
 unfold Zp at hl;go_enter Tryz.func134,Tryz.ntmps134;go_wp2
 go_loopg [5,11] l.length (fun gk n i wr=>∃k:Nat,k+gk=l.length∧i= Qi k∧n= Qi ((wrN l key k:Nat):Int)∧Upd No w wr)
 case atStart=>exact⟨0,by omega,rfl,rfl,(Gg _ _).alloc _⟩
 case round=>
  obtain⟨k,aK,rfl,rfl,hu⟩:=hrel
  by_cases hlt:k<l.length
  ·obtain⟨ad,aA,c0,c1,c2,c3⟩:=(h.upd hu Qo).at_ hlt;obtain⟨x,hx⟩:=Qe (l[k]);rw[hx]at c0 c1 c2 c3;have hw:=Zli l key k;obtain⟨r,ky,tx,nt⟩:=x;have X:=Qh hx;clear hx;subst aA
   cases r
   ·by_cases hk:ky=key
    ·have e9:(ky==key)=true:=by simpa using hk
     have HS:=Qh (Zjy (key:=key) hlt X.out (by unfold isW;rw[e9];rfl));clear hk;go_wp2;go_roundg (gk-1);exact⟨k+1,by omega,by go_num,by rw[HS.out];go_num,hu.alloc _⟩;omega
    ·have e9:(ky==key)=false:=by simpa using hk
     have HS:=Qh (Zfo (key:=key) hlt X.out (by unfold isW;rw[e9];rfl));clear hk;go_wp2;go_roundg (gk-1);exact⟨k+1,by omega,by go_num,by rw[HS.out],hu.alloc _⟩;omega
   ·have HS:=Qh (Zfo (key:=key) hlt X.out rfl);go_wp2;go_roundg (gk-1);exact⟨k+1,by omega,by go_num,by rw[HS.out],hu.alloc _⟩;omega
  ·obtain rfl:k=l.length:=by omega
   go_wp2;go_ret;exact⟨rfl,hu⟩
def ZE(h:Hist):Bool:=decide (h.txs.length<=12)&&decide (h.ords.length<=24)&&h.txs.all (fun t=>decide (t.ops.length<=24))&&h.ords.all (fun o=>decide (o.txs.length<=24))
/- Whether a history is light,by the document. -/
theorem ZmD{α:Type}{l:List α}{p:α->Bool}{k:Nat}(hk:k<l.length)(h:(l.take k).all p=true)(h1:p l[k]=true):(l.take (k+1)).all p=true:=by
 rw[Es hk,List.all_append,h];simp[h1]
theorem ZnD{α:Type}{l:List α}{p:α->Bool}{k:Nat}(hk:k<l.length)(h1:p l[k]=false):l.all p=false:=by
 rw[<-Fm];intro h;rw[Fn.1 h _ (Fr hk)]at h1
 cases h1
theorem Zpi(F:Gt)(w:Gy)(h:Hist)(H:h.lies F w):CN 5 #[h.val] w (.bool (ZE h)):=by
 obtain⟨txs,ords,A,c,B,d⟩:=h;unfold Hist.val;have hf:=H.few;have eh:=H.fewo;simp only at hf eh
 by_cases h1:12<txs.length
 ·have hv:=Qh (show ZE ⟨txs,ords,A,c,B,d⟩=false by unfold ZE;rw[Qf (by simp only;omega)];rfl);go_enter Tryz.func5,Tryz.ntmps5;go_wp2;go_ret;exact⟨by rw[hv.out];rfl,(Gg _ _).alloc _⟩
 ·by_cases h2:24<ords.length
  ·have hv:=Qh (show ZE ⟨txs,ords,A,c,B,d⟩=false by unfold ZE;rw[Qf (show¬ords.length<=24 by omega)];simp);go_enter Tryz.func5,Tryz.ntmps5;go_wp2;go_ret;exact⟨by rw[hv.out];rfl,(Gg _ _).alloc _⟩
  ·have hb:=Gh w 29 [.slice A txs.length c,.slice B ords.length d];have e0:(w.alloc (.cells #[.slice A txs.length c,.slice B ords.length d] 29)).cell? ⟨w.heap.size,1,none⟩=some (.slice B ords.length d):=hb.cell 1;have E0:=Qh e0;clear e0 hb;go_enter Tryz.func5,Tryz.ntmps5;go_wp2
   go_loopg [20] txs.length (fun gk i wr=>∃k:Nat,k+gk=txs.length∧i= Qi k∧Hid ((txs.take k).all (fun t=>decide (t.ops.length<=24))=true)∧Upd No (w.alloc (.cells #[.slice A txs.length c,.slice B ords.length d] 29)) wr)
   case atStart=>exact⟨0,by omega,rfl,Qh (by simp),Gg _ _⟩
   case round=>
    obtain⟨k,aK,rfl,aH,hu⟩:=hrel;have dH:Upd No w wr:=((Gg No w).alloc _).trans hu
    by_cases hlt:k<txs.length
    ·obtain⟨ad,aA,c0,c1,c2⟩:=(H.upd dH Qo).tx_at hlt;simp only at aA c0 c1 c2;obtain⟨x,hx⟩:=Qe (txs[k]);rw[hx]at c0 c1 c2;subst aA;have X:=Qh hx;clear hx;have xN:=((H.upd dH Qo).tx x (by rw[<-X.out];exact Fr hlt)).2.2.1;unfold Zp at xN
     by_cases ht:24<x.ops.length
     ·have hv:=Qh (show ZE ⟨txs,ords,some ad,c,B,d⟩=false by
       unfold ZE;rw[ZnD (l:=txs) (k:=k) hlt (by rw[X.out];exact Qf (by omega))];simp)
      go_wp2;go_ret;exact⟨by rw[hv.out];rfl,dH.alloc _⟩
     ·go_wp2;go_roundg (gk-1);exact⟨k+1,by omega,by go_num,Qh (ZmD hlt aH.out (by rw[X.out];exact Qt (by omega))),hu.alloc _⟩;omega
    ·obtain rfl:k=txs.length:=by omega
     have e1:wr.cell? ⟨w.heap.size,1,none⟩=some (.slice B ords.length d):=hu.keepNo E0.out;have jl:=Qh (show txs.all (fun t=>decide (t.ops.length<=24))=true by have:=aH.out;rwa [Fj]at this);clear aH;go_wp2
     go_loopg [32] ords.length (fun gk i wr=>∃k:Nat,k+gk=ords.length∧i= Qi k∧Hid ((ords.take k).all (fun t=>decide (t.txs.length<=24))=true)∧Upd No w wr)
     case atStart=>exact⟨0,by omega,rfl,Qh (by simp),dH⟩
     case round=>
      obtain⟨k,aK,rfl,aH,hu2⟩:=hrel
      by_cases hlt2:k<ords.length
      ·obtain⟨ad,aA,c0,c1⟩:=(H.upd hu2 Qo).ord_at hlt2;simp only at aA c0 c1;obtain⟨x,hx⟩:=Qe (ords[k]);rw[hx]at c0 c1;subst aA;have X:=Qh hx;clear hx;have xN:=((H.upd hu2 Qo).ord x (by rw[<-X.out];exact Fr hlt2)).2.2.1
       by_cases ht:24<x.txs.length
       ·have hv:=Qh (show ZE ⟨txs,ords,A,c,some ad,d⟩=false by
         unfold ZE;rw[ZnD (l:=ords) (k:=k) hlt2 (by rw[X.out];exact Qf (by omega))];simp)
        go_wp2;go_ret;exact⟨by rw[hv.out];rfl,hu2.alloc _⟩
       ·go_wp2;go_roundg (gk-1);exact⟨k+1,by omega,by go_num,Qh (ZmD hlt2 aH.out (by rw[X.out];exact Qt (by omega))),hu2.alloc _⟩;omega
      ·obtain rfl:k=ords.length:=by omega
       have hv:=Qh (show ZE ⟨txs,ords,A,c,B,d⟩=true by
        have h3:=aH.out;rw[Fj]at h3;unfold ZE;rw[Qt (show txs.length<=12 by omega),Qt (show ords.length<=24 by omega),jl.out,h3];rfl)
       go_wp2;go_ret;exact⟨by rw[hv.out];rfl,hu2⟩
/- Queues and stacks:what they are in memory,and walks of the calls that only look. -/
theorem ZoK:SlT Tryz.prog 57 3 1 8:=SlT.mk_ Tryz.underlying57 (z:= Qi 0) (by kernel_rfl) rfl (by omega)
def Pow(n:Nat):Prop:=n=0∨∃k,n=2 ^ k
def Z1(from_ i n:Nat):Nat:=(from_+i)%n
def grow(n:Nat):Nat:=if n=0 then 1 else 2*n
theorem ZrM(n:Nat):(if 1<(n:Int)*2 then (n:Int)*2 else 1)=((grow n:Nat):Int):=by
 unfold grow
 split<;>split<;>omega
theorem Ztk(n:Nat):1<=grow n∧grow n<=2*n+1∧n<grow n:=by unfold grow;split<;>omega
theorem Zme{n:Nat}(h:Pow n):∃k,grow n=2 ^ k:=by
 unfold grow;rcases h with rfl|⟨k,rfl⟩
 ·exact⟨0,by simp⟩
 ·exact⟨k+1,by have:=Nat.one_le_two_pow (n:=k);rw[if_neg (by omega),Nat.pow_succ];omega⟩
theorem Zd8(w:Gy)(g:Nat)(A:OA)(n c k:Nat)(room cnt:Gz)(fr:Nat)(i:Int)(hb:Blk w g 235 [room,.slice A n c,.int .u64 fr,cnt])
  (hn:n=2 ^ k) (hs:n<=1048576) (hi:0<=i) (hi2:i<=1048576) (hf:fr<=1048576):
  Calls Tryz.prog 175 #[.pointer (some ⟨g,0,none⟩),Qi i] w fun e w'=>e= .returned (.int .u64 (Z1 fr i.toNat n:Nat))∧∃q,w'=w.drewN q:=by
 have c1:=hb.cell 1;have c2:=hb.cell 2;simp only[Qz,Qs]at c1 c2;have gN:1<=n:=by rw[hn];exact Nat.one_le_two_pow
 obtain⟨j,rfl⟩:=Int.eq_ofNat_of_zero_le hi
 have lU:bits .and .u64 ((fr:Int)+j) ((n:Int)-1)=((Z1 fr j n:Nat):Int):=by
  have h1:=u64_and_nat (fr+j) (n-1) (by omega) (by omega);rw[show((fr:Int)+j)=((fr+j:Nat):Int) by omega,show((n:Int)-1)=((n-1:Nat):Int) by omega,h1];unfold Z1;rw[hn,Nat.and_two_pow_sub_one_eq_mod]
 have Hb:=Qh lU;have Hn:=Qh hn;clear lU hn;go_enter Tryz.func175,Tryz.ntmps175;go_wp2
 go_quiet (fail)
 go_wp2;go_ret;exact⟨by rw[Hb.out];rfl,_,rfl⟩
def Que(w:Gy)(F:Gt)(g:Nat)(room:Int)(xs:Gv):Prop:=
 ∃(v:Gz) (n:Nat) (ring:Gv) (fr:Nat),F g∧(∀k,v.ownBlock=some k->F k∧k≠g)∧(∀k,F k->k<w.heap.size)∧
  Blk w g 235 [Qi room,v,.int .u64 ((fr:Nat):Int),Qi xs.length]∧w.ownsRow 0 3 1 v n (ring.map (Value.int .i64))∧
  Pow n∧n<=131072∧fr<=n∧xs.length<=n∧∀i v,xs[i]? =some v->ring[Z1 fr i n]? =some v
namespace Que
variable {w w':Gy} {F S:Gt} {g:Nat} {room:Int} {xs:Gv}
theorem upd(h:Que w F g room xs)(k:Upd S w w')(hn:∀i,F i->¬S i):Que w' F g room xs:=by
 obtain⟨v,n,ring,fr,h1,h2,h3,h4,h5,h6⟩:=h;exact⟨v,n,ring,fr,h1,h2,fun i hi=>Fe (h3 i hi) k.size,h4.upd k (hn _ h1),Za h5 k (fun i hi=>hn _ (h2 i hi).1),h6⟩
theorem lt(h:Que w F g room xs):∀i,F i->i<w.heap.size:=by
 obtain⟨v,n,ring,fr,h1,h2,h3,_⟩:=h;exact h3
end Que
theorem ZsO{fr i j n:Nat}(hij:i<j)(hj:j<n):Z1 fr i n≠Z1 fr j n:=fun e=>by
 unfold Z1 at e;have h:=Nat.sub_mod_eq_zero_of_mod_eq e.symm;rw[show fr+j-(fr+i)=j-i by omega,Nat.mod_eq_of_lt (by omega)]at h;omega
theorem Zew{fr i n:Nat}(h:0<n):Z1 fr i n<n:=Nat.mod_lt _ h
theorem ZpV(n:Nat):(madeCells #[Value.int .i64 0] n).toList=(List.replicate n (0:Int)).map (Value.int .i64):=by
 apply List.ext_getElem
 ·simp[madeCells]
 ·intro i h1 h2;simp[madeCells,Nat.mod_one]
theorem Zni{W:Gy}{F:Gt}{g gl n c fr:Nat}{room:Int}{xs ring:Gv}(x:Int)
  (hb:Blk W g 235 [Qi room,.slice (some ⟨gl,0,none⟩) n c,.int .u64 ((fr:Nat):Int),Qi xs.length])
  (ho:W.ownsRow 0 3 1 (.slice (some ⟨gl,0,none⟩) n c) n (ring.map (Value.int .i64))) (hne:gl≠g) (hF:F g) (mG:F gl) (tB:∀k,F k->k<W.heap.size)
  (hp:Pow n) (hn:n<=131072) (qd:fr<=n) (hl:xs.length<n) (hr:∀i v,xs[i]? =some v->ring[Z1 fr i n]? =some v):
  Que ((W.setCell ⟨gl,Z1 fr xs.length n,none⟩ (Qi x)).setCell ⟨g,3,none⟩ (Qi ((xs.length:Int)+1))) F g room (xs++[x]):=by
 have jZ:ring.length=n:=by have:=ho.1;simpa using this
 have iG:Z1 fr xs.length n<n:=Zew (by omega);have bi:=(ho.stored (Z1 fr xs.length n) (Qi x)).1
 have cW:=Za bi (((Gg (One g) _).setOne 3 (Qi ((xs.length:Int)+1)))) (fun i hi e=>by
  have e1:gl=i:=by simpa[Value.ownBlock]using hi
  have e2:i=g:=e;omega)
 refine⟨.slice (some ⟨gl,0,none⟩) n c,n,ring.set (Z1 fr xs.length n) x,fr,hF,?_,?_,?_,?_,hp,hn,qd,by simp;omega,?_⟩
 ·intro k hk;have e1:gl=k:=by simpa[Value.ownBlock]using hk
  exact⟨e1▸mG,by omega⟩
 ·intro k hk;simpa[World.setCell]using tB k hk
 ·have:=(hb.far (p:=⟨gl,Z1 fr xs.length n,none⟩) (Ne.symm hne) (Qi x)).set_ 3 (Qi ((xs.length:Int)+1))
  simpa using this
 ·rw[List.map_set];exact cW
 ·intro i v hi;rw[List.getElem?_append]at hi
  split at hi
  ·rename_i dp
   rw[List.getElem?_set_ne (Ne.symm (ZsO dp hl))];exact hr i v hi
  ·have vA:i=xs.length:=by
    have:=(List.getElem?_eq_some_iff.1 hi).1;simp at this;omega
   subst vA;simp at hi;subst hi;rw[List.getElem?_set_self (by omega)]
theorem Zq9(w:Gy)(F:Gt)(g:Nat)(room:Int)(xs:Gv)(h:Que w F g room xs):
  CE 205 #[.pointer (some ⟨g,0,none⟩)] w (Qi xs.length):=by
 obtain⟨v,n,ring,fr,h1,h2,h3,h4,h5,h6⟩:=h;have c3:=h4.cell 3;simp only[Qz,Qs]at c3;clear h2 h3 h6;go_enter Tryz.func205,Tryz.ntmps205;go_wp2;go_ret;exact⟨rfl,rfl⟩
theorem Zvj(w:Gy)(F:Gt)(g:Nat)(room:Int)(xs:Gv)(h:Que w F g room xs)(hr:0<=room)(lB:room<=65536):
  Calls Tryz.prog 173 #[.pointer (some ⟨g,0,none⟩)] w fun e w'=>e= .returned (Qi (room-xs.length))∧∃q,w'=w.drewN q:=by
 obtain⟨v,n,ring,fr,h1,h2,h3,h4,h5,h6,h7,h8,h9,_⟩:=h;have c3:=h4.cell 3;have c0:=h4.cell 0;simp only[Qz,Qs]at c3 c0;clear h2 h3 h6;go_enter Tryz.func173,Tryz.ntmps173;go_wp2
 go_quiet (fail)
 go_wp2;go_ret;exact⟨rfl,_,rfl⟩
theorem Zvk(w:Gy)(F:Gt)(g:Nat)(room:Int)(xs:Gv)(h:Que w F g room xs):
  Calls Tryz.prog 174 #[.pointer (some ⟨g,0,none⟩)] w fun e w'=>∃A c,e= .returned (.slice A xs.length c)∧Ints (fun i=>w.heap.size<=i) w' A xs∧Upd No w w':=by
 go_enter Tryz.func174,Tryz.ntmps174;go_wp2_with fail;refine(Zq9 _ F _ _ _ h).mono ?_;rintro e w' ⟨rfl,rfl⟩;go_wp2;have hlen:xs.length<=131072:=by obtain⟨v,n,ring,fr,_,_,_,_,_,_,h7,_,h9,_⟩:=h;omega
 go_loopg [3,4,7] xs.length (fun gk l j i wr=>∃k:Nat,k+gk=xs.length∧i= Qi k∧wr.ownsRow w.heap.size 3 1 l k ((xs.take k).map (Value.int .i64))∧Upd No w wr)
 case atStart=>exact⟨0,by omega,rfl,by simpa using Gf _ _ _ _,Gg _ _⟩
 case round=>
  obtain⟨k,aK,rfl,lP,j9⟩:=hrel;have ci:=j9.size
  by_cases hlt:k<xs.length
  ·obtain⟨v,n,ring,fr,h1,h2,h3,h4,h5,h6,h7,h8,h9,jW⟩:=h.upd j9 Qo;obtain⟨gl,cap,rfl,cf,dF⟩:=h5.form (by omega);have jJ:=h2 gl rfl;have hx:xs[k]? =some xs[k]:=Qg hlt;have hr:=jW k xs[k] hx;have jZ:=(List.getElem?_eq_some_iff.1 hr).1;have lZ:=h5.cells (g:=gl) rfl (Z1 fr k n) (Qi xs[k]) (by rw[List.getElem?_map,hr];rfl);have oz:=h.lt g h1;have AV:=h.lt gl jJ.1;have c1:=h4.cell 1;simp only[Qz,Qs]at c1;rcases h6 with h6|⟨kk,h6⟩
   ·omega
   have Hx:=Qh hx;have Hr:=Qh hr;have H6:=Qh h6;have e1:(⟨gl,0,none⟩:Addr).add (Z1 fr k n)=⟨gl,Z1 fr k n,none⟩:=by unfold Addr.add;split<;>simp_all
   rw[e1]at lZ;clear hx hr h6 jW h2 h3 e1;have cI:((Z1 fr k n:Nat):Int)<(n:Int):=by have:=Nat.mod_lt (fr+k) (show 0<n by omega);unfold Z1;omega
   have nF:(0:Int)<=((Z1 fr k n:Nat):Int):=Qn _;have hno:∀i,Own u3 i->w.heap.size<=i:=fun i e=>(lP.lt i e).1
   go_wp2
   go_region_held3 (fun w'=>Blk w' g 235 [Qi room,.slice (some ⟨gl,0,none⟩) n cap,.int .u64 (fr:Int),Qi xs.length]∧w'.cell? ⟨g,1,none⟩=some (.slice (some ⟨gl,0,none⟩) n cap)∧w'.cell? ⟨gl,Z1 fr k n,none⟩=some (Qi xs[k]))
    (first|exact⟨h4,c1,lZ⟩|(go_split_ands;refine⟨?_,?_,?_⟩<;>first|assumption|(apply Blk.alloc;assumption)|(apply Blk.drew;assumption)|(exact Blk.upd (by assumption) js (fun e=>by have:=hno _ e;omega))|(exact js.keep (by assumption) (fun e=>by have:=hno _ e;simp at this;omega))|go_keep)) (first|(refine ZeX (by rfl) (by rfl) ZoK (by rfl) (by rfl) (by exact lP.alloc _) rfl (by exact Zbn) (by rfl) (by omega) (by omega) (by exact(Gg No w |>.trans j9 |>.alloc _).size) ?_;intro gn capn w1 az js uK kN)|(go_at_call 175;refine(Zd8 _ g _ n cap kk _ _ fr _ (by assumption) H6.out (by omega) (by omega) (by omega) (by omega)).mono ?_;rintro e w' ⟨rfl,q,rfl⟩))
   go_wp2;go_roundg (gk-1)
   case measure=>omega
   case rel=>
    refine⟨k+1,by omega,by go_num,?_,(j9.alloc _).trans_ (js.of_drewN) (fun i hi e=>by have:=hno _ e;omega)⟩;rw[Es hlt,F4];exact az
  ·obtain rfl:k=xs.length:=by omega
   obtain⟨A,c,rfl⟩:=ZaQ lP;have hx:=Ints.of_own lP;rw[Fj]at hx;go_wp2;go_ret;exact⟨A,c,rfl,hx,j9⟩
/- Queues:a number is put in. -/
theorem Zsp(w:Gy)(F:Gt)(g:Nat)(room:Int)(xs:Gv)(x:Int)(h:Que w F g room xs)(hr:0<=room)(lB:room<=65536)(hf:(xs.length:Int)<room):
  Calls Tryz.prog 146 #[.pointer (some ⟨g,0,none⟩),Qi x] w fun e w'=>e= .returned (Qi 0)∧
   ∃F',(∀i,F' i->F i∨w.heap.size<=i)∧Que w' F' g room (xs++[x])∧Upd F w w':=by
 have hz:(room-(xs.length:Int)==0)=false:=by rw[beq_eq_false_iff_ne];omega
 go_enter Tryz.func146,Tryz.ntmps146;go_wp2_with fail;refine(Zvj _ F _ _ _ h hr lB).mono ?_;rintro e w' ⟨rfl,q,rfl⟩;obtain⟨v,n,ring,fr,h1,h2,h3,h4,h5,h6,h7,h8,h9,jW⟩:=id h;obtain⟨A,c,rfl⟩:=ZaQ h5;have c1:=h4.cell 1;have c3:=h4.cell 3;simp only[Qz,Qs]at c1 c3
 by_cases hful:xs.length=n
 ·have wJ:((xs.length:Int)==(n:Int))=true:=by rw[beq_iff_eq];omega
  have xC:=Qh hful;clear hful;go_wp2
  go_quiet (fail)
  go_wp2_with fail;refine(Zvk _ F _ _ _ (h.upd ((Gg No w).drewN _) Qo)).mono ?_;rintro e w2 ⟨A2,cc2,rfl,a7,hu2⟩;have gM:Upd No w w2:=hu2.of_drewN;have qR:=gM.size
  replace a7:Ints (fun i=>w.heap.size<=i) w2 A2 xs:=a7
  have hb2:=h4.upd gM id;obtain⟨d0,d1,d2,d3⟩:=hb2.c4;have f1:=hb2.free 1;have f2:=hb2.free 2;clear c1 c3;have hg:=Ztk xs.length;have hM:=ZrM xs.length;have nZ:=fun W=>Zlu W ZoK (z:= Qi 0) (by kernel_rfl) (grow xs.length) (by omega) (by omega)
  have Cp:=hb2.lt;have Bn:=World.new_ne w2 _ d1;have hlm:(madeCells #[Value.int .i64 0] (grow xs.length)).toList.length=grow xs.length:=by simp[madeCells]
  have lS:=Qh hlm;clear hlm;have Ed:g<w.heap.size:=h4.lt
  go_upto_region 6 with (fail)
  iterate 16 go_step
  refine ZvQ rfl rfl ZoK rfl rfl (dc:=(madeCells #[Qi 0] (grow xs.length)).toList) (sc:=xs.map (Value.int .i64)) (t:=3) (by exact Blk.new_at (by simp)) (by rw[lS.out];omega) (by simp) (by omega) (by exact((a7.upd (((Gg (One g) w2).setOne _ _).setOne _ _ |>.alloc _) (fun i hi e=>by have:i=g:=e;omega))).vals) (Ints.one_ xs) ?_;intro w3 hb3 hu3;simp only[Act.put,List.setIfInBounds_toArray,List.set_cons_succ,List.set_cons_zero];have hbx:=((((hb2.set_ 1 (.slice (some ⟨w2.heap.size,0,none⟩) (grow xs.length) (grow xs.length))).set_ 2 (.int .u64 0)).alloc (.cells (madeCells #[Qi 0] (grow xs.length)) 3)).upd hu3 (fun e=>by have:g=w2.heap.size:=e;omega));simp only[List.set_cons_zero,List.set_cons_succ]at hbx;have kx:Upd (One g) w w3:=(((((Gg (One g) w2).setOne 1 _).setOne 2 _).alloc _).trans_ hu3 (fun i hi e=>by have:i=w2.heap.size:=e;omega)) |> fun k=>(gM.mono (fun _ _ e=>e.elim)).trans k
  clear hb2 d0 d1 d2 d3 f1 f2 hu3 gM hu2 nZ hM a7 h4 h5;have c1:=hbx.cell 1;have c3:=hbx.cell 3;have f3:=hbx.free 3;simp only[Qz,Qs]at c1 c3;have xE:=h6;rw[<-xC.out]at xE;have kR:w.heap.size<=w2.heap.size:=qR;obtain⟨kk,bG⟩:=Zme xE;have nQ:=Qh bG;have cI:((Z1 0 xs.length (grow xs.length):Nat):Int)<((grow xs.length:Nat):Int):=by have:=Nat.mod_lt (0+xs.length) (show 0<grow xs.length by omega);unfold Z1;omega
  have nF:(0:Int)<=((Z1 0 xs.length (grow xs.length):Nat):Int):=Qn _;have fr3:=hb3.free (Z1 0 xs.length (grow xs.length))
  obtain⟨v0,cr⟩:∃v0,w3.cell? ⟨w2.heap.size,Z1 0 xs.length (grow xs.length),none⟩=some v0:=by
   rw[hb3.cell,Qg (by rw[Fb,Fo,F6,lS.out];omega)];exact⟨_,rfl⟩
  clear bG
  go_upto_region 7 with (fail)
  go_region_held3 (fun w'=>Blk w' g 235 [Qi room,.slice (some ⟨w2.heap.size,0,none⟩) (grow xs.length) (grow xs.length),.int .u64 0,Qi xs.length]∧w'.cell? ⟨g,1,none⟩=some (.slice (some ⟨w2.heap.size,0,none⟩) (grow xs.length) (grow xs.length))∧w'.cell? ⟨g,3,none⟩=some (Qi xs.length))
   (first|exact⟨hbx,c1,c3⟩|(go_split_ands;refine⟨?_,?_,?_⟩<;>first|assumption|(exact Blk.far (by assumption) (by simp;omega) _)|(rw[World.cell?_setCell_far _ _ _ _ (by simp;omega)];assumption)|go_keep))
   (first|(go_at_call 175;refine(Zd8 _ g _ (grow xs.length) (grow xs.length) kk _ _ 0 _ (by assumption) nQ.out (by omega) (by omega) (by omega) (by omega)).mono ?_;rintro e w' ⟨rfl,q,rfl⟩))
  go_wp2;go_ret;refine⟨rfl,fun i=>i=g∨i=w2.heap.size,?_,?_,?_⟩
  ·rintro i (rfl|rfl)
   ·exact .inl h1
   ·exact .inr kR
  ·have ho:w3.ownsRow 0 3 1 (.slice (some ⟨w2.heap.size,0,none⟩) (grow xs.length) (grow xs.length)) (grow xs.length) ((xs++List.replicate (grow xs.length-xs.length) (0:Int)).map (Value.int .i64)):=by
    refine⟨by simp;omega,.inr ⟨w2.heap.size,_,_,rfl,Nat.zero_le _,hb3,Nat.le_refl _,by simp only[maxLen];omega,?_,?_⟩⟩
    ·simp[lS.out];omega
    ·rw[ZpV,Nat.mul_one,List.take_of_length_le (by simp;omega),<-List.map_drop,List.drop_replicate,F4]
   have ug:Blk w3 g 235 [Qi room,.slice (some ⟨w2.heap.size,0,none⟩) (grow xs.length) (grow xs.length),.int .u64 ((0:Nat):Int),Qi xs.length]:=hbx
   have hq:=Zni (F:=fun i=>i=g∨i=w2.heap.size) x ug ho (by omega) (.inl rfl) (.inr rfl) (by rintro k (rfl|rfl);exact hbx.lt;exact hb3.lt) (.inr (Zme xE)) (by omega) (by omega) (by omega) (fun i v hi=>by
    have dp:=(List.getElem?_eq_some_iff.1 hi).1;have e1:Z1 0 i (grow xs.length)=i:=by unfold Z1;rw[Nat.zero_add,Nat.mod_eq_of_lt (by omega)]
    rw[e1,List.getElem?_append_left dp];exact hi)
   exact hq
  ·refine(((kx.mono (fun i _ (e:i=g)=>e▸h1)).drewN _).setCell (p:=⟨w2.heap.size,_,none⟩) (.inr kR) _).setCell (p:=⟨g,3,none⟩) (.inl h1) _
 ·have wJ:((xs.length:Int)==(n:Int))=false:=by rw[beq_eq_false_iff_ne];omega
  obtain⟨gl,cap,hv,_,dF⟩:=h5.form (by omega);simp only[Value.slice.injEq]at hv;obtain⟨rfl,_,rfl⟩:=hv;have jJ:=h2 gl rfl;have cI:((Z1 fr xs.length n:Nat):Int)<(n:Int):=by have:=Zew (fr:=fr) (i:=xs.length) (show 0<n by omega);omega
  have nF:(0:Int)<=((Z1 fr xs.length n:Nat):Int):=Qn _;have Bo:=Zew (fr:=fr) (i:=xs.length) (show 0<n by omega);have jZ:ring.length=n:=by have:=h5.1;simpa using this
  have Ee:=Qh jZ;have f3:=h4.free 3;have fr3:=h5.frozenAt (Z1 fr xs.length n);have zT:=h5.cellAt (Z1 fr xs.length n) (by omega)
  obtain⟨v0,cr⟩:∃v0,w.cell? ⟨gl,Z1 fr xs.length n,none⟩=some v0:=by
   rw[zT,Qg (by rw[F6];omega)];exact⟨_,rfl⟩
  obtain⟨kk,bG⟩:∃kk,n=2 ^ kk:=h6.resolve_left (by omega);have nQ:=Qh bG;have hbx:=h4;have hgg:=h4.lt;clear bG jZ zT;go_wp2
  go_quiet (fail)
  go_upto_region 7 with (fail)
  go_region_held3 (fun w'=>Blk w' g 235 [Qi room,.slice (some ⟨gl,0,none⟩) n c,.int .u64 (fr:Int),Qi xs.length]∧w'.cell? ⟨g,1,none⟩=some (.slice (some ⟨gl,0,none⟩) n c)∧w'.cell? ⟨g,3,none⟩=some (Qi xs.length))
   (first|exact⟨hbx,c1,c3⟩|(go_split_ands;refine⟨?_,?_,?_⟩<;>first|assumption|(exact Blk.far (by assumption) (by simp;omega) _)|(rw[World.cell?_setCell_far _ _ _ _ (by simp;omega)];assumption)|go_keep))
   (first|(go_at_call 175;refine(Zd8 _ g _ n c kk _ _ fr _ (by assumption) nQ.out (by omega) (by omega) (by omega) (by omega)).mono ?_;rintro e w' ⟨rfl,q,rfl⟩))
  go_wp2;go_ret;refine⟨rfl,F,fun i hi=> .inl hi,?_,?_⟩
  ·exact Zni x hbx h5 jJ.2 h1 jJ.1 h3 h6 h7 h8 (by omega) jW
  ·exact(((Gg F w).drewN _).setCell (p:=⟨gl,_,none⟩) (.inl jJ.1) _).setCell (p:=⟨g,3,none⟩) (.inl h1) _
/- Queues:what is first,and taken. Stacks. -/
theorem ZmO(w:Gy)(F:Gt)(g:Nat)(room:Int)(h:Que w F g room []):
  CE 176 #[.pointer (some ⟨g,0,none⟩)] w (.tuple #[Qi 0,.bool false]):=by
 go_enter Tryz.func176,Tryz.ntmps176;go_wp2_with fail;refine(Zq9 _ F _ _ _ h).mono ?_;rintro e w' ⟨rfl,rfl⟩;go_wp2;go_ret2;exact⟨rfl,rfl⟩
theorem Zuh(w:Gy)(F:Gt)(g:Nat)(room:Int)(x:Int)(xs:Gv)(h:Que w F g room (x::xs)):
  Calls Tryz.prog 176 #[.pointer (some ⟨g,0,none⟩)] w fun e w'=>e= .returned (.tuple #[Qi x,.bool true])∧∃q,w'=w.drewN q:=by
 have hz:((((x::xs).length:Nat):Int)==0)=false:=by rw[beq_eq_false_iff_ne];simp only[Fs];omega
 have aQ:(x::xs)[0]? =some x:=rfl;have Hx:=Qh aQ;clear aQ;generalize x::xs=l at*;obtain⟨v,n,ring,fr,h1,h2,h3,h4,h5,h6,h7,h8,h9,jW⟩:=id h;have iW:=(List.getElem?_eq_some_iff.1 Hx.out).1;have hr:=jW 0 x Hx.out;obtain⟨gl,cap,rfl,_,dF⟩:=h5.form (by omega);obtain⟨kk,bG⟩:∃kk,n=2 ^ kk:=h6.resolve_left (by omega);have nQ:=Qh bG;have c1:=h4.cell 1;simp only[Qz,Qs]at c1
 have cr:w.cell? ⟨gl,Z1 fr 0 n,none⟩=some (Qi x):=by
  rw[h5.cellAt _ (by have:=Zew (fr:=fr) (i:=0) (show 0<n by omega);omega),List.getElem?_map,hr];rfl
 have cI:((Z1 fr 0 n:Nat):Int)<(n:Int):=by have:=Zew (fr:=fr) (i:=0) (show 0<n by omega);omega
 have nF:(0:Int)<=((Z1 fr 0 n:Nat):Int):=Qn _;clear bG hr jW h2 h3;go_enter Tryz.func176,Tryz.ntmps176;go_wp2_with fail;refine(Zq9 _ F _ _ _ h).mono ?_;rintro e w' ⟨rfl,rfl⟩;go_wp2
 go_quiet ((go_at_call 175;go_loud (exact Calls.quiet_of (Zd8 _ g _ n cap kk _ _ fr 0 (h4.drewN _) nQ.out (by omega) (by omega) (by omega) (by omega)))))
 go_wp2;go_ret2;exact⟨rfl,_,rfl⟩
theorem Zs0{W:Gy}{F:Gt}{g gl n c fr:Nat}{room:Int}{x:Int}{xs ring:Gv}
  (hb:Blk W g 235 [Qi room,.slice (some ⟨gl,0,none⟩) n c,.int .u64 ((fr:Nat):Int),Qi (x::xs).length])
  (ho:W.ownsRow 0 3 1 (.slice (some ⟨gl,0,none⟩) n c) n (ring.map (Value.int .i64))) (hne:gl≠g) (hF:F g) (mG:F gl) (tB:∀k,F k->k<W.heap.size)
  (hp:Pow n) (hn:n<=131072) (qd:fr<=n) (hl:(x::xs).length<=n) (hr:∀i v,(x::xs)[i]? =some v->ring[Z1 fr i n]? =some v) (cnt:Int) (fS:cnt=xs.length):
  Que ((W.setCell ⟨g,2,none⟩ (.int .u64 ((Z1 fr 1 n:Nat):Int))).setCell ⟨g,3,none⟩ (Qi cnt)) F g room xs:=by
 subst fS;simp only[Fs]at hl;refine⟨.slice (some ⟨gl,0,none⟩) n c,n,ring,Z1 fr 1 n,hF,?_,?_,?_,?_,hp,hn,Nat.le_of_lt (Zew (by omega)),by omega,?_⟩
 ·intro k hk;have e1:gl=k:=by simpa[Value.ownBlock]using hk
  exact⟨e1▸mG,by omega⟩
 ·intro k hk;simpa[World.setCell]using tB k hk
 ·simpa using(hb.set_ 2 (.int .u64 ((Z1 fr 1 n:Nat):Int))).set_ 3 (Qi (xs.length:Int))
 ·exact Za ho ((((Gg (One g) _).setOne 2 _).setOne 3 _)) (fun i hi e=>by
   have e1:gl=i:=by simpa[Value.ownBlock]using hi
   have e2:i=g:=e;omega)
 ·intro i v hi;have:=hr (i+1) v (by simpa using hi);rw[<-this]
  congr 1
  unfold Z1;rw[Nat.mod_add_mod,Nat.add_assoc,Nat.add_comm 1 i]
theorem Zke(w:Gy)(F:Gt)(g:Nat)(room:Int)(h:Que w F g room []):
  CE 147 #[.pointer (some ⟨g,0,none⟩)] w (.tuple #[Qi 0,.bool false]):=by
 go_enter Tryz.func147,Tryz.ntmps147;go_wp2_with fail;refine(ZmO _ F _ _ h).mono ?_;rintro e w' ⟨rfl,rfl⟩;go_wp2;go_ret2;exact⟨rfl,rfl⟩
theorem Zuf(w:Gy)(F:Gt)(g:Nat)(room:Int)(x:Int)(xs:Gv)(h:Que w F g room (x::xs)):
  Calls Tryz.prog 147 #[.pointer (some ⟨g,0,none⟩)] w fun e w'=>e= .returned (.tuple #[Qi x,.bool true])∧Que w' F g room xs∧Upd F w w':=by
 obtain⟨v,n,ring,fr,h1,h2,h3,h4,h5,h6,h7,h8,h9,jW⟩:=id h;have hl:0<(x::xs).length:=by simp
 have aN:(x::xs).length=xs.length+1:=rfl;obtain⟨gl,cap,rfl,_,dF⟩:=h5.form (by omega);obtain⟨kk,bG⟩:∃kk,n=2 ^ kk:=h6.resolve_left (by omega);have nQ:=Qh bG;have c3:=h4.cell 3;have c2:=h4.cell 2;have f3:=h4.free 3;have f2:=h4.free 2;simp only[Qz,Qs]at c2 c3;have fS:=Qh (show(((x::xs).length:Nat):Int)-1=xs.length by rw[aN];omega);have hb1:1<=(((x::xs).length:Nat):Int):=by omega
 have hb2:(((x::xs).length:Nat):Int)<=131072:=by omega
 clear bG hl aN;generalize hxl:(((x::xs).length:Nat):Int)=L at c3 fS hb1 hb2;have El:=Qh hxl;clear hxl;go_enter Tryz.func147,Tryz.ntmps147;go_wp2_with fail;refine(Zuh _ F _ _ _ _ h).mono ?_;rintro e w' ⟨rfl,q,rfl⟩;go_wp2_with fail;refine(Zd8 _ g _ n cap kk _ _ fr 1 (h4.drewN _) nQ.out (by omega) (by omega) (by omega) (by omega)).mono ?_;rintro e w' ⟨rfl,q2,rfl⟩;go_wp2;go_ret2;refine⟨rfl,?_,?_⟩
 ·exact Zs0 h4 h5 (h2 gl rfl).2 h1 (h2 gl rfl).1 h3 h6 h7 h8 h9 jW _ fS.out
 ·exact(((Gg F w).drewN _).setCell (p:=⟨g,2,none⟩) (.inl h1) _).setCell (p:=⟨g,3,none⟩) (.inl h1) _
def ZcU(n:Int):Int:=max 0 (min n 65536)
theorem ZnT(k:IntKind){a b:Int}(h:a=b):Ending.returned (.int k a)=Ending.returned (.int k b):=by rw[h]
theorem ZnH(w:Gy)(n:Int):CE 172 #[Qi n] w (Qi (ZcU n)):=by
 by_cases h1:n<0
 ·go_enter Tryz.func172,Tryz.ntmps172;go_wp2;go_ret;exact⟨ZnT _ (by unfold ZcU;omega),rfl⟩
 ·by_cases h2:65536<n
  ·go_enter Tryz.func172,Tryz.ntmps172;go_wp2;go_ret;exact⟨ZnT _ (by unfold ZcU;omega),rfl⟩
  ·go_enter Tryz.func172,Tryz.ntmps172;go_wp2;go_ret;exact⟨ZnT _ (by unfold ZcU;omega),rfl⟩
theorem Zug(w:Gy)(n:Int):Calls Tryz.prog 144 #[Qi n] w fun e w'=>∃g,e= .returned (.pointer (some ⟨g,0,none⟩))∧w.heap.size<=g∧Que w' (One g) g (ZcU n) []∧Upd No w w':=by
 go_enter Tryz.func144,Tryz.ntmps144;go_wp2_with fail;refine(ZnH _ _).mono ?_;rintro e w' ⟨rfl,rfl⟩;go_wp2;go_ret;refine⟨_,rfl,Nat.le_refl _,⟨.slice none 0 0,0,[],0,rfl,?_,?_,Gh _ _ _,by simpa using Gf _ _ _ _,.inl rfl,by omega,by omega,by simp,by simp⟩,(Gg _ _).alloc _⟩
 ·intro k hk;simp[Value.ownBlock]at hk
 ·intro k hk;have:k=w.heap.size:=hk;simp;omega
/- Rows of places that are set or not (bitrow):words of 64 places. -/
def WOk(N:Nat)(S:Nat->Bool)(ws:Gr):Prop:=ws.length=(N+63)/64∧(∀x∈ws,x<18446744073709551616)∧∀i,i<N->(ws.getD (i/64) 0).testBit (i%64)=S i
theorem WOk.at_{N:Nat}{S:Nat->Bool}{ws:Gr}(h:WOk N S ws){i:Nat}(hi:i<N):∃x,ws[i/64]? =some x∧x<18446744073709551616∧x.testBit (i%64)=S i:=by
 obtain⟨h1,h2,h3⟩:=h;have hl:i/64<ws.length:=by omega
 refine⟨ws[i/64],Qg hl,h2 _ (Fr hl),?_⟩;have:=h3 i hi
 rwa [List.getD_eq_getElem?_getD,Qg hl,Option.getD_some]at this
abbrev Gq:=List HOrd
abbrev Gs:=List Ver
abbrev Gu:=List HOp
