/- Edges: how lists of them lie in memory; when two are one. -/
import Derived.Test.YtonblekdfinpkaaGreatProg
import Derived.Laws.StructEq
import Derived.IntWalk
import Derived.Test.YtonblekdfinpkaaGreatWqai
namespace Go.Proofs.YtonblekdfinpkaaGreat
set_option linter.unusedVariables false
set_option linter.unusedSimpArgs false
section
open Go.RowKit
structure Edge where
 f:Int
 t:Int
 k:Int
 key:Int
deriving DecidableEq
def Edge.cells (e:Edge):List Value:=[.int .i64 e.f,.int .i64 e.t,.int .i64 e.k,.int .i64 e.key]
def Walk (F:Nat→Prop) (w:World) (A:Option Addr) (l:List Edge):Prop:=Recs F w A 4 (l.map Edge.cells)
theorem Zav {l:List Edge}:∀r∈l.map Edge.cells,r.length=4:=fun r hr=>by
 obtain⟨e,_,rfl⟩:=List.mem_map.1 hr;rfl
theorem Zf5 {l:List Edge}:∀v∈(l.map Edge.cells).flatten,v.oneCell'=true:=fun v hv=>by
 obtain⟨r,hr,h⟩:=List.mem_flatten.1 hv;obtain⟨e,_,rfl⟩:=List.mem_map.1 hr;simp only[Edge.cells,List.mem_cons,List.not_mem_nil,or_false]at h;rcases h with rfl|rfl|rfl|rfl<;>rfl
theorem ZaW:SlT Tryz.prog 22 26 4 32:=SlT.mk_ Tryz.underlying22 (z:= .agg #[.int .i64 0,.int .i64 0,.int .i64 0,.int .i64 0]) (by kernel_rfl) rfl (by omega)
theorem ZmA (w:World) (a b c d a' b' c' d':Int):
  (Op.equalIn 10000 26 (.agg #[.int .i64 a,.int .i64 b,.int .i64 c,.int .i64 d]) (.agg #[.int .i64 a',.int .i64 b',.int .i64 c',.int .i64 d'])).run Tryz.prog w= .ok (decide ((⟨a,b,c,d⟩:Edge)=⟨a',b',c',d'⟩)) w:=by
 rw[run_equalIn_struct w _ _ _ _ (by kernel_rfl) (by kernel_rfl)];have hI:∀(w:World) (d:Nat) (x y:Int),(Op.equalIn (d+1) 3 (.int .i64 x) (.int .i64 y)).run Tryz.prog w= .ok (x==y) w:=fun w d x y=>run_equalIn_int w d _ _ _ x y Tryz.underlying3
 by_cases h1:a=a'<;>by_cases h2:b=b'<;>by_cases h3:c=c'<;>by_cases h4:d=d'<;>
  simp[Program.fieldsOf,Tryz.underlying26,Op.eqFields,part,hI,h1,h2,h3,h4,Result.andThen]
theorem Zho (w:World) (x y:Edge):(binOp .neq 26 (.agg #[.int .i64 x.f,.int .i64 x.t,.int .i64 x.k,.int .i64 x.key]) (.agg #[.int .i64 y.f,.int .i64 y.t,.int .i64 y.k,.int .i64 y.key])).run Tryz.prog w= .ok (.bool (x != y)) w:=by
 obtain⟨a,b,c,d⟩:=x;obtain⟨a',b',c',d'⟩:=y;rw[run_neq_struct,ZmA];simp only[Result.andThen]
 by_cases h:(⟨a,b,c,d⟩:Edge)=⟨a',b',c',d'⟩<;>simp[h]
theorem Walk.at_ {F:Nat→Prop} {w:World} {A:Option Addr} {l:List Edge} (h:Walk F w A l) {k:Nat} (hk:k<l.length):∃ad,A=some ad∧
  w.cell? (ad.add (k*4))=some (.int .i64 l[k].f)∧w.cell? ⟨(ad.add (k*4)).block,(ad.add (k*4)).off+1,none⟩=some (.int .i64 l[k].t)∧
  w.cell? ⟨(ad.add (k*4)).block,(ad.add (k*4)).off+2,none⟩=some (.int .i64 l[k].k)∧w.cell? ⟨(ad.add (k*4)).block,(ad.add (k*4)).off+3,none⟩=some (.int .i64 l[k].key):=by
 have hk':k<(l.map Edge.cells).length:=by simpa using hk
 obtain⟨ad,e,_,_,hc⟩:=Recs.at_ h hk';rw[List.getElem_map]at hc;exact⟨ad,e,by simpa using hc 0 _ rfl,by simpa using hc 1 _ rfl,by simpa using hc 2 _ rfl,by simpa using hc 3 _ rfl⟩
theorem Walk.upd {F S:Nat→Prop} {w w':World} {A:Option Addr} {l:List Edge} (h:Walk F w A l) (k:Upd S w w') (hn:∀i,F i→¬S i):Walk F w' A l:=Recs.upd h k hn
end
/- Walks of edges:whether they are closed,and simple;by the program and by the document. -/
section
open Go.RowKit
def okC (l:List Edge) (i:Nat):Bool:=(l[i]?.map (·.t))==(l[(i+1)%l.length]?.map (·.f))
def ZbL (l:List Edge):Bool:=decide (0<l.length)&&(List.range l.length).all (okC l)
theorem Zop {l:List Edge} {k m:Nat} {e f:Edge} (hk:l[k]? =some e) (hm:(k+1)%l.length=m) (hf:l[m]? =some f):okC l k=(e.t==f.f):=by
 unfold okC;rw[hk,hm,hf];simp
end
/- Histories:how operations,transactions,orders and histories lie in memory. -/
section
open Go.RowKit
def i64 (n:Int):Prop:= -9223372036854775808≤n∧n≤9223372036854775807
structure HOp where
 read:Bool
 key:Int
 tx:Int
 nth:Int
deriving DecidableEq
def HOp.cells (o:HOp):List Value:=[.bool o.read,.int .i64 o.key,.int .i64 o.tx,.int .i64 o.nth]
def HOp.ok (o:HOp):Prop:=i64 o.key∧i64 o.tx∧i64 o.nth
structure Ver where
 tx:Int
 key:Int
 nth:Int
deriving DecidableEq
def Ver.cells (v:Ver):List Value:=[.int .i64 v.tx,.int .i64 v.key,.int .i64 v.nth]
def HOps (F:Nat→Prop) (w:World) (A:Option Addr) (l:List HOp):Prop:=Recs F w A 4 (l.map HOp.cells)
structure HTx where
 id:Int
 done:Bool
 ops:List HOp
 A:Option Addr
 c:Nat
def HTx.cells (t:HTx):List Value:=[.int .i64 t.id,.bool t.done,.slice t.A t.ops.length t.c]
def ZM (n:Nat):Prop:=n≤4398046511103
def HTx.lies (F:Nat→Prop) (w:World) (t:HTx):Prop:=HOps F w t.A t.ops∧t.ops.length≤t.c∧ZM t.ops.length∧i64 t.id∧∀o∈t.ops,o.ok
structure HOrd where
 key:Int
 txs:List Int
 A:Option Addr
 c:Nat
def HOrd.cells (o:HOrd):List Value:=[.int .i64 o.key,.slice o.A o.txs.length o.c]
def HOrd.lies (F:Nat→Prop) (w:World) (o:HOrd):Prop:=Ints F w o.A o.txs∧o.txs.length≤o.c∧o.txs.length≤17592186044415∧i64 o.key∧∀n∈o.txs,i64 n
structure Hist where
 txs:List HTx
 ords:List HOrd
 A:Option Addr
 c:Nat
 B:Option Addr
 d:Nat
def Hist.val (h:Hist):Value:= .agg #[.slice h.A h.txs.length h.c,.slice h.B h.ords.length h.d]
def Hist.cells (h:Hist):List Value:=[.slice h.A h.txs.length h.c,.slice h.B h.ords.length h.d]
structure Hist.lies (F:Nat→Prop) (w:World) (h:Hist):Prop where
 txs:Recs F w h.A 3 (h.txs.map HTx.cells)
 ords:Recs F w h.B 2 (h.ords.map HOrd.cells)
 tx:∀t∈h.txs,t.lies F w
 ord:∀o∈h.ords,o.lies F w
 c:h.txs.length≤h.c
 d:h.ords.length≤h.d
 few:h.txs.length≤4398046511103
 fewo:h.ords.length≤4398046511103
section
variable {F S:Nat→Prop} {w w':World}
theorem HOps.upd {A:Option Addr} {l:List HOp} (h:HOps F w A l) (k:Upd S w w') (hn:∀i,F i→¬S i):HOps F w' A l:=Recs.upd h k hn
theorem HTx.lies.upd {t:HTx} (h:t.lies F w) (k:Upd S w w') (hn:∀i,F i→¬S i):t.lies F w':=⟨HOps.upd h.1 k hn,h.2⟩
theorem HOrd.lies.upd {o:HOrd} (h:o.lies F w) (k:Upd S w w') (hn:∀i,F i→¬S i):o.lies F w':=⟨h.1.upd k hn,h.2⟩
theorem Hist.lies.upd {h:Hist} (H:h.lies F w) (k:Upd S w w') (hn:∀i,F i→¬S i):h.lies F w':=
 ⟨Recs.upd H.txs k hn,Recs.upd H.ords k hn,fun t ht=>(H.tx t ht).upd k hn,fun o ho=>(H.ord o ho).upd k hn,H.c,H.d,H.few,H.fewo⟩
theorem HOps.at_ {A:Option Addr} {l:List HOp} (h:HOps F w A l) {k:Nat} (hk:k<l.length):∃ad,A=some ad∧
  w.cell? (ad.add (k*4))=some (.bool l[k].read)∧w.cell? ⟨(ad.add (k*4)).block,(ad.add (k*4)).off+1,none⟩=some (.int .i64 l[k].key)∧
  w.cell? ⟨(ad.add (k*4)).block,(ad.add (k*4)).off+2,none⟩=some (.int .i64 l[k].tx)∧w.cell? ⟨(ad.add (k*4)).block,(ad.add (k*4)).off+3,none⟩=some (.int .i64 l[k].nth):=by
 have hk':k<(l.map HOp.cells).length:=by simpa using hk
 obtain⟨ad,e,_,_,hc⟩:=Recs.at_ h hk';rw[List.getElem_map]at hc;exact⟨ad,e,by simpa using hc 0 _ rfl,by simpa using hc 1 _ rfl,by simpa using hc 2 _ rfl,by simpa using hc 3 _ rfl⟩
theorem Hist.lies.tx_at {h:Hist} (H:h.lies F w) {k:Nat} (hk:k<h.txs.length):∃ad,h.A=some ad∧
  w.cell? (ad.add (k*3))=some (.int .i64 h.txs[k].id)∧w.cell? ⟨(ad.add (k*3)).block,(ad.add (k*3)).off+1,none⟩=some (.bool h.txs[k].done)∧
  w.cell? ⟨(ad.add (k*3)).block,(ad.add (k*3)).off+2,none⟩=some (.slice h.txs[k].A h.txs[k].ops.length h.txs[k].c):=by
 have hk':k<(h.txs.map HTx.cells).length:=by simpa using hk
 obtain⟨ad,e,_,_,hc⟩:=Recs.at_ H.txs hk';rw[List.getElem_map]at hc;exact⟨ad,e,by simpa using hc 0 _ rfl,by simpa using hc 1 _ rfl,by simpa using hc 2 _ rfl⟩
theorem Hist.lies.ord_at {h:Hist} (H:h.lies F w) {k:Nat} (hk:k<h.ords.length):∃ad,h.B=some ad∧
  w.cell? (ad.add (k*2))=some (.int .i64 h.ords[k].key)∧w.cell? ⟨(ad.add (k*2)).block,(ad.add (k*2)).off+1,none⟩=some (.slice h.ords[k].A h.ords[k].txs.length h.ords[k].c):=by
 have hk':k<(h.ords.map HOrd.cells).length:=by simpa using hk
 obtain⟨ad,e,_,_,hc⟩:=Recs.at_ H.ords hk';rw[List.getElem_map]at hc;exact⟨ad,e,by simpa using hc 0 _ rfl,by simpa using hc 1 _ rfl⟩
end
def Zaf (o:HOp):Ver:=if o.read then ⟨o.tx,o.key,o.nth⟩ else ⟨0,0,0⟩
def idB (n:Int):Bool:=decide (1≤n)&&decide (n≤1048575)
def Zbo (v:Ver):Bool:=idB v.key&&((v.tx==0&&v.nth==0)||(idB v.tx&&decide (1≤v.nth)&&decide (v.nth≤4095)))
def opB (o:HOp):Bool:=if o.read then Zbo (Zaf o) else idB o.key&&o.tx==0&&o.nth==0
end
/- Operations and versions:which are right,by the program and by the document. -/
section
open Go.RowKit
def Znj (b:Bool):Int:=if b then 0 else 1
theorem pid (w:World) (n:Int):Calls Tryz.prog 247 #[.int .i64 n] w fun e w'=>e= .returned (.bool (idB n))∧w=w':=by
 unfold idB
 by_cases h1:1≤n
 ·by_cases h2:n≤1048575
  ·go_enter Tryz.func247,Tryz.ntmps247
   go_wp2
   go_ret
   exact⟨by rw[decide_eq_true h1,decide_eq_true h2];rfl,rfl⟩
  ·go_enter Tryz.func247,Tryz.ntmps247
   go_wp2
   go_ret
   exact⟨by rw[decide_eq_false (show¬n≤1048575 by omega)];rfl,rfl⟩
 ·go_enter Tryz.func247,Tryz.ntmps247
  go_wp2
  go_ret
  exact⟨by rw[decide_eq_false (show¬1≤n by omega),Bool.false_and];rfl,rfl⟩
theorem ZeB {w:World} {n:Int} {b:Bool} (h:idB n=b):Calls Tryz.prog 247 #[.int .i64 n] w fun e w'=>e= .returned (.bool b)∧w=w':=by subst h;exact pid w n
def ZqJ (w:World) (b:Bool) (e:Ending) (w':World):Prop:=∃x,e= .returned (.tuple #[.int .u64 x,.int .i64 (Znj b)])∧Upd No w w'
theorem ZeY {b:Bool} (h:¬b=true):b=false:=by simpa using h
set_option maxRecDepth 100000 in
set_option maxHeartbeats 1000000 in
theorem Zt2 (w:World) (v:Ver):Calls Tryz.prog 210 #[.agg v.cells.toArray] w (ZqJ w (Zbo v)):=by
 unfold Ver.cells;have i0:idB 0=false:=by decide
 by_cases ht:v.tx=0
 ·by_cases hn:v.nth=0
  ·by_cases hk:idB v.key=true
   ·have hv:=Qh (show Zbo v=true by unfold Zbo;rw[hk,ht,hn];rfl);rw[ht,hn];clear ht hn i0;have Hk:=Qh hk;clear hk
    go_enter Tryz.func210,Tryz.ntmps210
    go_wp2_with fail
    refine(ZeB Hk.out).mono ?_;rintro e w1 ⟨rfl,rfl⟩;go_wp2
    go_ret2
    exact⟨_,by rw[hv.out];rfl,(Upd.refl _ _).alloc _⟩
   ·have hv:=Qh (show Zbo v=false by unfold Zbo;rw[ZeY hk];rfl);rw[ht,hn];clear ht hn i0;have Hk:=Qh (ZeY hk);clear hk
    go_enter Tryz.func210,Tryz.ntmps210
    go_wp2_with fail
    refine(ZeB Hk.out).mono ?_;rintro e w1 ⟨rfl,rfl⟩;go_wp2
    go_ret2
    exact⟨_,by rw[hv.out];rfl,(Upd.refl _ _).alloc _⟩
  ·have hv:=Qh (show Zbo v=false by
    have:(v.nth==0)=false:=by simpa using hn
    unfold Zbo;rw[ht,this,i0];simp)
   rw[ht];clear ht;have Hi:=Qh i0;clear i0;have hnb:(v.nth==0)=false:=by simpa using hn
   have Hn:=Qh hn;clear hn
   go_enter Tryz.func210,Tryz.ntmps210
   go_wp2_with fail
   refine(ZeB Hi.out).mono ?_;rintro e w1 ⟨rfl,rfl⟩;go_wp2
   go_ret2
   exact⟨_,by rw[hv.out];rfl,(Upd.refl _ _).alloc _⟩
 ·have htb:(v.tx==0)=false:=by simpa using ht
  have Ht:=Qh ht;clear ht i0
  by_cases hi:idB v.tx=true
  ·have Hi:=Qh hi;clear hi
   by_cases h1:v.nth<1
   ·have hv:=Qh (show Zbo v=false by
     unfold Zbo;rw[htb,Hi.out,decide_eq_false (show¬1≤v.nth by omega)];simp)
    go_enter Tryz.func210,Tryz.ntmps210
    go_wp2_with fail
    refine(ZeB Hi.out).mono ?_;rintro e w1 ⟨rfl,rfl⟩;go_wp2
    go_ret2
    exact⟨_,by rw[hv.out];rfl,(Upd.refl _ _).alloc _⟩
   ·by_cases h2:4095<v.nth
    ·have hv:=Qh (show Zbo v=false by
      unfold Zbo;rw[htb,Hi.out,decide_eq_false (show¬v.nth≤4095 by omega)];simp)
     go_enter Tryz.func210,Tryz.ntmps210
     go_wp2_with fail
     refine(ZeB Hi.out).mono ?_;rintro e w1 ⟨rfl,rfl⟩;go_wp2
     go_ret2
     exact⟨_,by rw[hv.out];rfl,(Upd.refl _ _).alloc _⟩
    ·by_cases hk:idB v.key=true
     ·have hv:=Qh (show Zbo v=true by
       unfold Zbo;rw[htb,Hi.out,hk,decide_eq_true (show v.nth≤4095 by omega),decide_eq_true (show 1≤v.nth by omega)];rfl)
      have Hk:=Qh hk;clear hk
      go_enter Tryz.func210,Tryz.ntmps210
      go_wp2_with fail
      refine(ZeB Hi.out).mono ?_;rintro e w1 ⟨rfl,rfl⟩
      go_wp2_with fail
      refine(ZeB Hk.out).mono ?_;rintro e w1 ⟨rfl,rfl⟩;go_wp2
      go_ret2
      exact⟨_,by rw[hv.out];rfl,(Upd.refl _ _).alloc _⟩
     ·have hv:=Qh (show Zbo v=false by unfold Zbo;rw[ZeY hk];rfl);have Hk:=Qh (ZeY hk);clear hk
      go_enter Tryz.func210,Tryz.ntmps210
      go_wp2_with fail
      refine(ZeB Hi.out).mono ?_;rintro e w1 ⟨rfl,rfl⟩
      go_wp2_with fail
      refine(ZeB Hk.out).mono ?_;rintro e w1 ⟨rfl,rfl⟩;go_wp2
      go_ret2
      exact⟨_,by rw[hv.out];rfl,(Upd.refl _ _).alloc _⟩
  ·have hv:=Qh (show Zbo v=false by unfold Zbo;rw[htb,ZeY hi];simp);have Hi:=Qh (ZeY hi);clear hi
   go_enter Tryz.func210,Tryz.ntmps210
   go_wp2_with fail
   refine(ZeB Hi.out).mono ?_;rintro e w1 ⟨rfl,rfl⟩;go_wp2
   go_ret2
   exact⟨_,by rw[hv.out];rfl,(Upd.refl _ _).alloc _⟩
end
/- Operations:the version that they read,whether they are right. -/
section
open Go.RowKit
theorem ZsB (w:World) (x y:HOp):(Op.equalIn 10000 82 (.agg x.cells.toArray) (.agg y.cells.toArray)).run Tryz.prog w= .ok (decide (x=y)) w:=by
 obtain⟨a,b,c,d⟩:=x;obtain⟨a',b',c',d'⟩:=y;unfold HOp.cells;rw[run_equalIn_struct w _ _ _ _ (by kernel_rfl) (by kernel_rfl)];have hI:∀(w:World) (d:Nat) (x y:Int),(Op.equalIn (d+1) 3 (.int .i64 x) (.int .i64 y)).run Tryz.prog w= .ok (x==y) w:=fun w d x y=>run_equalIn_int w d _ _ _ x y Tryz.underlying3
 have hB:∀(w:World) (d:Nat) (x y:Bool),(Op.equalIn (d+1) 4 (.bool x) (.bool y)).run Tryz.prog w= .ok (x==y) w:=fun w d x y=>run_equalIn_bool w d _ x y Tryz.underlying4
 by_cases h1:a=a'<;>by_cases h2:b=b'<;>by_cases h3:c=c'<;>by_cases h4:d=d'<;>
  simp[Program.fieldsOf,Tryz.underlying82,Op.eqFields,part,hI,hB,h1,h2,h3,h4,Result.andThen]
theorem ZrI (w:World) (x y:HOp):(binOp .neq 82 (.agg #[.bool x.read,.int .i64 x.key,.int .i64 x.tx,.int .i64 x.nth]) (.agg #[.bool y.read,.int .i64 y.key,.int .i64 y.tx,.int .i64 y.nth])).run Tryz.prog w= .ok (.bool (x != y)) w:=by
 rw[run_neq_struct];have:=ZsB w x y;unfold HOp.cells at this;rw[this];simp only[Result.andThen]
 by_cases h:x=y<;>simp[h]
theorem oof (w:World) (o:HOp):Calls Tryz.prog 134 #[.agg o.cells.toArray] w fun e w'=>e= .returned (.agg (Zaf o).cells.toArray)∧Upd No w w':=by
 obtain⟨r,k,t,n⟩:=o
 cases r
 ·unfold HOp.cells
  go_enter Tryz.func134,Tryz.ntmps134
  go_wp2;exact bodyPost_ret (v:= .agg #[.int .i64 0,.int .i64 0,.int .i64 0]) (by simp[results,Tryz.results134,go_sem]) rfl ⟨rfl,((Upd.refl _ _).alloc _).alloc _⟩
 ·unfold HOp.cells
  go_enter Tryz.func134,Tryz.ntmps134
  go_wp2;exact bodyPost_ret (v:= .agg #[.int .i64 t,.int .i64 k,.int .i64 n]) (by simp[results,Tryz.results134,go_sem]) rfl ⟨rfl,((Upd.refl _ _).alloc _).alloc _⟩
theorem Zom (w:World) (o:HOp):Calls Tryz.prog 164 #[.agg o.cells.toArray] w fun e w'=>e= .returned (.int .i64 (Znj (opB o)))∧Upd No w w':=by
 obtain⟨r,k,t,n⟩:=o
 cases r
 ·have hN:=ZrI;unfold HOp.cells
  by_cases hz:(⟨false,k,t,n⟩:HOp)=⟨false,k,0,0⟩
  ·have hzb:((⟨false,k,t,n⟩:HOp) != ⟨false,k,0,0⟩)=false:=by rw[hz];simp
   have h0:t=0∧n=0:=by injection hz with _ _ h3 h4;exact⟨h3,h4⟩
   by_cases h1:k<1
   ·have hv:=Qh (show opB ⟨false,k,t,n⟩=false by unfold opB idB;rw[decide_eq_false (show¬1≤k by omega)];rfl);clear hz h0;have qn:=fun w=>(hN w ⟨false,k,t,n⟩ ⟨false,k,0,0⟩).trans (by rw[hzb])
    clear hN hzb
    go_enter Tryz.func164,Tryz.ntmps164
    go_wp2
    go_ret
    exact⟨by rw[hv.out];rfl,(Upd.refl _ _).alloc _⟩
   ·by_cases h2:1048575<k
    ·have hv:=Qh (show opB ⟨false,k,t,n⟩=false by unfold opB idB;rw[decide_eq_false (show¬k≤1048575 by omega)];simp);clear hz h0;have qn:=fun w=>(hN w ⟨false,k,t,n⟩ ⟨false,k,0,0⟩).trans (by rw[hzb])
     clear hN hzb
     go_enter Tryz.func164,Tryz.ntmps164
     go_wp2
     go_ret
     exact⟨by rw[hv.out];rfl,(Upd.refl _ _).alloc _⟩
    ·have hv:=Qh (show opB ⟨false,k,t,n⟩=true by unfold opB idB;rw[decide_eq_true (show k≤1048575 by omega),decide_eq_true (show 1≤k by omega),h0.1,h0.2];rfl);clear hz h0;have qn:=fun w=>(hN w ⟨false,k,t,n⟩ ⟨false,k,0,0⟩).trans (by rw[hzb])
     clear hN hzb
     go_enter Tryz.func164,Tryz.ntmps164
     go_wp2
     go_ret
     exact⟨by rw[hv.out];rfl,(Upd.refl _ _).alloc _⟩
  ·have hzb:((⟨false,k,t,n⟩:HOp) != ⟨false,k,0,0⟩)=true:=by simpa using hz
   have hv:=Qh (show opB ⟨false,k,t,n⟩=false by
    unfold opB
    by_cases h3:t=0
    ·by_cases h4:n=0
     ·exact absurd (by rw[h3,h4]) hz
     ·simp[h4]
    ·simp[h3])
   clear hz;have qn:=fun w=>(hN w ⟨false,k,t,n⟩ ⟨false,k,0,0⟩).trans (by rw[hzb])
   clear hN hzb
   go_enter Tryz.func164,Tryz.ntmps164
   go_wp2
   go_ret
   exact⟨by rw[hv.out];rfl,(Upd.refl _ _).alloc _⟩
 ·have hv:=Qh (show opB ⟨true,k,t,n⟩=Zbo ⟨t,k,n⟩ from rfl);unfold HOp.cells
  go_enter Tryz.func164,Tryz.ntmps164
  go_wp2_with fail
  refine(oof _ ⟨true,k,t,n⟩).mono ?_;rintro e w1 ⟨rfl,hu1⟩
  go_wp2_with fail
  refine(Zt2 _ ⟨t,k,n⟩).mono ?_;rintro e w2 ⟨x,rfl,hu2⟩;go_wp2
  go_ret
  exact⟨by rw[hv.out];rfl,(((Upd.refl _ _).alloc _).trans hu1).trans hu2⟩
end
/- How many writes of a key there are;whether a history is light. -/
section
open Go.RowKit
def isW (key:Int) (o:HOp):Bool:= !o.read&&o.key==key
def wrN (l:List HOp) (key:Int) (k:Nat):Nat:=((l.take k).filter (isW key)).length
def Zai (l:List HOp) (key:Int):Nat:=wrN l key l.length
theorem Zko {l:List HOp} {key:Int} {k:Nat} (hk:k<l.length):wrN l key (k+1)=wrN l key k+if isW key l[k]=true then 1 else 0:=by
 unfold wrN;rw[List.take_succ_eq_append_getElem hk,List.filter_append,List.length_append]
 by_cases h:isW key l[k]=true
 ·rw[if_pos h,List.filter_cons_of_pos h];rfl
 ·rw[if_neg h,List.filter_cons_of_neg h];rfl
theorem Zl3 {l:List HOp} {key:Int} {k:Nat} {x:HOp} (hk:k<l.length) (hx:l[k]=x) (h:isW key x=true):wrN l key (k+1)=wrN l key k+1:=by
 subst hx;rw[Zko hk,if_pos h]
theorem Zhy {l:List HOp} {key:Int} {k:Nat} {x:HOp} (hk:k<l.length) (hx:l[k]=x) (h:isW key x=false):wrN l key (k+1)=wrN l key k:=by
 subst hx;rw[Zko hk,if_neg (by rw[h];decide),Nat.add_zero]
theorem ZnO (l:List HOp) (key:Int) (k:Nat):wrN l key k≤k:=by
 unfold wrN;have h1:=List.length_filter_le (isW key) (l.take k);have h2:=List.length_take_le k l;omega
set_option maxRecDepth 100000 in
theorem ZiN (F:Nat→Prop) (w:World) (i0:Int) (dn:Bool) (A:Option Addr) (c:Nat) (l:List HOp) (key:Int) (h:HOps F w A l) (hl:ZM l.length):
  Calls Tryz.prog 135 #[.agg #[.int .i64 i0,.bool dn,.slice A l.length c],.int .i64 key] w fun e w'=>e= .returned (.int .i64 ((Zai l key:Nat):Int))∧Upd No w w':=by
 unfold ZM at hl
 go_enter Tryz.func135,Tryz.ntmps135
 go_wp2
 go_loopg [5,11] l.length (fun gk n i wr=>∃k:Nat,k+gk=l.length∧i= .int .i64 k∧n= .int .i64 ((wrN l key k:Nat):Int)∧Upd No w wr)
 case atStart=>exact⟨0,by omega,rfl,rfl,(Upd.refl _ _).alloc _⟩
 case round=>
  obtain⟨k,hgk,rfl,rfl,hu⟩:=hrel
  by_cases hlt:k<l.length
  ·obtain⟨ad,hAd,c0,c1,c2,c3⟩:=(h.upd hu (fun _ _=>id)).at_ hlt;obtain⟨x,hx⟩:∃x,l[k]=x:=⟨_,rfl⟩;rw[hx]at c0 c1 c2 c3;have hw:=ZnO l key k;obtain⟨r,ky,tx,nt⟩:=x;have X:=Qh hx;clear hx;subst hAd
   cases r
   ·by_cases hk:ky=key
    ·have hkb:(ky==key)=true:=by simpa using hk
     have HS:=Qh (Zl3 (key:=key) hlt X.out (by unfold isW;rw[hkb];rfl));clear hk;go_wp2
     go_roundg (gk-1)
     case measure=>omega
     case rel=>exact⟨k+1,by omega,by go_num,by rw[HS.out];go_num,hu.alloc _⟩
    ·have hkb:(ky==key)=false:=by simpa using hk
     have HS:=Qh (Zhy (key:=key) hlt X.out (by unfold isW;rw[hkb];rfl));clear hk;go_wp2
     go_roundg (gk-1)
     case measure=>omega
     case rel=>exact⟨k+1,by omega,by go_num,by rw[HS.out],hu.alloc _⟩
   ·have HS:=Qh (Zhy (key:=key) hlt X.out rfl);go_wp2
    go_roundg (gk-1)
    case measure=>omega
    case rel=>exact⟨k+1,by omega,by go_num,by rw[HS.out],hu.alloc _⟩
  ·obtain rfl:k=l.length:=by omega
   go_wp2
   go_ret
   exact⟨rfl,hu⟩
def Zci (h:Hist):Bool:=decide (h.txs.length≤12)&&decide (h.ords.length≤24)&&h.txs.all (fun t=>decide (t.ops.length≤24))&&h.ords.all (fun o=>decide (o.txs.length≤24))
end
/- The document's own small walks over numbers:where one stands,how often,put among rising ones. -/
section
open Go.RowKit
def Zdt (x:Int):List Int→Nat→Int
 |[],_=> -1
 |y::l,k=>if y=x then k else Zdt x l (k+1)
theorem ZjK (x y:Int) (l:List Int) (k:Nat):Zdt x (y::l) k=if y=x then (k:Int) else Zdt x l (k+1):=rfl
set_option maxRecDepth 100000 in
theorem ZhH (F:Nat→Prop) (w:World) (A:Option Addr) (c:Nat) (l:List Int) (x:Int) (h:Ints F w A l) (hl:l.length≤17592186044415):
  Calls Tryz.prog 13 #[.slice A l.length c,.int .i64 x] w fun e w'=>e= .returned (.int .i64 (Zdt x l 0))∧Upd No w w':=by
 go_enter Tryz.func13,Tryz.ntmps13
 go_wp2
 go_loopg [9] l.length (fun gk i wr=>∃k:Nat,k+gk=l.length∧i= .int .i64 k∧Hid (Zdt x (l.drop k) k=Zdt x l 0)∧Upd No w wr)
 case atStart=>exact⟨0,by omega,rfl,Qh rfl,Upd.refl _ _⟩
 case round=>
  obtain⟨k,hgk,rfl,hs,hu⟩:=hrel
  by_cases hlt:k<l.length
  ·obtain⟨ad,hA,_,_,hc⟩:=(h.upd hu (fun _ _=>id)).at_ hlt;obtain⟨y,hy⟩:∃y,l[k]=y:=⟨_,rfl⟩;rw[hy]at hc;subst hA;have X:=Qh (show l.drop k=y::l.drop (k+1) by rw[←hy];exact List.drop_eq_getElem_cons hlt);clear hy;have b1:(0:Int)≤(k:Int):=Qn _;have b2:(k:Int)<(l.length:Int):=by omega
   by_cases he:y=x
   ·have HV:=Qh (show Zdt x l 0=(k:Int) by rw[←hs.out,X.out,ZjK,if_pos he]);have heb:(y==x)=true:=by simpa using he
    clear he;go_wp2
    go_ret
    exact⟨by rw[HV.out];rfl,hu⟩
   ·have HV:=Qh (show Zdt x (l.drop (k+1)) (k+1)=Zdt x l 0 by rw[←hs.out,X.out,ZjK,if_neg he]);have heb:(y==x)=false:=by simpa using he
    clear he;go_wp2
    go_roundg (gk-1)
    case measure=>omega
    case rel=>exact⟨k+1,by omega,by go_num,HV,hu⟩
  ·obtain rfl:k=l.length:=by omega
   have HV:=Qh (show Zdt x l 0= -1 by rw[←hs.out,List.drop_length];rfl);go_wp2
   go_ret
   exact⟨by rw[HV.out];rfl,hu⟩
def ZO (n:Int):List Int→List Int
 |[]=>[n]
 |x::l=>if n≤x then n::(x::l).filter (fun y=> !(y==n)) else x::ZO n l
theorem ZaD (n a:Int):∀l,a∈ZO n l↔a=n∨a∈l
 |[]=>by simp[ZO]
 |x::l=>by
  have ih:=ZaD n a l;unfold ZO
  split
  ·rw[List.mem_cons,List.mem_filter]
   by_cases h:a=n<;>simp[h]
  ·simp only[List.mem_cons,ih];grind
theorem ZcW (n:Int):∀l,l.Pairwise (·<·)→(ZO n l).Pairwise (·<·)
 |[],_=>by simp[ZO]
 |x::l,h=>by
  have h':=List.pairwise_cons.1 h;unfold ZO
  split
  ·refine List.pairwise_cons.2 ⟨fun a ha=> ?_,h.filter _⟩;rw[List.mem_filter]at ha;have h1:a≠n:=by simpa using ha.2
   rcases List.mem_cons.1 ha.1 with rfl|h2
   ·omega
   ·have:=h'.1 a h2;omega
  ·refine List.pairwise_cons.2 ⟨fun a ha=> ?_,ZcW n l h'.2⟩;rcases(ZaD n a l).1 ha with rfl|h2
   ·omega
   ·exact h'.1 a h2
theorem ZgX (n:Int) (l:List Int):(ZO n l).length≤l.length+1:=by
 induction l with
 |nil=>simp[ZO]
 |cons x l ih=>
  unfold ZO
  split
  ·have:=List.length_filter_le (fun y=> !(y==n)) (x::l);simp only[List.length_cons]at*;omega
  ·simp only[List.length_cons]at*;omega
def ZcM (s:List Int):List Int→List Int
 |[]=>s
 |k::l=>ZcM (ZO k s) l
theorem Zh4 (a:Int):∀(l s:List Int),a∈ZcM s l↔a∈s∨a∈l
 |[],s=>by simp[ZcM]
 |k::l,s=>by
  have ih:=Zh4 a l (ZO k s);rw[ZaD]at ih
  show a∈ZcM (ZO k s) l↔_
  rw[ih,List.mem_cons];grind
theorem Zjm:∀(l s:List Int),s.Pairwise (·<·)→(ZcM s l).Pairwise (·<·)
 |[],_,h=>h
 |k::l,s,h=>Zjm l _ (ZcW k s h)
theorem ZhM:∀(l s:List Int),(ZcM s l).length≤s.length+l.length
 |[],s=>by simp[ZcM]
 |k::l,s=>by
  have:=ZhM l (ZO k s);have:=ZgX k s
  show(ZcM (ZO k s) l).length≤_
  simp only[List.length_cons];omega
end
end Go.Proofs.YtonblekdfinpkaaGreat
