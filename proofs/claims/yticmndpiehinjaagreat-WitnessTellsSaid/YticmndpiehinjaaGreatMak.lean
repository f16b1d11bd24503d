/- Edges: how lists of them lie in memory; when two are one. -/
import Derived.Test.YticmndpiehinjaaGreatProg
import Derived.Laws.StructEq
import Derived.Deep.RegionHeld3
import Derived.Deep.AppendLies
import Derived.Test.YticmndpiehinjaaGreatMai
namespace Go.Proofs.YticmndpiehinjaaGreat
set_option linter.unusedVariables false
set_option linter.unusedSimpArgs false
section
open Go.RowKit
structure Edge where
 f:Int
 t:Int
 k:Int
 key:Int
deriving DecidableEq
def Edge.cells (e:Edge):List Value:=[.int .i64 e.f,.int .i64 e.t,.int .i64 e.k,.int .i64 e.key]
def Walk (F:Nat→Prop) (w:World) (A:Option Addr) (l:List Edge):Prop:=Recs F w A 4 (l.map Edge.cells)
theorem ZaF {l:List Edge}:∀r∈l.map Edge.cells,r.length=4:=fun r hr=>by
 obtain⟨e,_,rfl⟩:=List.mem_map.1 hr;rfl
theorem Zf1 {l:List Edge}:∀v∈(l.map Edge.cells).flatten,v.oneCell'=true:=fun v hv=>by
 obtain⟨r,hr,h⟩:=List.mem_flatten.1 hv;obtain⟨e,_,rfl⟩:=List.mem_map.1 hr;simp only[Edge.cells,List.mem_cons,List.not_mem_nil,or_false]at h;rcases h with rfl|rfl|rfl|rfl<;>rfl
theorem ZJ:SlT Tryz.prog 26 68 4 32:=SlT.mk_ Tryz.underlying26 (z:= .agg #[.int .i64 0,.int .i64 0,.int .i64 0,.int .i64 0]) (by kernel_rfl) rfl (by omega)
theorem ZlH (w:World) (a b c d a' b' c' d':Int):
  (Op.equalIn 10000 68 (.agg #[.int .i64 a,.int .i64 b,.int .i64 c,.int .i64 d]) (.agg #[.int .i64 a',.int .i64 b',.int .i64 c',.int .i64 d'])).run Tryz.prog w= .ok (decide ((⟨a,b,c,d⟩:Edge)=⟨a',b',c',d'⟩)) w:=by
 rw[run_equalIn_struct w _ _ _ _ (by kernel_rfl) (by kernel_rfl)];have hI:∀(w:World) (d:Nat) (x y:Int),(Op.equalIn (d+1) 3 (.int .i64 x) (.int .i64 y)).run Tryz.prog w= .ok (x==y) w:=fun w d x y=>run_equalIn_int w d _ _ _ x y Tryz.underlying3
 by_cases h1:a=a'<;>by_cases h2:b=b'<;>by_cases h3:c=c'<;>by_cases h4:d=d'<;>
  simp[Program.fieldsOf,Tryz.underlying68,Op.eqFields,part,hI,h1,h2,h3,h4,Result.andThen]
theorem Zdf (w:World) (x y:Edge):(binOp .neq 68 (.agg #[.int .i64 x.f,.int .i64 x.t,.int .i64 x.k,.int .i64 x.key]) (.agg #[.int .i64 y.f,.int .i64 y.t,.int .i64 y.k,.int .i64 y.key])).run Tryz.prog w= .ok (.bool (x != y)) w:=by
 obtain⟨a,b,c,d⟩:=x;obtain⟨a',b',c',d'⟩:=y;rw[run_neq_struct,ZlH];simp only[Result.andThen]
 by_cases h:(⟨a,b,c,d⟩:Edge)=⟨a',b',c',d'⟩<;>simp[h]
theorem Walk.at_ {F:Nat→Prop} {w:World} {A:Option Addr} {l:List Edge} (h:Walk F w A l) {k:Nat} (hk:k<l.length):∃ad,A=some ad∧
  w.cell? (ad.add (k*4))=some (.int .i64 l[k].f)∧w.cell? ⟨(ad.add (k*4)).block,(ad.add (k*4)).off+1,none⟩=some (.int .i64 l[k].t)∧
  w.cell? ⟨(ad.add (k*4)).block,(ad.add (k*4)).off+2,none⟩=some (.int .i64 l[k].k)∧w.cell? ⟨(ad.add (k*4)).block,(ad.add (k*4)).off+3,none⟩=some (.int .i64 l[k].key):=by
 have hk':k<(l.map Edge.cells).length:=by simpa using hk
 obtain⟨ad,e,_,_,hc⟩:=Recs.at_ h hk';rw[List.getElem_map]at hc;exact⟨ad,e,by simpa using hc 0 _ rfl,by simpa using hc 1 _ rfl,by simpa using hc 2 _ rfl,by simpa using hc 3 _ rfl⟩
theorem Walk.upd {F S:Nat→Prop} {w w':World} {A:Option Addr} {l:List Edge} (h:Walk F w A l) (k:Upd S w w') (hn:∀i,F i→¬S i):Walk F w' A l:=Recs.upd h k hn
theorem Zm0 (w:World) (F G:Nat→Prop) (A B:Option Addr) (c d:Nat) (xs ys:List Edge) (hx:Walk F w A xs) (hy:Walk G w B ys) (hl:xs.length≤4398046511103) (hl2:ys.length≤4398046511103):
  Calls Tryz.prog 22 #[.slice A xs.length c,.slice B ys.length d] w fun e w'=>e= .returned (.bool (xs==ys))∧Upd No w w':=by
 have qN:=Zdf;have qG:∀(op:BinOp) (x y:Operand) (xs ys:Array Value) (w:World),(eqGuard op 68 x y (.agg xs) (.agg ys)).run Tryz.prog w= .ok () w:=fun op x y xs ys w=>run_eqGuard_agg w op _ x y xs ys (by kernel_rfl)
 by_cases hne:xs.length=ys.length
 ·have hb:((xs.length:Int) != (ys.length:Int))=false:=by rw[hne];simp
  go_enter Tryz.func22,Tryz.ntmps22
  have Hne:=Qh hne;clear hne;go_wp2
  go_loopg [5,13] xs.length (fun gk j i wr=>∃k:Nat,k+gk=xs.length∧i= .int .i64 k∧xs.take k=ys.take k∧Upd No w wr)
  case atStart=>exact⟨0,by omega,rfl,by simp,Upd.refl _ _⟩
  case round=>
   obtain⟨k,hgk,rfl,hs,hu⟩:=hrel;have Hs:=Qh hs;clear hs
   by_cases hlt:k<xs.length
   ·have hlt2:k<ys.length:=by have:=Hne.out;omega
    obtain⟨ax,rfl,hc0,hc1,hc2,hc3⟩:=(hx.upd hu (fun _ _=>id)).at_ hlt;obtain⟨ay,rfl,hd0,hd1,hd2,hd3⟩:=(hy.upd hu (fun _ _=>id)).at_ hlt2;have b1:(0:Int)≤(k:Int):=Qn _;have b2:(k:Int)<(xs.length:Int):=by omega
    have b3:(k:Int)<(ys.length:Int):=by omega
    by_cases he:xs[k]=ys[k]
    ·have heb:(xs[k] != ys[k])=false:=by rw[he];simp
     have He:=Qh he;clear he;go_wp2
     go_quiet (fail)
     go_wp2
     go_roundg (gk-1)
     case measure=>omega
     case rel=>
      refine⟨k+1,by omega,by go_num,?_,hu.drewN _⟩;rw[List.take_succ_eq_append_getElem hlt,List.take_succ_eq_append_getElem hlt2,Hs.out,He.out]
    ·have heb:(xs[k] != ys[k])=true:=by simpa using he
     have He:=Qh he;clear he;go_wp2
     go_quiet (fail)
     go_wp2
     go_ret
     have hne2:(xs==ys)=false:=by
      rw[beq_eq_false_iff_ne];rintro rfl;exact He.out rfl
     exact⟨by rw[hne2];rfl,hu.drewN _⟩
   ·obtain rfl:k=xs.length:=by omega
    go_wp2
    go_ret
    have h2:=Hs.out;rw[List.take_length,Hne.out,List.take_length]at h2;exact⟨by rw[h2,beq_self_eq_true];rfl,hu⟩
 ·have hb:((xs.length:Int) != (ys.length:Int))=true:=by rw[bne_iff_ne];omega
  have hf:(xs==ys)=false:=by rw[beq_eq_false_iff_ne];rintro rfl;exact hne rfl
  have Hf:=Qh hf;clear hf
  go_enter Tryz.func22,Tryz.ntmps22
  go_wp2
  go_ret
  exact⟨by rw[Hf.out];rfl,Upd.refl _ _⟩
end
/- Histories:how operations,transactions,orders and histories lie in memory. -/
section
open Go.RowKit
def i64 (n:Int):Prop:= -9223372036854775808≤n∧n≤9223372036854775807
structure HOp where
 read:Bool
 key:Int
 tx:Int
 nth:Int
deriving DecidableEq
def HOp.cells (o:HOp):List Value:=[.bool o.read,.int .i64 o.key,.int .i64 o.tx,.int .i64 o.nth]
def HOp.ok (o:HOp):Prop:=i64 o.key∧i64 o.tx∧i64 o.nth
structure Ver where
 tx:Int
 key:Int
 nth:Int
deriving DecidableEq
def Ver.cells (v:Ver):List Value:=[.int .i64 v.tx,.int .i64 v.key,.int .i64 v.nth]
def HOps (F:Nat→Prop) (w:World) (A:Option Addr) (l:List HOp):Prop:=Recs F w A 4 (l.map HOp.cells)
structure HTx where
 id:Int
 done:Bool
 ops:List HOp
 A:Option Addr
 c:Nat
def HTx.cells (t:HTx):List Value:=[.int .i64 t.id,.bool t.done,.slice t.A t.ops.length t.c]
def Zn (n:Nat):Prop:=n≤4398046511103
def HTx.lies (F:Nat→Prop) (w:World) (t:HTx):Prop:=HOps F w t.A t.ops∧t.ops.length≤t.c∧Zn t.ops.length∧i64 t.id∧∀o∈t.ops,o.ok
structure HOrd where
 key:Int
 txs:List Int
 A:Option Addr
 c:Nat
def HOrd.cells (o:HOrd):List Value:=[.int .i64 o.key,.slice o.A o.txs.length o.c]
def HOrd.lies (F:Nat→Prop) (w:World) (o:HOrd):Prop:=Ints F w o.A o.txs∧o.txs.length≤o.c∧o.txs.length≤17592186044415∧i64 o.key∧∀n∈o.txs,i64 n
structure Hist where
 txs:List HTx
 ords:List HOrd
 A:Option Addr
 c:Nat
 B:Option Addr
 d:Nat
def Hist.val (h:Hist):Value:= .agg #[.slice h.A h.txs.length h.c,.slice h.B h.ords.length h.d]
def Hist.cells (h:Hist):List Value:=[.slice h.A h.txs.length h.c,.slice h.B h.ords.length h.d]
structure Hist.lies (F:Nat→Prop) (w:World) (h:Hist):Prop where
 txs:Recs F w h.A 3 (h.txs.map HTx.cells)
 ords:Recs F w h.B 2 (h.ords.map HOrd.cells)
 tx:∀t∈h.txs,t.lies F w
 ord:∀o∈h.ords,o.lies F w
 c:h.txs.length≤h.c
 d:h.ords.length≤h.d
 few:h.txs.length≤4398046511103
 fewo:h.ords.length≤4398046511103
section
variable {F S:Nat→Prop} {w w':World}
theorem HOps.upd {A:Option Addr} {l:List HOp} (h:HOps F w A l) (k:Upd S w w') (hn:∀i,F i→¬S i):HOps F w' A l:=Recs.upd h k hn
theorem HTx.lies.upd {t:HTx} (h:t.lies F w) (k:Upd S w w') (hn:∀i,F i→¬S i):t.lies F w':=⟨HOps.upd h.1 k hn,h.2⟩
theorem HOrd.lies.upd {o:HOrd} (h:o.lies F w) (k:Upd S w w') (hn:∀i,F i→¬S i):o.lies F w':=⟨h.1.upd k hn,h.2⟩
theorem Hist.lies.upd {h:Hist} (H:h.lies F w) (k:Upd S w w') (hn:∀i,F i→¬S i):h.lies F w':=
 ⟨Recs.upd H.txs k hn,Recs.upd H.ords k hn,fun t ht=>(H.tx t ht).upd k hn,fun o ho=>(H.ord o ho).upd k hn,H.c,H.d,H.few,H.fewo⟩
theorem HOps.at_ {A:Option Addr} {l:List HOp} (h:HOps F w A l) {k:Nat} (hk:k<l.length):∃ad,A=some ad∧
  w.cell? (ad.add (k*4))=some (.bool l[k].read)∧w.cell? ⟨(ad.add (k*4)).block,(ad.add (k*4)).off+1,none⟩=some (.int .i64 l[k].key)∧
  w.cell? ⟨(ad.add (k*4)).block,(ad.add (k*4)).off+2,none⟩=some (.int .i64 l[k].tx)∧w.cell? ⟨(ad.add (k*4)).block,(ad.add (k*4)).off+3,none⟩=some (.int .i64 l[k].nth):=by
 have hk':k<(l.map HOp.cells).length:=by simpa using hk
 obtain⟨ad,e,_,_,hc⟩:=Recs.at_ h hk';rw[List.getElem_map]at hc;exact⟨ad,e,by simpa using hc 0 _ rfl,by simpa using hc 1 _ rfl,by simpa using hc 2 _ rfl,by simpa using hc 3 _ rfl⟩
theorem Hist.lies.tx_at {h:Hist} (H:h.lies F w) {k:Nat} (hk:k<h.txs.length):∃ad,h.A=some ad∧
  w.cell? (ad.add (k*3))=some (.int .i64 h.txs[k].id)∧w.cell? ⟨(ad.add (k*3)).block,(ad.add (k*3)).off+1,none⟩=some (.bool h.txs[k].done)∧
  w.cell? ⟨(ad.add (k*3)).block,(ad.add (k*3)).off+2,none⟩=some (.slice h.txs[k].A h.txs[k].ops.length h.txs[k].c):=by
 have hk':k<(h.txs.map HTx.cells).length:=by simpa using hk
 obtain⟨ad,e,_,_,hc⟩:=Recs.at_ H.txs hk';rw[List.getElem_map]at hc;exact⟨ad,e,by simpa using hc 0 _ rfl,by simpa using hc 1 _ rfl,by simpa using hc 2 _ rfl⟩
theorem Hist.lies.ord_at {h:Hist} (H:h.lies F w) {k:Nat} (hk:k<h.ords.length):∃ad,h.B=some ad∧
  w.cell? (ad.add (k*2))=some (.int .i64 h.ords[k].key)∧w.cell? ⟨(ad.add (k*2)).block,(ad.add (k*2)).off+1,none⟩=some (.slice h.ords[k].A h.ords[k].txs.length h.ords[k].c):=by
 have hk':k<(h.ords.map HOrd.cells).length:=by simpa using hk
 obtain⟨ad,e,_,_,hc⟩:=Recs.at_ H.ords hk';rw[List.getElem_map]at hc;exact⟨ad,e,by simpa using hc 0 _ rfl,by simpa using hc 1 _ rfl⟩
end
def ZF (o:HOp):Ver:=if o.read then ⟨o.tx,o.key,o.nth⟩ else ⟨0,0,0⟩
def idB (n:Int):Bool:=decide (1≤n)&&decide (n≤1048575)
def Z6 (v:Ver):Bool:=idB v.key&&((v.tx==0&&v.nth==0)||(idB v.tx&&decide (1≤v.nth)&&decide (v.nth≤4095)))
def opB (o:HOp):Bool:=if o.read then Z6 (ZF o) else idB o.key&&o.tx==0&&o.nth==0
end
/- Operations and versions:which are right,by the program and by the document. -/
section
open Go.RowKit
def Zmq (b:Bool):Int:=if b then 0 else 1
theorem pid (w:World) (n:Int):Calls Tryz.prog 195 #[.int .i64 n] w fun e w'=>e= .returned (.bool (idB n))∧w=w':=by
 unfold idB
 by_cases h1:1≤n
 ·by_cases h2:n≤1048575
  ·go_enter Tryz.func195,Tryz.ntmps195
   go_wp2
   go_ret
   exact⟨by rw[decide_eq_true h1,decide_eq_true h2];rfl,rfl⟩
  ·go_enter Tryz.func195,Tryz.ntmps195
   go_wp2
   go_ret
   exact⟨by rw[decide_eq_false (show¬n≤1048575 by omega)];rfl,rfl⟩
 ·go_enter Tryz.func195,Tryz.ntmps195
  go_wp2
  go_ret
  exact⟨by rw[decide_eq_false (show¬1≤n by omega),Bool.false_and];rfl,rfl⟩
theorem rid (w:World) (n:Int):Calls Tryz.prog 111 #[.int .i64 n] w fun e w'=>e= .returned (.bool (idB n))∧w=w':=by
 unfold idB
 by_cases h1:1≤n
 ·by_cases h2:n≤1048575
  ·go_enter Tryz.func111,Tryz.ntmps111
   go_wp2
   go_ret
   exact⟨by rw[decide_eq_true h1,decide_eq_true h2];rfl,rfl⟩
  ·go_enter Tryz.func111,Tryz.ntmps111
   go_wp2
   go_ret
   exact⟨by rw[decide_eq_false (show¬n≤1048575 by omega)];rfl,rfl⟩
 ·go_enter Tryz.func111,Tryz.ntmps111
  go_wp2
  go_ret
  exact⟨by rw[decide_eq_false (show¬1≤n by omega),Bool.false_and];rfl,rfl⟩
theorem Zey {w:World} {n:Int} {b:Bool} (h:idB n=b):Calls Tryz.prog 195 #[.int .i64 n] w fun e w'=>e= .returned (.bool b)∧w=w':=by subst h;exact pid w n
theorem Zbz {w:World} {n:Int} {b:Bool} (h:idB n=b):Calls Tryz.prog 111 #[.int .i64 n] w fun e w'=>e= .returned (.bool b)∧w=w':=by subst h;exact rid w n
def ZpJ (w:World) (b:Bool) (e:Ending) (w':World):Prop:=∃x,e= .returned (.tuple #[.int .u64 x,.int .i64 (Zmq b)])∧Upd No w w'
theorem Zbk {b:Bool} (h:¬b=true):b=false:=by simpa using h
set_option maxRecDepth 100000 in
set_option maxHeartbeats 1000000 in
theorem ZtI (w:World) (v:Ver):Calls Tryz.prog 172 #[.agg v.cells.toArray] w (ZpJ w (Z6 v)):=by
 unfold Ver.cells;have i0:idB 0=false:=by decide
 by_cases ht:v.tx=0
 ·by_cases hn:v.nth=0
  ·by_cases hk:idB v.key=true
   ·have hv:=Qh (show Z6 v=true by unfold Z6;rw[hk,ht,hn];rfl);rw[ht,hn];clear ht hn i0;have Hk:=Qh hk;clear hk
    go_enter Tryz.func172,Tryz.ntmps172
    go_wp2_with fail
    refine(Zey Hk.out).mono ?_;rintro e w1 ⟨rfl,rfl⟩;go_wp2
    go_ret2
    exact⟨_,by rw[hv.out];rfl,(Upd.refl _ _).alloc _⟩
   ·have hv:=Qh (show Z6 v=false by unfold Z6;rw[Zbk hk];rfl);rw[ht,hn];clear ht hn i0;have Hk:=Qh (Zbk hk);clear hk
    go_enter Tryz.func172,Tryz.ntmps172
    go_wp2_with fail
    refine(Zey Hk.out).mono ?_;rintro e w1 ⟨rfl,rfl⟩;go_wp2
    go_ret2
    exact⟨_,by rw[hv.out];rfl,(Upd.refl _ _).alloc _⟩
  ·have hv:=Qh (show Z6 v=false by
    have:(v.nth==0)=false:=by simpa using hn
    unfold Z6;rw[ht,this,i0];simp)
   rw[ht];clear ht;have Hi:=Qh i0;clear i0;have hnb:(v.nth==0)=false:=by simpa using hn
   have Hn:=Qh hn;clear hn
   go_enter Tryz.func172,Tryz.ntmps172
   go_wp2_with fail
   refine(Zey Hi.out).mono ?_;rintro e w1 ⟨rfl,rfl⟩;go_wp2
   go_ret2
   exact⟨_,by rw[hv.out];rfl,(Upd.refl _ _).alloc _⟩
 ·have htb:(v.tx==0)=false:=by simpa using ht
  have Ht:=Qh ht;clear ht i0
  by_cases hi:idB v.tx=true
  ·have Hi:=Qh hi;clear hi
   by_cases h1:v.nth<1
   ·have hv:=Qh (show Z6 v=false by
     unfold Z6;rw[htb,Hi.out,decide_eq_false (show¬1≤v.nth by omega)];simp)
    go_enter Tryz.func172,Tryz.ntmps172
    go_wp2_with fail
    refine(Zey Hi.out).mono ?_;rintro e w1 ⟨rfl,rfl⟩;go_wp2
    go_ret2
    exact⟨_,by rw[hv.out];rfl,(Upd.refl _ _).alloc _⟩
   ·by_cases h2:4095<v.nth
    ·have hv:=Qh (show Z6 v=false by
      unfold Z6;rw[htb,Hi.out,decide_eq_false (show¬v.nth≤4095 by omega)];simp)
     go_enter Tryz.func172,Tryz.ntmps172
     go_wp2_with fail
     refine(Zey Hi.out).mono ?_;rintro e w1 ⟨rfl,rfl⟩;go_wp2
     go_ret2
     exact⟨_,by rw[hv.out];rfl,(Upd.refl _ _).alloc _⟩
    ·by_cases hk:idB v.key=true
     ·have hv:=Qh (show Z6 v=true by
       unfold Z6;rw[htb,Hi.out,hk,decide_eq_true (show v.nth≤4095 by omega),decide_eq_true (show 1≤v.nth by omega)];rfl)
      have Hk:=Qh hk;clear hk
      go_enter Tryz.func172,Tryz.ntmps172
      go_wp2_with fail
      refine(Zey Hi.out).mono ?_;rintro e w1 ⟨rfl,rfl⟩
      go_wp2_with fail
      refine(Zey Hk.out).mono ?_;rintro e w1 ⟨rfl,rfl⟩;go_wp2
      go_ret2
      exact⟨_,by rw[hv.out];rfl,(Upd.refl _ _).alloc _⟩
     ·have hv:=Qh (show Z6 v=false by unfold Z6;rw[Zbk hk];rfl);have Hk:=Qh (Zbk hk);clear hk
      go_enter Tryz.func172,Tryz.ntmps172
      go_wp2_with fail
      refine(Zey Hi.out).mono ?_;rintro e w1 ⟨rfl,rfl⟩
      go_wp2_with fail
      refine(Zey Hk.out).mono ?_;rintro e w1 ⟨rfl,rfl⟩;go_wp2
      go_ret2
      exact⟨_,by rw[hv.out];rfl,(Upd.refl _ _).alloc _⟩
  ·have hv:=Qh (show Z6 v=false by unfold Z6;rw[htb,Zbk hi];simp);have Hi:=Qh (Zbk hi);clear hi
   go_enter Tryz.func172,Tryz.ntmps172
   go_wp2_with fail
   refine(Zey Hi.out).mono ?_;rintro e w1 ⟨rfl,rfl⟩;go_wp2
   go_ret2
   exact⟨_,by rw[hv.out];rfl,(Upd.refl _ _).alloc _⟩
end
/- Operations:the version that they read,whether they are right. -/
section
open Go.RowKit
theorem ZrZ (w:World) (x y:HOp):(Op.equalIn 10000 48 (.agg x.cells.toArray) (.agg y.cells.toArray)).run Tryz.prog w= .ok (decide (x=y)) w:=by
 obtain⟨a,b,c,d⟩:=x;obtain⟨a',b',c',d'⟩:=y;unfold HOp.cells;rw[run_equalIn_struct w _ _ _ _ (by kernel_rfl) (by kernel_rfl)];have hI:∀(w:World) (d:Nat) (x y:Int),(Op.equalIn (d+1) 3 (.int .i64 x) (.int .i64 y)).run Tryz.prog w= .ok (x==y) w:=fun w d x y=>run_equalIn_int w d _ _ _ x y Tryz.underlying3
 have hB:∀(w:World) (d:Nat) (x y:Bool),(Op.equalIn (d+1) 4 (.bool x) (.bool y)).run Tryz.prog w= .ok (x==y) w:=fun w d x y=>run_equalIn_bool w d _ x y Tryz.underlying4
 by_cases h1:a=a'<;>by_cases h2:b=b'<;>by_cases h3:c=c'<;>by_cases h4:d=d'<;>
  simp[Program.fieldsOf,Tryz.underlying48,Op.eqFields,part,hI,hB,h1,h2,h3,h4,Result.andThen]
theorem ZqP (w:World) (x y:HOp):(binOp .neq 48 (.agg #[.bool x.read,.int .i64 x.key,.int .i64 x.tx,.int .i64 x.nth]) (.agg #[.bool y.read,.int .i64 y.key,.int .i64 y.tx,.int .i64 y.nth])).run Tryz.prog w= .ok (.bool (x != y)) w:=by
 rw[run_neq_struct];have:=ZrZ w x y;unfold HOp.cells at this;rw[this];simp only[Result.andThen]
 by_cases h:x=y<;>simp[h]
theorem oof (w:World) (o:HOp):Calls Tryz.prog 101 #[.agg o.cells.toArray] w fun e w'=>e= .returned (.agg (ZF o).cells.toArray)∧Upd No w w':=by
 obtain⟨r,k,t,n⟩:=o
 cases r
 ·unfold HOp.cells
  go_enter Tryz.func101,Tryz.ntmps101
  go_wp2;exact bodyPost_ret (v:= .agg #[.int .i64 0,.int .i64 0,.int .i64 0]) (by simp[results,Tryz.results101,go_sem]) rfl ⟨rfl,((Upd.refl _ _).alloc _).alloc _⟩
 ·unfold HOp.cells
  go_enter Tryz.func101,Tryz.ntmps101
  go_wp2;exact bodyPost_ret (v:= .agg #[.int .i64 t,.int .i64 k,.int .i64 n]) (by simp[results,Tryz.results101,go_sem]) rfl ⟨rfl,((Upd.refl _ _).alloc _).alloc _⟩
theorem rof (w:World) (o:HOp):Calls Tryz.prog 43 #[.agg o.cells.toArray] w fun e w'=>e= .returned (.agg (ZF o).cells.toArray)∧Upd No w w':=by
 obtain⟨r,k,t,n⟩:=o
 cases r
 ·unfold HOp.cells
  go_enter Tryz.func43,Tryz.ntmps43
  go_wp2;exact bodyPost_ret (v:= .agg #[.int .i64 0,.int .i64 0,.int .i64 0]) (by simp[results,Tryz.results43,go_sem]) rfl ⟨rfl,((Upd.refl _ _).alloc _).alloc _⟩
 ·unfold HOp.cells
  go_enter Tryz.func43,Tryz.ntmps43
  go_wp2;exact bodyPost_ret (v:= .agg #[.int .i64 t,.int .i64 k,.int .i64 n]) (by simp[results,Tryz.results43,go_sem]) rfl ⟨rfl,((Upd.refl _ _).alloc _).alloc _⟩
theorem Zty (w:World) (v:Ver):Calls Tryz.prog 147 #[.agg v.cells.toArray] w fun e w'=>e= .returned (.bool (Z6 v))∧Upd No w w':=by
 unfold Ver.cells;have i0:idB 0=false:=by decide
 by_cases ht:v.tx=0
 ·by_cases hk:idB v.key=true
  ·have hv:=Qh (show Z6 v=(v.nth==0) by unfold Z6;rw[hk,ht,i0];simp);rw[ht];have Hk:=Qh hk;clear ht hk i0
   by_cases hn:v.nth=0
   ·have hnb:(v.nth==0)=true:=by simpa using hn
    have Hn:=Qh hn;clear hn
    go_enter Tryz.func147,Tryz.ntmps147
    go_wp2_with fail
    refine(Zbz Hk.out).mono ?_;rintro e w1 ⟨rfl,rfl⟩;go_wp2
    go_ret
    exact⟨by rw[hv.out,hnb];rfl,(Upd.refl _ _).alloc _⟩
   ·have hnb:(v.nth==0)=false:=by simpa using hn
    have Hn:=Qh hn;clear hn
    go_enter Tryz.func147,Tryz.ntmps147
    go_wp2_with fail
    refine(Zbz Hk.out).mono ?_;rintro e w1 ⟨rfl,rfl⟩;go_wp2
    go_ret
    exact⟨by rw[hv.out,hnb];rfl,(Upd.refl _ _).alloc _⟩
  ·have hv:=Qh (show Z6 v=false by unfold Z6;rw[Zbk hk];rfl);rw[ht];have Hk:=Qh (Zbk hk);clear ht hk i0
   go_enter Tryz.func147,Tryz.ntmps147
   go_wp2_with fail
   refine(Zbz Hk.out).mono ?_;rintro e w1 ⟨rfl,rfl⟩;go_wp2
   go_ret
   exact⟨by rw[hv.out];rfl,(Upd.refl _ _).alloc _⟩
 ·have htb:(v.tx==0)=false:=by simpa using ht
  have Ht:=Qh ht;clear ht i0
  by_cases hi:idB v.tx=true
  ·have Hi:=Qh hi;clear hi
   by_cases hk:idB v.key=true
   ·have Hk:=Qh hk;clear hk
    by_cases h1:1≤v.nth
    ·by_cases h2:v.nth≤4095
     ·have hv:=Qh (show Z6 v=true by unfold Z6;rw[htb,Hi.out,Hk.out,decide_eq_true h1,decide_eq_true h2];rfl)
      go_enter Tryz.func147,Tryz.ntmps147
      go_wp2_with fail
      refine(Zbz Hi.out).mono ?_;rintro e w1 ⟨rfl,rfl⟩
      go_wp2_with fail
      refine(Zbz Hk.out).mono ?_;rintro e w1 ⟨rfl,rfl⟩;go_wp2
      go_ret
      exact⟨by rw[hv.out];rfl,(Upd.refl _ _).alloc _⟩
     ·have hv:=Qh (show Z6 v=false by unfold Z6;rw[htb,Hi.out,Hk.out,decide_eq_false h2];simp);have h2b:decide (v.nth≤4095)=false:=decide_eq_false h2
      go_enter Tryz.func147,Tryz.ntmps147
      go_wp2_with fail
      refine(Zbz Hi.out).mono ?_;rintro e w1 ⟨rfl,rfl⟩
      go_wp2_with fail
      refine(Zbz Hk.out).mono ?_;rintro e w1 ⟨rfl,rfl⟩;go_wp2
      go_ret
      exact⟨by rw[hv.out];rfl,(Upd.refl _ _).alloc _⟩
    ·have hv:=Qh (show Z6 v=false by unfold Z6;rw[htb,Hi.out,Hk.out,decide_eq_false h1];simp)
     go_enter Tryz.func147,Tryz.ntmps147
     go_wp2_with fail
     refine(Zbz Hi.out).mono ?_;rintro e w1 ⟨rfl,rfl⟩
     go_wp2_with fail
     refine(Zbz Hk.out).mono ?_;rintro e w1 ⟨rfl,rfl⟩;go_wp2
     go_ret
     exact⟨by rw[hv.out];rfl,(Upd.refl _ _).alloc _⟩
   ·have hv:=Qh (show Z6 v=false by unfold Z6;rw[Zbk hk];rfl);have Hk:=Qh (Zbk hk);clear hk
    go_enter Tryz.func147,Tryz.ntmps147
    go_wp2_with fail
    refine(Zbz Hi.out).mono ?_;rintro e w1 ⟨rfl,rfl⟩
    go_wp2_with fail
    refine(Zbz Hk.out).mono ?_;rintro e w1 ⟨rfl,rfl⟩;go_wp2
    go_ret
    exact⟨by rw[hv.out];rfl,(Upd.refl _ _).alloc _⟩
  ·have hv:=Qh (show Z6 v=false by unfold Z6;rw[htb,Zbk hi];simp);have Hi:=Qh (Zbk hi);clear hi
   go_enter Tryz.func147,Tryz.ntmps147
   go_wp2_with fail
   refine(Zbz Hi.out).mono ?_;rintro e w1 ⟨rfl,rfl⟩;go_wp2
   go_ret
   exact⟨by rw[hv.out];rfl,(Upd.refl _ _).alloc _⟩
theorem Znp (w:World) (o:HOp):Calls Tryz.prog 139 #[.agg o.cells.toArray] w fun e w'=>e= .returned (.int .i64 (Zmq (opB o)))∧Upd No w w':=by
 obtain⟨r,k,t,n⟩:=o
 cases r
 ·have hN:=ZqP;unfold HOp.cells
  by_cases hz:(⟨false,k,t,n⟩:HOp)=⟨false,k,0,0⟩
  ·have hzb:((⟨false,k,t,n⟩:HOp) != ⟨false,k,0,0⟩)=false:=by rw[hz];simp
   have h0:t=0∧n=0:=by injection hz with _ _ h3 h4;exact⟨h3,h4⟩
   by_cases h1:k<1
   ·have hv:=Qh (show opB ⟨false,k,t,n⟩=false by unfold opB idB;rw[decide_eq_false (show¬1≤k by omega)];rfl);clear hz h0;have qn:=fun w=>(hN w ⟨false,k,t,n⟩ ⟨false,k,0,0⟩).trans (by rw[hzb])
    clear hN hzb
    go_enter Tryz.func139,Tryz.ntmps139
    go_wp2
    go_ret
    exact⟨by rw[hv.out];rfl,(Upd.refl _ _).alloc _⟩
   ·by_cases h2:1048575<k
    ·have hv:=Qh (show opB ⟨false,k,t,n⟩=false by unfold opB idB;rw[decide_eq_false (show¬k≤1048575 by omega)];simp);clear hz h0;have qn:=fun w=>(hN w ⟨false,k,t,n⟩ ⟨false,k,0,0⟩).trans (by rw[hzb])
     clear hN hzb
     go_enter Tryz.func139,Tryz.ntmps139
     go_wp2
     go_ret
     exact⟨by rw[hv.out];rfl,(Upd.refl _ _).alloc _⟩
    ·have hv:=Qh (show opB ⟨false,k,t,n⟩=true by unfold opB idB;rw[decide_eq_true (show k≤1048575 by omega),decide_eq_true (show 1≤k by omega),h0.1,h0.2];rfl);clear hz h0;have qn:=fun w=>(hN w ⟨false,k,t,n⟩ ⟨false,k,0,0⟩).trans (by rw[hzb])
     clear hN hzb
     go_enter Tryz.func139,Tryz.ntmps139
     go_wp2
     go_ret
     exact⟨by rw[hv.out];rfl,(Upd.refl _ _).alloc _⟩
  ·have hzb:((⟨false,k,t,n⟩:HOp) != ⟨false,k,0,0⟩)=true:=by simpa using hz
   have hv:=Qh (show opB ⟨false,k,t,n⟩=false by
    unfold opB
    by_cases h3:t=0
    ·by_cases h4:n=0
     ·exact absurd (by rw[h3,h4]) hz
     ·simp[h4]
    ·simp[h3])
   clear hz;have qn:=fun w=>(hN w ⟨false,k,t,n⟩ ⟨false,k,0,0⟩).trans (by rw[hzb])
   clear hN hzb
   go_enter Tryz.func139,Tryz.ntmps139
   go_wp2
   go_ret
   exact⟨by rw[hv.out];rfl,(Upd.refl _ _).alloc _⟩
 ·have hv:=Qh (show opB ⟨true,k,t,n⟩=Z6 ⟨t,k,n⟩ from rfl);unfold HOp.cells
  go_enter Tryz.func139,Tryz.ntmps139
  go_wp2_with fail
  refine(oof _ ⟨true,k,t,n⟩).mono ?_;rintro e w1 ⟨rfl,hu1⟩
  go_wp2_with fail
  refine(ZtI _ ⟨t,k,n⟩).mono ?_;rintro e w2 ⟨x,rfl,hu2⟩;go_wp2
  go_ret
  exact⟨by rw[hv.out];rfl,(((Upd.refl _ _).alloc _).trans hu1).trans hu2⟩
theorem Zru (w:World) (o:HOp):Calls Tryz.prog 112 #[.agg o.cells.toArray] w fun e w'=>e= .returned (.bool (opB o))∧Upd No w w':=by
 obtain⟨r,k,t,n⟩:=o
 cases r
 ·unfold HOp.cells
  by_cases hk:idB k=true
  ·have Hk:=Qh hk;clear hk
   by_cases h3:t=0
   ·have hv:=Qh (show opB ⟨false,k,t,n⟩=(n==0) by unfold opB;rw[h3,Hk.out];rfl);have h3b:(t==0)=true:=by simpa using h3
    clear h3
    by_cases h4:n=0
    ·have h4b:(n==0)=true:=by simpa using h4
     clear h4
     go_enter Tryz.func112,Tryz.ntmps112
     go_wp2_with fail
     refine(Zbz Hk.out).mono ?_;rintro e w1 ⟨rfl,rfl⟩;go_wp2
     go_ret
     exact⟨by rw[hv.out,h4b];rfl,(Upd.refl _ _).alloc _⟩
    ·have h4b:(n==0)=false:=by simpa using h4
     clear h4
     go_enter Tryz.func112,Tryz.ntmps112
     go_wp2_with fail
     refine(Zbz Hk.out).mono ?_;rintro e w1 ⟨rfl,rfl⟩;go_wp2
     go_ret
     exact⟨by rw[hv.out,h4b];rfl,(Upd.refl _ _).alloc _⟩
   ·have h3b:(t==0)=false:=by simpa using h3
    have hv:=Qh (show opB ⟨false,k,t,n⟩=false by unfold opB;simp[h3]);clear h3
    go_enter Tryz.func112,Tryz.ntmps112
    go_wp2_with fail
    refine(Zbz Hk.out).mono ?_;rintro e w1 ⟨rfl,rfl⟩;go_wp2
    go_ret
    exact⟨by rw[hv.out];rfl,(Upd.refl _ _).alloc _⟩
  ·have hv:=Qh (show opB ⟨false,k,t,n⟩=false by unfold opB;simp[Zbk hk]);have Hk:=Qh (Zbk hk);clear hk
   go_enter Tryz.func112,Tryz.ntmps112
   go_wp2_with fail
   refine(Zbz Hk.out).mono ?_;rintro e w1 ⟨rfl,rfl⟩;go_wp2
   go_ret
   exact⟨by rw[hv.out];rfl,(Upd.refl _ _).alloc _⟩
 ·have hv:=Qh (show opB ⟨true,k,t,n⟩=Z6 ⟨t,k,n⟩ from rfl);unfold HOp.cells
  go_enter Tryz.func112,Tryz.ntmps112
  go_wp2_with fail
  refine(rof _ ⟨true,k,t,n⟩).mono ?_;rintro e w1 ⟨rfl,hu1⟩
  go_wp2_with fail
  refine(Zty _ ⟨t,k,n⟩).mono ?_;rintro e w2 ⟨rfl,hu2⟩;go_wp2
  go_ret
  exact⟨by rw[hv.out];rfl,(((Upd.refl _ _).alloc _).trans hu1).trans hu2⟩
end
/- How many writes of a key there are;whether a history is light. -/
section
open Go.RowKit
def isW (key:Int) (o:HOp):Bool:= !o.read&&o.key==key
def wrN (l:List HOp) (key:Int) (k:Nat):Nat:=((l.take k).filter (isW key)).length
def Ze (l:List HOp) (key:Int):Nat:=wrN l key l.length
theorem ZjI {l:List HOp} {key:Int} {k:Nat} (hk:k<l.length):wrN l key (k+1)=wrN l key k+if isW key l[k]=true then 1 else 0:=by
 unfold wrN;rw[List.take_succ_eq_append_getElem hk,List.filter_append,List.length_append]
 by_cases h:isW key l[k]=true
 ·rw[if_pos h,List.filter_cons_of_pos h];rfl
 ·rw[if_neg h,List.filter_cons_of_neg h];rfl
theorem Zig {l:List HOp} {key:Int} {k:Nat} {x:HOp} (hk:k<l.length) (hx:l[k]=x) (h:isW key x=true):wrN l key (k+1)=wrN l key k+1:=by
 subst hx;rw[ZjI hk,if_pos h]
theorem ZeG {l:List HOp} {key:Int} {k:Nat} {x:HOp} (hk:k<l.length) (hx:l[k]=x) (h:isW key x=false):wrN l key (k+1)=wrN l key k:=by
 subst hx;rw[ZjI hk,if_neg (by rw[h];decide),Nat.add_zero]
theorem ZjJ (l:List HOp) (key:Int) (k:Nat):wrN l key k≤k:=by
 unfold wrN;have h1:=List.length_filter_le (isW key) (l.take k);have h2:=List.length_take_le k l;omega
set_option maxRecDepth 100000 in
theorem Zcb (F:Nat→Prop) (w:World) (A:Option Addr) (c:Nat) (l:List HOp) (key:Int) (h:HOps F w A l) (hl:Zn l.length):
  Calls Tryz.prog 82 #[.slice A l.length c,.int .i64 key] w fun e w'=>e= .returned (.int .i64 ((Ze l key:Nat):Int))∧Upd No w w':=by
 unfold Zn at hl
 go_enter Tryz.func82,Tryz.ntmps82
 go_wp2
 go_loopg [5,10] l.length (fun gk n i wr=>∃k:Nat,k+gk=l.length∧i= .int .i64 k∧n= .int .i64 ((wrN l key k:Nat):Int)∧Upd No w wr)
 case atStart=>exact⟨0,by omega,rfl,rfl,Upd.refl _ _⟩
 case round=>
  obtain⟨k,hgk,rfl,rfl,hu⟩:=hrel
  by_cases hlt:k<l.length
  ·obtain⟨ad,hAd,c0,c1,c2,c3⟩:=(h.upd hu (fun _ _=>id)).at_ hlt;obtain⟨x,hx⟩:∃x,l[k]=x:=⟨_,rfl⟩;rw[hx]at c0 c1 c2 c3;have hw:=ZjJ l key k;obtain⟨r,ky,tx,nt⟩:=x;have X:=Qh hx;clear hx;subst hAd
   cases r
   ·by_cases hk:ky=key
    ·have hkb:(ky==key)=true:=by simpa using hk
     have HS:=Qh (Zig (key:=key) hlt X.out (by unfold isW;rw[hkb];rfl));clear hk;go_wp2
     go_roundg (gk-1)
     case measure=>omega
     case rel=>exact⟨k+1,by omega,by go_num,by rw[HS.out];go_num,hu.alloc _⟩
    ·have hkb:(ky==key)=false:=by simpa using hk
     have HS:=Qh (ZeG (key:=key) hlt X.out (by unfold isW;rw[hkb];rfl));clear hk;go_wp2
     go_roundg (gk-1)
     case measure=>omega
     case rel=>exact⟨k+1,by omega,by go_num,by rw[HS.out],hu.alloc _⟩
   ·have HS:=Qh (ZeG (key:=key) hlt X.out rfl);go_wp2
    go_roundg (gk-1)
    case measure=>omega
    case rel=>exact⟨k+1,by omega,by go_num,by rw[HS.out],hu.alloc _⟩
  ·obtain rfl:k=l.length:=by omega
   go_wp2
   go_ret
   exact⟨rfl,hu⟩
set_option maxRecDepth 100000 in
theorem Zin (F:Nat→Prop) (w:World) (i0:Int) (dn:Bool) (A:Option Addr) (c:Nat) (l:List HOp) (key:Int) (h:HOps F w A l) (hl:Zn l.length):
  Calls Tryz.prog 136 #[.agg #[.int .i64 i0,.bool dn,.slice A l.length c],.int .i64 key] w fun e w'=>e= .returned (.int .i64 ((Ze l key:Nat):Int))∧Upd No w w':=by
 unfold Zn at hl
 go_enter Tryz.func136,Tryz.ntmps136
 go_wp2
 go_loopg [5,11] l.length (fun gk n i wr=>∃k:Nat,k+gk=l.length∧i= .int .i64 k∧n= .int .i64 ((wrN l key k:Nat):Int)∧Upd No w wr)
 case atStart=>exact⟨0,by omega,rfl,rfl,(Upd.refl _ _).alloc _⟩
 case round=>
  obtain⟨k,hgk,rfl,rfl,hu⟩:=hrel
  by_cases hlt:k<l.length
  ·obtain⟨ad,hAd,c0,c1,c2,c3⟩:=(h.upd hu (fun _ _=>id)).at_ hlt;obtain⟨x,hx⟩:∃x,l[k]=x:=⟨_,rfl⟩;rw[hx]at c0 c1 c2 c3;have hw:=ZjJ l key k;obtain⟨r,ky,tx,nt⟩:=x;have X:=Qh hx;clear hx;subst hAd
   cases r
   ·by_cases hk:ky=key
    ·have hkb:(ky==key)=true:=by simpa using hk
     have HS:=Qh (Zig (key:=key) hlt X.out (by unfold isW;rw[hkb];rfl));clear hk;go_wp2
     go_roundg (gk-1)
     case measure=>omega
     case rel=>exact⟨k+1,by omega,by go_num,by rw[HS.out];go_num,hu.alloc _⟩
    ·have hkb:(ky==key)=false:=by simpa using hk
     have HS:=Qh (ZeG (key:=key) hlt X.out (by unfold isW;rw[hkb];rfl));clear hk;go_wp2
     go_roundg (gk-1)
     case measure=>omega
     case rel=>exact⟨k+1,by omega,by go_num,by rw[HS.out],hu.alloc _⟩
   ·have HS:=Qh (ZeG (key:=key) hlt X.out rfl);go_wp2
    go_roundg (gk-1)
    case measure=>omega
    case rel=>exact⟨k+1,by omega,by go_num,by rw[HS.out],hu.alloc _⟩
  ·obtain rfl:k=l.length:=by omega
   go_wp2
   go_ret
   exact⟨rfl,hu⟩
def Z0 (h:Hist):Bool:=decide (h.txs.length≤12)&&decide (h.ords.length≤24)&&h.txs.all (fun t=>decide (t.ops.length≤24))&&h.ords.all (fun o=>decide (o.txs.length≤24))
end
/- Whether a history is light,by the document. -/
section
open Go.RowKit
theorem ZkR {α:Type} {l:List α} {p:α→Bool} {k:Nat} (hk:k<l.length) (h:(l.take k).all p=true) (h1:p l[k]=true):(l.take (k+1)).all p=true:=by
 rw[List.take_succ_eq_append_getElem hk,List.all_append,h];simp[h1]
theorem ZlP {α:Type} {l:List α} {p:α→Bool} {k:Nat} (hk:k<l.length) (h1:p l[k]=false):l.all p=false:=by
 rw[←Bool.not_eq_true];intro h;rw[List.all_eq_true.1 h _ (List.getElem_mem hk)]at h1
 cases h1
set_option maxRecDepth 100000 in
theorem Zry (F:Nat→Prop) (w:World) (h:Hist) (H:h.lies F w):Calls Tryz.prog 4 #[h.val] w fun e w'=>e= .returned (.bool (Z0 h))∧Upd No w w':=by
 obtain⟨txs,ords,A,c,B,d⟩:=h;unfold Hist.val;have hf:=H.few;have hfo:=H.fewo;simp only at hf hfo
 by_cases h1:12<txs.length
 ·have hv:=Qh (show Z0 ⟨txs,ords,A,c,B,d⟩=false by unfold Z0;rw[decide_eq_false (by simp only;omega)];rfl)
  go_enter Tryz.func4,Tryz.ntmps4
  go_wp2
  go_ret
  exact⟨by rw[hv.out];rfl,(Upd.refl _ _).alloc _⟩
 ·by_cases h2:24<ords.length
  ·have hv:=Qh (show Z0 ⟨txs,ords,A,c,B,d⟩=false by unfold Z0;rw[decide_eq_false (show¬ords.length≤24 by omega)];simp)
   go_enter Tryz.func4,Tryz.ntmps4
   go_wp2
   go_ret
   exact⟨by rw[hv.out];rfl,(Upd.refl _ _).alloc _⟩
  ·have hb:=Blk.new w 25 [.slice A txs.length c,.slice B ords.length d];have e0:(w.alloc (.cells #[.slice A txs.length c,.slice B ords.length d] 25)).cell? ⟨w.heap.size,1,none⟩=some (.slice B ords.length d):=hb.cell 1;have E0:=Qh e0;clear e0 hb
   go_enter Tryz.func4,Tryz.ntmps4
   go_wp2
   go_loopg [20] txs.length (fun gk i wr=>∃k:Nat,k+gk=txs.length∧i= .int .i64 k∧Hid ((txs.take k).all (fun t=>decide (t.ops.length≤24))=true)∧Upd No (w.alloc (.cells #[.slice A txs.length c,.slice B ords.length d] 25)) wr)
   case atStart=>exact⟨0,by omega,rfl,Qh (by simp),Upd.refl _ _⟩
   case round=>
    obtain⟨k,hgk,rfl,hall,hu⟩:=hrel;have hu0:Upd No w wr:=((Upd.refl No w).alloc _).trans hu
    by_cases hlt:k<txs.length
    ·obtain⟨ad,hAd,c0,c1,c2⟩:=(H.upd hu0 (fun _ _=>id)).tx_at hlt;simp only at hAd c0 c1 c2;obtain⟨x,hx⟩:∃x,txs[k]=x:=⟨_,rfl⟩;rw[hx]at c0 c1 c2;subst hAd;have X:=Qh hx;clear hx;have hfx:=((H.upd hu0 (fun _ _=>id)).tx x (by rw[←X.out];exact List.getElem_mem hlt)).2.2.1;unfold Zn at hfx
     by_cases ht:24<x.ops.length
     ·have hv:=Qh (show Z0 ⟨txs,ords,some ad,c,B,d⟩=false by
       unfold Z0;rw[ZlP (l:=txs) (k:=k) hlt (by rw[X.out];exact decide_eq_false (by omega))];simp)
      go_wp2
      go_ret
      exact⟨by rw[hv.out];rfl,hu0.alloc _⟩
     ·go_wp2
      go_roundg (gk-1)
      case measure=>omega
      case rel=>exact⟨k+1,by omega,by go_num,Qh (ZkR hlt hall.out (by rw[X.out];exact decide_eq_true (by omega))),hu.alloc _⟩
    ·obtain rfl:k=txs.length:=by omega
     have e1:wr.cell? ⟨w.heap.size,1,none⟩=some (.slice B ords.length d):=hu.keepNo E0.out;have hall1:=Qh (show txs.all (fun t=>decide (t.ops.length≤24))=true by have:=hall.out;rwa [List.take_length]at this);clear hall;go_wp2
     go_loopg [32] ords.length (fun gk i wr=>∃k:Nat,k+gk=ords.length∧i= .int .i64 k∧Hid ((ords.take k).all (fun t=>decide (t.txs.length≤24))=true)∧Upd No w wr)
     case atStart=>exact⟨0,by omega,rfl,Qh (by simp),hu0⟩
     case round=>
      obtain⟨k,hgk,rfl,hall,hu2⟩:=hrel
      by_cases hlt2:k<ords.length
      ·obtain⟨ad,hAd,c0,c1⟩:=(H.upd hu2 (fun _ _=>id)).ord_at hlt2;simp only at hAd c0 c1;obtain⟨x,hx⟩:∃x,ords[k]=x:=⟨_,rfl⟩;rw[hx]at c0 c1;subst hAd;have X:=Qh hx;clear hx;have hfx:=((H.upd hu2 (fun _ _=>id)).ord x (by rw[←X.out];exact List.getElem_mem hlt2)).2.2.1
       by_cases ht:24<x.txs.length
       ·have hv:=Qh (show Z0 ⟨txs,ords,A,c,some ad,d⟩=false by
         unfold Z0;rw[ZlP (l:=ords) (k:=k) hlt2 (by rw[X.out];exact decide_eq_false (by omega))];simp)
        go_wp2
        go_ret
        exact⟨by rw[hv.out];rfl,hu2.alloc _⟩
       ·go_wp2
        go_roundg (gk-1)
        case measure=>omega
        case rel=>exact⟨k+1,by omega,by go_num,Qh (ZkR hlt2 hall.out (by rw[X.out];exact decide_eq_true (by omega))),hu2.alloc _⟩
      ·obtain rfl:k=ords.length:=by omega
       have hv:=Qh (show Z0 ⟨txs,ords,A,c,B,d⟩=true by
        have h3:=hall.out;rw[List.take_length]at h3;unfold Z0;rw[decide_eq_true (show txs.length≤12 by omega),decide_eq_true (show ords.length≤24 by omega),hall1.out,h3];rfl)
       go_wp2
       go_ret
       exact⟨by rw[hv.out];rfl,hu2⟩
end
/- Queues and stacks:what they are in memory,and walks of the calls that only look. -/
section
open Go.RowKit
theorem ZmK:SlT Tryz.prog 43 3 1 8:=SlT.mk_ Tryz.underlying43 (z:= .int .i64 0) (by kernel_rfl) rfl (by omega)
def Pow (n:Nat):Prop:=n=0∨∃k,n=2 ^ k
def ZR (from_ i n:Nat):Nat:=(from_+i)%n
def grow (n:Nat):Nat:=if n=0 then 1 else 2*n
theorem Zpi (n:Nat):(if 1<(n:Int)*2 then (n:Int)*2 else 1)=((grow n:Nat):Int):=by
 unfold grow
 split<;>split<;>omega
theorem ZqS (n:Nat):1≤grow n∧grow n≤2*n+1∧n<grow n:=by unfold grow;split<;>omega
theorem Zkw {n:Nat} (h:Pow n):∃k,grow n=2 ^ k:=by
 unfold grow;rcases h with rfl|⟨k,rfl⟩
 ·exact⟨0,by simp⟩
 ·exact⟨k+1,by have:=Nat.one_le_two_pow (n:=k);rw[if_neg (by omega),Nat.pow_succ];omega⟩
theorem Zds (w:World) (g:Nat) (A:Option Addr) (n c k:Nat) (room cnt:Value) (fr:Nat) (i:Int) (hb:Blk w g 209 [room,.slice A n c,.int .u64 fr,cnt])
  (hn:n=2 ^ k) (hs:n≤1048576) (hi:0≤i) (hi2:i≤1048576) (hf:fr≤1048576):
  Calls Tryz.prog 159 #[.pointer (some ⟨g,0,none⟩),.int .i64 i] w fun e w'=>e= .returned (.int .u64 (ZR fr i.toNat n:Nat))∧∃q,w'=w.drewN q:=by
 have c1:=hb.cell 1;have c2:=hb.cell 2;simp only[Qz,Qs]at c1 c2;have hn0:1≤n:=by rw[hn];exact Nat.one_le_two_pow
 obtain⟨j,rfl⟩:=Int.eq_ofNat_of_zero_le hi
 have hbits:bits .and .u64 ((fr:Int)+j) ((n:Int)-1)=((ZR fr j n:Nat):Int):=by
  have h1:=u64_and_nat (fr+j) (n-1) (by omega) (by omega);rw[show((fr:Int)+j)=((fr+j:Nat):Int) by omega,show((n:Int)-1)=((n-1:Nat):Int) by omega,h1];unfold ZR;rw[hn,Nat.and_two_pow_sub_one_eq_mod]
 have Hb:=Qh hbits;have Hn:=Qh hn;clear hbits hn
 go_enter Tryz.func159,Tryz.ntmps159
 go_wp2
 go_quiet (fail)
 go_wp2
 go_ret
 exact⟨by rw[Hb.out];rfl,_,rfl⟩
def Que (w:World) (F:Nat→Prop) (g:Nat) (room:Int) (xs:List Int):Prop:=
 ∃(v:Value) (n:Nat) (ring:List Int) (fr:Nat),F g∧(∀k,v.ownBlock=some k→F k∧k≠g)∧(∀k,F k→k<w.heap.size)∧
  Blk w g 209 [.int .i64 room,v,.int .u64 ((fr:Nat):Int),.int .i64 xs.length]∧w.ownsRow 0 3 1 v n (ring.map (Value.int .i64))∧
  Pow n∧n≤131072∧fr≤n∧xs.length≤n∧∀i v,xs[i]? =some v→ring[ZR fr i n]? =some v
namespace Que
variable {w w':World} {F S:Nat→Prop} {g:Nat} {room:Int} {xs:List Int}
theorem upd (h:Que w F g room xs) (k:Upd S w w') (hn:∀i,F i→¬S i):Que w' F g room xs:=by
 obtain⟨v,n,ring,fr,h1,h2,h3,h4,h5,h6⟩:=h;exact⟨v,n,ring,fr,h1,h2,fun i hi=>Nat.lt_of_lt_of_le (h3 i hi) k.size,h4.upd k (hn _ h1),Za h5 k (fun i hi=>hn _ (h2 i hi).1),h6⟩
theorem lt (h:Que w F g room xs):∀i,F i→i<w.heap.size:=by
 obtain⟨v,n,ring,fr,h1,h2,h3,_⟩:=h;exact h3
end Que
theorem Zqk {fr i j n:Nat} (hij:i<j) (hj:j<n):ZR fr i n≠ZR fr j n:=fun e=>by
 unfold ZR at e;have h:=Nat.sub_mod_eq_zero_of_mod_eq e.symm;rw[show fr+j-(fr+i)=j-i by omega,Nat.mod_eq_of_lt (by omega)]at h;omega
theorem ZdR {fr i n:Nat} (h:0<n):ZR fr i n<n:=Nat.mod_lt _ h
theorem ZnD (n:Nat):(madeCells #[Value.int .i64 0] n).toList=(List.replicate n (0:Int)).map (Value.int .i64):=by
 apply List.ext_getElem
 ·simp[madeCells]
 ·intro i h1 h2;simp[madeCells,Nat.mod_one]
theorem Zlu {W:World} {F:Nat→Prop} {g gl n c fr:Nat} {room:Int} {xs ring:List Int} (x:Int)
  (hb:Blk W g 209 [.int .i64 room,.slice (some ⟨gl,0,none⟩) n c,.int .u64 ((fr:Nat):Int),.int .i64 xs.length])
  (ho:W.ownsRow 0 3 1 (.slice (some ⟨gl,0,none⟩) n c) n (ring.map (Value.int .i64))) (hne:gl≠g) (hF:F g) (hF2:F gl) (hF3:∀k,F k→k<W.heap.size)
  (hp:Pow n) (hn:n≤131072) (hfr:fr≤n) (hl:xs.length<n) (hr:∀i v,xs[i]? =some v→ring[ZR fr i n]? =some v):
  Que ((W.setCell ⟨gl,ZR fr xs.length n,none⟩ (.int .i64 x)).setCell ⟨g,3,none⟩ (.int .i64 ((xs.length:Int)+1))) F g room (xs++[x]):=by
 have hrl:ring.length=n:=by have:=ho.1;simpa using this
 have hsl:ZR fr xs.length n<n:=ZdR (by omega);have ho2:=(ho.stored (ZR fr xs.length n) (.int .i64 x)).1
 have ho3:=Za ho2 (((Upd.refl (One g) _).setOne 3 (.int .i64 ((xs.length:Int)+1)))) (fun i hi e=>by
  have e1:gl=i:=by simpa[Value.ownBlock]using hi
  have e2:i=g:=e;omega)
 refine⟨.slice (some ⟨gl,0,none⟩) n c,n,ring.set (ZR fr xs.length n) x,fr,hF,?_,?_,?_,?_,hp,hn,hfr,by simp;omega,?_⟩
 ·intro k hk;have e1:gl=k:=by simpa[Value.ownBlock]using hk
  exact⟨e1▸hF2,by omega⟩
 ·intro k hk;simpa[World.setCell]using hF3 k hk
 ·have:=(hb.far (p:=⟨gl,ZR fr xs.length n,none⟩) (Ne.symm hne) (.int .i64 x)).set_ 3 (.int .i64 ((xs.length:Int)+1))
  simpa using this
 ·rw[List.map_set];exact ho3
 ·intro i v hi;rw[List.getElem?_append]at hi
  split at hi
  ·rename_i hil
   rw[List.getElem?_set_ne (Ne.symm (Zqk hil hl))];exact hr i v hi
  ·have hi0:i=xs.length:=by
    have:=(List.getElem?_eq_some_iff.1 hi).1;simp at this;omega
   subst hi0;simp at hi;subst hi;rw[List.getElem?_set_self (by omega)]
theorem ZoJ (w:World) (F:Nat→Prop) (g:Nat) (room:Int) (xs:List Int) (h:Que w F g room xs):
  Calls Tryz.prog 189 #[.pointer (some ⟨g,0,none⟩)] w fun e w'=>e= .returned (.int .i64 xs.length)∧w=w':=by
 obtain⟨v,n,ring,fr,h1,h2,h3,h4,h5,h6⟩:=h;have c3:=h4.cell 3;simp only[Qz,Qs]at c3;clear h2 h3 h6
 go_enter Tryz.func189,Tryz.ntmps189
 go_wp2
 go_ret
 exact⟨rfl,rfl⟩
theorem ZsO (w:World) (F:Nat→Prop) (g:Nat) (room:Int) (xs:List Int) (h:Que w F g room xs) (hr:0≤room) (hr2:room≤65536):
  Calls Tryz.prog 157 #[.pointer (some ⟨g,0,none⟩)] w fun e w'=>e= .returned (.int .i64 (room-xs.length))∧∃q,w'=w.drewN q:=by
 obtain⟨v,n,ring,fr,h1,h2,h3,h4,h5,h6,h7,h8,h9,_⟩:=h;have c3:=h4.cell 3;have c0:=h4.cell 0;simp only[Qz,Qs]at c3 c0;clear h2 h3 h6
 go_enter Tryz.func157,Tryz.ntmps157
 go_wp2
 go_quiet (fail)
 go_wp2
 go_ret
 exact⟨rfl,_,rfl⟩
set_option maxHeartbeats 1000000 in
set_option maxRecDepth 100000 in
theorem ZsP (w:World) (F:Nat→Prop) (g:Nat) (room:Int) (xs:List Int) (h:Que w F g room xs):
  Calls Tryz.prog 158 #[.pointer (some ⟨g,0,none⟩)] w fun e w'=>∃A c,e= .returned (.slice A xs.length c)∧Ints (fun i=>w.heap.size≤i) w' A xs∧Upd No w w':=by
 go_enter Tryz.func158,Tryz.ntmps158
 go_wp2_with fail
 refine(ZoJ _ F _ _ _ h).mono ?_;rintro e w' ⟨rfl,rfl⟩;go_wp2;have hlen:xs.length≤131072:=by obtain⟨v,n,ring,fr,_,_,_,_,_,_,h7,_,h9,_⟩:=h;omega
 go_loopg [3,4,7] xs.length (fun gk l j i wr=>∃k:Nat,k+gk=xs.length∧i= .int .i64 k∧wr.ownsRow w.heap.size 3 1 l k ((xs.take k).map (Value.int .i64))∧Upd No w wr)
 case atStart=>exact⟨0,by omega,rfl,by simpa using World.ownsRow_nil _ _ _ _,Upd.refl _ _⟩
 case round=>
  obtain⟨k,hgk,rfl,hor,hur⟩:=hrel;have hsz:=hur.size
  by_cases hlt:k<xs.length
  ·obtain⟨v,n,ring,fr,h1,h2,h3,h4,h5,h6,h7,h8,h9,h10⟩:=h.upd hur (fun _ _=>id);obtain⟨gl,cap,rfl,hbl,hll⟩:=h5.form (by omega);have hgl:=h2 gl rfl;have hx:xs[k]? =some xs[k]:=Qg hlt;have hr:=h10 k xs[k] hx;have hrl:=(List.getElem?_eq_some_iff.1 hr).1;have hcell:=h5.cells (g:=gl) rfl (ZR fr k n) (.int .i64 xs[k]) (by rw[List.getElem?_map,hr];rfl);have hfl:=h.lt g h1;have hfl2:=h.lt gl hgl.1;have c1:=h4.cell 1;simp only[Qz,Qs]at c1;rcases h6 with h6|⟨kk,h6⟩
   ·omega
   have Hx:=Qh hx;have Hr:=Qh hr;have H6:=Qh h6;have e1:(⟨gl,0,none⟩:Addr).add (ZR fr k n)=⟨gl,ZR fr k n,none⟩:=by unfold Addr.add;split<;>simp_all
   rw[e1]at hcell;clear hx hr h6 h10 h2 h3 e1;have hsp:((ZR fr k n:Nat):Int)<(n:Int):=by have:=Nat.mod_lt (fr+k) (show 0<n by omega);unfold ZR;omega
   have hsp0:(0:Int)≤((ZR fr k n:Nat):Int):=Qn _;have hno:∀i,Own u3 i→w.heap.size≤i:=fun i e=>(hor.lt i e).1
   go_wp2
   go_region_held3 (fun w'=>Blk w' g 209 [.int .i64 room,.slice (some ⟨gl,0,none⟩) n cap,.int .u64 (fr:Int),.int .i64 xs.length]∧w'.cell? ⟨g,1,none⟩=some (.slice (some ⟨gl,0,none⟩) n cap)∧w'.cell? ⟨gl,ZR fr k n,none⟩=some (.int .i64 xs[k]))
    (first|exact⟨h4,c1,hcell⟩|(go_split_ands;refine⟨?_,?_,?_⟩<;>first|assumption|(apply Blk.alloc;assumption)|(apply Blk.drew;assumption)|(exact Blk.upd (by assumption) hupd1 (fun e=>by have:=hno _ e;omega))|(exact hupd1.keep (by assumption) (fun e=>by have:=hno _ e;simp at this;omega))|go_keep)) (first|(refine Zek (by rfl) (by rfl) ZmK (by rfl) (by rfl) (by exact hor.alloc _) rfl (by exact Zdb) (by rfl) (by omega) (by omega) (by exact(Upd.refl No w |>.trans hur |>.alloc _).size) ?_;intro gn capn w1 hown1 hupd1 hgrew1 hlt1)|(go_at_call 159;refine(Zds _ g _ n cap kk _ _ fr _ (by assumption) H6.out (by omega) (by omega) (by omega) (by omega)).mono ?_;rintro e w' ⟨rfl,q,rfl⟩))
   go_wp2
   go_roundg (gk-1)
   case measure=>omega
   case rel=>
    refine⟨k+1,by omega,by go_num,?_,(hur.alloc _).trans_ (hupd1.of_drewN) (fun i hi e=>by have:=hno _ e;omega)⟩;rw[List.take_succ_eq_append_getElem hlt,List.map_append];exact hown1
  ·obtain rfl:k=xs.length:=by omega
   obtain⟨A,c,rfl⟩:=ZaE hor;have hx:=Ints.of_own hor;rw[List.take_length]at hx;go_wp2
   go_ret
   exact⟨A,c,rfl,hx,hur⟩
end
/- Queues:a number is put in. -/
section
open Go.RowKit
set_option maxRecDepth 100000 in
theorem ZpT (w:World) (F:Nat→Prop) (g:Nat) (room:Int) (xs:List Int) (x:Int) (h:Que w F g room xs) (hr:0≤room) (hr2:room≤65536) (hf:(xs.length:Int)<room):
  Calls Tryz.prog 130 #[.pointer (some ⟨g,0,none⟩),.int .i64 x] w fun e w'=>e= .returned (.int .i64 0)∧
   ∃F',(∀i,F' i→F i∨w.heap.size≤i)∧Que w' F' g room (xs++[x])∧Upd F w w':=by
 have hz:(room-(xs.length:Int)==0)=false:=by rw[beq_eq_false_iff_ne];omega
 go_enter Tryz.func130,Tryz.ntmps130
 go_wp2_with fail
 refine(ZsO _ F _ _ _ h hr hr2).mono ?_;rintro e w' ⟨rfl,q,rfl⟩;obtain⟨v,n,ring,fr,h1,h2,h3,h4,h5,h6,h7,h8,h9,h10⟩:=id h;obtain⟨A,c,rfl⟩:=ZaE h5;have c1:=h4.cell 1;have c3:=h4.cell 3;simp only[Qz,Qs]at c1 c3
 by_cases hful:xs.length=n
 ·have hbf:((xs.length:Int)==(n:Int))=true:=by rw[beq_iff_eq];omega
  have Hful:=Qh hful;clear hful;go_wp2
  go_quiet (fail)
  go_wp2_with fail
  refine(ZsP _ F _ _ _ (h.upd ((Upd.refl No w).drewN _) (fun _ _=>id))).mono ?_;rintro e w2 ⟨A2,cc2,rfl,hx2,hu2⟩;have hu2':Upd No w w2:=hu2.of_drewN;have hsz2':=hu2'.size
  replace hx2:Ints (fun i=>w.heap.size≤i) w2 A2 xs:=hx2
  have hb2:=h4.upd hu2' id;have d0:=hb2.cell 0;have d1:=hb2.cell 1;have d2:=hb2.cell 2;have d3:=hb2.cell 3;have f1:=hb2.free 1;have f2:=hb2.free 2;simp only[Qz,Qs]at d0 d1 d2 d3;clear c1 c3;have hg:=ZqS xs.length;have hM:=Zpi xs.length;have hmk:=fun W=>ZjU W ZmK (z:= .int .i64 0) (by kernel_rfl) (grow xs.length) (by omega) (by omega)
  have hgl2:=hb2.lt;have hne1:=World.new_ne w2 _ d1;have hlm:(madeCells #[Value.int .i64 0] (grow xs.length)).toList.length=grow xs.length:=by simp[madeCells]
  have Hlm:=Qh hlm;clear hlm;have hgw:g<w.heap.size:=h4.lt
  go_upto_region 6 with (fail)
  iterate 16 go_step
  refine Ztj rfl rfl ZmK rfl rfl (dc:=(madeCells #[.int .i64 0] (grow xs.length)).toList) (sc:=xs.map (Value.int .i64)) (t:=3) (by exact Blk.new_at (by simp)) (by rw[Hlm.out];omega) (by simp) (by omega) (by exact((hx2.upd (((Upd.refl (One g) w2).setOne _ _).setOne _ _ |>.alloc _) (fun i hi e=>by have:i=g:=e;omega))).vals) (Ints.one_ xs) ?_;intro w3 hb3 hu3;simp only[Act.put,List.setIfInBounds_toArray,List.set_cons_succ,List.set_cons_zero];have hbx:=((((hb2.set_ 1 (.slice (some ⟨w2.heap.size,0,none⟩) (grow xs.length) (grow xs.length))).set_ 2 (.int .u64 0)).alloc (.cells (madeCells #[.int .i64 0] (grow xs.length)) 3)).upd hu3 (fun e=>by have:g=w2.heap.size:=e;omega));simp only[List.set_cons_zero,List.set_cons_succ]at hbx;have hu3':Upd (One g) w w3:=(((((Upd.refl (One g) w2).setOne 1 _).setOne 2 _).alloc _).trans_ hu3 (fun i hi e=>by have:i=w2.heap.size:=e;omega)) |> fun k=>(hu2'.mono (fun _ _ e=>e.elim)).trans k
  clear hb2 d0 d1 d2 d3 f1 f2 hu3 hu2' hu2 hmk hM hx2 h4 h5;have c1:=hbx.cell 1;have c3:=hbx.cell 3;have f3:=hbx.free 3;simp only[Qz,Qs]at c1 c3;have h6':=h6;rw[←Hful.out]at h6';have hsz2:w.heap.size≤w2.heap.size:=hsz2';obtain⟨kk,hkk⟩:=Zkw h6';have Hkk:=Qh hkk;have hsp:((ZR 0 xs.length (grow xs.length):Nat):Int)<((grow xs.length:Nat):Int):=by have:=Nat.mod_lt (0+xs.length) (show 0<grow xs.length by omega);unfold ZR;omega
  have hsp0:(0:Int)≤((ZR 0 xs.length (grow xs.length):Nat):Int):=Qn _;have fr3:=hb3.free (ZR 0 xs.length (grow xs.length))
  obtain⟨v0,cr⟩:∃v0,w3.cell? ⟨w2.heap.size,ZR 0 xs.length (grow xs.length),none⟩=some v0:=by
   rw[hb3.cell,Qg (by rw[List.length_append,List.length_drop,List.length_map,Hlm.out];omega)];exact⟨_,rfl⟩
  clear hkk
  go_upto_region 7 with (fail)
  go_region_held3 (fun w'=>Blk w' g 209 [.int .i64 room,.slice (some ⟨w2.heap.size,0,none⟩) (grow xs.length) (grow xs.length),.int .u64 0,.int .i64 xs.length]∧w'.cell? ⟨g,1,none⟩=some (.slice (some ⟨w2.heap.size,0,none⟩) (grow xs.length) (grow xs.length))∧w'.cell? ⟨g,3,none⟩=some (.int .i64 xs.length))
   (first|exact⟨hbx,c1,c3⟩|(go_split_ands;refine⟨?_,?_,?_⟩<;>first|assumption|(exact Blk.far (by assumption) (by simp;omega) _)|(rw[World.cell?_setCell_far _ _ _ _ (by simp;omega)];assumption)|go_keep))
   (first|(go_at_call 159;refine(Zds _ g _ (grow xs.length) (grow xs.length) kk _ _ 0 _ (by assumption) Hkk.out (by omega) (by omega) (by omega) (by omega)).mono ?_;rintro e w' ⟨rfl,q,rfl⟩))
  go_wp2
  go_ret
  refine⟨rfl,fun i=>i=g∨i=w2.heap.size,?_,?_,?_⟩
  ·rintro i (rfl|rfl)
   ·exact .inl h1
   ·exact .inr hsz2
  ·have ho:w3.ownsRow 0 3 1 (.slice (some ⟨w2.heap.size,0,none⟩) (grow xs.length) (grow xs.length)) (grow xs.length) ((xs++List.replicate (grow xs.length-xs.length) (0:Int)).map (Value.int .i64)):=by
    refine⟨by simp;omega,.inr ⟨w2.heap.size,_,_,rfl,Nat.zero_le _,hb3,Nat.le_refl _,by simp only[maxLen];omega,?_,?_⟩⟩
    ·simp[Hlm.out];omega
    ·rw[ZnD,Nat.mul_one,List.take_of_length_le (by simp;omega),←List.map_drop,List.drop_replicate,List.map_append]
   have hb3':Blk w3 g 209 [.int .i64 room,.slice (some ⟨w2.heap.size,0,none⟩) (grow xs.length) (grow xs.length),.int .u64 ((0:Nat):Int),.int .i64 xs.length]:=hbx
   have hq:=Zlu (F:=fun i=>i=g∨i=w2.heap.size) x hb3' ho (by omega) (.inl rfl) (.inr rfl) (by rintro k (rfl|rfl);exact hbx.lt;exact hb3.lt) (.inr (Zkw h6')) (by omega) (by omega) (by omega) (fun i v hi=>by
    have hil:=(List.getElem?_eq_some_iff.1 hi).1;have e1:ZR 0 i (grow xs.length)=i:=by unfold ZR;rw[Nat.zero_add,Nat.mod_eq_of_lt (by omega)]
    rw[e1,List.getElem?_append_left hil];exact hi)
   exact hq
  ·refine(((hu3'.mono (fun i _ (e:i=g)=>e▸h1)).drewN _).setCell (p:=⟨w2.heap.size,_,none⟩) (.inr hsz2) _).setCell (p:=⟨g,3,none⟩) (.inl h1) _
 ·have hbf:((xs.length:Int)==(n:Int))=false:=by rw[beq_eq_false_iff_ne];omega
  obtain⟨gl,cap,hv,_,hll⟩:=h5.form (by omega);simp only[Value.slice.injEq]at hv;obtain⟨rfl,_,rfl⟩:=hv;have hgl:=h2 gl rfl;have hsp:((ZR fr xs.length n:Nat):Int)<(n:Int):=by have:=ZdR (fr:=fr) (i:=xs.length) (show 0<n by omega);omega
  have hsp0:(0:Int)≤((ZR fr xs.length n:Nat):Int):=Qn _;have hspn:=ZdR (fr:=fr) (i:=xs.length) (show 0<n by omega);have hrl:ring.length=n:=by have:=h5.1;simpa using this
  have Hrl:=Qh hrl;have f3:=h4.free 3;have fr3:=h5.frozenAt (ZR fr xs.length n);have hcr:=h5.cellAt (ZR fr xs.length n) (by omega)
  obtain⟨v0,cr⟩:∃v0,w.cell? ⟨gl,ZR fr xs.length n,none⟩=some v0:=by
   rw[hcr,Qg (by rw[List.length_map];omega)];exact⟨_,rfl⟩
  obtain⟨kk,hkk⟩:∃kk,n=2 ^ kk:=h6.resolve_left (by omega);have Hkk:=Qh hkk;have hbx:=h4;have hgg:=h4.lt;clear hkk hrl hcr;go_wp2
  go_quiet (fail)
  go_upto_region 7 with (fail)
  go_region_held3 (fun w'=>Blk w' g 209 [.int .i64 room,.slice (some ⟨gl,0,none⟩) n c,.int .u64 (fr:Int),.int .i64 xs.length]∧w'.cell? ⟨g,1,none⟩=some (.slice (some ⟨gl,0,none⟩) n c)∧w'.cell? ⟨g,3,none⟩=some (.int .i64 xs.length))
   (first|exact⟨hbx,c1,c3⟩|(go_split_ands;refine⟨?_,?_,?_⟩<;>first|assumption|(exact Blk.far (by assumption) (by simp;omega) _)|(rw[World.cell?_setCell_far _ _ _ _ (by simp;omega)];assumption)|go_keep))
   (first|(go_at_call 159;refine(Zds _ g _ n c kk _ _ fr _ (by assumption) Hkk.out (by omega) (by omega) (by omega) (by omega)).mono ?_;rintro e w' ⟨rfl,q,rfl⟩))
  go_wp2
  go_ret
  refine⟨rfl,F,fun i hi=> .inl hi,?_,?_⟩
  ·exact Zlu x hbx h5 hgl.2 h1 hgl.1 h3 h6 h7 h8 (by omega) h10
  ·exact(((Upd.refl F w).drewN _).setCell (p:=⟨gl,_,none⟩) (.inl hgl.1) _).setCell (p:=⟨g,3,none⟩) (.inl h1) _
end
/- Queues:what is first,and taken. Stacks. -/
section
open Go.RowKit
theorem Zk2 (w:World) (F:Nat→Prop) (g:Nat) (room:Int) (h:Que w F g room []):
  Calls Tryz.prog 160 #[.pointer (some ⟨g,0,none⟩)] w fun e w'=>e= .returned (.tuple #[.int .i64 0,.bool false])∧w=w':=by
 go_enter Tryz.func160,Tryz.ntmps160
 go_wp2_with fail
 refine(ZoJ _ F _ _ _ h).mono ?_;rintro e w' ⟨rfl,rfl⟩;go_wp2
 go_ret2
 exact⟨rfl,rfl⟩
theorem ZrM (w:World) (F:Nat→Prop) (g:Nat) (room:Int) (x:Int) (xs:List Int) (h:Que w F g room (x::xs)):
  Calls Tryz.prog 160 #[.pointer (some ⟨g,0,none⟩)] w fun e w'=>e= .returned (.tuple #[.int .i64 x,.bool true])∧∃q,w'=w.drewN q:=by
 have hz:((((x::xs).length:Nat):Int)==0)=false:=by rw[beq_eq_false_iff_ne];simp only[List.length_cons];omega
 have hx0:(x::xs)[0]? =some x:=rfl;have Hx:=Qh hx0;clear hx0
 generalize x::xs=l at*
 obtain⟨v,n,ring,fr,h1,h2,h3,h4,h5,h6,h7,h8,h9,h10⟩:=id h;have hl0:=(List.getElem?_eq_some_iff.1 Hx.out).1;have hr:=h10 0 x Hx.out;obtain⟨gl,cap,rfl,_,hll⟩:=h5.form (by omega);obtain⟨kk,hkk⟩:∃kk,n=2 ^ kk:=h6.resolve_left (by omega);have Hkk:=Qh hkk;have c1:=h4.cell 1;simp only[Qz,Qs]at c1
 have cr:w.cell? ⟨gl,ZR fr 0 n,none⟩=some (.int .i64 x):=by
  rw[h5.cellAt _ (by have:=ZdR (fr:=fr) (i:=0) (show 0<n by omega);omega),List.getElem?_map,hr];rfl
 have hsp:((ZR fr 0 n:Nat):Int)<(n:Int):=by have:=ZdR (fr:=fr) (i:=0) (show 0<n by omega);omega
 have hsp0:(0:Int)≤((ZR fr 0 n:Nat):Int):=Qn _;clear hkk hr h10 h2 h3
 go_enter Tryz.func160,Tryz.ntmps160
 go_wp2_with fail
 refine(ZoJ _ F _ _ _ h).mono ?_;rintro e w' ⟨rfl,rfl⟩;go_wp2
 go_quiet ((go_at_call 159;go_loud (exact Calls.quiet_of (Zds _ g _ n cap kk _ _ fr 0 (h4.drewN _) Hkk.out (by omega) (by omega) (by omega) (by omega)))))
 go_wp2
 go_ret2
 exact⟨rfl,_,rfl⟩
theorem Zqx {W:World} {F:Nat→Prop} {g gl n c fr:Nat} {room:Int} {x:Int} {xs ring:List Int}
  (hb:Blk W g 209 [.int .i64 room,.slice (some ⟨gl,0,none⟩) n c,.int .u64 ((fr:Nat):Int),.int .i64 (x::xs).length])
  (ho:W.ownsRow 0 3 1 (.slice (some ⟨gl,0,none⟩) n c) n (ring.map (Value.int .i64))) (hne:gl≠g) (hF:F g) (hF2:F gl) (hF3:∀k,F k→k<W.heap.size)
  (hp:Pow n) (hn:n≤131072) (hfr:fr≤n) (hl:(x::xs).length≤n) (hr:∀i v,(x::xs)[i]? =some v→ring[ZR fr i n]? =some v) (cnt:Int) (hcnt:cnt=xs.length):
  Que ((W.setCell ⟨g,2,none⟩ (.int .u64 ((ZR fr 1 n:Nat):Int))).setCell ⟨g,3,none⟩ (.int .i64 cnt)) F g room xs:=by
 subst hcnt;simp only[List.length_cons]at hl;refine⟨.slice (some ⟨gl,0,none⟩) n c,n,ring,ZR fr 1 n,hF,?_,?_,?_,?_,hp,hn,Nat.le_of_lt (ZdR (by omega)),by omega,?_⟩
 ·intro k hk;have e1:gl=k:=by simpa[Value.ownBlock]using hk
  exact⟨e1▸hF2,by omega⟩
 ·intro k hk;simpa[World.setCell]using hF3 k hk
 ·simpa using(hb.set_ 2 (.int .u64 ((ZR fr 1 n:Nat):Int))).set_ 3 (.int .i64 (xs.length:Int))
 ·exact Za ho ((((Upd.refl (One g) _).setOne 2 _).setOne 3 _)) (fun i hi e=>by
   have e1:gl=i:=by simpa[Value.ownBlock]using hi
   have e2:i=g:=e;omega)
 ·intro i v hi;have:=hr (i+1) v (by simpa using hi);rw[←this]
  congr 1
  unfold ZR;rw[Nat.mod_add_mod,Nat.add_assoc,Nat.add_comm 1 i]
theorem ZiQ (w:World) (F:Nat→Prop) (g:Nat) (room:Int) (h:Que w F g room []):
  Calls Tryz.prog 131 #[.pointer (some ⟨g,0,none⟩)] w fun e w'=>e= .returned (.tuple #[.int .i64 0,.bool false])∧w=w':=by
 go_enter Tryz.func131,Tryz.ntmps131
 go_wp2_with fail
 refine(Zk2 _ F _ _ h).mono ?_;rintro e w' ⟨rfl,rfl⟩;go_wp2
 go_ret2
 exact⟨rfl,rfl⟩
theorem ZrK (w:World) (F:Nat→Prop) (g:Nat) (room:Int) (x:Int) (xs:List Int) (h:Que w F g room (x::xs)):
  Calls Tryz.prog 131 #[.pointer (some ⟨g,0,none⟩)] w fun e w'=>e= .returned (.tuple #[.int .i64 x,.bool true])∧Que w' F g room xs∧Upd F w w':=by
 obtain⟨v,n,ring,fr,h1,h2,h3,h4,h5,h6,h7,h8,h9,h10⟩:=id h;have hl:0<(x::xs).length:=by simp
 have hl2:(x::xs).length=xs.length+1:=rfl;obtain⟨gl,cap,rfl,_,hll⟩:=h5.form (by omega);obtain⟨kk,hkk⟩:∃kk,n=2 ^ kk:=h6.resolve_left (by omega);have Hkk:=Qh hkk;have c3:=h4.cell 3;have c2:=h4.cell 2;have f3:=h4.free 3;have f2:=h4.free 2;simp only[Qz,Qs]at c2 c3;have hcnt:=Qh (show(((x::xs).length:Nat):Int)-1=xs.length by rw[hl2];omega);have hb1:1≤(((x::xs).length:Nat):Int):=by omega
 have hb2:(((x::xs).length:Nat):Int)≤131072:=by omega
 clear hkk hl hl2
 generalize hxl:(((x::xs).length:Nat):Int)=L at c3 hcnt hb1 hb2
 have Hxl:=Qh hxl;clear hxl
 go_enter Tryz.func131,Tryz.ntmps131
 go_wp2_with fail
 refine(ZrM _ F _ _ _ _ h).mono ?_;rintro e w' ⟨rfl,q,rfl⟩
 go_wp2_with fail
 refine(Zds _ g _ n cap kk _ _ fr 1 (h4.drewN _) Hkk.out (by omega) (by omega) (by omega) (by omega)).mono ?_;rintro e w' ⟨rfl,q2,rfl⟩;go_wp2
 go_ret2
 refine⟨rfl,?_,?_⟩
 ·exact Zqx h4 h5 (h2 gl rfl).2 h1 (h2 gl rfl).1 h3 h6 h7 h8 h9 h10 _ hcnt.out
 ·exact(((Upd.refl F w).drewN _).setCell (p:=⟨g,2,none⟩) (.inl h1) _).setCell (p:=⟨g,3,none⟩) (.inl h1) _
def Zcn (n:Int):Int:=max 0 (min n 65536)
theorem Zl3 (k:IntKind) {a b:Int} (h:a=b):Ending.returned (.int k a)=Ending.returned (.int k b):=by rw[h]
theorem ZlR (w:World) (n:Int):Calls Tryz.prog 156 #[.int .i64 n] w fun e w'=>e= .returned (.int .i64 (Zcn n))∧w=w':=by
 by_cases h1:n<0
 ·go_enter Tryz.func156,Tryz.ntmps156
  go_wp2
  go_ret
  exact⟨Zl3 _ (by unfold Zcn;omega),rfl⟩
 ·by_cases h2:65536<n
  ·go_enter Tryz.func156,Tryz.ntmps156
   go_wp2
   go_ret
   exact⟨Zl3 _ (by unfold Zcn;omega),rfl⟩
  ·go_enter Tryz.func156,Tryz.ntmps156
   go_wp2
   go_ret
   exact⟨Zl3 _ (by unfold Zcn;omega),rfl⟩
theorem ZrL (w:World) (n:Int):Calls Tryz.prog 128 #[.int .i64 n] w fun e w'=>∃g,e= .returned (.pointer (some ⟨g,0,none⟩))∧w.heap.size≤g∧Que w' (One g) g (Zcn n) []∧Upd No w w':=by
 go_enter Tryz.func128,Tryz.ntmps128
 go_wp2_with fail
 refine(ZlR _ _).mono ?_;rintro e w' ⟨rfl,rfl⟩;go_wp2
 go_ret
 refine⟨_,rfl,Nat.le_refl _,⟨.slice none 0 0,0,[],0,rfl,?_,?_,Blk.new _ _ _,by simpa using World.ownsRow_nil _ _ _ _,.inl rfl,by omega,by omega,by simp,by simp⟩,(Upd.refl _ _).alloc _⟩
 ·intro k hk;simp[Value.ownBlock]at hk
 ·intro k hk;have:k=w.heap.size:=hk;simp;omega
end
end Go.Proofs.YticmndpiehinjaaGreat
