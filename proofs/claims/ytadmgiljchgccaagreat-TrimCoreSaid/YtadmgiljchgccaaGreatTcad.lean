/- Histories: how operations, transactions, orders and histories lie in memory. -/
import Derived.Test.YtadmgiljchgccaaGreatTcab
namespace Go.Proofs.YtadmgiljchgccaaGreat
open Go.RowKit
set_option linter.unusedVariables false
set_option linter.unusedSimpArgs false
set_option maxRecDepth 100000
set_option maxHeartbeats 1000000
def i64(n:Int):Prop:= -9223372036854775808<=n∧n<=9223372036854775807
structure HOp where
 read:Bool
 key:Int
 tx:Int
 nth:Int
deriving DecidableEq
def HOp.cells(o:HOp):Ip:=[.bool o.read,Qi o.key,Qi o.tx,Qi o.nth]
def HOp.ok(o:HOp):Prop:=i64 o.key∧i64 o.tx∧i64 o.nth
structure Ver where
 tx:Int
 key:Int
 nth:Int
deriving DecidableEq
def Ver.cells(v:Ver):Ip:=[Qi v.tx,Qi v.key,Qi v.nth]
def HOps(F:Iw)(w:I0)(A:OA)(l:List HOp):Prop:=Recs F w A 4 (l.map HOp.cells)
structure HTx where
 id:Int
 done:Bool
 ops:List HOp
 A:Option Addr
 c:Nat
def HTx.cells(t:HTx):Ip:=[Qi t.id,.bool t.done,.slice t.A t.ops.length t.c]
def Zt(n:Nat):Prop:=n<=4398046511103
def HTx.lies(F:Iw)(w:I0)(t:HTx):Prop:=HOps F w t.A t.ops∧t.ops.length<=t.c∧Zt t.ops.length∧i64 t.id∧∀o∈t.ops,o.ok
structure HOrd where
 key:Int
 txs:List Int
 A:Option Addr
 c:Nat
def HOrd.cells(o:HOrd):Ip:=[Qi o.key,.slice o.A o.txs.length o.c]
def HOrd.lies(F:Iw)(w:I0)(o:HOrd):Prop:=Ints F w o.A o.txs∧o.txs.length<=o.c∧o.txs.length<=17592186044415∧i64 o.key∧∀n∈o.txs,i64 n
structure Hist where
 txs:List HTx
 ords:List HOrd
 A:Option Addr
 c:Nat
 B:Option Addr
 d:Nat
def Hist.val(h:Hist):Iz:= .agg #[.slice h.A h.txs.length h.c,.slice h.B h.ords.length h.d]
def Hist.cells(h:Hist):Ip:=[.slice h.A h.txs.length h.c,.slice h.B h.ords.length h.d]
structure Hist.lies (F:Nat->Prop) (w:World) (h:Hist):Prop where
 txs:Recs F w h.A 3 (h.txs.map HTx.cells)
 ords:Recs F w h.B 2 (h.ords.map HOrd.cells)
 tx:∀t∈h.txs,t.lies F w
 ord:∀o∈h.ords,o.lies F w
 c:h.txs.length<=h.c
 d:h.ords.length<=h.d
 few:h.txs.length<=4398046511103
 fewo:h.ords.length<=4398046511103
section
variable {F S:Iw} {w w':I0}
theorem HOps.upd{A:OA}{l:List HOp}(h:HOps F w A l)(k:Upd S w w')(hn:∀i,F i->¬S i):HOps F w' A l:=Recs.upd h k hn
theorem HTx.lies.upd{t:HTx}(h:t.lies F w)(k:Upd S w w')(hn:∀i,F i->¬S i):t.lies F w':=⟨HOps.upd h.1 k hn,h.2⟩
theorem HOrd.lies.upd{o:HOrd}(h:o.lies F w)(k:Upd S w w')(hn:∀i,F i->¬S i):o.lies F w':=⟨h.1.upd k hn,h.2⟩
theorem Hist.lies.upd{h:Hist}(H:h.lies F w)(k:Upd S w w')(hn:∀i,F i->¬S i):h.lies F w':=
 ⟨Recs.upd H.txs k hn,Recs.upd H.ords k hn,fun t ht=>(H.tx t ht).upd k hn,fun o ho=>(H.ord o ho).upd k hn,H.c,H.d,H.few,H.fewo⟩
theorem HOps.at_{A:OA}{l:List HOp}(h:HOps F w A l){k:Nat}(hk:k<l.length):∃ad,A=some ad∧
  w.cell? (ad.add (k*4))=some (.bool l[k].read)∧w.cell? ⟨(ad.add (k*4)).block,(ad.add (k*4)).off+1,none⟩=some (Qi l[k].key)∧
  w.cell? ⟨(ad.add (k*4)).block,(ad.add (k*4)).off+2,none⟩=some (Qi l[k].tx)∧w.cell? ⟨(ad.add (k*4)).block,(ad.add (k*4)).off+3,none⟩=some (Qi l[k].nth):=by
 have dJ:k<(l.map HOp.cells).length:=by simpa using hk
 obtain⟨ad,e,_,_,hc⟩:=Recs.at_ h dJ;rw[G8]at hc;exact⟨ad,e,by simpa using hc 0 _ rfl,by simpa using hc 1 _ rfl,by simpa using hc 2 _ rfl,by simpa using hc 3 _ rfl⟩
theorem Hist.lies.tx_at{h:Hist}(H:h.lies F w){k:Nat}(hk:k<h.txs.length):∃ad,h.A=some ad∧
  w.cell? (ad.add (k*3))=some (Qi h.txs[k].id)∧w.cell? ⟨(ad.add (k*3)).block,(ad.add (k*3)).off+1,none⟩=some (.bool h.txs[k].done)∧
  w.cell? ⟨(ad.add (k*3)).block,(ad.add (k*3)).off+2,none⟩=some (.slice h.txs[k].A h.txs[k].ops.length h.txs[k].c):=by
 have dJ:k<(h.txs.map HTx.cells).length:=by simpa using hk
 obtain⟨ad,e,_,_,hc⟩:=Recs.at_ H.txs dJ;rw[G8]at hc;exact⟨ad,e,by simpa using hc 0 _ rfl,by simpa using hc 1 _ rfl,by simpa using hc 2 _ rfl⟩
theorem Hist.lies.ord_at{h:Hist}(H:h.lies F w){k:Nat}(hk:k<h.ords.length):∃ad,h.B=some ad∧
  w.cell? (ad.add (k*2))=some (Qi h.ords[k].key)∧w.cell? ⟨(ad.add (k*2)).block,(ad.add (k*2)).off+1,none⟩=some (.slice h.ords[k].A h.ords[k].txs.length h.ords[k].c):=by
 have dJ:k<(h.ords.map HOrd.cells).length:=by simpa using hk
 obtain⟨ad,e,_,_,hc⟩:=Recs.at_ H.ords dJ;rw[G8]at hc;exact⟨ad,e,by simpa using hc 0 _ rfl,by simpa using hc 1 _ rfl⟩
end
def Zk(o:HOp):Ver:=if o.read then ⟨o.tx,o.key,o.nth⟩ else ⟨0,0,0⟩
def idB(n:Int):Bool:=decide (1<=n)&&decide (n<=1048575)
def ZbO(v:Ver):Bool:=idB v.key&&((v.tx==0&&v.nth==0)||(idB v.tx&&decide (1<=v.nth)&&decide (v.nth<=4095)))
def opB(o:HOp):Bool:=if o.read then ZbO (Zk o) else idB o.key&&o.tx==0&&o.nth==0
/- Operations and versions:which are right,by the program and by the document. -/
def Zpe(b:Bool):Int:=if b then 0 else 1
theorem pid(w:I0)(n:Int):CE 179 #[Qi n] w (.bool (idB n)):=by
 unfold idB
 by_cases h1:1<=n
 ·by_cases h2:n<=1048575
  ·go_enter Tryz.func179,Tryz.ntmps179;go_wp2;go_ret;exact⟨by rw[Qt h1,Qt h2];rfl,rfl⟩
  ·go_enter Tryz.func179,Tryz.ntmps179;go_wp2;go_ret;exact⟨by rw[Qf (show¬n<=1048575 by omega)];rfl,rfl⟩
 ·go_enter Tryz.func179,Tryz.ntmps179;go_wp2;go_ret;exact⟨by rw[Qf (show¬1<=n by omega),Bool.false_and];rfl,rfl⟩
theorem Zfo{w:I0}{n:Int}{b:Bool}(h:idB n=b):CE 179 #[Qi n] w (.bool b):=by subst h;exact pid w n
def ZtU(w:I0)(b:Bool)(e:Ending)(w':I0):Prop:=∃x,e= .returned (.tuple #[.int .u64 x,Qi (Zpe b)])∧Upd No w w'
theorem ZfJ{b:Bool}(h:¬b=true):b=false:=by simpa using h
theorem Zx7(w:I0)(v:Ver):Calls Tryz.prog 119 #[.agg v.cells.toArray] w (ZtU w (ZbO v)):=by
 unfold Ver.cells;have i0:idB 0=false:=by decide
 by_cases ht:v.tx=0
 ·by_cases hn:v.nth=0
  ·by_cases hk:idB v.key=true
   ·have hv:=Qh (show ZbO v=true by unfold ZbO;rw[hk,ht,hn];rfl);rw[ht,hn];clear ht hn i0;have Hk:=Qh hk;clear hk;go_enter Tryz.func119,Tryz.ntmps119;go_wp2_with fail;refine(Zfo Hk.out).mono ?_;rintro e w1 ⟨rfl,rfl⟩;go_wp2;go_ret2;exact⟨_,by rw[hv.out];rfl,(Il _ _).alloc _⟩
   ·have hv:=Qh (show ZbO v=false by unfold ZbO;rw[ZfJ hk];rfl);rw[ht,hn];clear ht hn i0;have Hk:=Qh (ZfJ hk);clear hk;go_enter Tryz.func119,Tryz.ntmps119;go_wp2_with fail;refine(Zfo Hk.out).mono ?_;rintro e w1 ⟨rfl,rfl⟩;go_wp2;go_ret2;exact⟨_,by rw[hv.out];rfl,(Il _ _).alloc _⟩
  ·have hv:=Qh (show ZbO v=false by
    have:(v.nth==0)=false:=by simpa using hn
    unfold ZbO;rw[ht,this,i0];simp)
   rw[ht];clear ht;have Hi:=Qh i0;clear i0;have np:(v.nth==0)=false:=by simpa using hn
   have Hn:=Qh hn;clear hn;go_enter Tryz.func119,Tryz.ntmps119;go_wp2_with fail;refine(Zfo Hi.out).mono ?_;rintro e w1 ⟨rfl,rfl⟩;go_wp2;go_ret2;exact⟨_,by rw[hv.out];rfl,(Il _ _).alloc _⟩
 ·have lG:(v.tx==0)=false:=by simpa using ht
  have Ht:=Qh ht;clear ht i0
  by_cases hi:idB v.tx=true
  ·have Hi:=Qh hi;clear hi
   by_cases h1:v.nth<1
   ·have hv:=Qh (show ZbO v=false by
     unfold ZbO;rw[lG,Hi.out,Qf (show¬1<=v.nth by omega)];simp)
    go_enter Tryz.func119,Tryz.ntmps119;go_wp2_with fail;refine(Zfo Hi.out).mono ?_;rintro e w1 ⟨rfl,rfl⟩;go_wp2;go_ret2;exact⟨_,by rw[hv.out];rfl,(Il _ _).alloc _⟩
   ·by_cases h2:4095<v.nth
    ·have hv:=Qh (show ZbO v=false by
      unfold ZbO;rw[lG,Hi.out,Qf (show¬v.nth<=4095 by omega)];simp)
     go_enter Tryz.func119,Tryz.ntmps119;go_wp2_with fail;refine(Zfo Hi.out).mono ?_;rintro e w1 ⟨rfl,rfl⟩;go_wp2;go_ret2;exact⟨_,by rw[hv.out];rfl,(Il _ _).alloc _⟩
    ·by_cases hk:idB v.key=true
     ·have hv:=Qh (show ZbO v=true by
       unfold ZbO;rw[lG,Hi.out,hk,Qt (show v.nth<=4095 by omega),Qt (show 1<=v.nth by omega)];rfl)
      have Hk:=Qh hk;clear hk;go_enter Tryz.func119,Tryz.ntmps119;go_wp2_with fail;refine(Zfo Hi.out).mono ?_;rintro e w1 ⟨rfl,rfl⟩;go_wp2_with fail;refine(Zfo Hk.out).mono ?_;rintro e w1 ⟨rfl,rfl⟩;go_wp2;go_ret2;exact⟨_,by rw[hv.out];rfl,(Il _ _).alloc _⟩
     ·have hv:=Qh (show ZbO v=false by unfold ZbO;rw[ZfJ hk];rfl);have Hk:=Qh (ZfJ hk);clear hk;go_enter Tryz.func119,Tryz.ntmps119;go_wp2_with fail;refine(Zfo Hi.out).mono ?_;rintro e w1 ⟨rfl,rfl⟩;go_wp2_with fail;refine(Zfo Hk.out).mono ?_;rintro e w1 ⟨rfl,rfl⟩;go_wp2;go_ret2;exact⟨_,by rw[hv.out];rfl,(Il _ _).alloc _⟩
  ·have hv:=Qh (show ZbO v=false by unfold ZbO;rw[lG,ZfJ hi];simp);have Hi:=Qh (ZfJ hi);clear hi;go_enter Tryz.func119,Tryz.ntmps119;go_wp2_with fail;refine(Zfo Hi.out).mono ?_;rintro e w1 ⟨rfl,rfl⟩;go_wp2;go_ret2;exact⟨_,by rw[hv.out];rfl,(Il _ _).alloc _⟩
/- Operations:the version that they read,whether they are right. -/
theorem Zwh(w:I0)(x y:HOp):(Op.equalIn 10000 66 (.agg x.cells.toArray) (.agg y.cells.toArray)).run Tryz.prog w= .ok (decide (x=y)) w:=by
 obtain⟨a,b,c,d⟩:=x;obtain⟨a',b',c',d'⟩:=y;unfold HOp.cells;rw[run_equalIn_struct w _ _ _ _ (by kernel_rfl) (by kernel_rfl)];have hI:∀(w:I0) (d:Nat) (x y:Int),(Op.equalIn (d+1) 3 (Qi x) (Qi y)).run Tryz.prog w= .ok (x==y) w:=fun w d x y=>run_equalIn_int w d _ _ _ x y Tryz.underlying3
 have hB:∀(w:I0) (d:Nat) (x y:Bool),(Op.equalIn (d+1) 4 (.bool x) (.bool y)).run Tryz.prog w= .ok (x==y) w:=fun w d x y=>run_equalIn_bool w d _ x y Tryz.underlying4
 by_cases h1:a=a'<;>by_cases h2:b=b'<;>by_cases h3:c=c'<;>by_cases h4:d=d'<;>
  simp[Program.fieldsOf,Tryz.underlying66,Op.eqFields,part,hI,hB,h1,h2,h3,h4,Result.andThen]
theorem Zn5(w:I0)(x y:HOp):(binOp .neq 66 (.agg #[.bool x.read,Qi x.key,Qi x.tx,Qi x.nth]) (.agg #[.bool y.read,Qi y.key,Qi y.tx,Qi y.nth])).run Tryz.prog w= .ok (.bool (x != y)) w:=by
 rw[run_neq_struct];have:=Zwh w x y;unfold HOp.cells at this;rw[this];simp only[Result.andThen]
 by_cases h:x=y<;>simp[h]
theorem oof(w:I0)(o:HOp):CN 58 #[.agg o.cells.toArray] w (.agg (Zk o).cells.toArray):=by
 obtain⟨r,k,t,n⟩:=o
 cases r
 ·unfold HOp.cells;go_enter Tryz.func58,Tryz.ntmps58;go_wp2;exact bodyPost_ret (v:= .agg #[Qi 0,Qi 0,Qi 0]) (by simp[results,Tryz.results58,go_sem]) rfl ⟨rfl,((Il _ _).alloc _).alloc _⟩
 ·unfold HOp.cells;go_enter Tryz.func58,Tryz.ntmps58;go_wp2;exact bodyPost_ret (v:= .agg #[Qi t,Qi k,Qi n]) (by simp[results,Tryz.results58,go_sem]) rfl ⟨rfl,((Il _ _).alloc _).alloc _⟩
theorem Zqw(w:I0)(o:HOp):CN 65 #[.agg o.cells.toArray] w (Qi (Zpe (opB o))):=by
 obtain⟨r,k,t,n⟩:=o
 cases r
 ·have hN:=Zn5;unfold HOp.cells
  by_cases hz:(⟨false,k,t,n⟩:HOp)=⟨false,k,0,0⟩
  ·have dK:((⟨false,k,t,n⟩:HOp) != ⟨false,k,0,0⟩)=false:=by rw[hz];simp
   have h0:t=0∧n=0:=by injection hz with _ _ h3 h4;exact⟨h3,h4⟩
   by_cases h1:k<1
   ·have hv:=Qh (show opB ⟨false,k,t,n⟩=false by unfold opB idB;rw[Qf (show¬1<=k by omega)];rfl);clear hz h0;have qn:=fun w=>(hN w ⟨false,k,t,n⟩ ⟨false,k,0,0⟩).trans (by rw[dK])
    clear hN dK;go_enter Tryz.func65,Tryz.ntmps65;go_wp2;go_ret;exact⟨by rw[hv.out];rfl,(Il _ _).alloc _⟩
   ·by_cases h2:1048575<k
    ·have hv:=Qh (show opB ⟨false,k,t,n⟩=false by unfold opB idB;rw[Qf (show¬k<=1048575 by omega)];simp);clear hz h0;have qn:=fun w=>(hN w ⟨false,k,t,n⟩ ⟨false,k,0,0⟩).trans (by rw[dK])
     clear hN dK;go_enter Tryz.func65,Tryz.ntmps65;go_wp2;go_ret;exact⟨by rw[hv.out];rfl,(Il _ _).alloc _⟩
    ·have hv:=Qh (show opB ⟨false,k,t,n⟩=true by unfold opB idB;rw[Qt (show k<=1048575 by omega),Qt (show 1<=k by omega),h0.1,h0.2];rfl);clear hz h0;have qn:=fun w=>(hN w ⟨false,k,t,n⟩ ⟨false,k,0,0⟩).trans (by rw[dK])
     clear hN dK;go_enter Tryz.func65,Tryz.ntmps65;go_wp2;go_ret;exact⟨by rw[hv.out];rfl,(Il _ _).alloc _⟩
  ·have dK:((⟨false,k,t,n⟩:HOp) != ⟨false,k,0,0⟩)=true:=by simpa using hz
   have hv:=Qh (show opB ⟨false,k,t,n⟩=false by
    unfold opB
    by_cases h3:t=0
    ·by_cases h4:n=0
     ·exact absurd (by rw[h3,h4]) hz
     ·simp[h4]
    ·simp[h3])
   clear hz;have qn:=fun w=>(hN w ⟨false,k,t,n⟩ ⟨false,k,0,0⟩).trans (by rw[dK])
   clear hN dK;go_enter Tryz.func65,Tryz.ntmps65;go_wp2;go_ret;exact⟨by rw[hv.out];rfl,(Il _ _).alloc _⟩
 ·have hv:Hid (opB ⟨true,k,t,n⟩=ZbO ⟨t,k,n⟩):=Qh rfl;unfold HOp.cells;go_enter Tryz.func65,Tryz.ntmps65;go_wp2_with fail;refine Ck (oof _ ⟨true,k,t,n⟩) fun w1 hu1=>?_;go_wp2_with fail;refine(Zx7 _ ⟨t,k,n⟩).mono ?_;rintro e w2 ⟨x,rfl,hu2⟩;go_wp2;go_ret;exact⟨by rw[hv.out];rfl,(((Il _ _).alloc _).trans hu1).trans hu2⟩
/- How many writes of a key there are;whether a history is light. -/
def isW(key:Int)(o:HOp):Bool:= !o.read&&o.key==key
def wrN(l:List HOp)(key:Int)(k:Nat):Nat:=((l.take k).filter (isW key)).length
def Z9(l:List HOp)(key:Int):Nat:=wrN l key l.length
theorem Zlu{l:List HOp}{key:Int}{k:Nat}(hk:k<l.length):wrN l key (k+1)=wrN l key k+if isW key l[k]=true then 1 else 0:=by
 unfold wrN;rw[Gb hk,List.filter_append,Gt]
 by_cases h:isW key l[k]=true
 ·rw[if_pos h,List.filter_cons_of_pos h];rfl
 ·rw[if_neg h,List.filter_cons_of_neg h];rfl
theorem Znv{l:List HOp}{key:Int}{k:Nat}{x:HOp}(hk:k<l.length)(hx:l[k]=x)(h:isW key x=true):wrN l key (k+1)=wrN l key k+1:=by
 subst hx;rw[Zlu hk,if_pos h]
theorem Ziw{l:List HOp}{key:Int}{k:Nat}{x:HOp}(hk:k<l.length)(hx:l[k]=x)(h:isW key x=false):wrN l key (k+1)=wrN l key k:=by
 subst hx;rw[Zlu hk,if_neg (by rw[h];decide),Nat.add_zero]
theorem ZpO(l:List HOp)(key:Int)(k:Nat):wrN l key k<=k:=by
 unfold wrN;have h1:=Gj (isW key) (l.take k);have h2:=List.length_take_le k l;omega
theorem Zez(F:Iw)(w:I0)(i0:Int)(dn:Bool)(A:OA)(c:Nat)(l:List HOp)(key:Int)(h:HOps F w A l)(hl:Zt l.length):
  CN 102 #[.agg #[Qi i0,.bool dn,.slice A l.length c],Qi key] w (Qi ((Z9 l key:Nat):Int)):=by
 unfold Zt at hl;go_enter Tryz.func102,Tryz.ntmps102;go_wp2
 go_loopg [5,11] l.length (fun gk n i wr=>∃k:Nat,k+gk=l.length∧i= Qi k∧n= Qi ((wrN l key k:Nat):Int)∧Upd No w wr)
 case atStart=>exact⟨0,by omega,rfl,rfl,(Il _ _).alloc _⟩
 case round=>
  obtain⟨k,aI,rfl,rfl,hu⟩:=hrel
  by_cases hlt:k<l.length
  ·obtain⟨ad,aH,c0,c1,c2,c3⟩:=(h.upd hu Qo).at_ hlt;obtain⟨x,hx⟩:=Qe (l[k]);rw[hx]at c0 c1 c2 c3;have hw:=ZpO l key k;obtain⟨r,ky,tx,nt⟩:=x;have X:=Qh hx;clear hx;subst aH
   cases r
   ·by_cases hk:ky=key
    ·have kD:(ky==key)=true:=by simpa using hk
     have HS:=Qh (Znv (key:=key) hlt X.out (by unfold isW;rw[kD];rfl));clear hk;go_wp2;go_roundg (gk-1);exact⟨k+1,by omega,by go_num,by rw[HS.out];go_num,hu.alloc _⟩;omega
    ·have kD:(ky==key)=false:=by simpa using hk
     have HS:=Qh (Ziw (key:=key) hlt X.out (by unfold isW;rw[kD];rfl));clear hk;go_wp2;go_roundg (gk-1);exact⟨k+1,by omega,by go_num,by rw[HS.out],hu.alloc _⟩;omega
   ·have HS:=Qh (Ziw (key:=key) hlt X.out rfl);go_wp2;go_roundg (gk-1);exact⟨k+1,by omega,by go_num,by rw[HS.out],hu.alloc _⟩;omega
  ·obtain rfl:k=l.length:=by omega
   go_wp2;go_ret;exact⟨rfl,hu⟩
def Zd(h:Hist):Bool:=decide (h.txs.length<=12)&&decide (h.ords.length<=24)&&h.txs.all (fun t=>decide (t.ops.length<=24))&&h.ords.all (fun o=>decide (o.txs.length<=24))
/- Whether a history is light,by the document. -/
theorem Zm3{α:Type}{l:List α}{p:α->Bool}{k:Nat}(hk:k<l.length)(h:(l.take k).all p=true)(h1:p l[k]=true):(l.take (k+1)).all p=true:=by
 rw[Gb hk,List.all_append,h];simp[h1]
theorem Zom{α:Type}{l:List α}{p:α->Bool}{k:Nat}(hk:k<l.length)(h1:p l[k]=false):l.all p=false:=by
 rw[<-Gz];intro h;rw[Hd.1 h _ (Hg hk)]at h1
 cases h1
theorem Zqi(F:Iw)(w:I0)(h:Hist)(H:h.lies F w):CN 10 #[h.val] w (.bool (Zd h)):=by
 obtain⟨txs,ords,A,c,B,d⟩:=h;unfold Hist.val;have hf:=H.few;have iC:=H.fewo;simp only at hf iC
 by_cases h1:12<txs.length
 ·have hv:=Qh (show Zd ⟨txs,ords,A,c,B,d⟩=false by unfold Zd;rw[Qf (by simp only;omega)];rfl);go_enter Tryz.func10,Tryz.ntmps10;go_wp2;go_ret;exact⟨by rw[hv.out];rfl,(Il _ _).alloc _⟩
 ·by_cases h2:24<ords.length
  ·have hv:=Qh (show Zd ⟨txs,ords,A,c,B,d⟩=false by unfold Zd;rw[Qf (show¬ords.length<=24 by omega)];simp);go_enter Tryz.func10,Tryz.ntmps10;go_wp2;go_ret;exact⟨by rw[hv.out];rfl,(Il _ _).alloc _⟩
  ·have hb:=Im w 25 [.slice A txs.length c,.slice B ords.length d];have e0:(w.alloc (.cells #[.slice A txs.length c,.slice B ords.length d] 25)).cell? ⟨w.heap.size,1,none⟩=some (.slice B ords.length d):=hb.cell 1;have E0:=Qh e0;clear e0 hb;go_enter Tryz.func10,Tryz.ntmps10;go_wp2
   go_loopg [20] txs.length (fun gk i wr=>∃k:Nat,k+gk=txs.length∧i= Qi k∧Hid ((txs.take k).all (fun t=>decide (t.ops.length<=24))=true)∧Upd No (w.alloc (.cells #[.slice A txs.length c,.slice B ords.length d] 25)) wr)
   case atStart=>exact⟨0,by omega,rfl,Qh (by simp),Il _ _⟩
   case round=>
    obtain⟨k,aI,rfl,ah,hu⟩:=hrel;have fC:Upd No w wr:=((Il No w).alloc _).trans hu
    by_cases hlt:k<txs.length
    ·obtain⟨ad,aH,c0,c1,c2⟩:=(H.upd fC Qo).tx_at hlt;simp only at aH c0 c1 c2;obtain⟨x,hx⟩:=Qe (txs[k]);rw[hx]at c0 c1 c2;subst aH;have X:=Qh hx;clear hx;have Bi:=((H.upd fC Qo).tx x (by rw[<-X.out];exact Hg hlt)).2.2.1;unfold Zt at Bi
     by_cases ht:24<x.ops.length
     ·have hv:=Qh (show Zd ⟨txs,ords,some ad,c,B,d⟩=false by
       unfold Zd;rw[Zom (l:=txs) (k:=k) hlt (by rw[X.out];exact Qf (by omega))];simp)
      go_wp2;go_ret;exact⟨by rw[hv.out];rfl,fC.alloc _⟩
     ·go_wp2;go_roundg (gk-1);exact⟨k+1,by omega,by go_num,Qh (Zm3 hlt ah.out (by rw[X.out];exact Qt (by omega))),hu.alloc _⟩;omega
    ·obtain rfl:k=txs.length:=by omega
     have e1:wr.cell? ⟨w.heap.size,1,none⟩=some (.slice B ords.length d):=hu.keepNo E0.out;have jL:=Qh (show txs.all (fun t=>decide (t.ops.length<=24))=true by have:=ah.out;rwa [G7]at this);clear ah;go_wp2
     go_loopg [32] ords.length (fun gk i wr=>∃k:Nat,k+gk=ords.length∧i= Qi k∧Hid ((ords.take k).all (fun t=>decide (t.txs.length<=24))=true)∧Upd No w wr)
     case atStart=>exact⟨0,by omega,rfl,Qh (by simp),fC⟩
     case round=>
      obtain⟨k,aI,rfl,ah,hu2⟩:=hrel
      by_cases hlt2:k<ords.length
      ·obtain⟨ad,aH,c0,c1⟩:=(H.upd hu2 Qo).ord_at hlt2;simp only at aH c0 c1;obtain⟨x,hx⟩:=Qe (ords[k]);rw[hx]at c0 c1;subst aH;have X:=Qh hx;clear hx;have Bi:=((H.upd hu2 Qo).ord x (by rw[<-X.out];exact Hg hlt2)).2.2.1
       by_cases ht:24<x.txs.length
       ·have hv:=Qh (show Zd ⟨txs,ords,A,c,some ad,d⟩=false by
         unfold Zd;rw[Zom (l:=ords) (k:=k) hlt2 (by rw[X.out];exact Qf (by omega))];simp)
        go_wp2;go_ret;exact⟨by rw[hv.out];rfl,hu2.alloc _⟩
       ·go_wp2;go_roundg (gk-1);exact⟨k+1,by omega,by go_num,Qh (Zm3 hlt2 ah.out (by rw[X.out];exact Qt (by omega))),hu2.alloc _⟩;omega
      ·obtain rfl:k=ords.length:=by omega
       have hv:=Qh (show Zd ⟨txs,ords,A,c,B,d⟩=true by
        have h3:=ah.out;rw[G7]at h3;unfold Zd;rw[Qt (show txs.length<=12 by omega),Qt (show ords.length<=24 by omega),jL.out,h3];rfl)
       go_wp2;go_ret;exact⟨by rw[hv.out];rfl,hu2⟩
/- Edges:how lists of them lie in memory;when two are one. -/
structure Edge where
 f:Int
 t:Int
 k:Int
 key:Int
deriving DecidableEq
def Edge.cells(e:Edge):Ip:=[Qi e.f,Qi e.t,Qi e.k,Qi e.key]
def Walk(F:Iw)(w:I0)(A:OA)(l:List Edge):Prop:=Recs F w A 4 (l.map Edge.cells)
theorem Zbn{l:List Edge}:∀r∈l.map Edge.cells,r.length=4:=fun r hr=>by
 obtain⟨e,_,rfl⟩:=Ih.1 hr;rfl
theorem ZgY{l:List Edge}:∀v∈(l.map Edge.cells).flatten,v.oneCell'=true:=fun v hv=>by
 obtain⟨r,hr,h⟩:=List.mem_flatten.1 hv;obtain⟨e,_,rfl⟩:=Ih.1 hr;simp only[Edge.cells,Ie,G6,or_false]at h;rcases h with rfl|rfl|rfl|rfl<;>rfl
theorem ZbY:SlT Tryz.prog 47 58 4 32:=SlT.mk_ Tryz.underlying47 (z:= .agg #[Qi 0,Qi 0,Qi 0,Qi 0]) (by kernel_rfl) rfl (by omega)
theorem Zof(w:I0)(a b c d a' b' c' d':Int):
  (Op.equalIn 10000 58 (.agg #[Qi a,Qi b,Qi c,Qi d]) (.agg #[Qi a',Qi b',Qi c',Qi d'])).run Tryz.prog w= .ok (decide ((⟨a,b,c,d⟩:Edge)=⟨a',b',c',d'⟩)) w:=by
 rw[run_equalIn_struct w _ _ _ _ (by kernel_rfl) (by kernel_rfl)];have hI:∀(w:I0) (d:Nat) (x y:Int),(Op.equalIn (d+1) 3 (Qi x) (Qi y)).run Tryz.prog w= .ok (x==y) w:=fun w d x y=>run_equalIn_int w d _ _ _ x y Tryz.underlying3
 by_cases h1:a=a'<;>by_cases h2:b=b'<;>by_cases h3:c=c'<;>by_cases h4:d=d'<;>
  simp[Program.fieldsOf,Tryz.underlying58,Op.eqFields,part,hI,h1,h2,h3,h4,Result.andThen]
theorem Zto(w:I0)(x y:Edge):(binOp .neq 58 (.agg #[Qi x.f,Qi x.t,Qi x.k,Qi x.key]) (.agg #[Qi y.f,Qi y.t,Qi y.k,Qi y.key])).run Tryz.prog w= .ok (.bool (x != y)) w:=by
 obtain⟨a,b,c,d⟩:=x;obtain⟨a',b',c',d'⟩:=y;rw[run_neq_struct,Zof];simp only[Result.andThen]
 by_cases h:(⟨a,b,c,d⟩:Edge)=⟨a',b',c',d'⟩<;>simp[h]
theorem Walk.at_{F:Iw}{w:I0}{A:OA}{l:List Edge}(h:Walk F w A l){k:Nat}(hk:k<l.length):∃ad,A=some ad∧
  w.cell? (ad.add (k*4))=some (Qi l[k].f)∧w.cell? ⟨(ad.add (k*4)).block,(ad.add (k*4)).off+1,none⟩=some (Qi l[k].t)∧
  w.cell? ⟨(ad.add (k*4)).block,(ad.add (k*4)).off+2,none⟩=some (Qi l[k].k)∧w.cell? ⟨(ad.add (k*4)).block,(ad.add (k*4)).off+3,none⟩=some (Qi l[k].key):=by
 have dJ:k<(l.map Edge.cells).length:=by simpa using hk
 obtain⟨ad,e,_,_,hc⟩:=Recs.at_ h dJ;rw[G8]at hc;exact⟨ad,e,by simpa using hc 0 _ rfl,by simpa using hc 1 _ rfl,by simpa using hc 2 _ rfl,by simpa using hc 3 _ rfl⟩
theorem Walk.upd{F S:Iw}{w w':I0}{A:OA}{l:List Edge}(h:Walk F w A l)(k:Upd S w w')(hn:∀i,F i->¬S i):Walk F w' A l:=Recs.upd h k hn
/- Walks of edges:whether they are closed,and simple;by the program and by the document. -/
def okC(l:List Edge)(i:Nat):Bool:=(l[i]?.map (·.t))==(l[(i+1)%l.length]?.map (·.f))
def Zan(l:List Edge):Bool:=decide (0<l.length)&&(List.range l.length).all (okC l)
theorem Zl7{l:List Edge}{k m:Nat}{e f:Edge}(hk:l[k]? =some e)(hm:(k+1)%l.length=m)(hf:l[m]? =some f):okC l k=(e.t==f.f):=by
 unfold okC;rw[hk,hm,hf];simp
theorem ZtP{p:Nat->Bool}{k:Nat}:(List.range (k+1)).all p=((List.range k).all p&&p k):=by
 rw[List.range_succ,List.all_append];simp
theorem ZrA{l:List Edge}{k:Nat}(hk:k<l.length)(h:okC l k=false):Zan l=false:=by
 unfold Zan;rw[Bool.and_eq_false_iff]
 right
 rw[List.all_eq_false];exact⟨k,Ic.2 hk,by simp[h]⟩
theorem Zur(F:Iw)(w:I0)(A:OA)(c:Nat)(l:List Edge)(h:Walk F w A l)(hl:l.length<=1000000):
  CN 56 #[.slice A l.length c] w (.bool (Zan l)):=by
 go_enter Tryz.func56,Tryz.ntmps56;go_wp2
 go_loopg [7] l.length (fun gk i wr=>∃k:Nat,k+gk=l.length∧i= Qi k∧Hid ((List.range k).all (okC l)=true)∧Upd No w wr)
 case atStart=>exact⟨0,by omega,rfl,Qh rfl,Il _ _⟩
 case round=>
  obtain⟨k,aI,rfl,aC,hu⟩:=hrel
  by_cases hlt:k<l.length
  ·obtain⟨ad,rfl,c0,c1,c2,c3⟩:=(h.upd hu Qo).at_ hlt;have ej:(k+1)%l.length<l.length:=Nat.mod_lt _ (by omega);obtain⟨ad',e1,d0,d1,d2,d3⟩:=(h.upd hu Qo).at_ ej
   cases e1
   obtain⟨x,hx⟩:=Qe (l[k]);obtain⟨y,hy⟩:=Qe (l[(k+1)%l.length]);rw[hx]at c0 c1 c2 c3;rw[hy]at d0 d1 d2 d3;have iA:=Zl7 (l:=l) (k:=k) (by rw[Qg hlt,hx]) rfl (by rw[Qg ej,hy]);have ku:((k:Int)+1)%(l.length:Int)=(((k+1)%l.length:Nat):Int):=by rw[Int.natCast_emod];rfl
   have kj:((k:Int)+1).tmod (l.length:Int)=(((k+1)%l.length:Nat):Int):=by rw[Int.tmod_eq_emod_of_nonneg (by omega)];exact ku
   generalize (k+1)%l.length=m at*;have b1:(0:Int)<=(k:Int):=Qn _;have b2:(k:Int)<(l.length:Int):=by omega
   have b3:(m:Int)<(l.length:Int):=by omega
   have b4:(0:Int)<=(m:Int):=Qn _;have b5:IntKind.i64.wrap ((k:Int)+1)=(k:Int)+1:=IntWalk.i64_in _ (by omega);have b6:(0:Int)<=(k:Int)+1:=by omega
   have CG:¬l=[]:=fun e=>by rw[e]at hlt;simp at hlt
   have ph:¬(l.length:Int)=0:=by omega
   have b7:IntKind.i64.wrap ((m:Int))=(m:Int):=IntWalk.i64_in _ (by omega);have D0:=((Il No wr).alloc (.cells #[Qi x.f,Qi x.t,Qi x.k,Qi x.key] 58)).keepNo d0;clear hx hy
   by_cases he:x.t=y.f
   ·have eO:(x.t != y.f)=false:=by rw[he];simp
    have rb:=Qh (show(List.range (k+1)).all (okC l)=true by rw[ZtP,aC.out,iA,he];simp);clear he iA;go_wp2
    go_quiet (fail)
    clear ku kj b5 b7;go_wp2;go_roundg (gk-1);exact⟨k+1,by omega,by go_num,rb,(hu.alloc _).drewN _⟩;omega
   ·have eO:(x.t != y.f)=true:=by rw[bne_iff_ne];exact he
    have rb:=Qh (ZrA hlt (by rw[iA];simpa using he));clear he iA;go_wp2
    go_quiet (fail)
    clear ku kj b5 b7;go_wp2;go_ret;exact⟨by rw[rb.out];rfl,(hu.alloc _).drewN _⟩
  ·obtain rfl:k=l.length:=by omega
   have rb:=Qh (show Zan l=decide ((0:Int)<(l.length:Int)) by
    unfold Zan;rw[aC.out,Bool.and_true]
    congr 1
    simp only[eq_iff_iff];omega)
   go_wp2
   all_goals
    go_ret;exact⟨by rw[rb.out];first|rfl|(congr 2;simp),hu⟩
/- Where the first one stands of which something holds. -/
section
variable {α:Type} {p:α->Bool} {l:List α}
def Zfu(p:α->Bool)(l:List α):Int:=if l.findIdx p<l.length then (l.findIdx p:Int) else -1
theorem Ztf{k:Nat}(hk:k<l.length)(h:∀(j:Nat) (hj:j<k),p (l[j]'(by omega))=false)(h1:p l[k]=true):Zfu p l=(k:Int):=by
 have:l.findIdx p=k:=by rw[List.findIdx_eq hk];exact⟨h1,fun j hj=>by rw[h j hj]⟩
 unfold Zfu;rw[this,if_pos hk]
theorem Zrg(h:∀(j:Nat) (hj:j<l.length),p l[j]=false):Zfu p l= -1:=by
 have:l.findIdx p=l.length:=by
  rw[List.findIdx_eq_length];intro y hy;obtain⟨k,hk,rfl⟩:=Gl.1 hy;exact h k hk
 unfold Zfu;rw[this,if_neg (by omega)]
end
/- The document's own small walks over numbers:where one stands,how often,put among rising ones. -/
def Z3(n:Int):Iv->List Int
 |[]=>[n]
 |x::l=>if n<=x then n::(x::l).filter (fun y=> !(y==n)) else x::Z3 n l
theorem Za1(n a:Int):∀l,a∈Z3 n l↔a=n∨a∈l
 |[]=>by simp[Z3]
 |x::l=>by
  have ih:=Za1 n a l;unfold Z3
  split
  ·rw[Ie,Hy]
   by_cases h:a=n<;>simp[h]
  ·simp only[Ie,ih];grind
theorem ZdS(n:Int):∀l,l.Pairwise (·<·)->(Z3 n l).Pairwise (·<·)
 |[],_=>by simp[Z3]
 |x::l,h=>by
  have h':=Gr.1 h;unfold Z3
  split
  ·refine Gr.2 ⟨fun a ha=>?_,h.filter _⟩;rw[Hy]at ha;have h1:a≠n:=by simpa using ha.2
   rcases Ie.1 ha.1 with rfl|h2
   ·omega
   ·have:=h'.1 a h2;omega
  ·refine Gr.2 ⟨fun a ha=>?_,ZdS n l h'.2⟩;rcases(Za1 n a l).1 ha with rfl|h2
   ·omega
   ·exact h'.1 a h2
theorem ZhR(n:Int)(l:Iv):(Z3 n l).length<=l.length+1:=by
 induction l with
 |nil=>simp[Z3]
 |cons x l ih=>
  unfold Z3
  split
  ·have:=Gj (fun y=> !(y==n)) (x::l);simp only[G1]at*;omega
  ·simp only[G1]at*;omega
def ZdG(s:Iv):Iv->List Int
 |[]=>s
 |k::l=>ZdG (Z3 k s) l
theorem Zi2(a:Int):∀(l s:Iv),a∈ZdG s l↔a∈s∨a∈l
 |[],s=>by simp[ZdG]
 |k::l,s=>by
  have ih:=Zi2 a l (Z3 k s);rw[Za1]at ih
  show a∈ZdG (Z3 k s) l↔_
  rw[ih,Ie];grind
theorem Zko:∀(l s:Iv),s.Pairwise (·<·)->(ZdG s l).Pairwise (·<·)
 |[],_,h=>h
 |k::l,s,h=>Zko l _ (ZdS k s h)
theorem ZiK:∀(l s:Iv),(ZdG s l).length<=s.length+l.length
 |[],s=>by simp[ZdG]
 |k::l,s=>by
  have:=ZiK l (Z3 k s);have:=ZhR k s
  show(ZdG (Z3 k s) l).length<=_
  simp only[G1];omega
abbrev Is:=List HOp
abbrev It:=List Ver
