/- An index of transactions in memory: whose block is whose is told by its colour. -/
import Derived.Test.YtblplapkdmhikaaGreatDxab
import Derived.Test.YtblplapkdmhikaaGreatDxav
import Derived.Test.YtblplapkdmhikaaGreatDxbc
import Derived.Test.YtblplapkdmhikaaGreatDxbd
namespace Go.Proofs.YtblplapkdmhikaaGreat
set_option linter.unusedVariables false
set_option linter.unusedSimpArgs false
section
open Go.RowKit
def TxAt (w:World) (G:Nat→Prop) (v:Option Value):Option HTx→Prop
 |none=>v=none
 |some t=>∃A c,v=some (.agg #[.int .i64 t.id,.bool t.done,.slice A t.ops.length c])∧t.ops.length≤c∧HOps G w A t.ops
theorem TxAt.upd {w w':World} {G G' S:Nat→Prop} {v:Option Value} {o:Option HTx} (h:TxAt w G v o) (k:Upd S w w') (hS:∀i,G i→¬S i) (hG:∀i,G i→G' i):TxAt w' G' v o:=by
 cases o with
 |none=>exact h
 |some t=>
  obtain⟨A,c,h1,h2,h3⟩:=h;exact⟨A,c,h1,h2,(HOps.upd h3 k hS).weak fun i _ e=>hG i e⟩
def Ext (w:World) (col col':Nat→Nat):Prop:=∀i,i<w.heap.size→col' i=col i
def colN (w w':World) (col:Nat→Nat) (c:Nat):Nat→Nat:=fun i=>if i<w.heap.size then col i else if i<w'.heap.size then c else 0
theorem Ext.refl (w:World) (col:Nat→Nat):Ext w col col:=fun _ _=>rfl
theorem Ext.trans {w w':World} {a b c:Nat→Nat} (h:Ext w a b) (k:Ext w' b c) (hs:w.heap.size≤w'.heap.size):Ext w a c:=fun i hi=>(k i (by omega)).trans (h i hi)
theorem Ext.colN (w w':World) (col:Nat→Nat) (c:Nat):Ext w col (colN w w' col c):=fun i hi=>by unfold Go.Proofs.YtblplapkdmhikaaGreat.colN;rw[if_pos hi]
theorem Zc2 {w w':World} {col:Nat→Nat} {c:Nat} (hs:w.heap.size≤w'.heap.size) (i:Nat) (h:colN w w' col c i≠0):i<w'.heap.size:=by
 unfold colN at h
 split at h
 ·omega
 ·split at h
  ·assumption
  ·exact absurd rfl h
theorem ZcB {w w':World} {col:Nat→Nat} {c:Nat} (i:Nat) (h1:w.heap.size≤i) (h2:i<w'.heap.size):colN w w' col c i=c:=by
 unfold colN;rw[if_neg (by omega),if_pos h2]
structure IXm (w:World) (col:Nat→Nat) (g bT bW bR bU bS:Nat) (wt:Int) (eT:Int→Option HTx) (fW:Int→List Int) (fR:Ver→List Int) (nU nS:Int×Int→Nat):Prop where
 cg:col g=1
 cT:col bT=2
 cW:col bW=3
 cR:col bR=4
 cU:col bU=5
 cS:col bS=6
 lt:∀i,col i≠0→i<w.heap.size
 blk:Blk w g 166 [.map (some bT),.map (some bW),.map (some bR),.map (some bU),.map (some bS),.int .i64 wt]
 tx:∃mT,MapE w bT (fun n:Int=>Value.int .i64 n) mT∧(mT.map (·.1)).Nodup∧∀id,TxAt w (fun i=>col i=9) (Zm mT id) (eT id)
 wr:∃mW,MSl (fun n:Int=>Value.int .i64 n) w (fun i=>col i=7) bW mW fW
 rd:∃mR,MSl ZN w (fun i=>col i=8) bR mR fR∧∀v,v∈mR.map (·.1)↔fR v≠[]
 us:∃mU,MapE w bU Z2 mU∧CntM mU nU
 ws:∃mS,MapE w bS Z2 mS∧CntM mS nS
section
variable {w w':World} {col col':Nat→Nat} {g bT bW bR bU bS:Nat} {wt wt':Int} {eT eT':Int→Option HTx} {fW fW':Int→List Int} {fR fR':Ver→List Int} {nU nU' nS nS':Int×Int→Nat} {S:Nat→Prop}
theorem IXm.ext (h:IXm w col g bT bW bR bU bS wt eT fW fR nU nS) (he:Ext w col col') {i c:Nat} (hi:col i=c) (hc:c≠0):col' i=c:=by
 rw[he i (h.lt i (by rw[hi];exact hc))];exact hi
theorem IXm.sl (h:IXm w col g bT bW bR bU bS wt eT fW fR nU nS) (he:Ext w col col') {c:Nat} (hc:c≠0):∀i,col i=c→col' i=c:=fun _ hi=>h.ext he hi hc
theorem IXm.upd (h:IXm w col g bT bW bR bU bS wt eT fW fR nU nS) (k:Upd S w w') (hS:∀i,col i≠0→¬S i):IXm w' col g bT bW bR bU bS wt eT fW fR nU nS:=by
 have hc:∀{i c:Nat},col i=c→c≠0→¬S i:=fun hi h0=>hS _ (by rw[hi];exact h0)
 obtain⟨mT,t1,t2,t3⟩:=h.tx;obtain⟨mW,w1⟩:=h.wr;obtain⟨mR,r1,r2⟩:=h.rd;obtain⟨mU,u1,u2⟩:=h.us;obtain⟨mS,s1,s2⟩:=h.ws
 exact⟨h.cg,h.cT,h.cW,h.cR,h.cU,h.cS,fun i hi=>Nat.lt_of_lt_of_le (h.lt i hi) k.size,h.blk.upd k (hc h.cg (by decide)),
  ⟨mT,t1.upd k (hc h.cT (by decide)),t2,fun id=>(t3 id).upd k (fun i hi=>hc hi (by decide)) (fun _ e=>e)⟩,
  ⟨mW,w1.upd k (hc h.cW (by decide)) (fun i hi=>hc hi (by decide))⟩,⟨mR,r1.upd k (hc h.cR (by decide)) (fun i hi=>hc hi (by decide)),r2⟩,
  ⟨mU,u1.upd k (hc h.cU (by decide)),u2⟩,⟨mS,s1.upd k (hc h.cS (by decide)),s2⟩⟩
theorem IXm.no (h:IXm w col g bT bW bR bU bS wt eT fW fR nU nS) (k:Upd No w w'):IXm w' col g bT bW bR bU bS wt eT fW fR nU nS:=h.upd k fun _ _=>id
theorem IXm.turn (h:IXm w col g bT bW bR bU bS wt eT fW fR nU nS) (k:Upd S w w') (he:Ext w col col') (hl:∀i,col' i≠0→i<w'.heap.size)
  (p1:(¬S g∧wt'=wt)∨Blk w' g 166 [.map (some bT),.map (some bW),.map (some bR),.map (some bU),.map (some bS),.int .i64 wt'])
  (p2:((∀i,col i=2∨col i=9→¬S i)∧eT'=eT)∨∃mT,MapE w' bT (fun n:Int=>Value.int .i64 n) mT∧(mT.map (·.1)).Nodup∧∀id,TxAt w' (fun i=>col' i=9) (Zm mT id) (eT' id))
  (p3:((∀i,col i=3∨col i=7→¬S i)∧fW'=fW)∨∃mW,MSl (fun n:Int=>Value.int .i64 n) w' (fun i=>col' i=7) bW mW fW')
  (p4:((∀i,col i=4∨col i=8→¬S i)∧fR'=fR)∨∃mR,MSl ZN w' (fun i=>col' i=8) bR mR fR'∧∀v,v∈mR.map (·.1)↔fR' v≠[])
  (p5:(¬S bU∧nU'=nU)∨∃mU,MapE w' bU Z2 mU∧CntM mU nU')
  (p6:(¬S bS∧nS'=nS)∨∃mS,MapE w' bS Z2 mS∧CntM mS nS'):IXm w' col' g bT bW bR bU bS wt' eT' fW' fR' nU' nS':=by
 refine⟨h.ext he h.cg (by decide),h.ext he h.cT (by decide),h.ext he h.cW (by decide),h.ext he h.cR (by decide),h.ext he h.cU (by decide),h.ext he h.cS (by decide),hl,?_,?_,?_,?_,?_,?_⟩
 ·rcases p1 with ⟨a,rfl⟩|a
  ·exact h.blk.upd k a
  ·exact a
 ·rcases p2 with ⟨a,rfl⟩|a
  ·obtain⟨mT,t1,t2,t3⟩:=h.tx;exact⟨mT,t1.upd k (a _ (.inl h.cT)),t2,fun id=>(t3 id).upd k (fun i hi=>a i (.inr hi)) (h.sl he (by decide))⟩
  ·exact a
 ·rcases p3 with ⟨a,rfl⟩|a
  ·obtain⟨mW,w1⟩:=h.wr;exact⟨mW,(w1.upd k (a _ (.inl h.cW)) (fun i hi=>a i (.inr hi))).mono (h.sl he (by decide))⟩
  ·exact a
 ·rcases p4 with ⟨a,rfl⟩|a
  ·obtain⟨mR,r1,r2⟩:=h.rd;exact⟨mR,(r1.upd k (a _ (.inl h.cR)) (fun i hi=>a i (.inr hi))).mono (h.sl he (by decide)),r2⟩
  ·exact a
 ·rcases p5 with ⟨a,rfl⟩|a
  ·obtain⟨mU,u1,u2⟩:=h.us;exact⟨mU,u1.upd k a,u2⟩
  ·exact a
 ·rcases p6 with ⟨a,rfl⟩|a
  ·obtain⟨mS,s1,s2⟩:=h.ws;exact⟨mS,s1.upd k a,s2⟩
  ·exact a
end
theorem CntM.del {α:Type} [DecidableEq α] {m:List (α×Value)} {g:α→Nat} (h:CntM m g) (a:α):CntM (Zas m a) (fun x=>if x=a then 0 else g x):=by
 refine⟨ZdZ h.nd a,fun x=> ?_⟩;rw[ZbV h.nd]
 by_cases e:x=a
 ·simp[e]
 ·simp only[if_neg e];exact h.get x
def Zam (q:List HTx) (p:Int×Int):Nat:=match Za q p.1 with|some t=>(Zy t).countP fun v=>v.tx==p.2|none=>0
def Zaa (q:List HTx) (p:Int×Int):Nat:=ZaH q p.1 p.2
def IX (w:World) (col:Nat→Nat) (g:Nat) (q:List HTx):Prop:=
 (∃bT bW bR bU bS,IXm w col g bT bW bR bU bS (Zk q:Int) (Za q) (Zn q) (Zs q) (Zam q) (Zaa q))∧ZA q∧okQ q
theorem IX.upd {w w':World} {col:Nat→Nat} {g:Nat} {q:List HTx} {S:Nat→Prop} (h:IX w col g q) (k:Upd S w w') (hS:∀i,col i≠0→¬S i):IX w' col g q:=by
 obtain⟨⟨bT,bW,bR,bU,bS,h1⟩,h2⟩:=h;exact⟨⟨bT,bW,bR,bU,bS,h1.upd k hS⟩,h2⟩
theorem IX.no {w w':World} {col:Nat→Nat} {g:Nat} {q:List HTx} (h:IX w col g q) (k:Upd No w w'):IX w' col g q:=h.upd k fun _ _=>id
theorem Zcg:KeyBy Tryz.prog 184 Z2:=by
 have hag:∀a:Int×Int,∃cs,Z2 a= .agg cs:=fun a=>⟨_,rfl⟩
 refine KeyBy.agg_ Tryz.underlying184 hag (fun w e p=> ?_) (fun a=>by simp[Z2,Instr.sameBits]) (fun w x y=> ?_)
 ·show(Instr.checkKey e (9998+1+1) _ _).run _ w=_
  generalize 9998=d
  have hI:∀(w:World) (x:Int),(Instr.checkKey e (d+1) 3 (.int .i64 x)).run Tryz.prog w= .ok () w:=fun w x=>by unfold Instr.checkKey;simp[run_underlying Tryz.underlying3]
  unfold Instr.checkKey Z2;simp[run_underlying Tryz.underlying184,←Array.forIn_toList,part,hI,Result.andThen]
 ·obtain⟨a,b⟩:=x;obtain⟨a',b'⟩:=y;unfold Z2
  show(Op.equalIn 10000 _ _ _).run _ w=_
  rw[run_equalIn_struct w _ _ _ _ (by kernel_rfl) (by kernel_rfl)];have hI:∀(w:World) (d:Nat) (x y:Int),(Op.equalIn (d+1) 3 (.int .i64 x) (.int .i64 y)).run Tryz.prog w= .ok (x==y) w:=fun w d x y=>run_equalIn_int w d _ _ _ x y Tryz.underlying3
  by_cases h1:a=a'<;>by_cases h2:b=b'<;>
   simp[Program.fieldsOf,Tryz.underlying184,Op.eqFields,part,hI,h1,h2,Result.andThen]
end
/- An index:one more,one fewer among rising ids. -/
section
open Go.RowKit
theorem ZcH (x:Int):∀{l:List Int},l.Pairwise (·<·)→l.take (l.countP fun y=>decide (y<x))=l.filter fun y=>decide (y<x)
 |[],_=>rfl
 |a::l,h=>by
  rw[List.pairwise_cons]at h
  by_cases ha:a<x
  ·rw[List.countP_cons_of_pos (by simpa using ha),List.filter_cons_of_pos (by simpa using ha),List.take_succ_cons,ZcH x h.2]
  ·have h0:(a::l).countP (fun y=>decide (y<x))=0:=by
    rw[List.countP_eq_zero];intro b hb;rcases List.mem_cons.1 hb with rfl|hb
    ·simpa using ha
    ·have:=h.1 b hb;simp;omega
   have h1:(a::l).filter (fun y=>decide (y<x))=[]:=by rw[←List.length_eq_zero_iff,←List.countP_eq_length_filter,h0]
   rw[h0,h1,List.take_zero]
theorem Zev (x:Int):∀{l:List Int},l.Pairwise (·<·)→x∉l→l.drop (l.countP fun y=>decide (y<x))=l.filter fun y=>decide (x<y)
 |[],_,_=>rfl
 |a::l,h,hx=>by
  rw[List.pairwise_cons]at h;rw[List.mem_cons,not_or]at hx
  by_cases ha:a<x
  ·rw[List.countP_cons_of_pos (by simpa using ha),List.filter_cons_of_neg (by simp;omega),List.drop_succ_cons,Zev x h.2 hx.2]
  ·have h0:(a::l).countP (fun y=>decide (y<x))=0:=by
    rw[List.countP_eq_zero];intro b hb;rcases List.mem_cons.1 hb with rfl|hb
    ·simpa using ha
    ·have:=h.1 b hb;simp;omega
   rw[h0,List.drop_zero,eq_comm,List.filter_eq_self];intro b hb;rcases List.mem_cons.1 hb with rfl|hb
   ·simp;omega
   ·have:=h.1 b hb;simp;omega
theorem Zd2 (x:Int):∀{l:List Int},l.Pairwise (·<·)→x∈l→l.drop ((l.countP fun y=>decide (y<x))+1)=l.filter (fun y=>decide (x<y))∧(l.countP fun y=>decide (y<x))<l.length
 |a::l,h,hx=>by
  rw[List.pairwise_cons]at h
  by_cases ha:a<x
  ·have hx2:x∈l:=by
    rcases List.mem_cons.1 hx with rfl|hx
    ·omega
    ·exact hx
   obtain⟨h1,h2⟩:=Zd2 x h.2 hx2;rw[List.countP_cons_of_pos (by simpa using ha),List.filter_cons_of_neg (by simp;omega),List.drop_succ_cons,List.length_cons];exact⟨h1,by omega⟩
  ·have hax:a=x:=by
    rcases List.mem_cons.1 hx with rfl|hx
    ·rfl
    ·have:=h.1 x hx;omega
   subst hax
   have h0:(a::l).countP (fun y=>decide (y<a))=0:=by
    rw[List.countP_eq_zero];intro b hb;rcases List.mem_cons.1 hb with rfl|hb
    ·simp
    ·have:=h.1 b hb;simp;omega
   rw[h0,List.drop_succ_cons,List.drop_zero,List.filter_cons_of_neg (by simp),eq_comm,List.filter_eq_self];exact⟨fun b hb=>by have:=h.1 b hb;simpa using this,by simp⟩
theorem ZhX {l:List Int} (h:l.Pairwise (·<·)) {x:Int} (hx:x∉l):Zbn l (l.countP fun y=>decide (y<x)) x=ZY l x:=by
 unfold Zbn ZY;rw[if_neg hx,ZcH x h,Zev x h hx,List.append_assoc,List.singleton_append]
theorem Zjo {l:List Int} (h:l.Pairwise (·<·)) {x:Int} (hx:x∈l):Zb5 l (l.countP fun y=>decide (y<x))=Zab l x:=by
 unfold Zb5;rw[ZcH x h,(Zd2 x h hx).1];refine Zdd ?_ (Zjp h x) fun a=> ?_
 ·rw[List.pairwise_append];refine⟨h.sublist List.filter_sublist,h.sublist List.filter_sublist,fun a ha b hb=> ?_⟩;rw[List.mem_filter,decide_eq_true_eq]at ha hb;omega
 ·rw[List.mem_append,List.mem_filter,List.mem_filter,decide_eq_true_eq,decide_eq_true_eq,Ziq]
  constructor
  ·rintro(⟨h1,h2⟩|⟨h1,h2⟩)<;>exact⟨h1,by omega⟩
  ·rintro⟨h1,h2⟩;rcases Int.lt_or_gt_of_ne h2 with h3|h3
   ·exact .inl ⟨h1,h3⟩
   ·exact .inr ⟨h1,h3⟩
def ZcC (w:World) (A:Option Addr) (c:Nat) (l:List Int):Prop:=w.ownsRow 0 3 1 (.slice A l.length c) l.length (l.map (Value.int .i64))
theorem ZkO (w:World) (x:Int):Calls Tryz.prog 199 #[.slice none 0 0,.int .i64 x] w fun e w'=>e= .returned (.tuple #[.int .i64 0,.bool false])∧Upd No w w':=by
 go_enter Tryz.func199,Tryz.ntmps199
 go_wp2
 go_loopg [7,8] 0 (fun gk lo hi wr=>lo= .int .i64 0∧hi= .int .i64 0∧w=wr)
 case atStart=>exact⟨rfl,rfl,rfl⟩
 case round=>
  obtain⟨rfl,rfl,rfl⟩:=hrel;go_wp2
  go_ret2
  exact⟨rfl,Upd.refl _ _⟩
theorem ZiX (w:World) (A:Option Addr) (c:Nat) (l:List Int) (x:Int) (h:ZcC w A c l) (hs:l.Pairwise (·<·)) (hl:l.length≤1000000):
  Calls Tryz.prog 199 #[.slice A l.length c,.int .i64 x] w fun e w'=>e= .returned (.tuple #[.int .i64 ((l.countP fun y=>decide (y<x):Nat):Int),.bool (decide (x∈l))])∧Upd No w w':=by
 rcases h.2 with ⟨hv,h0⟩|⟨g,cap,cur,hv,hb,hg,rest⟩
 ·have:l=[]:=List.eq_nil_of_length_eq_zero h0;subst this
  cases hv
  refine(ZkO w x).mono ?_;rintro e w' ⟨rfl,hu⟩;exact⟨by simp,hu⟩
 ·simp only[Value.slice.injEq]at hv;obtain⟨rfl,_,rfl⟩:=hv;have hi:=Ints.of_own h
  have hc:∀j,j<l.length→w.cell? ⟨g,0+j,none⟩=some (.int .i64 (l.getD j 0)):=fun j hj=>by
   obtain⟨ad,e,_,_,hcc⟩:=hi.at_ hj
   cases e
   rw[Zjy]at hcc;rw[hcc,List.getD_eq_getElem?_getD,Qg hj];rfl
  refine Calls.mono (AnyG.slices_BinarySearch_int ZiG g 0 l.length c l x w (Nat.le_refl _) (by omega) hc (by rw[List.take_length];exact hs.imp fun {a b} h=>Int.le_of_lt h)) ?_;rintro e w' ⟨rfl,q,rfl⟩;rw[List.take_length,List.contains_eq_mem];exact⟨rfl,(Upd.refl _ _).drewN q⟩
def Chg (w:World) (A:Option Addr) (c:Nat) (l l':List Int) (e:Ending) (w':World):Prop:=
 ∃A' c',e= .returned (.slice A' l'.length c')∧ZcC w' A' c' l'∧Upd (Own (.slice A l.length c)) w w'∧Grew w (.slice A l.length c) (.slice A' l'.length c')
set_option maxRecDepth 100000 in
set_option maxHeartbeats 1000000 in
theorem ZiU (w:World) (A:Option Addr) (c:Nat) (l:List Int) (x:Int) (h:ZcC w A c l) (hs:l.Pairwise (·<·)) (hl:l.length≤100000):
  Calls Tryz.prog 118 #[.slice A l.length c,.int .i64 x] w (Chg w A c l (ZY l x)):=by
 have CB:=Qh (ZiX w A c l x h hs (by omega));have HO:=Qh h
 by_cases hx:x∈l
 ·have HW:=Qh (show ZY l x=l by unfold ZY;rw[if_pos hx]);rw[decide_eq_true hx]at CB;clear h hx hs
  go_enter Tryz.func118,Tryz.ntmps118
  go_wp2_with fail
  refine(CB.out).mono ?_;rintro e w1 ⟨rfl,hu1⟩;go_wp2
  go_ret
  rw[HW.out];exact⟨A,c,rfl,Zb HO.out hu1 (fun _ _=>id),hu1.mono (fun _ _ e=>e.elim),.inl rfl⟩
 ·rw[decide_eq_false hx]at CB;have HW:=Qh (ZhX hs hx);have HI:=Qh (List.countP_le_length (p:=fun y=>decide (y<x)) (l:=l));obtain⟨i,hi⟩:∃i,(l.countP fun y=>decide (y<x))=i:=⟨_,rfl⟩;rw[hi]at CB HW HI;clear h hx hs hi
  go_enter Tryz.func118,Tryz.ntmps118
  go_wp2_with fail
  refine(CB.out).mono ?_;rintro e w1 ⟨rfl,hu1⟩;have hO1:=Zb HO.out hu1 (fun _ _=>id);have CI:=Qh (Zk8 (w1.alloc (.cells #[.int .i64 x] 3)) 0 A c l i x w1.heap.size (by rw[Zc0];exact Zb hO1 ((Upd.refl No w1).alloc _) (fun _ _=>id)) (Blk.new w1 _ _) (fun e=>by have:=(hO1.lt _ e).2;omega) HI.out hl (Nat.zero_le _));have HU:=Qh (hu1.alloc (.cells #[.int .i64 x] 3));clear hO1 hu1
  go_wp2_with fail
  refine(CI.out).mono ?_;rintro e w2 ⟨A2,c2,rfl,ho2,hu2,hg2⟩;go_wp2
  go_ret
  rw[HW.out,Zc0]at ho2;rw[HW.out]at hg2 ⊢;refine⟨A2,c2,rfl,ho2,HU.out.mono (fun _ _ e=>e.elim) |>.trans hu2,?_⟩;rcases hg2 with e|⟨k,e,hk⟩
  ·exact .inl e
  ·exact .inr ⟨k,e,Nat.le_trans HU.out.size hk⟩
set_option maxRecDepth 100000 in
set_option maxHeartbeats 1000000 in
theorem Zfp (w:World) (A:Option Addr) (c:Nat) (l:List Int) (x:Int) (h:ZcC w A c l) (hs:l.Pairwise (·<·)) (hl:l.length≤100000):
  Calls Tryz.prog 120 #[.slice A l.length c,.int .i64 x] w (Chg w A c l (Zab l x)):=by
 have CB:=Qh (ZiX w A c l x h hs (by omega));have HO:=Qh h
 by_cases hx:x∈l
 ·rw[decide_eq_true hx]at CB;have HW:=Qh (Zjo hs hx);have HI:=Qh (Zd2 x hs hx).2;obtain⟨i,hi⟩:∃i,(l.countP fun y=>decide (y<x))=i:=⟨_,rfl⟩;rw[hi]at CB HW HI;have hw1:IntKind.i64.wrap ((i:Int)+1)=(i:Int)+1:=IntWalk.i64_in _ (by have:=HI.out;omega);clear h hx hs hi
  go_enter Tryz.func120,Tryz.ntmps120
  go_wp2_with fail
  refine(CB.out).mono ?_;rintro e w1 ⟨rfl,hu1⟩;have hO1:=Zb HO.out hu1 (fun _ _=>id);have CI:=Qh (Zk9 w1 0 A c l i (by rw[Zc0];exact hO1) HI.out hl);have HU:=Qh hu1;clear hO1 hu1
  go_wp2_with fail
  refine(CI.out).mono ?_;rintro e w2 ⟨A2,c2,rfl,ho2,hu2,hg2⟩;go_wp2
  go_ret
  rw[HW.out,Zc0]at ho2;rw[HW.out]at hg2 ⊢;refine⟨A2,c2,rfl,ho2,HU.out.mono (fun _ _ e=>e.elim) |>.trans hu2,?_⟩;rcases hg2 with e|⟨k,e,hk⟩
  ·exact .inl e
  ·exact .inr ⟨k,e,Nat.le_trans HU.out.size hk⟩
 ·have HW:=Qh (Zdf hx);rw[decide_eq_false hx]at CB;clear h hx hs
  go_enter Tryz.func120,Tryz.ntmps120
  go_wp2_with fail
  refine(CB.out).mono ?_;rintro e w1 ⟨rfl,hu1⟩;go_wp2
  go_ret
  rw[HW.out];exact⟨A,c,rfl,Zb HO.out hu1 (fun _ _=>id),hu1.mono (fun _ _ e=>e.elim),.inl rfl⟩
end
/- An index:what it tells of one id,one key,one version. -/
section
open Go.RowKit
def oId:Option HTx→Int|some t=>t.id|none=>0
def oDn:Option HTx→Bool|some t=>t.done|none=>false
def Zar:Option HTx→List HOp|some t=>t.ops|none=>[]
def ZbY (w:World) (o:Option HTx) (e:Ending) (w':World):Prop:=
 ∃A c,e= .returned (.tuple #[.agg #[.int .i64 (oId o),.bool (oDn o),.slice A (Zar o).length c],.bool o.isSome])∧(Zar o).length≤c∧HOps (fun i=>w.heap.size≤i) w' A (Zar o)∧Upd No w w'
theorem ZjX (w:World):(zeroValue 81).run Tryz.prog w= .ok (.agg #[.int .i64 0,.bool false,.slice none 0 0]) w:=by kernel_rfl
set_option maxRecDepth 100000 in
set_option maxHeartbeats 2000000 in
theorem ZiS (F:Nat→Prop) (w:World) (g bT:Nat) (k i0:Int) (dn b:Bool) (A:Option Addr) (c:Nat) (l:List HOp) (cs:List Value) (hg:Blk w g 166 (.map (some bT)::cs))
  (hlk:∀W,Upd No w W→(Instr.lookup 161 (.map (some bT)) (.int .i64 k) true).run Tryz.prog W= .ok (.tuple #[.agg #[.int .i64 i0,.bool dn,.slice A l.length c],.bool b]) W)
  (h:HOps F w A l) (hl:Ze l.length):
  Calls Tryz.prog 103 #[.pointer (some ⟨g,0,none⟩),.int .i64 k] w fun e w'=>∃A' c',e= .returned (.tuple #[.agg #[.int .i64 i0,.bool dn,.slice A' l.length c'],.bool b])∧l.length≤c'∧HOps (fun i=>w.heap.size≤i) w' A' l∧Upd No w w':=by
 obtain⟨z,hz⟩:∃z,w.heap.size=z:=⟨_,rfl⟩;obtain⟨w1,hw1⟩:∃w1,w.alloc (.cells #[.int .i64 0,.bool false,.slice none 0 0] 81)=w1:=⟨_,rfl⟩;have s1:w1.heap.size=z+1:=by rw[←hw1,←hz];simp
 have u1:Upd No w w1:=by rw[←hw1];exact(Upd.refl No w).alloc _
 have b1:Blk w1 z 81 [.int .i64 0,.bool false,.slice none 0 0]:=by rw[←hw1,←hz];exact Blk.new w _ _
 obtain⟨w5,hw5⟩:∃w5,w1.alloc (.cells #[.int .i64 i0,.bool dn,.slice A l.length c] 81)=w5:=⟨_,rfl⟩;have u2:Upd No w1 w5:=by rw[←hw5];exact(Upd.refl No w1).alloc _
 have u5:Upd No w w5:=u1.trans u2;have b5:Blk w5 (z+1) 81 [.int .i64 i0,.bool dn,.slice A l.length c]:=by rw[←hw5,←s1];exact Blk.new w1 _ _
 have b6:Blk w5 z 81 [.int .i64 0,.bool false,.slice none 0 0]:=b1.upd u2 id;have s5:z+2≤w5.heap.size:=by have:=b5.lt;omega
 have c0:w1.cell? ⟨g,0,none⟩=some (.map (some bT)):=(hg.upd u1 id).cell 0;have HLK:=hlk w1 u1;have q0:=b5.cell 0;have q1:=b5.cell 1;have q2:=b5.cell 2;simp only[Qz,Qs]at q0 q1 q2;have HC:=Qh (Zhn F w5 A c l (h.upd u5 (fun _ _=>id)) hl);have B5:=Qh b5;have B6:=Qh b6;have U5:=Qh u5;have S5:=Qh s5;have HZ:=Qh hz;clear hlk hg u1 u2 b1 b5 b6 u5 s5 h
 go_enter Tryz.func103,Tryz.ntmps103
 go_wp2_with fail
 refine(HC.out).mono ?_;rintro e w6 ⟨A6,c6,rfl,hc6,hh6,hu6⟩;have d1:=B5.out.upd hu6 id;have d2:=B6.out.upd hu6 id;have e0:=d1.cell 0;have e1:=d1.cell 1;have e2:=d1.cell 2;have f2:=d1.free 2;have g0:=d2.cell 0;have g1:=d2.cell 1;have g2:=d2.cell 2;have k0:=d2.free 0;have k1:=d2.free 1;have k2:=d2.free 2;simp only[Qz,Qs]at e0 e1 e2 g0 g1 g2;have D:=Qh d2;have Hh:=Qh (And.intro hc6 (And.intro hh6 hu6));clear d1 d2 hc6 hh6 hu6 HLK c0 q0 q1 q2;go_wp2;obtain⟨hc6,hh6,hu6⟩:=Hh.out;have hzz:=HZ.out;have b9:=(((D.out.far (p:=⟨z+1,2,none⟩) (by show z≠z+1;omega) (.slice A6 l.length c6)).set_ 0 (.int .i64 i0)).set_ 1 (.bool dn)).set_ 2 (.slice A6 l.length c6);simp only[List.set_cons_zero,List.set_cons_succ]at b9;have r0:=b9.cell 0;have r1:=b9.cell 1;have r2:=b9.cell 2;simp only[Qz,Qs]at r0 r1 r2;refine bodyPost_ret (v:= .tuple #[.agg #[.int .i64 i0,.bool dn,.slice A6 l.length c6],.bool b]) (by simp[results,Tryz.results103,go_sem,r0,r1,r2]) rfl ⟨A6,c6,rfl,hc6,?_,?_⟩
 ·have u8:=((((Upd.refl (fun i=>i=z∨i=z+1) w6).setCell (p:=⟨z+1,2,none⟩) (.inl (.inr rfl)) (.slice A6 l.length c6)).setCell (p:=⟨z,0,none⟩) (.inl (.inl rfl)) (.int .i64 i0)).setCell (p:=⟨z,1,none⟩) (.inl (.inl rfl)) (.bool dn)).setCell (p:=⟨z,2,none⟩) (.inl (.inl rfl)) (.slice A6 l.length c6);have:=S5.out;exact(Recs.upd hh6 u8 (fun i hi e=>by rcases e with e|e<;>omega)).weak (fun i _ e=>by omega)
 ·have u9:Upd No w w6:=U5.out.trans hu6;exact(((u9.setCell (p:=⟨z+1,2,none⟩) (.inr (by show w.heap.size≤z+1;omega)) _).setCell (p:=⟨z,0,none⟩) (.inr (by show w.heap.size≤z;omega)) _).setCell (p:=⟨z,1,none⟩) (.inr (by show w.heap.size≤z;omega)) _).setCell (p:=⟨z,2,none⟩) (.inr (by show w.heap.size≤z;omega)) _
section
variable {w:World} {col:Nat→Nat} {g bT bW bR bU bS:Nat} {wt:Int} {eT:Int→Option HTx} {fW:Int→List Int} {fR:Ver→List Int} {nU nS:Int×Int→Nat}
theorem ZgG (h:IXm w col g bT bW bR bU bS wt eT fW fR nU nS) (k:Int) (hk:Ze (Zar (eT k)).length):Calls Tryz.prog 103 #[.pointer (some ⟨g,0,none⟩),.int .i64 k] w (ZbY w (eT k)):=by
 obtain⟨mT,t1,t2,t3⟩:=h.tx;have ht:=t3 k;have hlk:=fun W (u:Upd No w W)=>ZfK Zbj Tryz.underlying161 ZjX (t1.upd u id).is k
 cases he:eT k with
 |none=>
  rw[he]at ht;unfold TxAt at ht;rw[ht]at hlk;exact ZiS (fun _=>True) w g bT k 0 false false none 0 [] _ h.blk hlk (fun h=>absurd rfl h) (by unfold Ze;simp)
 |some t=>
  rw[he]at ht hk;obtain⟨A,c,h1,h2,h3⟩:=ht;rw[h1]at hlk;exact ZiS _ w g bT k t.id t.done true A c t.ops _ h.blk hlk h3 hk
end
theorem ZdN (w:World) (A:Option Addr) (c:Nat) (l:List Int) (h:ZcC w A c l) (hl:l.length≤17592186044415):Calls Tryz.prog 157 #[.slice A l.length c] w (Zak w l):=Zkm _ w A c l (Ints.of_own h) hl
theorem Za3 (w:World):(zeroValue 64).run Tryz.prog w= .ok (.slice none 0 0) w:=by kernel_rfl
theorem ZcE (w:World):(zeroValue 3).run Tryz.prog w= .ok (.int .i64 0) w:=by kernel_rfl
section
variable {w:World} {col:Nat→Nat} {g bT bW bR bU bS:Nat} {wt:Int} {eT:Int→Option HTx} {fW:Int→List Int} {fR:Ver→List Int} {nU nS:Int×Int→Nat}
set_option maxRecDepth 100000 in
set_option maxHeartbeats 1000000 in
theorem ZhA (h:IXm w col g bT bW bR bU bS wt eT fW fR nU nS) (k:Int) (hk:(fW k).length≤1000000):Calls Tryz.prog 108 #[.pointer (some ⟨g,0,none⟩),.int .i64 k] w (Zak w (fW k)):=by
 obtain⟨mW,w1⟩:=h.wr;obtain⟨A,c,hA,hO⟩:=w1.row k;have hlk:=ZB Zbj Tryz.underlying117 Za3 w1.is.is k;rw[show(Zm mW k).getD (.slice none 0 0)= .slice A (fW k).length c from hA]at hlk;have c1:w.cell? ⟨g,1,none⟩=some (.map (some bW)):=h.blk.cell 1;have HC:=Qh (ZdN w A c (fW k) hO (by omega));clear h w1 hA hO
 go_enter Tryz.func108,Tryz.ntmps108
 go_wp2_with fail
 refine(HC.out).mono ?_;rintro e w2 ⟨A2,c2,rfl,ho2,hu2⟩;go_wp2
 go_ret
 exact⟨A2,c2,rfl,ho2,hu2⟩
set_option maxRecDepth 100000 in
set_option maxHeartbeats 1000000 in
theorem Zfn (h:IXm w col g bT bW bR bU bS wt eT fW fR nU nS) (i k:Int):Calls Tryz.prog 109 #[.pointer (some ⟨g,0,none⟩),.int .i64 i,.int .i64 k] w fun e w'=>e= .returned (.int .i64 (nS (i,k):Int))∧w=w':=by
 obtain⟨mS,s1,s2⟩:=h.ws;have hlk:=ZB Zd0 Tryz.underlying164 ZcE s1.is (i,k);rw[s2.val]at hlk;unfold Z2 at hlk;have c1:w.cell? ⟨g,4,none⟩=some (.map (some bS)):=h.blk.cell 4;clear h s1 s2
 go_enter Tryz.func109,Tryz.ntmps109
 go_wp2
 go_ret
 exact⟨rfl,rfl⟩
theorem Zis (h:IXm w col g bT bW bR bU bS wt eT fW fR nU nS):Calls Tryz.prog 110 #[.pointer (some ⟨g,0,none⟩)] w fun e w'=>e= .returned (.int .i64 wt)∧w=w':=by
 have c1:w.cell? ⟨g,5,none⟩=some (.int .i64 wt):=h.blk.cell 5;clear h
 go_enter Tryz.func110,Tryz.ntmps110
 go_wp2
 go_ret
 exact⟨rfl,rfl⟩
set_option maxRecDepth 100000 in
set_option maxHeartbeats 1000000 in
theorem ZhB (h:IXm w col g bT bW bR bU bS wt eT fW fR nU nS) (v:Ver) (hk:(fR v).length≤1000000):Calls Tryz.prog 106 #[.pointer (some ⟨g,0,none⟩),.agg v.cells.toArray] w (Zak w (fR v)):=by
 obtain⟨mR,r1,_⟩:=h.rd;obtain⟨z,hz⟩:∃z,w.heap.size=z:=⟨_,rfl⟩;obtain⟨wb,hwb⟩:∃wb,w.alloc (.cells #[.int .i64 v.tx,.int .i64 v.key,.int .i64 v.nth] 36)=wb:=⟨_,rfl⟩;have uB:Upd No w wb:=by rw[←hwb];exact(Upd.refl No w).alloc _
 have bV:Blk wb z 36 [.int .i64 v.tx,.int .i64 v.key,.int .i64 v.nth]:=by rw[←hwb,←hz];exact Blk.new w _ _
 obtain⟨A,c,hA,hO⟩:=r1.row v
 have hlk:∀W,Upd No wb W→(Instr.lookup 162 (.map (some bR)) (.agg #[.int .i64 v.tx,.int .i64 v.key,.int .i64 v.nth]) false).run Tryz.prog W= .ok (.slice A (fR v).length c) W:=fun W u=>by
  have:=ZB ZaG Tryz.underlying162 Za3 (r1.is.upd (uB.trans u) id).is v
  rwa [show(Zm mR v).getD (.slice none 0 0)= .slice A (fR v).length c from hA]at this
 have c1:∀W,Upd No wb W→W.cell? ⟨g,2,none⟩=some (.map (some bR)):=fun W u=>(h.blk.upd (uB.trans u) id).cell 2
 have HC:=Qh (fun W (u:Upd No wb W)=>ZdN W A c (fR v) (Zb hO (uB.trans u) (fun _ _=>id)) (by omega));have v0:∀W,Upd No wb W→W.cell? ⟨z,0,none⟩=some (.int .i64 v.tx):=fun W u=>(bV.upd u id).cell 0
 have v1:∀W,Upd No wb W→W.cell? ⟨z,1,none⟩=some (.int .i64 v.key):=fun W u=>(bV.upd u id).cell 1
 have v2:∀W,Upd No wb W→W.cell? ⟨z,2,none⟩=some (.int .i64 v.nth):=fun W u=>(bV.upd u id).cell 2
 have hbz:Upd No wb wb.drew:=(Upd.refl No wb).drew;have UB:=Qh uB;unfold Ver.cells;clear h r1 hA hO bV uB
 go_enter Tryz.func106,Tryz.ntmps106
 go_wp2;refine wp_region_noPanic ?_;refine wp_region_held_drew (S:=(fun w'=>Upd No wb w')) (by kernel_rfl) ?_ (fun hHeld=> ?_)
 ·(first|exact hbz|exact hHeld|exact hU3)
 refine wpK 0 rfl ?_;refine wpK 1 rfl ?_;refine wpK 2 rfl ?_;refine wpK 3 rfl ?_;refine wpK 4 rfl ?_;refine wpK 5 rfl ?_;refine wpR [6] ?_;refine wpC rfl (fun K hK=> ?_) AllReadyH.nil;go_simp
 (first
  |(go_at_call 157;refine(HC.out _ hHeld).mono ?_;rintro e w3 ⟨A3,c3,rfl,ho3,hu3⟩;have hU3:Upd No wb w3:=hHeld.trans hu3))
 try (go_wp2_with fail)
 refine hK.out _ _ ?_ (fun hHeld=> ?_)
 ·(first|exact hbz|exact hHeld|exact hU3)
 clear hK K
 try simp only[Act.put,sT,sS,sZ]
 refine wpK 7 rfl ?_;refine wpD (NoPanic.normal ?_);go_wp2
 go_ret
 exact⟨A3,c3,rfl,ZJ ho3 UB.out.size,UB.out.trans hU3⟩
end
end
/- An index:what the change of one entry comes to. -/
section
open Go.RowKit
section
variable {w:World} {col:Nat→Nat} {g bT bW bR bU bS:Nat} {wt:Int} {eT:Int→Option HTx} {fW:Int→List Int} {fR:Ver→List Int} {nU nS:Int×Int→Nat}
theorem IXm.wlook (h:IXm w col g bT bW bR bU bS wt eT fW fR nU nS) (key:Int):∃mW A c,MapE w bW (fun n:Int=>Value.int .i64 n) mW∧Zan mW key= .slice A (fW key).length c∧ZcC w A c (fW key)∧(∀i,Own (.slice A (fW key).length c) i→col i=7)∧
  ∀w1 w2 A' c' l',ZcC w1 A' c' l'→Upd (Own (.slice A (fW key).length c)) w w1→Grew w (.slice A (fW key).length c) (.slice A' l'.length c')→MapE w2 bW (fun n:Int=>Value.int .i64 n) (Zt mW key (.slice A' l'.length c'))→Upd (One bW) w1 w2→
   IXm w2 (colN w w1 col 7) g bT bW bR bU bS wt eT (fun k=>if k=key then l' else fW k) fR nU nS:=by
 obtain⟨mW,h1⟩:=h.wr;obtain⟨A,c,hA,hO⟩:=h1.row key;have h7:∀i,Own (.slice A (fW key).length c) i→col i=7:=fun i hi=>h1.blk key i (by rw[hA];exact hi)
 refine⟨mW,A,c,h1.is,hA,hO,h7,fun w1 w2 A' c' l' hO1 hu1 hg hm2 hu2=> ?_⟩;have hu:Upd (fun i=>col i=3∨col i=7) w w2:=(hu1.mono (fun i _ e=> .inr (h7 i e))).trans (hu2.mono (fun i _ e=> .inl (by rw[e];exact h.cW)));have hbl:bW<w.heap.size:=h.lt bW (by rw[h.cW];decide);have hM:=MSl.put (G':=fun i=>colN w w1 col 7 i=7) h1 hA hO1 hu1 hg hm2 hu2 (by rw[h.cW];decide) hbl (fun i hi=>by rw[Ext.colN w w1 col 7 i (h.lt i (by rw[hi];decide))];exact hi) (fun i h1 h2=>ZcB i h1 h2)
 exact h.turn hu (Ext.colN _ _ _ _) (fun i hi=>Nat.lt_of_lt_of_le (Zc2 hu1.size i hi) hu2.size) (.inl ⟨by rw[h.cg];decide,rfl⟩) (.inl ⟨fun i hi e=>by omega,rfl⟩) (.inr ⟨_,hM⟩) (.inl ⟨fun i hi e=>by omega,rfl⟩)
  (.inl ⟨by rw[h.cU];decide,rfl⟩) (.inl ⟨by rw[h.cS];decide,rfl⟩)
theorem IXm.rlook (h:IXm w col g bT bW bR bU bS wt eT fW fR nU nS) (key:Ver):∃mR A c,MapE w bR ZN mR∧Zan mR key= .slice A (fR key).length c∧ZcC w A c (fR key)∧(∀i,Own (.slice A (fR key).length c) i→col i=8)∧
  ∀w1 w2 A' c' l',ZcC w1 A' c' l'→Upd (Own (.slice A (fR key).length c)) w w1→Grew w (.slice A (fR key).length c) (.slice A' l'.length c')→MapE w2 bR ZN (Zt mR key (.slice A' l'.length c'))→Upd (One bR) w1 w2→
   (l'≠[]→IXm w2 (colN w w1 col 8) g bT bW bR bU bS wt eT fW (fun k=>if k=key then l' else fR k) nU nS)∧
   (l'=[]→∀w3,MapE w3 bR ZN (Zas (Zt mR key (.slice A' l'.length c')) key)→Upd (One bR) w2 w3→IXm w3 (colN w w1 col 8) g bT bW bR bU bS wt eT fW (fun k=>if k=key then [] else fR k) nU nS):=by
 obtain⟨mR,h1,hk⟩:=h.rd;obtain⟨A,c,hA,hO⟩:=h1.row key;have h7:∀i,Own (.slice A (fR key).length c) i→col i=8:=fun i hi=>h1.blk key i (by rw[hA];exact hi)
 refine⟨mR,A,c,h1.is,hA,hO,h7,fun w1 w2 A' c' l' hO1 hu1 hg hm2 hu2=> ?_⟩;have hu:Upd (fun i=>col i=4∨col i=8) w w2:=(hu1.mono (fun i _ e=> .inr (h7 i e))).trans (hu2.mono (fun i _ e=> .inl (by rw[e];exact h.cR)));have hbl:bR<w.heap.size:=h.lt bR (by rw[h.cR];decide);have hM:=MSl.put (G':=fun i=>colN w w1 col 8 i=8) h1 hA hO1 hu1 hg hm2 hu2 (by rw[h.cR];decide) hbl (fun i hi=>by rw[Ext.colN w w1 col 8 i (h.lt i (by rw[hi];decide))];exact hi) (fun i h1 h2=>ZcB i h1 h2)
 have hkeys:∀v,v∈(Zt mR key (.slice A' l'.length c')).map (·.1)↔v=key∨fR v≠[]:=fun v=>by
  rw[Zhq]
  split
  ·rename_i h0
   rw[hk]
   constructor
   ·exact .inr
   ·rintro(rfl|h3)
    ·exact(hk _).1 h0
    ·exact h3
  ·rw[List.mem_append,List.mem_singleton,hk];exact Or.comm
 constructor
 ·intro hne
  refine h.turn hu (Ext.colN _ _ _ _) (fun i hi=>Nat.lt_of_lt_of_le (Zc2 hu1.size i hi) hu2.size) (.inl ⟨by rw[h.cg];decide,rfl⟩) (.inl ⟨fun i hi e=>by omega,rfl⟩) (.inl ⟨fun i hi e=>by omega,rfl⟩) (.inr ⟨_,hM,fun v=> ?_⟩)
   (.inl ⟨by rw[h.cU];decide,rfl⟩) (.inl ⟨by rw[h.cS];decide,rfl⟩)
  rw[hkeys]
  by_cases e:v=key
  ·simp[e,hne]
  ·simp[e]
 ·rintro rfl w3 hm3 hu3;have hu':Upd (fun i=>col i=4∨col i=8) w w3:=hu.trans_ (T:=One bR) hu3 (fun i _ e=> .inl (by rw[e];exact h.cR));have hD:=(MSl.del (key:=key) hM hm3 hu3 (by rw[Ext.colN w w1 col 8 bR hbl,h.cR];decide)).congr (g:=fun k=>if k=key then [] else fR k) (fun k=>by by_cases e:k=key<;>simp[e])
  refine h.turn hu' (Ext.colN _ _ _ _) (fun i hi=>Nat.lt_of_lt_of_le (Zc2 hu1.size i hi) (Nat.le_trans hu2.size hu3.size)) (.inl ⟨by rw[h.cg];decide,rfl⟩) (.inl ⟨fun i hi e=>by omega,rfl⟩) (.inl ⟨fun i hi e=>by omega,rfl⟩) (.inr ⟨_,hD,fun v=> ?_⟩)
   (.inl ⟨by rw[h.cU];decide,rfl⟩) (.inl ⟨by rw[h.cS];decide,rfl⟩)
  have hnd:=hM.nd
  have hget:v∈(Zas (Zt mR key (.slice A' ([]:List Int).length c')) key).map (·.1)↔v≠key∧v∈(Zt mR key (.slice A' ([]:List Int).length c')).map (·.1):=by
   have h3:=ZbV hnd key v;have h4:=Zbg (Zas (Zt mR key (.slice A' ([]:List Int).length c')) key) v;have h5:=Zbg (Zt mR key (.slice A' ([]:List Int).length c')) v;rw[h3]at h4
   by_cases e:v=key
   ·rw[if_pos e]at h4
    constructor
    ·intro hm;exact absurd hm (h4.1 rfl)
    ·intro hm;exact absurd e hm.1
   ·rw[if_neg e,h5]at h4
    constructor
    ·intro hm;refine⟨e,Classical.byContradiction fun hh=> ?_⟩;exact(h4.1 hh) hm
    ·intro hm;exact Classical.byContradiction fun hh=>(h4.2 hh) hm.2
  rw[hget,hkeys]
  by_cases e:v=key
  ·simp[e]
  ·simp[e]
theorem IXm.ulook (h:IXm w col g bT bW bR bU bS wt eT fW fR nU nS):∃mU,MapE w bU Z2 mU∧CntM mU nU∧∀w2 m2 n2,MapE w2 bU Z2 m2→CntM m2 n2→Upd (One bU) w w2→IXm w2 col g bT bW bR bU bS wt eT fW fR n2 nS:=by
 obtain⟨mU,h1,h2⟩:=h.us;refine⟨mU,h1,h2,fun w2 m2 n2 k1 k2 hu=> ?_⟩;have hu':Upd (fun i=>col i=5) w w2:=hu.mono (fun i _ e=>by rw[e];exact h.cU);exact h.turn hu' (Ext.refl _ _) (fun i hi=>Nat.lt_of_lt_of_le (h.lt i hi) hu.size) (.inl ⟨by rw[h.cg];decide,rfl⟩) (.inl ⟨fun i hi e=>by omega,rfl⟩) (.inl ⟨fun i hi e=>by omega,rfl⟩) (.inl ⟨fun i hi e=>by omega,rfl⟩) (.inr ⟨m2,k1,k2⟩) (.inl ⟨by rw[h.cS];decide,rfl⟩)
theorem IXm.slook (h:IXm w col g bT bW bR bU bS wt eT fW fR nU nS):∃mS,MapE w bS Z2 mS∧CntM mS nS∧∀w2 m2 n2,MapE w2 bS Z2 m2→CntM m2 n2→Upd (One bS) w w2→IXm w2 col g bT bW bR bU bS wt eT fW fR nU n2:=by
 obtain⟨mS,h1,h2⟩:=h.ws;refine⟨mS,h1,h2,fun w2 m2 n2 k1 k2 hu=> ?_⟩;have hu':Upd (fun i=>col i=6) w w2:=hu.mono (fun i _ e=>by rw[e];exact h.cS);exact h.turn hu' (Ext.refl _ _) (fun i hi=>Nat.lt_of_lt_of_le (h.lt i hi) hu.size) (.inl ⟨by rw[h.cg];decide,rfl⟩) (.inl ⟨fun i hi e=>by omega,rfl⟩) (.inl ⟨fun i hi e=>by omega,rfl⟩) (.inl ⟨fun i hi e=>by omega,rfl⟩) (.inl ⟨by rw[h.cU];decide,rfl⟩) (.inr ⟨m2,k1,k2⟩)
theorem IXm.weigh (h:IXm w col g bT bW bR bU bS wt eT fW fR nU nS) (v:Int) {w2:World} (hb:Blk w2 g 166 [.map (some bT),.map (some bW),.map (some bR),.map (some bU),.map (some bS),.int .i64 v]) (hu:Upd (One g) w w2):IXm w2 col g bT bW bR bU bS v eT fW fR nU nS:=by
 have hu':Upd (fun i=>col i=1) w w2:=hu.mono (fun i _ e=>by rw[e];exact h.cg);exact h.turn hu' (Ext.refl _ _) (fun i hi=>Nat.lt_of_lt_of_le (h.lt i hi) hu.size) (.inr hb) (.inl ⟨fun i hi e=>by omega,rfl⟩) (.inl ⟨fun i hi e=>by omega,rfl⟩) (.inl ⟨fun i hi e=>by omega,rfl⟩) (.inl ⟨by rw[h.cU];decide,rfl⟩) (.inl ⟨by rw[h.cS];decide,rfl⟩)
theorem IXm.tdel (h:IXm w col g bT bW bR bU bS wt eT fW fR nU nS) (id:Int):∃mT,MapE w bT (fun n:Int=>Value.int .i64 n) mT∧∀w2,MapE w2 bT (fun n:Int=>Value.int .i64 n) (Zas mT id)→Upd (One bT) w w2→
  IXm w2 col g bT bW bR bU bS wt (fun k=>if k=id then none else eT k) fW fR nU nS:=by
 obtain⟨mT,h1,h2,h3⟩:=h.tx;refine⟨mT,h1,fun w2 k1 hu=> ?_⟩;have hu':Upd (fun i=>col i=2) w w2:=hu.mono (fun i _ e=>by rw[e];exact h.cT);refine h.turn hu' (Ext.refl _ _) (fun i hi=>Nat.lt_of_lt_of_le (h.lt i hi) hu.size) (.inl ⟨by rw[h.cg];decide,rfl⟩) (.inr ⟨_,k1,ZdZ h2 id,fun k=> ?_⟩) (.inl ⟨fun i hi e=>by omega,rfl⟩) (.inl ⟨fun i hi e=>by omega,rfl⟩) (.inl ⟨by rw[h.cU];decide,rfl⟩) (.inl ⟨by rw[h.cS];decide,rfl⟩);rw[ZbV h2]
 by_cases e:k=id
 ·simp only[if_pos e];rfl
 ·simp only[if_neg e];exact(h3 k).upd hu' (fun i hi e=>by omega) (fun _ e=>e)
theorem IXm.tput (h:IXm w col g bT bW bR bU bS wt eT fW fR nU nS) (t:HTx):∃mT,MapE w bT (fun n:Int=>Value.int .i64 n) mT∧∀A c w2 col' (S:Nat→Prop),(∀i,S i→col i=2∨col i=0)→Upd S w w2→HOps (fun i=>col' i=9) w2 A t.ops→t.ops.length≤c→Ext w col col'→(∀i,col' i≠0→i<w2.heap.size)→
  MapE w2 bT (fun n:Int=>Value.int .i64 n) (Zt mT t.id (.agg #[.int .i64 t.id,.bool t.done,.slice A t.ops.length c]))→
  IXm w2 col' g bT bW bR bU bS wt (fun k=>if k=t.id then some t else eT k) fW fR nU nS:=by
 obtain⟨mT,h1,h2,h3⟩:=h.tx;refine⟨mT,h1,fun A c w2 col' S hS hu hA hc hx hl k1=> ?_⟩;have hn:∀{i c:Nat},col i=c→c≠2→c≠0→¬S i:=fun hi h4 h5 e=>by have:=hS _ e;omega
 refine h.turn hu hx hl (.inl ⟨hn h.cg (by decide) (by decide),rfl⟩) (.inr ⟨_,k1,ZdW h2 _ _,fun k=> ?_⟩) (.inl ⟨fun i hi e=>by have:=hS i e;omega,rfl⟩) (.inl ⟨fun i hi e=>by have:=hS i e;omega,rfl⟩) (.inl ⟨hn h.cU (by decide) (by decide),rfl⟩) (.inl ⟨hn h.cS (by decide) (by decide),rfl⟩);rw[Zal]
 by_cases e:k=t.id
 ·simp only[if_pos e];exact⟨A,c,rfl,hc,hA⟩
 ·simp only[if_neg e];exact(h3 k).upd hu (fun i hi e=>by have:=hS i e;omega) (h.sl hx (by decide))
end
end
end Go.Proofs.YtblplapkdmhikaaGreat
