/- An index of transactions in memory: whose block is whose is told by its colour. -/
import Derived.Test.YtblplapkdmhikaaDxbg
import Derived.Test.YtblplapkdmhikaaDxbi
namespace Go.Proofs.Ytblplapkdmhikaa
set_option linter.unusedVariables false
set_option linter.unusedSimpArgs false
section
open Go.RowKit
def TxAt (w:World) (G:Nat→Prop) (v:Option Value):Option HTx→Prop
 |none=>v=none
 |some t=>∃A c,v=some (.agg #[.int .i64 t.id,.bool t.done,.slice A t.ops.length c])∧t.ops.length≤c∧HOps G w A t.ops
theorem TxAt.upd {w w':World} {G G' S:Nat→Prop} {v:Option Value} {o:Option HTx} (h:TxAt w G v o) (k:Upd S w w') (hS:∀i,G i→¬S i) (hG:∀i,G i→G' i):TxAt w' G' v o:=by
 cases o with
 |none=>exact h
 |some t=>
  obtain⟨A,c,h1,h2,h3⟩:=h;exact⟨A,c,h1,h2,(HOps.upd h3 k hS).weak fun i _ e=>hG i e⟩
def Ext (w:World) (col col':Nat→Nat):Prop:=∀i,i<w.heap.size→col' i=col i
def colN (w w':World) (col:Nat→Nat) (c:Nat):Nat→Nat:=fun i=>if i<w.heap.size then col i else if i<w'.heap.size then c else 0
theorem Ext.refl (w:World) (col:Nat→Nat):Ext w col col:=fun _ _=>rfl
theorem Ext.trans {w w':World} {a b c:Nat→Nat} (h:Ext w a b) (k:Ext w' b c) (hs:w.heap.size≤w'.heap.size):Ext w a c:=fun i hi=>(k i (by omega)).trans (h i hi)
theorem Ext.colN (w w':World) (col:Nat→Nat) (c:Nat):Ext w col (colN w w' col c):=fun i hi=>by unfold Go.Proofs.Ytblplapkdmhikaa.colN;rw[if_pos hi]
theorem ZbZ {w w':World} {col:Nat→Nat} {c:Nat} (hs:w.heap.size≤w'.heap.size) (i:Nat) (h:colN w w' col c i≠0):i<w'.heap.size:=by
 unfold colN at h
 split at h
 ·omega
 ·split at h
  ·assumption
  ·exact absurd rfl h
theorem ZbC {w w':World} {col:Nat→Nat} {c:Nat} (i:Nat) (h1:w.heap.size≤i) (h2:i<w'.heap.size):colN w w' col c i=c:=by
 unfold colN;rw[if_neg (by omega),if_pos h2]
structure IXm (w:World) (col:Nat→Nat) (g bT bW bR bU bS:Nat) (wt:Int) (eT:Int→Option HTx) (fW:Int→List Int) (fR:Ver→List Int) (nU nS:Int×Int→Nat):Prop where
 cg:col g=1
 cT:col bT=2
 cW:col bW=3
 cR:col bR=4
 cU:col bU=5
 cS:col bS=6
 lt:∀i,col i≠0→i<w.heap.size
 blk:Blk w g 99 [.map (some bT),.map (some bW),.map (some bR),.map (some bU),.map (some bS),.int .i64 wt]
 tx:∃mT,MapE w bT (fun n:Int=>Value.int .i64 n) mT∧(mT.map (·.1)).Nodup∧∀id,TxAt w (fun i=>col i=9) (Zm mT id) (eT id)
 wr:∃mW,MSl (fun n:Int=>Value.int .i64 n) w (fun i=>col i=7) bW mW fW
 rd:∃mR,MSl ZL w (fun i=>col i=8) bR mR fR∧∀v,v∈mR.map (·.1)↔fR v≠[]
 us:∃mU,MapE w bU ZQ mU∧CntM mU nU
 ws:∃mS,MapE w bS ZQ mS∧CntM mS nS
section
variable {w w':World} {col col':Nat→Nat} {g bT bW bR bU bS:Nat} {wt wt':Int} {eT eT':Int→Option HTx} {fW fW':Int→List Int} {fR fR':Ver→List Int} {nU nU' nS nS':Int×Int→Nat} {S:Nat→Prop}
theorem IXm.ext (h:IXm w col g bT bW bR bU bS wt eT fW fR nU nS) (he:Ext w col col') {i c:Nat} (hi:col i=c) (hc:c≠0):col' i=c:=by
 rw[he i (h.lt i (by rw[hi];exact hc))];exact hi
theorem IXm.sl (h:IXm w col g bT bW bR bU bS wt eT fW fR nU nS) (he:Ext w col col') {c:Nat} (hc:c≠0):∀i,col i=c→col' i=c:=fun _ hi=>h.ext he hi hc
theorem IXm.upd (h:IXm w col g bT bW bR bU bS wt eT fW fR nU nS) (k:Upd S w w') (hS:∀i,col i≠0→¬S i):IXm w' col g bT bW bR bU bS wt eT fW fR nU nS:=by
 have hc:∀{i c:Nat},col i=c→c≠0→¬S i:=fun hi h0=>hS _ (by rw[hi];exact h0)
 obtain⟨mT,t1,t2,t3⟩:=h.tx;obtain⟨mW,w1⟩:=h.wr;obtain⟨mR,r1,r2⟩:=h.rd;obtain⟨mU,u1,u2⟩:=h.us;obtain⟨mS,s1,s2⟩:=h.ws
 exact⟨h.cg,h.cT,h.cW,h.cR,h.cU,h.cS,fun i hi=>Nat.lt_of_lt_of_le (h.lt i hi) k.size,h.blk.upd k (hc h.cg (by decide)),
  ⟨mT,t1.upd k (hc h.cT (by decide)),t2,fun id=>(t3 id).upd k (fun i hi=>hc hi (by decide)) (fun _ e=>e)⟩,
  ⟨mW,w1.upd k (hc h.cW (by decide)) (fun i hi=>hc hi (by decide))⟩,⟨mR,r1.upd k (hc h.cR (by decide)) (fun i hi=>hc hi (by decide)),r2⟩,
  ⟨mU,u1.upd k (hc h.cU (by decide)),u2⟩,⟨mS,s1.upd k (hc h.cS (by decide)),s2⟩⟩
theorem IXm.no (h:IXm w col g bT bW bR bU bS wt eT fW fR nU nS) (k:Upd No w w'):IXm w' col g bT bW bR bU bS wt eT fW fR nU nS:=h.upd k fun _ _=>id
theorem IXm.turn (h:IXm w col g bT bW bR bU bS wt eT fW fR nU nS) (k:Upd S w w') (he:Ext w col col') (hl:∀i,col' i≠0→i<w'.heap.size)
  (p1:(¬S g∧wt'=wt)∨Blk w' g 99 [.map (some bT),.map (some bW),.map (some bR),.map (some bU),.map (some bS),.int .i64 wt'])
  (p2:((∀i,col i=2∨col i=9→¬S i)∧eT'=eT)∨∃mT,MapE w' bT (fun n:Int=>Value.int .i64 n) mT∧(mT.map (·.1)).Nodup∧∀id,TxAt w' (fun i=>col' i=9) (Zm mT id) (eT' id))
  (p3:((∀i,col i=3∨col i=7→¬S i)∧fW'=fW)∨∃mW,MSl (fun n:Int=>Value.int .i64 n) w' (fun i=>col' i=7) bW mW fW')
  (p4:((∀i,col i=4∨col i=8→¬S i)∧fR'=fR)∨∃mR,MSl ZL w' (fun i=>col' i=8) bR mR fR'∧∀v,v∈mR.map (·.1)↔fR' v≠[])
  (p5:(¬S bU∧nU'=nU)∨∃mU,MapE w' bU ZQ mU∧CntM mU nU')
  (p6:(¬S bS∧nS'=nS)∨∃mS,MapE w' bS ZQ mS∧CntM mS nS'):IXm w' col' g bT bW bR bU bS wt' eT' fW' fR' nU' nS':=by
 refine⟨h.ext he h.cg (by decide),h.ext he h.cT (by decide),h.ext he h.cW (by decide),h.ext he h.cR (by decide),h.ext he h.cU (by decide),h.ext he h.cS (by decide),hl,?_,?_,?_,?_,?_,?_⟩
 ·rcases p1 with ⟨a,rfl⟩|a
  ·exact h.blk.upd k a
  ·exact a
 ·rcases p2 with ⟨a,rfl⟩|a
  ·obtain⟨mT,t1,t2,t3⟩:=h.tx;exact⟨mT,t1.upd k (a _ (.inl h.cT)),t2,fun id=>(t3 id).upd k (fun i hi=>a i (.inr hi)) (h.sl he (by decide))⟩
  ·exact a
 ·rcases p3 with ⟨a,rfl⟩|a
  ·obtain⟨mW,w1⟩:=h.wr;exact⟨mW,(w1.upd k (a _ (.inl h.cW)) (fun i hi=>a i (.inr hi))).mono (h.sl he (by decide))⟩
  ·exact a
 ·rcases p4 with ⟨a,rfl⟩|a
  ·obtain⟨mR,r1,r2⟩:=h.rd;exact⟨mR,(r1.upd k (a _ (.inl h.cR)) (fun i hi=>a i (.inr hi))).mono (h.sl he (by decide)),r2⟩
  ·exact a
 ·rcases p5 with ⟨a,rfl⟩|a
  ·obtain⟨mU,u1,u2⟩:=h.us;exact⟨mU,u1.upd k a,u2⟩
  ·exact a
 ·rcases p6 with ⟨a,rfl⟩|a
  ·obtain⟨mS,s1,s2⟩:=h.ws;exact⟨mS,s1.upd k a,s2⟩
  ·exact a
end
theorem CntM.del {α:Type} [DecidableEq α] {m:List (α×Value)} {g:α→Nat} (h:CntM m g) (a:α):CntM (Z3 m a) (fun x=>if x=a then 0 else g x):=by
 refine⟨ZcA h.nd a,fun x=> ?_⟩;rw[Za8 h.nd]
 by_cases e:x=a
 ·simp[e]
 ·simp only[if_neg e];exact h.get x
def ZP (q:List HTx) (p:Int×Int):Nat:=match Zb q p.1 with|some t=>(Zy t).countP fun v=>v.tx==p.2|none=>0
def ZH (q:List HTx) (p:Int×Int):Nat:=Zac q p.1 p.2
def IX (w:World) (col:Nat→Nat) (g:Nat) (q:List HTx):Prop:=
 (∃bT bW bR bU bS,IXm w col g bT bW bR bU bS (Zk q:Int) (Zb q) (Zz q) (Zt q) (ZP q) (ZH q))∧Zh q∧okQ q
theorem IX.upd {w w':World} {col:Nat→Nat} {g:Nat} {q:List HTx} {S:Nat→Prop} (h:IX w col g q) (k:Upd S w w') (hS:∀i,col i≠0→¬S i):IX w' col g q:=by
 obtain⟨⟨bT,bW,bR,bU,bS,h1⟩,h2⟩:=h;exact⟨⟨bT,bW,bR,bU,bS,h1.upd k hS⟩,h2⟩
theorem IX.no {w w':World} {col:Nat→Nat} {g:Nat} {q:List HTx} (h:IX w col g q) (k:Upd No w w'):IX w' col g q:=h.upd k fun _ _=>id
theorem Zbl:KeyBy Try.prog 108 ZQ:=by
 have hag:∀a:Int×Int,∃cs,ZQ a= .agg cs:=fun a=>⟨_,rfl⟩
 refine KeyBy.agg_ Try.underlying108 hag (fun w e p=> ?_) (fun a=>by simp[ZQ,Instr.sameBits]) (fun w x y=> ?_)
 ·show(Instr.checkKey e (9998+1+1) _ _).run _ w=_
  generalize 9998=d
  have hI:∀(w:World) (x:Int),(Instr.checkKey e (d+1) 3 (.int .i64 x)).run Try.prog w= .ok () w:=fun w x=>by unfold Instr.checkKey;simp[run_underlying Try.underlying3]
  unfold Instr.checkKey ZQ;simp[run_underlying Try.underlying108,←Array.forIn_toList,part,hI,Result.andThen]
 ·obtain⟨a,b⟩:=x;obtain⟨a',b'⟩:=y;unfold ZQ
  show(Op.equalIn 10000 _ _ _).run _ w=_
  rw[run_equalIn_struct w _ _ _ _ (by kernel_rfl) (by kernel_rfl)];have hI:∀(w:World) (d:Nat) (x y:Int),(Op.equalIn (d+1) 3 (.int .i64 x) (.int .i64 y)).run Try.prog w= .ok (x==y) w:=fun w d x y=>run_equalIn_int w d _ _ _ x y Try.underlying3
  by_cases h1:a=a'<;>by_cases h2:b=b'<;>
   simp[Program.fieldsOf,Try.underlying108,Op.eqFields,part,hI,h1,h2,Result.andThen]
end
end Go.Proofs.Ytblplapkdmhikaa
