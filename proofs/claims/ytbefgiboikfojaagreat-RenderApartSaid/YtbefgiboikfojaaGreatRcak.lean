/- Slices of structs: copied into a row of one's own; grown by zeros. -/
import Derived.Lib.AppendZerosOnto
import Derived.Test.YtbefgiboikfojaaGreatRcae
namespace Go.Proofs.YtbefgiboikfojaaGreat
open Go.RowKit
set_option linter.unusedVariables false
set_option linter.unusedSimpArgs false
set_option maxRecDepth 100000
set_option maxHeartbeats 4000000
section
variable {P:Gw} {W:Gy} {dT sT e:Gx} {size bytes:Nat}
theorem Zj8{ty:Gx}(hT:SlT P dT e size bytes){g o dLen dCap:Nat}{ad:Addr}{sLen sCap n:Nat}{t:Gx}{cur cs:Gl}(hb:Blk W g t cur)(hn:Nat.min sLen dLen=n)(hl:cs.length=n*size)
  (cE:∀(j:Nat) v,cs[j]? =some v->W.cell? (ad.add j)=some v) (aR:o+cs.length<=cur.length) (h1:∀v∈cs,v.oneCell'=true):
  (Builtin.copy_ #[dT,sT] ty #[.slice (some ⟨g,o,none⟩) dLen dCap,.slice (some ad) sLen sCap]).run P W= .ok (goInt n) (W.setRow g (cur.take o++cs++cur.drop (o+cs.length)).toArray):=by
 obtain⟨ht,i,z,hi,hz,aF,dY,gc,ci⟩:=hT;have og:=run_loadCells_list (P:=P) W ad cs cE;have ag:=run_storeCells_at P g o t cs 0 cur.toArray W hb (by simpa using aR) h1;rw[hl]at og;simp[Builtin.copy_,run_underlying ht,Builtin.lenOf,Builtin.firstCells,sizeOf,typeInfo,hi,aF,hn,og,ag]
theorem ZdE{g:Nat}{t:Gx}{cur cs:Gl}(hb:Blk W g t cur):Blk (W.setRow g cs.toArray) g t cs:=setRow_heap W g cur.toArray cs.toArray t (0,0) hb
theorem Zds(g:Nat)(cs:Gj):Upd (One g) W (W.setRow g cs):=⟨rfl,rfl,rfl,by simp[World.setRow],fun k hk hn=>setRow_other W g k _ hn⟩
end
section
variable {P:Gw} {ops:Array Oper} {rest:List Oper} {o:Oper} {a:Act} {Q:Exit->Act->Gy->Prop} {W:Gy} {dT sT e:Gx} {size bytes:Nat}
theorem ZhQ(cw:o.guard=none){d s:Operand}(ho:o.op= .call {callee:= .builtin .copy,args:= #[d,s],argTypes:= #[dT,sT]})(hT:SlT P dT e size bytes){g off dLen dCap:Nat}{ad:Addr}{sLen sCap n:Nat}{t:Gx}{cur cs:Gl}
  (hd:a.eval d= .slice (some ⟨g,off,none⟩) dLen dCap) (hs:a.eval s= .slice (some ad) sLen sCap) (hb:Blk W g t cur) (hn:Nat.min sLen dLen=n) (hl:cs.length=n*size)
  (cE:∀(j:Nat) v,cs[j]? =some v->W.cell? (ad.add j)=some v) (aR:off+cs.length<=cur.length) (h1:∀v∈cs,v.oneCell'=true)
  (h:∀w',Blk w' g t (cur.take off++cs++cur.drop (off+cs.length))->Upd (One g) W w'->wpList P ops Q rest (a.put o.dst (goInt n)) w'):wpList P ops Q (o::rest) a W:=by
 refine wpList_plain cw fun K hK=>?_
 have dl:=Zj8 (P:=P) (sT:=sT) (ty:=o.type) (dCap:=dCap) (sCap:=sCap) hT hb hn hl cE aR h1;unfold Oper.wp;simp[execOp,ho,resolve,invoke,builtin,hd,hs,dl,Result.andThen];exact hK _ _ (h _ (by simpa using ZdE hb) (Zds _ _))
theorem ZfI{K:Act->Gy->Prop}{E:Prop}(cw:o.guard=none){d s:Operand}(ho:o.op= .call {callee:= .builtin .copy,args:= #[d,s],argTypes:= #[dT,sT]})(hT:SlT P dT e size bytes){g off dLen dCap:Nat}{ad:Addr}{sLen sCap n:Nat}{t:Gx}{cur cs:Gl}
  (hd:a.eval d= .slice (some ⟨g,off,none⟩) dLen dCap) (hs:a.eval s= .slice (some ad) sLen sCap) (hb:Blk W g t cur) (hn:Nat.min sLen dLen=n) (hl:cs.length=n*size)
  (cE:∀(j:Nat) v,cs[j]? =some v->W.cell? (ad.add j)=some v) (aR:off+cs.length<=cur.length) (h1:∀v∈cs,v.oneCell'=true)
  (h:∀w',Blk w' g t (cur.take off++cs++cur.drop (off+cs.length))->Upd (One g) W w'->K (a.put o.dst (goInt n)) w'):if Region.wanted o (yielded ops a.tmps)=true then Oper.wp P o a W K Q else E:=by
 rw[if_pos (by simp[Region.wanted,cw])];have dl:=Zj8 (P:=P) (sT:=sT) (ty:=o.type) (dCap:=dCap) (sCap:=sCap) hT hb hn hl cE aR h1;unfold Oper.wp;simp[execOp,ho,resolve,invoke,builtin,hd,hs,dl,Result.andThen];exact h _ (by simpa using ZdE hb) (Zds _ _)
end
/-! rows of one's own,seen as blocks -/
theorem ZjF{w:Gy}{base:Nat}{e:Gx}{size:Nat}{A:OA}{n c:Nat}{xs:Gl}(h:w.ownsRow base e size (.slice A n c) n xs)(hn:0<n):
  ∃g cur,A=some ⟨g,0,none⟩∧base<=g∧Blk w g e cur∧n<=c∧cur.length=c*size∧cur.take (n*size)=xs∧c<=maxLen:=by
 rcases h.2 with ⟨_,rfl⟩|⟨g,cap,cur,hv,hb,hg,eA,il,ct,bg⟩
 ·omega
 ·cases hv
  exact⟨g,cur.toList,rfl,hb,by unfold Blk;simpa using hg,eA,by simpa using ct,bg,il⟩
theorem ZdB{w:Gy}{base g:Nat}{e:Gx}{size n c:Nat}{cur xs:Gl}(hb:Blk w g e cur)(hg:base<=g)(eA:n<=c)(hl:cur.length=c*size)(hx:cur.take (n*size)=xs)(hc:c<=maxLen)(hs:xs.length=n*size):
  w.ownsRow base e size (.slice (some ⟨g,0,none⟩) n c) n xs:=
 ⟨hs,.inr ⟨g,c,cur.toArray,rfl,hg,hb,eA,hc,by simpa using hl,by simpa using hx⟩⟩
theorem Zpb{P:Gw}{W:Gy}{t tn ty e:Gx}{size bytes:Nat}{kn:IntKind}(hT:SlT P t e size bytes)(htn:P.underlying tn=some (.int kn)){g n c k:Nat}{olds:Gl}
  (hl:olds.length=n*size) (hold:∀(j:Nat) v,olds[j]? =some v->W.cell? ⟨g,j,none⟩=some v) (h0:0<k) (hg:c<n+k) (hn:n+k<=1000000000) (hb:bytes<=4096):
  ∃c' zs w',(Builtin.append_ #[t,tn] ty #[.slice (some ⟨g,0,none⟩) n c,Qi (k:Int)]).run P W= .ok (.slice (some ⟨W.heap.size,0,none⟩) (n+k) c') w'∧n+k<=c'∧c'<=maxLen∧Blk w' W.heap.size e (olds++zs)∧(olds++zs).length=c'*size∧Upd No W w':=by
 obtain⟨ht,i,z,hi,hz,aF,dY,gc,ci⟩:=hT
 have Cj:=run_firstCells_some (P:=P) W.drew i.size n ⟨g,0,none⟩ n c olds (by rw[aF];exact hl) (fun j v hj=>by
  have e1:(⟨g,0,none⟩:Addr).add j=⟨g,j,none⟩:=by unfold Addr.add;split<;>simp_all
  rw[e1];exact hold j v hj)
 have mP:(n+k)*i.bytes<=1000000000*4096:=by rw[dY];exact Nat.mul_le_mul hn hb
 have yI:k*i.bytes<=1000000000*4096:=by rw[dY];exact Nat.mul_le_mul (by omega) hb
 have kX:=Lib.run_append_grow_zeros W t tn ty e i z .i64 kn ht htn hi hz (some ⟨g,0,none⟩) n c olds Cj k h0 (by omega) hg (by omega) (by omega) (growslice_fits (by omega) (by omega));have dd:=grownCap_ge W (n+k) c e;have hle:=grownCap_le_maxLen W (n+k) c e (by unfold maxLen;omega);generalize grownCap W (n+k) c e=G at*;refine⟨G,(Builtin.zeroCells z.cells k++Builtin.zeroCells z.cells (G-(n+k))).toList,_,kX,dd,hle,?_,?_,?_⟩
 ·have wL:olds.toArray++Builtin.zeroCells z.cells k++Builtin.zeroCells z.cells (G-(n+k))=(olds++(Builtin.zeroCells z.cells k++Builtin.zeroCells z.cells (G-(n+k))).toList).toArray:=by simp[Array.append_assoc]
  rw[wL];exact Gh W.drew e _
 ·rw[Fb,hl];simp[Builtin.zeroCells,gc];rw[<-Nat.add_mul,<-Nat.add_mul]
  congr 1
  omega
 ·exact((Gg No W).drew).alloc _
theorem ZcV{P:Gw}{ops:Array Oper}{o:Oper}{a:Act}{W:Gy}{K:Act->Gy->Prop}{Q:Exit->Act->Gy->Prop}{E:Prop}(cw:o.guard=none){ty:Gx}{x y:Operand}(ho:o.op= .store ty x y)
  {g:Nat} {t:Gx} {old cells:Gl} (hx:a.eval x= .pointer (some ⟨g,0,none⟩)) (hy:a.eval y= .agg cells.toArray) (hb:Blk W g t old) (hi:(P.info? ty).map (·.size)=some cells.length) (hold:old.length=cells.length)
  (h1:cells.all (·.oneCell')=true) (h:∀w',Blk w' g t cells->Upd (One g) W w'->K (a.put o.dst undef) w'):if Region.wanted o (yielded ops a.tmps)=true then Oper.wp P o a W K Q else E:=by
 rw[if_pos (by simp[Region.wanted,cw])];refine wp_store_row ty x y ho g cells.toArray hx hy t old.toArray hb (by simpa using hi) (by simpa using hold) (by simpa using h1) ?_;exact h _ (setRow_heap W g old.toArray cells.toArray t (0,0) hb) ⟨rfl,rfl,rfl,by simp[World.setRow],fun k hk hn=>setRow_other W g k _ hn⟩
theorem ZoR{P:Gw}{ops:Array Oper}{rest:List Oper}{o:Oper}{a:Act}{Q:Exit->Act->Gy->Prop}{W:Gy}{t e:Gx}{size bytes:Nat}(cw:o.guard=none){s:Operand}
  (ho:o.op= .call {callee:= .builtin .clear,args:= #[s],argTypes:= #[t]}) (hT:SlT P t e size bytes) {z:Gz} (hv:∀w,(zeroValue e).run P w= .ok z w) (gc:z.cells.size=size) (dj:∀v∈z.cells.toList,v.oneCell'=true) {g off n c:Nat} {t0:Gx} {cur:Gl}
  (hs:a.eval s= .slice (some ⟨g,off,none⟩) n c) (hn:0<n) (hb:Blk W g t0 cur) (aR:off+n*size<=cur.length)
  (h:∀zs w',zs.length=n*size->Blk w' g t0 (cur.take off++zs++cur.drop (off+zs.length))->Upd (One g) W w'->wpList P ops Q rest (a.put o.dst (.tuple #[])) w'):wpList P ops Q (o::rest) a W:=by
 obtain⟨ht,i,z',hi,hz,aF,dY,Dt,ci⟩:=hT;have xJ:(Builtin.zeroCells z.cells n).toList.length=n*size:=by simp[Builtin.zeroCells,gc]
 have gw:∀v∈(Builtin.zeroCells z.cells n).toList,v.oneCell'=true:=fun v hv=>by
  unfold Builtin.zeroCells at hv;simp only[Array.toList_map,Gc]at hv;obtain⟨k,_,rfl⟩:=hv;have hlt:k%z.cells.size<z.cells.size:=Nat.mod_lt _ (by omega);rw[getElem!_pos z.cells _ hlt];exact dj _ (by simp)
 have ag:=run_storeCells_at P g off t0 (Builtin.zeroCells z.cells n).toList 0 cur.toArray W hb (by simpa[xJ]using aR) gw;obtain⟨m,rfl⟩:∃m,n=m+1:=⟨n-1,by omega⟩
 have hr:(Builtin.clear_ #[t] o.type #[.slice (some ⟨g,off,none⟩) (m+1) c]).run P W= .ok (.tuple #[]) (W.setRow g (cur.take off++(Builtin.zeroCells z.cells (m+1)).toList++cur.drop (off+(Builtin.zeroCells z.cells (m+1)).toList.length)).toArray):=by
  simp only[Nat.add_zero]at ag;simp only[Builtin.clear_];simp[run_underlying ht,hv,ag]
 refine wpList_plain cw fun _ hK=>?_
 unfold Oper.wp execOp;simp only[ho,resolve,invoke,builtin,Sem.run_bind,Sem.run_pure,Result.andThen_ok,List.map_toArray,Gb,List.map_nil,hs,hr];exact hK _ _ (h _ _ xJ (ZdE hb) (Zds _ _))
theorem ZqF{P:Gw}{ops:Array Oper}{rest:List Oper}{o:Oper}{a:Act}{Q:Exit->Act->Gy->Prop}{W:Gy}{t tn e:Gx}{size bytes:Nat}{kn:IntKind}(cw:o.guard=none){s x:Operand}
  (ho:o.op= .call {callee:= .builtin .append,args:= #[s,x],argTypes:= #[t,tn]}) (hT:SlT P t e size bytes) (htn:P.underlying tn=some (.int kn)) {g n c k:Nat} {olds:Gl}
  (hs:a.eval s= .slice (some ⟨g,0,none⟩) n c) (hx:a.eval x= Qi (k:Int))
  (hl:olds.length=n*size) (hold:∀(j:Nat) v,olds[j]? =some v->W.cell? ⟨g,j,none⟩=some v) (h0:0<k) (hg:c<n+k) (hn:n+k<=1000000000) (hb:bytes<=4096)
  (h:∀c' zs w',n+k<=c'->c'<=maxLen->Blk w' W.heap.size e (olds++zs)->(olds++zs).length=c'*size->Upd No W w'->wpList P ops Q rest (a.put o.dst (.slice (some ⟨W.heap.size,0,none⟩) (n+k) c')) w'):wpList P ops Q (o::rest) a W:=by
 obtain⟨c',zs,w',hr,h1,h2,h3,h4,h5⟩:=Zpb (ty:=o.type) hT htn hl hold h0 hg hn hb;refine wpList_plain cw fun _ hK=>?_
 unfold Oper.wp execOp;simp only[ho,resolve,invoke,builtin,Sem.run_bind,Sem.run_pure,Result.andThen_ok,List.map_toArray,Gb,List.map_nil,hs,hx,hr];exact hK _ _ (h c' zs w' h1 h2 h3 h4 h5)
/- Transactions that lie there. -/
theorem ZtP{G:Gt}{w:Gy}{A:OA}{l:List HTx}(h:Recs G w A 3 (l.map HTx.cells)){k:Nat}(hk:k<l.length):∃ad,A=some ad∧
  w.cell? (ad.add (k*3))=some (Qi l[k].id)∧w.cell? ⟨(ad.add (k*3)).block,(ad.add (k*3)).off+1,none⟩=some (.bool l[k].done)∧w.cell? ⟨(ad.add (k*3)).block,(ad.add (k*3)).off+2,none⟩=some (.slice l[k].A l[k].ops.length l[k].c):=by
 have dq:k<(l.map HTx.cells).length:=by simpa using hk
 obtain⟨ad,e,_,_,hc⟩:=Recs.at_ h dq;rw[Fk]at hc;exact⟨ad,e,by simpa using hc 0 _ rfl,by simpa using hc 1 _ rfl,by simpa using hc 2 _ rfl⟩
def TxsY(F:Gt)(w:Gy)(A:OA)(l:List HTx):Prop:=Recs F w A 3 (l.map HTx.cells)∧∀t∈l,t.lies F w
theorem HTx.lies.weak{F G:Gt}{w:Gy}{t:HTx}(h:t.lies F w)(hg:∀i,i<w.heap.size->F i->G i):t.lies G w:=⟨Recs.weak h.1 hg,h.2⟩
section
variable {F G S:Gt} {w w':Gy} {A:OA}
theorem TxsY.upd{l:List HTx}(h:TxsY F w A l)(k:Upd S w w')(hn:∀i,F i->¬S i):TxsY F w' A l:=⟨Recs.upd h.1 k hn,fun t ht=>(h.2 t ht).upd k hn⟩
theorem TxsY.weak{l:List HTx}(h:TxsY F w A l)(hg:∀i,i<w.heap.size->F i->G i):TxsY G w A l:=⟨Recs.weak h.1 hg,fun t ht=>(h.2 t ht).weak hg⟩
end
/- A history's weight:the program's,and the document's. -/
def Zed(l:List HTx):Nat:=(l.map fun t=>t.ops.length+1).sum
theorem ZoW{l:List HTx}{k:Nat}{x:HTx}(hk:k<l.length)(hx:l[k]=x):Zed (l.take (k+1))=Zed (l.take k)+(x.ops.length+1):=by
 unfold Zed;rw[Es hk,F4,List.sum_append,hx];simp
theorem Zvp(w:Gy)(i0:Int)(dn:Bool)(A:OA)(n c:Nat)(hn:n<=1000000):CN 60 #[.agg #[Qi i0,.bool dn,.slice A n c]] w (Qi ((n:Int)+1)):=by
 have bB:=Gh w 53 [Qi i0,.bool dn,.slice A n c];have g2:=bB.cell 2;simp only[Qz,Qs]at g2;have au:IntKind.i64.wrap ((n:Int)+1)=(n:Int)+1:=IntWalk.i64_in _ (by omega);clear bB;go_enter Tryz.func60,Tryz.ntmps60;go_wp2;go_ret;exact⟨rfl,(Gg No w).alloc _⟩
theorem Zwg{F:Gt}{w:Gy}{A:OA}{c:Nat}{l:List HTx}{B:OA}{m d:Nat}(H:Recs F w A 3 (l.map HTx.cells))(hl:l.length<=1000)(ho:∀t∈l,t.ops.length<=4095):
  CN 35 #[.agg #[.slice A l.length c,.slice B m d]] w (Qi (Zed l:Int)):=by
 obtain⟨z,hz⟩:=Qe w.heap.size;obtain⟨wb,ah⟩:=Qe (w.alloc (.cells #[.slice A l.length c,.slice B m d] 29));have ub:Upd No w wb:=by rw[<-ah];exact(Gg No w).alloc _
 have bb:Blk wb z 29 [.slice A l.length c,.slice B m d]:=by rw[<-ah,<-hz];exact Gh w _ _
 have v0:=bb.cell 0;simp only[Qz]at v0;have HH:=Qh (Recs.upd H ub Qo);have ik:=Qh ho;have UB:=Qh ub;clear ub bb H ho;go_enter Tryz.func35,Tryz.ntmps35;go_wp2;clear v0
 go_loopg [3,9] l.length (fun gk s i wr=>∃(k n:Nat),k+gk=l.length∧i= Qi (k:Int)∧s= Qi (n:Int)∧Hid (n=Zed (l.take k))∧n<=4096*k∧Hid (Upd No wb wr))
 case atStart=>exact⟨0,0,by omega,rfl,rfl,Qh rfl,by omega,Qh (Gg _ _)⟩
 case round=>
  obtain⟨k,n,aK,rfl,rfl,hs,hxl,hu⟩:=hrel
  by_cases hlt:k<l.length
  ·obtain⟨ad,aA,q0,q1,q2⟩:=ZtP (Recs.upd HH.out hu.out Qo) hlt;obtain⟨x,hx⟩:=Qe (l[k]);simp only[hx]at q0 q1 q2;subst aA;have X:=Qh hx;have b1:(0:Int)<=(k:Int):=Qn _;have b2:(k:Int)<(l.length:Int):=by omega
   obtain⟨wx,aJ⟩:=Qe (wr.alloc (.cells #[Qi x.id,.bool x.done,.slice x.A x.ops.length x.c] 53));obtain⟨zx,qB⟩:=Qe wr.heap.size;have ux:Upd No wr wx:=by rw[<-aJ];exact(Gg No wr).alloc _
   have bX:Blk wx zx 53 [Qi x.id,.bool x.done,.slice x.A x.ops.length x.c]:=by rw[<-aJ,<-qB];exact Gh wr _ _
   have aX:=Qh (hu.out.trans ux);have BX:=Qh bX;obtain⟨x0,x1,x2⟩:=bX.c3;have oT:=ik.out x (by rw[<-hx];exact Fr hlt);have HS:=Qh (ZoW hlt X.out);have CW:=Qh (fun W=>Zvp W x.id x.done x.A x.ops.length x.c (by omega));have au:IntKind.i64.wrap ((n:Int)+((x.ops.length:Int)+1))=((n+(x.ops.length+1):Nat):Int):=by rw[IntWalk.i64_in _ (by omega)];omega
   clear hx ux bX hu;go_wp2_with fail;refine Ck (CW.out _) fun w4 hu4=>?_;go_wp2;go_roundg (gk-1);exact⟨k+1,n+(x.ops.length+1),by omega,by go_num,rfl,Qh (by rw[HS.out,hs.out]),by omega,Qh (aX.out.trans hu4)⟩;omega
  ·obtain rfl:k=l.length:=by omega
   have HS:=Qh (show Zed l=n by rw[hs.out,Fj]);clear hs;go_wp2;go_ret;exact⟨by rw[HS.out];rfl,UB.out.trans hu.out⟩
theorem ZsK{l:List HTx}(ho:∀t∈l,t.ops.length<=4095):Zed l<=4096*l.length:=by
 induction l with
 |nil=>simp[Zed]
 |cons t l ih=>
  have h1:=ho t (Fc ..);have h2:=ih fun x hx=>ho x (E7 _ hx)
  unfold Zed at*;rw[Gb,List.sum_cons,Fs];omega
