/- Slices of structs: copied into a row of one's own; grown by zeros. -/
import Derived.Lib.AppendZerosOnto
import Derived.Test.YtadmgiljchgccaaGreatTcad
namespace Go.Proofs.YtadmgiljchgccaaGreat
open Go.RowKit
set_option linter.unusedVariables false
set_option linter.unusedSimpArgs false
set_option maxRecDepth 100000
set_option maxHeartbeats 1000000
section
variable {P:Ix} {W:I0} {dT sT e:Iy} {size bytes:Nat}
theorem Zke{ty:Iy}(hT:SlT P dT e size bytes){g o dLen dCap:Nat}{ad:Addr}{sLen sCap n:Nat}{t:Iy}{cur cs:Ip}(hb:Blk W g t cur)(hn:Nat.min sLen dLen=n)(hl:cs.length=n*size)
  (bu:∀(j:Nat) v,cs[j]? =some v->W.cell? (ad.add j)=some v) (aR:o+cs.length<=cur.length) (h1:∀v∈cs,v.oneCell'=true):
  (Builtin.copy_ #[dT,sT] ty #[.slice (some ⟨g,o,none⟩) dLen dCap,.slice (some ad) sLen sCap]).run P W= .ok (goInt n) (W.setRow g (cur.take o++cs++cur.drop (o+cs.length)).toArray):=by
 obtain⟨ht,i,z,hi,hz,aP,gK,eM,dE⟩:=hT;have mQ:=run_loadCells_list (P:=P) W ad cs bu;have am:=run_storeCells_at P g o t cs 0 cur.toArray W hb (by simpa using aR) h1;rw[hl]at mQ;simp[Builtin.copy_,run_underlying ht,Builtin.lenOf,Builtin.firstCells,sizeOf,typeInfo,hi,aP,hn,mQ,am]
theorem ZcX{g:Nat}{t:Iy}{cur cs:Ip}(hb:Blk W g t cur):Blk (W.setRow g cs.toArray) g t cs:=setRow_heap W g cur.toArray cs.toArray t (0,0) hb
theorem ZcL(g:Nat)(cs:Io):Upd (One g) W (W.setRow g cs):=⟨rfl,rfl,rfl,by simp[World.setRow],fun k hk hn=>setRow_other W g k _ hn⟩
end
section
variable {P:Ix} {ops:Array Oper} {rest:List Oper} {o:Oper} {a:Act} {Q:Exit->Act->I0->Prop} {W:I0} {dT sT e:Iy} {size bytes:Nat}
theorem ZhJ(cm:o.guard=none){d s:Operand}(ho:o.op= .call {callee:= .builtin .copy,args:= #[d,s],argTypes:= #[dT,sT]})(hT:SlT P dT e size bytes){g off dLen dCap:Nat}{ad:Addr}{sLen sCap n:Nat}{t:Iy}{cur cs:Ip}
  (hd:a.eval d= .slice (some ⟨g,off,none⟩) dLen dCap) (hs:a.eval s= .slice (some ad) sLen sCap) (hb:Blk W g t cur) (hn:Nat.min sLen dLen=n) (hl:cs.length=n*size)
  (bu:∀(j:Nat) v,cs[j]? =some v->W.cell? (ad.add j)=some v) (aR:off+cs.length<=cur.length) (h1:∀v∈cs,v.oneCell'=true)
  (h:∀w',Blk w' g t (cur.take off++cs++cur.drop (off+cs.length))->Upd (One g) W w'->wpList P ops Q rest (a.put o.dst (goInt n)) w'):wpList P ops Q (o::rest) a W:=by
 refine wpList_plain cm fun K hK=>?_
 have dI:=Zke (P:=P) (sT:=sT) (ty:=o.type) (dCap:=dCap) (sCap:=sCap) hT hb hn hl bu aR h1;unfold Oper.wp;simp[execOp,ho,resolve,invoke,builtin,hd,hs,dI,Result.andThen];exact hK _ _ (h _ (by simpa using ZcX hb) (ZcL _ _))
theorem ZfS{K:Act->I0->Prop}{E:Prop}(cm:o.guard=none){d s:Operand}(ho:o.op= .call {callee:= .builtin .copy,args:= #[d,s],argTypes:= #[dT,sT]})(hT:SlT P dT e size bytes){g off dLen dCap:Nat}{ad:Addr}{sLen sCap n:Nat}{t:Iy}{cur cs:Ip}
  (hd:a.eval d= .slice (some ⟨g,off,none⟩) dLen dCap) (hs:a.eval s= .slice (some ad) sLen sCap) (hb:Blk W g t cur) (hn:Nat.min sLen dLen=n) (hl:cs.length=n*size)
  (bu:∀(j:Nat) v,cs[j]? =some v->W.cell? (ad.add j)=some v) (aR:off+cs.length<=cur.length) (h1:∀v∈cs,v.oneCell'=true)
  (h:∀w',Blk w' g t (cur.take off++cs++cur.drop (off+cs.length))->Upd (One g) W w'->K (a.put o.dst (goInt n)) w'):if Region.wanted o (yielded ops a.tmps)=true then Oper.wp P o a W K Q else E:=by
 rw[if_pos (by simp[Region.wanted,cm])];have dI:=Zke (P:=P) (sT:=sT) (ty:=o.type) (dCap:=dCap) (sCap:=sCap) hT hb hn hl bu aR h1;unfold Oper.wp;simp[execOp,ho,resolve,invoke,builtin,hd,hs,dI,Result.andThen];exact h _ (by simpa using ZcX hb) (ZcL _ _)
end
/-! rows of one's own,seen as blocks -/
theorem Zbz{w:I0}{base:Nat}{e:Iy}{size:Nat}{A:OA}{n c:Nat}{xs:Ip}(h:w.ownsRow base e size (.slice A n c) n xs)(hn:0<n):
  ∃g cur,A=some ⟨g,0,none⟩∧base<=g∧Blk w g e cur∧n<=c∧cur.length=c*size∧cur.take (n*size)=xs∧c<=maxLen:=by
 rcases h.2 with ⟨_,rfl⟩|⟨g,cap,cur,hv,hb,hg,bG,eK,cf,bj⟩
 ·omega
 ·cases hv
  exact⟨g,cur.toList,rfl,hb,by unfold Blk;simpa using hg,bG,by simpa using cf,bj,eK⟩
theorem Zbh{w:I0}{base g:Nat}{e:Iy}{size n c:Nat}{cur xs:Ip}(hb:Blk w g e cur)(hg:base<=g)(bG:n<=c)(hl:cur.length=c*size)(hx:cur.take (n*size)=xs)(hc:c<=maxLen)(hs:xs.length=n*size):
  w.ownsRow base e size (.slice (some ⟨g,0,none⟩) n c) n xs:=
 ⟨hs,.inr ⟨g,c,cur.toArray,rfl,hg,hb,bG,hc,by simpa using hl,by simpa using hx⟩⟩
theorem Zqb{P:Ix}{W:I0}{t tn ty e:Iy}{size bytes:Nat}{kn:IntKind}(hT:SlT P t e size bytes)(nz:P.underlying tn=some (.int kn)){g n c k:Nat}{olds:Ip}
  (hl:olds.length=n*size) (hold:∀(j:Nat) v,olds[j]? =some v->W.cell? ⟨g,j,none⟩=some v) (h0:0<k) (hg:c<n+k) (hn:n+k<=1000000000) (hb:bytes<=4096):
  ∃c' zs w',(Builtin.append_ #[t,tn] ty #[.slice (some ⟨g,0,none⟩) n c,Qi (k:Int)]).run P W= .ok (.slice (some ⟨W.heap.size,0,none⟩) (n+k) c') w'∧n+k<=c'∧c'<=maxLen∧Blk w' W.heap.size e (olds++zs)∧(olds++zs).length=c'*size∧Upd No W w':=by
 obtain⟨ht,i,z,hi,hz,aP,gK,eM,dE⟩:=hT
 have xF:=run_firstCells_some (P:=P) W.drew i.size n ⟨g,0,none⟩ n c olds (by rw[aP];exact hl) (fun j v hj=>by
  have e1:(⟨g,0,none⟩:Addr).add j=⟨g,j,none⟩:=by unfold Addr.add;split<;>simp_all
  rw[e1];exact hold j v hj)
 have x7:(n+k)*i.bytes<=1000000000*4096:=by rw[gK];exact Nat.mul_le_mul hn hb
 have Bf:k*i.bytes<=1000000000*4096:=by rw[gK];exact Nat.mul_le_mul (by omega) hb
 have ni:=Lib.run_append_grow_zeros W t tn ty e i z .i64 kn ht nz hi hz (some ⟨g,0,none⟩) n c olds xF k h0 (by omega) hg (by omega) (by omega) (growslice_fits (by omega) (by omega));have du:=grownCap_ge W (n+k) c e;have hle:=grownCap_le_maxLen W (n+k) c e (by unfold maxLen;omega);generalize grownCap W (n+k) c e=G at*;refine⟨G,(Builtin.zeroCells z.cells k++Builtin.zeroCells z.cells (G-(n+k))).toList,_,ni,du,hle,?_,?_,?_⟩
 ·have zn:olds.toArray++Builtin.zeroCells z.cells k++Builtin.zeroCells z.cells (G-(n+k))=(olds++(Builtin.zeroCells z.cells k++Builtin.zeroCells z.cells (G-(n+k))).toList).toArray:=by simp[Array.append_assoc]
  rw[zn];exact Im W.drew e _
 ·rw[Gt,hl];simp[Builtin.zeroCells,eM];rw[<-Nat.add_mul,<-Nat.add_mul]
  congr 1
  omega
 ·exact((Il No W).drew).alloc _
theorem Zc3{P:Ix}{ops:Array Oper}{o:Oper}{a:Act}{W:I0}{K:Act->I0->Prop}{Q:Exit->Act->I0->Prop}{E:Prop}(cm:o.guard=none){ty:Iy}{x y:Operand}(ho:o.op= .store ty x y)
  {g:Nat} {t:Iy} {old cells:Ip} (hx:a.eval x= .pointer (some ⟨g,0,none⟩)) (hy:a.eval y= .agg cells.toArray) (hb:Blk W g t old) (hi:(P.info? ty).map (·.size)=some cells.length) (hold:old.length=cells.length)
  (h1:cells.all (·.oneCell')=true) (h:∀w',Blk w' g t cells->Upd (One g) W w'->K (a.put o.dst undef) w'):if Region.wanted o (yielded ops a.tmps)=true then Oper.wp P o a W K Q else E:=by
 rw[if_pos (by simp[Region.wanted,cm])];refine wp_store_row ty x y ho g cells.toArray hx hy t old.toArray hb (by simpa using hi) (by simpa using hold) (by simpa using h1) ?_;exact h _ (setRow_heap W g old.toArray cells.toArray t (0,0) hb) ⟨rfl,rfl,rfl,by simp[World.setRow],fun k hk hn=>setRow_other W g k _ hn⟩
theorem ZlG{P:Ix}{W:I0}{t ty e:Iy}{size bytes:Nat}(hT:SlT P t e size bytes){g n m c c2:Nat}{ad:Addr}{t0:Iy}{cur news:Ip}(hb:Blk W g t0 cur)
  (hl:news.length=m*size) (bu:∀(j:Nat) v,news[j]? =some v->W.cell? (ad.add j)=some v) (hroom:n+m<=c) (aR:n*size+news.length<=cur.length) (h1:∀v∈news,v.oneCell'=true):
  (Builtin.append_ #[t,t] ty #[.slice (some ⟨g,0,none⟩) n c,.slice (some ad) m c2]).run P W= .ok (.slice (some ⟨g,0,none⟩) (n+m) c) (W.setRow g (cur.take (n*size)++news++cur.drop (n*size+news.length)).toArray):=by
 obtain⟨ht,i,z,hi,hz,aP,gK,eM,dE⟩:=hT;have xF:=run_firstCells_some (P:=P) W size m ad m c2 news hl bu;have am:=run_storeCells_at P g (n*size) t0 news 0 cur.toArray W hb (by simpa using aR) h1;have iW:(⟨g,0,none⟩:Addr).add (n*size)=⟨g,n*size,none⟩:=by unfold Addr.add;split<;>simp_all
 simp[Builtin.append_,run_underlying ht,sizeOf,typeInfo,hi,aP,Builtin.lenOf,hroom,xF,iW,am]
theorem Zli{P:Ix}{ops:Array Oper}{o:Oper}{a:Act}{Q:Exit->Act->I0->Prop}{W:I0}{K:Act->I0->Prop}{E:Prop}{t e:Iy}{size bytes:Nat}(cm:o.guard=none){s x:Operand}
  (ho:o.op= .call {callee:= .builtin .append,args:= #[s,x],argTypes:= #[t,t]}) (hT:SlT P t e size bytes) {g n m c c2:Nat} {ad:Addr} {t0:Iy} {cur news:Ip}
  (hs:a.eval s= .slice (some ⟨g,0,none⟩) n c) (hx:a.eval x= .slice (some ad) m c2) (hb:Blk W g t0 cur) (hl:news.length=m*size) (bu:∀(j:Nat) v,news[j]? =some v->W.cell? (ad.add j)=some v)
  (hroom:n+m<=c) (aR:n*size+news.length<=cur.length) (h1:∀v∈news,v.oneCell'=true)
  (h:∀w',Blk w' g t0 (cur.take (n*size)++news++cur.drop (n*size+news.length))->Upd (One g) W w'->K (a.put o.dst (.slice (some ⟨g,0,none⟩) (n+m) c)) w'):if Region.wanted o (yielded ops a.tmps)=true then Oper.wp P o a W K Q else E:=by
 rw[if_pos (by simp[Region.wanted,cm])];have hr:=ZlG (P:=P) (ty:=o.type) (c2:=c2) hT hb hl bu hroom aR h1;unfold Oper.wp execOp;simp only[ho,resolve,invoke,builtin,Sem.run_bind,Sem.run_pure,Result.andThen_ok,List.map_toArray,Id,List.map_nil,hs,hx,hr];exact h _ (ZcX hb) (ZcL _ _)
theorem Ze1{P:Ix}{ops:Array Oper}{rest:List Oper}{o:Oper}{a:Act}{Q:Exit->Act->I0->Prop}{W:I0}{t e:Iy}{size bytes:Nat}(cm:o.guard=none){s:Operand}
  (ho:o.op= .call {callee:= .builtin .clear,args:= #[s],argTypes:= #[t]}) (hT:SlT P t e size bytes) {z:Iz} (hv:∀w,(zeroValue e).run P w= .ok z w) (eM:z.cells.size=size) (fG:∀v∈z.cells.toList,v.oneCell'=true) {g off n c:Nat} {t0:Iy} {cur:Ip}
  (hs:a.eval s= .slice (some ⟨g,off,none⟩) n c) (hn:0<n) (hb:Blk W g t0 cur) (aR:off+n*size<=cur.length)
  (h:∀zs w',zs.length=n*size->Blk w' g t0 (cur.take off++zs++cur.drop (off+zs.length))->Upd (One g) W w'->wpList P ops Q rest (a.put o.dst (.tuple #[])) w'):wpList P ops Q (o::rest) a W:=by
 obtain⟨ht,i,z',hi,hz,aP,gK,DV,dE⟩:=hT;have lD:(Builtin.zeroCells z.cells n).toList.length=n*size:=by simp[Builtin.zeroCells,eM]
 have iX:∀v∈(Builtin.zeroCells z.cells n).toList,v.oneCell'=true:=fun v hv=>by
  unfold Builtin.zeroCells at hv;simp only[Array.toList_map,Ih]at hv;obtain⟨k,_,rfl⟩:=hv;have hlt:k%z.cells.size<z.cells.size:=Nat.mod_lt _ (by omega);rw[getElem!_pos z.cells _ hlt];exact fG _ (by simp)
 have am:=run_storeCells_at P g off t0 (Builtin.zeroCells z.cells n).toList 0 cur.toArray W hb (by simpa[lD]using aR) iX;obtain⟨m,rfl⟩:∃m,n=m+1:=⟨n-1,by omega⟩
 have hr:(Builtin.clear_ #[t] o.type #[.slice (some ⟨g,off,none⟩) (m+1) c]).run P W= .ok (.tuple #[]) (W.setRow g (cur.take off++(Builtin.zeroCells z.cells (m+1)).toList++cur.drop (off+(Builtin.zeroCells z.cells (m+1)).toList.length)).toArray):=by
  simp only[Nat.add_zero]at am;simp only[Builtin.clear_];simp[run_underlying ht,hv,am]
 refine wpList_plain cm fun _ hK=>?_
 unfold Oper.wp execOp;simp only[ho,resolve,invoke,builtin,Sem.run_bind,Sem.run_pure,Result.andThen_ok,List.map_toArray,Id,List.map_nil,hs,hr];exact hK _ _ (h _ _ lD (ZcX hb) (ZcL _ _))
theorem Zr3{P:Ix}{ops:Array Oper}{rest:List Oper}{o:Oper}{a:Act}{Q:Exit->Act->I0->Prop}{W:I0}{t tn e:Iy}{size bytes:Nat}{kn:IntKind}(cm:o.guard=none){s x:Operand}
  (ho:o.op= .call {callee:= .builtin .append,args:= #[s,x],argTypes:= #[t,tn]}) (hT:SlT P t e size bytes) (nz:P.underlying tn=some (.int kn)) {g n c k:Nat} {olds:Ip}
  (hs:a.eval s= .slice (some ⟨g,0,none⟩) n c) (hx:a.eval x= Qi (k:Int))
  (hl:olds.length=n*size) (hold:∀(j:Nat) v,olds[j]? =some v->W.cell? ⟨g,j,none⟩=some v) (h0:0<k) (hg:c<n+k) (hn:n+k<=1000000000) (hb:bytes<=4096)
  (h:∀c' zs w',n+k<=c'->c'<=maxLen->Blk w' W.heap.size e (olds++zs)->(olds++zs).length=c'*size->Upd No W w'->wpList P ops Q rest (a.put o.dst (.slice (some ⟨W.heap.size,0,none⟩) (n+k) c')) w'):wpList P ops Q (o::rest) a W:=by
 obtain⟨c',zs,w',hr,h1,h2,h3,h4,h5⟩:=Zqb (ty:=o.type) hT nz hl hold h0 hg hn hb;refine wpList_plain cm fun _ hK=>?_
 unfold Oper.wp execOp;simp only[ho,resolve,invoke,builtin,Sem.run_bind,Sem.run_pure,Result.andThen_ok,List.map_toArray,Id,List.map_nil,hs,hx,hr];exact hK _ _ (h c' zs w' h1 h2 h3 h4 h5)
/- Transactions that lie there. -/
theorem Zb1:SlT Tryz.prog 22 39 3 40:=SlT.mk_ Tryz.underlying22 (z:= .agg #[Qi 0,.bool false,.slice none 0 0]) (by kernel_rfl) rfl (by omega)
def txF(l:List HTx):Ip:=(l.map HTx.cells).flatten
theorem ZfR(l:List HTx)(x:HTx):txF (l++[x])=txF l++x.cells:=by unfold txF;simp
theorem Ziz{l:List HTx}:∀r∈l.map HTx.cells,r.length=3:=fun r hr=>by
 obtain⟨e,_,rfl⟩:=Ih.1 hr;rfl
theorem ZdB{G:Iw}{w:I0}{A:OA}{l:List HTx}(h:Recs G w A 3 (l.map HTx.cells)){k:Nat}(hk:k<l.length):∃ad,A=some ad∧
  w.cell? (ad.add (k*3))=some (Qi l[k].id)∧w.cell? ⟨(ad.add (k*3)).block,(ad.add (k*3)).off+1,none⟩=some (.bool l[k].done)∧w.cell? ⟨(ad.add (k*3)).block,(ad.add (k*3)).off+2,none⟩=some (.slice l[k].A l[k].ops.length l[k].c):=by
 have dJ:k<(l.map HTx.cells).length:=by simpa using hk
 obtain⟨ad,e,_,_,hc⟩:=Recs.at_ h dJ;rw[G8]at hc;exact⟨ad,e,by simpa using hc 0 _ rfl,by simpa using hc 1 _ rfl,by simpa using hc 2 _ rfl⟩
theorem HTx.lies.weak{F G:Iw}{w:I0}{t:HTx}(h:t.lies F w)(hg:∀i,i<w.heap.size->F i->G i):t.lies G w:=⟨Recs.weak h.1 hg,h.2⟩
section
variable {F G S:Iw} {w w':I0} {A:OA}
end
/- Orders that lie there. -/
theorem Zhl{G:Iw}{w:I0}{A:OA}{l:List HOrd}(h:Recs G w A 2 (l.map HOrd.cells)){k:Nat}(hk:k<l.length):∃ad,A=some ad∧
  w.cell? (ad.add (k*2))=some (Qi l[k].key)∧w.cell? ⟨(ad.add (k*2)).block,(ad.add (k*2)).off+1,none⟩=some (.slice l[k].A l[k].txs.length l[k].c):=by
 have dJ:k<(l.map HOrd.cells).length:=by simpa using hk
 obtain⟨ad,e,_,_,hc⟩:=Recs.at_ h dJ;rw[G8]at hc;exact⟨ad,e,by simpa using hc 0 _ rfl,by simpa using hc 1 _ rfl⟩
theorem Zdq:SlT Tryz.prog 23 68 2 32:=SlT.mk_ Tryz.underlying23 (z:= .agg #[Qi 0,.slice none 0 0]) (by kernel_rfl) rfl (by omega)
def orF(l:List HOrd):Ip:=(l.map HOrd.cells).flatten
theorem ZdV(l:List HOrd)(x:HOrd):orF (l++[x])=orF l++x.cells:=by unfold orF;simp
theorem Zv2{l:List HOrd}:∀r∈l.map HOrd.cells,r.length=2:=fun r hr=>by
 obtain⟨e,_,rfl⟩:=Ih.1 hr;rfl
def txP(t:HTx):Int×Bool×Is:=(t.id,t.done,t.ops)
def orP(o:HOrd):Int×Iv:=(o.key,o.txs)
theorem HOrd.lies.weak{F G:Iw}{w:I0}{t:HOrd}(h:t.lies F w)(hg:∀i,i<w.heap.size->F i->G i):t.lies G w:=⟨Ints.weak h.1 hg,h.2⟩
section
variable {F G S:Iw} {w w':I0} {A:OA}
end
theorem Hist.lies.weak{F G:Iw}{w:I0}{h:Hist}(H:h.lies F w)(hg:∀i,i<w.heap.size->F i->G i):h.lies G w:=
 ⟨Recs.weak H.txs hg,Recs.weak H.ords hg,fun t ht=>(H.tx t ht).weak hg,fun o ho=>(H.ord o ho).weak hg,H.c,H.d,H.few,H.fewo⟩
theorem Upd.noR{S:Iw}{a w w':I0}(h:Upd S a w)(k:Upd No w w'):Upd S a w':=h.trans_ k fun _ _ t=>t.elim
/- Some cells of a block stored into. -/
theorem ZjG{P:Ix}(w:I0)(g i:Nat)(t ty:Iy)(old:Io)(v:Iz)(hg:w.heap[g]? =some (.cells old t (0,0)))(hi:(P.info? ty).map (·.size)=some 1)
  (ho:i<old.size) (h1:v.oneCell'=true):
  (storeVar ty ⟨g,i,none⟩ v).run P w= .ok () (w.setCell ⟨g,i,none⟩ v):=by
 have am:∀m,(store ⟨g,i,none⟩ v m).run P w= .ok () (w.setCell ⟨g,i,none⟩ v):=fun m=>by
  rw[run_store P w _ v m h1];simp[World.cell?,World.frozen?,hg,ho]
 have iW:(⟨g,i,none⟩:Addr).add 0=⟨g,i,none⟩:=by unfold Addr.add;simp
 have Ev:(storeCells ⟨g,i,none⟩ [v] 0).run P w= .ok () (w.setCell ⟨g,i,none⟩ v):=by
  simp only[storeCells,Sem.run_bind,iW,am,Result.andThen_ok];rfl
 cases hq:P.info? ty with
 |none=>simp[hq]at hi
 |some j=>
  have hs:j.size=1:=by simpa[hq]using hi
  cases v<;>first|(simp[Value.oneCell']at h1;done)|simp[storeVar,sizeOf,typeInfo,hq,hs,Value.cells,Ev]
theorem Znw{P:Ix}{o:Oper}{a:Act}{W:I0}{K:Act->I0->Prop}{Q:Exit->Act->I0->Prop}{ty:Iy}{x y:Operand}(ho:o.op= .store ty x y)
  {g i:Nat} {t:Iy} {old:Ip} {v:Iz} (hx:a.eval x= .pointer (some ⟨g,i,none⟩)) (hy:a.eval y=v) (hb:Blk W g t old) (hi:(P.info? ty).map (·.size)=some 1) (hl:i<old.length) (h1:v.oneCell'=true)
  (h:∀w',Blk w' g t (old.set i v)->Upd (One g) W w'->K (a.put o.dst undef) w'):o.wp P a W K Q:=by
 unfold Oper.wp execOp;simp only[ho,hx,hy,Instr.storeAt,Instr.sureAddr,Sem.run_bind,Sem.run_pure,Result.andThen_ok,ZjG W g i t ty old.toArray v hb hi (by simpa using hl) h1];exact h _ (hb.set_ i v) ((Il (One g) W).setOne i v)
theorem Zs{P:Ix}{ops:Array Oper}{o:Oper}{a:Act}{W:I0}{K:Act->I0->Prop}{Q:Exit->Act->I0->Prop}{E:Prop}(cm:o.guard=none){ty:Iy}{x y:Operand}(ho:o.op= .store ty x y)
  {g i:Nat} {t:Iy} {old:Ip} {v:Iz} (hx:a.eval x= .pointer (some ⟨g,i,none⟩)) (hy:a.eval y=v) (hb:Blk W g t old) (hi:(P.info? ty).map (·.size)=some 1) (hl:i<old.length) (h1:v.oneCell'=true)
  (h:∀w',Blk w' g t (old.set i v)->Upd (One g) W w'->K (a.put o.dst undef) w'):if Region.wanted o (yielded ops a.tmps)=true then Oper.wp P o a W K Q else E:=by
 rw[if_pos (by simp[Region.wanted,cm])];exact Znw ho hx hy hb hi hl h1 h
theorem Zr2{P:Ix}{ops:Array Oper}{rest:List Oper}{o:Oper}{a:Act}{W:I0}{Q:Exit->Act->I0->Prop}(cm:o.guard=none){ty:Iy}{x y:Operand}(ho:o.op= .store ty x y)
  {g i:Nat} {t:Iy} {old:Ip} {v:Iz} (hx:a.eval x= .pointer (some ⟨g,i,none⟩)) (hy:a.eval y=v) (hb:Blk W g t old) (hi:(P.info? ty).map (·.size)=some 1) (hl:i<old.length) (h1:v.oneCell'=true)
  (h:∀w',Blk w' g t (old.set i v)->Upd (One g) W w'->wpList P ops Q rest (a.put o.dst undef) w'):wpList P ops Q (o::rest) a W:=
 wpList_plain cm fun _ hK=>Znw ho hx hy hb hi hl h1 fun w' k1 k2=>hK _ _ (h w' k1 k2)
theorem Zhv{P:Ix}{ops:Array Oper}{rest:List Oper}{o:Oper}{a:Act}{W:I0}{Q:Exit->Act->I0->Prop}(cm:o.guard=none){ty:Iy}{x y:Operand}(ho:o.op= .store ty x y)
  {g off:Nat} {t:Iy} {cur cells:Ip} {A:Addr} (hx:a.eval x= .pointer (some A)) (hA:A=⟨g,off,none⟩) (hy:a.eval y= .agg cells.toArray) (hb:Blk W g t cur) (hi:(P.info? ty).map (·.size)=some cells.length) (aR:off+cells.length<=cur.length)
  (h1:∀v∈cells,v.oneCell'=true) (h:∀w',Blk w' g t (cur.take off++cells++cur.drop (off+cells.length))->Upd (One g) W w'->wpList P ops Q rest (a.put o.dst undef) w'):wpList P ops Q (o::rest) a W:=by
 subst hA;have am:=run_storeCells_at P g off t cells 0 cur.toArray W hb (by simpa using aR) h1;simp only[Nat.add_zero]at am
 have dI:(storeVar ty ⟨g,off,none⟩ (.agg cells.toArray)).run P W= .ok () (W.setRow g (cur.take off++cells++cur.drop (off+cells.length)).toArray):=by
  cases hq:P.info? ty with
  |none=>simp[hq]at hi
  |some i=>
   have hs:cells.length=i.size:=by simp[hq]at hi;omega
   simp[storeVar,sizeOf,typeInfo,hq,Value.cells,hs,am]
 refine wpList_plain cm fun _ hK=>?_
 unfold Oper.wp execOp;simp only[ho,hx,hy,Instr.storeAt,Instr.sureAddr,Sem.run_bind,Sem.run_pure,Result.andThen_ok,dI];exact hK _ _ (h _ (ZcX hb) (ZcL _ _))
/- Two transactions that are one,by the document. -/
theorem Zss(w:I0)(F G:Iw)(A B:OA)(c d:Nat)(xs ys:Is)(hx:Recs F w A 4 (xs.map HOp.cells))(hy:Recs G w B 4 (ys.map HOp.cells))(hl:xs.length<=4398046511103)(bC:ys.length<=4398046511103){v:Bool}(hv:(xs==ys)=v):
  CN 42 #[.slice A xs.length c,.slice B ys.length d] w (.bool v):=by
 have qG:∀(op:BinOp) (x y:Operand) (xs ys:Io) (w:I0),(eqGuard op 66 x y (.agg xs) (.agg ys)).run Tryz.prog w= .ok () w:=fun op x y xs ys w=>run_eqGuard_agg w op _ x y xs ys (by kernel_rfl)
 subst hv
 by_cases hn:xs.length=ys.length
 ·have np:((xs.length:Int) != (ys.length:Int))=false:=by rw[bne_eq_false_iff_eq];omega
  have HN:=Qh hn;clear hn;go_enter Tryz.func42,Tryz.ntmps42;go_wp2
  go_loopg [5,13] xs.length (fun gk j i wr=>∃k:Nat,k+gk=xs.length∧i= Qi k∧Hid (xs.take k=ys.take k)∧Upd No w wr)
  case atStart=>exact⟨0,by omega,rfl,Qh rfl,Il _ _⟩
  case round=>
   obtain⟨k,aI,rfl,hs,hu⟩:=hrel
   by_cases hlt:k<xs.length
   ·have hlt2:k<ys.length:=by have:=HN.out;omega
    obtain⟨ax,rfl,q0,q1,q2,q3⟩:=HOps.at_ (Recs.upd hx hu Qo) hlt;obtain⟨ay,rfl,r0,r1,r2,r3⟩:=HOps.at_ (Recs.upd hy hu Qo) hlt2;obtain⟨x,eR⟩:=Qe (xs[k]);obtain⟨y,rc⟩:=Qe (ys[k]);simp only[eR]at q0 q1 q2 q3;simp only[rc]at r0 r1 r2 r3;have hq:=fun W=>Zn5 W x y
    have i1:(0:Int)<=(k:Int):=Qn _;have i2:(k:Int)<(xs.length:Int):=by omega
    have i3:(k:Int)<(ys.length:Int):=by omega
    have HX:=Qh eR;have HY:=Qh rc;clear eR rc
    by_cases he:x=y
    ·have oL:=Qh (show xs.take (k+1)=ys.take (k+1) by rw[Gb hlt,Gb hlt2,hs.out,HX.out,HY.out,he]);have eO:(x != y)=false:=by simpa using he
     rw[eO]at hq;clear he eO;go_wp2
     go_quiet (fail)
     go_wp2;go_roundg (gk-1);exact⟨k+1,by omega,by go_num,oL,hu.drewN _⟩;omega
    ·have HF:=Qh (show(xs==ys)=false from by
      rw[beq_eq_false_iff_ne];intro e;subst e;exact he (HX.out.symm.trans HY.out))
     have eO:(x != y)=true:=by simpa using he
     rw[eO]at hq;clear he eO;go_wp2
     go_quiet (fail)
     go_wp2;go_ret;exact⟨by rw[HF.out];rfl,hu.drewN _⟩
   ·obtain rfl:k=xs.length:=by omega
    have HT:=Qh (show(xs==ys)=true from by
     rw[beq_iff_eq];have:=hs.out
     rwa [G7,HN.out,G7]at this)
    go_wp2;go_ret;exact⟨by rw[HT.out];rfl,hu⟩
 ·have HF:=Qh (show(xs==ys)=false from by
   rw[beq_eq_false_iff_ne];intro e;exact hn (by rw[e]))
  have np:((xs.length:Int) != (ys.length:Int))=true:=by rw[bne_iff_ne];omega
  clear hn;go_enter Tryz.func42,Tryz.ntmps42;go_wp2;go_ret;exact⟨by rw[HF.out];rfl,Il _ _⟩
theorem ZuR{F G:Iw}{w:I0}{i i2:Int}{d d2:Bool}{A B:OA}{c c2:Nat}{l m:Is}(h:HOps F w A l)(h2:HOps G w B m)(hl:Zt l.length)(bC:Zt m.length)(hi:i=i2)(hd:d=d2)(oV:l=m):
  CN 16 #[.agg #[Qi i,.bool d,.slice A l.length c],.agg #[Qi i2,.bool d2,.slice B m.length c2]] w (.bool true):=by
 have ub:Upd No w ((w.alloc (.cells #[Qi i,.bool d,.slice A l.length c] 39)).alloc (.cells #[Qi i2,.bool d2,.slice B m.length c2] 39)):=((Il No w).alloc _).alloc _;have UB:=Qh ub;have FJ:(i==i2)=true:=by simpa using hi
 have FV:(d==d2)=true:=by simpa using hd
 have CS:=Qh (Zss _ F G A B c c2 l m (HOps.upd h ub Qo) (HOps.upd h2 ub Qo) hl bC (v:=true) (by simpa using oV));clear ub hi hd oV h h2;go_enter Tryz.func16,Tryz.ntmps16;go_wp2_with fail;refine Ck CS.out fun w1 hu1=>?_;go_wp2;go_ret;exact⟨rfl,UB.out.trans hu1⟩
