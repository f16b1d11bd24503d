/- Slices of structs: copied into a row of one's own; grown by zeros. -/
import Derived.Lib.AppendZerosOnto
import Derived.Deep.AppendSrc
import Derived.Test.YtblplapkdmhikaaDxaf
namespace Go.Proofs.Ytblplapkdmhikaa
set_option linter.unusedVariables false
set_option linter.unusedSimpArgs false
section
open Go.RowKit
section
variable {P:Program} {W:World} {dT sT e:TypeId} {size bytes:Nat}
theorem ZcM {ty:TypeId} (hT:SlT P dT e size bytes) {g o dLen dCap:Nat} {ad:Addr} {sLen sCap n:Nat} {t:TypeId} {cur cs:List Value} (hb:Blk W g t cur) (hn:Nat.min sLen dLen=n) (hl:cs.length=n*size)
  (hsrc:∀(j:Nat) v,cs[j]? =some v→W.cell? (ad.add j)=some v) (hfit:o+cs.length≤cur.length) (h1:∀v∈cs,v.oneCell'=true):
  (Builtin.copy_ #[dT,sT] ty #[.slice (some ⟨g,o,none⟩) dLen dCap,.slice (some ad) sLen sCap]).run P W= .ok (goInt n) (W.setRow g (cur.take o++cs++cur.drop (o+cs.length)).toArray):=by
 obtain⟨ht,i,z,hi,hz,hsize,hby,hzs,hsz⟩:=hT;have hlc:=run_loadCells_list (P:=P) W ad cs hsrc;have hst:=run_storeCells_at P g o t cs 0 cur.toArray W hb (by simpa using hfit) h1;rw[hl]at hlc;simp[Builtin.copy_,run_underlying ht,Builtin.lenOf,Builtin.firstCells,sizeOf,typeInfo,hi,hsize,hn,hlc,hst]
theorem ZaP {g:Nat} {t:TypeId} {cur cs:List Value} (hb:Blk W g t cur):Blk (W.setRow g cs.toArray) g t cs:=setRow_heap W g cur.toArray cs.toArray t (0,0) hb
theorem ZaH (g:Nat) (cs:Array Value):Upd (One g) W (W.setRow g cs):=⟨rfl,rfl,rfl,by simp[World.setRow],fun k hk hn=>setRow_other W g k _ hn⟩
end
section
variable {P:Program} {ops:Array Oper} {rest:List Oper} {o:Oper} {a:Act} {Q:Exit→Act→World→Prop} {W:World} {dT sT e:TypeId} {size bytes:Nat}
theorem Zdb (hgd:o.guard=none) {d s:Operand} (ho:o.op= .call {callee:= .builtin .copy,args:= #[d,s],argTypes:= #[dT,sT]}) (hT:SlT P dT e size bytes) {g off dLen dCap:Nat} {ad:Addr} {sLen sCap n:Nat} {t:TypeId} {cur cs:List Value}
  (hd:a.eval d= .slice (some ⟨g,off,none⟩) dLen dCap) (hs:a.eval s= .slice (some ad) sLen sCap) (hb:Blk W g t cur) (hn:Nat.min sLen dLen=n) (hl:cs.length=n*size)
  (hsrc:∀(j:Nat) v,cs[j]? =some v→W.cell? (ad.add j)=some v) (hfit:off+cs.length≤cur.length) (h1:∀v∈cs,v.oneCell'=true)
  (h:∀w',Blk w' g t (cur.take off++cs++cur.drop (off+cs.length))→Upd (One g) W w'→wpList P ops Q rest (a.put o.dst (goInt n)) w'):wpList P ops Q (o::rest) a W:=by
 refine wpList_plain hgd fun K hK=> ?_
 have hrun:=ZcM (P:=P) (sT:=sT) (ty:=o.type) (dCap:=dCap) (sCap:=sCap) hT hb hn hl hsrc hfit h1;unfold Oper.wp;simp[execOp,ho,resolve,invoke,builtin,hd,hs,hrun,Result.andThen];exact hK _ _ (h _ (by simpa using ZaP hb) (ZaH _ _))
theorem Zch {K:Act→World→Prop} {E:Prop} (hgd:o.guard=none) {d s:Operand} (ho:o.op= .call {callee:= .builtin .copy,args:= #[d,s],argTypes:= #[dT,sT]}) (hT:SlT P dT e size bytes) {g off dLen dCap:Nat} {ad:Addr} {sLen sCap n:Nat} {t:TypeId} {cur cs:List Value}
  (hd:a.eval d= .slice (some ⟨g,off,none⟩) dLen dCap) (hs:a.eval s= .slice (some ad) sLen sCap) (hb:Blk W g t cur) (hn:Nat.min sLen dLen=n) (hl:cs.length=n*size)
  (hsrc:∀(j:Nat) v,cs[j]? =some v→W.cell? (ad.add j)=some v) (hfit:off+cs.length≤cur.length) (h1:∀v∈cs,v.oneCell'=true)
  (h:∀w',Blk w' g t (cur.take off++cs++cur.drop (off+cs.length))→Upd (One g) W w'→K (a.put o.dst (goInt n)) w'):if Region.wanted o (yielded ops a.tmps)=true then Oper.wp P o a W K Q else E:=by
 rw[if_pos (by simp[Region.wanted,hgd])];have hrun:=ZcM (P:=P) (sT:=sT) (ty:=o.type) (dCap:=dCap) (sCap:=sCap) hT hb hn hl hsrc hfit h1;unfold Oper.wp;simp[execOp,ho,resolve,invoke,builtin,hd,hs,hrun,Result.andThen];exact h _ (by simpa using ZaP hb) (ZaH _ _)
end
/-! rows of one's own,seen as blocks -/
theorem Zd3 {w:World} {base:Nat} {e:TypeId} {size:Nat} {A:Option Addr} {n c:Nat} {xs:List Value} (h:w.ownsRow base e size (.slice A n c) n xs) (hn:0<n):
  ∃g cur,A=some ⟨g,0,none⟩∧base≤g∧Blk w g e cur∧n≤c∧cur.length=c*size∧cur.take (n*size)=xs∧c≤maxLen:=by
 rcases h.2 with ⟨_,rfl⟩|⟨g,cap,cur,hv,hb,hg,hnc,hcm,hcs,htake⟩
 ·omega
 ·cases hv
  exact⟨g,cur.toList,rfl,hb,by unfold Blk;simpa using hg,hnc,by simpa using hcs,htake,hcm⟩
theorem Zbu {w:World} {base g:Nat} {e:TypeId} {size n c:Nat} {cur xs:List Value} (hb:Blk w g e cur) (hg:base≤g) (hnc:n≤c) (hl:cur.length=c*size) (hx:cur.take (n*size)=xs) (hc:c≤maxLen) (hs:xs.length=n*size):
  w.ownsRow base e size (.slice (some ⟨g,0,none⟩) n c) n xs:=
 ⟨hs,.inr ⟨g,c,cur.toArray,rfl,hg,hb,hnc,hc,by simpa using hl,by simpa using hx⟩⟩
theorem ZeF {P:Program} {W:World} {t tn ty e:TypeId} {size bytes:Nat} {kn:IntKind} (hT:SlT P t e size bytes) (htn:P.underlying tn=some (.int kn)) {g n c k:Nat} {olds:List Value}
  (hl:olds.length=n*size) (hold:∀(j:Nat) v,olds[j]? =some v→W.cell? ⟨g,j,none⟩=some v) (h0:0<k) (hg:c<n+k) (hn:n+k≤1000000000) (hb:bytes≤4096):
  ∃c' zs w',(Builtin.append_ #[t,tn] ty #[.slice (some ⟨g,0,none⟩) n c,.int .i64 (k:Int)]).run P W= .ok (.slice (some ⟨W.heap.size,0,none⟩) (n+k) c') w'∧n+k≤c'∧c'≤maxLen∧Blk w' W.heap.size e (olds++zs)∧(olds++zs).length=c'*size∧Upd No W w':=by
 obtain⟨ht,i,z,hi,hz,hsize,hby,hzs,hsz⟩:=hT
 have hfc:=run_firstCells_some (P:=P) W.drew i.size n ⟨g,0,none⟩ n c olds (by rw[hsize];exact hl) (fun j v hj=>by
  have e1:(⟨g,0,none⟩:Addr).add j=⟨g,j,none⟩:=by unfold Addr.add;split<;>simp_all
  rw[e1];exact hold j v hj)
 have hmul:(n+k)*i.bytes≤1000000000*4096:=by rw[hby];exact Nat.mul_le_mul hn hb
 have hmul2:k*i.bytes≤1000000000*4096:=by rw[hby];exact Nat.mul_le_mul (by omega) hb
 have hap:=Lib.run_append_grow_zeros W t tn ty e i z .i64 kn ht htn hi hz (some ⟨g,0,none⟩) n c olds hfc k h0 (by omega) hg (by omega) (by omega) (growslice_fits (by omega) (by omega));have hge:=grownCap_ge W (n+k) c e;have hle:=grownCap_le_maxLen W (n+k) c e (by unfold maxLen;omega)
 generalize grownCap W (n+k) c e=G at*
 refine⟨G,(Builtin.zeroCells z.cells k++Builtin.zeroCells z.cells (G-(n+k))).toList,_,hap,hge,hle,?_,?_,?_⟩
 ·have harr:olds.toArray++Builtin.zeroCells z.cells k++Builtin.zeroCells z.cells (G-(n+k))=(olds++(Builtin.zeroCells z.cells k++Builtin.zeroCells z.cells (G-(n+k))).toList).toArray:=by simp[Array.append_assoc]
  rw[harr];exact Blk.new W.drew e _
 ·rw[List.length_append,hl];simp[Builtin.zeroCells,hzs];rw[←Nat.add_mul,←Nat.add_mul]
  congr 1
  omega
 ·exact((Upd.refl No W).drew).alloc _
theorem Zdk {P:Program} {W:World} {t ty e:TypeId} {size bytes:Nat} (hT:SlT P t e size bytes) {g n m c c2:Nat} {ad:Addr} {t0:TypeId} {cur news:List Value} (hb:Blk W g t0 cur)
  (hl:news.length=m*size) (hsrc:∀(j:Nat) v,news[j]? =some v→W.cell? (ad.add j)=some v) (hroom:n+m≤c) (hfit:n*size+news.length≤cur.length) (h1:∀v∈news,v.oneCell'=true):
  (Builtin.append_ #[t,t] ty #[.slice (some ⟨g,0,none⟩) n c,.slice (some ad) m c2]).run P W= .ok (.slice (some ⟨g,0,none⟩) (n+m) c) (W.setRow g (cur.take (n*size)++news++cur.drop (n*size+news.length)).toArray):=by
 obtain⟨ht,i,z,hi,hz,hsize,hby,hzs,hsz⟩:=hT;have hfc:=run_firstCells_some (P:=P) W size m ad m c2 news hl hsrc;have hst:=run_storeCells_at P g (n*size) t0 news 0 cur.toArray W hb (by simpa using hfit) h1;have hadd:(⟨g,0,none⟩:Addr).add (n*size)=⟨g,n*size,none⟩:=by unfold Addr.add;split<;>simp_all
 simp[Builtin.append_,run_underlying ht,sizeOf,typeInfo,hi,hsize,Builtin.lenOf,hroom,hfc,hadd,hst]
theorem ZcZ {P:Program} {ops:Array Oper} {o:Oper} {a:Act} {Q:Exit→Act→World→Prop} {W:World} {K:Act→World→Prop} {E:Prop} {t e:TypeId} {size bytes:Nat} (hgd:o.guard=none) {s x:Operand}
  (ho:o.op= .call {callee:= .builtin .append,args:= #[s,x],argTypes:= #[t,t]}) (hT:SlT P t e size bytes) {g n m c c2:Nat} {ad:Addr} {t0:TypeId} {cur news:List Value}
  (hs:a.eval s= .slice (some ⟨g,0,none⟩) n c) (hx:a.eval x= .slice (some ad) m c2) (hb:Blk W g t0 cur) (hl:news.length=m*size) (hsrc:∀(j:Nat) v,news[j]? =some v→W.cell? (ad.add j)=some v)
  (hroom:n+m≤c) (hfit:n*size+news.length≤cur.length) (h1:∀v∈news,v.oneCell'=true)
  (h:∀w',Blk w' g t0 (cur.take (n*size)++news++cur.drop (n*size+news.length))→Upd (One g) W w'→K (a.put o.dst (.slice (some ⟨g,0,none⟩) (n+m) c)) w'):if Region.wanted o (yielded ops a.tmps)=true then Oper.wp P o a W K Q else E:=by
 rw[if_pos (by simp[Region.wanted,hgd])];have hr:=Zdk (P:=P) (ty:=o.type) (c2:=c2) hT hb hl hsrc hroom hfit h1;unfold Oper.wp execOp;simp only[ho,resolve,invoke,builtin,Sem.run_bind,Sem.run_pure,Result.andThen_ok,List.map_toArray,List.map_cons,List.map_nil,hs,hx,hr];exact h _ (ZaP hb) (ZaH _ _)
theorem Zes {P:Program} {ops:Array Oper} {rest:List Oper} {o:Oper} {a:Act} {Q:Exit→Act→World→Prop} {W:World} {t e:TypeId} {size bytes:Nat} (hgd:o.guard=none) {s:Operand}
  (ho:o.op= .call {callee:= .builtin .clear,args:= #[s],argTypes:= #[t]}) (hT:SlT P t e size bytes) {z:Value} (hv:∀w,(zeroValue e).run P w= .ok z w) (hzs:z.cells.size=size) (hz1:∀v∈z.cells.toList,v.oneCell'=true) {g off n c:Nat} {t0:TypeId} {cur:List Value}
  (hs:a.eval s= .slice (some ⟨g,off,none⟩) n c) (hn:0<n) (hb:Blk W g t0 cur) (hfit:off+n*size≤cur.length)
  (h:∀zs w',zs.length=n*size→Blk w' g t0 (cur.take off++zs++cur.drop (off+zs.length))→Upd (One g) W w'→wpList P ops Q rest (a.put o.dst (.tuple #[])) w'):wpList P ops Q (o::rest) a W:=by
 obtain⟨ht,i,z',hi,hz,hsize,hby,hzs',hsz⟩:=hT;have hzl:(Builtin.zeroCells z.cells n).toList.length=n*size:=by simp[Builtin.zeroCells,hzs]
 have hz0:∀v∈(Builtin.zeroCells z.cells n).toList,v.oneCell'=true:=fun v hv=>by
  unfold Builtin.zeroCells at hv;simp only[Array.toList_map,List.mem_map]at hv;obtain⟨k,_,rfl⟩:=hv;have hlt:k%z.cells.size<z.cells.size:=Nat.mod_lt _ (by omega);rw[getElem!_pos z.cells _ hlt];exact hz1 _ (by simp)
 have hst:=run_storeCells_at P g off t0 (Builtin.zeroCells z.cells n).toList 0 cur.toArray W hb (by simpa[hzl]using hfit) hz0;obtain⟨m,rfl⟩:∃m,n=m+1:=⟨n-1,by omega⟩
 have hr:(Builtin.clear_ #[t] o.type #[.slice (some ⟨g,off,none⟩) (m+1) c]).run P W= .ok (.tuple #[]) (W.setRow g (cur.take off++(Builtin.zeroCells z.cells (m+1)).toList++cur.drop (off+(Builtin.zeroCells z.cells (m+1)).toList.length)).toArray):=by
  simp only[Nat.add_zero]at hst;simp only[Builtin.clear_];simp[run_underlying ht,hv,hst]
 refine wpList_plain hgd fun _ hK=> ?_
 unfold Oper.wp execOp;simp only[ho,resolve,invoke,builtin,Sem.run_bind,Sem.run_pure,Result.andThen_ok,List.map_toArray,List.map_cons,List.map_nil,hs,hr];exact hK _ _ (h _ _ hzl (ZaP hb) (ZaH _ _))
theorem Zfd {P:Program} {ops:Array Oper} {rest:List Oper} {o:Oper} {a:Act} {Q:Exit→Act→World→Prop} {W:World} {t tn e:TypeId} {size bytes:Nat} {kn:IntKind} (hgd:o.guard=none) {s x:Operand}
  (ho:o.op= .call {callee:= .builtin .append,args:= #[s,x],argTypes:= #[t,tn]}) (hT:SlT P t e size bytes) (htn:P.underlying tn=some (.int kn)) {g n c k:Nat} {olds:List Value}
  (hs:a.eval s= .slice (some ⟨g,0,none⟩) n c) (hx:a.eval x= .int .i64 (k:Int))
  (hl:olds.length=n*size) (hold:∀(j:Nat) v,olds[j]? =some v→W.cell? ⟨g,j,none⟩=some v) (h0:0<k) (hg:c<n+k) (hn:n+k≤1000000000) (hb:bytes≤4096)
  (h:∀c' zs w',n+k≤c'→c'≤maxLen→Blk w' W.heap.size e (olds++zs)→(olds++zs).length=c'*size→Upd No W w'→wpList P ops Q rest (a.put o.dst (.slice (some ⟨W.heap.size,0,none⟩) (n+k) c')) w'):wpList P ops Q (o::rest) a W:=by
 obtain⟨c',zs,w',hr,h1,h2,h3,h4,h5⟩:=ZeF (ty:=o.type) hT htn hl hold h0 hg hn hb;refine wpList_plain hgd fun _ hK=> ?_
 unfold Oper.wp execOp;simp only[ho,resolve,invoke,builtin,Sem.run_bind,Sem.run_pure,Result.andThen_ok,List.map_toArray,List.map_cons,List.map_nil,hs,hx,hr];exact hK _ _ (h c' zs w' h1 h2 h3 h4 h5)
end
end Go.Proofs.Ytblplapkdmhikaa
