/- Words for memory that the walks of this seat share: what a call may have turned, blocks that are known whole, slices that read as lists. -/
import Derived.Test.YtadmgiljchgccaaGreatTczz
import Derived.Test.YtadmgiljchgccaaGreatProg
import Derived.Handy
import Derived.WalkSpells
import Derived.WalkLawsBesides
import Derived.Lib.Hide
import Derived.BigQuiet
import Derived.Deep.RegionHeld3
import Derived.Deep.DeepCutAuto
import Derived.Laws.CopyOwn
import Derived.Deep.AppendLies
namespace Go.Proofs.YtadmgiljchgccaaGreat
open Go.RowKit
set_option linter.unusedVariables false
set_option linter.unusedSimpArgs false
theorem Qh{p:Prop}(h:p):Go.RowKit.Hid p:=Lib.hid h
theorem Qz{α:Type _}{a:α}{l:List α}:(a::l)[0]?=some a:=List.getElem?_cons_zero
theorem Qs{α:Type _}{a:α}{l:List α}{n:Nat}:(a::l)[n+1]?=l[n]?:=List.getElem?_cons_succ
theorem Qg{α:Type _}{l:List α}{i:Nat}(h:i<l.length):l[i]?=some l[i]:=List.getElem?_eq_getElem h
theorem Qn(n:Nat):(0:Int)<=(n:Int):=Int.natCast_nonneg n
def nth:List Oper->Nat->Option Oper
 |[],_=>none
 |o::_,0=>some o
 |_::l,n+1=>nth l n
theorem ZqD:∀(l:List Oper) (n:Nat),nth l n=l[n]?
 |[],_=>rfl
 |_::_,0=>rfl
 |_::l,n+1=>by unfold nth;rw[ZqD l n];simp
theorem ZiU {ops:Array Oper} {i:Nat} {o:Oper} (h:nth ops.toList i=some o):ops[i]? =some o:=by rw[<-h,ZqD];simp
theorem sT {α:Type _} (l:List α) (i:Nat) (v:α):l.toArray.setIfInBounds i v=(l.set i v).toArray:=List.setIfInBounds_toArray ..
theorem sS {α:Type _} (a:α) (l:List α) (n:Nat) (v:α):(a::l).set (n+1) v=a::l.set n v:=rfl
theorem sZ {α:Type _} (a:α) (l:List α) (v:α):(a::l).set 0 v=v::l:=rfl
section
variable {P:Program} {ops:Array Oper} {Q:Exit->Act->World->Prop} {md:Region.Mode} {S:World->Prop} {fuel:Nat} {listed:Array Bool} {a:Act} {w:World} {o:Oper} {L:Array Bool} {b:Act}
theorem wpK {v:Value} (i:Nat) (hi:nth ops.toList i=some o) (h:wpAnyH P md ops Q S fuel L b w)
  (hy:YieldsIf P ops S o v a:=by(refine .inl ⟨by rfl,?_⟩;intro W wL;(try dsimp only at wL);go_simp;try (with_reducible rfl)))
  (hl:listed.setIfInBounds i true=L:=by((try simp only[sT,sS,sZ]);rfl)) (ha:a.put o.dst v=b:=by((try simp only[Act.put,sT,sS,sZ]);rfl))
  (hs:Region.noSelect ops=true:=by kernel_rfl) (hf:Region.free md ops listed i=true:=by kernel_rfl) (hr:(Region.ready md ops listed).contains i=true:=by kernel_rfl)
  (hQ:∀c a w,Q (.panic c) (a.put o.dst v) w->Q (.panic c) a w:=by exact fun _ _ _ h=>h) (hS:S w:=by assumption):wpAnyH P md ops Q S (fuel+1) listed a w:=wpAnyH_take (ZiU hi) hs hf hr hQ hy hS (by rw[hl,ha];exact h)
theorem wpN (i:Nat) (hi:nth ops.toList i=some o) (h:wpAnyH P md ops Q S fuel L b w) (hy:Region.wanted o (yielded ops a.tmps)=false:=by rfl)
  (hl:listed.setIfInBounds i true=L:=by((try simp only[sT,sS,sZ]);rfl)) (ha:a.put o.dst undef=b:=by((try simp only[Act.put,sT,sS,sZ]);rfl))
  (hs:Region.noSelect ops=true:=by kernel_rfl) (hf:Region.free md ops listed i=true:=by kernel_rfl) (hr:(Region.ready md ops listed).contains i=true:=by kernel_rfl)
  (hQ:∀c a w,Q (.panic c) (a.put o.dst undef) w->Q (.panic c) a w:=by exact fun _ _ _ h=>h) (hS:S w:=by assumption):wpAnyH P md ops Q S (fuel+1) listed a w:=wpAnyH_take (ZiU hi) hs hf hr hQ (.inr ⟨hy,rfl⟩) hS (by rw[hl,ha];exact h)
theorem wpR (rs:Iu) (h:AllReadyH P md ops Q S fuel listed a w rs) (hr:Region.ready md ops listed=rs:=by kernel_rfl) (hn:rs≠[]:=by simp):wpAnyH P md ops Q S (fuel+1) listed a w:=wpAnyH_ready hr hn h
theorem wpC {i:Nat} {rs:Iu} (hi:nth ops.toList i=some o)
  (h:∀K':Act->World->Prop,Shut (∀a w,S w->(S w->wpAnyH P md ops Q S fuel (listed.setIfInBounds i true) a w)->K' a w)->if Region.wanted o (yielded ops a.tmps)=true then Oper.wp P o a w K' Q else K' (a.put o.dst undef) w)
  (hs:AllReadyH P md ops Q S fuel listed a w rs):AllReadyH P md ops Q S fuel listed a w (i::rs):= .cons (ZiU hi) h hs
theorem wpD (h:Q .normal a w) (hr:Region.ready md ops listed=[]:=by kernel_rfl):wpAnyH P md ops Q S fuel listed a w:=wpAnyH_done hr h _
end
structure Upd (S:Nat->Prop) (w w':World):Prop where
 os:w'.os=w.os
 tape:w'.tape=w.tape
 output:w'.output=w.output
 size:w.heap.size<=w'.heap.size
 block:∀k,k<w.heap.size->¬S k->w'.heap[k]? =w.heap[k]?
namespace Upd
variable {S T:Iw} {a w w':World}
theorem refl (S:Iw) (w:World):Upd S w w:=⟨rfl,rfl,rfl,Nat.le_refl _,fun _ _ _=>rfl⟩
theorem trans_ (h:Upd S a w) (k:Upd T w w') (hT:∀i,i<a.heap.size->T i->S i):Upd S a w':=
 ⟨k.os.trans h.os,k.tape.trans h.tape,k.output.trans h.output,Nat.le_trans h.size k.size,
  fun i hi hn=>(k.block i (Gu hi h.size) (fun t=>hn (hT i hi t))).trans (h.block i hi hn)⟩
theorem trans (h:Upd S a w) (k:Upd S w w'):Upd S a w':=h.trans_ k fun _ _ t=>t
theorem mono (h:Upd S a w) (hT:∀i,i<a.heap.size->S i->T i):Upd T a w:=(refl T a).trans_ h hT
theorem drew (h:Upd S a w):Upd S a w.drew:=⟨h.os,h.tape,h.output,h.size,h.block⟩
theorem drewN (h:Upd S a w) (n:Nat):Upd S a (w.drewN n):=⟨h.os,h.tape,h.output,h.size,h.block⟩
theorem alloc (h:Upd S a w) (o:Obj):Upd S a (w.alloc o):=
 h.trans ⟨rfl,rfl,rfl,by simp,fun k hk _=>Below.heap_alloc w o k hk⟩
theorem setCell (h:Upd S a w) {p:Addr} (hp:S p.block∨a.heap.size<=p.block) (v:Value):Upd S a (w.setCell p v):=
 ⟨h.os,h.tape,h.output,by simpa[World.setCell]using h.size,fun k hk hn=>(Below.heap_setCell w p v k (by
  rintro rfl;rcases hp with hp|hp
  ·exact hn hp
  ·omega)).trans (h.block k hk hn)⟩
theorem grown (h:Upd S a w) {row:Option Nat} (hg:w.grownBy w' row) (hr:∀k,row=some k->S k∨a.heap.size<=k):Upd S a w':=
 h.trans_ (T:=fun i=>some i=row) ⟨hg.os,hg.tape,hg.output,hg.size,fun k hk hn=>hg.block k hk hn⟩ fun i hi e=>by
  rcases hr i e.symm with h|h
  ·exact h
  ·omega
theorem below {B:Nat} (h:Upd S a w) (hB:B<=a.heap.size) (hS:∀i,S i->B<=i):Below B a w:=
 ⟨h.os,h.tape,h.output,h.size,fun k hk=>h.block k (by omega) (fun s=>by have:=hS k s;omega)⟩
theorem of_below (h:Below a.heap.size a w):Upd S a w:=⟨h.os,h.tape,h.output,h.size,fun k hk _=>h.block k hk⟩
theorem cell (h:Upd S a w) {p:Addr} (hp:p.block<a.heap.size) (hn:¬S p.block):w.cell? p=a.cell? p:=World.cell?_of_block (h.block _ hp hn)
theorem of_drewN {n:Nat} (h:Upd S (a.drewN n) w):Upd S a w:=⟨h.os,h.tape,h.output,h.size,h.block⟩
theorem of_drew (h:Upd S a.drew w):Upd S a w:=⟨h.os,h.tape,h.output,h.size,h.block⟩
theorem keep (h:Upd S a w) {p:Addr} {v:Value} (hc:a.cell? p=some v) (hn:¬S p.block):w.cell? p=some v:=(h.cell (block_lt_of_cell hc) hn).trans hc
end Upd
def No:Nat->Prop:=fun _=>False
def One (g:Nat):Nat->Prop:=fun i=>i=g
theorem Upd.setOne {g:Nat} {a w:World} (h:Upd (One g) a w) (i:Nat) (v:Value):Upd (One g) a (w.setCell ⟨g,i,none⟩ v):=h.setCell (p:=⟨g,i,none⟩) (.inl rfl) v
theorem Upd.keepNo {a w:World} (h:Upd No a w) {p:Addr} {v:Value} (hc:a.cell? p=some v):w.cell? p=some v:=h.keep hc id
def Blk (w:World) (g:Nat) (t:TypeId) (cs:List Value):Prop:=w.heap[g]? =some (.cells cs.toArray t (0,0))
namespace Blk
variable {w w':World} {g:Nat} {t:TypeId} {cs:List Value} {S:Iw}
theorem lt (h:Blk w g t cs):g<w.heap.size:=(Array.getElem?_eq_some_iff.1 h).1
theorem cell (h:Blk w g t cs) (i:Nat):w.cell? ⟨g,i,none⟩=cs[i]? :=by
 rw[cell_of_row w g i _ t (0,0) h,List.getElem?_toArray]
theorem free (h:Blk w g t cs) (i:Nat):w.frozen? ⟨g,i,none⟩=false:=frozen_of_row w g i _ t h
theorem new (w:World) (t:TypeId) (cs:List Value):Blk (w.alloc (.cells cs.toArray t)) w.heap.size t cs:=heap_alloc_new w _
theorem new_at {n:Nat} {arr:Array Value} (h:n=w.heap.size):Blk (w.alloc (.cells arr t)) n t arr.toList:=by
 subst h;unfold Blk;rw[heap_alloc_new]
theorem upd (h:Blk w g t cs) (k:Upd S w w') (hn:¬S g):Blk w' g t cs:=(k.block g h.lt hn).trans h
theorem set_ (h:Blk w g t cs) (i:Nat) (v:Value):Blk (w.setCell ⟨g,i,none⟩ v) g t (cs.set i v):=by
 unfold Blk at h ⊢;rw[heap_setCell_same w g i _ t v h];simp
theorem far (h:Blk w g t cs) {p:Addr} (hp:g≠p.block) (v:Value):Blk (w.setCell p v) g t cs:=(Below.heap_setCell w p v g hp).trans h
theorem alloc (h:Blk w g t cs) (o:Obj):Blk (w.alloc o) g t cs:=(Below.heap_alloc w o g h.lt).trans h
theorem drew (h:Blk w g t cs):Blk w.drew g t cs:=h
theorem drewN (h:Blk w g t cs) (n:Nat):Blk (w.drewN n) g t cs:=h
end Blk
def Ints (F:Iw) (w:World) (A:Option Addr) (xs:Iv):Prop:=
 xs≠[]->∃ad,A=some ad∧F ad.block∧ad.block<w.heap.size∧∀j v,xs[j]? =some v->w.cell? (ad.add j)=some (.int .i64 v)
namespace Ints
variable {F S:Iw} {w w':World} {A:Option Addr} {xs:Iv}
theorem block_add (a:Addr) (n:Nat):(a.add n).block=a.block:=by unfold Addr.add;split<;>rfl
theorem nil_:Ints F w A []:=fun h=>absurd rfl h
theorem at_ (h:Ints F w A xs) {k:Nat} (hk:k<xs.length):∃ad,A=some ad∧F ad.block∧ad.block<w.heap.size∧w.cell? (ad.add k)=some (.int .i64 xs[k]):=by
 obtain⟨ad,e,hf,hl,hc⟩:=h (by intro e;subst e;simp at hk);exact⟨ad,e,hf,hl,hc k _ (Qg hk)⟩
theorem upd (h:Ints F w A xs) (k:Upd S w w') (hn:∀i,F i->¬S i):Ints F w' A xs:=fun hne=>by
 obtain⟨ad,e,hf,hl,hc⟩:=h hne;exact⟨ad,e,hf,Gu hl k.size,fun j v hj=>(k.cell (by rw[block_add];exact hl) (by rw[block_add];exact hn _ hf)).trans (hc j v hj)⟩
theorem take (h:Ints F w A xs) {i:Nat}:Ints F w A (xs.take i):=fun hne=>by
 obtain⟨ad,e,hf,hl,hc⟩:=h (by intro e;subst e;simp at hne);refine⟨ad,e,hf,hl,fun j v hj=>hc j v ?_⟩;rw[List.getElem?_take]at hj
 split at hj
 ·exact hj
 ·cases hj
theorem add_add (a:Addr) (i j:Nat):(a.add i).add j=a.add (i+j):=by
 unfold Addr.add
 by_cases hi:i=0<;>by_cases hj:j=0<;>simp[hi,hj,Nat.add_assoc]
theorem cut_ (h:Ints F w A xs) {i c:Nat} (hc:xs.length<=c):Ints F w (if c=i then A else A.map (·.add i)) (xs.drop i):=fun hne=>by
 have hi:i<xs.length:=by
  rcases Nat.lt_or_ge i xs.length with h|h
  ·exact h
  ·exact absurd (List.drop_of_length_le h) hne
 obtain⟨ad,rfl,hf,hl,gX⟩:=h (by intro e;subst e;simp at hi);rw[if_neg (by omega)];refine⟨ad.add i,rfl,by rw[block_add];exact hf,by rw[block_add];exact hl,fun j v hj=>?_⟩;rw[add_add];exact gX _ v (by rw[<-hj,List.getElem?_drop])
theorem vals (h:Ints F w A xs):xs.map (Value.int .i64)≠[]->∃ad,A=some ad∧∀(j:Nat) v,(xs.map (Value.int .i64))[j]? =some v->w.cell? (ad.add j)=some v:=fun hne=>by
 obtain⟨ad,e,_,_,hc⟩:=h (by intro e;subst e;simp at hne);refine⟨ad,e,fun j v hj=>?_⟩;rw[List.getElem?_map,Option.map_eq_some_iff]at hj;obtain⟨n,hn,rfl⟩:=hj;exact hc j n hn
theorem one_ (l:Iv):∀v∈l.map (Value.int .i64),v.oneCell'=true:=fun v hv=>by
 obtain⟨n,_,rfl⟩:=Ih.1 hv;rfl
theorem lt (h:Ints F w A xs):Ints (fun i=>i<w.heap.size) w A xs:=fun hne=>by
 obtain⟨ad,e,_,hl,hc⟩:=h hne;exact⟨ad,e,hl,hl,hc⟩
theorem drew (h:Ints F w A xs):Ints F w.drew A xs:=h
theorem drewN (h:Ints F w A xs) (n:Nat):Ints F (w.drewN n) A xs:=h
theorem of_row {cs:Array Value} {g:Nat} {t:TypeId} (hg:w.heap[g]? =some (.cells cs t (0,0))) (hF:F g) (hx:∀(j:Nat) (v:Int),xs[j]? =some v->cs[j]? =some (Value.int .i64 v)):Ints F w (some ⟨g,0,none⟩) xs:=fun _=>by
 refine⟨_,rfl,hF,(Array.getElem?_eq_some_iff.1 hg).1,fun j v hj=>?_⟩;have e:(⟨g,0,none⟩:Addr).add j=⟨g,j,none⟩:=by unfold Addr.add;split<;>simp_all
 rw[e,cell_of_row w g j cs t (0,0) hg];exact hx j v hj
theorem of_own {base:Nat} {e:TypeId} {n c:Nat} (h:w.ownsRow base e 1 (.slice A n c) n (xs.map (Value.int .i64))):Ints (fun i=>base<=i) w A xs:=fun hne=>by
 rcases h.2 with ⟨h',hn⟩|⟨g,cap,cur,hv,hb,hg,bG,eK,cf,bj⟩
 ·have:=h.1;simp only[Hw]at this;have:xs.length=0:=by omega
  exact absurd (Gd this) hne
 ·simp only[Value.slice.injEq]at hv;obtain⟨rfl,_,rfl⟩:=hv;refine of_row (F:=fun i=>base<=i) hg hb (fun j v hj=>?_) hne;have h2:(xs.map (Value.int .i64))[j]? =some (.int .i64 v):=by rw[List.getElem?_map,hj];rfl
  rw[<-bj,List.getElem?_take]at h2
  split at h2
  ·simpa using h2
  ·cases h2
end Ints
def SlT (P:Program) (t e:TypeId) (size bytes:Nat):Prop:=
 P.underlying t=some (.slice e)∧∃i z,P.info? e=some i∧i.zero=some z∧i.size=size∧i.bytes=bytes∧z.cells.size=size∧0<size
theorem SlT.mk_ {P:Program} {t e:TypeId} {z:Value} {size bytes:Nat} (h1:P.underlying t=some (.slice e))
  (h2:(P.info? e).map (fun i=>(i.zero,i.size,i.bytes))=some (some z,size,bytes)) (h3:z.cells.size=size) (h4:0<size):SlT P t e size bytes:=by
 obtain⟨i,a,b,c,d⟩:=info_parts h2;exact⟨h1,i,z,a,b,c,d,h3,h4⟩
theorem Zaz {w:World} {base:Nat} {e:TypeId} {size:Nat} {v:Value} {n:Nat} {xs:List Value} (h:w.ownsRow base e size v n xs):∃A c,v= .slice A n c:=by
 rcases h.2 with ⟨rfl,rfl⟩|⟨g,cap,cur,rfl,_⟩
 ·exact⟨none,0,rfl⟩
 ·exact⟨_,_,rfl⟩
theorem Za {S:Iw} {w w':World} {base:Nat} {e:TypeId} {size:Nat} {v:Value} {n:Nat} {xs:List Value} (h:w.ownsRow base e size v n xs) (k:Upd S w w') (hn:∀i,v.ownBlock=some i->¬S i):w'.ownsRow base e size v n xs:=by
 refine⟨h.1,?_⟩;rcases h.2 with h0|⟨g,cap,cur,rfl,hb,hg,rest⟩
 ·exact .inl h0
 ·exact .inr ⟨g,cap,cur,rfl,hb,(k.block g (Array.getElem?_eq_some_iff.1 hg).1 (hn g rfl)).trans hg,rest⟩
theorem ZK {w:World} {base b2:Nat} {e:TypeId} {size:Nat} {v:Value} {n:Nat} {xs:List Value} (h:w.ownsRow base e size v n xs) (hb:b2<=base):w.ownsRow b2 e size v n xs:=by
 refine⟨h.1,?_⟩;rcases h.2 with h0|⟨g,cap,cur,hv,hg,rest⟩
 ·exact .inl h0
 ·exact .inr ⟨g,cap,cur,hv,Nat.le_trans hb hg,rest⟩
theorem ZiN {a j n c:Nat} (e:Value.ownBlock (.slice (some ⟨a,0,none⟩) n c)=some j):a<=j:=by
 have e1:a=j:=by simpa[Value.ownBlock]using e
 omega
def Zd1 (A:Option Addr) (cap l size:Nat):Option Addr:=if cap=l then A else A.map (·.add (l*size))
section
variable {P:Program} {t e:TypeId} {size bytes:Nat} (W:World)
theorem Zfz (hT:SlT P t e size bytes) {z:Value} (hz:(P.info? e).map (·.zero)=some (some z)) (n:Nat) (h1:bytes*n<=281474976710656) (h2:n<=9223372036854775807):
  (Instr.makeSlice t (.int .i64 (n:Int)) (.int .i64 (n:Int))).run P W= .ok (.slice (some ⟨W.heap.size,0,none⟩) n n) (W.alloc (.cells (madeCells z.cells (n*size)) e)):=by
 obtain⟨ht,i,z',hi,hz',aP,gK,eM,dE⟩:=hT;obtain rfl:z'=z:=by rw[hi]at hz;simpa[hz']using hz
 have hb:(i.bytes:Int)*(n:Int)<=281474976710656:=by
  have h:((i.bytes*n:Nat):Int)<=281474976710656:=by rw[gK];omega
  rwa [Int.natCast_mul]at h
 have hr:=run_make (P:=P) W t e i z' ht hi hz' .i64 .i64 n n (by omega) (by omega) hb (by omega);simp only[Int.toNat_natCast]at hr;rw[hr,aP]
theorem ZoD (hT:SlT P t e size bytes) (A:Option Addr) (len cap l h:Nat) (h1:l<=h) (h2:h<=cap):
  (Instr.slice t (.slice A len cap) (some (.int .i64 l)) (some (.int .i64 h)) none).run P W= .ok (.slice (Zd1 A cap l size) (h-l) (cap-l)) W:=by
 obtain⟨ht,i,z,hi,hz,aP,gK,eM,dE⟩:=hT;have jn:P.elem t=e:=by simp[Program.elem,ht]
 rw[run_slice_lh _ t A len cap (by rw[jn];exact ht) _ _ _ _ (by omega) (by omega) (by omega)];simp[sizeOf,typeInfo,jn,hi,aP,sliced,Zd1,Result.andThen]
theorem Za5 (hT:SlT P t e size bytes) (A:Option Addr) (len cap l:Nat) (h1:l<=len):
  (Instr.slice t (.slice A len cap) (some (.int .i64 l)) none none).run P W= .ok (.slice (Zd1 A cap l size) (len-l) (cap-l)) W:=by
 obtain⟨ht,i,z,hi,hz,aP,gK,eM,dE⟩:=hT;have jn:P.elem t=e:=by simp[Program.elem,ht]
 rw[run_slice_l _ t A len cap (by rw[jn];exact ht) _ _ (by omega) (by omega)];simp[sizeOf,typeInfo,jn,hi,aP,sliced,Zd1,Result.andThen]
theorem ZbZ (hT:SlT P t e size bytes) (A:Option Addr) (len cap h:Nat) (h1:h<=cap):
  (Instr.slice t (.slice A len cap) none (some (.int .i64 h)) none).run P W= .ok (.slice (Zd1 A cap 0 size) h cap) W:=by
 obtain⟨ht,i,z,hi,hz,aP,gK,eM,dE⟩:=hT;have jn:P.elem t=e:=by simp[Program.elem,ht]
 rw[run_slice_h _ t A len cap (by rw[jn];exact ht) _ _ (by omega) (by omega)];simp[sizeOf,typeInfo,jn,hi,aP,sliced,Zd1,Result.andThen]
end
theorem Zbq {w:World} {base:Nat} {e:TypeId} {size:Nat} {A:Option Addr} {c n:Nat} {xs:List Value} (h:w.ownsRow base e size (.slice A n c) n xs):n<=c:=by
 rcases h.2 with ⟨hv,rfl⟩|⟨g,cap,cur,hv,_,_,bG,_⟩
 ·omega
 ·simp only[Value.slice.injEq]at hv;obtain⟨_,_,rfl⟩:=hv;exact bG
def Grew (w:World) (v v':Value):Prop:=v'.ownBlock=v.ownBlock∨∃k,v'.ownBlock=some k∧w.heap.size<=k
def Own (v:Value):Nat->Prop:=fun i=>v.ownBlock=some i
theorem Upd.of_grown {w w':World} {v:Value} (h:w.grownBy w' v.ownBlock):Upd (Own v) w w':=
 ⟨h.os,h.tape,h.output,h.size,fun k hk hn=>h.block k hk (fun e=>hn e.symm)⟩
section
variable {P:Program} {ops:Array Oper} {rest:List Oper} {o:Oper} {a:Act} {Q:Exit->Act->World->Prop}
theorem Zyt {W:World} (cm:o.guard=none) {s x:Operand} {t:TypeId}
  (ho:o.op= .call {callee:= .builtin .append,args:= #[s,x],argTypes:= #[t,t]}) {e:TypeId} {size bytes:Nat} (hT:SlT P t e size bytes)
  {base:Nat} {v:Value} {n c:Nat} {xs cells:List Value} (hs:a.eval s=v) (hx:a.eval x= .slice (some ⟨W.heap.size,0,none⟩) 1 c)
  (ae:W.ownsRow base e size v n xs) (hl:cells.length=size) (h1:cells.all (·.oneCell')=true) (hn:n+1<=9223372036854775807)
  (hb:(n+1)*bytes<=140737488355328) (a7:base<=W.heap.size)
  (h:∀v' w',w'.ownsRow base e size v' (n+1) (xs++cells)->Upd (Own v) W w'->Grew W v v'->wpList P ops Q rest (a.put o.dst v') w'):
  wpList P ops Q (o::rest) a (W.alloc (.cells cells.toArray e)):=by
 obtain⟨ht,i,z,hi,hz,aP,gK,eM,dE⟩:=hT
 have fS:∀j v,cells[j]? =some v->(W.alloc (.cells cells.toArray e)).cell? ((⟨W.heap.size,0,none⟩:Addr).add j)=some v:=fun j v hj=>by
  have e1:(⟨W.heap.size,0,none⟩:Addr).add j=⟨W.heap.size,j,none⟩:=by unfold Addr.add;split<;>simp_all
  rw[e1,cell_of_row _ _ j _ e (0,0) (heap_alloc_new W _),List.getElem?_toArray];exact hj
 obtain⟨v',w',hr,h2,h3,_,h5⟩:=Go.run_append_own_at (P:=P) (W.alloc (.cells cells.toArray e)) base t o.type e i z size bytes ht hi hz aP gK eM dE v n xs (ae.alloc _)
  ⟨W.heap.size,0,none⟩ 1 c cells (by omega) fS (by simpa using h1) (by simp only[maxLen];omega) hb (by simp;omega)
 refine wpList_plain cm fun _ hK=>?_
 unfold Oper.wp execOp;simp only[ho,resolve,invoke,builtin,Sem.run_bind,Sem.run_pure,Result.andThen_ok,List.map_toArray,Id,List.map_nil,hs,hx,hr];refine hK _ _ (h v' w' h2 (((Upd.refl _ _).alloc _).trans (Upd.of_grown h3)) ?_);rcases h5 with h5|h5
 ·exact .inl h5
 ·exact .inr ⟨_,h5,by simp⟩
end
section
variable {P:Program} {ops:Array Oper} {o:Oper} {a:Act} {Q:Exit->Act->World->Prop}
theorem Zaq {W:World} {K:Act->World->Prop} {E:Prop} (cm:o.guard=none) {s x:Operand} {t:TypeId}
  (ho:o.op= .call {callee:= .builtin .append,args:= #[s,x],argTypes:= #[t,t]}) {e:TypeId} {size bytes:Nat} (hT:SlT P t e size bytes)
  {base:Nat} {v:Value} {n c:Nat} {ad:Addr} {xs cells:List Value} (hs:a.eval s=v) (hx:a.eval x= .slice (some ad) 1 c)
  (ae:W.ownsRow base e size v n xs) (hl:cells.length=size) (fS:∀(j:Nat) v,cells[j]? =some v->W.cell? (ad.add j)=some v) (h1:cells.all (·.oneCell')=true) (hn:n+1<=9223372036854775807)
  (hb:(n+1)*bytes<=140737488355328) (a7:base<=W.heap.size)
  (h:∀g cap w',w'.ownsRow base e size (.slice (some ⟨g,0,none⟩) (n+1) cap) (n+1) (xs++cells)->Upd (Own v) W w'->Grew W v (.slice (some ⟨g,0,none⟩) (n+1) cap)->g<w'.heap.size->
   K (a.put o.dst (.slice (some ⟨g,0,none⟩) (n+1) cap)) w'):
  if Region.wanted o (yielded ops a.tmps)=true then Oper.wp P o a W K Q else E:=by
 obtain⟨ht,i,z,hi,hz,aP,gK,eM,dE⟩:=hT;refine step_append_lies W cm s x t ho base e i z size bytes ht hi hz aP gK eM dE v n xs hs ae ad 1 c cells hx (by omega) fS (by simpa using h1) (by omega) (by simp only[maxLen];omega) hb a7 W.heap.size rfl ?_;intro g cap w' h2 h3 h4 h5;refine h g cap w' h2 (Upd.of_grown h3) ?_ h5;rcases h4 with h4|h4
 ·exact .inl h4.symm
 ·exact .inr ⟨g,rfl,by omega⟩
end
theorem ZbG {P:Program} {ops:Array Oper} {rest:List Oper} {o:Oper} {a:Act} {Q:Exit->Act->World->Prop} {W:World} (cm:o.guard=none) {s x:Operand} {t:TypeId}
  (ho:o.op= .call {callee:= .builtin .append,args:= #[s,x],argTypes:= #[t,t]}) {e:TypeId} {size bytes:Nat} (hT:SlT P t e size bytes)
  {base:Nat} {v:Value} {n c:Nat} {xs cells:List Value} (hs:a.eval s=v) (hx:a.eval x= .slice (some ⟨W.heap.size,0,none⟩) 1 c)
  (ae:W.ownsRow base e size v n xs) (hl:cells.length=size) (h1:cells.all (·.oneCell')=true) (hn:n+1<=9223372036854775807)
  (hb:(n+1)*bytes<=140737488355328) (a7:base<=W.heap.size)
  (h:∀g cap w',w'.ownsRow base e size (.slice (some ⟨g,0,none⟩) (n+1) cap) (n+1) (xs++cells)->Upd (Own v) W w'->(v.ownBlock=some g∨W.heap.size<=g)->g<w'.heap.size->
   wpList P ops Q rest (a.put o.dst (.slice (some ⟨g,0,none⟩) (n+1) cap)) w'):
  wpList P ops Q (o::rest) a (W.alloc (.cells cells.toArray e)):=by
 refine Zyt cm ho hT hs hx ae hl h1 hn hb a7 fun v' w' h2 h3 h4=>?_
 obtain⟨g,cap,rfl,_,hlt⟩:=h2.form (by omega);refine h g cap w' h2 h3 ?_ hlt;rcases h4 with h4|⟨k,h4,hk⟩
 ·exact .inl h4.symm
 ·cases h4;exact .inr hk
theorem Zah {W:World} {cs:List Value} {e:TypeId} (j:Nat) (v:Value) (hj:cs[j]? =some v):(W.alloc (.cells cs.toArray e)).cell? ((⟨W.heap.size,0,none⟩:Addr).add j)=some v:=
 World.news_of_block (heap_alloc_new W _) j v (by simpa using hj)
section
variable {P:Program} {w:World} {ops:Array Oper} {rest:List Oper} {o:Oper} {a:Act} {Q:Exit->Act->World->Prop}
theorem ZxF (cm:o.guard=none) {d s:Operand} {dT sT:TypeId} (ho:o.op= .call {callee:= .builtin .copy,args:= #[d,s],argTypes:= #[dT,sT]})
  {elem t:TypeId} {bytes:Nat} (hT:SlT P dT elem 1 bytes) {g n c m c2:Nat} {A:Option Addr} {dc sc:List Value} (hd:a.eval d= .slice (some ⟨g,0,none⟩) n c) (hs:a.eval s= .slice A m c2)
  (hb:Blk w g t dc) (hn:n<=dc.length) (hm:m=sc.length) (Ga:m<=n) (bu:sc≠[]->∃ad,A=some ad∧∀(j:Nat) v,sc[j]? =some v->w.cell? (ad.add j)=some v) (h1:∀v∈sc,v.oneCell'=true)
  (h:∀w',Blk w' g t (sc++dc.drop m)->Upd (One g) w w'->wpList P ops Q rest (a.put o.dst (.int .i64 (m:Int))) w'):wpList P ops Q (o::rest) a w:=by
 subst hm;obtain⟨ht,i,z,hi,hz,aP,_⟩:=hT;have dE:(P.info? elem).map (·.size)=some 1:=by rw[hi];simp[aP]
 by_cases h0:sc=[]
 ·subst h0;refine wpList_copy_nothing cm d s dT sT ho elem ht dE _ _ _ _ _ _ hd hs (by simp) ?_;exact h w (by simpa using hb) (Upd.refl _ _)
 ·obtain⟨ad,rfl,hc⟩:=bu h0;refine wpList_copy_own cm d s dT sT ho elem ht dE g 0 n c ad sc.length c2 hd hs dc.toArray t hb sc (by simp only[Nat.min_def];split<;>omega) hc (by simp;omega) h1 ?_;refine h _ ?_ ⟨rfl,rfl,rfl,by simp,fun k hk hn=>setRow_other w g k _ hn⟩;have:=setRow_heap w g dc.toArray (sc++dc.drop sc.length).toArray t (0,0) hb;unfold Blk;rw[<-this];simp
end
section
variable {P:Program} {ops:Array Oper} {rest:List Oper} {o:Oper} {a:Act} {Q:Exit->Act->World->Prop}
theorem ZjH (W:World) {base:Nat} {t ty e:TypeId} {i:TypeInfo} {size:Nat} (ht:P.underlying t=some (.slice e)) (hi:P.info? e=some i)
  {v:Value} {n:Nat} {xs:List Value} (ae:W.ownsRow base e size v n xs) (c:Nat):(Builtin.append_ #[t,t] ty #[v,.slice none 0 c]).run P W= .ok v W:=by
 rcases ae.2 with ⟨rfl,rfl⟩|⟨g,cap,cur,rfl,_,_,bG,_⟩
 ·simp[Builtin.append_,run_underlying ht,sizeOf,typeInfo,hi,Builtin.lenOf,Builtin.firstCells]
 ·simp[Builtin.append_,run_underlying ht,sizeOf,typeInfo,hi,Builtin.lenOf,Builtin.firstCells,bG,storeCells]
def Src (W:World) (A:Option Addr) (m size:Nat) (news:List Value):Prop:=
 news.length=m*size∧(news≠[]->∃ad,A=some ad∧∀(j:Nat) v,news[j]? =some v->W.cell? (ad.add j)=some v)
theorem Zsm (W:World) {t ty e:TypeId} {size bytes:Nat} (hT:SlT P t e size bytes) {base:Nat} {v:Value} {n m c:Nat} {A:Option Addr} {xs news:List Value}
  (ae:W.ownsRow base e size v n xs) (bu:Src W A m size news) (h1:∀u∈news,u.oneCell'=true) (hn:n+m<=9223372036854775807) (hb:(n+m)*bytes<=140737488355328) (a7:base<=W.heap.size):
  ∃v' w',(Builtin.append_ #[t,t] ty #[v,.slice A m c]).run P W= .ok v' w'∧w'.ownsRow base e size v' (n+m) (xs++news)∧Upd (Own v) W w'∧Grew W v v':=by
 obtain⟨ht,i,z,hi,hz,aP,gK,eM,dE⟩:=hT
 cases A with
 |none=>
  have fS:news=[]:=by
   rcases Classical.em (news=[])with h|h
   ·exact h
   ·obtain⟨ad,h,_⟩:=bu.2 h
    cases h
  subst fS
  have hm:m=0:=by
   have h0:=bu.1;rcases Nat.mul_eq_zero.1 (show m*size=0 by rw[<-h0];rfl)with h|h<;>omega
  subst hm;exact⟨v,W,ZjH W ht hi ae c,by simpa using ae,Upd.refl _ _,.inl rfl⟩
 |some ad=>
  have hc:∀(j:Nat) v,news[j]? =some v->W.cell? (ad.add j)=some v:=fun j v hj=>by
   obtain⟨ad',h,hc⟩:=bu.2 (by rintro rfl;simp at hj)
   cases h
   exact hc j v hj
  obtain⟨v',w',hr,h2,h3,_,h5⟩:=Go.run_append_own_at (P:=P) W base t ty e i z size bytes ht hi hz aP gK eM dE v n xs ae ad m c news bu.1 hc h1 (by simp only[maxLen];omega) hb a7;refine⟨v',w',hr,h2,Upd.of_grown h3,?_⟩;rcases h5 with h5|h5
  ·exact .inl h5
  ·exact .inr ⟨_,h5,Nat.le_refl _⟩
theorem Ziq {W:World} (cm:o.guard=none) {s x:Operand} {t:TypeId}
  (ho:o.op= .call {callee:= .builtin .append,args:= #[s,x],argTypes:= #[t,t]}) {e:TypeId} {size bytes:Nat} (hT:SlT P t e size bytes)
  {base:Nat} {v:Value} {n m c:Nat} {A:Option Addr} {xs news:List Value} (hs:a.eval s=v) (hx:a.eval x= .slice A m c)
  (ae:W.ownsRow base e size v n xs) (bu:Src W A m size news) (h1:∀u∈news,u.oneCell'=true) (hn:n+m<=9223372036854775807)
  (hb:(n+m)*bytes<=140737488355328) (a7:base<=W.heap.size)
  (h:∀v' w',w'.ownsRow base e size v' (n+m) (xs++news)->Upd (Own v) W w'->Grew W v v'->wpList P ops Q rest (a.put o.dst v') w'):
  wpList P ops Q (o::rest) a W:=by
 obtain⟨v',w',hr,h2,h3,h4⟩:=Zsm (P:=P) (ty:=o.type) (c:=c) W hT ae bu h1 hn hb a7;refine wpList_plain cm fun _ hK=>?_
 unfold Oper.wp execOp;simp only[ho,resolve,invoke,builtin,Sem.run_bind,Sem.run_pure,Result.andThen_ok,List.map_toArray,Id,List.map_nil,hs,hx,hr];exact hK _ _ (h v' w' h2 h3 h4)
end
section
variable {P:Program} {ops:Array Oper} {o:Oper} {a:Act} {Q:Exit->Act->World->Prop}
end
theorem Ints.src {F:Iw} {w:World} {A:Option Addr} {xs:Iv} (h:Ints F w A xs):Src w A xs.length 1 (xs.map (Value.int .i64)):=⟨by simp,h.vals⟩
theorem Upd.then_ {S T:Iw} {w w1 w2:World} (h:Upd S w w1) (h2:Upd T w1 w2) (hT:∀i,T i->S i∨w.heap.size<=i):Upd S w w2:=
 h.trans_ h2 fun i hi t=>by
  rcases hT i t with s|s
  ·exact s
  ·omega
theorem Zmn {W:World} (cs:Iv) (e:TypeId):Ints (fun i=>i=W.heap.size) (W.alloc (.cells (cs.map (Value.int .i64)).toArray e)) (some ⟨W.heap.size,0,none⟩) cs:=
 Ints.of_row (heap_alloc_new W _) rfl fun j v hj=>by
  rw[List.getElem?_toArray,List.getElem?_map,hj];rfl
def bytes (s:ByteArray):Iv:=s.data.toList.map fun b=>(b.toNat:Int)
/- Slices that read as rows of cells. -/
def Recs (F:Iw) (w:World) (A:Option Addr) (size:Nat) (rows:List (List Value)):Prop:=
 rows≠[]->∃ad,A=some ad∧F ad.block∧ad.block<w.heap.size∧∀(i:Nat) row,rows[i]? =some row->∀(j:Nat) v,row[j]? =some v->w.cell? (ad.add (i*size+j))=some v
namespace Recs
variable {F S:Iw} {w w':World} {A:Option Addr} {size:Nat} {rows:List (List Value)}
theorem at_ (h:Recs F w A size rows) {k:Nat} (hk:k<rows.length):∃ad,A=some ad∧F ad.block∧ad.block<w.heap.size∧∀(j:Nat) v,rows[k][j]? =some v->w.cell? (if j=0 then ad.add (k*size) else ⟨(ad.add (k*size)).block,(ad.add (k*size)).off+j,none⟩)=some v:=by
 obtain⟨ad,e,hf,hl,hc⟩:=h (by intro e;subst e;simp at hk);refine⟨ad,e,hf,hl,fun j v hj=>?_⟩;have:=hc k _ (Qg hk) j v hj;rw[<-Ints.add_add]at this
 split
 ·rename_i h0;subst h0;simpa[Addr.add]using this
 ·rename_i h0
  rw[<-this]
  congr 1
  generalize ad.add (k*size)=X;unfold Addr.add;rw[if_neg h0]
theorem upd (h:Recs F w A size rows) (k:Upd S w w') (hn:∀i,F i->¬S i):Recs F w' A size rows:=fun hne=>by
 obtain⟨ad,e,hf,hl,hc⟩:=h hne;exact⟨ad,e,hf,Gu hl k.size,fun i row hi j v hj=>(k.cell (by rw[Ints.block_add];exact hl) (by rw[Ints.block_add];exact hn _ hf)).trans (hc i row hi j v hj)⟩
theorem lt (h:Recs F w A size rows):Recs (fun i=>i<w.heap.size) w A size rows:=fun hne=>by
 obtain⟨ad,e,_,hl,hc⟩:=h hne;exact⟨ad,e,hl,hl,hc⟩
end Recs
theorem Ints.weak {F G:Iw} {w:World} {A:Option Addr} {xs:Iv} (h:Ints F w A xs) (hg:∀i,i<w.heap.size->F i->G i):Ints G w A xs:=fun hne=>by
 obtain⟨ad,e,hf,hl,hc⟩:=h hne;exact⟨ad,e,hg _ hl hf,hl,hc⟩
theorem Ints.lt' {F:Iw} {w:World} {A:Option Addr} {xs:Iv} {G:Iw} (h:Ints F w A xs) (hg:∀i,F i->G i):Ints (fun i=>i<w.heap.size∧G i) w A xs:=fun hne=>by
 obtain⟨ad,e,hf,hl,hc⟩:=h hne;exact⟨ad,e,⟨hl,hg _ hf⟩,hl,hc⟩
theorem Zdl {rows:List (List Value)} {size:Nat} (h:∀r∈rows,r.length=size):rows.flatten.length=rows.length*size:=by
 induction rows with
 |nil=>simp
 |cons a l ih=>
  rw[List.flatten_cons,Gt,ih (fun r hr=>h r (Gk _ hr)),h a (Gv ..),G1,Nat.add_mul,Nat.one_mul,Nat.add_comm]
theorem Zvl {rows:List (List Value)} {size:Nat} (h:∀r∈rows,r.length=size):∀(j:Nat) (v:Value),rows.flatten[j]? =some v->∃(i:Nat) (k:Nat) (r:List Value),rows[i]? =some r∧r[k]? =some v∧j=i*size+k:=by
 induction rows with
 |nil=>intro j v hj;simp at hj
 |cons a l ih=>
  intro j v hj;have ha:=h a (Gv ..);rw[List.flatten_cons,List.getElem?_append]at hj
  split at hj
  ·exact⟨0,j,a,rfl,hj,by omega⟩
  ·obtain⟨i,k,r,h1,h2,h3⟩:=ih (fun r hr=>h r (Gk _ hr)) _ v hj;refine⟨i+1,k,r,h1,h2,?_⟩;rw[Nat.add_mul,Nat.one_mul];omega
theorem Zd0 {rows:List (List Value)} {size:Nat} (h:∀r∈rows,r.length=size) {i k:Nat} {r:List Value} {v:Value} (h1:rows[i]? =some r) (h2:r[k]? =some v):rows.flatten[i*size+k]? =some v:=by
 induction rows generalizing i with
 |nil=>simp at h1
 |cons a l ih=>
  have ha:=h a (Gv ..);have hr:=h r (Gn h1);have hk:=(List.getElem?_eq_some_iff.1 h2).1
  cases i with
  |zero=>
   simp only[Qz,Gy]at h1;subst h1;rw[List.flatten_cons,List.getElem?_append_left (by omega)]
   simpa using h2
  |succ i=>
   have:=ih (fun r hr=>h r (Gk _ hr)) (i:=i) (by simpa using h1);rw[List.flatten_cons,List.getElem?_append_right (by rw[Nat.add_mul];omega),<-this]
   congr 1
   rw[Nat.add_mul];omega
theorem Recs.src {F:Iw} {w:World} {A:Option Addr} {size:Nat} {rows:List (List Value)} (h:Recs F w A size rows) (hr:∀r∈rows,r.length=size):Src w A rows.length size rows.flatten:=
 ⟨Zdl hr,fun hne=>by
  obtain⟨ad,e,_,_,hc⟩:=h (by rintro rfl;simp at hne);refine⟨ad,e,fun j v hj=>?_⟩;obtain⟨i,k,r,h1,h2,rfl⟩:=Zvl hr j v hj;exact hc i r h1 k v h2⟩
theorem Recs.of_own {w:World} {base:Nat} {e:TypeId} {size n c:Nat} {A:Option Addr} {rows:List (List Value)} (hr:∀r∈rows,r.length=size) (hs:0<size) (h:w.ownsRow base e size (.slice A n c) n rows.flatten):Recs (Own (.slice A n c)) w A size rows:=fun hne=>by
 rcases h.2 with ⟨h',hn⟩|⟨g,cap,cur,hv,hb,hg,bG,eK,cf,bj⟩
 ·have:=h.1;rw[Zdl hr,hn]at this
  have:rows.length=0:=by
   rcases Nat.mul_eq_zero.1 (show rows.length*size=0 by omega)with h|h<;>omega
  exact absurd (Gd this) hne
 ·cases hv
  refine⟨⟨g,0,none⟩,rfl,rfl,(Array.getElem?_eq_some_iff.1 hg).1,fun i row hi j v hj=>?_⟩;have e1:(⟨g,0,none⟩:Addr).add (i*size+j)=⟨g,i*size+j,none⟩:=by unfold Addr.add;split<;>simp_all
  rw[e1,cell_of_row _ g _ _ _ (0,0) hg];have h2:=Zd0 hr hi hj;rw[<-bj,List.getElem?_take]at h2
  split at h2
  ·simpa using h2
  ·cases h2
theorem Recs.weak {F G:Iw} {w:World} {A:Option Addr} {size:Nat} {rows:List (List Value)} (h:Recs F w A size rows) (hg:∀i,i<w.heap.size->F i->G i):Recs G w A size rows:=fun hne=>by
 obtain⟨ad,e,hf,hl,hc⟩:=h hne;exact⟨ad,e,hg _ hl hf,hl,hc⟩
/- A region that draws its order,taken part by part:where all that stands ZaC a part waits for the part's last operation. -/
def Zwb (m n:Nat):Array Bool:=Array.ofFn (n:=n) fun i=>decide (i.1<m)
section
variable {P:Program} {ops C:Array Oper} {Q Q':Exit->Act->World->Prop} {md:Region.Mode}
end
section
variable {P:Program} {ops:Array Oper} {Q:Exit->Act->World->Prop} {md:Region.Mode} {m k:Nat}
def ZaC (P:Program) (md:Region.Mode) (ops:Array Oper) (Q:Exit->Act->World->Prop) (m f:Nat):Exit->Act->World->Prop
 | .normal,a,w=>wpAny P md ops Q f (Zwb m ops.size) a w
 |e,a,w=>Q e a w
structure PartOk (md:Region.Mode) (m k:Nat) (ops:Array Oper):Prop where
 size:m+k<=ops.size
 pos:0<k
 back:∀j o,ops[j]? =some o->m+k<=j->∃e∈o.after,Region.binds md e=true∧(e.on=m+k-1∨m+k<=e.on)
 chain:∀i,i<k-1->∃j o,i<j∧j<k∧ops[m+j]? =some o∧∃e∈o.after,Region.binds md e=true∧e.on=m+i
 down:∀i o,i<k->ops[m+i]? =some o->∀e∈o.after,Region.binds md e=true->e.on<m+i
 grd:∀i o g b,i<k->ops[m+i]? =some o->o.guard=some (g,b)->(g<m∧∀i2 o2 d,i2<k->ops[m+i2]? =some o2->o2.dst=some d->(ops[g]?).bind (·.dst)≠some d)∨(m<=g∧g<m+k)
structure Inv (m k:Nat) (ops:Array Oper) (md:Region.Mode) (L listed:Array Bool):Prop where
 s1:listed.size=ops.size
 s2:L.size=k
 same:∀i,i<k->∀d,L.getD i d=listed.getD (m+i) d
 lo:∀i,i<m->∀d,listed.getD i d=true
 hi:∀j,m+k<=j->j<ops.size->∀d,listed.getD j d=false
 cl:∀i o,i<k->ops[m+i]? =some o->listed.getD (m+i) false=true->∀e∈o.after,Region.binds md e=true->listed.getD e.on false=true
end
/-! a part with several orders:what stands ZaC it is walked once -/
/- Lists in strict order. -/
theorem ZeT {α:Type} {r:α->α->Prop} (irr:∀a,¬r a a) (tr:∀a b c,r a b->r b c->r a c):∀{l m:List α},l.Pairwise r->m.Pairwise r->(∀x,x∈l↔x∈m)->l=m
 |[],[],_,_,_=>rfl
 |[],b::m,_,_,h=>absurd ((h b).2 Gv) (by simp)
 |a::l,[],_,_,h=>absurd ((h a).1 Gv) (by simp)
 |a::l,b::m,hl,hm,h=>by
  have xO:=Gr.1 hl;have uI:=Gr.1 hm
  have hab:a=b:=by
   rcases Ie.1 ((h a).1 Gv)with e|e
   ·exact e
   rcases Ie.1 ((h b).2 Gv)with f|f
   ·exact f.symm
   exact absurd (tr _ _ _ (uI.1 a e) (xO.1 b f)) (irr b)
  subst hab
  have:l=m:=ZeT irr tr xO.2 uI.2 fun x=>by
   constructor
   ·intro hx;rcases Ie.1 ((h x).1 (Gk _ hx))with e|e
    ·subst e;exact absurd (xO.1 x hx) (irr x)
    ·exact e
   ·intro hx;rcases Ie.1 ((h x).2 (Gk _ hx))with e|e
    ·subst e;exact absurd (uI.1 x hx) (irr x)
    ·exact e
  rw[this]
/- Components of a digraph,plain:the search by one stack (nodes that wait),what stays true of it,and that its labels are right. -/
inductive Rch (nx:Nat->List Nat):Nat->Nat->Prop
 |refl (a:Nat):Rch nx a a
 |step {a b c:Nat}:Rch nx a b->c∈nx b->Rch nx a c
theorem Rch.trans {nx:Nat->Iu} {a b c:Nat} (h:Rch nx a b) (k:Rch nx b c):Rch nx a c:=by
 induction k with
 |refl=>exact h
 |step _ hm ih=>exact ih.step hm
theorem Rch.one {nx:Nat->Iu} {a b:Nat} (h:b∈nx a):Rch nx a b:=(Rch.refl a).step h
theorem Rch.stay {nx:Nat->Iu} {S:Iw} (hS:∀a,S a->∀b∈nx a,S b) {a b:Nat} (h:Rch nx a b) (ha:S a):S b:=by
 induction h with
 |refl=>exact ha
 |step _ hm ih=>exact hS _ ih _ hm
def IsLab (nx:Nat->Iu) (x l:Nat):Prop:=Rch nx x l∧Rch nx l x∧∀y,Rch nx x y->Rch nx y x->l<=y
def upd (f:Nat->Nat) (x v:Nat):Nat->Nat:=fun i=>if i=x then v else f i
theorem ZF (f:Nat->Nat) (x v:Nat):upd f x v x=v:=if_pos rfl
theorem Zax (f:Nat->Nat) {x i:Nat} (v:Nat) (h:i≠x):upd f x v i=f i:=if_neg h
structure TS where
 way:List (Nat×Iu)
 when:Nat->Nat
 low:Nat->Nat
 wait:List Nat
 clock:Nat
 out:Nat->Nat
def TS.seen (s:TS) (v x:Nat):Prop:=∀l,(v,l)∈s.way->x∉l
structure TInv (nx:Nat->List Nat) (s:TS):Prop where
 ord:s.wait.Pairwise fun a b=>s.when b<s.when a
 path:s.way.Pairwise fun a b=>s.when b.1<s.when a.1
 on:∀f∈s.way,f.1∈s.wait
 sub:∀f∈s.way,∀x∈f.2,x∈nx f.1
 met:∀x∈s.wait,1<=s.when x
 late:∀x,s.when x<=s.clock
 all:∀v,1<=s.when v->∀x∈nx v,s.seen v x->1<=s.when x
 done:∀v,1<=s.when v->v∉s.wait->∀x∈nx v,1<=s.when x∧x∉s.wait
 down:∀f∈s.way,∀w∈s.wait,s.when f.1<=s.when w->Rch nx f.1 w
 up:∀w∈s.wait,(∀f∈s.way,f.1≠w)->∃u∈s.wait,s.when u<s.when w∧Rch nx w u
 low1:∀f∈s.way,s.low f.1<=s.when f.1∧∃u∈s.wait,s.low f.1=s.when u∧Rch nx f.1 u
 low2:∀f∈s.way,∀w∈s.wait,s.when f.1<=s.when w->(∀g∈s.way,s.when f.1<s.when g.1->s.when w<s.when g.1)->∀x∈nx w,s.seen w x->x∈s.wait->s.low f.1<=s.when x
 lab:∀x,1<=s.when x->x∉s.wait->IsLab nx x (s.out x)
def TS.meet (s:TS) (nx:Nat->Iu) (x:Nat):TS:=⟨(x,nx x)::s.way,upd s.when x (s.clock+1),upd s.low x (s.clock+1),x::s.wait,s.clock+1,s.out⟩
theorem TInv.inj {nx:Nat->Iu} {s:TS} (h:TInv nx s) {a b:Nat} (ha:a∈s.wait) (hb:b∈s.wait) (e:s.when a=s.when b):a=b:=by
 obtain⟨i,hi,rfl⟩:=Gl.1 ha;obtain⟨j,hj,rfl⟩:=Gl.1 hb;have hp:=List.pairwise_iff_getElem.1 h.ord;rcases Nat.lt_trichotomy i j with h1|h1|h1
 ·have:=hp i j hi hj h1;omega
 ·subst h1;rfl
 ·have:=hp j i hj hi h1;omega
theorem TInv.first {nx:Nat->Iu} {s:TS} (h:TInv nx s) (hw:s.way=[]) {x:Nat} (hx:s.when x=0) (he:s.wait=[]):TInv nx (s.meet nx x):=by
 obtain⟨way,when,low,wait,clock,out⟩:=s;subst hw he;obtain⟨ord,path,on,sub,met,late,all,done,down,up,low1,low2,lab⟩:=h;simp only at*;have hne:∀v,1<=when v->v≠x:=fun v hv e=>by subst e;omega
 unfold TS.meet;simp only
 constructor<;>simp only[Ie,G6,or_false,forall_eq]
 ·simp
 ·simp
 ·exact fun y hy=>hy
 ·rw[ZF];omega
 ·intro y
  by_cases e:y=x
  ·rw[e,ZF];exact Nat.le_refl _
  ·rw[Zax _ _ e];exact Nat.le_succ_of_le (late y)
 ·intro v hv y hy hs
  by_cases e:v=x
  ·subst e;exact absurd hy (hs _ (by simp))
  ·rw[Zax _ _ e]at hv;have:=(done v hv (by simp) y hy).1;rw[Zax _ _ (hne y this)];exact this
 ·intro v hv og y hy;rw[Zax _ _ og]at hv;have:=(done v hv (by simp) y hy).1;rw[Zax _ _ (hne y this)];exact⟨this,hne y this⟩
 ·intro _;exact Rch.refl x
 ·intro h;exact absurd rfl h
 ·refine⟨by rw[ZF,ZF];exact Nat.le_refl _,x,rfl,by rw[ZF,ZF],Rch.refl x⟩
 ·intro _ _ y hy hs;exact absurd hy (hs _ (by simp))
 ·intro y hy jq;rw[Zax _ _ jq]at hy;exact lab y hy (by simp)
theorem TInv.push {nx:Nat->Iu} {v x:Nat} {l:Iu} {way:List (Nat×Iu)} {when low out:Nat->Nat} {wait:Iu} {clock:Nat}
  (h:TInv nx ⟨(v,x::l)::way,when,low,wait,clock,out⟩) (hx:when x=0):TInv nx (TS.meet ⟨(v,l)::way,when,low,wait,clock,out⟩ nx x):=by
 obtain⟨ord,path,on,sub,met,late,all,done,down,up,low1,low2,lab⟩:=h;simp only at*;have hne:∀v,1<=when v->v≠x:=fun v hv e=>by subst e;omega
 have og:x∈nx v:=sub _ (Gv ..) x (Gv ..);have hw:∀y∈wait,y≠x:=fun y hy=>hne y (met y hy)
 have hv:v∈wait:=on (v,x::l) (Gv ..);have hu:∀y∈wait,upd when x (clock+1) y=when y:=fun y hy=>Zax _ _ (hw y hy)
 have kR:∀y∈wait,upd low x (clock+1) y=low y:=fun y hy=>Zax _ _ (hw y hy)
 have aZ:x∉wait:=fun hm=>hw x hm rfl
 have onl:∀f∈(v,l)::way,f.1∈wait:=by
  intro f hf;rcases Ie.1 hf with rfl|hf
  ·exact hv
  ·exact on f (Gk _ hf)
 have vmax:∀f∈way,when f.1<when v:=fun f hf=>(Gr.1 path).1 f hf
 have seenOld:∀w y,y≠x∨w≠v->(∀k,(w,k)∈(x,nx x)::(v,l)::way->y∉k)->w≠x->(∀k,(w,k)∈(v,x::l)::way->y∉k):=by
  intro w y jq hs aJ k hk;rcases Ie.1 hk with e|hk
  ·cases e
   have:=hs l (by simp);simp only[Ie,not_or];exact⟨jq.resolve_right (fun h=>h rfl),this⟩
  ·exact hs k (by simp[hk])
 unfold TS.meet;simp only
 constructor<;>simp only
 ·refine Gr.2 ⟨fun y hy=>?_,?_⟩
  ·rw[ZF,hu y hy];have:=late y;omega
  ·refine List.Pairwise.imp_of_mem ?_ ord;intro a b ha hb hab;rw[hu a ha,hu b hb];exact hab
 ·refine Gr.2 ⟨fun f hf=>?_,Gr.2 ⟨fun f hf=>?_,?_⟩⟩
  ·show upd when x (clock+1) f.1<upd when x (clock+1) x
   rw[ZF,hu _ (onl f hf)];have:=late f.1;omega
  ·show upd when x (clock+1) f.1<upd when x (clock+1) v
   rw[hu _ hv,hu _ (onl f (Gk _ hf))];exact vmax f hf
  ·refine List.Pairwise.imp_of_mem ?_ (Gr.1 path).2;intro a b ha hb hab;rw[hu _ (onl a (Gk _ ha)),hu _ (onl b (Gk _ hb))];exact hab
 ·intro f hf;rcases Ie.1 hf with rfl|hf
  ·exact Gv ..
  ·exact Gk _ (onl f hf)
 ·intro f hf y hy;rcases Ie.1 hf with rfl|hf
  ·exact hy
  ·rcases Ie.1 hf with rfl|hf
   ·exact sub (v,x::l) (Gv ..) y (Gk _ hy)
   ·exact sub f (Gk _ hf) y hy
 ·intro y hy;rcases Ie.1 hy with rfl|hy
  ·rw[ZF];omega
  ·rw[hu y hy];exact met y hy
 ·intro y
  by_cases e:y=x
  ·rw[e,ZF];exact Nat.le_refl _
  ·rw[Zax _ _ e];exact Nat.le_succ_of_le (late y)
 ·intro w ap y hy hs
  by_cases e:y=x
  ·rw[e,ZF];omega
  ·rw[Zax _ _ e]
   by_cases ew:w=x
   ·subst ew;exact absurd hy (hs _ (by simp))
   ·rw[Zax _ _ ew]at ap;exact all w ap y hy (seenOld w y (Or.inl e) hs ew)
 ·intro w ap lv y hy;simp only[Ie,not_or]at lv;rw[Zax _ _ lv.1]at ap;have:=done w ap lv.2 y hy;rw[Zax _ _ (hne y this.1)];exact⟨this.1,by simp only[Ie,not_or];exact⟨hne y this.1,this.2⟩⟩
 ·intro f hf w ap hle
  have Fg:∀f∈(v,l)::way,Rch nx f.1 v:=by
   intro f hf;rcases Ie.1 hf with rfl|hf
   ·exact Rch.refl _
   ·exact down f (Gk _ hf) v hv (Nat.le_of_lt (vmax f hf))
  rcases Ie.1 ap with rfl|ap
  ·rcases Ie.1 hf with rfl|hf
   ·exact Rch.refl _
   ·exact(Fg f hf).step og
  ·rcases Ie.1 hf with rfl|hf
   ·simp only at hle;rw[ZF,hu w ap]at hle;have:=late w;omega
   ·rw[hu w ap,hu _ (onl f hf)]at hle;rcases Ie.1 hf with rfl|hf
    ·exact down (v,x::l) (Gv ..) w ap hle
    ·exact down f (Gk _ hf) w ap hle
 ·intro w ap gJ;rcases Ie.1 ap with rfl|ap
  ·exact absurd rfl (gJ _ (Gv ..))
  ·obtain⟨u,hu1,hu2,hu3⟩:=up w ap (fun f hf=>by
    rcases Ie.1 hf with rfl|hf
    ·exact gJ (v,l) (by simp)
    ·exact gJ f (by simp[hf]))
   exact⟨u,Gk _ hu1,by rw[hu u hu1,hu w ap];exact hu2,hu3⟩
 ·intro f hf;rcases Ie.1 hf with rfl|hf
  ·exact⟨by rw[ZF,ZF];exact Nat.le_refl _,x,Gv ..,by rw[ZF,ZF],Rch.refl x⟩
  ·have h1:low f.1<=when f.1∧∃u∈wait,low f.1=when u∧Rch nx f.1 u:=by
    rcases Ie.1 hf with rfl|hf
    ·exact low1 (v,x::l) (Gv ..)
    ·exact low1 f (Gk _ hf)
   obtain⟨h1,u,h2,h3,h4⟩:=h1;rw[kR _ (onl f hf),hu _ (onl f hf)];exact⟨h1,u,Gk _ h2,by rw[hu u h2];exact h3,h4⟩
 ·intro f hf w ap hle df y hy hs fj;rcases Ie.1 hf with rfl|hf
  ·-- the new one:nothing of it was looked at
   rcases Ie.1 ap with rfl|ap
   ·exact absurd hy (hs _ (by simp))
   ·simp only at hle;rw[ZF,hu w ap]at hle;have:=late w;omega
  ·rcases Ie.1 ap with rfl|ap
   ·exact absurd hy (hs _ (by simp))
   ·have aJ:w≠x:=hw w ap;rw[kR _ (onl f hf)];rw[hu _ (onl f hf),hu w ap]at hle
    have h1:low f.1<=when f.1:=by
     rcases Ie.1 hf with rfl|hf
     ·exact(low1 (v,x::l) (Gv ..)).1
     ·exact(low1 f (Gk _ hf)).1
    rcases Ie.1 fj with e|fj
    ·-- the arc to the new one
     rw[e,ZF];have:=late f.1;omega
    ·rw[hu y fj];have ip:=seenOld w y (Or.inl (hw y fj)) hs aJ;rcases Ie.1 hf with rfl|hf
     ·refine low2 (v,x::l) (Gv ..) w ap hle ?_ y hy ip fj;intro g hg hlt;rcases Ie.1 hg with rfl|hg
      ·exact absurd hlt (Nat.lt_irrefl _)
      ·have:=vmax g hg;simp only at hlt;omega
     ·refine low2 f (Gk _ hf) w ap hle ?_ y hy ip fj;intro g hg hlt;rcases Ie.1 hg with rfl|hg
      ·have:=df (v,l) (by simp) (by rw[hu _ hv,hu _ (onl f (Gk _ hf))];exact hlt);rw[hu _ hv,hu w ap]at this;exact this
      ·have:=df g (by simp[hg]) (by rw[hu _ (onl g (Gk _ hg)),hu _ (onl f (Gk _ hf))];exact hlt);rw[hu _ (onl g (Gk _ hg)),hu w ap]at this;exact this
 ·intro y hy gP;simp only[Ie,not_or]at gP;rw[Zax _ _ gP.1]at hy;exact lab y hy gP.2
theorem TInv.back {nx:Nat->Iu} {v x:Nat} {l:Iu} {way:List (Nat×Iu)} {when low out:Nat->Nat} {wait:Iu} {clock:Nat}
  (h:TInv nx ⟨(v,x::l)::way,when,low,wait,clock,out⟩) (hx:x∈wait):TInv nx ⟨(v,l)::way,when,upd low v (min (low v) (when x)),wait,clock,out⟩:=by
 obtain⟨ord,path,on,sub,met,late,all,done,down,up,low1,low2,lab⟩:=h;simp only at*;have og:x∈nx v:=sub _ (Gv ..) x (Gv ..);have hv:v∈wait:=on (v,x::l) (Gv ..);have vmax:∀f∈way,when f.1<when v:=fun f hf=>(Gr.1 path).1 f hf
 have vne:∀f∈way,f.1≠v:=fun f hf e=>by have:=vmax f hf;rw[e]at this;omega
 have seenOld:∀w y,y≠x->(∀k,(w,k)∈(v,l)::way->y∉k)->(∀k,(w,k)∈(v,x::l)::way->y∉k):=by
  intro w y jq hs k hk;rcases Ie.1 hk with e|hk
  ·cases e
   simp only[Ie,not_or];exact⟨jq,hs l (by simp)⟩
  ·exact hs k (by simp[hk])
 have segOld:∀(f:Nat×Iu) (w:Nat),(∀g∈(v,l)::way,when f.1<when g.1->when w<when g.1)->∀g∈(v,x::l)::way,when f.1<when g.1->when w<when g.1:=by
  intro f w hs g hg;rcases Ie.1 hg with rfl|hg
  ·exact hs (v,l) (by simp)
  ·exact hs g (by simp[hg])
 constructor<;>simp only
 ·exact ord
 ·exact Gr.2 ⟨vmax,(Gr.1 path).2⟩
 ·intro f hf;rcases Ie.1 hf with rfl|hf
  ·exact hv
  ·exact on f (Gk _ hf)
 ·intro f hf y hy;rcases Ie.1 hf with rfl|hf
  ·exact sub (v,x::l) (Gv ..) y (Gk _ hy)
  ·exact sub f (Gk _ hf) y hy
 ·exact met
 ·exact late
 ·intro w ap y hy hs
  by_cases e:y=x
  ·rw[e];exact met x hx
  ·exact all w ap y hy (seenOld w y e hs)
 ·exact done
 ·intro f hf w ap hle;rcases Ie.1 hf with rfl|hf
  ·exact down (v,x::l) (Gv ..) w ap hle
  ·exact down f (Gk _ hf) w ap hle
 ·intro w ap gJ
  exact up w ap fun f hf=>by
   rcases Ie.1 hf with rfl|hf
   ·exact gJ (v,l) (by simp)
   ·exact gJ f (by simp[hf])
 ·intro f hf;rcases Ie.1 hf with rfl|hf
  ·simp only;rw[ZF];obtain⟨h1,u,h2,h3,h4⟩:=low1 (v,x::l) (Gv ..);simp only at h1 h3 h4;refine⟨by omega,?_⟩
   by_cases hc:low v<=when x
   ·exact⟨u,h2,by rw[Nat.min_eq_left hc];exact h3,h4⟩
   ·exact⟨x,hx,by rw[Nat.min_eq_right (by omega)],Rch.one og⟩
  ·rw[Zax _ _ (vne f hf)];exact low1 f (Gk _ hf)
 ·intro f hf w ap hle df y hy hs fj;have gE:=segOld f w df;rcases Ie.1 hf with rfl|hf
  ·simp only;rw[ZF]
   by_cases e:y=x
   ·rw[e];omega
   ·have:=low2 (v,x::l) (Gv ..) w ap hle gE y hy (seenOld w y e hs) fj;simp only at this;omega
  ·rw[Zax _ _ (vne f hf)]
   by_cases e:w=v
   ·-- v is not of the part of f
    have:=df (v,l) (by simp) (vmax f hf);rw[e]at this;exact absurd this (Nat.lt_irrefl _)
   ·refine low2 f (Gk _ hf) w ap hle gE y hy ?_ fj;intro k hk;rcases Ie.1 hk with e2|hk
    ·cases e2;exact absurd rfl e
    ·exact hs k (by simp[hk])
 ·exact lab
theorem TInv.skip {nx:Nat->Iu} {v x:Nat} {l:Iu} {way:List (Nat×Iu)} {when low out:Nat->Nat} {wait:Iu} {clock:Nat}
  (h:TInv nx ⟨(v,x::l)::way,when,low,wait,clock,out⟩) (hm:1<=when x) (hx:x∉wait):TInv nx ⟨(v,l)::way,when,low,wait,clock,out⟩:=by
 obtain⟨ord,path,on,sub,met,late,all,done,down,up,low1,low2,lab⟩:=h;simp only at*;have hv:v∈wait:=on (v,x::l) (Gv ..);have vmax:∀f∈way,when f.1<when v:=fun f hf=>(Gr.1 path).1 f hf
 have seenOld:∀w y,y≠x->(∀k,(w,k)∈(v,l)::way->y∉k)->(∀k,(w,k)∈(v,x::l)::way->y∉k):=by
  intro w y jq hs k hk;rcases Ie.1 hk with e|hk
  ·cases e
   simp only[Ie,not_or];exact⟨jq,hs l (by simp)⟩
  ·exact hs k (by simp[hk])
 constructor<;>simp only
 ·exact ord
 ·exact Gr.2 ⟨vmax,(Gr.1 path).2⟩
 ·intro f hf;rcases Ie.1 hf with rfl|hf
  ·exact hv
  ·exact on f (Gk _ hf)
 ·intro f hf y hy;rcases Ie.1 hf with rfl|hf
  ·exact sub (v,x::l) (Gv ..) y (Gk _ hy)
  ·exact sub f (Gk _ hf) y hy
 ·exact met
 ·exact late
 ·intro w ap y hy hs
  by_cases e:y=x
  ·rw[e];exact hm
  ·exact all w ap y hy (seenOld w y e hs)
 ·exact done
 ·intro f hf w ap hle;rcases Ie.1 hf with rfl|hf
  ·exact down (v,x::l) (Gv ..) w ap hle
  ·exact down f (Gk _ hf) w ap hle
 ·intro w ap gJ
  exact up w ap fun f hf=>by
   rcases Ie.1 hf with rfl|hf
   ·exact gJ (v,l) (by simp)
   ·exact gJ f (by simp[hf])
 ·intro f hf;rcases Ie.1 hf with rfl|hf
  ·exact low1 (v,x::l) (Gv ..)
  ·exact low1 f (Gk _ hf)
 ·intro f hf w ap hle df y hy hs fj
  have gE:∀g∈(v,x::l)::way,when f.1<when g.1->when w<when g.1:=by
   intro g hg;rcases Ie.1 hg with rfl|hg
   ·exact df (v,l) (by simp)
   ·exact df g (by simp[hg])
  have jq:y≠x:=fun e=>hx (e▸fj)
  rcases Ie.1 hf with rfl|hf
  ·exact low2 (v,x::l) (Gv ..) w ap hle gE y hy (seenOld w y jq hs) fj
  ·exact low2 f (Gk _ hf) w ap hle gE y hy (seenOld w y jq hs) fj
 ·exact lab
theorem TInv.pop {nx:Nat->Iu} {v p:Nat} {l:Iu} {way:List (Nat×Iu)} {when low out:Nat->Nat} {wait:Iu} {clock:Nat}
  (h:TInv nx ⟨(v,[])::(p,l)::way,when,low,wait,clock,out⟩) (hl:low v≠when v):TInv nx ⟨(p,l)::way,when,upd low p (min (low p) (low v)),wait,clock,out⟩:=by
 obtain⟨ord,path,on,sub,met,late,all,done,down,up,low1,low2,lab⟩:=h;simp only at*;have hv:v∈wait:=on (v,[]) (Gv ..);have hp:p∈wait:=on (p,l) (by simp);have vmax:∀f∈(p,l)::way,when f.1<when v:=fun f hf=>(Gr.1 path).1 f hf
 have path2:=(Gr.1 path).2;have pmax:∀f∈way,when f.1<when p:=fun f hf=>(Gr.1 path2).1 f hf
 have pne:∀f∈way,f.1≠p:=fun f hf e=>by have:=pmax f hf;rw[e]at this;omega
 have Df:when p<when v:=vmax (p,l) (by simp)
 have seenOld:∀w y,(∀k,(w,k)∈(p,l)::way->y∉k)->(∀k,(w,k)∈(v,[])::(p,l)::way->y∉k):=by
  intro w y hs k hk;rcases Ie.1 hk with e|hk
  ·cases e;simp
  ·exact hs k hk
 constructor<;>simp only
 ·exact ord
 ·exact path2
 ·exact fun f hf=>on f (Gk _ hf)
 ·exact fun f hf=>sub f (Gk _ hf)
 ·exact met
 ·exact late
 ·exact fun w ap y hy hs=>all w ap y hy (seenOld w y hs)
 ·exact done
 ·exact fun f hf=>down f (Gk _ hf)
 ·intro w ap gJ
  by_cases e:w=v
  ·obtain⟨h1,u,h2,h3,h4⟩:=low1 (v,[]) (Gv ..);simp only at h1 h3 h4;rw[e];exact⟨u,h2,by omega,h4⟩
  ·exact up w ap fun f hf=>by
    rcases Ie.1 hf with rfl|hf
    ·exact fun e2=>e e2.symm
    ·exact gJ f hf
 ·intro f hf;rcases Ie.1 hf with rfl|hf
  ·simp only;rw[ZF];obtain⟨h1,u,h2,h3,h4⟩:=low1 (p,l) (by simp);obtain⟨k1,u',k2,k3,k4⟩:=low1 (v,[]) (by simp);simp only at h1 h3 h4 k1 k3 k4;refine⟨by omega,?_⟩
   by_cases hc:low p<=low v
   ·exact⟨u,h2,by rw[Nat.min_eq_left hc];exact h3,h4⟩
   ·exact⟨u',k2,by rw[Nat.min_eq_right (by omega)];exact k3,(down (p,l) (by simp) v hv (Nat.le_of_lt Df)).trans k4⟩
  ·rw[Zax _ _ (pne f hf)];exact low1 f (by simp[hf])
 ·intro f hf w ap hle df y hy hs fj;have ip:=seenOld w y hs;rcases Ie.1 hf with rfl|hf
  ·simp only;rw[ZF];simp only at hle df
   by_cases hc:when v<=when w
   ·have:=low2 (v,[]) (by simp) w ap hc (by
     intro g hg hlt;rcases Ie.1 hg with rfl|hg
     ·exact absurd hlt (Nat.lt_irrefl _)
     ·have:=vmax g hg;simp only at hlt;omega) y hy ip fj
    simp only at this;omega
   ·have:=low2 (p,l) (by simp) w ap hle (by
     intro g hg hlt;rcases Ie.1 hg with rfl|hg
     ·simp only;omega
     ·exact df g hg hlt) y hy ip fj
    simp only at this;omega
  ·rw[Zax _ _ (pne f hf)];refine low2 f (by simp[hf]) w ap hle ?_ y hy ip fj;intro g hg hlt;rcases Ie.1 hg with rfl|hg
   ·have:=df (p,l) (by simp) (pmax f hf);simp only at this ⊢;omega
   ·exact df g hg hlt
 ·exact lab
theorem TInv.root {nx:Nat->Iu} {v:Nat} {way:List (Nat×Iu)} {when low out out':Nat->Nat} {top rest:Iu} {clock m:Nat}
  (h:TInv nx ⟨(v,[])::way,when,low,top++v::rest,clock,out⟩) (hl:low v=when v) (ho:∀x,out' x=if x∈top++[v] then m else out x) (cd:m∈top++[v]) (bh:∀x∈top++[v],m<=x):
  TInv nx ⟨way,when,low,rest,clock,out'⟩:=by
 have CI:=fun {a b:Nat}=>h.inj (a:=a) (b:=b)
 obtain⟨ord,path,on,sub,met,late,all,done,down,up,low1,low2,lab⟩:=h;simp only at*;have hv:v∈top++v::rest:=by simp
 have vmax:∀f∈way,when f.1<when v:=fun f hf=>(Gr.1 path).1 f hf
 have qU:∀x∈top,when v<when x:=fun x hx=>(Gm.1 ord).2.2 x hx v (Gv ..)
 have cV:∀x∈rest,when x<when v:=fun x hx=>(Gr.1 (Gm.1 ord).2.1).1 x hx
 have cA:∀x,x∈top++v::rest↔x∈top++[v]∨x∈rest:=by intro x;simp[or_assoc]
 have du:∀x,x∈top++[v]↔x∈top++v::rest∧when v<=when x:=by
  intro x
  constructor
  ·intro hx;refine⟨(cA x).2 (Or.inl hx),?_⟩;rcases Ib.1 hx with hx|hx
   ·exact Nat.le_of_lt (qU x hx)
   ·rw[Gq.1 hx];exact Nat.le_refl _
  ·rintro⟨h1,h2⟩;rcases(cA x).1 h1 with h1|h1
   ·exact h1
   ·have:=cV x h1;omega
 have mC:∀x,x∈top++[v]->x∉rest:=fun x h1 h2=>by have:=((du x).1 h1).2;have:=cV x h2;omega
 have sh:∀x,x∈top->∀f∈(v,[])::way,f.1≠x:=by
  intro x hx f hf e;have h1:=qU x hx;rcases Ie.1 hf with rfl|hf
  ·simp only at e;subst e;omega
  ·have:=vmax f hf;rw[e]at this;omega
 have wseen:∀w∈top++[v],∀y,(∀k,(w,k)∈(v,[])::way->y∉k):=by
  intro w hw y k hk;rcases Ie.1 hk with e|hk
  ·cases e;simp
  ·rcases Ib.1 hw with hw|hw
   ·exact absurd rfl (sh w hw (w,k) (Gk _ hk))
   ·rw[Gq.1 hw]at hk;have:=vmax _ hk;exact absurd this (Nat.lt_irrefl _)
 have lL:∀w∈top++[v],∀y∈nx w,1<=when y∧y∉rest:=by
  intro w hw y hy;have h1:=(du w).1 hw;refine⟨all w (met w h1.1) y hy (wseen w hw y),fun hyr=>?_⟩
  have:=low2 (v,[]) (by simp) w h1.1 h1.2 (by
   intro g hg hlt;rcases Ie.1 hg with rfl|hg
   ·exact absurd hlt (Nat.lt_irrefl _)
   ·have:=vmax g hg;simp only at hlt;omega) y hy (wseen w hw y) (by rw[cA];exact Or.inr hyr)
  simp only at this;rw[hl]at this;have:=cV y hyr;omega
 have gc:∀a,(1<=when a∧a∉rest)->∀b∈nx a,1<=when b∧b∉rest:=by
  rintro a ⟨h1,h2⟩ b hb
  by_cases ha:a∈top++[v]
  ·exact lL a ha b hb
  ·have Dm:a∉top++v::rest:=fun hm=>by rcases(cA a).1 hm with h3|h3;exact ha h3;exact h2 h3
   have:=done a h1 Dm b hb;exact⟨this.1,fun hr=>this.2 ((cA b).2 (Or.inr hr))⟩
 have hold:∀a,(1<=when a∧a∉top++v::rest)->∀b∈nx a,1<=when b∧b∉top++v::rest:=fun a h1=>done a h1.1 h1.2
 have gp:∀n x,when x<=n->x∈top++[v]->Rch nx x v:=by
  intro n
  induction n with
  |zero=>intro x h1 hx;have:=met x ((du x).1 hx).1;omega
  |succ n ih=>
   intro x h1 hx
   by_cases e:x=v
   ·rw[e];exact Rch.refl _
   ·have cO:x∈top:=by
     rcases Ib.1 hx with hx|hx
     ·exact hx
     ·exact absurd (Gq.1 hx) e
    obtain⟨u,hu1,hu2,hu3⟩:=up x ((du x).1 hx).1 (sh x cO);have hu4:=Rch.stay (S:=fun a=>1<=when a∧a∉rest) gc hu3 ⟨met x ((du x).1 hx).1,mC x hx⟩;exact hu3.trans (ih u (by omega) (((cA u).1 hu1).resolve_right hu4.2))
 have qm:∀x∈top++[v],Rch nx v x:=fun x hx=>down (v,[]) (by simp) x ((du x).1 hx).1 ((du x).1 hx).2
 constructor<;>simp only
 ·exact(Gr.1 (Gm.1 ord).2.1).2
 ·exact(Gr.1 path).2
 ·intro f hf;have h1:=on f (Gk _ hf);rcases(cA _).1 h1 with h2|h2
  ·have:=((du _).1 h2).2;have:=vmax f hf;omega
  ·exact h2
 ·exact fun f hf=>sub f (Gk _ hf)
 ·exact fun x hx=>met x ((cA x).2 (Or.inr hx))
 ·exact late
 ·intro w ap y hy hs
  by_cases hw:w∈top++[v]
  ·exact(lL w hw y hy).1
  ·refine all w ap y hy fun k hk=>?_
   rcases Ie.1 hk with e|hk
   ·cases e;simp
   ·exact hs k hk
 ·exact fun w ap lv=>gc w ⟨ap,lv⟩
 ·exact fun f hf w ap=>down f (Gk _ hf) w ((cA w).2 (Or.inr ap))
 ·intro w ap gJ;have h1:=cV w ap
  obtain⟨u,hu1,hu2,hu3⟩:=up w ((cA w).2 (Or.inr ap)) (fun f hf=>by
   rcases Ie.1 hf with rfl|hf
   ·intro e;simp only at e;subst e;omega
   ·exact gJ f hf)
  refine⟨u,?_,hu2,hu3⟩;rcases(cA u).1 hu1 with h2|h2
  ·have:=((du u).1 h2).2;omega
  ·exact h2
 ·intro f hf;obtain⟨h1,u,h2,h3,h4⟩:=low1 f (Gk _ hf);refine⟨h1,u,?_,h3,h4⟩;rcases(cA u).1 h2 with h5|h5
  ·have:=((du u).1 h5).2;have:=vmax f hf;omega
  ·exact h5
 ·intro f hf w ap hle df y hy hs fj;have h1:=cV w ap;refine low2 f (Gk _ hf) w ((cA w).2 (Or.inr ap)) hle ?_ y hy ?_ ((cA y).2 (Or.inr fj))
  ·intro g hg hlt;rcases Ie.1 hg with rfl|hg
   ·exact h1
   ·exact df g hg hlt
  ·intro k hk;rcases Ie.1 hk with e|hk
   ·cases e;simp
   ·exact hs k hk
 ·intro x eo cO;rw[ho x]
  by_cases hx:x∈top++[v]
  ·rw[if_pos hx];have yS:=gp _ x (Nat.le_refl _) hx;refine⟨yS.trans (qm m cd),(gp _ m (Nat.le_refl _) cd).trans (qm x hx),fun y h1 h2=>bh y ?_⟩;have h3:=Rch.stay (S:=fun a=>1<=when a∧a∉rest) gc h1 ⟨met x ((du x).1 hx).1,mC x hx⟩
   apply Classical.byContradiction
   intro gP;have h4:y∉top++v::rest:=fun hm=>by rcases(cA y).1 hm with h5|h5;exact gP h5;exact h3.2 h5
   exact(Rch.stay (S:=fun a=>1<=when a∧a∉top++v::rest) hold h2 ⟨h3.1,h4⟩).2 ((du x).1 hx).1
  ·rw[if_neg hx];exact lab x eo fun hm=>by rcases(cA x).1 hm with h5|h5;exact hx h5;exact cO h5
theorem TInv.none_waits {nx:Nat->Iu} {s:TS} (h:TInv nx s) (hw:s.way=[]):s.wait=[]:=by
 apply Classical.byContradiction
 intro hne
 have ah:∀n x,s.when x<=n->x∉s.wait:=by
  intro n
  induction n with
  |zero=>intro x h1 hx;have:=h.met x hx;omega
  |succ n ih=>
   intro x h1 hx;obtain⟨u,hu1,hu2,_⟩:=h.up x hx (by rw[hw];simp);exact ih u (by omega) hu1
 cases hs:s.wait with
 |nil=>exact hne hs
 |cons x l=>exact ah _ x (Nat.le_refl _) (by rw[hs];simp)
theorem TInv.start (nx:Nat->Iu) (low out:Nat->Nat):TInv nx ⟨[],fun _=>0,low,[],0,out⟩:=by
 constructor<;>simp
/- Components of a digraph,plain:a search that begins with nobody under way;how long it goes. -/
theorem Zmq (f:Nat->Nat):∀l:Iu,l≠[]->∃x∈l,∀y∈l,f x<=f y
 |[],h=>absurd rfl h
 |[a],_=>⟨a,by simp,by simp⟩
 |a::b::l,_=>by
  obtain⟨x,hx,h⟩:=Zmq f (b::l) (by simp)
  by_cases hc:f a<=f x
  ·refine⟨a,by simp,fun y hy=>?_⟩;rcases Ie.1 hy with rfl|hy
   ·exact Nat.le_refl _
   ·exact Nat.le_trans hc (h y hy)
  ·refine⟨x,Gk _ hx,fun y hy=>?_⟩;rcases Ie.1 hy with rfl|hy
   ·omega
   ·exact h y hy
theorem TInv.sole {nx:Nat->Iu} {s:TS} (h:TInv nx s) {v:Nat} {l:Iu} (hw:s.way=[(v,l)]):s.low v=s.when v:=by
 have hv:v∈s.wait:=h.on (v,l) (by rw[hw];simp);obtain⟨x,hx,dB⟩:=Zmq s.when s.wait (by intro e;rw[e]at hv;cases hv)
 have yS:x=v:=by
  apply Classical.byContradiction
  intro hne;obtain⟨u,hu1,hu2,_⟩:=h.up x hx (by rw[hw];simp only[Gq,forall_eq];exact fun e=>hne e.symm);have:=dB u hu1;omega
 obtain⟨h1,u,hu1,hu2,_⟩:=h.low1 (v,l) (by rw[hw];simp);have:=dB u hu1;rw[yS]at this;simp only at h1 hu2;omega
theorem TInv.keep_low {nx:Nat->Iu} {v p:Nat} {l k:Iu} {way:List (Nat×Iu)} {when low out:Nat->Nat} {wait:Iu} {clock:Nat}
  (h:TInv nx ⟨(v,l)::(p,k)::way,when,low,wait,clock,out⟩) (hl:low v=when v):min (low p) (low v)=low p:=by
 have h1:=(h.low1 (p,k) (by simp)).1;have h2:=(Gr.1 h.path).1 (p,k) (by simp);simp only at h1 h2;omega
theorem Zr7 (f:Nat->Nat) (x:Nat):upd f x (f x)=f:=by
 funext i
 unfold upd
 split
 ·rename_i e;rw[e]
 ·rfl
def ZfQ (nx:Nat->Iu) (when:Nat->Nat):Nat->Nat
 |0=>0
 |n+1=>ZfQ nx when n+if when n=0 then (nx n).length+2 else 0
def mu (nx:Nat->Iu) (N:Nat) (s:TS):Nat:=ZfQ nx s.when N+(s.way.map fun f=>f.2.length+1).sum
theorem Zkd (nx:Nat->Iu) (when:Nat->Nat) (x v:Nat) (hx:when x=0) (hv:v≠0):∀n,ZfQ nx (upd when x v) n+(if x<n then (nx x).length+2 else 0)=ZfQ nx when n
 |0=>by simp[ZfQ]
 |n+1=>by
  have ih:=Zkd nx when x v hx hv n
  show ZfQ nx (upd when x v) n+(if upd when x v n=0 then (nx n).length+2 else 0)+(if x<n+1 then (nx x).length+2 else 0)=ZfQ nx when n+if when n=0 then (nx n).length+2 else 0
  by_cases e:n=x
  ·subst e;have e1:(if n<n+1 then (nx n).length+2 else 0)=(nx n).length+2:=if_pos (by omega);have e2:(if n<n then (nx n).length+2 else 0)=0:=if_neg (by omega);rw[ZF,if_neg hv,if_pos hx,e1];rw[e2]at ih;omega
  ·rw[Zax _ _ e]
   have e1:(if x<n+1 then (nx x).length+2 else 0)=if x<n then (nx x).length+2 else 0:=by
    by_cases h:x<n
    ·rw[if_pos h,if_pos (by omega)]
    ·rw[if_neg h,if_neg (by omega)]
   rw[e1];omega
theorem ZuX (nx:Nat->Iu) (N:Nat) (s:TS) {x:Nat} (hx:s.when x=0) (hN:x<N):mu nx N (s.meet nx x)+1=mu nx N s:=by
 have:=Zkd nx s.when x (s.clock+1) hx (by omega) N;rw[if_pos hN]at this;unfold mu TS.meet;simp only[Id,List.sum_cons];omega
/- Components of a digraph,plain:what stays true of the search,with its bounds. -/
def Zcz (when:Nat->Nat):Nat->Nat
 |0=>0
 |n+1=>Zcz when n+if when n=0 then 1 else 0
theorem ZfP (when:Nat->Nat) (x v:Nat) (hx:when x=0) (hv:v≠0):∀n,Zcz (upd when x v) n+(if x<n then 1 else 0)=Zcz when n
 |0=>by simp[Zcz]
 |n+1=>by
  have ih:=ZfP when x v hx hv n
  show Zcz (upd when x v) n+(if upd when x v n=0 then 1 else 0)+(if x<n+1 then 1 else 0)=Zcz when n+if when n=0 then 1 else 0
  by_cases e:n=x
  ·subst e;have e1:(if n<n+1 then 1 else 0)=1:=if_pos (by omega);have e2:(if n<n then 1 else 0)=0:=if_neg (by omega);rw[ZF,if_neg hv,if_pos hx,e1];rw[e2]at ih;omega
  ·rw[Zax _ _ e]
   have e1:(if x<n+1 then 1 else 0)=if x<n then 1 else 0:=by
    by_cases h:x<n
    ·rw[if_pos h,if_pos (by omega)]
    ·rw[if_neg h,if_neg (by omega)]
   rw[e1];omega
theorem Zlx (n:Nat):Zcz (fun _=>0) n=n:=by
 induction n with
 |zero=>rfl
 |succ n ih=>unfold Zcz;rw[ih];simp
theorem ZcW:∀(l m:Iu),l.Nodup->(∀x∈l,x∈m)->l.length<=m.length
 |[],_,_,_=>Nat.zero_le _
 |x::l,m,hn,hs=>by
  obtain⟨h1,h2⟩:=H3.1 hn;have hx:=hs x (Gv ..);have:=ZcW l (m.erase x) h2 fun y hy=>(List.mem_erase_of_ne (fun e:y=x=>h1 (by rw[<-e];exact hy))).2 (hs y (Gk _ hy))
  rw[List.length_erase_of_mem hx]at this;have:=Gg hx;rw[G1];omega
structure FInv (nx:Nat->List Nat) (N:Nat) (s:TS):Prop where
 inv:TInv nx s
 lt:∀y∈s.wait,y<N
 clk:s.clock+Zcz s.when N=N
section
variable {nx:Nat->Iu} {N:Nat} {s:TS}
theorem FInv.nodup (h:FInv nx N s):s.wait.Nodup:=by
 rw[List.nodup_iff_pairwise_ne];exact h.inv.ord.imp fun hab e=>by rw[e]at hab;exact Nat.lt_irrefl _ hab
theorem FInv.room (h:FInv nx N s) {x:Nat} (hx:s.when x=0) (hN:x<N):s.wait.length<N∧x∉s.wait∧s.clock<N:=by
 have lQ:x∉s.wait:=fun hm=>by have:=h.inv.met x hm;omega
 refine⟨?_,lQ,?_⟩
 ·have:=(H3.2 ⟨lQ,h.nodup⟩)
  have hs:∀y∈x::s.wait,y∈List.range N:=fun y hy=>by
   rw[Ic];rcases Ie.1 hy with rfl|hy
   ·exact hN
   ·exact h.lt y hy
  have h2:=ZcW _ _ this hs;rw[List.length_range,G1]at h2;omega
 ·have:=ZfP s.when x 1 hx (by omega) N;rw[if_pos hN]at this;have:=h.clk;omega
theorem FInv.len (h:FInv nx N s):s.wait.length<=N:=by
 have h2:=ZcW s.wait (List.range N) h.nodup fun y hy=>Ic.2 (h.lt y hy)
 rwa [List.length_range]at h2
theorem Zmi (hc:s.clock+Zcz s.when N=N) {x:Nat} (hx:s.when x=0) (hN:x<N):(s.meet nx x).clock+Zcz (s.meet nx x).when N=N:=by
 have:=ZfP s.when x (s.clock+1) hx (by omega) N;rw[if_pos hN]at this;unfold TS.meet;simp only;omega
theorem FInv.first (h:FInv nx N s) (hw:s.way=[]) {x:Nat} (hx:s.when x=0) (hN:x<N):FInv nx N (s.meet nx x):=
 ⟨h.inv.first hw hx (h.inv.none_waits hw),fun y hy=>by
  rcases Ie.1 hy with rfl|hy
  ·exact hN
  ·exact h.lt y hy,Zmi h.clk hx hN⟩
end
section
variable {nx:Nat->Iu} {N v x p:Nat} {l:Iu} {way:List (Nat×Iu)} {when low out out':Nat->Nat} {wait top rest:Iu} {clock m:Nat}
theorem FInv.push (h:FInv nx N ⟨(v,x::l)::way,when,low,wait,clock,out⟩) (hx:when x=0) (hN:x<N):FInv nx N (TS.meet ⟨(v,l)::way,when,low,wait,clock,out⟩ nx x):=
 ⟨h.inv.push hx,fun y hy=>by
  rcases Ie.1 hy with rfl|hy
  ·exact hN
  ·exact h.lt y hy,Zmi (s:=⟨(v,l)::way,when,low,wait,clock,out⟩) h.clk hx hN⟩
theorem FInv.back (h:FInv nx N ⟨(v,x::l)::way,when,low,wait,clock,out⟩) (hx:x∈wait):FInv nx N ⟨(v,l)::way,when,upd low v (min (low v) (when x)),wait,clock,out⟩:=⟨h.inv.back hx,h.lt,h.clk⟩
theorem FInv.skip (h:FInv nx N ⟨(v,x::l)::way,when,low,wait,clock,out⟩) (hm:1<=when x) (hx:x∉wait):FInv nx N ⟨(v,l)::way,when,low,wait,clock,out⟩:=⟨h.inv.skip hm hx,h.lt,h.clk⟩
theorem FInv.pop (h:FInv nx N ⟨(v,[])::(p,l)::way,when,low,wait,clock,out⟩) (hl:low v≠when v):FInv nx N ⟨(p,l)::way,when,upd low p (min (low p) (low v)),wait,clock,out⟩:=⟨h.inv.pop hl,h.lt,h.clk⟩
theorem FInv.root (h:FInv nx N ⟨(v,[])::way,when,low,top++v::rest,clock,out⟩) (hl:low v=when v) (ho:∀x,out' x=if x∈top++[v] then m else out x) (cd:m∈top++[v]) (bh:∀x∈top++[v],m<=x):FInv nx N ⟨way,when,low,rest,clock,out'⟩:=
 ⟨h.inv.root hl ho cd bh,fun y hy=>h.lt y (Gh _ (Gk _ hy)),h.clk⟩
theorem FInv.split (h:FInv nx N ⟨(v,l)::way,when,low,wait,clock,out⟩):∃top rest,wait=top++v::rest∧v∉top:=by
 obtain⟨top,rest,e⟩:=List.append_of_mem (h.inv.on (v,l) (Gv ..));refine⟨top,rest,e,fun hm=>?_⟩;have hn:=h.nodup;simp only at e hn;rw[e]at hn;exact(List.nodup_append.1 hn).2.2 v hm v (by simp) rfl
end
/- Operations that come up in any order,each a step that makes blocks of its own alone:taken one by one,whatever the order. -/
def Zbt {α:Type _} (l:Array α):List (Nat×Nat)->(Nat->α)->Array α
 |[],_=>l
 |p::F,xs=>Zbt (l.setIfInBounds p.2 (xs p.1)) F xs
def Zcc (a:Act) (F:List (Nat×Nat)) (xs:Nat->Value):Act:={a with tmps:=Zbt a.tmps F xs}
def Zdc:List (Nat×Nat)->List (Nat×Nat)
 |[]=>[]
 |p::F=>(p.1,p.1)::Zdc F
def upx {α:Type _} (f:Nat->α) (i:Nat) (v:α):Nat->α:=fun j=>if j=i then v else f j
theorem Zih {α:Type _}:∀(F:List (Nat×Nat)) (l:Array α) {xs ys:Nat->α},(∀p∈F,xs p.1=ys p.1)->Zbt l F xs=Zbt l F ys
 |[],_,_,_,_=>rfl
 |p::F,l,xs,ys,h=>by
  unfold Zbt;rw[h p (Gv ..)];exact Zih F _ fun q hq=>h q (Gk _ hq)
theorem ZkS {α:Type _}:∀(F:List (Nat×Nat)) (l:Array α) (xs:Nat->α) (d:Nat) (v:α),(∀p∈F,p.2≠d)->(Zbt l F xs).setIfInBounds d v=Zbt (l.setIfInBounds d v) F xs
 |[],_,_,_,_,_=>rfl
 |p::F,l,xs,d,v,h=>by
  unfold Zbt;rw[ZkS F _ xs d v fun q hq=>h q (Gk _ hq),Array.setIfInBounds_comm _ _ (h p (Gv ..))]
theorem Zig {α:Type _}:∀(F:List (Nat×Nat)) (l:Array α) (xs:Nat->α) (p:Nat×Nat) (v:α),p∈F->(F.map (·.1)).Nodup->(F.map (·.2)).Nodup->(Zbt l F xs).setIfInBounds p.2 v=Zbt l F (upx xs p.1 v)
 |[],_,_,_,_,h,_,_=>by cases h
 |q::F,l,xs,p,v,h,h1,h2=>by
  rw[Id,H3]at h1 h2;unfold Zbt
  by_cases e:p=q
  ·subst e;have e1:upx xs p.1 v p.1=v:=if_pos rfl;rw[e1,ZkS F _ xs p.2 v fun r hr e=>h2.1 (by rw[<-e];exact List.mem_map_of_mem hr),Array.setIfInBounds_setIfInBounds];exact Zih F _ fun r hr=>(if_neg fun e:r.1=p.1=>h1.1 (by rw[<-e];exact List.mem_map_of_mem hr)).symm
  ·have hm:p∈F:=(Ie.1 h).resolve_left e;have e1:upx xs p.1 v q.1=xs q.1:=if_neg fun e:q.1=p.1=>h1.1 (by rw[e];exact List.mem_map_of_mem hm)
   rw[e1];exact Zig F _ xs p v hm h1.2 h2.2
theorem Zth {a:Act} {F:List (Nat×Nat)} {xs:Nat->Value} {p:Nat×Nat} (v:Value) (h:p∈F) (h1:(F.map (·.1)).Nodup) (h2:(F.map (·.2)).Nodup):(Zcc a F xs).put (some p.2) v=Zcc a F (upx xs p.1 v):=by
 unfold Zcc;rw[<-Zig F a.tmps xs p v h h1 h2];rfl
theorem Zky:∀{F:List (Nat×Nat)} {p:Nat×Nat},p∈F->(p.1,p.1)∈Zdc F
 |[],_,h=>by cases h
 |q::F,p,h=>by
  unfold Zdc;rcases Ie.1 h with rfl|h
  ·exact Gv ..
  ·exact Gk _ (Zky h)
theorem Ze2:∀F:List (Nat×Nat),(Zdc F).map (·.1)=F.map (·.1)∧(Zdc F).map (·.2)=F.map (·.1)
 |[]=>⟨rfl,rfl⟩
 |p::F=>by unfold Zdc;simp[Ze2 F]
def fl (l:Array Bool) (F:List (Nat×Nat)) (D:Nat->Bool):Array Bool:=Zbt l (Zdc F) D
theorem Zwk {l:Array Bool} {F:List (Nat×Nat)} {D:Nat->Bool} {p:Nat×Nat} (h:p∈F) (h1:(F.map (·.1)).Nodup):(fl l F D).setIfInBounds p.1 true=fl l F (upx D p.1 true):=
 Zig (Zdc F) l D (p.1,p.1) true (Zky h) (by rw[(Ze2 F).1];exact h1) (by rw[(Ze2 F).2];exact h1)
theorem ZkQ:∀(F:List (Nat×Nat)) (l:Array Bool) (D:Nat->Bool) (i:Nat),D i=true->l.getD i true=true->(Zbt l (Zdc F) D).getD i true=true
 |[],_,_,_,_,h=>h
 |p::F,l,D,i,hD,h=>by
  unfold Zdc Zbt;refine ZkQ F _ D i hD ?_;simp only[Array.getD_eq_getD_getElem?]at h ⊢;rw[Array.getElem?_setIfInBounds]
  split
  ·rename_i e
   subst e
   split<;>simp[hD]
  ·exact h
theorem Zod:∀(F:List (Nat×Nat)) (l:Array Bool) (D:Nat->Bool) (p:Nat×Nat),p∈F->D p.1=true->(fl l F D).getD p.1 true=true
 |[],_,_,_,h,_=>by cases h
 |q::F,l,D,p,h,hD=>by
  unfold fl Zdc Zbt
  by_cases e:p.1=q.1
  ·refine ZkQ F _ D p.1 hD ?_;rw[e]at hD ⊢;simp only[Array.getD_eq_getD_getElem?];rw[Array.getElem?_setIfInBounds,if_pos rfl]
   split<;>simp[hD]
  ·exact Zod F _ D p ((Ie.1 h).resolve_left fun e'=>e (by rw[e'])) hD
def pend:List (Nat×Nat)->(Nat->Bool)->Nat
 |[],_=>0
 |p::F,D=>(if D p.1 then 0 else 1)+pend F D
theorem Zkr:∀{F:List (Nat×Nat)} {D:Nat->Bool},pend F D=0->∀p∈F,D p.1=true
 |[],_,_,_,h=>by cases h
 |q::F,D,h,p,hp=>by
  unfold pend at h;rcases Ie.1 hp with rfl|hp
  ·cases e:D p.1
   ·rw[e]at h;simp at h
   ·rfl
  ·exact Zkr (F:=F) (by omega) p hp
theorem Zl1:∀(F:List (Nat×Nat)) {D E:Nat->Bool},(∀p∈F,D p.1=E p.1)->pend F D=pend F E
 |[],_,_,_=>rfl
 |q::F,D,E,h=>by
  unfold pend;rw[h q (Gv ..),Zl1 F fun p hp=>h p (Gk _ hp)]
theorem Zl0:∀{F:List (Nat×Nat)} {D:Nat->Bool} {p:Nat×Nat},p∈F->(F.map (·.1)).Nodup->D p.1=false->pend F (upx D p.1 true)+1=pend F D
 |[],_,_,h,_,_=>by cases h
 |q::F,D,p,h,h1,hD=>by
  rw[Id,H3]at h1;unfold pend
  by_cases e:p.1=q.1
  ·have e1:upx D p.1 true q.1=true:=if_pos e.symm;rw[e1,<-e,hD,Zl1 F (E:=D) fun r hr=>if_neg fun e':r.1=p.1=>h1.1 (by rw[<-e,<-e'];exact List.mem_map_of_mem hr)];simp;omega
  ·have e1:upx D p.1 true q.1=D q.1:=if_neg fun e'=>e e'.symm
   have:=Zl0 (F:=F) (D:=D) ((Ie.1 h).resolve_left fun e'=>e (by rw[e'])) h1.2 hD;rw[e1];omega
theorem Zl2:∀F:List (Nat×Nat),pend F (fun _=>false)=F.length
 |[]=>rfl
 |p::F=>by
  unfold pend;rw[Zl2 F,G1];simp;omega
section
variable {P:Program} {ops:Array Oper} {Q:Exit->Act->World->Prop} {md:Region.Mode}
def ZeS (md:Region.Mode) (ops:Array Oper) (F0:List (Nat×Nat)):List (Nat×Nat)->Array Bool->Bool->Bool
 |[],l,done=>done||(!(Region.ready md ops l).isEmpty&&(Region.ready md ops l).all fun i=>F0.any fun p=>p.1==i)
 |p::F,l,done=>ZeS md ops F0 F (l.setIfInBounds p.1 false) false&&ZeS md ops F0 F (l.setIfInBounds p.1 true) done
theorem Zfv {F0:List (Nat×Nat)}:∀(F:List (Nat×Nat)) (l:Array Bool) (done:Bool),ZeS md ops F0 F l done=true->∀D:Nat->Bool,pend F D≠0∨done=false->
  Region.ready md ops (fl l F D)≠[]∧∀i∈Region.ready md ops (fl l F D),∃p∈F0,p.1=i
 |[],l,done,h,D,hp=>by
  have hd:done=false:=hp.resolve_left fun e=>e rfl
  unfold ZeS at h;rw[hd,Bool.false_or,Hj]at h
  show Region.ready md ops l≠[]∧∀i∈Region.ready md ops l,∃p∈F0,p.1=i
  refine⟨fun e=>by rw[e]at h;simp at h,fun i hi=>?_⟩;have:=Hd.1 h.2 i hi;obtain⟨p,hp,he⟩:=Ha.1 this;exact⟨p,hp,by simpa using he⟩
 |q::F,l,done,h,D,hp=>by
  unfold ZeS at h;rw[Hj]at h;unfold pend at hp
  show Region.ready md ops (fl (l.setIfInBounds q.1 (D q.1)) F D)≠[]∧∀i∈Region.ready md ops (fl (l.setIfInBounds q.1 (D q.1)) F D),∃p∈F0,p.1=i
  cases e:D q.1
  ·exact Zfv F _ _ h.1 D (Or.inr rfl)
  ·refine Zfv F _ _ h.2 D ?_;rw[e]at hp
   simpa using hp
def FAll (Pr:Nat×Nat->Prop):List (Nat×Nat)->Prop
 |[]=>True
 |p::F=>Pr p∧FAll Pr F
theorem FAll.at_ {Pr:Nat×Nat->Prop}:∀{F:List (Nat×Nat)},FAll Pr F->∀p∈F,Pr p
 |[],_,_,h=>by cases h
 |q::F,h,p,hp=>by
  rcases Ie.1 hp with rfl|hp
  ·exact h.1
  ·exact FAll.at_ h.2 p hp
def Zm7 (P:Program) (ops:Array Oper) (Q:Exit->Act->World->Prop) (w0:World) (a0:Act) (F:List (Nat×Nat)) (R:Nat->Value->(Iw)->World->Prop) (p:Nat×Nat):Prop:=
 ∀(xs:Nat->Value) (w:World),Upd No w0 w->∀K:Act->World->Prop,Shut (∀v FF w',Upd No w w'->(∀k,FF k->w.heap.size<=k∧k<w'.heap.size)->R p.1 v FF w'->K ((Zcc a0 F xs).put (some p.2) v) w')->
  ∃o,nth ops.toList p.1=some o∧if Region.wanted o (yielded ops (Zcc a0 F xs).tmps)=true then Oper.wp P o (Zcc a0 F xs) w K Q else K ((Zcc a0 F xs).put o.dst undef) w
theorem Zob {w0:World} (F:List (Nat×Nat)) (R:Nat->Value->(Iw)->World->Prop) {l0:Array Bool} {a0:Act} {f:Nat}
  (hN1:(F.map (·.1)).Nodup) (t7:(F.map (·.2)).Nodup) (aC:ZeS md ops F F l0 true=true)
  (tb:∀i v FF w w',R i v FF w->Upd No w w'->R i v FF w')
  (oe:∀p∈F,Zm7 P ops Q w0 a0 F R p)
  (cV:∀(xs:Nat->Value) (FF:Nat->Iw) (w:World),Upd No w0 w->(∀p∈F,R p.1 (xs p.1) (FF p.1) w∧∀k,FF p.1 k->w0.heap.size<=k∧k<w.heap.size)->(∀p∈F,∀q∈F,p.1≠q.1->∀k,FF p.1 k->FF q.1 k->False)->
   wpAnyH P md ops Q (fun W=>Upd No w0 W) f (fl l0 F fun _=>true) (Zcc a0 F xs) w):
  ∀(n:Nat) (D:Nat->Bool) (xs:Nat->Value) (FF:Nat->Iw) (w:World),pend F D=n->Upd No w0 w->
   (∀p∈F,D p.1=true->R p.1 (xs p.1) (FF p.1) w∧∀k,FF p.1 k->w0.heap.size<=k∧k<w.heap.size)->
   (∀p∈F,∀q∈F,D p.1=true->D q.1=true->p.1≠q.1->∀k,FF p.1 k->FF q.1 k->False)->
   wpAnyH P md ops Q (fun W=>Upd No w0 W) (f+n) (fl l0 F D) (Zcc a0 F xs) w
 |0,D,xs,FF,w,hp,hU,h1,h2=>by
  have hd:=Zkr hp
  have e:fl l0 F D=fl l0 F fun _=>true:=by
   refine Zih _ _ fun p hp=>?_
   have:p.1∈F.map (·.1):=by rw[<-(Ze2 F).1];exact List.mem_map_of_mem hp
   obtain⟨q,hq,e⟩:=Ih.1 this;rw[<-e];exact hd q hq
  rw[e];exact cV xs FF w hU (fun p hp=>h1 p hp (hd p hp)) (fun p hp q hq=>h2 p hp q hq (hd p hp) (hd q hq))
 |n+1,D,xs,FF,w,hp,hU,h1,h2=>by
  have hs:=Zfv F l0 true aC D (Or.inl (by omega));refine⟨fun e=>absurd e hs.1,fun i hi=>?_⟩;obtain⟨p,rg,rfl⟩:=hs.2 i hi
  have EW:D p.1=false:=by
   cases e:D p.1
   ·rfl
   ·have:=Zod F l0 D p rg e;rw[(mem_ready.1 hi).1]at this
    cases this
  have ET:Shut (∀v (FF':Iw) w',Upd No w w'->(∀k,FF' k->w.heap.size<=k∧k<w'.heap.size)->R p.1 v FF' w'->
    (fun a' w'=>Upd No w0 w'∧wpAnyH P md ops Q (fun W=>Upd No w0 W) (f+n) ((fl l0 F D).setIfInBounds p.1 true) a' w') ((Zcc a0 F xs).put (some p.2) v) w'):=by
   intro v FF' w' hu hF hR;refine⟨hU.trans hu,?_⟩;rw[Zwk rg hN1,Zth v rg hN1 t7];have tW:w.heap.size<=w'.heap.size:=hu.size;have mZ:w0.heap.size<=w.heap.size:=hU.size;refine Zob F R hN1 t7 aC tb oe cV n _ _ (upx FF p.1 FF') w' ?_ (hU.trans hu) ?_ ?_
   ·have:=Zl0 rg hN1 EW;omega
   ·intro q hq hD;unfold upx at hD ⊢
    by_cases e:q.1=p.1
    ·rw[if_pos e,if_pos e,e];exact⟨hR,fun k hk=>by have:=hF k hk;omega⟩
    ·rw[if_neg e]at hD;rw[if_neg e,if_neg e];have:=h1 q hq hD;exact⟨tb _ _ _ _ _ this.1 hu,fun k hk=>by have:=this.2 k hk;omega⟩
   ·intro q hq r hr tf rl hne k hk1 hk2;unfold upx at tf rl hk1 hk2
    by_cases e:q.1=p.1
    ·rw[if_pos e]at hk1
     by_cases e':r.1=p.1
     ·exact hne (e.trans e'.symm)
     ·rw[if_neg e']at rl hk2;have:=(h1 r hr rl).2 k hk2;have:=hF k hk1;omega
    ·rw[if_neg e]at tf hk1
     by_cases e':r.1=p.1
     ·rw[if_pos e']at hk2;have:=(h1 q hq tf).2 k hk1;have:=hF k hk2;omega
     ·rw[if_neg e']at rl hk2;exact h2 q hq r hr tf rl hne k hk1 hk2
  ·obtain⟨o,ho,hw⟩:=oe p rg xs w hU (fun a' w'=>Upd No w0 w'∧wpAnyH P md ops Q (fun W=>Upd No w0 W) (f+n) ((fl l0 F D).setIfInBounds p.1 true) a' w') ET;refine wpOp_step (ZiU ho) fun K' hK=>?_
   split
   ·rename_i hwd
    rw[if_pos hwd]at hw;exact Oper.wp_mono hK hw
   ·rename_i hwd
    rw[if_neg hwd]at hw;exact hK _ _ hw
theorem ZkR {α:Type _}:∀(F:List (Nat×Nat)) (l:Array α) (xs:Nat->α),(∀p∈F,∀v,l[p.2]? =some v->xs p.1=v)->Zbt l F xs=l
 |[],_,_,_=>rfl
 |p::F,l,xs,h=>by
  unfold Zbt
  have e:l.setIfInBounds p.2 (xs p.1)=l:=by
   apply Array.ext_getElem?
   intro i;rw[Array.getElem?_setIfInBounds]
   split
   ·rename_i e
    subst e
    split
    ·rename_i hl
     rw[h p (Gv ..) _ (Array.getElem?_eq_getElem hl),Array.getElem?_eq_getElem hl]
    ·rename_i hl
     rw[Array.getElem?_eq_none (by omega)]
   ·rfl
  rw[e];exact ZkR F l xs fun q hq=>h q (Gk _ hq)
def lk:List (Nat×Nat)->Array Value->Nat->Value
 |[],_,_=>undef
 |p::F,l,i=>if i=p.1 then l[p.2]?.getD undef else lk F l i
theorem Zt6:∀{F:List (Nat×Nat)} (l:Array Value) {p:Nat×Nat},p∈F->(F.map (·.1)).Nodup->lk F l p.1=l[p.2]?.getD undef
 |[],_,_,h,_=>by cases h
 |q::F,l,p,h,hn=>by
  rw[Id,H3]at hn;unfold lk;rcases Ie.1 h with rfl|h
  ·exact if_pos rfl
  ·rw[if_neg fun e:p.1=q.1=>hn.1 (by rw[<-e];exact List.mem_map_of_mem h)];exact Zt6 l h hn.2
theorem Zrh (a:Act) {F:List (Nat×Nat)} (hn:(F.map (·.1)).Nodup):Zcc a F (lk F a.tmps)=a:=by
 unfold Zcc;rw[ZkR F a.tmps _ fun p hp v hv=>by rw[Zt6 _ hp hn,hv];rfl]
theorem Zm9 {w0:World} (F:List (Nat×Nat)) (R:Nat->Value->(Iw)->World->Prop) {l0:Array Bool} {a0:Act} {f n:Nat} {w:World}
  (aC:ZeS md ops F F l0 true=true) (oe:FAll (Zm7 P ops Q w0 a0 F R) F)
  (tb:∀i v FF w w',R i v FF w->Upd No w w'->R i v FF w')
  (cV:∀(xs:Nat->Value) (FF:Nat->Iw) (w:World),Upd No w0 w->(∀p∈F,R p.1 (xs p.1) (FF p.1) w∧∀k,FF p.1 k->w0.heap.size<=k∧k<w.heap.size)->(∀p∈F,∀q∈F,p.1≠q.1->∀k,FF p.1 k->FF q.1 k->False)->
   wpAnyH P md ops Q (fun W=>Upd No w0 W) f (fl l0 F fun _=>true) (Zcc a0 F xs) w)
  (hn:n=f+F.length) (hl:fl l0 F (fun _=>false)=l0) (hU:Upd No w0 w)
  (hN1:(F.map (·.1)).Nodup:=by decide) (t7:(F.map (·.2)).Nodup:=by decide):
  wpAnyH P md ops Q (fun W=>Upd No w0 W) n l0 a0 w:=by
 subst hn;have h:=Zob F R hN1 t7 aC tb (fun p hp=>oe.at_ p hp) cV F.length (fun _=>false) (lk F a0.tmps) (fun _ _=>False) w (Zl2 F) hU (fun _ _ h=>by cases h) (fun _ _ _ _ h=>by cases h);rw[Zrh a0 hN1,hl]at h;exact h
end
def fstF:List Bool->Nat|[]=>0|false::_=>0|true::l=>fstF l+1
theorem fF0(l:List Bool):fstF (false::l)=0:=rfl
theorem fF1(l:List Bool):fstF (true::l)=fstF l+1:=rfl
theorem fFT(l:List Bool):l.toArray.toList=l:=rfl
theorem wpF{P:Program}{ops:Array Oper}{Q:Exit->Act->World->Prop}{md:Region.Mode}{S:World->Prop}{fuel:Nat}{listed:Array Bool}{a:Act}{w:World}{o:Oper}{L:Array Bool}{b:Act}{v:Value}{i:Nat}(h:wpAnyH P md ops Q S fuel L b w)(hI:fstF listed.toList=i:=by ((try simp only [fFT,fF0,fF1,Nat.reduceAdd]);rfl))(hi:nth ops.toList i=some o:=by rfl)(hy:YieldsIf P ops S o v a:=by first | (refine .inr ⟨by rfl,?_⟩;rfl) | (refine .inl ⟨by rfl,?_⟩;intro W wL;(try dsimp only at wL);go_simp;try (with_reducible rfl)))(hl:listed.setIfInBounds i true=L:=by ((try simp only [sT,sS,sZ]);rfl))(ha:a.put o.dst v=b:=by ((try simp only [Act.put,sT,sS,sZ]);rfl))(hs:Region.noSelect ops=true:=by kernel_rfl)(hf:Region.free md ops listed i=true:=by kernel_rfl)(hr:(Region.ready md ops listed).contains i=true:=by kernel_rfl)(hQ:∀c a w,Q (.panic c) (a.put o.dst v) w->Q (.panic c) a w:=by exact fun _ _ _ h=>h)(hS:S w:=by assumption):wpAnyH P md ops Q S (fuel+1) listed a w:=wpAnyH_take (ZiU hi) hs hf hr hQ hy hS (by rw [hl,ha];exact h)
theorem wpZ{P:Program}{ops:Array Oper}{Q:Exit->Act->World->Prop}{md:Region.Mode}{S:World->Prop}{fuel:Nat}{listed:Array Bool}{a:Act}{w:World}{o:Oper}(i:Nat)(hi:nth ops.toList i=some o)(h:∀K':Act->World->Prop,Shut (∀a w,S w->(S w->wpAnyH P md ops Q S fuel (listed.setIfInBounds i true) a w)->K' a w)->if Region.wanted o (yielded ops a.tmps)=true then Oper.wp P o a w K' Q else K' (a.put o.dst undef) w)(hr:Region.ready md ops listed=[i]:=by kernel_rfl):wpAnyH P md ops Q S (fuel+1) listed a w:=wpR [i] (wpC hi h .nil) hr
theorem Qa:(∀(a:Act)(d:Tmp)(v:Value),a.put (some d) v={a with tmps:=a.tmps.setIfInBounds d v})∧(∀(a:Act)(v:Value),a.put none v=a)∧(∀(l:List Value)(i:Nat)(v:Value),l.toArray.setIfInBounds i v=(l.set i v).toArray)∧(∀(l:List Bool)(i:Nat)(v:Bool),l.toArray.setIfInBounds i v=(l.set i v).toArray)∧(∀(a:Value)(l:List Value)(n:Nat)(v:Value),(a::l).set (n+1) v=a::l.set n v)∧(∀(a:Bool)(l:List Bool)(n:Nat)(v:Bool),(a::l).set (n+1) v=a::l.set n v)∧(∀(a:Value)(l:List Value)(v:Value),(a::l).set 0 v=v::l)∧(∀(a:Bool)(l:List Bool)(v:Bool),(a::l).set 0 v=v::l):=⟨fun _ _ _=>rfl,fun _ _=>rfl,sT,sT,sS,sS,sZ,sZ⟩
theorem Qo{F:Iw}:∀i,F i->¬No i:=fun _ _=>id
abbrev OA:=Option Addr
theorem wpS{P:Program}{ops:Array Oper}{Q:Exit->Act->World->Prop}(S:World->Prop){id:Nat}{a:Act}{w:World}(hS:S w.drew)(h:S w.drew->wpAnyH P .any ops (NoPanic Q) S ops.size (Array.replicate ops.size false) a w.drew)(hm:P.follows .mixedOrders=true:=by kernel_rfl):(Code.region id ops true).wp P Q a w:=wp_region_noPanic (wp_region_held_drew (S:=S) hm hS h)
theorem Ck{P:Program}{f:FuncId}{a:Array Value}{w:World}{v:Value}{Q:World->Prop}{R:Ending->World->Prop}(h:Calls P f a w fun e w'=>e= .returned v∧Q w')(k:∀w',Q w'->R (.returned v) w'):Calls P f a w R:=h.mono fun _ _ h=>h.1▸k _ h.2
abbrev Qi(n:Int):Value:=.int .i64 n
theorem Qf{p:Prop}[Decidable p](h:¬p):decide p=false:=decide_eq_false h
theorem Qt{p:Prop}[Decidable p](h:p):decide p=true:=decide_eq_true h
theorem Qe{α:Sort _}(a:α):∃v,a=v:=⟨a,rfl⟩
abbrev CN(f:FuncId)(a:Array Value)(w:World)(v:Value):Prop:=Calls Tryz.prog f a w fun e w'=>e= .returned v∧Upd No w w'
abbrev CE(f:FuncId)(a:Array Value)(w:World)(v:Value):Prop:=Calls Tryz.prog f a w fun e w'=>e= .returned v∧w=w'
theorem Blk.ew{w b:World}{g:Nat}{t:TypeId}{l:List Value}(h:Blk w g t l)(e:Upd No w b)(i:Nat){v:Value}(k:l[i]?=some v):∀W,Upd No b W->W.cell? ⟨g,i,none⟩=some v:=fun _ u=>((h.upd (e.trans u) id).cell i).trans k
theorem Blk.ev{b:World}{g:Nat}{t:TypeId}{l:List Value}(h:Blk b g t l)(i:Nat){v:Value}(k:l[i]?=some v):∀W,Upd No b W->W.cell? ⟨g,i,none⟩=some v:=fun _ u=>((h.upd u id).cell i).trans k
theorem Blk.c2{w:World}{g:Nat}{t:TypeId}{a0 a1:Value}{r:List Value}(h:Blk w g t (a0::a1::r)):w.cell? ⟨g,0,none⟩=some a0∧w.cell? ⟨g,1,none⟩=some a1:=⟨h.cell 0,h.cell 1⟩
theorem Blk.f2{w:World}{g:Nat}{t:TypeId}{l:List Value}(h:Blk w g t l):w.frozen? ⟨g,0,none⟩=false∧w.frozen? ⟨g,1,none⟩=false:=⟨h.free 0,h.free 1⟩
theorem Blk.c3{w:World}{g:Nat}{t:TypeId}{a0 a1 a2:Value}{r:List Value}(h:Blk w g t (a0::a1::a2::r)):w.cell? ⟨g,0,none⟩=some a0∧w.cell? ⟨g,1,none⟩=some a1∧w.cell? ⟨g,2,none⟩=some a2:=⟨h.cell 0,h.cell 1,h.cell 2⟩
theorem Blk.f3{w:World}{g:Nat}{t:TypeId}{l:List Value}(h:Blk w g t l):w.frozen? ⟨g,0,none⟩=false∧w.frozen? ⟨g,1,none⟩=false∧w.frozen? ⟨g,2,none⟩=false:=⟨h.free 0,h.free 1,h.free 2⟩
theorem Blk.c4{w:World}{g:Nat}{t:TypeId}{a0 a1 a2 a3:Value}{r:List Value}(h:Blk w g t (a0::a1::a2::a3::r)):w.cell? ⟨g,0,none⟩=some a0∧w.cell? ⟨g,1,none⟩=some a1∧w.cell? ⟨g,2,none⟩=some a2∧w.cell? ⟨g,3,none⟩=some a3:=⟨h.cell 0,h.cell 1,h.cell 2,h.cell 3⟩
theorem Blk.f4{w:World}{g:Nat}{t:TypeId}{l:List Value}(h:Blk w g t l):w.frozen? ⟨g,0,none⟩=false∧w.frozen? ⟨g,1,none⟩=false∧w.frozen? ⟨g,2,none⟩=false∧w.frozen? ⟨g,3,none⟩=false:=⟨h.free 0,h.free 1,h.free 2,h.free 3⟩
theorem Blk.c5{w:World}{g:Nat}{t:TypeId}{a0 a1 a2 a3 a4:Value}{r:List Value}(h:Blk w g t (a0::a1::a2::a3::a4::r)):w.cell? ⟨g,0,none⟩=some a0∧w.cell? ⟨g,1,none⟩=some a1∧w.cell? ⟨g,2,none⟩=some a2∧w.cell? ⟨g,3,none⟩=some a3∧w.cell? ⟨g,4,none⟩=some a4:=⟨h.cell 0,h.cell 1,h.cell 2,h.cell 3,h.cell 4⟩
theorem Blk.f5{w:World}{g:Nat}{t:TypeId}{l:List Value}(h:Blk w g t l):w.frozen? ⟨g,0,none⟩=false∧w.frozen? ⟨g,1,none⟩=false∧w.frozen? ⟨g,2,none⟩=false∧w.frozen? ⟨g,3,none⟩=false∧w.frozen? ⟨g,4,none⟩=false:=⟨h.free 0,h.free 1,h.free 2,h.free 3,h.free 4⟩
theorem Blk.c7{w:World}{g:Nat}{t:TypeId}{a0 a1 a2 a3 a4 a5 a6:Value}{r:List Value}(h:Blk w g t (a0::a1::a2::a3::a4::a5::a6::r)):w.cell? ⟨g,0,none⟩=some a0∧w.cell? ⟨g,1,none⟩=some a1∧w.cell? ⟨g,2,none⟩=some a2∧w.cell? ⟨g,3,none⟩=some a3∧w.cell? ⟨g,4,none⟩=some a4∧w.cell? ⟨g,5,none⟩=some a5∧w.cell? ⟨g,6,none⟩=some a6:=⟨h.cell 0,h.cell 1,h.cell 2,h.cell 3,h.cell 4,h.cell 5,h.cell 6⟩
abbrev Io:=Array Value
abbrev Ip:=List Value
abbrev Ix:=Program
abbrev Iy:=TypeId
abbrev Iz:=Value
abbrev I0:=World
abbrev Ii:=@NoPanic.normal
abbrev Ij:=@World.size_alloc
abbrev Ik:=@World.ownsRow_nil
abbrev Il:=@Upd.refl
abbrev Im:=@Blk.new
