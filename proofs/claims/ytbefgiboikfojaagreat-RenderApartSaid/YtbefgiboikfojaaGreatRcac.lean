/- Words for memory that the walks of this seat share: what a call may have turned, blocks that are known whole, slices that read as lists. -/
import Derived.Test.YtbefgiboikfojaaGreatRczz
import Derived.Test.YtbefgiboikfojaaGreatProg
import Derived.Handy
import Derived.WalkSpells
import Derived.WalkLawsBesides
import Derived.Lib.Hide
import Derived.BigQuiet
import Derived.Deep.RegionHeld3
import Derived.Deep.DeepCutAuto
import Derived.Laws.CopyOwn
import Derived.Deep.AppendLies
namespace Go.Proofs.YtbefgiboikfojaaGreat
open Go.RowKit
set_option linter.unusedVariables false
set_option linter.unusedSimpArgs false
theorem Qh{p:Prop}(h:p):Go.RowKit.Hid p:=Lib.hid h
theorem Qz{α:Type _}{a:α}{l:List α}:(a::l)[0]?=some a:=List.getElem?_cons_zero
theorem Qs{α:Type _}{a:α}{l:List α}{n:Nat}:(a::l)[n+1]?=l[n]?:=List.getElem?_cons_succ
theorem Qg{α:Type _}{l:List α}{i:Nat}(h:i<l.length):l[i]?=some l[i]:=List.getElem?_eq_getElem h
theorem Qn(n:Nat):(0:Int)<=(n:Int):=Int.natCast_nonneg n
def nth:List Oper->Nat->Option Oper
 |[],_=>none
 |o::_,0=>some o
 |_::l,n+1=>nth l n
theorem ZpK:∀(l:List Oper) (n:Nat),nth l n=l[n]?
 |[],_=>rfl
 |_::_,0=>rfl
 |_::l,n+1=>by unfold nth;rw[ZpK l n];simp
theorem ZlP {ops:Array Oper} {i:Nat} {o:Oper} (h:nth ops.toList i=some o):ops[i]? =some o:=by rw[<-h,ZpK];simp
theorem sT {α:Type _} (l:List α) (i:Nat) (v:α):l.toArray.setIfInBounds i v=(l.set i v).toArray:=List.setIfInBounds_toArray ..
theorem sS {α:Type _} (a:α) (l:List α) (n:Nat) (v:α):(a::l).set (n+1) v=a::l.set n v:=rfl
theorem sZ {α:Type _} (a:α) (l:List α) (v:α):(a::l).set 0 v=v::l:=rfl
section
variable {P:Program} {ops:Array Oper} {Q:Exit->Act->World->Prop} {md:Region.Mode} {S:World->Prop} {fuel:Nat} {listed:Array Bool} {a:Act} {w:World} {o:Oper} {L:Array Bool} {b:Act}
theorem wpK {v:Value} (i:Nat) (hi:nth ops.toList i=some o) (h:wpAnyH P md ops Q S fuel L b w)
  (hy:YieldsIf P ops S o v a:=by(refine .inl ⟨by rfl,?_⟩;intro W tg;(try dsimp only at tg);go_simp;try (with_reducible rfl)))
  (hl:listed.setIfInBounds i true=L:=by((try simp only[sT,sS,sZ]);rfl)) (ha:a.put o.dst v=b:=by((try simp only[Act.put,sT,sS,sZ]);rfl))
  (hs:Region.noSelect ops=true:=by kernel_rfl) (hf:Region.free md ops listed i=true:=by kernel_rfl) (hr:(Region.ready md ops listed).contains i=true:=by kernel_rfl)
  (hQ:∀c a w,Q (.panic c) (a.put o.dst v) w->Q (.panic c) a w:=by exact fun _ _ _ h=>h) (hS:S w:=by assumption):wpAnyH P md ops Q S (fuel+1) listed a w:=wpAnyH_take (ZlP hi) hs hf hr hQ hy hS (by rw[hl,ha];exact h)
theorem wpN (i:Nat) (hi:nth ops.toList i=some o) (h:wpAnyH P md ops Q S fuel L b w) (hy:Region.wanted o (yielded ops a.tmps)=false:=by rfl)
  (hl:listed.setIfInBounds i true=L:=by((try simp only[sT,sS,sZ]);rfl)) (ha:a.put o.dst undef=b:=by((try simp only[Act.put,sT,sS,sZ]);rfl))
  (hs:Region.noSelect ops=true:=by kernel_rfl) (hf:Region.free md ops listed i=true:=by kernel_rfl) (hr:(Region.ready md ops listed).contains i=true:=by kernel_rfl)
  (hQ:∀c a w,Q (.panic c) (a.put o.dst undef) w->Q (.panic c) a w:=by exact fun _ _ _ h=>h) (hS:S w:=by assumption):wpAnyH P md ops Q S (fuel+1) listed a w:=wpAnyH_take (ZlP hi) hs hf hr hQ (.inr ⟨hy,rfl⟩) hS (by rw[hl,ha];exact h)
theorem wpR (rs:Gr) (h:AllReadyH P md ops Q S fuel listed a w rs) (hr:Region.ready md ops listed=rs:=by kernel_rfl) (hn:rs≠[]:=by simp):wpAnyH P md ops Q S (fuel+1) listed a w:=wpAnyH_ready hr hn h
theorem wpC {i:Nat} {rs:Gr} (hi:nth ops.toList i=some o)
  (h:∀K':Act->World->Prop,Shut (∀a w,S w->(S w->wpAnyH P md ops Q S fuel (listed.setIfInBounds i true) a w)->K' a w)->if Region.wanted o (yielded ops a.tmps)=true then Oper.wp P o a w K' Q else K' (a.put o.dst undef) w)
  (hs:AllReadyH P md ops Q S fuel listed a w rs):AllReadyH P md ops Q S fuel listed a w (i::rs):= .cons (ZlP hi) h hs
theorem wpD (h:Q .normal a w) (hr:Region.ready md ops listed=[]:=by kernel_rfl):wpAnyH P md ops Q S fuel listed a w:=wpAnyH_done hr h _
end
structure Upd (S:Nat->Prop) (w w':World):Prop where
 os:w'.os=w.os
 tape:w'.tape=w.tape
 output:w'.output=w.output
 size:w.heap.size<=w'.heap.size
 block:∀k,k<w.heap.size->¬S k->w'.heap[k]? =w.heap[k]?
namespace Upd
variable {S T:Gt} {a w w':World}
theorem refl (S:Gt) (w:World):Upd S w w:=⟨rfl,rfl,rfl,Nat.le_refl _,fun _ _ _=>rfl⟩
theorem trans_ (h:Upd S a w) (k:Upd T w w') (hT:∀i,i<a.heap.size->T i->S i):Upd S a w':=
 ⟨k.os.trans h.os,k.tape.trans h.tape,k.output.trans h.output,Nat.le_trans h.size k.size,
  fun i hi hn=>(k.block i (Fe hi h.size) (fun t=>hn (hT i hi t))).trans (h.block i hi hn)⟩
theorem trans (h:Upd S a w) (k:Upd S w w'):Upd S a w':=h.trans_ k fun _ _ t=>t
theorem mono (h:Upd S a w) (hT:∀i,i<a.heap.size->S i->T i):Upd T a w:=(refl T a).trans_ h hT
theorem drew (h:Upd S a w):Upd S a w.drew:=⟨h.os,h.tape,h.output,h.size,h.block⟩
theorem drewN (h:Upd S a w) (n:Nat):Upd S a (w.drewN n):=⟨h.os,h.tape,h.output,h.size,h.block⟩
theorem alloc (h:Upd S a w) (o:Obj):Upd S a (w.alloc o):=
 h.trans ⟨rfl,rfl,rfl,by simp,fun k hk _=>Below.heap_alloc w o k hk⟩
theorem setCell (h:Upd S a w) {p:Addr} (hp:S p.block∨a.heap.size<=p.block) (v:Value):Upd S a (w.setCell p v):=
 ⟨h.os,h.tape,h.output,by simpa[World.setCell]using h.size,fun k hk hn=>(Below.heap_setCell w p v k (by
  rintro rfl;rcases hp with hp|hp
  ·exact hn hp
  ·omega)).trans (h.block k hk hn)⟩
theorem grown (h:Upd S a w) {row:Option Nat} (hg:w.grownBy w' row) (hr:∀k,row=some k->S k∨a.heap.size<=k):Upd S a w':=
 h.trans_ (T:=fun i=>some i=row) ⟨hg.os,hg.tape,hg.output,hg.size,fun k hk hn=>hg.block k hk hn⟩ fun i hi e=>by
  rcases hr i e.symm with h|h
  ·exact h
  ·omega
theorem below {B:Nat} (h:Upd S a w) (hB:B<=a.heap.size) (hS:∀i,S i->B<=i):Below B a w:=
 ⟨h.os,h.tape,h.output,h.size,fun k hk=>h.block k (by omega) (fun s=>by have:=hS k s;omega)⟩
theorem of_below (h:Below a.heap.size a w):Upd S a w:=⟨h.os,h.tape,h.output,h.size,fun k hk _=>h.block k hk⟩
theorem cell (h:Upd S a w) {p:Addr} (hp:p.block<a.heap.size) (hn:¬S p.block):w.cell? p=a.cell? p:=World.cell?_of_block (h.block _ hp hn)
theorem of_drewN {n:Nat} (h:Upd S (a.drewN n) w):Upd S a w:=⟨h.os,h.tape,h.output,h.size,h.block⟩
theorem of_drew (h:Upd S a.drew w):Upd S a w:=⟨h.os,h.tape,h.output,h.size,h.block⟩
theorem keep (h:Upd S a w) {p:Addr} {v:Value} (hc:a.cell? p=some v) (hn:¬S p.block):w.cell? p=some v:=(h.cell (block_lt_of_cell hc) hn).trans hc
end Upd
def No:Nat->Prop:=fun _=>False
def One (g:Nat):Nat->Prop:=fun i=>i=g
theorem Upd.setOne {g:Nat} {a w:World} (h:Upd (One g) a w) (i:Nat) (v:Value):Upd (One g) a (w.setCell ⟨g,i,none⟩ v):=h.setCell (p:=⟨g,i,none⟩) (.inl rfl) v
theorem Upd.keepNo {a w:World} (h:Upd No a w) {p:Addr} {v:Value} (hc:a.cell? p=some v):w.cell? p=some v:=h.keep hc id
def Blk (w:World) (g:Nat) (t:TypeId) (cs:List Value):Prop:=w.heap[g]? =some (.cells cs.toArray t (0,0))
namespace Blk
variable {w w':World} {g:Nat} {t:TypeId} {cs:List Value} {S:Gt}
theorem lt (h:Blk w g t cs):g<w.heap.size:=(Array.getElem?_eq_some_iff.1 h).1
theorem cell (h:Blk w g t cs) (i:Nat):w.cell? ⟨g,i,none⟩=cs[i]? :=by
 rw[cell_of_row w g i _ t (0,0) h,List.getElem?_toArray]
theorem free (h:Blk w g t cs) (i:Nat):w.frozen? ⟨g,i,none⟩=false:=frozen_of_row w g i _ t h
theorem new (w:World) (t:TypeId) (cs:List Value):Blk (w.alloc (.cells cs.toArray t)) w.heap.size t cs:=heap_alloc_new w _
theorem new_at {n:Nat} {arr:Array Value} (h:n=w.heap.size):Blk (w.alloc (.cells arr t)) n t arr.toList:=by
 subst h;unfold Blk;rw[heap_alloc_new]
theorem upd (h:Blk w g t cs) (k:Upd S w w') (hn:¬S g):Blk w' g t cs:=(k.block g h.lt hn).trans h
theorem set_ (h:Blk w g t cs) (i:Nat) (v:Value):Blk (w.setCell ⟨g,i,none⟩ v) g t (cs.set i v):=by
 unfold Blk at h ⊢;rw[heap_setCell_same w g i _ t v h];simp
theorem far (h:Blk w g t cs) {p:Addr} (hp:g≠p.block) (v:Value):Blk (w.setCell p v) g t cs:=(Below.heap_setCell w p v g hp).trans h
theorem alloc (h:Blk w g t cs) (o:Obj):Blk (w.alloc o) g t cs:=(Below.heap_alloc w o g h.lt).trans h
theorem drew (h:Blk w g t cs):Blk w.drew g t cs:=h
theorem drewN (h:Blk w g t cs) (n:Nat):Blk (w.drewN n) g t cs:=h
end Blk
def Ints (F:Gt) (w:World) (A:Option Addr) (xs:Gv):Prop:=
 xs≠[]->∃ad,A=some ad∧F ad.block∧ad.block<w.heap.size∧∀j v,xs[j]? =some v->w.cell? (ad.add j)=some (.int .i64 v)
namespace Ints
variable {F S:Gt} {w w':World} {A:Option Addr} {xs:Gv}
theorem block_add (a:Addr) (n:Nat):(a.add n).block=a.block:=by unfold Addr.add;split<;>rfl
theorem nil_:Ints F w A []:=fun h=>absurd rfl h
theorem at_ (h:Ints F w A xs) {k:Nat} (hk:k<xs.length):∃ad,A=some ad∧F ad.block∧ad.block<w.heap.size∧w.cell? (ad.add k)=some (.int .i64 xs[k]):=by
 obtain⟨ad,e,hf,hl,hc⟩:=h (by intro e;subst e;simp at hk);exact⟨ad,e,hf,hl,hc k _ (Qg hk)⟩
theorem upd (h:Ints F w A xs) (k:Upd S w w') (hn:∀i,F i->¬S i):Ints F w' A xs:=fun hne=>by
 obtain⟨ad,e,hf,hl,hc⟩:=h hne;exact⟨ad,e,hf,Fe hl k.size,fun j v hj=>(k.cell (by rw[block_add];exact hl) (by rw[block_add];exact hn _ hf)).trans (hc j v hj)⟩
theorem take (h:Ints F w A xs) {i:Nat}:Ints F w A (xs.take i):=fun hne=>by
 obtain⟨ad,e,hf,hl,hc⟩:=h (by intro e;subst e;simp at hne);refine⟨ad,e,hf,hl,fun j v hj=>hc j v ?_⟩;rw[List.getElem?_take]at hj
 split at hj
 ·exact hj
 ·cases hj
theorem add_add (a:Addr) (i j:Nat):(a.add i).add j=a.add (i+j):=by
 unfold Addr.add
 by_cases hi:i=0<;>by_cases hj:j=0<;>simp[hi,hj,Nat.add_assoc]
theorem cut_ (h:Ints F w A xs) {i c:Nat} (hc:xs.length<=c):Ints F w (if c=i then A else A.map (·.add i)) (xs.drop i):=fun hne=>by
 have hi:i<xs.length:=by
  rcases Nat.lt_or_ge i xs.length with h|h
  ·exact h
  ·exact absurd (List.drop_of_length_le h) hne
 obtain⟨ad,rfl,hf,hl,vd⟩:=h (by intro e;subst e;simp at hi);rw[if_neg (by omega)];refine⟨ad.add i,rfl,by rw[block_add];exact hf,by rw[block_add];exact hl,fun j v hj=>?_⟩;rw[add_add];exact vd _ v (by rw[<-hj,List.getElem?_drop])
theorem vals (h:Ints F w A xs):xs.map (Value.int .i64)≠[]->∃ad,A=some ad∧∀(j:Nat) v,(xs.map (Value.int .i64))[j]? =some v->w.cell? (ad.add j)=some v:=fun hne=>by
 obtain⟨ad,e,_,_,hc⟩:=h (by intro e;subst e;simp at hne);refine⟨ad,e,fun j v hj=>?_⟩;rw[List.getElem?_map,Option.map_eq_some_iff]at hj;obtain⟨n,hn,rfl⟩:=hj;exact hc j n hn
theorem one_ (l:Gv):∀v∈l.map (Value.int .i64),v.oneCell'=true:=fun v hv=>by
 obtain⟨n,_,rfl⟩:=Gc.1 hv;rfl
theorem lt (h:Ints F w A xs):Ints (fun i=>i<w.heap.size) w A xs:=fun hne=>by
 obtain⟨ad,e,_,hl,hc⟩:=h hne;exact⟨ad,e,hl,hl,hc⟩
theorem drew (h:Ints F w A xs):Ints F w.drew A xs:=h
theorem drewN (h:Ints F w A xs) (n:Nat):Ints F (w.drewN n) A xs:=h
theorem of_row {cs:Array Value} {g:Nat} {t:TypeId} (hg:w.heap[g]? =some (.cells cs t (0,0))) (hF:F g) (hx:∀(j:Nat) (v:Int),xs[j]? =some v->cs[j]? =some (Value.int .i64 v)):Ints F w (some ⟨g,0,none⟩) xs:=fun _=>by
 refine⟨_,rfl,hF,(Array.getElem?_eq_some_iff.1 hg).1,fun j v hj=>?_⟩;have e:(⟨g,0,none⟩:Addr).add j=⟨g,j,none⟩:=by unfold Addr.add;split<;>simp_all
 rw[e,cell_of_row w g j cs t (0,0) hg];exact hx j v hj
theorem of_own {base:Nat} {e:TypeId} {n c:Nat} (h:w.ownsRow base e 1 (.slice A n c) n (xs.map (Value.int .i64))):Ints (fun i=>base<=i) w A xs:=fun hne=>by
 rcases h.2 with ⟨h',hn⟩|⟨g,cap,cur,hv,hb,hg,eA,il,ct,bg⟩
 ·have:=h.1;simp only[F6]at this;have:xs.length=0:=by omega
  exact absurd (Et this) hne
 ·simp only[Value.slice.injEq]at hv;obtain⟨rfl,_,rfl⟩:=hv;refine of_row (F:=fun i=>base<=i) hg hb (fun j v hj=>?_) hne;have h2:(xs.map (Value.int .i64))[j]? =some (.int .i64 v):=by rw[List.getElem?_map,hj];rfl
  rw[<-bg,List.getElem?_take]at h2
  split at h2
  ·simpa using h2
  ·cases h2
end Ints
def SlT (P:Program) (t e:TypeId) (size bytes:Nat):Prop:=
 P.underlying t=some (.slice e)∧∃i z,P.info? e=some i∧i.zero=some z∧i.size=size∧i.bytes=bytes∧z.cells.size=size∧0<size
theorem SlT.mk_ {P:Program} {t e:TypeId} {z:Value} {size bytes:Nat} (h1:P.underlying t=some (.slice e))
  (h2:(P.info? e).map (fun i=>(i.zero,i.size,i.bytes))=some (some z,size,bytes)) (h3:z.cells.size=size) (h4:0<size):SlT P t e size bytes:=by
 obtain⟨i,a,b,c,d⟩:=info_parts h2;exact⟨h1,i,z,a,b,c,d,h3,h4⟩
theorem ZaQ {w:World} {base:Nat} {e:TypeId} {size:Nat} {v:Value} {n:Nat} {xs:List Value} (h:w.ownsRow base e size v n xs):∃A c,v= .slice A n c:=by
 rcases h.2 with ⟨rfl,rfl⟩|⟨g,cap,cur,rfl,_⟩
 ·exact⟨none,0,rfl⟩
 ·exact⟨_,_,rfl⟩
theorem Za {S:Gt} {w w':World} {base:Nat} {e:TypeId} {size:Nat} {v:Value} {n:Nat} {xs:List Value} (h:w.ownsRow base e size v n xs) (k:Upd S w w') (hn:∀i,v.ownBlock=some i->¬S i):w'.ownsRow base e size v n xs:=by
 refine⟨h.1,?_⟩;rcases h.2 with h0|⟨g,cap,cur,rfl,hb,hg,rest⟩
 ·exact .inl h0
 ·exact .inr ⟨g,cap,cur,rfl,hb,(k.block g (Array.getElem?_eq_some_iff.1 hg).1 (hn g rfl)).trans hg,rest⟩
theorem Zz {w:World} {base b2:Nat} {e:TypeId} {size:Nat} {v:Value} {n:Nat} {xs:List Value} (h:w.ownsRow base e size v n xs) (hb:b2<=base):w.ownsRow b2 e size v n xs:=by
 refine⟨h.1,?_⟩;rcases h.2 with h0|⟨g,cap,cur,hv,hg,rest⟩
 ·exact .inl h0
 ·exact .inr ⟨g,cap,cur,hv,Nat.le_trans hb hg,rest⟩
theorem ZiM {a j n c:Nat} (e:Value.ownBlock (.slice (some ⟨a,0,none⟩) n c)=some j):a<=j:=by
 have e1:a=j:=by simpa[Value.ownBlock]using e
 omega
def ZcT (A:Option Addr) (cap l size:Nat):Option Addr:=if cap=l then A else A.map (·.add (l*size))
section
variable {P:Program} {t e:TypeId} {size bytes:Nat} (W:World)
theorem Zlu (hT:SlT P t e size bytes) {z:Value} (hz:(P.info? e).map (·.zero)=some (some z)) (n:Nat) (h1:bytes*n<=281474976710656) (h2:n<=9223372036854775807):
  (Instr.makeSlice t (.int .i64 (n:Int)) (.int .i64 (n:Int))).run P W= .ok (.slice (some ⟨W.heap.size,0,none⟩) n n) (W.alloc (.cells (madeCells z.cells (n*size)) e)):=by
 obtain⟨ht,i,z',hi,Am,aF,dY,gc,ci⟩:=hT;obtain rfl:z'=z:=by rw[hi]at hz;simpa[Am]using hz
 have hb:(i.bytes:Int)*(n:Int)<=281474976710656:=by
  have h:((i.bytes*n:Nat):Int)<=281474976710656:=by rw[dY];omega
  rwa [Int.natCast_mul]at h
 have hr:=run_make (P:=P) W t e i z' ht hi Am .i64 .i64 n n (by omega) (by omega) hb (by omega);simp only[Int.toNat_natCast]at hr;rw[hr,aF]
theorem Zb8 (hT:SlT P t e size bytes) (A:Option Addr) (len cap l:Nat) (h1:l<=len):
  (Instr.slice t (.slice A len cap) (some (.int .i64 l)) none none).run P W= .ok (.slice (ZcT A cap l size) (len-l) (cap-l)) W:=by
 obtain⟨ht,i,z,hi,hz,aF,dY,gc,ci⟩:=hT;have oN:P.elem t=e:=by simp[Program.elem,ht]
 rw[run_slice_l _ t A len cap (by rw[oN];exact ht) _ _ (by omega) (by omega)];simp[sizeOf,typeInfo,oN,hi,aF,sliced,ZcT,Result.andThen]
theorem Zd6 (hT:SlT P t e size bytes) (A:Option Addr) (len cap h:Nat) (h1:h<=cap):
  (Instr.slice t (.slice A len cap) none (some (.int .i64 h)) none).run P W= .ok (.slice (ZcT A cap 0 size) h cap) W:=by
 obtain⟨ht,i,z,hi,hz,aF,dY,gc,ci⟩:=hT;have oN:P.elem t=e:=by simp[Program.elem,ht]
 rw[run_slice_h _ t A len cap (by rw[oN];exact ht) _ _ (by omega) (by omega)];simp[sizeOf,typeInfo,oN,hi,aF,sliced,ZcT,Result.andThen]
end
theorem Ints.cut {F:Gt} {w:World} {A:Option Addr} {xs:Gv} (h:Ints F w A xs) {i c:Nat} (hc:xs.length<=c):Ints F w (ZcT A c i 1) (xs.drop i):=by
 unfold ZcT;rw[Nat.mul_one];exact h.cut_ hc
theorem Znj {w:World} {base:Nat} {e:TypeId} {size:Nat} {A:Option Addr} {c n:Nat} {xs:List Value} (h:w.ownsRow base e size (.slice A n c) n xs):n<=c:=by
 rcases h.2 with ⟨hv,rfl⟩|⟨g,cap,cur,hv,_,_,eA,_⟩
 ·omega
 ·simp only[Value.slice.injEq]at hv;obtain⟨_,_,rfl⟩:=hv;exact eA
def Grew (w:World) (v v':Value):Prop:=v'.ownBlock=v.ownBlock∨∃k,v'.ownBlock=some k∧w.heap.size<=k
def Own (v:Value):Nat->Prop:=fun i=>v.ownBlock=some i
theorem Upd.of_grown {w w':World} {v:Value} (h:w.grownBy w' v.ownBlock):Upd (Own v) w w':=
 ⟨h.os,h.tape,h.output,h.size,fun k hk hn=>h.block k hk (fun e=>hn e.symm)⟩
section
variable {P:Program} {ops:Array Oper} {rest:List Oper} {o:Oper} {a:Act} {Q:Exit->Act->World->Prop}
theorem ZwA {W:World} (cw:o.guard=none) {s x:Operand} {t:TypeId}
  (ho:o.op= .call {callee:= .builtin .append,args:= #[s,x],argTypes:= #[t,t]}) {e:TypeId} {size bytes:Nat} (hT:SlT P t e size bytes)
  {base:Nat} {v:Value} {n c:Nat} {xs cells:List Value} (hs:a.eval s=v) (hx:a.eval x= .slice (some ⟨W.heap.size,0,none⟩) 1 c)
  (ae:W.ownsRow base e size v n xs) (hl:cells.length=size) (h1:cells.all (·.oneCell')=true) (hn:n+1<=9223372036854775807)
  (hb:(n+1)*bytes<=140737488355328) (aL:base<=W.heap.size)
  (h:∀v' w',w'.ownsRow base e size v' (n+1) (xs++cells)->Upd (Own v) W w'->Grew W v v'->wpList P ops Q rest (a.put o.dst v') w'):
  wpList P ops Q (o::rest) a (W.alloc (.cells cells.toArray e)):=by
 obtain⟨ht,i,z,hi,hz,aF,dY,gc,ci⟩:=hT
 have dI:∀j v,cells[j]? =some v->(W.alloc (.cells cells.toArray e)).cell? ((⟨W.heap.size,0,none⟩:Addr).add j)=some v:=fun j v hj=>by
  have e1:(⟨W.heap.size,0,none⟩:Addr).add j=⟨W.heap.size,j,none⟩:=by unfold Addr.add;split<;>simp_all
  rw[e1,cell_of_row _ _ j _ e (0,0) (heap_alloc_new W _),List.getElem?_toArray];exact hj
 obtain⟨v',w',hr,h2,h3,_,h5⟩:=Go.run_append_own_at (P:=P) (W.alloc (.cells cells.toArray e)) base t o.type e i z size bytes ht hi hz aF dY gc ci v n xs (ae.alloc _)
  ⟨W.heap.size,0,none⟩ 1 c cells (by omega) dI (by simpa using h1) (by simp only[maxLen];omega) hb (by simp;omega)
 refine wpList_plain cw fun _ hK=>?_
 unfold Oper.wp execOp;simp only[ho,resolve,invoke,builtin,Sem.run_bind,Sem.run_pure,Result.andThen_ok,List.map_toArray,Gb,List.map_nil,hs,hx,hr];refine hK _ _ (h v' w' h2 (((Upd.refl _ _).alloc _).trans (Upd.of_grown h3)) ?_);rcases h5 with h5|h5
 ·exact .inl h5
 ·exact .inr ⟨_,h5,by simp⟩
end
section
variable {P:Program} {ops:Array Oper} {o:Oper} {a:Act} {Q:Exit->Act->World->Prop}
theorem ZeX {W:World} {K:Act->World->Prop} {E:Prop} (cw:o.guard=none) {s x:Operand} {t:TypeId}
  (ho:o.op= .call {callee:= .builtin .append,args:= #[s,x],argTypes:= #[t,t]}) {e:TypeId} {size bytes:Nat} (hT:SlT P t e size bytes)
  {base:Nat} {v:Value} {n c:Nat} {ad:Addr} {xs cells:List Value} (hs:a.eval s=v) (hx:a.eval x= .slice (some ad) 1 c)
  (ae:W.ownsRow base e size v n xs) (hl:cells.length=size) (dI:∀(j:Nat) v,cells[j]? =some v->W.cell? (ad.add j)=some v) (h1:cells.all (·.oneCell')=true) (hn:n+1<=9223372036854775807)
  (hb:(n+1)*bytes<=140737488355328) (aL:base<=W.heap.size)
  (h:∀g cap w',w'.ownsRow base e size (.slice (some ⟨g,0,none⟩) (n+1) cap) (n+1) (xs++cells)->Upd (Own v) W w'->Grew W v (.slice (some ⟨g,0,none⟩) (n+1) cap)->g<w'.heap.size->
   K (a.put o.dst (.slice (some ⟨g,0,none⟩) (n+1) cap)) w'):
  if Region.wanted o (yielded ops a.tmps)=true then Oper.wp P o a W K Q else E:=by
 obtain⟨ht,i,z,hi,hz,aF,dY,gc,ci⟩:=hT;refine step_append_lies W cw s x t ho base e i z size bytes ht hi hz aF dY gc ci v n xs hs ae ad 1 c cells hx (by omega) dI (by simpa using h1) (by omega) (by simp only[maxLen];omega) hb aL W.heap.size rfl ?_;intro g cap w' h2 h3 h4 h5;refine h g cap w' h2 (Upd.of_grown h3) ?_ h5;rcases h4 with h4|h4
 ·exact .inl h4.symm
 ·exact .inr ⟨g,rfl,by omega⟩
end
theorem ZX {P:Program} {ops:Array Oper} {rest:List Oper} {o:Oper} {a:Act} {Q:Exit->Act->World->Prop} {W:World} (cw:o.guard=none) {s x:Operand} {t:TypeId}
  (ho:o.op= .call {callee:= .builtin .append,args:= #[s,x],argTypes:= #[t,t]}) {e:TypeId} {size bytes:Nat} (hT:SlT P t e size bytes)
  {base:Nat} {v:Value} {n c:Nat} {xs cells:List Value} (hs:a.eval s=v) (hx:a.eval x= .slice (some ⟨W.heap.size,0,none⟩) 1 c)
  (ae:W.ownsRow base e size v n xs) (hl:cells.length=size) (h1:cells.all (·.oneCell')=true) (hn:n+1<=9223372036854775807)
  (hb:(n+1)*bytes<=140737488355328) (aL:base<=W.heap.size)
  (h:∀g cap w',w'.ownsRow base e size (.slice (some ⟨g,0,none⟩) (n+1) cap) (n+1) (xs++cells)->Upd (Own v) W w'->(v.ownBlock=some g∨W.heap.size<=g)->g<w'.heap.size->
   wpList P ops Q rest (a.put o.dst (.slice (some ⟨g,0,none⟩) (n+1) cap)) w'):
  wpList P ops Q (o::rest) a (W.alloc (.cells cells.toArray e)):=by
 refine ZwA cw ho hT hs hx ae hl h1 hn hb aL fun v' w' h2 h3 h4=>?_
 obtain⟨g,cap,rfl,_,hlt⟩:=h2.form (by omega);refine h g cap w' h2 h3 ?_ hlt;rcases h4 with h4|⟨k,h4,hk⟩
 ·exact .inl h4.symm
 ·cases h4;exact .inr hk
theorem Zbn {W:World} {cs:List Value} {e:TypeId} (j:Nat) (v:Value) (hj:cs[j]? =some v):(W.alloc (.cells cs.toArray e)).cell? ((⟨W.heap.size,0,none⟩:Addr).add j)=some v:=
 World.news_of_block (heap_alloc_new W _) j v (by simpa using hj)
section
variable {P:Program} {w:World} {ops:Array Oper} {rest:List Oper} {o:Oper} {a:Act} {Q:Exit->Act->World->Prop}
theorem ZvQ (cw:o.guard=none) {d s:Operand} {dT sT:TypeId} (ho:o.op= .call {callee:= .builtin .copy,args:= #[d,s],argTypes:= #[dT,sT]})
  {elem t:TypeId} {bytes:Nat} (hT:SlT P dT elem 1 bytes) {g n c m c2:Nat} {A:Option Addr} {dc sc:List Value} (hd:a.eval d= .slice (some ⟨g,0,none⟩) n c) (hs:a.eval s= .slice A m c2)
  (hb:Blk w g t dc) (hn:n<=dc.length) (hm:m=sc.length) (Ek:m<=n) (cE:sc≠[]->∃ad,A=some ad∧∀(j:Nat) v,sc[j]? =some v->w.cell? (ad.add j)=some v) (h1:∀v∈sc,v.oneCell'=true)
  (h:∀w',Blk w' g t (sc++dc.drop m)->Upd (One g) w w'->wpList P ops Q rest (a.put o.dst (.int .i64 (m:Int))) w'):wpList P ops Q (o::rest) a w:=by
 subst hm;obtain⟨ht,i,z,hi,hz,aF,_⟩:=hT;have ci:(P.info? elem).map (·.size)=some 1:=by rw[hi];simp[aF]
 by_cases h0:sc=[]
 ·subst h0;refine wpList_copy_nothing cw d s dT sT ho elem ht ci _ _ _ _ _ _ hd hs (by simp) ?_;exact h w (by simpa using hb) (Upd.refl _ _)
 ·obtain⟨ad,rfl,hc⟩:=cE h0;refine wpList_copy_own cw d s dT sT ho elem ht ci g 0 n c ad sc.length c2 hd hs dc.toArray t hb sc (by simp only[Nat.min_def];split<;>omega) hc (by simp;omega) h1 ?_;refine h _ ?_ ⟨rfl,rfl,rfl,by simp,fun k hk hn=>setRow_other w g k _ hn⟩;have:=setRow_heap w g dc.toArray (sc++dc.drop sc.length).toArray t (0,0) hb;unfold Blk;rw[<-this];simp
end
section
variable {P:Program} {ops:Array Oper} {rest:List Oper} {o:Oper} {a:Act} {Q:Exit->Act->World->Prop}
theorem ZjB (W:World) {base:Nat} {t ty e:TypeId} {i:TypeInfo} {size:Nat} (ht:P.underlying t=some (.slice e)) (hi:P.info? e=some i)
  {v:Value} {n:Nat} {xs:List Value} (ae:W.ownsRow base e size v n xs) (c:Nat):(Builtin.append_ #[t,t] ty #[v,.slice none 0 c]).run P W= .ok v W:=by
 rcases ae.2 with ⟨rfl,rfl⟩|⟨g,cap,cur,rfl,_,_,eA,_⟩
 ·simp[Builtin.append_,run_underlying ht,sizeOf,typeInfo,hi,Builtin.lenOf,Builtin.firstCells]
 ·simp[Builtin.append_,run_underlying ht,sizeOf,typeInfo,hi,Builtin.lenOf,Builtin.firstCells,eA,storeCells]
def Src (W:World) (A:Option Addr) (m size:Nat) (news:List Value):Prop:=
 news.length=m*size∧(news≠[]->∃ad,A=some ad∧∀(j:Nat) v,news[j]? =some v->W.cell? (ad.add j)=some v)
theorem ZqV (W:World) {t ty e:TypeId} {size bytes:Nat} (hT:SlT P t e size bytes) {base:Nat} {v:Value} {n m c:Nat} {A:Option Addr} {xs news:List Value}
  (ae:W.ownsRow base e size v n xs) (cE:Src W A m size news) (h1:∀u∈news,u.oneCell'=true) (hn:n+m<=9223372036854775807) (hb:(n+m)*bytes<=140737488355328) (aL:base<=W.heap.size):
  ∃v' w',(Builtin.append_ #[t,t] ty #[v,.slice A m c]).run P W= .ok v' w'∧w'.ownsRow base e size v' (n+m) (xs++news)∧Upd (Own v) W w'∧Grew W v v':=by
 obtain⟨ht,i,z,hi,hz,aF,dY,gc,ci⟩:=hT
 cases A with
 |none=>
  have dI:news=[]:=by
   rcases Classical.em (news=[])with h|h
   ·exact h
   ·obtain⟨ad,h,_⟩:=cE.2 h
    cases h
  subst dI
  have hm:m=0:=by
   have h0:=cE.1;rcases Nat.mul_eq_zero.1 (show m*size=0 by rw[<-h0];rfl)with h|h<;>omega
  subst hm;exact⟨v,W,ZjB W ht hi ae c,by simpa using ae,Upd.refl _ _,.inl rfl⟩
 |some ad=>
  have hc:∀(j:Nat) v,news[j]? =some v->W.cell? (ad.add j)=some v:=fun j v hj=>by
   obtain⟨ad',h,hc⟩:=cE.2 (by rintro rfl;simp at hj)
   cases h
   exact hc j v hj
  obtain⟨v',w',hr,h2,h3,_,h5⟩:=Go.run_append_own_at (P:=P) W base t ty e i z size bytes ht hi hz aF dY gc ci v n xs ae ad m c news cE.1 hc h1 (by simp only[maxLen];omega) hb aL;refine⟨v',w',hr,h2,Upd.of_grown h3,?_⟩;rcases h5 with h5|h5
  ·exact .inl h5
  ·exact .inr ⟨_,h5,Nat.le_refl _⟩
theorem Zgk {W:World} (cw:o.guard=none) {s x:Operand} {t:TypeId}
  (ho:o.op= .call {callee:= .builtin .append,args:= #[s,x],argTypes:= #[t,t]}) {e:TypeId} {size bytes:Nat} (hT:SlT P t e size bytes)
  {base:Nat} {v:Value} {n m c:Nat} {A:Option Addr} {xs news:List Value} (hs:a.eval s=v) (hx:a.eval x= .slice A m c)
  (ae:W.ownsRow base e size v n xs) (cE:Src W A m size news) (h1:∀u∈news,u.oneCell'=true) (hn:n+m<=9223372036854775807)
  (hb:(n+m)*bytes<=140737488355328) (aL:base<=W.heap.size)
  (h:∀v' w',w'.ownsRow base e size v' (n+m) (xs++news)->Upd (Own v) W w'->Grew W v v'->wpList P ops Q rest (a.put o.dst v') w'):
  wpList P ops Q (o::rest) a W:=by
 obtain⟨v',w',hr,h2,h3,h4⟩:=ZqV (P:=P) (ty:=o.type) (c:=c) W hT ae cE h1 hn hb aL;refine wpList_plain cw fun _ hK=>?_
 unfold Oper.wp execOp;simp only[ho,resolve,invoke,builtin,Sem.run_bind,Sem.run_pure,Result.andThen_ok,List.map_toArray,Gb,List.map_nil,hs,hx,hr];exact hK _ _ (h v' w' h2 h3 h4)
end
section
variable {P:Program} {ops:Array Oper} {o:Oper} {a:Act} {Q:Exit->Act->World->Prop}
end
theorem Ints.src {F:Gt} {w:World} {A:Option Addr} {xs:Gv} (h:Ints F w A xs):Src w A xs.length 1 (xs.map (Value.int .i64)):=⟨by simp,h.vals⟩
theorem Upd.then_ {S T:Gt} {w w1 w2:World} (h:Upd S w w1) (h2:Upd T w1 w2) (hT:∀i,T i->S i∨w.heap.size<=i):Upd S w w2:=
 h.trans_ h2 fun i hi t=>by
  rcases hT i t with s|s
  ·exact s
  ·omega
theorem Zl4 {W:World} (cs:Gv) (e:TypeId):Ints (fun i=>i=W.heap.size) (W.alloc (.cells (cs.map (Value.int .i64)).toArray e)) (some ⟨W.heap.size,0,none⟩) cs:=
 Ints.of_row (heap_alloc_new W _) rfl fun j v hj=>by
  rw[List.getElem?_toArray,List.getElem?_map,hj];rfl
def bytes (s:Gm):Gv:=s.data.toList.map fun b=>(b.toNat:Int)
/- Slices that read as rows of cells. -/
def Recs (F:Gt) (w:World) (A:Option Addr) (size:Nat) (rows:List (List Value)):Prop:=
 rows≠[]->∃ad,A=some ad∧F ad.block∧ad.block<w.heap.size∧∀(i:Nat) row,rows[i]? =some row->∀(j:Nat) v,row[j]? =some v->w.cell? (ad.add (i*size+j))=some v
namespace Recs
variable {F S:Gt} {w w':World} {A:Option Addr} {size:Nat} {rows:List (List Value)}
theorem at_ (h:Recs F w A size rows) {k:Nat} (hk:k<rows.length):∃ad,A=some ad∧F ad.block∧ad.block<w.heap.size∧∀(j:Nat) v,rows[k][j]? =some v->w.cell? (if j=0 then ad.add (k*size) else ⟨(ad.add (k*size)).block,(ad.add (k*size)).off+j,none⟩)=some v:=by
 obtain⟨ad,e,hf,hl,hc⟩:=h (by intro e;subst e;simp at hk);refine⟨ad,e,hf,hl,fun j v hj=>?_⟩;have:=hc k _ (Qg hk) j v hj;rw[<-Ints.add_add]at this
 split
 ·rename_i h0;subst h0;simpa[Addr.add]using this
 ·rename_i h0
  rw[<-this]
  congr 1
  generalize ad.add (k*size)=X;unfold Addr.add;rw[if_neg h0]
theorem upd (h:Recs F w A size rows) (k:Upd S w w') (hn:∀i,F i->¬S i):Recs F w' A size rows:=fun hne=>by
 obtain⟨ad,e,hf,hl,hc⟩:=h hne;exact⟨ad,e,hf,Fe hl k.size,fun i row hi j v hj=>(k.cell (by rw[Ints.block_add];exact hl) (by rw[Ints.block_add];exact hn _ hf)).trans (hc i row hi j v hj)⟩
theorem lt (h:Recs F w A size rows):Recs (fun i=>i<w.heap.size) w A size rows:=fun hne=>by
 obtain⟨ad,e,_,hl,hc⟩:=h hne;exact⟨ad,e,hl,hl,hc⟩
end Recs
theorem Ints.weak {F G:Gt} {w:World} {A:Option Addr} {xs:Gv} (h:Ints F w A xs) (hg:∀i,i<w.heap.size->F i->G i):Ints G w A xs:=fun hne=>by
 obtain⟨ad,e,hf,hl,hc⟩:=h hne;exact⟨ad,e,hg _ hl hf,hl,hc⟩
theorem Ints.lt' {F:Gt} {w:World} {A:Option Addr} {xs:Gv} {G:Gt} (h:Ints F w A xs) (hg:∀i,F i->G i):Ints (fun i=>i<w.heap.size∧G i) w A xs:=fun hne=>by
 obtain⟨ad,e,hf,hl,hc⟩:=h hne;exact⟨ad,e,⟨hl,hg _ hf⟩,hl,hc⟩
theorem ZeL {rows:List (List Value)} {size:Nat} (h:∀r∈rows,r.length=size):rows.flatten.length=rows.length*size:=by
 induction rows with
 |nil=>simp
 |cons a l ih=>
  rw[List.flatten_cons,Fb,ih (fun r hr=>h r (E7 _ hr)),h a (Fc ..),Fs,Nat.add_mul,Nat.one_mul,Nat.add_comm]
theorem Ztp {rows:List (List Value)} {size:Nat} (h:∀r∈rows,r.length=size):∀(j:Nat) (v:Value),rows.flatten[j]? =some v->∃(i:Nat) (k:Nat) (r:List Value),rows[i]? =some r∧r[k]? =some v∧j=i*size+k:=by
 induction rows with
 |nil=>intro j v hj;simp at hj
 |cons a l ih=>
  intro j v hj;have ha:=h a (Fc ..);rw[List.flatten_cons,List.getElem?_append]at hj
  split at hj
  ·exact⟨0,j,a,rfl,hj,by omega⟩
  ·obtain⟨i,k,r,h1,h2,h3⟩:=ih (fun r hr=>h r (E7 _ hr)) _ v hj;refine⟨i+1,k,r,h1,h2,?_⟩;rw[Nat.add_mul,Nat.one_mul];omega
theorem ZeM {rows:List (List Value)} {size:Nat} (h:∀r∈rows,r.length=size) {i k:Nat} {r:List Value} {v:Value} (h1:rows[i]? =some r) (h2:r[k]? =some v):rows.flatten[i*size+k]? =some v:=by
 induction rows generalizing i with
 |nil=>simp at h1
 |cons a l ih=>
  have ha:=h a (Fc ..);have hr:=h r (E6 h1);have hk:=(List.getElem?_eq_some_iff.1 h2).1
  cases i with
  |zero=>
   simp only[Qz,Fh]at h1;subst h1;rw[List.flatten_cons,List.getElem?_append_left (by omega)]
   simpa using h2
  |succ i=>
   have:=ih (fun r hr=>h r (E7 _ hr)) (i:=i) (by simpa using h1);rw[List.flatten_cons,List.getElem?_append_right (by rw[Nat.add_mul];omega),<-this]
   congr 1
   rw[Nat.add_mul];omega
theorem Recs.src {F:Gt} {w:World} {A:Option Addr} {size:Nat} {rows:List (List Value)} (h:Recs F w A size rows) (hr:∀r∈rows,r.length=size):Src w A rows.length size rows.flatten:=
 ⟨ZeL hr,fun hne=>by
  obtain⟨ad,e,_,_,hc⟩:=h (by rintro rfl;simp at hne);refine⟨ad,e,fun j v hj=>?_⟩;obtain⟨i,k,r,h1,h2,rfl⟩:=Ztp hr j v hj;exact hc i r h1 k v h2⟩
theorem Recs.of_own {w:World} {base:Nat} {e:TypeId} {size n c:Nat} {A:Option Addr} {rows:List (List Value)} (hr:∀r∈rows,r.length=size) (hs:0<size) (h:w.ownsRow base e size (.slice A n c) n rows.flatten):Recs (Own (.slice A n c)) w A size rows:=fun hne=>by
 rcases h.2 with ⟨h',hn⟩|⟨g,cap,cur,hv,hb,hg,eA,il,ct,bg⟩
 ·have:=h.1;rw[ZeL hr,hn]at this
  have:rows.length=0:=by
   rcases Nat.mul_eq_zero.1 (show rows.length*size=0 by omega)with h|h<;>omega
  exact absurd (Et this) hne
 ·cases hv
  refine⟨⟨g,0,none⟩,rfl,rfl,(Array.getElem?_eq_some_iff.1 hg).1,fun i row hi j v hj=>?_⟩;have e1:(⟨g,0,none⟩:Addr).add (i*size+j)=⟨g,i*size+j,none⟩:=by unfold Addr.add;split<;>simp_all
  rw[e1,cell_of_row _ g _ _ _ (0,0) hg];have h2:=ZeM hr hi hj;rw[<-bg,List.getElem?_take]at h2
  split at h2
  ·simpa using h2
  ·cases h2
theorem Recs.weak {F G:Gt} {w:World} {A:Option Addr} {size:Nat} {rows:List (List Value)} (h:Recs F w A size rows) (hg:∀i,i<w.heap.size->F i->G i):Recs G w A size rows:=fun hne=>by
 obtain⟨ad,e,hf,hl,hc⟩:=h hne;exact⟨ad,e,hg _ hl hf,hl,hc⟩
theorem Recs.take {F:Gt} {w:World} {A:Option Addr} {size:Nat} {rows:List (List Value)} (h:Recs F w A size rows) {i:Nat}:Recs F w A size (rows.take i):=fun hne=>by
 obtain⟨ad,e,hf,hl,hc⟩:=h (by intro e;subst e;simp at hne);refine⟨ad,e,hf,hl,fun i row hi j v hj=>hc i row ?_ j v hj⟩;rw[List.getElem?_take]at hi
 split at hi
 ·exact hi
 ·cases hi
theorem Recs.cut {F:Gt} {w:World} {A:Option Addr} {size:Nat} {rows:List (List Value)} (h:Recs F w A size rows) {i c:Nat} (hc:rows.length<=c):Recs F w (ZcT A c i size) size (rows.drop i):=fun hne=>by
 have hi:i<rows.length:=by
  rcases Nat.lt_or_ge i rows.length with h|h
  ·exact h
  ·exact absurd (List.drop_of_length_le h) hne
 obtain⟨ad,rfl,hf,hl,vd⟩:=h (by intro e;subst e;simp at hi);unfold ZcT;rw[if_neg (by omega)];refine⟨ad.add (i*size),rfl,by rw[Ints.block_add];exact hf,by rw[Ints.block_add];exact hl,fun k row hk j v hj=>?_⟩;rw[Ints.add_add,<-vd (i+k) row (by rw[<-hk,List.getElem?_drop]) j v hj,Nat.add_mul,Nat.add_assoc]
theorem Recs.lt' {F:Gt} {w:World} {A:Option Addr} {size:Nat} {rows:List (List Value)} (h:Recs F w A size rows):Recs (fun i=>i<w.heap.size∧F i) w A size rows:=fun hne=>by
 obtain⟨ad,e,hf,hl,hc⟩:=h hne;exact⟨ad,e,⟨hl,hf⟩,hl,hc⟩
/- Maps that the calls themselves make:what is in them,by key,whatever the kind of keys and elements. -/
section
variable {α:Type} [DecidableEq α]
def look (a:α):List (α×Value)->Nat->Option (Nat×Value)
 |[],_=>none
 |p::l,i=>if a=p.1 then some (i,p.2) else look a l (i+1)
def Zac (m:List (α×Value)) (a:α):Option Value:=(look a m 0).map (·.2)
def ZL (m:List (α×Value)) (a:α) (v:Value):List (α×Value):=
 match look a m 0 with
 |some (i,_)=>m.modify i fun p=>(p.1,v)
 |none=>m++[(a,v)]
structure KeyBy (P:Program) (kt:TypeId) (enc:α->Value):Prop where
 check:∀(w:World) (e:Bool) (a:α),(Instr.checkKey e 10000 kt (enc a)).run P w= .ok () w
 bits:∀a,Instr.sameBits 10000 (enc a) (enc a)=true
 find:∀(w:World) (a:α) (es:List MapEntry) (m:List (α×Value)),es.map (fun e=>(e.key,e.val))=m.map (fun p=>(enc p.1,p.2))->
  (Instr.findKey kt (enc a) es).run P w= .ok (look a m 0) w
def MapIs (w:World) (b:Nat) (enc:α->Value) (m:List (α×Value)):Prop:=
 ∃es clock,w.heap[b]? =some (.map es clock)∧es.toList.map (fun e=>(e.key,e.val))=m.map (fun p=>(enc p.1,p.2))
end
section
variable {α:Type} [DecidableEq α] {P:Program} {w w':World} {b:Nat} {enc:α->Value} {m:List (α×Value)} {S:Gt} {t kt et:TypeId}
omit [DecidableEq α] in
theorem MapIs.lt (h:MapIs w b enc m):b<w.heap.size:=by
 obtain⟨es,c,hb,_⟩:=h;exact(Array.getElem?_eq_some_iff.1 hb).1
omit [DecidableEq α] in
theorem MapIs.upd (h:MapIs w b enc m) (k:Upd S w w') (hn:¬S b):MapIs w' b enc m:=by
 have hl:=h.lt;obtain⟨es,c,hb,he⟩:=h;exact⟨es,c,(k.block b hl hn).trans hb,he⟩
omit [DecidableEq α] in
theorem MapIs.new (w:World) (enc:α->Value):MapIs (w.alloc (.map #[] 0)) w.heap.size enc ([]:List (α×Value)):=⟨#[],0,heap_alloc_new w _,rfl⟩
theorem Zfl {a:α} (aO:∀(w:World) (x y:α),(Op.equal kt (enc x) (enc y)).run P w= .ok (decide (x=y)) w) (w:World):
  ∀(es:List MapEntry) (m:List (α×Value)) (i:Nat),es.map (fun e=>(e.key,e.val))=m.map (fun p=>(enc p.1,p.2))->(Instr.findAsking kt (enc a) es i).run P w= .ok (look a m i) w
 |[],[],i,_=>by simp[Instr.findAsking,look]
 |[],p::m,i,h=>by simp at h
 |e::es,[],i,h=>by simp at h
 |e::es,p::m,i,h=>by
  simp only[Gb,List.cons.injEq,Ga]at h;obtain⟨⟨hk,hv⟩,hr⟩:=h;have ih:=Zfl (a:=a) aO w es m (i+1) hr;simp only[Instr.findAsking,Sem.run_bind,hk,aO,Result.andThen,look]
  by_cases hab:a=p.1
  ·simp[hab,hv]
  ·simp[hab,ih]
theorem Zmi {a:α} {d:TypeDesc} (aO:∀(x y:α),Instr.sameNow d (enc x) (enc y)=some (decide (x=y))):
  ∀(es:List MapEntry) (m:List (α×Value)) (i:Nat),es.map (fun e=>(e.key,e.val))=m.map (fun p=>(enc p.1,p.2))->Instr.findNow d (enc a) es i=some (look a m i)
 |[],[],i,_=>rfl
 |[],p::m,i,h=>by simp at h
 |e::es,[],i,h=>by simp at h
 |e::es,p::m,i,h=>by
  simp only[Gb,List.cons.injEq,Ga]at h;obtain⟨⟨hk,hv⟩,hr⟩:=h;have ih:=Zmi (a:=a) aO es m (i+1) hr;simp only[Instr.findNow,hk,aO,look]
  by_cases hab:a=p.1
  ·simp[hab,hv]
  ·simp[hab,ih]
theorem KeyBy.int_ {k k':IntKind} (ht:P.underlying kt=some (.int k')):KeyBy P kt (fun n:Int=>Value.int k n) where
 check w e a:=by unfold Instr.checkKey;simp[run_underlying ht]
 bits a:=by simp[Instr.sameBits]
 find w a es m h:=by
  have:=Zmi (a:=a) (enc:=fun n:Int=>Value.int k n) (d:= .int k') (fun x y=>by simp[Instr.sameNow];rfl) es m 0 h;simp[Instr.findKey,run_underlying ht,this]
theorem ZO (K:KeyBy P kt enc) (ht:P.underlying t=some (.map kt et)) {z:Value} (hz:∀w:World,(zeroValue et).run P w= .ok z w) (h:MapIs w b enc m) (a:α):
  (Instr.lookup t (.map (some b)) (enc a) false).run P w= .ok ((Zac m a).getD z) w:=by
 obtain⟨es,c,hb,he⟩:=h;simp only[Instr.lookup,run_underlying ht,Sem.run_bind,Result.andThen,run_getObj_map w b es c hb,Sem.run_pure,K.check,K.find w a _ _ he,Zac]
 cases look a m 0 with
 |none=>simp[hz]
 |some p=>simp
theorem Zez (a:α):∀(m:List (α×Value)) (i:Nat) (r:Nat×Value),look a m i=some r->i<=r.1∧m[r.1-i]? =some (a,r.2)
 |[],i,r,h=>by simp[look]at h
 |p::m,i,r,h=>by
  unfold look at h
  split at h
  ·rename_i hab
   cases h
   subst hab;simp
  ·obtain⟨h1,h2⟩:=Zez a m (i+1) r h;refine⟨by omega,?_⟩;rw[show r.1-i=(r.1-(i+1))+1 by omega,Qs];exact h2
theorem ZaG (w:World) (b:Nat) (o:Obj):Upd (One b) w {w with heap:=w.heap.setIfInBounds b o}:=
 ⟨rfl,rfl,rfl,by simp,fun k _ hn=>by
  show(w.heap.setIfInBounds b o)[k]? =w.heap[k]?
  rw[Array.getElem?_setIfInBounds_ne (fun e=>hn (by exact e.symm))]⟩
theorem ZsT (K:KeyBy P kt enc) (ht:P.underlying t=some (.map kt et)) (h:MapIs w b enc m) (a:α) (v:Value):
  ∃w',(Instr.mapUpdate t (.map (some b)) (enc a) v).run P w= .ok () w'∧MapIs w' b enc (ZL m a v)∧Upd (One b) w w':=by
 have hl:=h.lt;obtain⟨es,c,hb,he⟩:=h
 cases hlk:look a m 0 with
 |none=>
  refine⟨{w with heap:=w.heap.setIfInBounds b (.map (es.push {key:=enc a,val:=v,born:=c}) (c+1))},?_,⟨es.push {key:=enc a,val:=v,born:=c},c+1,?_,?_⟩,ZaG w b _⟩
  ·simp only[Instr.mapUpdate,run_underlying ht,Sem.run_bind,Result.andThen,run_getObj_map w b es c hb,K.check,K.find w a _ _ he,hlk];exact Go.MapKept.run_setObj_map _ hb
  ·show(w.heap.setIfInBounds b _)[b]? =_
   simp[hl]
  ·simp[ZL,hlk,he]
 |some r=>
  obtain⟨_,hr⟩:=Zez a m 0 r hlk;rw[Nat.sub_zero]at hr;have hke:(es.toList.map (fun e=>(e.key,e.val)))[r.1]? =some (enc a,r.2):=by rw[he,List.getElem?_map,hr];rfl
  rw[List.getElem?_map,Option.map_eq_some_iff]at hke;obtain⟨e0,gI,gW⟩:=hke
  have bG:((es[r.1]?).map (·.key)).getD (enc a)=enc a:=by
   rw[<-Array.getElem?_toList,gI];simp only[Option.map_some,Option.getD_some];exact congrArg Prod.fst gW
  refine⟨{w with heap:=w.heap.setIfInBounds b (.map (es.modify r.1 fun e=>{e with key:=enc a,val:=v}) c)},?_,⟨es.modify r.1 fun e=>{e with key:=enc a,val:=v},c,?_,?_⟩,ZaG w b _⟩
  ·simp only[Instr.mapUpdate,run_underlying ht,Sem.run_bind,Result.andThen,run_getObj_map w b es c hb,K.check,K.find w a _ _ he,hlk,bG,Instr.keyThatStays,K.bits,if_true,Sem.run_pure];exact Go.MapKept.run_setObj_map _ hb
  ·show(w.heap.setIfInBounds b _)[b]? =_
   simp[hl]
  ·simp only[ZL,hlk,Array.toList_modify]
   apply List.ext_getElem?
   intro j;have hj:(es.toList.map (fun e=>(e.key,e.val)))[j]? =(m.map (fun p=>(enc p.1,p.2)))[j]? :=by rw[he]
   simp only[List.getElem?_map,List.getElem?_modify]at hj ⊢
   by_cases hij:r.1=j
   ·subst hij;rw[hr,gI];simp
   ·cases h1:es.toList[j]? <;>cases h2:m[j]? <;>rw[h1,h2]at hj<;>simp_all
omit [DecidableEq α] in
theorem ZqT (ht:P.underlying t=some (.map kt et)) (h:MapIs w b enc m) (ty:TypeId):(Builtin.len_ #[t] ty #[.map (some b)]).run P w= .ok (.int .i64 m.length) w:=by
 obtain⟨es,c,hb,he⟩:=h;have hl:es.size=m.length:=by have:=congrArg List.length he;simpa using this
 simp[Builtin.len_,run_underlying ht,Result.andThen,run_getObj_map w b es c hb,hl];rfl
theorem ZpU {ops:Array Oper} {rest:List Oper} {o:Oper} {ac:Act} {Q:Exit->Act->World->Prop} (cw:o.guard=none) {x y v:Operand}
  (ho:o.op= .mapUpdate t x y v) (K:KeyBy P kt enc) (ht:P.underlying t=some (.map kt et)) {a:α} {val:Value} (hx:ac.eval x= .map (some b)) (hy:ac.eval y=enc a) (hv:ac.eval v=val)
  (h:MapIs w b enc m) (hk:∀w',MapIs w' b enc (ZL m a val)->Upd (One b) w w'->wpList P ops Q rest (ac.put o.dst undef) w'):wpList P ops Q (o::rest) ac w:=by
 obtain⟨w',hr,h1,h2⟩:=ZsT K ht h a val;refine wpList_plain cw fun _ hK=>?_
 unfold Oper.wp;simp[execOp,ho,hx,hy,hv,hr,Result.andThen];exact hK _ _ (hk w' h1 h2)
end
theorem KeyBy.arr2 {P:Program} {kt it:TypeId} (ht:P.underlying kt=some (.array 2 it)) (hi:P.underlying it=some (.int .i64)) (hs:(P.info? it).map (·.size)=some 1):
  KeyBy P kt (fun p:Int×Int=>Value.agg #[.int .i64 p.1,.int .i64 p.2]):=by
 obtain⟨i,hi2,er⟩:∃i,P.info? it=some i∧i.size=1:=by
  cases h:P.info? it with
  |none=>rw[h]at hs;simp at hs
  |some i=>exact⟨i,rfl,by rw[h]at hs;simpa using hs⟩
 have ia:∀(w:World) (x y:Value),(part it #[x,y] 0).run P w= .ok x w:=fun w x y=>by simp[part,isAgg,run_underlying hi]
 have cV:∀(w:World) (x y:Value),(part it #[x,y] 1).run P w= .ok y w:=fun w x y=>by simp[part,isAgg,run_underlying hi]
 have ci:∀(w:World),(sizeOf it).run P w= .ok 1 w:=fun w=>by simp[sizeOf,typeInfo,hi2,er]
 have aO:∀(w:World) (x y:Int×Int),(Op.equal kt (.agg #[.int .i64 x.1,.int .i64 x.2]) (.agg #[.int .i64 y.1,.int .i64 y.2])).run P w= .ok (decide (x=y)) w:=fun w x y=>by
  have h1:∀(d:Nat) (a b:Int),(Op.equalIn (d+1) it (.int .i64 a) (.int .i64 b)).run P w= .ok (a==b) w:=fun d a b=>run_equalIn_int w d it .i64 .i64 a b hi
  show(Op.equalIn (9998+1+1) kt _ _).run P w=_
  generalize 9998=d;obtain⟨x1,x2⟩:=x;obtain⟨y1,y2⟩:=y;unfold Op.equalIn
  by_cases e1:x1=y1<;>by_cases e2:x2=y2<;>simp[run_underlying ht,ci,ia,cV,h1,Result.andThen,List.range',Std.Legacy.Range.forIn_eq_forIn_range',Std.Legacy.Range.size,e1,e2]
 refine⟨fun w e a=>?_,fun a=>by simp[Instr.sameBits],fun w a es m h=>?_⟩
 ·show(Instr.checkKey e (9998+1+1) kt _).run P w=_
  generalize 9998=d;have h1:∀(a:Int),(Instr.checkKey e (d+1) it (.int .i64 a)).run P w= .ok () w:=fun a=>by unfold Instr.checkKey;simp[run_underlying hi]
  unfold Instr.checkKey;simp[run_underlying ht,ci,ia,cV,h1,Result.andThen,List.range',Std.Legacy.Range.forIn_eq_forIn_range',Std.Legacy.Range.size]
 ·have h2:=Zfl (a:=a) (enc:=fun p:Int×Int=>Value.agg #[.int .i64 p.1,.int .i64 p.2]) aO w es m 0 h;unfold Instr.findKey
  cases es with
  |nil=>
   cases m with
   |nil=>simp[run_underlying ht,Instr.findNow,look]
   |cons p m=>simp at h
  |cons e es=>simp[run_underlying ht,Instr.findNow,Instr.sameNow,h2]
/- Components of a digraph,plain:the search by one stack (nodes that wait),what stays true of it,and that its labels are right. -/
inductive Rch (nx:Nat->List Nat):Nat->Nat->Prop
 |refl (a:Nat):Rch nx a a
 |step {a b c:Nat}:Rch nx a b->c∈nx b->Rch nx a c
theorem Rch.trans {nx:Nat->Gr} {a b c:Nat} (h:Rch nx a b) (k:Rch nx b c):Rch nx a c:=by
 induction k with
 |refl=>exact h
 |step _ hm ih=>exact ih.step hm
theorem Rch.one {nx:Nat->Gr} {a b:Nat} (h:b∈nx a):Rch nx a b:=(Rch.refl a).step h
theorem Rch.stay {nx:Nat->Gr} {S:Gt} (hS:∀a,S a->∀b∈nx a,S b) {a b:Nat} (h:Rch nx a b) (ha:S a):S b:=by
 induction h with
 |refl=>exact ha
 |step _ hm ih=>exact hS _ ih _ hm
def IsLab (nx:Nat->Gr) (x l:Nat):Prop:=Rch nx x l∧Rch nx l x∧∀y,Rch nx x y->Rch nx y x->l<=y
def upd (f:Nat->Nat) (x v:Nat):Nat->Nat:=fun i=>if i=x then v else f i
theorem ZI (f:Nat->Nat) (x v:Nat):upd f x v x=v:=if_pos rfl
theorem ZaE (f:Nat->Nat) {x i:Nat} (v:Nat) (h:i≠x):upd f x v i=f i:=if_neg h
structure TS where
 way:List (Nat×Gr)
 when:Nat->Nat
 low:Nat->Nat
 wait:List Nat
 clock:Nat
 out:Nat->Nat
def TS.seen (s:TS) (v x:Nat):Prop:=∀l,(v,l)∈s.way->x∉l
structure TInv (nx:Nat->List Nat) (s:TS):Prop where
 ord:s.wait.Pairwise fun a b=>s.when b<s.when a
 path:s.way.Pairwise fun a b=>s.when b.1<s.when a.1
 on:∀f∈s.way,f.1∈s.wait
 sub:∀f∈s.way,∀x∈f.2,x∈nx f.1
 met:∀x∈s.wait,1<=s.when x
 late:∀x,s.when x<=s.clock
 all:∀v,1<=s.when v->∀x∈nx v,s.seen v x->1<=s.when x
 done:∀v,1<=s.when v->v∉s.wait->∀x∈nx v,1<=s.when x∧x∉s.wait
 down:∀f∈s.way,∀w∈s.wait,s.when f.1<=s.when w->Rch nx f.1 w
 up:∀w∈s.wait,(∀f∈s.way,f.1≠w)->∃u∈s.wait,s.when u<s.when w∧Rch nx w u
 low1:∀f∈s.way,s.low f.1<=s.when f.1∧∃u∈s.wait,s.low f.1=s.when u∧Rch nx f.1 u
 low2:∀f∈s.way,∀w∈s.wait,s.when f.1<=s.when w->(∀g∈s.way,s.when f.1<s.when g.1->s.when w<s.when g.1)->∀x∈nx w,s.seen w x->x∈s.wait->s.low f.1<=s.when x
 lab:∀x,1<=s.when x->x∉s.wait->IsLab nx x (s.out x)
def TS.meet (s:TS) (nx:Nat->Gr) (x:Nat):TS:=⟨(x,nx x)::s.way,upd s.when x (s.clock+1),upd s.low x (s.clock+1),x::s.wait,s.clock+1,s.out⟩
theorem TInv.inj {nx:Nat->Gr} {s:TS} (h:TInv nx s) {a b:Nat} (ha:a∈s.wait) (hb:b∈s.wait) (e:s.when a=s.when b):a=b:=by
 obtain⟨i,hi,rfl⟩:=E8.1 ha;obtain⟨j,hj,rfl⟩:=E8.1 hb;have hp:=List.pairwise_iff_getElem.1 h.ord;rcases Nat.lt_trichotomy i j with h1|h1|h1
 ·have:=hp i j hi hj h1;omega
 ·subst h1;rfl
 ·have:=hp j i hj hi h1;omega
theorem TInv.first {nx:Nat->Gr} {s:TS} (h:TInv nx s) (hw:s.way=[]) {x:Nat} (hx:s.when x=0) (he:s.wait=[]):TInv nx (s.meet nx x):=by
 obtain⟨way,when,low,wait,clock,out⟩:=s;subst hw he;obtain⟨ord,path,on,sub,met,late,all,done,down,up,low1,low2,lab⟩:=h;simp only at*;have hne:∀v,1<=when v->v≠x:=fun v hv e=>by subst e;omega
 unfold TS.meet;simp only
 constructor<;>simp only[F9,Ft,or_false,forall_eq]
 ·simp
 ·simp
 ·exact fun y hy=>hy
 ·rw[ZI];omega
 ·intro y
  by_cases e:y=x
  ·rw[e,ZI];exact Nat.le_refl _
  ·rw[ZaE _ _ e];exact Nat.le_succ_of_le (late y)
 ·intro v hv y hy hs
  by_cases e:v=x
  ·subst e;exact absurd hy (hs _ (by simp))
  ·rw[ZaE _ _ e]at hv;have:=(done v hv (by simp) y hy).1;rw[ZaE _ _ (hne y this)];exact this
 ·intro v hv m7 y hy;rw[ZaE _ _ m7]at hv;have:=(done v hv (by simp) y hy).1;rw[ZaE _ _ (hne y this)];exact⟨this,hne y this⟩
 ·intro _;exact Rch.refl x
 ·intro h;exact absurd rfl h
 ·refine⟨by rw[ZI,ZI];exact Nat.le_refl _,x,rfl,by rw[ZI,ZI],Rch.refl x⟩
 ·intro _ _ y hy hs;exact absurd hy (hs _ (by simp))
 ·intro y hy hyx;rw[ZaE _ _ hyx]at hy;exact lab y hy (by simp)
theorem TInv.push {nx:Nat->Gr} {v x:Nat} {l:Gr} {way:List (Nat×Gr)} {when low out:Nat->Nat} {wait:Gr} {clock:Nat}
  (h:TInv nx ⟨(v,x::l)::way,when,low,wait,clock,out⟩) (hx:when x=0):TInv nx (TS.meet ⟨(v,l)::way,when,low,wait,clock,out⟩ nx x):=by
 obtain⟨ord,path,on,sub,met,late,all,done,down,up,low1,low2,lab⟩:=h;simp only at*;have hne:∀v,1<=when v->v≠x:=fun v hv e=>by subst e;omega
 have m7:x∈nx v:=sub _ (Fc ..) x (Fc ..);have hw:∀y∈wait,y≠x:=fun y hy=>hne y (met y hy)
 have hv:v∈wait:=on (v,x::l) (Fc ..);have hu:∀y∈wait,upd when x (clock+1) y=when y:=fun y hy=>ZaE _ _ (hw y hy)
 have uS:∀y∈wait,upd low x (clock+1) y=low y:=fun y hy=>ZaE _ _ (hw y hy)
 have aQ:x∉wait:=fun hm=>hw x hm rfl
 have onl:∀f∈(v,l)::way,f.1∈wait:=by
  intro f hf;rcases F9.1 hf with rfl|hf
  ·exact hv
  ·exact on f (E7 _ hf)
 have vmax:∀f∈way,when f.1<when v:=fun f hf=>(Fd.1 path).1 f hf
 have seenOld:∀w y,y≠x∨w≠v->(∀k,(w,k)∈(x,nx x)::(v,l)::way->y∉k)->w≠x->(∀k,(w,k)∈(v,x::l)::way->y∉k):=by
  intro w y hyx hs aJ k hk;rcases F9.1 hk with e|hk
  ·cases e
   have:=hs l (by simp);simp only[F9,not_or];exact⟨hyx.resolve_right (fun h=>h rfl),this⟩
  ·exact hs k (by simp[hk])
 unfold TS.meet;simp only
 constructor<;>simp only
 ·refine Fd.2 ⟨fun y hy=>?_,?_⟩
  ·rw[ZI,hu y hy];have:=late y;omega
  ·refine List.Pairwise.imp_of_mem ?_ ord;intro a b ha hb hab;rw[hu a ha,hu b hb];exact hab
 ·refine Fd.2 ⟨fun f hf=>?_,Fd.2 ⟨fun f hf=>?_,?_⟩⟩
  ·show upd when x (clock+1) f.1<upd when x (clock+1) x
   rw[ZI,hu _ (onl f hf)];have:=late f.1;omega
  ·show upd when x (clock+1) f.1<upd when x (clock+1) v
   rw[hu _ hv,hu _ (onl f (E7 _ hf))];exact vmax f hf
  ·refine List.Pairwise.imp_of_mem ?_ (Fd.1 path).2;intro a b ha hb hab;rw[hu _ (onl a (E7 _ ha)),hu _ (onl b (E7 _ hb))];exact hab
 ·intro f hf;rcases F9.1 hf with rfl|hf
  ·exact Fc ..
  ·exact E7 _ (onl f hf)
 ·intro f hf y hy;rcases F9.1 hf with rfl|hf
  ·exact hy
  ·rcases F9.1 hf with rfl|hf
   ·exact sub (v,x::l) (Fc ..) y (E7 _ hy)
   ·exact sub f (E7 _ hf) y hy
 ·intro y hy;rcases F9.1 hy with rfl|hy
  ·rw[ZI];omega
  ·rw[hu y hy];exact met y hy
 ·intro y
  by_cases e:y=x
  ·rw[e,ZI];exact Nat.le_refl _
  ·rw[ZaE _ _ e];exact Nat.le_succ_of_le (late y)
 ·intro w au y hy hs
  by_cases e:y=x
  ·rw[e,ZI];omega
  ·rw[ZaE _ _ e]
   by_cases ew:w=x
   ·subst ew;exact absurd hy (hs _ (by simp))
   ·rw[ZaE _ _ ew]at au;exact all w au y hy (seenOld w y (Or.inl e) hs ew)
 ·intro w au kr y hy;simp only[F9,not_or]at kr;rw[ZaE _ _ kr.1]at au;have:=done w au kr.2 y hy;rw[ZaE _ _ (hne y this.1)];exact⟨this.1,by simp only[F9,not_or];exact⟨hne y this.1,this.2⟩⟩
 ·intro f hf w au hle
  have AI:∀f∈(v,l)::way,Rch nx f.1 v:=by
   intro f hf;rcases F9.1 hf with rfl|hf
   ·exact Rch.refl _
   ·exact down f (E7 _ hf) v hv (Nat.le_of_lt (vmax f hf))
  rcases F9.1 au with rfl|au
  ·rcases F9.1 hf with rfl|hf
   ·exact Rch.refl _
   ·exact(AI f hf).step m7
  ·rcases F9.1 hf with rfl|hf
   ·simp only at hle;rw[ZI,hu w au]at hle;have:=late w;omega
   ·rw[hu w au,hu _ (onl f hf)]at hle;rcases F9.1 hf with rfl|hf
    ·exact down (v,x::l) (Fc ..) w au hle
    ·exact down f (E7 _ hf) w au hle
 ·intro w au im;rcases F9.1 au with rfl|au
  ·exact absurd rfl (im _ (Fc ..))
  ·obtain⟨u,hu1,hu2,hu3⟩:=up w au (fun f hf=>by
    rcases F9.1 hf with rfl|hf
    ·exact im (v,l) (by simp)
    ·exact im f (by simp[hf]))
   exact⟨u,E7 _ hu1,by rw[hu u hu1,hu w au];exact hu2,hu3⟩
 ·intro f hf;rcases F9.1 hf with rfl|hf
  ·exact⟨by rw[ZI,ZI];exact Nat.le_refl _,x,Fc ..,by rw[ZI,ZI],Rch.refl x⟩
  ·have h1:low f.1<=when f.1∧∃u∈wait,low f.1=when u∧Rch nx f.1 u:=by
    rcases F9.1 hf with rfl|hf
    ·exact low1 (v,x::l) (Fc ..)
    ·exact low1 f (E7 _ hf)
   obtain⟨h1,u,h2,h3,h4⟩:=h1;rw[uS _ (onl f hf),hu _ (onl f hf)];exact⟨h1,u,E7 _ h2,by rw[hu u h2];exact h3,h4⟩
 ·intro f hf w au hle cP y hy hs eJ;rcases F9.1 hf with rfl|hf
  ·-- the new one:nothing of it was looked at
   rcases F9.1 au with rfl|au
   ·exact absurd hy (hs _ (by simp))
   ·simp only at hle;rw[ZI,hu w au]at hle;have:=late w;omega
  ·rcases F9.1 au with rfl|au
   ·exact absurd hy (hs _ (by simp))
   ·have aJ:w≠x:=hw w au;rw[uS _ (onl f hf)];rw[hu _ (onl f hf),hu w au]at hle
    have h1:low f.1<=when f.1:=by
     rcases F9.1 hf with rfl|hf
     ·exact(low1 (v,x::l) (Fc ..)).1
     ·exact(low1 f (E7 _ hf)).1
    rcases F9.1 eJ with e|eJ
    ·-- the arc to the new one
     rw[e,ZI];have:=late f.1;omega
    ·rw[hu y eJ];have gA:=seenOld w y (Or.inl (hw y eJ)) hs aJ;rcases F9.1 hf with rfl|hf
     ·refine low2 (v,x::l) (Fc ..) w au hle ?_ y hy gA eJ;intro g hg hlt;rcases F9.1 hg with rfl|hg
      ·exact absurd hlt (Nat.lt_irrefl _)
      ·have:=vmax g hg;simp only at hlt;omega
     ·refine low2 f (E7 _ hf) w au hle ?_ y hy gA eJ;intro g hg hlt;rcases F9.1 hg with rfl|hg
      ·have:=cP (v,l) (by simp) (by rw[hu _ hv,hu _ (onl f (E7 _ hf))];exact hlt);rw[hu _ hv,hu w au]at this;exact this
      ·have:=cP g (by simp[hg]) (by rw[hu _ (onl g (E7 _ hg)),hu _ (onl f (E7 _ hf))];exact hlt);rw[hu _ (onl g (E7 _ hg)),hu w au]at this;exact this
 ·intro y hy hny;simp only[F9,not_or]at hny;rw[ZaE _ _ hny.1]at hy;exact lab y hy hny.2
theorem TInv.back {nx:Nat->Gr} {v x:Nat} {l:Gr} {way:List (Nat×Gr)} {when low out:Nat->Nat} {wait:Gr} {clock:Nat}
  (h:TInv nx ⟨(v,x::l)::way,when,low,wait,clock,out⟩) (hx:x∈wait):TInv nx ⟨(v,l)::way,when,upd low v (min (low v) (when x)),wait,clock,out⟩:=by
 obtain⟨ord,path,on,sub,met,late,all,done,down,up,low1,low2,lab⟩:=h;simp only at*;have m7:x∈nx v:=sub _ (Fc ..) x (Fc ..);have hv:v∈wait:=on (v,x::l) (Fc ..);have vmax:∀f∈way,when f.1<when v:=fun f hf=>(Fd.1 path).1 f hf
 have vne:∀f∈way,f.1≠v:=fun f hf e=>by have:=vmax f hf;rw[e]at this;omega
 have seenOld:∀w y,y≠x->(∀k,(w,k)∈(v,l)::way->y∉k)->(∀k,(w,k)∈(v,x::l)::way->y∉k):=by
  intro w y hyx hs k hk;rcases F9.1 hk with e|hk
  ·cases e
   simp only[F9,not_or];exact⟨hyx,hs l (by simp)⟩
  ·exact hs k (by simp[hk])
 have segOld:∀(f:Nat×Gr) (w:Nat),(∀g∈(v,l)::way,when f.1<when g.1->when w<when g.1)->∀g∈(v,x::l)::way,when f.1<when g.1->when w<when g.1:=by
  intro f w hs g hg;rcases F9.1 hg with rfl|hg
  ·exact hs (v,l) (by simp)
  ·exact hs g (by simp[hg])
 constructor<;>simp only
 ·exact ord
 ·exact Fd.2 ⟨vmax,(Fd.1 path).2⟩
 ·intro f hf;rcases F9.1 hf with rfl|hf
  ·exact hv
  ·exact on f (E7 _ hf)
 ·intro f hf y hy;rcases F9.1 hf with rfl|hf
  ·exact sub (v,x::l) (Fc ..) y (E7 _ hy)
  ·exact sub f (E7 _ hf) y hy
 ·exact met
 ·exact late
 ·intro w au y hy hs
  by_cases e:y=x
  ·rw[e];exact met x hx
  ·exact all w au y hy (seenOld w y e hs)
 ·exact done
 ·intro f hf w au hle;rcases F9.1 hf with rfl|hf
  ·exact down (v,x::l) (Fc ..) w au hle
  ·exact down f (E7 _ hf) w au hle
 ·intro w au im
  exact up w au fun f hf=>by
   rcases F9.1 hf with rfl|hf
   ·exact im (v,l) (by simp)
   ·exact im f (by simp[hf])
 ·intro f hf;rcases F9.1 hf with rfl|hf
  ·simp only;rw[ZI];obtain⟨h1,u,h2,h3,h4⟩:=low1 (v,x::l) (Fc ..);simp only at h1 h3 h4;refine⟨by omega,?_⟩
   by_cases hc:low v<=when x
   ·exact⟨u,h2,by rw[Nat.min_eq_left hc];exact h3,h4⟩
   ·exact⟨x,hx,by rw[Nat.min_eq_right (by omega)],Rch.one m7⟩
  ·rw[ZaE _ _ (vne f hf)];exact low1 f (E7 _ hf)
 ·intro f hf w au hle cP y hy hs eJ;have fN:=segOld f w cP;rcases F9.1 hf with rfl|hf
  ·simp only;rw[ZI]
   by_cases e:y=x
   ·rw[e];omega
   ·have:=low2 (v,x::l) (Fc ..) w au hle fN y hy (seenOld w y e hs) eJ;simp only at this;omega
  ·rw[ZaE _ _ (vne f hf)]
   by_cases e:w=v
   ·-- v is not of the part of f
    have:=cP (v,l) (by simp) (vmax f hf);rw[e]at this;exact absurd this (Nat.lt_irrefl _)
   ·refine low2 f (E7 _ hf) w au hle fN y hy ?_ eJ;intro k hk;rcases F9.1 hk with e2|hk
    ·cases e2;exact absurd rfl e
    ·exact hs k (by simp[hk])
 ·exact lab
theorem TInv.skip {nx:Nat->Gr} {v x:Nat} {l:Gr} {way:List (Nat×Gr)} {when low out:Nat->Nat} {wait:Gr} {clock:Nat}
  (h:TInv nx ⟨(v,x::l)::way,when,low,wait,clock,out⟩) (hm:1<=when x) (hx:x∉wait):TInv nx ⟨(v,l)::way,when,low,wait,clock,out⟩:=by
 obtain⟨ord,path,on,sub,met,late,all,done,down,up,low1,low2,lab⟩:=h;simp only at*;have hv:v∈wait:=on (v,x::l) (Fc ..);have vmax:∀f∈way,when f.1<when v:=fun f hf=>(Fd.1 path).1 f hf
 have seenOld:∀w y,y≠x->(∀k,(w,k)∈(v,l)::way->y∉k)->(∀k,(w,k)∈(v,x::l)::way->y∉k):=by
  intro w y hyx hs k hk;rcases F9.1 hk with e|hk
  ·cases e
   simp only[F9,not_or];exact⟨hyx,hs l (by simp)⟩
  ·exact hs k (by simp[hk])
 constructor<;>simp only
 ·exact ord
 ·exact Fd.2 ⟨vmax,(Fd.1 path).2⟩
 ·intro f hf;rcases F9.1 hf with rfl|hf
  ·exact hv
  ·exact on f (E7 _ hf)
 ·intro f hf y hy;rcases F9.1 hf with rfl|hf
  ·exact sub (v,x::l) (Fc ..) y (E7 _ hy)
  ·exact sub f (E7 _ hf) y hy
 ·exact met
 ·exact late
 ·intro w au y hy hs
  by_cases e:y=x
  ·rw[e];exact hm
  ·exact all w au y hy (seenOld w y e hs)
 ·exact done
 ·intro f hf w au hle;rcases F9.1 hf with rfl|hf
  ·exact down (v,x::l) (Fc ..) w au hle
  ·exact down f (E7 _ hf) w au hle
 ·intro w au im
  exact up w au fun f hf=>by
   rcases F9.1 hf with rfl|hf
   ·exact im (v,l) (by simp)
   ·exact im f (by simp[hf])
 ·intro f hf;rcases F9.1 hf with rfl|hf
  ·exact low1 (v,x::l) (Fc ..)
  ·exact low1 f (E7 _ hf)
 ·intro f hf w au hle cP y hy hs eJ
  have fN:∀g∈(v,x::l)::way,when f.1<when g.1->when w<when g.1:=by
   intro g hg;rcases F9.1 hg with rfl|hg
   ·exact cP (v,l) (by simp)
   ·exact cP g (by simp[hg])
  have hyx:y≠x:=fun e=>hx (e▸eJ)
  rcases F9.1 hf with rfl|hf
  ·exact low2 (v,x::l) (Fc ..) w au hle fN y hy (seenOld w y hyx hs) eJ
  ·exact low2 f (E7 _ hf) w au hle fN y hy (seenOld w y hyx hs) eJ
 ·exact lab
theorem TInv.pop {nx:Nat->Gr} {v p:Nat} {l:Gr} {way:List (Nat×Gr)} {when low out:Nat->Nat} {wait:Gr} {clock:Nat}
  (h:TInv nx ⟨(v,[])::(p,l)::way,when,low,wait,clock,out⟩) (hl:low v≠when v):TInv nx ⟨(p,l)::way,when,upd low p (min (low p) (low v)),wait,clock,out⟩:=by
 obtain⟨ord,path,on,sub,met,late,all,done,down,up,low1,low2,lab⟩:=h;simp only at*;have hv:v∈wait:=on (v,[]) (Fc ..);have hp:p∈wait:=on (p,l) (by simp);have vmax:∀f∈(p,l)::way,when f.1<when v:=fun f hf=>(Fd.1 path).1 f hf
 have path2:=(Fd.1 path).2;have pmax:∀f∈way,when f.1<when p:=fun f hf=>(Fd.1 path2).1 f hf
 have pne:∀f∈way,f.1≠p:=fun f hf e=>by have:=pmax f hf;rw[e]at this;omega
 have Dg:when p<when v:=vmax (p,l) (by simp)
 have seenOld:∀w y,(∀k,(w,k)∈(p,l)::way->y∉k)->(∀k,(w,k)∈(v,[])::(p,l)::way->y∉k):=by
  intro w y hs k hk;rcases F9.1 hk with e|hk
  ·cases e;simp
  ·exact hs k hk
 constructor<;>simp only
 ·exact ord
 ·exact path2
 ·exact fun f hf=>on f (E7 _ hf)
 ·exact fun f hf=>sub f (E7 _ hf)
 ·exact met
 ·exact late
 ·exact fun w au y hy hs=>all w au y hy (seenOld w y hs)
 ·exact done
 ·exact fun f hf=>down f (E7 _ hf)
 ·intro w au im
  by_cases e:w=v
  ·obtain⟨h1,u,h2,h3,h4⟩:=low1 (v,[]) (Fc ..);simp only at h1 h3 h4;rw[e];exact⟨u,h2,by omega,h4⟩
  ·exact up w au fun f hf=>by
    rcases F9.1 hf with rfl|hf
    ·exact fun e2=>e e2.symm
    ·exact im f hf
 ·intro f hf;rcases F9.1 hf with rfl|hf
  ·simp only;rw[ZI];obtain⟨h1,u,h2,h3,h4⟩:=low1 (p,l) (by simp);obtain⟨k1,u',k2,k3,k4⟩:=low1 (v,[]) (by simp);simp only at h1 h3 h4 k1 k3 k4;refine⟨by omega,?_⟩
   by_cases hc:low p<=low v
   ·exact⟨u,h2,by rw[Nat.min_eq_left hc];exact h3,h4⟩
   ·exact⟨u',k2,by rw[Nat.min_eq_right (by omega)];exact k3,(down (p,l) (by simp) v hv (Nat.le_of_lt Dg)).trans k4⟩
  ·rw[ZaE _ _ (pne f hf)];exact low1 f (by simp[hf])
 ·intro f hf w au hle cP y hy hs eJ;have gA:=seenOld w y hs;rcases F9.1 hf with rfl|hf
  ·simp only;rw[ZI];simp only at hle cP
   by_cases hc:when v<=when w
   ·have:=low2 (v,[]) (by simp) w au hc (by
     intro g hg hlt;rcases F9.1 hg with rfl|hg
     ·exact absurd hlt (Nat.lt_irrefl _)
     ·have:=vmax g hg;simp only at hlt;omega) y hy gA eJ
    simp only at this;omega
   ·have:=low2 (p,l) (by simp) w au hle (by
     intro g hg hlt;rcases F9.1 hg with rfl|hg
     ·simp only;omega
     ·exact cP g hg hlt) y hy gA eJ
    simp only at this;omega
  ·rw[ZaE _ _ (pne f hf)];refine low2 f (by simp[hf]) w au hle ?_ y hy gA eJ;intro g hg hlt;rcases F9.1 hg with rfl|hg
   ·have:=cP (p,l) (by simp) (pmax f hf);simp only at this ⊢;omega
   ·exact cP g hg hlt
 ·exact lab
theorem TInv.root {nx:Nat->Gr} {v:Nat} {way:List (Nat×Gr)} {when low out out':Nat->Nat} {top rest:Gr} {clock m:Nat}
  (h:TInv nx ⟨(v,[])::way,when,low,top++v::rest,clock,out⟩) (hl:low v=when v) (ho:∀x,out' x=if x∈top++[v] then m else out x) (fY:m∈top++[v]) (cX:∀x∈top++[v],m<=x):
  TInv nx ⟨way,when,low,rest,clock,out'⟩:=by
 have Ci:=fun {a b:Nat}=>h.inj (a:=a) (b:=b)
 obtain⟨ord,path,on,sub,met,late,all,done,down,up,low1,low2,lab⟩:=h;simp only at*;have hv:v∈top++v::rest:=by simp
 have vmax:∀f∈way,when f.1<when v:=fun f hf=>(Fd.1 path).1 f hf
 have qZ:∀x∈top,when v<when x:=fun x hx=>(E5.1 ord).2.2 x hx v (Fc ..)
 have fO:∀x∈rest,when x<when v:=fun x hx=>(Fd.1 (E5.1 ord).2.1).1 x hx
 have cI:∀x,x∈top++v::rest↔x∈top++[v]∨x∈rest:=by intro x;simp[or_assoc]
 have dd:∀x,x∈top++[v]↔x∈top++v::rest∧when v<=when x:=by
  intro x
  constructor
  ·intro hx;refine⟨(cI x).2 (Or.inl hx),?_⟩;rcases Fu.1 hx with hx|hx
   ·exact Nat.le_of_lt (qZ x hx)
   ·rw[Fa.1 hx];exact Nat.le_refl _
  ·rintro⟨h1,h2⟩;rcases(cI x).1 h1 with h1|h1
   ·exact h1
   ·have:=fO x h1;omega
 have lC:∀x,x∈top++[v]->x∉rest:=fun x h1 h2=>by have:=((dd x).1 h1).2;have:=fO x h2;omega
 have po:∀x,x∈top->∀f∈(v,[])::way,f.1≠x:=by
  intro x hx f hf e;have h1:=qZ x hx;rcases F9.1 hf with rfl|hf
  ·simp only at e;subst e;omega
  ·have:=vmax f hf;rw[e]at this;omega
 have wseen:∀w∈top++[v],∀y,(∀k,(w,k)∈(v,[])::way->y∉k):=by
  intro w hw y k hk;rcases F9.1 hk with e|hk
  ·cases e;simp
  ·rcases Fu.1 hw with hw|hw
   ·exact absurd rfl (po w hw (w,k) (E7 _ hk))
   ·rw[Fa.1 hw]at hk;have:=vmax _ hk;exact absurd this (Nat.lt_irrefl _)
 have pf:∀w∈top++[v],∀y∈nx w,1<=when y∧y∉rest:=by
  intro w hw y hy;have h1:=(dd w).1 hw;refine⟨all w (met w h1.1) y hy (wseen w hw y),fun hyr=>?_⟩
  have:=low2 (v,[]) (by simp) w h1.1 h1.2 (by
   intro g hg hlt;rcases F9.1 hg with rfl|hg
   ·exact absurd hlt (Nat.lt_irrefl _)
   ·have:=vmax g hg;simp only at hlt;omega) y hy (wseen w hw y) (by rw[cI];exact Or.inr hyr)
  simp only at this;rw[hl]at this;have:=fO y hyr;omega
 have gG:∀a,(1<=when a∧a∉rest)->∀b∈nx a,1<=when b∧b∉rest:=by
  rintro a ⟨h1,h2⟩ b hb
  by_cases ha:a∈top++[v]
  ·exact pf a ha b hb
  ·have Dz:a∉top++v::rest:=fun hm=>by rcases(cI a).1 hm with h3|h3;exact ha h3;exact h2 h3
   have:=done a h1 Dz b hb;exact⟨this.1,fun hr=>this.2 ((cI b).2 (Or.inr hr))⟩
 have hold:∀a,(1<=when a∧a∉top++v::rest)->∀b∈nx a,1<=when b∧b∉top++v::rest:=fun a h1=>done a h1.1 h1.2
 have fG:∀n x,when x<=n->x∈top++[v]->Rch nx x v:=by
  intro n
  induction n with
  |zero=>intro x h1 hx;have:=met x ((dd x).1 hx).1;omega
  |succ n ih=>
   intro x h1 hx
   by_cases e:x=v
   ·rw[e];exact Rch.refl _
   ·have a7:x∈top:=by
     rcases Fu.1 hx with hx|hx
     ·exact hx
     ·exact absurd (Fa.1 hx) e
    obtain⟨u,hu1,hu2,hu3⟩:=up x ((dd x).1 hx).1 (po x a7);have hu4:=Rch.stay (S:=fun a=>1<=when a∧a∉rest) gG hu3 ⟨met x ((dd x).1 hx).1,lC x hx⟩;exact hu3.trans (ih u (by omega) (((cI u).1 hu1).resolve_right hu4.2))
 have pG:∀x∈top++[v],Rch nx v x:=fun x hx=>down (v,[]) (by simp) x ((dd x).1 hx).1 ((dd x).1 hx).2
 constructor<;>simp only
 ·exact(Fd.1 (E5.1 ord).2.1).2
 ·exact(Fd.1 path).2
 ·intro f hf;have h1:=on f (E7 _ hf);rcases(cI _).1 h1 with h2|h2
  ·have:=((dd _).1 h2).2;have:=vmax f hf;omega
  ·exact h2
 ·exact fun f hf=>sub f (E7 _ hf)
 ·exact fun x hx=>met x ((cI x).2 (Or.inr hx))
 ·exact late
 ·intro w au y hy hs
  by_cases hw:w∈top++[v]
  ·exact(pf w hw y hy).1
  ·refine all w au y hy fun k hk=>?_
   rcases F9.1 hk with e|hk
   ·cases e;simp
   ·exact hs k hk
 ·exact fun w au kr=>gG w ⟨au,kr⟩
 ·exact fun f hf w au=>down f (E7 _ hf) w ((cI w).2 (Or.inr au))
 ·intro w au im;have h1:=fO w au
  obtain⟨u,hu1,hu2,hu3⟩:=up w ((cI w).2 (Or.inr au)) (fun f hf=>by
   rcases F9.1 hf with rfl|hf
   ·intro e;simp only at e;subst e;omega
   ·exact im f hf)
  refine⟨u,?_,hu2,hu3⟩;rcases(cI u).1 hu1 with h2|h2
  ·have:=((dd u).1 h2).2;omega
  ·exact h2
 ·intro f hf;obtain⟨h1,u,h2,h3,h4⟩:=low1 f (E7 _ hf);refine⟨h1,u,?_,h3,h4⟩;rcases(cI u).1 h2 with h5|h5
  ·have:=((dd u).1 h5).2;have:=vmax f hf;omega
  ·exact h5
 ·intro f hf w au hle cP y hy hs eJ;have h1:=fO w au;refine low2 f (E7 _ hf) w ((cI w).2 (Or.inr au)) hle ?_ y hy ?_ ((cI y).2 (Or.inr eJ))
  ·intro g hg hlt;rcases F9.1 hg with rfl|hg
   ·exact h1
   ·exact cP g hg hlt
  ·intro k hk;rcases F9.1 hk with e|hk
   ·cases e;simp
   ·exact hs k hk
 ·intro x cD a7;rw[ho x]
  by_cases hx:x∈top++[v]
  ·rw[if_pos hx];have hxv:=fG _ x (Nat.le_refl _) hx;refine⟨hxv.trans (pG m fY),(fG _ m (Nat.le_refl _) fY).trans (pG x hx),fun y h1 h2=>cX y ?_⟩;have h3:=Rch.stay (S:=fun a=>1<=when a∧a∉rest) gG h1 ⟨met x ((dd x).1 hx).1,lC x hx⟩
   apply Classical.byContradiction
   intro hny;have h4:y∉top++v::rest:=fun hm=>by rcases(cI y).1 hm with h5|h5;exact hny h5;exact h3.2 h5
   exact(Rch.stay (S:=fun a=>1<=when a∧a∉top++v::rest) hold h2 ⟨h3.1,h4⟩).2 ((dd x).1 hx).1
  ·rw[if_neg hx];exact lab x cD fun hm=>by rcases(cI x).1 hm with h5|h5;exact hx h5;exact a7 h5
theorem TInv.none_waits {nx:Nat->Gr} {s:TS} (h:TInv nx s) (hw:s.way=[]):s.wait=[]:=by
 apply Classical.byContradiction
 intro hne
 have aH:∀n x,s.when x<=n->x∉s.wait:=by
  intro n
  induction n with
  |zero=>intro x h1 hx;have:=h.met x hx;omega
  |succ n ih=>
   intro x h1 hx;obtain⟨u,hu1,hu2,_⟩:=h.up x hx (by rw[hw];simp);exact ih u (by omega) hu1
 cases hs:s.wait with
 |nil=>exact hne hs
 |cons x l=>exact aH _ x (Nat.le_refl _) (by rw[hs];simp)
theorem TInv.start (nx:Nat->Gr) (low out:Nat->Nat):TInv nx ⟨[],fun _=>0,low,[],0,out⟩:=by
 constructor<;>simp
/- Lists in strict order. -/
theorem ZeN {α:Type} {r:α->α->Prop} (irr:∀a,¬r a a) (tr:∀a b c,r a b->r b c->r a c):∀{l m:List α},l.Pairwise r->m.Pairwise r->(∀x,x∈l↔x∈m)->l=m
 |[],[],_,_,_=>rfl
 |[],b::m,_,_,h=>absurd ((h b).2 Fc) (by simp)
 |a::l,[],_,_,h=>absurd ((h a).1 Fc) (by simp)
 |a::l,b::m,hl,hm,h=>by
  have sW:=Fd.1 hl;have tw:=Fd.1 hm
  have hab:a=b:=by
   rcases F9.1 ((h a).1 Fc)with e|e
   ·exact e
   rcases F9.1 ((h b).2 Fc)with f|f
   ·exact f.symm
   exact absurd (tr _ _ _ (tw.1 a e) (sW.1 b f)) (irr b)
  subst hab
  have:l=m:=ZeN irr tr sW.2 tw.2 fun x=>by
   constructor
   ·intro hx;rcases F9.1 ((h x).1 (E7 _ hx))with e|e
    ·subst e;exact absurd (sW.1 x hx) (irr x)
    ·exact e
   ·intro hx;rcases F9.1 ((h x).2 (E7 _ hx))with e|e
    ·subst e;exact absurd (tw.1 x hx) (irr x)
    ·exact e
  rw[this]
/- Components of a digraph,plain:a search that begins with nobody under way;how long it goes. -/
def Zsh (nx:Nat->Gr) (when:Nat->Nat):Nat->Nat
 |0=>0
 |n+1=>Zsh nx when n+if when n=0 then (nx n).length+2 else 0
def mu (nx:Nat->Gr) (N:Nat) (s:TS):Nat:=Zsh nx s.when N+(s.way.map fun f=>f.2.length+1).sum
/- Components of a digraph,plain:what stays true of the search,with its bounds. -/
def Zdt (when:Nat->Nat):Nat->Nat
 |0=>0
 |n+1=>Zdt when n+if when n=0 then 1 else 0
theorem ZfG (when:Nat->Nat) (x v:Nat) (hx:when x=0) (hv:v≠0):∀n,Zdt (upd when x v) n+(if x<n then 1 else 0)=Zdt when n
 |0=>by simp[Zdt]
 |n+1=>by
  have ih:=ZfG when x v hx hv n
  show Zdt (upd when x v) n+(if upd when x v n=0 then 1 else 0)+(if x<n+1 then 1 else 0)=Zdt when n+if when n=0 then 1 else 0
  by_cases e:n=x
  ·subst e;have e1:(if n<n+1 then 1 else 0)=1:=if_pos (by omega);have e2:(if n<n then 1 else 0)=0:=if_neg (by omega);rw[ZI,if_neg hv,if_pos hx,e1];rw[e2]at ih;omega
  ·rw[ZaE _ _ e]
   have e1:(if x<n+1 then 1 else 0)=if x<n then 1 else 0:=by
    by_cases h:x<n
    ·rw[if_pos h,if_pos (by omega)]
    ·rw[if_neg h,if_neg (by omega)]
   rw[e1];omega
theorem ZdL:∀(l m:Gr),l.Nodup->(∀x∈l,x∈m)->l.length<=m.length
 |[],_,_,_=>Nat.zero_le _
 |x::l,m,hn,hs=>by
  obtain⟨h1,h2⟩:=Fx.1 hn;have hx:=hs x (Fc ..);have:=ZdL l (m.erase x) h2 fun y hy=>(List.mem_erase_of_ne (fun e:y=x=>h1 (by rw[<-e];exact hy))).2 (hs y (E7 _ hy))
  rw[List.length_erase_of_mem hx]at this;have:=Ew hx;rw[Fs];omega
structure FInv (nx:Nat->List Nat) (N:Nat) (s:TS):Prop where
 inv:TInv nx s
 lt:∀y∈s.wait,y<N
 clk:s.clock+Zdt s.when N=N
section
variable {nx:Nat->Gr} {N:Nat} {s:TS}
theorem FInv.nodup (h:FInv nx N s):s.wait.Nodup:=by
 rw[List.nodup_iff_pairwise_ne];exact h.inv.ord.imp fun hab e=>by rw[e]at hab;exact Nat.lt_irrefl _ hab
theorem FInv.room (h:FInv nx N s) {x:Nat} (hx:s.when x=0) (hN:x<N):s.wait.length<N∧x∉s.wait∧s.clock<N:=by
 have me:x∉s.wait:=fun hm=>by have:=h.inv.met x hm;omega
 refine⟨?_,me,?_⟩
 ·have:=(Fx.2 ⟨me,h.nodup⟩)
  have hs:∀y∈x::s.wait,y∈List.range N:=fun y hy=>by
   rw[F8];rcases F9.1 hy with rfl|hy
   ·exact hN
   ·exact h.lt y hy
  have h2:=ZdL _ _ this hs;rw[List.length_range,Fs]at h2;omega
 ·have:=ZfG s.when x 1 hx (by omega) N;rw[if_pos hN]at this;have:=h.clk;omega
theorem FInv.len (h:FInv nx N s):s.wait.length<=N:=by
 have h2:=ZdL s.wait (List.range N) h.nodup fun y hy=>F8.2 (h.lt y hy)
 rwa [List.length_range]at h2
theorem ZlY (hc:s.clock+Zdt s.when N=N) {x:Nat} (hx:s.when x=0) (hN:x<N):(s.meet nx x).clock+Zdt (s.meet nx x).when N=N:=by
 have:=ZfG s.when x (s.clock+1) hx (by omega) N;rw[if_pos hN]at this;unfold TS.meet;simp only;omega
theorem FInv.first (h:FInv nx N s) (hw:s.way=[]) {x:Nat} (hx:s.when x=0) (hN:x<N):FInv nx N (s.meet nx x):=
 ⟨h.inv.first hw hx (h.inv.none_waits hw),fun y hy=>by
  rcases F9.1 hy with rfl|hy
  ·exact hN
  ·exact h.lt y hy,ZlY h.clk hx hN⟩
end
section
variable {nx:Nat->Gr} {N v x p:Nat} {l:Gr} {way:List (Nat×Gr)} {when low out out':Nat->Nat} {wait top rest:Gr} {clock m:Nat}
theorem FInv.push (h:FInv nx N ⟨(v,x::l)::way,when,low,wait,clock,out⟩) (hx:when x=0) (hN:x<N):FInv nx N (TS.meet ⟨(v,l)::way,when,low,wait,clock,out⟩ nx x):=
 ⟨h.inv.push hx,fun y hy=>by
  rcases F9.1 hy with rfl|hy
  ·exact hN
  ·exact h.lt y hy,ZlY (s:=⟨(v,l)::way,when,low,wait,clock,out⟩) h.clk hx hN⟩
theorem FInv.back (h:FInv nx N ⟨(v,x::l)::way,when,low,wait,clock,out⟩) (hx:x∈wait):FInv nx N ⟨(v,l)::way,when,upd low v (min (low v) (when x)),wait,clock,out⟩:=⟨h.inv.back hx,h.lt,h.clk⟩
theorem FInv.skip (h:FInv nx N ⟨(v,x::l)::way,when,low,wait,clock,out⟩) (hm:1<=when x) (hx:x∉wait):FInv nx N ⟨(v,l)::way,when,low,wait,clock,out⟩:=⟨h.inv.skip hm hx,h.lt,h.clk⟩
theorem FInv.pop (h:FInv nx N ⟨(v,[])::(p,l)::way,when,low,wait,clock,out⟩) (hl:low v≠when v):FInv nx N ⟨(p,l)::way,when,upd low p (min (low p) (low v)),wait,clock,out⟩:=⟨h.inv.pop hl,h.lt,h.clk⟩
theorem FInv.root (h:FInv nx N ⟨(v,[])::way,when,low,top++v::rest,clock,out⟩) (hl:low v=when v) (ho:∀x,out' x=if x∈top++[v] then m else out x) (fY:m∈top++[v]) (cX:∀x∈top++[v],m<=x):FInv nx N ⟨way,when,low,rest,clock,out'⟩:=
 ⟨h.inv.root hl ho fY cX,fun y hy=>h.lt y (Ey _ (E7 _ hy)),h.clk⟩
theorem FInv.split (h:FInv nx N ⟨(v,l)::way,when,low,wait,clock,out⟩):∃top rest,wait=top++v::rest∧v∉top:=by
 obtain⟨top,rest,e⟩:=List.append_of_mem (h.inv.on (v,l) (Fc ..));refine⟨top,rest,e,fun hm=>?_⟩;have hn:=h.nodup;simp only at e hn;rw[e]at hn;exact(List.nodup_append.1 hn).2.2 v hm v (by simp) rfl
end
/- Operations that come up in any order,each a step that makes blocks of its own alone:taken one by one,whatever the order. -/
def pend:List (Nat×Nat)->(Nat->Bool)->Nat
 |[],_=>0
 |p::F,D=>(if D p.1 then 0 else 1)+pend F D
section
variable {P:Program} {ops:Array Oper} {Q:Exit->Act->World->Prop} {md:Region.Mode}
def FAll (Pr:Nat×Nat->Prop):List (Nat×Nat)->Prop
 |[]=>True
 |p::F=>Pr p∧FAll Pr F
theorem FAll.at_ {Pr:Nat×Nat->Prop}:∀{F:List (Nat×Nat)},FAll Pr F->∀p∈F,Pr p
 |[],_,_,h=>by cases h
 |q::F,h,p,hp=>by
  rcases F9.1 hp with rfl|hp
  ·exact h.1
  ·exact FAll.at_ h.2 p hp
end
def fstF:List Bool->Nat|[]=>0|false::_=>0|true::l=>fstF l+1
theorem fF0(l:List Bool):fstF (false::l)=0:=rfl
theorem fF1(l:List Bool):fstF (true::l)=fstF l+1:=rfl
theorem fFT(l:List Bool):l.toArray.toList=l:=rfl
theorem wpF{P:Program}{ops:Array Oper}{Q:Exit->Act->World->Prop}{md:Region.Mode}{S:World->Prop}{fuel:Nat}{listed:Array Bool}{a:Act}{w:World}{o:Oper}{L:Array Bool}{b:Act}{v:Value}{i:Nat}(h:wpAnyH P md ops Q S fuel L b w)(hI:fstF listed.toList=i:=by ((try simp only [fFT,fF0,fF1,Nat.reduceAdd]);rfl))(hi:nth ops.toList i=some o:=by rfl)(hy:YieldsIf P ops S o v a:=by first | (refine .inr ⟨by rfl,?_⟩;rfl) | (refine .inl ⟨by rfl,?_⟩;intro W tg;(try dsimp only at tg);go_simp;try (with_reducible rfl)))(hl:listed.setIfInBounds i true=L:=by ((try simp only [sT,sS,sZ]);rfl))(ha:a.put o.dst v=b:=by ((try simp only [Act.put,sT,sS,sZ]);rfl))(hs:Region.noSelect ops=true:=by kernel_rfl)(hf:Region.free md ops listed i=true:=by kernel_rfl)(hr:(Region.ready md ops listed).contains i=true:=by kernel_rfl)(hQ:∀c a w,Q (.panic c) (a.put o.dst v) w->Q (.panic c) a w:=by exact fun _ _ _ h=>h)(hS:S w:=by assumption):wpAnyH P md ops Q S (fuel+1) listed a w:=wpAnyH_take (ZlP hi) hs hf hr hQ hy hS (by rw [hl,ha];exact h)
theorem wpZ{P:Program}{ops:Array Oper}{Q:Exit->Act->World->Prop}{md:Region.Mode}{S:World->Prop}{fuel:Nat}{listed:Array Bool}{a:Act}{w:World}{o:Oper}(i:Nat)(hi:nth ops.toList i=some o)(h:∀K':Act->World->Prop,Shut (∀a w,S w->(S w->wpAnyH P md ops Q S fuel (listed.setIfInBounds i true) a w)->K' a w)->if Region.wanted o (yielded ops a.tmps)=true then Oper.wp P o a w K' Q else K' (a.put o.dst undef) w)(hr:Region.ready md ops listed=[i]:=by kernel_rfl):wpAnyH P md ops Q S (fuel+1) listed a w:=wpR [i] (wpC hi h .nil) hr
theorem Qa:(∀(a:Act)(d:Tmp)(v:Value),a.put (some d) v={a with tmps:=a.tmps.setIfInBounds d v})∧(∀(a:Act)(v:Value),a.put none v=a)∧(∀(l:List Value)(i:Nat)(v:Value),l.toArray.setIfInBounds i v=(l.set i v).toArray)∧(∀(l:List Bool)(i:Nat)(v:Bool),l.toArray.setIfInBounds i v=(l.set i v).toArray)∧(∀(a:Value)(l:List Value)(n:Nat)(v:Value),(a::l).set (n+1) v=a::l.set n v)∧(∀(a:Bool)(l:List Bool)(n:Nat)(v:Bool),(a::l).set (n+1) v=a::l.set n v)∧(∀(a:Value)(l:List Value)(v:Value),(a::l).set 0 v=v::l)∧(∀(a:Bool)(l:List Bool)(v:Bool),(a::l).set 0 v=v::l):=⟨fun _ _ _=>rfl,fun _ _=>rfl,sT,sT,sS,sS,sZ,sZ⟩
theorem Qo{F:Gt}:∀i,F i->¬No i:=fun _ _=>id
abbrev OA:=Option Addr
theorem wpS{P:Program}{ops:Array Oper}{Q:Exit->Act->World->Prop}(S:World->Prop){id:Nat}{a:Act}{w:World}(hS:S w.drew)(h:S w.drew->wpAnyH P .any ops (NoPanic Q) S ops.size (Array.replicate ops.size false) a w.drew)(hm:P.follows .mixedOrders=true:=by kernel_rfl):(Code.region id ops true).wp P Q a w:=wp_region_noPanic (wp_region_held_drew (S:=S) hm hS h)
theorem Ck{P:Program}{f:FuncId}{a:Array Value}{w:World}{v:Value}{Q:World->Prop}{R:Ending->World->Prop}(h:Calls P f a w fun e w'=>e= .returned v∧Q w')(k:∀w',Q w'->R (.returned v) w'):Calls P f a w R:=h.mono fun _ _ h=>h.1▸k _ h.2
abbrev Qi(n:Int):Value:=.int .i64 n
theorem Qf{p:Prop}[Decidable p](h:¬p):decide p=false:=decide_eq_false h
theorem Qt{p:Prop}[Decidable p](h:p):decide p=true:=decide_eq_true h
theorem Qe{α:Sort _}(a:α):∃v,a=v:=⟨a,rfl⟩
abbrev CN(f:FuncId)(a:Array Value)(w:World)(v:Value):Prop:=Calls Tryz.prog f a w fun e w'=>e= .returned v∧Upd No w w'
abbrev CE(f:FuncId)(a:Array Value)(w:World)(v:Value):Prop:=Calls Tryz.prog f a w fun e w'=>e= .returned v∧w=w'
theorem Blk.ew{w b:World}{g:Nat}{t:TypeId}{l:List Value}(h:Blk w g t l)(e:Upd No w b)(i:Nat){v:Value}(k:l[i]?=some v):∀W,Upd No b W->W.cell? ⟨g,i,none⟩=some v:=fun _ u=>((h.upd (e.trans u) id).cell i).trans k
theorem Blk.ev{b:World}{g:Nat}{t:TypeId}{l:List Value}(h:Blk b g t l)(i:Nat){v:Value}(k:l[i]?=some v):∀W,Upd No b W->W.cell? ⟨g,i,none⟩=some v:=fun _ u=>((h.upd u id).cell i).trans k
theorem Blk.c2{w:World}{g:Nat}{t:TypeId}{a0 a1:Value}{r:List Value}(h:Blk w g t (a0::a1::r)):w.cell? ⟨g,0,none⟩=some a0∧w.cell? ⟨g,1,none⟩=some a1:=⟨h.cell 0,h.cell 1⟩
theorem Blk.f2{w:World}{g:Nat}{t:TypeId}{l:List Value}(h:Blk w g t l):w.frozen? ⟨g,0,none⟩=false∧w.frozen? ⟨g,1,none⟩=false:=⟨h.free 0,h.free 1⟩
theorem Blk.c3{w:World}{g:Nat}{t:TypeId}{a0 a1 a2:Value}{r:List Value}(h:Blk w g t (a0::a1::a2::r)):w.cell? ⟨g,0,none⟩=some a0∧w.cell? ⟨g,1,none⟩=some a1∧w.cell? ⟨g,2,none⟩=some a2:=⟨h.cell 0,h.cell 1,h.cell 2⟩
theorem Blk.f3{w:World}{g:Nat}{t:TypeId}{l:List Value}(h:Blk w g t l):w.frozen? ⟨g,0,none⟩=false∧w.frozen? ⟨g,1,none⟩=false∧w.frozen? ⟨g,2,none⟩=false:=⟨h.free 0,h.free 1,h.free 2⟩
theorem Blk.c4{w:World}{g:Nat}{t:TypeId}{a0 a1 a2 a3:Value}{r:List Value}(h:Blk w g t (a0::a1::a2::a3::r)):w.cell? ⟨g,0,none⟩=some a0∧w.cell? ⟨g,1,none⟩=some a1∧w.cell? ⟨g,2,none⟩=some a2∧w.cell? ⟨g,3,none⟩=some a3:=⟨h.cell 0,h.cell 1,h.cell 2,h.cell 3⟩
theorem Blk.f4{w:World}{g:Nat}{t:TypeId}{l:List Value}(h:Blk w g t l):w.frozen? ⟨g,0,none⟩=false∧w.frozen? ⟨g,1,none⟩=false∧w.frozen? ⟨g,2,none⟩=false∧w.frozen? ⟨g,3,none⟩=false:=⟨h.free 0,h.free 1,h.free 2,h.free 3⟩
theorem Blk.c5{w:World}{g:Nat}{t:TypeId}{a0 a1 a2 a3 a4:Value}{r:List Value}(h:Blk w g t (a0::a1::a2::a3::a4::r)):w.cell? ⟨g,0,none⟩=some a0∧w.cell? ⟨g,1,none⟩=some a1∧w.cell? ⟨g,2,none⟩=some a2∧w.cell? ⟨g,3,none⟩=some a3∧w.cell? ⟨g,4,none⟩=some a4:=⟨h.cell 0,h.cell 1,h.cell 2,h.cell 3,h.cell 4⟩
theorem Blk.f5{w:World}{g:Nat}{t:TypeId}{l:List Value}(h:Blk w g t l):w.frozen? ⟨g,0,none⟩=false∧w.frozen? ⟨g,1,none⟩=false∧w.frozen? ⟨g,2,none⟩=false∧w.frozen? ⟨g,3,none⟩=false∧w.frozen? ⟨g,4,none⟩=false:=⟨h.free 0,h.free 1,h.free 2,h.free 3,h.free 4⟩
theorem Blk.c6{w:World}{g:Nat}{t:TypeId}{a0 a1 a2 a3 a4 a5:Value}{r:List Value}(h:Blk w g t (a0::a1::a2::a3::a4::a5::r)):w.cell? ⟨g,0,none⟩=some a0∧w.cell? ⟨g,1,none⟩=some a1∧w.cell? ⟨g,2,none⟩=some a2∧w.cell? ⟨g,3,none⟩=some a3∧w.cell? ⟨g,4,none⟩=some a4∧w.cell? ⟨g,5,none⟩=some a5:=⟨h.cell 0,h.cell 1,h.cell 2,h.cell 3,h.cell 4,h.cell 5⟩
theorem Blk.c7{w:World}{g:Nat}{t:TypeId}{a0 a1 a2 a3 a4 a5 a6:Value}{r:List Value}(h:Blk w g t (a0::a1::a2::a3::a4::a5::a6::r)):w.cell? ⟨g,0,none⟩=some a0∧w.cell? ⟨g,1,none⟩=some a1∧w.cell? ⟨g,2,none⟩=some a2∧w.cell? ⟨g,3,none⟩=some a3∧w.cell? ⟨g,4,none⟩=some a4∧w.cell? ⟨g,5,none⟩=some a5∧w.cell? ⟨g,6,none⟩=some a6:=⟨h.cell 0,h.cell 1,h.cell 2,h.cell 3,h.cell 4,h.cell 5,h.cell 6⟩
theorem Blk.f7{w:World}{g:Nat}{t:TypeId}{l:List Value}(h:Blk w g t l):w.frozen? ⟨g,0,none⟩=false∧w.frozen? ⟨g,1,none⟩=false∧w.frozen? ⟨g,2,none⟩=false∧w.frozen? ⟨g,3,none⟩=false∧w.frozen? ⟨g,4,none⟩=false∧w.frozen? ⟨g,5,none⟩=false∧w.frozen? ⟨g,6,none⟩=false:=⟨h.free 0,h.free 1,h.free 2,h.free 3,h.free 4,h.free 5,h.free 6⟩
abbrev Gi:=List ByteArray
abbrev Gj:=Array Value
abbrev Gk:=List UInt8
abbrev Gl:=List Value
abbrev Gw:=Program
abbrev Gx:=TypeId
abbrev Gy:=World
abbrev Gz:=Value
abbrev Gd:=@NoPanic.normal
abbrev Ge:=@World.size_alloc
abbrev Gf:=@World.ownsRow_nil
abbrev Gg:=@Upd.refl
abbrev Gh:=@Blk.new
