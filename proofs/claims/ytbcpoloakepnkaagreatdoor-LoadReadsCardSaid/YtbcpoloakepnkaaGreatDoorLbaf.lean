/- Words for memory that the walks of this seat share: what a call may have turned, blocks that are known whole, slices that read as lists. -/
import Derived.WalkKit
import Derived.Handy
import Derived.WalkSpells
import Derived.WalkLawsBesides
import Derived.Lib.Hide
import Derived.Deep.LoopGhost
import Derived.Deep.QuietTactic
import Derived.BigQuiet
import Derived.Deep.DeepFit
import Derived.Deep.DeepMust
import Derived.Outline
import Derived.Maps.AppendAt
import Derived.Deep.RegionHeld3
import Derived.Deep.DeepCutAuto
import Derived.Laws.CopyOwn
import Derived.Deep.AppendLies
namespace Go.Proofs.YtbcpoloakepnkaaGreatDoor
set_option linter.unusedVariables false
set_option linter.unusedSimpArgs false
section
theorem Qh{p:Prop}(h:p):Go.RowKit.Hid p:=Lib.hid h
theorem Qz{α:Type _}{a:α}{l:List α}:(a::l)[0]?=some a:=List.getElem?_cons_zero
theorem Qs{α:Type _}{a:α}{l:List α}{n:Nat}:(a::l)[n+1]?=l[n]?:=List.getElem?_cons_succ
theorem Qg{α:Type _}{l:List α}{i:Nat}(h:i<l.length):l[i]?=some l[i]:=List.getElem?_eq_getElem h
theorem Qn(n:Nat):(0:Int)≤(n:Int):=Int.natCast_nonneg n
open Go.RowKit
def nth:List Oper→Nat→Option Oper
 |[],_=>none
 |o::_,0=>some o
 |_::l,n+1=>nth l n
theorem Zce:∀(l:List Oper) (n:Nat),nth l n=l[n]?
 |[],_=>rfl
 |_::_,0=>rfl
 |_::l,n+1=>by unfold nth;rw[Zce l n];simp
theorem Zbz {ops:Array Oper} {i:Nat} {o:Oper} (h:nth ops.toList i=some o):ops[i]? =some o:=by rw[←h,Zce];simp
theorem sT {α:Type _} (l:List α) (i:Nat) (v:α):l.toArray.setIfInBounds i v=(l.set i v).toArray:=List.setIfInBounds_toArray ..
theorem sS {α:Type _} (a:α) (l:List α) (n:Nat) (v:α):(a::l).set (n+1) v=a::l.set n v:=rfl
theorem sZ {α:Type _} (a:α) (l:List α) (v:α):(a::l).set 0 v=v::l:=rfl
section
variable {P:Program} {ops:Array Oper} {Q:Exit→Act→World→Prop} {md:Region.Mode} {S:World→Prop} {fuel:Nat} {listed:Array Bool} {a:Act} {w:World} {o:Oper} {L:Array Bool} {b:Act}
theorem wpK {v:Value} (i:Nat) (hi:nth ops.toList i=some o) (h:wpAnyH P md ops Q S fuel L b w)
  (hy:YieldsIf P ops S o v a:=by(refine .inl ⟨by rfl,?_⟩;intro W hSw;(try dsimp only at hSw);go_simp;try (with_reducible rfl)))
  (hl:listed.setIfInBounds i true=L:=by((try simp only[sT,sS,sZ]);rfl)) (ha:a.put o.dst v=b:=by((try simp only[Act.put,sT,sS,sZ]);rfl))
  (hs:Region.noSelect ops=true:=by kernel_rfl) (hf:Region.free md ops listed i=true:=by kernel_rfl) (hr:(Region.ready md ops listed).contains i=true:=by kernel_rfl)
  (hQ:∀c a w,Q (.panic c) (a.put o.dst v) w→Q (.panic c) a w:=by exact fun _ _ _ h=>h) (hS:S w:=by assumption):wpAnyH P md ops Q S (fuel+1) listed a w:=wpAnyH_take (Zbz hi) hs hf hr hQ hy hS (by rw[hl,ha];exact h)
theorem wpN (i:Nat) (hi:nth ops.toList i=some o) (h:wpAnyH P md ops Q S fuel L b w) (hy:Region.wanted o (yielded ops a.tmps)=false:=by rfl)
  (hl:listed.setIfInBounds i true=L:=by((try simp only[sT,sS,sZ]);rfl)) (ha:a.put o.dst undef=b:=by((try simp only[Act.put,sT,sS,sZ]);rfl))
  (hs:Region.noSelect ops=true:=by kernel_rfl) (hf:Region.free md ops listed i=true:=by kernel_rfl) (hr:(Region.ready md ops listed).contains i=true:=by kernel_rfl)
  (hQ:∀c a w,Q (.panic c) (a.put o.dst undef) w→Q (.panic c) a w:=by exact fun _ _ _ h=>h) (hS:S w:=by assumption):wpAnyH P md ops Q S (fuel+1) listed a w:=wpAnyH_take (Zbz hi) hs hf hr hQ (.inr ⟨hy,rfl⟩) hS (by rw[hl,ha];exact h)
theorem wpR (rs:List Nat) (h:AllReadyH P md ops Q S fuel listed a w rs) (hr:Region.ready md ops listed=rs:=by kernel_rfl) (hn:rs≠[]:=by simp):wpAnyH P md ops Q S (fuel+1) listed a w:=wpAnyH_ready hr hn h
theorem wpC {i:Nat} {rs:List Nat} (hi:nth ops.toList i=some o)
  (h:∀K':Act→World→Prop,Shut (∀a w,S w→(S w→wpAnyH P md ops Q S fuel (listed.setIfInBounds i true) a w)→K' a w)→if Region.wanted o (yielded ops a.tmps)=true then Oper.wp P o a w K' Q else K' (a.put o.dst undef) w)
  (hs:AllReadyH P md ops Q S fuel listed a w rs):AllReadyH P md ops Q S fuel listed a w (i::rs):= .cons (Zbz hi) h hs
theorem wpD (h:Q .normal a w) (hr:Region.ready md ops listed=[]:=by kernel_rfl):wpAnyH P md ops Q S fuel listed a w:=wpAnyH_done hr h _
end
structure Upd (S:Nat→Prop) (w w':World):Prop where
 os:w'.os=w.os
 tape:w'.tape=w.tape
 output:w'.output=w.output
 size:w.heap.size≤w'.heap.size
 block:∀k,k<w.heap.size→¬S k→w'.heap[k]? =w.heap[k]?
namespace Upd
variable {S T:Nat→Prop} {a w w':World}
theorem refl (S:Nat→Prop) (w:World):Upd S w w:=⟨rfl,rfl,rfl,Nat.le_refl _,fun _ _ _=>rfl⟩
theorem trans_ (h:Upd S a w) (k:Upd T w w') (hT:∀i,i<a.heap.size→T i→S i):Upd S a w':=
 ⟨k.os.trans h.os,k.tape.trans h.tape,k.output.trans h.output,Nat.le_trans h.size k.size,
  fun i hi hn=>(k.block i (Nat.lt_of_lt_of_le hi h.size) (fun t=>hn (hT i hi t))).trans (h.block i hi hn)⟩
theorem trans (h:Upd S a w) (k:Upd S w w'):Upd S a w':=h.trans_ k fun _ _ t=>t
theorem mono (h:Upd S a w) (hT:∀i,i<a.heap.size→S i→T i):Upd T a w:=(refl T a).trans_ h hT
theorem drew (h:Upd S a w):Upd S a w.drew:=⟨h.os,h.tape,h.output,h.size,h.block⟩
theorem drewN (h:Upd S a w) (n:Nat):Upd S a (w.drewN n):=⟨h.os,h.tape,h.output,h.size,h.block⟩
theorem alloc (h:Upd S a w) (o:Obj):Upd S a (w.alloc o):=
 h.trans ⟨rfl,rfl,rfl,by simp,fun k hk _=>Below.heap_alloc w o k hk⟩
theorem setCell (h:Upd S a w) {p:Addr} (hp:S p.block∨a.heap.size≤p.block) (v:Value):Upd S a (w.setCell p v):=
 ⟨h.os,h.tape,h.output,by simpa[World.setCell]using h.size,fun k hk hn=>(Below.heap_setCell w p v k (by
  rintro rfl;rcases hp with hp|hp
  ·exact hn hp
  ·omega)).trans (h.block k hk hn)⟩
theorem below {B:Nat} (h:Upd S a w) (hB:B≤a.heap.size) (hS:∀i,S i→B≤i):Below B a w:=
 ⟨h.os,h.tape,h.output,h.size,fun k hk=>h.block k (by omega) (fun s=>by have:=hS k s;omega)⟩
theorem of_below (h:Below a.heap.size a w):Upd S a w:=⟨h.os,h.tape,h.output,h.size,fun k hk _=>h.block k hk⟩
theorem cell (h:Upd S a w) {p:Addr} (hp:p.block<a.heap.size) (hn:¬S p.block):w.cell? p=a.cell? p:=World.cell?_of_block (h.block _ hp hn)
theorem keep (h:Upd S a w) {p:Addr} {v:Value} (hc:a.cell? p=some v) (hn:¬S p.block):w.cell? p=some v:=(h.cell (block_lt_of_cell hc) hn).trans hc
end Upd
def No:Nat→Prop:=fun _=>False
def One (g:Nat):Nat→Prop:=fun i=>i=g
theorem Upd.setOne {g:Nat} {a w:World} (h:Upd (One g) a w) (i:Nat) (v:Value):Upd (One g) a (w.setCell ⟨g,i,none⟩ v):=h.setCell (p:=⟨g,i,none⟩) (.inl rfl) v
theorem Upd.keepNo {a w:World} (h:Upd No a w) {p:Addr} {v:Value} (hc:a.cell? p=some v):w.cell? p=some v:=h.keep hc id
def Blk (w:World) (g:Nat) (t:TypeId) (cs:List Value):Prop:=w.heap[g]? =some (.cells cs.toArray t (0,0))
namespace Blk
variable {w w':World} {g:Nat} {t:TypeId} {cs:List Value} {S:Nat→Prop}
theorem lt (h:Blk w g t cs):g<w.heap.size:=(Array.getElem?_eq_some_iff.1 h).1
theorem cell (h:Blk w g t cs) (i:Nat):w.cell? ⟨g,i,none⟩=cs[i]? :=by
 rw[cell_of_row w g i _ t (0,0) h,List.getElem?_toArray]
theorem free (h:Blk w g t cs) (i:Nat):w.frozen? ⟨g,i,none⟩=false:=frozen_of_row w g i _ t h
theorem new (w:World) (t:TypeId) (cs:List Value):Blk (w.alloc (.cells cs.toArray t)) w.heap.size t cs:=heap_alloc_new w _
theorem upd (h:Blk w g t cs) (k:Upd S w w') (hn:¬S g):Blk w' g t cs:=(k.block g h.lt hn).trans h
theorem set_ (h:Blk w g t cs) (i:Nat) (v:Value):Blk (w.setCell ⟨g,i,none⟩ v) g t (cs.set i v):=by
 unfold Blk at h ⊢;rw[heap_setCell_same w g i _ t v h];simp
theorem alloc (h:Blk w g t cs) (o:Obj):Blk (w.alloc o) g t cs:=(Below.heap_alloc w o g h.lt).trans h
theorem drew (h:Blk w g t cs):Blk w.drew g t cs:=h
theorem drewN (h:Blk w g t cs) (n:Nat):Blk (w.drewN n) g t cs:=h
end Blk
def Ints (F:Nat→Prop) (w:World) (A:Option Addr) (xs:List Int):Prop:=
 xs≠[]→∃ad,A=some ad∧F ad.block∧ad.block<w.heap.size∧∀j v,xs[j]? =some v→w.cell? (ad.add j)=some (.int .i64 v)
namespace Ints
variable {F S:Nat→Prop} {w w':World} {A:Option Addr} {xs:List Int}
theorem block_add (a:Addr) (n:Nat):(a.add n).block=a.block:=by unfold Addr.add;split<;>rfl
theorem at_ (h:Ints F w A xs) {k:Nat} (hk:k<xs.length):∃ad,A=some ad∧F ad.block∧ad.block<w.heap.size∧w.cell? (ad.add k)=some (.int .i64 xs[k]):=by
 obtain⟨ad,e,hf,hl,hc⟩:=h (by intro e;subst e;simp at hk);exact⟨ad,e,hf,hl,hc k _ (Qg hk)⟩
theorem upd (h:Ints F w A xs) (k:Upd S w w') (hn:∀i,F i→¬S i):Ints F w' A xs:=fun hne=>by
 obtain⟨ad,e,hf,hl,hc⟩:=h hne;exact⟨ad,e,hf,Nat.lt_of_lt_of_le hl k.size,fun j v hj=>(k.cell (by rw[block_add];exact hl) (by rw[block_add];exact hn _ hf)).trans (hc j v hj)⟩
theorem take (h:Ints F w A xs) {i:Nat}:Ints F w A (xs.take i):=fun hne=>by
 obtain⟨ad,e,hf,hl,hc⟩:=h (by intro e;subst e;simp at hne);refine⟨ad,e,hf,hl,fun j v hj=>hc j v ?_⟩;rw[List.getElem?_take]at hj
 split at hj
 ·exact hj
 ·cases hj
theorem add_add (a:Addr) (i j:Nat):(a.add i).add j=a.add (i+j):=by
 unfold Addr.add
 by_cases hi:i=0<;>by_cases hj:j=0<;>simp[hi,hj,Nat.add_assoc]
theorem cut_ (h:Ints F w A xs) {i c:Nat} (hc:xs.length≤c):Ints F w (if c=i then A else A.map (·.add i)) (xs.drop i):=fun hne=>by
 have hi:i<xs.length:=by
  rcases Nat.lt_or_ge i xs.length with h|h
  ·exact h
  ·exact absurd (List.drop_of_length_le h) hne
 obtain⟨ad,rfl,hf,hl,hcc⟩:=h (by intro e;subst e;simp at hi);rw[if_neg (by omega)];refine⟨ad.add i,rfl,by rw[block_add];exact hf,by rw[block_add];exact hl,fun j v hj=> ?_⟩;rw[add_add];exact hcc _ v (by rw[←hj,List.getElem?_drop])
theorem lt (h:Ints F w A xs):Ints (fun i=>i<w.heap.size) w A xs:=fun hne=>by
 obtain⟨ad,e,_,hl,hc⟩:=h hne;exact⟨ad,e,hl,hl,hc⟩
theorem drew (h:Ints F w A xs):Ints F w.drew A xs:=h
theorem drewN (h:Ints F w A xs) (n:Nat):Ints F (w.drewN n) A xs:=h
theorem of_row {cs:Array Value} {g:Nat} {t:TypeId} (hg:w.heap[g]? =some (.cells cs t (0,0))) (hF:F g) (hx:∀(j:Nat) (v:Int),xs[j]? =some v→cs[j]? =some (Value.int .i64 v)):Ints F w (some ⟨g,0,none⟩) xs:=fun _=>by
 refine⟨_,rfl,hF,(Array.getElem?_eq_some_iff.1 hg).1,fun j v hj=> ?_⟩;have e:(⟨g,0,none⟩:Addr).add j=⟨g,j,none⟩:=by unfold Addr.add;split<;>simp_all
 rw[e,cell_of_row w g j cs t (0,0) hg];exact hx j v hj
theorem of_own {base:Nat} {e:TypeId} {n c:Nat} (h:w.ownsRow base e 1 (.slice A n c) n (xs.map (Value.int .i64))):Ints (fun i=>base≤i) w A xs:=fun hne=>by
 rcases h.2 with ⟨h',hn⟩|⟨g,cap,cur,hv,hb,hg,hnc,hcm,hcs,htake⟩
 ·have:=h.1;simp only[List.length_map]at this;have:xs.length=0:=by omega
  exact absurd (List.eq_nil_of_length_eq_zero this) hne
 ·simp only[Value.slice.injEq]at hv;obtain⟨rfl,_,rfl⟩:=hv;refine of_row (F:=fun i=>base≤i) hg hb (fun j v hj=> ?_) hne;have h2:(xs.map (Value.int .i64))[j]? =some (.int .i64 v):=by rw[List.getElem?_map,hj];rfl
  rw[←htake,List.getElem?_take]at h2
  split at h2
  ·simpa using h2
  ·cases h2
end Ints
def SlT (P:Program) (t e:TypeId) (size bytes:Nat):Prop:=
 P.underlying t=some (.slice e)∧∃i z,P.info? e=some i∧i.zero=some z∧i.size=size∧i.bytes=bytes∧z.cells.size=size∧0<size
theorem SlT.mk_ {P:Program} {t e:TypeId} {z:Value} {size bytes:Nat} (h1:P.underlying t=some (.slice e))
  (h2:(P.info? e).map (fun i=>(i.zero,i.size,i.bytes))=some (some z,size,bytes)) (h3:z.cells.size=size) (h4:0<size):SlT P t e size bytes:=by
 obtain⟨i,a,b,c,d⟩:=info_parts h2;exact⟨h1,i,z,a,b,c,d,h3,h4⟩
theorem Zbq {w:World} {base:Nat} {e:TypeId} {size:Nat} {v:Value} {n:Nat} {xs:List Value} (h:w.ownsRow base e size v n xs):∃A c,v= .slice A n c:=by
 rcases h.2 with ⟨rfl,rfl⟩|⟨g,cap,cur,rfl,_⟩
 ·exact⟨none,0,rfl⟩
 ·exact⟨_,_,rfl⟩
theorem Zh {S:Nat→Prop} {w w':World} {base:Nat} {e:TypeId} {size:Nat} {v:Value} {n:Nat} {xs:List Value} (h:w.ownsRow base e size v n xs) (k:Upd S w w') (hn:∀i,v.ownBlock=some i→¬S i):w'.ownsRow base e size v n xs:=by
 refine⟨h.1,?_⟩;rcases h.2 with h0|⟨g,cap,cur,rfl,hb,hg,rest⟩
 ·exact .inl h0
 ·exact .inr ⟨g,cap,cur,rfl,hb,(k.block g (Array.getElem?_eq_some_iff.1 hg).1 (hn g rfl)).trans hg,rest⟩
theorem Zby {w:World} {base b2:Nat} {e:TypeId} {size:Nat} {v:Value} {n:Nat} {xs:List Value} (h:w.ownsRow base e size v n xs) (hb:b2≤base):w.ownsRow b2 e size v n xs:=by
 refine⟨h.1,?_⟩;rcases h.2 with h0|⟨g,cap,cur,hv,hg,rest⟩
 ·exact .inl h0
 ·exact .inr ⟨g,cap,cur,hv,Nat.le_trans hb hg,rest⟩
def ZO (A:Option Addr) (cap l size:Nat):Option Addr:=if cap=l then A else A.map (·.add (l*size))
section
variable {P:Program} {t e:TypeId} {size bytes:Nat} (W:World)
theorem ZaM (hT:SlT P t e size bytes) (A:Option Addr) (len cap l:Nat) (h1:l≤len):
  (Instr.slice t (.slice A len cap) (some (.int .i64 l)) none none).run P W= .ok (.slice (ZO A cap l size) (len-l) (cap-l)) W:=by
 obtain⟨ht,i,z,hi,hz,hsize,hby,hzs,hsz⟩:=hT;have hel:P.elem t=e:=by simp[Program.elem,ht]
 rw[run_slice_l _ t A len cap (by rw[hel];exact ht) _ _ (by omega) (by omega)];simp[sizeOf,typeInfo,hel,hi,hsize,sliced,ZO,Result.andThen]
theorem Zb8 (hT:SlT P t e size bytes) (A:Option Addr) (len cap h:Nat) (h1:h≤cap):
  (Instr.slice t (.slice A len cap) none (some (.int .i64 h)) none).run P W= .ok (.slice (ZO A cap 0 size) h cap) W:=by
 obtain⟨ht,i,z,hi,hz,hsize,hby,hzs,hsz⟩:=hT;have hel:P.elem t=e:=by simp[Program.elem,ht]
 rw[run_slice_h _ t A len cap (by rw[hel];exact ht) _ _ (by omega) (by omega)];simp[sizeOf,typeInfo,hel,hi,hsize,sliced,ZO,Result.andThen]
end
theorem Ints.cut {F:Nat→Prop} {w:World} {A:Option Addr} {xs:List Int} (h:Ints F w A xs) {i c:Nat} (hc:xs.length≤c):Ints F w (ZO A c i 1) (xs.drop i):=by
 unfold ZO;rw[Nat.mul_one];exact h.cut_ hc
def ZcO (w:World) (v v':Value):Prop:=v'.ownBlock=v.ownBlock∨∃k,v'.ownBlock=some k∧w.heap.size≤k
def Own (v:Value):Nat→Prop:=fun i=>v.ownBlock=some i
theorem Upd.of_grown {w w':World} {v:Value} (h:w.grownBy w' v.ownBlock):Upd (Own v) w w':=
 ⟨h.os,h.tape,h.output,h.size,fun k hk hn=>h.block k hk (fun e=>hn e.symm)⟩
section
variable {P:Program} {ops:Array Oper} {rest:List Oper} {o:Oper} {a:Act} {Q:Exit→Act→World→Prop}
theorem Zey {W:World} (hgd:o.guard=none) {s x:Operand} {t:TypeId}
  (ho:o.op= .call {callee:= .builtin .append,args:= #[s,x],argTypes:= #[t,t]}) {e:TypeId} {size bytes:Nat} (hT:SlT P t e size bytes)
  {base:Nat} {v:Value} {n c:Nat} {xs cells:List Value} (hs:a.eval s=v) (hx:a.eval x= .slice (some ⟨W.heap.size,0,none⟩) 1 c)
  (hown:W.ownsRow base e size v n xs) (hl:cells.length=size) (h1:cells.all (·.oneCell')=true) (hn:n+1≤9223372036854775807)
  (hb:(n+1)*bytes≤140737488355328) (hbase:base≤W.heap.size)
  (h:∀v' w',w'.ownsRow base e size v' (n+1) (xs++cells)→Upd (Own v) W w'→ZcO W v v'→wpList P ops Q rest (a.put o.dst v') w'):
  wpList P ops Q (o::rest) a (W.alloc (.cells cells.toArray e)):=by
 obtain⟨ht,i,z,hi,hz,hsize,hby,hzs,hsz⟩:=hT
 have hnews:∀j v,cells[j]? =some v→(W.alloc (.cells cells.toArray e)).cell? ((⟨W.heap.size,0,none⟩:Addr).add j)=some v:=fun j v hj=>by
  have e1:(⟨W.heap.size,0,none⟩:Addr).add j=⟨W.heap.size,j,none⟩:=by unfold Addr.add;split<;>simp_all
  rw[e1,cell_of_row _ _ j _ e (0,0) (heap_alloc_new W _),List.getElem?_toArray];exact hj
 obtain⟨v',w',hr,h2,h3,_,h5⟩:=Go.run_append_own_at (P:=P) (W.alloc (.cells cells.toArray e)) base t o.type e i z size bytes ht hi hz hsize hby hzs hsz v n xs (hown.alloc _)
  ⟨W.heap.size,0,none⟩ 1 c cells (by omega) hnews (by simpa using h1) (by simp only[maxLen];omega) hb (by simp;omega)
 refine wpList_plain hgd fun _ hK=> ?_
 unfold Oper.wp execOp;simp only[ho,resolve,invoke,builtin,Sem.run_bind,Sem.run_pure,Result.andThen_ok,List.map_toArray,List.map_cons,List.map_nil,hs,hx,hr];refine hK _ _ (h v' w' h2 (((Upd.refl _ _).alloc _).trans (Upd.of_grown h3)) ?_);rcases h5 with h5|h5
 ·exact .inl h5
 ·exact .inr ⟨_,h5,by simp⟩
end
section
variable {P:Program} {ops:Array Oper} {o:Oper} {a:Act} {Q:Exit→Act→World→Prop}
end
theorem ZS {P:Program} {ops:Array Oper} {rest:List Oper} {o:Oper} {a:Act} {Q:Exit→Act→World→Prop} {W:World} (hgd:o.guard=none) {s x:Operand} {t:TypeId}
  (ho:o.op= .call {callee:= .builtin .append,args:= #[s,x],argTypes:= #[t,t]}) {e:TypeId} {size bytes:Nat} (hT:SlT P t e size bytes)
  {base:Nat} {v:Value} {n c:Nat} {xs cells:List Value} (hs:a.eval s=v) (hx:a.eval x= .slice (some ⟨W.heap.size,0,none⟩) 1 c)
  (hown:W.ownsRow base e size v n xs) (hl:cells.length=size) (h1:cells.all (·.oneCell')=true) (hn:n+1≤9223372036854775807)
  (hb:(n+1)*bytes≤140737488355328) (hbase:base≤W.heap.size)
  (h:∀g cap w',w'.ownsRow base e size (.slice (some ⟨g,0,none⟩) (n+1) cap) (n+1) (xs++cells)→Upd (Own v) W w'→(v.ownBlock=some g∨W.heap.size≤g)→g<w'.heap.size→
   wpList P ops Q rest (a.put o.dst (.slice (some ⟨g,0,none⟩) (n+1) cap)) w'):
  wpList P ops Q (o::rest) a (W.alloc (.cells cells.toArray e)):=by
 refine Zey hgd ho hT hs hx hown hl h1 hn hb hbase fun v' w' h2 h3 h4=> ?_
 obtain⟨g,cap,rfl,_,hlt⟩:=h2.form (by omega);refine h g cap w' h2 h3 ?_ hlt;rcases h4 with h4|⟨k,h4,hk⟩
 ·exact .inl h4.symm
 ·cases h4;exact .inr hk
theorem ZbA {W:World} {cs:List Value} {e:TypeId} (j:Nat) (v:Value) (hj:cs[j]? =some v):(W.alloc (.cells cs.toArray e)).cell? ((⟨W.heap.size,0,none⟩:Addr).add j)=some v:=
 World.news_of_block (heap_alloc_new W _) j v (by simpa using hj)
section
variable {P:Program} {w:World} {ops:Array Oper} {rest:List Oper} {o:Oper} {a:Act} {Q:Exit→Act→World→Prop}
end
section
variable {P:Program} {ops:Array Oper} {rest:List Oper} {o:Oper} {a:Act} {Q:Exit→Act→World→Prop}
end
section
variable {P:Program} {ops:Array Oper} {o:Oper} {a:Act} {Q:Exit→Act→World→Prop}
end
theorem Upd.then_ {S T:Nat→Prop} {w w1 w2:World} (h:Upd S w w1) (h2:Upd T w1 w2) (hT:∀i,T i→S i∨w.heap.size≤i):Upd S w w2:=
 h.trans_ h2 fun i hi t=>by
  rcases hT i t with s|s
  ·exact s
  ·omega
def bytes (s:ByteArray):List Int:=s.data.toList.map fun b=>(b.toNat:Int)
end
/- Slices that read as rows of cells. -/
section
open Go.RowKit
def Recs (F:Nat→Prop) (w:World) (A:Option Addr) (size:Nat) (rows:List (List Value)):Prop:=
 rows≠[]→∃ad,A=some ad∧F ad.block∧ad.block<w.heap.size∧∀(i:Nat) row,rows[i]? =some row→∀(j:Nat) v,row[j]? =some v→w.cell? (ad.add (i*size+j))=some v
namespace Recs
variable {F S:Nat→Prop} {w w':World} {A:Option Addr} {size:Nat} {rows:List (List Value)}
theorem at_ (h:Recs F w A size rows) {k:Nat} (hk:k<rows.length):∃ad,A=some ad∧F ad.block∧ad.block<w.heap.size∧∀(j:Nat) v,rows[k][j]? =some v→w.cell? (if j=0 then ad.add (k*size) else ⟨(ad.add (k*size)).block,(ad.add (k*size)).off+j,none⟩)=some v:=by
 obtain⟨ad,e,hf,hl,hc⟩:=h (by intro e;subst e;simp at hk);refine⟨ad,e,hf,hl,fun j v hj=> ?_⟩;have:=hc k _ (Qg hk) j v hj;rw[←Ints.add_add]at this
 split
 ·rename_i h0;subst h0;simpa[Addr.add]using this
 ·rename_i h0
  rw[←this]
  congr 1
  generalize ad.add (k*size)=X
  unfold Addr.add;rw[if_neg h0]
theorem upd (h:Recs F w A size rows) (k:Upd S w w') (hn:∀i,F i→¬S i):Recs F w' A size rows:=fun hne=>by
 obtain⟨ad,e,hf,hl,hc⟩:=h hne;exact⟨ad,e,hf,Nat.lt_of_lt_of_le hl k.size,fun i row hi j v hj=>(k.cell (by rw[Ints.block_add];exact hl) (by rw[Ints.block_add];exact hn _ hf)).trans (hc i row hi j v hj)⟩
theorem lt (h:Recs F w A size rows):Recs (fun i=>i<w.heap.size) w A size rows:=fun hne=>by
 obtain⟨ad,e,_,hl,hc⟩:=h hne;exact⟨ad,e,hl,hl,hc⟩
end Recs
theorem Ints.weak {F G:Nat→Prop} {w:World} {A:Option Addr} {xs:List Int} (h:Ints F w A xs) (hg:∀i,i<w.heap.size→F i→G i):Ints G w A xs:=fun hne=>by
 obtain⟨ad,e,hf,hl,hc⟩:=h hne;exact⟨ad,e,hg _ hl hf,hl,hc⟩
theorem ZcD {rows:List (List Value)} {size:Nat} (h:∀r∈rows,r.length=size):rows.flatten.length=rows.length*size:=by
 induction rows with
 |nil=>simp
 |cons a l ih=>
  rw[List.flatten_cons,List.length_append,ih (fun r hr=>h r (List.mem_cons_of_mem _ hr)),h a (List.mem_cons_self ..),List.length_cons,Nat.add_mul,Nat.one_mul,Nat.add_comm]
theorem ZcE {rows:List (List Value)} {size:Nat} (h:∀r∈rows,r.length=size) {i k:Nat} {r:List Value} {v:Value} (h1:rows[i]? =some r) (h2:r[k]? =some v):rows.flatten[i*size+k]? =some v:=by
 induction rows generalizing i with
 |nil=>simp at h1
 |cons a l ih=>
  have ha:=h a (List.mem_cons_self ..);have hr:=h r (List.mem_of_getElem? h1);have hk:=(List.getElem?_eq_some_iff.1 h2).1
  cases i with
  |zero=>
   simp only[Qz,Option.some.injEq]at h1;subst h1;rw[List.flatten_cons,List.getElem?_append_left (by omega)]
   simpa using h2
  |succ i=>
   have:=ih (fun r hr=>h r (List.mem_cons_of_mem _ hr)) (i:=i) (by simpa using h1);rw[List.flatten_cons,List.getElem?_append_right (by rw[Nat.add_mul];omega),←this]
   congr 1
   rw[Nat.add_mul];omega
theorem Recs.of_own {w:World} {base:Nat} {e:TypeId} {size n c:Nat} {A:Option Addr} {rows:List (List Value)} (hr:∀r∈rows,r.length=size) (hs:0<size) (h:w.ownsRow base e size (.slice A n c) n rows.flatten):Recs (Own (.slice A n c)) w A size rows:=fun hne=>by
 rcases h.2 with ⟨h',hn⟩|⟨g,cap,cur,hv,hb,hg,hnc,hcm,hcs,htake⟩
 ·have:=h.1;rw[ZcD hr,hn]at this
  have:rows.length=0:=by
   rcases Nat.mul_eq_zero.1 (show rows.length*size=0 by omega)with h|h<;>omega
  exact absurd (List.eq_nil_of_length_eq_zero this) hne
 ·cases hv
  refine⟨⟨g,0,none⟩,rfl,rfl,(Array.getElem?_eq_some_iff.1 hg).1,fun i row hi j v hj=> ?_⟩;have e1:(⟨g,0,none⟩:Addr).add (i*size+j)=⟨g,i*size+j,none⟩:=by unfold Addr.add;split<;>simp_all
  rw[e1,cell_of_row _ g _ _ _ (0,0) hg];have h2:=ZcE hr hi hj;rw[←htake,List.getElem?_take]at h2
  split at h2
  ·simpa using h2
  ·cases h2
theorem Recs.weak {F G:Nat→Prop} {w:World} {A:Option Addr} {size:Nat} {rows:List (List Value)} (h:Recs F w A size rows) (hg:∀i,i<w.heap.size→F i→G i):Recs G w A size rows:=fun hne=>by
 obtain⟨ad,e,hf,hl,hc⟩:=h hne;exact⟨ad,e,hg _ hl hf,hl,hc⟩
theorem Recs.take {F:Nat→Prop} {w:World} {A:Option Addr} {size:Nat} {rows:List (List Value)} (h:Recs F w A size rows) {i:Nat}:Recs F w A size (rows.take i):=fun hne=>by
 obtain⟨ad,e,hf,hl,hc⟩:=h (by intro e;subst e;simp at hne);refine⟨ad,e,hf,hl,fun i row hi j v hj=>hc i row ?_ j v hj⟩;rw[List.getElem?_take]at hi
 split at hi
 ·exact hi
 ·cases hi
theorem Recs.cut {F:Nat→Prop} {w:World} {A:Option Addr} {size:Nat} {rows:List (List Value)} (h:Recs F w A size rows) {i c:Nat} (hc:rows.length≤c):Recs F w (ZO A c i size) size (rows.drop i):=fun hne=>by
 have hi:i<rows.length:=by
  rcases Nat.lt_or_ge i rows.length with h|h
  ·exact h
  ·exact absurd (List.drop_of_length_le h) hne
 obtain⟨ad,rfl,hf,hl,hcc⟩:=h (by intro e;subst e;simp at hi);unfold ZO;rw[if_neg (by omega)];refine⟨ad.add (i*size),rfl,by rw[Ints.block_add];exact hf,by rw[Ints.block_add];exact hl,fun k row hk j v hj=> ?_⟩;rw[Ints.add_add,←hcc (i+k) row (by rw[←hk,List.getElem?_drop]) j v hj,Nat.add_mul,Nat.add_assoc]
end
end Go.Proofs.YtbcpoloakepnkaaGreatDoor
