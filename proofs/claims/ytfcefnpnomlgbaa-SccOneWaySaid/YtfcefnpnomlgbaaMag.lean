/- Slices that read as rows of cells. -/
import Derived.Test.YtfcefnpnomlgbaaMae
import Derived.Test.YtfcefnpnomlgbaaMaf
namespace Go.Proofs.Ytfcefnpnomlgbaa
set_option linter.unusedSimpArgs false
set_option linter.unusedVariables false
open Go.RowKit
def Recs (F:Nat→Prop) (w:World) (A:Option Addr) (size:Nat) (rows:List (List Value)):Prop:=
 rows≠[]→∃ad,A=some ad∧F ad.block∧ad.block<w.heap.size∧∀(i:Nat) row,rows[i]? =some row→∀(j:Nat) v,row[j]? =some v→w.cell? (ad.add (i*size+j))=some v
namespace Recs
variable {F S:Nat→Prop} {w w':World} {A:Option Addr} {size:Nat} {rows:List (List Value)}
theorem at_ (h:Recs F w A size rows) {k:Nat} (hk:k<rows.length):∃ad,A=some ad∧F ad.block∧ad.block<w.heap.size∧∀(j:Nat) v,rows[k][j]? =some v→w.cell? (if j=0 then ad.add (k*size) else ⟨(ad.add (k*size)).block,(ad.add (k*size)).off+j,none⟩)=some v:=by
 obtain⟨ad,e,hf,hl,hc⟩:=h (by intro e;subst e;simp at hk)
 refine⟨ad,e,hf,hl,fun j v hj=> ?_⟩
 have:=hc k _ (List.getElem?_eq_getElem hk) j v hj
 rw[←Ints.add_add]at this
 split
 ·rename_i h0;subst h0;simpa[Addr.add]using this
 ·rename_i h0
  rw[←this]
  congr 1
  generalize ad.add (k*size)=X
  unfold Addr.add
  rw[if_neg h0]
theorem upd (h:Recs F w A size rows) (k:Upd S w w') (hn:∀i,F i→¬S i):Recs F w' A size rows:=fun hne=>by
 obtain⟨ad,e,hf,hl,hc⟩:=h hne
 exact⟨ad,e,hf,Nat.lt_of_lt_of_le hl k.size,fun i row hi j v hj=>(k.cell (by rw[Ints.block_add];exact hl) (by rw[Ints.block_add];exact hn _ hf)).trans (hc i row hi j v hj)⟩
theorem lt (h:Recs F w A size rows):Recs (fun i=>i<w.heap.size) w A size rows:=fun hne=>by
 obtain⟨ad,e,_,hl,hc⟩:=h hne
 exact⟨ad,e,hl,hl,hc⟩
end Recs
theorem Ints.weak {F G:Nat→Prop} {w:World} {A:Option Addr} {xs:List Int} (h:Ints F w A xs) (hg:∀i,i<w.heap.size→F i→G i):Ints G w A xs:=fun hne=>by
 obtain⟨ad,e,hf,hl,hc⟩:=h hne
 exact⟨ad,e,hg _ hl hf,hl,hc⟩
theorem Ints.lt' {F:Nat→Prop} {w:World} {A:Option Addr} {xs:List Int} {G:Nat→Prop} (h:Ints F w A xs) (hg:∀i,F i→G i):Ints (fun i=>i<w.heap.size∧G i) w A xs:=fun hne=>by
 obtain⟨ad,e,hf,hl,hc⟩:=h hne
 exact⟨ad,e,⟨hl,hg _ hf⟩,hl,hc⟩
theorem Zb3 {rows:List (List Value)} {size:Nat} (h:∀r∈rows,r.length=size):rows.flatten.length=rows.length*size:=by
 induction rows with
 |nil=>simp
 |cons a l ih=>
  rw[List.flatten_cons,List.length_append,ih (fun r hr=>h r (List.mem_cons_of_mem _ hr)),h a (List.mem_cons_self ..),List.length_cons,Nat.add_mul,Nat.one_mul,Nat.add_comm]
theorem Zf6 {rows:List (List Value)} {size:Nat} (h:∀r∈rows,r.length=size):∀(j:Nat) (v:Value),rows.flatten[j]? =some v→∃(i:Nat) (k:Nat) (r:List Value),rows[i]? =some r∧r[k]? =some v∧j=i*size+k:=by
 induction rows with
 |nil=>intro j v hj;simp at hj
 |cons a l ih=>
  intro j v hj
  have ha:=h a (List.mem_cons_self ..)
  rw[List.flatten_cons,List.getElem?_append]at hj
  split at hj
  ·exact⟨0,j,a,rfl,hj,by omega⟩
  ·obtain⟨i,k,r,h1,h2,h3⟩:=ih (fun r hr=>h r (List.mem_cons_of_mem _ hr)) _ v hj
   refine⟨i+1,k,r,h1,h2,?_⟩
   rw[Nat.add_mul,Nat.one_mul]
   omega
theorem Zdw {rows:List (List Value)} {size:Nat} (h:∀r∈rows,r.length=size) {i k:Nat} {r:List Value} {v:Value} (h1:rows[i]? =some r) (h2:r[k]? =some v):rows.flatten[i*size+k]? =some v:=by
 induction rows generalizing i with
 |nil=>simp at h1
 |cons a l ih=>
  have ha:=h a (List.mem_cons_self ..)
  have hr:=h r (List.mem_of_getElem? h1)
  have hk:=(List.getElem?_eq_some_iff.1 h2).1
  cases i with
  |zero=>
   simp only[List.getElem?_cons_zero,Option.some.injEq]at h1
   subst h1
   rw[List.flatten_cons,List.getElem?_append_left (by omega)]
   simpa using h2
  |succ i=>
   have:=ih (fun r hr=>h r (List.mem_cons_of_mem _ hr)) (i:=i) (by simpa using h1)
   rw[List.flatten_cons,List.getElem?_append_right (by rw[Nat.add_mul];omega),←this]
   congr 1
   rw[Nat.add_mul]
   omega
theorem Recs.src {F:Nat→Prop} {w:World} {A:Option Addr} {size:Nat} {rows:List (List Value)} (h:Recs F w A size rows) (hr:∀r∈rows,r.length=size):Src w A rows.length size rows.flatten:=
 ⟨Zb3 hr,fun hne=>by
  obtain⟨ad,e,_,_,hc⟩:=h (by rintro rfl;simp at hne)
  refine⟨ad,e,fun j v hj=> ?_⟩
  obtain⟨i,k,r,h1,h2,rfl⟩:=Zf6 hr j v hj
  exact hc i r h1 k v h2⟩
theorem Recs.of_own {w:World} {base:Nat} {e:TypeId} {size n c:Nat} {A:Option Addr} {rows:List (List Value)} (hr:∀r∈rows,r.length=size) (hs:0<size) (h:w.ownsRow base e size (.slice A n c) n rows.flatten):Recs (Own (.slice A n c)) w A size rows:=fun hne=>by
 rcases h.2 with ⟨h',hn⟩|⟨g,cap,cur,hv,hb,hg,hnc,hcm,hcs,htake⟩
 ·have:=h.1
  rw[Zb3 hr,hn]at this
  have:rows.length=0:=by
   rcases Nat.mul_eq_zero.1 (show rows.length*size=0 by omega)with h|h<;>omega
  exact absurd (List.eq_nil_of_length_eq_zero this) hne
 ·cases hv
  refine⟨⟨g,0,none⟩,rfl,rfl,(Array.getElem?_eq_some_iff.1 hg).1,fun i row hi j v hj=> ?_⟩
  have e1:(⟨g,0,none⟩:Addr).add (i*size+j)=⟨g,i*size+j,none⟩:=by unfold Addr.add;split<;>simp_all
  rw[e1,cell_of_row _ g _ _ _ (0,0) hg]
  have h2:=Zdw hr hi hj
  rw[←htake,List.getElem?_take]at h2
  split at h2
  ·simpa using h2
  ·cases h2
theorem Recs.weak {F G:Nat→Prop} {w:World} {A:Option Addr} {size:Nat} {rows:List (List Value)} (h:Recs F w A size rows) (hg:∀i,i<w.heap.size→F i→G i):Recs G w A size rows:=fun hne=>by
 obtain⟨ad,e,hf,hl,hc⟩:=h hne
 exact⟨ad,e,hg _ hl hf,hl,hc⟩
theorem Recs.take {F:Nat→Prop} {w:World} {A:Option Addr} {size:Nat} {rows:List (List Value)} (h:Recs F w A size rows) {i:Nat}:Recs F w A size (rows.take i):=fun hne=>by
 obtain⟨ad,e,hf,hl,hc⟩:=h (by intro e;subst e;simp at hne)
 refine⟨ad,e,hf,hl,fun i row hi j v hj=>hc i row ?_ j v hj⟩
 rw[List.getElem?_take]at hi
 split at hi
 ·exact hi
 ·cases hi
theorem Recs.cut {F:Nat→Prop} {w:World} {A:Option Addr} {size:Nat} {rows:List (List Value)} (h:Recs F w A size rows) {i c:Nat} (hc:rows.length≤c):Recs F w (Zad A c i size) size (rows.drop i):=fun hne=>by
 have hi:i<rows.length:=by
  rcases Nat.lt_or_ge i rows.length with h|h
  ·exact h
  ·exact absurd (List.drop_of_length_le h) hne
 obtain⟨ad,rfl,hf,hl,hcc⟩:=h (by intro e;subst e;simp at hi)
 unfold Zad
 rw[if_neg (by omega)]
 refine⟨ad.add (i*size),rfl,by rw[Ints.block_add];exact hf,by rw[Ints.block_add];exact hl,fun k row hk j v hj=> ?_⟩
 rw[Ints.add_add,←hcc (i+k) row (by rw[←hk,List.getElem?_drop]) j v hj,Nat.add_mul,Nat.add_assoc]
theorem Recs.lt' {F:Nat→Prop} {w:World} {A:Option Addr} {size:Nat} {rows:List (List Value)} (h:Recs F w A size rows):Recs (fun i=>i<w.heap.size∧F i) w A size rows:=fun hne=>by
 obtain⟨ad,e,hf,hl,hc⟩:=h hne
 exact⟨ad,e,⟨hl,hf⟩,hl,hc⟩
end Go.Proofs.Ytfcefnpnomlgbaa
/- Components of a digraph,plain:a search that begins with nobody under way;how long it goes. -/
namespace Go.Proofs.Ytfcefnpnomlgbaa
set_option linter.unusedSimpArgs false
set_option linter.unusedVariables false
theorem Zdr (f:Nat→Nat):∀l:List Nat,l≠[]→∃x∈l,∀y∈l,f x≤f y
 |[],h=>absurd rfl h
 |[a],_=>⟨a,by simp,by simp⟩
 |a::b::l,_=>by
  obtain⟨x,hx,h⟩:=Zdr f (b::l) (by simp)
  by_cases hc:f a≤f x
  ·refine⟨a,by simp,fun y hy=> ?_⟩
   rcases List.mem_cons.1 hy with rfl|hy
   ·exact Nat.le_refl _
   ·exact Nat.le_trans hc (h y hy)
  ·refine⟨x,List.mem_cons_of_mem _ hx,fun y hy=> ?_⟩
   rcases List.mem_cons.1 hy with rfl|hy
   ·omega
   ·exact h y hy
theorem TInv.sole {nx:Nat→List Nat} {s:TS} (h:TInv nx s) {v:Nat} {l:List Nat} (hw:s.way=[(v,l)]):s.low v=s.when v:=by
 have hv:v∈s.wait:=h.on (v,l) (by rw[hw];simp)
 obtain⟨x,hx,hmin⟩:=Zdr s.when s.wait (by intro e;rw[e]at hv;cases hv)
 have hxv:x=v:=by
  apply Classical.byContradiction
  intro hne
  obtain⟨u,hu1,hu2,_⟩:=h.up x hx (by rw[hw];simp only[List.mem_singleton,forall_eq];exact fun e=>hne e.symm)
  have:=hmin u hu1
  omega
 obtain⟨h1,u,hu1,hu2,_⟩:=h.low1 (v,l) (by rw[hw];simp)
 have:=hmin u hu1
 rw[hxv]at this
 simp only at h1 hu2
 omega
theorem TInv.keep_low {nx:Nat→List Nat} {v p:Nat} {l k:List Nat} {way:List (Nat×List Nat)} {when low out:Nat→Nat} {wait:List Nat} {clock:Nat}
  (h:TInv nx ⟨(v,l)::(p,k)::way,when,low,wait,clock,out⟩) (hl:low v=when v):min (low p) (low v)=low p:=by
 have h1:=(h.low1 (p,k) (by simp)).1
 have h2:=(List.pairwise_cons.1 h.path).1 (p,k) (by simp)
 simp only at h1 h2
 omega
theorem ZeX (f:Nat→Nat) (x:Nat):upd f x (f x)=f:=by
 funext i
 unfold upd
 split
 ·rename_i e;rw[e]
 ·rfl
def Zbf (nx:Nat→List Nat) (when:Nat→Nat):Nat→Nat
 |0=>0
 |n+1=>Zbf nx when n+if when n=0 then (nx n).length+2 else 0
def mu (nx:Nat→List Nat) (N:Nat) (s:TS):Nat:=Zbf nx s.when N+(s.way.map fun f=>f.2.length+1).sum
theorem ZcC (nx:Nat→List Nat) (when:Nat→Nat) (x v:Nat) (hx:when x=0) (hv:v≠0):∀n,Zbf nx (upd when x v) n+(if x<n then (nx x).length+2 else 0)=Zbf nx when n
 |0=>by simp[Zbf]
 |n+1=>by
  have ih:=ZcC nx when x v hx hv n
  show Zbf nx (upd when x v) n+(if upd when x v n=0 then (nx n).length+2 else 0)+(if x<n+1 then (nx x).length+2 else 0)=Zbf nx when n+if when n=0 then (nx n).length+2 else 0
  by_cases e:n=x
  ·subst e
   have e1:(if n<n+1 then (nx n).length+2 else 0)=(nx n).length+2:=if_pos (by omega)
   have e2:(if n<n then (nx n).length+2 else 0)=0:=if_neg (by omega)
   rw[Zc,if_neg hv,if_pos hx,e1]
   rw[e2]at ih
   omega
  ·rw[Zj _ _ e]
   have e1:(if x<n+1 then (nx x).length+2 else 0)=if x<n then (nx x).length+2 else 0:=by
    by_cases h:x<n
    ·rw[if_pos h,if_pos (by omega)]
    ·rw[if_neg h,if_neg (by omega)]
   rw[e1]
   omega
theorem Zf0 (nx:Nat→List Nat) (N:Nat) (s:TS) {x:Nat} (hx:s.when x=0) (hN:x<N):mu nx N (s.meet nx x)+1=mu nx N s:=by
 have:=ZcC nx s.when x (s.clock+1) hx (by omega) N
 rw[if_pos hN]at this
 unfold mu TS.meet
 simp only[List.map_cons,List.sum_cons]
 omega
end Go.Proofs.Ytfcefnpnomlgbaa
/- Components of a digraph,plain:what stays true of the search,with its bounds. -/
namespace Go.Proofs.Ytfcefnpnomlgbaa
set_option linter.unusedSimpArgs false
set_option linter.unusedVariables false
def ZR (when:Nat→Nat):Nat→Nat
 |0=>0
 |n+1=>ZR when n+if when n=0 then 1 else 0
theorem Zbe (when:Nat→Nat) (x v:Nat) (hx:when x=0) (hv:v≠0):∀n,ZR (upd when x v) n+(if x<n then 1 else 0)=ZR when n
 |0=>by simp[ZR]
 |n+1=>by
  have ih:=Zbe when x v hx hv n
  show ZR (upd when x v) n+(if upd when x v n=0 then 1 else 0)+(if x<n+1 then 1 else 0)=ZR when n+if when n=0 then 1 else 0
  by_cases e:n=x
  ·subst e
   have e1:(if n<n+1 then 1 else 0)=1:=if_pos (by omega)
   have e2:(if n<n then 1 else 0)=0:=if_neg (by omega)
   rw[Zc,if_neg hv,if_pos hx,e1]
   rw[e2]at ih
   omega
  ·rw[Zj _ _ e]
   have e1:(if x<n+1 then 1 else 0)=if x<n then 1 else 0:=by
    by_cases h:x<n
    ·rw[if_pos h,if_pos (by omega)]
    ·rw[if_neg h,if_neg (by omega)]
   rw[e1]
   omega
theorem Zc6 (n:Nat):ZR (fun _=>0) n=n:=by
 induction n with
 |zero=>rfl
 |succ n ih=>unfold ZR;rw[ih];simp
theorem Z4:∀(l m:List Nat),l.Nodup→(∀x∈l,x∈m)→l.length≤m.length
 |[],_,_,_=>Nat.zero_le _
 |x::l,m,hn,hs=>by
  obtain⟨h1,h2⟩:=List.nodup_cons.1 hn
  have hx:=hs x (List.mem_cons_self ..)
  have:=Z4 l (m.erase x) h2 fun y hy=>(List.mem_erase_of_ne (fun e:y=x=>h1 (by rw[←e];exact hy))).2 (hs y (List.mem_cons_of_mem _ hy))
  rw[List.length_erase_of_mem hx]at this
  have:=List.length_pos_of_mem hx
  rw[List.length_cons];omega
structure FInv (nx:Nat→List Nat) (N:Nat) (s:TS):Prop where
 inv:TInv nx s
 lt:∀y∈s.wait,y<N
 clk:s.clock+ZR s.when N=N
section
variable {nx:Nat→List Nat} {N:Nat} {s:TS}
theorem FInv.nodup (h:FInv nx N s):s.wait.Nodup:=by
 rw[List.nodup_iff_pairwise_ne]
 exact h.inv.ord.imp fun hab e=>by rw[e]at hab;exact Nat.lt_irrefl _ hab
theorem FInv.room (h:FInv nx N s) {x:Nat} (hx:s.when x=0) (hN:x<N):s.wait.length<N∧x∉s.wait∧s.clock<N:=by
 have hxw:x∉s.wait:=fun hm=>by have:=h.inv.met x hm;omega
 refine⟨?_,hxw,?_⟩
 ·have:=(List.nodup_cons.2 ⟨hxw,h.nodup⟩)
  have hs:∀y∈x::s.wait,y∈List.range N:=fun y hy=>by
   rw[List.mem_range]
   rcases List.mem_cons.1 hy with rfl|hy
   ·exact hN
   ·exact h.lt y hy
  have h2:=Z4 _ _ this hs
  rw[List.length_range,List.length_cons]at h2
  omega
 ·have:=Zbe s.when x 1 hx (by omega) N
  rw[if_pos hN]at this
  have:=h.clk
  omega
theorem FInv.len (h:FInv nx N s):s.wait.length≤N:=by
 have h2:=Z4 s.wait (List.range N) h.nodup fun y hy=>List.mem_range.2 (h.lt y hy)
 rwa [List.length_range]at h2
theorem Zdn (hc:s.clock+ZR s.when N=N) {x:Nat} (hx:s.when x=0) (hN:x<N):(s.meet nx x).clock+ZR (s.meet nx x).when N=N:=by
 have:=Zbe s.when x (s.clock+1) hx (by omega) N
 rw[if_pos hN]at this
 unfold TS.meet
 simp only
 omega
theorem FInv.first (h:FInv nx N s) (hw:s.way=[]) {x:Nat} (hx:s.when x=0) (hN:x<N):FInv nx N (s.meet nx x):=
 ⟨h.inv.first hw hx (h.inv.none_waits hw),fun y hy=>by
  rcases List.mem_cons.1 hy with rfl|hy
  ·exact hN
  ·exact h.lt y hy,Zdn h.clk hx hN⟩
end
section
variable {nx:Nat→List Nat} {N v x p:Nat} {l:List Nat} {way:List (Nat×List Nat)} {when low out out':Nat→Nat} {wait top rest:List Nat} {clock m:Nat}
theorem FInv.push (h:FInv nx N ⟨(v,x::l)::way,when,low,wait,clock,out⟩) (hx:when x=0) (hN:x<N):FInv nx N (TS.meet ⟨(v,l)::way,when,low,wait,clock,out⟩ nx x):=
 ⟨h.inv.push hx,fun y hy=>by
  rcases List.mem_cons.1 hy with rfl|hy
  ·exact hN
  ·exact h.lt y hy,Zdn (s:=⟨(v,l)::way,when,low,wait,clock,out⟩) h.clk hx hN⟩
theorem FInv.back (h:FInv nx N ⟨(v,x::l)::way,when,low,wait,clock,out⟩) (hx:x∈wait):FInv nx N ⟨(v,l)::way,when,upd low v (min (low v) (when x)),wait,clock,out⟩:=⟨h.inv.back hx,h.lt,h.clk⟩
theorem FInv.skip (h:FInv nx N ⟨(v,x::l)::way,when,low,wait,clock,out⟩) (hm:1≤when x) (hx:x∉wait):FInv nx N ⟨(v,l)::way,when,low,wait,clock,out⟩:=⟨h.inv.skip hm hx,h.lt,h.clk⟩
theorem FInv.pop (h:FInv nx N ⟨(v,[])::(p,l)::way,when,low,wait,clock,out⟩) (hl:low v≠when v):FInv nx N ⟨(p,l)::way,when,upd low p (min (low p) (low v)),wait,clock,out⟩:=⟨h.inv.pop hl,h.lt,h.clk⟩
theorem FInv.root (h:FInv nx N ⟨(v,[])::way,when,low,top++v::rest,clock,out⟩) (hl:low v=when v) (ho:∀x,out' x=if x∈top++[v] then m else out x) (hm1:m∈top++[v]) (hm2:∀x∈top++[v],m≤x):FInv nx N ⟨way,when,low,rest,clock,out'⟩:=
 ⟨h.inv.root hl ho hm1 hm2,fun y hy=>h.lt y (List.mem_append_right _ (List.mem_cons_of_mem _ hy)),h.clk⟩
theorem FInv.split (h:FInv nx N ⟨(v,l)::way,when,low,wait,clock,out⟩):∃top rest,wait=top++v::rest∧v∉top:=by
 obtain⟨top,rest,e⟩:=List.append_of_mem (h.inv.on (v,l) (List.mem_cons_self ..))
 refine⟨top,rest,e,fun hm=> ?_⟩
 have hn:=h.nodup
 simp only at e hn
 rw[e]at hn
 exact(List.nodup_append.1 hn).2.2 v hm v (by simp) rfl
end
end Go.Proofs.Ytfcefnpnomlgbaa
