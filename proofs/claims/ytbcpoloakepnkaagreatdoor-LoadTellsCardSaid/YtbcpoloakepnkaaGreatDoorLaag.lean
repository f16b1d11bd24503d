/- Slices that read as rows of cells. -/
import Derived.Test.YtbcpoloakepnkaaGreatDoorLaaf
namespace Go.Proofs.YtbcpoloakepnkaaGreatDoor
set_option linter.unusedVariables false
set_option linter.unusedSimpArgs false
section
open Go.RowKit
def Recs (F:Nat→Prop) (w:World) (A:Option Addr) (size:Nat) (rows:List (List Value)):Prop:=
 rows≠[]→∃ad,A=some ad∧F ad.block∧ad.block<w.heap.size∧∀(i:Nat) row,rows[i]? =some row→∀(j:Nat) v,row[j]? =some v→w.cell? (ad.add (i*size+j))=some v
namespace Recs
variable {F S:Nat→Prop} {w w':World} {A:Option Addr} {size:Nat} {rows:List (List Value)}
theorem at_ (h:Recs F w A size rows) {k:Nat} (hk:k<rows.length):∃ad,A=some ad∧F ad.block∧ad.block<w.heap.size∧∀(j:Nat) v,rows[k][j]? =some v→w.cell? (if j=0 then ad.add (k*size) else ⟨(ad.add (k*size)).block,(ad.add (k*size)).off+j,none⟩)=some v:=by
 obtain⟨ad,e,hf,hl,hc⟩:=h (by intro e;subst e;simp at hk);refine⟨ad,e,hf,hl,fun j v hj=> ?_⟩;have:=hc k _ (Qg hk) j v hj;rw[←Ints.add_add]at this
 split
 ·rename_i h0;subst h0;simpa[Addr.add]using this
 ·rename_i h0
  rw[←this]
  congr 1
  generalize ad.add (k*size)=X
  unfold Addr.add;rw[if_neg h0]
theorem upd (h:Recs F w A size rows) (k:Upd S w w') (hn:∀i,F i→¬S i):Recs F w' A size rows:=fun hne=>by
 obtain⟨ad,e,hf,hl,hc⟩:=h hne;exact⟨ad,e,hf,Nat.lt_of_lt_of_le hl k.size,fun i row hi j v hj=>(k.cell (by rw[Ints.block_add];exact hl) (by rw[Ints.block_add];exact hn _ hf)).trans (hc i row hi j v hj)⟩
theorem lt (h:Recs F w A size rows):Recs (fun i=>i<w.heap.size) w A size rows:=fun hne=>by
 obtain⟨ad,e,_,hl,hc⟩:=h hne;exact⟨ad,e,hl,hl,hc⟩
end Recs
theorem Ints.weak {F G:Nat→Prop} {w:World} {A:Option Addr} {xs:List Int} (h:Ints F w A xs) (hg:∀i,i<w.heap.size→F i→G i):Ints G w A xs:=fun hne=>by
 obtain⟨ad,e,hf,hl,hc⟩:=h hne;exact⟨ad,e,hg _ hl hf,hl,hc⟩
theorem Zcn {rows:List (List Value)} {size:Nat} (h:∀r∈rows,r.length=size):rows.flatten.length=rows.length*size:=by
 induction rows with
 |nil=>simp
 |cons a l ih=>
  rw[List.flatten_cons,List.length_append,ih (fun r hr=>h r (List.mem_cons_of_mem _ hr)),h a (List.mem_cons_self ..),List.length_cons,Nat.add_mul,Nat.one_mul,Nat.add_comm]
theorem Zco {rows:List (List Value)} {size:Nat} (h:∀r∈rows,r.length=size) {i k:Nat} {r:List Value} {v:Value} (h1:rows[i]? =some r) (h2:r[k]? =some v):rows.flatten[i*size+k]? =some v:=by
 induction rows generalizing i with
 |nil=>simp at h1
 |cons a l ih=>
  have ha:=h a (List.mem_cons_self ..);have hr:=h r (List.mem_of_getElem? h1);have hk:=(List.getElem?_eq_some_iff.1 h2).1
  cases i with
  |zero=>
   simp only[Qz,Option.some.injEq]at h1;subst h1;rw[List.flatten_cons,List.getElem?_append_left (by omega)]
   simpa using h2
  |succ i=>
   have:=ih (fun r hr=>h r (List.mem_cons_of_mem _ hr)) (i:=i) (by simpa using h1);rw[List.flatten_cons,List.getElem?_append_right (by rw[Nat.add_mul];omega),←this]
   congr 1
   rw[Nat.add_mul];omega
theorem Recs.of_own {w:World} {base:Nat} {e:TypeId} {size n c:Nat} {A:Option Addr} {rows:List (List Value)} (hr:∀r∈rows,r.length=size) (hs:0<size) (h:w.ownsRow base e size (.slice A n c) n rows.flatten):Recs (Own (.slice A n c)) w A size rows:=fun hne=>by
 rcases h.2 with ⟨h',hn⟩|⟨g,cap,cur,hv,hb,hg,hnc,hcm,hcs,htake⟩
 ·have:=h.1;rw[Zcn hr,hn]at this
  have:rows.length=0:=by
   rcases Nat.mul_eq_zero.1 (show rows.length*size=0 by omega)with h|h<;>omega
  exact absurd (List.eq_nil_of_length_eq_zero this) hne
 ·cases hv
  refine⟨⟨g,0,none⟩,rfl,rfl,(Array.getElem?_eq_some_iff.1 hg).1,fun i row hi j v hj=> ?_⟩;have e1:(⟨g,0,none⟩:Addr).add (i*size+j)=⟨g,i*size+j,none⟩:=by unfold Addr.add;split<;>simp_all
  rw[e1,cell_of_row _ g _ _ _ (0,0) hg];have h2:=Zco hr hi hj;rw[←htake,List.getElem?_take]at h2
  split at h2
  ·simpa using h2
  ·cases h2
theorem Recs.weak {F G:Nat→Prop} {w:World} {A:Option Addr} {size:Nat} {rows:List (List Value)} (h:Recs F w A size rows) (hg:∀i,i<w.heap.size→F i→G i):Recs G w A size rows:=fun hne=>by
 obtain⟨ad,e,hf,hl,hc⟩:=h hne;exact⟨ad,e,hg _ hl hf,hl,hc⟩
theorem Recs.take {F:Nat→Prop} {w:World} {A:Option Addr} {size:Nat} {rows:List (List Value)} (h:Recs F w A size rows) {i:Nat}:Recs F w A size (rows.take i):=fun hne=>by
 obtain⟨ad,e,hf,hl,hc⟩:=h (by intro e;subst e;simp at hne);refine⟨ad,e,hf,hl,fun i row hi j v hj=>hc i row ?_ j v hj⟩;rw[List.getElem?_take]at hi
 split at hi
 ·exact hi
 ·cases hi
theorem Recs.cut {F:Nat→Prop} {w:World} {A:Option Addr} {size:Nat} {rows:List (List Value)} (h:Recs F w A size rows) {i c:Nat} (hc:rows.length≤c):Recs F w (ZW A c i size) size (rows.drop i):=fun hne=>by
 have hi:i<rows.length:=by
  rcases Nat.lt_or_ge i rows.length with h|h
  ·exact h
  ·exact absurd (List.drop_of_length_le h) hne
 obtain⟨ad,rfl,hf,hl,hcc⟩:=h (by intro e;subst e;simp at hi);unfold ZW;rw[if_neg (by omega)];refine⟨ad.add (i*size),rfl,by rw[Ints.block_add];exact hf,by rw[Ints.block_add];exact hl,fun k row hk j v hj=> ?_⟩;rw[Ints.add_add,←hcc (i+k) row (by rw[←hk,List.getElem?_drop]) j v hj,Nat.add_mul,Nat.add_assoc]
end
end Go.Proofs.YtbcpoloakepnkaaGreatDoor
