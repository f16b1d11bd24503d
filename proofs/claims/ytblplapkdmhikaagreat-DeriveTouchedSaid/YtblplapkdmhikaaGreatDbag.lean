/- Components of a digraph, plain: what stays true of the search, with its bounds. -/
import Derived.Test.YtblplapkdmhikaaGreatDbaf
namespace Go.Proofs.YtblplapkdmhikaaGreat
set_option linter.unusedVariables false
set_option linter.unusedSimpArgs false
section
def ZbB (when:Nat→Nat):Nat→Nat
 |0=>0
 |n+1=>ZbB when n+if when n=0 then 1 else 0
theorem Zdf (when:Nat→Nat) (x v:Nat) (hx:when x=0) (hv:v≠0):∀n,ZbB (upd when x v) n+(if x<n then 1 else 0)=ZbB when n
 |0=>by simp[ZbB]
 |n+1=>by
  have ih:=Zdf when x v hx hv n
  show ZbB (upd when x v) n+(if upd when x v n=0 then 1 else 0)+(if x<n+1 then 1 else 0)=ZbB when n+if when n=0 then 1 else 0
  by_cases e:n=x
  ·subst e;have e1:(if n<n+1 then 1 else 0)=1:=if_pos (by omega);have e2:(if n<n then 1 else 0)=0:=if_neg (by omega);rw[ZA,if_neg hv,if_pos hx,e1];rw[e2]at ih;omega
  ·rw[Zah _ _ e]
   have e1:(if x<n+1 then 1 else 0)=if x<n then 1 else 0:=by
    by_cases h:x<n
    ·rw[if_pos h,if_pos (by omega)]
    ·rw[if_neg h,if_neg (by omega)]
   rw[e1];omega
theorem ZbN:∀(l m:List Nat),l.Nodup→(∀x∈l,x∈m)→l.length≤m.length
 |[],_,_,_=>Nat.zero_le _
 |x::l,m,hn,hs=>by
  obtain⟨h1,h2⟩:=List.nodup_cons.1 hn;have hx:=hs x (List.mem_cons_self ..);have:=ZbN l (m.erase x) h2 fun y hy=>(List.mem_erase_of_ne (fun e:y=x=>h1 (by rw[←e];exact hy))).2 (hs y (List.mem_cons_of_mem _ hy))
  rw[List.length_erase_of_mem hx]at this;have:=List.length_pos_of_mem hx;rw[List.length_cons];omega
structure FInv (nx:Nat→List Nat) (N:Nat) (s:TS):Prop where
 inv:TInv nx s
 lt:∀y∈s.wait,y<N
 clk:s.clock+ZbB s.when N=N
section
variable {nx:Nat→List Nat} {N:Nat} {s:TS}
theorem FInv.nodup (h:FInv nx N s):s.wait.Nodup:=by
 rw[List.nodup_iff_pairwise_ne];exact h.inv.ord.imp fun hab e=>by rw[e]at hab;exact Nat.lt_irrefl _ hab
theorem FInv.room (h:FInv nx N s) {x:Nat} (hx:s.when x=0) (hN:x<N):s.wait.length<N∧x∉s.wait∧s.clock<N:=by
 have hxw:x∉s.wait:=fun hm=>by have:=h.inv.met x hm;omega
 refine⟨?_,hxw,?_⟩
 ·have:=(List.nodup_cons.2 ⟨hxw,h.nodup⟩)
  have hs:∀y∈x::s.wait,y∈List.range N:=fun y hy=>by
   rw[List.mem_range];rcases List.mem_cons.1 hy with rfl|hy
   ·exact hN
   ·exact h.lt y hy
  have h2:=ZbN _ _ this hs;rw[List.length_range,List.length_cons]at h2;omega
 ·have:=Zdf s.when x 1 hx (by omega) N;rw[if_pos hN]at this;have:=h.clk;omega
theorem FInv.len (h:FInv nx N s):s.wait.length≤N:=by
 have h2:=ZbN s.wait (List.range N) h.nodup fun y hy=>List.mem_range.2 (h.lt y hy)
 rwa [List.length_range]at h2
theorem ZhQ (hc:s.clock+ZbB s.when N=N) {x:Nat} (hx:s.when x=0) (hN:x<N):(s.meet nx x).clock+ZbB (s.meet nx x).when N=N:=by
 have:=Zdf s.when x (s.clock+1) hx (by omega) N;rw[if_pos hN]at this;unfold TS.meet;simp only;omega
theorem FInv.first (h:FInv nx N s) (hw:s.way=[]) {x:Nat} (hx:s.when x=0) (hN:x<N):FInv nx N (s.meet nx x):=
 ⟨h.inv.first hw hx (h.inv.none_waits hw),fun y hy=>by
  rcases List.mem_cons.1 hy with rfl|hy
  ·exact hN
  ·exact h.lt y hy,ZhQ h.clk hx hN⟩
end
section
variable {nx:Nat→List Nat} {N v x p:Nat} {l:List Nat} {way:List (Nat×List Nat)} {when low out out':Nat→Nat} {wait top rest:List Nat} {clock m:Nat}
theorem FInv.push (h:FInv nx N ⟨(v,x::l)::way,when,low,wait,clock,out⟩) (hx:when x=0) (hN:x<N):FInv nx N (TS.meet ⟨(v,l)::way,when,low,wait,clock,out⟩ nx x):=
 ⟨h.inv.push hx,fun y hy=>by
  rcases List.mem_cons.1 hy with rfl|hy
  ·exact hN
  ·exact h.lt y hy,ZhQ (s:=⟨(v,l)::way,when,low,wait,clock,out⟩) h.clk hx hN⟩
theorem FInv.back (h:FInv nx N ⟨(v,x::l)::way,when,low,wait,clock,out⟩) (hx:x∈wait):FInv nx N ⟨(v,l)::way,when,upd low v (min (low v) (when x)),wait,clock,out⟩:=⟨h.inv.back hx,h.lt,h.clk⟩
theorem FInv.skip (h:FInv nx N ⟨(v,x::l)::way,when,low,wait,clock,out⟩) (hm:1≤when x) (hx:x∉wait):FInv nx N ⟨(v,l)::way,when,low,wait,clock,out⟩:=⟨h.inv.skip hm hx,h.lt,h.clk⟩
theorem FInv.root (h:FInv nx N ⟨(v,[])::way,when,low,top++v::rest,clock,out⟩) (hl:low v=when v) (ho:∀x,out' x=if x∈top++[v] then m else out x) (hm1:m∈top++[v]) (hm2:∀x∈top++[v],m≤x):FInv nx N ⟨way,when,low,rest,clock,out'⟩:=
 ⟨h.inv.root hl ho hm1 hm2,fun y hy=>h.lt y (List.mem_append_right _ (List.mem_cons_of_mem _ hy)),h.clk⟩
theorem FInv.split (h:FInv nx N ⟨(v,l)::way,when,low,wait,clock,out⟩):∃top rest,wait=top++v::rest∧v∉top:=by
 obtain⟨top,rest,e⟩:=List.append_of_mem (h.inv.on (v,l) (List.mem_cons_self ..));refine⟨top,rest,e,fun hm=> ?_⟩;have hn:=h.nodup;simp only at e hn;rw[e]at hn;exact(List.nodup_append.1 hn).2.2 v hm v (by simp) rfl
end
end
/- Operations that come up in any order,each a step that makes blocks of its own alone:taken one by one,whatever the order. -/
section
open Go.RowKit
def ZlP:List (Nat×Nat)→(Nat→Bool)→Nat
 |[],_=>0
 |p::F,D=>(if D p.1 then 0 else 1)+ZlP F D
section
variable {P:Program} {ops:Array Oper} {Q:Exit→Act→World→Prop} {md:Region.Mode}
def FAll (Pr:Nat×Nat→Prop):List (Nat×Nat)→Prop
 |[]=>True
 |p::F=>Pr p∧FAll Pr F
theorem FAll.at_ {Pr:Nat×Nat→Prop}:∀{F:List (Nat×Nat)},FAll Pr F→∀p∈F,Pr p
 |[],_,_,h=>by cases h
 |q::F,h,p,hp=>by
  rcases List.mem_cons.1 hp with rfl|hp
  ·exact h.1
  ·exact FAll.at_ h.2 p hp
end
end
end Go.Proofs.YtblplapkdmhikaaGreat
