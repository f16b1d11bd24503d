/- Witnesses, plain: how many edges there are, what a witness is. -/
import Derived.Laws.StructEq
import Derived.Test.YtonblekdfinpkaaGreatSyak
import Derived.Test.YtonblekdfinpkaaGreatSybe
import Derived.Test.YtonblekdfinpkaaGreatSybg
import Derived.Test.YtonblekdfinpkaaGreatSybh
import Derived.Test.YtonblekdfinpkaaGreatSybi
import Derived.Test.YtonblekdfinpkaaGreatSybm
import Derived.Test.YtonblekdfinpkaaGreatSybn
import Derived.Test.YtonblekdfinpkaaGreatSybp
import Derived.Test.YtonblekdfinpkaaGreatSybq
import Derived.Test.YtonblekdfinpkaaGreatSybv
import Derived.Test.YtonblekdfinpkaaGreatSybw
namespace Go.Proofs.YtonblekdfinpkaaGreat
set_option linter.unusedVariables false
set_option linter.unusedSimpArgs false
section
open Go.RowKit
theorem Zc2 {α:Type} [DecidableEq α]:∀(l m:List α),l.Nodup→(∀x∈l,x∈m)→l.length≤m.length
 |[],_,_,_=>Nat.zero_le _
 |x::l,m,hn,hs=>by
  obtain⟨h1,h2⟩:=List.nodup_cons.1 hn;have hx:=hs x (List.mem_cons_self ..);have:=Zc2 l (m.erase x) h2 fun y hy=>(List.mem_erase_of_ne (fun e:y=x=>h1 (by rw[←e];exact hy))).2 (hs y (List.mem_cons_of_mem _ hy))
  rw[List.length_erase_of_mem hx]at this;have:=List.length_pos_of_mem hx;rw[List.length_cons];omega
theorem Zjy (key:Int):∀l:List Int,(wwO key l).length≤l.length
 |[]=>by simp[wwO]
 |[a]=>by simp[wwO]
 |a::b::l=>by
  have:=Zjy key (b::l)
  show(⟨a,b,1,key⟩::wwO key (b::l)).length≤_
  rw[List.length_cons];simp only[List.length_cons]at*;omega
theorem Zer {α β:Type} (f:α→List β) (K:Nat):∀l:List α,(∀x∈l,(f x).length≤K)→(l.flatMap f).length≤K*l.length
 |[],_=>by simp
 |x::l,h=>by
  have h1:=h x (List.mem_cons_self ..);have h2:=Zer f K l fun y hy=>h y (List.mem_cons_of_mem _ hy)
  rw[List.flatMap_cons,List.length_append,List.length_cons,Nat.mul_succ];omega
theorem ZiW {h:Hist} (hl:Zv h=true):h.ords.length≤24∧∀o∈h.ords,o.txs.length≤24:=by
 unfold Zv at hl;simp only[Bool.and_eq_true,decide_eq_true_eq,List.all_eq_true]at hl;exact⟨hl.1.1.2,fun t ht=>hl.2 t ht⟩
theorem ZgD {h:Hist} (hl:Zv h=true):(ZD h).length≤1152:=by
 by_cases hr:Za h=true
 ·obtain⟨n1,n2⟩:=Zke hl;obtain⟨n3,n4⟩:=ZiW hl
  have h1:((ZD h).map (·.e)).length≤(wwL (fun _=>true) h.ords++rdL (fun _=>true) (Zd h.txs) (Zg h.txs) (Zu h.ords) h.txs).length:=by
   refine Zc2 _ _ ?_ fun e he=> ?_
   ·rw[List.nodup_iff_pairwise_ne,List.pairwise_map];exact Zkw
   ·obtain⟨x,hx,rfl⟩:=List.mem_map.1 he;have hc:=((ZbR hr).1 hx).1;have hg:=Zit hr (fun _=>true) x.e;rw[if_pos rfl]at hg;rw[←hg]at hc;unfold Zjc at hc;rw[List.mem_append]
    apply Classical.byContradiction
    intro hn;rw[not_or]at hn
    apply hc
    unfold Zaw;rw[if_neg hn.1,Nat.zero_add];unfold Zm;rw[List.length_eq_zero_iff,List.filter_eq_nil_iff];intro y hy;simp only[decide_eq_true_eq];intro e;rw[e]at hy;exact hn.2 hy
  rw[List.length_map,List.length_append]at h1
  have h2:(wwL (fun _=>true) h.ords).length≤24*h.ords.length:=Zer _ 24 _ fun o ho=>by
   unfold wwC;rw[if_pos rfl];exact Nat.le_trans (Zjy _ _) (n4 o ho)
  have h3:(rdL (fun _=>true) (Zd h.txs) (Zg h.txs) (Zu h.ords) h.txs).length≤48*(h.txs.filter (·.done)).length:=Zer _ 48 _ fun t ht=>by
   have h4:(rdO (fun _=>true) (Zd h.txs) (Zg h.txs) (Zu h.ords) t.id t.ops).length≤2*(t.ops.filter fun o=>o.read&&true).length:=Zer _ 2 _ fun o _=>Zf9 _ _ _ _ _
   have h5:=List.length_filter_le (fun o:HOp=>o.read&&true) t.ops;have h6:=n2 t (List.mem_filter.1 ht).1;exact Nat.le_trans h4 (by omega)
  have h7:=List.length_filter_le (fun t:HTx=>t.done) h.txs;omega
 ·unfold ZD;rw[if_neg hr];simp
structure HWit where
 p:Int
 walk:List Edge
 read:HBad
deriving DecidableEq
def HWit.at_ (x:HWit) (A:Option Addr) (c:Nat):List Value:=[.int .i64 x.p,.slice A x.walk.length c,.int .i64 x.read.tx,.int .i64 x.read.place,.int .i64 x.read.of.tx,.int .i64 x.read.of.key,.int .i64 x.read.of.nth]
theorem EdX.nil {w:World} {A:Option Addr}:EdX w A []:=⟨fun _=>True,fun h=>absurd rfl h⟩
end
/- Phenomena:the answers that the document gives. -/
section
open Go.RowKit
theorem Zn8 (w:World):Calls Tryz.prog 46 #[] w fun e w'=>∃N,e= .returned (.agg #[.slice (some ⟨N+1+1+1,0,none⟩) 2 2,.slice (some ⟨N+1+1+1+1+1+1,0,none⟩) 2 2])∧(Zak N).lies (fun _=>True) w'∧Upd No w w':=
 (Zn7 w).mono fun e w' h=>⟨_,h⟩
theorem ph0 (n:Nat):Zv (Zak n)=true:=by kernel_rfl
def f1:Edge:=⟨1,2,1,0⟩
def f2:Edge:=⟨2,1,3,-1⟩
section
variable {F:Nat→Prop} {w:World} {N:Nat} {p:Int} {b:Bool}
end
end
/- Witnesses:of edges,of reads,of a history:the program's and the document's. -/
section
open Go.RowKit
theorem ToldC.no {w:World} {d:List Edge} {e:Ending} {w':World} (h:ToldC w d e w') (hd:d=[]):∃A c,e= .returned (.tuple #[.slice A 0 c,.int .i64 3])∧Upd No w w':=by
 obtain⟨A,c,rfl,_,hu⟩:=h;subst hd;exact⟨A,c,rfl,hu⟩
end
end Go.Proofs.YtonblekdfinpkaaGreat
