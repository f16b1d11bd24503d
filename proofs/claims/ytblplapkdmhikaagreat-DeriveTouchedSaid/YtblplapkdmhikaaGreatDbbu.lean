/- Edges of a history: the example's history. -/
import Derived.Test.YtblplapkdmhikaaGreatDbbj
import Derived.Test.YtblplapkdmhikaaGreatDbbs
namespace Go.Proofs.YtblplapkdmhikaaGreat
set_option linter.unusedVariables false
set_option linter.unusedSimpArgs false
section
open Go.RowKit
def ZF (n:Nat):Hist:=
 ⟨[⟨1,true,[⟨false,5,0,0⟩],some ⟨n+1+1,0,none⟩,1⟩,⟨2,true,[⟨false,5,0,0⟩,⟨true,5,1,1⟩],some ⟨n+1+1+1,0,none⟩,2⟩,⟨3,true,[⟨true,5,0,0⟩,⟨true,5,0,0⟩],some ⟨n+1+1+1+1,0,none⟩,2⟩],
  [⟨5,[1,2],some ⟨n+1+1+1+1+1+1,0,none⟩,2⟩],some ⟨n+1+1+1+1+1,0,none⟩,3,some ⟨n+1+1+1+1+1+1+1,0,none⟩,1⟩
theorem Zjg {W:World} {n:Nat} {t1 t2 t3 t4:TypeId}
  (b1:Blk W (n+1+1) t1 [.bool false,.int .i64 5,.int .i64 0,.int .i64 0])
  (b2:Blk W (n+1+1+1) t1 [.bool false,.int .i64 5,.int .i64 0,.int .i64 0,.bool true,.int .i64 5,.int .i64 1,.int .i64 1])
  (b3:Blk W (n+1+1+1+1) t1 [.bool true,.int .i64 5,.int .i64 0,.int .i64 0,.bool true,.int .i64 5,.int .i64 0,.int .i64 0])
  (b4:Blk W (n+1+1+1+1+1) t2 [.int .i64 1,.bool true,.slice (some ⟨n+1+1,0,none⟩) 1 1,.int .i64 2,.bool true,.slice (some ⟨n+1+1+1,0,none⟩) 2 2,.int .i64 3,.bool true,.slice (some ⟨n+1+1+1+1,0,none⟩) 2 2])
  (b5:Blk W (n+1+1+1+1+1+1) t3 [.int .i64 1,.int .i64 2])
  (b6:Blk W (n+1+1+1+1+1+1+1) t4 [.int .i64 5,.slice (some ⟨n+1+1+1+1+1+1,0,none⟩) 2 2]):
  (ZF n).lies (fun _=>True) W:=by
 have h3:∀(l:List HTx),∀r∈l.map HTx.cells,r.length=3:=fun l r hr=>by
  obtain⟨e,_,rfl⟩:=List.mem_map.1 hr;rfl
 have h2:∀(l:List HOrd),∀r∈l.map HOrd.cells,r.length=2:=fun l r hr=>by
  obtain⟨e,_,rfl⟩:=List.mem_map.1 hr;rfl
 refine⟨(Zcw (h3 _) b4).weak fun _ _ _=>trivial,(Zcw (h2 _) b6).weak fun _ _ _=>trivial,?_,?_,by simp[ZF],by simp[ZF],by simp[ZF],by simp[ZF]⟩
 ·intro t ht;simp only[ZF,List.mem_cons,List.not_mem_nil,or_false]at ht;rcases ht with rfl|rfl|rfl
  ·refine⟨Recs.weak (Zcw ZcB b1) fun _ _ _=>trivial,by simp,by unfold Zg;simp,by unfold i64;simp,?_⟩;intro o ho;simp only[List.mem_cons,List.not_mem_nil,or_false]at ho;subst ho;unfold HOp.ok i64;decide
  ·refine⟨Recs.weak (Zcw ZcB b2) fun _ _ _=>trivial,by simp,by unfold Zg;simp,by unfold i64;simp,?_⟩;intro o ho;simp only[List.mem_cons,List.not_mem_nil,or_false]at ho;rcases ho with rfl|rfl<;>(unfold HOp.ok i64;decide)
  ·refine⟨Recs.weak (Zcw ZcB b3) fun _ _ _=>trivial,by simp,by unfold Zg;simp,by unfold i64;simp,?_⟩;intro o ho;simp only[List.mem_cons,List.not_mem_nil,or_false]at ho;rcases ho with rfl|rfl<;>(unfold HOp.ok i64;decide)
 ·intro o ho;simp only[ZF,List.mem_cons,List.not_mem_nil,or_false]at ho;subst ho;refine⟨(Ze3 (xs:=[1,2]) b5).weak fun _ _ _=>trivial,by simp,by simp,by unfold i64;simp,?_⟩;intro n hn;simp only[List.mem_cons,List.not_mem_nil,or_false]at hn;rcases hn with rfl|rfl<;>(unfold i64;decide)
def ZnR (w:World) (e:Ending) (w':World):Prop:=e= .returned (.agg #[.slice (some ⟨w.heap.size+1+1+1+1+1,0,none⟩) 3 3,.slice (some ⟨w.heap.size+1+1+1+1+1+1+1,0,none⟩) 1 1])∧(ZF w.heap.size).lies (fun _=>True) w'∧Upd No w w'
set_option maxRecDepth 100000 in
theorem ZnA (w:World):Calls Tryz.prog 57 #[] w (ZnR w):=by
 go_enter Tryz.func57,Tryz.ntmps57
 go_wp2;refine bodyPost_ret (v:= .agg #[.slice (some ⟨w.heap.size+1+1+1+1+1,0,none⟩) 3 3,.slice (some ⟨w.heap.size+1+1+1+1+1+1+1,0,none⟩) 1 1]) (by simp[results,Tryz.results57,go_sem]) rfl ⟨rfl,?_,(((((((((Upd.refl No w).alloc _).alloc _).alloc _).alloc _).alloc _).alloc _).alloc _).alloc _)⟩;exact Zjg ((((((Blk.new_at (by simp only[World.size_alloc])).alloc _).alloc _).alloc _).alloc _).alloc _) (((((Blk.new_at (by simp only[World.size_alloc])).alloc _).alloc _).alloc _).alloc _) ((((Blk.new_at (by simp only[World.size_alloc])).alloc _).alloc _).alloc _) (((Blk.new_at (by simp only[World.size_alloc])).alloc _).alloc _) ((Blk.new_at (by simp only[World.size_alloc])).alloc _) (Blk.new_at (by simp only[World.size_alloc]))
def s1:Hvy:=⟨⟨1,2,1,5⟩,1⟩
def s2:Hvy:=⟨⟨1,2,2,5⟩,1⟩
def s3:Hvy:=⟨⟨3,1,3,5⟩,2⟩
section
variable (n:Nat)
theorem sa1:Zc (ZF n)=[s1,s2,s3]:=by kernel_rfl
end
end
/- Edges of a history:the answers that the document gives. -/
section
open Go.RowKit
def HvX (w:World) (A:Option Addr) (l:List Hvy):Prop:=∃G,Hvys G w A l
theorem HvX.upd {w w':World} {A:Option Addr} {l:List Hvy} (h:HvX w A l) (k:Upd No w w'):HvX w' A l:=by
 obtain⟨G,h⟩:=h;exact⟨G,Hvys.upd h k (fun _ _=>id)⟩
theorem HvX.own {w:World} {b c:Nat} {A:Option Addr} {l:List Hvy} (h:w.ownsRow b 55 5 (.slice A l.length c) l.length (Zbw l)):HvX w A l:=⟨_,Recs.of_own Zew (by omega) h⟩
def EdX (w:World) (A:Option Addr) (l:List Edge):Prop:=∃G,Walk G w A l
theorem EdX.upd {w w':World} {A:Option Addr} {l:List Edge} (h:EdX w A l) (k:Upd No w w'):EdX w' A l:=by
 obtain⟨G,h⟩:=h;exact⟨G,Recs.upd h k (fun _ _=>id)⟩
section
variable {F:Nat→Prop} {w:World} {txs:List HTx} {ords:List HOrd} {A:Option Addr} {c:Nat} {B:Option Addr} {d:Nat} {n m:Nat}
theorem Zom {l k:List Hvy} (hx:HvX w A l) (hy:HvX w B k) (hl:l.length≤1048576) (hl2:k.length≤1048576) (hn:l.length=n) (hm:k.length=m) {v:Bool} (hv:(l==k)=v):
  Calls Tryz.prog 21 #[.slice A n c,.slice B m d] w fun e w'=>e= .returned (.bool v)∧Upd No w w':=by
 subst hn hm;obtain⟨F,hx⟩:=hx;obtain⟨G,hy⟩:=hy;exact ZmV w F G A B c d l k hx hy hl hl2 hv
end
theorem Zlx (n:Nat):(ZF n).txs.length≤12:=by simp[ZF]
theorem Zlw (n:Nat):∀t∈(ZF n).txs,t.ops.length≤24:=by
 intro t ht;simp only[ZF,List.mem_cons,List.not_mem_nil,or_false]at ht;rcases ht with rfl|rfl|rfl<;>simp
end
/- Edges of a history:the law that what is told is what the document says. -/
section
open Go.RowKit
theorem ZiP {F:Nat→Prop} {w:World} {txs:List HTx} {ords:List HOrd} {A:Option Addr} {c:Nat} {B:Option Addr} {d:Nat} {v:Bool} (H:Hist.lies F w ⟨txs,ords,A,c,B,d⟩) (hv:Zk ⟨txs,ords,A,c,B,d⟩=v):
  Calls Tryz.prog 9 #[.agg #[.slice A txs.length c,.slice B ords.length d]] w fun e w'=>e= .returned (.bool v)∧Upd No w w':=by subst hv;exact ZnG F w ⟨txs,ords,A,c,B,d⟩ H
theorem Zd1 {h:Hist} (hl:Zk h=true):h.txs.length≤12∧∀t∈h.txs,t.ops.length≤24:=by
 unfold Zk at hl;simp only[Bool.and_eq_true,decide_eq_true_eq,List.all_eq_true]at hl;exact⟨hl.1.1.1,fun t ht=>hl.1.2 t ht⟩
section
variable {F:Nat→Prop} {w:World} {txs:List HTx} {ords:List HOrd} {A:Option Addr} {c:Nat} {B:Option Addr} {d:Nat} {n m:Nat}
theorem ZmO (H:Hist.lies F w ⟨txs,ords,A,c,B,d⟩) (n1:txs.length≤12) (n2:∀t∈txs,t.ops.length≤24) {l:List Hvy} (he:Zc ⟨txs,ords,A,c,B,d⟩=l):
  Calls Tryz.prog 30 #[.agg #[.slice A txs.length c,.slice B ords.length d]] w fun e w'=>∃A' c',e= .returned (.slice A' l.length c')∧HvX w' A' l∧Upd No w w':=by
 subst he;refine(ZlI F w txs ords A c B d H n1 n2).mono ?_;rintro e w' ⟨A',c',rfl,ho,hu⟩;exact⟨A',c',rfl,HvX.own ho,hu⟩
end
theorem ZgO (key:Int) (l:List Hvy):(Zr key l).length≤l.length:=List.length_filter_le _ _
end
end Go.Proofs.YtblplapkdmhikaaGreat
