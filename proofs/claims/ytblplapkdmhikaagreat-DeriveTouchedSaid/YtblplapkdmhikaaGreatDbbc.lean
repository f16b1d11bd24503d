/- What the program tells of histories, in plain words: needs, keys, writers, right; and of edges, reads and witnesses. -/
import Derived.Test.YtblplapkdmhikaaGreatDbam
import Derived.Test.YtblplapkdmhikaaGreatDbas
import Derived.Test.YtblplapkdmhikaaGreatDbaw
import Derived.Test.YtblplapkdmhikaaGreatDbaz
namespace Go.Proofs.YtblplapkdmhikaaGreat
set_option linter.unusedVariables false
set_option linter.unusedSimpArgs false
section
open Go.RowKit
def ZaS (id:Int) (o:HOp):Bool:=o.read&& !((Zp o).tx==0)&& !((Zp o).tx==id)
def Z0 (id:Int) (l:List HOp):Nat→List Ver
 |0=>[]
 |k+1=>
  match l[k]? with
  |some o=>if ZaS id o&& !(Z0 id l k).contains (Zp o) then Z0 id l k++[Zp o] else Z0 id l k
  |none=>Z0 id l k
def ZdV (id:Int) (l:List HOp):List Ver:=Z0 id l l.length
def Z8 (txs:List HTx) (v:Ver):Bool:=
 if v.tx=0∧v.nth=0 then idB v.key
 else match Ze txs v.tx with
  |some t=>decide (1≤v.nth)&&decide (v.nth≤(Zd t.ops v.key:Int))
  |none=>false
def ZaT (txs:List HTx) (id:Int) (l:List HOp):Bool:=(ZdV id l).all (Z8 txs)
def ZD (l:List HOp) (f:HOp→Bool):List Int:=(l.filter f).map (·.key)
def ZY (l:List HOp):List Int:=Za3 (ZD l fun o=> !o.read)
def Za6 (s:List Int):List Int→List Int
 |[]=>s
 |k::l=>Za6 (if k∈s then s else s++[k]) l
def Zv:List HTx→List Int→List Int
 |[],s=>s
 |t::l,s=>Zv l (if t.done then Za6 s (ZY t.ops) else s)
def Zh (txs:List HTx) (key:Int):List Int:=(txs.filter fun t=>t.done&&(ZY t.ops).contains key).map (·.id)
def ZbC (txs:List HTx) (i:Nat):Bool:=
 match txs[i]? with
 |none=>true
 |some t=>(match i with|0=>true|j+1=>(match txs[j]? with|some u=>decide (u.id<t.id)|none=>true))&&ZJ t.id t.ops==0&&ZaT txs t.id t.ops
def ZbT (txs:List HTx) (ords:List HOrd) (i:Nat):Bool:=
 match ords[i]? with
 |none=>true
 |some o=>(match i with|0=>true|j+1=>(match ords[j]? with|some u=>decide (u.key<o.key)|none=>true))&& !o.txs.isEmpty&&(ZaH o.txs==ZaH (Zh txs o.key))
def Za (h:Hist):Bool:=
 decide (h.txs.length≤4096)&&(List.range h.txs.length).all (ZbC h.txs)&&(Zv h.txs []).length==h.ords.length&&(List.range h.ords.length).all (ZbT h.txs h.ords)
def Zq (txs:List HTx) (id:Int):Option HTx:=match Ze txs id with|some t=>if t.done then some t else none|none=>none
def ZaC (txs:List HTx) (v:Ver):Bool:=if v.tx=0 then true else match Zq txs v.tx with|some t=>v.nth==(Zd t.ops v.key:Int)|none=>false
def Zbf (ords:List HOrd) (key x y:Int):Bool:=Z6 (ZbM ords key) x==some y
def Zko (id:Int) (l:List HOp) (key:Int) (counts:Ver→Bool):Bool:=l.any fun o=>o.read&&o.key==key&& !(o.tx==id)&&counts (Zp o)
def ZmB (h:Hist) (e:Edge):Bool:=
 match Zq h.txs e.f,Zq h.txs e.t with
 |some a,some b=>
  if e.f=e.t then false
  else if e.k=1 then Zbf h.ords e.key e.f e.t
  else if e.k=2 then Zko b.id b.ops e.key fun v=>v.tx==e.f&&ZaC h.txs v
  else if e.k=3 then Zko a.id a.ops e.key fun v=>ZaC h.txs v&&Zbf h.ords e.key v.tx e.t
  else false
 |_,_=>false
structure HBad where
 tx:Int
 place:Int
 of:Ver
deriving DecidableEq
def HBad.cells (b:HBad):List Value:=[.int .i64 b.tx,.int .i64 b.place,.int .i64 b.of.tx,.int .i64 b.of.key,.int .i64 b.of.nth]
def Zpe (txs:List HTx) (p:Int) (b:HBad):Bool:=
 match Zq txs b.tx with
 |none=>false
 |some t=>
  if b.place<0 then false
  else match t.ops[b.place.toNat]? with
   |none=>false
   |some o=>
    if !o.read|| !(Zp o==b.of)||o.tx==0||o.tx==t.id then false
    else if p=2 then (match Ze txs o.tx with|some u=> !u.done|none=>true)
    else if p=3 then decide (o.nth<(Zd (match Ze txs o.tx with|some u=>u.ops|none=>[]) o.key:Int))
    else false
def Zm7 (m p:Int):Bool:=(bits .andNot .i64 m (Zmy p)==0)&&(Zmx p==0|| !(bits .and .i64 m (Zmx p)==0))
def ZfG:HBad:=⟨0,0,⟨0,0,0⟩⟩
def Zdc (h:Hist) (p:Int) (l:List Edge) (b:HBad):Bool:=
 Za h&&(if p=2∨p=3 then decide (l.length=0)&&Zpe h.txs p b
  else !(Zmy p==0)&&b==ZfG&&Znn l&&Zm7 (ZnS l) p&&l.all (ZmB h))
/-! from any place -/
end
/- Whether a version is there. -/
section
open Go.RowKit
theorem ZkW {txs:List HTx} {v:Ver} (h1:v.tx=0) (h2:v.nth=0):Z8 txs v=idB v.key:=by unfold Z8;rw[if_pos ⟨h1,h2⟩]
theorem Zg2 {txs:List HTx} {v:Ver} (h:¬(v.tx=0∧v.nth=0)) (hf:Ze txs v.tx=none):Z8 txs v=false:=by unfold Z8;rw[if_neg h,hf]
theorem Zg1 {txs:List HTx} {v:Ver} {t:HTx} (h:¬(v.tx=0∧v.nth=0)) (hf:Ze txs v.tx=some t):Z8 txs v=(decide (1≤v.nth)&&decide (v.nth≤(Zd t.ops v.key:Int))):=by unfold Z8;rw[if_neg h,hf]
section
variable (F:Nat→Prop) (w:World) (txs:List HTx) (ords:List HOrd) (A:Option Addr) (c:Nat) (B:Option Addr) (d:Nat) (i:Int)
theorem Zfy (H:Hist.lies F w ⟨txs,ords,A,c,B,d⟩) (hf:Ze txs i=none):Calls Tryz.prog 228 #[.agg #[.slice A txs.length c,.slice B ords.length d],.int .i64 i] w fun e w'=>
  e= .returned (.tuple #[.agg #[.int .i64 0,.bool false,.slice none 0 0],.bool false])∧Upd No w w':=by
 refine(Zmw F w ⟨txs,ords,A,c,B,d⟩ i H).mono ?_;intro e w' h;unfold ZbZ at h;rw[show Ze (Hist.txs ⟨txs,ords,A,c,B,d⟩) i=none from hf]at h;exact h
theorem Zch {t:HTx} (H:Hist.lies F w ⟨txs,ords,A,c,B,d⟩) (hf:Ze txs i=some t):Calls Tryz.prog 228 #[.agg #[.slice A txs.length c,.slice B ords.length d],.int .i64 i] w fun e w'=>
  ∃A' c',e= .returned (.tuple #[.agg #[.int .i64 t.id,.bool t.done,.slice A' t.ops.length c'],.bool true])∧t.ops.length≤c'∧HOps (fun i=>w.heap.size≤i) w' A' t.ops∧Upd No w w':=by
 refine(Zmw F w ⟨txs,ords,A,c,B,d⟩ i H).mono ?_;intro e w' h;unfold ZbZ at h;rw[show Ze (Hist.txs ⟨txs,ords,A,c,B,d⟩) i=some t from hf]at h;obtain⟨⟨A',c',h1,h2,h3⟩,h4⟩:=h;exact⟨A',c',h1,h2,h3,h4⟩
end
theorem Zb7 {txs:List HTx} {i:Int} {t:HTx} (h:Ze txs i=some t):t∈txs:=List.mem_of_find?_eq_some h
set_option maxRecDepth 100000 in
set_option maxHeartbeats 1000000 in
theorem Ze6 (F:Nat→Prop) (w:World) (h:Hist) (v:Ver) (H:h.lies F w):Calls Tryz.prog 156 #[h.val,.agg v.cells.toArray] w fun e w'=>e= .returned (.bool (Z8 h.txs v))∧Upd No w w':=by
 obtain⟨txs,ords,A,c,B,d⟩:=h;obtain⟨tx,key,nth⟩:=v;unfold Hist.val Ver.cells;have uu:=((Upd.refl No w).alloc (.cells #[.slice A txs.length c,.slice B ords.length d] 29)).alloc (.cells #[.int .i64 tx,.int .i64 key,.int .i64 nth] 36)
 by_cases h1:tx=0
 ·subst h1
  by_cases h2:nth=0
  ·subst h2;have hv:=Qh (ZkW (txs:=txs) (v:=⟨0,key,0⟩) rfl rfl);unfold idB at hv
   by_cases b1:1≤key
   ·by_cases b2:key≤1048575
    ·go_enter Tryz.func156,Tryz.ntmps156
     go_wp2
     go_ret
     exact⟨by rw[hv.out,decide_eq_true b1,decide_eq_true b2];rfl,uu⟩
    ·go_enter Tryz.func156,Tryz.ntmps156
     go_wp2
     go_ret
     exact⟨by rw[hv.out,decide_eq_false (show¬key≤1048575 by omega),Bool.and_false];rfl,uu⟩
   ·go_enter Tryz.func156,Tryz.ntmps156
    go_wp2
    go_ret
    exact⟨by rw[hv.out,decide_eq_false (show¬1≤key by omega),Bool.false_and];rfl,uu⟩
  ·have hne:¬((⟨0,key,nth⟩:Ver).tx=0∧(⟨0,key,nth⟩:Ver).nth=0):=fun e=>h2 e.2
   have h2b:(nth==0)=false:=by simpa using h2
   clear h2;have HH:=Qh (H.upd uu (fun _ _=>id));have b1:=Blk.new (w.alloc (.cells #[.slice A txs.length c,.slice B ords.length d] 29)) 36 [.int .i64 0,.int .i64 key,.int .i64 nth];simp only[World.size_alloc]at b1;have B1:=Qh b1;clear b1
   cases hf:Ze txs 0 with
   |none=>
    have hv:=Qh (Zg2 hne hf);have Hf:=Qh hf;clear hne hf
    go_enter Tryz.func156,Tryz.ntmps156
    go_wp2_with fail
    refine(Zfy F _ txs ords A c B d 0 HH.out Hf.out).mono ?_;rintro e w1 ⟨rfl,hu1⟩;have bv:=(B1.out.upd hu1 id).alloc (.cells #[.int .i64 0,.bool false,.slice none 0 0] 81);have g0:=bv.cell 0;have g1:=bv.cell 1;have g2:=bv.cell 2;simp only[Qz,Qs]at g0 g1 g2;go_wp2
    go_quiet (fail)
    go_wp2
    go_ret
    exact⟨by rw[hv.out];rfl,((uu.trans hu1).alloc _).drewN _⟩
   |some t=>
    have hv:=Qh (Zg1 hne hf);have Hf:=Qh hf;have hfew:=Qh (H.tx t (Zb7 hf)).2.2.1;clear hne hf
    by_cases hn1:1≤nth
    ·go_enter Tryz.func156,Tryz.ntmps156
     go_wp2_with fail
     refine(Zch F _ txs ords A c B d 0 HH.out Hf.out).mono ?_;rintro e w1 ⟨A1,c1,rfl,hc1,hh1,hu1⟩;have bv:=(B1.out.upd hu1 id).alloc (.cells #[.int .i64 t.id,.bool t.done,.slice A1 t.ops.length c1] 81);have bt:=Blk.new w1 81 [.int .i64 t.id,.bool t.done,.slice A1 t.ops.length c1];have hh2:=HOps.upd hh1 ((Upd.refl No w1).alloc (.cells #[.int .i64 t.id,.bool t.done,.slice A1 t.ops.length c1] 81)) (fun _ _=>id);have g0:=bv.cell 0;have g1:=bv.cell 1;have g2:=bv.cell 2;have k0:=bt.cell 0;have k1:=bt.cell 1;have k2:=bt.cell 2;simp only[Qz,Qs]at g0 g1 g2 k0 k1 k2;have U1:=Qh ((uu.trans hu1).alloc (.cells #[.int .i64 t.id,.bool t.done,.slice A1 t.ops.length c1] 81));go_wp2
     go_region_held3 (fun w'=>w'.cell? ⟨w.heap.size+1,0,none⟩=some (.int .i64 0)∧w'.cell? ⟨w.heap.size+1,1,none⟩=some (.int .i64 key)∧w'.cell? ⟨w.heap.size+1,2,none⟩=some (.int .i64 nth)∧
       w'.cell? ⟨w1.heap.size,0,none⟩=some (.int .i64 t.id)∧w'.cell? ⟨w1.heap.size,1,none⟩=some (.bool t.done)∧w'.cell? ⟨w1.heap.size,2,none⟩=some (.slice A1 t.ops.length c1)∧Upd No w w')
      (first|exact⟨g0,g1,g2,k0,k1,k2,U1.out.drew⟩|exact⟨g0,g1,g2,k0,k1,k2,U1.out⟩|(go_split_ands;refine⟨?_,?_,?_,?_,?_,?_,?_⟩<;>first|assumption|(exact hu3.keepNo (by assumption))|(exact Upd.trans (by assumption) hu3)))
      ((go_at_call 117;refine(Zgg _ _ t.id t.done A1 c1 t.ops key (by exact hh2) hfew.out).mono ?_;rintro e w3 ⟨rfl,hu3⟩))
     go_wp2
     go_ret
     exact⟨by rw[hv.out,decide_eq_true hn1];rfl,(by go_split_ands;assumption)⟩
    ·go_enter Tryz.func156,Tryz.ntmps156
     go_wp2_with fail
     refine(Zch F _ txs ords A c B d 0 HH.out Hf.out).mono ?_;rintro e w1 ⟨A1,c1,rfl,hc1,hh1,hu1⟩;have bv:=(B1.out.upd hu1 id).alloc (.cells #[.int .i64 t.id,.bool t.done,.slice A1 t.ops.length c1] 81);have g0:=bv.cell 0;have g1:=bv.cell 1;have g2:=bv.cell 2;simp only[Qz,Qs]at g0 g1 g2;have hnb:decide (1≤nth)=false:=decide_eq_false (by omega);go_wp2
     go_quiet (fail)
     go_wp2
     go_ret
     exact⟨by rw[hv.out,decide_eq_false (show¬1≤nth by omega),Bool.false_and];rfl,((uu.trans hu1).alloc _).drewN _⟩
 ·have hne:¬((⟨tx,key,nth⟩:Ver).tx=0∧(⟨tx,key,nth⟩:Ver).nth=0):=fun e=>h1 e.1
  have h1b:(tx==0)=false:=by simpa using h1
  clear h1;have HH:=Qh (H.upd uu (fun _ _=>id));have b1:=Blk.new (w.alloc (.cells #[.slice A txs.length c,.slice B ords.length d] 29)) 36 [.int .i64 tx,.int .i64 key,.int .i64 nth];simp only[World.size_alloc]at b1;have B1:=Qh b1;clear b1
  cases hf:Ze txs tx with
  |none=>
   have hv:=Qh (Zg2 hne hf);have Hf:=Qh hf;clear hne hf
   go_enter Tryz.func156,Tryz.ntmps156
   go_wp2_with fail
   refine(Zfy F _ txs ords A c B d tx HH.out Hf.out).mono ?_;rintro e w1 ⟨rfl,hu1⟩;have bv:=(B1.out.upd hu1 id).alloc (.cells #[.int .i64 0,.bool false,.slice none 0 0] 81);have g0:=bv.cell 0;have g1:=bv.cell 1;have g2:=bv.cell 2;simp only[Qz,Qs]at g0 g1 g2;go_wp2
   go_quiet (fail)
   go_wp2
   go_ret
   exact⟨by rw[hv.out];rfl,((uu.trans hu1).alloc _).drewN _⟩
  |some t=>
   have hv:=Qh (Zg1 hne hf);have Hf:=Qh hf;have hfew:=Qh (H.tx t (Zb7 hf)).2.2.1;clear hne hf
   by_cases hn1:1≤nth
   ·go_enter Tryz.func156,Tryz.ntmps156
    go_wp2_with fail
    refine(Zch F _ txs ords A c B d tx HH.out Hf.out).mono ?_;rintro e w1 ⟨A1,c1,rfl,hc1,hh1,hu1⟩;have bv:=(B1.out.upd hu1 id).alloc (.cells #[.int .i64 t.id,.bool t.done,.slice A1 t.ops.length c1] 81);have bt:=Blk.new w1 81 [.int .i64 t.id,.bool t.done,.slice A1 t.ops.length c1];have hh2:=HOps.upd hh1 ((Upd.refl No w1).alloc (.cells #[.int .i64 t.id,.bool t.done,.slice A1 t.ops.length c1] 81)) (fun _ _=>id);have g0:=bv.cell 0;have g1:=bv.cell 1;have g2:=bv.cell 2;have k0:=bt.cell 0;have k1:=bt.cell 1;have k2:=bt.cell 2;simp only[Qz,Qs]at g0 g1 g2 k0 k1 k2;have U1:=Qh ((uu.trans hu1).alloc (.cells #[.int .i64 t.id,.bool t.done,.slice A1 t.ops.length c1] 81));go_wp2
    go_region_held3 (fun w'=>w'.cell? ⟨w.heap.size+1,0,none⟩=some (.int .i64 tx)∧w'.cell? ⟨w.heap.size+1,1,none⟩=some (.int .i64 key)∧w'.cell? ⟨w.heap.size+1,2,none⟩=some (.int .i64 nth)∧
      w'.cell? ⟨w1.heap.size,0,none⟩=some (.int .i64 t.id)∧w'.cell? ⟨w1.heap.size,1,none⟩=some (.bool t.done)∧w'.cell? ⟨w1.heap.size,2,none⟩=some (.slice A1 t.ops.length c1)∧Upd No w w')
     (first|exact⟨g0,g1,g2,k0,k1,k2,U1.out.drew⟩|exact⟨g0,g1,g2,k0,k1,k2,U1.out⟩|(go_split_ands;refine⟨?_,?_,?_,?_,?_,?_,?_⟩<;>first|assumption|(exact hu3.keepNo (by assumption))|(exact Upd.trans (by assumption) hu3)))
     ((go_at_call 117;refine(Zgg _ _ t.id t.done A1 c1 t.ops key (by exact hh2) hfew.out).mono ?_;rintro e w3 ⟨rfl,hu3⟩))
    go_wp2
    go_ret
    exact⟨by rw[hv.out,decide_eq_true hn1];rfl,(by go_split_ands;assumption)⟩
   ·go_enter Tryz.func156,Tryz.ntmps156
    go_wp2_with fail
    refine(Zch F _ txs ords A c B d tx HH.out Hf.out).mono ?_;rintro e w1 ⟨A1,c1,rfl,hc1,hh1,hu1⟩;have bv:=(B1.out.upd hu1 id).alloc (.cells #[.int .i64 t.id,.bool t.done,.slice A1 t.ops.length c1] 81);have g0:=bv.cell 0;have g1:=bv.cell 1;have g2:=bv.cell 2;simp only[Qz,Qs]at g0 g1 g2;have hnb:decide (1≤nth)=false:=decide_eq_false (by omega);go_wp2
    go_quiet (fail)
    go_wp2
    go_ret
    exact⟨by rw[hv.out,decide_eq_false (show¬1≤nth by omega),Bool.false_and];rfl,((uu.trans hu1).alloc _).drewN _⟩
end
end Go.Proofs.YtblplapkdmhikaaGreat
