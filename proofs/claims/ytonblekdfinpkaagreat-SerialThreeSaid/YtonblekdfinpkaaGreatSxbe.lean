/- The kinds of a phenomenon; who is next in an order. -/
import Derived.Shelf.SlicesG.Turned
import Derived.Ground.SlgnProg
import Derived.Shelf.SlGeneric
import Derived.Test.YtonblekdfinpkaaGreatProg
import Derived.Test.YtonblekdfinpkaaGreatSxao
import Derived.Test.YtonblekdfinpkaaGreatSxas
import Derived.Test.YtonblekdfinpkaaGreatSxat
import Derived.Test.YtonblekdfinpkaaGreatSxaw
import Derived.Test.YtonblekdfinpkaaGreatSxaz
namespace Go.Proofs.YtonblekdfinpkaaGreat
set_option linter.unusedVariables false
set_option linter.unusedSimpArgs false
section
open Go.RowKit
def ZdL (p:Int):Int:=if p=1 then 2 else if p=4 then 6 else if p=5 then 14 else 0
def ZdK (p:Int):Int:=if p=5 then 8 else 0
theorem Zq9 (w:World) (p:Int):Calls Tryz.prog 23 #[.int .i64 p] w fun e w'=>e= .returned (.tuple #[.int .i64 (ZdL p),.int .i64 (ZdK p)])∧w=w':=by
 by_cases h1:p=1
 ·subst h1
  go_enter Tryz.func23,Tryz.ntmps23
  go_wp2
  go_ret2
  exact⟨rfl,rfl⟩
 ·by_cases h4:p=4
  ·subst h4
   go_enter Tryz.func23,Tryz.ntmps23
   go_wp2
   go_ret2
   exact⟨rfl,rfl⟩
  ·by_cases h5:p=5
   ·subst h5
    go_enter Tryz.func23,Tryz.ntmps23
    go_wp2
    go_ret2
    exact⟨rfl,rfl⟩
   ·have b1:(p==1)=false:=by simpa using h1
    have b4:(p==4)=false:=by simpa using h4
    have b5:(p==5)=false:=by simpa using h5
    have hm:=Qh (show ZdL p=0 by unfold ZdL;rw[if_neg h1,if_neg h4,if_neg h5]);have hu:=Qh (show ZdK p=0 by unfold ZdK;rw[if_neg h5]);clear h1 h4 h5
    go_enter Tryz.func23,Tryz.ntmps23
    go_wp2
    go_ret2
    exact⟨by rw[hm.out,hu.out];rfl,rfl⟩
def Zn (l:List Int) (x:Int):Nat:=l.findIdx (·==x)
def ZiU (l:List Int) (tx:Int):Option Int:=if tx=0 then l[0]? else if Zn l tx<l.length then l[Zn l tx+1]? else none
end
/- The order of a key. -/
section
open Go.RowKit
theorem ZkW (w:World) (o:HOp):Calls Tryz.prog 157 #[.agg o.cells.toArray] w fun e w'=>e= .returned (.bool (!o.read))∧Upd No w w':=by
 unfold HOp.cells
 go_enter Tryz.func157,Tryz.ntmps157
 go_wp2
 go_ret
 exact⟨rfl,(Upd.refl _ _).alloc _⟩
def Zhx (l:List HOrd) (key:Int):Nat:=l.findIdx fun o=>o.key==key
theorem Zok {l:List HOrd} {key:Int} {k:Nat} (hk:k<l.length) (h:∀(j:Nat) (hj:j<k),((l[j]'(by omega)).key==key)=false) (h1:(l[k].key==key)=true):Zhx l key=k:=by
 unfold Zhx;rw[List.findIdx_eq hk];exact⟨h1,fun j hj=>by simp only[h j hj]⟩
def Zd9 (l:List HOrd) (key:Int):List Int:=match l[Zhx l key]? with|some o=>o.txs|none=>[]
end
/- What the program tells of histories,in plain words:needs,keys,writers,right;and of edges,reads and witnesses. -/
section
open Go.RowKit
def ZbD (id:Int) (o:HOp):Bool:=o.read&& !((Zo o).tx==0)&& !((Zo o).tx==id)
def Z7 (id:Int) (l:List HOp):Nat→List Ver
 |0=>[]
 |k+1=>
  match l[k]? with
  |some o=>if ZbD id o&& !(Z7 id l k).contains (Zo o) then Z7 id l k++[Zo o] else Z7 id l k
  |none=>Z7 id l k
def ZgW (id:Int) (l:List HOp):List Ver:=Z7 id l l.length
def Z9 (txs:List HTx) (v:Ver):Bool:=
 if v.tx=0∧v.nth=0 then idB v.key
 else match Zd txs v.tx with
  |some t=>decide (1≤v.nth)&&decide (v.nth≤(Zg t.ops v.key:Int))
  |none=>false
def Zbr (txs:List HTx) (id:Int) (l:List HOp):Bool:=(ZgW id l).all (Z9 txs)
def ZaR (l:List HOp) (f:HOp→Bool):List Int:=(l.filter f).map (·.key)
def ZI (l:List HOp):List Int:=Zbs (ZaR l fun o=> !o.read)
def Zaa (s:List Int):List Int→List Int
 |[]=>s
 |k::l=>Zaa (if k∈s then s else s++[k]) l
def ZF:List HTx→List Int→List Int
 |[],s=>s
 |t::l,s=>ZF l (if t.done then Zaa s (ZI t.ops) else s)
def Zq (txs:List HTx) (key:Int):List Int:=(txs.filter fun t=>t.done&&(ZI t.ops).contains key).map (·.id)
def ZdT (txs:List HTx) (i:Nat):Bool:=
 match txs[i]? with
 |none=>true
 |some t=>(match i with|0=>true|j+1=>(match txs[j]? with|some u=>decide (u.id<t.id)|none=>true))&&Zag t.id t.ops==0&&Zbr txs t.id t.ops
def ZcG (txs:List HTx) (ords:List HOrd) (i:Nat):Bool:=
 match ords[i]? with
 |none=>true
 |some o=>(match i with|0=>true|j+1=>(match ords[j]? with|some u=>decide (u.key<o.key)|none=>true))&& !o.txs.isEmpty&&(ZaH o.txs==ZaH (Zq txs o.key))
def Za (h:Hist):Bool:=
 decide (h.txs.length≤4096)&&(List.range h.txs.length).all (ZdT h.txs)&&(ZF h.txs []).length==h.ords.length&&(List.range h.ords.length).all (ZcG h.txs h.ords)
def Zi (txs:List HTx) (id:Int):Option HTx:=match Zd txs id with|some t=>if t.done then some t else none|none=>none
def ZbS (txs:List HTx) (v:Ver):Bool:=if v.tx=0 then true else match Zi txs v.tx with|some t=>v.nth==(Zg t.ops v.key:Int)|none=>false
def ZdJ (ords:List HOrd) (key x y:Int):Bool:=ZiU (Zd9 ords key) x==some y
def ZcP (id:Int) (l:List HOp) (key:Int) (counts:Ver→Bool):Bool:=l.any fun o=>o.read&&o.key==key&& !(o.tx==id)&&counts (Zo o)
def Zdb (h:Hist) (e:Edge):Bool:=
 match Zi h.txs e.f,Zi h.txs e.t with
 |some a,some b=>
  if e.f=e.t then false
  else if e.k=1 then ZdJ h.ords e.key e.f e.t
  else if e.k=2 then ZcP b.id b.ops e.key fun v=>v.tx==e.f&&ZbS h.txs v
  else if e.k=3 then ZcP a.id a.ops e.key fun v=>ZbS h.txs v&&ZdJ h.ords e.key v.tx e.t
  else false
 |_,_=>false
structure HBad where
 tx:Int
 place:Int
 of:Ver
deriving DecidableEq
def HBad.cells (b:HBad):List Value:=[.int .i64 b.tx,.int .i64 b.place,.int .i64 b.of.tx,.int .i64 b.of.key,.int .i64 b.of.nth]
def Ztn (txs:List HTx) (p:Int) (b:HBad):Bool:=
 match Zi txs b.tx with
 |none=>false
 |some t=>
  if b.place<0 then false
  else match t.ops[b.place.toNat]? with
   |none=>false
   |some o=>
    if !o.read|| !(Zo o==b.of)||o.tx==0||o.tx==t.id then false
    else if p=2 then (match Zd txs o.tx with|some u=> !u.done|none=>true)
    else if p=3 then decide (o.nth<(Zg (match Zd txs o.tx with|some u=>u.ops|none=>[]) o.key:Int))
    else false
def Zqh (m p:Int):Bool:=(bits .andNot .i64 m (ZdL p)==0)&&(ZdK p==0|| !(bits .and .i64 m (ZdK p)==0))
def ZfI:HBad:=⟨0,0,⟨0,0,0⟩⟩
def Zdl (h:Hist) (p:Int) (l:List Edge) (b:HBad):Bool:=
 Za h&&(if p=2∨p=3 then decide (l.length=0)&&Ztn h.txs p b
  else !(ZdL p==0)&&b==ZfI&&ZqF l&&Zqh (Zrl l) p&&l.all (Zdb h))
/-! from any place -/
end
/- Whether a version is there. -/
section
open Go.RowKit
theorem Znr {txs:List HTx} {v:Ver} (h1:v.tx=0) (h2:v.nth=0):Z9 txs v=idB v.key:=by unfold Z9;rw[if_pos ⟨h1,h2⟩]
theorem Ziu {txs:List HTx} {v:Ver} (h:¬(v.tx=0∧v.nth=0)) (hf:Zd txs v.tx=none):Z9 txs v=false:=by unfold Z9;rw[if_neg h,hf]
theorem Zit {txs:List HTx} {v:Ver} {t:HTx} (h:¬(v.tx=0∧v.nth=0)) (hf:Zd txs v.tx=some t):Z9 txs v=(decide (1≤v.nth)&&decide (v.nth≤(Zg t.ops v.key:Int))):=by unfold Z9;rw[if_neg h,hf]
section
variable (F:Nat→Prop) (w:World) (txs:List HTx) (ords:List HOrd) (A:Option Addr) (c:Nat) (B:Option Addr) (d:Nat) (i:Int)
theorem Zeq (H:Hist.lies F w ⟨txs,ords,A,c,B,d⟩) (hf:Zd txs i=none):Calls Tryz.prog 74 #[.agg #[.slice A txs.length c,.slice B ords.length d],.int .i64 i] w fun e w'=>
  e= .returned (.tuple #[.agg #[.int .i64 0,.bool false,.slice none 0 0],.bool false])∧Upd No w w':=by
 refine(Zpr F w ⟨txs,ords,A,c,B,d⟩ i H).mono ?_;intro e w' h;unfold Zhp at h;rw[show Zd (Hist.txs ⟨txs,ords,A,c,B,d⟩) i=none from hf]at h;exact h
theorem Zcq {t:HTx} (H:Hist.lies F w ⟨txs,ords,A,c,B,d⟩) (hf:Zd txs i=some t):Calls Tryz.prog 74 #[.agg #[.slice A txs.length c,.slice B ords.length d],.int .i64 i] w fun e w'=>
  ∃A' c',e= .returned (.tuple #[.agg #[.int .i64 t.id,.bool t.done,.slice A' t.ops.length c'],.bool true])∧t.ops.length≤c'∧HOps (fun i=>w.heap.size≤i) w' A' t.ops∧Upd No w w':=by
 refine(Zpr F w ⟨txs,ords,A,c,B,d⟩ i H).mono ?_;intro e w' h;unfold Zhp at h;rw[show Zd (Hist.txs ⟨txs,ords,A,c,B,d⟩) i=some t from hf]at h;obtain⟨⟨A',c',h1,h2,h3⟩,h4⟩:=h;exact⟨A',c',h1,h2,h3,h4⟩
end
theorem Zba {txs:List HTx} {i:Int} {t:HTx} (h:Zd txs i=some t):t∈txs:=List.mem_of_find?_eq_some h
set_option maxRecDepth 100000 in
set_option maxHeartbeats 1000000 in
theorem ZhI (F:Nat→Prop) (w:World) (h:Hist) (v:Ver) (H:h.lies F w):Calls Tryz.prog 168 #[h.val,.agg v.cells.toArray] w fun e w'=>e= .returned (.bool (Z9 h.txs v))∧Upd No w w':=by
 obtain⟨txs,ords,A,c,B,d⟩:=h;obtain⟨tx,key,nth⟩:=v;unfold Hist.val Ver.cells;have uu:=((Upd.refl No w).alloc (.cells #[.slice A txs.length c,.slice B ords.length d] 50)).alloc (.cells #[.int .i64 tx,.int .i64 key,.int .i64 nth] 36)
 by_cases h1:tx=0
 ·subst h1
  by_cases h2:nth=0
  ·subst h2;have hv:=Qh (Znr (txs:=txs) (v:=⟨0,key,0⟩) rfl rfl);unfold idB at hv
   by_cases b1:1≤key
   ·by_cases b2:key≤1048575
    ·go_enter Tryz.func168,Tryz.ntmps168
     go_wp2
     go_ret
     exact⟨by rw[hv.out,decide_eq_true b1,decide_eq_true b2];rfl,uu⟩
    ·go_enter Tryz.func168,Tryz.ntmps168
     go_wp2
     go_ret
     exact⟨by rw[hv.out,decide_eq_false (show¬key≤1048575 by omega),Bool.and_false];rfl,uu⟩
   ·go_enter Tryz.func168,Tryz.ntmps168
    go_wp2
    go_ret
    exact⟨by rw[hv.out,decide_eq_false (show¬1≤key by omega),Bool.false_and];rfl,uu⟩
  ·have hne:¬((⟨0,key,nth⟩:Ver).tx=0∧(⟨0,key,nth⟩:Ver).nth=0):=fun e=>h2 e.2
   have h2b:(nth==0)=false:=by simpa using h2
   clear h2;have HH:=Qh (H.upd uu (fun _ _=>id));have b1:=Blk.new (w.alloc (.cells #[.slice A txs.length c,.slice B ords.length d] 50)) 36 [.int .i64 0,.int .i64 key,.int .i64 nth];simp only[World.size_alloc]at b1;have B1:=Qh b1;clear b1
   cases hf:Zd txs 0 with
   |none=>
    have hv:=Qh (Ziu hne hf);have Hf:=Qh hf;clear hne hf
    go_enter Tryz.func168,Tryz.ntmps168
    go_wp2_with fail
    refine(Zeq F _ txs ords A c B d 0 HH.out Hf.out).mono ?_;rintro e w1 ⟨rfl,hu1⟩;have bv:=(B1.out.upd hu1 id).alloc (.cells #[.int .i64 0,.bool false,.slice none 0 0] 85);have g0:=bv.cell 0;have g1:=bv.cell 1;have g2:=bv.cell 2;simp only[Qz,Qs]at g0 g1 g2;go_wp2
    go_quiet (fail)
    go_wp2
    go_ret
    exact⟨by rw[hv.out];rfl,((uu.trans hu1).alloc _).drewN _⟩
   |some t=>
    have hv:=Qh (Zit hne hf);have Hf:=Qh hf;have hfew:=Qh (H.tx t (Zba hf)).2.2.1;clear hne hf
    by_cases hn1:1≤nth
    ·go_enter Tryz.func168,Tryz.ntmps168
     go_wp2_with fail
     refine(Zcq F _ txs ords A c B d 0 HH.out Hf.out).mono ?_;rintro e w1 ⟨A1,c1,rfl,hc1,hh1,hu1⟩;have bv:=(B1.out.upd hu1 id).alloc (.cells #[.int .i64 t.id,.bool t.done,.slice A1 t.ops.length c1] 85);have bt:=Blk.new w1 85 [.int .i64 t.id,.bool t.done,.slice A1 t.ops.length c1];have hh2:=HOps.upd hh1 ((Upd.refl No w1).alloc (.cells #[.int .i64 t.id,.bool t.done,.slice A1 t.ops.length c1] 85)) (fun _ _=>id);have g0:=bv.cell 0;have g1:=bv.cell 1;have g2:=bv.cell 2;have k0:=bt.cell 0;have k1:=bt.cell 1;have k2:=bt.cell 2;simp only[Qz,Qs]at g0 g1 g2 k0 k1 k2;have U1:=Qh ((uu.trans hu1).alloc (.cells #[.int .i64 t.id,.bool t.done,.slice A1 t.ops.length c1] 85));go_wp2
     go_region_held3 (fun w'=>w'.cell? ⟨w.heap.size+1,0,none⟩=some (.int .i64 0)∧w'.cell? ⟨w.heap.size+1,1,none⟩=some (.int .i64 key)∧w'.cell? ⟨w.heap.size+1,2,none⟩=some (.int .i64 nth)∧
       w'.cell? ⟨w1.heap.size,0,none⟩=some (.int .i64 t.id)∧w'.cell? ⟨w1.heap.size,1,none⟩=some (.bool t.done)∧w'.cell? ⟨w1.heap.size,2,none⟩=some (.slice A1 t.ops.length c1)∧Upd No w w')
      (first|exact⟨g0,g1,g2,k0,k1,k2,U1.out.drew⟩|exact⟨g0,g1,g2,k0,k1,k2,U1.out⟩|(go_split_ands;refine⟨?_,?_,?_,?_,?_,?_,?_⟩<;>first|assumption|(exact hu3.keepNo (by assumption))|(exact Upd.trans (by assumption) hu3)))
      ((go_at_call 135;refine(ZfG _ _ t.id t.done A1 c1 t.ops key (by exact hh2) hfew.out).mono ?_;rintro e w3 ⟨rfl,hu3⟩))
     go_wp2
     go_ret
     exact⟨by rw[hv.out,decide_eq_true hn1];rfl,(by go_split_ands;assumption)⟩
    ·go_enter Tryz.func168,Tryz.ntmps168
     go_wp2_with fail
     refine(Zcq F _ txs ords A c B d 0 HH.out Hf.out).mono ?_;rintro e w1 ⟨A1,c1,rfl,hc1,hh1,hu1⟩;have bv:=(B1.out.upd hu1 id).alloc (.cells #[.int .i64 t.id,.bool t.done,.slice A1 t.ops.length c1] 85);have g0:=bv.cell 0;have g1:=bv.cell 1;have g2:=bv.cell 2;simp only[Qz,Qs]at g0 g1 g2;have hnb:decide (1≤nth)=false:=decide_eq_false (by omega);go_wp2
     go_quiet (fail)
     go_wp2
     go_ret
     exact⟨by rw[hv.out,decide_eq_false (show¬1≤nth by omega),Bool.false_and];rfl,((uu.trans hu1).alloc _).drewN _⟩
 ·have hne:¬((⟨tx,key,nth⟩:Ver).tx=0∧(⟨tx,key,nth⟩:Ver).nth=0):=fun e=>h1 e.1
  have h1b:(tx==0)=false:=by simpa using h1
  clear h1;have HH:=Qh (H.upd uu (fun _ _=>id));have b1:=Blk.new (w.alloc (.cells #[.slice A txs.length c,.slice B ords.length d] 50)) 36 [.int .i64 tx,.int .i64 key,.int .i64 nth];simp only[World.size_alloc]at b1;have B1:=Qh b1;clear b1
  cases hf:Zd txs tx with
  |none=>
   have hv:=Qh (Ziu hne hf);have Hf:=Qh hf;clear hne hf
   go_enter Tryz.func168,Tryz.ntmps168
   go_wp2_with fail
   refine(Zeq F _ txs ords A c B d tx HH.out Hf.out).mono ?_;rintro e w1 ⟨rfl,hu1⟩;have bv:=(B1.out.upd hu1 id).alloc (.cells #[.int .i64 0,.bool false,.slice none 0 0] 85);have g0:=bv.cell 0;have g1:=bv.cell 1;have g2:=bv.cell 2;simp only[Qz,Qs]at g0 g1 g2;go_wp2
   go_quiet (fail)
   go_wp2
   go_ret
   exact⟨by rw[hv.out];rfl,((uu.trans hu1).alloc _).drewN _⟩
  |some t=>
   have hv:=Qh (Zit hne hf);have Hf:=Qh hf;have hfew:=Qh (H.tx t (Zba hf)).2.2.1;clear hne hf
   by_cases hn1:1≤nth
   ·go_enter Tryz.func168,Tryz.ntmps168
    go_wp2_with fail
    refine(Zcq F _ txs ords A c B d tx HH.out Hf.out).mono ?_;rintro e w1 ⟨A1,c1,rfl,hc1,hh1,hu1⟩;have bv:=(B1.out.upd hu1 id).alloc (.cells #[.int .i64 t.id,.bool t.done,.slice A1 t.ops.length c1] 85);have bt:=Blk.new w1 85 [.int .i64 t.id,.bool t.done,.slice A1 t.ops.length c1];have hh2:=HOps.upd hh1 ((Upd.refl No w1).alloc (.cells #[.int .i64 t.id,.bool t.done,.slice A1 t.ops.length c1] 85)) (fun _ _=>id);have g0:=bv.cell 0;have g1:=bv.cell 1;have g2:=bv.cell 2;have k0:=bt.cell 0;have k1:=bt.cell 1;have k2:=bt.cell 2;simp only[Qz,Qs]at g0 g1 g2 k0 k1 k2;have U1:=Qh ((uu.trans hu1).alloc (.cells #[.int .i64 t.id,.bool t.done,.slice A1 t.ops.length c1] 85));go_wp2
    go_region_held3 (fun w'=>w'.cell? ⟨w.heap.size+1,0,none⟩=some (.int .i64 tx)∧w'.cell? ⟨w.heap.size+1,1,none⟩=some (.int .i64 key)∧w'.cell? ⟨w.heap.size+1,2,none⟩=some (.int .i64 nth)∧
      w'.cell? ⟨w1.heap.size,0,none⟩=some (.int .i64 t.id)∧w'.cell? ⟨w1.heap.size,1,none⟩=some (.bool t.done)∧w'.cell? ⟨w1.heap.size,2,none⟩=some (.slice A1 t.ops.length c1)∧Upd No w w')
     (first|exact⟨g0,g1,g2,k0,k1,k2,U1.out.drew⟩|exact⟨g0,g1,g2,k0,k1,k2,U1.out⟩|(go_split_ands;refine⟨?_,?_,?_,?_,?_,?_,?_⟩<;>first|assumption|(exact hu3.keepNo (by assumption))|(exact Upd.trans (by assumption) hu3)))
     ((go_at_call 135;refine(ZfG _ _ t.id t.done A1 c1 t.ops key (by exact hh2) hfew.out).mono ?_;rintro e w3 ⟨rfl,hu3⟩))
    go_wp2
    go_ret
    exact⟨by rw[hv.out,decide_eq_true hn1];rfl,(by go_split_ands;assumption)⟩
   ·go_enter Tryz.func168,Tryz.ntmps168
    go_wp2_with fail
    refine(Zcq F _ txs ords A c B d tx HH.out Hf.out).mono ?_;rintro e w1 ⟨A1,c1,rfl,hc1,hh1,hu1⟩;have bv:=(B1.out.upd hu1 id).alloc (.cells #[.int .i64 t.id,.bool t.done,.slice A1 t.ops.length c1] 85);have g0:=bv.cell 0;have g1:=bv.cell 1;have g2:=bv.cell 2;simp only[Qz,Qs]at g0 g1 g2;have hnb:decide (1≤nth)=false:=decide_eq_false (by omega);go_wp2
    go_quiet (fail)
    go_wp2
    go_ret
    exact⟨by rw[hv.out,decide_eq_false (show¬1≤nth by omega),Bool.false_and];rfl,((uu.trans hu1).alloc _).drewN _⟩
end
/- What a transaction needs of others. -/
section
open Go.RowKit
theorem Zn2:SlT Tryz.prog 226 36 3 24:=SlT.mk_ Tryz.underlying226 (z:= .agg #[.int .i64 0,.int .i64 0,.int .i64 0]) (by kernel_rfl) rfl (by omega)
def Zpg (F:Nat→Prop) (w:World) (A:Option Addr) (l:List Ver):Prop:=Recs F w A 3 (l.map Ver.cells)
theorem ZnW {l:List Ver}:∀r∈l.map Ver.cells,r.length=3:=fun r hr=>by
 obtain⟨e,_,rfl⟩:=List.mem_map.1 hr;rfl
def ZqL (w:World) (l:List Ver) (e:Ending) (w':World):Prop:=∃A c,e= .returned (.slice A l.length c)∧w'.ownsRow w.heap.size 36 3 (.slice A l.length c) l.length (l.map Ver.cells).flatten∧Upd No w w'
def MetV (m:List (Ver×Value)) (xs:List Ver) (k:Nat):Prop:=∀v:Ver,∃n:Nat,(Zr m v).getD (.int .i64 0)= .int .i64 n∧n≤k∧(n=0↔v∉xs)
theorem MetV.nil:MetV [] [] 0:=fun v=>⟨0,by rw[ZbE];rfl,Nat.le_refl _,by simp⟩
theorem MetV.mono {m:List (Ver×Value)} {xs:List Ver} {k:Nat} (h:MetV m xs k):MetV m xs (k+1):=fun v=>by
 obtain⟨n,h1,h2,h3⟩:=h v;exact⟨n,h1,by omega,h3⟩
theorem MetV.put {m:List (Ver×Value)} {xs:List Ver} {k n:Nat} {v:Ver} (h:MetV m xs k) (hn:(Zr m v).getD (.int .i64 0)= .int .i64 n):MetV (Zk m v (.int .i64 ((n:Int)+1))) (if n=0 then xs++[v] else xs) (k+1):=fun u=>by
 obtain⟨n',h1,h2,h3⟩:=h v;rw[h1]at hn;obtain rfl:n'=n:=by injection hn with _ hn;omega
 by_cases e:u=v
 ·subst e;refine⟨n'+1,by rw[ZL];rfl,by omega,?_⟩
  constructor
  ·intro e;omega
  ·intro hn2
   split at hn2
   ·simp at hn2
   ·rename_i h0
    exact absurd (h3.2 hn2) h0
 ·rw[Z8 _ _ e];obtain⟨q,g1,g2,g3⟩:=h u;refine⟨q,g1,by omega,?_⟩;rw[g3]
  split
  ·simp[e]
  ·rfl
theorem Ze1 {id:Int} {l:List HOp} {k:Nat} {x:HOp} (hk:k<l.length) (hx:l[k]=x) (h:ZbD id x=false):Z7 id l (k+1)=Z7 id l k:=by
 show(match l[k]? with|some o=>_|none=>_)=_
 rw[Qg hk,hx];simp[h]
theorem ZlD {id:Int} {l:List HOp} {k:Nat} {x:HOp} (hk:k<l.length) (hx:l[k]=x) (h:ZbD id x=true):Z7 id l (k+1)=if Zo x∉Z7 id l k then Z7 id l k++[Zo x] else Z7 id l k:=by
 show(match l[k]? with|some o=>_|none=>_)=_
 rw[Qg hk,hx];simp[h]
theorem Zii (id:Int) (l:List HOp):∀k,(Z7 id l k).length≤k
 |0=>Nat.le_refl _
 |k+1=>by
  have ih:=Zii id l k
  show(match l[k]? with|some o=>_|none=>_:List Ver).length≤_
  split
  ·split
   ·simp;omega
   ·omega
  ·omega
set_option maxRecDepth 100000 in
set_option maxHeartbeats 4000000 in
theorem ZqR (F:Nat→Prop) (w:World) (i0:Int) (dn:Bool) (A:Option Addr) (c:Nat) (l:List HOp) (h:HOps F w A l) (hl:Zp l.length):
  Calls Tryz.prog 166 #[.agg #[.int .i64 i0,.bool dn,.slice A l.length c]] w (ZqL w (ZgW i0 l)):=by
 unfold Zp at hl;have uT:=(Upd.refl No w).alloc (.cells #[.int .i64 i0,.bool dn,.slice A l.length c] 85);have bT:=Qh (Blk.new w 85 [.int .i64 i0,.bool dn,.slice A l.length c]);have hmm:= @run_makeMap Tryz.prog;have hn0:=MapE.new (w.alloc (.cells #[.int .i64 i0,.bool dn,.slice A l.length c] 85)) ZaE;simp only[World.size_alloc]at hn0;have HN:=Qh hn0;clear hn0
 go_enter Tryz.func166,Tryz.ntmps166
 go_wp2
 go_loopg [3,12] l.length (fun gk s i wr=>∃(k:Nat) (A3:Option Addr) (c3:Nat) (xs:List Ver) (m:List (Ver×Value)),k+gk=l.length∧i= .int .i64 k∧s= .slice A3 xs.length c3∧Hid (xs=Z7 i0 l k)∧xs.length≤k∧
  Hid (MapE wr (w.heap.size+1) ZaE m)∧Hid (MetV m xs k)∧wr.ownsRow (w.heap.size+2) 36 3 (.slice A3 xs.length c3) xs.length (xs.map Ver.cells).flatten∧
  Upd No (w.alloc (.cells #[.int .i64 i0,.bool dn,.slice A l.length c] 85)) wr)
 case atStart=>exact⟨0,none,0,[],[],by omega,rfl,rfl,Qh rfl,by simp,Qh HN.out,Qh MetV.nil,World.ownsRow_nil _ _ _ _,(Upd.refl No _).alloc _⟩
 case round=>
  obtain⟨k,A3,c3,xs,m,hgk,rfl,rfl,hxs,hxl,hm,hW,hown,hu⟩:=hrel;clear hmm
  by_cases hlt:k<l.length
  ·obtain⟨ad,hAd,q0,q1,q2,q3⟩:=(h.upd (uT.trans hu) (fun _ _=>id)).at_ hlt;obtain⟨x,hx⟩:∃x,l[k]=x:=⟨_,rfl⟩;rw[hx]at q0 q1 q2 q3;subst hAd;have X:=Qh hx;have b1:(0:Int)≤(k:Int):=Qn _;have b2:(k:Int)<(l.length:Int):=by omega
   have uA:=(Upd.refl No wr).alloc (.cells #[.bool x.read,.int .i64 x.key,.int .i64 x.tx,.int .i64 x.nth] 82);have bo:=Qh (Blk.new wr 82 [.bool x.read,.int .i64 x.key,.int .i64 x.tx,.int .i64 x.nth]);clear hx;have hl1:=hm.out.lt;have hm1:=hm.out.upd uA id;have hown1:=Zb hown uA (fun _ _=>id);have bT1:=Qh ((bT.out.upd hu id).upd uA id);obtain⟨v,hv⟩:∃v,Zo x=v:=⟨_,rfl⟩;have hof:=oof (wr.alloc (.cells #[.bool x.read,.int .i64 x.key,.int .i64 x.tx,.int .i64 x.nth] 82)) x;rw[hv]at hof;have Hof:=Qh (hof.mono (R':=fun e w'=>e= .returned (.agg #[.int .i64 v.tx,.int .i64 v.key,.int .i64 v.nth])∧Upd No (wr.alloc (.cells #[.bool x.read,.int .i64 x.key,.int .i64 x.tx,.int .i64 x.nth] 82)) w') fun e w' h=>h);have V:=Qh hv;clear hof hv
   go_wp2_with fail
   refine(Hof.out).mono ?_;rintro e w1 ⟨rfl,hu1⟩;have uV:=hu1.alloc (.cells #[.int .i64 v.tx,.int .i64 v.key,.int .i64 v.nth] 36);have bv:=Blk.new w1 36 [.int .i64 v.tx,.int .i64 v.key,.int .i64 v.nth];have bo1:=bo.out.upd uV id;have bT2:=bT1.out.upd uV id;have hm2:=hm1.upd uV id;have hown2:=Zb hown1 uV (fun _ _=>id);have k0:=bo1.cell 0;have t0:=bT2.cell 0;have v0:=bv.cell 0;have v1:=bv.cell 1;have v2:=bv.cell 2;simp only[Qz,Qs]at k0 t0 v0 v1 v2;have HU:=Qh ((hu.trans uA).trans uV);have hz1:=uV.size;simp only[World.size_alloc]at hz1;have hz2:=hu1.size;simp only[World.size_alloc]at hz2;have hz3:=hu.size;simp only[World.size_alloc]at hz3;clear uA uV hm1 hown1 bo1 bT2 bv hu1
   cases hr:x.read
   ·rw[hr]at k0;have HS:=Qh (Ze1 (id:=i0) hlt X.out (by unfold ZbD;rw[hr];rfl));clear hr;go_wp2
    go_roundg (gk-1)
    case measure=>omega
    case rel=>exact⟨k+1,A3,c3,xs,m,by omega,by go_num,rfl,Qh (by rw[HS.out,hxs.out]),by omega,Qh hm2,Qh hW.out.mono,hown2,HU.out⟩
   ·rw[hr]at k0
    by_cases h0:v.tx=0
    ·have HS:=Qh (Ze1 (id:=i0) hlt X.out (by unfold ZbD;rw[V.out,h0];simp));have h0b:(v.tx==0)=true:=by simpa using h0
     clear hr h0;go_wp2
     go_roundg (gk-1)
     case measure=>omega
     case rel=>exact⟨k+1,A3,c3,xs,m,by omega,by go_num,rfl,Qh (by rw[HS.out,hxs.out]),by omega,Qh hm2,Qh hW.out.mono,hown2,HU.out⟩
    ·have h0b:(v.tx==0)=false:=by simpa using h0
     clear h0
     by_cases h1:v.tx=i0
     ·have h1b:(v.tx==i0)=true:=by simpa using h1
      have HS:=Qh (Ze1 (id:=i0) hlt X.out (by unfold ZbD;rw[V.out,h1b];simp));clear hr h1;go_wp2
      go_roundg (gk-1)
      case measure=>omega
      case rel=>exact⟨k+1,A3,c3,xs,m,by omega,by go_num,rfl,Qh (by rw[HS.out,hxs.out]),by omega,Qh hm2,Qh hW.out.mono,hown2,HU.out⟩
     ·have h1b:(v.tx==i0)=false:=by simpa using h1
      have HS:=Qh (show Z7 i0 l (k+1)=if v∉xs then xs++[v] else xs by rw[hxs.out,←V.out];exact ZlD (id:=i0) hlt X.out (by unfold ZbD;rw[V.out,h1b,hr,h0b];rfl));clear hr h1;obtain⟨N,hN,hNk,hN0⟩:=hW.out v;have HWp:=Qh (hW.out.put hN);have HN0:=Qh hN0;clear hN0;have HZW:=Qh (show(w1.alloc (.cells #[.int .i64 v.tx,.int .i64 v.key,.int .i64 v.nth] 36)).heap.size=w1.heap.size+1 by simp);go_wp2
      generalize hW0:w1.alloc (.cells #[.int .i64 v.tx,.int .i64 v.key,.int .i64 v.nth] 36)=W0 at*
      clear hW0;have hzw:=HZW.out;have HUW:=HU;have hwr:IntKind.i64.wrap ((N:Int)+1)=(N:Int)+1:=IntWalk.i64_in _ (by omega);have hwn:w1.heap.size≠w.heap.size+1:=by omega
      have hun:∀i,One (w.heap.size+1) i→w.heap.size+1≤i:=fun i e=>by cases e;exact Nat.le_refl _
      have hmd:MapE W0.drew (w.heap.size+1) ZaE m:=hm2;obtain⟨st,w2,e2,hm3,hu2,hst⟩:=Zcd Zg6 Tryz.underlying283 Zc3 hmd v;have e1:=Zf Zg6 Tryz.underlying283 Zc3 hmd.is v;have e3:=Zf Zg6 Tryz.underlying283 Zc3 hm3.is v;rw[ZL]at e3;rw[hN]at e1 e2 e3;obtain⟨w3,e4,hm4,hu3⟩:=hst (.int .i64 ((N:Int)+1));have e5:=Zf Zg6 Tryz.underlying283 Zc3 hm4.is v;rw[ZL]at e5;change (Instr.lookup 283 (.map (some (w.heap.size+1))) (.agg #[.int .i64 v.tx,.int .i64 v.key,.int .i64 v.nth]) false).run Tryz.prog W0.drew= .ok (.int .i64 N) W0.drew at e1;change (Instr.lookup 283 (.map (some (w.heap.size+1))) (.agg #[.int .i64 v.tx,.int .i64 v.key,.int .i64 v.nth]) false).run Tryz.prog w2= .ok (.int .i64 N) w2 at e3;change (Instr.mapEntry 283 (.map (some (w.heap.size+1))) (.agg #[.int .i64 v.tx,.int .i64 v.key,.int .i64 v.nth])).run Tryz.prog W0.drew= .ok (.tuple #[.int .i64 N,.int .i64 st]) w2 at e2;change (Instr.entryStore 283 (.map (some (w.heap.size+1))) (.int .i64 st) (.int .i64 ((N:Int)+1))).run Tryz.prog w2= .ok () w3 at e4;change (Instr.lookup 283 (.map (some (w.heap.size+1))) (.agg #[.int .i64 v.tx,.int .i64 v.key,.int .i64 v.nth]) false).run Tryz.prog w3= .ok (.int .i64 ((N:Int)+1)) w3 at e5;have a0:=Upd.keep hu2 (p:=⟨w1.heap.size,0,none⟩) v0 hwn;have a1:=Upd.keep hu2 (p:=⟨w1.heap.size,1,none⟩) v1 hwn;have a2:=Upd.keep hu2 (p:=⟨w1.heap.size,2,none⟩) v2 hwn;have c0:=Upd.keep hu3 (p:=⟨w1.heap.size,0,none⟩) v0 hwn;have c1:=Upd.keep hu3 (p:=⟨w1.heap.size,1,none⟩) v1 hwn;have c2:=Upd.keep hu3 (p:=⟨w1.heap.size,2,none⟩) v2 hwn
      have hown3:=Zb hown2 hu3.of_drew (fun i hi e=>by have:=(hown2.lt i hi).1;cases e;omega);have HU3:=Qh (HUW.out.then_ hu3.of_drew fun i e=> .inr (by simp only[World.size_alloc];exact hun i e));have hz4:W0.heap.size≤w3.heap.size:=hu3.size;have Hm4:=Qh hm4;clear hN hst hmd hm2 hm3 hm4 hown2 hu2 hu3
      go_region_held3 (fun w'=>w'.cell? ⟨w1.heap.size,0,none⟩=some (.int .i64 v.tx)∧w'.cell? ⟨w1.heap.size,1,none⟩=some (.int .i64 v.key)∧w'.cell? ⟨w1.heap.size,2,none⟩=some (.int .i64 v.nth))
       (first|exact⟨v0,v1,v2⟩|exact⟨a0,a1,a2⟩|exact⟨c0,c1,c2⟩) (fail)
      all_goals
       clear e1 e2 e3 e4 a0 a1 a2 v0 v1 v2 k0 t0 hwr;have Hc:=Qh c0
       by_cases hN1:N=0
       ·have HS2:=Qh (show Z7 i0 l (k+1)=xs++[v] by rw[HS.out,if_pos (HN0.out.1 hN1)]);have HW2:=HWp.out;rw[if_pos hN1]at HW2;have HW3:=Qh HW2;have e6:(Instr.lookup 283 (.map (some (w.heap.size+1))) (.agg #[.int .i64 v.tx,.int .i64 v.key,.int .i64 v.nth]) false).run Tryz.prog w3= .ok (.int .i64 1) w3:=by rw[e5,hN1];rfl
        clear hN1 e5 HW2
        go_wp2_with (at_builtin;refine ZbT rfl rfl Zn2 (v:= .slice A3 xs.length c3) (cells:=[.int .i64 v.tx,.int .i64 v.key,.int .i64 v.nth]) (by rfl) rfl hown3 rfl rfl (by omega) (by omega) (by omega) ?_;intro g' c' w4 hown4 hu4 hg4 hlt4)
        go_roundg (gk-1)
        case measure=>omega
        case rel=>
         refine⟨k+1,some ⟨g',0,none⟩,c',xs++[v],_,by omega,by go_num,by simp,Qh (by rw[HS2.out]),by simp;omega,Qh (Hm4.out.upd hu4 (fun e=>by have:=(hown3.lt _ e).1;omega)),HW3,?_,HU3.out.then_ hu4 fun i e=> .inr (by have:=(hown3.lt i e).1;simp only[World.size_alloc];omega)⟩
         simpa[Ver.cells]using hown4
       ·have HS2:=Qh (show Z7 i0 l (k+1)=xs by rw[HS.out,if_neg (fun e=>hN1 (HN0.out.2 e))]);have HW2:=HWp.out;rw[if_neg hN1]at HW2;have HW3:=Qh HW2;have hb1:((N:Int)+1==1)=false:=by rw[beq_eq_false_iff_ne];omega
        clear hN1 HW2;go_wp2
        go_roundg (gk-1)
        case measure=>omega
        case rel=>exact⟨k+1,A3,c3,xs,_,by omega,by go_num,rfl,Qh (by rw[HS2.out]),by omega,Hm4,HW3,hown3,HU3.out⟩
  ·obtain rfl:k=l.length:=by omega
   have Hx:=Qh (show xs=ZgW i0 l by rw[hxs.out];rfl);clear hxs;go_wp2
   go_ret
   exact⟨A3,c3,by rw[Hx.out];rfl,by rw[←Hx.out];exact Z6 hown (by omega),uT.trans hu⟩
end
/- Whether all that a transaction needs is there. -/
section
open Go.RowKit
def Zke (w:World) (g:Nat) (h:Hist):Prop:=Blk w g 50 h.cells
set_option maxRecDepth 100000 in
theorem nd1 (F:Nat→Prop) (w:World) (h:Hist) (g:Nat) (v:Ver) (H:h.lies F w) (hg:Zke w g h):
  Calls Tryz.prog 167 #[.agg v.cells.toArray,.pointer (some ⟨g,0,none⟩)] w fun e w'=>e= .returned (.bool (!(Z9 h.txs v)))∧Upd No w w':=by
 obtain⟨txs,ords,A,c,B,d⟩:=h;unfold Zke Hist.cells at hg;obtain⟨tx,key,nth⟩:=v;unfold Ver.cells;have uA:=(Upd.refl No w).alloc (.cells #[.int .i64 tx,.int .i64 key,.int .i64 nth] 36);have g0:=(hg.upd uA id).cell 0;have g1:=(hg.upd uA id).cell 1;simp only[Qz,Qs]at g0 g1;have hh:=ZhI F _ ⟨txs,ords,A,c,B,d⟩ ⟨tx,key,nth⟩ (H.upd uA (fun _ _=>id));obtain⟨b,hb⟩:∃b,Z9 txs ⟨tx,key,nth⟩=b:=⟨_,rfl⟩;rw[show Z9 (Hist.txs ⟨txs,ords,A,c,B,d⟩) ⟨tx,key,nth⟩=b from hb]at hh;have HH:=Qh hh;have Hb:=Qh hb;clear hh hb
 go_enter Tryz.func167,Tryz.ntmps167
 go_wp2_with fail
 refine(HH.out).mono ?_;rintro e w1 ⟨rfl,hu1⟩;go_wp2
 go_ret
 exact⟨by rw[show Z9 (Hist.txs ⟨txs,ords,A,c,B,d⟩) ⟨tx,key,nth⟩=b from Hb.out];rfl,uA.trans hu1⟩
def Zep (txs:List HTx) (l:List Ver):Nat:=l.findIdx fun v=> !(Z9 txs v)
def Zez (txs:List HTx) (l:List Ver):Int:=if Zep txs l<l.length then (Zep txs l:Int) else -1
theorem Zol {txs:List HTx} {l:List Ver} {k:Nat} (hk:k<l.length) (h:∀(j:Nat) (hj:j<k),Z9 txs (l[j]'(by omega))=true) (h1:Z9 txs l[k]=false):Zep txs l=k:=by
 unfold Zep;rw[List.findIdx_eq hk];refine⟨by rw[h1];rfl,fun j hj=>by simp only[h j hj];rfl⟩
theorem Zic {txs:List HTx} {l:List Ver} (h:∀(j:Nat) (hj:j<l.length),Z9 txs l[j]=true):Zep txs l=l.length:=by
 unfold Zep;rw[List.findIdx_eq_length];intro x hx;obtain⟨k,hk,rfl⟩:=List.mem_iff_getElem.1 hx;simp only[h k hk];rfl
theorem ZoM (txs:List HTx) (l:List Ver):decide (Zez txs l≥0)= !(l.all (Z9 txs)):=by
 by_cases h:l.all (Z9 txs)=true
 ·have hm:Zep txs l=l.length:=Zic fun j hj=>by
   rw[List.all_eq_true]at h;exact h _ (List.getElem_mem hj)
  unfold Zez;rw[hm,if_neg (by omega),h];decide
 ·have hf:l.all (Z9 txs)=false:=by simpa using h
  have hm:Zep txs l<l.length:=by
   unfold Zep;rw[List.findIdx_lt_length];rw[List.all_eq_false]at hf;obtain⟨x,hx,hn⟩:=hf;exact⟨x,hx,by simpa using hn⟩
  unfold Zez;rw[if_pos hm,hf];simp
set_option maxRecDepth 100000 in
theorem Zsb (F G:Nat→Prop) (w:World) (A:Option Addr) (d:Nat) (l:List Ver) (h:Hist) (g:Nat) (L:Zpg G w A l) (H:h.lies F w) (hg:Zke w g h) (hl:l.length≤4398046511103):
  Calls Tryz.prog 211 #[.slice A l.length d,.func (.func 167) #[] #[.pointer (some ⟨g,0,none⟩)]] w fun e w'=>e= .returned (.int .i64 (Zez h.txs l))∧Upd No w w':=by
 go_enter Tryz.func211,Tryz.ntmps211
 go_wp2
 go_loopg [8] l.length (fun gk s wr=>∃k:Nat,k+gk=l.length∧s= .int .i64 k∧Hid (∀(j:Nat) (hj:j<l.length),j<k→Z9 h.txs l[j]=true)∧Upd No w wr)
 case atStart=>exact⟨0,by omega,rfl,Qh (fun j _ hj=>by omega),Upd.refl _ _⟩
 case round=>
  obtain⟨k,hgk,rfl,hall,hu⟩:=hrel
  by_cases hlt:k<l.length
  ·have hk':k<(l.map Ver.cells).length:=by simpa using hlt
   obtain⟨ad,hB,_,_,hc⟩:=Recs.at_ (Recs.upd L hu (fun _ _=>id)) hk';rw[List.getElem_map]at hc;obtain⟨x,hx⟩:∃x,l[k]=x:=⟨_,rfl⟩;rw[hx]at hc;have c0:wr.cell? (ad.add (k*3))=some (.int .i64 x.tx):=by simpa using hc 0 _ rfl
   have c1:wr.cell? ⟨(ad.add (k*3)).block,(ad.add (k*3)).off+1,none⟩=some (.int .i64 x.key):=by simpa using hc 1 _ rfl
   have c2:wr.cell? ⟨(ad.add (k*3)).block,(ad.add (k*3)).off+2,none⟩=some (.int .i64 x.nth):=by simpa using hc 2 _ rfl
   subst hB;have X:=Qh hx;have b2:(k:Int)<(l.length:Int):=by omega
   have b1:(0:Int)≤(k:Int):=Qn _;clear hx hc hk';have hn:=nd1 F wr h g x (H.upd hu (fun _ _=>id)) (hg.upd hu id)
   cases he:Z9 h.txs x
   ·have hpos:=Qh (show Zez h.txs l=(k:Int) by unfold Zez;rw[Zol (txs:=h.txs) (l:=l) hlt (fun j hj=>hall.out j (by omega) hj) (by rw[X.out];exact he),if_pos hlt]);rw[he]at hn;have HN:=Qh hn;clear he hn
    go_wp2_with fail
    refine(HN.out).mono ?_;rintro e w1 ⟨rfl,hu1⟩;go_wp2
    go_ret
    exact⟨by rw[hpos.out];rfl,hu.trans hu1⟩
   ·rw[he]at hn;have HN:=Qh hn;have He:=Qh he;clear he hn
    go_wp2_with fail
    refine(HN.out).mono ?_;rintro e w1 ⟨rfl,hu1⟩;go_wp2
    go_roundg (gk-1)
    case measure=>omega
    case rel=>exact⟨k+1,by omega,by go_num,Qh (fun j hj hjk=>by
      by_cases e:j=k
      ·subst e;rw[X.out];exact He.out
      ·exact hall.out j hj (by omega)),hu.trans hu1⟩
  ·obtain rfl:k=l.length:=by omega
   have hpos:=Qh (show Zez h.txs l= -1 by unfold Zez;rw[Zic (txs:=h.txs) (l:=l) fun j hj=>hall.out j hj hj,if_neg (by omega)]);go_wp2
   go_ret
   exact⟨by rw[hpos.out];rfl,hu⟩
set_option maxRecDepth 100000 in
theorem Zsc (F G:Nat→Prop) (w:World) (A:Option Addr) (d:Nat) (l:List Ver) (h:Hist) (g:Nat) (L:Zpg G w A l) (H:h.lies F w) (hg:Zke w g h) (hl:l.length≤4398046511103):
  Calls Tryz.prog 165 #[.slice A l.length d,.func (.func 167) #[] #[.pointer (some ⟨g,0,none⟩)]] w fun e w'=>e= .returned (.bool (!(l.all (Z9 h.txs))))∧Upd No w w':=by
 have hq:=ZoM h.txs l;have hf:=Zsb F G w A d l h g L H hg hl;obtain⟨b,hb⟩:∃b,l.all (Z9 h.txs)=b:=⟨_,rfl⟩;obtain⟨i,hi⟩:∃i,Zez h.txs l=i:=⟨_,rfl⟩;rw[hb,hi]at hq;rw[hi]at hf;rw[hb];have HF:=Qh hf;clear hf hb hi
 cases b
 ·have hi0:0≤i:=by simpa using hq
  clear hq
  go_enter Tryz.func165,Tryz.ntmps165
  go_wp2_with fail
  refine(HF.out).mono ?_;rintro e w1 ⟨rfl,hu1⟩;go_wp2
  go_ret
  exact⟨rfl,hu1⟩
 ·have hi0:decide (0≤i)=false:=by simpa using hq
  clear hq
  go_enter Tryz.func165,Tryz.ntmps165
  go_wp2_with fail
  refine(HF.out).mono ?_;rintro e w1 ⟨rfl,hu1⟩;go_wp2
  go_ret
  exact⟨rfl,hu1⟩
theorem ZpJ {w w':World} {l:List Ver} {A:Option Addr} {c:Nat} (h:w'.ownsRow w.heap.size 36 3 (.slice A l.length c) l.length (l.map Ver.cells).flatten):Zpg (fun i=>w.heap.size≤i) w' A l:=by
 have h2:=Recs.of_own (n:=l.length) (c:=c) ZnW (by omega) h;exact Recs.weak h2 fun i _ hi=>(h.lt i hi).1
set_option maxRecDepth 100000 in
theorem Zqn (F:Nat→Prop) (w:World) (h:Hist) (i0:Int) (dn:Bool) (A:Option Addr) (c:Nat) (l:List HOp) (H:h.lies F w) (hA:HOps F w A l) (hl:Zp l.length):
  Calls Tryz.prog 91 #[h.val,.agg #[.int .i64 i0,.bool dn,.slice A l.length c]] w fun e w'=>e= .returned (.bool (Zbr h.txs i0 l))∧Upd No w w':=by
 have hle:=Zii i0 l l.length;obtain⟨txs,ords,A',c',B,d⟩:=h;have uu:=((Upd.refl No w).alloc (.cells #[.slice A' txs.length c',.slice B ords.length d] 50)).alloc (.cells #[.int .i64 i0,.bool dn,.slice A l.length c] 85);have hb:Zke ((w.alloc (.cells #[.slice A' txs.length c',.slice B ords.length d] 50)).alloc (.cells #[.int .i64 i0,.bool dn,.slice A l.length c] 85)) w.heap.size ⟨txs,ords,A',c',B,d⟩:=(Blk.new w _ _).alloc _;have HB:=Qh hb;have hA':=hA.upd uu (fun _ _=>id);obtain⟨ns,hns⟩:∃ns,ZgW i0 l=ns:=⟨_,rfl⟩;have htn:=ZqR F _ i0 dn A c l hA' hl;rw[hns]at htn;have hns':(Z7 i0 l l.length)=ns:=hns;rw[hns']at hle;unfold Zp at hl;have HT:=Qh htn;have HV:=Qh (show Zbr txs i0 l=ns.all (Z9 txs) by unfold Zbr;rw[hns]);clear hb hA' htn hns hns';unfold Hist.val
 go_enter Tryz.func91,Tryz.ntmps91
 go_wp2_with fail
 refine(HT.out).mono ?_;rintro e w1 ⟨A1,c1,rfl,ho1,hu1⟩;have hv1:=ZpJ ho1;have H1:=(H.upd (uu.trans hu1) (fun _ _=>id));have hc:=Zsc F _ w1 A1 c1 ns ⟨txs,ords,A',c',B,d⟩ w.heap.size hv1 H1 (HB.out.upd hu1 id) (by omega);obtain⟨b,hb⟩:∃b,ns.all (Z9 txs)=b:=⟨_,rfl⟩;rw[show ns.all (Z9 (Hist.txs ⟨txs,ords,A',c',B,d⟩))=b from hb]at hc;have HC:=Qh hc;have Hb:=Qh hb;have HU:=Qh (uu.trans hu1);clear hc hb hv1 H1 ho1 hu1 uu
 go_wp2_with fail
 refine(HC.out).mono ?_;rintro e w2 ⟨rfl,hu2⟩;go_wp2
 go_ret
 exact⟨by rw[show Zbr (Hist.txs ⟨txs,ords,A',c',B,d⟩) i0 l=b from HV.out.trans Hb.out];rfl,HU.out.trans hu2⟩
end
/- Whether a history is right,by the document. -/
section
open Go.RowKit
theorem Zms {id:Int} {l:List HOp} (h:Zag id l=0):l.length≤4095:=by
 unfold Zag at h
 split at h
 ·cases h
 ·split at h
  ·cases h
  ·omega
section
variable {F:Nat→Prop} {w:World} {txs:List HTx} {ords:List HOrd} {A:Option Addr} {c:Nat} {B:Option Addr} {d:Nat} {i0:Int} {dn:Bool} {A1:Option Addr} {c1:Nat} {l:List HOp}
end
end
end Go.Proofs.YtonblekdfinpkaaGreat
