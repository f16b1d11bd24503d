/- The kinds of a phenomenon; who is next in an order. -/
import Derived.Test.YtklmahmfmbppkaaGreatProg
import Derived.Test.YtklmahmfmbppkaaGreatMap
import Derived.Test.YtklmahmfmbppkaaGreatMas
import Derived.Test.YtklmahmfmbppkaaGreatMat
import Derived.Test.YtklmahmfmbppkaaGreatMaw
import Derived.Test.YtklmahmfmbppkaaGreatMaz
namespace Go.Proofs.YtklmahmfmbppkaaGreat
set_option linter.unusedSimpArgs false
set_option linter.unusedVariables false
open Go.RowKit
def ZdV (p:Int):Int:=if p=1 then 2 else if p=4 then 6 else if p=5 then 14 else 0
def ZdT (p:Int):Int:=if p=5 then 8 else 0
theorem Zfe (w:World) (p:Int):Calls Tryz.prog 10 #[.int .i64 p] w fun e w'=>e= .returned (.tuple #[.int .i64 (ZdV p),.int .i64 (ZdT p)])∧w=w':=by
 by_cases h1:p=1
 ·subst h1
  go_enter Tryz.func10,Tryz.ntmps10
  go_wp2
  go_ret2
  exact⟨rfl,rfl⟩
 ·by_cases h4:p=4
  ·subst h4
   go_enter Tryz.func10,Tryz.ntmps10
   go_wp2
   go_ret2
   exact⟨rfl,rfl⟩
  ·by_cases h5:p=5
   ·subst h5
    go_enter Tryz.func10,Tryz.ntmps10
    go_wp2
    go_ret2
    exact⟨rfl,rfl⟩
   ·have b1:(p==1)=false:=by simpa using h1
    have b4:(p==4)=false:=by simpa using h4
    have b5:(p==5)=false:=by simpa using h5
    have hm:=Lib.hid (show ZdV p=0 by unfold ZdV;rw[if_neg h1,if_neg h4,if_neg h5])
    have hu:=Lib.hid (show ZdT p=0 by unfold ZdT;rw[if_neg h5])
    clear h1 h4 h5
    go_enter Tryz.func10,Tryz.ntmps10
    go_wp2
    go_ret2
    exact⟨by rw[hm.out,hu.out];rfl,rfl⟩
def Zo (l:List Int) (x:Int):Nat:=l.findIdx (·==x)
def Zjd (l:List Int) (tx:Int):Option Int:=if tx=0 then l[0]? else if Zo l tx<l.length then l[Zo l tx+1]? else none
end Go.Proofs.YtklmahmfmbppkaaGreat
/- The order of a key. -/
namespace Go.Proofs.YtklmahmfmbppkaaGreat
set_option linter.unusedSimpArgs false
set_option linter.unusedVariables false
open Go.RowKit
theorem Zlf (w:World) (o:HOp):Calls Tryz.prog 204 #[.agg o.cells.toArray] w fun e w'=>e= .returned (.bool (!o.read))∧Upd No w w':=by
 unfold HOp.cells
 go_enter Tryz.func204,Tryz.ntmps204
 go_wp2
 go_ret
 exact⟨rfl,(Upd.refl _ _).alloc _⟩
def ZhV (l:List HOrd) (key:Int):Nat:=l.findIdx fun o=>o.key==key
theorem Zow {l:List HOrd} {key:Int} {k:Nat} (hk:k<l.length) (h:∀(j:Nat) (hj:j<k),((l[j]'(by omega)).key==key)=false) (h1:(l[k].key==key)=true):ZhV l key=k:=by
 unfold ZhV
 rw[List.findIdx_eq hk]
 exact⟨h1,fun j hj=>by simp only[h j hj]⟩
def Zek (l:List HOrd) (key:Int):List Int:=match l[ZhV l key]? with|some o=>o.txs|none=>[]
end Go.Proofs.YtklmahmfmbppkaaGreat
/- What the program tells of histories,in plain words:needs,keys,writers,right;and of edges,reads and witnesses. -/
namespace Go.Proofs.YtklmahmfmbppkaaGreat
set_option linter.unusedSimpArgs false
set_option linter.unusedVariables false
open Go.RowKit
def Zb7 (id:Int) (o:HOp):Bool:=o.read&& !((Z7 o).tx==0)&& !((Z7 o).tx==id)
def Zal (id:Int) (l:List HOp):Nat→List Ver
 |0=>[]
 |k+1=>
  match l[k]? with
  |some o=>if Zb7 id o&& !(Zal id l k).contains (Z7 o) then Zal id l k++[Z7 o] else Zal id l k
  |none=>Zal id l k
def Zhf (id:Int) (l:List HOp):List Ver:=Zal id l l.length
def Zar (txs:List HTx) (v:Ver):Bool:=
 if v.tx=0∧v.nth=0 then idB v.key
 else match Zw txs v.tx with
  |some t=>decide (1≤v.nth)&&decide (v.nth≤(Zaa t.ops v.key:Int))
  |none=>false
def ZbA (txs:List HTx) (id:Int) (l:List HOp):Bool:=(Zhf id l).all (Zar txs)
def Zbf (l:List HOp) (f:HOp→Bool):List Int:=(l.filter f).map (·.key)
def Zcc (l:List HOp):List Int:=ZA (Zbf l fun o=> !o.read)
def ZbR (s:List Int):List Int→List Int
 |[]=>s
 |k::l=>ZbR (if k∈s then s else s++[k]) l
def Z6:List HTx→List Int→List Int
 |[],s=>s
 |t::l,s=>Z6 l (if t.done then ZbR s (Zcc t.ops) else s)
def Zt (txs:List HTx) (key:Int):List Int:=(txs.filter fun t=>t.done&&(Zcc t.ops).contains key).map (·.id)
def Zd4 (txs:List HTx) (i:Nat):Bool:=
 match txs[i]? with
 |none=>true
 |some t=>(match i with|0=>true|j+1=>(match txs[j]? with|some u=>decide (u.id<t.id)|none=>true))&&Zay t.id t.ops==0&&ZbA txs t.id t.ops
def ZcR (txs:List HTx) (ords:List HOrd) (i:Nat):Bool:=
 match ords[i]? with
 |none=>true
 |some o=>(match i with|0=>true|j+1=>(match ords[j]? with|some u=>decide (u.key<o.key)|none=>true))&& !o.txs.isEmpty&&(Za5 o.txs==Za5 (Zt txs o.key))
def Zc (h:Hist):Bool:=
 decide (h.txs.length≤4096)&&(List.range h.txs.length).all (Zd4 h.txs)&&(Z6 h.txs []).length==h.ords.length&&(List.range h.ords.length).all (ZcR h.txs h.ords)
def ZT (txs:List HTx) (id:Int):Option HTx:=match Zw txs id with|some t=>if t.done then some t else none|none=>none
def Zhq (txs:List HTx) (v:Ver):Bool:=if v.tx=0 then true else match ZT txs v.tx with|some t=>v.nth==(Zaa t.ops v.key:Int)|none=>false
def ZeK (ords:List HOrd) (key x y:Int):Bool:=Zjd (Zek ords key) x==some y
def ZmX (id:Int) (l:List HOp) (key:Int) (counts:Ver→Bool):Bool:=l.any fun o=>o.read&&o.key==key&& !(o.tx==id)&&counts (Z7 o)
def ZpB (h:Hist) (e:Edge):Bool:=
 match ZT h.txs e.f,ZT h.txs e.t with
 |some a,some b=>
  if e.f=e.t then false
  else if e.k=1 then ZeK h.ords e.key e.f e.t
  else if e.k=2 then ZmX b.id b.ops e.key fun v=>v.tx==e.f&&Zhq h.txs v
  else if e.k=3 then ZmX a.id a.ops e.key fun v=>Zhq h.txs v&&ZeK h.ords e.key v.tx e.t
  else false
 |_,_=>false
structure HBad where
 tx:Int
 place:Int
 of:Ver
deriving DecidableEq
def HBad.cells (b:HBad):List Value:=[.int .i64 b.tx,.int .i64 b.place,.int .i64 b.of.tx,.int .i64 b.of.key,.int .i64 b.of.nth]
def ZsT (txs:List HTx) (p:Int) (b:HBad):Bool:=
 match ZT txs b.tx with
 |none=>false
 |some t=>
  if b.place<0 then false
  else match t.ops[b.place.toNat]? with
   |none=>false
   |some o=>
    if !o.read|| !(Z7 o==b.of)||o.tx==0||o.tx==t.id then false
    else if p=2 then (match Zw txs o.tx with|some u=> !u.done|none=>true)
    else if p=3 then decide (o.nth<(Zaa (match Zw txs o.tx with|some u=>u.ops|none=>[]) o.key:Int))
    else false
def Zqm (m p:Int):Bool:=(bits .andNot .i64 m (ZdV p)==0)&&(ZdT p==0|| !(bits .and .i64 m (ZdT p)==0))
def Zhe:HBad:=⟨0,0,⟨0,0,0⟩⟩
def Zev (h:Hist) (p:Int) (l:List Edge) (b:HBad):Bool:=
 Zc h&&(if p=2∨p=3 then decide (l.length=0)&&ZsT h.txs p b
  else !(ZdV p==0)&&b==Zhe&&ZqG l&&Zqm (Zq9 l) p&&l.all (ZpB h))
/-! from any place -/
end Go.Proofs.YtklmahmfmbppkaaGreat
/- Whether a version is there. -/
namespace Go.Proofs.YtklmahmfmbppkaaGreat
set_option linter.unusedSimpArgs false
set_option linter.unusedVariables false
open Go.RowKit
theorem Znz {txs:List HTx} {v:Ver} (h1:v.tx=0) (h2:v.nth=0):Zar txs v=idB v.key:=by unfold Zar;rw[if_pos ⟨h1,h2⟩]
theorem ZiQ {txs:List HTx} {v:Ver} (h:¬(v.tx=0∧v.nth=0)) (hf:Zw txs v.tx=none):Zar txs v=false:=by unfold Zar;rw[if_neg h,hf]
theorem ZiP {txs:List HTx} {v:Ver} {t:HTx} (h:¬(v.tx=0∧v.nth=0)) (hf:Zw txs v.tx=some t):Zar txs v=(decide (1≤v.nth)&&decide (v.nth≤(Zaa t.ops v.key:Int))):=by unfold Zar;rw[if_neg h,hf]
section
variable (F:Nat→Prop) (w:World) (txs:List HTx) (ords:List HOrd) (A:Option Addr) (c:Nat) (B:Option Addr) (d:Nat) (i:Int)
theorem Zg4 (H:Hist.lies F w ⟨txs,ords,A,c,B,d⟩) (hf:Zw txs i=none):Calls Tryz.prog 202 #[.agg #[.slice A txs.length c,.slice B ords.length d],.int .i64 i] w fun e w'=>
  e= .returned (.tuple #[.agg #[.int .i64 0,.bool false,.slice none 0 0],.bool false])∧Upd No w w':=by
 refine(Zpx F w ⟨txs,ords,A,c,B,d⟩ i H).mono ?_
 intro e w' h
 unfold ZhO at h
 rw[show Zw (Hist.txs ⟨txs,ords,A,c,B,d⟩) i=none from hf]at h
 exact h
theorem Zdc {t:HTx} (H:Hist.lies F w ⟨txs,ords,A,c,B,d⟩) (hf:Zw txs i=some t):Calls Tryz.prog 202 #[.agg #[.slice A txs.length c,.slice B ords.length d],.int .i64 i] w fun e w'=>
  ∃A' c',e= .returned (.tuple #[.agg #[.int .i64 t.id,.bool t.done,.slice A' t.ops.length c'],.bool true])∧t.ops.length≤c'∧HOps (fun i=>w.heap.size≤i) w' A' t.ops∧Upd No w w':=by
 refine(Zpx F w ⟨txs,ords,A,c,B,d⟩ i H).mono ?_
 intro e w' h
 unfold ZhO at h
 rw[show Zw (Hist.txs ⟨txs,ords,A,c,B,d⟩) i=some t from hf]at h
 obtain⟨⟨A',c',h1,h2,h3⟩,h4⟩:=h
 exact⟨A',c',h1,h2,h3,h4⟩
end
theorem ZdZ {txs:List HTx} {i:Int} {t:HTx} (h:Zw txs i=some t):t∈txs:=List.mem_of_find?_eq_some h
set_option maxRecDepth 100000 in
set_option maxHeartbeats 1000000 in
theorem ZsH (F:Nat→Prop) (w:World) (h:Hist) (v:Ver) (H:h.lies F w):Calls Tryz.prog 169 #[h.val,.agg v.cells.toArray] w fun e w'=>e= .returned (.bool (Zar h.txs v))∧Upd No w w':=by
 obtain⟨txs,ords,A,c,B,d⟩:=h
 obtain⟨tx,key,nth⟩:=v
 unfold Hist.val Ver.cells
 have uu:=((Upd.refl No w).alloc (.cells #[.slice A txs.length c,.slice B ords.length d] 25)).alloc (.cells #[.int .i64 tx,.int .i64 key,.int .i64 nth] 116)
 by_cases h1:tx=0
 ·subst h1
  by_cases h2:nth=0
  ·subst h2
   have hv:=Lib.hid (Znz (txs:=txs) (v:=⟨0,key,0⟩) rfl rfl)
   unfold idB at hv
   by_cases b1:1≤key
   ·by_cases b2:key≤1048575
    ·go_enter Tryz.func169,Tryz.ntmps169
     go_wp2
     go_ret
     exact⟨by rw[hv.out,decide_eq_true b1,decide_eq_true b2];rfl,uu⟩
    ·go_enter Tryz.func169,Tryz.ntmps169
     go_wp2
     go_ret
     exact⟨by rw[hv.out,decide_eq_false (show¬key≤1048575 by omega),Bool.and_false];rfl,uu⟩
   ·go_enter Tryz.func169,Tryz.ntmps169
    go_wp2
    go_ret
    exact⟨by rw[hv.out,decide_eq_false (show¬1≤key by omega),Bool.false_and];rfl,uu⟩
  ·have hne:¬((⟨0,key,nth⟩:Ver).tx=0∧(⟨0,key,nth⟩:Ver).nth=0):=fun e=>h2 e.2
   have h2b:(nth==0)=false:=by simpa using h2
   clear h2
   have HH:=Lib.hid (H.upd uu (fun _ _=>id))
   have b1:=Blk.new (w.alloc (.cells #[.slice A txs.length c,.slice B ords.length d] 25)) 116 [.int .i64 0,.int .i64 key,.int .i64 nth]
   simp only[World.size_alloc]at b1
   have B1:=Lib.hid b1
   clear b1
   cases hf:Zw txs 0 with
   |none=>
    have hv:=Lib.hid (ZiQ hne hf)
    have Hf:=Lib.hid hf
    clear hne hf
    go_enter Tryz.func169,Tryz.ntmps169
    go_wp2_with fail
    refine(Zg4 F _ txs ords A c B d 0 HH.out Hf.out).mono ?_
    rintro e w1 ⟨rfl,hu1⟩
    have bv:=(B1.out.upd hu1 id).alloc (.cells #[.int .i64 0,.bool false,.slice none 0 0] 40)
    have g0:=bv.cell 0
    have g1:=bv.cell 1
    have g2:=bv.cell 2
    simp only[List.getElem?_cons_zero,List.getElem?_cons_succ]at g0 g1 g2
    go_wp2
    go_quiet (fail)
    go_wp2
    go_ret
    exact⟨by rw[hv.out];rfl,((uu.trans hu1).alloc _).drewN _⟩
   |some t=>
    have hv:=Lib.hid (ZiP hne hf)
    have Hf:=Lib.hid hf
    have hfew:=Lib.hid (H.tx t (ZdZ hf)).2.2.1
    clear hne hf
    by_cases hn1:1≤nth
    ·go_enter Tryz.func169,Tryz.ntmps169
     go_wp2_with fail
     refine(Zdc F _ txs ords A c B d 0 HH.out Hf.out).mono ?_
     rintro e w1 ⟨A1,c1,rfl,hc1,hh1,hu1⟩
     have bv:=(B1.out.upd hu1 id).alloc (.cells #[.int .i64 t.id,.bool t.done,.slice A1 t.ops.length c1] 40)
     have bt:=Blk.new w1 40 [.int .i64 t.id,.bool t.done,.slice A1 t.ops.length c1]
     have hh2:=HOps.upd hh1 ((Upd.refl No w1).alloc (.cells #[.int .i64 t.id,.bool t.done,.slice A1 t.ops.length c1] 40)) (fun _ _=>id)
     have g0:=bv.cell 0
     have g1:=bv.cell 1
     have g2:=bv.cell 2
     have k0:=bt.cell 0
     have k1:=bt.cell 1
     have k2:=bt.cell 2
     simp only[List.getElem?_cons_zero,List.getElem?_cons_succ]at g0 g1 g2 k0 k1 k2
     have U1:=Lib.hid ((uu.trans hu1).alloc (.cells #[.int .i64 t.id,.bool t.done,.slice A1 t.ops.length c1] 40))
     go_wp2
     go_region_held3 (fun w'=>w'.cell? ⟨w.heap.size+1,0,none⟩=some (.int .i64 0)∧w'.cell? ⟨w.heap.size+1,1,none⟩=some (.int .i64 key)∧w'.cell? ⟨w.heap.size+1,2,none⟩=some (.int .i64 nth)∧
       w'.cell? ⟨w1.heap.size,0,none⟩=some (.int .i64 t.id)∧w'.cell? ⟨w1.heap.size,1,none⟩=some (.bool t.done)∧w'.cell? ⟨w1.heap.size,2,none⟩=some (.slice A1 t.ops.length c1)∧Upd No w w')
      (first|exact⟨g0,g1,g2,k0,k1,k2,U1.out.drew⟩|exact⟨g0,g1,g2,k0,k1,k2,U1.out⟩|(go_split_ands;refine⟨?_,?_,?_,?_,?_,?_,?_⟩<;>first|assumption|(exact hu3.keepNo (by assumption))|(exact Upd.trans (by assumption) hu3)))
      ((go_at_call 153;refine(ZhU _ _ t.id t.done A1 c1 t.ops key (by exact hh2) hfew.out).mono ?_;rintro e w3 ⟨rfl,hu3⟩))
     go_wp2
     go_ret
     exact⟨by rw[hv.out,decide_eq_true hn1];rfl,(by go_split_ands;assumption)⟩
    ·go_enter Tryz.func169,Tryz.ntmps169
     go_wp2_with fail
     refine(Zdc F _ txs ords A c B d 0 HH.out Hf.out).mono ?_
     rintro e w1 ⟨A1,c1,rfl,hc1,hh1,hu1⟩
     have bv:=(B1.out.upd hu1 id).alloc (.cells #[.int .i64 t.id,.bool t.done,.slice A1 t.ops.length c1] 40)
     have g0:=bv.cell 0
     have g1:=bv.cell 1
     have g2:=bv.cell 2
     simp only[List.getElem?_cons_zero,List.getElem?_cons_succ]at g0 g1 g2
     have hnb:decide (1≤nth)=false:=decide_eq_false (by omega)
     go_wp2
     go_quiet (fail)
     go_wp2
     go_ret
     exact⟨by rw[hv.out,decide_eq_false (show¬1≤nth by omega),Bool.false_and];rfl,((uu.trans hu1).alloc _).drewN _⟩
 ·have hne:¬((⟨tx,key,nth⟩:Ver).tx=0∧(⟨tx,key,nth⟩:Ver).nth=0):=fun e=>h1 e.1
  have h1b:(tx==0)=false:=by simpa using h1
  clear h1
  have HH:=Lib.hid (H.upd uu (fun _ _=>id))
  have b1:=Blk.new (w.alloc (.cells #[.slice A txs.length c,.slice B ords.length d] 25)) 116 [.int .i64 tx,.int .i64 key,.int .i64 nth]
  simp only[World.size_alloc]at b1
  have B1:=Lib.hid b1
  clear b1
  cases hf:Zw txs tx with
  |none=>
   have hv:=Lib.hid (ZiQ hne hf)
   have Hf:=Lib.hid hf
   clear hne hf
   go_enter Tryz.func169,Tryz.ntmps169
   go_wp2_with fail
   refine(Zg4 F _ txs ords A c B d tx HH.out Hf.out).mono ?_
   rintro e w1 ⟨rfl,hu1⟩
   have bv:=(B1.out.upd hu1 id).alloc (.cells #[.int .i64 0,.bool false,.slice none 0 0] 40)
   have g0:=bv.cell 0
   have g1:=bv.cell 1
   have g2:=bv.cell 2
   simp only[List.getElem?_cons_zero,List.getElem?_cons_succ]at g0 g1 g2
   go_wp2
   go_quiet (fail)
   go_wp2
   go_ret
   exact⟨by rw[hv.out];rfl,((uu.trans hu1).alloc _).drewN _⟩
  |some t=>
   have hv:=Lib.hid (ZiP hne hf)
   have Hf:=Lib.hid hf
   have hfew:=Lib.hid (H.tx t (ZdZ hf)).2.2.1
   clear hne hf
   by_cases hn1:1≤nth
   ·go_enter Tryz.func169,Tryz.ntmps169
    go_wp2_with fail
    refine(Zdc F _ txs ords A c B d tx HH.out Hf.out).mono ?_
    rintro e w1 ⟨A1,c1,rfl,hc1,hh1,hu1⟩
    have bv:=(B1.out.upd hu1 id).alloc (.cells #[.int .i64 t.id,.bool t.done,.slice A1 t.ops.length c1] 40)
    have bt:=Blk.new w1 40 [.int .i64 t.id,.bool t.done,.slice A1 t.ops.length c1]
    have hh2:=HOps.upd hh1 ((Upd.refl No w1).alloc (.cells #[.int .i64 t.id,.bool t.done,.slice A1 t.ops.length c1] 40)) (fun _ _=>id)
    have g0:=bv.cell 0
    have g1:=bv.cell 1
    have g2:=bv.cell 2
    have k0:=bt.cell 0
    have k1:=bt.cell 1
    have k2:=bt.cell 2
    simp only[List.getElem?_cons_zero,List.getElem?_cons_succ]at g0 g1 g2 k0 k1 k2
    have U1:=Lib.hid ((uu.trans hu1).alloc (.cells #[.int .i64 t.id,.bool t.done,.slice A1 t.ops.length c1] 40))
    go_wp2
    go_region_held3 (fun w'=>w'.cell? ⟨w.heap.size+1,0,none⟩=some (.int .i64 tx)∧w'.cell? ⟨w.heap.size+1,1,none⟩=some (.int .i64 key)∧w'.cell? ⟨w.heap.size+1,2,none⟩=some (.int .i64 nth)∧
      w'.cell? ⟨w1.heap.size,0,none⟩=some (.int .i64 t.id)∧w'.cell? ⟨w1.heap.size,1,none⟩=some (.bool t.done)∧w'.cell? ⟨w1.heap.size,2,none⟩=some (.slice A1 t.ops.length c1)∧Upd No w w')
     (first|exact⟨g0,g1,g2,k0,k1,k2,U1.out.drew⟩|exact⟨g0,g1,g2,k0,k1,k2,U1.out⟩|(go_split_ands;refine⟨?_,?_,?_,?_,?_,?_,?_⟩<;>first|assumption|(exact hu3.keepNo (by assumption))|(exact Upd.trans (by assumption) hu3)))
     ((go_at_call 153;refine(ZhU _ _ t.id t.done A1 c1 t.ops key (by exact hh2) hfew.out).mono ?_;rintro e w3 ⟨rfl,hu3⟩))
    go_wp2
    go_ret
    exact⟨by rw[hv.out,decide_eq_true hn1];rfl,(by go_split_ands;assumption)⟩
   ·go_enter Tryz.func169,Tryz.ntmps169
    go_wp2_with fail
    refine(Zdc F _ txs ords A c B d tx HH.out Hf.out).mono ?_
    rintro e w1 ⟨A1,c1,rfl,hc1,hh1,hu1⟩
    have bv:=(B1.out.upd hu1 id).alloc (.cells #[.int .i64 t.id,.bool t.done,.slice A1 t.ops.length c1] 40)
    have g0:=bv.cell 0
    have g1:=bv.cell 1
    have g2:=bv.cell 2
    simp only[List.getElem?_cons_zero,List.getElem?_cons_succ]at g0 g1 g2
    have hnb:decide (1≤nth)=false:=decide_eq_false (by omega)
    go_wp2
    go_quiet (fail)
    go_wp2
    go_ret
    exact⟨by rw[hv.out,decide_eq_false (show¬1≤nth by omega),Bool.false_and];rfl,((uu.trans hu1).alloc _).drewN _⟩
end Go.Proofs.YtklmahmfmbppkaaGreat
/- What a transaction needs of others. -/
namespace Go.Proofs.YtklmahmfmbppkaaGreat
set_option linter.unusedSimpArgs false
set_option linter.unusedVariables false
open Go.RowKit
theorem Zoe:SlT Tryz.prog 213 116 3 24:=SlT.mk_ Tryz.underlying213 (z:= .agg #[.int .i64 0,.int .i64 0,.int .i64 0]) (by kernel_rfl) rfl (by omega)
def Zpq (F:Nat→Prop) (w:World) (A:Option Addr) (l:List Ver):Prop:=Recs F w A 3 (l.map Ver.cells)
theorem Zn9 {l:List Ver}:∀r∈l.map Ver.cells,r.length=3:=fun r hr=>by
 obtain⟨e,_,rfl⟩:=List.mem_map.1 hr
 rfl
def ZqM (w:World) (l:List Ver) (e:Ending) (w':World):Prop:=∃A c,e= .returned (.slice A l.length c)∧w'.ownsRow w.heap.size 116 3 (.slice A l.length c) l.length (l.map Ver.cells).flatten∧Upd No w w'
def MetV (m:List (Ver×Value)) (xs:List Ver) (k:Nat):Prop:=∀v:Ver,∃n:Nat,(ZE m v).getD (.int .i64 0)= .int .i64 n∧n≤k∧(n=0↔v∉xs)
theorem MetV.nil:MetV [] [] 0:=fun v=>⟨0,by rw[ZcK];rfl,Nat.le_refl _,by simp⟩
theorem MetV.mono {m:List (Ver×Value)} {xs:List Ver} {k:Nat} (h:MetV m xs k):MetV m xs (k+1):=fun v=>by
 obtain⟨n,h1,h2,h3⟩:=h v
 exact⟨n,h1,by omega,h3⟩
theorem MetV.put {m:List (Ver×Value)} {xs:List Ver} {k n:Nat} {v:Ver} (h:MetV m xs k) (hn:(ZE m v).getD (.int .i64 0)= .int .i64 n):MetV (Zq m v (.int .i64 ((n:Int)+1))) (if n=0 then xs++[v] else xs) (k+1):=fun u=>by
 obtain⟨n',h1,h2,h3⟩:=h v
 rw[h1]at hn
 obtain rfl:n'=n:=by injection hn with _ hn;omega
 by_cases e:u=v
 ·subst e
  refine⟨n'+1,by rw[Z2];rfl,by omega,?_⟩
  constructor
  ·intro e;omega
  ·intro hn2
   split at hn2
   ·simp at hn2
   ·rename_i h0
    exact absurd (h3.2 hn2) h0
 ·rw[Zam _ _ e]
  obtain⟨q,g1,g2,g3⟩:=h u
  refine⟨q,g1,by omega,?_⟩
  rw[g3]
  split
  ·simp[e]
  ·rfl
theorem Zfh {id:Int} {l:List HOp} {k:Nat} {x:HOp} (hk:k<l.length) (hx:l[k]=x) (h:Zb7 id x=false):Zal id l (k+1)=Zal id l k:=by
 show(match l[k]? with|some o=>_|none=>_)=_
 rw[List.getElem?_eq_getElem hk,hx]
 simp[h]
theorem ZlW {id:Int} {l:List HOp} {k:Nat} {x:HOp} (hk:k<l.length) (hx:l[k]=x) (h:Zb7 id x=true):Zal id l (k+1)=if Z7 x∉Zal id l k then Zal id l k++[Z7 x] else Zal id l k:=by
 show(match l[k]? with|some o=>_|none=>_)=_
 rw[List.getElem?_eq_getElem hk,hx]
 simp[h]
theorem ZiA (id:Int) (l:List HOp):∀k,(Zal id l k).length≤k
 |0=>Nat.le_refl _
 |k+1=>by
  have ih:=ZiA id l k
  show(match l[k]? with|some o=>_|none=>_:List Ver).length≤_
  split
  ·split
   ·simp;omega
   ·omega
  ·omega
set_option maxRecDepth 100000 in
set_option maxHeartbeats 4000000 in
theorem ZqS (F:Nat→Prop) (w:World) (i0:Int) (dn:Bool) (A:Option Addr) (c:Nat) (l:List HOp) (h:HOps F w A l) (hl:ZR l.length):
  Calls Tryz.prog 167 #[.agg #[.int .i64 i0,.bool dn,.slice A l.length c]] w (ZqM w (Zhf i0 l)):=by
 unfold ZR at hl
 have uT:=(Upd.refl No w).alloc (.cells #[.int .i64 i0,.bool dn,.slice A l.length c] 40)
 have bT:=Lib.hid (Blk.new w 40 [.int .i64 i0,.bool dn,.slice A l.length c])
 have hmm:= @run_makeMap Tryz.prog
 have hn0:=MapE.new (w.alloc (.cells #[.int .i64 i0,.bool dn,.slice A l.length c] 40)) Zd2
 simp only[World.size_alloc]at hn0
 have HN:=Lib.hid hn0
 clear hn0
 go_enter Tryz.func167,Tryz.ntmps167
 go_wp2
 go_loopg [3,12] l.length (fun gk s i wr=>∃(k:Nat) (A3:Option Addr) (c3:Nat) (xs:List Ver) (m:List (Ver×Value)),k+gk=l.length∧i= .int .i64 k∧s= .slice A3 xs.length c3∧Hid (xs=Zal i0 l k)∧xs.length≤k∧
  Hid (MapE wr (w.heap.size+1) Zd2 m)∧Hid (MetV m xs k)∧wr.ownsRow (w.heap.size+2) 116 3 (.slice A3 xs.length c3) xs.length (xs.map Ver.cells).flatten∧
  Upd No (w.alloc (.cells #[.int .i64 i0,.bool dn,.slice A l.length c] 40)) wr)
 case atStart=>exact⟨0,none,0,[],[],by omega,rfl,rfl,Lib.hid rfl,by simp,Lib.hid HN.out,Lib.hid MetV.nil,World.ownsRow_nil _ _ _ _,(Upd.refl No _).alloc _⟩
 case round=>
  obtain⟨k,A3,c3,xs,m,hgk,rfl,rfl,hxs,hxl,hm,hW,hown,hu⟩:=hrel
  clear hmm
  by_cases hlt:k<l.length
  ·obtain⟨ad,hAd,q0,q1,q2,q3⟩:=(h.upd (uT.trans hu) (fun _ _=>id)).at_ hlt
   obtain⟨x,hx⟩:∃x,l[k]=x:=⟨_,rfl⟩
   rw[hx]at q0 q1 q2 q3
   subst hAd
   have X:=Lib.hid hx
   have b1:(0:Int)≤(k:Int):=Int.natCast_nonneg _
   have b2:(k:Int)<(l.length:Int):=by omega
   have uA:=(Upd.refl No wr).alloc (.cells #[.bool x.read,.int .i64 x.key,.int .i64 x.tx,.int .i64 x.nth] 113)
   have bo:=Lib.hid (Blk.new wr 113 [.bool x.read,.int .i64 x.key,.int .i64 x.tx,.int .i64 x.nth])
   clear hx
   have hl1:=hm.out.lt
   have hm1:=hm.out.upd uA id
   have hown1:=Za hown uA (fun _ _=>id)
   have bT1:=Lib.hid ((bT.out.upd hu id).upd uA id)
   obtain⟨v,hv⟩:∃v,Z7 x=v:=⟨_,rfl⟩
   have hof:=oof (wr.alloc (.cells #[.bool x.read,.int .i64 x.key,.int .i64 x.tx,.int .i64 x.nth] 113)) x
   rw[hv]at hof
   have Hof:=Lib.hid (hof.mono (R':=fun e w'=>e= .returned (.agg #[.int .i64 v.tx,.int .i64 v.key,.int .i64 v.nth])∧Upd No (wr.alloc (.cells #[.bool x.read,.int .i64 x.key,.int .i64 x.tx,.int .i64 x.nth] 113)) w') fun e w' h=>h)
   have V:=Lib.hid hv
   clear hof hv
   go_wp2_with fail
   refine(Hof.out).mono ?_
   rintro e w1 ⟨rfl,hu1⟩
   have uV:=hu1.alloc (.cells #[.int .i64 v.tx,.int .i64 v.key,.int .i64 v.nth] 116)
   have bv:=Blk.new w1 116 [.int .i64 v.tx,.int .i64 v.key,.int .i64 v.nth]
   have bo1:=bo.out.upd uV id
   have bT2:=bT1.out.upd uV id
   have hm2:=hm1.upd uV id
   have hown2:=Za hown1 uV (fun _ _=>id)
   have k0:=bo1.cell 0
   have t0:=bT2.cell 0
   have v0:=bv.cell 0
   have v1:=bv.cell 1
   have v2:=bv.cell 2
   simp only[List.getElem?_cons_zero,List.getElem?_cons_succ]at k0 t0 v0 v1 v2
   have HU:=Lib.hid ((hu.trans uA).trans uV)
   have hz1:=uV.size
   simp only[World.size_alloc]at hz1
   have hz2:=hu1.size
   simp only[World.size_alloc]at hz2
   have hz3:=hu.size
   simp only[World.size_alloc]at hz3
   clear uA uV hm1 hown1 bo1 bT2 bv hu1
   cases hr:x.read
   ·rw[hr]at k0
    have HS:=Lib.hid (Zfh (id:=i0) hlt X.out (by unfold Zb7;rw[hr];rfl))
    clear hr
    go_wp2
    go_roundg (gk-1)
    case measure=>omega
    case rel=>exact⟨k+1,A3,c3,xs,m,by omega,by go_num,rfl,Lib.hid (by rw[HS.out,hxs.out]),by omega,Lib.hid hm2,Lib.hid hW.out.mono,hown2,HU.out⟩
   ·rw[hr]at k0
    by_cases h0:v.tx=0
    ·have HS:=Lib.hid (Zfh (id:=i0) hlt X.out (by unfold Zb7;rw[V.out,h0];simp))
     have h0b:(v.tx==0)=true:=by simpa using h0
     clear hr h0
     go_wp2
     go_roundg (gk-1)
     case measure=>omega
     case rel=>exact⟨k+1,A3,c3,xs,m,by omega,by go_num,rfl,Lib.hid (by rw[HS.out,hxs.out]),by omega,Lib.hid hm2,Lib.hid hW.out.mono,hown2,HU.out⟩
    ·have h0b:(v.tx==0)=false:=by simpa using h0
     clear h0
     by_cases h1:v.tx=i0
     ·have h1b:(v.tx==i0)=true:=by simpa using h1
      have HS:=Lib.hid (Zfh (id:=i0) hlt X.out (by unfold Zb7;rw[V.out,h1b];simp))
      clear hr h1
      go_wp2
      go_roundg (gk-1)
      case measure=>omega
      case rel=>exact⟨k+1,A3,c3,xs,m,by omega,by go_num,rfl,Lib.hid (by rw[HS.out,hxs.out]),by omega,Lib.hid hm2,Lib.hid hW.out.mono,hown2,HU.out⟩
     ·have h1b:(v.tx==i0)=false:=by simpa using h1
      have HS:=Lib.hid (show Zal i0 l (k+1)=if v∉xs then xs++[v] else xs by rw[hxs.out,←V.out];exact ZlW (id:=i0) hlt X.out (by unfold Zb7;rw[V.out,h1b,hr,h0b];rfl))
      clear hr h1
      obtain⟨N,hN,hNk,hN0⟩:=hW.out v
      have HWp:=Lib.hid (hW.out.put hN)
      have HN0:=Lib.hid hN0
      clear hN0
      have HZW:=Lib.hid (show(w1.alloc (.cells #[.int .i64 v.tx,.int .i64 v.key,.int .i64 v.nth] 116)).heap.size=w1.heap.size+1 by simp)
      go_wp2
      generalize hW0:w1.alloc (.cells #[.int .i64 v.tx,.int .i64 v.key,.int .i64 v.nth] 116)=W0 at*
      clear hW0
      have hzw:=HZW.out
      have HUW:=HU
      have hwr:IntKind.i64.wrap ((N:Int)+1)=(N:Int)+1:=IntWalk.i64_in _ (by omega)
      have hwn:w1.heap.size≠w.heap.size+1:=by omega
      have hun:∀i,One (w.heap.size+1) i→w.heap.size+1≤i:=fun i e=>by cases e;exact Nat.le_refl _
      have hmd:MapE W0.drew (w.heap.size+1) Zd2 m:=hm2
      obtain⟨st,w2,e2,hm3,hu2,hst⟩:=Zcl Zhr Tryz.underlying254 Zc7 hmd v
      have e1:=ZD Zhr Tryz.underlying254 Zc7 hmd.is v
      have e3:=ZD Zhr Tryz.underlying254 Zc7 hm3.is v
      rw[Z2]at e3
      rw[hN]at e1 e2 e3
      obtain⟨w3,e4,hm4,hu3⟩:=hst (.int .i64 ((N:Int)+1))
      have e5:=ZD Zhr Tryz.underlying254 Zc7 hm4.is v
      rw[Z2]at e5
      change (Instr.lookup 254 (.map (some (w.heap.size+1))) (.agg #[.int .i64 v.tx,.int .i64 v.key,.int .i64 v.nth]) false).run Tryz.prog W0.drew= .ok (.int .i64 N) W0.drew at e1
      change (Instr.lookup 254 (.map (some (w.heap.size+1))) (.agg #[.int .i64 v.tx,.int .i64 v.key,.int .i64 v.nth]) false).run Tryz.prog w2= .ok (.int .i64 N) w2 at e3
      change (Instr.mapEntry 254 (.map (some (w.heap.size+1))) (.agg #[.int .i64 v.tx,.int .i64 v.key,.int .i64 v.nth])).run Tryz.prog W0.drew= .ok (.tuple #[.int .i64 N,.int .i64 st]) w2 at e2
      change (Instr.entryStore 254 (.map (some (w.heap.size+1))) (.int .i64 st) (.int .i64 ((N:Int)+1))).run Tryz.prog w2= .ok () w3 at e4
      change (Instr.lookup 254 (.map (some (w.heap.size+1))) (.agg #[.int .i64 v.tx,.int .i64 v.key,.int .i64 v.nth]) false).run Tryz.prog w3= .ok (.int .i64 ((N:Int)+1)) w3 at e5
      have a0:=Upd.keep hu2 (p:=⟨w1.heap.size,0,none⟩) v0 hwn
      have a1:=Upd.keep hu2 (p:=⟨w1.heap.size,1,none⟩) v1 hwn
      have a2:=Upd.keep hu2 (p:=⟨w1.heap.size,2,none⟩) v2 hwn
      have c0:=Upd.keep hu3 (p:=⟨w1.heap.size,0,none⟩) v0 hwn
      have c1:=Upd.keep hu3 (p:=⟨w1.heap.size,1,none⟩) v1 hwn
      have c2:=Upd.keep hu3 (p:=⟨w1.heap.size,2,none⟩) v2 hwn
      have hown3:=Za hown2 hu3.of_drew (fun i hi e=>by have:=(hown2.lt i hi).1;cases e;omega)
      have HU3:=Lib.hid (HUW.out.then_ hu3.of_drew fun i e=> .inr (by simp only[World.size_alloc];exact hun i e))
      have hz4:W0.heap.size≤w3.heap.size:=hu3.size
      have Hm4:=Lib.hid hm4
      clear hN hst hmd hm2 hm3 hm4 hown2 hu2 hu3
      go_region_held3 (fun w'=>w'.cell? ⟨w1.heap.size,0,none⟩=some (.int .i64 v.tx)∧w'.cell? ⟨w1.heap.size,1,none⟩=some (.int .i64 v.key)∧w'.cell? ⟨w1.heap.size,2,none⟩=some (.int .i64 v.nth))
       (first|exact⟨v0,v1,v2⟩|exact⟨a0,a1,a2⟩|exact⟨c0,c1,c2⟩) (fail)
      all_goals
       clear e1 e2 e3 e4 a0 a1 a2 v0 v1 v2 k0 t0 hwr
       have Hc:=Lib.hid c0
       by_cases hN1:N=0
       ·have HS2:=Lib.hid (show Zal i0 l (k+1)=xs++[v] by rw[HS.out,if_pos (HN0.out.1 hN1)])
        have HW2:=HWp.out
        rw[if_pos hN1]at HW2
        have HW3:=Lib.hid HW2
        have e6:(Instr.lookup 254 (.map (some (w.heap.size+1))) (.agg #[.int .i64 v.tx,.int .i64 v.key,.int .i64 v.nth]) false).run Tryz.prog w3= .ok (.int .i64 1) w3:=by rw[e5,hN1];rfl
        clear hN1 e5 HW2
        go_wp2_with (at_builtin;refine Zbw rfl rfl Zoe (v:= .slice A3 xs.length c3) (cells:=[.int .i64 v.tx,.int .i64 v.key,.int .i64 v.nth]) (by rfl) rfl hown3 rfl rfl (by omega) (by omega) (by omega) ?_;intro g' c' w4 hown4 hu4 hg4 hlt4)
        go_roundg (gk-1)
        case measure=>omega
        case rel=>
         refine⟨k+1,some ⟨g',0,none⟩,c',xs++[v],_,by omega,by go_num,by simp,Lib.hid (by rw[HS2.out]),by simp;omega,Lib.hid (Hm4.out.upd hu4 (fun e=>by have:=(hown3.lt _ e).1;omega)),HW3,?_,HU3.out.then_ hu4 fun i e=> .inr (by have:=(hown3.lt i e).1;simp only[World.size_alloc];omega)⟩
         simpa[Ver.cells]using hown4
       ·have HS2:=Lib.hid (show Zal i0 l (k+1)=xs by rw[HS.out,if_neg (fun e=>hN1 (HN0.out.2 e))])
        have HW2:=HWp.out
        rw[if_neg hN1]at HW2
        have HW3:=Lib.hid HW2
        have hb1:((N:Int)+1==1)=false:=by rw[beq_eq_false_iff_ne];omega
        clear hN1 HW2
        go_wp2
        go_roundg (gk-1)
        case measure=>omega
        case rel=>exact⟨k+1,A3,c3,xs,_,by omega,by go_num,rfl,Lib.hid (by rw[HS2.out]),by omega,Hm4,HW3,hown3,HU3.out⟩
  ·obtain rfl:k=l.length:=by omega
   have Hx:=Lib.hid (show xs=Zhf i0 l by rw[hxs.out];rfl)
   clear hxs
   go_wp2
   go_ret
   exact⟨A3,c3,by rw[Hx.out];rfl,by rw[←Hx.out];exact Z9 hown (by omega),uT.trans hu⟩
end Go.Proofs.YtklmahmfmbppkaaGreat
/- Whether all that a transaction needs is there. -/
namespace Go.Proofs.YtklmahmfmbppkaaGreat
set_option linter.unusedSimpArgs false
set_option linter.unusedVariables false
open Go.RowKit
def Zky (w:World) (g:Nat) (h:Hist):Prop:=Blk w g 25 h.cells
set_option maxRecDepth 100000 in
theorem nd1 (F:Nat→Prop) (w:World) (h:Hist) (g:Nat) (v:Ver) (H:h.lies F w) (hg:Zky w g h):
  Calls Tryz.prog 168 #[.agg v.cells.toArray,.pointer (some ⟨g,0,none⟩)] w fun e w'=>e= .returned (.bool (!(Zar h.txs v)))∧Upd No w w':=by
 obtain⟨txs,ords,A,c,B,d⟩:=h
 unfold Zky Hist.cells at hg
 obtain⟨tx,key,nth⟩:=v
 unfold Ver.cells
 have uA:=(Upd.refl No w).alloc (.cells #[.int .i64 tx,.int .i64 key,.int .i64 nth] 116)
 have g0:=(hg.upd uA id).cell 0
 have g1:=(hg.upd uA id).cell 1
 simp only[List.getElem?_cons_zero,List.getElem?_cons_succ]at g0 g1
 have hh:=ZsH F _ ⟨txs,ords,A,c,B,d⟩ ⟨tx,key,nth⟩ (H.upd uA (fun _ _=>id))
 obtain⟨b,hb⟩:∃b,Zar txs ⟨tx,key,nth⟩=b:=⟨_,rfl⟩
 rw[show Zar (Hist.txs ⟨txs,ords,A,c,B,d⟩) ⟨tx,key,nth⟩=b from hb]at hh
 have HH:=Lib.hid hh
 have Hb:=Lib.hid hb
 clear hh hb
 go_enter Tryz.func168,Tryz.ntmps168
 go_wp2_with fail
 refine(HH.out).mono ?_
 rintro e w1 ⟨rfl,hu1⟩
 go_wp2
 go_ret
 exact⟨by rw[show Zar (Hist.txs ⟨txs,ords,A,c,B,d⟩) ⟨tx,key,nth⟩=b from Hb.out];rfl,uA.trans hu1⟩
def ZeH (txs:List HTx) (l:List Ver):Nat:=l.findIdx fun v=> !(Zar txs v)
def ZeR (txs:List HTx) (l:List Ver):Int:=if ZeH txs l<l.length then (ZeH txs l:Int) else -1
theorem Zox {txs:List HTx} {l:List Ver} {k:Nat} (hk:k<l.length) (h:∀(j:Nat) (hj:j<k),Zar txs (l[j]'(by omega))=true) (h1:Zar txs l[k]=false):ZeH txs l=k:=by
 unfold ZeH
 rw[List.findIdx_eq hk]
 refine⟨by rw[h1];rfl,fun j hj=>by simp only[h j hj];rfl⟩
theorem Ziu {txs:List HTx} {l:List Ver} (h:∀(j:Nat) (hj:j<l.length),Zar txs l[j]=true):ZeH txs l=l.length:=by
 unfold ZeH
 rw[List.findIdx_eq_length]
 intro x hx
 obtain⟨k,hk,rfl⟩:=List.mem_iff_getElem.1 hx
 simp only[h k hk];rfl
theorem ZoY (txs:List HTx) (l:List Ver):decide (ZeR txs l≥0)= !(l.all (Zar txs)):=by
 by_cases h:l.all (Zar txs)=true
 ·have hm:ZeH txs l=l.length:=Ziu fun j hj=>by
   rw[List.all_eq_true]at h
   exact h _ (List.getElem_mem hj)
  unfold ZeR
  rw[hm,if_neg (by omega),h];decide
 ·have hf:l.all (Zar txs)=false:=by simpa using h
  have hm:ZeH txs l<l.length:=by
   unfold ZeH
   rw[List.findIdx_lt_length]
   rw[List.all_eq_false]at hf
   obtain⟨x,hx,hn⟩:=hf
   exact⟨x,hx,by simpa using hn⟩
  unfold ZeR
  rw[if_pos hm,hf]
  simp
set_option maxRecDepth 100000 in
theorem ZrU (F G:Nat→Prop) (w:World) (A:Option Addr) (d:Nat) (l:List Ver) (h:Hist) (g:Nat) (L:Zpq G w A l) (H:h.lies F w) (hg:Zky w g h) (hl:l.length≤4398046511103):
  Calls Tryz.prog 201 #[.slice A l.length d,.func (.func 168) #[] #[.pointer (some ⟨g,0,none⟩)]] w fun e w'=>e= .returned (.int .i64 (ZeR h.txs l))∧Upd No w w':=by
 go_enter Tryz.func201,Tryz.ntmps201
 go_wp2
 go_loopg [8] l.length (fun gk s wr=>∃k:Nat,k+gk=l.length∧s= .int .i64 k∧Hid (∀(j:Nat) (hj:j<l.length),j<k→Zar h.txs l[j]=true)∧Upd No w wr)
 case atStart=>exact⟨0,by omega,rfl,Lib.hid (fun j _ hj=>by omega),Upd.refl _ _⟩
 case round=>
  obtain⟨k,hgk,rfl,hall,hu⟩:=hrel
  by_cases hlt:k<l.length
  ·have hk':k<(l.map Ver.cells).length:=by simpa using hlt
   obtain⟨ad,hB,_,_,hc⟩:=Recs.at_ (Recs.upd L hu (fun _ _=>id)) hk'
   rw[List.getElem_map]at hc
   obtain⟨x,hx⟩:∃x,l[k]=x:=⟨_,rfl⟩
   rw[hx]at hc
   have c0:wr.cell? (ad.add (k*3))=some (.int .i64 x.tx):=by simpa using hc 0 _ rfl
   have c1:wr.cell? ⟨(ad.add (k*3)).block,(ad.add (k*3)).off+1,none⟩=some (.int .i64 x.key):=by simpa using hc 1 _ rfl
   have c2:wr.cell? ⟨(ad.add (k*3)).block,(ad.add (k*3)).off+2,none⟩=some (.int .i64 x.nth):=by simpa using hc 2 _ rfl
   subst hB
   have X:=Lib.hid hx
   have b2:(k:Int)<(l.length:Int):=by omega
   have b1:(0:Int)≤(k:Int):=Int.natCast_nonneg _
   clear hx hc hk'
   have hn:=nd1 F wr h g x (H.upd hu (fun _ _=>id)) (hg.upd hu id)
   cases he:Zar h.txs x
   ·have hpos:=Lib.hid (show ZeR h.txs l=(k:Int) by unfold ZeR;rw[Zox (txs:=h.txs) (l:=l) hlt (fun j hj=>hall.out j (by omega) hj) (by rw[X.out];exact he),if_pos hlt])
    rw[he]at hn
    have HN:=Lib.hid hn
    clear he hn
    go_wp2_with fail
    refine(HN.out).mono ?_
    rintro e w1 ⟨rfl,hu1⟩
    go_wp2
    go_ret
    exact⟨by rw[hpos.out];rfl,hu.trans hu1⟩
   ·rw[he]at hn
    have HN:=Lib.hid hn
    have He:=Lib.hid he
    clear he hn
    go_wp2_with fail
    refine(HN.out).mono ?_
    rintro e w1 ⟨rfl,hu1⟩
    go_wp2
    go_roundg (gk-1)
    case measure=>omega
    case rel=>exact⟨k+1,by omega,by go_num,Lib.hid (fun j hj hjk=>by
      by_cases e:j=k
      ·subst e;rw[X.out];exact He.out
      ·exact hall.out j hj (by omega)),hu.trans hu1⟩
  ·obtain rfl:k=l.length:=by omega
   have hpos:=Lib.hid (show ZeR h.txs l= -1 by unfold ZeR;rw[Ziu (txs:=h.txs) (l:=l) fun j hj=>hall.out j hj hj,if_neg (by omega)])
   go_wp2
   go_ret
   exact⟨by rw[hpos.out];rfl,hu⟩
set_option maxRecDepth 100000 in
theorem ZrV (F G:Nat→Prop) (w:World) (A:Option Addr) (d:Nat) (l:List Ver) (h:Hist) (g:Nat) (L:Zpq G w A l) (H:h.lies F w) (hg:Zky w g h) (hl:l.length≤4398046511103):
  Calls Tryz.prog 166 #[.slice A l.length d,.func (.func 168) #[] #[.pointer (some ⟨g,0,none⟩)]] w fun e w'=>e= .returned (.bool (!(l.all (Zar h.txs))))∧Upd No w w':=by
 have hq:=ZoY h.txs l
 have hf:=ZrU F G w A d l h g L H hg hl
 obtain⟨b,hb⟩:∃b,l.all (Zar h.txs)=b:=⟨_,rfl⟩
 obtain⟨i,hi⟩:∃i,ZeR h.txs l=i:=⟨_,rfl⟩
 rw[hb,hi]at hq
 rw[hi]at hf
 rw[hb]
 have HF:=Lib.hid hf
 clear hf hb hi
 cases b
 ·have hi0:0≤i:=by simpa using hq
  clear hq
  go_enter Tryz.func166,Tryz.ntmps166
  go_wp2_with fail
  refine(HF.out).mono ?_
  rintro e w1 ⟨rfl,hu1⟩
  go_wp2
  go_ret
  exact⟨rfl,hu1⟩
 ·have hi0:decide (0≤i)=false:=by simpa using hq
  clear hq
  go_enter Tryz.func166,Tryz.ntmps166
  go_wp2_with fail
  refine(HF.out).mono ?_
  rintro e w1 ⟨rfl,hu1⟩
  go_wp2
  go_ret
  exact⟨rfl,hu1⟩
theorem ZpU {w w':World} {l:List Ver} {A:Option Addr} {c:Nat} (h:w'.ownsRow w.heap.size 116 3 (.slice A l.length c) l.length (l.map Ver.cells).flatten):Zpq (fun i=>w.heap.size≤i) w' A l:=by
 have h2:=Recs.of_own (n:=l.length) (c:=c) Zn9 (by omega) h
 exact Recs.weak h2 fun i _ hi=>(h.lt i hi).1
set_option maxRecDepth 100000 in
theorem Zqs (F:Nat→Prop) (w:World) (h:Hist) (i0:Int) (dn:Bool) (A:Option Addr) (c:Nat) (l:List HOp) (H:h.lies F w) (hA:HOps F w A l) (hl:ZR l.length):
  Calls Tryz.prog 132 #[h.val,.agg #[.int .i64 i0,.bool dn,.slice A l.length c]] w fun e w'=>e= .returned (.bool (ZbA h.txs i0 l))∧Upd No w w':=by
 have hle:=ZiA i0 l l.length
 obtain⟨txs,ords,A',c',B,d⟩:=h
 have uu:=((Upd.refl No w).alloc (.cells #[.slice A' txs.length c',.slice B ords.length d] 25)).alloc (.cells #[.int .i64 i0,.bool dn,.slice A l.length c] 40)
 have hb:Zky ((w.alloc (.cells #[.slice A' txs.length c',.slice B ords.length d] 25)).alloc (.cells #[.int .i64 i0,.bool dn,.slice A l.length c] 40)) w.heap.size ⟨txs,ords,A',c',B,d⟩:=(Blk.new w _ _).alloc _
 have HB:=Lib.hid hb
 have hA':=hA.upd uu (fun _ _=>id)
 obtain⟨ns,hns⟩:∃ns,Zhf i0 l=ns:=⟨_,rfl⟩
 have htn:=ZqS F _ i0 dn A c l hA' hl
 rw[hns]at htn
 have hns':(Zal i0 l l.length)=ns:=hns
 rw[hns']at hle
 unfold ZR at hl
 have HT:=Lib.hid htn
 have HV:=Lib.hid (show ZbA txs i0 l=ns.all (Zar txs) by unfold ZbA;rw[hns])
 clear hb hA' htn hns hns'
 unfold Hist.val
 go_enter Tryz.func132,Tryz.ntmps132
 go_wp2_with fail
 refine(HT.out).mono ?_
 rintro e w1 ⟨A1,c1,rfl,ho1,hu1⟩
 have hv1:=ZpU ho1
 have H1:=(H.upd (uu.trans hu1) (fun _ _=>id))
 have hc:=ZrV F _ w1 A1 c1 ns ⟨txs,ords,A',c',B,d⟩ w.heap.size hv1 H1 (HB.out.upd hu1 id) (by omega)
 obtain⟨b,hb⟩:∃b,ns.all (Zar txs)=b:=⟨_,rfl⟩
 rw[show ns.all (Zar (Hist.txs ⟨txs,ords,A',c',B,d⟩))=b from hb]at hc
 have HC:=Lib.hid hc
 have Hb:=Lib.hid hb
 have HU:=Lib.hid (uu.trans hu1)
 clear hc hb hv1 H1 ho1 hu1 uu
 go_wp2_with fail
 refine(HC.out).mono ?_
 rintro e w2 ⟨rfl,hu2⟩
 go_wp2
 go_ret
 exact⟨by rw[show ZbA (Hist.txs ⟨txs,ords,A',c',B,d⟩) i0 l=b from HV.out.trans Hb.out];rfl,HU.out.trans hu2⟩
end Go.Proofs.YtklmahmfmbppkaaGreat
/- Whether a history is right,by the document. -/
namespace Go.Proofs.YtklmahmfmbppkaaGreat
set_option linter.unusedSimpArgs false
set_option linter.unusedVariables false
open Go.RowKit
theorem ZmE {id:Int} {l:List HOp} (h:Zay id l=0):l.length≤4095:=by
 unfold Zay at h
 split at h
 ·cases h
 ·split at h
  ·cases h
  ·omega
section
variable {F:Nat→Prop} {w:World} {txs:List HTx} {ords:List HOrd} {A:Option Addr} {c:Nat} {B:Option Addr} {d:Nat} {i0:Int} {dn:Bool} {A1:Option Addr} {c1:Nat} {l:List HOp}
end
end Go.Proofs.YtklmahmfmbppkaaGreat
