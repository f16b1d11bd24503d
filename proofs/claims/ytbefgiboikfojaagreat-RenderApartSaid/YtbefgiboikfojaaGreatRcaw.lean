/- What the program tells of histories, in plain words: needs, keys, writers, right; and of edges, reads and witnesses. -/
import Derived.Test.YtbefgiboikfojaaGreatRcap
import Derived.Test.YtbefgiboikfojaaGreatRcat
namespace Go.Proofs.YtbefgiboikfojaaGreat
open Go.RowKit
set_option linter.unusedVariables false
set_option linter.unusedSimpArgs false
set_option maxRecDepth 100000
set_option maxHeartbeats 4000000
def Zcl(id:Int)(o:HOp):Bool:=o.read&& !((Zw o).tx==0)&& !((Zw o).tx==id)
def ZaA(id:Int)(l:Gu):Nat->List Ver
 |0=>[]
 |k+1=>
  match l[k]? with
  |some o=>if Zcl id o&& !(ZaA id l k).contains (Zw o) then ZaA id l k++[Zw o] else ZaA id l k
  |none=>ZaA id l k
def ZgK(id:Int)(l:Gu):Gs:=ZaA id l l.length
def ZaT(txs:List HTx)(v:Ver):Bool:=
 if v.tx=0∧v.nth=0 then idB v.key
 else match Zh txs v.tx with
  |some t=>decide (1<=v.nth)&&decide (v.nth<=(Zd t.ops v.key:Int))
  |none=>false
def Zb1(txs:List HTx)(id:Int)(l:Gu):Bool:=(ZgK id l).all (ZaT txs)
def ZaK(l:Gu)(f:HOp->Bool):Gv:=(l.filter f).map (·.key)
def Zaz(l:Gu):Gv:=ZG (ZaK l fun o=> !o.read)
def Zcs(s:Gv):Gv->List Int
 |[]=>s
 |k::l=>Zcs (if k∈s then s else s++[k]) l
def ZM:List HTx->Gv->List Int
 |[],s=>s
 |t::l,s=>ZM l (if t.done then Zcs s (Zaz t.ops) else s)
def Zm(txs:List HTx)(key:Int):Gv:=(txs.filter fun t=>t.done&&(Zaz t.ops).contains key).map (·.id)
def Zdu(txs:List HTx)(i:Nat):Bool:=
 match txs[i]? with
 |none=>true
 |some t=>(match i with|0=>true|j+1=>(match txs[j]? with|some u=>decide (u.id<t.id)|none=>true))&&Z3 t.id t.ops==0&&Zb1 txs t.id t.ops
def ZdX(txs:List HTx)(ords:Gq)(i:Nat):Bool:=
 match ords[i]? with
 |none=>true
 |some o=>(match i with|0=>true|j+1=>(match ords[j]? with|some u=>decide (u.key<o.key)|none=>true))&& !o.txs.isEmpty&&(ZbM o.txs==ZbM (Zm txs o.key))
def Zc(h:Hist):Bool:=
 decide (h.txs.length<=4096)&&(List.range h.txs.length).all (Zdu h.txs)&&(ZM h.txs []).length==h.ords.length&&(List.range h.ords.length).all (ZdX h.txs h.ords)
def ZU(txs:List HTx)(id:Int):Option HTx:=match Zh txs id with|some t=>if t.done then some t else none|none=>none
def ZbR(txs:List HTx)(v:Ver):Bool:=if v.tx=0 then true else match ZU txs v.tx with|some t=>v.nth==(Zd t.ops v.key:Int)|none=>false
def Zc4(ords:Gq)(key x y:Int):Bool:=ZaI (ZdJ ords key) x==some y
def Zfs(id:Int)(l:Gu)(key:Int)(counts:Ver->Bool):Bool:=l.any fun o=>o.read&&o.key==key&& !(o.tx==id)&&counts (Zw o)
def Zgb(h:Hist)(e:Edge):Bool:=
 match ZU h.txs e.f,ZU h.txs e.t with
 |some a,some b=>
  if e.f=e.t then false
  else if e.k=1 then Zc4 h.ords e.key e.f e.t
  else if e.k=2 then Zfs b.id b.ops e.key fun v=>v.tx==e.f&&ZbR h.txs v
  else if e.k=3 then Zfs a.id a.ops e.key fun v=>ZbR h.txs v&&Zc4 h.ords e.key v.tx e.t
  else false
 |_,_=>false
structure HBad where
 tx:Int
 place:Int
 of:Ver
deriving DecidableEq
def HBad.cells(b:HBad):Gl:=[Qi b.tx,Qi b.place,Qi b.of.tx,Qi b.of.key,Qi b.of.nth]
def Zwy(txs:List HTx)(p:Int)(b:HBad):Bool:=
 match ZU txs b.tx with
 |none=>false
 |some t=>
  if b.place<0 then false
  else match t.ops[b.place.toNat]? with
   |none=>false
   |some o=>
    if !o.read|| !(Zw o==b.of)||o.tx==0||o.tx==t.id then false
    else if p=2 then (match Zh txs o.tx with|some u=> !u.done|none=>true)
    else if p=3 then decide (o.nth<(Zd (match Zh txs o.tx with|some u=>u.ops|none=>[]) o.key:Int))
    else false
def Ztb(m p:Int):Bool:=(bits .andNot .i64 m (Zba p)==0)&&(ZbQ p==0|| !(bits .and .i64 m (ZbQ p)==0))
def ZiW:HBad:=⟨0,0,⟨0,0,0⟩⟩
def ZfB(h:Hist)(p:Int)(l:List Edge)(b:HBad):Bool:=
 Zc h&&(if p=2∨p=3 then decide (l.length=0)&&Zwy h.txs p b
  else !(Zba p==0)&&b==ZiW&&ZdR l&&Ztb (Zi2 l) p&&l.all (Zgb h))
/-! from any place -/
/- Whether a version is there. -/
theorem Zp9{txs:List HTx}{v:Ver}(h1:v.tx=0)(h2:v.nth=0):ZaT txs v=idB v.key:=by unfold ZaT;rw[if_pos ⟨h1,h2⟩]
theorem ZkJ{txs:List HTx}{v:Ver}(h:¬(v.tx=0∧v.nth=0))(hf:Zh txs v.tx=none):ZaT txs v=false:=by unfold ZaT;rw[if_neg h,hf]
theorem ZkI{txs:List HTx}{v:Ver}{t:HTx}(h:¬(v.tx=0∧v.nth=0))(hf:Zh txs v.tx=some t):ZaT txs v=(decide (1<=v.nth)&&decide (v.nth<=(Zd t.ops v.key:Int))):=by unfold ZaT;rw[if_neg h,hf]
section
variable (F:Gt) (w:Gy) (txs:List HTx) (ords:Gq) (A:OA) (c:Nat) (B:OA) (d:Nat) (i:Int)
theorem ZiJ(H:Hist.lies F w ⟨txs,ords,A,c,B,d⟩)(hf:Zh txs i=none):Calls Tryz.prog 190 #[.agg #[.slice A txs.length c,.slice B ords.length d],Qi i] w fun e w'=>
  e= .returned (.tuple #[.agg #[Qi 0,.bool false,.slice none 0 0],.bool false])∧Upd No w w':=by
 refine(Zsq F w ⟨txs,ords,A,c,B,d⟩ i H).mono ?_;intro e w' h;unfold Zd4 at h;rw[show Zh (Hist.txs ⟨txs,ords,A,c,B,d⟩) i=none from hf]at h;exact h
theorem Zeq{t:HTx}(H:Hist.lies F w ⟨txs,ords,A,c,B,d⟩)(hf:Zh txs i=some t):Calls Tryz.prog 190 #[.agg #[.slice A txs.length c,.slice B ords.length d],Qi i] w fun e w'=>
  ∃A' c',e= .returned (.tuple #[.agg #[Qi t.id,.bool t.done,.slice A' t.ops.length c'],.bool true])∧t.ops.length<=c'∧HOps (fun i=>w.heap.size<=i) w' A' t.ops∧Upd No w w':=by
 refine(Zsq F w ⟨txs,ords,A,c,B,d⟩ i H).mono ?_;intro e w' h;unfold Zd4 at h;rw[show Zh (Hist.txs ⟨txs,ords,A,c,B,d⟩) i=some t from hf]at h;obtain⟨⟨A',c',h1,h2,h3⟩,h4⟩:=h;exact⟨A',c',h1,h2,h3,h4⟩
end
theorem Ze6{txs:List HTx}{i:Int}{t:HTx}(h:Zh txs i=some t):t∈txs:=List.mem_of_find?_eq_some h
theorem Zwo(F:Gt)(w:Gy)(h:Hist)(v:Ver)(H:h.lies F w):CN 157 #[h.val,.agg v.cells.toArray] w (.bool (ZaT h.txs v)):=by
 obtain⟨txs,ords,A,c,B,d⟩:=h;obtain⟨tx,key,nth⟩:=v;unfold Hist.val Ver.cells;have uu:=((Gg No w).alloc (.cells #[.slice A txs.length c,.slice B ords.length d] 29)).alloc (.cells #[Qi tx,Qi key,Qi nth] 36)
 by_cases h1:tx=0
 ·subst h1
  by_cases h2:nth=0
  ·subst h2;have hv:=Qh (Zp9 (txs:=txs) (v:=⟨0,key,0⟩) rfl rfl);unfold idB at hv
   by_cases b1:1<=key
   ·by_cases b2:key<=1048575
    ·go_enter Tryz.func157,Tryz.ntmps157;go_wp2;go_ret;exact⟨by rw[hv.out,Qt b1,Qt b2];rfl,uu⟩
    ·go_enter Tryz.func157,Tryz.ntmps157;go_wp2;go_ret;exact⟨by rw[hv.out,Qf (show¬key<=1048575 by omega),Bool.and_false];rfl,uu⟩
   ·go_enter Tryz.func157,Tryz.ntmps157;go_wp2;go_ret;exact⟨by rw[hv.out,Qf (show¬1<=key by omega),Bool.false_and];rfl,uu⟩
  ·have hne:¬((⟨0,key,nth⟩:Ver).tx=0∧(⟨0,key,nth⟩:Ver).nth=0):=fun e=>h2 e.2
   have vE:(nth==0)=false:=by simpa using h2
   clear h2;have HH:=Qh (H.upd uu Qo);have b1:=Gh (w.alloc (.cells #[.slice A txs.length c,.slice B ords.length d] 29)) 36 [Qi 0,Qi key,Qi nth];simp only[Ge]at b1;have B1:=Qh b1;clear b1
   cases hf:Zh txs 0 with
   |none=>
    have hv:=Qh (ZkJ hne hf);have Hf:=Qh hf;clear hne hf;go_enter Tryz.func157,Tryz.ntmps157;go_wp2_with fail;refine Ck (ZiJ F _ txs ords A c B d 0 HH.out Hf.out) fun w1 hu1=>?_;have bv:=(B1.out.upd hu1 id).alloc (.cells #[Qi 0,.bool false,.slice none 0 0] 53);obtain⟨g0,g1,g2⟩:=bv.c3;go_wp2
    go_quiet (fail)
    go_wp2;go_ret;exact⟨by rw[hv.out];rfl,((uu.trans hu1).alloc _).drewN _⟩
   |some t=>
    have hv:=Qh (ZkI hne hf);have Hf:=Qh hf;have bu:=Qh (H.tx t (Ze6 hf)).2.2.1;clear hne hf
    by_cases hn1:1<=nth
    ·go_enter Tryz.func157,Tryz.ntmps157;go_wp2_with fail;refine(Zeq F _ txs ords A c B d 0 HH.out Hf.out).mono ?_;rintro e w1 ⟨A1,c1,rfl,cZ,bq,hu1⟩;have bv:=(B1.out.upd hu1 id).alloc (.cells #[Qi t.id,.bool t.done,.slice A1 t.ops.length c1] 53);have bt:=Gh w1 53 [Qi t.id,.bool t.done,.slice A1 t.ops.length c1];have ic:=HOps.upd bq ((Gg No w1).alloc (.cells #[Qi t.id,.bool t.done,.slice A1 t.ops.length c1] 53)) Qo;obtain⟨g0,g1,g2⟩:=bv.c3;obtain⟨k0,k1,k2⟩:=bt.c3;have U1:=Qh ((uu.trans hu1).alloc (.cells #[Qi t.id,.bool t.done,.slice A1 t.ops.length c1] 53));go_wp2
     go_region_held3 (fun w'=>w'.cell? ⟨w.heap.size+1,0,none⟩=some (Qi 0)∧w'.cell? ⟨w.heap.size+1,1,none⟩=some (Qi key)∧w'.cell? ⟨w.heap.size+1,2,none⟩=some (Qi nth)∧
       w'.cell? ⟨w1.heap.size,0,none⟩=some (Qi t.id)∧w'.cell? ⟨w1.heap.size,1,none⟩=some (.bool t.done)∧w'.cell? ⟨w1.heap.size,2,none⟩=some (.slice A1 t.ops.length c1)∧Upd No w w')
      (first|exact⟨g0,g1,g2,k0,k1,k2,U1.out.drew⟩|exact⟨g0,g1,g2,k0,k1,k2,U1.out⟩|(go_split_ands;refine⟨?_,?_,?_,?_,?_,?_,?_⟩<;>first|assumption|(exact hu3.keepNo (by assumption))|(exact Upd.trans (by assumption) hu3)))
      ((go_at_call 134;refine Ck (ZjE _ _ t.id t.done A1 c1 t.ops key (by exact ic) bu.out) fun w3 hu3=>?_))
     go_wp2;go_ret;exact⟨by rw[hv.out,Qt hn1];rfl,(by go_split_ands;assumption)⟩
    ·go_enter Tryz.func157,Tryz.ntmps157;go_wp2_with fail;refine(Zeq F _ txs ords A c B d 0 HH.out Hf.out).mono ?_;rintro e w1 ⟨A1,c1,rfl,cZ,bq,hu1⟩;have bv:=(B1.out.upd hu1 id).alloc (.cells #[Qi t.id,.bool t.done,.slice A1 t.ops.length c1] 53);obtain⟨g0,g1,g2⟩:=bv.c3;have gr:decide (1<=nth)=false:=Qf (by omega);go_wp2
     go_quiet (fail)
     go_wp2;go_ret;exact⟨by rw[hv.out,Qf (show¬1<=nth by omega),Bool.false_and];rfl,((uu.trans hu1).alloc _).drewN _⟩
 ·have hne:¬((⟨tx,key,nth⟩:Ver).tx=0∧(⟨tx,key,nth⟩:Ver).nth=0):=fun e=>h1 e.1
  have ld:(tx==0)=false:=by simpa using h1
  clear h1;have HH:=Qh (H.upd uu Qo);have b1:=Gh (w.alloc (.cells #[.slice A txs.length c,.slice B ords.length d] 29)) 36 [Qi tx,Qi key,Qi nth];simp only[Ge]at b1;have B1:=Qh b1;clear b1
  cases hf:Zh txs tx with
  |none=>
   have hv:=Qh (ZkJ hne hf);have Hf:=Qh hf;clear hne hf;go_enter Tryz.func157,Tryz.ntmps157;go_wp2_with fail;refine Ck (ZiJ F _ txs ords A c B d tx HH.out Hf.out) fun w1 hu1=>?_;have bv:=(B1.out.upd hu1 id).alloc (.cells #[Qi 0,.bool false,.slice none 0 0] 53);obtain⟨g0,g1,g2⟩:=bv.c3;go_wp2
   go_quiet (fail)
   go_wp2;go_ret;exact⟨by rw[hv.out];rfl,((uu.trans hu1).alloc _).drewN _⟩
  |some t=>
   have hv:=Qh (ZkI hne hf);have Hf:=Qh hf;have bu:=Qh (H.tx t (Ze6 hf)).2.2.1;clear hne hf
   by_cases hn1:1<=nth
   ·go_enter Tryz.func157,Tryz.ntmps157;go_wp2_with fail;refine(Zeq F _ txs ords A c B d tx HH.out Hf.out).mono ?_;rintro e w1 ⟨A1,c1,rfl,cZ,bq,hu1⟩;have bv:=(B1.out.upd hu1 id).alloc (.cells #[Qi t.id,.bool t.done,.slice A1 t.ops.length c1] 53);have bt:=Gh w1 53 [Qi t.id,.bool t.done,.slice A1 t.ops.length c1];have ic:=HOps.upd bq ((Gg No w1).alloc (.cells #[Qi t.id,.bool t.done,.slice A1 t.ops.length c1] 53)) Qo;obtain⟨g0,g1,g2⟩:=bv.c3;obtain⟨k0,k1,k2⟩:=bt.c3;have U1:=Qh ((uu.trans hu1).alloc (.cells #[Qi t.id,.bool t.done,.slice A1 t.ops.length c1] 53));go_wp2
    go_region_held3 (fun w'=>w'.cell? ⟨w.heap.size+1,0,none⟩=some (Qi tx)∧w'.cell? ⟨w.heap.size+1,1,none⟩=some (Qi key)∧w'.cell? ⟨w.heap.size+1,2,none⟩=some (Qi nth)∧
      w'.cell? ⟨w1.heap.size,0,none⟩=some (Qi t.id)∧w'.cell? ⟨w1.heap.size,1,none⟩=some (.bool t.done)∧w'.cell? ⟨w1.heap.size,2,none⟩=some (.slice A1 t.ops.length c1)∧Upd No w w')
     (first|exact⟨g0,g1,g2,k0,k1,k2,U1.out.drew⟩|exact⟨g0,g1,g2,k0,k1,k2,U1.out⟩|(go_split_ands;refine⟨?_,?_,?_,?_,?_,?_,?_⟩<;>first|assumption|(exact hu3.keepNo (by assumption))|(exact Upd.trans (by assumption) hu3)))
     ((go_at_call 134;refine Ck (ZjE _ _ t.id t.done A1 c1 t.ops key (by exact ic) bu.out) fun w3 hu3=>?_))
    go_wp2;go_ret;exact⟨by rw[hv.out,Qt hn1];rfl,(by go_split_ands;assumption)⟩
   ·go_enter Tryz.func157,Tryz.ntmps157;go_wp2_with fail;refine(Zeq F _ txs ords A c B d tx HH.out Hf.out).mono ?_;rintro e w1 ⟨A1,c1,rfl,cZ,bq,hu1⟩;have bv:=(B1.out.upd hu1 id).alloc (.cells #[Qi t.id,.bool t.done,.slice A1 t.ops.length c1] 53);obtain⟨g0,g1,g2⟩:=bv.c3;have gr:decide (1<=nth)=false:=Qf (by omega);go_wp2
    go_quiet (fail)
    go_wp2;go_ret;exact⟨by rw[hv.out,Qf (show¬1<=nth by omega),Bool.false_and];rfl,((uu.trans hu1).alloc _).drewN _⟩
/- What a transaction needs of others. -/
theorem ZqN:SlT Tryz.prog 189 36 3 24:=SlT.mk_ Tryz.underlying189 (z:= .agg #[Qi 0,Qi 0,Qi 0]) (by kernel_rfl) rfl (by omega)
def Zsd(F:Gt)(w:Gy)(A:OA)(l:Gs):Prop:=Recs F w A 3 (l.map Ver.cells)
theorem ZqH{l:Gs}:∀r∈l.map Ver.cells,r.length=3:=fun r hr=>by
 obtain⟨e,_,rfl⟩:=Gc.1 hr;rfl
def ZtG(w:Gy)(l:Gs)(e:Ending)(w':Gy):Prop:=∃A c,e= .returned (.slice A l.length c)∧w'.ownsRow w.heap.size 36 3 (.slice A l.length c) l.length (l.map Ver.cells).flatten∧Upd No w w'
def MetV(m:List (Ver×Gz))(xs:Gs)(k:Nat):Prop:=∀v:Ver,∃n:Nat,(Zac m v).getD (Qi 0)= Qi n∧n<=k∧(n=0↔v∉xs)
theorem MetV.nil:MetV [] [] 0:=fun v=>⟨0,by rw[ZdM];rfl,Nat.le_refl _,by simp⟩
theorem MetV.mono{m:List (Ver×Gz)}{xs:Gs}{k:Nat}(h:MetV m xs k):MetV m xs (k+1):=fun v=>by
 obtain⟨n,h1,h2,h3⟩:=h v;exact⟨n,h1,by omega,h3⟩
theorem MetV.put{m:List (Ver×Gz)}{xs:Gs}{k n:Nat}{v:Ver}(h:MetV m xs k)(hn:(Zac m v).getD (Qi 0)= Qi n):MetV (ZL m v (Qi ((n:Int)+1))) (if n=0 then xs++[v] else xs) (k+1):=fun u=>by
 obtain⟨n',h1,h2,h3⟩:=h v;rw[h1]at hn;obtain rfl:n'=n:=by injection hn with _ hn;omega
 by_cases e:u=v
 ·subst e;refine⟨n'+1,by rw[Zam];rfl,by omega,?_⟩
  constructor
  ·intro e;omega
  ·intro ex
   split at ex
   ·simp at ex
   ·rename_i h0
    exact absurd (h3.2 ex) h0
 ·rw[ZaJ _ _ e];obtain⟨q,g1,g2,g3⟩:=h u;refine⟨q,g1,by omega,?_⟩;rw[g3]
  split
  ·simp[e]
  ·rfl
theorem ZgJ{id:Int}{l:Gu}{k:Nat}{x:HOp}(hk:k<l.length)(hx:l[k]=x)(h:Zcl id x=false):ZaA id l (k+1)=ZaA id l k:=by
 show(match l[k]? with|some o=>_|none=>_)=_
 rw[Qg hk,hx];simp[h]
theorem Zn2{id:Int}{l:Gu}{k:Nat}{x:HOp}(hk:k<l.length)(hx:l[k]=x)(h:Zcl id x=true):ZaA id l (k+1)=if Zw x∉ZaA id l k then ZaA id l k++[Zw x] else ZaA id l k:=by
 show(match l[k]? with|some o=>_|none=>_)=_
 rw[Qg hk,hx];simp[h]
theorem Zkr(id:Int)(l:Gu):∀k,(ZaA id l k).length<=k
 |0=>Nat.le_refl _
 |k+1=>by
  have ih:=Zkr id l k
  show(match l[k]? with|some o=>_|none=>_:Gs).length<=_
  split
  ·split
   ·simp;omega
   ·omega
  ·omega
theorem ZtS(F:Gt)(w:Gy)(i0:Int)(dn:Bool)(A:OA)(c:Nat)(l:Gu)(h:HOps F w A l)(hl:Zp l.length):
  Calls Tryz.prog 155 #[.agg #[Qi i0,.bool dn,.slice A l.length c]] w (ZtG w (ZgK i0 l)):=by
 unfold Zp at hl;have uT:=(Gg No w).alloc (.cells #[Qi i0,.bool dn,.slice A l.length c] 53);have bT:=Qh (Gh w 53 [Qi i0,.bool dn,.slice A l.length c]);have e8:= @run_makeMap Tryz.prog;have gN:=MapE.new (w.alloc (.cells #[Qi i0,.bool dn,.slice A l.length c] 53)) Zdq;simp only[Ge]at gN;have HN:=Qh gN;clear gN;go_enter Tryz.func155,Tryz.ntmps155;go_wp2
 go_loopg [3,12] l.length (fun gk s i wr=>∃(k:Nat) (A3:OA) (c3:Nat) (xs:Gs) (m:List (Ver×Gz)),k+gk=l.length∧i= Qi k∧s= .slice A3 xs.length c3∧Hid (xs=ZaA i0 l k)∧xs.length<=k∧
  Hid (MapE wr (w.heap.size+1) Zdq m)∧Hid (MetV m xs k)∧wr.ownsRow (w.heap.size+2) 36 3 (.slice A3 xs.length c3) xs.length (xs.map Ver.cells).flatten∧
  Upd No (w.alloc (.cells #[Qi i0,.bool dn,.slice A l.length c] 53)) wr)
 case atStart=>exact⟨0,none,0,[],[],by omega,rfl,rfl,Qh rfl,by simp,Qh HN.out,Qh MetV.nil,Gf _ _ _ _,(Gg No _).alloc _⟩
 case round=>
  obtain⟨k,A3,c3,xs,m,aK,rfl,rfl,aV,hxl,hm,hW,ae,hu⟩:=hrel;clear e8
  by_cases hlt:k<l.length
  ·obtain⟨ad,aA,q0,q1,q2,q3⟩:=(h.upd (uT.trans hu) Qo).at_ hlt;obtain⟨x,hx⟩:=Qe (l[k]);rw[hx]at q0 q1 q2 q3;subst aA;have X:=Qh hx;have b1:(0:Int)<=(k:Int):=Qn _;have b2:(k:Int)<(l.length:Int):=by omega
   have uA:=(Gg No wr).alloc (.cells #[.bool x.read,Qi x.key,Qi x.tx,Qi x.nth] 50);have bo:=Qh (Gh wr 50 [.bool x.read,Qi x.key,Qi x.tx,Qi x.nth]);clear hx;have co:=hm.out.lt;have fY:=hm.out.upd uA id;have az:=Za ae uA Qo;have bT1:=Qh ((bT.out.upd hu id).upd uA id);obtain⟨v,hv⟩:=Qe (Zw x);have dD:=oof (wr.alloc (.cells #[.bool x.read,Qi x.key,Qi x.tx,Qi x.nth] 50)) x;rw[hv]at dD;have AU:=Qh (dD.mono (R':=fun e w'=>e= .returned (.agg #[Qi v.tx,Qi v.key,Qi v.nth])∧Upd No (wr.alloc (.cells #[.bool x.read,Qi x.key,Qi x.tx,Qi x.nth] 50)) w') fun e w' h=>h);have V:=Qh hv;clear dD hv;go_wp2_with fail;refine Ck AU.out fun w1 hu1=>?_;have uV:=hu1.alloc (.cells #[Qi v.tx,Qi v.key,Qi v.nth] 36);have bv:=Gh w1 36 [Qi v.tx,Qi v.key,Qi v.nth];have bo1:=bo.out.upd uV id;have bT2:=bT1.out.upd uV id;have cX:=fY.upd uV id;have am:=Za az uV Qo;have k0:=bo1.cell 0;have t0:=bT2.cell 0;obtain⟨v0,v1,v2⟩:=bv.c3;simp only[Qz,Qs]at k0 t0;have HU:=Qh ((hu.trans uA).trans uV);have dj:=uV.size;simp only[Ge]at dj;have dB:=hu1.size;simp only[Ge]at dB;have eF:=hu.size;simp only[Ge]at eF;clear uA uV fY az bo1 bT2 bv hu1
   cases hr:x.read
   ·rw[hr]at k0;have HS:=Qh (ZgJ (id:=i0) hlt X.out (by unfold Zcl;rw[hr];rfl));clear hr;go_wp2;go_roundg (gk-1);exact⟨k+1,A3,c3,xs,m,by omega,by go_num,rfl,Qh (by rw[HS.out,aV.out]),by omega,Qh cX,Qh hW.out.mono,am,HU.out⟩;omega
   ·rw[hr]at k0
    by_cases h0:v.tx=0
    ·have HS:=Qh (ZgJ (id:=i0) hlt X.out (by unfold Zcl;rw[V.out,h0];simp));have ju:(v.tx==0)=true:=by simpa using h0
     clear hr h0;go_wp2;go_roundg (gk-1);exact⟨k+1,A3,c3,xs,m,by omega,by go_num,rfl,Qh (by rw[HS.out,aV.out]),by omega,Qh cX,Qh hW.out.mono,am,HU.out⟩;omega
    ·have ju:(v.tx==0)=false:=by simpa using h0
     clear h0
     by_cases h1:v.tx=i0
     ·have ld:(v.tx==i0)=true:=by simpa using h1
      have HS:=Qh (ZgJ (id:=i0) hlt X.out (by unfold Zcl;rw[V.out,ld];simp));clear hr h1;go_wp2;go_roundg (gk-1);exact⟨k+1,A3,c3,xs,m,by omega,by go_num,rfl,Qh (by rw[HS.out,aV.out]),by omega,Qh cX,Qh hW.out.mono,am,HU.out⟩;omega
     ·have ld:(v.tx==i0)=false:=by simpa using h1
      have HS:=Qh (show ZaA i0 l (k+1)=if v∉xs then xs++[v] else xs by rw[aV.out,<-V.out];exact Zn2 (id:=i0) hlt X.out (by unfold Zcl;rw[V.out,ld,hr,ju];rfl));clear hr h1;obtain⟨N,hN,DS,hN0⟩:=hW.out v;have lN:=Qh (hW.out.put hN);have xI:=Qh hN0;clear hN0;have AR:=Qh (show(w1.alloc (.cells #[Qi v.tx,Qi v.key,Qi v.nth] 36)).heap.size=w1.heap.size+1 by simp);go_wp2;generalize hW0:w1.alloc (.cells #[Qi v.tx,Qi v.key,Qi v.nth] 36)=W0 at*;clear hW0;have pu:=AR.out;have df:=HU;have gH:IntKind.i64.wrap ((N:Int)+1)=(N:Int)+1:=IntWalk.i64_in _ (by omega);have eB:w1.heap.size≠w.heap.size+1:=by omega
      have dz:∀i,One (w.heap.size+1) i->w.heap.size+1<=i:=fun i e=>by cases e;exact Nat.le_refl _
      have cy:MapE W0.drew (w.heap.size+1) Zdq m:=cX;obtain⟨st,w2,e2,ou,hu2,ag⟩:=Zdg Zi8 Tryz.underlying249 Zel cy v;have e1:=ZO Zi8 Tryz.underlying249 Zel cy.is v;have e3:=ZO Zi8 Tryz.underlying249 Zel ou.is v;rw[Zam]at e3;rw[hN]at e1 e2 e3;obtain⟨w3,e4,pt,hu3⟩:=ag (Qi ((N:Int)+1));have e5:=ZO Zi8 Tryz.underlying249 Zel pt.is v;rw[Zam]at e5;change (Instr.lookup 249 (.map (some (w.heap.size+1))) (.agg #[Qi v.tx,Qi v.key,Qi v.nth]) false).run Tryz.prog W0.drew= .ok (Qi N) W0.drew at e1;change (Instr.lookup 249 (.map (some (w.heap.size+1))) (.agg #[Qi v.tx,Qi v.key,Qi v.nth]) false).run Tryz.prog w2= .ok (Qi N) w2 at e3;change (Instr.mapEntry 249 (.map (some (w.heap.size+1))) (.agg #[Qi v.tx,Qi v.key,Qi v.nth])).run Tryz.prog W0.drew= .ok (.tuple #[Qi N,Qi st]) w2 at e2;change (Instr.entryStore 249 (.map (some (w.heap.size+1))) (Qi st) (Qi ((N:Int)+1))).run Tryz.prog w2= .ok () w3 at e4;change (Instr.lookup 249 (.map (some (w.heap.size+1))) (.agg #[Qi v.tx,Qi v.key,Qi v.nth]) false).run Tryz.prog w3= .ok (Qi ((N:Int)+1)) w3 at e5;have a0:=Upd.keep hu2 (p:=⟨w1.heap.size,0,none⟩) v0 eB;have a1:=Upd.keep hu2 (p:=⟨w1.heap.size,1,none⟩) v1 eB;have a2:=Upd.keep hu2 (p:=⟨w1.heap.size,2,none⟩) v2 eB;have c0:=Upd.keep hu3 (p:=⟨w1.heap.size,0,none⟩) v0 eB;have c1:=Upd.keep hu3 (p:=⟨w1.heap.size,1,none⟩) v1 eB;have c2:=Upd.keep hu3 (p:=⟨w1.heap.size,2,none⟩) v2 eB
      have aB:=Za am hu3.of_drew (fun i hi e=>by have:=(am.lt i hi).1;cases e;omega);have bJ:=Qh (df.out.then_ hu3.of_drew fun i e=> .inr (by simp only[Ge];exact dz i e));have lg:W0.heap.size<=w3.heap.size:=hu3.size;have Ac:=Qh pt;clear hN ag cy cX ou pt am hu2 hu3
      go_region_held3 (fun w'=>w'.cell? ⟨w1.heap.size,0,none⟩=some (Qi v.tx)∧w'.cell? ⟨w1.heap.size,1,none⟩=some (Qi v.key)∧w'.cell? ⟨w1.heap.size,2,none⟩=some (Qi v.nth))
       (first|exact⟨v0,v1,v2⟩|exact⟨a0,a1,a2⟩|exact⟨c0,c1,c2⟩) (fail)
      all_goals
       clear e1 e2 e3 e4 a0 a1 a2 v0 v1 v2 k0 t0 gH;have Hc:=Qh c0
       by_cases hN1:N=0
       ·have aZ:=Qh (show ZaA i0 l (k+1)=xs++[v] by rw[HS.out,if_pos (xI.out.1 hN1)]);have dX:=lN.out;rw[if_pos hN1]at dX;have j6:=Qh dX;have e6:(Instr.lookup 249 (.map (some (w.heap.size+1))) (.agg #[Qi v.tx,Qi v.key,Qi v.nth]) false).run Tryz.prog w3= .ok (Qi 1) w3:=by rw[e5,hN1];rfl
        clear hN1 e5 dX;go_wp2_with (at_builtin;refine ZX rfl rfl ZqN (v:= .slice A3 xs.length c3) (cells:=[Qi v.tx,Qi v.key,Qi v.nth]) (by rfl) rfl aB rfl rfl (by omega) (by omega) (by omega) ?_;intro g' c' w4 ar hu4 cQ nr);go_roundg (gk-1)
        case measure=>omega
        case rel=>
         refine⟨k+1,some ⟨g',0,none⟩,c',xs++[v],_,by omega,by go_num,by simp,Qh (by rw[aZ.out]),by simp;omega,Qh (Ac.out.upd hu4 (fun e=>by have:=(aB.lt _ e).1;omega)),j6,?_,bJ.out.then_ hu4 fun i e=> .inr (by have:=(aB.lt i e).1;simp only[Ge];omega)⟩
         simpa[Ver.cells]using ar
       ·have aZ:=Qh (show ZaA i0 l (k+1)=xs by rw[HS.out,if_neg (fun e=>hN1 (xI.out.2 e))]);have dX:=lN.out;rw[if_neg hN1]at dX;have j6:=Qh dX;have hb1:((N:Int)+1==1)=false:=by rw[beq_eq_false_iff_ne];omega
        clear hN1 dX;go_wp2;go_roundg (gk-1);exact⟨k+1,A3,c3,xs,_,by omega,by go_num,rfl,Qh (by rw[aZ.out]),by omega,Ac,j6,aB,bJ.out⟩;omega
  ·obtain rfl:k=l.length:=by omega
   have Hx:=Qh (show xs=ZgK i0 l by rw[aV.out];rfl);clear aV;go_wp2;go_ret;exact⟨A3,c3,by rw[Hx.out];rfl,by rw[<-Hx.out];exact Zz ae (by omega),uT.trans hu⟩
/- Whether all that a transaction needs is there. -/
def ZmG(w:Gy)(g:Nat)(h:Hist):Prop:=Blk w g 29 h.cells
theorem nd1(F:Gt)(w:Gy)(h:Hist)(g:Nat)(v:Ver)(H:h.lies F w)(hg:ZmG w g h):
  CN 156 #[.agg v.cells.toArray,.pointer (some ⟨g,0,none⟩)] w (.bool (!(ZaT h.txs v))):=by
 obtain⟨txs,ords,A,c,B,d⟩:=h;unfold ZmG Hist.cells at hg;obtain⟨tx,key,nth⟩:=v;unfold Ver.cells;have uA:=(Gg No w).alloc (.cells #[Qi tx,Qi key,Qi nth] 36);have g0:=(hg.upd uA id).cell 0;have g1:=(hg.upd uA id).cell 1;simp only[Qz,Qs]at g0 g1;have hh:=Zwo F _ ⟨txs,ords,A,c,B,d⟩ ⟨tx,key,nth⟩ (H.upd uA Qo);obtain⟨b,hb⟩:=Qe (ZaT txs ⟨tx,key,nth⟩);rw[show ZaT (Hist.txs ⟨txs,ords,A,c,B,d⟩) ⟨tx,key,nth⟩=b from hb]at hh;have HH:=Qh hh;have Hb:=Qh hb;clear hh hb;go_enter Tryz.func156,Tryz.ntmps156;go_wp2_with fail;refine Ck HH.out fun w1 hu1=>?_;go_wp2;go_ret;exact⟨by rw[show ZaT (Hist.txs ⟨txs,ords,A,c,B,d⟩) ⟨tx,key,nth⟩=b from Hb.out];rfl,uA.trans hu1⟩
def ZfT(txs:List HTx)(l:Gs):Nat:=l.findIdx fun v=> !(ZaT txs v)
def Zf4(txs:List HTx)(l:Gs):Int:=if ZfT txs l<l.length then (ZfT txs l:Int) else -1
theorem Zrf{txs:List HTx}{l:Gs}{k:Nat}(hk:k<l.length)(h:∀(j:Nat) (hj:j<k),ZaT txs (l[j]'(by omega))=true)(h1:ZaT txs l[k]=false):ZfT txs l=k:=by
 unfold ZfT;rw[List.findIdx_eq hk];refine⟨by rw[h1];rfl,fun j hj=>by simp only[h j hj];rfl⟩
theorem Zkj{txs:List HTx}{l:Gs}(h:∀(j:Nat) (hj:j<l.length),ZaT txs l[j]=true):ZfT txs l=l.length:=by
 unfold ZfT;rw[List.findIdx_eq_length];intro x hx;obtain⟨k,hk,rfl⟩:=E8.1 hx;simp only[h k hk];rfl
theorem ZrD(txs:List HTx)(l:Gs):decide (Zf4 txs l≥0)= !(l.all (ZaT txs)):=by
 by_cases h:l.all (ZaT txs)=true
 ·have hm:ZfT txs l=l.length:=Zkj fun j hj=>by
   rw[Fn]at h;exact h _ (Fr hj)
  unfold Zf4;rw[hm,if_neg (by omega),h];decide
 ·have hf:l.all (ZaT txs)=false:=by simpa using h
  have hm:ZfT txs l<l.length:=by
   unfold ZfT;rw[List.findIdx_lt_length];rw[List.all_eq_false]at hf;obtain⟨x,hx,hn⟩:=hf;exact⟨x,hx,by simpa using hn⟩
  unfold Zf4;rw[if_pos hm,hf];simp
theorem Zvs(F G:Gt)(w:Gy)(A:OA)(d:Nat)(l:Gs)(h:Hist)(g:Nat)(L:Zsd G w A l)(H:h.lies F w)(hg:ZmG w g h)(hl:l.length<=4398046511103):
  CN 189 #[.slice A l.length d,.func (.func 156) #[] #[.pointer (some ⟨g,0,none⟩)]] w (Qi (Zf4 h.txs l)):=by
 go_enter Tryz.func189,Tryz.ntmps189;go_wp2
 go_loopg [8] l.length (fun gk s wr=>∃k:Nat,k+gk=l.length∧s= Qi k∧Hid (∀(j:Nat) (hj:j<l.length),j<k->ZaT h.txs l[j]=true)∧Upd No w wr)
 case atStart=>exact⟨0,by omega,rfl,Qh (fun j _ hj=>by omega),Gg _ _⟩
 case round=>
  obtain⟨k,aK,rfl,aH,hu⟩:=hrel
  by_cases hlt:k<l.length
  ·have dq:k<(l.map Ver.cells).length:=by simpa using hlt
   obtain⟨ad,hB,_,_,hc⟩:=Recs.at_ (Recs.upd L hu Qo) dq;rw[Fk]at hc;obtain⟨x,hx⟩:=Qe (l[k]);rw[hx]at hc;have c0:wr.cell? (ad.add (k*3))=some (Qi x.tx):=by simpa using hc 0 _ rfl
   have c1:wr.cell? ⟨(ad.add (k*3)).block,(ad.add (k*3)).off+1,none⟩=some (Qi x.key):=by simpa using hc 1 _ rfl
   have c2:wr.cell? ⟨(ad.add (k*3)).block,(ad.add (k*3)).off+2,none⟩=some (Qi x.nth):=by simpa using hc 2 _ rfl
   subst hB;have X:=Qh hx;have b2:(k:Int)<(l.length:Int):=by omega
   have b1:(0:Int)<=(k:Int):=Qn _;clear hx hc dq;have hn:=nd1 F wr h g x (H.upd hu Qo) (hg.upd hu id)
   cases he:ZaT h.txs x
   ·have a8:=Qh (show Zf4 h.txs l=(k:Int) by unfold Zf4;rw[Zrf (txs:=h.txs) (l:=l) hlt (fun j hj=>aH.out j (by omega) hj) (by rw[X.out];exact he),if_pos hlt]);rw[he]at hn;have HN:=Qh hn;clear he hn;go_wp2_with fail;refine Ck HN.out fun w1 hu1=>?_;go_wp2;go_ret;exact⟨by rw[a8.out];rfl,hu.trans hu1⟩
   ·rw[he]at hn;have HN:=Qh hn;have He:=Qh he;clear he hn;go_wp2_with fail;refine Ck HN.out fun w1 hu1=>?_;go_wp2;go_roundg (gk-1)
    case measure=>omega
    case rel=>exact⟨k+1,by omega,by go_num,Qh (fun j hj hjk=>by
      by_cases e:j=k
      ·subst e;rw[X.out];exact He.out
      ·exact aH.out j hj (by omega)),hu.trans hu1⟩
  ·obtain rfl:k=l.length:=by omega
   have a8:=Qh (show Zf4 h.txs l= -1 by unfold Zf4;rw[Zkj (txs:=h.txs) (l:=l) fun j hj=>aH.out j hj hj,if_neg (by omega)]);go_wp2;go_ret;exact⟨by rw[a8.out];rfl,hu⟩
theorem Zvt(F G:Gt)(w:Gy)(A:OA)(d:Nat)(l:Gs)(h:Hist)(g:Nat)(L:Zsd G w A l)(H:h.lies F w)(hg:ZmG w g h)(hl:l.length<=4398046511103):
  CN 154 #[.slice A l.length d,.func (.func 156) #[] #[.pointer (some ⟨g,0,none⟩)]] w (.bool (!(l.all (ZaT h.txs)))):=by
 have hq:=ZrD h.txs l;have hf:=Zvs F G w A d l h g L H hg hl;obtain⟨b,hb⟩:=Qe (l.all (ZaT h.txs));obtain⟨i,hi⟩:=Qe (Zf4 h.txs l);rw[hb,hi]at hq;rw[hi]at hf;rw[hb];have HF:=Qh hf;clear hf hb hi
 cases b
 ·have vA:0<=i:=by simpa using hq
  clear hq;go_enter Tryz.func154,Tryz.ntmps154;go_wp2_with fail;refine Ck HF.out fun w1 hu1=>?_;go_wp2;go_ret;exact⟨rfl,hu1⟩
 ·have vA:decide (0<=i)=false:=by simpa using hq
  clear hq;go_enter Tryz.func154,Tryz.ntmps154;go_wp2_with fail;refine Ck HF.out fun w1 hu1=>?_;go_wp2;go_ret;exact⟨rfl,hu1⟩
theorem ZsM{w w':Gy}{l:Gs}{A:OA}{c:Nat}(h:w'.ownsRow w.heap.size 36 3 (.slice A l.length c) l.length (l.map Ver.cells).flatten):Zsd (fun i=>w.heap.size<=i) w' A l:=by
 have h2:=Recs.of_own (n:=l.length) (c:=c) ZqH (by omega) h;exact Recs.weak h2 fun i _ hi=>(h.lt i hi).1
theorem Zti(F:Gt)(w:Gy)(h:Hist)(i0:Int)(dn:Bool)(A:OA)(c:Nat)(l:Gu)(H:h.lies F w)(hA:HOps F w A l)(hl:Zp l.length):
  CN 120 #[h.val,.agg #[Qi i0,.bool dn,.slice A l.length c]] w (.bool (Zb1 h.txs i0 l)):=by
 have hle:=Zkr i0 l l.length;obtain⟨txs,ords,A',c',B,d⟩:=h;have uu:=((Gg No w).alloc (.cells #[.slice A' txs.length c',.slice B ords.length d] 29)).alloc (.cells #[Qi i0,.bool dn,.slice A l.length c] 53);have hb:ZmG ((w.alloc (.cells #[.slice A' txs.length c',.slice B ords.length d] 29)).alloc (.cells #[Qi i0,.bool dn,.slice A l.length c] 53)) w.heap.size ⟨txs,ords,A',c',B,d⟩:=(Gh w _ _).alloc _;have HB:=Qh hb;have zV:=hA.upd uu Qo;obtain⟨ns,my⟩:=Qe (ZgK i0 l);have htn:=ZtS F _ i0 dn A c l zV hl;rw[my]at htn;have rp:(ZaA i0 l l.length)=ns:=my;rw[rp]at hle;unfold Zp at hl;have HT:=Qh htn;have HV:=Qh (show Zb1 txs i0 l=ns.all (ZaT txs) by unfold Zb1;rw[my]);clear hb zV htn my rp;unfold Hist.val;go_enter Tryz.func120,Tryz.ntmps120;go_wp2_with fail;refine(HT.out).mono ?_;rintro e w1 ⟨A1,c1,rfl,aW,hu1⟩;have hv1:=ZsM aW;have H1:=(H.upd (uu.trans hu1) Qo);have hc:=Zvt F _ w1 A1 c1 ns ⟨txs,ords,A',c',B,d⟩ w.heap.size hv1 H1 (HB.out.upd hu1 id) (by omega);obtain⟨b,hb⟩:=Qe (ns.all (ZaT txs));rw[show ns.all (ZaT (Hist.txs ⟨txs,ords,A',c',B,d⟩))=b from hb]at hc;have HC:=Qh hc;have Hb:=Qh hb;have HU:=Qh (uu.trans hu1);clear hc hb hv1 H1 aW hu1 uu;go_wp2_with fail;refine Ck HC.out fun w2 hu2=>?_;go_wp2;go_ret;exact⟨by rw[show Zb1 (Hist.txs ⟨txs,ords,A',c',B,d⟩) i0 l=b from HV.out.trans Hb.out];rfl,HU.out.trans hu2⟩
abbrev Gp:=List HBad
