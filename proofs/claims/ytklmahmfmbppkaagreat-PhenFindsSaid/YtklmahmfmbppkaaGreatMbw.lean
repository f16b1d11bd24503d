/- Orders: what is kept while topo.Order runs. -/
import Derived.Test.YtklmahmfmbppkaaGreatMaq
import Derived.Test.YtklmahmfmbppkaaGreatMbe
import Derived.Test.YtklmahmfmbppkaaGreatMbg
import Derived.Test.YtklmahmfmbppkaaGreatMbr
namespace Go.Proofs.YtklmahmfmbppkaaGreat
set_option linter.unusedSimpArgs false
set_option linter.unusedVariables false
open Go.RowKit
structure NextIs (w:World) (b z:Nat) (m:List (Int×Value)) (f:Int→List Int):Prop where
 is:MapIs w b (fun n:Int=>Value.int .i64 n) m
 row:∀key,∃A c,(ZE m key).getD (.slice none 0 0)= .slice A (f key).length c∧Ints (fun i=>b<i∧i<z) w A (f key)
theorem NextIs.upd {S:Nat→Prop} {w w':World} {b z:Nat} {m:List (Int×Value)} {f:Int→List Int} (h:NextIs w b z m f) (k:Upd S w w') (hS:∀i,b≤i→i<z→¬S i) (hz:b<z):NextIs w' b z m f:=by
 refine⟨h.is.upd k (hS b (Nat.le_refl _) hz),fun key=> ?_⟩
 obtain⟨A,c,h1,h2⟩:=h.row key
 exact⟨A,c,h1,h2.upd k fun i hi=>hS i (Nat.le_of_lt hi.1) hi.2⟩
theorem MapSl.next {w:World} {b z:Nat} {m:List (Int×Value)} {f:Int→List Int} (h:MapSl w (b+1) b m f) (hz:w.heap.size≤z):NextIs w b z m f:=by
 refine⟨h.is,fun key=> ?_⟩
 obtain⟨A,c,h1,h2⟩:=h.row key
 exact⟨A,c,h1,(Ints.of_own h2).weak fun i hi hb=>⟨by omega,by omega⟩⟩
def GMap (m:List (Int×Value)) (ids:List Int) (g:Int→Int):Prop:=∀x,ZE m x=if x∈ids then some (.int .i64 (g x)) else none
theorem GMap.get {m:List (Int×Value)} {ids:List Int} {g:Int→Int} (h:GMap m ids g) (x:Int):(ZE m x).getD (.int .i64 0)= .int .i64 (if x∈ids then g x else 0):=by
 rw[h x];split<;>rfl
theorem GMap.put {m:List (Int×Value)} {ids:List Int} {g:Int→Int} (h:GMap m ids g) {x v:Int} (hx:x∈ids):GMap (Zq m x (.int .i64 v)) ids (fun y=>if y=x then v else g y):=fun y=>by
 rw[ZbO]
 by_cases e:y=x
 ·subst e;simp[hx]
 ·rw[if_neg e,h y];simp[e]
theorem ZiN {m:List (Int×Value)} {ids:List Int} {x:Int} {v:Value} (h:m.map (·.1)=ZbR [] ids) (hx:x∈ids):(Zq m x v).map (·.1)=ZbR [] ids:=by
 rw[ZiB,if_pos (by rw[h,Zj1];exact Or.inr hx),h]
theorem TpI.perm {l:List Edge} {ids L nx xs ys:List Int} {g:Int→Int} (h:TpI l ids L nx xs g) (hp:ys.Perm xs):TpI l ids L nx ys g:=⟨h.rise,h.sub,h.cnt,hp.trans h.heap,h.gone,h.nxs⟩
structure TpW (w wr:World) (base hb ba bn:Nat) (mn:List (Int×Value)) (l:List Edge) (ids L nx ys out:List Int) (g:Int→Int) (mA:List (Int×Value)) (A:Option Addr) (c:Nat) (Ao:Option Addr) (co:Nat):Prop where
 I:TpI l ids L nx ys g
 hp:HpF ys 0 ys.length
 H:HeapM wr base hb A ys c
 O:wr.ownsRow base 3 1 (.slice Ao out.length co) out.length (out.map (Value.int .i64))
 ap:∀i,Own (.slice Ao out.length co) i→¬Own (.slice A ys.length c) i
 M:MapE wr ba (fun n:Int=>Value.int .i64 n) mA
 G:GMap mA ids g
 K:mA.map (·.1)=ZbR [] ids
 N:NextIs wr bn hb mn (Zde l ids)
 U:Upd No w wr
 S:ZoK l L.length L out=ZsD ids l
 Ln:out.length+L.length=(ZA ids).length
 B:base≤wr.heap.size
 o1:w.heap.size≤ba
 o2:ba<bn
 o3:bn<hb
 o4:hb<base
section
variable {w wr w1 w2 w5 w6:World} {base hb ba bn:Nat} {mn mA:List (Int×Value)} {l:List Edge} {ids L nx ys ys' out:List Int} {g:Int→Int} {A A' Ao Ao':Option Addr} {c c' co co':Nat} {m x:Int}
theorem TpW.less (h:TpW w wr base hb ba bn mn l ids L (x::nx) ys out g mA A c Ao co) (hne:g x-1≠1) (M5:MapE w5 ba (fun n:Int=>Value.int .i64 n) (Zq mA x (.int .i64 (g x-1)))) (u5:Upd (One ba) wr w5):
  TpW w w5 base hb ba bn mn l ids L nx ys out (fun y=>if y=x then g x-1 else g y) (Zq mA x (.int .i64 (g x-1))) A c Ao co:=by
 have e1:=h.o1;have e2:=h.o2;have e3:=h.o3;have e4:=h.o4
 have hx:=h.I.nxs x (List.mem_cons_self ..)
 have hI:=h.I.step
 rw[if_neg hne]at hI
 have hnb:∀i,bn≤i→¬One ba i:=fun i hi e=>by unfold One at e;omega
 refine⟨hI,h.hp,⟨h.H.1.upd u5 (hnb _ (by omega)),Za h.H.2.1 u5 (fun i hi=>hnb i (by have:=(h.H.2.1.lt i hi).1;omega)),h.H.2.2⟩,Za h.O u5 (fun i hi=>hnb i (by have:=(h.O.lt i hi).1;omega)),h.ap,M5,h.G.put hx,ZiN h.K hx,
  h.N.upd u5 (fun i h1 h2=>hnb i h1) e3,h.U.then_ u5 (fun i e=>Or.inr (by unfold One at e;omega)),h.S,h.Ln,Nat.le_trans h.B u5.size,e1,e2,e3,e4⟩
theorem TpW.more (h:TpW w wr base hb ba bn mn l ids L (x::nx) ys out g mA A c Ao co) (he:g x-1=1) (M5:MapE w5 ba (fun n:Int=>Value.int .i64 n) (Zq mA x (.int .i64 (g x-1)))) (u5:Upd (One ba) wr w5)
  (p:ys'.Perm (ys++[x])) (hp':HpF ys' 0 ys'.length) (H6:HeapM w6 base hb A' ys' c') (g6:Grew w5 (.slice A ys.length c) (.slice A' ys'.length c')) (u6:Upd (fun i=>i=hb∨Own (.slice A ys.length c) i) w5 w6):
  TpW w w6 base hb ba bn mn l ids L nx ys' out (fun y=>if y=x then g x-1 else g y) (Zq mA x (.int .i64 (g x-1))) A' c' Ao co:=by
 have e1:=h.o1;have e2:=h.o2;have e3:=h.o3;have e4:=h.o4
 have hx:=h.I.nxs x (List.mem_cons_self ..)
 have hI:=h.I.step
 rw[if_pos he]at hI
 have hnb:∀i,bn≤i→¬One ba i:=fun i hi e=>by unfold One at e;omega
 have hge:∀i,Own (.slice A ys.length c) i→base≤i:=fun i hi=>(h.H.2.1.lt i hi).1
 have O5:=Za h.O u5 (fun i hi=>hnb i (by have:=(h.O.lt i hi).1;omega))
 refine⟨hI.perm p,hp',H6,Za O5 u6 (fun i hi e=> ?_),fun i hi e=> ?_,M5.upd u6 (fun e=>by rcases e with e|e;omega;have:=hge _ e;omega),h.G.put hx,ZiN h.K hx,
  (h.N.upd u5 (fun i h1 h2=>hnb i h1) e3).upd u6 (fun i _ hi e=>by rcases e with e|e;omega;have:=hge _ e;omega) e3,(h.U.then_ u5 (fun i e=>Or.inr (by unfold One at e;omega))).then_ u6 (fun i e=>Or.inr (by rcases e with e|e;omega;have:=hge _ e;omega)),h.S,h.Ln,?_,e1,e2,e3,e4⟩
 ·rcases e with e|e
  ·have:=(h.O.lt i hi).1;omega
  ·exact h.ap i hi e
 ·rcases g6 with h2|⟨k,h2,h3⟩
  ·exact h.ap i hi (show _=some i by rw[←h2];exact e)
  ·unfold Own at e;rw[h2]at e;cases e
   have:=(O5.lt i hi).2
   omega
 ·have:=h.B;have:=u5.size;have:=u6.size;omega
end
end Go.Proofs.YtklmahmfmbppkaaGreat
