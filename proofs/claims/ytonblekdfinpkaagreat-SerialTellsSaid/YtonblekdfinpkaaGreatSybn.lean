/- Closed walks, plain: the document's answer, and that the search by ranks tells the same. -/
import Derived.BigRegion
import Derived.Shelf.SlicesG.SearchI
import Derived.Ground.SlgnProg
import Derived.Shelf.SlGeneric
import Derived.Test.YtonblekdfinpkaaGreatProg
import Derived.Test.YtonblekdfinpkaaGreatSyal
import Derived.Test.YtonblekdfinpkaaGreatSyax
import Derived.Test.YtonblekdfinpkaaGreatSybe
import Derived.Test.YtonblekdfinpkaaGreatSybm
namespace Go.Proofs.YtonblekdfinpkaaGreat
set_option linter.unusedVariables false
set_option linter.unusedSimpArgs false
section
open Go.RowKit
theorem Short.mem {D D':List HArc} {must:Int} {need:Bool} {v:Int} {c:List HArc} (h:Short D must need v c) (hD:∀a,a∈D↔a∈D'):Short D' must need v c:=
 h.less (fun a ha=>(hD a).2 ha) (fun a ha=>(hD a).1 (Zc1 h.w a ha))
theorem NoWay.mem {D D':List HArc} {must:Int} {need:Bool} (h:NoWay D must need) (hD:∀a,a∈D'→a∈D):NoWay D' must need:=
 fun u c' n1 n2 n3=>h u c' n1 (Zdj hD (Int.le_refl _) n2) n3
section
variable {l:List Edge} {mask must:Int}
end
section
variable {D:List Edge}
end
end
/- Closed walks:the numbers of some edges. -/
section
open Go.RowKit
theorem ZfD {P:Program} (w:World) (g i:Nat) (t ty:TypeId) (old:Array Value) (v:Value) (hg:w.heap[g]? =some (.cells old t (0,0))) (hi:(P.info? ty).map (·.size)=some 1)
  (ho:i<old.size) (h1:v.oneCell'=true):
  (storeVar ty ⟨g,i,none⟩ v).run P w= .ok () (w.setCell ⟨g,i,none⟩ v):=by
 have hst:∀m,(store ⟨g,i,none⟩ v m).run P w= .ok () (w.setCell ⟨g,i,none⟩ v):=fun m=>by
  rw[run_store P w _ v m h1];simp[World.cell?,World.frozen?,hg,ho]
 have hadd:(⟨g,i,none⟩:Addr).add 0=⟨g,i,none⟩:=by unfold Addr.add;simp
 have hsc:(storeCells ⟨g,i,none⟩ [v] 0).run P w= .ok () (w.setCell ⟨g,i,none⟩ v):=by
  simp only[storeCells,Sem.run_bind,hadd,hst,Result.andThen_ok];rfl
 cases hq:P.info? ty with
 |none=>simp[hq]at hi
 |some j=>
  have hs:j.size=1:=by simpa[hq]using hi
  cases v<;>first|(simp[Value.oneCell']at h1;done)|simp[storeVar,sizeOf,typeInfo,hq,hs,Value.cells,hsc]
theorem Zme {P:Program} {o:Oper} {a:Act} {W:World} {K:Act→World→Prop} {Q:Exit→Act→World→Prop} {ty:TypeId} {x y:Operand} (ho:o.op= .store ty x y)
  {g i:Nat} {t:TypeId} {old:List Value} {v:Value} (hx:a.eval x= .pointer (some ⟨g,i,none⟩)) (hy:a.eval y=v) (hb:Blk W g t old) (hi:(P.info? ty).map (·.size)=some 1) (hl:i<old.length) (h1:v.oneCell'=true)
  (h:∀w',Blk w' g t (old.set i v)→Upd (One g) W w'→K (a.put o.dst undef) w'):o.wp P a W K Q:=by
 unfold Oper.wp execOp;simp only[ho,hx,hy,Instr.storeAt,Instr.sureAddr,Sem.run_bind,Sem.run_pure,Result.andThen_ok,ZfD W g i t ty old.toArray v hb hi (by simpa using hl) h1];exact h _ (hb.set_ i v) ((Upd.refl (One g) W).setOne i v)
theorem ZG {P:Program} {ops:Array Oper} {o:Oper} {a:Act} {W:World} {K:Act→World→Prop} {Q:Exit→Act→World→Prop} {E:Prop} (hgd:o.guard=none) {ty:TypeId} {x y:Operand} (ho:o.op= .store ty x y)
  {g i:Nat} {t:TypeId} {old:List Value} {v:Value} (hx:a.eval x= .pointer (some ⟨g,i,none⟩)) (hy:a.eval y=v) (hb:Blk W g t old) (hi:(P.info? ty).map (·.size)=some 1) (hl:i<old.length) (h1:v.oneCell'=true)
  (h:∀w',Blk w' g t (old.set i v)→Upd (One g) W w'→K (a.put o.dst undef) w'):if Region.wanted o (yielded ops a.tmps)=true then Oper.wp P o a W K Q else E:=by
 rw[if_pos (by simp[Region.wanted,hgd])];exact Zme ho hx hy hb hi hl h1 h
theorem Zmy {A:Option Addr} {n m c d i:Nat} (h:Own (.slice A n c) i):Own (.slice A m d) i:=by
 cases A with
 |none=>cases h
 |some a=>exact h
end
/- Closed walks:the first of the shortest. -/
section
open Go.RowKit
def ToldC (w:World) (d:List Edge) (e:Ending) (w':World):Prop:=
 ∃A c,e= .returned (.tuple #[.slice A d.length c,.int .i64 (if d.length=0 then 3 else 0)])∧w'.ownsRow w.heap.size 26 4 (.slice A d.length c) d.length (ZnP d)∧Upd No w w'
end
/- Closed walks:the answers that the document gives. -/
section
open Go.RowKit
def eb:Edge:=⟨2,1,3,5⟩
def ec:Edge:=⟨2,1,3,4⟩
section
variable {F:Nat→Prop} {w:World} {A:Option Addr} {c:Nat} {l d:List Edge} {mask must:Int}
end
end
/- Closed walks,the document's:the ids from which so many steps lead to one. -/
section
open Go.RowKit
def RowOk (F:Nat→Prop) (w:World) (v:Value) (l:List Int):Prop:=∃B c,v= .slice B l.length c∧Ints F w B l
theorem RowOk.upd {F S:Nat→Prop} {w w':World} {v:Value} {l:List Int} (h:RowOk F w v l) (u:Upd S w w') (hn:∀i,F i→¬S i):RowOk F w' v l:=by
 obtain⟨B,c,e,h⟩:=h;exact⟨B,c,e,h.upd u hn⟩
theorem RowOk.weak {F G:Nat→Prop} {w:World} {v:Value} {l:List Int} (h:RowOk F w v l) (hg:∀i,i<w.heap.size→F i→G i):RowOk G w v l:=by
 obtain⟨B,c,e,h⟩:=h;exact⟨B,c,e,h.weak hg⟩
structure RowsOk (F:Nat→Prop) (w:World) (vs:List Value) (f:Nat→List Int):Prop where
 ok:∀(j:Nat) (h:j<vs.length),RowOk F w vs[j] (f j)
theorem RowsOk.upd {F S:Nat→Prop} {w w':World} {vs:List Value} {f:Nat→List Int} (h:RowsOk F w vs f) (u:Upd S w w') (hn:∀i,F i→¬S i):RowsOk F w' vs f:=⟨fun j hj=>(h.ok j hj).upd u hn⟩
theorem RowsOk.weak {F G:Nat→Prop} {w:World} {vs:List Value} {f:Nat→List Int} (h:RowsOk F w vs f) (hg:∀i,i<w.heap.size→F i→G i):RowsOk G w vs f:=⟨fun j hj=>(h.ok j hj).weak hg⟩
theorem RowsOk.app {F:Nat→Prop} {w:World} {vs:List Value} {f:Nat→List Int} {v:Value} (h:RowsOk F w vs f) (k:RowOk F w v (f vs.length)):RowsOk F w (vs++[v]) f:=⟨fun j hj=>by
 rw[List.length_append,List.length_singleton]at hj
 by_cases h1:j<vs.length
 ·rw[List.getElem_append_left h1];exact h.ok j h1
 ·have h2:j=vs.length:=by omega
  subst h2;rw[List.getElem_append_right (Nat.le_refl _)]
  simpa using k⟩
structure RowsAt (w:World) (A:Option Addr) (n:Nat) (f:Nat→List Int):Prop where
 at_:∀j,j<n→∃ad B c,A=some ad∧w.cell? (ad.add j)=some (.slice B (f j).length c)∧Ints (fun _=>True) w B (f j)
theorem RowsAt.upd {w w':World} {A:Option Addr} {n:Nat} {f:Nat→List Int} (h:RowsAt w A n f) (u:Upd No w w'):RowsAt w' A n f:=⟨fun j hj=>by
 obtain⟨ad,B,c,e,h1,h2⟩:=h.at_ j hj;exact⟨ad,B,c,e,u.keepNo h1,h2.upd u (fun _ _=>id)⟩⟩
end
/- Closed walks,the document's:the search is walked. -/
section
open Go.RowKit
theorem Znp (w:World) (F:Nat→Prop) (A:Option Addr) (c:Nat) (l:List Int) (a:Int) (h:Ints F w A l) (hl:l.length≤4398046511103) {v:Bool} (hv:decide (a∈l)=v):
  Calls Tryz.prog 10 #[.slice A l.length c,.int .i64 a] w fun e w'=>e= .returned (.bool v)∧Upd No w w':=by
 subst hv;refine(ZlV w F A c l a h hl).mono ?_;rintro e w' ⟨rfl,rfl⟩;exact⟨rfl,Upd.refl _ _⟩
theorem Zog (G:Nat→Prop) (base:Nat) (w:World) (A:Option Addr) (c:Nat) (l:List Int) (n:Int) (h:Ints G w A l) (hl:l.length≤100000000) (hb:base≤w.heap.size):
  Calls Tryz.prog 88 #[.slice A l.length c,.int .i64 n] w fun e w'=>∃A' c',e= .returned (.slice A' (Zp n l).length c')∧Ints (fun i=>base≤i) w' A' (Zp n l)∧Upd No w w':=by
 refine(ZiK G w A c l n h hl).mono ?_;rintro e w' ⟨A',c',rfl,ho,hu⟩;exact⟨A',c',rfl,(Ints.of_owned ho).weak (fun i _ h=>by omega),hu⟩
end
/- Orders:the heap in memory,and what its methods do. -/
section
open Go.RowKit
/-! what an interface's method is -/
theorem Zlo (a:Addr) (w:World) (A:Option Addr) (n c:Nat) (h:w.cell? a=some (.slice A n c)):(loadVar 207 a).run Tryz.prog w= .ok (.slice A n c) w:=by
 simp[loadVar,Tryz.sizeOf207,h,go_sem]
theorem ZnK (a:Option Addr) (w:World):(method 451 209 (.pointer a) "Push").run Tryz.prog w= .ok (307,.pointer a) w:=by kernel_rfl
theorem Zoq (a:Option Addr) (w:World):(method 451 209 (.pointer a) "Pop").run Tryz.prog w= .ok (306,.pointer a) w:=by kernel_rfl
theorem ZiV (f:Nat) (name:String) (hf:(((Tryz.prog.info? 209).getD default).methods.find? (·.name==name)).map (fun m=>(m.path.isEmpty,m.func))=some (true,some (f,false)))
  (hp:(((Tryz.prog.info? 209).getD default).methods.find? (·.name==name)).map (fun m=>m.path.toList.length)=some 0)
  (a:Addr) (A:Option Addr) (n c:Nat) (w:World) (h:w.cell? a=some (.slice A n c)):(method 451 209 (.pointer (some a)) name).run Tryz.prog w= .ok (f,.slice A n c) w:=by
 have hi:(typeInfo 209).run Tryz.prog w= .ok ((Tryz.prog.info? 209).getD default) w:=by kernel_rfl
 have hu:∀w,(underlying 209).run Tryz.prog w= .ok (TypeDesc.pointer 207) w:=fun w=>by kernel_rfl
 have hw:∀(s:String) w,(Builtin.ssaWrapNilChk_ #[209] 209 #[.pointer (some a),strVal "",strVal s]).run Tryz.prog w= .ok (.pointer (some a)) w:=fun s w=>rfl
 cases hm:((Tryz.prog.info? 209).getD default).methods.find? (·.name==name)with
 |none=>rw[hm]at hf;cases hf
 |some m=>
  rw[hm]at hf hp;have hpp:m.path.toList=[]:=List.eq_nil_of_length_eq_zero (by simpa using hp);simp only[Option.map_some,Option.some.injEq,Prod.mk.injEq]at hf;unfold method;simp only[Sem.run_bind,hi,Result.andThen_ok,hm,hpp,hf.1,hf.2];simp[follow,receiverAt,hu,Place.get,hw,asAddr,Zlo a w A n c h]
theorem Zor (a:Addr) (A:Option Addr) (n c:Nat) (w:World) (h:w.cell? a=some (.slice A n c)):(method 451 209 (.pointer (some a)) "Len").run Tryz.prog w= .ok (142,.slice A n c) w:=ZiV 142 "Len" (by kernel_rfl) (by kernel_rfl) a A n c w h
theorem ZnL (a:Addr) (A:Option Addr) (n c:Nat) (w:World) (h:w.cell? a=some (.slice A n c)):(method 451 209 (.pointer (some a)) "Less").run Tryz.prog w= .ok (304,.slice A n c) w:=ZiV 304 "Less" (by kernel_rfl) (by kernel_rfl) a A n c w h
theorem ZnJ (a:Addr) (A:Option Addr) (n c:Nat) (w:World) (h:w.cell? a=some (.slice A n c)):(method 451 209 (.pointer (some a)) "Swap").run Tryz.prog w= .ok (305,.slice A n c) w:=ZiV 305 "Swap" (by kernel_rfl) (by kernel_rfl) a A n c w h
theorem Zf7:SlT Tryz.prog 207 3 1 8:=SlT.mk_ Tryz.underlying207 (z:= .int .i64 0) (by kernel_rfl) rfl (by omega)
/-! the methods themselves -/
set_option maxRecDepth 100000 in
theorem Zfc (w:World) (A:Option Addr) (n c:Nat):Calls Tryz.prog 142 #[.slice A n c] w fun e w'=>e= .returned (.int .i64 (n:Int))∧w=w':=by
 go_enter Tryz.func142,Tryz.ntmps142
 go_wp2
 go_ret
 exact⟨rfl,rfl⟩
set_option maxRecDepth 100000 in
theorem Znt (F:Nat→Prop) (w:World) (A:Option Addr) (c:Nat) (xs:List Int) (i j:Nat) (h:Ints F w A xs) (hi:i<xs.length) (hj:j<xs.length) (hl:xs.length≤1000000):
  Calls Tryz.prog 304 #[.slice A xs.length c,.int .i64 (i:Int),.int .i64 (j:Int)] w fun e w'=>e= .returned (.bool (decide (xs[i]<xs[j])))∧Upd No w w':=by
 obtain⟨ad,rfl,_,_,c0⟩:=h.at_ hi;obtain⟨ad',e',_,_,c1⟩:=h.at_ hj
 cases e'
 have i1:(0:Int)≤(i:Int):=Qn _;have i2:(i:Int)<(xs.length:Int):=by omega
 have j1:(0:Int)≤(j:Int):=Qn _;have j2:(j:Int)<(xs.length:Int):=by omega
 obtain⟨x,hx⟩:∃x,xs[i]=x:=⟨_,rfl⟩;obtain⟨y,hy⟩:∃y,xs[j]=y:=⟨_,rfl⟩;rw[hx]at c0 ⊢;rw[hy]at c1 ⊢;clear hx hy h
 go_enter Tryz.func304,Tryz.ntmps304
 go_wp2
 go_quiet (fail)
 go_wp2
 go_ret
 exact⟨rfl,(Upd.refl _ _).drewN _⟩
def Zac (xs:List Int) (i j:Nat):List Int:=(xs.set i (xs.getD j 0)).set j (xs.getD i 0)
theorem Zax (xs:List Int) (i j:Nat):(Zac xs i j).length=xs.length:=by unfold Zac;rw[List.length_set,List.length_set]
theorem Zg0 {cur:List Value} {xs:List Int} {i j:Nat} {x y:Int} (h:cur.take xs.length=xs.map (Value.int .i64)):((cur.set i (.int .i64 y)).set j (.int .i64 x)).take (xs.length*1)=((xs.set i y).set j x).map (Value.int .i64):=by
 rw[Nat.mul_one,List.take_set,List.take_set,h,List.map_set,List.map_set]
set_option maxRecDepth 100000 in
set_option maxHeartbeats 2000000 in
theorem Znr (w:World) (base:Nat) (A:Option Addr) (c:Nat) (xs:List Int) (i j:Nat) (h:w.ownsRow base 3 1 (.slice A xs.length c) xs.length (xs.map (Value.int .i64))) (hi:i<xs.length) (hj:j<xs.length) (hl:xs.length≤1000000):
  Calls Tryz.prog 305 #[.slice A xs.length c,.int .i64 (i:Int),.int .i64 (j:Int)] w fun e w'=>e= .returned (.tuple #[])∧w'.ownsRow base 3 1 (.slice A xs.length c) xs.length ((Zac xs i j).map (Value.int .i64))∧Upd (Own (.slice A xs.length c)) w w':=by
 obtain⟨g,cur,rfl,hgb,hB,hnc,hcl,hct,hcm⟩:=ZfM h (by omega);have i1:(0:Int)≤(i:Int):=Qn _;have i2:(i:Int)<(xs.length:Int):=by omega
 have j1:(0:Int)≤(j:Int):=Qn _;have j2:(j:Int)<(xs.length:Int):=by omega
 have hcur:∀k,k<xs.length→cur[k]? =some (.int .i64 (xs.getD k 0)):=fun k hk=>by
  have h1:(cur.take (xs.length*1))[k]? =some (.int .i64 (xs.getD k 0)):=by
   rw[hct,List.getElem?_map,Qg hk,List.getD_eq_getElem?_getD,Qg hk];rfl
  rw[List.getElem?_take]at h1
  split at h1
  ·exact h1
  ·cases h1
 have c0:w.cell? ⟨g,i,none⟩=some (.int .i64 (xs.getD i 0)):=by rw[hB.cell];exact hcur i hi
 have c1:w.cell? ⟨g,j,none⟩=some (.int .i64 (xs.getD j 0)):=by rw[hB.cell];exact hcur j hj
 have HB:=Qh hB;have HC:=Qh hcl;have HT:=Qh hct;have HM:=Qh hcm
 generalize hxi:xs.getD i 0=x at c0
 generalize hyj:xs.getD j 0=y at c1
 have HX:=Qh hxi;have HY:=Qh hyj;clear hcur hB hcl hct hcm h hxi hyj
 go_enter Tryz.func305,Tryz.ntmps305
 go_wp2;refine wp_region_noPanic ?_;refine wp_region_held_drew (S:=(fun w'=>Upd (One g) w w')) (by kernel_rfl) ?_ (fun hHeld=> ?_)
 ·(first|exact(Upd.refl _ _).drew|exact hHeld|exact hHeld.trans hq)
 refine wpK 0 rfl ?_;refine wpK 1 rfl ?_;refine wpK 2 rfl ?_;refine wpK 3 rfl ?_;refine wpK 4 rfl ?_;refine wpK 5 rfl ?_;refine wpK 6 rfl ?_;refine wpK 8 rfl ?_;refine wpK 9 rfl ?_;refine wpK 10 rfl ?_;refine wpR [7,11] ?_;refine wpC rfl (fun K hK=> ?_) ?_
 ·go_simp;refine hK.out _ _ ?_ (fun hHeld=> ?_)
  ·(first|exact(Upd.refl _ _).drew|exact hHeld|exact hHeld.trans hq)
  clear hK K
  try simp only[Act.put,sT,sS,sZ]
  refine wpR [11] ?_;refine wpC rfl (fun K hK=> ?_) AllReadyH.nil;go_simp;refine hK.out _ _ ?_ (fun hHeld=> ?_)
  ·(first|exact(Upd.refl _ _).drew|exact hHeld|exact hHeld.trans hq)
  clear hK K
  try simp only[Act.put,sT,sS,sZ]
  refine wpK 12 rfl ?_;refine wpR [13] ?_;refine wpC rfl (fun K hK=> ?_) AllReadyH.nil
  (first
   |(refine ZG rfl rfl (g:=g) (i:=i) (v:= .int .i64 y) rfl rfl (show Blk _ g 3 _ from HB.out) (by kernel_rfl) (by have:=HC.out;omega) rfl ?_;intro w5 hb5 hu5;have HB5:=Qh hb5;have hq:Upd (One g) _ w5:=hu5)
   |(refine ZG rfl rfl (g:=g) (i:=j) (v:= .int .i64 x) rfl rfl (show Blk _ g 3 _ from HB.out) (by kernel_rfl) (by have:=HC.out;omega) rfl ?_;intro w5 hb5 hu5;have HB5:=Qh hb5;have hq:Upd (One g) _ w5:=hu5)
   |(refine ZG rfl rfl (g:=g) (i:=j) (v:= .int .i64 x) rfl rfl HB5.out (by kernel_rfl) (by have:=HC.out;rw[List.length_set];omega) rfl ?_;intro w6 hb6 hu6;have HB6:=Qh hb6;have hq:Upd (One g) _ w6:=hu6)
   |(refine ZG rfl rfl (g:=g) (i:=i) (v:= .int .i64 y) rfl rfl HB5.out (by kernel_rfl) (by have:=HC.out;rw[List.length_set];omega) rfl ?_;intro w6 hb6 hu6;have HB6:=Qh hb6;have hq:Upd (One g) _ w6:=hu6))
  refine hK.out _ _ ?_ (fun hHeld=> ?_)
  ·(first|exact(Upd.refl _ _).drew|exact hHeld|exact hHeld.trans hq)
  clear hK K
  try simp only[Act.put,sT,sS,sZ]
  refine wpK 14 rfl ?_;refine wpR [15] ?_;refine wpC rfl (fun K hK=> ?_) AllReadyH.nil
  (first
   |(refine ZG rfl rfl (g:=g) (i:=i) (v:= .int .i64 y) rfl rfl (show Blk _ g 3 _ from HB.out) (by kernel_rfl) (by have:=HC.out;omega) rfl ?_;intro w5 hb5 hu5;have HB5:=Qh hb5;have hq:Upd (One g) _ w5:=hu5)
   |(refine ZG rfl rfl (g:=g) (i:=j) (v:= .int .i64 x) rfl rfl (show Blk _ g 3 _ from HB.out) (by kernel_rfl) (by have:=HC.out;omega) rfl ?_;intro w5 hb5 hu5;have HB5:=Qh hb5;have hq:Upd (One g) _ w5:=hu5)
   |(refine ZG rfl rfl (g:=g) (i:=j) (v:= .int .i64 x) rfl rfl HB5.out (by kernel_rfl) (by have:=HC.out;rw[List.length_set];omega) rfl ?_;intro w6 hb6 hu6;have HB6:=Qh hb6;have hq:Upd (One g) _ w6:=hu6)
   |(refine ZG rfl rfl (g:=g) (i:=i) (v:= .int .i64 y) rfl rfl HB5.out (by kernel_rfl) (by have:=HC.out;rw[List.length_set];omega) rfl ?_;intro w6 hb6 hu6;have HB6:=Qh hb6;have hq:Upd (One g) _ w6:=hu6))
  refine hK.out _ _ ?_ (fun hHeld=> ?_)
  ·(first|exact(Upd.refl _ _).drew|exact hHeld|exact hHeld.trans hq)
  clear hK K
  try simp only[Act.put,sT,sS,sZ]
  refine wpD (NoPanic.normal ?_);go_wp2;have hsw:Zac xs i j=(xs.set i y).set j x:=by unfold Zac;rw[HX.out,HY.out]
  refine bodyPost_end (results_none rfl _ _ _) rfl ⟨rfl,?_,hHeld.mono (fun k _ e=>by cases e;rfl)⟩;rw[hsw];exact Zdf HB6.out hgb hnc (by rw[List.length_set,List.length_set];exact HC.out) (Zg0 (by simpa using HT.out)) HM.out (by simp)
 refine wpC rfl (fun K hK=> ?_) AllReadyH.nil;go_simp;refine hK.out _ _ ?_ (fun hHeld=> ?_)
 ·(first|exact(Upd.refl _ _).drew|exact hHeld|exact hHeld.trans hq)
 clear hK K
 try simp only[Act.put,sT,sS,sZ]
 refine wpR [7] ?_;refine wpC rfl (fun K hK=> ?_) AllReadyH.nil;go_simp;refine hK.out _ _ ?_ (fun hHeld=> ?_)
 ·(first|exact(Upd.refl _ _).drew|exact hHeld|exact hHeld.trans hq)
 clear hK K
 try simp only[Act.put,sT,sS,sZ]
 refine wpK 12 rfl ?_;refine wpR [13] ?_;refine wpC rfl (fun K hK=> ?_) AllReadyH.nil
 (first
  |(refine ZG rfl rfl (g:=g) (i:=i) (v:= .int .i64 y) rfl rfl (show Blk _ g 3 _ from HB.out) (by kernel_rfl) (by have:=HC.out;omega) rfl ?_;intro w5 hb5 hu5;have HB5:=Qh hb5;have hq:Upd (One g) _ w5:=hu5)
  |(refine ZG rfl rfl (g:=g) (i:=j) (v:= .int .i64 x) rfl rfl (show Blk _ g 3 _ from HB.out) (by kernel_rfl) (by have:=HC.out;omega) rfl ?_;intro w5 hb5 hu5;have HB5:=Qh hb5;have hq:Upd (One g) _ w5:=hu5)
  |(refine ZG rfl rfl (g:=g) (i:=j) (v:= .int .i64 x) rfl rfl HB5.out (by kernel_rfl) (by have:=HC.out;rw[List.length_set];omega) rfl ?_;intro w6 hb6 hu6;have HB6:=Qh hb6;have hq:Upd (One g) _ w6:=hu6)
  |(refine ZG rfl rfl (g:=g) (i:=i) (v:= .int .i64 y) rfl rfl HB5.out (by kernel_rfl) (by have:=HC.out;rw[List.length_set];omega) rfl ?_;intro w6 hb6 hu6;have HB6:=Qh hb6;have hq:Upd (One g) _ w6:=hu6))
 refine hK.out _ _ ?_ (fun hHeld=> ?_)
 ·(first|exact(Upd.refl _ _).drew|exact hHeld|exact hHeld.trans hq)
 clear hK K
 try simp only[Act.put,sT,sS,sZ]
 refine wpK 14 rfl ?_;refine wpR [15] ?_;refine wpC rfl (fun K hK=> ?_) AllReadyH.nil
 (first
  |(refine ZG rfl rfl (g:=g) (i:=i) (v:= .int .i64 y) rfl rfl (show Blk _ g 3 _ from HB.out) (by kernel_rfl) (by have:=HC.out;omega) rfl ?_;intro w5 hb5 hu5;have HB5:=Qh hb5;have hq:Upd (One g) _ w5:=hu5)
  |(refine ZG rfl rfl (g:=g) (i:=j) (v:= .int .i64 x) rfl rfl (show Blk _ g 3 _ from HB.out) (by kernel_rfl) (by have:=HC.out;omega) rfl ?_;intro w5 hb5 hu5;have HB5:=Qh hb5;have hq:Upd (One g) _ w5:=hu5)
  |(refine ZG rfl rfl (g:=g) (i:=j) (v:= .int .i64 x) rfl rfl HB5.out (by kernel_rfl) (by have:=HC.out;rw[List.length_set];omega) rfl ?_;intro w6 hb6 hu6;have HB6:=Qh hb6;have hq:Upd (One g) _ w6:=hu6)
  |(refine ZG rfl rfl (g:=g) (i:=i) (v:= .int .i64 y) rfl rfl HB5.out (by kernel_rfl) (by have:=HC.out;rw[List.length_set];omega) rfl ?_;intro w6 hb6 hu6;have HB6:=Qh hb6;have hq:Upd (One g) _ w6:=hu6))
 refine hK.out _ _ ?_ (fun hHeld=> ?_)
 ·(first|exact(Upd.refl _ _).drew|exact hHeld|exact hHeld.trans hq)
 clear hK K
 try simp only[Act.put,sT,sS,sZ]
 refine wpD (NoPanic.normal ?_);go_wp2;have hsw:Zac xs i j=(xs.set i y).set j x:=by unfold Zac;rw[HX.out,HY.out]
 refine bodyPost_end (results_none rfl _ _ _) rfl ⟨rfl,?_,hHeld.mono (fun k _ e=>by cases e;rfl)⟩;rw[hsw];exact Zdf HB6.out hgb hnc (by rw[List.length_set,List.length_set];exact HC.out) (Zg0 (by simpa using HT.out)) HM.out (by simp)
end
/- Orders:the heap's own functions. -/
section
open Go.RowKit
def hif (hb:Nat):Value:= .iface 209 (.pointer (some ⟨hb,0,none⟩))
def HeapM (w:World) (base hb:Nat) (A:Option Addr) (xs:List Int) (c:Nat):Prop:=
 Blk w hb 207 [.slice A xs.length c]∧w.ownsRow base 3 1 (.slice A xs.length c) xs.length (xs.map (Value.int .i64))∧¬Own (.slice A xs.length c) hb
theorem HeapM.ints {w:World} {base hb:Nat} {A:Option Addr} {xs:List Int} {c:Nat} (h:HeapM w base hb A xs c):Ints (fun i=>base≤i) w A xs:=Ints.of_own h.2.1
theorem HeapM.cell {w:World} {base hb:Nat} {A:Option Addr} {xs:List Int} {c:Nat} (h:HeapM w base hb A xs c):w.cell? ⟨hb,0,none⟩=some (.slice A xs.length c):=by simpa using h.1.cell 0
theorem HeapM.upd {w w':World} {base hb:Nat} {A:Option Addr} {xs:List Int} {c:Nat} (h:HeapM w base hb A xs c) (u:Upd No w w'):HeapM w' base hb A xs c:=⟨h.1.upd u id,Zb h.2.1 u (fun _ _=>id),h.2.2⟩
theorem HeapM.mLen {w:World} {base hb:Nat} {A:Option Addr} {xs:List Int} {c:Nat} (h:HeapM w base hb A xs c):(method 451 209 (.pointer (some ⟨hb,0,none⟩)) "Len").run Tryz.prog w= .ok (142,.slice A xs.length c) w:=Zor _ _ _ _ _ h.cell
theorem HeapM.mLess {w:World} {base hb:Nat} {A:Option Addr} {xs:List Int} {c:Nat} (h:HeapM w base hb A xs c):(method 451 209 (.pointer (some ⟨hb,0,none⟩)) "Less").run Tryz.prog w= .ok (304,.slice A xs.length c) w:=ZnL _ _ _ _ _ h.cell
theorem HeapM.mSwap {w:World} {base hb:Nat} {A:Option Addr} {xs:List Int} {c:Nat} (h:HeapM w base hb A xs c):(method 451 209 (.pointer (some ⟨hb,0,none⟩)) "Swap").run Tryz.prog w= .ok (305,.slice A xs.length c) w:=ZnJ _ _ _ _ _ h.cell
theorem HeapM.swap {w:World} {base hb:Nat} {A:Option Addr} {xs:List Int} {c:Nat} (h:HeapM w base hb A xs c) (hl:xs.length≤1000000) {i j:Nat} (hi:i<xs.length) (hj:j<xs.length):
  Calls Tryz.prog 305 #[.slice A xs.length c,.int .i64 (i:Int),.int .i64 (j:Int)] w fun e w'=>e= .returned (.tuple #[])∧HeapM w' base hb A (Zac xs i j) c∧Upd (Own (.slice A xs.length c)) w w':=by
 refine Calls.mono (Znr w base A c xs i j h.2.1 hi hj hl) ?_;rintro e w' ⟨rfl,ho,hu⟩;have hs:=Zax xs i j;refine⟨rfl,⟨?_,?_,?_⟩,hu⟩
 ·rw[hs];exact h.1.upd hu h.2.2
 ·rw[hs];exact ho
 ·rw[hs];exact h.2.2
theorem HeapM.less {w:World} {base hb:Nat} {A:Option Addr} {xs:List Int} {c:Nat} (h:HeapM w base hb A xs c) (hl:xs.length≤1000000) {i j:Nat} (hi:i<xs.length) (hj:j<xs.length):
  Calls Tryz.prog 304 #[.slice A xs.length c,.int .i64 (i:Int),.int .i64 (j:Int)] w fun e w'=>e= .returned (.bool (decide (xs.getD i 0<xs.getD j 0)))∧HeapM w' base hb A xs c∧Upd No w w':=by
 refine Calls.mono (Znt _ w A c xs i j h.ints hi hj hl) ?_;rintro e w' ⟨rfl,hu⟩;refine⟨?_,h.upd hu,hu⟩;simp[List.getD,hi,hj]
def UpI (xs:List Int) (j:Nat):Prop:=
 (∀k,1≤k→k<xs.length→k≠j→xs.getD ((k-1)/2) 0≤xs.getD k 0)∧(∀k,1≤k→k<xs.length→(k-1)/2=j→1≤j→xs.getD ((j-1)/2) 0≤xs.getD k 0)
def HpF (xs:List Int) (lo n:Nat):Prop:=∀k,1≤k→k<n→lo≤(k-1)/2→xs.getD ((k-1)/2) 0≤xs.getD k 0
theorem ZU (xs:List Int) (i j k:Nat) (hi:i<xs.length) (hj:j<xs.length):(Zac xs i j).getD k 0=if k=j then xs.getD i 0 else if k=i then xs.getD j 0 else xs.getD k 0:=by
 unfold Zac;simp only[List.getD_eq_getElem?_getD,List.getElem?_set,List.length_set]
 grind
theorem ZbH (xs:List Int) (i j:Nat) (hi:i<xs.length) (hj:j<xs.length):(Zac xs i j).Perm xs:=by
 rw[List.perm_iff_count];intro a;unfold Zac;rw[List.count_set,List.count_set]<;>grind
theorem ZjF (xs:List Int) (j:Nat) (h:UpI xs j) (hs:j=0∨xs.getD ((j-1)/2) 0≤xs.getD j 0):HpF xs 0 xs.length:=by
 intro k h1 h2 _
 by_cases e:k=j
 ·subst e;rcases hs with hs|hs
  ·omega
  ·exact hs
 ·exact h.1 k h1 h2 e
theorem Zmk (xs:List Int) (j:Nat) (hj:j<xs.length) (h:UpI xs j) (h0:0<j) (hs:xs.getD j 0<xs.getD ((j-1)/2) 0):UpI (Zac xs ((j-1)/2) j) ((j-1)/2):=by
 have hp:(j-1)/2<xs.length:=by omega
 constructor
 ·intro k h1 h2 h3;rw[Zax]at h2;rw[ZU _ _ _ _ hp hj,ZU _ _ _ _ hp hj]
  by_cases e:k=j
  ·subst e;have:(k-1)/2≠k:=by omega
   simp only[if_true,if_neg this];omega
  ·rw[if_neg e,if_neg h3]
   by_cases e2:(k-1)/2=j
   ·rw[if_pos e2];exact h.2 k h1 h2 e2 (by omega)
   ·rw[if_neg e2]
    by_cases e3:(k-1)/2=(j-1)/2
    ·rw[if_pos e3];have:=h.1 k h1 h2 e;rw[e3]at this;omega
    ·rw[if_neg e3];exact h.1 k h1 h2 e
 ·intro k h1 h2 h3 h4;rw[Zax]at h2;rw[ZU _ _ _ _ hp hj,ZU _ _ _ _ hp hj];have a1:((j-1)/2-1)/2≠j:=by omega
  have a2:((j-1)/2-1)/2≠(j-1)/2:=by omega
  have a3:k≠(j-1)/2:=by omega
  rw[if_neg a1,if_neg a2,if_neg a3];have hpp:=h.1 ((j-1)/2) h4 hp (by omega)
  by_cases e:k=j
  ·rw[if_pos e];exact hpp
  ·rw[if_neg e];have:=h.1 k h1 h2 e;rw[h3]at this;omega
set_option maxRecDepth 100000 in
set_option maxHeartbeats 4000000 in
theorem hup (w:World) (base hb:Nat) (A:Option Addr) (xs:List Int) (c:Nat) (j:Nat) (hj:j<xs.length) (hl:xs.length≤1000000) (h:HeapM w base hb A xs c) (hU:UpI xs j):
  Calls Tryz.prog 197 #[hif hb,.int .i64 (j:Int)] w fun e w'=>e= .returned (.tuple #[])∧∃ys,ys.Perm xs∧HpF ys 0 ys.length∧HeapM w' base hb A ys c∧Upd (Own (.slice A xs.length c)) w w':=by
 unfold hif
 go_enter Tryz.func197,Tryz.ntmps197
 go_wp2
 go_loopg [1] j (fun gk vj wr=>∃ys,vj= .int .i64 (gk:Int)∧gk<xs.length∧Hid (ys.length=xs.length∧ys.Perm xs∧UpI ys gk)∧HeapM wr base hb A ys c∧Upd (Own (.slice A xs.length c)) w wr)
 case atStart=>exact⟨xs,rfl,hj,Qh ⟨rfl,List.Perm.refl _,hU⟩,h,Upd.refl _ _⟩
 case round=>
  obtain⟨ys,rfl,hg,hY,hH,hu⟩:=hrel;have hm:=hH.mLess;rcases Nat.eq_zero_or_pos gk with rfl|hpos
  ·go_wp2
   go_end0
   exact⟨rfl,ys,hY.out.2.1,ZjF ys 0 hY.out.2.2 (Or.inl rfl),hH,hu⟩
  ·obtain⟨p,hp⟩:∃p,(gk-1)/2=p:=⟨_,rfl⟩;have hq:((gk:Int)-1).tdiv 2=(p:Int):=by rw[Int.tdiv_eq_ediv_of_nonneg (by omega)];omega
   have hpi:(((p:Nat):Int)==(gk:Int))=false:=by rw[beq_eq_false_iff_ne];omega
   have hw:RowKit.wrap64 (p:Int)=(p:Int):=IntWalk.wrap64_in _ (by omega);have hyl:=hY.out.1;have hpl:p<ys.length:=by omega
   have hgl:gk<ys.length:=by omega
   have HL:=Qh (hH.less (by omega) hgl hpl);have HP:=Qh hp;clear hp hpl hyl
   go_wp2_with fail
   obtain⟨b,hb⟩:∃b,decide (ys.getD gk 0<ys.getD p 0)=b:=⟨_,rfl⟩;rw[hb]at HL;have HB:=Qh hb;clear hb;refine Calls.mono HL.out ?_;rintro e w2 ⟨rfl,hH2,hu2⟩;have hm2:=hH2.mSwap;have HY:=Qh hY.out.1;have HS:=Qh (hH2.swap (by have:=HY.out;omega) (i:=p) (j:=gk) (by have:=HP.out;have:=HY.out;omega) hgl)
   cases b with
   |true=>
    go_wp2_with fail
    refine Calls.mono HS.out ?_;rintro e w3 ⟨rfl,hH3,hu3⟩;go_wp2
    trace_state
    go_roundg p
    case measure=>have:=HP.out;omega
    case rel=>
     have hlt:ys.getD gk 0<ys.getD p 0:=of_decide_eq_true HB.out;have hpg:p<gk:=by have:=HP.out;omega
     have hpe:=HP.out;refine⟨Zac ys p gk,rfl,by omega,Qh ⟨by rw[Zax];exact HY.out,(ZbH ys p gk (by omega) hgl).trans hY.out.2.1,?_⟩,hH3,(hu.trans (hu2.mono (fun _ _ e=>e.elim))).trans (hu3.mono (fun _ _ e=> ?_))⟩
     ·rw[←hpe]at hlt ⊢;exact Zmk ys gk hgl hY.out.2.2 hpos hlt
     ·rw[HY.out]at e;exact e
   |false=>
    go_wp2
    go_end0
    exact⟨rfl,ys,hY.out.2.1,ZjF ys gk hY.out.2.2 (Or.inr (by rw[HP.out];have:=of_decide_eq_false HB.out;omega)),hH2,hu.trans (hu2.mono (fun _ _ e=>e.elim))⟩
end
/- Orders:heap.down. -/
section
open Go.RowKit
def ZhL (ys xs:List Int) (n:Nat):Prop:=∀k,n≤k→ys.getD k 0=xs.getD k 0
def Zeu (xs:List Int) (lo n i:Nat):Prop:=
 (∀k,1≤k→k<n→lo≤(k-1)/2→(k-1)/2≠i→xs.getD ((k-1)/2) 0≤xs.getD k 0)∧(∀k,1≤k→k<n→(k-1)/2=i→1≤i→lo≤(i-1)/2→xs.getD ((i-1)/2) 0≤xs.getD k 0)
theorem Zdv (xs:List Int) (lo n i:Nat) (h:Zeu xs lo n i) (hs:∀k,1≤k→k<n→(k-1)/2=i→xs.getD i 0≤xs.getD k 0):HpF xs lo n:=by
 intro k h1 h2 h3
 by_cases e:(k-1)/2=i
 ·rw[e];exact hs k h1 h2 e
 ·exact h.1 k h1 h2 h3 e
theorem Zd6 (xs:List Int) (lo n i j:Nat) (hn:n≤xs.length) (hj:j<n) (h:Zeu xs lo n i) (h1j:1≤j) (hij:(j-1)/2=i) (hlt:xs.getD j 0<xs.getD i 0) (hle:∀k,1≤k→k<n→(k-1)/2=i→xs.getD j 0≤xs.getD k 0):Zeu (Zac xs i j) lo n j:=by
 have hi:i<xs.length:=by omega
 have hjl:j<xs.length:=by omega
 have hne:i≠j:=by omega
 constructor
 ·intro k h1 h2 h3 h4;rw[ZU _ _ _ _ hi hjl,ZU _ _ _ _ hi hjl,if_neg h4]
  by_cases e:k=j
  ·subst e;rw[if_pos hij,if_pos rfl];omega
  ·rw[if_neg e]
   by_cases e2:(k-1)/2=i
   ·have e3:k≠i:=by omega
    rw[if_pos e2,if_neg e3];exact hle k h1 h2 e2
   ·rw[if_neg e2]
    by_cases e3:k=i
    ·subst e3;rw[if_pos rfl];exact h.2 j h1j hj hij h1 h3
    ·rw[if_neg e3];exact h.1 k h1 h2 h3 e2
 ·intro k h1 h2 h3 h4 h5;rw[ZU _ _ _ _ hi hjl,ZU _ _ _ _ hi hjl,hij];have e1:k≠j:=by omega
  have e2:k≠i:=by omega
  rw[if_neg hne,if_pos rfl,if_neg e1,if_neg e2];have:=h.1 k h1 h2 (by omega) (by omega);rw[h3]at this;exact this
set_option maxRecDepth 100000 in
set_option maxHeartbeats 4000000 in
theorem Zl4 (w:World) (base hb:Nat) (A:Option Addr) (xs:List Int) (c:Nat) (lo n:Nat) (hn:n≤xs.length) (hlo:lo≤1000000) (hl:xs.length≤1000000) (h:HeapM w base hb A xs c) (hD:Zeu xs lo n lo):
  Calls Tryz.prog 196 #[hif hb,.int .i64 (lo:Int),.int .i64 (n:Int)] w fun e w'=>∃b ys,e= .returned (.bool b)∧ys.Perm xs∧HpF ys lo n∧ZhL ys xs n∧HeapM w' base hb A ys c∧Upd (Own (.slice A xs.length c)) w w':=by
 unfold hif
 go_enter Tryz.func196,Tryz.ntmps196
 go_wp2
 go_loopg [7] n (fun gk vi wr=>∃i ys,vi= .int .i64 (i:Nat)∧gk+i=lo+n∧lo≤i∧(i=lo∨i<n)∧Hid (ys.length=xs.length∧ys.Perm xs∧Zeu ys lo n i∧ZhL ys xs n)∧HeapM wr base hb A ys c∧Upd (Own (.slice A xs.length c)) w wr)
 case atStart=>exact⟨lo,xs,rfl,by omega,Nat.le_refl _,Or.inl rfl,Qh ⟨rfl,List.Perm.refl _,hD,fun _ _=>rfl⟩,h,Upd.refl _ _⟩
 case round=>
  obtain⟨i,ys,rfl,hgk,hloi,hin,HY,hH,hu⟩:=hrel;obtain⟨p,hp⟩:∃p:Nat,p=2*i+1:=⟨_,rfl⟩;obtain⟨q,hq⟩:∃q:Nat,q=2*i+2:=⟨_,rfl⟩;have ep:Hid ((p:Int)=2*(i:Int)+1):=Qh (by omega);have eq:Hid ((q:Int)=2*(i:Int)+1+1):=Qh (by omega);have i1:(0:Int)≤(i:Int):=Qn _;have i2:(i:Int)≤1000000:=by omega
  have HU:=Qh hu;clear hu
  by_cases hpn:p<n
  ·have c1:2*(i:Int)+1<(n:Int):=by omega
   by_cases hqn:q<n
   ·have c2:2*(i:Int)+1+1<(n:Int):=by omega
    obtain⟨b1,hb1⟩:∃b,decide (ys.getD q 0<ys.getD p 0)=b:=⟨_,rfl⟩;have HL:=Qh (hH.less (by have:=HY.out.1;omega) (i:=q) (j:=p) (by have:=HY.out.1;omega) (by have:=HY.out.1;omega));rw[hb1,ep.out,eq.out]at HL;have HB1:=Qh hb1;have hm:=hH.mLess;clear hb1
    go_wp2_with fail
    refine Calls.mono HL.out ?_;rintro e w2 ⟨rfl,hH2,hu2⟩;have HU2:=Qh (HU.out.trans (show Upd (Own (.slice A xs.length c)) wr w2 from hu2.mono (fun _ _ e=>e.elim)))
    cases b1 with
    |true=>
     have HLE:Hid (∀k,1≤k→k<n→(k-1)/2=i→ys.getD q 0≤ys.getD k 0):=Qh (fun k h1 h2 h3=>by
      have:=of_decide_eq_true HB1.out;rcases(show k=p∨k=q by omega)with rfl|rfl<;>omega)
     obtain⟨b,hb⟩:∃b,decide (ys.getD q 0<ys.getD i 0)=b:=⟨_,rfl⟩;have HL2:=Qh (hH2.less (by have:=HY.out.1;omega) (i:=q) (j:=i) (by have:=HY.out.1;omega) (by have:=HY.out.1;omega));rw[hb,eq.out]at HL2;have HB:=Qh hb;have hm2:=hH2.mLess;clear hb
     go_wp2_with fail
     refine Calls.mono HL2.out ?_;rintro e w3 ⟨rfl,hH3,hu3⟩;have HU3:=Qh (HU2.out.trans (show Upd (Own (.slice A xs.length c)) _ w3 from hu3.mono (fun _ _ e=>e.elim)))
     cases b with
     |false=>
      go_wp2
      go_ret
      exact⟨_,ys,rfl,HY.out.2.1,Zdv ys lo n i HY.out.2.2.1 (fun k h1 h2 h3=>by have a1:=HLE.out k h1 h2 h3;have:=of_decide_eq_false HB.out;omega),HY.out.2.2.2,hH3,HU3.out⟩
     |true=>
      have HS:=Qh (hH3.swap (by have:=HY.out.1;omega) (i:=i) (j:=q) (by have:=HY.out.1;omega) (by have:=HY.out.1;omega));rw[eq.out]at HS;have hm3:=hH3.mSwap
      go_wp2_with fail
      refine Calls.mono HS.out ?_;rintro e w4 ⟨rfl,hH4,hu4⟩;go_wp2
      go_roundg (lo+n-q)
      case measure=>omega
      case rel=>
       have hlt:=of_decide_eq_true HB.out;have hyl:=HY.out.1;refine⟨q,Zac ys i q,by rw[eq.out],by omega,by omega,Or.inr (by omega),Qh ⟨by rw[Zax];exact hyl,(ZbH ys i q (by omega) (by omega)).trans HY.out.2.1,Zd6 ys lo n i q (by omega) (by omega) HY.out.2.2.1 (by omega) (by omega) hlt HLE.out,fun k hk=> ?_⟩,hH4,HU3.out.trans (hu4.mono (fun _ _ e=> ?_))⟩
       ·rw[ZU _ _ _ _ (by omega) (by omega),if_neg (by omega),if_neg (by omega)];exact HY.out.2.2.2 k hk
       ·rw[hyl]at e;exact e
    |false=>
     have HLE:Hid (∀k,1≤k→k<n→(k-1)/2=i→ys.getD p 0≤ys.getD k 0):=Qh (fun k h1 h2 h3=>by
      have:=of_decide_eq_false HB1.out;rcases(show k=p∨k=q by omega)with rfl|rfl<;>omega)
     obtain⟨b,hb⟩:∃b,decide (ys.getD p 0<ys.getD i 0)=b:=⟨_,rfl⟩;have HL2:=Qh (hH2.less (by have:=HY.out.1;omega) (i:=p) (j:=i) (by have:=HY.out.1;omega) (by have:=HY.out.1;omega));rw[hb,ep.out]at HL2;have HB:=Qh hb;have hm2:=hH2.mLess;clear hb
     go_wp2_with fail
     refine Calls.mono HL2.out ?_;rintro e w3 ⟨rfl,hH3,hu3⟩;have HU3:=Qh (HU2.out.trans (show Upd (Own (.slice A xs.length c)) _ w3 from hu3.mono (fun _ _ e=>e.elim)))
     cases b with
     |false=>
      go_wp2
      go_ret
      exact⟨_,ys,rfl,HY.out.2.1,Zdv ys lo n i HY.out.2.2.1 (fun k h1 h2 h3=>by have a1:=HLE.out k h1 h2 h3;have:=of_decide_eq_false HB.out;omega),HY.out.2.2.2,hH3,HU3.out⟩
     |true=>
      have HS:=Qh (hH3.swap (by have:=HY.out.1;omega) (i:=i) (j:=p) (by have:=HY.out.1;omega) (by have:=HY.out.1;omega));rw[ep.out]at HS;have hm3:=hH3.mSwap
      go_wp2_with fail
      refine Calls.mono HS.out ?_;rintro e w4 ⟨rfl,hH4,hu4⟩;go_wp2
      go_roundg (lo+n-p)
      case measure=>omega
      case rel=>
       have hlt:=of_decide_eq_true HB.out;have hyl:=HY.out.1;refine⟨p,Zac ys i p,by rw[ep.out],by omega,by omega,Or.inr (by omega),Qh ⟨by rw[Zax];exact hyl,(ZbH ys i p (by omega) (by omega)).trans HY.out.2.1,Zd6 ys lo n i p (by omega) (by omega) HY.out.2.2.1 (by omega) (by omega) hlt HLE.out,fun k hk=> ?_⟩,hH4,HU3.out.trans (hu4.mono (fun _ _ e=> ?_))⟩
       ·rw[ZU _ _ _ _ (by omega) (by omega),if_neg (by omega),if_neg (by omega)];exact HY.out.2.2.2 k hk
       ·rw[hyl]at e;exact e
   ·have c2:¬2*(i:Int)+1+1<(n:Int):=by omega
    have HLE:Hid (∀k,1≤k→k<n→(k-1)/2=i→ys.getD p 0≤ys.getD k 0):=Qh (fun k h1 h2 h3=>by
     obtain rfl:k=p:=by omega
     omega)
    obtain⟨b,hb⟩:∃b,decide (ys.getD p 0<ys.getD i 0)=b:=⟨_,rfl⟩;have HL2:=Qh (hH.less (by have:=HY.out.1;omega) (i:=p) (j:=i) (by have:=HY.out.1;omega) (by have:=HY.out.1;omega));rw[hb,ep.out]at HL2;have HB:=Qh hb;have hm2:=hH.mLess;clear hb
    go_wp2_with fail
    refine Calls.mono HL2.out ?_;rintro e w3 ⟨rfl,hH3,hu3⟩;have HU3:=Qh (HU.out.trans (show Upd (Own (.slice A xs.length c)) _ w3 from hu3.mono (fun _ _ e=>e.elim)))
    cases b with
    |false=>
     go_wp2
     go_ret
     exact⟨_,ys,rfl,HY.out.2.1,Zdv ys lo n i HY.out.2.2.1 (fun k h1 h2 h3=>by have a1:=HLE.out k h1 h2 h3;have:=of_decide_eq_false HB.out;omega),HY.out.2.2.2,hH3,HU3.out⟩
    |true=>
     have HS:=Qh (hH3.swap (by have:=HY.out.1;omega) (i:=i) (j:=p) (by have:=HY.out.1;omega) (by have:=HY.out.1;omega));rw[ep.out]at HS;have hm3:=hH3.mSwap
     go_wp2_with fail
     refine Calls.mono HS.out ?_;rintro e w4 ⟨rfl,hH4,hu4⟩;go_wp2
     go_roundg (lo+n-p)
     case measure=>omega
     case rel=>
      have hlt:=of_decide_eq_true HB.out;have hyl:=HY.out.1;refine⟨p,Zac ys i p,by rw[ep.out],by omega,by omega,Or.inr (by omega),Qh ⟨by rw[Zax];exact hyl,(ZbH ys i p (by omega) (by omega)).trans HY.out.2.1,Zd6 ys lo n i p (by omega) (by omega) HY.out.2.2.1 (by omega) (by omega) hlt HLE.out,fun k hk=> ?_⟩,hH4,HU3.out.trans (hu4.mono (fun _ _ e=> ?_))⟩
      ·rw[ZU _ _ _ _ (by omega) (by omega),if_neg (by omega),if_neg (by omega)];exact HY.out.2.2.2 k hk
      ·rw[hyl]at e;exact e
  ·have c1:¬2*(i:Int)+1<(n:Int):=by omega
   go_wp2
   go_ret
   refine⟨?_,ys,HY.out.2.1,Zdv ys lo n i HY.out.2.2.1 (fun k h1 h2 h3=>by omega),HY.out.2.2.2,hH,HU.out⟩
   show Ending.returned (.bool (decide (lo<i)))=_∨Ending.returned (.bool (decide (lo<i)))=_
   cases decide (lo<i)<;>simp
end
/- Orders:heap.Init,and the heap's Push and Pop. -/
section
open Go.RowKit
theorem HpF.down {xs:List Int} {lo n:Nat} (h:HpF xs (lo+1) n):Zeu xs lo n lo:=
 ⟨fun k h1 h2 h3 h4=>h k h1 h2 (by omega),fun k h1 h2 h3 h4 h5=>by omega⟩
theorem HpF.half (xs:List Int) (n:Nat):HpF xs (n/2) n:=fun k h1 h2 h3=>by omega
set_option maxRecDepth 100000 in
set_option maxHeartbeats 4000000 in
theorem Zou (w:World) (base hb:Nat) (A:Option Addr) (xs:List Int) (c:Nat) (hl:xs.length≤1000000) (h:HeapM w base hb A xs c):
  Calls Tryz.prog 141 #[hif hb] w fun e w'=>e= .returned (.tuple #[])∧∃ys,ys.Perm xs∧HpF ys 0 ys.length∧HeapM w' base hb A ys c∧Upd (Own (.slice A xs.length c)) w w':=by
 have hm:=h.mLen;obtain⟨p,hp⟩:∃p,xs.length/2=p:=⟨_,rfl⟩;have hq:(xs.length:Int).tdiv 2=(p:Int):=by rw[Int.tdiv_eq_ediv_of_nonneg (by omega)];omega
 have hw:RowKit.wrap64 (p:Int)=(p:Int):=IntWalk.wrap64_in _ (by omega);have HP:=Qh hp;have p2:(p:Int)≤1000000:=by omega
 have p1:(0:Int)≤(p:Int):=Qn _;clear hp;unfold hif
 go_enter Tryz.func141,Tryz.ntmps141
 go_wp2_with fail
 refine Calls.mono (Zfc w A xs.length c) ?_;rintro e w1 ⟨rfl,rfl⟩;go_wp2
 go_loopg [3] p (fun gk vi wr=>∃ys,vi= .int .i64 ((gk:Int)-1)∧gk≤p∧Hid (ys.length=xs.length∧ys.Perm xs∧HpF ys gk xs.length)∧HeapM wr base hb A ys c∧Upd (Own (.slice A xs.length c)) w wr)
 case atStart=>exact⟨xs,rfl,Nat.le_refl _,Qh ⟨rfl,List.Perm.refl _,HP.out▸HpF.half xs xs.length⟩,h,Upd.refl _ _⟩
 case round=>
  obtain⟨ys,rfl,hg,HY,hH,hu⟩:=hrel;have HU:=Qh hu;clear hu
  cases gk with
  |zero=>
   go_wp2
   go_end0
   exact⟨rfl,ys,HY.out.2.1,by rw[HY.out.1];exact HY.out.2.2,hH,HU.out⟩
  |succ g1=>
   have HC:=Qh (Zl4 wr base hb A ys c g1 xs.length (by have:=HY.out.1;omega) (by omega) (by have:=HY.out.1;omega) hH HY.out.2.2.down);have g0:(0:Int)≤(g1:Int):=Qn _;have g2:(((g1+1:Nat):Int)-1)=(g1:Int):=by omega
   have g3:(g1:Int)≤1000000:=by omega
   rw[g2];clear g2;unfold hif at HC
   go_wp2_with fail
   refine Calls.mono HC.out ?_;rintro e w2 ⟨b,zs,rfl,z1,z2,z3,hH2,hu2⟩;have HZ:=Qh (And.intro z1 z2);clear z1 z2 z3;go_wp2
   go_roundg g1
   case measure=>omega
   case rel=>
    have hyl:=HY.out.1;refine⟨zs,rfl,by omega,Qh ⟨HZ.out.1.length_eq.trans hyl,HZ.out.1.trans HY.out.2.1,HZ.out.2⟩,hH2,HU.out.trans (hu2.mono (fun _ _ e=> ?_))⟩;rw[hyl]at e;exact e
theorem Znd (x:Int) (t:Nat) (w:World):(Instr.typeAssert (.iface 3 (.int .i64 x)) t 3 true).run Tryz.prog w= .ok (.tuple #[.int .i64 x,.bool true]) w:=by kernel_rfl
set_option maxRecDepth 100000 in
set_option maxHeartbeats 4000000 in
theorem Zns (w:World) (base hb:Nat) (A:Option Addr) (xs:List Int) (c:Nat) (x:Int) (hl:xs.length≤1000000) (hbs:base≤w.heap.size) (h:HeapM w base hb A xs c):
  Calls Tryz.prog 307 #[.pointer (some ⟨hb,0,none⟩),.iface 3 (.int .i64 x)] w fun e w'=>e= .returned (.tuple #[])∧∃A' c',HeapM w' base hb A' (xs++[x]) c'∧Grew w (.slice A xs.length c) (.slice A' (xs++[x]).length c')∧Upd (fun i=>i=hb∨Own (.slice A xs.length c) i) w w':=by
 have hc:=h.cell;have ht:=fun t=>Znd x t w
 have HH:=Qh h;have hsz:hb<w.heap.size:=by have:=h.1;unfold Blk at this;exact(Array.getElem?_eq_some_iff.1 this).1
 clear h
 go_enter Tryz.func307,Tryz.ntmps307
 go_wp2_with (at_builtin;refine ZnU rfl rfl Zf7 (base:=base) (v:= .slice A xs.length c) (n:=xs.length) (xs:=xs.map (Value.int .i64)) (cells:=[.int .i64 x]) rfl rfl HH.out.2.1 rfl rfl (by omega) (by omega) hbs ?_;intro v9 w9 hown9 hu9 hg9;obtain⟨A9,c9,rfl⟩:=ZaM hown9;have hb9:=HH.out.1.upd hu9 HH.out.2.2;have hc9:=hb9.cell 0;have f9:=hb9.free 0;simp only[Qz]at hc9;have HO9:=Qh hown9;have HU9:=Qh hu9;have HG9:=Qh hg9;have HB9:=Qh hb9;clear hown9 hu9 hg9 hb9)
 go_end0
 have hl1:(xs++[x]).length=xs.length+1:=by simp
 have hN:¬Own (.slice A9 (xs.length+1) c9) hb:=by
  intro e;rcases HG9.out with h1|⟨k,h1,h2⟩
  ·exact HH.out.2.2 (show _=some hb by rw[←h1];exact e)
  ·unfold Own at e;rw[h1]at e
   cases e
   omega
 have hu:Upd (One hb) w9 (w9.setCell ⟨hb,0,none⟩ (.slice A9 (xs.length+1) c9)):=(Upd.refl (One hb) w9).setOne 0 _;refine⟨rfl,A9,c9,⟨?_,?_,?_⟩,?_,(HU9.out.mono (fun _ _ e=>Or.inr e)).trans (hu.mono (fun _ _ e=>Or.inl e))⟩
 ·rw[hl1];simpa using HB9.out.set_ 0 (.slice A9 (xs.length+1) c9)
 ·rw[hl1,List.map_append];exact Zb HO9.out hu (fun i e1 e2=>hN (by unfold One at e2;subst e2;exact e1))
 ·rw[hl1];exact hN
 ·rw[hl1];exact HG9.out
set_option maxRecDepth 100000 in
set_option maxHeartbeats 4000000 in
theorem Zof (w:World) (base hb:Nat) (A:Option Addr) (xs:List Int) (c:Nat) (x:Int) (hl:xs.length≤1000000) (h:HeapM w base hb A (xs++[x]) c):
  Calls Tryz.prog 306 #[.pointer (some ⟨hb,0,none⟩)] w fun e w'=>e= .returned (.iface 3 (.int .i64 x))∧HeapM w' base hb A xs c∧Upd (One hb) w w':=by
 have hc:=h.cell;obtain⟨g,cur,rfl,hgb,hB,hnc,hcl,hct,hcm⟩:=ZfM h.2.1 (by simp);have hlen:(xs++[x]).length=xs.length+1:=by simp
 rw[hlen]at hc
 have c0:w.cell? ⟨g,xs.length,none⟩=some (.int .i64 x):=by
  rw[hB.cell];have h1:(cur.take ((xs++[x]).length*1))[xs.length]? =some (.int .i64 x):=by rw[hct];simp
  rw[List.getElem?_take]at h1
  split at h1
  ·exact h1
  ·cases h1
 have n1:(0:Int)≤(xs.length:Int):=Qn _;have n2:(xs.length:Int)≤1000000:=by omega
 have n3:(xs.length:Int)≤(c:Int):=by omega
 have f0:=h.1.free 0;have HB:=Qh hB;have HH:=Qh h;have HCL:=Qh hcl;have HCT:=Qh hct;have HHC:=Qh hnc;clear hB hcl hct h hlen hnc
 go_enter Tryz.func306,Tryz.ntmps306
 go_wp2
 go_ret
 have hh:=HH.out;have hng:g≠hb:=fun e=>hh.2.2 (by subst e;rfl)
 have hnc:=HHC.out;rw[List.length_append,List.length_singleton]at hnc;have hu:Upd (One hb) w (w.setCell ⟨hb,0,none⟩ (.slice (some ⟨g,0,none⟩) xs.length c)):=(Upd.refl (One hb) w).setOne 0 _;refine⟨rfl,⟨by simpa using hh.1.set_ 0 (.slice (some ⟨g,0,none⟩) xs.length c),Zdf (HB.out.upd hu hng) hgb (by omega) HCL.out ?_ hcm (by simp),fun e=>hh.2.2 e⟩,hu⟩;have h1:=congrArg (List.take xs.length) HCT.out;rw[List.take_take,List.length_append,List.length_singleton,Nat.min_eq_left (by omega)]at h1;rw[Nat.mul_one,h1];simp
end
/- Orders:heap.Push and heap.Pop. -/
section
open Go.RowKit
theorem HpF.least {xs:List Int} (h:HpF xs 0 xs.length):∀k,k<xs.length→xs.getD 0 0≤xs.getD k 0:=by
 intro k
 induction k using Nat.strongRecOn with
 |_ k ih=>
  intro hk
  cases k with
  |zero=>exact Int.le_refl _
  |succ j=>
   have h1:=h (j+1) (by omega) hk (by omega);have h2:=ih ((j+1-1)/2) (by omega) (by omega);omega
theorem HpF.upI {xs:List Int} (x:Int) (h:HpF xs 0 xs.length):UpI (xs++[x]) xs.length:=by
 constructor
 ·intro k h1 h2 h3;rw[List.length_append,List.length_singleton]at h2;have h4:=h k h1 (by omega) (by omega);have e1:(k-1)/2<xs.length:=by omega
  have e2:k<xs.length:=by omega
  simp only[List.getD_eq_getElem?_getD,List.getElem?_append_left e1,List.getElem?_append_left e2]
  simpa only[List.getD_eq_getElem?_getD]using h4
 ·intro k h1 h2 h3 h4;rw[List.length_append,List.length_singleton]at h2;omega
theorem HpF.swapped {xs:List Int} {n:Nat} (h:HpF xs 0 xs.length) (hn:n<xs.length):HpF (Zac xs 0 n) 1 n:=by
 intro k h1 h2 h3;rw[ZU _ _ _ _ (by omega) hn,ZU _ _ _ _ (by omega) hn,if_neg (by omega),if_neg (by omega),if_neg (by omega),if_neg (by omega)];exact h k h1 (by omega) (by omega)
theorem ZiZ (zs:List Int) (n:Nat) (hz:zs.length=n+1):zs=zs.take n++[zs.getD n 0]:=by
 have h1:zs.getD n 0=zs[n]'(by omega):=by rw[List.getD_eq_getElem?_getD,Qg (by omega)];rfl
 have h2:=List.take_succ_eq_append_getElem (l:=zs) (i:=n) (by omega);rw[List.take_of_length_le (by omega)]at h2;rw[h1];exact h2
theorem HpF.take {zs:List Int} {n:Nat} (h:HpF zs 0 n):HpF (zs.take n) 0 n:=by
 intro k h1 h2 h3;have h4:=h k h1 h2 h3;have e1:(k-1)/2<n:=by omega
 simp only[List.getD_eq_getElem?_getD,List.getElem?_take_of_lt e1,List.getElem?_take_of_lt h2]
 simpa only[List.getD_eq_getElem?_getD]using h4
set_option maxRecDepth 100000 in
set_option maxHeartbeats 4000000 in
theorem Zot (w:World) (base hb:Nat) (A:Option Addr) (xs:List Int) (c:Nat) (x:Int) (hl:xs.length≤100000) (hbs:base≤w.heap.size) (h:HeapM w base hb A xs c) (hp:HpF xs 0 xs.length):
  Calls Tryz.prog 144 #[hif hb,.iface 3 (.int .i64 x)] w fun e w'=>e= .returned (.tuple #[])∧∃A' c' ys,ys.Perm (xs++[x])∧HpF ys 0 ys.length∧HeapM w' base hb A' ys c'∧Grew w (.slice A xs.length c) (.slice A' ys.length c')∧Upd (fun i=>i=hb∨Own (.slice A xs.length c) i) w w':=by
 have hm:=ZnK (some ⟨hb,0,none⟩) w;have HC:=Qh (Zns w base hb A xs c x (by omega) hbs h);have HU:=Qh hup;have HP:=Qh hp;have hl1:(xs++[x]).length=xs.length+1:=by simp
 have HL1:=Qh hl1;clear h hp;unfold hif
 go_enter Tryz.func144,Tryz.ntmps144
 go_wp2_with fail
 refine Calls.mono HC.out ?_;rintro e w1 ⟨rfl,A1,c1,h1,hg1,hu1⟩;have hm1:=h1.mLen;have HG1:=Qh hg1;have HL:=Qh (Zfc w1 A1 (xs++[x]).length c1);rw[hl1]at hm1 HL;have H1:=Qh h1;clear hg1 h1 hl1
 go_wp2_with fail
 refine Calls.mono HL.out ?_;rintro e w2 ⟨rfl,rfl⟩
 go_wp2_with fail
 refine Calls.mono (HU.out w1 base hb A1 (xs++[x]) c1 xs.length (by rw[HL1.out];omega) (by rw[HL1.out];omega) H1.out (HP.out.upI x)) ?_;rintro e w3 ⟨rfl,ys,y1,y2,y3,hu3⟩;have HY2:=Qh y2;have HY1:=Qh y1;clear y1 y2;go_wp2
 go_end0
 refine⟨rfl,A1,c1,ys,HY1.out,HY2.out,y3,?_,hu1.then_ hu3 ?_⟩
 ·rw[HY1.out.length_eq];exact HG1.out
 ·intro i hi;rcases HG1.out with h2|⟨k,h2,h3⟩
  ·exact Or.inl (Or.inr (show _=some i by rw[←h2];exact hi))
  ·unfold Own at hi;rw[h2]at hi
   cases hi
   exact Or.inr h3
set_option maxRecDepth 100000 in
set_option maxHeartbeats 4000000 in
theorem Zo9 (w:World) (base hb:Nat) (A:Option Addr) (xs:List Int) (c:Nat) (n:Nat) (hn:xs.length=n+1) (hl:xs.length≤100000) (m:Int) (hm0:xs.getD 0 0=m) (h:HeapM w base hb A xs c) (hp:HpF xs 0 xs.length):
  Calls Tryz.prog 143 #[hif hb] w fun e w'=>e= .returned (.iface 3 (.int .i64 m))∧∃ys,(ys++[m]).Perm xs∧HpF ys 0 ys.length∧HeapM w' base hb A ys c∧Upd (fun i=>i=hb∨Own (.slice A xs.length c) i) w w':=by
 have hm:=h.mLen;have HL:=Qh (Zfc w A xs.length c);rw[hn]at HL hm;have hms:=h.mSwap;have HS:=Qh (h.swap (by omega) (i:=0) (j:=n) (by omega) (by omega));have HD:=Qh Zl4;have HR:=Qh Zof;have HP:=Qh hp;have HN:=Qh hn;have HM:=Qh hm0;rw[hn]at HS hms;clear h hp hm0;unfold hif at HD ⊢
 go_enter Tryz.func143,Tryz.ntmps143
 go_wp2_with fail
 refine Calls.mono HL.out ?_;rintro e w2 ⟨rfl,rfl⟩
 go_wp2_with fail
 refine Calls.mono HS.out ?_;rintro e w3 ⟨rfl,h3,hu3⟩;have hll:(Zac xs 0 n).length=n+1:=by rw[Zax];exact hn
 have HLL:=Qh hll;have H3:=Qh h3;have HU3:=Qh hu3;clear hll h3 hu3
 go_wp2_with fail
 refine Calls.mono (HD.out w3 base hb A (Zac xs 0 n) c 0 n (by rw[HLL.out];omega) (by omega) (by rw[HLL.out];omega) H3.out (HP.out.swapped (by omega)).down) ?_;rintro e w4 ⟨b,zs,rfl,z1,z2,z3,h4,hu4⟩;have hzl:zs.length=n+1:=z1.length_eq.trans HLL.out;have hzs:=ZiZ zs n hzl;have hzn:zs.getD n 0=xs.getD 0 0:=by rw[z3 n (Nat.le_refl _),ZU _ _ _ _ (by omega) (by omega),if_pos rfl]
 rw[hzn,HM.out]at hzs;have H4:=Qh (hzs▸h4);have hmp:=Zoq (some ⟨hb,0,none⟩) w4;have HU4:=Qh hu4;have HZ:=Qh (And.intro z1 (And.intro z2 (And.intro hzs hzl)));have htl:(zs.take n).length=n:=by rw[List.length_take];omega
 have HTL:=Qh htl;clear z1 z2 z3 hzl hzs hzn h4 hu4 htl
 go_wp2_with fail
 refine Calls.mono (HR.out w4 base hb A (zs.take n) c m (by rw[HTL.out];omega) H4.out) ?_;rintro e w5 ⟨rfl,h5,hu5⟩;go_wp2
 go_ret
 obtain⟨z1,z2,z3,z4⟩:=HZ.out;have hperm:(zs.take n++[m]).Perm xs:=by rw[←z3];exact z1.trans (ZbH xs 0 n (by omega) (by omega))
 have hsl:=Zax xs 0 n;refine⟨rfl,zs.take n,hperm,by rw[HTL.out];exact z2.take,h5,?_⟩;refine Upd.trans ?_ (hu5.mono (fun _ _ e=>Or.inl e));refine Upd.trans (HU3.out.mono (fun _ _ e=>Or.inr ?_)) (HU4.out.mono (fun _ _ e=>Or.inr ?_))
 ·rw[HN.out];exact e
 ·rw[hsl]at e;exact e
end
end Go.Proofs.YtonblekdfinpkaaGreat
