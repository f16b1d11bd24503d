/- Digraphs: a row of ends put in another's place. -/
import Derived.Test.YtfcefnpnomlgbaaMax
namespace Go.Proofs.Ytfcefnpnomlgbaa
set_option linter.unusedSimpArgs false
set_option linter.unusedVariables false
open Go.RowKit
theorem ZbR {P:Program} {ops:Array Oper} {o:Oper} {a:Act} {W:World} {K:Act→World→Prop} {Q:Exit→Act→World→Prop} {E:Prop} (hgd:o.guard=none) {ty:TypeId} {x y:Operand} (ho:o.op= .store ty x y)
  {g i:Nat} {t:TypeId} {old:List Value} {A:Option Addr} {n c:Nat} (hx:a.eval x= .pointer (some ⟨g,i,none⟩)) (hy:a.eval y= .slice A n c) (hb:Blk W g t old) (hi:(P.info? ty).map (·.size)=some 1) (hlt:i<old.length)
  (h:∀w',Blk w' g t (old.set i (.slice A n c))→Upd (One g) W w'→K (a.put o.dst undef) w'):if Region.wanted o (yielded ops a.tmps)=true then Oper.wp P o a W K Q else E:=by
 rw[if_pos (by simp[Region.wanted,hgd])]
 have hst:=run_storeCells_at P g i t [.slice A n c] 0 old.toArray W hb (by simp;omega) (by simp[Value.oneCell'])
 have he:old.take i++[.slice A n c]++old.drop (i+1)=old.set i (.slice A n c):=by
  rw[List.set_eq_take_append_cons_drop,if_pos hlt];simp
 simp only[Nat.add_zero,List.length_cons,List.length_nil,Nat.zero_add,he]at hst
 cases hq:P.info? ty with
 |none=>simp[hq]at hi
 |some z=>
  have hs:z.size=1:=by simpa[hq]using hi
  have hrun:(storeVar ty ⟨g,i,none⟩ (.slice A n c)).run P W= .ok () (W.setRow g (old.set i (.slice A n c)).toArray):=by
   simp[storeVar,sizeOf,typeInfo,hq,Value.cells,hs,hst]
  unfold Oper.wp execOp
  simp only[ho,hx,hy,Instr.storeAt,Instr.sureAddr,Sem.run_bind,Sem.run_pure,Result.andThen_ok,hrun]
  exact h _ (Zbp hb) (Zbd _ _)
theorem RowsD.set {w w':World} {base:Nat} {hs:List Value} {ls:List (List DEnd)} (h:RowsD w base hs ls) (hA:ApartD hs) {i:Nat} (hi:i<ls.length) {v:Value} (hv:hs[i]? =some v) {S:Nat→Prop} (hu:Upd S w w')
  (hS:∀(j:Nat) u k,hs[j]? =some u→j≠i→Own u k→¬S k) {l:List DEnd} {A:Option Addr} {c:Nat} (hn:w'.ownsRow base 72 3 (.slice A l.length c) l.length (l.map DEnd.cells).flatten):
  RowsD w' base (hs.set i (.slice A l.length c)) (ls.set i l):=by
 refine⟨by simpa using h.1,fun j hj=> ?_⟩
 have hj':j<ls.length:=by simpa using hj
 by_cases e:j=i
 ·subst e
  refine⟨A,c,?_,?_⟩
  ·rw[List.getElem?_set_self (by rw[h.1];exact hi)];simp
  ·simpa using hn
 ·obtain⟨B,d,h1,h2⟩:=h.2 j hj'
  have hl:(ls.set i l)[j]=ls[j]:=by rw[List.getElem_set_ne (fun x=>e x.symm)]
  rw[hl]
  refine⟨B,d,?_,Zb h2 hu (fun k hk=>hS j _ k h1 e hk)⟩
  rw[List.getElem?_set_ne (fun x=>e x.symm)];exact h1
theorem ApartD.set {hs:List Value} (h:ApartD hs) {N i:Nat} {v u:Value} (hv:hs[i]? =some v) (hlt:∀x∈hs,∀k,Own x k→k<N) (hu:∀k,Own u k→Own v k∨N≤k):ApartD (hs.set i u):=by
 intro a b x y k ha hb hab hx hy
 have hil:=(List.getElem?_eq_some_iff.1 hv).1
 have mem:∀{j:Nat} {z:Value},hs[j]? =some z→z∈hs:=fun e=>List.mem_of_getElem? e
 by_cases e1:a=i
 ·subst e1
  rw[List.getElem?_set_self hil]at ha
  rw[List.getElem?_set_ne hab]at hb
  cases ha
  rcases hu k hx with h1|h1
  ·exact h _ _ _ _ _ hv hb hab h1 hy
  ·have:=hlt _ (mem hb) _ hy;omega
 ·rw[List.getElem?_set_ne (fun x=>e1 x.symm)]at ha
  by_cases e2:b=i
  ·subst e2
   rw[List.getElem?_set_self hil]at hb
   cases hb
   rcases hu k hy with h1|h1
   ·exact h _ _ _ _ _ ha hv hab hx h1
   ·have:=hlt _ (mem ha) _ hx;omega
  ·rw[List.getElem?_set_ne (fun x=>e2 x.symm)]at hb
   exact h _ _ _ _ _ ha hb hab hx hy
def GG (w w':World) (G:Nat→Prop):Nat→Prop:=fun k=>G k∨(w.heap.size≤k∧k<w'.heap.size)
theorem Grew.own {w:World} {v u:Value} (h:Grew w v u):∀k,Own u k→Own v k∨w.heap.size≤k:=by
 intro k hk
 unfold Own at*
 rcases h with h|⟨j,h1,h2⟩
 ·left;rw[←h];exact hk
 ·right;rw[h1]at hk;cases hk;exact h2
section
variable {w w':World} {G:Nat→Prop} {g:Nat} {out inn:List (List DEnd)} {n:Int} {ob ib:Nat} {oh ih:List Value} {base:Nat}
theorem GIs.rowO (h:GIs w G g out inn n ob ib oh ih base) {i:Nat} {l':List DEnd} {v:Value} {A4:Option Addr} {c4:Nat} (hi:i<out.length) (hv:oh[i]? =some v)
  (hu:Upd (fun k=>Own v k∨k=ob) w w') (hB:Blk w' ob 66 (oh.set i (.slice A4 l'.length c4))) (ho:w'.ownsRow base 72 3 (.slice A4 l'.length c4) l'.length (l'.map DEnd.cells).flatten)
  (hg:Grew w v (.slice A4 l'.length c4)) (hf:l'.length≤100000):GIs w' (GG w w' G) g (out.set i l') inn n ob ib (oh.set i (.slice A4 l'.length c4)) ih base:=by
 have hlow:∀x∈oh++ih,∀k,Own x k→base≤k:=by
  intro x hx k hk
  rcases List.mem_append.1 hx with hx|hx
  ·obtain⟨j,hj,rfl⟩:=List.getElem_of_mem hx
   obtain⟨B,d,h1,h2⟩:=h.ro.2 j (by rw[←h.ro.1];exact hj)
   rw[List.getElem?_eq_getElem hj]at h1
   rw[Option.some.inj h1]at hk
   exact(h2.lt _ hk).1
  ·obtain⟨j,hj,rfl⟩:=List.getElem_of_mem hx
   obtain⟨B,d,h1,h2⟩:=h.ri.2 j (by rw[←h.ri.1];exact hj)
   rw[List.getElem?_eq_getElem hj]at h1
   rw[Option.some.inj h1]at hk
   exact(h2.lt _ hk).1
 have hl:=h.low
 have hvg:Own v g→False:=fun e=>by have:=hlow v (List.mem_append_left _ (List.mem_of_getElem? hv)) g e;omega
 have hvi:Own v ib→False:=fun e=>by have:=hlow v (List.mem_append_left _ (List.mem_of_getElem? hv)) ib e;omega
 have hset:(oh.set i (.slice A4 l'.length c4))++ih=(oh++ih).set i (.slice A4 l'.length c4):=by
  rw[List.set_append_left];rw[h.ro.1];exact hi
 have hva:(oh++ih)[i]? =some v:=by rw[List.getElem?_append_left (by rw[h.ro.1];exact hi)];exact hv
 have hold:∀x∈oh++ih,∀k,Own x k→k<w.heap.size:=fun x hx k hk=>h.old k (h.inG.2.2.2 x hx k hk)
 constructor
 case blk=>simpa using h.blk.upd hu (fun e=>e.elim hvg h.ne.1)
 case ob_=>exact hB
 case ib_=>exact h.ib_.upd hu (fun e=>e.elim hvi (fun e=>h.ne.2.2 e.symm))
 case len=>simpa using h.len
 case ro=>
  refine h.ro.set (fun a b x y k ha hb=>h.dis a b x y k ?_ ?_) hi hv hu ?_ ho
  ·rw[List.getElem?_append_left (List.getElem?_eq_some_iff.1 ha).1];exact ha
  ·rw[List.getElem?_append_left (List.getElem?_eq_some_iff.1 hb).1];exact hb
  ·rintro j u k hj hne hk (e|e)
   ·exact h.dis j i u v k (by rw[List.getElem?_append_left (List.getElem?_eq_some_iff.1 hj).1];exact hj) hva hne hk e
   ·have:=hlow u (List.mem_append_left _ (List.mem_of_getElem? hj)) k hk;omega
 case ri=>
  refine h.ri.upd hu ?_
  rintro u hx k hk (e|e)
  ·obtain⟨j,hj,rfl⟩:=List.getElem_of_mem hx
   refine h.dis (oh.length+j) i _ v k (by rw[List.getElem?_append_right (by omega)];simp[hj]) hva (by rw[h.ro.1];omega) hk e
  ·have:=hlow u (List.mem_append_right _ hx) k hk;omega
 case dis=>rw[hset];exact h.dis.set hva hold hg.own
 case low=>exact h.low
 case ne=>exact h.ne
 case inG=>
  refine⟨.inl h.inG.1,.inl h.inG.2.1,.inl h.inG.2.2.1,?_⟩
  rw[hset]
  intro x hx k hk
  rcases List.mem_or_eq_of_mem_set hx with hx|rfl
  ·exact .inl (h.inG.2.2.2 x hx k hk)
  ·rcases hg.own k hk with e|e
   ·exact .inl (h.inG.2.2.2 v (List.mem_of_getElem? hva) k e)
   ·exact .inr ⟨e,(ho.lt _ hk).2⟩
 case old=>
  rintro k (hk|hk)
  ·exact Nat.lt_of_lt_of_le (h.old k hk) hu.size
  ·exact hk.2
 case few=>
  refine⟨by simpa using h.few.1,fun x hx=> ?_,h.few.2.2⟩
  rcases List.mem_or_eq_of_mem_set hx with hx|rfl
  ·exact h.few.2.1 x hx
  ·exact hf
theorem GIs.rowI (h:GIs w G g out inn n ob ib oh ih base) {i:Nat} {l':List DEnd} {v:Value} {A4:Option Addr} {c4:Nat} (hi:i<inn.length) (hv:ih[i]? =some v)
  (hu:Upd (fun k=>Own v k∨k=ib) w w') (hB:Blk w' ib 66 (ih.set i (.slice A4 l'.length c4))) (ho:w'.ownsRow base 72 3 (.slice A4 l'.length c4) l'.length (l'.map DEnd.cells).flatten)
  (hg:Grew w v (.slice A4 l'.length c4)) (hf:l'.length≤100000):GIs w' (GG w w' G) g out (inn.set i l') n ob ib oh (ih.set i (.slice A4 l'.length c4)) base:=by
 have hlow:∀x∈oh++ih,∀k,Own x k→base≤k:=by
  intro x hx k hk
  rcases List.mem_append.1 hx with hx|hx
  ·obtain⟨j,hj,rfl⟩:=List.getElem_of_mem hx
   obtain⟨B,d,h1,h2⟩:=h.ro.2 j (by rw[←h.ro.1];exact hj)
   rw[List.getElem?_eq_getElem hj]at h1
   rw[Option.some.inj h1]at hk
   exact(h2.lt _ hk).1
  ·obtain⟨j,hj,rfl⟩:=List.getElem_of_mem hx
   obtain⟨B,d,h1,h2⟩:=h.ri.2 j (by rw[←h.ri.1];exact hj)
   rw[List.getElem?_eq_getElem hj]at h1
   rw[Option.some.inj h1]at hk
   exact(h2.lt _ hk).1
 have hl:=h.low
 have hvg:Own v g→False:=fun e=>by have:=hlow v (List.mem_append_right _ (List.mem_of_getElem? hv)) g e;omega
 have hvi:Own v ob→False:=fun e=>by have:=hlow v (List.mem_append_right _ (List.mem_of_getElem? hv)) ob e;omega
 have hset:oh++(ih.set i (.slice A4 l'.length c4))=(oh++ih).set (oh.length+i) (.slice A4 l'.length c4):=by
  rw[List.set_append_right _ _ (by omega)];simp
 have hva:(oh++ih)[oh.length+i]? =some v:=by rw[List.getElem?_append_right (by omega)];simpa using hv
 have hold:∀x∈oh++ih,∀k,Own x k→k<w.heap.size:=fun x hx k hk=>h.old k (h.inG.2.2.2 x hx k hk)
 constructor
 case blk=>simpa using h.blk.upd hu (fun e=>e.elim hvg h.ne.2.1)
 case ob_=>exact h.ob_.upd hu (fun e=>e.elim hvi h.ne.2.2)
 case ib_=>exact hB
 case len=>simpa using h.len
 case ri=>
  refine h.ri.set (fun a b x y k ha hb hab=>h.dis (oh.length+a) (oh.length+b) x y k ?_ ?_ (by omega)) hi hv hu ?_ ho
  ·rw[List.getElem?_append_right (by omega)];simpa using ha
  ·rw[List.getElem?_append_right (by omega)];simpa using hb
  ·rintro j u k hj hne hk (e|e)
   ·exact h.dis (oh.length+j) (oh.length+i) u v k (by rw[List.getElem?_append_right (by omega)];simpa using hj) hva (by omega) hk e
   ·have:=hlow u (List.mem_append_right _ (List.mem_of_getElem? hj)) k hk;omega
 case ro=>
  refine h.ro.upd hu ?_
  rintro u hx k hk (e|e)
  ·obtain⟨j,hj,rfl⟩:=List.getElem_of_mem hx
   refine h.dis j (oh.length+i) _ v k (by rw[List.getElem?_append_left hj];simp[hj]) hva (by omega) hk e
  ·have:=hlow u (List.mem_append_left _ hx) k hk;omega
 case dis=>rw[hset];exact h.dis.set hva hold hg.own
 case low=>exact h.low
 case ne=>exact h.ne
 case inG=>
  refine⟨.inl h.inG.1,.inl h.inG.2.1,.inl h.inG.2.2.1,?_⟩
  rw[hset]
  intro x hx k hk
  rcases List.mem_or_eq_of_mem_set hx with hx|rfl
  ·exact .inl (h.inG.2.2.2 x hx k hk)
  ·rcases hg.own k hk with e|e
   ·exact .inl (h.inG.2.2.2 v (List.mem_of_getElem? hva) k e)
   ·exact .inr ⟨e,(ho.lt _ hk).2⟩
 case old=>
  rintro k (hk|hk)
  ·exact Nat.lt_of_lt_of_le (h.old k hk) hu.size
  ·exact hk.2
 case few=>
  refine⟨h.few.1,h.few.2.1,fun x hx=> ?_⟩
  rcases List.mem_or_eq_of_mem_set hx with hx|rfl
  ·exact h.few.2.2 x hx
  ·exact hf
end
end Go.Proofs.Ytfcefnpnomlgbaa
