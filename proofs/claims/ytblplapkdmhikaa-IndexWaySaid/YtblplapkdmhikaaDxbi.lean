/- Maps whose entries go again; maps of slices of numbers, each slice in a block of its own. -/
import Derived.Test.YtblplapkdmhikaaDxaq
import Derived.Test.YtblplapkdmhikaaDxar
import Derived.Test.YtblplapkdmhikaaDxbc
namespace Go.Proofs.Ytblplapkdmhikaa
set_option linter.unusedVariables false
set_option linter.unusedSimpArgs false
section
open Go.RowKit
section
variable {α:Type} [DecidableEq α]
theorem ZcR (a:α):∀(m:List (α×Value)) (i j:Nat),(Zg a m i).map (·.2)=(Zg a m j).map (·.2)
 |[],_,_=>rfl
 |p::m,i,j=>by
  unfold Zg
  by_cases h:a=p.1
  ·rw[if_pos h,if_pos h];rfl
  ·rw[if_neg h,if_neg h];exact ZcR a m _ _
theorem Zcn (a b:α):∀(m:List (α×Value)) (i:Nat) (r:Nat×Value),(m.map (·.1)).Nodup→Zg a m i=some r→
  (Zg b (m.eraseIdx (r.1-i)) i).map (·.2)=if b=a then none else (Zg b m i).map (·.2)
 |[],i,r,_,h=>by simp[Zg]at h
 |p::m,i,r,hn,h=>by
  rw[List.map_cons,List.nodup_cons]at hn;unfold Zg at h
  split at h
  ·rename_i hab
   cases h
   simp only[Nat.sub_self,List.eraseIdx_zero,List.tail_cons]
   by_cases hb:b=a
   ·rw[if_pos hb];have:Zg b m i=none:=(ZaC b m i).2 (by rw[hb,hab];exact hn.1);rw[this];rfl
   ·rw[if_neg hb]
    conv=>rhs;unfold Zg
    rw[if_neg (by rw[←hab];exact hb)];exact ZcR b m _ _
  ·rename_i hne
   have h1:=(ZaQ a m (i+1) r h).1;have ih:=Zcn a b m (i+1) r hn.2 h;rw[show r.1-i=(r.1-(i+1))+1 by omega,List.eraseIdx_cons_succ];unfold Zg
   by_cases hbp:b=p.1
   ·rw[if_pos hbp,if_pos hbp,if_neg (by rw[hbp];exact fun e=>hne e.symm)]
   ·rw[if_neg hbp,if_neg hbp];exact ih
theorem Za8 {m:List (α×Value)} (hn:(m.map (·.1)).Nodup) (a b:α):Zm (Z3 m a) b=if b=a then none else Zm m b:=by
 unfold Z3
 cases h:Zg a m 0 with
 |none=>
  simp only
  by_cases e:b=a
  ·rw[if_pos e];exact(Za6 m b).2 (by rw[e];exact(ZaC a m 0).1 h)
  ·rw[if_neg e]
 |some r=>
  simp only;have:=Zcn a b m 0 r hn h;rw[Nat.sub_zero]at this;exact this
theorem Zfw (m:List (α×Value)) (a:α):(Z3 m a).Sublist m:=by
 unfold Z3
 split
 ·exact List.eraseIdx_sublist _ _
 ·exact List.Sublist.refl _
theorem ZcA {m:List (α×Value)} (hn:(m.map (·.1)).Nodup) (a:α):((Z3 m a).map (·.1)).Nodup:=hn.sublist ((Zfw m a).map _)
end
section
variable {α:Type} [DecidableEq α] {P:Program} {w w':World} {b:Nat} {enc:α→Value} {m:List (α×Value)} {S:Nat→Prop} {t kt et:TypeId}
theorem Zdj (K:KeyBy P kt enc) (ht:P.underlying t=some (.map kt et)) (h:MapE w b enc m) (a:α) (kt' ty:TypeId):
  ∃w',(Builtin.delete_ #[t,kt'] ty #[.map (some b),enc a]).run P w= .ok (.tuple #[]) w'∧MapE w' b enc (Z3 m a)∧Upd (One b) w w':=by
 have hl:=h.lt;obtain⟨es,c,hb,he,hbo,hnd⟩:=h
 cases hlk:Zg a m 0 with
 |none=>
  refine⟨{w with heap:=w.heap.setIfInBounds b (.map es c)},?_,⟨es,c,?_,?_,hbo,hnd⟩,ZE w b _⟩
  ·simp[Builtin.delete_,run_underlying ht,Result.andThen,run_getObj_map w b es c hb,K.check,K.find w a _ _ he,hlk,Go.MapKept.run_setObj_map _ hb]
  ·show(w.heap.setIfInBounds b _)[b]? =_
   simp[hl]
  ·simp[Z3,hlk,he]
 |some r=>
  have hsub:(es.eraseIdxIfInBounds r.1).toList.Sublist es.toList:=by
   rw[show(es.eraseIdxIfInBounds r.1).toList=es.toList.eraseIdx r.1 by simp];exact List.eraseIdx_sublist _ _
  refine⟨{w with heap:=w.heap.setIfInBounds b (.map (es.eraseIdxIfInBounds r.1) c)},?_,⟨es.eraseIdxIfInBounds r.1,c,?_,?_,fun x hx=>hbo x (hsub.subset hx),hnd.sublist (hsub.map _)⟩,ZE w b _⟩
  ·simp[Builtin.delete_,run_underlying ht,Result.andThen,run_getObj_map w b es c hb,K.check,K.find w a _ _ he,hlk,Go.MapKept.run_setObj_map _ hb]
  ·show(w.heap.setIfInBounds b _)[b]? =_
   simp[hl]
  ·simp only[Z3,hlk];rw[show(es.eraseIdxIfInBounds r.1).toList=es.toList.eraseIdx r.1 by simp,←ZaX,he,ZaX]
theorem Zd6 {ops:Array Oper} {rest:List Oper} {o:Oper} {ac:Act} {Q:Exit→Act→World→Prop} (hgd:o.guard=none) {x y:Operand} {kt':TypeId}
  (ho:o.op= .call {callee:= .builtin .delete,args:= #[x,y],argTypes:= #[t,kt']}) (K:KeyBy P kt enc) (ht:P.underlying t=some (.map kt et)) {a:α} (hx:ac.eval x= .map (some b)) (hy:ac.eval y=enc a)
  (h:MapE w b enc m) (hk:∀w',MapE w' b enc (Z3 m a)→Upd (One b) w w'→wpList P ops Q rest (ac.put o.dst (.tuple #[])) w'):wpList P ops Q (o::rest) ac w:=by
 obtain⟨w',hr,h1,h2⟩:=Zdj K ht h a kt' o.type;refine wpList_plain hgd fun _ hK=> ?_
 unfold Oper.wp execOp;simp only[ho,resolve,invoke,builtin,Sem.run_bind,Sem.run_pure,Result.andThen_ok,List.map_toArray,List.map_cons,List.map_nil,hx,hy,hr];exact hK _ _ (hk w' h1 h2)
theorem ZaS {ops:Array Oper} {o:Oper} {ac:Act} {Kk:Act→World→Prop} {Q:Exit→Act→World→Prop} {E:Prop} (hgd:o.guard=none) {x y:Operand} {kt':TypeId}
  (ho:o.op= .call {callee:= .builtin .delete,args:= #[x,y],argTypes:= #[t,kt']}) (K:KeyBy P kt enc) (ht:P.underlying t=some (.map kt et)) {a:α} (hx:ac.eval x= .map (some b)) (hy:ac.eval y=enc a)
  (h:MapE w b enc m) (hk:∀w',MapE w' b enc (Z3 m a)→Upd (One b) w w'→Kk (ac.put o.dst (.tuple #[])) w'):if Region.wanted o (yielded ops ac.tmps)=true then Oper.wp P o ac w Kk Q else E:=by
 obtain⟨w',hr,h1,h2⟩:=Zdj K ht h a kt' o.type;rw[if_pos (by simp[Region.wanted,hgd])];unfold Oper.wp execOp;simp only[ho,resolve,invoke,builtin,Sem.run_bind,Sem.run_pure,Result.andThen_ok,List.map_toArray,List.map_cons,List.map_nil,hx,hy,hr];exact hk w' h1 h2
theorem ZY {ops:Array Oper} {o:Oper} {ac:Act} {Kk:Act→World→Prop} {Q:Exit→Act→World→Prop} {E:Prop} (hgd:o.guard=none) {x y v:Operand}
  (ho:o.op= .mapUpdate t x y v) (K:KeyBy P kt enc) (ht:P.underlying t=some (.map kt et)) {a:α} {val:Value} (hx:ac.eval x= .map (some b)) (hy:ac.eval y=enc a) (hv:ac.eval v=val)
  (h:MapE w b enc m) (hk:∀w',MapE w' b enc (Zu m a val)→Upd (One b) w w'→Kk (ac.put o.dst undef) w'):if Region.wanted o (yielded ops ac.tmps)=true then Oper.wp P o ac w Kk Q else E:=by
 obtain⟨w',hr,h1,h2⟩:=Zdi K ht h a val;rw[if_pos (by simp[Region.wanted,hgd])];unfold Oper.wp;simp[execOp,ho,hx,hy,hv,hr,Result.andThen];exact hk w' h1 h2
end
def Z0 {α:Type} [DecidableEq α] (m:List (α×Value)) (k:α):Value:=(Zm m k).getD (.slice none 0 0)
structure MSl {α:Type} [DecidableEq α] (enc:α→Value) (w:World) (G:Nat→Prop) (b:Nat) (m:List (α×Value)) (f:α→List Int):Prop where
 is:MapE w b enc m
 nd:(m.map (·.1)).Nodup
 row:∀k,∃A c,Z0 m k= .slice A (f k).length c∧w.ownsRow 0 3 1 (.slice A (f k).length c) (f k).length ((f k).map (Value.int .i64))
 blk:∀k i,Own (Z0 m k) i→G i
 apart:∀k1 k2,k1≠k2→∀i,Own (Z0 m k1) i→¬Own (Z0 m k2) i
section
variable {α:Type} [DecidableEq α] {enc:α→Value} {w w' w1 w2:World} {G G' S:Nat→Prop} {b:Nat} {m:List (α×Value)} {f:α→List Int}
theorem MSl.upd (h:MSl enc w G b m f) (k:Upd S w w') (hb:¬S b) (hS:∀i,G i→¬S i):MSl enc w' G b m f:=by
 refine⟨h.is.upd k hb,h.nd,fun key=> ?_,h.blk,h.apart⟩;obtain⟨A,c,h1,h2⟩:=h.row key;exact⟨A,c,h1,Zj h2 k fun i hi=>hS i (h.blk key i (by rw[h1];exact hi))⟩
theorem MSl.new (h:MapE w b enc ([]:List (α×Value))) (G:Nat→Prop):MSl enc w G b [] fun _=>[]:=
 ⟨h,by simp,fun _=>⟨none,0,rfl,World.ownsRow_nil _ _ _ _⟩,fun _ i hi=>by simp[Z0,Zag,Own,Value.ownBlock]at hi,fun _ _ _ i hi=>by simp[Z0,Zag,Own,Value.ownBlock]at hi⟩
theorem MSl.mono (h:MSl enc w G b m f) (hG:∀i,G i→G' i):MSl enc w G' b m f:=⟨h.is,h.nd,h.row,fun k i hi=>hG i (h.blk k i hi),h.apart⟩
theorem MSl.congr {g:α→List Int} (h:MSl enc w G b m f) (hfg:∀k,f k=g k):MSl enc w G b m g:=by
 have:f=g:=funext hfg;rw[←this];exact h
theorem MSl.lt (h:MSl enc w G b m f) (k:α) (i:Nat) (hi:Own (Z0 m k) i):i<w.heap.size:=by
 obtain⟨A,c,h1,h2⟩:=h.row k;rw[h1]at hi;exact(h2.lt i hi).2
theorem MSl.ints (h:MSl enc w G b m f) (k:α):∃A c,Z0 m k= .slice A (f k).length c∧Ints G w A (f k)∧(f k).length≤c∧w.ownsRow 0 3 1 (.slice A (f k).length c) (f k).length ((f k).map (Value.int .i64)):=by
 obtain⟨A,c,h1,h2⟩:=h.row k;refine⟨A,c,h1,fun hne=> ?_,Zcw h2,h2⟩;obtain⟨ad,e,_,h4,h5⟩:=Ints.of_own h2 hne;refine⟨ad,e,?_,h4,h5⟩;rcases h2.2 with ⟨hv,hn⟩|⟨g,cap,cur,hv,_⟩
 ·simp only[Value.slice.injEq]at hv;rw[hv.1]at e
  cases e
 ·simp only[Value.slice.injEq]at hv;obtain⟨rfl,_,rfl⟩:=hv
  cases e
  exact h.blk k g (by rw[h1];rfl)
theorem MSl.put {key:α} {l:List Int} {A A':Option Addr} {c c':Nat} (h:MSl enc w G b m f) (hA:Z0 m key= .slice A (f key).length c)
  (hown:w1.ownsRow 0 3 1 (.slice A' l.length c') l.length (l.map (Value.int .i64))) (hu1:Upd (Own (.slice A (f key).length c)) w w1)
  (hg:ZbE w (.slice A (f key).length c) (.slice A' l.length c')) (hm2:MapE w2 b enc (Zu m key (.slice A' l.length c'))) (hu2:Upd (One b) w1 w2)
  (hbG:¬G b) (hbl:b<w.heap.size) (hG':∀i,G i→G' i) (hnew:∀i,w.heap.size≤i→i<w1.heap.size→G' i):
  MSl enc w2 G' b (Zu m key (.slice A' l.length c')) (fun k=>if k=key then l else f k):=by
 have hgg:∀i,Own (.slice A' l.length c') i→Own (.slice A (f key).length c) i∨w.heap.size≤i:=fun i hi=>by
  rcases hg with e|⟨k,e,hk⟩
  ·left;unfold Own at hi ⊢;rw[←e];exact hi
  ·right
   unfold Own at hi;rw[e]at hi
   cases hi
   exact hk
 have hBn:∀i,Own (.slice A' l.length c') i→i≠b:=fun i hi e=>by
  rcases hgg i hi with h1|h1
  ·exact hbG (e▸h.blk key i (by rw[hA];exact h1))
  ·omega
 refine⟨hm2,Zcx h.nd _ _,fun k=> ?_,fun k i hi=> ?_,fun k1 k2 hne i hi hi2=> ?_⟩
 ·by_cases hk:k=key
  ·subst hk;simp only[if_true];refine⟨A',c',by unfold Z0;rw[Zr];rfl,Zj hown hu2 fun i hi=>hBn i hi⟩
  ·simp only[if_neg hk];obtain⟨B,d,h1,h2⟩:=h.row k;refine⟨B,d,by unfold Z0;rw[Zo _ _ hk];exact h1,Zj (Zj h2 hu1 fun i hi e=> ?_) hu2 fun i hi e=> ?_⟩
   ·exact h.apart k key hk i (by rw[h1];exact hi) (by rw[hA];exact e)
   ·exact hbG (e▸h.blk k i (by rw[h1];exact hi))
 ·by_cases hk:k=key
  ·subst hk;unfold Z0 at hi;rw[Zr]at hi;rcases hgg i hi with h1|h1
   ·exact hG' i (h.blk k i (by rw[hA];exact h1))
   ·exact hnew i h1 (hown.lt i hi).2
  ·unfold Z0 at hi;rw[Zo _ _ hk]at hi;exact hG' i (h.blk k i hi)
 ·unfold Z0 at hi hi2
  by_cases e1:k1=key
  ·subst e1;have hne2:k2≠k1:=fun e=>hne e.symm
   rw[Zr]at hi;rw[Zo _ _ hne2]at hi2;rcases hgg i hi with hi|hi
   ·exact h.apart k1 k2 hne i (by rw[hA];exact hi) hi2
   ·have:=h.lt k2 i hi2;omega
  ·rw[Zo _ _ e1]at hi
   by_cases e2:k2=key
   ·subst e2;rw[Zr]at hi2;rcases hgg i hi2 with hi2|hi2
    ·exact h.apart k1 k2 hne i hi (by rw[hA];exact hi2)
    ·have:=h.lt k1 i hi;omega
   ·rw[Zo _ _ e2]at hi2;exact h.apart k1 k2 hne i hi hi2
theorem MSl.del {key:α} (h:MSl enc w G b m f) (hm2:MapE w2 b enc (Z3 m key)) (hu2:Upd (One b) w w2) (hbG:¬G b):MSl enc w2 G b (Z3 m key) (fun k=>if k=key then [] else f k):=by
 have hr:∀k,Z0 (Z3 m key) k=if k=key then .slice none 0 0 else Z0 m k:=fun k=>by
  unfold Z0;rw[Za8 h.nd]
  split<;>rfl
 refine⟨hm2,ZcA h.nd _,fun k=> ?_,fun k i hi=> ?_,fun k1 k2 hne i hi hi2=> ?_⟩
 ·rw[hr]
  by_cases hk:k=key
  ·simp only[if_pos hk];exact⟨none,0,rfl,World.ownsRow_nil _ _ _ _⟩
  ·simp only[if_neg hk];obtain⟨B,d,h1,h2⟩:=h.row k;exact⟨B,d,h1,Zj h2 hu2 fun i hi e=>hbG (e▸h.blk k i (by rw[h1];exact hi))⟩
 ·rw[hr]at hi
  split at hi
  ·simp[Own,Value.ownBlock]at hi
  ·exact h.blk k i hi
 ·rw[hr]at hi hi2
  split at hi
  ·simp[Own,Value.ownBlock]at hi
  ·split at hi2
   ·simp[Own,Value.ownBlock]at hi2
   ·exact h.apart k1 k2 hne i hi hi2
end
end
end Go.Proofs.Ytblplapkdmhikaa
