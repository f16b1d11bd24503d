/- Maps whose entries go again; maps of slices of numbers, each slice in a block of its own. -/
import Derived.Test.YtblplapkdmhikaaGreatDxam
import Derived.Test.YtblplapkdmhikaaGreatDxaq
import Derived.Test.YtblplapkdmhikaaGreatDxaz
namespace Go.Proofs.YtblplapkdmhikaaGreat
set_option linter.unusedVariables false
set_option linter.unusedSimpArgs false
section
open Go.RowKit
section
variable {α:Type} [DecidableEq α]
theorem Zen (a:α):∀(m:List (α×Value)) (i j:Nat),(look a m i).map (·.2)=(look a m j).map (·.2)
 |[],_,_=>rfl
 |p::m,i,j=>by
  unfold look
  by_cases h:a=p.1
  ·rw[if_pos h,if_pos h];rfl
  ·rw[if_neg h,if_neg h];exact Zen a m _ _
theorem ZdI (a b:α):∀(m:List (α×Value)) (i:Nat) (r:Nat×Value),(m.map (·.1)).Nodup→look a m i=some r→
  (look b (m.eraseIdx (r.1-i)) i).map (·.2)=if b=a then none else (look b m i).map (·.2)
 |[],i,r,_,h=>by simp[look]at h
 |p::m,i,r,hn,h=>by
  rw[List.map_cons,List.nodup_cons]at hn;unfold look at h
  split at h
  ·rename_i hab
   cases h
   simp only[Nat.sub_self,List.eraseIdx_zero,List.tail_cons]
   by_cases hb:b=a
   ·rw[if_pos hb];have:look b m i=none:=(Zbh b m i).2 (by rw[hb,hab];exact hn.1);rw[this];rfl
   ·rw[if_neg hb]
    conv=>rhs;unfold look
    rw[if_neg (by rw[←hab];exact hb)];exact Zen b m _ _
  ·rename_i hne
   have h1:=(ZbA a m (i+1) r h).1;have ih:=ZdI a b m (i+1) r hn.2 h;rw[show r.1-i=(r.1-(i+1))+1 by omega,List.eraseIdx_cons_succ];unfold look
   by_cases hbp:b=p.1
   ·rw[if_pos hbp,if_pos hbp,if_neg (by rw[hbp];exact fun e=>hne e.symm)]
   ·rw[if_neg hbp,if_neg hbp];exact ih
theorem ZbV {m:List (α×Value)} (hn:(m.map (·.1)).Nodup) (a b:α):Zm (Zas m a) b=if b=a then none else Zm m b:=by
 unfold Zas
 cases h:look a m 0 with
 |none=>
  simp only
  by_cases e:b=a
  ·rw[if_pos e];exact(Zbg m b).2 (by rw[e];exact(Zbh a m 0).1 h)
  ·rw[if_neg e]
 |some r=>
  simp only;have:=ZdI a b m 0 r hn h;rw[Nat.sub_zero]at this;exact this
theorem Zir (m:List (α×Value)) (a:α):(Zas m a).Sublist m:=by
 unfold Zas
 split
 ·exact List.eraseIdx_sublist _ _
 ·exact List.Sublist.refl _
theorem ZdZ {m:List (α×Value)} (hn:(m.map (·.1)).Nodup) (a:α):((Zas m a).map (·.1)).Nodup:=hn.sublist ((Zir m a).map _)
end
section
variable {α:Type} [DecidableEq α] {P:Program} {w w':World} {b:Nat} {enc:α→Value} {m:List (α×Value)} {S:Nat→Prop} {t kt et:TypeId}
theorem ZeZ (K:KeyBy P kt enc) (ht:P.underlying t=some (.map kt et)) (h:MapE w b enc m) (a:α) (kt' ty:TypeId):
  ∃w',(Builtin.delete_ #[t,kt'] ty #[.map (some b),enc a]).run P w= .ok (.tuple #[]) w'∧MapE w' b enc (Zas m a)∧Upd (One b) w w':=by
 have hl:=h.lt;obtain⟨es,c,hb,he,hbo,hnd⟩:=h
 cases hlk:look a m 0 with
 |none=>
  refine⟨{w with heap:=w.heap.setIfInBounds b (.map es c)},?_,⟨es,c,?_,?_,hbo,hnd⟩,ZO w b _⟩
  ·simp[Builtin.delete_,run_underlying ht,Result.andThen,run_getObj_map w b es c hb,K.check,K.find w a _ _ he,hlk,Go.MapKept.run_setObj_map _ hb]
  ·show(w.heap.setIfInBounds b _)[b]? =_
   simp[hl]
  ·simp[Zas,hlk,he]
 |some r=>
  have hsub:(es.eraseIdxIfInBounds r.1).toList.Sublist es.toList:=by
   rw[show(es.eraseIdxIfInBounds r.1).toList=es.toList.eraseIdx r.1 by simp];exact List.eraseIdx_sublist _ _
  refine⟨{w with heap:=w.heap.setIfInBounds b (.map (es.eraseIdxIfInBounds r.1) c)},?_,⟨es.eraseIdxIfInBounds r.1,c,?_,?_,fun x hx=>hbo x (hsub.subset hx),hnd.sublist (hsub.map _)⟩,ZO w b _⟩
  ·simp[Builtin.delete_,run_underlying ht,Result.andThen,run_getObj_map w b es c hb,K.check,K.find w a _ _ he,hlk,Go.MapKept.run_setObj_map _ hb]
  ·show(w.heap.setIfInBounds b _)[b]? =_
   simp[hl]
  ·simp only[Zas,hlk];rw[show(es.eraseIdxIfInBounds r.1).toList=es.toList.eraseIdx r.1 by simp,←ZbJ,he,ZbJ]
theorem Zge {ops:Array Oper} {rest:List Oper} {o:Oper} {ac:Act} {Q:Exit→Act→World→Prop} (hgd:o.guard=none) {x y:Operand} {kt':TypeId}
  (ho:o.op= .call {callee:= .builtin .delete,args:= #[x,y],argTypes:= #[t,kt']}) (K:KeyBy P kt enc) (ht:P.underlying t=some (.map kt et)) {a:α} (hx:ac.eval x= .map (some b)) (hy:ac.eval y=enc a)
  (h:MapE w b enc m) (hk:∀w',MapE w' b enc (Zas m a)→Upd (One b) w w'→wpList P ops Q rest (ac.put o.dst (.tuple #[])) w'):wpList P ops Q (o::rest) ac w:=by
 obtain⟨w',hr,h1,h2⟩:=ZeZ K ht h a kt' o.type;refine wpList_plain hgd fun _ hK=> ?_
 unfold Oper.wp execOp;simp only[ho,resolve,invoke,builtin,Sem.run_bind,Sem.run_pure,Result.andThen_ok,List.map_toArray,List.map_cons,List.map_nil,hx,hy,hr];exact hK _ _ (hk w' h1 h2)
theorem ZbD {ops:Array Oper} {o:Oper} {ac:Act} {Kk:Act→World→Prop} {Q:Exit→Act→World→Prop} {E:Prop} (hgd:o.guard=none) {x y:Operand} {kt':TypeId}
  (ho:o.op= .call {callee:= .builtin .delete,args:= #[x,y],argTypes:= #[t,kt']}) (K:KeyBy P kt enc) (ht:P.underlying t=some (.map kt et)) {a:α} (hx:ac.eval x= .map (some b)) (hy:ac.eval y=enc a)
  (h:MapE w b enc m) (hk:∀w',MapE w' b enc (Zas m a)→Upd (One b) w w'→Kk (ac.put o.dst (.tuple #[])) w'):if Region.wanted o (yielded ops ac.tmps)=true then Oper.wp P o ac w Kk Q else E:=by
 obtain⟨w',hr,h1,h2⟩:=ZeZ K ht h a kt' o.type;rw[if_pos (by simp[Region.wanted,hgd])];unfold Oper.wp execOp;simp only[ho,resolve,invoke,builtin,Sem.run_bind,Sem.run_pure,Result.andThen_ok,List.map_toArray,List.map_cons,List.map_nil,hx,hy,hr];exact hk w' h1 h2
theorem Zag {ops:Array Oper} {o:Oper} {ac:Act} {Kk:Act→World→Prop} {Q:Exit→Act→World→Prop} {E:Prop} (hgd:o.guard=none) {x y v:Operand}
  (ho:o.op= .mapUpdate t x y v) (K:KeyBy P kt enc) (ht:P.underlying t=some (.map kt et)) {a:α} {val:Value} (hx:ac.eval x= .map (some b)) (hy:ac.eval y=enc a) (hv:ac.eval v=val)
  (h:MapE w b enc m) (hk:∀w',MapE w' b enc (Zt m a val)→Upd (One b) w w'→Kk (ac.put o.dst undef) w'):if Region.wanted o (yielded ops ac.tmps)=true then Oper.wp P o ac w Kk Q else E:=by
 obtain⟨w',hr,h1,h2⟩:=ZeY K ht h a val;rw[if_pos (by simp[Region.wanted,hgd])];unfold Oper.wp;simp[execOp,ho,hx,hy,hv,hr,Result.andThen];exact hk w' h1 h2
end
def Zan {α:Type} [DecidableEq α] (m:List (α×Value)) (k:α):Value:=(Zm m k).getD (.slice none 0 0)
structure MSl {α:Type} [DecidableEq α] (enc:α→Value) (w:World) (G:Nat→Prop) (b:Nat) (m:List (α×Value)) (f:α→List Int):Prop where
 is:MapE w b enc m
 nd:(m.map (·.1)).Nodup
 row:∀k,∃A c,Zan m k= .slice A (f k).length c∧w.ownsRow 0 3 1 (.slice A (f k).length c) (f k).length ((f k).map (Value.int .i64))
 blk:∀k i,Own (Zan m k) i→G i
 apart:∀k1 k2,k1≠k2→∀i,Own (Zan m k1) i→¬Own (Zan m k2) i
section
variable {α:Type} [DecidableEq α] {enc:α→Value} {w w' w1 w2:World} {G G' S:Nat→Prop} {b:Nat} {m:List (α×Value)} {f:α→List Int}
theorem MSl.upd (h:MSl enc w G b m f) (k:Upd S w w') (hb:¬S b) (hS:∀i,G i→¬S i):MSl enc w' G b m f:=by
 refine⟨h.is.upd k hb,h.nd,fun key=> ?_,h.blk,h.apart⟩;obtain⟨A,c,h1,h2⟩:=h.row key;exact⟨A,c,h1,Zb h2 k fun i hi=>hS i (h.blk key i (by rw[h1];exact hi))⟩
theorem MSl.new (h:MapE w b enc ([]:List (α×Value))) (G:Nat→Prop):MSl enc w G b [] fun _=>[]:=
 ⟨h,by simp,fun _=>⟨none,0,rfl,World.ownsRow_nil _ _ _ _⟩,fun _ i hi=>by simp[Zan,ZaR,Own,Value.ownBlock]at hi,fun _ _ _ i hi=>by simp[Zan,ZaR,Own,Value.ownBlock]at hi⟩
theorem MSl.mono (h:MSl enc w G b m f) (hG:∀i,G i→G' i):MSl enc w G' b m f:=⟨h.is,h.nd,h.row,fun k i hi=>hG i (h.blk k i hi),h.apart⟩
theorem MSl.congr {g:α→List Int} (h:MSl enc w G b m f) (hfg:∀k,f k=g k):MSl enc w G b m g:=by
 have:f=g:=funext hfg;rw[←this];exact h
theorem MSl.lt (h:MSl enc w G b m f) (k:α) (i:Nat) (hi:Own (Zan m k) i):i<w.heap.size:=by
 obtain⟨A,c,h1,h2⟩:=h.row k;rw[h1]at hi;exact(h2.lt i hi).2
theorem MSl.ints (h:MSl enc w G b m f) (k:α):∃A c,Zan m k= .slice A (f k).length c∧Ints G w A (f k)∧(f k).length≤c∧w.ownsRow 0 3 1 (.slice A (f k).length c) (f k).length ((f k).map (Value.int .i64)):=by
 obtain⟨A,c,h1,h2⟩:=h.row k;refine⟨A,c,h1,fun hne=> ?_,ZdV h2,h2⟩;obtain⟨ad,e,_,h4,h5⟩:=Ints.of_own h2 hne;refine⟨ad,e,?_,h4,h5⟩;rcases h2.2 with ⟨hv,hn⟩|⟨g,cap,cur,hv,_⟩
 ·simp only[Value.slice.injEq]at hv;rw[hv.1]at e
  cases e
 ·simp only[Value.slice.injEq]at hv;obtain⟨rfl,_,rfl⟩:=hv
  cases e
  exact h.blk k g (by rw[h1];rfl)
theorem MSl.put {key:α} {l:List Int} {A A':Option Addr} {c c':Nat} (h:MSl enc w G b m f) (hA:Zan m key= .slice A (f key).length c)
  (hown:w1.ownsRow 0 3 1 (.slice A' l.length c') l.length (l.map (Value.int .i64))) (hu1:Upd (Own (.slice A (f key).length c)) w w1)
  (hg:Grew w (.slice A (f key).length c) (.slice A' l.length c')) (hm2:MapE w2 b enc (Zt m key (.slice A' l.length c'))) (hu2:Upd (One b) w1 w2)
  (hbG:¬G b) (hbl:b<w.heap.size) (hG':∀i,G i→G' i) (hnew:∀i,w.heap.size≤i→i<w1.heap.size→G' i):
  MSl enc w2 G' b (Zt m key (.slice A' l.length c')) (fun k=>if k=key then l else f k):=by
 have hgg:∀i,Own (.slice A' l.length c') i→Own (.slice A (f key).length c) i∨w.heap.size≤i:=fun i hi=>by
  rcases hg with e|⟨k,e,hk⟩
  ·left;unfold Own at hi ⊢;rw[←e];exact hi
  ·right
   unfold Own at hi;rw[e]at hi
   cases hi
   exact hk
 have hBn:∀i,Own (.slice A' l.length c') i→i≠b:=fun i hi e=>by
  rcases hgg i hi with h1|h1
  ·exact hbG (e▸h.blk key i (by rw[hA];exact h1))
  ·omega
 refine⟨hm2,ZdW h.nd _ _,fun k=> ?_,fun k i hi=> ?_,fun k1 k2 hne i hi hi2=> ?_⟩
 ·by_cases hk:k=key
  ·subst hk;simp only[if_true];refine⟨A',c',by unfold Zan;rw[Zz];rfl,Zb hown hu2 fun i hi=>hBn i hi⟩
  ·simp only[if_neg hk];obtain⟨B,d,h1,h2⟩:=h.row k;refine⟨B,d,by unfold Zan;rw[Zv _ _ hk];exact h1,Zb (Zb h2 hu1 fun i hi e=> ?_) hu2 fun i hi e=> ?_⟩
   ·exact h.apart k key hk i (by rw[h1];exact hi) (by rw[hA];exact e)
   ·exact hbG (e▸h.blk k i (by rw[h1];exact hi))
 ·by_cases hk:k=key
  ·subst hk;unfold Zan at hi;rw[Zz]at hi;rcases hgg i hi with h1|h1
   ·exact hG' i (h.blk k i (by rw[hA];exact h1))
   ·exact hnew i h1 (hown.lt i hi).2
  ·unfold Zan at hi;rw[Zv _ _ hk]at hi;exact hG' i (h.blk k i hi)
 ·unfold Zan at hi hi2
  by_cases e1:k1=key
  ·subst e1;have hne2:k2≠k1:=fun e=>hne e.symm
   rw[Zz]at hi;rw[Zv _ _ hne2]at hi2;rcases hgg i hi with hi|hi
   ·exact h.apart k1 k2 hne i (by rw[hA];exact hi) hi2
   ·have:=h.lt k2 i hi2;omega
  ·rw[Zv _ _ e1]at hi
   by_cases e2:k2=key
   ·subst e2;rw[Zz]at hi2;rcases hgg i hi2 with hi2|hi2
    ·exact h.apart k1 k2 hne i hi (by rw[hA];exact hi2)
    ·have:=h.lt k1 i hi;omega
   ·rw[Zv _ _ e2]at hi2;exact h.apart k1 k2 hne i hi hi2
theorem MSl.del {key:α} (h:MSl enc w G b m f) (hm2:MapE w2 b enc (Zas m key)) (hu2:Upd (One b) w w2) (hbG:¬G b):MSl enc w2 G b (Zas m key) (fun k=>if k=key then [] else f k):=by
 have hr:∀k,Zan (Zas m key) k=if k=key then .slice none 0 0 else Zan m k:=fun k=>by
  unfold Zan;rw[ZbV h.nd]
  split<;>rfl
 refine⟨hm2,ZdZ h.nd _,fun k=> ?_,fun k i hi=> ?_,fun k1 k2 hne i hi hi2=> ?_⟩
 ·rw[hr]
  by_cases hk:k=key
  ·simp only[if_pos hk];exact⟨none,0,rfl,World.ownsRow_nil _ _ _ _⟩
  ·simp only[if_neg hk];obtain⟨B,d,h1,h2⟩:=h.row k;exact⟨B,d,h1,Zb h2 hu2 fun i hi e=>hbG (e▸h.blk k i (by rw[h1];exact hi))⟩
 ·rw[hr]at hi
  split at hi
  ·simp[Own,Value.ownBlock]at hi
  ·exact h.blk k i hi
 ·rw[hr]at hi hi2
  split at hi
  ·simp[Own,Value.ownBlock]at hi
  ·split at hi2
   ·simp[Own,Value.ownBlock]at hi2
   ·exact h.apart k1 k2 hne i hi hi2
end
end
end Go.Proofs.YtblplapkdmhikaaGreat
