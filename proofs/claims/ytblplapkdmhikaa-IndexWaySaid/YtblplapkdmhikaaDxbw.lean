/- Two indexes: plain, and the state of the two of them. -/
import Derived.Test.YtblplapkdmhikaaDxaf
import Derived.Test.YtblplapkdmhikaaDxbv
namespace Go.Proofs.Ytblplapkdmhikaa
set_option linter.unusedVariables false
set_option linter.unusedSimpArgs false
section
open Go.RowKit
def Zq (t:HTx):HTx:=⟨t.id,t.done,t.ops,none,0⟩
theorem ZaA (p:HTx→Bool) (hp:∀t,p (Zq t)=p t) (q:List HTx):(q.map Zq).filter p=(q.filter p).map Zq:=by
 rw[List.filter_map]
 congr 1
 apply List.filter_congr
 intro t _;exact hp t
theorem ZdB (q:List HTx):(q.map Zq).map (·.id)=q.map (·.id):=by
 rw[List.map_map];rfl
theorem ZcL (p:HTx→Bool) (hp:∀t,p (Zq t)=p t) (q:List HTx):ZZ p (q.map Zq)=ZZ p q:=by
 unfold ZZ;rw[ZaA p hp,ZdB]
theorem Zbz (q:List HTx) (i:Int):Zb (q.map Zq) i=(Zb q i).map Zq:=by
 unfold Zb;rw[List.find?_map];rfl
theorem ZdO (q:List HTx):Zk (q.map Zq)=Zk q:=by
 unfold Zk;rw[List.map_map];rfl
theorem Zc9 (q:List HTx):Zz (q.map Zq)=Zz q:=by
 funext k
 rw[ZJ,ZJ];exact ZcL _ (fun _=>rfl) q
theorem Zdn (q:List HTx):Zt (q.map Zq)=Zt q:=by
 funext v
 unfold Zt;exact ZcL _ (fun _=>rfl) q
theorem Zey (q:List HTx):ZP (q.map Zq)=ZP q:=by
 funext p
 unfold ZP;rw[Zbz]
 cases Zb q p.1<;>rfl
theorem ZdM (q:List HTx):ZH (q.map Zq)=ZH q:=by
 funext p
 unfold ZH Zac;rw[Zbz]
 cases Zb q p.1<;>rfl
theorem IX.bare {w:World} {col:Nat→Nat} {g:Nat} {q:List HTx} (h:IX w col g q):IX w col g (q.map Zq):=by
 obtain⟨⟨bT,bW,bR,bU,bS,hm⟩,hr,ho⟩:=h
 refine⟨⟨bT,bW,bR,bU,bS,?_⟩,by unfold Zh;rw[ZdB];exact hr,fun t ht=>by
  obtain⟨x,hx,rfl⟩:=List.mem_map.1 ht;exact ho x hx⟩
 rw[ZdO,Zc9,Zdn,Zey,ZdM];refine {hm with tx:= ?_};obtain⟨mT,t1,t2,t3⟩:=hm.tx;refine⟨mT,t1,t2,fun id=> ?_⟩;rw[Zbz];have:=t3 id
 cases hf:Zb q id with
 |none=>rw[hf]at this;exact this
 |some t=>rw[hf]at this;exact this
theorem Zdo (q:List HTx) (t:HTx):(ZG q t).map Zq=ZG (q.map Zq) (Zq t):=by
 unfold ZG;rw[List.map_append,List.map_cons,←ZaA _ (fun _=>rfl),←ZaA _ (fun _=>rfl)];rfl
theorem Ze9 (q:List HTx) (i:Int):(Zc q i).map Zq=Zc (q.map Zq) i:=by
 unfold Zc;rw[ZaA _ (fun _=>rfl)]
def Two (wb:World) (ga:Nat) (qa:List HTx) (gb:Nat) (qb:List HTx) (K:Nat→Prop) (W:World):Prop:=
 ∃ca cb,IX W ca ga qa∧IX W cb gb qb∧Upd No wb W∧(∀i,ca i≠0→wb.heap.size≤i∧cb i=0)∧(∀i,cb i≠0→wb.heap.size≤i)∧qa.map Zq=qa∧qb.map Zq=qb∧∀i,K i→i<W.heap.size∧ca i=0∧cb i=0
namespace Two
variable {wb W W':World} {ga gb:Nat} {qa qb:List HTx} {K:Nat→Prop}
theorem no (h:Two wb ga qa gb qb K W) (u:Upd No W W'):Two wb ga qa gb qb K W':=by
 obtain⟨ca,cb,h1,h2,h3,h4,h5,h6,h7,h8⟩:=h;exact⟨ca,cb,h1.no u,h2.no u,h3.trans u,h4,h5,h6,h7,fun i hi=>⟨Nat.lt_of_lt_of_le (h8 i hi).1 u.size,(h8 i hi).2⟩⟩
theorem new (h:Two wb ga qa gb qb K W) (u:Upd No W W') (K':Nat→Prop) (hK:∀i,K' i→K i∨(W.heap.size≤i∧i<W'.heap.size)):Two wb ga qa gb qb K' W':=by
 obtain⟨ca,cb,h1,h2,h3,h4,h5,h6,h7,h8⟩:=h;refine⟨ca,cb,h1.no u,h2.no u,h3.trans u,h4,h5,h6,h7,fun i hi=> ?_⟩;rcases hK i hi with e|e
 ·exact⟨Nat.lt_of_lt_of_le (h8 i e).1 u.size,(h8 i e).2⟩
 ·exact⟨e.2,h1.z i e.1,h2.z i e.1⟩
theorem symm (h:Two wb ga qa gb qb K W):Two wb gb qb ga qa K W:=by
 obtain⟨ca,cb,h1,h2,h3,h4,h5,h6,h7,h8⟩:=h;exact⟨cb,ca,h2,h1,h3,fun i hi=>⟨h5 i hi,Classical.byContradiction fun e=>hi (h4 i e).2⟩,fun i hi=>(h4 i hi).1,h7,h6,fun i hi=>⟨(h8 i hi).1,(h8 i hi).2.2,(h8 i hi).2.1⟩⟩
theorem upd (h:Two wb ga qa gb qb K W):Upd No wb W:=by
 obtain⟨ca,cb,h1,h2,h3,h4⟩:=h;exact h3
theorem ixa (h:Two wb ga qa gb qb K W):∃c,IX W c ga qa:=by
 obtain⟨ca,cb,h1,h2,h3,h4⟩:=h;exact⟨ca,h1⟩
theorem ixb (h:Two wb ga qa gb qb K W):∃c,IX W c gb qb:=by
 obtain⟨ca,cb,h1,h2,h3,h4⟩:=h;exact⟨cb,h2⟩
theorem riseA (h:Two wb ga qa gb qb K W):Zh qa:=by
 obtain⟨ca,h1⟩:=h.ixa;exact h1.2.1
theorem riseB (h:Two wb ga qa gb qb K W):Zh qb:=h.symm.riseA
theorem okA (h:Two wb ga qa gb qb K W):okQ qa:=by
 obtain⟨ca,h1⟩:=h.ixa;exact h1.2.2
theorem bareA (h:Two wb ga qa gb qb K W):∀t∈qa,Zq t=t:=by
 obtain⟨ca,cb,h1,h2,h3,h4,h5,h6,h7,h8⟩:=h
 exact fun t ht=>by
  have:qa.map Zq=qa.map id:=by rw[List.map_id];exact h6
  exact List.map_inj_left.1 this t ht
theorem turnB {ca cb cb':Nat→Nat} (h1:IX W ca ga qa) (h2:IX W cb gb qb) (h3:Upd No wb W) (h4:∀i,ca i≠0→wb.heap.size≤i∧cb i=0) (h5:∀i,cb i≠0→wb.heap.size≤i) (h6:qa.map Zq=qa) (h8:∀i,K i→i<W.heap.size∧ca i=0∧cb i=0) {q':List HTx} (h7:q'.map Zq=q')
  (k1:IX W' cb' gb q') (k2:TurnX W cb W' cb'):Two wb ga qa gb q' K W'∧Upd (fun i=>¬K i) W W':=by
 have hz:=h1.z;refine⟨⟨ca,cb',h1.upd k2.2 (fun i hi e=>e (h4 i hi).2),k1,h3.then_ k2.2 (fun i e=> .inr (h5 i e)),fun i hi=>⟨(h4 i hi).1,?_⟩,fun i hi=> ?_,h6,h7,fun i hi=> ?_⟩,k2.2.mono fun i _ e hk=>e (h8 i hk).2.2⟩
 ·have hlt:i<W.heap.size:=Nat.lt_of_not_le fun e=>hi (hz i e)
  rw[k2.1 i hlt];exact(h4 i hi).2
 ·rcases Nat.lt_or_ge i W.heap.size with hlt|hge
  ·exact h5 i (by rw[←k2.1 i hlt];exact hi)
  ·have:=h3.size;omega
 ·have hk:=h8 i hi;exact⟨Nat.lt_of_lt_of_le hk.1 k2.2.size,hk.2.1,by rw[k2.1 i hk.1];exact hk.2.2⟩
theorem putB {W0:World} (h:Two wb ga qa gb qb K W0) (u:Upd No W0 W) (F:Nat→Prop) (t:HTx) (ht:HOps F W t.A t.ops) (hF:∀i,F i→i<wb.heap.size∨W0.heap.size≤i) (hq:qb.length≤200) (hl:Zd t.ops.length):
  Calls Try.prog 23 #[.pointer (some ⟨gb,0,none⟩),.agg #[.int .i64 t.id,.bool t.done,.slice t.A t.ops.length t.c]] W fun e w'=>e= .returned (.int .i64 (Zn t.id t.ops))∧Two wb ga qa gb (if Zn t.id t.ops=0 then ZG qb (Zq t) else qb) K w'∧Upd (fun i=>¬K i) W w':=by
 obtain⟨ca,cb,h1,h2,h3,h4,h5,h6,h7,h8⟩:=h;refine(Zgt F (h2.no u) hq t ht hl (fun i hi=> ?_)).mono ?_
 ·rcases hF i hi with e|e
  ·exact Classical.byContradiction fun e2=>by have:=h5 i e2;omega
  ·exact h2.z i e
 ·rintro e w' ⟨rfl,cb',k1,k2⟩;refine⟨rfl,turnB (h1.no u) (h2.no u) (h3.trans u) h4 h5 h6 (fun i hi=>⟨Nat.lt_of_lt_of_le (h8 i hi).1 u.size,(h8 i hi).2⟩) ?_ (cb':=cb') ?_ k2⟩
  ·split
   ·rw[←h7,←Zdo,List.map_map]
    congr 1
   ·exact h7
  ·split
   ·rename_i e0
    rw[if_pos e0]at k1;have:=k1.bare
    rwa [Zdo,h7]at this
   ·rename_i e0
    rwa [if_neg e0]at k1
theorem putA {W0:World} (h:Two wb ga qa gb qb K W0) (u:Upd No W0 W) (F:Nat→Prop) (t:HTx) (ht:HOps F W t.A t.ops) (hF:∀i,F i→i<wb.heap.size∨W0.heap.size≤i) (hq:qa.length≤200) (hl:Zd t.ops.length):
  Calls Try.prog 23 #[.pointer (some ⟨ga,0,none⟩),.agg #[.int .i64 t.id,.bool t.done,.slice t.A t.ops.length t.c]] W fun e w'=>e= .returned (.int .i64 (Zn t.id t.ops))∧Two wb ga (if Zn t.id t.ops=0 then ZG qa (Zq t) else qa) gb qb K w'∧Upd (fun i=>¬K i) W w':=
 (h.symm.putB u F t ht hF hq hl).mono fun _ _ h=>⟨h.1,h.2.1.symm,h.2.2⟩
theorem dropB (h:Two wb ga qa gb qb K W) (i:Int) (hq:qb.length≤200):
  Calls Try.prog 27 #[.pointer (some ⟨gb,0,none⟩),.int .i64 i] W fun e w'=>e= .returned (.int .i64 (if (Zb qb i).isSome then 0 else 3))∧Two wb ga qa gb (Zc qb i) K w'∧Upd (fun i=>¬K i) W w':=by
 obtain⟨ca,cb,h1,h2,h3,h4,h5,h6,h7,h8⟩:=h;refine(ZfI h2 hq i).mono ?_;rintro e w' ⟨rfl,cb',k1,k2⟩;exact⟨rfl,turnB h1 h2 h3 h4 h5 h6 h8 (by rw[Ze9,h7]) k1 k2⟩
end Two
theorem Two.made {wb w1 w2:World} {ga gb:Nat} {ca cb:Nat→Nat} (h1:IX w1 ca ga []) (u1:Upd No wb w1) (k1:∀i,ca i≠0→wb.heap.size≤i) (h2:IX w2 cb gb []) (u2:Upd No w1 w2) (k2:∀i,cb i≠0→w1.heap.size≤i):Two wb ga [] gb [] (fun _=>False) w2:=by
 have hz:=h1.z;refine⟨ca,cb,h1.no u2,h2,u1.trans u2,fun i hi=>⟨k1 i hi,Classical.byContradiction fun e=>hi (hz i (k2 i e))⟩,fun i hi=> ?_,rfl,rfl,fun _ h=>h.elim⟩;have:=k2 i hi;have:=u1.size;omega
def Inv3 (qa qb:List HTx) (k:Nat):Prop:=∀j (hj:j<qa.length),qa.length≤j+k→Zb qb qa[j].id=some qa[j]
theorem Inv3.step {qa qb:List HTx} {k m:Nat} (h:Inv3 qa qb k) (ha:Zh qa) (hr:Zh qb) (hm:m<qa.length) (hk:m+1+k=qa.length):Inv3 qa (ZG qb qa[m]) (k+1):=fun j hj hl=>by
 rw[Za9 hr]
 by_cases e:qa[j].id=qa[m].id
 ·rw[if_pos e,ZbK ha (List.getElem_mem hj) (List.getElem_mem hm) e]
 ·rw[if_neg e];have:j≠m:=fun e2=>e (by subst e2;rfl)
  exact h j hj (by omega)
theorem Inv3.all {qa qb:List HTx} (h:Inv3 qa qb qa.length):∀t∈qa,Zb qb t.id=some t:=fun t ht=>by
 obtain⟨j,hj,rfl⟩:=List.mem_iff_getElem.1 ht;exact h j hj (by omega)
def Inv4 (qa qb:List HTx) (L:List Int) (k:Nat):Prop:=(∀t∈qa,Zb qb t.id=some t)∧(∀x∈L.drop k,Zb qb x≠none)∧(∀x,Zb qb x≠none→x∈qa.map (·.id)∨x∈L.drop k)
theorem Inv4.start {qa qb:List HTx} (hr:Zh qb) (h:∀t∈qa,Zb qb t.id=some t):Inv4 qa qb (qb.map (·.id)) 0:=
 ⟨h,fun x hx=>(ZbX hr x).1 hx,fun x hx=> .inr ((ZbX hr x).2 hx)⟩
theorem Inv4.skip {qa qb:List HTx} {L:List Int} {k:Nat} (h:Inv4 qa qb L k) (hk:k<L.length) (hx:L[k]∈qa.map (·.id)):Inv4 qa qb L (k+1):=by
 obtain⟨h1,h2,h3⟩:=h;rw[List.drop_eq_getElem_cons hk]at h2 h3;refine⟨h1,fun x hx=>h2 x (List.mem_cons_of_mem _ hx),fun x h=> ?_⟩;rcases h3 x h with e|e
 ·exact .inl e
 ·rcases List.mem_cons.1 e with rfl|e
  ·exact .inl hx
  ·exact .inr e
theorem Inv4.there {qa qb:List HTx} {L:List Int} {k:Nat} (h:Inv4 qa qb L k) (hk:k<L.length):(Zb qb L[k]).isSome=true:=by
 have:=h.2.1 L[k] (by rw[List.drop_eq_getElem_cons hk];exact List.mem_cons_self)
 cases hf:Zb qb L[k]with
 |none=>exact absurd hf this
 |some t=>rfl
theorem Inv4.drop {qa qb:List HTx} {L:List Int} {k:Nat} (h:Inv4 qa qb L k) (hr:Zh qb) (hn:L.Nodup) (hk:k<L.length) (hx:L[k]∉qa.map (·.id)):Inv4 qa (Zc qb L[k]) L (k+1):=by
 obtain⟨h1,h2,h3⟩:=h;rw[List.drop_eq_getElem_cons hk]at h2 h3
 have hnd:L[k]∉L.drop (k+1):=by
  have:(L.drop k).Nodup:=hn.sublist (List.drop_sublist _ _);rw[List.drop_eq_getElem_cons hk,List.nodup_cons]at this;exact this.1
 refine⟨fun t ht=> ?_,fun x hx2=> ?_,fun x h=> ?_⟩
 ·rw[ZN hr,if_neg (fun(e:t.id=L[k])=>hx (e▸List.mem_map.2 ⟨t,ht,rfl⟩))];exact h1 t ht
 ·rw[ZN hr,if_neg (fun(e:x=L[k])=>hnd (e▸hx2))];exact h2 x (List.mem_cons_of_mem _ hx2)
 ·rw[ZN hr]at h
  split at h
  ·exact absurd rfl h
  ·rename_i hne
   rcases h3 x h with e|e
   ·exact .inl e
   ·rcases List.mem_cons.1 e with e|e
    ·exact absurd e hne
    ·exact .inr e
theorem ZgB {qa qb:List HTx} (ha:Zh qa) (hb:Zh qb) (h1:∀t∈qa,Zb qb t.id=some t) (h2:∀x,Zb qb x≠none→x∈qa.map (·.id)):qb=qa:=by
 unfold Zh at ha hb;refine ZbR (r:=fun a b:HTx=>a.id<b.id) (fun a=>by simp) (fun a b c=>Int.lt_trans) (List.pairwise_map.1 hb) (List.pairwise_map.1 ha) fun x=> ?_
 constructor
 ·intro hx;have h3:=(ZT hb x.id x).2 ⟨hx,rfl⟩;obtain⟨t,ht,e⟩:=List.mem_map.1 (h2 x.id (by rw[h3];simp));have h4:=h1 t ht;rw[e,h3]at h4
  cases h4
  exact ht
 ·intro hx;exact((ZT hb _ _).1 (h1 x hx)).1
theorem Inv4.done {qa qb:List HTx} {L:List Int} {k:Nat} (h:Inv4 qa qb L k) (ha:Zh qa) (hb:Zh qb) (hk:L.length≤k):qb=qa:=by
 obtain⟨h1,h2,h3⟩:=h;rw[List.drop_eq_nil_of_le hk]at h3;refine ZgB ha hb h1 fun x hx=> ?_
 rcases h3 x hx with e|e
 ·exact e
 ·cases e
end
end Go.Proofs.Ytblplapkdmhikaa
