/- An index: what the change of one entry comes to. -/
import Derived.Test.YtblplapkdmhikaaDxbn
namespace Go.Proofs.Ytblplapkdmhikaa
set_option linter.unusedVariables false
set_option linter.unusedSimpArgs false
section
open Go.RowKit
section
variable {w:World} {col:Nat→Nat} {g bT bW bR bU bS:Nat} {wt:Int} {eT:Int→Option HTx} {fW:Int→List Int} {fR:Ver→List Int} {nU nS:Int×Int→Nat}
theorem IXm.wlook (h:IXm w col g bT bW bR bU bS wt eT fW fR nU nS) (key:Int):∃mW A c,MapE w bW (fun n:Int=>Value.int .i64 n) mW∧Z0 mW key= .slice A (fW key).length c∧ZbD w A c (fW key)∧(∀i,Own (.slice A (fW key).length c) i→col i=7)∧
  ∀w1 w2 A' c' l',ZbD w1 A' c' l'→Upd (Own (.slice A (fW key).length c)) w w1→ZbE w (.slice A (fW key).length c) (.slice A' l'.length c')→MapE w2 bW (fun n:Int=>Value.int .i64 n) (Zu mW key (.slice A' l'.length c'))→Upd (One bW) w1 w2→
   IXm w2 (colN w w1 col 7) g bT bW bR bU bS wt eT (fun k=>if k=key then l' else fW k) fR nU nS:=by
 obtain⟨mW,h1⟩:=h.wr;obtain⟨A,c,hA,hO⟩:=h1.row key;have h7:∀i,Own (.slice A (fW key).length c) i→col i=7:=fun i hi=>h1.blk key i (by rw[hA];exact hi)
 refine⟨mW,A,c,h1.is,hA,hO,h7,fun w1 w2 A' c' l' hO1 hu1 hg hm2 hu2=> ?_⟩;have hu:Upd (fun i=>col i=3∨col i=7) w w2:=(hu1.mono (fun i _ e=> .inr (h7 i e))).trans (hu2.mono (fun i _ e=> .inl (by rw[e];exact h.cW)));have hbl:bW<w.heap.size:=h.lt bW (by rw[h.cW];decide);have hM:=MSl.put (G':=fun i=>colN w w1 col 7 i=7) h1 hA hO1 hu1 hg hm2 hu2 (by rw[h.cW];decide) hbl (fun i hi=>by rw[Ext.colN w w1 col 7 i (h.lt i (by rw[hi];decide))];exact hi) (fun i h1 h2=>ZbC i h1 h2)
 exact h.turn hu (Ext.colN _ _ _ _) (fun i hi=>Nat.lt_of_lt_of_le (ZbZ hu1.size i hi) hu2.size) (.inl ⟨by rw[h.cg];decide,rfl⟩) (.inl ⟨fun i hi e=>by omega,rfl⟩) (.inr ⟨_,hM⟩) (.inl ⟨fun i hi e=>by omega,rfl⟩)
  (.inl ⟨by rw[h.cU];decide,rfl⟩) (.inl ⟨by rw[h.cS];decide,rfl⟩)
theorem IXm.rlook (h:IXm w col g bT bW bR bU bS wt eT fW fR nU nS) (key:Ver):∃mR A c,MapE w bR ZL mR∧Z0 mR key= .slice A (fR key).length c∧ZbD w A c (fR key)∧(∀i,Own (.slice A (fR key).length c) i→col i=8)∧
  ∀w1 w2 A' c' l',ZbD w1 A' c' l'→Upd (Own (.slice A (fR key).length c)) w w1→ZbE w (.slice A (fR key).length c) (.slice A' l'.length c')→MapE w2 bR ZL (Zu mR key (.slice A' l'.length c'))→Upd (One bR) w1 w2→
   (l'≠[]→IXm w2 (colN w w1 col 8) g bT bW bR bU bS wt eT fW (fun k=>if k=key then l' else fR k) nU nS)∧
   (l'=[]→∀w3,MapE w3 bR ZL (Z3 (Zu mR key (.slice A' l'.length c')) key)→Upd (One bR) w2 w3→IXm w3 (colN w w1 col 8) g bT bW bR bU bS wt eT fW (fun k=>if k=key then [] else fR k) nU nS):=by
 obtain⟨mR,h1,hk⟩:=h.rd;obtain⟨A,c,hA,hO⟩:=h1.row key;have h7:∀i,Own (.slice A (fR key).length c) i→col i=8:=fun i hi=>h1.blk key i (by rw[hA];exact hi)
 refine⟨mR,A,c,h1.is,hA,hO,h7,fun w1 w2 A' c' l' hO1 hu1 hg hm2 hu2=> ?_⟩;have hu:Upd (fun i=>col i=4∨col i=8) w w2:=(hu1.mono (fun i _ e=> .inr (h7 i e))).trans (hu2.mono (fun i _ e=> .inl (by rw[e];exact h.cR)));have hbl:bR<w.heap.size:=h.lt bR (by rw[h.cR];decide);have hM:=MSl.put (G':=fun i=>colN w w1 col 8 i=8) h1 hA hO1 hu1 hg hm2 hu2 (by rw[h.cR];decide) hbl (fun i hi=>by rw[Ext.colN w w1 col 8 i (h.lt i (by rw[hi];decide))];exact hi) (fun i h1 h2=>ZbC i h1 h2)
 have hkeys:∀v,v∈(Zu mR key (.slice A' l'.length c')).map (·.1)↔v=key∨fR v≠[]:=fun v=>by
  rw[ZeN]
  split
  ·rename_i h0
   rw[hk]
   constructor
   ·exact .inr
   ·rintro(rfl|h3)
    ·exact(hk _).1 h0
    ·exact h3
  ·rw[List.mem_append,List.mem_singleton,hk];exact Or.comm
 constructor
 ·intro hne
  refine h.turn hu (Ext.colN _ _ _ _) (fun i hi=>Nat.lt_of_lt_of_le (ZbZ hu1.size i hi) hu2.size) (.inl ⟨by rw[h.cg];decide,rfl⟩) (.inl ⟨fun i hi e=>by omega,rfl⟩) (.inl ⟨fun i hi e=>by omega,rfl⟩) (.inr ⟨_,hM,fun v=> ?_⟩)
   (.inl ⟨by rw[h.cU];decide,rfl⟩) (.inl ⟨by rw[h.cS];decide,rfl⟩)
  rw[hkeys]
  by_cases e:v=key
  ·simp[e,hne]
  ·simp[e]
 ·rintro rfl w3 hm3 hu3;have hu':Upd (fun i=>col i=4∨col i=8) w w3:=hu.trans_ (T:=One bR) hu3 (fun i _ e=> .inl (by rw[e];exact h.cR));have hD:=(MSl.del (key:=key) hM hm3 hu3 (by rw[Ext.colN w w1 col 8 bR hbl,h.cR];decide)).congr (g:=fun k=>if k=key then [] else fR k) (fun k=>by by_cases e:k=key<;>simp[e])
  refine h.turn hu' (Ext.colN _ _ _ _) (fun i hi=>Nat.lt_of_lt_of_le (ZbZ hu1.size i hi) (Nat.le_trans hu2.size hu3.size)) (.inl ⟨by rw[h.cg];decide,rfl⟩) (.inl ⟨fun i hi e=>by omega,rfl⟩) (.inl ⟨fun i hi e=>by omega,rfl⟩) (.inr ⟨_,hD,fun v=> ?_⟩)
   (.inl ⟨by rw[h.cU];decide,rfl⟩) (.inl ⟨by rw[h.cS];decide,rfl⟩)
  have hnd:=hM.nd
  have hget:v∈(Z3 (Zu mR key (.slice A' ([]:List Int).length c')) key).map (·.1)↔v≠key∧v∈(Zu mR key (.slice A' ([]:List Int).length c')).map (·.1):=by
   have h3:=Za8 hnd key v;have h4:=Za6 (Z3 (Zu mR key (.slice A' ([]:List Int).length c')) key) v;have h5:=Za6 (Zu mR key (.slice A' ([]:List Int).length c')) v;rw[h3]at h4
   by_cases e:v=key
   ·rw[if_pos e]at h4
    constructor
    ·intro hm;exact absurd hm (h4.1 rfl)
    ·intro hm;exact absurd e hm.1
   ·rw[if_neg e,h5]at h4
    constructor
    ·intro hm;refine⟨e,Classical.byContradiction fun hh=> ?_⟩;exact(h4.1 hh) hm
    ·intro hm;exact Classical.byContradiction fun hh=>(h4.2 hh) hm.2
  rw[hget,hkeys]
  by_cases e:v=key
  ·simp[e]
  ·simp[e]
theorem IXm.ulook (h:IXm w col g bT bW bR bU bS wt eT fW fR nU nS):∃mU,MapE w bU ZQ mU∧CntM mU nU∧∀w2 m2 n2,MapE w2 bU ZQ m2→CntM m2 n2→Upd (One bU) w w2→IXm w2 col g bT bW bR bU bS wt eT fW fR n2 nS:=by
 obtain⟨mU,h1,h2⟩:=h.us;refine⟨mU,h1,h2,fun w2 m2 n2 k1 k2 hu=> ?_⟩;have hu':Upd (fun i=>col i=5) w w2:=hu.mono (fun i _ e=>by rw[e];exact h.cU);exact h.turn hu' (Ext.refl _ _) (fun i hi=>Nat.lt_of_lt_of_le (h.lt i hi) hu.size) (.inl ⟨by rw[h.cg];decide,rfl⟩) (.inl ⟨fun i hi e=>by omega,rfl⟩) (.inl ⟨fun i hi e=>by omega,rfl⟩) (.inl ⟨fun i hi e=>by omega,rfl⟩) (.inr ⟨m2,k1,k2⟩) (.inl ⟨by rw[h.cS];decide,rfl⟩)
theorem IXm.slook (h:IXm w col g bT bW bR bU bS wt eT fW fR nU nS):∃mS,MapE w bS ZQ mS∧CntM mS nS∧∀w2 m2 n2,MapE w2 bS ZQ m2→CntM m2 n2→Upd (One bS) w w2→IXm w2 col g bT bW bR bU bS wt eT fW fR nU n2:=by
 obtain⟨mS,h1,h2⟩:=h.ws;refine⟨mS,h1,h2,fun w2 m2 n2 k1 k2 hu=> ?_⟩;have hu':Upd (fun i=>col i=6) w w2:=hu.mono (fun i _ e=>by rw[e];exact h.cS);exact h.turn hu' (Ext.refl _ _) (fun i hi=>Nat.lt_of_lt_of_le (h.lt i hi) hu.size) (.inl ⟨by rw[h.cg];decide,rfl⟩) (.inl ⟨fun i hi e=>by omega,rfl⟩) (.inl ⟨fun i hi e=>by omega,rfl⟩) (.inl ⟨fun i hi e=>by omega,rfl⟩) (.inl ⟨by rw[h.cU];decide,rfl⟩) (.inr ⟨m2,k1,k2⟩)
theorem IXm.weigh (h:IXm w col g bT bW bR bU bS wt eT fW fR nU nS) (v:Int) {w2:World} (hb:Blk w2 g 99 [.map (some bT),.map (some bW),.map (some bR),.map (some bU),.map (some bS),.int .i64 v]) (hu:Upd (One g) w w2):IXm w2 col g bT bW bR bU bS v eT fW fR nU nS:=by
 have hu':Upd (fun i=>col i=1) w w2:=hu.mono (fun i _ e=>by rw[e];exact h.cg);exact h.turn hu' (Ext.refl _ _) (fun i hi=>Nat.lt_of_lt_of_le (h.lt i hi) hu.size) (.inr hb) (.inl ⟨fun i hi e=>by omega,rfl⟩) (.inl ⟨fun i hi e=>by omega,rfl⟩) (.inl ⟨fun i hi e=>by omega,rfl⟩) (.inl ⟨by rw[h.cU];decide,rfl⟩) (.inl ⟨by rw[h.cS];decide,rfl⟩)
theorem IXm.tdel (h:IXm w col g bT bW bR bU bS wt eT fW fR nU nS) (id:Int):∃mT,MapE w bT (fun n:Int=>Value.int .i64 n) mT∧∀w2,MapE w2 bT (fun n:Int=>Value.int .i64 n) (Z3 mT id)→Upd (One bT) w w2→
  IXm w2 col g bT bW bR bU bS wt (fun k=>if k=id then none else eT k) fW fR nU nS:=by
 obtain⟨mT,h1,h2,h3⟩:=h.tx;refine⟨mT,h1,fun w2 k1 hu=> ?_⟩;have hu':Upd (fun i=>col i=2) w w2:=hu.mono (fun i _ e=>by rw[e];exact h.cT);refine h.turn hu' (Ext.refl _ _) (fun i hi=>Nat.lt_of_lt_of_le (h.lt i hi) hu.size) (.inl ⟨by rw[h.cg];decide,rfl⟩) (.inr ⟨_,k1,ZcA h2 id,fun k=> ?_⟩) (.inl ⟨fun i hi e=>by omega,rfl⟩) (.inl ⟨fun i hi e=>by omega,rfl⟩) (.inl ⟨by rw[h.cU];decide,rfl⟩) (.inl ⟨by rw[h.cS];decide,rfl⟩);rw[Za8 h2]
 by_cases e:k=id
 ·simp only[if_pos e];rfl
 ·simp only[if_neg e];exact(h3 k).upd hu' (fun i hi e=>by omega) (fun _ e=>e)
theorem IXm.tput (h:IXm w col g bT bW bR bU bS wt eT fW fR nU nS) (t:HTx):∃mT,MapE w bT (fun n:Int=>Value.int .i64 n) mT∧∀A c w2 col' (S:Nat→Prop),(∀i,S i→col i=2∨col i=0)→Upd S w w2→HOps (fun i=>col' i=9) w2 A t.ops→t.ops.length≤c→Ext w col col'→(∀i,col' i≠0→i<w2.heap.size)→
  MapE w2 bT (fun n:Int=>Value.int .i64 n) (Zu mT t.id (.agg #[.int .i64 t.id,.bool t.done,.slice A t.ops.length c]))→
  IXm w2 col' g bT bW bR bU bS wt (fun k=>if k=t.id then some t else eT k) fW fR nU nS:=by
 obtain⟨mT,h1,h2,h3⟩:=h.tx;refine⟨mT,h1,fun A c w2 col' S hS hu hA hc hx hl k1=> ?_⟩;have hn:∀{i c:Nat},col i=c→c≠2→c≠0→¬S i:=fun hi h4 h5 e=>by have:=hS _ e;omega
 refine h.turn hu hx hl (.inl ⟨hn h.cg (by decide) (by decide),rfl⟩) (.inr ⟨_,k1,Zcx h2 _ _,fun k=> ?_⟩) (.inl ⟨fun i hi e=>by have:=hS i e;omega,rfl⟩) (.inl ⟨fun i hi e=>by have:=hS i e;omega,rfl⟩) (.inl ⟨hn h.cU (by decide) (by decide),rfl⟩) (.inl ⟨hn h.cS (by decide) (by decide),rfl⟩);rw[Za7]
 by_cases e:k=t.id
 ·simp only[if_pos e];exact⟨A,c,rfl,hc,hA⟩
 ·simp only[if_neg e];exact(h3 k).upd hu (fun i hi e=>by have:=hS i e;omega) (h.sl hx (by decide))
end
end
end Go.Proofs.Ytblplapkdmhikaa
